/- Plain functions, and that the Go code computes them: written by a program of this session over the seat's translation; the conditions stand in each theorem. -/
import Derived.Test.YteidbkbhigbfoaaQFnFrmAddx0
import Derived.Test.YteidbkbhigbfoaaQFnFrmAddx4
import Derived.Test.YteidbkbhigbfoaaQFnFrmAddx5
import Derived.Test.YteidbkbhigbfoaaQFnFrmAddx6
import Derived.Test.YteidbkbhigbfoaaQFnFrmAddx8
namespace Go.Proofs.Yteidbkbhigbfoaa.QFnFrmAdd
open Go.RowKit Go.Proofs.YteidbkbhigbfoaaW.PrintWords Go.Proofs.YteidbkbhigbfoaaW.PrintLast Go.Proofs.YteidbkbhigbfoaaW.PrintMore Go.Proofs.Yteidbkbhigbfoaa.HWords
attribute [local go_sem] max2_int min2_int max_two min_two max_three min_three max_four min_four   -- for this text's walks alone
set_option linter.unusedVariables false
set_option linter.unusedSimpArgs false

/-! ### laws_FnFrmAdd: function 4 -/
mutual
def laws_FnFrmAdd.j0 : Nat → List Int → List Int → Bool → Option (Bool)
  | 0, _, _, _ => none
  | k + 1, x0, x1, x26 => if x26 = true then (some true) else ((spec_DrawFrmAdd.f k x0).bind fun bt390 => ((spec_DrawFrmAt.f k x1).bind fun bt406 => ((impl_FrmAdd.f bt390.1 bt390.2.1 bt390.2.2.1 bt390.2.2.2.1 bt390.2.2.2.2.1 bt390.2.2.2.2.2).bind fun bt420 => ((spec_FrmAdd.f k bt390.1 bt390.2.1 bt390.2.2.1 bt390.2.2.2.1 bt390.2.2.2.2.1 bt390.2.2.2.2.2).bind fun bt428 => ((laws_coForm.f k bt420.1 bt420.2.1 bt420.2.2 bt428.1 bt428.2.1 bt428.2.2).bind fun t435 => (if t435 = true then ((impl_FrmAdd.f bt390.2.2.2.1 bt390.2.2.2.2.1 bt390.2.2.2.2.2 bt390.1 bt390.2.1 bt390.2.2.1).bind fun bt436 => ((laws_coForm.f k bt420.1 bt420.2.1 bt420.2.2 bt436.1 bt436.2.1 bt436.2.2).bind fun t443 => (laws_FnFrmAdd.j1 k bt406.2.2.2.1 bt406.2.2.2.2 (!t443) bt390.1 bt390.2.1 bt390.2.2.1 bt390.2.2.2.1 bt390.2.2.2.2.1 bt390.2.2.2.2.2 bt420.1 bt420.2.1 bt420.2.2))) else (laws_FnFrmAdd.j1 k bt406.2.2.2.1 bt406.2.2.2.2 true bt390.1 bt390.2.1 bt390.2.2.1 bt390.2.2.2.1 bt390.2.2.2.2.1 bt390.2.2.2.2.2 bt420.1 bt420.2.1 bt420.2.2)))))))
def laws_FnFrmAdd.j1 : Nat → List Int → List Int → Bool → List Int → List Int → Int → List Int → List Int → Int → List Int → List Int → Int → Option (Bool)
  | 0, _, _, _, _, _, _, _, _, _, _, _, _ => none
  | k + 1, x8, x9, x54, x405000, x405001, x405002, x406000, x406001, x406002, x428000, x428001, x428002 => if x54 = true then (some false) else ((impl_FrmAt.f k x428000 x428001 x428002 x8 x9).bind fun bt444 => ((impl_FrmAt.f k x405000 x405001 x405002 x8 x9).bind fun bt446 => ((impl_FrmAt.f k x406000 x406001 x406002 x8 x9).bind fun bt448 => ((spec_FrmAt.f k x428000 x428001 x428002 x8 x9).bind fun bt450 => (if bt444.1 = bt450.1 then (if (bt444.2 == bt450.2) = true then (if bt444.2 = true then (if bt446.2 = true then (if bt448.2 = true then (if bt444.1 = (wrap64 (bt446.1 + bt448.1)) then ((impl_FrmZero.f).bind fun bt452 => ((impl_FrmPot.f 1).bind fun bt459 => ((impl_FrmAdd.f bt452.1 bt452.2.1 bt452.2.2 bt459.1 bt459.2.1 bt459.2.2).bind fun bt466 => ((impl_FrmPot.f 1).bind fun bt473 => ((laws_coForm.f k bt466.1 bt466.2.1 bt466.2.2 bt473.1 bt473.2.1 bt473.2.2).bind fun t480 => (if t480 = true then ((laws_coHolds.f).bind fun t481 => (some t481)) else (some false))))))) else (some false)) else (some false)) else (some false)) else ((impl_FrmZero.f).bind fun bt482 => ((impl_FrmPot.f 1).bind fun bt489 => ((impl_FrmAdd.f bt482.1 bt482.2.1 bt482.2.2 bt489.1 bt489.2.1 bt489.2.2).bind fun bt496 => ((impl_FrmPot.f 1).bind fun bt503 => ((laws_coForm.f k bt496.1 bt496.2.1 bt496.2.2 bt503.1 bt503.2.1 bt503.2.2).bind fun t510 => (if t510 = true then ((laws_coHolds.f).bind fun t511 => (some t511)) else (some false)))))))) else (some false)) else (some false))))))
end
def laws_FnFrmAdd.f (k : Nat) (l0 : List Int) (l1 : List Int) : Option (Bool) := if (l0.length : Int) > 1048576 then (laws_FnFrmAdd.j0 k l0 l1 true) else (laws_FnFrmAdd.j0 k l0 l1 (decide ((l1.length : Int) > 1048576)))
theorem laws_FnFrmAdd.mono_l : ∀ k, (∀ y0 y1 y2, LeO (laws_FnFrmAdd.j0 k y0 y1 y2) (laws_FnFrmAdd.j0 (k + 1) y0 y1 y2)) ∧ (∀ y0 y1 y2 y3 y4 y5 y6 y7 y8 y9 y10 y11, LeO (laws_FnFrmAdd.j1 k y0 y1 y2 y3 y4 y5 y6 y7 y8 y9 y10 y11) (laws_FnFrmAdd.j1 (k + 1) y0 y1 y2 y3 y4 y5 y6 y7 y8 y9 y10 y11))
  | 0 => ⟨fun _ _ _ r h => by simp [laws_FnFrmAdd.j0] at h, fun _ _ _ _ _ _ _ _ _ _ _ _ r h => by simp [laws_FnFrmAdd.j1] at h⟩
  | k + 1 => by
    obtain ⟨ih0, ih1⟩ := laws_FnFrmAdd.mono_l k
    refine ⟨?_, ?_⟩
    · intro y0 y1 y2
      unfold laws_FnFrmAdd.j0
      repeat' first
      | (with_reducible exact ih0 _ _ _)
      | (with_reducible exact ih1 _ _ _ _ _ _ _ _ _ _ _ _)
      | (with_reducible exact impl_FrmAt.mono _ _ _ _ _ _)
      | (with_reducible exact laws_coForm.mono _ _ _ _ _ _ _)
      | (with_reducible exact spec_DrawFrmAdd.mono _ _)
      | (with_reducible exact spec_DrawFrmAt.mono _ _)
      | (with_reducible exact spec_FrmAdd.mono _ _ _ _ _ _ _)
      | (with_reducible exact spec_FrmAt.mono _ _ _ _ _ _)
      | (with_reducible exact LeO.refl _)
      | (with_reducible exact LeO.none _)
      | (with_reducible refine LeO.ite ?_ ?_)
      | (with_reducible refine LeO.bind ?_ (fun _ => ?_))
      | exact ih0 _ _ _
      | exact ih1 _ _ _ _ _ _ _ _ _ _ _ _
      | exact impl_FrmAt.mono _ _ _ _ _ _
      | exact laws_coForm.mono _ _ _ _ _ _ _
      | exact spec_DrawFrmAdd.mono _ _
      | exact spec_DrawFrmAt.mono _ _
      | exact spec_FrmAdd.mono _ _ _ _ _ _ _
      | exact spec_FrmAt.mono _ _ _ _ _ _
      | exact LeO.none _
      | refine LeO.ite ?_ ?_
      | refine LeO.bind ?_ (fun _ => ?_)
    · intro y0 y1 y2 y3 y4 y5 y6 y7 y8 y9 y10 y11
      unfold laws_FnFrmAdd.j1
      repeat' first
      | (with_reducible exact ih0 _ _ _)
      | (with_reducible exact ih1 _ _ _ _ _ _ _ _ _ _ _ _)
      | (with_reducible exact impl_FrmAt.mono _ _ _ _ _ _)
      | (with_reducible exact laws_coForm.mono _ _ _ _ _ _ _)
      | (with_reducible exact spec_DrawFrmAdd.mono _ _)
      | (with_reducible exact spec_DrawFrmAt.mono _ _)
      | (with_reducible exact spec_FrmAdd.mono _ _ _ _ _ _ _)
      | (with_reducible exact spec_FrmAt.mono _ _ _ _ _ _)
      | (with_reducible exact LeO.refl _)
      | (with_reducible exact LeO.none _)
      | (with_reducible refine LeO.ite ?_ ?_)
      | (with_reducible refine LeO.bind ?_ (fun _ => ?_))
      | exact ih0 _ _ _
      | exact ih1 _ _ _ _ _ _ _ _ _ _ _ _
      | exact impl_FrmAt.mono _ _ _ _ _ _
      | exact laws_coForm.mono _ _ _ _ _ _ _
      | exact spec_DrawFrmAdd.mono _ _
      | exact spec_DrawFrmAt.mono _ _
      | exact spec_FrmAdd.mono _ _ _ _ _ _ _
      | exact spec_FrmAt.mono _ _ _ _ _ _
      | exact LeO.none _
      | refine LeO.ite ?_ ?_
      | refine LeO.bind ?_ (fun _ => ?_)
theorem laws_FnFrmAdd.mono : ∀ a0 a1 k, LeO (laws_FnFrmAdd.f k a0 a1) (laws_FnFrmAdd.f (k + 1) a0 a1) := by
  intro a0 a1 k
  obtain ⟨ih0, ih1⟩ := laws_FnFrmAdd.mono_l k
  unfold laws_FnFrmAdd.f
  repeat' first
      | (with_reducible exact ih0 _ _ _)
      | (with_reducible exact ih1 _ _ _ _ _ _ _ _ _ _ _ _)
      | (with_reducible exact impl_FrmAt.mono _ _ _ _ _ _)
      | (with_reducible exact laws_coForm.mono _ _ _ _ _ _ _)
      | (with_reducible exact spec_DrawFrmAdd.mono _ _)
      | (with_reducible exact spec_DrawFrmAt.mono _ _)
      | (with_reducible exact spec_FrmAdd.mono _ _ _ _ _ _ _)
      | (with_reducible exact spec_FrmAt.mono _ _ _ _ _ _)
      | (with_reducible exact LeO.refl _)
      | (with_reducible exact LeO.none _)
      | (with_reducible refine LeO.ite ?_ ?_)
      | (with_reducible refine LeO.bind ?_ (fun _ => ?_))
      | exact ih0 _ _ _
      | exact ih1 _ _ _ _ _ _ _ _ _ _ _ _
      | exact impl_FrmAt.mono _ _ _ _ _ _
      | exact laws_coForm.mono _ _ _ _ _ _ _
      | exact spec_DrawFrmAdd.mono _ _
      | exact spec_DrawFrmAt.mono _ _
      | exact spec_FrmAdd.mono _ _ _ _ _ _ _
      | exact spec_FrmAt.mono _ _ _ _ _ _
      | exact LeO.none _
      | refine LeO.ite ?_ ?_
      | refine LeO.bind ?_ (fun _ => ?_)
def laws_FnFrmAdd.T6 : Bool × List (List Nat × List Nat) := (true, [([], []), ([], []), ([], []), ([1, 2], [1, 2]), ([0, 3, 3], [0, 3]), ([4], [4]), ([5, 4], [5]), ([6], [6]), ([6], [6]), ([6], [6]), ([8, 9, 6, 6], [6, 8, 9]), ([7, 10, 10, 6], [6, 7, 10]), ([11, 6], [6, 11]), ([6, 12], [6, 12])])
def laws_FnFrmAdd.B6 : List Nat := [0, 0, 0, 6, 15, 31, 63, 127, 127, 127, 895, 2047, 4095, 8191]
theorem laws_FnFrmAdd.tab6 : rtab .any (opsOf Try.f4 6) = laws_FnFrmAdd.T6 := by kernel_rfl
theorem laws_FnFrmAdd.bits6 : waitsOk laws_FnFrmAdd.T6.2 laws_FnFrmAdd.B6 = true := by kernel_rfl
set_option maxHeartbeats 8000000 in
set_option maxRecDepth 100000 in
theorem laws_FnFrmAdd.calls (k : Nat) (A0 : Option Addr) (c0 : Nat) (l0 : List Int) (A1 : Option Addr) (c1 : Nat) (l1 : List Int) (r : Bool) (w : World) (hr : Aside0 (r = true)) (hr0 : Kd.C (Kd.int .u8) w A0 l0.length l0) (hc0 : l0.length ≤ c0) (hr1 : Kd.C (Kd.int .u8) w A1 l1.length l1) (hc1 : l1.length ≤ c1) (h : laws_FnFrmAdd.f k l0 l1 = some r) :
    Calls Try.prog 4 #[.slice A0 l0.length c0, .slice A1 l1.length c1] w fun e w' => e = .returned (.bool r) ∧ Below w.heap.size w w' := by
  have hu25 := Try.underlying25
  have HR0 := Aside0.mk hr0
  have HC0 := Aside0.mk hc0
  clear hr0 hc0
  have HR1 := Aside0.mk hr1
  have HC1 := Aside0.mk hc1
  clear hr1 hc1
  have HB := Aside0.mk (Below.refl w.heap.size w)
  have H : (if (l0.length : Int) > 1048576 then (laws_FnFrmAdd.j0 k l0 l1 true) else (laws_FnFrmAdd.j0 k l0 l1 (decide ((l1.length : Int) > 1048576)))) = some r := h
  clear h
  have HC3 := Aside0.mk H
  clear H
  go_enter Try.func4, Try.ntmps4
  go_upto_region 1 with (fail)
  go_cut [26] (fun v26 wc => ∃ (kq : Nat) (x26_2 : Bool), v26 = .bool x26_2 ∧ Aside0 (laws_FnFrmAdd.j0 kq l0 l1 x26_2 = some r) ∧ Aside0 (kq ≤ k) ∧ Aside0 (Below w.heap.size w wc))
  case first =>
    have H := HC3.out
    clear HC3
    by_cases c4 : (l0.length : Int) > 1048576
    · rw [if_pos c4] at H
      have c4b0 : decide (1048576 < (l0.length : Int)) = true := decide_eq_true c4
      have c4b1 : decide (1048576 < l0.length) = true := decide_eq_true (by omega)
      clear c4
      (first | rw [c4b0] | (simp only [i64_w, i32_w]; rw [c4b0]) | skip)
      have H' := Aside0.mk H
      clear H
      go_wp2
      go_meet
      case rel => exact ⟨_, (true), (by first | rfl | (simp; done) | (simp [*]; done)), H', ⟨by first | omega | exact Nat.le_refl _⟩, ⟨by exact lB HB.out⟩⟩
    · rw [if_neg c4] at H
      have c4b0 : decide (1048576 < (l0.length : Int)) = false := decide_eq_false c4
      have c4b1 : decide (1048576 < l0.length) = false := decide_eq_false (by omega)
      clear c4
      (first | rw [c4b0] | (simp only [i64_w, i32_w]; rw [c4b0]) | skip)
      have H' := Aside0.mk H
      clear H
      go_wp2
      go_meet
      case rel => exact ⟨_, (decide ((l1.length : Int) > 1048576)), (by first | rfl | (simp; done) | (simp [*]; done)), H', ⟨by first | omega | exact Nat.le_refl _⟩, ⟨by exact lB HB.out⟩⟩
  case rest =>
    clear HC3
    try clear c1
    try clear p2
    try clear c4
    try clear c4b0
    try clear c4b1
    obtain ⟨kq, x26_2, rfl, HA, HJ2, HB⟩ := hcut
    cases kq with
    | zero => exact absurd HA.out (by simp [laws_FnFrmAdd.j0])
    | succ kj2 =>
      have H := HA.out
      clear HA
      simp only [laws_FnFrmAdd.j0] at H
      by_cases c5 : x26_2 = true
      · subst c5
        have H1 : (some true) = some r := by rw [if_pos rfl] at H; exact H
        clear H
        have H := H1
        clear H1
        obtain rfl := Option.some.inj H
        go_wp2
        go_ret
        exact ⟨by first | rfl | (simp [errW_none, errW_some] <;> rfl) | (simp [*, errW_none, errW_some] <;> rfl), by exact lB HB.out⟩
      · replace c5 := Bool.eq_false_iff.mpr c5
        subst c5
        have H1 : ((spec_DrawFrmAdd.f kj2 l0).bind fun bt390 => ((spec_DrawFrmAt.f kj2 l1).bind fun bt406 => ((impl_FrmAdd.f bt390.1 bt390.2.1 bt390.2.2.1 bt390.2.2.2.1 bt390.2.2.2.2.1 bt390.2.2.2.2.2).bind fun bt420 => ((spec_FrmAdd.f kj2 bt390.1 bt390.2.1 bt390.2.2.1 bt390.2.2.2.1 bt390.2.2.2.2.1 bt390.2.2.2.2.2).bind fun bt428 => ((laws_coForm.f kj2 bt420.1 bt420.2.1 bt420.2.2 bt428.1 bt428.2.1 bt428.2.2).bind fun t435 => (if t435 = true then ((impl_FrmAdd.f bt390.2.2.2.1 bt390.2.2.2.2.1 bt390.2.2.2.2.2 bt390.1 bt390.2.1 bt390.2.2.1).bind fun bt436 => ((laws_coForm.f kj2 bt420.1 bt420.2.1 bt420.2.2 bt436.1 bt436.2.1 bt436.2.2).bind fun t443 => (laws_FnFrmAdd.j1 kj2 bt406.2.2.2.1 bt406.2.2.2.2 (!t443) bt390.1 bt390.2.1 bt390.2.2.1 bt390.2.2.2.1 bt390.2.2.2.2.1 bt390.2.2.2.2.2 bt420.1 bt420.2.1 bt420.2.2))) else (laws_FnFrmAdd.j1 kj2 bt406.2.2.2.1 bt406.2.2.2.2 true bt390.1 bt390.2.1 bt390.2.2.1 bt390.2.2.2.1 bt390.2.2.2.2.1 bt390.2.2.2.2.2 bt420.1 bt420.2.1 bt420.2.2))))))) = some r := by rw [if_neg (show ¬ (false = true) by decide)] at H; exact H
        clear H
        have H := H1
        clear H1
        replace H := Option.bind_eq_some_iff.mp H
        obtain ⟨⟨t390, t393, t396, t397, t400, t403⟩, A60, H⟩ := H
        replace H : ((spec_DrawFrmAt.f kj2 l1).bind fun bt406 => ((impl_FrmAdd.f t390 t393 t396 t397 t400 t403).bind fun bt420 => ((spec_FrmAdd.f kj2 t390 t393 t396 t397 t400 t403).bind fun bt428 => ((laws_coForm.f kj2 bt420.1 bt420.2.1 bt420.2.2 bt428.1 bt428.2.1 bt428.2.2).bind fun t435 => (if t435 = true then ((impl_FrmAdd.f t397 t400 t403 t390 t393 t396).bind fun bt436 => ((laws_coForm.f kj2 bt420.1 bt420.2.1 bt420.2.2 bt436.1 bt436.2.1 bt436.2.2).bind fun t443 => (laws_FnFrmAdd.j1 kj2 bt406.2.2.2.1 bt406.2.2.2.2 (!t443) t390 t393 t396 t397 t400 t403 bt420.1 bt420.2.1 bt420.2.2))) else (laws_FnFrmAdd.j1 kj2 bt406.2.2.2.1 bt406.2.2.2.2 true t390 t393 t396 t397 t400 t403 bt420.1 bt420.2.1 bt420.2.2)))))) = some r := H
        have A6 := Aside0.mk A60
        clear A60
        replace H := Option.bind_eq_some_iff.mp H
        obtain ⟨⟨t406, t409, t412, t413, t416⟩, A70, H⟩ := H
        replace H : ((impl_FrmAdd.f t390 t393 t396 t397 t400 t403).bind fun bt420 => ((spec_FrmAdd.f kj2 t390 t393 t396 t397 t400 t403).bind fun bt428 => ((laws_coForm.f kj2 bt420.1 bt420.2.1 bt420.2.2 bt428.1 bt428.2.1 bt428.2.2).bind fun t435 => (if t435 = true then ((impl_FrmAdd.f t397 t400 t403 t390 t393 t396).bind fun bt436 => ((laws_coForm.f kj2 bt420.1 bt420.2.1 bt420.2.2 bt436.1 bt436.2.1 bt436.2.2).bind fun t443 => (laws_FnFrmAdd.j1 kj2 t413 t416 (!t443) t390 t393 t396 t397 t400 t403 bt420.1 bt420.2.1 bt420.2.2))) else (laws_FnFrmAdd.j1 kj2 t413 t416 true t390 t393 t396 t397 t400 t403 bt420.1 bt420.2.1 bt420.2.2))))) = some r := H
        have A7 := Aside0.mk A70
        clear A70
        replace H := Option.bind_eq_some_iff.mp H
        obtain ⟨⟨t420, t423, t426⟩, A80, H⟩ := H
        replace H : ((spec_FrmAdd.f kj2 t390 t393 t396 t397 t400 t403).bind fun bt428 => ((laws_coForm.f kj2 t420 t423 t426 bt428.1 bt428.2.1 bt428.2.2).bind fun t435 => (if t435 = true then ((impl_FrmAdd.f t397 t400 t403 t390 t393 t396).bind fun bt436 => ((laws_coForm.f kj2 t420 t423 t426 bt436.1 bt436.2.1 bt436.2.2).bind fun t443 => (laws_FnFrmAdd.j1 kj2 t413 t416 (!t443) t390 t393 t396 t397 t400 t403 t420 t423 t426))) else (laws_FnFrmAdd.j1 kj2 t413 t416 true t390 t393 t396 t397 t400 t403 t420 t423 t426)))) = some r := H
        have A8 := Aside0.mk A80
        clear A80
        have HC9 := Aside0.mk H
        clear H
        go_upto_region 6 with (first | ((with_reducible refine gate_callee (f := 20) rfl ?_); refine goesL_ (some 29) rfl rfl Try.func20 (by kernel_rfl) rfl #[.slice A0 l0.length c0] rfl (by (try simp only [List.map_toArray, List.map_cons, List.map_nil]); first | done | rfl | (simp only [List.length_drop, List.length_take]; rfl)) ?_; (with_reducible refine (spec_DrawFrmAdd.calls kj2 _ _ l0 t390 t393 t396 t397 t400 t403 _ ?side1 ?side2 A6.out).mono ?_); (case side1 => exact lC <| (Kd.C_below HR0.out HB.out)); (case side2 => exact HC0.out); rintro e w10 ⟨v391, v394, v398, v401, rfl, ho0, ho1, ho2, ho3, hb⟩; refine ⟨_, rfl, ?_⟩; have n0_ := Aside0.mk (Kd.R_lower ho0 (below_size (by exact lB HB.out))); have n1_ := Aside0.mk (Kd.R_lower ho1 (below_size (by exact lB HB.out))); have n2_ := Aside0.mk (Kd.R_lower ho2 (below_size (by exact lB HB.out))); have n3_ := Aside0.mk (Kd.R_lower ho3 (below_size (by exact lB HB.out))); have n4_ := Aside0.mk (below_step (by exact lB HB.out) hb); clear HB; have HO392 := n0_; have HO395 := n1_; have HO399 := n2_; have HO402 := n3_; have HB := n4_; clear n0_ n1_ n2_ n3_ n4_; (try clear hb); (try clear hb2); (try clear hk); (try clear hi); (try clear ho0); (try clear ho1); (try clear ho2); (try clear ho3)) | ((with_reducible refine gate_dst (N := 5) rfl ?_); (try (refine gate_guard (by rfl) ?_; dsimp only)); refine box_event ?hg (N := 5) ?hd (cs := #[.slice none 0 0, .slice none 0 0, .int .i64 0]) (t := 25) ?hr ?_; (case hd => rfl); (case hg => rfl); (case hr => first | (go_simp; done) | (go_simp; rfl)); intro gb404 hg w11 hbox hb; have n0_ := Aside0.mk (Kd.R_below (by exact lR <| HO392.out) hb); have n1_ := Aside0.mk (Kd.R_below (by exact lR <| HO395.out) hb); have n2_ := Aside0.mk (Kd.R_below (by exact lR <| HO399.out) hb); have n3_ := Aside0.mk (Kd.R_below (by exact lR <| HO402.out) hb); have n4_ := Aside0.mk (below_step (by exact lB HB.out) hb); have n5_ := Aside0.mk (hbox); have n6_ := Aside0.mk ((by rw [hg]; exact (below_size (by exact lB HB.out)) : w.heap.size ≤ gb404)); have n7_ := Aside0.mk ((by rw [hg]; exact (below_size (by exact lB HB.out)) : w.heap.size ≤ gb404)); clear HO392; clear HO395; clear HO399; clear HO402; clear HB; have HO392 := n0_; have HO395 := n1_; have HO399 := n2_; have HO402 := n3_; have HB := n4_; have BK404 := n5_; have GW404 := n6_; have GE404 := n7_; clear n0_ n1_ n2_ n3_ n4_ n5_ n6_ n7_; clear hb hbox hg) | ((with_reducible refine gate_dst (N := 6) rfl ?_); (try (refine gate_guard (by rfl) ?_; dsimp only)); refine box_event ?hg (N := 6) ?hd (cs := #[.slice none 0 0, .slice none 0 0, .int .i64 0]) (t := 25) ?hr ?_; (case hd => rfl); (case hg => rfl); (case hr => first | (go_simp; done) | (go_simp; rfl)); intro gb405 hg w12 hbox hb; have n0_ := Aside0.mk (Kd.R_below (by exact lR <| HO392.out) hb); have n1_ := Aside0.mk (Kd.R_below (by exact lR <| HO395.out) hb); have n2_ := Aside0.mk (Kd.R_below (by exact lR <| HO399.out) hb); have n3_ := Aside0.mk (Kd.R_below (by exact lR <| HO402.out) hb); have n4_ := Aside0.mk (blk_below (g := gb404) (o := .cells #[.slice none 0 0, .slice none 0 0, .int .i64 0] 25 (0, 0)) (by exact lK <| BK404.out) hb); have n5_ := Aside0.mk (below_step (by repeat (first | (with_reducible first | exact HB.out | apply below_alloc | apply pw_below_drewN | apply below_drew1 | refine below_set ?_ GE404.out) | exact HB.out)) hb); have n6_ := Aside0.mk (hbox); have n7_ := Aside0.mk ((by rw [hg]; exact (below_size (by repeat (first | (with_reducible first | exact HB.out | apply below_alloc | apply pw_below_drewN | apply below_drew1 | refine below_set ?_ GE404.out) | exact HB.out))) : w.heap.size ≤ gb405)); have n8_ := Aside0.mk ((by rw [hg]; exact (below_size (by repeat (first | (with_reducible first | exact HB.out | apply below_alloc | apply pw_below_drewN | apply below_drew1 | refine below_set ?_ GE404.out) | exact HB.out))) : w.heap.size ≤ gb405)); have n9_ := Aside0.mk ((neL hg (lK BK404.out) : gb404 ≠ gb405)); have n10_ := Aside0.mk ((neG hg (lK BK404.out) : gb405 ≠ gb404)); clear HO392; clear HO395; clear HO399; clear HO402; clear BK404; clear HB; have HO392 := n0_; have HO395 := n1_; have HO399 := n2_; have HO402 := n3_; have BK404 := n4_; have HB := n5_; have BK405 := n6_; have GW405 := n7_; have GE405 := n8_; have NB404_405 := n9_; have NB405_404 := n10_; clear n0_ n1_ n2_ n3_ n4_ n5_ n6_ n7_ n8_ n9_ n10_; clear hb hbox hg; obtain ⟨Ao13, co13, eo13⟩ := Kd.R_slice HO392.out; subst eo13; have hnb14 := NB404_405.out; have hnc14 := NB405_404.out; have hcz15_0 : w12.cell? ⟨gb404, 0, none⟩ = some (.slice none 0 0) := (blk_cell BK404.out 0).trans rfl; have hcz15_1 : w12.cell? ⟨gb404, 1, none⟩ = some (.slice none 0 0) := (blk_cell BK404.out 1).trans rfl; have hcz15_2 : w12.cell? ⟨gb404, 2, none⟩ = some (.int .i64 0) := (blk_cell BK404.out 2).trans rfl; have hfz15_0 := blk_frozen BK404.out 0; have hfz15_1 := blk_frozen BK404.out 1; have hfz15_2 := blk_frozen BK404.out 2; obtain ⟨Ao16, co16, eo16⟩ := Kd.R_slice HO395.out; subst eo16; obtain ⟨Ao17, co17, eo17⟩ := Kd.R_slice HO399.out; subst eo17; have hcz18_0 : w12.cell? ⟨gb405, 0, none⟩ = some (.slice none 0 0) := (blk_cell BK405.out 0).trans rfl; have hcz18_1 : w12.cell? ⟨gb405, 1, none⟩ = some (.slice none 0 0) := (blk_cell BK405.out 1).trans rfl; have hcz18_2 : w12.cell? ⟨gb405, 2, none⟩ = some (.int .i64 0) := (blk_cell BK405.out 2).trans rfl; have hfz18_0 := blk_frozen BK405.out 0; have hfz18_1 := blk_frozen BK405.out 1; have hfz18_2 := blk_frozen BK405.out 2; obtain ⟨Ao19, co19, eo19⟩ := Kd.R_slice HO402.out; subst eo19) | ((with_reducible refine gate_callee (f := 10) rfl ?_); refine goesL_ (some 34) rfl rfl Try.func10 (by kernel_rfl) rfl #[.slice A1 l1.length c1] rfl (by (try simp only [List.map_toArray, List.map_cons, List.map_nil]); first | done | rfl | (simp only [List.length_drop, List.length_take]; rfl)) ?_; (with_reducible refine (spec_DrawFrmAt.calls kj2 _ _ l1 t406 t409 t412 t413 t416 _ ?side1 ?side2 A7.out).mono ?_); (case side1 => exact Kd.C_below HR1.out (by repeat (first | (with_reducible first | exact HB.out | apply below_alloc | apply pw_below_drewN | apply below_drew1 | refine below_set ?_ GE404.out | refine below_set ?_ GE405.out) | exact HB.out))); (case side2 => exact HC1.out); rintro e w20 ⟨v407, v410, v414, v417, rfl, ho0, ho1, ho2, ho3, hb⟩; refine ⟨_, rfl, ?_⟩; have n0_ := Aside0.mk (Kd.R_mono (Kd.R_told (Kd.R_told (Kd.R_told (Kd.R_told (Kd.R_old (by exact lR <| (Kd.R_mono (Kd.R_mono (Kd.R_far (p := ⟨gb405, 2, none⟩) (Kd.R_far (p := ⟨gb405, 1, none⟩) (Kd.R_far (p := ⟨gb405, 0, none⟩) (Kd.R_far (p := ⟨gb404, 2, none⟩) (Kd.R_far (p := ⟨gb404, 1, none⟩) (Kd.R_far (p := ⟨gb404, 0, none⟩) (Kd.R_types (Kd.R_types HO392.out BK404.out (by decide)) BK405.out (by decide)) (fun _ hk => hk.1.2) (.slice Ao13 t390.length co13)) (fun _ hk => hk.1.2) (.slice Ao16 t393.length co16)) (fun _ hk => hk.1.2) (.int .i64 t396)) (fun _ hk => hk.2) (.slice Ao17 t397.length co17)) (fun _ hk => hk.2) (.slice Ao19 t400.length co19)) (fun _ hk => hk.2) (.int .i64 t403)) (fun _ h_ => h_.1)) (fun _ h_ => h_.1))) hb) (Kd.R_base ho0)) (Kd.R_base ho1)) (Kd.R_base ho2)) (Kd.R_base ho3)) (fun _ h_ => h_.1)); have n1_ := Aside0.mk (Kd.R_mono (Kd.R_told (Kd.R_told (Kd.R_told (Kd.R_told (Kd.R_old (by exact lR <| (Kd.R_mono (Kd.R_mono (Kd.R_far (p := ⟨gb405, 2, none⟩) (Kd.R_far (p := ⟨gb405, 1, none⟩) (Kd.R_far (p := ⟨gb405, 0, none⟩) (Kd.R_far (p := ⟨gb404, 2, none⟩) (Kd.R_far (p := ⟨gb404, 1, none⟩) (Kd.R_far (p := ⟨gb404, 0, none⟩) (Kd.R_types (Kd.R_types HO395.out BK404.out (by decide)) BK405.out (by decide)) (fun _ hk => hk.1.2) (.slice Ao13 t390.length co13)) (fun _ hk => hk.1.2) (.slice Ao16 t393.length co16)) (fun _ hk => hk.1.2) (.int .i64 t396)) (fun _ hk => hk.2) (.slice Ao17 t397.length co17)) (fun _ hk => hk.2) (.slice Ao19 t400.length co19)) (fun _ hk => hk.2) (.int .i64 t403)) (fun _ h_ => h_.1)) (fun _ h_ => h_.1))) hb) (Kd.R_base ho0)) (Kd.R_base ho1)) (Kd.R_base ho2)) (Kd.R_base ho3)) (fun _ h_ => h_.1)); have n2_ := Aside0.mk (Kd.R_mono (Kd.R_told (Kd.R_told (Kd.R_told (Kd.R_told (Kd.R_old (by exact lR <| (Kd.R_mono (Kd.R_mono (Kd.R_far (p := ⟨gb405, 2, none⟩) (Kd.R_far (p := ⟨gb405, 1, none⟩) (Kd.R_far (p := ⟨gb405, 0, none⟩) (Kd.R_far (p := ⟨gb404, 2, none⟩) (Kd.R_far (p := ⟨gb404, 1, none⟩) (Kd.R_far (p := ⟨gb404, 0, none⟩) (Kd.R_types (Kd.R_types HO399.out BK404.out (by decide)) BK405.out (by decide)) (fun _ hk => hk.1.2) (.slice Ao13 t390.length co13)) (fun _ hk => hk.1.2) (.slice Ao16 t393.length co16)) (fun _ hk => hk.1.2) (.int .i64 t396)) (fun _ hk => hk.2) (.slice Ao17 t397.length co17)) (fun _ hk => hk.2) (.slice Ao19 t400.length co19)) (fun _ hk => hk.2) (.int .i64 t403)) (fun _ h_ => h_.1)) (fun _ h_ => h_.1))) hb) (Kd.R_base ho0)) (Kd.R_base ho1)) (Kd.R_base ho2)) (Kd.R_base ho3)) (fun _ h_ => h_.1)); have n3_ := Aside0.mk (Kd.R_mono (Kd.R_told (Kd.R_told (Kd.R_told (Kd.R_told (Kd.R_old (by exact lR <| (Kd.R_mono (Kd.R_mono (Kd.R_far (p := ⟨gb405, 2, none⟩) (Kd.R_far (p := ⟨gb405, 1, none⟩) (Kd.R_far (p := ⟨gb405, 0, none⟩) (Kd.R_far (p := ⟨gb404, 2, none⟩) (Kd.R_far (p := ⟨gb404, 1, none⟩) (Kd.R_far (p := ⟨gb404, 0, none⟩) (Kd.R_types (Kd.R_types HO402.out BK404.out (by decide)) BK405.out (by decide)) (fun _ hk => hk.1.2) (.slice Ao13 t390.length co13)) (fun _ hk => hk.1.2) (.slice Ao16 t393.length co16)) (fun _ hk => hk.1.2) (.int .i64 t396)) (fun _ hk => hk.2) (.slice Ao17 t397.length co17)) (fun _ hk => hk.2) (.slice Ao19 t400.length co19)) (fun _ hk => hk.2) (.int .i64 t403)) (fun _ h_ => h_.1)) (fun _ h_ => h_.1))) hb) (Kd.R_base ho0)) (Kd.R_base ho1)) (Kd.R_base ho2)) (Kd.R_base ho3)) (fun _ h_ => h_.1)); have n4_ := Aside0.mk (Kd.R_lower (Kd.R_new' (Kd.R_new' (Kd.R_new' (Kd.R_new' ho0 (Kd.R_lt (by exact lR <| (Kd.R_mono (Kd.R_mono (Kd.R_far (p := ⟨gb405, 2, none⟩) (Kd.R_far (p := ⟨gb405, 1, none⟩) (Kd.R_far (p := ⟨gb405, 0, none⟩) (Kd.R_far (p := ⟨gb404, 2, none⟩) (Kd.R_far (p := ⟨gb404, 1, none⟩) (Kd.R_far (p := ⟨gb404, 0, none⟩) (Kd.R_types (Kd.R_types HO392.out BK404.out (by decide)) BK405.out (by decide)) (fun _ hk => hk.1.2) (.slice Ao13 t390.length co13)) (fun _ hk => hk.1.2) (.slice Ao16 t393.length co16)) (fun _ hk => hk.1.2) (.int .i64 t396)) (fun _ hk => hk.2) (.slice Ao17 t397.length co17)) (fun _ hk => hk.2) (.slice Ao19 t400.length co19)) (fun _ hk => hk.2) (.int .i64 t403)) (fun _ h_ => h_.1)) (fun _ h_ => h_.1))))) (Kd.R_lt (by exact lR <| (Kd.R_mono (Kd.R_mono (Kd.R_far (p := ⟨gb405, 2, none⟩) (Kd.R_far (p := ⟨gb405, 1, none⟩) (Kd.R_far (p := ⟨gb405, 0, none⟩) (Kd.R_far (p := ⟨gb404, 2, none⟩) (Kd.R_far (p := ⟨gb404, 1, none⟩) (Kd.R_far (p := ⟨gb404, 0, none⟩) (Kd.R_types (Kd.R_types HO395.out BK404.out (by decide)) BK405.out (by decide)) (fun _ hk => hk.1.2) (.slice Ao13 t390.length co13)) (fun _ hk => hk.1.2) (.slice Ao16 t393.length co16)) (fun _ hk => hk.1.2) (.int .i64 t396)) (fun _ hk => hk.2) (.slice Ao17 t397.length co17)) (fun _ hk => hk.2) (.slice Ao19 t400.length co19)) (fun _ hk => hk.2) (.int .i64 t403)) (fun _ h_ => h_.1)) (fun _ h_ => h_.1))))) (Kd.R_lt (by exact lR <| (Kd.R_mono (Kd.R_mono (Kd.R_far (p := ⟨gb405, 2, none⟩) (Kd.R_far (p := ⟨gb405, 1, none⟩) (Kd.R_far (p := ⟨gb405, 0, none⟩) (Kd.R_far (p := ⟨gb404, 2, none⟩) (Kd.R_far (p := ⟨gb404, 1, none⟩) (Kd.R_far (p := ⟨gb404, 0, none⟩) (Kd.R_types (Kd.R_types HO399.out BK404.out (by decide)) BK405.out (by decide)) (fun _ hk => hk.1.2) (.slice Ao13 t390.length co13)) (fun _ hk => hk.1.2) (.slice Ao16 t393.length co16)) (fun _ hk => hk.1.2) (.int .i64 t396)) (fun _ hk => hk.2) (.slice Ao17 t397.length co17)) (fun _ hk => hk.2) (.slice Ao19 t400.length co19)) (fun _ hk => hk.2) (.int .i64 t403)) (fun _ h_ => h_.1)) (fun _ h_ => h_.1))))) (Kd.R_lt (by exact lR <| (Kd.R_mono (Kd.R_mono (Kd.R_far (p := ⟨gb405, 2, none⟩) (Kd.R_far (p := ⟨gb405, 1, none⟩) (Kd.R_far (p := ⟨gb405, 0, none⟩) (Kd.R_far (p := ⟨gb404, 2, none⟩) (Kd.R_far (p := ⟨gb404, 1, none⟩) (Kd.R_far (p := ⟨gb404, 0, none⟩) (Kd.R_types (Kd.R_types HO402.out BK404.out (by decide)) BK405.out (by decide)) (fun _ hk => hk.1.2) (.slice Ao13 t390.length co13)) (fun _ hk => hk.1.2) (.slice Ao16 t393.length co16)) (fun _ hk => hk.1.2) (.int .i64 t396)) (fun _ hk => hk.2) (.slice Ao17 t397.length co17)) (fun _ hk => hk.2) (.slice Ao19 t400.length co19)) (fun _ hk => hk.2) (.int .i64 t403)) (fun _ h_ => h_.1)) (fun _ h_ => h_.1))))) (below_size (by repeat (first | (with_reducible first | exact HB.out | apply below_alloc | apply pw_below_drewN | apply below_drew1 | refine below_set ?_ GE404.out | refine below_set ?_ GE405.out) | exact HB.out)))); have n5_ := Aside0.mk (Kd.R_lower (Kd.R_new' (Kd.R_new' (Kd.R_new' (Kd.R_new' ho1 (Kd.R_lt (by exact lR <| (Kd.R_mono (Kd.R_mono (Kd.R_far (p := ⟨gb405, 2, none⟩) (Kd.R_far (p := ⟨gb405, 1, none⟩) (Kd.R_far (p := ⟨gb405, 0, none⟩) (Kd.R_far (p := ⟨gb404, 2, none⟩) (Kd.R_far (p := ⟨gb404, 1, none⟩) (Kd.R_far (p := ⟨gb404, 0, none⟩) (Kd.R_types (Kd.R_types HO392.out BK404.out (by decide)) BK405.out (by decide)) (fun _ hk => hk.1.2) (.slice Ao13 t390.length co13)) (fun _ hk => hk.1.2) (.slice Ao16 t393.length co16)) (fun _ hk => hk.1.2) (.int .i64 t396)) (fun _ hk => hk.2) (.slice Ao17 t397.length co17)) (fun _ hk => hk.2) (.slice Ao19 t400.length co19)) (fun _ hk => hk.2) (.int .i64 t403)) (fun _ h_ => h_.1)) (fun _ h_ => h_.1))))) (Kd.R_lt (by exact lR <| (Kd.R_mono (Kd.R_mono (Kd.R_far (p := ⟨gb405, 2, none⟩) (Kd.R_far (p := ⟨gb405, 1, none⟩) (Kd.R_far (p := ⟨gb405, 0, none⟩) (Kd.R_far (p := ⟨gb404, 2, none⟩) (Kd.R_far (p := ⟨gb404, 1, none⟩) (Kd.R_far (p := ⟨gb404, 0, none⟩) (Kd.R_types (Kd.R_types HO395.out BK404.out (by decide)) BK405.out (by decide)) (fun _ hk => hk.1.2) (.slice Ao13 t390.length co13)) (fun _ hk => hk.1.2) (.slice Ao16 t393.length co16)) (fun _ hk => hk.1.2) (.int .i64 t396)) (fun _ hk => hk.2) (.slice Ao17 t397.length co17)) (fun _ hk => hk.2) (.slice Ao19 t400.length co19)) (fun _ hk => hk.2) (.int .i64 t403)) (fun _ h_ => h_.1)) (fun _ h_ => h_.1))))) (Kd.R_lt (by exact lR <| (Kd.R_mono (Kd.R_mono (Kd.R_far (p := ⟨gb405, 2, none⟩) (Kd.R_far (p := ⟨gb405, 1, none⟩) (Kd.R_far (p := ⟨gb405, 0, none⟩) (Kd.R_far (p := ⟨gb404, 2, none⟩) (Kd.R_far (p := ⟨gb404, 1, none⟩) (Kd.R_far (p := ⟨gb404, 0, none⟩) (Kd.R_types (Kd.R_types HO399.out BK404.out (by decide)) BK405.out (by decide)) (fun _ hk => hk.1.2) (.slice Ao13 t390.length co13)) (fun _ hk => hk.1.2) (.slice Ao16 t393.length co16)) (fun _ hk => hk.1.2) (.int .i64 t396)) (fun _ hk => hk.2) (.slice Ao17 t397.length co17)) (fun _ hk => hk.2) (.slice Ao19 t400.length co19)) (fun _ hk => hk.2) (.int .i64 t403)) (fun _ h_ => h_.1)) (fun _ h_ => h_.1))))) (Kd.R_lt (by exact lR <| (Kd.R_mono (Kd.R_mono (Kd.R_far (p := ⟨gb405, 2, none⟩) (Kd.R_far (p := ⟨gb405, 1, none⟩) (Kd.R_far (p := ⟨gb405, 0, none⟩) (Kd.R_far (p := ⟨gb404, 2, none⟩) (Kd.R_far (p := ⟨gb404, 1, none⟩) (Kd.R_far (p := ⟨gb404, 0, none⟩) (Kd.R_types (Kd.R_types HO402.out BK404.out (by decide)) BK405.out (by decide)) (fun _ hk => hk.1.2) (.slice Ao13 t390.length co13)) (fun _ hk => hk.1.2) (.slice Ao16 t393.length co16)) (fun _ hk => hk.1.2) (.int .i64 t396)) (fun _ hk => hk.2) (.slice Ao17 t397.length co17)) (fun _ hk => hk.2) (.slice Ao19 t400.length co19)) (fun _ hk => hk.2) (.int .i64 t403)) (fun _ h_ => h_.1)) (fun _ h_ => h_.1))))) (below_size (by repeat (first | (with_reducible first | exact HB.out | apply below_alloc | apply pw_below_drewN | apply below_drew1 | refine below_set ?_ GE404.out | refine below_set ?_ GE405.out) | exact HB.out)))); have n6_ := Aside0.mk (Kd.R_lower (Kd.R_new' (Kd.R_new' (Kd.R_new' (Kd.R_new' ho2 (Kd.R_lt (by exact lR <| (Kd.R_mono (Kd.R_mono (Kd.R_far (p := ⟨gb405, 2, none⟩) (Kd.R_far (p := ⟨gb405, 1, none⟩) (Kd.R_far (p := ⟨gb405, 0, none⟩) (Kd.R_far (p := ⟨gb404, 2, none⟩) (Kd.R_far (p := ⟨gb404, 1, none⟩) (Kd.R_far (p := ⟨gb404, 0, none⟩) (Kd.R_types (Kd.R_types HO392.out BK404.out (by decide)) BK405.out (by decide)) (fun _ hk => hk.1.2) (.slice Ao13 t390.length co13)) (fun _ hk => hk.1.2) (.slice Ao16 t393.length co16)) (fun _ hk => hk.1.2) (.int .i64 t396)) (fun _ hk => hk.2) (.slice Ao17 t397.length co17)) (fun _ hk => hk.2) (.slice Ao19 t400.length co19)) (fun _ hk => hk.2) (.int .i64 t403)) (fun _ h_ => h_.1)) (fun _ h_ => h_.1))))) (Kd.R_lt (by exact lR <| (Kd.R_mono (Kd.R_mono (Kd.R_far (p := ⟨gb405, 2, none⟩) (Kd.R_far (p := ⟨gb405, 1, none⟩) (Kd.R_far (p := ⟨gb405, 0, none⟩) (Kd.R_far (p := ⟨gb404, 2, none⟩) (Kd.R_far (p := ⟨gb404, 1, none⟩) (Kd.R_far (p := ⟨gb404, 0, none⟩) (Kd.R_types (Kd.R_types HO395.out BK404.out (by decide)) BK405.out (by decide)) (fun _ hk => hk.1.2) (.slice Ao13 t390.length co13)) (fun _ hk => hk.1.2) (.slice Ao16 t393.length co16)) (fun _ hk => hk.1.2) (.int .i64 t396)) (fun _ hk => hk.2) (.slice Ao17 t397.length co17)) (fun _ hk => hk.2) (.slice Ao19 t400.length co19)) (fun _ hk => hk.2) (.int .i64 t403)) (fun _ h_ => h_.1)) (fun _ h_ => h_.1))))) (Kd.R_lt (by exact lR <| (Kd.R_mono (Kd.R_mono (Kd.R_far (p := ⟨gb405, 2, none⟩) (Kd.R_far (p := ⟨gb405, 1, none⟩) (Kd.R_far (p := ⟨gb405, 0, none⟩) (Kd.R_far (p := ⟨gb404, 2, none⟩) (Kd.R_far (p := ⟨gb404, 1, none⟩) (Kd.R_far (p := ⟨gb404, 0, none⟩) (Kd.R_types (Kd.R_types HO399.out BK404.out (by decide)) BK405.out (by decide)) (fun _ hk => hk.1.2) (.slice Ao13 t390.length co13)) (fun _ hk => hk.1.2) (.slice Ao16 t393.length co16)) (fun _ hk => hk.1.2) (.int .i64 t396)) (fun _ hk => hk.2) (.slice Ao17 t397.length co17)) (fun _ hk => hk.2) (.slice Ao19 t400.length co19)) (fun _ hk => hk.2) (.int .i64 t403)) (fun _ h_ => h_.1)) (fun _ h_ => h_.1))))) (Kd.R_lt (by exact lR <| (Kd.R_mono (Kd.R_mono (Kd.R_far (p := ⟨gb405, 2, none⟩) (Kd.R_far (p := ⟨gb405, 1, none⟩) (Kd.R_far (p := ⟨gb405, 0, none⟩) (Kd.R_far (p := ⟨gb404, 2, none⟩) (Kd.R_far (p := ⟨gb404, 1, none⟩) (Kd.R_far (p := ⟨gb404, 0, none⟩) (Kd.R_types (Kd.R_types HO402.out BK404.out (by decide)) BK405.out (by decide)) (fun _ hk => hk.1.2) (.slice Ao13 t390.length co13)) (fun _ hk => hk.1.2) (.slice Ao16 t393.length co16)) (fun _ hk => hk.1.2) (.int .i64 t396)) (fun _ hk => hk.2) (.slice Ao17 t397.length co17)) (fun _ hk => hk.2) (.slice Ao19 t400.length co19)) (fun _ hk => hk.2) (.int .i64 t403)) (fun _ h_ => h_.1)) (fun _ h_ => h_.1))))) (below_size (by repeat (first | (with_reducible first | exact HB.out | apply below_alloc | apply pw_below_drewN | apply below_drew1 | refine below_set ?_ GE404.out | refine below_set ?_ GE405.out) | exact HB.out)))); have n7_ := Aside0.mk (Kd.R_lower (Kd.R_new' (Kd.R_new' (Kd.R_new' (Kd.R_new' ho3 (Kd.R_lt (by exact lR <| (Kd.R_mono (Kd.R_mono (Kd.R_far (p := ⟨gb405, 2, none⟩) (Kd.R_far (p := ⟨gb405, 1, none⟩) (Kd.R_far (p := ⟨gb405, 0, none⟩) (Kd.R_far (p := ⟨gb404, 2, none⟩) (Kd.R_far (p := ⟨gb404, 1, none⟩) (Kd.R_far (p := ⟨gb404, 0, none⟩) (Kd.R_types (Kd.R_types HO392.out BK404.out (by decide)) BK405.out (by decide)) (fun _ hk => hk.1.2) (.slice Ao13 t390.length co13)) (fun _ hk => hk.1.2) (.slice Ao16 t393.length co16)) (fun _ hk => hk.1.2) (.int .i64 t396)) (fun _ hk => hk.2) (.slice Ao17 t397.length co17)) (fun _ hk => hk.2) (.slice Ao19 t400.length co19)) (fun _ hk => hk.2) (.int .i64 t403)) (fun _ h_ => h_.1)) (fun _ h_ => h_.1))))) (Kd.R_lt (by exact lR <| (Kd.R_mono (Kd.R_mono (Kd.R_far (p := ⟨gb405, 2, none⟩) (Kd.R_far (p := ⟨gb405, 1, none⟩) (Kd.R_far (p := ⟨gb405, 0, none⟩) (Kd.R_far (p := ⟨gb404, 2, none⟩) (Kd.R_far (p := ⟨gb404, 1, none⟩) (Kd.R_far (p := ⟨gb404, 0, none⟩) (Kd.R_types (Kd.R_types HO395.out BK404.out (by decide)) BK405.out (by decide)) (fun _ hk => hk.1.2) (.slice Ao13 t390.length co13)) (fun _ hk => hk.1.2) (.slice Ao16 t393.length co16)) (fun _ hk => hk.1.2) (.int .i64 t396)) (fun _ hk => hk.2) (.slice Ao17 t397.length co17)) (fun _ hk => hk.2) (.slice Ao19 t400.length co19)) (fun _ hk => hk.2) (.int .i64 t403)) (fun _ h_ => h_.1)) (fun _ h_ => h_.1))))) (Kd.R_lt (by exact lR <| (Kd.R_mono (Kd.R_mono (Kd.R_far (p := ⟨gb405, 2, none⟩) (Kd.R_far (p := ⟨gb405, 1, none⟩) (Kd.R_far (p := ⟨gb405, 0, none⟩) (Kd.R_far (p := ⟨gb404, 2, none⟩) (Kd.R_far (p := ⟨gb404, 1, none⟩) (Kd.R_far (p := ⟨gb404, 0, none⟩) (Kd.R_types (Kd.R_types HO399.out BK404.out (by decide)) BK405.out (by decide)) (fun _ hk => hk.1.2) (.slice Ao13 t390.length co13)) (fun _ hk => hk.1.2) (.slice Ao16 t393.length co16)) (fun _ hk => hk.1.2) (.int .i64 t396)) (fun _ hk => hk.2) (.slice Ao17 t397.length co17)) (fun _ hk => hk.2) (.slice Ao19 t400.length co19)) (fun _ hk => hk.2) (.int .i64 t403)) (fun _ h_ => h_.1)) (fun _ h_ => h_.1))))) (Kd.R_lt (by exact lR <| (Kd.R_mono (Kd.R_mono (Kd.R_far (p := ⟨gb405, 2, none⟩) (Kd.R_far (p := ⟨gb405, 1, none⟩) (Kd.R_far (p := ⟨gb405, 0, none⟩) (Kd.R_far (p := ⟨gb404, 2, none⟩) (Kd.R_far (p := ⟨gb404, 1, none⟩) (Kd.R_far (p := ⟨gb404, 0, none⟩) (Kd.R_types (Kd.R_types HO402.out BK404.out (by decide)) BK405.out (by decide)) (fun _ hk => hk.1.2) (.slice Ao13 t390.length co13)) (fun _ hk => hk.1.2) (.slice Ao16 t393.length co16)) (fun _ hk => hk.1.2) (.int .i64 t396)) (fun _ hk => hk.2) (.slice Ao17 t397.length co17)) (fun _ hk => hk.2) (.slice Ao19 t400.length co19)) (fun _ hk => hk.2) (.int .i64 t403)) (fun _ h_ => h_.1)) (fun _ h_ => h_.1))))) (below_size (by repeat (first | (with_reducible first | exact HB.out | apply below_alloc | apply pw_below_drewN | apply below_drew1 | refine below_set ?_ GE404.out | refine below_set ?_ GE405.out) | exact HB.out)))); have n8_ := Aside0.mk (blk_below (g := gb404) (o := .cells #[.slice Ao13 t390.length co13, .slice Ao16 t393.length co16, .int .i64 t396] 25 (0, 0)) (by (with_reducible repeat (first | refine blk_drewN ?_ _ | refine blk_drew ?_ | refine blk_alloc ?_ _)); refine blk_far ?_ NB404_405.out _; (with_reducible repeat (first | refine blk_drewN ?_ _ | refine blk_drew ?_ | refine blk_alloc ?_ _)); refine blk_far ?_ NB404_405.out _; (with_reducible repeat (first | refine blk_drewN ?_ _ | refine blk_drew ?_ | refine blk_alloc ?_ _)); refine blk_far ?_ NB404_405.out _; (with_reducible repeat (first | refine blk_drewN ?_ _ | refine blk_drew ?_ | refine blk_alloc ?_ _)); refine blk_put (cs := #[.slice Ao13 t390.length co13, .slice Ao16 t393.length co16, .int .i64 0]) ?_ 2 _ rfl; (with_reducible repeat (first | refine blk_drewN ?_ _ | refine blk_drew ?_ | refine blk_alloc ?_ _)); refine blk_put (cs := #[.slice Ao13 t390.length co13, .slice none 0 0, .int .i64 0]) ?_ 1 _ rfl; (with_reducible repeat (first | refine blk_drewN ?_ _ | refine blk_drew ?_ | refine blk_alloc ?_ _)); refine blk_put (cs := #[.slice none 0 0, .slice none 0 0, .int .i64 0]) ?_ 0 _ rfl; exact lK <| BK404.out) hb); have n9_ := Aside0.mk (blk_below (g := gb405) (o := .cells #[.slice Ao17 t397.length co17, .slice Ao19 t400.length co19, .int .i64 t403] 25 (0, 0)) (by (with_reducible repeat (first | refine blk_drewN ?_ _ | refine blk_drew ?_ | refine blk_alloc ?_ _)); refine blk_put (cs := #[.slice Ao17 t397.length co17, .slice Ao19 t400.length co19, .int .i64 0]) ?_ 2 _ rfl; (with_reducible repeat (first | refine blk_drewN ?_ _ | refine blk_drew ?_ | refine blk_alloc ?_ _)); refine blk_put (cs := #[.slice Ao17 t397.length co17, .slice none 0 0, .int .i64 0]) ?_ 1 _ rfl; (with_reducible repeat (first | refine blk_drewN ?_ _ | refine blk_drew ?_ | refine blk_alloc ?_ _)); refine blk_put (cs := #[.slice none 0 0, .slice none 0 0, .int .i64 0]) ?_ 0 _ rfl; (with_reducible repeat (first | refine blk_drewN ?_ _ | refine blk_drew ?_ | refine blk_alloc ?_ _)); refine blk_far ?_ NB405_404.out _; (with_reducible repeat (first | refine blk_drewN ?_ _ | refine blk_drew ?_ | refine blk_alloc ?_ _)); refine blk_far ?_ NB405_404.out _; (with_reducible repeat (first | refine blk_drewN ?_ _ | refine blk_drew ?_ | refine blk_alloc ?_ _)); refine blk_far ?_ NB405_404.out _; exact lK <| BK405.out) hb); have n10_ := Aside0.mk (below_step (by repeat (first | (with_reducible first | exact HB.out | apply below_alloc | apply pw_below_drewN | apply below_drew1 | refine below_set ?_ GE404.out | refine below_set ?_ GE405.out) | exact HB.out)) hb); clear HO392; clear HO395; clear HO399; clear HO402; clear BK404; clear BK405; clear HB; have HO392 := n0_; have HO395 := n1_; have HO399 := n2_; have HO402 := n3_; have HO408 := n4_; have HO411 := n5_; have HO415 := n6_; have HO418 := n7_; have BK404 := n8_; have BK405 := n9_; have HB := n10_; clear n0_ n1_ n2_ n3_ n4_ n5_ n6_ n7_ n8_ n9_ n10_; (try clear hb); (try clear hb2); (try clear hk); (try clear hi); (try clear ho0); (try clear ho1); (try clear ho2); (try clear ho3)) | ((with_reducible refine gate_dst (N := 7) rfl ?_); (try (refine gate_guard (by rfl) ?_; dsimp only)); refine box_event ?hg (N := 7) ?hd (cs := #[.slice none 0 0, .slice none 0 0, .int .i64 0]) (t := 25) ?hr ?_; (case hd => rfl); (case hg => rfl); (case hr => first | (go_simp; done) | (go_simp; rfl)); intro gb419 hg w21 hbox hb; have n0_ := Aside0.mk (Kd.R_below (by exact lR <| HO392.out) hb); have n1_ := Aside0.mk (Kd.R_below (by exact lR <| HO395.out) hb); have n2_ := Aside0.mk (Kd.R_below (by exact lR <| HO399.out) hb); have n3_ := Aside0.mk (Kd.R_below (by exact lR <| HO402.out) hb); have n4_ := Aside0.mk (Kd.R_below (by exact lR <| HO408.out) hb); have n5_ := Aside0.mk (Kd.R_below (by exact lR <| HO411.out) hb); have n6_ := Aside0.mk (Kd.R_below (by exact lR <| HO415.out) hb); have n7_ := Aside0.mk (Kd.R_below (by exact lR <| HO418.out) hb); have n8_ := Aside0.mk (blk_below (g := gb404) (o := .cells #[.slice Ao13 t390.length co13, .slice Ao16 t393.length co16, .int .i64 t396] 25 (0, 0)) (by exact lK <| BK404.out) hb); have n9_ := Aside0.mk (blk_below (g := gb405) (o := .cells #[.slice Ao17 t397.length co17, .slice Ao19 t400.length co19, .int .i64 t403] 25 (0, 0)) (by exact lK <| BK405.out) hb); have n10_ := Aside0.mk (below_step (by repeat (first | (with_reducible first | exact HB.out | apply below_alloc | apply pw_below_drewN | apply below_drew1 | refine below_set ?_ GE404.out | refine below_set ?_ GE405.out) | exact HB.out)) hb); have n11_ := Aside0.mk (hbox); have n12_ := Aside0.mk ((by rw [hg]; exact (below_size (by repeat (first | (with_reducible first | exact HB.out | apply below_alloc | apply pw_below_drewN | apply below_drew1 | refine below_set ?_ GE404.out | refine below_set ?_ GE405.out) | exact HB.out))) : w.heap.size ≤ gb419)); have n13_ := Aside0.mk ((by rw [hg]; exact (below_size (by repeat (first | (with_reducible first | exact HB.out | apply below_alloc | apply pw_below_drewN | apply below_drew1 | refine below_set ?_ GE404.out | refine below_set ?_ GE405.out) | exact HB.out))) : w.heap.size ≤ gb419)); have n14_ := Aside0.mk ((neL hg (lK BK404.out) : gb404 ≠ gb419)); have n15_ := Aside0.mk ((neG hg (lK BK404.out) : gb419 ≠ gb404)); have n16_ := Aside0.mk ((neL hg (lK BK405.out) : gb405 ≠ gb419)); have n17_ := Aside0.mk ((neG hg (lK BK405.out) : gb419 ≠ gb405)); clear HO392; clear HO395; clear HO399; clear HO402; clear HO408; clear HO411; clear HO415; clear HO418; clear BK404; clear BK405; clear HB; have HO392 := n0_; have HO395 := n1_; have HO399 := n2_; have HO402 := n3_; have HO408 := n4_; have HO411 := n5_; have HO415 := n6_; have HO418 := n7_; have BK404 := n8_; have BK405 := n9_; have HB := n10_; have BK419 := n11_; have GW419 := n12_; have GE419 := n13_; have NB404_419 := n14_; have NB419_404 := n15_; have NB405_419 := n16_; have NB419_405 := n17_; clear n0_ n1_ n2_ n3_ n4_ n5_ n6_ n7_ n8_ n9_ n10_ n11_ n12_ n13_ n14_ n15_ n16_ n17_; clear hb hbox hg; obtain ⟨Ao22, co22, eo22⟩ := Kd.R_slice HO408.out; subst eo22; have hnb23 := NB419_404.out; have hnc23 := NB404_419.out; have hnb24 := NB419_405.out; have hnc24 := NB405_419.out; have hcz25_0 : w21.cell? ⟨gb419, 0, none⟩ = some (.slice none 0 0) := (blk_cell BK419.out 0).trans rfl; have hcz25_1 : w21.cell? ⟨gb419, 1, none⟩ = some (.slice none 0 0) := (blk_cell BK419.out 1).trans rfl; have hcz25_2 : w21.cell? ⟨gb419, 2, none⟩ = some (.int .i64 0) := (blk_cell BK419.out 2).trans rfl; have hfz25_0 := blk_frozen BK419.out 0; have hfz25_1 := blk_frozen BK419.out 1; have hfz25_2 := blk_frozen BK419.out 2; obtain ⟨Ao26, co26, eo26⟩ := Kd.R_slice HO411.out; subst eo26; have hcz27_0 : w21.cell? ⟨gb404, 0, none⟩ = some (.slice Ao13 t390.length co13) := (blk_cell BK404.out 0).trans rfl; have hcz27_1 : w21.cell? ⟨gb404, 1, none⟩ = some (.slice Ao16 t393.length co16) := (blk_cell BK404.out 1).trans rfl; have hcz27_2 : w21.cell? ⟨gb404, 2, none⟩ = some (.int .i64 t396) := (blk_cell BK404.out 2).trans rfl; have hfz27_0 := blk_frozen BK404.out 0; have hfz27_1 := blk_frozen BK404.out 1; have hfz27_2 := blk_frozen BK404.out 2; have hcz28_0 : w21.cell? ⟨gb405, 0, none⟩ = some (.slice Ao17 t397.length co17) := (blk_cell BK405.out 0).trans rfl; have hcz28_1 : w21.cell? ⟨gb405, 1, none⟩ = some (.slice Ao19 t400.length co19) := (blk_cell BK405.out 1).trans rfl; have hcz28_2 : w21.cell? ⟨gb405, 2, none⟩ = some (.int .i64 t403) := (blk_cell BK405.out 2).trans rfl; have hfz28_0 := blk_frozen BK405.out 0; have hfz28_1 := blk_frozen BK405.out 1; have hfz28_2 := blk_frozen BK405.out 2) | ((with_reducible refine gate_callee (f := 19) rfl ?_); refine goesL_ (some 40) rfl rfl Try.func19 (by kernel_rfl) rfl #[.agg #[.slice Ao13 t390.length co13, .slice Ao16 t393.length co16, .int .i64 t396], .agg #[.slice Ao17 t397.length co17, .slice Ao19 t400.length co19, .int .i64 t403]] rfl (by (try simp only [List.map_toArray, List.map_cons, List.map_nil]); first | done | rfl | (simp only [List.length_drop, List.length_take]; rfl)) ?_; (with_reducible refine (impl_FrmAdd.calls _ _ t390 _ _ t393 t396 _ _ t397 _ _ t400 t403 t420 t423 t426 _ ?side1 ?side2 ?side3 ?side4 ?side5 ?side6 ?side7 ?side8 A8.out).mono ?_); (case side1 => refine (Kd.R_reads' (e := 3) (base := w.heap.size) (ok := fun k_ => (((((some k_ ≠ (.slice Ao16 t393.length co16 : Value).ownBlock ∧ (some k_ ≠ (.slice Ao17 t397.length co17 : Value).ownBlock ∧ some k_ ≠ (.slice Ao19 t400.length co19 : Value).ownBlock)) ∧ some k_ ≠ (.slice Ao22 t406.length co22 : Value).ownBlock) ∧ some k_ ≠ (.slice Ao26 t409.length co26 : Value).ownBlock) ∧ some k_ ≠ (v414 : Value).ownBlock) ∧ some k_ ≠ (v417 : Value).ownBlock)) (n := t390.length) (c := co13) ?_).2.2; exact (by (with_reducible repeat (first | apply ra | apply rn | apply re)); exact (R3 HO392.out BK419.out))); (case side2 => exact (Kd.R_reads' HO392.out).2.1); (case side3 => refine (Kd.R_reads' (e := 3) (base := w.heap.size) (ok := fun k_ => (((((some k_ ≠ (.slice Ao13 t390.length co13 : Value).ownBlock ∧ (some k_ ≠ (.slice Ao17 t397.length co17 : Value).ownBlock ∧ some k_ ≠ (.slice Ao19 t400.length co19 : Value).ownBlock)) ∧ some k_ ≠ (.slice Ao22 t406.length co22 : Value).ownBlock) ∧ some k_ ≠ (.slice Ao26 t409.length co26 : Value).ownBlock) ∧ some k_ ≠ (v414 : Value).ownBlock) ∧ some k_ ≠ (v417 : Value).ownBlock)) (n := t393.length) (c := co16) ?_).2.2; exact (by (with_reducible repeat (first | apply ra | apply rn | apply re)); exact (R3 HO395.out BK419.out))); (case side4 => exact (Kd.R_reads' HO395.out).2.1); (case side5 => refine (Kd.R_reads' (e := 3) (base := w.heap.size) (ok := fun k_ => (((((some k_ ≠ (.slice Ao13 t390.length co13 : Value).ownBlock ∧ (some k_ ≠ (.slice Ao16 t393.length co16 : Value).ownBlock ∧ some k_ ≠ (.slice Ao19 t400.length co19 : Value).ownBlock)) ∧ some k_ ≠ (.slice Ao22 t406.length co22 : Value).ownBlock) ∧ some k_ ≠ (.slice Ao26 t409.length co26 : Value).ownBlock) ∧ some k_ ≠ (v414 : Value).ownBlock) ∧ some k_ ≠ (v417 : Value).ownBlock)) (n := t397.length) (c := co17) ?_).2.2; exact (by (with_reducible repeat (first | apply ra | apply rn | apply re)); exact (R3 HO399.out BK419.out))); (case side6 => exact (Kd.R_reads' HO399.out).2.1); (case side7 => refine (Kd.R_reads' (e := 3) (base := w.heap.size) (ok := fun k_ => (((((some k_ ≠ (.slice Ao13 t390.length co13 : Value).ownBlock ∧ (some k_ ≠ (.slice Ao16 t393.length co16 : Value).ownBlock ∧ some k_ ≠ (.slice Ao17 t397.length co17 : Value).ownBlock)) ∧ some k_ ≠ (.slice Ao22 t406.length co22 : Value).ownBlock) ∧ some k_ ≠ (.slice Ao26 t409.length co26 : Value).ownBlock) ∧ some k_ ≠ (v414 : Value).ownBlock) ∧ some k_ ≠ (v417 : Value).ownBlock)) (n := t400.length) (c := co19) ?_).2.2; exact (by (with_reducible repeat (first | apply ra | apply rn | apply re)); exact (R3 HO402.out BK419.out))); (case side8 => exact (Kd.R_reads' HO402.out).2.1); rintro e w29 ⟨v421, v424, rfl, ho0, ho1, hb⟩; refine ⟨_, rfl, ?_⟩; have n0_ := Aside0.mk (Kd.R_mono (Kd.R_told (Kd.R_told (Kd.R_old (by (with_reducible repeat (first | apply ra | apply rn | apply re)); exact (R3 HO392.out BK419.out)) hb) (Kd.R_base ho0)) (Kd.R_base ho1)) (fun _ h_ => h_.1)); have n1_ := Aside0.mk (Kd.R_mono (Kd.R_told (Kd.R_told (Kd.R_old (by (with_reducible repeat (first | apply ra | apply rn | apply re)); exact (R3 HO395.out BK419.out)) hb) (Kd.R_base ho0)) (Kd.R_base ho1)) (fun _ h_ => h_.1)); have n2_ := Aside0.mk (Kd.R_mono (Kd.R_told (Kd.R_told (Kd.R_old (by (with_reducible repeat (first | apply ra | apply rn | apply re)); exact (R3 HO399.out BK419.out)) hb) (Kd.R_base ho0)) (Kd.R_base ho1)) (fun _ h_ => h_.1)); have n3_ := Aside0.mk (Kd.R_mono (Kd.R_told (Kd.R_told (Kd.R_old (by (with_reducible repeat (first | apply ra | apply rn | apply re)); exact (R3 HO402.out BK419.out)) hb) (Kd.R_base ho0)) (Kd.R_base ho1)) (fun _ h_ => h_.1)); have n4_ := Aside0.mk (Kd.R_mono (Kd.R_told (Kd.R_told (Kd.R_old (by (with_reducible repeat (first | apply ra | apply rn | apply re)); exact (R3 HO408.out BK419.out)) hb) (Kd.R_base ho0)) (Kd.R_base ho1)) (fun _ h_ => h_.1)); have n5_ := Aside0.mk (Kd.R_mono (Kd.R_told (Kd.R_told (Kd.R_old (by (with_reducible repeat (first | apply ra | apply rn | apply re)); exact (R3 HO411.out BK419.out)) hb) (Kd.R_base ho0)) (Kd.R_base ho1)) (fun _ h_ => h_.1)); have n6_ := Aside0.mk (Kd.R_mono (Kd.R_told (Kd.R_told (Kd.R_old (by (with_reducible repeat (first | apply ra | apply rn | apply re)); exact (R3 HO415.out BK419.out)) hb) (Kd.R_base ho0)) (Kd.R_base ho1)) (fun _ h_ => h_.1)); have n7_ := Aside0.mk (Kd.R_mono (Kd.R_told (Kd.R_told (Kd.R_old (by (with_reducible repeat (first | apply ra | apply rn | apply re)); exact (R3 HO418.out BK419.out)) hb) (Kd.R_base ho0)) (Kd.R_base ho1)) (fun _ h_ => h_.1)); have n8_ := Aside0.mk (Kd.R_lower (Kd.R_new' (Kd.R_new' (Kd.R_new' (Kd.R_new' (Kd.R_new' (Kd.R_new' (Kd.R_new' (Kd.R_new' ho0 (Kd.R_lt (by (with_reducible repeat (first | apply ra | apply rn | apply re)); exact (R3 HO392.out BK419.out)))) (Kd.R_lt (by (with_reducible repeat (first | apply ra | apply rn | apply re)); exact (R3 HO395.out BK419.out)))) (Kd.R_lt (by (with_reducible repeat (first | apply ra | apply rn | apply re)); exact (R3 HO399.out BK419.out)))) (Kd.R_lt (by (with_reducible repeat (first | apply ra | apply rn | apply re)); exact (R3 HO402.out BK419.out)))) (Kd.R_lt (by (with_reducible repeat (first | apply ra | apply rn | apply re)); exact (R3 HO408.out BK419.out)))) (Kd.R_lt (by (with_reducible repeat (first | apply ra | apply rn | apply re)); exact (R3 HO411.out BK419.out)))) (Kd.R_lt (by (with_reducible repeat (first | apply ra | apply rn | apply re)); exact (R3 HO415.out BK419.out)))) (Kd.R_lt (by (with_reducible repeat (first | apply ra | apply rn | apply re)); exact (R3 HO418.out BK419.out)))) (below_size (by repeat (first | (with_reducible first | exact HB.out | apply below_alloc | apply pw_below_drewN | apply below_drew1 | refine below_set ?_ (by first | exact GE404.out | exact GE405.out | exact GE419.out)) | exact HB.out)))); have n9_ := Aside0.mk (Kd.R_lower (Kd.R_new' (Kd.R_new' (Kd.R_new' (Kd.R_new' (Kd.R_new' (Kd.R_new' (Kd.R_new' (Kd.R_new' ho1 (Kd.R_lt (by (with_reducible repeat (first | apply ra | apply rn | apply re)); exact (R3 HO392.out BK419.out)))) (Kd.R_lt (by (with_reducible repeat (first | apply ra | apply rn | apply re)); exact (R3 HO395.out BK419.out)))) (Kd.R_lt (by (with_reducible repeat (first | apply ra | apply rn | apply re)); exact (R3 HO399.out BK419.out)))) (Kd.R_lt (by (with_reducible repeat (first | apply ra | apply rn | apply re)); exact (R3 HO402.out BK419.out)))) (Kd.R_lt (by (with_reducible repeat (first | apply ra | apply rn | apply re)); exact (R3 HO408.out BK419.out)))) (Kd.R_lt (by (with_reducible repeat (first | apply ra | apply rn | apply re)); exact (R3 HO411.out BK419.out)))) (Kd.R_lt (by (with_reducible repeat (first | apply ra | apply rn | apply re)); exact (R3 HO415.out BK419.out)))) (Kd.R_lt (by (with_reducible repeat (first | apply ra | apply rn | apply re)); exact (R3 HO418.out BK419.out)))) (below_size (by repeat (first | (with_reducible first | exact HB.out | apply below_alloc | apply pw_below_drewN | apply below_drew1 | refine below_set ?_ (by first | exact GE404.out | exact GE405.out | exact GE419.out)) | exact HB.out)))); have n10_ := Aside0.mk (blk_below (g := gb404) (o := .cells #[.slice Ao13 t390.length co13, .slice Ao16 t393.length co16, .int .i64 t396] 25 (0, 0)) (by (with_reducible repeat (first | refine blk_drewN ?_ _ | refine blk_drew ?_ | refine blk_alloc ?_ _)); refine blk_far ?_ NB404_419.out _; (with_reducible repeat (first | refine blk_drewN ?_ _ | refine blk_drew ?_ | refine blk_alloc ?_ _)); refine blk_far ?_ NB404_419.out _; (with_reducible repeat (first | refine blk_drewN ?_ _ | refine blk_drew ?_ | refine blk_alloc ?_ _)); refine blk_far ?_ NB404_419.out _; exact lK <| BK404.out) hb); have n11_ := Aside0.mk (blk_below (g := gb405) (o := .cells #[.slice Ao17 t397.length co17, .slice Ao19 t400.length co19, .int .i64 t403] 25 (0, 0)) (by (with_reducible repeat (first | refine blk_drewN ?_ _ | refine blk_drew ?_ | refine blk_alloc ?_ _)); refine blk_far ?_ NB405_419.out _; (with_reducible repeat (first | refine blk_drewN ?_ _ | refine blk_drew ?_ | refine blk_alloc ?_ _)); refine blk_far ?_ NB405_419.out _; (with_reducible repeat (first | refine blk_drewN ?_ _ | refine blk_drew ?_ | refine blk_alloc ?_ _)); refine blk_far ?_ NB405_419.out _; exact lK <| BK405.out) hb); have n12_ := Aside0.mk (blk_below (g := gb419) (o := .cells #[.slice Ao22 t406.length co22, .slice Ao26 t409.length co26, .int .i64 t412] 25 (0, 0)) (by (with_reducible repeat (first | refine blk_drewN ?_ _ | refine blk_drew ?_ | refine blk_alloc ?_ _)); refine blk_put (cs := #[.slice Ao22 t406.length co22, .slice Ao26 t409.length co26, .int .i64 0]) ?_ 2 _ rfl; (with_reducible repeat (first | refine blk_drewN ?_ _ | refine blk_drew ?_ | refine blk_alloc ?_ _)); refine blk_put (cs := #[.slice Ao22 t406.length co22, .slice none 0 0, .int .i64 0]) ?_ 1 _ rfl; (with_reducible repeat (first | refine blk_drewN ?_ _ | refine blk_drew ?_ | refine blk_alloc ?_ _)); refine blk_put (cs := #[.slice none 0 0, .slice none 0 0, .int .i64 0]) ?_ 0 _ rfl; exact lK <| BK419.out) hb); have n13_ := Aside0.mk (below_step (by repeat (first | (with_reducible first | exact HB.out | apply below_alloc | apply pw_below_drewN | apply below_drew1 | refine below_set ?_ (by first | exact GE404.out | exact GE405.out | exact GE419.out)) | exact HB.out)) hb); clear HO392; clear HO395; clear HO399; clear HO402; clear HO408; clear HO411; clear HO415; clear HO418; clear BK404; clear BK405; clear BK419; clear HB; have HO392 := n0_; have HO395 := n1_; have HO399 := n2_; have HO402 := n3_; have HO408 := n4_; have HO411 := n5_; have HO415 := n6_; have HO418 := n7_; have HO422 := n8_; have HO425 := n9_; have BK404 := n10_; have BK405 := n11_; have BK419 := n12_; have HB := n13_; clear n0_ n1_ n2_ n3_ n4_ n5_ n6_ n7_ n8_ n9_ n10_ n11_ n12_ n13_; (try clear hb); (try clear hb2); (try clear hk); (try clear hi); (try clear ho0); (try clear ho1)) | ((with_reducible refine gate_dst (N := 10) rfl ?_); (try (refine gate_guard (by rfl) ?_; dsimp only)); refine box_event ?hg (N := 10) ?hd (cs := #[.slice none 0 0, .slice none 0 0, .int .i64 0]) (t := 25) ?hr ?_; (case hd => rfl); (case hg => rfl); (case hr => first | (go_simp; done) | (go_simp; rfl)); intro gb427 hg w30 hbox hb; have n0_ := Aside0.mk (Kd.R_below (by exact lR <| HO392.out) hb); have n1_ := Aside0.mk (Kd.R_below (by exact lR <| HO395.out) hb); have n2_ := Aside0.mk (Kd.R_below (by exact lR <| HO399.out) hb); have n3_ := Aside0.mk (Kd.R_below (by exact lR <| HO402.out) hb); have n4_ := Aside0.mk (Kd.R_below (by exact lR <| HO408.out) hb); have n5_ := Aside0.mk (Kd.R_below (by exact lR <| HO411.out) hb); have n6_ := Aside0.mk (Kd.R_below (by exact lR <| HO415.out) hb); have n7_ := Aside0.mk (Kd.R_below (by exact lR <| HO418.out) hb); have n8_ := Aside0.mk (Kd.R_below (by exact lR <| HO422.out) hb); have n9_ := Aside0.mk (Kd.R_below (by exact lR <| HO425.out) hb); have n10_ := Aside0.mk (blk_below (g := gb404) (o := .cells #[.slice Ao13 t390.length co13, .slice Ao16 t393.length co16, .int .i64 t396] 25 (0, 0)) (by exact lK <| BK404.out) hb); have n11_ := Aside0.mk (blk_below (g := gb405) (o := .cells #[.slice Ao17 t397.length co17, .slice Ao19 t400.length co19, .int .i64 t403] 25 (0, 0)) (by exact lK <| BK405.out) hb); have n12_ := Aside0.mk (blk_below (g := gb419) (o := .cells #[.slice Ao22 t406.length co22, .slice Ao26 t409.length co26, .int .i64 t412] 25 (0, 0)) (by exact lK <| BK419.out) hb); have n13_ := Aside0.mk (below_step (by repeat (first | (with_reducible first | exact HB.out | apply below_alloc | apply pw_below_drewN | apply below_drew1 | refine below_set ?_ (by first | exact GE404.out | exact GE405.out | exact GE419.out)) | exact HB.out)) hb); have n14_ := Aside0.mk (hbox); have n15_ := Aside0.mk ((by rw [hg]; exact (below_size (by repeat (first | (with_reducible first | exact HB.out | apply below_alloc | apply pw_below_drewN | apply below_drew1 | refine below_set ?_ (by first | exact GE404.out | exact GE405.out | exact GE419.out)) | exact HB.out))) : w.heap.size ≤ gb427)); have n16_ := Aside0.mk ((by rw [hg]; exact (below_size (by repeat (first | (with_reducible first | exact HB.out | apply below_alloc | apply pw_below_drewN | apply below_drew1 | refine below_set ?_ (by first | exact GE404.out | exact GE405.out | exact GE419.out)) | exact HB.out))) : w.heap.size ≤ gb427)); have n17_ := Aside0.mk ((neL hg (lK BK404.out) : gb404 ≠ gb427)); have n18_ := Aside0.mk ((neG hg (lK BK404.out) : gb427 ≠ gb404)); have n19_ := Aside0.mk ((neL hg (lK BK405.out) : gb405 ≠ gb427)); have n20_ := Aside0.mk ((neG hg (lK BK405.out) : gb427 ≠ gb405)); have n21_ := Aside0.mk ((neL hg (lK BK419.out) : gb419 ≠ gb427)); have n22_ := Aside0.mk ((neG hg (lK BK419.out) : gb427 ≠ gb419)); clear HO392; clear HO395; clear HO399; clear HO402; clear HO408; clear HO411; clear HO415; clear HO418; clear HO422; clear HO425; clear BK404; clear BK405; clear BK419; clear HB; have HO392 := n0_; have HO395 := n1_; have HO399 := n2_; have HO402 := n3_; have HO408 := n4_; have HO411 := n5_; have HO415 := n6_; have HO418 := n7_; have HO422 := n8_; have HO425 := n9_; have BK404 := n10_; have BK405 := n11_; have BK419 := n12_; have HB := n13_; have BK427 := n14_; have GW427 := n15_; have GE427 := n16_; have NB404_427 := n17_; have NB427_404 := n18_; have NB405_427 := n19_; have NB427_405 := n20_; have NB419_427 := n21_; have NB427_419 := n22_; clear n0_ n1_ n2_ n3_ n4_ n5_ n6_ n7_ n8_ n9_ n10_ n11_ n12_ n13_ n14_ n15_ n16_ n17_ n18_ n19_ n20_ n21_ n22_; clear hb hbox hg; obtain ⟨Ao31, co31, eo31⟩ := Kd.R_slice HO422.out; subst eo31; have hnb32 := NB427_404.out; have hnc32 := NB404_427.out; have hnb33 := NB427_405.out; have hnc33 := NB405_427.out; have hnb34 := NB427_419.out; have hnc34 := NB419_427.out; have hcz35_0 : w30.cell? ⟨gb427, 0, none⟩ = some (.slice none 0 0) := (blk_cell BK427.out 0).trans rfl; have hcz35_1 : w30.cell? ⟨gb427, 1, none⟩ = some (.slice none 0 0) := (blk_cell BK427.out 1).trans rfl; have hcz35_2 : w30.cell? ⟨gb427, 2, none⟩ = some (.int .i64 0) := (blk_cell BK427.out 2).trans rfl; have hfz35_0 := blk_frozen BK427.out 0; have hfz35_1 := blk_frozen BK427.out 1; have hfz35_2 := blk_frozen BK427.out 2; obtain ⟨Ao36, co36, eo36⟩ := Kd.R_slice HO425.out; subst eo36))
        (try simp only [Act.put, List.setIfInBounds_toArray, List.set_cons_zero, List.set_cons_succ])
        go_cut [54] (fun v54 wc => ∃ (kq : Nat) (x54_8 : Bool), v54 = .bool x54_8 ∧ Aside0 (laws_FnFrmAdd.j1 kq t413 t416 x54_8 t390 t393 t396 t397 t400 t403 t420 t423 t426 = some r) ∧ Aside0 (kq ≤ kj2) ∧ Aside0 (Kd.R (Kd.int .i64) 3 wc w.heap.size (fun k_ => some k_ ≠ (v417 : Value).ownBlock ∧ some k_ ≠ ((.slice Ao13 t390.length co13) : Value).ownBlock ∧ some k_ ≠ ((.slice Ao16 t393.length co16) : Value).ownBlock ∧ some k_ ≠ ((.slice Ao17 t397.length co17) : Value).ownBlock ∧ some k_ ≠ ((.slice Ao19 t400.length co19) : Value).ownBlock ∧ some k_ ≠ ((.slice Ao22 t406.length co22) : Value).ownBlock ∧ some k_ ≠ ((.slice Ao26 t409.length co26) : Value).ownBlock ∧ some k_ ≠ ((.slice Ao31 t420.length co31) : Value).ownBlock ∧ some k_ ≠ ((.slice Ao36 t423.length co36) : Value).ownBlock) v414 t413) ∧ Aside0 (Kd.R (Kd.int .i64) 3 wc w.heap.size (fun k_ => some k_ ≠ (v414 : Value).ownBlock ∧ some k_ ≠ ((.slice Ao13 t390.length co13) : Value).ownBlock ∧ some k_ ≠ ((.slice Ao16 t393.length co16) : Value).ownBlock ∧ some k_ ≠ ((.slice Ao17 t397.length co17) : Value).ownBlock ∧ some k_ ≠ ((.slice Ao19 t400.length co19) : Value).ownBlock ∧ some k_ ≠ ((.slice Ao22 t406.length co22) : Value).ownBlock ∧ some k_ ≠ ((.slice Ao26 t409.length co26) : Value).ownBlock ∧ some k_ ≠ ((.slice Ao31 t420.length co31) : Value).ownBlock ∧ some k_ ≠ ((.slice Ao36 t423.length co36) : Value).ownBlock) v417 t416) ∧ Aside0 (Kd.R (Kd.int .i64) 3 wc w.heap.size (fun k_ => some k_ ≠ (v414 : Value).ownBlock ∧ some k_ ≠ (v417 : Value).ownBlock ∧ some k_ ≠ ((.slice Ao16 t393.length co16) : Value).ownBlock ∧ some k_ ≠ ((.slice Ao17 t397.length co17) : Value).ownBlock ∧ some k_ ≠ ((.slice Ao19 t400.length co19) : Value).ownBlock ∧ some k_ ≠ ((.slice Ao22 t406.length co22) : Value).ownBlock ∧ some k_ ≠ ((.slice Ao26 t409.length co26) : Value).ownBlock ∧ some k_ ≠ ((.slice Ao31 t420.length co31) : Value).ownBlock ∧ some k_ ≠ ((.slice Ao36 t423.length co36) : Value).ownBlock) (.slice Ao13 t390.length co13) t390) ∧ Aside0 (Kd.R (Kd.int .i64) 3 wc w.heap.size (fun k_ => some k_ ≠ (v414 : Value).ownBlock ∧ some k_ ≠ (v417 : Value).ownBlock ∧ some k_ ≠ ((.slice Ao13 t390.length co13) : Value).ownBlock ∧ some k_ ≠ ((.slice Ao17 t397.length co17) : Value).ownBlock ∧ some k_ ≠ ((.slice Ao19 t400.length co19) : Value).ownBlock ∧ some k_ ≠ ((.slice Ao22 t406.length co22) : Value).ownBlock ∧ some k_ ≠ ((.slice Ao26 t409.length co26) : Value).ownBlock ∧ some k_ ≠ ((.slice Ao31 t420.length co31) : Value).ownBlock ∧ some k_ ≠ ((.slice Ao36 t423.length co36) : Value).ownBlock) (.slice Ao16 t393.length co16) t393) ∧ Aside0 (Kd.R (Kd.int .i64) 3 wc w.heap.size (fun k_ => some k_ ≠ (v414 : Value).ownBlock ∧ some k_ ≠ (v417 : Value).ownBlock ∧ some k_ ≠ ((.slice Ao13 t390.length co13) : Value).ownBlock ∧ some k_ ≠ ((.slice Ao16 t393.length co16) : Value).ownBlock ∧ some k_ ≠ ((.slice Ao19 t400.length co19) : Value).ownBlock ∧ some k_ ≠ ((.slice Ao22 t406.length co22) : Value).ownBlock ∧ some k_ ≠ ((.slice Ao26 t409.length co26) : Value).ownBlock ∧ some k_ ≠ ((.slice Ao31 t420.length co31) : Value).ownBlock ∧ some k_ ≠ ((.slice Ao36 t423.length co36) : Value).ownBlock) (.slice Ao17 t397.length co17) t397) ∧ Aside0 (Kd.R (Kd.int .i64) 3 wc w.heap.size (fun k_ => some k_ ≠ (v414 : Value).ownBlock ∧ some k_ ≠ (v417 : Value).ownBlock ∧ some k_ ≠ ((.slice Ao13 t390.length co13) : Value).ownBlock ∧ some k_ ≠ ((.slice Ao16 t393.length co16) : Value).ownBlock ∧ some k_ ≠ ((.slice Ao17 t397.length co17) : Value).ownBlock ∧ some k_ ≠ ((.slice Ao22 t406.length co22) : Value).ownBlock ∧ some k_ ≠ ((.slice Ao26 t409.length co26) : Value).ownBlock ∧ some k_ ≠ ((.slice Ao31 t420.length co31) : Value).ownBlock ∧ some k_ ≠ ((.slice Ao36 t423.length co36) : Value).ownBlock) (.slice Ao19 t400.length co19) t400) ∧ Aside0 (Kd.R (Kd.int .i64) 3 wc w.heap.size (fun k_ => some k_ ≠ (v414 : Value).ownBlock ∧ some k_ ≠ (v417 : Value).ownBlock ∧ some k_ ≠ ((.slice Ao13 t390.length co13) : Value).ownBlock ∧ some k_ ≠ ((.slice Ao16 t393.length co16) : Value).ownBlock ∧ some k_ ≠ ((.slice Ao17 t397.length co17) : Value).ownBlock ∧ some k_ ≠ ((.slice Ao19 t400.length co19) : Value).ownBlock ∧ some k_ ≠ ((.slice Ao26 t409.length co26) : Value).ownBlock ∧ some k_ ≠ ((.slice Ao31 t420.length co31) : Value).ownBlock ∧ some k_ ≠ ((.slice Ao36 t423.length co36) : Value).ownBlock) (.slice Ao22 t406.length co22) t406) ∧ Aside0 (Kd.R (Kd.int .i64) 3 wc w.heap.size (fun k_ => some k_ ≠ (v414 : Value).ownBlock ∧ some k_ ≠ (v417 : Value).ownBlock ∧ some k_ ≠ ((.slice Ao13 t390.length co13) : Value).ownBlock ∧ some k_ ≠ ((.slice Ao16 t393.length co16) : Value).ownBlock ∧ some k_ ≠ ((.slice Ao17 t397.length co17) : Value).ownBlock ∧ some k_ ≠ ((.slice Ao19 t400.length co19) : Value).ownBlock ∧ some k_ ≠ ((.slice Ao22 t406.length co22) : Value).ownBlock ∧ some k_ ≠ ((.slice Ao31 t420.length co31) : Value).ownBlock ∧ some k_ ≠ ((.slice Ao36 t423.length co36) : Value).ownBlock) (.slice Ao26 t409.length co26) t409) ∧ Aside0 (Kd.R (Kd.int .i64) 3 wc w.heap.size (fun k_ => some k_ ≠ (v414 : Value).ownBlock ∧ some k_ ≠ (v417 : Value).ownBlock ∧ some k_ ≠ ((.slice Ao13 t390.length co13) : Value).ownBlock ∧ some k_ ≠ ((.slice Ao16 t393.length co16) : Value).ownBlock ∧ some k_ ≠ ((.slice Ao17 t397.length co17) : Value).ownBlock ∧ some k_ ≠ ((.slice Ao19 t400.length co19) : Value).ownBlock ∧ some k_ ≠ ((.slice Ao22 t406.length co22) : Value).ownBlock ∧ some k_ ≠ ((.slice Ao26 t409.length co26) : Value).ownBlock ∧ some k_ ≠ ((.slice Ao36 t423.length co36) : Value).ownBlock) (.slice Ao31 t420.length co31) t420) ∧ Aside0 (Kd.R (Kd.int .i64) 3 wc w.heap.size (fun k_ => some k_ ≠ (v414 : Value).ownBlock ∧ some k_ ≠ (v417 : Value).ownBlock ∧ some k_ ≠ ((.slice Ao13 t390.length co13) : Value).ownBlock ∧ some k_ ≠ ((.slice Ao16 t393.length co16) : Value).ownBlock ∧ some k_ ≠ ((.slice Ao17 t397.length co17) : Value).ownBlock ∧ some k_ ≠ ((.slice Ao19 t400.length co19) : Value).ownBlock ∧ some k_ ≠ ((.slice Ao22 t406.length co22) : Value).ownBlock ∧ some k_ ≠ ((.slice Ao26 t409.length co26) : Value).ownBlock ∧ some k_ ≠ ((.slice Ao31 t420.length co31) : Value).ownBlock) (.slice Ao36 t423.length co36) t423) ∧ Aside0 (wc.heap[gb404]? = some (.cells #[(.slice Ao13 t390.length co13), (.slice Ao16 t393.length co16), .int .i64 t396] 25 (0, 0))) ∧ Aside0 (wc.heap[gb405]? = some (.cells #[(.slice Ao17 t397.length co17), (.slice Ao19 t400.length co19), .int .i64 t403] 25 (0, 0))) ∧ Aside0 (wc.heap[gb419]? = some (.cells #[(.slice Ao22 t406.length co22), (.slice Ao26 t409.length co26), .int .i64 t412] 25 (0, 0))) ∧ Aside0 (wc.heap[gb427]? = some (.cells #[(.slice Ao31 t420.length co31), (.slice Ao36 t423.length co36), .int .i64 t426] 25 (0, 0))) ∧ Aside0 (Below w.heap.size w wc))
        case first =>
          have H := HC9.out
          clear HC9
          replace H := Option.bind_eq_some_iff.mp H
          obtain ⟨⟨t428, t431, t434⟩, A370, H⟩ := H
          replace H : ((laws_coForm.f kj2 t420 t423 t426 t428 t431 t434).bind fun t435 => (if t435 = true then ((impl_FrmAdd.f t397 t400 t403 t390 t393 t396).bind fun bt436 => ((laws_coForm.f kj2 t420 t423 t426 bt436.1 bt436.2.1 bt436.2.2).bind fun t443 => (laws_FnFrmAdd.j1 kj2 t413 t416 (!t443) t390 t393 t396 t397 t400 t403 t420 t423 t426))) else (laws_FnFrmAdd.j1 kj2 t413 t416 true t390 t393 t396 t397 t400 t403 t420 t423 t426))) = some r := H
          have A37 := Aside0.mk A370
          clear A370
          replace H := Option.bind_eq_some_iff.mp H
          obtain ⟨t435, A380, H⟩ := H
          replace H : (if t435 = true then ((impl_FrmAdd.f t397 t400 t403 t390 t393 t396).bind fun bt436 => ((laws_coForm.f kj2 t420 t423 t426 bt436.1 bt436.2.1 bt436.2.2).bind fun t443 => (laws_FnFrmAdd.j1 kj2 t413 t416 (!t443) t390 t393 t396 t397 t400 t403 t420 t423 t426))) else (laws_FnFrmAdd.j1 kj2 t413 t416 true t390 t393 t396 t397 t400 t403 t420 t423 t426)) = some r := H
          have A38 := Aside0.mk A380
          clear A380
          by_cases c39 : t435 = true
          · subst c39
            have H1 : ((impl_FrmAdd.f t397 t400 t403 t390 t393 t396).bind fun bt436 => ((laws_coForm.f kj2 t420 t423 t426 bt436.1 bt436.2.1 bt436.2.2).bind fun t443 => (laws_FnFrmAdd.j1 kj2 t413 t416 (!t443) t390 t393 t396 t397 t400 t403 t420 t423 t426))) = some r := by rw [if_pos rfl] at H; exact H
            clear H
            have H := H1
            clear H1
            replace H := Option.bind_eq_some_iff.mp H
            obtain ⟨⟨t436, t439, t442⟩, A400, H⟩ := H
            replace H : ((laws_coForm.f kj2 t420 t423 t426 t436 t439 t442).bind fun t443 => (laws_FnFrmAdd.j1 kj2 t413 t416 (!t443) t390 t393 t396 t397 t400 t403 t420 t423 t426)) = some r := H
            have A40 := Aside0.mk A400
            clear A400
            replace H := Option.bind_eq_some_iff.mp H
            obtain ⟨t443, A410, H⟩ := H
            replace H : (laws_FnFrmAdd.j1 kj2 t413 t416 (!t443) t390 t393 t396 t397 t400 t403 t420 t423 t426) = some r := H
            have A41 := Aside0.mk A410
            clear A410
            have H' := Aside0.mk H
            clear H
            try go_wp2
            have n0_ : Aside0 (Kd.R (Kd.int .i64) 3 (((w30.setCell ⟨gb427, 0, none⟩ (.slice Ao31 t420.length co31)).setCell ⟨gb427, 1, none⟩ (.slice Ao36 t423.length co36)).setCell ⟨gb427, 2, none⟩ (.int .i64 t426)) w.heap.size (fun k_ => some k_ ≠ (.slice Ao16 t393.length co16 : Value).ownBlock ∧ some k_ ≠ (.slice Ao17 t397.length co17 : Value).ownBlock ∧ some k_ ≠ (.slice Ao19 t400.length co19 : Value).ownBlock ∧ some k_ ≠ (.slice Ao22 t406.length co22 : Value).ownBlock ∧ some k_ ≠ (.slice Ao26 t409.length co26 : Value).ownBlock ∧ some k_ ≠ (v414 : Value).ownBlock ∧ some k_ ≠ (v417 : Value).ownBlock ∧ some k_ ≠ (.slice Ao31 t420.length co31 : Value).ownBlock ∧ some k_ ≠ (.slice Ao36 t423.length co36 : Value).ownBlock) (.slice Ao13 t390.length co13) t390) := ⟨by exact lR <| Kd.R_mono (Kd.R_far (p := ⟨gb427, 2, none⟩) (Kd.R_far (p := ⟨gb427, 1, none⟩) (Kd.R_far (p := ⟨gb427, 0, none⟩) (Kd.R_types HO392.out BK427.out (by decide)) (fun _ hk => hk.2) (.slice Ao31 t420.length co31)) (fun _ hk => hk.2) (.slice Ao36 t423.length co36)) (fun _ hk => hk.2) (.int .i64 t426)) (fun _ hk => ⟨hk.1.1.1.1.1.1.1.1, ⟨hk.1.1.1.1.1.1.1.2.1, ⟨hk.1.1.1.1.1.1.1.2.2, ⟨hk.1.1.1.1.1.1.2, ⟨hk.1.1.1.1.1.2, ⟨hk.1.1.1.1.2, ⟨hk.1.1.1.2, ⟨hk.1.1.2, hk.1.2⟩⟩⟩⟩⟩⟩⟩⟩)⟩
            have n1_ : Aside0 (Kd.R (Kd.int .i64) 3 (((w30.setCell ⟨gb427, 0, none⟩ (.slice Ao31 t420.length co31)).setCell ⟨gb427, 1, none⟩ (.slice Ao36 t423.length co36)).setCell ⟨gb427, 2, none⟩ (.int .i64 t426)) w.heap.size (fun k_ => some k_ ≠ (.slice Ao13 t390.length co13 : Value).ownBlock ∧ some k_ ≠ (.slice Ao17 t397.length co17 : Value).ownBlock ∧ some k_ ≠ (.slice Ao19 t400.length co19 : Value).ownBlock ∧ some k_ ≠ (.slice Ao22 t406.length co22 : Value).ownBlock ∧ some k_ ≠ (.slice Ao26 t409.length co26 : Value).ownBlock ∧ some k_ ≠ (v414 : Value).ownBlock ∧ some k_ ≠ (v417 : Value).ownBlock ∧ some k_ ≠ (.slice Ao31 t420.length co31 : Value).ownBlock ∧ some k_ ≠ (.slice Ao36 t423.length co36 : Value).ownBlock) (.slice Ao16 t393.length co16) t393) := ⟨by exact lR <| Kd.R_mono (Kd.R_far (p := ⟨gb427, 2, none⟩) (Kd.R_far (p := ⟨gb427, 1, none⟩) (Kd.R_far (p := ⟨gb427, 0, none⟩) (Kd.R_types HO395.out BK427.out (by decide)) (fun _ hk => hk.2) (.slice Ao31 t420.length co31)) (fun _ hk => hk.2) (.slice Ao36 t423.length co36)) (fun _ hk => hk.2) (.int .i64 t426)) (fun _ hk => ⟨hk.1.1.1.1.1.1.1.1, ⟨hk.1.1.1.1.1.1.1.2.1, ⟨hk.1.1.1.1.1.1.1.2.2, ⟨hk.1.1.1.1.1.1.2, ⟨hk.1.1.1.1.1.2, ⟨hk.1.1.1.1.2, ⟨hk.1.1.1.2, ⟨hk.1.1.2, hk.1.2⟩⟩⟩⟩⟩⟩⟩⟩)⟩
            have n2_ : Aside0 (Kd.R (Kd.int .i64) 3 (((w30.setCell ⟨gb427, 0, none⟩ (.slice Ao31 t420.length co31)).setCell ⟨gb427, 1, none⟩ (.slice Ao36 t423.length co36)).setCell ⟨gb427, 2, none⟩ (.int .i64 t426)) w.heap.size (fun k_ => some k_ ≠ (.slice Ao13 t390.length co13 : Value).ownBlock ∧ some k_ ≠ (.slice Ao16 t393.length co16 : Value).ownBlock ∧ some k_ ≠ (.slice Ao19 t400.length co19 : Value).ownBlock ∧ some k_ ≠ (.slice Ao22 t406.length co22 : Value).ownBlock ∧ some k_ ≠ (.slice Ao26 t409.length co26 : Value).ownBlock ∧ some k_ ≠ (v414 : Value).ownBlock ∧ some k_ ≠ (v417 : Value).ownBlock ∧ some k_ ≠ (.slice Ao31 t420.length co31 : Value).ownBlock ∧ some k_ ≠ (.slice Ao36 t423.length co36 : Value).ownBlock) (.slice Ao17 t397.length co17) t397) := ⟨by exact lR <| Kd.R_mono (Kd.R_far (p := ⟨gb427, 2, none⟩) (Kd.R_far (p := ⟨gb427, 1, none⟩) (Kd.R_far (p := ⟨gb427, 0, none⟩) (Kd.R_types HO399.out BK427.out (by decide)) (fun _ hk => hk.2) (.slice Ao31 t420.length co31)) (fun _ hk => hk.2) (.slice Ao36 t423.length co36)) (fun _ hk => hk.2) (.int .i64 t426)) (fun _ hk => ⟨hk.1.1.1.1.1.1.1.1, ⟨hk.1.1.1.1.1.1.1.2.1, ⟨hk.1.1.1.1.1.1.1.2.2, ⟨hk.1.1.1.1.1.1.2, ⟨hk.1.1.1.1.1.2, ⟨hk.1.1.1.1.2, ⟨hk.1.1.1.2, ⟨hk.1.1.2, hk.1.2⟩⟩⟩⟩⟩⟩⟩⟩)⟩
            have n3_ : Aside0 (Kd.R (Kd.int .i64) 3 (((w30.setCell ⟨gb427, 0, none⟩ (.slice Ao31 t420.length co31)).setCell ⟨gb427, 1, none⟩ (.slice Ao36 t423.length co36)).setCell ⟨gb427, 2, none⟩ (.int .i64 t426)) w.heap.size (fun k_ => some k_ ≠ (.slice Ao13 t390.length co13 : Value).ownBlock ∧ some k_ ≠ (.slice Ao16 t393.length co16 : Value).ownBlock ∧ some k_ ≠ (.slice Ao17 t397.length co17 : Value).ownBlock ∧ some k_ ≠ (.slice Ao22 t406.length co22 : Value).ownBlock ∧ some k_ ≠ (.slice Ao26 t409.length co26 : Value).ownBlock ∧ some k_ ≠ (v414 : Value).ownBlock ∧ some k_ ≠ (v417 : Value).ownBlock ∧ some k_ ≠ (.slice Ao31 t420.length co31 : Value).ownBlock ∧ some k_ ≠ (.slice Ao36 t423.length co36 : Value).ownBlock) (.slice Ao19 t400.length co19) t400) := ⟨by exact lR <| Kd.R_mono (Kd.R_far (p := ⟨gb427, 2, none⟩) (Kd.R_far (p := ⟨gb427, 1, none⟩) (Kd.R_far (p := ⟨gb427, 0, none⟩) (Kd.R_types HO402.out BK427.out (by decide)) (fun _ hk => hk.2) (.slice Ao31 t420.length co31)) (fun _ hk => hk.2) (.slice Ao36 t423.length co36)) (fun _ hk => hk.2) (.int .i64 t426)) (fun _ hk => ⟨hk.1.1.1.1.1.1.1.1, ⟨hk.1.1.1.1.1.1.1.2.1, ⟨hk.1.1.1.1.1.1.1.2.2, ⟨hk.1.1.1.1.1.1.2, ⟨hk.1.1.1.1.1.2, ⟨hk.1.1.1.1.2, ⟨hk.1.1.1.2, ⟨hk.1.1.2, hk.1.2⟩⟩⟩⟩⟩⟩⟩⟩)⟩
            have n4_ : Aside0 (Kd.R (Kd.int .i64) 3 (((w30.setCell ⟨gb427, 0, none⟩ (.slice Ao31 t420.length co31)).setCell ⟨gb427, 1, none⟩ (.slice Ao36 t423.length co36)).setCell ⟨gb427, 2, none⟩ (.int .i64 t426)) w.heap.size (fun k_ => some k_ ≠ (.slice Ao13 t390.length co13 : Value).ownBlock ∧ some k_ ≠ (.slice Ao16 t393.length co16 : Value).ownBlock ∧ some k_ ≠ (.slice Ao17 t397.length co17 : Value).ownBlock ∧ some k_ ≠ (.slice Ao19 t400.length co19 : Value).ownBlock ∧ some k_ ≠ (.slice Ao26 t409.length co26 : Value).ownBlock ∧ some k_ ≠ (v414 : Value).ownBlock ∧ some k_ ≠ (v417 : Value).ownBlock ∧ some k_ ≠ (.slice Ao31 t420.length co31 : Value).ownBlock ∧ some k_ ≠ (.slice Ao36 t423.length co36 : Value).ownBlock) (.slice Ao22 t406.length co22) t406) := ⟨by exact lR <| Kd.R_mono (Kd.R_far (p := ⟨gb427, 2, none⟩) (Kd.R_far (p := ⟨gb427, 1, none⟩) (Kd.R_far (p := ⟨gb427, 0, none⟩) (Kd.R_types HO408.out BK427.out (by decide)) (fun _ hk => hk.2) (.slice Ao31 t420.length co31)) (fun _ hk => hk.2) (.slice Ao36 t423.length co36)) (fun _ hk => hk.2) (.int .i64 t426)) (fun _ hk => ⟨hk.1.1.1.1.1.1.2, ⟨hk.1.1.1.1.1.2, ⟨hk.1.1.1.1.2, ⟨hk.1.1.1.2, ⟨hk.1.1.1.1.1.1.1.1, ⟨hk.1.1.1.1.1.1.1.2.1, ⟨hk.1.1.1.1.1.1.1.2.2, ⟨hk.1.1.2, hk.1.2⟩⟩⟩⟩⟩⟩⟩⟩)⟩
            have n5_ : Aside0 (Kd.R (Kd.int .i64) 3 (((w30.setCell ⟨gb427, 0, none⟩ (.slice Ao31 t420.length co31)).setCell ⟨gb427, 1, none⟩ (.slice Ao36 t423.length co36)).setCell ⟨gb427, 2, none⟩ (.int .i64 t426)) w.heap.size (fun k_ => some k_ ≠ (.slice Ao13 t390.length co13 : Value).ownBlock ∧ some k_ ≠ (.slice Ao16 t393.length co16 : Value).ownBlock ∧ some k_ ≠ (.slice Ao17 t397.length co17 : Value).ownBlock ∧ some k_ ≠ (.slice Ao19 t400.length co19 : Value).ownBlock ∧ some k_ ≠ (.slice Ao22 t406.length co22 : Value).ownBlock ∧ some k_ ≠ (v414 : Value).ownBlock ∧ some k_ ≠ (v417 : Value).ownBlock ∧ some k_ ≠ (.slice Ao31 t420.length co31 : Value).ownBlock ∧ some k_ ≠ (.slice Ao36 t423.length co36 : Value).ownBlock) (.slice Ao26 t409.length co26) t409) := ⟨by exact lR <| Kd.R_mono (Kd.R_far (p := ⟨gb427, 2, none⟩) (Kd.R_far (p := ⟨gb427, 1, none⟩) (Kd.R_far (p := ⟨gb427, 0, none⟩) (Kd.R_types HO411.out BK427.out (by decide)) (fun _ hk => hk.2) (.slice Ao31 t420.length co31)) (fun _ hk => hk.2) (.slice Ao36 t423.length co36)) (fun _ hk => hk.2) (.int .i64 t426)) (fun _ hk => ⟨hk.1.1.1.1.1.1.2, ⟨hk.1.1.1.1.1.2, ⟨hk.1.1.1.1.2, ⟨hk.1.1.1.2, ⟨hk.1.1.1.1.1.1.1.1, ⟨hk.1.1.1.1.1.1.1.2.1, ⟨hk.1.1.1.1.1.1.1.2.2, ⟨hk.1.1.2, hk.1.2⟩⟩⟩⟩⟩⟩⟩⟩)⟩
            have n6_ : Aside0 (Kd.R (Kd.int .i64) 3 (((w30.setCell ⟨gb427, 0, none⟩ (.slice Ao31 t420.length co31)).setCell ⟨gb427, 1, none⟩ (.slice Ao36 t423.length co36)).setCell ⟨gb427, 2, none⟩ (.int .i64 t426)) w.heap.size (fun k_ => some k_ ≠ (.slice Ao13 t390.length co13 : Value).ownBlock ∧ some k_ ≠ (.slice Ao16 t393.length co16 : Value).ownBlock ∧ some k_ ≠ (.slice Ao17 t397.length co17 : Value).ownBlock ∧ some k_ ≠ (.slice Ao19 t400.length co19 : Value).ownBlock ∧ some k_ ≠ (.slice Ao22 t406.length co22 : Value).ownBlock ∧ some k_ ≠ (.slice Ao26 t409.length co26 : Value).ownBlock ∧ some k_ ≠ (v417 : Value).ownBlock ∧ some k_ ≠ (.slice Ao31 t420.length co31 : Value).ownBlock ∧ some k_ ≠ (.slice Ao36 t423.length co36 : Value).ownBlock) v414 t413) := ⟨by exact lR <| Kd.R_mono (Kd.R_far (p := ⟨gb427, 2, none⟩) (Kd.R_far (p := ⟨gb427, 1, none⟩) (Kd.R_far (p := ⟨gb427, 0, none⟩) (Kd.R_types HO415.out BK427.out (by decide)) (fun _ hk => hk.2) (.slice Ao31 t420.length co31)) (fun _ hk => hk.2) (.slice Ao36 t423.length co36)) (fun _ hk => hk.2) (.int .i64 t426)) (fun _ hk => ⟨hk.1.1.1.1.1.1.2, ⟨hk.1.1.1.1.1.2, ⟨hk.1.1.1.1.2, ⟨hk.1.1.1.2, ⟨hk.1.1.1.1.1.1.1.1, ⟨hk.1.1.1.1.1.1.1.2.1, ⟨hk.1.1.1.1.1.1.1.2.2, ⟨hk.1.1.2, hk.1.2⟩⟩⟩⟩⟩⟩⟩⟩)⟩
            have n7_ : Aside0 (Kd.R (Kd.int .i64) 3 (((w30.setCell ⟨gb427, 0, none⟩ (.slice Ao31 t420.length co31)).setCell ⟨gb427, 1, none⟩ (.slice Ao36 t423.length co36)).setCell ⟨gb427, 2, none⟩ (.int .i64 t426)) w.heap.size (fun k_ => some k_ ≠ (.slice Ao13 t390.length co13 : Value).ownBlock ∧ some k_ ≠ (.slice Ao16 t393.length co16 : Value).ownBlock ∧ some k_ ≠ (.slice Ao17 t397.length co17 : Value).ownBlock ∧ some k_ ≠ (.slice Ao19 t400.length co19 : Value).ownBlock ∧ some k_ ≠ (.slice Ao22 t406.length co22 : Value).ownBlock ∧ some k_ ≠ (.slice Ao26 t409.length co26 : Value).ownBlock ∧ some k_ ≠ (v414 : Value).ownBlock ∧ some k_ ≠ (.slice Ao31 t420.length co31 : Value).ownBlock ∧ some k_ ≠ (.slice Ao36 t423.length co36 : Value).ownBlock) v417 t416) := ⟨by exact lR <| Kd.R_mono (Kd.R_far (p := ⟨gb427, 2, none⟩) (Kd.R_far (p := ⟨gb427, 1, none⟩) (Kd.R_far (p := ⟨gb427, 0, none⟩) (Kd.R_types HO418.out BK427.out (by decide)) (fun _ hk => hk.2) (.slice Ao31 t420.length co31)) (fun _ hk => hk.2) (.slice Ao36 t423.length co36)) (fun _ hk => hk.2) (.int .i64 t426)) (fun _ hk => ⟨hk.1.1.1.1.1.1.2, ⟨hk.1.1.1.1.1.2, ⟨hk.1.1.1.1.2, ⟨hk.1.1.1.2, ⟨hk.1.1.1.1.1.1.1.1, ⟨hk.1.1.1.1.1.1.1.2.1, ⟨hk.1.1.1.1.1.1.1.2.2, ⟨hk.1.1.2, hk.1.2⟩⟩⟩⟩⟩⟩⟩⟩)⟩
            have n8_ : Aside0 (Kd.R (Kd.int .i64) 3 (((w30.setCell ⟨gb427, 0, none⟩ (.slice Ao31 t420.length co31)).setCell ⟨gb427, 1, none⟩ (.slice Ao36 t423.length co36)).setCell ⟨gb427, 2, none⟩ (.int .i64 t426)) w.heap.size (fun k_ => some k_ ≠ (.slice Ao13 t390.length co13 : Value).ownBlock ∧ some k_ ≠ (.slice Ao16 t393.length co16 : Value).ownBlock ∧ some k_ ≠ (.slice Ao17 t397.length co17 : Value).ownBlock ∧ some k_ ≠ (.slice Ao19 t400.length co19 : Value).ownBlock ∧ some k_ ≠ (.slice Ao22 t406.length co22 : Value).ownBlock ∧ some k_ ≠ (.slice Ao26 t409.length co26 : Value).ownBlock ∧ some k_ ≠ (v414 : Value).ownBlock ∧ some k_ ≠ (v417 : Value).ownBlock ∧ some k_ ≠ (.slice Ao36 t423.length co36 : Value).ownBlock) (.slice Ao31 t420.length co31) t420) := ⟨by exact lR <| Kd.R_mono (Kd.R_far (p := ⟨gb427, 2, none⟩) (Kd.R_far (p := ⟨gb427, 1, none⟩) (Kd.R_far (p := ⟨gb427, 0, none⟩) (Kd.R_types HO422.out BK427.out (by decide)) (fun _ hk => hk.2) (.slice Ao31 t420.length co31)) (fun _ hk => hk.2) (.slice Ao36 t423.length co36)) (fun _ hk => hk.2) (.int .i64 t426)) (fun _ hk => ⟨hk.1.1.1.1.1.1.1.1.2, ⟨hk.1.1.1.1.1.1.1.2, ⟨hk.1.1.1.1.1.1.2, ⟨hk.1.1.1.1.1.2, ⟨hk.1.1.1.1.2, ⟨hk.1.1.1.2, ⟨hk.1.1.2, ⟨hk.1.2, hk.1.1.1.1.1.1.1.1.1⟩⟩⟩⟩⟩⟩⟩⟩)⟩
            have n9_ : Aside0 (Kd.R (Kd.int .i64) 3 (((w30.setCell ⟨gb427, 0, none⟩ (.slice Ao31 t420.length co31)).setCell ⟨gb427, 1, none⟩ (.slice Ao36 t423.length co36)).setCell ⟨gb427, 2, none⟩ (.int .i64 t426)) w.heap.size (fun k_ => some k_ ≠ (.slice Ao13 t390.length co13 : Value).ownBlock ∧ some k_ ≠ (.slice Ao16 t393.length co16 : Value).ownBlock ∧ some k_ ≠ (.slice Ao17 t397.length co17 : Value).ownBlock ∧ some k_ ≠ (.slice Ao19 t400.length co19 : Value).ownBlock ∧ some k_ ≠ (.slice Ao22 t406.length co22 : Value).ownBlock ∧ some k_ ≠ (.slice Ao26 t409.length co26 : Value).ownBlock ∧ some k_ ≠ (v414 : Value).ownBlock ∧ some k_ ≠ (v417 : Value).ownBlock ∧ some k_ ≠ (.slice Ao31 t420.length co31 : Value).ownBlock) (.slice Ao36 t423.length co36) t423) := ⟨by exact lR <| Kd.R_mono (Kd.R_far (p := ⟨gb427, 2, none⟩) (Kd.R_far (p := ⟨gb427, 1, none⟩) (Kd.R_far (p := ⟨gb427, 0, none⟩) (Kd.R_types HO425.out BK427.out (by decide)) (fun _ hk => hk.2) (.slice Ao31 t420.length co31)) (fun _ hk => hk.2) (.slice Ao36 t423.length co36)) (fun _ hk => hk.2) (.int .i64 t426)) (fun _ hk => ⟨hk.1.1.1.1.1.1.1.1.2, ⟨hk.1.1.1.1.1.1.1.2, ⟨hk.1.1.1.1.1.1.2, ⟨hk.1.1.1.1.1.2, ⟨hk.1.1.1.1.2, ⟨hk.1.1.1.2, ⟨hk.1.1.2, ⟨hk.1.2, hk.1.1.1.1.1.1.1.1.1⟩⟩⟩⟩⟩⟩⟩⟩)⟩
            have n10_ : Aside0 ((((w30.setCell ⟨gb427, 0, none⟩ (.slice Ao31 t420.length co31)).setCell ⟨gb427, 1, none⟩ (.slice Ao36 t423.length co36)).setCell ⟨gb427, 2, none⟩ (.int .i64 t426)).heap[gb404]? = some (.cells #[.slice Ao13 t390.length co13, .slice Ao16 t393.length co16, .int .i64 t396] 25 (0, 0))) := ⟨by (with_reducible repeat (first | refine blk_drewN ?_ _ | refine blk_drew ?_ | refine blk_alloc ?_ _)); refine blk_far ?_ NB404_427.out _; (with_reducible repeat (first | refine blk_drewN ?_ _ | refine blk_drew ?_ | refine blk_alloc ?_ _)); refine blk_far ?_ NB404_427.out _; (with_reducible repeat (first | refine blk_drewN ?_ _ | refine blk_drew ?_ | refine blk_alloc ?_ _)); refine blk_far ?_ NB404_427.out _; exact lK <| BK404.out⟩
            have n11_ : Aside0 ((((w30.setCell ⟨gb427, 0, none⟩ (.slice Ao31 t420.length co31)).setCell ⟨gb427, 1, none⟩ (.slice Ao36 t423.length co36)).setCell ⟨gb427, 2, none⟩ (.int .i64 t426)).heap[gb405]? = some (.cells #[.slice Ao17 t397.length co17, .slice Ao19 t400.length co19, .int .i64 t403] 25 (0, 0))) := ⟨by (with_reducible repeat (first | refine blk_drewN ?_ _ | refine blk_drew ?_ | refine blk_alloc ?_ _)); refine blk_far ?_ NB405_427.out _; (with_reducible repeat (first | refine blk_drewN ?_ _ | refine blk_drew ?_ | refine blk_alloc ?_ _)); refine blk_far ?_ NB405_427.out _; (with_reducible repeat (first | refine blk_drewN ?_ _ | refine blk_drew ?_ | refine blk_alloc ?_ _)); refine blk_far ?_ NB405_427.out _; exact lK <| BK405.out⟩
            have n12_ : Aside0 ((((w30.setCell ⟨gb427, 0, none⟩ (.slice Ao31 t420.length co31)).setCell ⟨gb427, 1, none⟩ (.slice Ao36 t423.length co36)).setCell ⟨gb427, 2, none⟩ (.int .i64 t426)).heap[gb419]? = some (.cells #[.slice Ao22 t406.length co22, .slice Ao26 t409.length co26, .int .i64 t412] 25 (0, 0))) := ⟨by (with_reducible repeat (first | refine blk_drewN ?_ _ | refine blk_drew ?_ | refine blk_alloc ?_ _)); refine blk_far ?_ NB419_427.out _; (with_reducible repeat (first | refine blk_drewN ?_ _ | refine blk_drew ?_ | refine blk_alloc ?_ _)); refine blk_far ?_ NB419_427.out _; (with_reducible repeat (first | refine blk_drewN ?_ _ | refine blk_drew ?_ | refine blk_alloc ?_ _)); refine blk_far ?_ NB419_427.out _; exact lK <| BK419.out⟩
            have n13_ : Aside0 ((((w30.setCell ⟨gb427, 0, none⟩ (.slice Ao31 t420.length co31)).setCell ⟨gb427, 1, none⟩ (.slice Ao36 t423.length co36)).setCell ⟨gb427, 2, none⟩ (.int .i64 t426)).heap[gb427]? = some (.cells #[.slice Ao31 t420.length co31, .slice Ao36 t423.length co36, .int .i64 t426] 25 (0, 0))) := ⟨by (with_reducible repeat (first | refine blk_drewN ?_ _ | refine blk_drew ?_ | refine blk_alloc ?_ _)); refine blk_put (cs := #[.slice Ao31 t420.length co31, .slice Ao36 t423.length co36, .int .i64 0]) ?_ 2 _ rfl; (with_reducible repeat (first | refine blk_drewN ?_ _ | refine blk_drew ?_ | refine blk_alloc ?_ _)); refine blk_put (cs := #[.slice Ao31 t420.length co31, .slice none 0 0, .int .i64 0]) ?_ 1 _ rfl; (with_reducible repeat (first | refine blk_drewN ?_ _ | refine blk_drew ?_ | refine blk_alloc ?_ _)); refine blk_put (cs := #[.slice none 0 0, .slice none 0 0, .int .i64 0]) ?_ 0 _ rfl; exact lK <| BK427.out⟩
            have n14_ : Aside0 (Below w.heap.size w (((w30.setCell ⟨gb427, 0, none⟩ (.slice Ao31 t420.length co31)).setCell ⟨gb427, 1, none⟩ (.slice Ao36 t423.length co36)).setCell ⟨gb427, 2, none⟩ (.int .i64 t426))) := ⟨by repeat (first | (with_reducible first | exact HB.out | apply below_alloc | apply pw_below_drewN | apply below_drew1 | refine below_set ?_ (by first | exact GE404.out | exact GE405.out | exact GE419.out | exact GE427.out)) | exact HB.out)⟩
            (try clear HO392)
            (try clear HO395)
            (try clear HO399)
            (try clear HO402)
            (try clear HO408)
            (try clear HO411)
            (try clear HO415)
            (try clear HO418)
            (try clear HO422)
            (try clear HO425)
            (try clear BK404)
            (try clear BK405)
            (try clear BK419)
            (try clear BK427)
            (try clear HB)
            generalize (((w30.setCell ⟨gb427, 0, none⟩ (.slice Ao31 t420.length co31)).setCell ⟨gb427, 1, none⟩ (.slice Ao36 t423.length co36)).setCell ⟨gb427, 2, none⟩ (.int .i64 t426)) = w42 at n0_ n1_ n2_ n3_ n4_ n5_ n6_ n7_ n8_ n9_ n10_ n11_ n12_ n13_ n14_ ⊢
            have HO392 := n0_
            have HO395 := n1_
            have HO399 := n2_
            have HO402 := n3_
            have HO408 := n4_
            have HO411 := n5_
            have HO415 := n6_
            have HO418 := n7_
            have HO422 := n8_
            have HO425 := n9_
            have BK404 := n10_
            have BK405 := n11_
            have BK419 := n12_
            have BK427 := n13_
            have HB := n14_
            clear n0_ n1_ n2_ n3_ n4_ n5_ n6_ n7_ n8_ n9_ n10_ n11_ n12_ n13_ n14_
            have n0_ := Aside0.mk (Kd.R_drew HO392.out)
            have n1_ := Aside0.mk (Kd.R_drew HO395.out)
            have n2_ := Aside0.mk (Kd.R_drew HO399.out)
            have n3_ := Aside0.mk (Kd.R_drew HO402.out)
            have n4_ := Aside0.mk (Kd.R_drew HO408.out)
            have n5_ := Aside0.mk (Kd.R_drew HO411.out)
            have n6_ := Aside0.mk (Kd.R_drew HO415.out)
            have n7_ := Aside0.mk (Kd.R_drew HO418.out)
            have n8_ := Aside0.mk (Kd.R_drew HO422.out)
            have n9_ := Aside0.mk (Kd.R_drew HO425.out)
            have n10_ := Aside0.mk (blk_drew BK404.out)
            have n11_ := Aside0.mk (blk_drew BK405.out)
            have n12_ := Aside0.mk (blk_drew BK419.out)
            have n13_ := Aside0.mk (blk_drew BK427.out)
            have n14_ := Aside0.mk (below_drew1 HB.out)
            clear HO392
            clear HO395
            clear HO399
            clear HO402
            clear HO408
            clear HO411
            clear HO415
            clear HO418
            clear HO422
            clear HO425
            clear BK404
            clear BK405
            clear BK419
            clear BK427
            clear HB
            have HO392 := n0_
            have HO395 := n1_
            have HO399 := n2_
            have HO402 := n3_
            have HO408 := n4_
            have HO411 := n5_
            have HO415 := n6_
            have HO418 := n7_
            have HO422 := n8_
            have HO425 := n9_
            have BK404 := n10_
            have BK405 := n11_
            have BK419 := n12_
            have BK427 := n13_
            have HB := n14_
            clear n0_ n1_ n2_ n3_ n4_ n5_ n6_ n7_ n8_ n9_ n10_ n11_ n12_ n13_ n14_
            refine start_ (n := 14) (S := fun w' => w'.cell? ⟨gb427, 0, none⟩ = some (.slice Ao31 t420.length co31) ∧ w'.cell? ⟨gb427, 1, none⟩ = some (.slice Ao36 t423.length co36) ∧ w'.cell? ⟨gb427, 2, none⟩ = some (.int .i64 t426) ∧ w'.cell? ⟨gb404, 0, none⟩ = some (.slice Ao13 t390.length co13) ∧ w'.cell? ⟨gb404, 1, none⟩ = some (.slice Ao16 t393.length co16) ∧ w'.cell? ⟨gb404, 2, none⟩ = some (.int .i64 t396) ∧ w'.cell? ⟨gb405, 0, none⟩ = some (.slice Ao17 t397.length co17) ∧ w'.cell? ⟨gb405, 1, none⟩ = some (.slice Ao19 t400.length co19) ∧ w'.cell? ⟨gb405, 2, none⟩ = some (.int .i64 t403)) (ds := []) #[false, false, false, false, false, false, false, false, false, false, false, false, false, false] (by kernel_rfl) rfl rfl ⟨(blk_cell BK427.out 0).trans rfl, (blk_cell BK427.out 1).trans rfl, (blk_cell BK427.out 2).trans rfl, (blk_cell BK404.out 0).trans rfl, (blk_cell BK404.out 1).trans rfl, (blk_cell BK404.out 2).trans rfl, (blk_cell BK405.out 0).trans rfl, (blk_cell BK405.out 1).trans rfl, (blk_cell BK405.out 2).trans rfl⟩ (fun hHeld => ?_); refine with_tabW laws_FnFrmAdd.tab6 laws_FnFrmAdd.bits6 (fun HT_ HW_ => ?_)
            generalize w42.drew = w43 at HO392 HO395 HO399 HO402 HO408 HO411 HO415 HO418 HO422 HO425 BK404 BK405 BK419 BK427 HB hHeld ⊢
            refine take_ (i := 0) (N := some 41) (v := ?_) (a' := ?_) #[true, false, false, false, false, false, false, false, false, false, false, false, false, false] rfl rfl (take_ofW HT_.out HW_.out (by kernel_rfl)) (fun _ _ _ h => h) (Or.inl ⟨by rfl, ?_⟩) hHeld ?_ ?_
            rotate_left
            · rintro w' ⟨s0, s1, s2, s3, s4, s5, s6, s7, s8⟩
              go_simp
              with_reducible rfl
            rotate_left
            · simp only [Act.put, List.setIfInBounds_toArray, List.set_cons_zero, List.set_cons_succ, i64_w, i32_w]
              rfl
            refine take_ (i := 1) (N := some 42) (v := ?_) (a' := ?_) #[true, true, false, false, false, false, false, false, false, false, false, false, false, false] rfl rfl (take_ofW HT_.out HW_.out (by kernel_rfl)) (fun _ _ _ h => h) (Or.inl ⟨by rfl, ?_⟩) hHeld ?_ ?_
            rotate_left
            · rintro w' ⟨s0, s1, s2, s3, s4, s5, s6, s7, s8⟩
              go_simp
              with_reducible rfl
            rotate_left
            · simp only [Act.put, List.setIfInBounds_toArray, List.set_cons_zero, List.set_cons_succ, i64_w, i32_w]
              rfl
            refine take_ (i := 2) (N := some 43) (v := ?_) (a' := ?_) #[true, true, true, false, false, false, false, false, false, false, false, false, false, false] rfl rfl (take_ofW HT_.out HW_.out (by kernel_rfl)) (fun _ _ _ h => h) (Or.inl ⟨by rfl, ?_⟩) hHeld ?_ ?_
            rotate_left
            · rintro w' ⟨s0, s1, s2, s3, s4, s5, s6, s7, s8⟩
              go_simp
              with_reducible rfl
            rotate_left
            · simp only [Act.put, List.setIfInBounds_toArray, List.set_cons_zero, List.set_cons_succ, i64_w, i32_w]
              rfl
            refine one_ (i := 3) (N := some 44) #[true, true, true, true, false, false, false, false, false, false, false, false, false, false] rfl rfl (one_of HT_.out (by kernel_rfl)) (by decide) (fun K hK => ?_)
            refine goes_ Try.func21 (by kernel_rfl) rfl #[.agg #[.slice Ao13 t390.length co13, .slice Ao16 t393.length co16, .int .i64 t396], .agg #[.slice Ao17 t397.length co17, .slice Ao19 t400.length co19, .int .i64 t403]] (by rfl) rfl rfl (by (try simp only [List.map_toArray, List.map_cons, List.map_nil]); first | done | rfl | (simp only [List.length_drop, List.length_take]; rfl)) ?_
            with_reducible refine (spec_FrmAdd.calls kj2 _ _ t390 _ _ t393 t396 _ _ t397 _ _ t400 t403 t428 t431 t434 _ ?side1 ?side2 ?side3 ?side4 ?side5 ?side6 ?side7 ?side8 A37.out).mono ?_
            (case side1 => exact lC <| (Kd.R_reads' HO392.out).2.2)
            (case side2 => exact (Kd.R_reads' HO392.out).2.1)
            (case side3 => exact lC <| (Kd.R_reads' HO395.out).2.2)
            (case side4 => exact (Kd.R_reads' HO395.out).2.1)
            (case side5 => exact lC <| (Kd.R_reads' HO399.out).2.2)
            (case side6 => exact (Kd.R_reads' HO399.out).2.1)
            (case side7 => exact lC <| (Kd.R_reads' HO402.out).2.2)
            (case side8 => exact (Kd.R_reads' HO402.out).2.1)
            rintro e w44 ⟨v429, v432, rfl, ho0, ho1, hb⟩
            refine ⟨_, rfl, ?_⟩
            have n0_ := Aside0.mk (Kd.R_mono (Kd.R_told (Kd.R_told (Kd.R_old (by exact lR <| HO392.out) hb) (Kd.R_base ho0)) (Kd.R_base ho1)) (fun _ h_ => h_.1))
            have n1_ := Aside0.mk (Kd.R_mono (Kd.R_told (Kd.R_told (Kd.R_old (by exact lR <| HO395.out) hb) (Kd.R_base ho0)) (Kd.R_base ho1)) (fun _ h_ => h_.1))
            have n2_ := Aside0.mk (Kd.R_mono (Kd.R_told (Kd.R_told (Kd.R_old (by exact lR <| HO399.out) hb) (Kd.R_base ho0)) (Kd.R_base ho1)) (fun _ h_ => h_.1))
            have n3_ := Aside0.mk (Kd.R_mono (Kd.R_told (Kd.R_told (Kd.R_old (by exact lR <| HO402.out) hb) (Kd.R_base ho0)) (Kd.R_base ho1)) (fun _ h_ => h_.1))
            have n4_ := Aside0.mk (Kd.R_mono (Kd.R_told (Kd.R_told (Kd.R_old (by exact lR <| HO408.out) hb) (Kd.R_base ho0)) (Kd.R_base ho1)) (fun _ h_ => h_.1))
            have n5_ := Aside0.mk (Kd.R_mono (Kd.R_told (Kd.R_told (Kd.R_old (by exact lR <| HO411.out) hb) (Kd.R_base ho0)) (Kd.R_base ho1)) (fun _ h_ => h_.1))
            have n6_ := Aside0.mk (Kd.R_mono (Kd.R_told (Kd.R_told (Kd.R_old (by exact lR <| HO415.out) hb) (Kd.R_base ho0)) (Kd.R_base ho1)) (fun _ h_ => h_.1))
            have n7_ := Aside0.mk (Kd.R_mono (Kd.R_told (Kd.R_told (Kd.R_old (by exact lR <| HO418.out) hb) (Kd.R_base ho0)) (Kd.R_base ho1)) (fun _ h_ => h_.1))
            have n8_ := Aside0.mk (Kd.R_mono (Kd.R_told (Kd.R_told (Kd.R_old (by exact lR <| HO422.out) hb) (Kd.R_base ho0)) (Kd.R_base ho1)) (fun _ h_ => h_.1))
            have n9_ := Aside0.mk (Kd.R_mono (Kd.R_told (Kd.R_told (Kd.R_old (by exact lR <| HO425.out) hb) (Kd.R_base ho0)) (Kd.R_base ho1)) (fun _ h_ => h_.1))
            have n10_ := Aside0.mk (Kd.R_lower (Kd.R_new' (Kd.R_new' (Kd.R_new' (Kd.R_new' (Kd.R_new' (Kd.R_new' (Kd.R_new' (Kd.R_new' (Kd.R_new' (Kd.R_new' ho0 (Kd.R_lt (by exact lR <| HO392.out))) (Kd.R_lt (by exact lR <| HO395.out))) (Kd.R_lt (by exact lR <| HO399.out))) (Kd.R_lt (by exact lR <| HO402.out))) (Kd.R_lt (by exact lR <| HO408.out))) (Kd.R_lt (by exact lR <| HO411.out))) (Kd.R_lt (by exact lR <| HO415.out))) (Kd.R_lt (by exact lR <| HO418.out))) (Kd.R_lt (by exact lR <| HO422.out))) (Kd.R_lt (by exact lR <| HO425.out))) (below_size (by repeat (first | (with_reducible first | exact HB.out | apply below_alloc | apply pw_below_drewN | apply below_drew1 | refine below_set ?_ (by first | exact GE404.out | exact GE405.out | exact GE419.out | exact GE427.out)) | exact HB.out))))
            have n11_ := Aside0.mk (Kd.R_lower (Kd.R_new' (Kd.R_new' (Kd.R_new' (Kd.R_new' (Kd.R_new' (Kd.R_new' (Kd.R_new' (Kd.R_new' (Kd.R_new' (Kd.R_new' ho1 (Kd.R_lt (by exact lR <| HO392.out))) (Kd.R_lt (by exact lR <| HO395.out))) (Kd.R_lt (by exact lR <| HO399.out))) (Kd.R_lt (by exact lR <| HO402.out))) (Kd.R_lt (by exact lR <| HO408.out))) (Kd.R_lt (by exact lR <| HO411.out))) (Kd.R_lt (by exact lR <| HO415.out))) (Kd.R_lt (by exact lR <| HO418.out))) (Kd.R_lt (by exact lR <| HO422.out))) (Kd.R_lt (by exact lR <| HO425.out))) (below_size (by repeat (first | (with_reducible first | exact HB.out | apply below_alloc | apply pw_below_drewN | apply below_drew1 | refine below_set ?_ (by first | exact GE404.out | exact GE405.out | exact GE419.out | exact GE427.out)) | exact HB.out))))
            have n12_ := Aside0.mk (blk_below (g := gb404) (o := .cells #[.slice Ao13 t390.length co13, .slice Ao16 t393.length co16, .int .i64 t396] 25 (0, 0)) (by exact lK <| BK404.out) hb)
            have n13_ := Aside0.mk (blk_below (g := gb405) (o := .cells #[.slice Ao17 t397.length co17, .slice Ao19 t400.length co19, .int .i64 t403] 25 (0, 0)) (by exact lK <| BK405.out) hb)
            have n14_ := Aside0.mk (blk_below (g := gb419) (o := .cells #[.slice Ao22 t406.length co22, .slice Ao26 t409.length co26, .int .i64 t412] 25 (0, 0)) (by exact lK <| BK419.out) hb)
            have n15_ := Aside0.mk (blk_below (g := gb427) (o := .cells #[.slice Ao31 t420.length co31, .slice Ao36 t423.length co36, .int .i64 t426] 25 (0, 0)) (by exact lK <| BK427.out) hb)
            have n16_ := Aside0.mk (below_step (by repeat (first | (with_reducible first | exact HB.out | apply below_alloc | apply pw_below_drewN | apply below_drew1 | refine below_set ?_ (by first | exact GE404.out | exact GE405.out | exact GE419.out | exact GE427.out)) | exact HB.out)) hb)
            clear HO392
            clear HO395
            clear HO399
            clear HO402
            clear HO408
            clear HO411
            clear HO415
            clear HO418
            clear HO422
            clear HO425
            clear BK404
            clear BK405
            clear BK419
            clear BK427
            clear HB
            have HO392 := n0_
            have HO395 := n1_
            have HO399 := n2_
            have HO402 := n3_
            have HO408 := n4_
            have HO411 := n5_
            have HO415 := n6_
            have HO418 := n7_
            have HO422 := n8_
            have HO425 := n9_
            have HO430 := n10_
            have HO433 := n11_
            have BK404 := n12_
            have BK405 := n13_
            have BK419 := n14_
            have BK427 := n15_
            have HB := n16_
            clear n0_ n1_ n2_ n3_ n4_ n5_ n6_ n7_ n8_ n9_ n10_ n11_ n12_ n13_ n14_ n15_ n16_
            (try clear hb)
            (try clear hb2)
            (try clear hk)
            (try clear hi)
            (try clear ho0)
            (try clear ho1)
            obtain ⟨Ao45, co45, eo45⟩ := Kd.R_slice HO430.out
            (first | subst eo45 | (injection eo45 with f1_ f2_ f3_; have f4_ := f1_.symm; have f5_ := f3_.symm; clear f1_ f2_ f3_; subst f4_; subst f5_))
            obtain ⟨Ao46, co46, eo46⟩ := Kd.R_slice HO433.out
            (first | subst eo46 | (injection eo46 with f1_ f2_ f3_; have f4_ := f1_.symm; have f5_ := f3_.symm; clear f1_ f2_ f3_; subst f4_; subst f5_))
            refine hK.out _ _ ⟨(blk_cell BK427.out 0).trans rfl, (blk_cell BK427.out 1).trans rfl, (blk_cell BK427.out 2).trans rfl, (blk_cell BK404.out 0).trans rfl, (blk_cell BK404.out 1).trans rfl, (blk_cell BK404.out 2).trans rfl, (blk_cell BK405.out 0).trans rfl, (blk_cell BK405.out 1).trans rfl, (blk_cell BK405.out 2).trans rfl⟩ (fun hHeld => ?_)
            clear hK K
            refine norm_ (a' := ?_) ?_ ?_
            rotate_left
            · show Act.put _ (some 44) _ = _
              simp only [Act.put, List.setIfInBounds_toArray, List.set_cons_zero, List.set_cons_succ, i64_w, i32_w]
              rfl
            refine one_ (i := 4) (N := some 45) #[true, true, true, true, true, false, false, false, false, false, false, false, false, false] rfl rfl (one_of HT_.out (by kernel_rfl)) (by decide) (fun K hK => ?_)
            refine goes_ Try.func12 (by kernel_rfl) rfl #[.agg #[.slice Ao31 t420.length co31, .slice Ao36 t423.length co36, .int .i64 t426], .agg #[.slice Ao45 t428.length co45, .slice Ao46 t431.length co46, .int .i64 t434]] (by rfl) rfl rfl (by (try simp only [List.map_toArray, List.map_cons, List.map_nil]); first | done | rfl | (simp only [List.length_drop, List.length_take]; rfl)) ?_
            with_reducible refine (laws_coForm.calls kj2 _ _ t420 _ _ t423 t426 _ _ t428 _ _ t431 t434 true _ ?side1 ?side2 ?side3 ?side4 ?side5 ?side6 ?side7 ?side8 A38.out).mono ?_
            (case side1 => exact lC <| (Kd.R_reads' HO422.out).2.2)
            (case side2 => exact (Kd.R_reads' HO422.out).2.1)
            (case side3 => exact lC <| (Kd.R_reads' HO425.out).2.2)
            (case side4 => exact (Kd.R_reads' HO425.out).2.1)
            (case side5 => exact lC <| (Kd.R_reads' HO430.out).2.2)
            (case side6 => exact (Kd.R_reads' HO430.out).2.1)
            (case side7 => exact lC <| (Kd.R_reads' HO433.out).2.2)
            (case side8 => exact (Kd.R_reads' HO433.out).2.1)
            rintro e w47 ⟨rfl, hb⟩
            refine ⟨_, rfl, ?_⟩
            have n0_ := Aside0.mk (Kd.R_below (by exact lR <| HO392.out) hb)
            have n1_ := Aside0.mk (Kd.R_below (by exact lR <| HO395.out) hb)
            have n2_ := Aside0.mk (Kd.R_below (by exact lR <| HO399.out) hb)
            have n3_ := Aside0.mk (Kd.R_below (by exact lR <| HO402.out) hb)
            have n4_ := Aside0.mk (Kd.R_below (by exact lR <| HO408.out) hb)
            have n5_ := Aside0.mk (Kd.R_below (by exact lR <| HO411.out) hb)
            have n6_ := Aside0.mk (Kd.R_below (by exact lR <| HO415.out) hb)
            have n7_ := Aside0.mk (Kd.R_below (by exact lR <| HO418.out) hb)
            have n8_ := Aside0.mk (Kd.R_below (by exact lR <| HO422.out) hb)
            have n9_ := Aside0.mk (Kd.R_below (by exact lR <| HO425.out) hb)
            have n10_ := Aside0.mk (Kd.R_below (by exact lR <| HO430.out) hb)
            have n11_ := Aside0.mk (Kd.R_below (by exact lR <| HO433.out) hb)
            have n12_ := Aside0.mk (blk_below (g := gb404) (o := .cells #[.slice Ao13 t390.length co13, .slice Ao16 t393.length co16, .int .i64 t396] 25 (0, 0)) (by exact lK <| BK404.out) hb)
            have n13_ := Aside0.mk (blk_below (g := gb405) (o := .cells #[.slice Ao17 t397.length co17, .slice Ao19 t400.length co19, .int .i64 t403] 25 (0, 0)) (by exact lK <| BK405.out) hb)
            have n14_ := Aside0.mk (blk_below (g := gb419) (o := .cells #[.slice Ao22 t406.length co22, .slice Ao26 t409.length co26, .int .i64 t412] 25 (0, 0)) (by exact lK <| BK419.out) hb)
            have n15_ := Aside0.mk (blk_below (g := gb427) (o := .cells #[.slice Ao31 t420.length co31, .slice Ao36 t423.length co36, .int .i64 t426] 25 (0, 0)) (by exact lK <| BK427.out) hb)
            have n16_ := Aside0.mk (below_step (by repeat (first | (with_reducible first | exact HB.out | apply below_alloc | apply pw_below_drewN | apply below_drew1 | refine below_set ?_ (by first | exact GE404.out | exact GE405.out | exact GE419.out | exact GE427.out)) | exact HB.out)) hb)
            clear HO392
            clear HO395
            clear HO399
            clear HO402
            clear HO408
            clear HO411
            clear HO415
            clear HO418
            clear HO422
            clear HO425
            clear HO430
            clear HO433
            clear BK404
            clear BK405
            clear BK419
            clear BK427
            clear HB
            have HO392 := n0_
            have HO395 := n1_
            have HO399 := n2_
            have HO402 := n3_
            have HO408 := n4_
            have HO411 := n5_
            have HO415 := n6_
            have HO418 := n7_
            have HO422 := n8_
            have HO425 := n9_
            have HO430 := n10_
            have HO433 := n11_
            have BK404 := n12_
            have BK405 := n13_
            have BK419 := n14_
            have BK427 := n15_
            have HB := n16_
            clear n0_ n1_ n2_ n3_ n4_ n5_ n6_ n7_ n8_ n9_ n10_ n11_ n12_ n13_ n14_ n15_ n16_
            (try clear hb)
            (try clear hb2)
            (try clear hk)
            (try clear hi)
            refine hK.out _ _ ⟨(blk_cell BK427.out 0).trans rfl, (blk_cell BK427.out 1).trans rfl, (blk_cell BK427.out 2).trans rfl, (blk_cell BK404.out 0).trans rfl, (blk_cell BK404.out 1).trans rfl, (blk_cell BK404.out 2).trans rfl, (blk_cell BK405.out 0).trans rfl, (blk_cell BK405.out 1).trans rfl, (blk_cell BK405.out 2).trans rfl⟩ (fun hHeld => ?_)
            clear hK K
            refine norm_ (a' := ?_) ?_ ?_
            rotate_left
            · show Act.put _ (some 45) _ = _
              simp only [Act.put, List.setIfInBounds_toArray, List.set_cons_zero, List.set_cons_succ, i64_w, i32_w]
              rfl
            refine pure_ (i := 5) (N := some 46) (v := ?_) (a' := ?_) #[true, true, true, true, true, true, false, false, false, false, false, false, false, false] rfl rfl (any_of HT_.out (by kernel_rfl)) (fun _ _ _ h => h) (Or.inl ⟨by rfl, ?_⟩) ?_ ?_
            rotate_left
            · intro w'
              go_simp
              with_reducible rfl
            rotate_left
            · simp only [Act.put, List.setIfInBounds_toArray, List.set_cons_zero, List.set_cons_succ, i64_w, i32_w]
              rfl
            refine pure_ (i := 6) (N := some 47) (v := ?_) (a' := ?_) #[true, true, true, true, true, true, true, false, false, false, false, false, false, false] rfl rfl (any_of HT_.out (by kernel_rfl)) (fun _ _ _ h => h) (Or.inl ⟨by rfl, ?_⟩) ?_ ?_
            rotate_left
            · intro w'
              go_simp
              with_reducible rfl
            rotate_left
            · simp only [Act.put, List.setIfInBounds_toArray, List.set_cons_zero, List.set_cons_succ, i64_w, i32_w]
              rfl
            refine take_ (i := 7) (N := some 48) (v := ?_) (a' := ?_) #[true, true, true, true, true, true, true, true, false, false, false, false, false, false] rfl rfl (take_ofW HT_.out HW_.out (by kernel_rfl)) (fun _ _ _ h => h) (Or.inl ⟨by rfl, ?_⟩) hHeld ?_ ?_
            rotate_left
            · rintro w' ⟨s0, s1, s2, s3, s4, s5, s6, s7, s8⟩
              go_simp
              with_reducible rfl
            rotate_left
            · simp only [Act.put, List.setIfInBounds_toArray, List.set_cons_zero, List.set_cons_succ, i64_w, i32_w]
              rfl
            refine take_ (i := 8) (N := some 49) (v := ?_) (a' := ?_) #[true, true, true, true, true, true, true, true, true, false, false, false, false, false] rfl rfl (take_ofW HT_.out HW_.out (by kernel_rfl)) (fun _ _ _ h => h) (Or.inl ⟨by rfl, ?_⟩) hHeld ?_ ?_
            rotate_left
            · rintro w' ⟨s0, s1, s2, s3, s4, s5, s6, s7, s8⟩
              go_simp
              with_reducible rfl
            rotate_left
            · simp only [Act.put, List.setIfInBounds_toArray, List.set_cons_zero, List.set_cons_succ, i64_w, i32_w]
              rfl
            refine take_ (i := 9) (N := some 50) (v := ?_) (a' := ?_) #[true, true, true, true, true, true, true, true, true, true, false, false, false, false] rfl rfl (take_ofW HT_.out HW_.out (by kernel_rfl)) (fun _ _ _ h => h) (Or.inl ⟨by rfl, ?_⟩) hHeld ?_ ?_
            rotate_left
            · rintro w' ⟨s0, s1, s2, s3, s4, s5, s6, s7, s8⟩
              go_simp
              with_reducible rfl
            rotate_left
            · simp only [Act.put, List.setIfInBounds_toArray, List.set_cons_zero, List.set_cons_succ, i64_w, i32_w]
              rfl
            refine one_ (i := 10) (N := some 51) #[true, true, true, true, true, true, true, true, true, true, true, false, false, false] rfl rfl (one_of HT_.out (by kernel_rfl)) (by decide) (fun K hK => ?_)
            refine goes_ Try.func19 (by kernel_rfl) rfl #[.agg #[.slice Ao17 t397.length co17, .slice Ao19 t400.length co19, .int .i64 t403], .agg #[.slice Ao13 t390.length co13, .slice Ao16 t393.length co16, .int .i64 t396]] (by rfl) rfl rfl (by (try simp only [List.map_toArray, List.map_cons, List.map_nil]); first | done | rfl | (simp only [List.length_drop, List.length_take]; rfl)) ?_
            with_reducible refine (impl_FrmAdd.calls _ _ t397 _ _ t400 t403 _ _ t390 _ _ t393 t396 t436 t439 t442 _ ?side1 ?side2 ?side3 ?side4 ?side5 ?side6 ?side7 ?side8 A40.out).mono ?_
            (case side1 => exact lC <| (Kd.R_reads' HO399.out).2.2)
            (case side2 => exact (Kd.R_reads' HO399.out).2.1)
            (case side3 => exact lC <| (Kd.R_reads' HO402.out).2.2)
            (case side4 => exact (Kd.R_reads' HO402.out).2.1)
            (case side5 => exact lC <| (Kd.R_reads' HO392.out).2.2)
            (case side6 => exact (Kd.R_reads' HO392.out).2.1)
            (case side7 => exact lC <| (Kd.R_reads' HO395.out).2.2)
            (case side8 => exact (Kd.R_reads' HO395.out).2.1)
            rintro e w48 ⟨v437, v440, rfl, ho0, ho1, hb⟩
            refine ⟨_, rfl, ?_⟩
            have n0_ := Aside0.mk (Kd.R_mono (Kd.R_told (Kd.R_told (Kd.R_old (by exact lR <| HO392.out) hb) (Kd.R_base ho0)) (Kd.R_base ho1)) (fun _ h_ => h_.1))
            have n1_ := Aside0.mk (Kd.R_mono (Kd.R_told (Kd.R_told (Kd.R_old (by exact lR <| HO395.out) hb) (Kd.R_base ho0)) (Kd.R_base ho1)) (fun _ h_ => h_.1))
            have n2_ := Aside0.mk (Kd.R_mono (Kd.R_told (Kd.R_told (Kd.R_old (by exact lR <| HO399.out) hb) (Kd.R_base ho0)) (Kd.R_base ho1)) (fun _ h_ => h_.1))
            have n3_ := Aside0.mk (Kd.R_mono (Kd.R_told (Kd.R_told (Kd.R_old (by exact lR <| HO402.out) hb) (Kd.R_base ho0)) (Kd.R_base ho1)) (fun _ h_ => h_.1))
            have n4_ := Aside0.mk (Kd.R_mono (Kd.R_told (Kd.R_told (Kd.R_old (by exact lR <| HO408.out) hb) (Kd.R_base ho0)) (Kd.R_base ho1)) (fun _ h_ => h_.1))
            have n5_ := Aside0.mk (Kd.R_mono (Kd.R_told (Kd.R_told (Kd.R_old (by exact lR <| HO411.out) hb) (Kd.R_base ho0)) (Kd.R_base ho1)) (fun _ h_ => h_.1))
            have n6_ := Aside0.mk (Kd.R_mono (Kd.R_told (Kd.R_told (Kd.R_old (by exact lR <| HO415.out) hb) (Kd.R_base ho0)) (Kd.R_base ho1)) (fun _ h_ => h_.1))
            have n7_ := Aside0.mk (Kd.R_mono (Kd.R_told (Kd.R_told (Kd.R_old (by exact lR <| HO418.out) hb) (Kd.R_base ho0)) (Kd.R_base ho1)) (fun _ h_ => h_.1))
            have n8_ := Aside0.mk (Kd.R_mono (Kd.R_told (Kd.R_told (Kd.R_old (by exact lR <| HO422.out) hb) (Kd.R_base ho0)) (Kd.R_base ho1)) (fun _ h_ => h_.1))
            have n9_ := Aside0.mk (Kd.R_mono (Kd.R_told (Kd.R_told (Kd.R_old (by exact lR <| HO425.out) hb) (Kd.R_base ho0)) (Kd.R_base ho1)) (fun _ h_ => h_.1))
            have n10_ := Aside0.mk (Kd.R_mono (Kd.R_told (Kd.R_told (Kd.R_old (by exact lR <| HO430.out) hb) (Kd.R_base ho0)) (Kd.R_base ho1)) (fun _ h_ => h_.1))
            have n11_ := Aside0.mk (Kd.R_mono (Kd.R_told (Kd.R_told (Kd.R_old (by exact lR <| HO433.out) hb) (Kd.R_base ho0)) (Kd.R_base ho1)) (fun _ h_ => h_.1))
            have n12_ := Aside0.mk (Kd.R_lower (Kd.R_new' (Kd.R_new' (Kd.R_new' (Kd.R_new' (Kd.R_new' (Kd.R_new' (Kd.R_new' (Kd.R_new' (Kd.R_new' (Kd.R_new' (Kd.R_new' (Kd.R_new' ho0 (Kd.R_lt (by exact lR <| HO392.out))) (Kd.R_lt (by exact lR <| HO395.out))) (Kd.R_lt (by exact lR <| HO399.out))) (Kd.R_lt (by exact lR <| HO402.out))) (Kd.R_lt (by exact lR <| HO408.out))) (Kd.R_lt (by exact lR <| HO411.out))) (Kd.R_lt (by exact lR <| HO415.out))) (Kd.R_lt (by exact lR <| HO418.out))) (Kd.R_lt (by exact lR <| HO422.out))) (Kd.R_lt (by exact lR <| HO425.out))) (Kd.R_lt (by exact lR <| HO430.out))) (Kd.R_lt (by exact lR <| HO433.out))) (below_size (by repeat (first | (with_reducible first | exact HB.out | apply below_alloc | apply pw_below_drewN | apply below_drew1 | refine below_set ?_ (by first | exact GE404.out | exact GE405.out | exact GE419.out | exact GE427.out)) | exact HB.out))))
            have n13_ := Aside0.mk (Kd.R_lower (Kd.R_new' (Kd.R_new' (Kd.R_new' (Kd.R_new' (Kd.R_new' (Kd.R_new' (Kd.R_new' (Kd.R_new' (Kd.R_new' (Kd.R_new' (Kd.R_new' (Kd.R_new' ho1 (Kd.R_lt (by exact lR <| HO392.out))) (Kd.R_lt (by exact lR <| HO395.out))) (Kd.R_lt (by exact lR <| HO399.out))) (Kd.R_lt (by exact lR <| HO402.out))) (Kd.R_lt (by exact lR <| HO408.out))) (Kd.R_lt (by exact lR <| HO411.out))) (Kd.R_lt (by exact lR <| HO415.out))) (Kd.R_lt (by exact lR <| HO418.out))) (Kd.R_lt (by exact lR <| HO422.out))) (Kd.R_lt (by exact lR <| HO425.out))) (Kd.R_lt (by exact lR <| HO430.out))) (Kd.R_lt (by exact lR <| HO433.out))) (below_size (by repeat (first | (with_reducible first | exact HB.out | apply below_alloc | apply pw_below_drewN | apply below_drew1 | refine below_set ?_ (by first | exact GE404.out | exact GE405.out | exact GE419.out | exact GE427.out)) | exact HB.out))))
            have n14_ := Aside0.mk (blk_below (g := gb404) (o := .cells #[.slice Ao13 t390.length co13, .slice Ao16 t393.length co16, .int .i64 t396] 25 (0, 0)) (by exact lK <| BK404.out) hb)
            have n15_ := Aside0.mk (blk_below (g := gb405) (o := .cells #[.slice Ao17 t397.length co17, .slice Ao19 t400.length co19, .int .i64 t403] 25 (0, 0)) (by exact lK <| BK405.out) hb)
            have n16_ := Aside0.mk (blk_below (g := gb419) (o := .cells #[.slice Ao22 t406.length co22, .slice Ao26 t409.length co26, .int .i64 t412] 25 (0, 0)) (by exact lK <| BK419.out) hb)
            have n17_ := Aside0.mk (blk_below (g := gb427) (o := .cells #[.slice Ao31 t420.length co31, .slice Ao36 t423.length co36, .int .i64 t426] 25 (0, 0)) (by exact lK <| BK427.out) hb)
            have n18_ := Aside0.mk (below_step (by repeat (first | (with_reducible first | exact HB.out | apply below_alloc | apply pw_below_drewN | apply below_drew1 | refine below_set ?_ (by first | exact GE404.out | exact GE405.out | exact GE419.out | exact GE427.out)) | exact HB.out)) hb)
            clear HO392
            clear HO395
            clear HO399
            clear HO402
            clear HO408
            clear HO411
            clear HO415
            clear HO418
            clear HO422
            clear HO425
            clear HO430
            clear HO433
            clear BK404
            clear BK405
            clear BK419
            clear BK427
            clear HB
            have HO392 := n0_
            have HO395 := n1_
            have HO399 := n2_
            have HO402 := n3_
            have HO408 := n4_
            have HO411 := n5_
            have HO415 := n6_
            have HO418 := n7_
            have HO422 := n8_
            have HO425 := n9_
            have HO430 := n10_
            have HO433 := n11_
            have HO438 := n12_
            have HO441 := n13_
            have BK404 := n14_
            have BK405 := n15_
            have BK419 := n16_
            have BK427 := n17_
            have HB := n18_
            clear n0_ n1_ n2_ n3_ n4_ n5_ n6_ n7_ n8_ n9_ n10_ n11_ n12_ n13_ n14_ n15_ n16_ n17_ n18_
            (try clear hb)
            (try clear hb2)
            (try clear hk)
            (try clear hi)
            (try clear ho0)
            (try clear ho1)
            obtain ⟨Ao49, co49, eo49⟩ := Kd.R_slice HO438.out
            (first | subst eo49 | (injection eo49 with f1_ f2_ f3_; have f4_ := f1_.symm; have f5_ := f3_.symm; clear f1_ f2_ f3_; subst f4_; subst f5_))
            obtain ⟨Ao50, co50, eo50⟩ := Kd.R_slice HO441.out
            (first | subst eo50 | (injection eo50 with f1_ f2_ f3_; have f4_ := f1_.symm; have f5_ := f3_.symm; clear f1_ f2_ f3_; subst f4_; subst f5_))
            refine hK.out _ _ ⟨(blk_cell BK427.out 0).trans rfl, (blk_cell BK427.out 1).trans rfl, (blk_cell BK427.out 2).trans rfl, (blk_cell BK404.out 0).trans rfl, (blk_cell BK404.out 1).trans rfl, (blk_cell BK404.out 2).trans rfl, (blk_cell BK405.out 0).trans rfl, (blk_cell BK405.out 1).trans rfl, (blk_cell BK405.out 2).trans rfl⟩ (fun hHeld => ?_)
            clear hK K
            refine norm_ (a' := ?_) ?_ ?_
            rotate_left
            · show Act.put _ (some 51) _ = _
              simp only [Act.put, List.setIfInBounds_toArray, List.set_cons_zero, List.set_cons_succ, i64_w, i32_w]
              rfl
            refine one_ (i := 11) (N := some 52) #[true, true, true, true, true, true, true, true, true, true, true, true, false, false] rfl rfl (one_of HT_.out (by kernel_rfl)) (by decide) (fun K hK => ?_)
            refine goes_ Try.func12 (by kernel_rfl) rfl #[.agg #[.slice Ao31 t420.length co31, .slice Ao36 t423.length co36, .int .i64 t426], .agg #[.slice Ao49 t436.length co49, .slice Ao50 t439.length co50, .int .i64 t442]] (by rfl) rfl rfl (by (try simp only [List.map_toArray, List.map_cons, List.map_nil]); first | done | rfl | (simp only [List.length_drop, List.length_take]; rfl)) ?_
            with_reducible refine (laws_coForm.calls kj2 _ _ t420 _ _ t423 t426 _ _ t436 _ _ t439 t442 t443 _ ?side1 ?side2 ?side3 ?side4 ?side5 ?side6 ?side7 ?side8 A41.out).mono ?_
            (case side1 => exact lC <| (Kd.R_reads' HO422.out).2.2)
            (case side2 => exact (Kd.R_reads' HO422.out).2.1)
            (case side3 => exact lC <| (Kd.R_reads' HO425.out).2.2)
            (case side4 => exact (Kd.R_reads' HO425.out).2.1)
            (case side5 => exact lC <| (Kd.R_reads' HO438.out).2.2)
            (case side6 => exact (Kd.R_reads' HO438.out).2.1)
            (case side7 => exact lC <| (Kd.R_reads' HO441.out).2.2)
            (case side8 => exact (Kd.R_reads' HO441.out).2.1)
            rintro e w51 ⟨rfl, hb⟩
            refine ⟨_, rfl, ?_⟩
            have n0_ := Aside0.mk (Kd.R_below (by exact lR <| HO392.out) hb)
            have n1_ := Aside0.mk (Kd.R_below (by exact lR <| HO395.out) hb)
            have n2_ := Aside0.mk (Kd.R_below (by exact lR <| HO399.out) hb)
            have n3_ := Aside0.mk (Kd.R_below (by exact lR <| HO402.out) hb)
            have n4_ := Aside0.mk (Kd.R_below (by exact lR <| HO408.out) hb)
            have n5_ := Aside0.mk (Kd.R_below (by exact lR <| HO411.out) hb)
            have n6_ := Aside0.mk (Kd.R_below (by exact lR <| HO415.out) hb)
            have n7_ := Aside0.mk (Kd.R_below (by exact lR <| HO418.out) hb)
            have n8_ := Aside0.mk (Kd.R_below (by exact lR <| HO422.out) hb)
            have n9_ := Aside0.mk (Kd.R_below (by exact lR <| HO425.out) hb)
            have n10_ := Aside0.mk (Kd.R_below (by exact lR <| HO430.out) hb)
            have n11_ := Aside0.mk (Kd.R_below (by exact lR <| HO433.out) hb)
            have n12_ := Aside0.mk (Kd.R_below (by exact lR <| HO438.out) hb)
            have n13_ := Aside0.mk (Kd.R_below (by exact lR <| HO441.out) hb)
            have n14_ := Aside0.mk (blk_below (g := gb404) (o := .cells #[.slice Ao13 t390.length co13, .slice Ao16 t393.length co16, .int .i64 t396] 25 (0, 0)) (by exact lK <| BK404.out) hb)
            have n15_ := Aside0.mk (blk_below (g := gb405) (o := .cells #[.slice Ao17 t397.length co17, .slice Ao19 t400.length co19, .int .i64 t403] 25 (0, 0)) (by exact lK <| BK405.out) hb)
            have n16_ := Aside0.mk (blk_below (g := gb419) (o := .cells #[.slice Ao22 t406.length co22, .slice Ao26 t409.length co26, .int .i64 t412] 25 (0, 0)) (by exact lK <| BK419.out) hb)
            have n17_ := Aside0.mk (blk_below (g := gb427) (o := .cells #[.slice Ao31 t420.length co31, .slice Ao36 t423.length co36, .int .i64 t426] 25 (0, 0)) (by exact lK <| BK427.out) hb)
            have n18_ := Aside0.mk (below_step (by repeat (first | (with_reducible first | exact HB.out | apply below_alloc | apply pw_below_drewN | apply below_drew1 | refine below_set ?_ (by first | exact GE404.out | exact GE405.out | exact GE419.out | exact GE427.out)) | exact HB.out)) hb)
            clear HO392
            clear HO395
            clear HO399
            clear HO402
            clear HO408
            clear HO411
            clear HO415
            clear HO418
            clear HO422
            clear HO425
            clear HO430
            clear HO433
            clear HO438
            clear HO441
            clear BK404
            clear BK405
            clear BK419
            clear BK427
            clear HB
            have HO392 := n0_
            have HO395 := n1_
            have HO399 := n2_
            have HO402 := n3_
            have HO408 := n4_
            have HO411 := n5_
            have HO415 := n6_
            have HO418 := n7_
            have HO422 := n8_
            have HO425 := n9_
            have HO430 := n10_
            have HO433 := n11_
            have HO438 := n12_
            have HO441 := n13_
            have BK404 := n14_
            have BK405 := n15_
            have BK419 := n16_
            have BK427 := n17_
            have HB := n18_
            clear n0_ n1_ n2_ n3_ n4_ n5_ n6_ n7_ n8_ n9_ n10_ n11_ n12_ n13_ n14_ n15_ n16_ n17_ n18_
            (try clear hb)
            (try clear hb2)
            (try clear hk)
            (try clear hi)
            refine hK.out _ _ ⟨(blk_cell BK427.out 0).trans rfl, (blk_cell BK427.out 1).trans rfl, (blk_cell BK427.out 2).trans rfl, (blk_cell BK404.out 0).trans rfl, (blk_cell BK404.out 1).trans rfl, (blk_cell BK404.out 2).trans rfl, (blk_cell BK405.out 0).trans rfl, (blk_cell BK405.out 1).trans rfl, (blk_cell BK405.out 2).trans rfl⟩ (fun hHeld => ?_)
            clear hK K
            refine norm_ (a' := ?_) ?_ ?_
            rotate_left
            · show Act.put _ (some 52) _ = _
              simp only [Act.put, List.setIfInBounds_toArray, List.set_cons_zero, List.set_cons_succ, i64_w, i32_w]
              rfl
            refine pure_ (i := 12) (N := some 53) (v := ?_) (a' := ?_) #[true, true, true, true, true, true, true, true, true, true, true, true, true, false] rfl rfl (any_of HT_.out (by kernel_rfl)) (fun _ _ _ h => h) (Or.inl ⟨by rfl, ?_⟩) ?_ ?_
            rotate_left
            · intro w'
              go_simp
              with_reducible rfl
            rotate_left
            · simp only [Act.put, List.setIfInBounds_toArray, List.set_cons_zero, List.set_cons_succ, i64_w, i32_w]
              rfl
            refine pure_ (i := 13) (N := some 54) (v := ?_) (a' := ?_) #[true, true, true, true, true, true, true, true, true, true, true, true, true, true] rfl rfl (any_of HT_.out (by kernel_rfl)) (fun _ _ _ h => h) (Or.inl ⟨by rfl, ?_⟩) ?_ ?_
            rotate_left
            · intro w'
              go_simp
              with_reducible rfl
            rotate_left
            · simp only [Act.put, List.setIfInBounds_toArray, List.set_cons_zero, List.set_cons_succ, i64_w, i32_w]
              rfl
            refine done_ (done_of HT_.out (by kernel_rfl)) ?_
            try go_wp2
            go_meet
            case rel => exact ⟨_, (!t443), (by first | rfl | (simp; done) | (simp [*]; done)), H', ⟨by have := HJ2.out; first | omega | exact Nat.le_refl _⟩, ⟨by exact lR <| Kd.R_mono HO415.out (fun _ hk => ⟨hk.1.1.1.1.2.2.2.2.2.2.1, ⟨hk.1.1.1.1.1, ⟨hk.1.1.1.1.2.1, ⟨hk.1.1.1.1.2.2.1, ⟨hk.1.1.1.1.2.2.2.1, ⟨hk.1.1.1.1.2.2.2.2.1, ⟨hk.1.1.1.1.2.2.2.2.2.1, ⟨hk.1.1.1.1.2.2.2.2.2.2.2.1, hk.1.1.1.1.2.2.2.2.2.2.2.2⟩⟩⟩⟩⟩⟩⟩⟩)⟩, ⟨by exact lR <| Kd.R_mono HO418.out (fun _ hk => ⟨hk.1.1.1.1.2.2.2.2.2.2.1, ⟨hk.1.1.1.1.1, ⟨hk.1.1.1.1.2.1, ⟨hk.1.1.1.1.2.2.1, ⟨hk.1.1.1.1.2.2.2.1, ⟨hk.1.1.1.1.2.2.2.2.1, ⟨hk.1.1.1.1.2.2.2.2.2.1, ⟨hk.1.1.1.1.2.2.2.2.2.2.2.1, hk.1.1.1.1.2.2.2.2.2.2.2.2⟩⟩⟩⟩⟩⟩⟩⟩)⟩, ⟨by exact lR <| Kd.R_mono HO392.out (fun _ hk => ⟨hk.1.1.1.1.2.2.2.2.2.1, ⟨hk.1.1.1.1.2.2.2.2.2.2.1, ⟨hk.1.1.1.1.1, ⟨hk.1.1.1.1.2.1, ⟨hk.1.1.1.1.2.2.1, ⟨hk.1.1.1.1.2.2.2.1, ⟨hk.1.1.1.1.2.2.2.2.1, ⟨hk.1.1.1.1.2.2.2.2.2.2.2.1, hk.1.1.1.1.2.2.2.2.2.2.2.2⟩⟩⟩⟩⟩⟩⟩⟩)⟩, ⟨by exact lR <| Kd.R_mono HO395.out (fun _ hk => ⟨hk.1.1.1.1.2.2.2.2.2.1, ⟨hk.1.1.1.1.2.2.2.2.2.2.1, ⟨hk.1.1.1.1.1, ⟨hk.1.1.1.1.2.1, ⟨hk.1.1.1.1.2.2.1, ⟨hk.1.1.1.1.2.2.2.1, ⟨hk.1.1.1.1.2.2.2.2.1, ⟨hk.1.1.1.1.2.2.2.2.2.2.2.1, hk.1.1.1.1.2.2.2.2.2.2.2.2⟩⟩⟩⟩⟩⟩⟩⟩)⟩, ⟨by exact lR <| Kd.R_mono HO399.out (fun _ hk => ⟨hk.1.1.1.1.2.2.2.2.2.1, ⟨hk.1.1.1.1.2.2.2.2.2.2.1, ⟨hk.1.1.1.1.1, ⟨hk.1.1.1.1.2.1, ⟨hk.1.1.1.1.2.2.1, ⟨hk.1.1.1.1.2.2.2.1, ⟨hk.1.1.1.1.2.2.2.2.1, ⟨hk.1.1.1.1.2.2.2.2.2.2.2.1, hk.1.1.1.1.2.2.2.2.2.2.2.2⟩⟩⟩⟩⟩⟩⟩⟩)⟩, ⟨by exact lR <| Kd.R_mono HO402.out (fun _ hk => ⟨hk.1.1.1.1.2.2.2.2.2.1, ⟨hk.1.1.1.1.2.2.2.2.2.2.1, ⟨hk.1.1.1.1.1, ⟨hk.1.1.1.1.2.1, ⟨hk.1.1.1.1.2.2.1, ⟨hk.1.1.1.1.2.2.2.1, ⟨hk.1.1.1.1.2.2.2.2.1, ⟨hk.1.1.1.1.2.2.2.2.2.2.2.1, hk.1.1.1.1.2.2.2.2.2.2.2.2⟩⟩⟩⟩⟩⟩⟩⟩)⟩, ⟨by exact lR <| Kd.R_mono HO408.out (fun _ hk => ⟨hk.1.1.1.1.2.2.2.2.2.1, ⟨hk.1.1.1.1.2.2.2.2.2.2.1, ⟨hk.1.1.1.1.1, ⟨hk.1.1.1.1.2.1, ⟨hk.1.1.1.1.2.2.1, ⟨hk.1.1.1.1.2.2.2.1, ⟨hk.1.1.1.1.2.2.2.2.1, ⟨hk.1.1.1.1.2.2.2.2.2.2.2.1, hk.1.1.1.1.2.2.2.2.2.2.2.2⟩⟩⟩⟩⟩⟩⟩⟩)⟩, ⟨by exact lR <| Kd.R_mono HO411.out (fun _ hk => ⟨hk.1.1.1.1.2.2.2.2.2.1, ⟨hk.1.1.1.1.2.2.2.2.2.2.1, ⟨hk.1.1.1.1.1, ⟨hk.1.1.1.1.2.1, ⟨hk.1.1.1.1.2.2.1, ⟨hk.1.1.1.1.2.2.2.1, ⟨hk.1.1.1.1.2.2.2.2.1, ⟨hk.1.1.1.1.2.2.2.2.2.2.2.1, hk.1.1.1.1.2.2.2.2.2.2.2.2⟩⟩⟩⟩⟩⟩⟩⟩)⟩, ⟨by exact lR <| Kd.R_mono HO422.out (fun _ hk => ⟨hk.1.1.1.1.2.2.2.2.2.2.1, ⟨hk.1.1.1.1.2.2.2.2.2.2.2.1, ⟨hk.1.1.1.1.1, ⟨hk.1.1.1.1.2.1, ⟨hk.1.1.1.1.2.2.1, ⟨hk.1.1.1.1.2.2.2.1, ⟨hk.1.1.1.1.2.2.2.2.1, ⟨hk.1.1.1.1.2.2.2.2.2.1, hk.1.1.1.1.2.2.2.2.2.2.2.2⟩⟩⟩⟩⟩⟩⟩⟩)⟩, ⟨by exact lR <| Kd.R_mono HO425.out (fun _ hk => ⟨hk.1.1.1.1.2.2.2.2.2.2.1, ⟨hk.1.1.1.1.2.2.2.2.2.2.2.1, ⟨hk.1.1.1.1.1, ⟨hk.1.1.1.1.2.1, ⟨hk.1.1.1.1.2.2.1, ⟨hk.1.1.1.1.2.2.2.1, ⟨hk.1.1.1.1.2.2.2.2.1, ⟨hk.1.1.1.1.2.2.2.2.2.1, hk.1.1.1.1.2.2.2.2.2.2.2.2⟩⟩⟩⟩⟩⟩⟩⟩)⟩, ⟨by exact lK <| BK404.out⟩, ⟨by exact lK <| BK405.out⟩, ⟨by exact lK <| BK419.out⟩, ⟨by exact lK <| BK427.out⟩, ⟨by repeat (first | (with_reducible first | exact HB.out | apply below_alloc | apply pw_below_drewN | apply below_drew1 | refine below_set ?_ (by first | exact GE404.out | exact GE405.out | exact GE419.out | exact GE427.out)) | exact HB.out)⟩⟩
          · replace c39 := Bool.eq_false_iff.mpr c39
            subst c39
            have H1 : (laws_FnFrmAdd.j1 kj2 t413 t416 true t390 t393 t396 t397 t400 t403 t420 t423 t426) = some r := by rw [if_neg (show ¬ (false = true) by decide)] at H; exact H
            clear H
            have H := H1
            clear H1
            have H' := Aside0.mk H
            clear H
            try go_wp2
            have n0_ : Aside0 (Kd.R (Kd.int .i64) 3 (((w30.setCell ⟨gb427, 0, none⟩ (.slice Ao31 t420.length co31)).setCell ⟨gb427, 1, none⟩ (.slice Ao36 t423.length co36)).setCell ⟨gb427, 2, none⟩ (.int .i64 t426)) w.heap.size (fun k_ => some k_ ≠ (.slice Ao16 t393.length co16 : Value).ownBlock ∧ some k_ ≠ (.slice Ao17 t397.length co17 : Value).ownBlock ∧ some k_ ≠ (.slice Ao19 t400.length co19 : Value).ownBlock ∧ some k_ ≠ (.slice Ao22 t406.length co22 : Value).ownBlock ∧ some k_ ≠ (.slice Ao26 t409.length co26 : Value).ownBlock ∧ some k_ ≠ (v414 : Value).ownBlock ∧ some k_ ≠ (v417 : Value).ownBlock ∧ some k_ ≠ (.slice Ao31 t420.length co31 : Value).ownBlock ∧ some k_ ≠ (.slice Ao36 t423.length co36 : Value).ownBlock) (.slice Ao13 t390.length co13) t390) := ⟨by exact lR <| Kd.R_mono (Kd.R_far (p := ⟨gb427, 2, none⟩) (Kd.R_far (p := ⟨gb427, 1, none⟩) (Kd.R_far (p := ⟨gb427, 0, none⟩) (Kd.R_types HO392.out BK427.out (by decide)) (fun _ hk => hk.2) (.slice Ao31 t420.length co31)) (fun _ hk => hk.2) (.slice Ao36 t423.length co36)) (fun _ hk => hk.2) (.int .i64 t426)) (fun _ hk => ⟨hk.1.1.1.1.1.1.1.1, ⟨hk.1.1.1.1.1.1.1.2.1, ⟨hk.1.1.1.1.1.1.1.2.2, ⟨hk.1.1.1.1.1.1.2, ⟨hk.1.1.1.1.1.2, ⟨hk.1.1.1.1.2, ⟨hk.1.1.1.2, ⟨hk.1.1.2, hk.1.2⟩⟩⟩⟩⟩⟩⟩⟩)⟩
            have n1_ : Aside0 (Kd.R (Kd.int .i64) 3 (((w30.setCell ⟨gb427, 0, none⟩ (.slice Ao31 t420.length co31)).setCell ⟨gb427, 1, none⟩ (.slice Ao36 t423.length co36)).setCell ⟨gb427, 2, none⟩ (.int .i64 t426)) w.heap.size (fun k_ => some k_ ≠ (.slice Ao13 t390.length co13 : Value).ownBlock ∧ some k_ ≠ (.slice Ao17 t397.length co17 : Value).ownBlock ∧ some k_ ≠ (.slice Ao19 t400.length co19 : Value).ownBlock ∧ some k_ ≠ (.slice Ao22 t406.length co22 : Value).ownBlock ∧ some k_ ≠ (.slice Ao26 t409.length co26 : Value).ownBlock ∧ some k_ ≠ (v414 : Value).ownBlock ∧ some k_ ≠ (v417 : Value).ownBlock ∧ some k_ ≠ (.slice Ao31 t420.length co31 : Value).ownBlock ∧ some k_ ≠ (.slice Ao36 t423.length co36 : Value).ownBlock) (.slice Ao16 t393.length co16) t393) := ⟨by exact lR <| Kd.R_mono (Kd.R_far (p := ⟨gb427, 2, none⟩) (Kd.R_far (p := ⟨gb427, 1, none⟩) (Kd.R_far (p := ⟨gb427, 0, none⟩) (Kd.R_types HO395.out BK427.out (by decide)) (fun _ hk => hk.2) (.slice Ao31 t420.length co31)) (fun _ hk => hk.2) (.slice Ao36 t423.length co36)) (fun _ hk => hk.2) (.int .i64 t426)) (fun _ hk => ⟨hk.1.1.1.1.1.1.1.1, ⟨hk.1.1.1.1.1.1.1.2.1, ⟨hk.1.1.1.1.1.1.1.2.2, ⟨hk.1.1.1.1.1.1.2, ⟨hk.1.1.1.1.1.2, ⟨hk.1.1.1.1.2, ⟨hk.1.1.1.2, ⟨hk.1.1.2, hk.1.2⟩⟩⟩⟩⟩⟩⟩⟩)⟩
            have n2_ : Aside0 (Kd.R (Kd.int .i64) 3 (((w30.setCell ⟨gb427, 0, none⟩ (.slice Ao31 t420.length co31)).setCell ⟨gb427, 1, none⟩ (.slice Ao36 t423.length co36)).setCell ⟨gb427, 2, none⟩ (.int .i64 t426)) w.heap.size (fun k_ => some k_ ≠ (.slice Ao13 t390.length co13 : Value).ownBlock ∧ some k_ ≠ (.slice Ao16 t393.length co16 : Value).ownBlock ∧ some k_ ≠ (.slice Ao19 t400.length co19 : Value).ownBlock ∧ some k_ ≠ (.slice Ao22 t406.length co22 : Value).ownBlock ∧ some k_ ≠ (.slice Ao26 t409.length co26 : Value).ownBlock ∧ some k_ ≠ (v414 : Value).ownBlock ∧ some k_ ≠ (v417 : Value).ownBlock ∧ some k_ ≠ (.slice Ao31 t420.length co31 : Value).ownBlock ∧ some k_ ≠ (.slice Ao36 t423.length co36 : Value).ownBlock) (.slice Ao17 t397.length co17) t397) := ⟨by exact lR <| Kd.R_mono (Kd.R_far (p := ⟨gb427, 2, none⟩) (Kd.R_far (p := ⟨gb427, 1, none⟩) (Kd.R_far (p := ⟨gb427, 0, none⟩) (Kd.R_types HO399.out BK427.out (by decide)) (fun _ hk => hk.2) (.slice Ao31 t420.length co31)) (fun _ hk => hk.2) (.slice Ao36 t423.length co36)) (fun _ hk => hk.2) (.int .i64 t426)) (fun _ hk => ⟨hk.1.1.1.1.1.1.1.1, ⟨hk.1.1.1.1.1.1.1.2.1, ⟨hk.1.1.1.1.1.1.1.2.2, ⟨hk.1.1.1.1.1.1.2, ⟨hk.1.1.1.1.1.2, ⟨hk.1.1.1.1.2, ⟨hk.1.1.1.2, ⟨hk.1.1.2, hk.1.2⟩⟩⟩⟩⟩⟩⟩⟩)⟩
            have n3_ : Aside0 (Kd.R (Kd.int .i64) 3 (((w30.setCell ⟨gb427, 0, none⟩ (.slice Ao31 t420.length co31)).setCell ⟨gb427, 1, none⟩ (.slice Ao36 t423.length co36)).setCell ⟨gb427, 2, none⟩ (.int .i64 t426)) w.heap.size (fun k_ => some k_ ≠ (.slice Ao13 t390.length co13 : Value).ownBlock ∧ some k_ ≠ (.slice Ao16 t393.length co16 : Value).ownBlock ∧ some k_ ≠ (.slice Ao17 t397.length co17 : Value).ownBlock ∧ some k_ ≠ (.slice Ao22 t406.length co22 : Value).ownBlock ∧ some k_ ≠ (.slice Ao26 t409.length co26 : Value).ownBlock ∧ some k_ ≠ (v414 : Value).ownBlock ∧ some k_ ≠ (v417 : Value).ownBlock ∧ some k_ ≠ (.slice Ao31 t420.length co31 : Value).ownBlock ∧ some k_ ≠ (.slice Ao36 t423.length co36 : Value).ownBlock) (.slice Ao19 t400.length co19) t400) := ⟨by exact lR <| Kd.R_mono (Kd.R_far (p := ⟨gb427, 2, none⟩) (Kd.R_far (p := ⟨gb427, 1, none⟩) (Kd.R_far (p := ⟨gb427, 0, none⟩) (Kd.R_types HO402.out BK427.out (by decide)) (fun _ hk => hk.2) (.slice Ao31 t420.length co31)) (fun _ hk => hk.2) (.slice Ao36 t423.length co36)) (fun _ hk => hk.2) (.int .i64 t426)) (fun _ hk => ⟨hk.1.1.1.1.1.1.1.1, ⟨hk.1.1.1.1.1.1.1.2.1, ⟨hk.1.1.1.1.1.1.1.2.2, ⟨hk.1.1.1.1.1.1.2, ⟨hk.1.1.1.1.1.2, ⟨hk.1.1.1.1.2, ⟨hk.1.1.1.2, ⟨hk.1.1.2, hk.1.2⟩⟩⟩⟩⟩⟩⟩⟩)⟩
            have n4_ : Aside0 (Kd.R (Kd.int .i64) 3 (((w30.setCell ⟨gb427, 0, none⟩ (.slice Ao31 t420.length co31)).setCell ⟨gb427, 1, none⟩ (.slice Ao36 t423.length co36)).setCell ⟨gb427, 2, none⟩ (.int .i64 t426)) w.heap.size (fun k_ => some k_ ≠ (.slice Ao13 t390.length co13 : Value).ownBlock ∧ some k_ ≠ (.slice Ao16 t393.length co16 : Value).ownBlock ∧ some k_ ≠ (.slice Ao17 t397.length co17 : Value).ownBlock ∧ some k_ ≠ (.slice Ao19 t400.length co19 : Value).ownBlock ∧ some k_ ≠ (.slice Ao26 t409.length co26 : Value).ownBlock ∧ some k_ ≠ (v414 : Value).ownBlock ∧ some k_ ≠ (v417 : Value).ownBlock ∧ some k_ ≠ (.slice Ao31 t420.length co31 : Value).ownBlock ∧ some k_ ≠ (.slice Ao36 t423.length co36 : Value).ownBlock) (.slice Ao22 t406.length co22) t406) := ⟨by exact lR <| Kd.R_mono (Kd.R_far (p := ⟨gb427, 2, none⟩) (Kd.R_far (p := ⟨gb427, 1, none⟩) (Kd.R_far (p := ⟨gb427, 0, none⟩) (Kd.R_types HO408.out BK427.out (by decide)) (fun _ hk => hk.2) (.slice Ao31 t420.length co31)) (fun _ hk => hk.2) (.slice Ao36 t423.length co36)) (fun _ hk => hk.2) (.int .i64 t426)) (fun _ hk => ⟨hk.1.1.1.1.1.1.2, ⟨hk.1.1.1.1.1.2, ⟨hk.1.1.1.1.2, ⟨hk.1.1.1.2, ⟨hk.1.1.1.1.1.1.1.1, ⟨hk.1.1.1.1.1.1.1.2.1, ⟨hk.1.1.1.1.1.1.1.2.2, ⟨hk.1.1.2, hk.1.2⟩⟩⟩⟩⟩⟩⟩⟩)⟩
            have n5_ : Aside0 (Kd.R (Kd.int .i64) 3 (((w30.setCell ⟨gb427, 0, none⟩ (.slice Ao31 t420.length co31)).setCell ⟨gb427, 1, none⟩ (.slice Ao36 t423.length co36)).setCell ⟨gb427, 2, none⟩ (.int .i64 t426)) w.heap.size (fun k_ => some k_ ≠ (.slice Ao13 t390.length co13 : Value).ownBlock ∧ some k_ ≠ (.slice Ao16 t393.length co16 : Value).ownBlock ∧ some k_ ≠ (.slice Ao17 t397.length co17 : Value).ownBlock ∧ some k_ ≠ (.slice Ao19 t400.length co19 : Value).ownBlock ∧ some k_ ≠ (.slice Ao22 t406.length co22 : Value).ownBlock ∧ some k_ ≠ (v414 : Value).ownBlock ∧ some k_ ≠ (v417 : Value).ownBlock ∧ some k_ ≠ (.slice Ao31 t420.length co31 : Value).ownBlock ∧ some k_ ≠ (.slice Ao36 t423.length co36 : Value).ownBlock) (.slice Ao26 t409.length co26) t409) := ⟨by exact lR <| Kd.R_mono (Kd.R_far (p := ⟨gb427, 2, none⟩) (Kd.R_far (p := ⟨gb427, 1, none⟩) (Kd.R_far (p := ⟨gb427, 0, none⟩) (Kd.R_types HO411.out BK427.out (by decide)) (fun _ hk => hk.2) (.slice Ao31 t420.length co31)) (fun _ hk => hk.2) (.slice Ao36 t423.length co36)) (fun _ hk => hk.2) (.int .i64 t426)) (fun _ hk => ⟨hk.1.1.1.1.1.1.2, ⟨hk.1.1.1.1.1.2, ⟨hk.1.1.1.1.2, ⟨hk.1.1.1.2, ⟨hk.1.1.1.1.1.1.1.1, ⟨hk.1.1.1.1.1.1.1.2.1, ⟨hk.1.1.1.1.1.1.1.2.2, ⟨hk.1.1.2, hk.1.2⟩⟩⟩⟩⟩⟩⟩⟩)⟩
            have n6_ : Aside0 (Kd.R (Kd.int .i64) 3 (((w30.setCell ⟨gb427, 0, none⟩ (.slice Ao31 t420.length co31)).setCell ⟨gb427, 1, none⟩ (.slice Ao36 t423.length co36)).setCell ⟨gb427, 2, none⟩ (.int .i64 t426)) w.heap.size (fun k_ => some k_ ≠ (.slice Ao13 t390.length co13 : Value).ownBlock ∧ some k_ ≠ (.slice Ao16 t393.length co16 : Value).ownBlock ∧ some k_ ≠ (.slice Ao17 t397.length co17 : Value).ownBlock ∧ some k_ ≠ (.slice Ao19 t400.length co19 : Value).ownBlock ∧ some k_ ≠ (.slice Ao22 t406.length co22 : Value).ownBlock ∧ some k_ ≠ (.slice Ao26 t409.length co26 : Value).ownBlock ∧ some k_ ≠ (v417 : Value).ownBlock ∧ some k_ ≠ (.slice Ao31 t420.length co31 : Value).ownBlock ∧ some k_ ≠ (.slice Ao36 t423.length co36 : Value).ownBlock) v414 t413) := ⟨by exact lR <| Kd.R_mono (Kd.R_far (p := ⟨gb427, 2, none⟩) (Kd.R_far (p := ⟨gb427, 1, none⟩) (Kd.R_far (p := ⟨gb427, 0, none⟩) (Kd.R_types HO415.out BK427.out (by decide)) (fun _ hk => hk.2) (.slice Ao31 t420.length co31)) (fun _ hk => hk.2) (.slice Ao36 t423.length co36)) (fun _ hk => hk.2) (.int .i64 t426)) (fun _ hk => ⟨hk.1.1.1.1.1.1.2, ⟨hk.1.1.1.1.1.2, ⟨hk.1.1.1.1.2, ⟨hk.1.1.1.2, ⟨hk.1.1.1.1.1.1.1.1, ⟨hk.1.1.1.1.1.1.1.2.1, ⟨hk.1.1.1.1.1.1.1.2.2, ⟨hk.1.1.2, hk.1.2⟩⟩⟩⟩⟩⟩⟩⟩)⟩
            have n7_ : Aside0 (Kd.R (Kd.int .i64) 3 (((w30.setCell ⟨gb427, 0, none⟩ (.slice Ao31 t420.length co31)).setCell ⟨gb427, 1, none⟩ (.slice Ao36 t423.length co36)).setCell ⟨gb427, 2, none⟩ (.int .i64 t426)) w.heap.size (fun k_ => some k_ ≠ (.slice Ao13 t390.length co13 : Value).ownBlock ∧ some k_ ≠ (.slice Ao16 t393.length co16 : Value).ownBlock ∧ some k_ ≠ (.slice Ao17 t397.length co17 : Value).ownBlock ∧ some k_ ≠ (.slice Ao19 t400.length co19 : Value).ownBlock ∧ some k_ ≠ (.slice Ao22 t406.length co22 : Value).ownBlock ∧ some k_ ≠ (.slice Ao26 t409.length co26 : Value).ownBlock ∧ some k_ ≠ (v414 : Value).ownBlock ∧ some k_ ≠ (.slice Ao31 t420.length co31 : Value).ownBlock ∧ some k_ ≠ (.slice Ao36 t423.length co36 : Value).ownBlock) v417 t416) := ⟨by exact lR <| Kd.R_mono (Kd.R_far (p := ⟨gb427, 2, none⟩) (Kd.R_far (p := ⟨gb427, 1, none⟩) (Kd.R_far (p := ⟨gb427, 0, none⟩) (Kd.R_types HO418.out BK427.out (by decide)) (fun _ hk => hk.2) (.slice Ao31 t420.length co31)) (fun _ hk => hk.2) (.slice Ao36 t423.length co36)) (fun _ hk => hk.2) (.int .i64 t426)) (fun _ hk => ⟨hk.1.1.1.1.1.1.2, ⟨hk.1.1.1.1.1.2, ⟨hk.1.1.1.1.2, ⟨hk.1.1.1.2, ⟨hk.1.1.1.1.1.1.1.1, ⟨hk.1.1.1.1.1.1.1.2.1, ⟨hk.1.1.1.1.1.1.1.2.2, ⟨hk.1.1.2, hk.1.2⟩⟩⟩⟩⟩⟩⟩⟩)⟩
            have n8_ : Aside0 (Kd.R (Kd.int .i64) 3 (((w30.setCell ⟨gb427, 0, none⟩ (.slice Ao31 t420.length co31)).setCell ⟨gb427, 1, none⟩ (.slice Ao36 t423.length co36)).setCell ⟨gb427, 2, none⟩ (.int .i64 t426)) w.heap.size (fun k_ => some k_ ≠ (.slice Ao13 t390.length co13 : Value).ownBlock ∧ some k_ ≠ (.slice Ao16 t393.length co16 : Value).ownBlock ∧ some k_ ≠ (.slice Ao17 t397.length co17 : Value).ownBlock ∧ some k_ ≠ (.slice Ao19 t400.length co19 : Value).ownBlock ∧ some k_ ≠ (.slice Ao22 t406.length co22 : Value).ownBlock ∧ some k_ ≠ (.slice Ao26 t409.length co26 : Value).ownBlock ∧ some k_ ≠ (v414 : Value).ownBlock ∧ some k_ ≠ (v417 : Value).ownBlock ∧ some k_ ≠ (.slice Ao36 t423.length co36 : Value).ownBlock) (.slice Ao31 t420.length co31) t420) := ⟨by exact lR <| Kd.R_mono (Kd.R_far (p := ⟨gb427, 2, none⟩) (Kd.R_far (p := ⟨gb427, 1, none⟩) (Kd.R_far (p := ⟨gb427, 0, none⟩) (Kd.R_types HO422.out BK427.out (by decide)) (fun _ hk => hk.2) (.slice Ao31 t420.length co31)) (fun _ hk => hk.2) (.slice Ao36 t423.length co36)) (fun _ hk => hk.2) (.int .i64 t426)) (fun _ hk => ⟨hk.1.1.1.1.1.1.1.1.2, ⟨hk.1.1.1.1.1.1.1.2, ⟨hk.1.1.1.1.1.1.2, ⟨hk.1.1.1.1.1.2, ⟨hk.1.1.1.1.2, ⟨hk.1.1.1.2, ⟨hk.1.1.2, ⟨hk.1.2, hk.1.1.1.1.1.1.1.1.1⟩⟩⟩⟩⟩⟩⟩⟩)⟩
            have n9_ : Aside0 (Kd.R (Kd.int .i64) 3 (((w30.setCell ⟨gb427, 0, none⟩ (.slice Ao31 t420.length co31)).setCell ⟨gb427, 1, none⟩ (.slice Ao36 t423.length co36)).setCell ⟨gb427, 2, none⟩ (.int .i64 t426)) w.heap.size (fun k_ => some k_ ≠ (.slice Ao13 t390.length co13 : Value).ownBlock ∧ some k_ ≠ (.slice Ao16 t393.length co16 : Value).ownBlock ∧ some k_ ≠ (.slice Ao17 t397.length co17 : Value).ownBlock ∧ some k_ ≠ (.slice Ao19 t400.length co19 : Value).ownBlock ∧ some k_ ≠ (.slice Ao22 t406.length co22 : Value).ownBlock ∧ some k_ ≠ (.slice Ao26 t409.length co26 : Value).ownBlock ∧ some k_ ≠ (v414 : Value).ownBlock ∧ some k_ ≠ (v417 : Value).ownBlock ∧ some k_ ≠ (.slice Ao31 t420.length co31 : Value).ownBlock) (.slice Ao36 t423.length co36) t423) := ⟨by exact lR <| Kd.R_mono (Kd.R_far (p := ⟨gb427, 2, none⟩) (Kd.R_far (p := ⟨gb427, 1, none⟩) (Kd.R_far (p := ⟨gb427, 0, none⟩) (Kd.R_types HO425.out BK427.out (by decide)) (fun _ hk => hk.2) (.slice Ao31 t420.length co31)) (fun _ hk => hk.2) (.slice Ao36 t423.length co36)) (fun _ hk => hk.2) (.int .i64 t426)) (fun _ hk => ⟨hk.1.1.1.1.1.1.1.1.2, ⟨hk.1.1.1.1.1.1.1.2, ⟨hk.1.1.1.1.1.1.2, ⟨hk.1.1.1.1.1.2, ⟨hk.1.1.1.1.2, ⟨hk.1.1.1.2, ⟨hk.1.1.2, ⟨hk.1.2, hk.1.1.1.1.1.1.1.1.1⟩⟩⟩⟩⟩⟩⟩⟩)⟩
            have n10_ : Aside0 ((((w30.setCell ⟨gb427, 0, none⟩ (.slice Ao31 t420.length co31)).setCell ⟨gb427, 1, none⟩ (.slice Ao36 t423.length co36)).setCell ⟨gb427, 2, none⟩ (.int .i64 t426)).heap[gb404]? = some (.cells #[.slice Ao13 t390.length co13, .slice Ao16 t393.length co16, .int .i64 t396] 25 (0, 0))) := ⟨by (with_reducible repeat (first | refine blk_drewN ?_ _ | refine blk_drew ?_ | refine blk_alloc ?_ _)); refine blk_far ?_ NB404_427.out _; (with_reducible repeat (first | refine blk_drewN ?_ _ | refine blk_drew ?_ | refine blk_alloc ?_ _)); refine blk_far ?_ NB404_427.out _; (with_reducible repeat (first | refine blk_drewN ?_ _ | refine blk_drew ?_ | refine blk_alloc ?_ _)); refine blk_far ?_ NB404_427.out _; exact lK <| BK404.out⟩
            have n11_ : Aside0 ((((w30.setCell ⟨gb427, 0, none⟩ (.slice Ao31 t420.length co31)).setCell ⟨gb427, 1, none⟩ (.slice Ao36 t423.length co36)).setCell ⟨gb427, 2, none⟩ (.int .i64 t426)).heap[gb405]? = some (.cells #[.slice Ao17 t397.length co17, .slice Ao19 t400.length co19, .int .i64 t403] 25 (0, 0))) := ⟨by (with_reducible repeat (first | refine blk_drewN ?_ _ | refine blk_drew ?_ | refine blk_alloc ?_ _)); refine blk_far ?_ NB405_427.out _; (with_reducible repeat (first | refine blk_drewN ?_ _ | refine blk_drew ?_ | refine blk_alloc ?_ _)); refine blk_far ?_ NB405_427.out _; (with_reducible repeat (first | refine blk_drewN ?_ _ | refine blk_drew ?_ | refine blk_alloc ?_ _)); refine blk_far ?_ NB405_427.out _; exact lK <| BK405.out⟩
            have n12_ : Aside0 ((((w30.setCell ⟨gb427, 0, none⟩ (.slice Ao31 t420.length co31)).setCell ⟨gb427, 1, none⟩ (.slice Ao36 t423.length co36)).setCell ⟨gb427, 2, none⟩ (.int .i64 t426)).heap[gb419]? = some (.cells #[.slice Ao22 t406.length co22, .slice Ao26 t409.length co26, .int .i64 t412] 25 (0, 0))) := ⟨by (with_reducible repeat (first | refine blk_drewN ?_ _ | refine blk_drew ?_ | refine blk_alloc ?_ _)); refine blk_far ?_ NB419_427.out _; (with_reducible repeat (first | refine blk_drewN ?_ _ | refine blk_drew ?_ | refine blk_alloc ?_ _)); refine blk_far ?_ NB419_427.out _; (with_reducible repeat (first | refine blk_drewN ?_ _ | refine blk_drew ?_ | refine blk_alloc ?_ _)); refine blk_far ?_ NB419_427.out _; exact lK <| BK419.out⟩
            have n13_ : Aside0 ((((w30.setCell ⟨gb427, 0, none⟩ (.slice Ao31 t420.length co31)).setCell ⟨gb427, 1, none⟩ (.slice Ao36 t423.length co36)).setCell ⟨gb427, 2, none⟩ (.int .i64 t426)).heap[gb427]? = some (.cells #[.slice Ao31 t420.length co31, .slice Ao36 t423.length co36, .int .i64 t426] 25 (0, 0))) := ⟨by (with_reducible repeat (first | refine blk_drewN ?_ _ | refine blk_drew ?_ | refine blk_alloc ?_ _)); refine blk_put (cs := #[.slice Ao31 t420.length co31, .slice Ao36 t423.length co36, .int .i64 0]) ?_ 2 _ rfl; (with_reducible repeat (first | refine blk_drewN ?_ _ | refine blk_drew ?_ | refine blk_alloc ?_ _)); refine blk_put (cs := #[.slice Ao31 t420.length co31, .slice none 0 0, .int .i64 0]) ?_ 1 _ rfl; (with_reducible repeat (first | refine blk_drewN ?_ _ | refine blk_drew ?_ | refine blk_alloc ?_ _)); refine blk_put (cs := #[.slice none 0 0, .slice none 0 0, .int .i64 0]) ?_ 0 _ rfl; exact lK <| BK427.out⟩
            have n14_ : Aside0 (Below w.heap.size w (((w30.setCell ⟨gb427, 0, none⟩ (.slice Ao31 t420.length co31)).setCell ⟨gb427, 1, none⟩ (.slice Ao36 t423.length co36)).setCell ⟨gb427, 2, none⟩ (.int .i64 t426))) := ⟨by repeat (first | (with_reducible first | exact HB.out | apply below_alloc | apply pw_below_drewN | apply below_drew1 | refine below_set ?_ (by first | exact GE404.out | exact GE405.out | exact GE419.out | exact GE427.out)) | exact HB.out)⟩
            (try clear HO392)
            (try clear HO395)
            (try clear HO399)
            (try clear HO402)
            (try clear HO408)
            (try clear HO411)
            (try clear HO415)
            (try clear HO418)
            (try clear HO422)
            (try clear HO425)
            (try clear BK404)
            (try clear BK405)
            (try clear BK419)
            (try clear BK427)
            (try clear HB)
            generalize (((w30.setCell ⟨gb427, 0, none⟩ (.slice Ao31 t420.length co31)).setCell ⟨gb427, 1, none⟩ (.slice Ao36 t423.length co36)).setCell ⟨gb427, 2, none⟩ (.int .i64 t426)) = w52 at n0_ n1_ n2_ n3_ n4_ n5_ n6_ n7_ n8_ n9_ n10_ n11_ n12_ n13_ n14_ ⊢
            have HO392 := n0_
            have HO395 := n1_
            have HO399 := n2_
            have HO402 := n3_
            have HO408 := n4_
            have HO411 := n5_
            have HO415 := n6_
            have HO418 := n7_
            have HO422 := n8_
            have HO425 := n9_
            have BK404 := n10_
            have BK405 := n11_
            have BK419 := n12_
            have BK427 := n13_
            have HB := n14_
            clear n0_ n1_ n2_ n3_ n4_ n5_ n6_ n7_ n8_ n9_ n10_ n11_ n12_ n13_ n14_
            have n0_ := Aside0.mk (Kd.R_drew HO392.out)
            have n1_ := Aside0.mk (Kd.R_drew HO395.out)
            have n2_ := Aside0.mk (Kd.R_drew HO399.out)
            have n3_ := Aside0.mk (Kd.R_drew HO402.out)
            have n4_ := Aside0.mk (Kd.R_drew HO408.out)
            have n5_ := Aside0.mk (Kd.R_drew HO411.out)
            have n6_ := Aside0.mk (Kd.R_drew HO415.out)
            have n7_ := Aside0.mk (Kd.R_drew HO418.out)
            have n8_ := Aside0.mk (Kd.R_drew HO422.out)
            have n9_ := Aside0.mk (Kd.R_drew HO425.out)
            have n10_ := Aside0.mk (blk_drew BK404.out)
            have n11_ := Aside0.mk (blk_drew BK405.out)
            have n12_ := Aside0.mk (blk_drew BK419.out)
            have n13_ := Aside0.mk (blk_drew BK427.out)
            have n14_ := Aside0.mk (below_drew1 HB.out)
            clear HO392
            clear HO395
            clear HO399
            clear HO402
            clear HO408
            clear HO411
            clear HO415
            clear HO418
            clear HO422
            clear HO425
            clear BK404
            clear BK405
            clear BK419
            clear BK427
            clear HB
            have HO392 := n0_
            have HO395 := n1_
            have HO399 := n2_
            have HO402 := n3_
            have HO408 := n4_
            have HO411 := n5_
            have HO415 := n6_
            have HO418 := n7_
            have HO422 := n8_
            have HO425 := n9_
            have BK404 := n10_
            have BK405 := n11_
            have BK419 := n12_
            have BK427 := n13_
            have HB := n14_
            clear n0_ n1_ n2_ n3_ n4_ n5_ n6_ n7_ n8_ n9_ n10_ n11_ n12_ n13_ n14_
            refine start_ (n := 14) (S := fun w' => w'.cell? ⟨gb427, 0, none⟩ = some (.slice Ao31 t420.length co31) ∧ w'.cell? ⟨gb427, 1, none⟩ = some (.slice Ao36 t423.length co36) ∧ w'.cell? ⟨gb427, 2, none⟩ = some (.int .i64 t426) ∧ w'.cell? ⟨gb404, 0, none⟩ = some (.slice Ao13 t390.length co13) ∧ w'.cell? ⟨gb404, 1, none⟩ = some (.slice Ao16 t393.length co16) ∧ w'.cell? ⟨gb404, 2, none⟩ = some (.int .i64 t396) ∧ w'.cell? ⟨gb405, 0, none⟩ = some (.slice Ao17 t397.length co17) ∧ w'.cell? ⟨gb405, 1, none⟩ = some (.slice Ao19 t400.length co19) ∧ w'.cell? ⟨gb405, 2, none⟩ = some (.int .i64 t403)) (ds := []) #[false, false, false, false, false, false, false, false, false, false, false, false, false, false] (by kernel_rfl) rfl rfl ⟨(blk_cell BK427.out 0).trans rfl, (blk_cell BK427.out 1).trans rfl, (blk_cell BK427.out 2).trans rfl, (blk_cell BK404.out 0).trans rfl, (blk_cell BK404.out 1).trans rfl, (blk_cell BK404.out 2).trans rfl, (blk_cell BK405.out 0).trans rfl, (blk_cell BK405.out 1).trans rfl, (blk_cell BK405.out 2).trans rfl⟩ (fun hHeld => ?_); refine with_tabW laws_FnFrmAdd.tab6 laws_FnFrmAdd.bits6 (fun HT_ HW_ => ?_)
            generalize w52.drew = w53 at HO392 HO395 HO399 HO402 HO408 HO411 HO415 HO418 HO422 HO425 BK404 BK405 BK419 BK427 HB hHeld ⊢
            refine take_ (i := 0) (N := some 41) (v := ?_) (a' := ?_) #[true, false, false, false, false, false, false, false, false, false, false, false, false, false] rfl rfl (take_ofW HT_.out HW_.out (by kernel_rfl)) (fun _ _ _ h => h) (Or.inl ⟨by rfl, ?_⟩) hHeld ?_ ?_
            rotate_left
            · rintro w' ⟨s0, s1, s2, s3, s4, s5, s6, s7, s8⟩
              go_simp
              with_reducible rfl
            rotate_left
            · simp only [Act.put, List.setIfInBounds_toArray, List.set_cons_zero, List.set_cons_succ, i64_w, i32_w]
              rfl
            refine take_ (i := 1) (N := some 42) (v := ?_) (a' := ?_) #[true, true, false, false, false, false, false, false, false, false, false, false, false, false] rfl rfl (take_ofW HT_.out HW_.out (by kernel_rfl)) (fun _ _ _ h => h) (Or.inl ⟨by rfl, ?_⟩) hHeld ?_ ?_
            rotate_left
            · rintro w' ⟨s0, s1, s2, s3, s4, s5, s6, s7, s8⟩
              go_simp
              with_reducible rfl
            rotate_left
            · simp only [Act.put, List.setIfInBounds_toArray, List.set_cons_zero, List.set_cons_succ, i64_w, i32_w]
              rfl
            refine take_ (i := 2) (N := some 43) (v := ?_) (a' := ?_) #[true, true, true, false, false, false, false, false, false, false, false, false, false, false] rfl rfl (take_ofW HT_.out HW_.out (by kernel_rfl)) (fun _ _ _ h => h) (Or.inl ⟨by rfl, ?_⟩) hHeld ?_ ?_
            rotate_left
            · rintro w' ⟨s0, s1, s2, s3, s4, s5, s6, s7, s8⟩
              go_simp
              with_reducible rfl
            rotate_left
            · simp only [Act.put, List.setIfInBounds_toArray, List.set_cons_zero, List.set_cons_succ, i64_w, i32_w]
              rfl
            refine one_ (i := 3) (N := some 44) #[true, true, true, true, false, false, false, false, false, false, false, false, false, false] rfl rfl (one_of HT_.out (by kernel_rfl)) (by decide) (fun K hK => ?_)
            refine goes_ Try.func21 (by kernel_rfl) rfl #[.agg #[.slice Ao13 t390.length co13, .slice Ao16 t393.length co16, .int .i64 t396], .agg #[.slice Ao17 t397.length co17, .slice Ao19 t400.length co19, .int .i64 t403]] (by rfl) rfl rfl (by (try simp only [List.map_toArray, List.map_cons, List.map_nil]); first | done | rfl | (simp only [List.length_drop, List.length_take]; rfl)) ?_
            with_reducible refine (spec_FrmAdd.calls kj2 _ _ t390 _ _ t393 t396 _ _ t397 _ _ t400 t403 t428 t431 t434 _ ?side1 ?side2 ?side3 ?side4 ?side5 ?side6 ?side7 ?side8 A37.out).mono ?_
            (case side1 => exact lC <| (Kd.R_reads' HO392.out).2.2)
            (case side2 => exact (Kd.R_reads' HO392.out).2.1)
            (case side3 => exact lC <| (Kd.R_reads' HO395.out).2.2)
            (case side4 => exact (Kd.R_reads' HO395.out).2.1)
            (case side5 => exact lC <| (Kd.R_reads' HO399.out).2.2)
            (case side6 => exact (Kd.R_reads' HO399.out).2.1)
            (case side7 => exact lC <| (Kd.R_reads' HO402.out).2.2)
            (case side8 => exact (Kd.R_reads' HO402.out).2.1)
            rintro e w54 ⟨v429, v432, rfl, ho0, ho1, hb⟩
            refine ⟨_, rfl, ?_⟩
            have n0_ := Aside0.mk (Kd.R_mono (Kd.R_told (Kd.R_told (Kd.R_old (by exact lR <| HO392.out) hb) (Kd.R_base ho0)) (Kd.R_base ho1)) (fun _ h_ => h_.1))
            have n1_ := Aside0.mk (Kd.R_mono (Kd.R_told (Kd.R_told (Kd.R_old (by exact lR <| HO395.out) hb) (Kd.R_base ho0)) (Kd.R_base ho1)) (fun _ h_ => h_.1))
            have n2_ := Aside0.mk (Kd.R_mono (Kd.R_told (Kd.R_told (Kd.R_old (by exact lR <| HO399.out) hb) (Kd.R_base ho0)) (Kd.R_base ho1)) (fun _ h_ => h_.1))
            have n3_ := Aside0.mk (Kd.R_mono (Kd.R_told (Kd.R_told (Kd.R_old (by exact lR <| HO402.out) hb) (Kd.R_base ho0)) (Kd.R_base ho1)) (fun _ h_ => h_.1))
            have n4_ := Aside0.mk (Kd.R_mono (Kd.R_told (Kd.R_told (Kd.R_old (by exact lR <| HO408.out) hb) (Kd.R_base ho0)) (Kd.R_base ho1)) (fun _ h_ => h_.1))
            have n5_ := Aside0.mk (Kd.R_mono (Kd.R_told (Kd.R_told (Kd.R_old (by exact lR <| HO411.out) hb) (Kd.R_base ho0)) (Kd.R_base ho1)) (fun _ h_ => h_.1))
            have n6_ := Aside0.mk (Kd.R_mono (Kd.R_told (Kd.R_told (Kd.R_old (by exact lR <| HO415.out) hb) (Kd.R_base ho0)) (Kd.R_base ho1)) (fun _ h_ => h_.1))
            have n7_ := Aside0.mk (Kd.R_mono (Kd.R_told (Kd.R_told (Kd.R_old (by exact lR <| HO418.out) hb) (Kd.R_base ho0)) (Kd.R_base ho1)) (fun _ h_ => h_.1))
            have n8_ := Aside0.mk (Kd.R_mono (Kd.R_told (Kd.R_told (Kd.R_old (by exact lR <| HO422.out) hb) (Kd.R_base ho0)) (Kd.R_base ho1)) (fun _ h_ => h_.1))
            have n9_ := Aside0.mk (Kd.R_mono (Kd.R_told (Kd.R_told (Kd.R_old (by exact lR <| HO425.out) hb) (Kd.R_base ho0)) (Kd.R_base ho1)) (fun _ h_ => h_.1))
            have n10_ := Aside0.mk (Kd.R_lower (Kd.R_new' (Kd.R_new' (Kd.R_new' (Kd.R_new' (Kd.R_new' (Kd.R_new' (Kd.R_new' (Kd.R_new' (Kd.R_new' (Kd.R_new' ho0 (Kd.R_lt (by exact lR <| HO392.out))) (Kd.R_lt (by exact lR <| HO395.out))) (Kd.R_lt (by exact lR <| HO399.out))) (Kd.R_lt (by exact lR <| HO402.out))) (Kd.R_lt (by exact lR <| HO408.out))) (Kd.R_lt (by exact lR <| HO411.out))) (Kd.R_lt (by exact lR <| HO415.out))) (Kd.R_lt (by exact lR <| HO418.out))) (Kd.R_lt (by exact lR <| HO422.out))) (Kd.R_lt (by exact lR <| HO425.out))) (below_size (by repeat (first | (with_reducible first | exact HB.out | apply below_alloc | apply pw_below_drewN | apply below_drew1 | refine below_set ?_ (by first | exact GE404.out | exact GE405.out | exact GE419.out | exact GE427.out)) | exact HB.out))))
            have n11_ := Aside0.mk (Kd.R_lower (Kd.R_new' (Kd.R_new' (Kd.R_new' (Kd.R_new' (Kd.R_new' (Kd.R_new' (Kd.R_new' (Kd.R_new' (Kd.R_new' (Kd.R_new' ho1 (Kd.R_lt (by exact lR <| HO392.out))) (Kd.R_lt (by exact lR <| HO395.out))) (Kd.R_lt (by exact lR <| HO399.out))) (Kd.R_lt (by exact lR <| HO402.out))) (Kd.R_lt (by exact lR <| HO408.out))) (Kd.R_lt (by exact lR <| HO411.out))) (Kd.R_lt (by exact lR <| HO415.out))) (Kd.R_lt (by exact lR <| HO418.out))) (Kd.R_lt (by exact lR <| HO422.out))) (Kd.R_lt (by exact lR <| HO425.out))) (below_size (by repeat (first | (with_reducible first | exact HB.out | apply below_alloc | apply pw_below_drewN | apply below_drew1 | refine below_set ?_ (by first | exact GE404.out | exact GE405.out | exact GE419.out | exact GE427.out)) | exact HB.out))))
            have n12_ := Aside0.mk (blk_below (g := gb404) (o := .cells #[.slice Ao13 t390.length co13, .slice Ao16 t393.length co16, .int .i64 t396] 25 (0, 0)) (by exact lK <| BK404.out) hb)
            have n13_ := Aside0.mk (blk_below (g := gb405) (o := .cells #[.slice Ao17 t397.length co17, .slice Ao19 t400.length co19, .int .i64 t403] 25 (0, 0)) (by exact lK <| BK405.out) hb)
            have n14_ := Aside0.mk (blk_below (g := gb419) (o := .cells #[.slice Ao22 t406.length co22, .slice Ao26 t409.length co26, .int .i64 t412] 25 (0, 0)) (by exact lK <| BK419.out) hb)
            have n15_ := Aside0.mk (blk_below (g := gb427) (o := .cells #[.slice Ao31 t420.length co31, .slice Ao36 t423.length co36, .int .i64 t426] 25 (0, 0)) (by exact lK <| BK427.out) hb)
            have n16_ := Aside0.mk (below_step (by repeat (first | (with_reducible first | exact HB.out | apply below_alloc | apply pw_below_drewN | apply below_drew1 | refine below_set ?_ (by first | exact GE404.out | exact GE405.out | exact GE419.out | exact GE427.out)) | exact HB.out)) hb)
            clear HO392
            clear HO395
            clear HO399
            clear HO402
            clear HO408
            clear HO411
            clear HO415
            clear HO418
            clear HO422
            clear HO425
            clear BK404
            clear BK405
            clear BK419
            clear BK427
            clear HB
            have HO392 := n0_
            have HO395 := n1_
            have HO399 := n2_
            have HO402 := n3_
            have HO408 := n4_
            have HO411 := n5_
            have HO415 := n6_
            have HO418 := n7_
            have HO422 := n8_
            have HO425 := n9_
            have HO430 := n10_
            have HO433 := n11_
            have BK404 := n12_
            have BK405 := n13_
            have BK419 := n14_
            have BK427 := n15_
            have HB := n16_
            clear n0_ n1_ n2_ n3_ n4_ n5_ n6_ n7_ n8_ n9_ n10_ n11_ n12_ n13_ n14_ n15_ n16_
            (try clear hb)
            (try clear hb2)
            (try clear hk)
            (try clear hi)
            (try clear ho0)
            (try clear ho1)
            obtain ⟨Ao55, co55, eo55⟩ := Kd.R_slice HO430.out
            (first | subst eo55 | (injection eo55 with f1_ f2_ f3_; have f4_ := f1_.symm; have f5_ := f3_.symm; clear f1_ f2_ f3_; subst f4_; subst f5_))
            obtain ⟨Ao56, co56, eo56⟩ := Kd.R_slice HO433.out
            (first | subst eo56 | (injection eo56 with f1_ f2_ f3_; have f4_ := f1_.symm; have f5_ := f3_.symm; clear f1_ f2_ f3_; subst f4_; subst f5_))
            refine hK.out _ _ ⟨(blk_cell BK427.out 0).trans rfl, (blk_cell BK427.out 1).trans rfl, (blk_cell BK427.out 2).trans rfl, (blk_cell BK404.out 0).trans rfl, (blk_cell BK404.out 1).trans rfl, (blk_cell BK404.out 2).trans rfl, (blk_cell BK405.out 0).trans rfl, (blk_cell BK405.out 1).trans rfl, (blk_cell BK405.out 2).trans rfl⟩ (fun hHeld => ?_)
            clear hK K
            refine norm_ (a' := ?_) ?_ ?_
            rotate_left
            · show Act.put _ (some 44) _ = _
              simp only [Act.put, List.setIfInBounds_toArray, List.set_cons_zero, List.set_cons_succ, i64_w, i32_w]
              rfl
            refine one_ (i := 4) (N := some 45) #[true, true, true, true, true, false, false, false, false, false, false, false, false, false] rfl rfl (one_of HT_.out (by kernel_rfl)) (by decide) (fun K hK => ?_)
            refine goes_ Try.func12 (by kernel_rfl) rfl #[.agg #[.slice Ao31 t420.length co31, .slice Ao36 t423.length co36, .int .i64 t426], .agg #[.slice Ao55 t428.length co55, .slice Ao56 t431.length co56, .int .i64 t434]] (by rfl) rfl rfl (by (try simp only [List.map_toArray, List.map_cons, List.map_nil]); first | done | rfl | (simp only [List.length_drop, List.length_take]; rfl)) ?_
            with_reducible refine (laws_coForm.calls kj2 _ _ t420 _ _ t423 t426 _ _ t428 _ _ t431 t434 false _ ?side1 ?side2 ?side3 ?side4 ?side5 ?side6 ?side7 ?side8 A38.out).mono ?_
            (case side1 => exact lC <| (Kd.R_reads' HO422.out).2.2)
            (case side2 => exact (Kd.R_reads' HO422.out).2.1)
            (case side3 => exact lC <| (Kd.R_reads' HO425.out).2.2)
            (case side4 => exact (Kd.R_reads' HO425.out).2.1)
            (case side5 => exact lC <| (Kd.R_reads' HO430.out).2.2)
            (case side6 => exact (Kd.R_reads' HO430.out).2.1)
            (case side7 => exact lC <| (Kd.R_reads' HO433.out).2.2)
            (case side8 => exact (Kd.R_reads' HO433.out).2.1)
            rintro e w57 ⟨rfl, hb⟩
            refine ⟨_, rfl, ?_⟩
            have n0_ := Aside0.mk (Kd.R_below (by exact lR <| HO392.out) hb)
            have n1_ := Aside0.mk (Kd.R_below (by exact lR <| HO395.out) hb)
            have n2_ := Aside0.mk (Kd.R_below (by exact lR <| HO399.out) hb)
            have n3_ := Aside0.mk (Kd.R_below (by exact lR <| HO402.out) hb)
            have n4_ := Aside0.mk (Kd.R_below (by exact lR <| HO408.out) hb)
            have n5_ := Aside0.mk (Kd.R_below (by exact lR <| HO411.out) hb)
            have n6_ := Aside0.mk (Kd.R_below (by exact lR <| HO415.out) hb)
            have n7_ := Aside0.mk (Kd.R_below (by exact lR <| HO418.out) hb)
            have n8_ := Aside0.mk (Kd.R_below (by exact lR <| HO422.out) hb)
            have n9_ := Aside0.mk (Kd.R_below (by exact lR <| HO425.out) hb)
            have n10_ := Aside0.mk (Kd.R_below (by exact lR <| HO430.out) hb)
            have n11_ := Aside0.mk (Kd.R_below (by exact lR <| HO433.out) hb)
            have n12_ := Aside0.mk (blk_below (g := gb404) (o := .cells #[.slice Ao13 t390.length co13, .slice Ao16 t393.length co16, .int .i64 t396] 25 (0, 0)) (by exact lK <| BK404.out) hb)
            have n13_ := Aside0.mk (blk_below (g := gb405) (o := .cells #[.slice Ao17 t397.length co17, .slice Ao19 t400.length co19, .int .i64 t403] 25 (0, 0)) (by exact lK <| BK405.out) hb)
            have n14_ := Aside0.mk (blk_below (g := gb419) (o := .cells #[.slice Ao22 t406.length co22, .slice Ao26 t409.length co26, .int .i64 t412] 25 (0, 0)) (by exact lK <| BK419.out) hb)
            have n15_ := Aside0.mk (blk_below (g := gb427) (o := .cells #[.slice Ao31 t420.length co31, .slice Ao36 t423.length co36, .int .i64 t426] 25 (0, 0)) (by exact lK <| BK427.out) hb)
            have n16_ := Aside0.mk (below_step (by repeat (first | (with_reducible first | exact HB.out | apply below_alloc | apply pw_below_drewN | apply below_drew1 | refine below_set ?_ (by first | exact GE404.out | exact GE405.out | exact GE419.out | exact GE427.out)) | exact HB.out)) hb)
            clear HO392
            clear HO395
            clear HO399
            clear HO402
            clear HO408
            clear HO411
            clear HO415
            clear HO418
            clear HO422
            clear HO425
            clear HO430
            clear HO433
            clear BK404
            clear BK405
            clear BK419
            clear BK427
            clear HB
            have HO392 := n0_
            have HO395 := n1_
            have HO399 := n2_
            have HO402 := n3_
            have HO408 := n4_
            have HO411 := n5_
            have HO415 := n6_
            have HO418 := n7_
            have HO422 := n8_
            have HO425 := n9_
            have HO430 := n10_
            have HO433 := n11_
            have BK404 := n12_
            have BK405 := n13_
            have BK419 := n14_
            have BK427 := n15_
            have HB := n16_
            clear n0_ n1_ n2_ n3_ n4_ n5_ n6_ n7_ n8_ n9_ n10_ n11_ n12_ n13_ n14_ n15_ n16_
            (try clear hb)
            (try clear hb2)
            (try clear hk)
            (try clear hi)
            refine hK.out _ _ ⟨(blk_cell BK427.out 0).trans rfl, (blk_cell BK427.out 1).trans rfl, (blk_cell BK427.out 2).trans rfl, (blk_cell BK404.out 0).trans rfl, (blk_cell BK404.out 1).trans rfl, (blk_cell BK404.out 2).trans rfl, (blk_cell BK405.out 0).trans rfl, (blk_cell BK405.out 1).trans rfl, (blk_cell BK405.out 2).trans rfl⟩ (fun hHeld => ?_)
            clear hK K
            refine norm_ (a' := ?_) ?_ ?_
            rotate_left
            · show Act.put _ (some 45) _ = _
              simp only [Act.put, List.setIfInBounds_toArray, List.set_cons_zero, List.set_cons_succ, i64_w, i32_w]
              rfl
            refine pure_ (i := 5) (N := some 46) (v := ?_) (a' := ?_) #[true, true, true, true, true, true, false, false, false, false, false, false, false, false] rfl rfl (any_of HT_.out (by kernel_rfl)) (fun _ _ _ h => h) (Or.inl ⟨by rfl, ?_⟩) ?_ ?_
            rotate_left
            · intro w'
              go_simp
              with_reducible rfl
            rotate_left
            · simp only [Act.put, List.setIfInBounds_toArray, List.set_cons_zero, List.set_cons_succ, i64_w, i32_w]
              rfl
            refine pure_ (i := 6) (N := some 47) (v := ?_) (a' := ?_) #[true, true, true, true, true, true, true, false, false, false, false, false, false, false] rfl rfl (any_of HT_.out (by kernel_rfl)) (fun _ _ _ h => h) (Or.inl ⟨by rfl, ?_⟩) ?_ ?_
            rotate_left
            · intro w'
              go_simp
              with_reducible rfl
            rotate_left
            · simp only [Act.put, List.setIfInBounds_toArray, List.set_cons_zero, List.set_cons_succ, i64_w, i32_w]
              rfl
            refine pure_ (i := 7) (N := some 48) (v := undef) (a' := ?_) #[true, true, true, true, true, true, true, true, false, false, false, false, false, false] rfl rfl (any_of HT_.out (by kernel_rfl)) (fun _ _ _ h => h) (Or.inr ⟨by rfl, rfl⟩) ?_ ?_
            rotate_left
            · simp only [Act.put, List.setIfInBounds_toArray, List.set_cons_zero, List.set_cons_succ, i64_w, i32_w]
              rfl
            refine pure_ (i := 8) (N := some 49) (v := undef) (a' := ?_) #[true, true, true, true, true, true, true, true, true, false, false, false, false, false] rfl rfl (any_of HT_.out (by kernel_rfl)) (fun _ _ _ h => h) (Or.inr ⟨by rfl, rfl⟩) ?_ ?_
            rotate_left
            · simp only [Act.put, List.setIfInBounds_toArray, List.set_cons_zero, List.set_cons_succ, i64_w, i32_w]
              rfl
            refine pure_ (i := 9) (N := some 50) (v := undef) (a' := ?_) #[true, true, true, true, true, true, true, true, true, true, false, false, false, false] rfl rfl (any_of HT_.out (by kernel_rfl)) (fun _ _ _ h => h) (Or.inr ⟨by rfl, rfl⟩) ?_ ?_
            rotate_left
            · simp only [Act.put, List.setIfInBounds_toArray, List.set_cons_zero, List.set_cons_succ, i64_w, i32_w]
              rfl
            refine pure_ (i := 10) (N := some 51) (v := undef) (a' := ?_) #[true, true, true, true, true, true, true, true, true, true, true, false, false, false] rfl rfl (any_of HT_.out (by kernel_rfl)) (fun _ _ _ h => h) (Or.inr ⟨by rfl, rfl⟩) ?_ ?_
            rotate_left
            · simp only [Act.put, List.setIfInBounds_toArray, List.set_cons_zero, List.set_cons_succ, i64_w, i32_w]
              rfl
            refine pure_ (i := 11) (N := some 52) (v := undef) (a' := ?_) #[true, true, true, true, true, true, true, true, true, true, true, true, false, false] rfl rfl (any_of HT_.out (by kernel_rfl)) (fun _ _ _ h => h) (Or.inr ⟨by rfl, rfl⟩) ?_ ?_
            rotate_left
            · simp only [Act.put, List.setIfInBounds_toArray, List.set_cons_zero, List.set_cons_succ, i64_w, i32_w]
              rfl
            refine pure_ (i := 12) (N := some 53) (v := undef) (a' := ?_) #[true, true, true, true, true, true, true, true, true, true, true, true, true, false] rfl rfl (any_of HT_.out (by kernel_rfl)) (fun _ _ _ h => h) (Or.inr ⟨by rfl, rfl⟩) ?_ ?_
            rotate_left
            · simp only [Act.put, List.setIfInBounds_toArray, List.set_cons_zero, List.set_cons_succ, i64_w, i32_w]
              rfl
            refine pure_ (i := 13) (N := some 54) (v := ?_) (a' := ?_) #[true, true, true, true, true, true, true, true, true, true, true, true, true, true] rfl rfl (any_of HT_.out (by kernel_rfl)) (fun _ _ _ h => h) (Or.inl ⟨by rfl, ?_⟩) ?_ ?_
            rotate_left
            · intro w'
              go_simp
              with_reducible rfl
            rotate_left
            · simp only [Act.put, List.setIfInBounds_toArray, List.set_cons_zero, List.set_cons_succ, i64_w, i32_w]
              rfl
            refine done_ (done_of HT_.out (by kernel_rfl)) ?_
            try go_wp2
            go_meet
            case rel => exact ⟨_, (true), (by first | rfl | (simp; done) | (simp [*]; done)), H', ⟨by have := HJ2.out; first | omega | exact Nat.le_refl _⟩, ⟨by exact lR <| Kd.R_mono HO415.out (fun _ hk => ⟨hk.1.1.2.2.2.2.2.2.1, ⟨hk.1.1.1, ⟨hk.1.1.2.1, ⟨hk.1.1.2.2.1, ⟨hk.1.1.2.2.2.1, ⟨hk.1.1.2.2.2.2.1, ⟨hk.1.1.2.2.2.2.2.1, ⟨hk.1.1.2.2.2.2.2.2.2.1, hk.1.1.2.2.2.2.2.2.2.2⟩⟩⟩⟩⟩⟩⟩⟩)⟩, ⟨by exact lR <| Kd.R_mono HO418.out (fun _ hk => ⟨hk.1.1.2.2.2.2.2.2.1, ⟨hk.1.1.1, ⟨hk.1.1.2.1, ⟨hk.1.1.2.2.1, ⟨hk.1.1.2.2.2.1, ⟨hk.1.1.2.2.2.2.1, ⟨hk.1.1.2.2.2.2.2.1, ⟨hk.1.1.2.2.2.2.2.2.2.1, hk.1.1.2.2.2.2.2.2.2.2⟩⟩⟩⟩⟩⟩⟩⟩)⟩, ⟨by exact lR <| Kd.R_mono HO392.out (fun _ hk => ⟨hk.1.1.2.2.2.2.2.1, ⟨hk.1.1.2.2.2.2.2.2.1, ⟨hk.1.1.1, ⟨hk.1.1.2.1, ⟨hk.1.1.2.2.1, ⟨hk.1.1.2.2.2.1, ⟨hk.1.1.2.2.2.2.1, ⟨hk.1.1.2.2.2.2.2.2.2.1, hk.1.1.2.2.2.2.2.2.2.2⟩⟩⟩⟩⟩⟩⟩⟩)⟩, ⟨by exact lR <| Kd.R_mono HO395.out (fun _ hk => ⟨hk.1.1.2.2.2.2.2.1, ⟨hk.1.1.2.2.2.2.2.2.1, ⟨hk.1.1.1, ⟨hk.1.1.2.1, ⟨hk.1.1.2.2.1, ⟨hk.1.1.2.2.2.1, ⟨hk.1.1.2.2.2.2.1, ⟨hk.1.1.2.2.2.2.2.2.2.1, hk.1.1.2.2.2.2.2.2.2.2⟩⟩⟩⟩⟩⟩⟩⟩)⟩, ⟨by exact lR <| Kd.R_mono HO399.out (fun _ hk => ⟨hk.1.1.2.2.2.2.2.1, ⟨hk.1.1.2.2.2.2.2.2.1, ⟨hk.1.1.1, ⟨hk.1.1.2.1, ⟨hk.1.1.2.2.1, ⟨hk.1.1.2.2.2.1, ⟨hk.1.1.2.2.2.2.1, ⟨hk.1.1.2.2.2.2.2.2.2.1, hk.1.1.2.2.2.2.2.2.2.2⟩⟩⟩⟩⟩⟩⟩⟩)⟩, ⟨by exact lR <| Kd.R_mono HO402.out (fun _ hk => ⟨hk.1.1.2.2.2.2.2.1, ⟨hk.1.1.2.2.2.2.2.2.1, ⟨hk.1.1.1, ⟨hk.1.1.2.1, ⟨hk.1.1.2.2.1, ⟨hk.1.1.2.2.2.1, ⟨hk.1.1.2.2.2.2.1, ⟨hk.1.1.2.2.2.2.2.2.2.1, hk.1.1.2.2.2.2.2.2.2.2⟩⟩⟩⟩⟩⟩⟩⟩)⟩, ⟨by exact lR <| Kd.R_mono HO408.out (fun _ hk => ⟨hk.1.1.2.2.2.2.2.1, ⟨hk.1.1.2.2.2.2.2.2.1, ⟨hk.1.1.1, ⟨hk.1.1.2.1, ⟨hk.1.1.2.2.1, ⟨hk.1.1.2.2.2.1, ⟨hk.1.1.2.2.2.2.1, ⟨hk.1.1.2.2.2.2.2.2.2.1, hk.1.1.2.2.2.2.2.2.2.2⟩⟩⟩⟩⟩⟩⟩⟩)⟩, ⟨by exact lR <| Kd.R_mono HO411.out (fun _ hk => ⟨hk.1.1.2.2.2.2.2.1, ⟨hk.1.1.2.2.2.2.2.2.1, ⟨hk.1.1.1, ⟨hk.1.1.2.1, ⟨hk.1.1.2.2.1, ⟨hk.1.1.2.2.2.1, ⟨hk.1.1.2.2.2.2.1, ⟨hk.1.1.2.2.2.2.2.2.2.1, hk.1.1.2.2.2.2.2.2.2.2⟩⟩⟩⟩⟩⟩⟩⟩)⟩, ⟨by exact lR <| Kd.R_mono HO422.out (fun _ hk => ⟨hk.1.1.2.2.2.2.2.2.1, ⟨hk.1.1.2.2.2.2.2.2.2.1, ⟨hk.1.1.1, ⟨hk.1.1.2.1, ⟨hk.1.1.2.2.1, ⟨hk.1.1.2.2.2.1, ⟨hk.1.1.2.2.2.2.1, ⟨hk.1.1.2.2.2.2.2.1, hk.1.1.2.2.2.2.2.2.2.2⟩⟩⟩⟩⟩⟩⟩⟩)⟩, ⟨by exact lR <| Kd.R_mono HO425.out (fun _ hk => ⟨hk.1.1.2.2.2.2.2.2.1, ⟨hk.1.1.2.2.2.2.2.2.2.1, ⟨hk.1.1.1, ⟨hk.1.1.2.1, ⟨hk.1.1.2.2.1, ⟨hk.1.1.2.2.2.1, ⟨hk.1.1.2.2.2.2.1, ⟨hk.1.1.2.2.2.2.2.1, hk.1.1.2.2.2.2.2.2.2.2⟩⟩⟩⟩⟩⟩⟩⟩)⟩, ⟨by exact lK <| BK404.out⟩, ⟨by exact lK <| BK405.out⟩, ⟨by exact lK <| BK419.out⟩, ⟨by exact lK <| BK427.out⟩, ⟨by repeat (first | (with_reducible first | exact HB.out | apply below_alloc | apply pw_below_drewN | apply below_drew1 | refine below_set ?_ (by first | exact GE404.out | exact GE405.out | exact GE419.out | exact GE427.out)) | exact HB.out)⟩⟩
        case rest =>
          clear HC9
          try clear c1
          try clear c2
          try clear p2
          try clear c3
          try clear c12
          try clear c19
          try clear c21
          try clear c39
          obtain ⟨kq, x54_8, rfl, HA, HJ8, HO_8, HO_9, HO_405000, HO_405001, HO_406000, HO_406001, HO_420000, HO_420001, HO_428000, HO_428001, BK404, BK405, BK419, BK427, HB⟩ := hcut
          cases kq with
          | zero => exact absurd HA.out (by simp [laws_FnFrmAdd.j1])
          | succ kj8 =>
            have H := HA.out
            clear HA
            simp only [laws_FnFrmAdd.j1] at H
            by_cases c58 : x54_8 = true
            · subst c58
              have H1 : (some false) = some r := by rw [if_pos rfl] at H; exact H
              clear H
              have H := H1
              clear H1
              exact absurd (Option.some.inj H) (by rw [hr.out]; decide)
            · replace c58 := Bool.eq_false_iff.mpr c58
              subst c58
              have H1 : ((impl_FrmAt.f kj8 t420 t423 t426 t413 t416).bind fun bt444 => ((impl_FrmAt.f kj8 t390 t393 t396 t413 t416).bind fun bt446 => ((impl_FrmAt.f kj8 t397 t400 t403 t413 t416).bind fun bt448 => ((spec_FrmAt.f kj8 t420 t423 t426 t413 t416).bind fun bt450 => (if bt444.1 = bt450.1 then (if (bt444.2 == bt450.2) = true then (if bt444.2 = true then (if bt446.2 = true then (if bt448.2 = true then (if bt444.1 = (wrap64 (bt446.1 + bt448.1)) then ((impl_FrmZero.f).bind fun bt452 => ((impl_FrmPot.f 1).bind fun bt459 => ((impl_FrmAdd.f bt452.1 bt452.2.1 bt452.2.2 bt459.1 bt459.2.1 bt459.2.2).bind fun bt466 => ((impl_FrmPot.f 1).bind fun bt473 => ((laws_coForm.f kj8 bt466.1 bt466.2.1 bt466.2.2 bt473.1 bt473.2.1 bt473.2.2).bind fun t480 => (if t480 = true then ((laws_coHolds.f).bind fun t481 => (some t481)) else (some false))))))) else (some false)) else (some false)) else (some false)) else ((impl_FrmZero.f).bind fun bt482 => ((impl_FrmPot.f 1).bind fun bt489 => ((impl_FrmAdd.f bt482.1 bt482.2.1 bt482.2.2 bt489.1 bt489.2.1 bt489.2.2).bind fun bt496 => ((impl_FrmPot.f 1).bind fun bt503 => ((laws_coForm.f kj8 bt496.1 bt496.2.1 bt496.2.2 bt503.1 bt503.2.1 bt503.2.2).bind fun t510 => (if t510 = true then ((laws_coHolds.f).bind fun t511 => (some t511)) else (some false)))))))) else (some false)) else (some false)))))) = some r := by rw [if_neg (show ¬ (false = true) by decide)] at H; exact H
              clear H
              have H := H1
              clear H1
              replace H := Option.bind_eq_some_iff.mp H
              obtain ⟨⟨t444, t445⟩, A590, H⟩ := H
              replace H : ((impl_FrmAt.f kj8 t390 t393 t396 t413 t416).bind fun bt446 => ((impl_FrmAt.f kj8 t397 t400 t403 t413 t416).bind fun bt448 => ((spec_FrmAt.f kj8 t420 t423 t426 t413 t416).bind fun bt450 => (if t444 = bt450.1 then (if (t445 == bt450.2) = true then (if t445 = true then (if bt446.2 = true then (if bt448.2 = true then (if t444 = (wrap64 (bt446.1 + bt448.1)) then ((impl_FrmZero.f).bind fun bt452 => ((impl_FrmPot.f 1).bind fun bt459 => ((impl_FrmAdd.f bt452.1 bt452.2.1 bt452.2.2 bt459.1 bt459.2.1 bt459.2.2).bind fun bt466 => ((impl_FrmPot.f 1).bind fun bt473 => ((laws_coForm.f kj8 bt466.1 bt466.2.1 bt466.2.2 bt473.1 bt473.2.1 bt473.2.2).bind fun t480 => (if t480 = true then ((laws_coHolds.f).bind fun t481 => (some t481)) else (some false))))))) else (some false)) else (some false)) else (some false)) else ((impl_FrmZero.f).bind fun bt482 => ((impl_FrmPot.f 1).bind fun bt489 => ((impl_FrmAdd.f bt482.1 bt482.2.1 bt482.2.2 bt489.1 bt489.2.1 bt489.2.2).bind fun bt496 => ((impl_FrmPot.f 1).bind fun bt503 => ((laws_coForm.f kj8 bt496.1 bt496.2.1 bt496.2.2 bt503.1 bt503.2.1 bt503.2.2).bind fun t510 => (if t510 = true then ((laws_coHolds.f).bind fun t511 => (some t511)) else (some false)))))))) else (some false)) else (some false))))) = some r := H
              have A59 := Aside0.mk A590
              clear A590
              replace H := Option.bind_eq_some_iff.mp H
              obtain ⟨⟨t446, t447⟩, A600, H⟩ := H
              replace H : ((impl_FrmAt.f kj8 t397 t400 t403 t413 t416).bind fun bt448 => ((spec_FrmAt.f kj8 t420 t423 t426 t413 t416).bind fun bt450 => (if t444 = bt450.1 then (if (t445 == bt450.2) = true then (if t445 = true then (if t447 = true then (if bt448.2 = true then (if t444 = (wrap64 (t446 + bt448.1)) then ((impl_FrmZero.f).bind fun bt452 => ((impl_FrmPot.f 1).bind fun bt459 => ((impl_FrmAdd.f bt452.1 bt452.2.1 bt452.2.2 bt459.1 bt459.2.1 bt459.2.2).bind fun bt466 => ((impl_FrmPot.f 1).bind fun bt473 => ((laws_coForm.f kj8 bt466.1 bt466.2.1 bt466.2.2 bt473.1 bt473.2.1 bt473.2.2).bind fun t480 => (if t480 = true then ((laws_coHolds.f).bind fun t481 => (some t481)) else (some false))))))) else (some false)) else (some false)) else (some false)) else ((impl_FrmZero.f).bind fun bt482 => ((impl_FrmPot.f 1).bind fun bt489 => ((impl_FrmAdd.f bt482.1 bt482.2.1 bt482.2.2 bt489.1 bt489.2.1 bt489.2.2).bind fun bt496 => ((impl_FrmPot.f 1).bind fun bt503 => ((laws_coForm.f kj8 bt496.1 bt496.2.1 bt496.2.2 bt503.1 bt503.2.1 bt503.2.2).bind fun t510 => (if t510 = true then ((laws_coHolds.f).bind fun t511 => (some t511)) else (some false)))))))) else (some false)) else (some false)))) = some r := H
              have A60 := Aside0.mk A600
              clear A600
              replace H := Option.bind_eq_some_iff.mp H
              obtain ⟨⟨t448, t449⟩, A610, H⟩ := H
              replace H : ((spec_FrmAt.f kj8 t420 t423 t426 t413 t416).bind fun bt450 => (if t444 = bt450.1 then (if (t445 == bt450.2) = true then (if t445 = true then (if t447 = true then (if t449 = true then (if t444 = (wrap64 (t446 + t448)) then ((impl_FrmZero.f).bind fun bt452 => ((impl_FrmPot.f 1).bind fun bt459 => ((impl_FrmAdd.f bt452.1 bt452.2.1 bt452.2.2 bt459.1 bt459.2.1 bt459.2.2).bind fun bt466 => ((impl_FrmPot.f 1).bind fun bt473 => ((laws_coForm.f kj8 bt466.1 bt466.2.1 bt466.2.2 bt473.1 bt473.2.1 bt473.2.2).bind fun t480 => (if t480 = true then ((laws_coHolds.f).bind fun t481 => (some t481)) else (some false))))))) else (some false)) else (some false)) else (some false)) else ((impl_FrmZero.f).bind fun bt482 => ((impl_FrmPot.f 1).bind fun bt489 => ((impl_FrmAdd.f bt482.1 bt482.2.1 bt482.2.2 bt489.1 bt489.2.1 bt489.2.2).bind fun bt496 => ((impl_FrmPot.f 1).bind fun bt503 => ((laws_coForm.f kj8 bt496.1 bt496.2.1 bt496.2.2 bt503.1 bt503.2.1 bt503.2.2).bind fun t510 => (if t510 = true then ((laws_coHolds.f).bind fun t511 => (some t511)) else (some false)))))))) else (some false)) else (some false))) = some r := H
              have A61 := Aside0.mk A610
              clear A610
              replace H := Option.bind_eq_some_iff.mp H
              obtain ⟨⟨t450, t451⟩, A620, H⟩ := H
              replace H : (if t444 = t450 then (if (t445 == t451) = true then (if t445 = true then (if t447 = true then (if t449 = true then (if t444 = (wrap64 (t446 + t448)) then ((impl_FrmZero.f).bind fun bt452 => ((impl_FrmPot.f 1).bind fun bt459 => ((impl_FrmAdd.f bt452.1 bt452.2.1 bt452.2.2 bt459.1 bt459.2.1 bt459.2.2).bind fun bt466 => ((impl_FrmPot.f 1).bind fun bt473 => ((laws_coForm.f kj8 bt466.1 bt466.2.1 bt466.2.2 bt473.1 bt473.2.1 bt473.2.2).bind fun t480 => (if t480 = true then ((laws_coHolds.f).bind fun t481 => (some t481)) else (some false))))))) else (some false)) else (some false)) else (some false)) else ((impl_FrmZero.f).bind fun bt482 => ((impl_FrmPot.f 1).bind fun bt489 => ((impl_FrmAdd.f bt482.1 bt482.2.1 bt482.2.2 bt489.1 bt489.2.1 bt489.2.2).bind fun bt496 => ((impl_FrmPot.f 1).bind fun bt503 => ((laws_coForm.f kj8 bt496.1 bt496.2.1 bt496.2.2 bt503.1 bt503.2.1 bt503.2.2).bind fun t510 => (if t510 = true then ((laws_coHolds.f).bind fun t511 => (some t511)) else (some false)))))))) else (some false)) else (some false)) = some r := H
              have A62 := Aside0.mk A620
              clear A620
              by_cases c63 : t444 = t450
              · rw [if_pos c63] at H
                have c63b0 : (t444 == t450) = true := beq_iff_eq.mpr c63
                have c63b1 : (t444 != t450) = false := bne_eq_false_iff_eq.mpr c63
                clear c63
                by_cases c64 : (t445 == t451) = true
                · rw [if_pos c64] at H
                  have c64b0 : (t445 == t451) = true := c64
                  (try (have c64b1 : decide (t445 = t451) = true := by simpa using c64))
                  (try (have c64b2 : (t445 == t451) = true := by simpa using c64))
                  clear c64
                  by_cases c65 : t445 = true
                  · subst c65
                    have H1 : (if t447 = true then (if t449 = true then (if t444 = (wrap64 (t446 + t448)) then ((impl_FrmZero.f).bind fun bt452 => ((impl_FrmPot.f 1).bind fun bt459 => ((impl_FrmAdd.f bt452.1 bt452.2.1 bt452.2.2 bt459.1 bt459.2.1 bt459.2.2).bind fun bt466 => ((impl_FrmPot.f 1).bind fun bt473 => ((laws_coForm.f kj8 bt466.1 bt466.2.1 bt466.2.2 bt473.1 bt473.2.1 bt473.2.2).bind fun t480 => (if t480 = true then ((laws_coHolds.f).bind fun t481 => (some t481)) else (some false))))))) else (some false)) else (some false)) else (some false)) = some r := by rw [if_pos rfl] at H; exact H
                    clear H
                    have H := H1
                    clear H1
                    by_cases c66 : t447 = true
                    · subst c66
                      have H1 : (if t449 = true then (if t444 = (wrap64 (t446 + t448)) then ((impl_FrmZero.f).bind fun bt452 => ((impl_FrmPot.f 1).bind fun bt459 => ((impl_FrmAdd.f bt452.1 bt452.2.1 bt452.2.2 bt459.1 bt459.2.1 bt459.2.2).bind fun bt466 => ((impl_FrmPot.f 1).bind fun bt473 => ((laws_coForm.f kj8 bt466.1 bt466.2.1 bt466.2.2 bt473.1 bt473.2.1 bt473.2.2).bind fun t480 => (if t480 = true then ((laws_coHolds.f).bind fun t481 => (some t481)) else (some false))))))) else (some false)) else (some false)) = some r := by rw [if_pos rfl] at H; exact H
                      clear H
                      have H := H1
                      clear H1
                      by_cases c67 : t449 = true
                      · subst c67
                        have H1 : (if t444 = (wrap64 (t446 + t448)) then ((impl_FrmZero.f).bind fun bt452 => ((impl_FrmPot.f 1).bind fun bt459 => ((impl_FrmAdd.f bt452.1 bt452.2.1 bt452.2.2 bt459.1 bt459.2.1 bt459.2.2).bind fun bt466 => ((impl_FrmPot.f 1).bind fun bt473 => ((laws_coForm.f kj8 bt466.1 bt466.2.1 bt466.2.2 bt473.1 bt473.2.1 bt473.2.2).bind fun t480 => (if t480 = true then ((laws_coHolds.f).bind fun t481 => (some t481)) else (some false))))))) else (some false)) = some r := by rw [if_pos rfl] at H; exact H
                        clear H
                        have H := H1
                        clear H1
                        by_cases c68 : t444 = (wrap64 (t446 + t448))
                        · rw [if_pos c68] at H
                          have c68b0 : (t444 == (wrap64 (t446 + t448))) = true := beq_iff_eq.mpr c68
                          have c68b1 : (t444 != (wrap64 (t446 + t448))) = false := bne_eq_false_iff_eq.mpr c68
                          clear c68
                          replace H := Option.bind_eq_some_iff.mp H
                          obtain ⟨⟨t452, t455, t458⟩, A690, H⟩ := H
                          replace H : ((impl_FrmPot.f 1).bind fun bt459 => ((impl_FrmAdd.f t452 t455 t458 bt459.1 bt459.2.1 bt459.2.2).bind fun bt466 => ((impl_FrmPot.f 1).bind fun bt473 => ((laws_coForm.f kj8 bt466.1 bt466.2.1 bt466.2.2 bt473.1 bt473.2.1 bt473.2.2).bind fun t480 => (if t480 = true then ((laws_coHolds.f).bind fun t481 => (some t481)) else (some false)))))) = some r := H
                          have A69 := Aside0.mk A690
                          clear A690
                          replace H := Option.bind_eq_some_iff.mp H
                          obtain ⟨⟨t459, t462, t465⟩, A700, H⟩ := H
                          replace H : ((impl_FrmAdd.f t452 t455 t458 t459 t462 t465).bind fun bt466 => ((impl_FrmPot.f 1).bind fun bt473 => ((laws_coForm.f kj8 bt466.1 bt466.2.1 bt466.2.2 bt473.1 bt473.2.1 bt473.2.2).bind fun t480 => (if t480 = true then ((laws_coHolds.f).bind fun t481 => (some t481)) else (some false))))) = some r := H
                          have A70 := Aside0.mk A700
                          clear A700
                          replace H := Option.bind_eq_some_iff.mp H
                          obtain ⟨⟨t466, t469, t472⟩, A710, H⟩ := H
                          replace H : ((impl_FrmPot.f 1).bind fun bt473 => ((laws_coForm.f kj8 t466 t469 t472 bt473.1 bt473.2.1 bt473.2.2).bind fun t480 => (if t480 = true then ((laws_coHolds.f).bind fun t481 => (some t481)) else (some false)))) = some r := H
                          have A71 := Aside0.mk A710
                          clear A710
                          replace H := Option.bind_eq_some_iff.mp H
                          obtain ⟨⟨t473, t476, t479⟩, A720, H⟩ := H
                          replace H : ((laws_coForm.f kj8 t466 t469 t472 t473 t476 t479).bind fun t480 => (if t480 = true then ((laws_coHolds.f).bind fun t481 => (some t481)) else (some false))) = some r := H
                          have A72 := Aside0.mk A720
                          clear A720
                          replace H := Option.bind_eq_some_iff.mp H
                          obtain ⟨t480, A730, H⟩ := H
                          replace H : (if t480 = true then ((laws_coHolds.f).bind fun t481 => (some t481)) else (some false)) = some r := H
                          have A73 := Aside0.mk A730
                          clear A730
                          by_cases c74 : t480 = true
                          · subst c74
                            have H1 : ((laws_coHolds.f).bind fun t481 => (some t481)) = some r := by rw [if_pos rfl] at H; exact H
                            clear H
                            have H := H1
                            clear H1
                            replace H := Option.bind_eq_some_iff.mp H
                            obtain ⟨t481, A750, H⟩ := H
                            replace H : (some t481) = some r := H
                            have A75 := Aside0.mk A750
                            clear A750
                            obtain rfl := Option.some.inj H
                            have n_ := Aside0.mk (Kd.R_mono (ok' := fun k_ => (some k_ ≠ (v417 : Value).ownBlock ∧ (some k_ ≠ (.slice Ao13 t390.length co13 : Value).ownBlock ∧ (some k_ ≠ (.slice Ao16 t393.length co16 : Value).ownBlock ∧ (some k_ ≠ (.slice Ao17 t397.length co17 : Value).ownBlock ∧ (some k_ ≠ (.slice Ao19 t400.length co19 : Value).ownBlock ∧ (some k_ ≠ (.slice Ao31 t420.length co31 : Value).ownBlock ∧ some k_ ≠ (.slice Ao36 t423.length co36 : Value).ownBlock))))))) HO_8.out (fun _ hk => ⟨hk.1, ⟨hk.2.1, ⟨hk.2.2.1, ⟨hk.2.2.2.1, ⟨hk.2.2.2.2.1, ⟨hk.2.2.2.2.2.2.2.1, hk.2.2.2.2.2.2.2.2⟩⟩⟩⟩⟩⟩))
                            clear HO_8
                            have HO_8 := n_
                            clear n_
                            have n_ := Aside0.mk (Kd.R_mono (ok' := fun k_ => (some k_ ≠ (v414 : Value).ownBlock ∧ (some k_ ≠ (.slice Ao13 t390.length co13 : Value).ownBlock ∧ (some k_ ≠ (.slice Ao16 t393.length co16 : Value).ownBlock ∧ (some k_ ≠ (.slice Ao17 t397.length co17 : Value).ownBlock ∧ (some k_ ≠ (.slice Ao19 t400.length co19 : Value).ownBlock ∧ (some k_ ≠ (.slice Ao31 t420.length co31 : Value).ownBlock ∧ some k_ ≠ (.slice Ao36 t423.length co36 : Value).ownBlock))))))) HO_9.out (fun _ hk => ⟨hk.1, ⟨hk.2.1, ⟨hk.2.2.1, ⟨hk.2.2.2.1, ⟨hk.2.2.2.2.1, ⟨hk.2.2.2.2.2.2.2.1, hk.2.2.2.2.2.2.2.2⟩⟩⟩⟩⟩⟩))
                            clear HO_9
                            have HO_9 := n_
                            clear n_
                            have n_ := Aside0.mk (Kd.R_mono (ok' := fun k_ => (some k_ ≠ (v414 : Value).ownBlock ∧ (some k_ ≠ (v417 : Value).ownBlock ∧ (some k_ ≠ (.slice Ao16 t393.length co16 : Value).ownBlock ∧ (some k_ ≠ (.slice Ao17 t397.length co17 : Value).ownBlock ∧ (some k_ ≠ (.slice Ao19 t400.length co19 : Value).ownBlock ∧ (some k_ ≠ (.slice Ao31 t420.length co31 : Value).ownBlock ∧ some k_ ≠ (.slice Ao36 t423.length co36 : Value).ownBlock))))))) HO_405000.out (fun _ hk => ⟨hk.1, ⟨hk.2.1, ⟨hk.2.2.1, ⟨hk.2.2.2.1, ⟨hk.2.2.2.2.1, ⟨hk.2.2.2.2.2.2.2.1, hk.2.2.2.2.2.2.2.2⟩⟩⟩⟩⟩⟩))
                            clear HO_405000
                            have HO_405000 := n_
                            clear n_
                            have n_ := Aside0.mk (Kd.R_mono (ok' := fun k_ => (some k_ ≠ (v414 : Value).ownBlock ∧ (some k_ ≠ (v417 : Value).ownBlock ∧ (some k_ ≠ (.slice Ao13 t390.length co13 : Value).ownBlock ∧ (some k_ ≠ (.slice Ao17 t397.length co17 : Value).ownBlock ∧ (some k_ ≠ (.slice Ao19 t400.length co19 : Value).ownBlock ∧ (some k_ ≠ (.slice Ao31 t420.length co31 : Value).ownBlock ∧ some k_ ≠ (.slice Ao36 t423.length co36 : Value).ownBlock))))))) HO_405001.out (fun _ hk => ⟨hk.1, ⟨hk.2.1, ⟨hk.2.2.1, ⟨hk.2.2.2.1, ⟨hk.2.2.2.2.1, ⟨hk.2.2.2.2.2.2.2.1, hk.2.2.2.2.2.2.2.2⟩⟩⟩⟩⟩⟩))
                            clear HO_405001
                            have HO_405001 := n_
                            clear n_
                            have n_ := Aside0.mk (Kd.R_mono (ok' := fun k_ => (some k_ ≠ (v414 : Value).ownBlock ∧ (some k_ ≠ (v417 : Value).ownBlock ∧ (some k_ ≠ (.slice Ao13 t390.length co13 : Value).ownBlock ∧ (some k_ ≠ (.slice Ao16 t393.length co16 : Value).ownBlock ∧ (some k_ ≠ (.slice Ao19 t400.length co19 : Value).ownBlock ∧ (some k_ ≠ (.slice Ao31 t420.length co31 : Value).ownBlock ∧ some k_ ≠ (.slice Ao36 t423.length co36 : Value).ownBlock))))))) HO_406000.out (fun _ hk => ⟨hk.1, ⟨hk.2.1, ⟨hk.2.2.1, ⟨hk.2.2.2.1, ⟨hk.2.2.2.2.1, ⟨hk.2.2.2.2.2.2.2.1, hk.2.2.2.2.2.2.2.2⟩⟩⟩⟩⟩⟩))
                            clear HO_406000
                            have HO_406000 := n_
                            clear n_
                            have n_ := Aside0.mk (Kd.R_mono (ok' := fun k_ => (some k_ ≠ (v414 : Value).ownBlock ∧ (some k_ ≠ (v417 : Value).ownBlock ∧ (some k_ ≠ (.slice Ao13 t390.length co13 : Value).ownBlock ∧ (some k_ ≠ (.slice Ao16 t393.length co16 : Value).ownBlock ∧ (some k_ ≠ (.slice Ao17 t397.length co17 : Value).ownBlock ∧ (some k_ ≠ (.slice Ao31 t420.length co31 : Value).ownBlock ∧ some k_ ≠ (.slice Ao36 t423.length co36 : Value).ownBlock))))))) HO_406001.out (fun _ hk => ⟨hk.1, ⟨hk.2.1, ⟨hk.2.2.1, ⟨hk.2.2.2.1, ⟨hk.2.2.2.2.1, ⟨hk.2.2.2.2.2.2.2.1, hk.2.2.2.2.2.2.2.2⟩⟩⟩⟩⟩⟩))
                            clear HO_406001
                            have HO_406001 := n_
                            clear n_
                            have n_ := Aside0.mk (Kd.R_mono (ok' := fun k_ => (some k_ ≠ (v414 : Value).ownBlock ∧ (some k_ ≠ (v417 : Value).ownBlock ∧ (some k_ ≠ (.slice Ao13 t390.length co13 : Value).ownBlock ∧ (some k_ ≠ (.slice Ao16 t393.length co16 : Value).ownBlock ∧ (some k_ ≠ (.slice Ao17 t397.length co17 : Value).ownBlock ∧ (some k_ ≠ (.slice Ao19 t400.length co19 : Value).ownBlock ∧ some k_ ≠ (.slice Ao36 t423.length co36 : Value).ownBlock))))))) HO_428000.out (fun _ hk => ⟨hk.1, ⟨hk.2.1, ⟨hk.2.2.1, ⟨hk.2.2.2.1, ⟨hk.2.2.2.2.1, ⟨hk.2.2.2.2.2.1, hk.2.2.2.2.2.2.2.2⟩⟩⟩⟩⟩⟩))
                            clear HO_428000
                            have HO_428000 := n_
                            clear n_
                            have n_ := Aside0.mk (Kd.R_mono (ok' := fun k_ => (some k_ ≠ (v414 : Value).ownBlock ∧ (some k_ ≠ (v417 : Value).ownBlock ∧ (some k_ ≠ (.slice Ao13 t390.length co13 : Value).ownBlock ∧ (some k_ ≠ (.slice Ao16 t393.length co16 : Value).ownBlock ∧ (some k_ ≠ (.slice Ao17 t397.length co17 : Value).ownBlock ∧ (some k_ ≠ (.slice Ao19 t400.length co19 : Value).ownBlock ∧ some k_ ≠ (.slice Ao31 t420.length co31 : Value).ownBlock))))))) HO_428001.out (fun _ hk => ⟨hk.1, ⟨hk.2.1, ⟨hk.2.2.1, ⟨hk.2.2.2.1, ⟨hk.2.2.2.2.1, ⟨hk.2.2.2.2.2.1, hk.2.2.2.2.2.2.2.2⟩⟩⟩⟩⟩⟩))
                            clear HO_428001
                            have HO_428001 := n_
                            clear n_
                            have hnb76 := NB427_404.out
                            have hnc76 := NB404_427.out
                            have hnb77 := NB427_405.out
                            have hnc77 := NB405_427.out
                            have hnb78 := NB427_419.out
                            have hnc78 := NB419_427.out
                            have hcz79_0 : wc.cell? ⟨gb427, 0, none⟩ = some (.slice Ao31 t420.length co31) := (blk_cell BK427.out 0).trans rfl
                            have hcz79_1 : wc.cell? ⟨gb427, 1, none⟩ = some (.slice Ao36 t423.length co36) := (blk_cell BK427.out 1).trans rfl
                            have hcz79_2 : wc.cell? ⟨gb427, 2, none⟩ = some (.int .i64 t426) := (blk_cell BK427.out 2).trans rfl
                            have hfz79_0 := blk_frozen BK427.out 0
                            have hfz79_1 := blk_frozen BK427.out 1
                            have hfz79_2 := blk_frozen BK427.out 2
                            obtain ⟨Ao80, co80, eo80⟩ := Kd.R_slice HO_8.out
                            subst eo80
                            obtain ⟨Ao81, co81, eo81⟩ := Kd.R_slice HO_9.out
                            subst eo81
                            go_wp2_with (first | ((with_reducible refine gate_callee (f := 17) rfl ?_); refine goesL_ (some 59) rfl rfl Try.func17 (by kernel_rfl) rfl #[.agg #[.slice Ao31 t420.length co31, .slice Ao36 t423.length co36, .int .i64 t426], .slice Ao80 t413.length co80, .slice Ao81 t416.length co81] rfl (by (try simp only [List.map_toArray, List.map_cons, List.map_nil]); first | done | rfl | (simp only [List.length_drop, List.length_take]; rfl)) ?_; (with_reducible refine (impl_FrmAt.calls kj8 _ _ t420 _ _ t423 t426 _ _ t413 _ _ t416 t444 true _ ?side1 ?side2 ?side3 ?side4 ?side5 ?side6 ?side7 ?side8 A59.out).mono ?_); (case side1 => exact lC <| (Kd.R_reads' HO_428000.out).2.2); (case side2 => exact (Kd.R_reads' HO_428000.out).2.1); (case side3 => exact lC <| (Kd.R_reads' HO_428001.out).2.2); (case side4 => exact (Kd.R_reads' HO_428001.out).2.1); (case side5 => exact lC <| (Kd.R_reads' HO_8.out).2.2); (case side6 => exact (Kd.R_reads' HO_8.out).2.1); (case side7 => exact lC <| (Kd.R_reads' HO_9.out).2.2); (case side8 => exact (Kd.R_reads' HO_9.out).2.1); rintro e w82 ⟨rfl, hb⟩; refine ⟨_, rfl, ?_⟩; have n0_ := Aside0.mk (Kd.R_below (by exact lR <| HO_8.out) hb); have n1_ := Aside0.mk (Kd.R_below (by exact lR <| HO_9.out) hb); have n2_ := Aside0.mk (Kd.R_below (by exact lR <| HO_405000.out) hb); have n3_ := Aside0.mk (Kd.R_below (by exact lR <| HO_405001.out) hb); have n4_ := Aside0.mk (Kd.R_below (by exact lR <| HO_406000.out) hb); have n5_ := Aside0.mk (Kd.R_below (by exact lR <| HO_406001.out) hb); have n6_ := Aside0.mk (Kd.R_below (by exact lR <| HO_428000.out) hb); have n7_ := Aside0.mk (Kd.R_below (by exact lR <| HO_428001.out) hb); have n8_ := Aside0.mk (blk_below (g := gb404) (o := .cells #[.slice Ao13 t390.length co13, .slice Ao16 t393.length co16, .int .i64 t396] 25 (0, 0)) (by exact lK <| BK404.out) hb); have n9_ := Aside0.mk (blk_below (g := gb405) (o := .cells #[.slice Ao17 t397.length co17, .slice Ao19 t400.length co19, .int .i64 t403] 25 (0, 0)) (by exact lK <| BK405.out) hb); have n10_ := Aside0.mk (blk_below (g := gb419) (o := .cells #[.slice Ao22 t406.length co22, .slice Ao26 t409.length co26, .int .i64 t412] 25 (0, 0)) (by exact lK <| BK419.out) hb); have n11_ := Aside0.mk (blk_below (g := gb427) (o := .cells #[.slice Ao31 t420.length co31, .slice Ao36 t423.length co36, .int .i64 t426] 25 (0, 0)) (by exact lK <| BK427.out) hb); have n12_ := Aside0.mk (below_step (by repeat (first | (with_reducible first | exact HB.out | apply below_alloc | apply pw_below_drewN | apply below_drew1 | refine below_set ?_ (by first | exact GE404.out | exact GE405.out | exact GE419.out | exact GE427.out)) | exact HB.out)) hb); clear HO_8; clear HO_9; clear HO_405000; clear HO_405001; clear HO_406000; clear HO_406001; clear HO_428000; clear HO_428001; clear BK404; clear BK405; clear BK419; clear BK427; clear HB; have HO_8 := n0_; have HO_9 := n1_; have HO_405000 := n2_; have HO_405001 := n3_; have HO_406000 := n4_; have HO_406001 := n5_; have HO_428000 := n6_; have HO_428001 := n7_; have BK404 := n8_; have BK405 := n9_; have BK419 := n10_; have BK427 := n11_; have HB := n12_; clear n0_ n1_ n2_ n3_ n4_ n5_ n6_ n7_ n8_ n9_ n10_ n11_ n12_; (try clear hb); (try clear hb2); (try clear hk); (try clear hi); have hnb83 := NB404_405.out; have hnc83 := NB405_404.out; have hnb84 := NB404_419.out; have hnc84 := NB419_404.out; have hcz85_0 : w82.cell? ⟨gb404, 0, none⟩ = some (.slice Ao13 t390.length co13) := (blk_cell BK404.out 0).trans rfl; have hcz85_1 : w82.cell? ⟨gb404, 1, none⟩ = some (.slice Ao16 t393.length co16) := (blk_cell BK404.out 1).trans rfl; have hcz85_2 : w82.cell? ⟨gb404, 2, none⟩ = some (.int .i64 t396) := (blk_cell BK404.out 2).trans rfl; have hfz85_0 := blk_frozen BK404.out 0; have hfz85_1 := blk_frozen BK404.out 1; have hfz85_2 := blk_frozen BK404.out 2) | ((with_reducible refine gate_callee (f := 17) rfl ?_); refine goesL_ (some 66) rfl rfl Try.func17 (by kernel_rfl) rfl #[.agg #[.slice Ao13 t390.length co13, .slice Ao16 t393.length co16, .int .i64 t396], .slice Ao80 t413.length co80, .slice Ao81 t416.length co81] rfl (by (try simp only [List.map_toArray, List.map_cons, List.map_nil]); first | done | rfl | (simp only [List.length_drop, List.length_take]; rfl)) ?_; (with_reducible refine (impl_FrmAt.calls kj8 _ _ t390 _ _ t393 t396 _ _ t413 _ _ t416 t446 true _ ?side1 ?side2 ?side3 ?side4 ?side5 ?side6 ?side7 ?side8 A60.out).mono ?_); (case side1 => exact lC <| (Kd.R_reads' HO_405000.out).2.2); (case side2 => exact (Kd.R_reads' HO_405000.out).2.1); (case side3 => exact lC <| (Kd.R_reads' HO_405001.out).2.2); (case side4 => exact (Kd.R_reads' HO_405001.out).2.1); (case side5 => exact lC <| (Kd.R_reads' HO_8.out).2.2); (case side6 => exact (Kd.R_reads' HO_8.out).2.1); (case side7 => exact lC <| (Kd.R_reads' HO_9.out).2.2); (case side8 => exact (Kd.R_reads' HO_9.out).2.1); rintro e w86 ⟨rfl, hb⟩; refine ⟨_, rfl, ?_⟩; have n0_ := Aside0.mk (Kd.R_below (by exact lR <| HO_8.out) hb); have n1_ := Aside0.mk (Kd.R_below (by exact lR <| HO_9.out) hb); have n2_ := Aside0.mk (Kd.R_below (by exact lR <| HO_405000.out) hb); have n3_ := Aside0.mk (Kd.R_below (by exact lR <| HO_405001.out) hb); have n4_ := Aside0.mk (Kd.R_below (by exact lR <| HO_406000.out) hb); have n5_ := Aside0.mk (Kd.R_below (by exact lR <| HO_406001.out) hb); have n6_ := Aside0.mk (Kd.R_below (by exact lR <| HO_428000.out) hb); have n7_ := Aside0.mk (Kd.R_below (by exact lR <| HO_428001.out) hb); have n8_ := Aside0.mk (blk_below (g := gb404) (o := .cells #[.slice Ao13 t390.length co13, .slice Ao16 t393.length co16, .int .i64 t396] 25 (0, 0)) (by exact lK <| BK404.out) hb); have n9_ := Aside0.mk (blk_below (g := gb405) (o := .cells #[.slice Ao17 t397.length co17, .slice Ao19 t400.length co19, .int .i64 t403] 25 (0, 0)) (by exact lK <| BK405.out) hb); have n10_ := Aside0.mk (blk_below (g := gb419) (o := .cells #[.slice Ao22 t406.length co22, .slice Ao26 t409.length co26, .int .i64 t412] 25 (0, 0)) (by exact lK <| BK419.out) hb); have n11_ := Aside0.mk (blk_below (g := gb427) (o := .cells #[.slice Ao31 t420.length co31, .slice Ao36 t423.length co36, .int .i64 t426] 25 (0, 0)) (by exact lK <| BK427.out) hb); have n12_ := Aside0.mk (below_step (by repeat (first | (with_reducible first | exact HB.out | apply below_alloc | apply pw_below_drewN | apply below_drew1 | refine below_set ?_ (by first | exact GE404.out | exact GE405.out | exact GE419.out | exact GE427.out)) | exact HB.out)) hb); clear HO_8; clear HO_9; clear HO_405000; clear HO_405001; clear HO_406000; clear HO_406001; clear HO_428000; clear HO_428001; clear BK404; clear BK405; clear BK419; clear BK427; clear HB; have HO_8 := n0_; have HO_9 := n1_; have HO_405000 := n2_; have HO_405001 := n3_; have HO_406000 := n4_; have HO_406001 := n5_; have HO_428000 := n6_; have HO_428001 := n7_; have BK404 := n8_; have BK405 := n9_; have BK419 := n10_; have BK427 := n11_; have HB := n12_; clear n0_ n1_ n2_ n3_ n4_ n5_ n6_ n7_ n8_ n9_ n10_ n11_ n12_; (try clear hb); (try clear hb2); (try clear hk); (try clear hi); have n_ := Aside0.mk (Kd.R_mono (ok' := fun k_ => (some k_ ≠ (.slice Ao81 t416.length co81 : Value).ownBlock ∧ (some k_ ≠ (.slice Ao17 t397.length co17 : Value).ownBlock ∧ (some k_ ≠ (.slice Ao19 t400.length co19 : Value).ownBlock ∧ (some k_ ≠ (.slice Ao31 t420.length co31 : Value).ownBlock ∧ some k_ ≠ (.slice Ao36 t423.length co36 : Value).ownBlock))))) HO_8.out (fun _ hk => ⟨hk.1, ⟨hk.2.2.2.1, ⟨hk.2.2.2.2.1, ⟨hk.2.2.2.2.2.1, hk.2.2.2.2.2.2⟩⟩⟩⟩)); clear HO_8; have HO_8 := n_; clear n_; have n_ := Aside0.mk (Kd.R_mono (ok' := fun k_ => (some k_ ≠ (.slice Ao80 t413.length co80 : Value).ownBlock ∧ (some k_ ≠ (.slice Ao17 t397.length co17 : Value).ownBlock ∧ (some k_ ≠ (.slice Ao19 t400.length co19 : Value).ownBlock ∧ (some k_ ≠ (.slice Ao31 t420.length co31 : Value).ownBlock ∧ some k_ ≠ (.slice Ao36 t423.length co36 : Value).ownBlock))))) HO_9.out (fun _ hk => ⟨hk.1, ⟨hk.2.2.2.1, ⟨hk.2.2.2.2.1, ⟨hk.2.2.2.2.2.1, hk.2.2.2.2.2.2⟩⟩⟩⟩)); clear HO_9; have HO_9 := n_; clear n_; have n_ := Aside0.mk (Kd.R_mono (ok' := fun k_ => (some k_ ≠ (.slice Ao80 t413.length co80 : Value).ownBlock ∧ (some k_ ≠ (.slice Ao81 t416.length co81 : Value).ownBlock ∧ (some k_ ≠ (.slice Ao19 t400.length co19 : Value).ownBlock ∧ (some k_ ≠ (.slice Ao31 t420.length co31 : Value).ownBlock ∧ some k_ ≠ (.slice Ao36 t423.length co36 : Value).ownBlock))))) HO_406000.out (fun _ hk => ⟨hk.1, ⟨hk.2.1, ⟨hk.2.2.2.2.1, ⟨hk.2.2.2.2.2.1, hk.2.2.2.2.2.2⟩⟩⟩⟩)); clear HO_406000; have HO_406000 := n_; clear n_; have n_ := Aside0.mk (Kd.R_mono (ok' := fun k_ => (some k_ ≠ (.slice Ao80 t413.length co80 : Value).ownBlock ∧ (some k_ ≠ (.slice Ao81 t416.length co81 : Value).ownBlock ∧ (some k_ ≠ (.slice Ao17 t397.length co17 : Value).ownBlock ∧ (some k_ ≠ (.slice Ao31 t420.length co31 : Value).ownBlock ∧ some k_ ≠ (.slice Ao36 t423.length co36 : Value).ownBlock))))) HO_406001.out (fun _ hk => ⟨hk.1, ⟨hk.2.1, ⟨hk.2.2.2.2.1, ⟨hk.2.2.2.2.2.1, hk.2.2.2.2.2.2⟩⟩⟩⟩)); clear HO_406001; have HO_406001 := n_; clear n_; have n_ := Aside0.mk (Kd.R_mono (ok' := fun k_ => (some k_ ≠ (.slice Ao80 t413.length co80 : Value).ownBlock ∧ (some k_ ≠ (.slice Ao81 t416.length co81 : Value).ownBlock ∧ (some k_ ≠ (.slice Ao17 t397.length co17 : Value).ownBlock ∧ (some k_ ≠ (.slice Ao19 t400.length co19 : Value).ownBlock ∧ some k_ ≠ (.slice Ao36 t423.length co36 : Value).ownBlock))))) HO_428000.out (fun _ hk => ⟨hk.1, ⟨hk.2.1, ⟨hk.2.2.2.2.1, ⟨hk.2.2.2.2.2.1, hk.2.2.2.2.2.2⟩⟩⟩⟩)); clear HO_428000; have HO_428000 := n_; clear n_; have n_ := Aside0.mk (Kd.R_mono (ok' := fun k_ => (some k_ ≠ (.slice Ao80 t413.length co80 : Value).ownBlock ∧ (some k_ ≠ (.slice Ao81 t416.length co81 : Value).ownBlock ∧ (some k_ ≠ (.slice Ao17 t397.length co17 : Value).ownBlock ∧ (some k_ ≠ (.slice Ao19 t400.length co19 : Value).ownBlock ∧ some k_ ≠ (.slice Ao31 t420.length co31 : Value).ownBlock))))) HO_428001.out (fun _ hk => ⟨hk.1, ⟨hk.2.1, ⟨hk.2.2.2.2.1, ⟨hk.2.2.2.2.2.1, hk.2.2.2.2.2.2⟩⟩⟩⟩)); clear HO_428001; have HO_428001 := n_; clear n_; have hnb87 := NB405_419.out; have hnc87 := NB419_405.out; have hcz88_0 : w86.cell? ⟨gb405, 0, none⟩ = some (.slice Ao17 t397.length co17) := (blk_cell BK405.out 0).trans rfl; have hcz88_1 : w86.cell? ⟨gb405, 1, none⟩ = some (.slice Ao19 t400.length co19) := (blk_cell BK405.out 1).trans rfl; have hcz88_2 : w86.cell? ⟨gb405, 2, none⟩ = some (.int .i64 t403) := (blk_cell BK405.out 2).trans rfl; have hfz88_0 := blk_frozen BK405.out 0; have hfz88_1 := blk_frozen BK405.out 1; have hfz88_2 := blk_frozen BK405.out 2) | ((with_reducible refine gate_callee (f := 17) rfl ?_); refine goesL_ (some 73) rfl rfl Try.func17 (by kernel_rfl) rfl #[.agg #[.slice Ao17 t397.length co17, .slice Ao19 t400.length co19, .int .i64 t403], .slice Ao80 t413.length co80, .slice Ao81 t416.length co81] rfl (by (try simp only [List.map_toArray, List.map_cons, List.map_nil]); first | done | rfl | (simp only [List.length_drop, List.length_take]; rfl)) ?_; (with_reducible refine (impl_FrmAt.calls kj8 _ _ t397 _ _ t400 t403 _ _ t413 _ _ t416 t448 true _ ?side1 ?side2 ?side3 ?side4 ?side5 ?side6 ?side7 ?side8 A61.out).mono ?_); (case side1 => exact lC <| (Kd.R_reads' HO_406000.out).2.2); (case side2 => exact (Kd.R_reads' HO_406000.out).2.1); (case side3 => exact lC <| (Kd.R_reads' HO_406001.out).2.2); (case side4 => exact (Kd.R_reads' HO_406001.out).2.1); (case side5 => exact lC <| (Kd.R_reads' HO_8.out).2.2); (case side6 => exact (Kd.R_reads' HO_8.out).2.1); (case side7 => exact lC <| (Kd.R_reads' HO_9.out).2.2); (case side8 => exact (Kd.R_reads' HO_9.out).2.1); rintro e w89 ⟨rfl, hb⟩; refine ⟨_, rfl, ?_⟩; have n0_ := Aside0.mk (Kd.R_below (by exact lR <| HO_8.out) hb); have n1_ := Aside0.mk (Kd.R_below (by exact lR <| HO_9.out) hb); have n2_ := Aside0.mk (Kd.R_below (by exact lR <| HO_406000.out) hb); have n3_ := Aside0.mk (Kd.R_below (by exact lR <| HO_406001.out) hb); have n4_ := Aside0.mk (Kd.R_below (by exact lR <| HO_428000.out) hb); have n5_ := Aside0.mk (Kd.R_below (by exact lR <| HO_428001.out) hb); have n6_ := Aside0.mk (blk_below (g := gb404) (o := .cells #[.slice Ao13 t390.length co13, .slice Ao16 t393.length co16, .int .i64 t396] 25 (0, 0)) (by exact lK <| BK404.out) hb); have n7_ := Aside0.mk (blk_below (g := gb405) (o := .cells #[.slice Ao17 t397.length co17, .slice Ao19 t400.length co19, .int .i64 t403] 25 (0, 0)) (by exact lK <| BK405.out) hb); have n8_ := Aside0.mk (blk_below (g := gb419) (o := .cells #[.slice Ao22 t406.length co22, .slice Ao26 t409.length co26, .int .i64 t412] 25 (0, 0)) (by exact lK <| BK419.out) hb); have n9_ := Aside0.mk (blk_below (g := gb427) (o := .cells #[.slice Ao31 t420.length co31, .slice Ao36 t423.length co36, .int .i64 t426] 25 (0, 0)) (by exact lK <| BK427.out) hb); have n10_ := Aside0.mk (below_step (by repeat (first | (with_reducible first | exact HB.out | apply below_alloc | apply pw_below_drewN | apply below_drew1 | refine below_set ?_ (by first | exact GE404.out | exact GE405.out | exact GE419.out | exact GE427.out)) | exact HB.out)) hb); clear HO_8; clear HO_9; clear HO_406000; clear HO_406001; clear HO_428000; clear HO_428001; clear BK404; clear BK405; clear BK419; clear BK427; clear HB; have HO_8 := n0_; have HO_9 := n1_; have HO_406000 := n2_; have HO_406001 := n3_; have HO_428000 := n4_; have HO_428001 := n5_; have BK404 := n6_; have BK405 := n7_; have BK419 := n8_; have BK427 := n9_; have HB := n10_; clear n0_ n1_ n2_ n3_ n4_ n5_ n6_ n7_ n8_ n9_ n10_; (try clear hb); (try clear hb2); (try clear hk); (try clear hi); have n_ := Aside0.mk (Kd.R_mono (ok' := fun k_ => (some k_ ≠ (.slice Ao81 t416.length co81 : Value).ownBlock ∧ (some k_ ≠ (.slice Ao31 t420.length co31 : Value).ownBlock ∧ some k_ ≠ (.slice Ao36 t423.length co36 : Value).ownBlock))) HO_8.out (fun _ hk => ⟨hk.1, ⟨hk.2.2.2.1, hk.2.2.2.2⟩⟩)); clear HO_8; have HO_8 := n_; clear n_; have n_ := Aside0.mk (Kd.R_mono (ok' := fun k_ => (some k_ ≠ (.slice Ao80 t413.length co80 : Value).ownBlock ∧ (some k_ ≠ (.slice Ao31 t420.length co31 : Value).ownBlock ∧ some k_ ≠ (.slice Ao36 t423.length co36 : Value).ownBlock))) HO_9.out (fun _ hk => ⟨hk.1, ⟨hk.2.2.2.1, hk.2.2.2.2⟩⟩)); clear HO_9; have HO_9 := n_; clear n_; have n_ := Aside0.mk (Kd.R_mono (ok' := fun k_ => (some k_ ≠ (.slice Ao80 t413.length co80 : Value).ownBlock ∧ (some k_ ≠ (.slice Ao81 t416.length co81 : Value).ownBlock ∧ some k_ ≠ (.slice Ao36 t423.length co36 : Value).ownBlock))) HO_428000.out (fun _ hk => ⟨hk.1, ⟨hk.2.1, hk.2.2.2.2⟩⟩)); clear HO_428000; have HO_428000 := n_; clear n_; have n_ := Aside0.mk (Kd.R_mono (ok' := fun k_ => (some k_ ≠ (.slice Ao80 t413.length co80 : Value).ownBlock ∧ (some k_ ≠ (.slice Ao81 t416.length co81 : Value).ownBlock ∧ some k_ ≠ (.slice Ao31 t420.length co31 : Value).ownBlock))) HO_428001.out (fun _ hk => ⟨hk.1, ⟨hk.2.1, hk.2.2.2.2⟩⟩)); clear HO_428001; have HO_428001 := n_; clear n_; have hcz90_0 : w89.cell? ⟨gb427, 0, none⟩ = some (.slice Ao31 t420.length co31) := (blk_cell BK427.out 0).trans rfl; have hcz90_1 : w89.cell? ⟨gb427, 1, none⟩ = some (.slice Ao36 t423.length co36) := (blk_cell BK427.out 1).trans rfl; have hcz90_2 : w89.cell? ⟨gb427, 2, none⟩ = some (.int .i64 t426) := (blk_cell BK427.out 2).trans rfl; have hfz90_0 := blk_frozen BK427.out 0; have hfz90_1 := blk_frozen BK427.out 1; have hfz90_2 := blk_frozen BK427.out 2) | ((with_reducible refine gate_callee (f := 22) rfl ?_); refine goesL_ (some 80) rfl rfl Try.func22 (by kernel_rfl) rfl #[.agg #[.slice Ao31 t420.length co31, .slice Ao36 t423.length co36, .int .i64 t426], .slice Ao80 t413.length co80, .slice Ao81 t416.length co81] rfl (by (try simp only [List.map_toArray, List.map_cons, List.map_nil]); first | done | rfl | (simp only [List.length_drop, List.length_take]; rfl)) ?_; (with_reducible refine (spec_FrmAt.calls kj8 _ _ t420 _ _ t423 t426 _ _ t413 _ _ t416 t450 t451 _ ?side1 ?side2 ?side3 ?side4 ?side5 ?side6 ?side7 ?side8 A62.out).mono ?_); (case side1 => exact lC <| (Kd.R_reads' HO_428000.out).2.2); (case side2 => exact (Kd.R_reads' HO_428000.out).2.1); (case side3 => exact lC <| (Kd.R_reads' HO_428001.out).2.2); (case side4 => exact (Kd.R_reads' HO_428001.out).2.1); (case side5 => exact lC <| (Kd.R_reads' HO_8.out).2.2); (case side6 => exact (Kd.R_reads' HO_8.out).2.1); (case side7 => exact lC <| (Kd.R_reads' HO_9.out).2.2); (case side8 => exact (Kd.R_reads' HO_9.out).2.1); rintro e w91 ⟨rfl, hb⟩; refine ⟨_, rfl, ?_⟩; have n0_ := Aside0.mk (Kd.R_below (by exact lR <| HO_8.out) hb); have n1_ := Aside0.mk (Kd.R_below (by exact lR <| HO_9.out) hb); have n2_ := Aside0.mk (Kd.R_below (by exact lR <| HO_428000.out) hb); have n3_ := Aside0.mk (Kd.R_below (by exact lR <| HO_428001.out) hb); have n4_ := Aside0.mk (blk_below (g := gb404) (o := .cells #[.slice Ao13 t390.length co13, .slice Ao16 t393.length co16, .int .i64 t396] 25 (0, 0)) (by exact lK <| BK404.out) hb); have n5_ := Aside0.mk (blk_below (g := gb405) (o := .cells #[.slice Ao17 t397.length co17, .slice Ao19 t400.length co19, .int .i64 t403] 25 (0, 0)) (by exact lK <| BK405.out) hb); have n6_ := Aside0.mk (blk_below (g := gb419) (o := .cells #[.slice Ao22 t406.length co22, .slice Ao26 t409.length co26, .int .i64 t412] 25 (0, 0)) (by exact lK <| BK419.out) hb); have n7_ := Aside0.mk (blk_below (g := gb427) (o := .cells #[.slice Ao31 t420.length co31, .slice Ao36 t423.length co36, .int .i64 t426] 25 (0, 0)) (by exact lK <| BK427.out) hb); have n8_ := Aside0.mk (below_step (by repeat (first | (with_reducible first | exact HB.out | apply below_alloc | apply pw_below_drewN | apply below_drew1 | refine below_set ?_ (by first | exact GE404.out | exact GE405.out | exact GE419.out | exact GE427.out)) | exact HB.out)) hb); clear HO_8; clear HO_9; clear HO_428000; clear HO_428001; clear BK404; clear BK405; clear BK419; clear BK427; clear HB; have HO_8 := n0_; have HO_9 := n1_; have HO_428000 := n2_; have HO_428001 := n3_; have BK404 := n4_; have BK405 := n5_; have BK419 := n6_; have BK427 := n7_; have HB := n8_; clear n0_ n1_ n2_ n3_ n4_ n5_ n6_ n7_ n8_; (try clear hb); (try clear hb2); (try clear hk); (try clear hi)) | (go_at_call 18; (with_reducible refine (impl_FrmZero.calls  t452 t455 t458 _ A69.out).mono ?_); rintro e w92 ⟨v453, v456, rfl, ho0, ho1, hb⟩; have n0_ := Aside0.mk (Kd.R_lower ho0 (below_size (by repeat (first | (with_reducible first | exact HB.out | apply below_alloc | apply pw_below_drewN | apply below_drew1 | refine below_set ?_ (by first | exact GE404.out | exact GE405.out | exact GE419.out | exact GE427.out)) | exact HB.out)))); have n1_ := Aside0.mk (Kd.R_lower ho1 (below_size (by repeat (first | (with_reducible first | exact HB.out | apply below_alloc | apply pw_below_drewN | apply below_drew1 | refine below_set ?_ (by first | exact GE404.out | exact GE405.out | exact GE419.out | exact GE427.out)) | exact HB.out)))); have n2_ := Aside0.mk (blk_below (g := gb404) (o := .cells #[.slice Ao13 t390.length co13, .slice Ao16 t393.length co16, .int .i64 t396] 25 (0, 0)) (by exact lK <| BK404.out) hb); have n3_ := Aside0.mk (blk_below (g := gb405) (o := .cells #[.slice Ao17 t397.length co17, .slice Ao19 t400.length co19, .int .i64 t403] 25 (0, 0)) (by exact lK <| BK405.out) hb); have n4_ := Aside0.mk (blk_below (g := gb419) (o := .cells #[.slice Ao22 t406.length co22, .slice Ao26 t409.length co26, .int .i64 t412] 25 (0, 0)) (by exact lK <| BK419.out) hb); have n5_ := Aside0.mk (blk_below (g := gb427) (o := .cells #[.slice Ao31 t420.length co31, .slice Ao36 t423.length co36, .int .i64 t426] 25 (0, 0)) (by exact lK <| BK427.out) hb); have n6_ := Aside0.mk (below_step (by repeat (first | (with_reducible first | exact HB.out | apply below_alloc | apply pw_below_drewN | apply below_drew1 | refine below_set ?_ (by first | exact GE404.out | exact GE405.out | exact GE419.out | exact GE427.out)) | exact HB.out)) hb); clear BK404; clear BK405; clear BK419; clear BK427; clear HB; have HO454 := n0_; have HO457 := n1_; have BK404 := n2_; have BK405 := n3_; have BK419 := n4_; have BK427 := n5_; have HB := n6_; clear n0_ n1_ n2_ n3_ n4_ n5_ n6_; (try clear hb); (try clear hb2); (try clear hk); (try clear hi); (try clear ho0); (try clear ho1)) | (go_at_call 23; (with_reducible refine (impl_FrmPot.calls 1 t459 t462 t465 _ A70.out).mono ?_); rintro e w93 ⟨v460, v463, rfl, ho0, ho1, hb⟩; have n0_ := Aside0.mk (Kd.R_mono (Kd.R_told (Kd.R_told (Kd.R_old (by exact lR <| HO454.out) hb) (Kd.R_base ho0)) (Kd.R_base ho1)) (fun _ h_ => h_.1)); have n1_ := Aside0.mk (Kd.R_mono (Kd.R_told (Kd.R_told (Kd.R_old (by exact lR <| HO457.out) hb) (Kd.R_base ho0)) (Kd.R_base ho1)) (fun _ h_ => h_.1)); have n2_ := Aside0.mk (Kd.R_lower (Kd.R_new' (Kd.R_new' ho0 (Kd.R_lt (by exact lR <| HO454.out))) (Kd.R_lt (by exact lR <| HO457.out))) (below_size (by repeat (first | (with_reducible first | exact HB.out | apply below_alloc | apply pw_below_drewN | apply below_drew1 | refine below_set ?_ (by first | exact GE404.out | exact GE405.out | exact GE419.out | exact GE427.out)) | exact HB.out)))); have n3_ := Aside0.mk (Kd.R_lower (Kd.R_new' (Kd.R_new' ho1 (Kd.R_lt (by exact lR <| HO454.out))) (Kd.R_lt (by exact lR <| HO457.out))) (below_size (by repeat (first | (with_reducible first | exact HB.out | apply below_alloc | apply pw_below_drewN | apply below_drew1 | refine below_set ?_ (by first | exact GE404.out | exact GE405.out | exact GE419.out | exact GE427.out)) | exact HB.out)))); have n4_ := Aside0.mk (blk_below (g := gb404) (o := .cells #[.slice Ao13 t390.length co13, .slice Ao16 t393.length co16, .int .i64 t396] 25 (0, 0)) (by exact lK <| BK404.out) hb); have n5_ := Aside0.mk (blk_below (g := gb405) (o := .cells #[.slice Ao17 t397.length co17, .slice Ao19 t400.length co19, .int .i64 t403] 25 (0, 0)) (by exact lK <| BK405.out) hb); have n6_ := Aside0.mk (blk_below (g := gb419) (o := .cells #[.slice Ao22 t406.length co22, .slice Ao26 t409.length co26, .int .i64 t412] 25 (0, 0)) (by exact lK <| BK419.out) hb); have n7_ := Aside0.mk (blk_below (g := gb427) (o := .cells #[.slice Ao31 t420.length co31, .slice Ao36 t423.length co36, .int .i64 t426] 25 (0, 0)) (by exact lK <| BK427.out) hb); have n8_ := Aside0.mk (below_step (by repeat (first | (with_reducible first | exact HB.out | apply below_alloc | apply pw_below_drewN | apply below_drew1 | refine below_set ?_ (by first | exact GE404.out | exact GE405.out | exact GE419.out | exact GE427.out)) | exact HB.out)) hb); clear HO454; clear HO457; clear BK404; clear BK405; clear BK419; clear BK427; clear HB; have HO454 := n0_; have HO457 := n1_; have HO461 := n2_; have HO464 := n3_; have BK404 := n4_; have BK405 := n5_; have BK419 := n6_; have BK427 := n7_; have HB := n8_; clear n0_ n1_ n2_ n3_ n4_ n5_ n6_ n7_ n8_; (try clear hb); (try clear hb2); (try clear hk); (try clear hi); (try clear ho0); (try clear ho1); obtain ⟨Ao94, co94, eo94⟩ := Kd.R_slice HO454.out; subst eo94; obtain ⟨Ao95, co95, eo95⟩ := Kd.R_slice HO457.out; subst eo95; obtain ⟨Ao96, co96, eo96⟩ := Kd.R_slice HO461.out; subst eo96; obtain ⟨Ao97, co97, eo97⟩ := Kd.R_slice HO464.out; subst eo97) | (go_at_call 19; (with_reducible refine (impl_FrmAdd.calls _ _ t452 _ _ t455 t458 _ _ t459 _ _ t462 t465 t466 t469 t472 _ ?side1 ?side2 ?side3 ?side4 ?side5 ?side6 ?side7 ?side8 A71.out).mono ?_); (case side1 => exact lC <| (Kd.R_reads' HO454.out).2.2); (case side2 => exact (Kd.R_reads' HO454.out).2.1); (case side3 => exact lC <| (Kd.R_reads' HO457.out).2.2); (case side4 => exact (Kd.R_reads' HO457.out).2.1); (case side5 => exact lC <| (Kd.R_reads' HO461.out).2.2); (case side6 => exact (Kd.R_reads' HO461.out).2.1); (case side7 => exact lC <| (Kd.R_reads' HO464.out).2.2); (case side8 => exact (Kd.R_reads' HO464.out).2.1); rintro e w98 ⟨v467, v470, rfl, ho0, ho1, hb⟩; have n0_ := Aside0.mk (Kd.R_mono (Kd.R_told (Kd.R_told (Kd.R_old (by exact lR <| HO454.out) hb) (Kd.R_base ho0)) (Kd.R_base ho1)) (fun _ h_ => h_.1)); have n1_ := Aside0.mk (Kd.R_mono (Kd.R_told (Kd.R_told (Kd.R_old (by exact lR <| HO457.out) hb) (Kd.R_base ho0)) (Kd.R_base ho1)) (fun _ h_ => h_.1)); have n2_ := Aside0.mk (Kd.R_mono (Kd.R_told (Kd.R_told (Kd.R_old (by exact lR <| HO461.out) hb) (Kd.R_base ho0)) (Kd.R_base ho1)) (fun _ h_ => h_.1)); have n3_ := Aside0.mk (Kd.R_mono (Kd.R_told (Kd.R_told (Kd.R_old (by exact lR <| HO464.out) hb) (Kd.R_base ho0)) (Kd.R_base ho1)) (fun _ h_ => h_.1)); have n4_ := Aside0.mk (Kd.R_lower (Kd.R_new' (Kd.R_new' (Kd.R_new' (Kd.R_new' ho0 (Kd.R_lt (by exact lR <| HO454.out))) (Kd.R_lt (by exact lR <| HO457.out))) (Kd.R_lt (by exact lR <| HO461.out))) (Kd.R_lt (by exact lR <| HO464.out))) (below_size (by repeat (first | (with_reducible first | exact HB.out | apply below_alloc | apply pw_below_drewN | apply below_drew1 | refine below_set ?_ (by first | exact GE404.out | exact GE405.out | exact GE419.out | exact GE427.out)) | exact HB.out)))); have n5_ := Aside0.mk (Kd.R_lower (Kd.R_new' (Kd.R_new' (Kd.R_new' (Kd.R_new' ho1 (Kd.R_lt (by exact lR <| HO454.out))) (Kd.R_lt (by exact lR <| HO457.out))) (Kd.R_lt (by exact lR <| HO461.out))) (Kd.R_lt (by exact lR <| HO464.out))) (below_size (by repeat (first | (with_reducible first | exact HB.out | apply below_alloc | apply pw_below_drewN | apply below_drew1 | refine below_set ?_ (by first | exact GE404.out | exact GE405.out | exact GE419.out | exact GE427.out)) | exact HB.out)))); have n6_ := Aside0.mk (blk_below (g := gb404) (o := .cells #[.slice Ao13 t390.length co13, .slice Ao16 t393.length co16, .int .i64 t396] 25 (0, 0)) (by exact lK <| BK404.out) hb); have n7_ := Aside0.mk (blk_below (g := gb405) (o := .cells #[.slice Ao17 t397.length co17, .slice Ao19 t400.length co19, .int .i64 t403] 25 (0, 0)) (by exact lK <| BK405.out) hb); have n8_ := Aside0.mk (blk_below (g := gb419) (o := .cells #[.slice Ao22 t406.length co22, .slice Ao26 t409.length co26, .int .i64 t412] 25 (0, 0)) (by exact lK <| BK419.out) hb); have n9_ := Aside0.mk (blk_below (g := gb427) (o := .cells #[.slice Ao31 t420.length co31, .slice Ao36 t423.length co36, .int .i64 t426] 25 (0, 0)) (by exact lK <| BK427.out) hb); have n10_ := Aside0.mk (below_step (by repeat (first | (with_reducible first | exact HB.out | apply below_alloc | apply pw_below_drewN | apply below_drew1 | refine below_set ?_ (by first | exact GE404.out | exact GE405.out | exact GE419.out | exact GE427.out)) | exact HB.out)) hb); clear HO454; clear HO457; clear HO461; clear HO464; clear BK404; clear BK405; clear BK419; clear BK427; clear HB; have HO454 := n0_; have HO457 := n1_; have HO461 := n2_; have HO464 := n3_; have HO468 := n4_; have HO471 := n5_; have BK404 := n6_; have BK405 := n7_; have BK419 := n8_; have BK427 := n9_; have HB := n10_; clear n0_ n1_ n2_ n3_ n4_ n5_ n6_ n7_ n8_ n9_ n10_; (try clear hb); (try clear hb2); (try clear hk); (try clear hi); (try clear ho0); (try clear ho1); have n_ := Aside0.mk (Kd.R_mono (ok' := fun k_ => some k_ ≠ (v470 : Value).ownBlock) HO468.out (fun _ hk => hk.1.1.1.1)); clear HO468; have HO468 := n_; clear n_; have n_ := Aside0.mk (Kd.R_mono (ok' := fun k_ => some k_ ≠ (v467 : Value).ownBlock) HO471.out (fun _ hk => hk.1.1.1.1)); clear HO471; have HO471 := n_; clear n_) | (go_at_call 23; (with_reducible refine (impl_FrmPot.calls 1 t473 t476 t479 _ A72.out).mono ?_); rintro e w99 ⟨v474, v477, rfl, ho0, ho1, hb⟩; have n0_ := Aside0.mk (Kd.R_mono (Kd.R_told (Kd.R_told (Kd.R_old (by exact lR <| HO468.out) hb) (Kd.R_base ho0)) (Kd.R_base ho1)) (fun _ h_ => h_.1)); have n1_ := Aside0.mk (Kd.R_mono (Kd.R_told (Kd.R_told (Kd.R_old (by exact lR <| HO471.out) hb) (Kd.R_base ho0)) (Kd.R_base ho1)) (fun _ h_ => h_.1)); have n2_ := Aside0.mk (Kd.R_lower (Kd.R_new' (Kd.R_new' ho0 (Kd.R_lt (by exact lR <| HO468.out))) (Kd.R_lt (by exact lR <| HO471.out))) (below_size (by repeat (first | (with_reducible first | exact HB.out | apply below_alloc | apply pw_below_drewN | apply below_drew1 | refine below_set ?_ (by first | exact GE404.out | exact GE405.out | exact GE419.out | exact GE427.out)) | exact HB.out)))); have n3_ := Aside0.mk (Kd.R_lower (Kd.R_new' (Kd.R_new' ho1 (Kd.R_lt (by exact lR <| HO468.out))) (Kd.R_lt (by exact lR <| HO471.out))) (below_size (by repeat (first | (with_reducible first | exact HB.out | apply below_alloc | apply pw_below_drewN | apply below_drew1 | refine below_set ?_ (by first | exact GE404.out | exact GE405.out | exact GE419.out | exact GE427.out)) | exact HB.out)))); have n4_ := Aside0.mk (blk_below (g := gb404) (o := .cells #[.slice Ao13 t390.length co13, .slice Ao16 t393.length co16, .int .i64 t396] 25 (0, 0)) (by exact lK <| BK404.out) hb); have n5_ := Aside0.mk (blk_below (g := gb405) (o := .cells #[.slice Ao17 t397.length co17, .slice Ao19 t400.length co19, .int .i64 t403] 25 (0, 0)) (by exact lK <| BK405.out) hb); have n6_ := Aside0.mk (blk_below (g := gb419) (o := .cells #[.slice Ao22 t406.length co22, .slice Ao26 t409.length co26, .int .i64 t412] 25 (0, 0)) (by exact lK <| BK419.out) hb); have n7_ := Aside0.mk (blk_below (g := gb427) (o := .cells #[.slice Ao31 t420.length co31, .slice Ao36 t423.length co36, .int .i64 t426] 25 (0, 0)) (by exact lK <| BK427.out) hb); have n8_ := Aside0.mk (below_step (by repeat (first | (with_reducible first | exact HB.out | apply below_alloc | apply pw_below_drewN | apply below_drew1 | refine below_set ?_ (by first | exact GE404.out | exact GE405.out | exact GE419.out | exact GE427.out)) | exact HB.out)) hb); clear HO468; clear HO471; clear BK404; clear BK405; clear BK419; clear BK427; clear HB; have HO468 := n0_; have HO471 := n1_; have HO475 := n2_; have HO478 := n3_; have BK404 := n4_; have BK405 := n5_; have BK419 := n6_; have BK427 := n7_; have HB := n8_; clear n0_ n1_ n2_ n3_ n4_ n5_ n6_ n7_ n8_; (try clear hb); (try clear hb2); (try clear hk); (try clear hi); (try clear ho0); (try clear ho1); obtain ⟨Ao100, co100, eo100⟩ := Kd.R_slice HO468.out; subst eo100; obtain ⟨Ao101, co101, eo101⟩ := Kd.R_slice HO471.out; subst eo101; obtain ⟨Ao102, co102, eo102⟩ := Kd.R_slice HO475.out; subst eo102; obtain ⟨Ao103, co103, eo103⟩ := Kd.R_slice HO478.out; subst eo103) | (go_at_call 12; (with_reducible refine (laws_coForm.calls kj8 _ _ t466 _ _ t469 t472 _ _ t473 _ _ t476 t479 true _ ?side1 ?side2 ?side3 ?side4 ?side5 ?side6 ?side7 ?side8 A73.out).mono ?_); (case side1 => exact lC <| (Kd.R_reads' HO468.out).2.2); (case side2 => exact (Kd.R_reads' HO468.out).2.1); (case side3 => exact lC <| (Kd.R_reads' HO471.out).2.2); (case side4 => exact (Kd.R_reads' HO471.out).2.1); (case side5 => exact lC <| (Kd.R_reads' HO475.out).2.2); (case side6 => exact (Kd.R_reads' HO475.out).2.1); (case side7 => exact lC <| (Kd.R_reads' HO478.out).2.2); (case side8 => exact (Kd.R_reads' HO478.out).2.1); rintro e w104 ⟨rfl, hb⟩; have n0_ := Aside0.mk (Kd.R_below (by exact lR <| HO468.out) hb); have n1_ := Aside0.mk (Kd.R_below (by exact lR <| HO471.out) hb); have n2_ := Aside0.mk (Kd.R_below (by exact lR <| HO475.out) hb); have n3_ := Aside0.mk (Kd.R_below (by exact lR <| HO478.out) hb); have n4_ := Aside0.mk (blk_below (g := gb404) (o := .cells #[.slice Ao13 t390.length co13, .slice Ao16 t393.length co16, .int .i64 t396] 25 (0, 0)) (by exact lK <| BK404.out) hb); have n5_ := Aside0.mk (blk_below (g := gb405) (o := .cells #[.slice Ao17 t397.length co17, .slice Ao19 t400.length co19, .int .i64 t403] 25 (0, 0)) (by exact lK <| BK405.out) hb); have n6_ := Aside0.mk (blk_below (g := gb419) (o := .cells #[.slice Ao22 t406.length co22, .slice Ao26 t409.length co26, .int .i64 t412] 25 (0, 0)) (by exact lK <| BK419.out) hb); have n7_ := Aside0.mk (blk_below (g := gb427) (o := .cells #[.slice Ao31 t420.length co31, .slice Ao36 t423.length co36, .int .i64 t426] 25 (0, 0)) (by exact lK <| BK427.out) hb); have n8_ := Aside0.mk (below_step (by repeat (first | (with_reducible first | exact HB.out | apply below_alloc | apply pw_below_drewN | apply below_drew1 | refine below_set ?_ (by first | exact GE404.out | exact GE405.out | exact GE419.out | exact GE427.out)) | exact HB.out)) hb); clear HO468; clear HO471; clear HO475; clear HO478; clear BK404; clear BK405; clear BK419; clear BK427; clear HB; have HO468 := n0_; have HO471 := n1_; have HO475 := n2_; have HO478 := n3_; have BK404 := n4_; have BK405 := n5_; have BK419 := n6_; have BK427 := n7_; have HB := n8_; clear n0_ n1_ n2_ n3_ n4_ n5_ n6_ n7_ n8_; (try clear hb); (try clear hb2); (try clear hk); (try clear hi)) | (go_at_call 16; (with_reducible refine (laws_coHolds.calls  t481 _ A75.out).mono ?_); rintro e w105 ⟨rfl, hb⟩; have n0_ := Aside0.mk (blk_below (g := gb404) (o := .cells #[.slice Ao13 t390.length co13, .slice Ao16 t393.length co16, .int .i64 t396] 25 (0, 0)) (by exact lK <| BK404.out) hb); have n1_ := Aside0.mk (blk_below (g := gb405) (o := .cells #[.slice Ao17 t397.length co17, .slice Ao19 t400.length co19, .int .i64 t403] 25 (0, 0)) (by exact lK <| BK405.out) hb); have n2_ := Aside0.mk (blk_below (g := gb419) (o := .cells #[.slice Ao22 t406.length co22, .slice Ao26 t409.length co26, .int .i64 t412] 25 (0, 0)) (by exact lK <| BK419.out) hb); have n3_ := Aside0.mk (blk_below (g := gb427) (o := .cells #[.slice Ao31 t420.length co31, .slice Ao36 t423.length co36, .int .i64 t426] 25 (0, 0)) (by exact lK <| BK427.out) hb); have n4_ := Aside0.mk (below_step (by repeat (first | (with_reducible first | exact HB.out | apply below_alloc | apply pw_below_drewN | apply below_drew1 | refine below_set ?_ (by first | exact GE404.out | exact GE405.out | exact GE419.out | exact GE427.out)) | exact HB.out)) hb); clear BK404; clear BK405; clear BK419; clear BK427; clear HB; have BK404 := n0_; have BK405 := n1_; have BK419 := n2_; have BK427 := n3_; have HB := n4_; clear n0_ n1_ n2_ n3_ n4_; (try clear hb); (try clear hb2); (try clear hk); (try clear hi)))
                            go_ret
                            exact ⟨by first | rfl | (simp [errW_none, errW_some] <;> rfl) | (simp [*, errW_none, errW_some] <;> rfl), by repeat (first | (with_reducible first | exact HB.out | apply below_alloc | apply pw_below_drewN | apply below_drew1 | refine below_set ?_ (by first | exact GE404.out | exact GE405.out | exact GE419.out | exact GE427.out)) | exact HB.out)⟩
                          · replace c74 := Bool.eq_false_iff.mpr c74
                            subst c74
                            have H1 : (some false) = some r := by rw [if_neg (show ¬ (false = true) by decide)] at H; exact H
                            clear H
                            have H := H1
                            clear H1
                            exact absurd (Option.some.inj H) (by rw [hr.out]; decide)
                        · rw [if_neg c68] at H
                          have c68b0 : (t444 == (wrap64 (t446 + t448))) = false := beq_eq_false_iff_ne.mpr c68
                          have c68b1 : (t444 != (wrap64 (t446 + t448))) = true := bne_iff_ne.mpr c68
                          exact absurd (Option.some.inj H) (by rw [hr.out]; decide)
                      · replace c67 := Bool.eq_false_iff.mpr c67
                        subst c67
                        have H1 : (some false) = some r := by rw [if_neg (show ¬ (false = true) by decide)] at H; exact H
                        clear H
                        have H := H1
                        clear H1
                        exact absurd (Option.some.inj H) (by rw [hr.out]; decide)
                    · replace c66 := Bool.eq_false_iff.mpr c66
                      subst c66
                      have H1 : (some false) = some r := by rw [if_neg (show ¬ (false = true) by decide)] at H; exact H
                      clear H
                      have H := H1
                      clear H1
                      exact absurd (Option.some.inj H) (by rw [hr.out]; decide)
                  · replace c65 := Bool.eq_false_iff.mpr c65
                    subst c65
                    have H1 : ((impl_FrmZero.f).bind fun bt482 => ((impl_FrmPot.f 1).bind fun bt489 => ((impl_FrmAdd.f bt482.1 bt482.2.1 bt482.2.2 bt489.1 bt489.2.1 bt489.2.2).bind fun bt496 => ((impl_FrmPot.f 1).bind fun bt503 => ((laws_coForm.f kj8 bt496.1 bt496.2.1 bt496.2.2 bt503.1 bt503.2.1 bt503.2.2).bind fun t510 => (if t510 = true then ((laws_coHolds.f).bind fun t511 => (some t511)) else (some false))))))) = some r := by rw [if_neg (show ¬ (false = true) by decide)] at H; exact H
                    clear H
                    have H := H1
                    clear H1
                    replace H := Option.bind_eq_some_iff.mp H
                    obtain ⟨⟨t482, t485, t488⟩, A1060, H⟩ := H
                    replace H : ((impl_FrmPot.f 1).bind fun bt489 => ((impl_FrmAdd.f t482 t485 t488 bt489.1 bt489.2.1 bt489.2.2).bind fun bt496 => ((impl_FrmPot.f 1).bind fun bt503 => ((laws_coForm.f kj8 bt496.1 bt496.2.1 bt496.2.2 bt503.1 bt503.2.1 bt503.2.2).bind fun t510 => (if t510 = true then ((laws_coHolds.f).bind fun t511 => (some t511)) else (some false)))))) = some r := H
                    have A106 := Aside0.mk A1060
                    clear A1060
                    replace H := Option.bind_eq_some_iff.mp H
                    obtain ⟨⟨t489, t492, t495⟩, A1070, H⟩ := H
                    replace H : ((impl_FrmAdd.f t482 t485 t488 t489 t492 t495).bind fun bt496 => ((impl_FrmPot.f 1).bind fun bt503 => ((laws_coForm.f kj8 bt496.1 bt496.2.1 bt496.2.2 bt503.1 bt503.2.1 bt503.2.2).bind fun t510 => (if t510 = true then ((laws_coHolds.f).bind fun t511 => (some t511)) else (some false))))) = some r := H
                    have A107 := Aside0.mk A1070
                    clear A1070
                    replace H := Option.bind_eq_some_iff.mp H
                    obtain ⟨⟨t496, t499, t502⟩, A1080, H⟩ := H
                    replace H : ((impl_FrmPot.f 1).bind fun bt503 => ((laws_coForm.f kj8 t496 t499 t502 bt503.1 bt503.2.1 bt503.2.2).bind fun t510 => (if t510 = true then ((laws_coHolds.f).bind fun t511 => (some t511)) else (some false)))) = some r := H
                    have A108 := Aside0.mk A1080
                    clear A1080
                    replace H := Option.bind_eq_some_iff.mp H
                    obtain ⟨⟨t503, t506, t509⟩, A1090, H⟩ := H
                    replace H : ((laws_coForm.f kj8 t496 t499 t502 t503 t506 t509).bind fun t510 => (if t510 = true then ((laws_coHolds.f).bind fun t511 => (some t511)) else (some false))) = some r := H
                    have A109 := Aside0.mk A1090
                    clear A1090
                    replace H := Option.bind_eq_some_iff.mp H
                    obtain ⟨t510, A1100, H⟩ := H
                    replace H : (if t510 = true then ((laws_coHolds.f).bind fun t511 => (some t511)) else (some false)) = some r := H
                    have A110 := Aside0.mk A1100
                    clear A1100
                    by_cases c111 : t510 = true
                    · subst c111
                      have H1 : ((laws_coHolds.f).bind fun t511 => (some t511)) = some r := by rw [if_pos rfl] at H; exact H
                      clear H
                      have H := H1
                      clear H1
                      replace H := Option.bind_eq_some_iff.mp H
                      obtain ⟨t511, A1120, H⟩ := H
                      replace H : (some t511) = some r := H
                      have A112 := Aside0.mk A1120
                      clear A1120
                      obtain rfl := Option.some.inj H
                      have n_ := Aside0.mk (Kd.R_mono (ok' := fun k_ => (some k_ ≠ (v417 : Value).ownBlock ∧ (some k_ ≠ (.slice Ao13 t390.length co13 : Value).ownBlock ∧ (some k_ ≠ (.slice Ao16 t393.length co16 : Value).ownBlock ∧ (some k_ ≠ (.slice Ao17 t397.length co17 : Value).ownBlock ∧ (some k_ ≠ (.slice Ao19 t400.length co19 : Value).ownBlock ∧ (some k_ ≠ (.slice Ao31 t420.length co31 : Value).ownBlock ∧ some k_ ≠ (.slice Ao36 t423.length co36 : Value).ownBlock))))))) HO_8.out (fun _ hk => ⟨hk.1, ⟨hk.2.1, ⟨hk.2.2.1, ⟨hk.2.2.2.1, ⟨hk.2.2.2.2.1, ⟨hk.2.2.2.2.2.2.2.1, hk.2.2.2.2.2.2.2.2⟩⟩⟩⟩⟩⟩))
                      clear HO_8
                      have HO_8 := n_
                      clear n_
                      have n_ := Aside0.mk (Kd.R_mono (ok' := fun k_ => (some k_ ≠ (v414 : Value).ownBlock ∧ (some k_ ≠ (.slice Ao13 t390.length co13 : Value).ownBlock ∧ (some k_ ≠ (.slice Ao16 t393.length co16 : Value).ownBlock ∧ (some k_ ≠ (.slice Ao17 t397.length co17 : Value).ownBlock ∧ (some k_ ≠ (.slice Ao19 t400.length co19 : Value).ownBlock ∧ (some k_ ≠ (.slice Ao31 t420.length co31 : Value).ownBlock ∧ some k_ ≠ (.slice Ao36 t423.length co36 : Value).ownBlock))))))) HO_9.out (fun _ hk => ⟨hk.1, ⟨hk.2.1, ⟨hk.2.2.1, ⟨hk.2.2.2.1, ⟨hk.2.2.2.2.1, ⟨hk.2.2.2.2.2.2.2.1, hk.2.2.2.2.2.2.2.2⟩⟩⟩⟩⟩⟩))
                      clear HO_9
                      have HO_9 := n_
                      clear n_
                      have n_ := Aside0.mk (Kd.R_mono (ok' := fun k_ => (some k_ ≠ (v414 : Value).ownBlock ∧ (some k_ ≠ (v417 : Value).ownBlock ∧ (some k_ ≠ (.slice Ao16 t393.length co16 : Value).ownBlock ∧ (some k_ ≠ (.slice Ao17 t397.length co17 : Value).ownBlock ∧ (some k_ ≠ (.slice Ao19 t400.length co19 : Value).ownBlock ∧ (some k_ ≠ (.slice Ao31 t420.length co31 : Value).ownBlock ∧ some k_ ≠ (.slice Ao36 t423.length co36 : Value).ownBlock))))))) HO_405000.out (fun _ hk => ⟨hk.1, ⟨hk.2.1, ⟨hk.2.2.1, ⟨hk.2.2.2.1, ⟨hk.2.2.2.2.1, ⟨hk.2.2.2.2.2.2.2.1, hk.2.2.2.2.2.2.2.2⟩⟩⟩⟩⟩⟩))
                      clear HO_405000
                      have HO_405000 := n_
                      clear n_
                      have n_ := Aside0.mk (Kd.R_mono (ok' := fun k_ => (some k_ ≠ (v414 : Value).ownBlock ∧ (some k_ ≠ (v417 : Value).ownBlock ∧ (some k_ ≠ (.slice Ao13 t390.length co13 : Value).ownBlock ∧ (some k_ ≠ (.slice Ao17 t397.length co17 : Value).ownBlock ∧ (some k_ ≠ (.slice Ao19 t400.length co19 : Value).ownBlock ∧ (some k_ ≠ (.slice Ao31 t420.length co31 : Value).ownBlock ∧ some k_ ≠ (.slice Ao36 t423.length co36 : Value).ownBlock))))))) HO_405001.out (fun _ hk => ⟨hk.1, ⟨hk.2.1, ⟨hk.2.2.1, ⟨hk.2.2.2.1, ⟨hk.2.2.2.2.1, ⟨hk.2.2.2.2.2.2.2.1, hk.2.2.2.2.2.2.2.2⟩⟩⟩⟩⟩⟩))
                      clear HO_405001
                      have HO_405001 := n_
                      clear n_
                      have n_ := Aside0.mk (Kd.R_mono (ok' := fun k_ => (some k_ ≠ (v414 : Value).ownBlock ∧ (some k_ ≠ (v417 : Value).ownBlock ∧ (some k_ ≠ (.slice Ao13 t390.length co13 : Value).ownBlock ∧ (some k_ ≠ (.slice Ao16 t393.length co16 : Value).ownBlock ∧ (some k_ ≠ (.slice Ao19 t400.length co19 : Value).ownBlock ∧ (some k_ ≠ (.slice Ao31 t420.length co31 : Value).ownBlock ∧ some k_ ≠ (.slice Ao36 t423.length co36 : Value).ownBlock))))))) HO_406000.out (fun _ hk => ⟨hk.1, ⟨hk.2.1, ⟨hk.2.2.1, ⟨hk.2.2.2.1, ⟨hk.2.2.2.2.1, ⟨hk.2.2.2.2.2.2.2.1, hk.2.2.2.2.2.2.2.2⟩⟩⟩⟩⟩⟩))
                      clear HO_406000
                      have HO_406000 := n_
                      clear n_
                      have n_ := Aside0.mk (Kd.R_mono (ok' := fun k_ => (some k_ ≠ (v414 : Value).ownBlock ∧ (some k_ ≠ (v417 : Value).ownBlock ∧ (some k_ ≠ (.slice Ao13 t390.length co13 : Value).ownBlock ∧ (some k_ ≠ (.slice Ao16 t393.length co16 : Value).ownBlock ∧ (some k_ ≠ (.slice Ao17 t397.length co17 : Value).ownBlock ∧ (some k_ ≠ (.slice Ao31 t420.length co31 : Value).ownBlock ∧ some k_ ≠ (.slice Ao36 t423.length co36 : Value).ownBlock))))))) HO_406001.out (fun _ hk => ⟨hk.1, ⟨hk.2.1, ⟨hk.2.2.1, ⟨hk.2.2.2.1, ⟨hk.2.2.2.2.1, ⟨hk.2.2.2.2.2.2.2.1, hk.2.2.2.2.2.2.2.2⟩⟩⟩⟩⟩⟩))
                      clear HO_406001
                      have HO_406001 := n_
                      clear n_
                      have n_ := Aside0.mk (Kd.R_mono (ok' := fun k_ => (some k_ ≠ (v414 : Value).ownBlock ∧ (some k_ ≠ (v417 : Value).ownBlock ∧ (some k_ ≠ (.slice Ao13 t390.length co13 : Value).ownBlock ∧ (some k_ ≠ (.slice Ao16 t393.length co16 : Value).ownBlock ∧ (some k_ ≠ (.slice Ao17 t397.length co17 : Value).ownBlock ∧ (some k_ ≠ (.slice Ao19 t400.length co19 : Value).ownBlock ∧ some k_ ≠ (.slice Ao36 t423.length co36 : Value).ownBlock))))))) HO_428000.out (fun _ hk => ⟨hk.1, ⟨hk.2.1, ⟨hk.2.2.1, ⟨hk.2.2.2.1, ⟨hk.2.2.2.2.1, ⟨hk.2.2.2.2.2.1, hk.2.2.2.2.2.2.2.2⟩⟩⟩⟩⟩⟩))
                      clear HO_428000
                      have HO_428000 := n_
                      clear n_
                      have n_ := Aside0.mk (Kd.R_mono (ok' := fun k_ => (some k_ ≠ (v414 : Value).ownBlock ∧ (some k_ ≠ (v417 : Value).ownBlock ∧ (some k_ ≠ (.slice Ao13 t390.length co13 : Value).ownBlock ∧ (some k_ ≠ (.slice Ao16 t393.length co16 : Value).ownBlock ∧ (some k_ ≠ (.slice Ao17 t397.length co17 : Value).ownBlock ∧ (some k_ ≠ (.slice Ao19 t400.length co19 : Value).ownBlock ∧ some k_ ≠ (.slice Ao31 t420.length co31 : Value).ownBlock))))))) HO_428001.out (fun _ hk => ⟨hk.1, ⟨hk.2.1, ⟨hk.2.2.1, ⟨hk.2.2.2.1, ⟨hk.2.2.2.2.1, ⟨hk.2.2.2.2.2.1, hk.2.2.2.2.2.2.2.2⟩⟩⟩⟩⟩⟩))
                      clear HO_428001
                      have HO_428001 := n_
                      clear n_
                      have hnb113 := NB427_404.out
                      have hnc113 := NB404_427.out
                      have hnb114 := NB427_405.out
                      have hnc114 := NB405_427.out
                      have hnb115 := NB427_419.out
                      have hnc115 := NB419_427.out
                      have hcz116_0 : wc.cell? ⟨gb427, 0, none⟩ = some (.slice Ao31 t420.length co31) := (blk_cell BK427.out 0).trans rfl
                      have hcz116_1 : wc.cell? ⟨gb427, 1, none⟩ = some (.slice Ao36 t423.length co36) := (blk_cell BK427.out 1).trans rfl
                      have hcz116_2 : wc.cell? ⟨gb427, 2, none⟩ = some (.int .i64 t426) := (blk_cell BK427.out 2).trans rfl
                      have hfz116_0 := blk_frozen BK427.out 0
                      have hfz116_1 := blk_frozen BK427.out 1
                      have hfz116_2 := blk_frozen BK427.out 2
                      obtain ⟨Ao117, co117, eo117⟩ := Kd.R_slice HO_8.out
                      subst eo117
                      obtain ⟨Ao118, co118, eo118⟩ := Kd.R_slice HO_9.out
                      subst eo118
                      go_wp2_with (first | ((with_reducible refine gate_callee (f := 17) rfl ?_); refine goesL_ (some 59) rfl rfl Try.func17 (by kernel_rfl) rfl #[.agg #[.slice Ao31 t420.length co31, .slice Ao36 t423.length co36, .int .i64 t426], .slice Ao117 t413.length co117, .slice Ao118 t416.length co118] rfl (by (try simp only [List.map_toArray, List.map_cons, List.map_nil]); first | done | rfl | (simp only [List.length_drop, List.length_take]; rfl)) ?_; (with_reducible refine (impl_FrmAt.calls kj8 _ _ t420 _ _ t423 t426 _ _ t413 _ _ t416 t444 false _ ?side1 ?side2 ?side3 ?side4 ?side5 ?side6 ?side7 ?side8 A59.out).mono ?_); (case side1 => exact lC <| (Kd.R_reads' HO_428000.out).2.2); (case side2 => exact (Kd.R_reads' HO_428000.out).2.1); (case side3 => exact lC <| (Kd.R_reads' HO_428001.out).2.2); (case side4 => exact (Kd.R_reads' HO_428001.out).2.1); (case side5 => exact lC <| (Kd.R_reads' HO_8.out).2.2); (case side6 => exact (Kd.R_reads' HO_8.out).2.1); (case side7 => exact lC <| (Kd.R_reads' HO_9.out).2.2); (case side8 => exact (Kd.R_reads' HO_9.out).2.1); rintro e w119 ⟨rfl, hb⟩; refine ⟨_, rfl, ?_⟩; have n0_ := Aside0.mk (Kd.R_below (by exact lR <| HO_8.out) hb); have n1_ := Aside0.mk (Kd.R_below (by exact lR <| HO_9.out) hb); have n2_ := Aside0.mk (Kd.R_below (by exact lR <| HO_405000.out) hb); have n3_ := Aside0.mk (Kd.R_below (by exact lR <| HO_405001.out) hb); have n4_ := Aside0.mk (Kd.R_below (by exact lR <| HO_406000.out) hb); have n5_ := Aside0.mk (Kd.R_below (by exact lR <| HO_406001.out) hb); have n6_ := Aside0.mk (Kd.R_below (by exact lR <| HO_428000.out) hb); have n7_ := Aside0.mk (Kd.R_below (by exact lR <| HO_428001.out) hb); have n8_ := Aside0.mk (blk_below (g := gb404) (o := .cells #[.slice Ao13 t390.length co13, .slice Ao16 t393.length co16, .int .i64 t396] 25 (0, 0)) (by exact lK <| BK404.out) hb); have n9_ := Aside0.mk (blk_below (g := gb405) (o := .cells #[.slice Ao17 t397.length co17, .slice Ao19 t400.length co19, .int .i64 t403] 25 (0, 0)) (by exact lK <| BK405.out) hb); have n10_ := Aside0.mk (blk_below (g := gb419) (o := .cells #[.slice Ao22 t406.length co22, .slice Ao26 t409.length co26, .int .i64 t412] 25 (0, 0)) (by exact lK <| BK419.out) hb); have n11_ := Aside0.mk (blk_below (g := gb427) (o := .cells #[.slice Ao31 t420.length co31, .slice Ao36 t423.length co36, .int .i64 t426] 25 (0, 0)) (by exact lK <| BK427.out) hb); have n12_ := Aside0.mk (below_step (by repeat (first | (with_reducible first | exact HB.out | apply below_alloc | apply pw_below_drewN | apply below_drew1 | refine below_set ?_ (by first | exact GE404.out | exact GE405.out | exact GE419.out | exact GE427.out)) | exact HB.out)) hb); clear HO_8; clear HO_9; clear HO_405000; clear HO_405001; clear HO_406000; clear HO_406001; clear HO_428000; clear HO_428001; clear BK404; clear BK405; clear BK419; clear BK427; clear HB; have HO_8 := n0_; have HO_9 := n1_; have HO_405000 := n2_; have HO_405001 := n3_; have HO_406000 := n4_; have HO_406001 := n5_; have HO_428000 := n6_; have HO_428001 := n7_; have BK404 := n8_; have BK405 := n9_; have BK419 := n10_; have BK427 := n11_; have HB := n12_; clear n0_ n1_ n2_ n3_ n4_ n5_ n6_ n7_ n8_ n9_ n10_ n11_ n12_; (try clear hb); (try clear hb2); (try clear hk); (try clear hi); have hnb120 := NB404_405.out; have hnc120 := NB405_404.out; have hnb121 := NB404_419.out; have hnc121 := NB419_404.out; have hcz122_0 : w119.cell? ⟨gb404, 0, none⟩ = some (.slice Ao13 t390.length co13) := (blk_cell BK404.out 0).trans rfl; have hcz122_1 : w119.cell? ⟨gb404, 1, none⟩ = some (.slice Ao16 t393.length co16) := (blk_cell BK404.out 1).trans rfl; have hcz122_2 : w119.cell? ⟨gb404, 2, none⟩ = some (.int .i64 t396) := (blk_cell BK404.out 2).trans rfl; have hfz122_0 := blk_frozen BK404.out 0; have hfz122_1 := blk_frozen BK404.out 1; have hfz122_2 := blk_frozen BK404.out 2) | ((with_reducible refine gate_callee (f := 17) rfl ?_); refine goesL_ (some 66) rfl rfl Try.func17 (by kernel_rfl) rfl #[.agg #[.slice Ao13 t390.length co13, .slice Ao16 t393.length co16, .int .i64 t396], .slice Ao117 t413.length co117, .slice Ao118 t416.length co118] rfl (by (try simp only [List.map_toArray, List.map_cons, List.map_nil]); first | done | rfl | (simp only [List.length_drop, List.length_take]; rfl)) ?_; (with_reducible refine (impl_FrmAt.calls kj8 _ _ t390 _ _ t393 t396 _ _ t413 _ _ t416 t446 t447 _ ?side1 ?side2 ?side3 ?side4 ?side5 ?side6 ?side7 ?side8 A60.out).mono ?_); (case side1 => exact lC <| (Kd.R_reads' HO_405000.out).2.2); (case side2 => exact (Kd.R_reads' HO_405000.out).2.1); (case side3 => exact lC <| (Kd.R_reads' HO_405001.out).2.2); (case side4 => exact (Kd.R_reads' HO_405001.out).2.1); (case side5 => exact lC <| (Kd.R_reads' HO_8.out).2.2); (case side6 => exact (Kd.R_reads' HO_8.out).2.1); (case side7 => exact lC <| (Kd.R_reads' HO_9.out).2.2); (case side8 => exact (Kd.R_reads' HO_9.out).2.1); rintro e w123 ⟨rfl, hb⟩; refine ⟨_, rfl, ?_⟩; have n0_ := Aside0.mk (Kd.R_below (by exact lR <| HO_8.out) hb); have n1_ := Aside0.mk (Kd.R_below (by exact lR <| HO_9.out) hb); have n2_ := Aside0.mk (Kd.R_below (by exact lR <| HO_405000.out) hb); have n3_ := Aside0.mk (Kd.R_below (by exact lR <| HO_405001.out) hb); have n4_ := Aside0.mk (Kd.R_below (by exact lR <| HO_406000.out) hb); have n5_ := Aside0.mk (Kd.R_below (by exact lR <| HO_406001.out) hb); have n6_ := Aside0.mk (Kd.R_below (by exact lR <| HO_428000.out) hb); have n7_ := Aside0.mk (Kd.R_below (by exact lR <| HO_428001.out) hb); have n8_ := Aside0.mk (blk_below (g := gb404) (o := .cells #[.slice Ao13 t390.length co13, .slice Ao16 t393.length co16, .int .i64 t396] 25 (0, 0)) (by exact lK <| BK404.out) hb); have n9_ := Aside0.mk (blk_below (g := gb405) (o := .cells #[.slice Ao17 t397.length co17, .slice Ao19 t400.length co19, .int .i64 t403] 25 (0, 0)) (by exact lK <| BK405.out) hb); have n10_ := Aside0.mk (blk_below (g := gb419) (o := .cells #[.slice Ao22 t406.length co22, .slice Ao26 t409.length co26, .int .i64 t412] 25 (0, 0)) (by exact lK <| BK419.out) hb); have n11_ := Aside0.mk (blk_below (g := gb427) (o := .cells #[.slice Ao31 t420.length co31, .slice Ao36 t423.length co36, .int .i64 t426] 25 (0, 0)) (by exact lK <| BK427.out) hb); have n12_ := Aside0.mk (below_step (by repeat (first | (with_reducible first | exact HB.out | apply below_alloc | apply pw_below_drewN | apply below_drew1 | refine below_set ?_ (by first | exact GE404.out | exact GE405.out | exact GE419.out | exact GE427.out)) | exact HB.out)) hb); clear HO_8; clear HO_9; clear HO_405000; clear HO_405001; clear HO_406000; clear HO_406001; clear HO_428000; clear HO_428001; clear BK404; clear BK405; clear BK419; clear BK427; clear HB; have HO_8 := n0_; have HO_9 := n1_; have HO_405000 := n2_; have HO_405001 := n3_; have HO_406000 := n4_; have HO_406001 := n5_; have HO_428000 := n6_; have HO_428001 := n7_; have BK404 := n8_; have BK405 := n9_; have BK419 := n10_; have BK427 := n11_; have HB := n12_; clear n0_ n1_ n2_ n3_ n4_ n5_ n6_ n7_ n8_ n9_ n10_ n11_ n12_; (try clear hb); (try clear hb2); (try clear hk); (try clear hi); have n_ := Aside0.mk (Kd.R_mono (ok' := fun k_ => (some k_ ≠ (.slice Ao118 t416.length co118 : Value).ownBlock ∧ (some k_ ≠ (.slice Ao17 t397.length co17 : Value).ownBlock ∧ (some k_ ≠ (.slice Ao19 t400.length co19 : Value).ownBlock ∧ (some k_ ≠ (.slice Ao31 t420.length co31 : Value).ownBlock ∧ some k_ ≠ (.slice Ao36 t423.length co36 : Value).ownBlock))))) HO_8.out (fun _ hk => ⟨hk.1, ⟨hk.2.2.2.1, ⟨hk.2.2.2.2.1, ⟨hk.2.2.2.2.2.1, hk.2.2.2.2.2.2⟩⟩⟩⟩)); clear HO_8; have HO_8 := n_; clear n_; have n_ := Aside0.mk (Kd.R_mono (ok' := fun k_ => (some k_ ≠ (.slice Ao117 t413.length co117 : Value).ownBlock ∧ (some k_ ≠ (.slice Ao17 t397.length co17 : Value).ownBlock ∧ (some k_ ≠ (.slice Ao19 t400.length co19 : Value).ownBlock ∧ (some k_ ≠ (.slice Ao31 t420.length co31 : Value).ownBlock ∧ some k_ ≠ (.slice Ao36 t423.length co36 : Value).ownBlock))))) HO_9.out (fun _ hk => ⟨hk.1, ⟨hk.2.2.2.1, ⟨hk.2.2.2.2.1, ⟨hk.2.2.2.2.2.1, hk.2.2.2.2.2.2⟩⟩⟩⟩)); clear HO_9; have HO_9 := n_; clear n_; have n_ := Aside0.mk (Kd.R_mono (ok' := fun k_ => (some k_ ≠ (.slice Ao117 t413.length co117 : Value).ownBlock ∧ (some k_ ≠ (.slice Ao118 t416.length co118 : Value).ownBlock ∧ (some k_ ≠ (.slice Ao19 t400.length co19 : Value).ownBlock ∧ (some k_ ≠ (.slice Ao31 t420.length co31 : Value).ownBlock ∧ some k_ ≠ (.slice Ao36 t423.length co36 : Value).ownBlock))))) HO_406000.out (fun _ hk => ⟨hk.1, ⟨hk.2.1, ⟨hk.2.2.2.2.1, ⟨hk.2.2.2.2.2.1, hk.2.2.2.2.2.2⟩⟩⟩⟩)); clear HO_406000; have HO_406000 := n_; clear n_; have n_ := Aside0.mk (Kd.R_mono (ok' := fun k_ => (some k_ ≠ (.slice Ao117 t413.length co117 : Value).ownBlock ∧ (some k_ ≠ (.slice Ao118 t416.length co118 : Value).ownBlock ∧ (some k_ ≠ (.slice Ao17 t397.length co17 : Value).ownBlock ∧ (some k_ ≠ (.slice Ao31 t420.length co31 : Value).ownBlock ∧ some k_ ≠ (.slice Ao36 t423.length co36 : Value).ownBlock))))) HO_406001.out (fun _ hk => ⟨hk.1, ⟨hk.2.1, ⟨hk.2.2.2.2.1, ⟨hk.2.2.2.2.2.1, hk.2.2.2.2.2.2⟩⟩⟩⟩)); clear HO_406001; have HO_406001 := n_; clear n_; have n_ := Aside0.mk (Kd.R_mono (ok' := fun k_ => (some k_ ≠ (.slice Ao117 t413.length co117 : Value).ownBlock ∧ (some k_ ≠ (.slice Ao118 t416.length co118 : Value).ownBlock ∧ (some k_ ≠ (.slice Ao17 t397.length co17 : Value).ownBlock ∧ (some k_ ≠ (.slice Ao19 t400.length co19 : Value).ownBlock ∧ some k_ ≠ (.slice Ao36 t423.length co36 : Value).ownBlock))))) HO_428000.out (fun _ hk => ⟨hk.1, ⟨hk.2.1, ⟨hk.2.2.2.2.1, ⟨hk.2.2.2.2.2.1, hk.2.2.2.2.2.2⟩⟩⟩⟩)); clear HO_428000; have HO_428000 := n_; clear n_; have n_ := Aside0.mk (Kd.R_mono (ok' := fun k_ => (some k_ ≠ (.slice Ao117 t413.length co117 : Value).ownBlock ∧ (some k_ ≠ (.slice Ao118 t416.length co118 : Value).ownBlock ∧ (some k_ ≠ (.slice Ao17 t397.length co17 : Value).ownBlock ∧ (some k_ ≠ (.slice Ao19 t400.length co19 : Value).ownBlock ∧ some k_ ≠ (.slice Ao31 t420.length co31 : Value).ownBlock))))) HO_428001.out (fun _ hk => ⟨hk.1, ⟨hk.2.1, ⟨hk.2.2.2.2.1, ⟨hk.2.2.2.2.2.1, hk.2.2.2.2.2.2⟩⟩⟩⟩)); clear HO_428001; have HO_428001 := n_; clear n_; have hnb124 := NB405_419.out; have hnc124 := NB419_405.out; have hcz125_0 : w123.cell? ⟨gb405, 0, none⟩ = some (.slice Ao17 t397.length co17) := (blk_cell BK405.out 0).trans rfl; have hcz125_1 : w123.cell? ⟨gb405, 1, none⟩ = some (.slice Ao19 t400.length co19) := (blk_cell BK405.out 1).trans rfl; have hcz125_2 : w123.cell? ⟨gb405, 2, none⟩ = some (.int .i64 t403) := (blk_cell BK405.out 2).trans rfl; have hfz125_0 := blk_frozen BK405.out 0; have hfz125_1 := blk_frozen BK405.out 1; have hfz125_2 := blk_frozen BK405.out 2) | ((with_reducible refine gate_callee (f := 17) rfl ?_); refine goesL_ (some 73) rfl rfl Try.func17 (by kernel_rfl) rfl #[.agg #[.slice Ao17 t397.length co17, .slice Ao19 t400.length co19, .int .i64 t403], .slice Ao117 t413.length co117, .slice Ao118 t416.length co118] rfl (by (try simp only [List.map_toArray, List.map_cons, List.map_nil]); first | done | rfl | (simp only [List.length_drop, List.length_take]; rfl)) ?_; (with_reducible refine (impl_FrmAt.calls kj8 _ _ t397 _ _ t400 t403 _ _ t413 _ _ t416 t448 t449 _ ?side1 ?side2 ?side3 ?side4 ?side5 ?side6 ?side7 ?side8 A61.out).mono ?_); (case side1 => exact lC <| (Kd.R_reads' HO_406000.out).2.2); (case side2 => exact (Kd.R_reads' HO_406000.out).2.1); (case side3 => exact lC <| (Kd.R_reads' HO_406001.out).2.2); (case side4 => exact (Kd.R_reads' HO_406001.out).2.1); (case side5 => exact lC <| (Kd.R_reads' HO_8.out).2.2); (case side6 => exact (Kd.R_reads' HO_8.out).2.1); (case side7 => exact lC <| (Kd.R_reads' HO_9.out).2.2); (case side8 => exact (Kd.R_reads' HO_9.out).2.1); rintro e w126 ⟨rfl, hb⟩; refine ⟨_, rfl, ?_⟩; have n0_ := Aside0.mk (Kd.R_below (by exact lR <| HO_8.out) hb); have n1_ := Aside0.mk (Kd.R_below (by exact lR <| HO_9.out) hb); have n2_ := Aside0.mk (Kd.R_below (by exact lR <| HO_406000.out) hb); have n3_ := Aside0.mk (Kd.R_below (by exact lR <| HO_406001.out) hb); have n4_ := Aside0.mk (Kd.R_below (by exact lR <| HO_428000.out) hb); have n5_ := Aside0.mk (Kd.R_below (by exact lR <| HO_428001.out) hb); have n6_ := Aside0.mk (blk_below (g := gb404) (o := .cells #[.slice Ao13 t390.length co13, .slice Ao16 t393.length co16, .int .i64 t396] 25 (0, 0)) (by exact lK <| BK404.out) hb); have n7_ := Aside0.mk (blk_below (g := gb405) (o := .cells #[.slice Ao17 t397.length co17, .slice Ao19 t400.length co19, .int .i64 t403] 25 (0, 0)) (by exact lK <| BK405.out) hb); have n8_ := Aside0.mk (blk_below (g := gb419) (o := .cells #[.slice Ao22 t406.length co22, .slice Ao26 t409.length co26, .int .i64 t412] 25 (0, 0)) (by exact lK <| BK419.out) hb); have n9_ := Aside0.mk (blk_below (g := gb427) (o := .cells #[.slice Ao31 t420.length co31, .slice Ao36 t423.length co36, .int .i64 t426] 25 (0, 0)) (by exact lK <| BK427.out) hb); have n10_ := Aside0.mk (below_step (by repeat (first | (with_reducible first | exact HB.out | apply below_alloc | apply pw_below_drewN | apply below_drew1 | refine below_set ?_ (by first | exact GE404.out | exact GE405.out | exact GE419.out | exact GE427.out)) | exact HB.out)) hb); clear HO_8; clear HO_9; clear HO_406000; clear HO_406001; clear HO_428000; clear HO_428001; clear BK404; clear BK405; clear BK419; clear BK427; clear HB; have HO_8 := n0_; have HO_9 := n1_; have HO_406000 := n2_; have HO_406001 := n3_; have HO_428000 := n4_; have HO_428001 := n5_; have BK404 := n6_; have BK405 := n7_; have BK419 := n8_; have BK427 := n9_; have HB := n10_; clear n0_ n1_ n2_ n3_ n4_ n5_ n6_ n7_ n8_ n9_ n10_; (try clear hb); (try clear hb2); (try clear hk); (try clear hi); have n_ := Aside0.mk (Kd.R_mono (ok' := fun k_ => (some k_ ≠ (.slice Ao118 t416.length co118 : Value).ownBlock ∧ (some k_ ≠ (.slice Ao31 t420.length co31 : Value).ownBlock ∧ some k_ ≠ (.slice Ao36 t423.length co36 : Value).ownBlock))) HO_8.out (fun _ hk => ⟨hk.1, ⟨hk.2.2.2.1, hk.2.2.2.2⟩⟩)); clear HO_8; have HO_8 := n_; clear n_; have n_ := Aside0.mk (Kd.R_mono (ok' := fun k_ => (some k_ ≠ (.slice Ao117 t413.length co117 : Value).ownBlock ∧ (some k_ ≠ (.slice Ao31 t420.length co31 : Value).ownBlock ∧ some k_ ≠ (.slice Ao36 t423.length co36 : Value).ownBlock))) HO_9.out (fun _ hk => ⟨hk.1, ⟨hk.2.2.2.1, hk.2.2.2.2⟩⟩)); clear HO_9; have HO_9 := n_; clear n_; have n_ := Aside0.mk (Kd.R_mono (ok' := fun k_ => (some k_ ≠ (.slice Ao117 t413.length co117 : Value).ownBlock ∧ (some k_ ≠ (.slice Ao118 t416.length co118 : Value).ownBlock ∧ some k_ ≠ (.slice Ao36 t423.length co36 : Value).ownBlock))) HO_428000.out (fun _ hk => ⟨hk.1, ⟨hk.2.1, hk.2.2.2.2⟩⟩)); clear HO_428000; have HO_428000 := n_; clear n_; have n_ := Aside0.mk (Kd.R_mono (ok' := fun k_ => (some k_ ≠ (.slice Ao117 t413.length co117 : Value).ownBlock ∧ (some k_ ≠ (.slice Ao118 t416.length co118 : Value).ownBlock ∧ some k_ ≠ (.slice Ao31 t420.length co31 : Value).ownBlock))) HO_428001.out (fun _ hk => ⟨hk.1, ⟨hk.2.1, hk.2.2.2.2⟩⟩)); clear HO_428001; have HO_428001 := n_; clear n_; have hcz127_0 : w126.cell? ⟨gb427, 0, none⟩ = some (.slice Ao31 t420.length co31) := (blk_cell BK427.out 0).trans rfl; have hcz127_1 : w126.cell? ⟨gb427, 1, none⟩ = some (.slice Ao36 t423.length co36) := (blk_cell BK427.out 1).trans rfl; have hcz127_2 : w126.cell? ⟨gb427, 2, none⟩ = some (.int .i64 t426) := (blk_cell BK427.out 2).trans rfl; have hfz127_0 := blk_frozen BK427.out 0; have hfz127_1 := blk_frozen BK427.out 1; have hfz127_2 := blk_frozen BK427.out 2) | ((with_reducible refine gate_callee (f := 22) rfl ?_); refine goesL_ (some 80) rfl rfl Try.func22 (by kernel_rfl) rfl #[.agg #[.slice Ao31 t420.length co31, .slice Ao36 t423.length co36, .int .i64 t426], .slice Ao117 t413.length co117, .slice Ao118 t416.length co118] rfl (by (try simp only [List.map_toArray, List.map_cons, List.map_nil]); first | done | rfl | (simp only [List.length_drop, List.length_take]; rfl)) ?_; (with_reducible refine (spec_FrmAt.calls kj8 _ _ t420 _ _ t423 t426 _ _ t413 _ _ t416 t450 t451 _ ?side1 ?side2 ?side3 ?side4 ?side5 ?side6 ?side7 ?side8 A62.out).mono ?_); (case side1 => exact lC <| (Kd.R_reads' HO_428000.out).2.2); (case side2 => exact (Kd.R_reads' HO_428000.out).2.1); (case side3 => exact lC <| (Kd.R_reads' HO_428001.out).2.2); (case side4 => exact (Kd.R_reads' HO_428001.out).2.1); (case side5 => exact lC <| (Kd.R_reads' HO_8.out).2.2); (case side6 => exact (Kd.R_reads' HO_8.out).2.1); (case side7 => exact lC <| (Kd.R_reads' HO_9.out).2.2); (case side8 => exact (Kd.R_reads' HO_9.out).2.1); rintro e w128 ⟨rfl, hb⟩; refine ⟨_, rfl, ?_⟩; have n0_ := Aside0.mk (Kd.R_below (by exact lR <| HO_8.out) hb); have n1_ := Aside0.mk (Kd.R_below (by exact lR <| HO_9.out) hb); have n2_ := Aside0.mk (Kd.R_below (by exact lR <| HO_428000.out) hb); have n3_ := Aside0.mk (Kd.R_below (by exact lR <| HO_428001.out) hb); have n4_ := Aside0.mk (blk_below (g := gb404) (o := .cells #[.slice Ao13 t390.length co13, .slice Ao16 t393.length co16, .int .i64 t396] 25 (0, 0)) (by exact lK <| BK404.out) hb); have n5_ := Aside0.mk (blk_below (g := gb405) (o := .cells #[.slice Ao17 t397.length co17, .slice Ao19 t400.length co19, .int .i64 t403] 25 (0, 0)) (by exact lK <| BK405.out) hb); have n6_ := Aside0.mk (blk_below (g := gb419) (o := .cells #[.slice Ao22 t406.length co22, .slice Ao26 t409.length co26, .int .i64 t412] 25 (0, 0)) (by exact lK <| BK419.out) hb); have n7_ := Aside0.mk (blk_below (g := gb427) (o := .cells #[.slice Ao31 t420.length co31, .slice Ao36 t423.length co36, .int .i64 t426] 25 (0, 0)) (by exact lK <| BK427.out) hb); have n8_ := Aside0.mk (below_step (by repeat (first | (with_reducible first | exact HB.out | apply below_alloc | apply pw_below_drewN | apply below_drew1 | refine below_set ?_ (by first | exact GE404.out | exact GE405.out | exact GE419.out | exact GE427.out)) | exact HB.out)) hb); clear HO_8; clear HO_9; clear HO_428000; clear HO_428001; clear BK404; clear BK405; clear BK419; clear BK427; clear HB; have HO_8 := n0_; have HO_9 := n1_; have HO_428000 := n2_; have HO_428001 := n3_; have BK404 := n4_; have BK405 := n5_; have BK419 := n6_; have BK427 := n7_; have HB := n8_; clear n0_ n1_ n2_ n3_ n4_ n5_ n6_ n7_ n8_; (try clear hb); (try clear hb2); (try clear hk); (try clear hi)) | (go_at_call 18; (with_reducible refine (impl_FrmZero.calls  t482 t485 t488 _ A106.out).mono ?_); rintro e w129 ⟨v483, v486, rfl, ho0, ho1, hb⟩; have n0_ := Aside0.mk (Kd.R_lower ho0 (below_size (by repeat (first | (with_reducible first | exact HB.out | apply below_alloc | apply pw_below_drewN | apply below_drew1 | refine below_set ?_ (by first | exact GE404.out | exact GE405.out | exact GE419.out | exact GE427.out)) | exact HB.out)))); have n1_ := Aside0.mk (Kd.R_lower ho1 (below_size (by repeat (first | (with_reducible first | exact HB.out | apply below_alloc | apply pw_below_drewN | apply below_drew1 | refine below_set ?_ (by first | exact GE404.out | exact GE405.out | exact GE419.out | exact GE427.out)) | exact HB.out)))); have n2_ := Aside0.mk (blk_below (g := gb404) (o := .cells #[.slice Ao13 t390.length co13, .slice Ao16 t393.length co16, .int .i64 t396] 25 (0, 0)) (by exact lK <| BK404.out) hb); have n3_ := Aside0.mk (blk_below (g := gb405) (o := .cells #[.slice Ao17 t397.length co17, .slice Ao19 t400.length co19, .int .i64 t403] 25 (0, 0)) (by exact lK <| BK405.out) hb); have n4_ := Aside0.mk (blk_below (g := gb419) (o := .cells #[.slice Ao22 t406.length co22, .slice Ao26 t409.length co26, .int .i64 t412] 25 (0, 0)) (by exact lK <| BK419.out) hb); have n5_ := Aside0.mk (blk_below (g := gb427) (o := .cells #[.slice Ao31 t420.length co31, .slice Ao36 t423.length co36, .int .i64 t426] 25 (0, 0)) (by exact lK <| BK427.out) hb); have n6_ := Aside0.mk (below_step (by repeat (first | (with_reducible first | exact HB.out | apply below_alloc | apply pw_below_drewN | apply below_drew1 | refine below_set ?_ (by first | exact GE404.out | exact GE405.out | exact GE419.out | exact GE427.out)) | exact HB.out)) hb); clear BK404; clear BK405; clear BK419; clear BK427; clear HB; have HO484 := n0_; have HO487 := n1_; have BK404 := n2_; have BK405 := n3_; have BK419 := n4_; have BK427 := n5_; have HB := n6_; clear n0_ n1_ n2_ n3_ n4_ n5_ n6_; (try clear hb); (try clear hb2); (try clear hk); (try clear hi); (try clear ho0); (try clear ho1)) | (go_at_call 23; (with_reducible refine (impl_FrmPot.calls 1 t489 t492 t495 _ A107.out).mono ?_); rintro e w130 ⟨v490, v493, rfl, ho0, ho1, hb⟩; have n0_ := Aside0.mk (Kd.R_mono (Kd.R_told (Kd.R_told (Kd.R_old (by exact lR <| HO484.out) hb) (Kd.R_base ho0)) (Kd.R_base ho1)) (fun _ h_ => h_.1)); have n1_ := Aside0.mk (Kd.R_mono (Kd.R_told (Kd.R_told (Kd.R_old (by exact lR <| HO487.out) hb) (Kd.R_base ho0)) (Kd.R_base ho1)) (fun _ h_ => h_.1)); have n2_ := Aside0.mk (Kd.R_lower (Kd.R_new' (Kd.R_new' ho0 (Kd.R_lt (by exact lR <| HO484.out))) (Kd.R_lt (by exact lR <| HO487.out))) (below_size (by repeat (first | (with_reducible first | exact HB.out | apply below_alloc | apply pw_below_drewN | apply below_drew1 | refine below_set ?_ (by first | exact GE404.out | exact GE405.out | exact GE419.out | exact GE427.out)) | exact HB.out)))); have n3_ := Aside0.mk (Kd.R_lower (Kd.R_new' (Kd.R_new' ho1 (Kd.R_lt (by exact lR <| HO484.out))) (Kd.R_lt (by exact lR <| HO487.out))) (below_size (by repeat (first | (with_reducible first | exact HB.out | apply below_alloc | apply pw_below_drewN | apply below_drew1 | refine below_set ?_ (by first | exact GE404.out | exact GE405.out | exact GE419.out | exact GE427.out)) | exact HB.out)))); have n4_ := Aside0.mk (blk_below (g := gb404) (o := .cells #[.slice Ao13 t390.length co13, .slice Ao16 t393.length co16, .int .i64 t396] 25 (0, 0)) (by exact lK <| BK404.out) hb); have n5_ := Aside0.mk (blk_below (g := gb405) (o := .cells #[.slice Ao17 t397.length co17, .slice Ao19 t400.length co19, .int .i64 t403] 25 (0, 0)) (by exact lK <| BK405.out) hb); have n6_ := Aside0.mk (blk_below (g := gb419) (o := .cells #[.slice Ao22 t406.length co22, .slice Ao26 t409.length co26, .int .i64 t412] 25 (0, 0)) (by exact lK <| BK419.out) hb); have n7_ := Aside0.mk (blk_below (g := gb427) (o := .cells #[.slice Ao31 t420.length co31, .slice Ao36 t423.length co36, .int .i64 t426] 25 (0, 0)) (by exact lK <| BK427.out) hb); have n8_ := Aside0.mk (below_step (by repeat (first | (with_reducible first | exact HB.out | apply below_alloc | apply pw_below_drewN | apply below_drew1 | refine below_set ?_ (by first | exact GE404.out | exact GE405.out | exact GE419.out | exact GE427.out)) | exact HB.out)) hb); clear HO484; clear HO487; clear BK404; clear BK405; clear BK419; clear BK427; clear HB; have HO484 := n0_; have HO487 := n1_; have HO491 := n2_; have HO494 := n3_; have BK404 := n4_; have BK405 := n5_; have BK419 := n6_; have BK427 := n7_; have HB := n8_; clear n0_ n1_ n2_ n3_ n4_ n5_ n6_ n7_ n8_; (try clear hb); (try clear hb2); (try clear hk); (try clear hi); (try clear ho0); (try clear ho1); obtain ⟨Ao131, co131, eo131⟩ := Kd.R_slice HO484.out; subst eo131; obtain ⟨Ao132, co132, eo132⟩ := Kd.R_slice HO487.out; subst eo132; obtain ⟨Ao133, co133, eo133⟩ := Kd.R_slice HO491.out; subst eo133; obtain ⟨Ao134, co134, eo134⟩ := Kd.R_slice HO494.out; subst eo134) | (go_at_call 19; (with_reducible refine (impl_FrmAdd.calls _ _ t482 _ _ t485 t488 _ _ t489 _ _ t492 t495 t496 t499 t502 _ ?side1 ?side2 ?side3 ?side4 ?side5 ?side6 ?side7 ?side8 A108.out).mono ?_); (case side1 => exact lC <| (Kd.R_reads' HO484.out).2.2); (case side2 => exact (Kd.R_reads' HO484.out).2.1); (case side3 => exact lC <| (Kd.R_reads' HO487.out).2.2); (case side4 => exact (Kd.R_reads' HO487.out).2.1); (case side5 => exact lC <| (Kd.R_reads' HO491.out).2.2); (case side6 => exact (Kd.R_reads' HO491.out).2.1); (case side7 => exact lC <| (Kd.R_reads' HO494.out).2.2); (case side8 => exact (Kd.R_reads' HO494.out).2.1); rintro e w135 ⟨v497, v500, rfl, ho0, ho1, hb⟩; have n0_ := Aside0.mk (Kd.R_mono (Kd.R_told (Kd.R_told (Kd.R_old (by exact lR <| HO484.out) hb) (Kd.R_base ho0)) (Kd.R_base ho1)) (fun _ h_ => h_.1)); have n1_ := Aside0.mk (Kd.R_mono (Kd.R_told (Kd.R_told (Kd.R_old (by exact lR <| HO487.out) hb) (Kd.R_base ho0)) (Kd.R_base ho1)) (fun _ h_ => h_.1)); have n2_ := Aside0.mk (Kd.R_mono (Kd.R_told (Kd.R_told (Kd.R_old (by exact lR <| HO491.out) hb) (Kd.R_base ho0)) (Kd.R_base ho1)) (fun _ h_ => h_.1)); have n3_ := Aside0.mk (Kd.R_mono (Kd.R_told (Kd.R_told (Kd.R_old (by exact lR <| HO494.out) hb) (Kd.R_base ho0)) (Kd.R_base ho1)) (fun _ h_ => h_.1)); have n4_ := Aside0.mk (Kd.R_lower (Kd.R_new' (Kd.R_new' (Kd.R_new' (Kd.R_new' ho0 (Kd.R_lt (by exact lR <| HO484.out))) (Kd.R_lt (by exact lR <| HO487.out))) (Kd.R_lt (by exact lR <| HO491.out))) (Kd.R_lt (by exact lR <| HO494.out))) (below_size (by repeat (first | (with_reducible first | exact HB.out | apply below_alloc | apply pw_below_drewN | apply below_drew1 | refine below_set ?_ (by first | exact GE404.out | exact GE405.out | exact GE419.out | exact GE427.out)) | exact HB.out)))); have n5_ := Aside0.mk (Kd.R_lower (Kd.R_new' (Kd.R_new' (Kd.R_new' (Kd.R_new' ho1 (Kd.R_lt (by exact lR <| HO484.out))) (Kd.R_lt (by exact lR <| HO487.out))) (Kd.R_lt (by exact lR <| HO491.out))) (Kd.R_lt (by exact lR <| HO494.out))) (below_size (by repeat (first | (with_reducible first | exact HB.out | apply below_alloc | apply pw_below_drewN | apply below_drew1 | refine below_set ?_ (by first | exact GE404.out | exact GE405.out | exact GE419.out | exact GE427.out)) | exact HB.out)))); have n6_ := Aside0.mk (blk_below (g := gb404) (o := .cells #[.slice Ao13 t390.length co13, .slice Ao16 t393.length co16, .int .i64 t396] 25 (0, 0)) (by exact lK <| BK404.out) hb); have n7_ := Aside0.mk (blk_below (g := gb405) (o := .cells #[.slice Ao17 t397.length co17, .slice Ao19 t400.length co19, .int .i64 t403] 25 (0, 0)) (by exact lK <| BK405.out) hb); have n8_ := Aside0.mk (blk_below (g := gb419) (o := .cells #[.slice Ao22 t406.length co22, .slice Ao26 t409.length co26, .int .i64 t412] 25 (0, 0)) (by exact lK <| BK419.out) hb); have n9_ := Aside0.mk (blk_below (g := gb427) (o := .cells #[.slice Ao31 t420.length co31, .slice Ao36 t423.length co36, .int .i64 t426] 25 (0, 0)) (by exact lK <| BK427.out) hb); have n10_ := Aside0.mk (below_step (by repeat (first | (with_reducible first | exact HB.out | apply below_alloc | apply pw_below_drewN | apply below_drew1 | refine below_set ?_ (by first | exact GE404.out | exact GE405.out | exact GE419.out | exact GE427.out)) | exact HB.out)) hb); clear HO484; clear HO487; clear HO491; clear HO494; clear BK404; clear BK405; clear BK419; clear BK427; clear HB; have HO484 := n0_; have HO487 := n1_; have HO491 := n2_; have HO494 := n3_; have HO498 := n4_; have HO501 := n5_; have BK404 := n6_; have BK405 := n7_; have BK419 := n8_; have BK427 := n9_; have HB := n10_; clear n0_ n1_ n2_ n3_ n4_ n5_ n6_ n7_ n8_ n9_ n10_; (try clear hb); (try clear hb2); (try clear hk); (try clear hi); (try clear ho0); (try clear ho1); have n_ := Aside0.mk (Kd.R_mono (ok' := fun k_ => some k_ ≠ (v500 : Value).ownBlock) HO498.out (fun _ hk => hk.1.1.1.1)); clear HO498; have HO498 := n_; clear n_; have n_ := Aside0.mk (Kd.R_mono (ok' := fun k_ => some k_ ≠ (v497 : Value).ownBlock) HO501.out (fun _ hk => hk.1.1.1.1)); clear HO501; have HO501 := n_; clear n_) | (go_at_call 23; (with_reducible refine (impl_FrmPot.calls 1 t503 t506 t509 _ A109.out).mono ?_); rintro e w136 ⟨v504, v507, rfl, ho0, ho1, hb⟩; have n0_ := Aside0.mk (Kd.R_mono (Kd.R_told (Kd.R_told (Kd.R_old (by exact lR <| HO498.out) hb) (Kd.R_base ho0)) (Kd.R_base ho1)) (fun _ h_ => h_.1)); have n1_ := Aside0.mk (Kd.R_mono (Kd.R_told (Kd.R_told (Kd.R_old (by exact lR <| HO501.out) hb) (Kd.R_base ho0)) (Kd.R_base ho1)) (fun _ h_ => h_.1)); have n2_ := Aside0.mk (Kd.R_lower (Kd.R_new' (Kd.R_new' ho0 (Kd.R_lt (by exact lR <| HO498.out))) (Kd.R_lt (by exact lR <| HO501.out))) (below_size (by repeat (first | (with_reducible first | exact HB.out | apply below_alloc | apply pw_below_drewN | apply below_drew1 | refine below_set ?_ (by first | exact GE404.out | exact GE405.out | exact GE419.out | exact GE427.out)) | exact HB.out)))); have n3_ := Aside0.mk (Kd.R_lower (Kd.R_new' (Kd.R_new' ho1 (Kd.R_lt (by exact lR <| HO498.out))) (Kd.R_lt (by exact lR <| HO501.out))) (below_size (by repeat (first | (with_reducible first | exact HB.out | apply below_alloc | apply pw_below_drewN | apply below_drew1 | refine below_set ?_ (by first | exact GE404.out | exact GE405.out | exact GE419.out | exact GE427.out)) | exact HB.out)))); have n4_ := Aside0.mk (blk_below (g := gb404) (o := .cells #[.slice Ao13 t390.length co13, .slice Ao16 t393.length co16, .int .i64 t396] 25 (0, 0)) (by exact lK <| BK404.out) hb); have n5_ := Aside0.mk (blk_below (g := gb405) (o := .cells #[.slice Ao17 t397.length co17, .slice Ao19 t400.length co19, .int .i64 t403] 25 (0, 0)) (by exact lK <| BK405.out) hb); have n6_ := Aside0.mk (blk_below (g := gb419) (o := .cells #[.slice Ao22 t406.length co22, .slice Ao26 t409.length co26, .int .i64 t412] 25 (0, 0)) (by exact lK <| BK419.out) hb); have n7_ := Aside0.mk (blk_below (g := gb427) (o := .cells #[.slice Ao31 t420.length co31, .slice Ao36 t423.length co36, .int .i64 t426] 25 (0, 0)) (by exact lK <| BK427.out) hb); have n8_ := Aside0.mk (below_step (by repeat (first | (with_reducible first | exact HB.out | apply below_alloc | apply pw_below_drewN | apply below_drew1 | refine below_set ?_ (by first | exact GE404.out | exact GE405.out | exact GE419.out | exact GE427.out)) | exact HB.out)) hb); clear HO498; clear HO501; clear BK404; clear BK405; clear BK419; clear BK427; clear HB; have HO498 := n0_; have HO501 := n1_; have HO505 := n2_; have HO508 := n3_; have BK404 := n4_; have BK405 := n5_; have BK419 := n6_; have BK427 := n7_; have HB := n8_; clear n0_ n1_ n2_ n3_ n4_ n5_ n6_ n7_ n8_; (try clear hb); (try clear hb2); (try clear hk); (try clear hi); (try clear ho0); (try clear ho1); obtain ⟨Ao137, co137, eo137⟩ := Kd.R_slice HO498.out; subst eo137; obtain ⟨Ao138, co138, eo138⟩ := Kd.R_slice HO501.out; subst eo138; obtain ⟨Ao139, co139, eo139⟩ := Kd.R_slice HO505.out; subst eo139; obtain ⟨Ao140, co140, eo140⟩ := Kd.R_slice HO508.out; subst eo140) | (go_at_call 12; (with_reducible refine (laws_coForm.calls kj8 _ _ t496 _ _ t499 t502 _ _ t503 _ _ t506 t509 true _ ?side1 ?side2 ?side3 ?side4 ?side5 ?side6 ?side7 ?side8 A110.out).mono ?_); (case side1 => exact lC <| (Kd.R_reads' HO498.out).2.2); (case side2 => exact (Kd.R_reads' HO498.out).2.1); (case side3 => exact lC <| (Kd.R_reads' HO501.out).2.2); (case side4 => exact (Kd.R_reads' HO501.out).2.1); (case side5 => exact lC <| (Kd.R_reads' HO505.out).2.2); (case side6 => exact (Kd.R_reads' HO505.out).2.1); (case side7 => exact lC <| (Kd.R_reads' HO508.out).2.2); (case side8 => exact (Kd.R_reads' HO508.out).2.1); rintro e w141 ⟨rfl, hb⟩; have n0_ := Aside0.mk (Kd.R_below (by exact lR <| HO498.out) hb); have n1_ := Aside0.mk (Kd.R_below (by exact lR <| HO501.out) hb); have n2_ := Aside0.mk (Kd.R_below (by exact lR <| HO505.out) hb); have n3_ := Aside0.mk (Kd.R_below (by exact lR <| HO508.out) hb); have n4_ := Aside0.mk (blk_below (g := gb404) (o := .cells #[.slice Ao13 t390.length co13, .slice Ao16 t393.length co16, .int .i64 t396] 25 (0, 0)) (by exact lK <| BK404.out) hb); have n5_ := Aside0.mk (blk_below (g := gb405) (o := .cells #[.slice Ao17 t397.length co17, .slice Ao19 t400.length co19, .int .i64 t403] 25 (0, 0)) (by exact lK <| BK405.out) hb); have n6_ := Aside0.mk (blk_below (g := gb419) (o := .cells #[.slice Ao22 t406.length co22, .slice Ao26 t409.length co26, .int .i64 t412] 25 (0, 0)) (by exact lK <| BK419.out) hb); have n7_ := Aside0.mk (blk_below (g := gb427) (o := .cells #[.slice Ao31 t420.length co31, .slice Ao36 t423.length co36, .int .i64 t426] 25 (0, 0)) (by exact lK <| BK427.out) hb); have n8_ := Aside0.mk (below_step (by repeat (first | (with_reducible first | exact HB.out | apply below_alloc | apply pw_below_drewN | apply below_drew1 | refine below_set ?_ (by first | exact GE404.out | exact GE405.out | exact GE419.out | exact GE427.out)) | exact HB.out)) hb); clear HO498; clear HO501; clear HO505; clear HO508; clear BK404; clear BK405; clear BK419; clear BK427; clear HB; have HO498 := n0_; have HO501 := n1_; have HO505 := n2_; have HO508 := n3_; have BK404 := n4_; have BK405 := n5_; have BK419 := n6_; have BK427 := n7_; have HB := n8_; clear n0_ n1_ n2_ n3_ n4_ n5_ n6_ n7_ n8_; (try clear hb); (try clear hb2); (try clear hk); (try clear hi)) | (go_at_call 16; (with_reducible refine (laws_coHolds.calls  t511 _ A112.out).mono ?_); rintro e w142 ⟨rfl, hb⟩; have n0_ := Aside0.mk (blk_below (g := gb404) (o := .cells #[.slice Ao13 t390.length co13, .slice Ao16 t393.length co16, .int .i64 t396] 25 (0, 0)) (by exact lK <| BK404.out) hb); have n1_ := Aside0.mk (blk_below (g := gb405) (o := .cells #[.slice Ao17 t397.length co17, .slice Ao19 t400.length co19, .int .i64 t403] 25 (0, 0)) (by exact lK <| BK405.out) hb); have n2_ := Aside0.mk (blk_below (g := gb419) (o := .cells #[.slice Ao22 t406.length co22, .slice Ao26 t409.length co26, .int .i64 t412] 25 (0, 0)) (by exact lK <| BK419.out) hb); have n3_ := Aside0.mk (blk_below (g := gb427) (o := .cells #[.slice Ao31 t420.length co31, .slice Ao36 t423.length co36, .int .i64 t426] 25 (0, 0)) (by exact lK <| BK427.out) hb); have n4_ := Aside0.mk (below_step (by repeat (first | (with_reducible first | exact HB.out | apply below_alloc | apply pw_below_drewN | apply below_drew1 | refine below_set ?_ (by first | exact GE404.out | exact GE405.out | exact GE419.out | exact GE427.out)) | exact HB.out)) hb); clear BK404; clear BK405; clear BK419; clear BK427; clear HB; have BK404 := n0_; have BK405 := n1_; have BK419 := n2_; have BK427 := n3_; have HB := n4_; clear n0_ n1_ n2_ n3_ n4_; (try clear hb); (try clear hb2); (try clear hk); (try clear hi)))
                      go_ret
                      exact ⟨by first | rfl | (simp [errW_none, errW_some] <;> rfl) | (simp [*, errW_none, errW_some] <;> rfl), by repeat (first | (with_reducible first | exact HB.out | apply below_alloc | apply pw_below_drewN | apply below_drew1 | refine below_set ?_ (by first | exact GE404.out | exact GE405.out | exact GE419.out | exact GE427.out)) | exact HB.out)⟩
                    · replace c111 := Bool.eq_false_iff.mpr c111
                      subst c111
                      have H1 : (some false) = some r := by rw [if_neg (show ¬ (false = true) by decide)] at H; exact H
                      clear H
                      have H := H1
                      clear H1
                      exact absurd (Option.some.inj H) (by rw [hr.out]; decide)
                · rw [if_neg c64] at H
                  have c64b0 : (t445 == t451) = false := by simpa using c64
                  (try (have c64b1 : decide (t445 = t451) = false := by simpa using c64))
                  (try (have c64b2 : (t445 == t451) = false := by simpa using c64))
                  (try (have c64b3 : ¬ (t445 = t451) := by simpa using c64))
                  clear c64
                  exact absurd (Option.some.inj H) (by rw [hr.out]; decide)
              · rw [if_neg c63] at H
                have c63b0 : (t444 == t450) = false := beq_eq_false_iff_ne.mpr c63
                have c63b1 : (t444 != t450) = true := bne_iff_ne.mpr c63
                exact absurd (Option.some.inj H) (by rw [hr.out]; decide)

/-- THE ONE PURE STATEMENT of laws_FnFrmAdd. -/
def laws_FnFrmAdd.Pure : Prop := ∀ (l0 : List Int) (l1 : List Int), (l0.length ≤ 9223372036854775807 ∧ ∀ x0 ∈ l0, (Lit.int .u8 x0).wf = true) → (l1.length ≤ 9223372036854775807 ∧ ∀ x1 ∈ l1, (Lit.int .u8 x1).wf = true) → ∃ k, laws_FnFrmAdd.f k l0 l1 = some true
theorem laws_FnFrmAdd.walk (P : laws_FnFrmAdd.Pure) (A0 : Option Addr) (c0 : Nat) (l0 : List Int) (A1 : Option Addr) (c1 : Nat) (l1 : List Int) (w : World) (hr0 : Kd.C (Kd.int .u8) w A0 l0.length l0) (hc0 : l0.length ≤ c0) (hr1 : Kd.C (Kd.int .u8) w A1 l1.length l1) (hc1 : l1.length ≤ c1) (hw0 : (l0.length ≤ 9223372036854775807 ∧ ∀ x0 ∈ l0, (Lit.int .u8 x0).wf = true)) (hw1 : (l1.length ≤ 9223372036854775807 ∧ ∀ x1 ∈ l1, (Lit.int .u8 x1).wf = true)) :
    Calls Try.prog 4 #[.slice A0 l0.length c0, .slice A1 l1.length c1] w fun e w' => e = .returned (.bool true) ∧ Below w.heap.size w w' := by
  obtain ⟨k, h⟩ := P l0 l1 hw0 hw1
  refine (laws_FnFrmAdd.calls k A0 c0 l0 A1 c1 l1 true w ⟨rfl⟩ hr0 hc0 hr1 hc1 h).mono ?_
  rintro e w' ⟨rfl, hd⟩
  exact ⟨rfl, hd⟩

end Go.Proofs.Yteidbkbhigbfoaa.QFnFrmAdd
