/- Plain functions, and that the Go code computes them: written by a program of this session over the seat's translation; the conditions stand in each theorem. -/
import Derived.Test.YtopbdoilpdpkmaaQFnFrmIntox0
import Derived.Test.YtopbdoilpdpkmaaQFnFrmIntox4
import Derived.Test.YtopbdoilpdpkmaaQFnFrmIntox5
import Derived.Test.YtopbdoilpdpkmaaQFnFrmIntox6
import Derived.Test.YtopbdoilpdpkmaaQFnFrmIntox8
import Derived.Test.YtopbdoilpdpkmaaQFnFrmIntox9
namespace Go.Proofs.Ytopbdoilpdpkmaa.QFnFrmInto
open Go.RowKit Go.Proofs.YtopbdoilpdpkmaaW.PrintWords Go.Proofs.YtopbdoilpdpkmaaW.PrintLast Go.Proofs.YtopbdoilpdpkmaaW.PrintMore Go.Proofs.Ytopbdoilpdpkmaa.HWords
attribute [local go_sem] max2_int min2_int max_two min_two max_three min_three max_four min_four   -- for this text's walks alone
set_option linter.unusedVariables false
set_option linter.unusedSimpArgs false

/-! ### laws_FnFrmInto: function 3 -/
mutual
def laws_FnFrmInto.j0 : Nat → List Int → List Int → Bool → Option (Bool)
 | 0, _, _, _ => none
 | k + 1, x0, x1, x27 => if x27 = true then (some true) else ((spec_DrawFrmInto.f k x0).bind fun bt424 => ((spec_DrawFrmAt.f k x1).bind fun bt435 => ((impl_FrmInto.f bt424.1 bt424.2.1 bt424.2.2.1 bt424.2.2.2).bind fun bt449 => ((spec_FrmInto.f k bt424.1 bt424.2.1 bt424.2.2.1 bt424.2.2.2).bind fun bt457 => ((laws_coForm.f k bt449.1 bt449.2.1 bt449.2.2 bt457.1 bt457.2.1 bt457.2.2).bind fun t464 => (if t464 = true then ((impl_FrmPot.f 0).bind fun bt465 => ((impl_FrmPot.f 1).bind fun bt472 => ((impl_FrmPot.f 2).bind fun bt479 => ((impl_FrmOk.f bt424.1 bt424.2.1 bt424.2.2.1).bind fun t489 => (if t489 = true then ((impl_FrmInto.f bt424.1 bt424.2.1 bt424.2.2.1 (([(⟨bt465.1, bt465.2.1, bt465.2.2⟩ : S25), (⟨bt472.1, bt472.2.1, bt472.2.2⟩ : S25), (⟨bt479.1, bt479.2.1, bt479.2.2⟩ : S25)] : List (S25)))).bind fun bt490 => ((laws_coForm.f k bt490.1 bt490.2.1 bt490.2.2 bt424.1 bt424.2.1 bt424.2.2.1).bind fun t497 => (laws_FnFrmInto.j1 k bt424.2.2.2 bt435.2.2.2.1 bt435.2.2.2.2 (!t497) bt424.1 bt424.2.1 bt424.2.2.1 bt449.1 bt449.2.1 bt449.2.2))) else (laws_FnFrmInto.j1 k bt424.2.2.2 bt435.2.2.2.1 bt435.2.2.2.2 false bt424.1 bt424.2.1 bt424.2.2.1 bt449.1 bt449.2.1 bt449.2.2)))))) else (some false)))))))
def laws_FnFrmInto.j1 : Nat → List (S25) → List Int → List Int → Bool → List Int → List Int → Int → List Int → List Int → Int → Option (Bool)
 | 0, _, _, _, _, _, _, _, _, _, _ => none
 | k + 1, x6, x8, x9, x61, x435000, x435001, x435002, x457000, x457001, x457002 => if x61 = true then (some false) else ((impl_FrmAt.f k x457000 x457001 x457002 x8 x9).bind fun bt498 => (if bt498.2 = true then (laws_FnFrmInto.l0 k x6 x8 x9 bt498.1 (([] : List Int)) 0 x435000 x435001 x435002) else ((laws_coHolds.f).bind fun t500 => (some t500))))
def laws_FnFrmInto.l0 : Nat → List (S25) → List Int → List Int → Int → List Int → Int → List Int → List Int → Int → Option (Bool)
 | 0, _, _, _, _, _, _, _, _, _ => none
 | k + 1, x6, x8, x9, x12, x14, x15, x435000, x435001, x435002 => if x15 < 3 then (if 0 ≤ x15 then (if x15 < (x6.length : Int) then ((impl_FrmAt.f k ((rd_T25 x6 x15).f0) ((rd_T25 x6 x15).f1) ((rd_T25 x6 x15).f2) x8 x9).bind fun bt505 => (if x14.length < 17592186044416 then (laws_FnFrmInto.l0 k x6 x8 x9 x12 (x14 ++ [bt505.1]) (wrap64 (x15 + 1)) x435000 x435001 x435002) else (none))) else (none)) else (none)) else ((impl_FrmAt.f k x435000 x435001 x435002 x14 x9).bind fun bt510 => (if bt510.2 = true then (some (x12 == bt510.1)) else (some true)))
end
def laws_FnFrmInto.f (k : Nat) (l0 : List Int) (l1 : List Int) : Option (Bool) := if (l0.length : Int) > 1048576 then (laws_FnFrmInto.j0 k l0 l1 true) else (laws_FnFrmInto.j0 k l0 l1 (decide ((l1.length : Int) > 1048576)))
theorem laws_FnFrmInto.mono_l : ∀ k, (∀ y0 y1 y2, LeO (laws_FnFrmInto.j0 k y0 y1 y2) (laws_FnFrmInto.j0 (k + 1) y0 y1 y2)) ∧ (∀ y0 y1 y2 y3 y4 y5 y6 y7 y8 y9, LeO (laws_FnFrmInto.j1 k y0 y1 y2 y3 y4 y5 y6 y7 y8 y9) (laws_FnFrmInto.j1 (k + 1) y0 y1 y2 y3 y4 y5 y6 y7 y8 y9)) ∧ (∀ y0 y1 y2 y3 y4 y5 y6 y7 y8, LeO (laws_FnFrmInto.l0 k y0 y1 y2 y3 y4 y5 y6 y7 y8) (laws_FnFrmInto.l0 (k + 1) y0 y1 y2 y3 y4 y5 y6 y7 y8))
 | 0 => ⟨fun _ _ _ r h => by simp [laws_FnFrmInto.j0] at h, fun _ _ _ _ _ _ _ _ _ _ r h => by simp [laws_FnFrmInto.j1] at h, fun _ _ _ _ _ _ _ _ _ r h => by simp [laws_FnFrmInto.l0] at h⟩
 | k + 1 => by
  obtain ⟨ih0, ih1, ih2⟩ := laws_FnFrmInto.mono_l k
  refine ⟨?_, ?_, ?_⟩
  ·intro y0 y1 y2
   unfold laws_FnFrmInto.j0
   repeat' first
   | (with_reducible exact ih0 _ _ _)
   | (with_reducible exact ih1 _ _ _ _ _ _ _ _ _ _)
   | (with_reducible exact ih2 _ _ _ _ _ _ _ _ _)
   | (with_reducible exact impl_FrmAt.mono _ _ _ _ _ _)
   | (with_reducible exact laws_coForm.mono _ _ _ _ _ _ _)
   | (with_reducible exact spec_DrawFrmAt.mono _ _)
   | (with_reducible exact spec_DrawFrmInto.mono _ _)
   | (with_reducible exact spec_FrmInto.mono _ _ _ _ _)
   | (with_reducible exact LeO.refl _)
   | (with_reducible exact LeO.none _)
   | (with_reducible refine LeO.ite ?_ ?_)
   | (with_reducible refine LeO.bind ?_ (fun _ => ?_))
   | exact ih0 _ _ _
   | exact ih1 _ _ _ _ _ _ _ _ _ _
   | exact ih2 _ _ _ _ _ _ _ _ _
   | exact impl_FrmAt.mono _ _ _ _ _ _
   | exact laws_coForm.mono _ _ _ _ _ _ _
   | exact spec_DrawFrmAt.mono _ _
   | exact spec_DrawFrmInto.mono _ _
   | exact spec_FrmInto.mono _ _ _ _ _
   | exact LeO.none _
   | refine LeO.ite ?_ ?_
   | refine LeO.bind ?_ (fun _ => ?_)
  ·intro y0 y1 y2 y3 y4 y5 y6 y7 y8 y9
   unfold laws_FnFrmInto.j1
   repeat' first
   | (with_reducible exact ih0 _ _ _)
   | (with_reducible exact ih1 _ _ _ _ _ _ _ _ _ _)
   | (with_reducible exact ih2 _ _ _ _ _ _ _ _ _)
   | (with_reducible exact impl_FrmAt.mono _ _ _ _ _ _)
   | (with_reducible exact laws_coForm.mono _ _ _ _ _ _ _)
   | (with_reducible exact spec_DrawFrmAt.mono _ _)
   | (with_reducible exact spec_DrawFrmInto.mono _ _)
   | (with_reducible exact spec_FrmInto.mono _ _ _ _ _)
   | (with_reducible exact LeO.refl _)
   | (with_reducible exact LeO.none _)
   | (with_reducible refine LeO.ite ?_ ?_)
   | (with_reducible refine LeO.bind ?_ (fun _ => ?_))
   | exact ih0 _ _ _
   | exact ih1 _ _ _ _ _ _ _ _ _ _
   | exact ih2 _ _ _ _ _ _ _ _ _
   | exact impl_FrmAt.mono _ _ _ _ _ _
   | exact laws_coForm.mono _ _ _ _ _ _ _
   | exact spec_DrawFrmAt.mono _ _
   | exact spec_DrawFrmInto.mono _ _
   | exact spec_FrmInto.mono _ _ _ _ _
   | exact LeO.none _
   | refine LeO.ite ?_ ?_
   | refine LeO.bind ?_ (fun _ => ?_)
  ·intro y0 y1 y2 y3 y4 y5 y6 y7 y8
   unfold laws_FnFrmInto.l0
   repeat' first
   | (with_reducible exact ih0 _ _ _)
   | (with_reducible exact ih1 _ _ _ _ _ _ _ _ _ _)
   | (with_reducible exact ih2 _ _ _ _ _ _ _ _ _)
   | (with_reducible exact impl_FrmAt.mono _ _ _ _ _ _)
   | (with_reducible exact laws_coForm.mono _ _ _ _ _ _ _)
   | (with_reducible exact spec_DrawFrmAt.mono _ _)
   | (with_reducible exact spec_DrawFrmInto.mono _ _)
   | (with_reducible exact spec_FrmInto.mono _ _ _ _ _)
   | (with_reducible exact LeO.refl _)
   | (with_reducible exact LeO.none _)
   | (with_reducible refine LeO.ite ?_ ?_)
   | (with_reducible refine LeO.bind ?_ (fun _ => ?_))
   | exact ih0 _ _ _
   | exact ih1 _ _ _ _ _ _ _ _ _ _
   | exact ih2 _ _ _ _ _ _ _ _ _
   | exact impl_FrmAt.mono _ _ _ _ _ _
   | exact laws_coForm.mono _ _ _ _ _ _ _
   | exact spec_DrawFrmAt.mono _ _
   | exact spec_DrawFrmInto.mono _ _
   | exact spec_FrmInto.mono _ _ _ _ _
   | exact LeO.none _
   | refine LeO.ite ?_ ?_
   | refine LeO.bind ?_ (fun _ => ?_)
theorem laws_FnFrmInto.mono : ∀ a0 a1 k, LeO (laws_FnFrmInto.f k a0 a1) (laws_FnFrmInto.f (k + 1) a0 a1) := by
 intro a0 a1 k
 obtain ⟨ih0, ih1, ih2⟩ := laws_FnFrmInto.mono_l k
 unfold laws_FnFrmInto.f
 repeat' first
   | (with_reducible exact ih0 _ _ _)
   | (with_reducible exact ih1 _ _ _ _ _ _ _ _ _ _)
   | (with_reducible exact ih2 _ _ _ _ _ _ _ _ _)
   | (with_reducible exact impl_FrmAt.mono _ _ _ _ _ _)
   | (with_reducible exact laws_coForm.mono _ _ _ _ _ _ _)
   | (with_reducible exact spec_DrawFrmAt.mono _ _)
   | (with_reducible exact spec_DrawFrmInto.mono _ _)
   | (with_reducible exact spec_FrmInto.mono _ _ _ _ _)
   | (with_reducible exact LeO.refl _)
   | (with_reducible exact LeO.none _)
   | (with_reducible refine LeO.ite ?_ ?_)
   | (with_reducible refine LeO.bind ?_ (fun _ => ?_))
   | exact ih0 _ _ _
   | exact ih1 _ _ _ _ _ _ _ _ _ _
   | exact ih2 _ _ _ _ _ _ _ _ _
   | exact impl_FrmAt.mono _ _ _ _ _ _
   | exact laws_coForm.mono _ _ _ _ _ _ _
   | exact spec_DrawFrmAt.mono _ _
   | exact spec_DrawFrmInto.mono _ _
   | exact spec_FrmInto.mono _ _ _ _ _
   | exact LeO.none _
   | refine LeO.ite ?_ ?_
   | refine LeO.bind ?_ (fun _ => ?_)
def laws_FnFrmInto.T9 : Bool × List (List Nat × List Nat) := (true, [([], []), ([0], [0]), ([1, 1], [1]), ([2], [2]), ([2], [2]), ([3, 4, 2, 2], [2, 3, 4]), ([2], [2]), ([5, 6, 5, 2], [2, 5, 6]), ([7, 2], [2, 7]), ([2, 8], [2, 8])])
def laws_FnFrmInto.B9 : List Nat := [0, 1, 3, 7, 7, 31, 7, 127, 255, 511]
theorem laws_FnFrmInto.tab9 : rtab .any (opsOf Try.f3 9) = laws_FnFrmInto.T9 := by kernel_rfl
theorem laws_FnFrmInto.bits9 : waitsOk laws_FnFrmInto.T9.2 laws_FnFrmInto.B9 = true := by kernel_rfl
set_option maxHeartbeats 8000000 in
set_option maxRecDepth 100000 in
theorem laws_FnFrmInto.calls (k : Nat) (A0 : Option Addr) (c0 : Nat) (l0 : List Int) (A1 : Option Addr) (c1 : Nat) (l1 : List Int) (r : Bool) (w : World) (hr : Aside0 (r = true)) (hr0 : Kd.C (Kd.int .u8) w A0 l0.length l0) (hc0 : l0.length ≤ c0) (hr1 : Kd.C (Kd.int .u8) w A1 l1.length l1) (hc1 : l1.length ≤ c1) (h : laws_FnFrmInto.f k l0 l1 = some r) :
  Calls Try.prog 3 #[.slice A0 l0.length c0, .slice A1 l1.length c1] w fun e w' => e = .returned (.bool r) ∧ Below w.heap.size w w' := by
 have hu25 := Try.underlying25
 have HR0 := Aside0.mk hr0
 have HC0 := Aside0.mk hc0
 clear hr0 hc0
 have HR1 := Aside0.mk hr1
 have HC1 := Aside0.mk hc1
 clear hr1 hc1
 have HB := Aside0.mk (Below.refl w.heap.size w)
 have H : (if (l0.length : Int) > 1048576 then (laws_FnFrmInto.j0 k l0 l1 true) else (laws_FnFrmInto.j0 k l0 l1 (decide ((l1.length : Int) > 1048576)))) = some r := h
 clear h
 have HC3 := Aside0.mk H
 clear H
 go_enter Try.func3, Try.ntmps3
 go_upto_region 1 with (fail)
 go_cut [27] (fun v27 wc => ∃ (kq : Nat) (x27_2 : Bool), v27 = .bool x27_2 ∧ Aside0 (laws_FnFrmInto.j0 kq l0 l1 x27_2 = some r) ∧ Aside0 (kq ≤ k) ∧ Aside0 (Below w.heap.size w wc))
 case first =>
  have H := HC3.out
  clear HC3
  by_cases c4 : (l0.length : Int) > 1048576
  ·rw [if_pos c4] at H
   have c4b0 : decide (1048576 < (l0.length : Int)) = true := decide_eq_true c4
   have c4b1 : decide (1048576 < l0.length) = true := decide_eq_true (by omega)
   clear c4
   (first | rw [c4b0] | (simp only [i64_w, i32_w]; rw [c4b0]) | skip)
   have H' := Aside0.mk H
   clear H
   go_wp2
   go_meet
   case rel => exact ⟨_, (true), (by first | rfl | (simp; done) | (simp [*]; done)), H', ⟨by first | omega | exact Nat.le_refl _⟩, ⟨by exact lB HB.out⟩⟩
  ·rw [if_neg c4] at H
   have c4b0 : decide (1048576 < (l0.length : Int)) = false := decide_eq_false c4
   have c4b1 : decide (1048576 < l0.length) = false := decide_eq_false (by omega)
   clear c4
   (first | rw [c4b0] | (simp only [i64_w, i32_w]; rw [c4b0]) | skip)
   have H' := Aside0.mk H
   clear H
   go_wp2
   go_meet
   case rel => exact ⟨_, (decide ((l1.length : Int) > 1048576)), (by first | rfl | (simp; done) | (simp [*]; done)), H', ⟨by first | omega | exact Nat.le_refl _⟩, ⟨by exact lB HB.out⟩⟩
 case rest =>
  clear HC3
  try clear c1
  try clear p2
  try clear c3
  try clear c4
  try clear c4b0
  try clear c4b1
  obtain ⟨kq, x27_2, rfl, HA, HJ2, HB⟩ := hcut
  cases kq with
  | zero => exact absurd HA.out (by simp [laws_FnFrmInto.j0])
  | succ kj2 =>
   have H := HA.out
   clear HA
   simp only [laws_FnFrmInto.j0] at H
   by_cases c5 : x27_2 = true
   ·subst c5
    have H1 : (some true) = some r := by rw [if_pos rfl] at H; exact H
    clear H
    have H := H1
    clear H1
    obtain rfl := Option.some.inj H
    go_wp2
    go_ret
    exact ⟨by first | rfl | (simp [errW_none, errW_some] <;> rfl) | (simp [*, errW_none, errW_some] <;> rfl), by exact lB HB.out⟩
   ·replace c5 := Bool.eq_false_iff.mpr c5
    subst c5
    have H1 : ((spec_DrawFrmInto.f kj2 l0).bind fun bt424 => ((spec_DrawFrmAt.f kj2 l1).bind fun bt435 => ((impl_FrmInto.f bt424.1 bt424.2.1 bt424.2.2.1 bt424.2.2.2).bind fun bt449 => ((spec_FrmInto.f kj2 bt424.1 bt424.2.1 bt424.2.2.1 bt424.2.2.2).bind fun bt457 => ((laws_coForm.f kj2 bt449.1 bt449.2.1 bt449.2.2 bt457.1 bt457.2.1 bt457.2.2).bind fun t464 => (if t464 = true then ((impl_FrmPot.f 0).bind fun bt465 => ((impl_FrmPot.f 1).bind fun bt472 => ((impl_FrmPot.f 2).bind fun bt479 => ((impl_FrmOk.f bt424.1 bt424.2.1 bt424.2.2.1).bind fun t489 => (if t489 = true then ((impl_FrmInto.f bt424.1 bt424.2.1 bt424.2.2.1 (([(⟨bt465.1, bt465.2.1, bt465.2.2⟩ : S25), (⟨bt472.1, bt472.2.1, bt472.2.2⟩ : S25), (⟨bt479.1, bt479.2.1, bt479.2.2⟩ : S25)] : List (S25)))).bind fun bt490 => ((laws_coForm.f kj2 bt490.1 bt490.2.1 bt490.2.2 bt424.1 bt424.2.1 bt424.2.2.1).bind fun t497 => (laws_FnFrmInto.j1 kj2 bt424.2.2.2 bt435.2.2.2.1 bt435.2.2.2.2 (!t497) bt424.1 bt424.2.1 bt424.2.2.1 bt449.1 bt449.2.1 bt449.2.2))) else (laws_FnFrmInto.j1 kj2 bt424.2.2.2 bt435.2.2.2.1 bt435.2.2.2.2 false bt424.1 bt424.2.1 bt424.2.2.1 bt449.1 bt449.2.1 bt449.2.2)))))) else (some false))))))) = some r := by rw [if_neg (show ¬ (false = true) by decide)] at H; exact H
    clear H
    have H := H1
    clear H1
    replace H := Option.bind_eq_some_iff.mp H
    obtain ⟨⟨t424, t427, t430, t431⟩, A60, H⟩ := H
    replace H : ((spec_DrawFrmAt.f kj2 l1).bind fun bt435 => ((impl_FrmInto.f t424 t427 t430 t431).bind fun bt449 => ((spec_FrmInto.f kj2 t424 t427 t430 t431).bind fun bt457 => ((laws_coForm.f kj2 bt449.1 bt449.2.1 bt449.2.2 bt457.1 bt457.2.1 bt457.2.2).bind fun t464 => (if t464 = true then ((impl_FrmPot.f 0).bind fun bt465 => ((impl_FrmPot.f 1).bind fun bt472 => ((impl_FrmPot.f 2).bind fun bt479 => ((impl_FrmOk.f t424 t427 t430).bind fun t489 => (if t489 = true then ((impl_FrmInto.f t424 t427 t430 (([(⟨bt465.1, bt465.2.1, bt465.2.2⟩ : S25), (⟨bt472.1, bt472.2.1, bt472.2.2⟩ : S25), (⟨bt479.1, bt479.2.1, bt479.2.2⟩ : S25)] : List (S25)))).bind fun bt490 => ((laws_coForm.f kj2 bt490.1 bt490.2.1 bt490.2.2 t424 t427 t430).bind fun t497 => (laws_FnFrmInto.j1 kj2 t431 bt435.2.2.2.1 bt435.2.2.2.2 (!t497) t424 t427 t430 bt449.1 bt449.2.1 bt449.2.2))) else (laws_FnFrmInto.j1 kj2 t431 bt435.2.2.2.1 bt435.2.2.2.2 false t424 t427 t430 bt449.1 bt449.2.1 bt449.2.2)))))) else (some false)))))) = some r := H
    have A6 := Aside0.mk A60
    clear A60
    replace H := Option.bind_eq_some_iff.mp H
    obtain ⟨⟨t435, t438, t441, t442, t445⟩, A70, H⟩ := H
    replace H : ((impl_FrmInto.f t424 t427 t430 t431).bind fun bt449 => ((spec_FrmInto.f kj2 t424 t427 t430 t431).bind fun bt457 => ((laws_coForm.f kj2 bt449.1 bt449.2.1 bt449.2.2 bt457.1 bt457.2.1 bt457.2.2).bind fun t464 => (if t464 = true then ((impl_FrmPot.f 0).bind fun bt465 => ((impl_FrmPot.f 1).bind fun bt472 => ((impl_FrmPot.f 2).bind fun bt479 => ((impl_FrmOk.f t424 t427 t430).bind fun t489 => (if t489 = true then ((impl_FrmInto.f t424 t427 t430 (([(⟨bt465.1, bt465.2.1, bt465.2.2⟩ : S25), (⟨bt472.1, bt472.2.1, bt472.2.2⟩ : S25), (⟨bt479.1, bt479.2.1, bt479.2.2⟩ : S25)] : List (S25)))).bind fun bt490 => ((laws_coForm.f kj2 bt490.1 bt490.2.1 bt490.2.2 t424 t427 t430).bind fun t497 => (laws_FnFrmInto.j1 kj2 t431 t442 t445 (!t497) t424 t427 t430 bt449.1 bt449.2.1 bt449.2.2))) else (laws_FnFrmInto.j1 kj2 t431 t442 t445 false t424 t427 t430 bt449.1 bt449.2.1 bt449.2.2)))))) else (some false))))) = some r := H
    have A7 := Aside0.mk A70
    clear A70
    replace H := Option.bind_eq_some_iff.mp H
    obtain ⟨⟨t449, t452, t455⟩, A80, H⟩ := H
    replace H : ((spec_FrmInto.f kj2 t424 t427 t430 t431).bind fun bt457 => ((laws_coForm.f kj2 t449 t452 t455 bt457.1 bt457.2.1 bt457.2.2).bind fun t464 => (if t464 = true then ((impl_FrmPot.f 0).bind fun bt465 => ((impl_FrmPot.f 1).bind fun bt472 => ((impl_FrmPot.f 2).bind fun bt479 => ((impl_FrmOk.f t424 t427 t430).bind fun t489 => (if t489 = true then ((impl_FrmInto.f t424 t427 t430 (([(⟨bt465.1, bt465.2.1, bt465.2.2⟩ : S25), (⟨bt472.1, bt472.2.1, bt472.2.2⟩ : S25), (⟨bt479.1, bt479.2.1, bt479.2.2⟩ : S25)] : List (S25)))).bind fun bt490 => ((laws_coForm.f kj2 bt490.1 bt490.2.1 bt490.2.2 t424 t427 t430).bind fun t497 => (laws_FnFrmInto.j1 kj2 t431 t442 t445 (!t497) t424 t427 t430 t449 t452 t455))) else (laws_FnFrmInto.j1 kj2 t431 t442 t445 false t424 t427 t430 t449 t452 t455)))))) else (some false)))) = some r := H
    have A8 := Aside0.mk A80
    clear A80
    replace H := Option.bind_eq_some_iff.mp H
    obtain ⟨⟨t457, t460, t463⟩, A90, H⟩ := H
    replace H : ((laws_coForm.f kj2 t449 t452 t455 t457 t460 t463).bind fun t464 => (if t464 = true then ((impl_FrmPot.f 0).bind fun bt465 => ((impl_FrmPot.f 1).bind fun bt472 => ((impl_FrmPot.f 2).bind fun bt479 => ((impl_FrmOk.f t424 t427 t430).bind fun t489 => (if t489 = true then ((impl_FrmInto.f t424 t427 t430 (([(⟨bt465.1, bt465.2.1, bt465.2.2⟩ : S25), (⟨bt472.1, bt472.2.1, bt472.2.2⟩ : S25), (⟨bt479.1, bt479.2.1, bt479.2.2⟩ : S25)] : List (S25)))).bind fun bt490 => ((laws_coForm.f kj2 bt490.1 bt490.2.1 bt490.2.2 t424 t427 t430).bind fun t497 => (laws_FnFrmInto.j1 kj2 t431 t442 t445 (!t497) t424 t427 t430 t449 t452 t455))) else (laws_FnFrmInto.j1 kj2 t431 t442 t445 false t424 t427 t430 t449 t452 t455)))))) else (some false))) = some r := H
    have A9 := Aside0.mk A90
    clear A90
    replace H := Option.bind_eq_some_iff.mp H
    obtain ⟨t464, A100, H⟩ := H
    replace H : (if t464 = true then ((impl_FrmPot.f 0).bind fun bt465 => ((impl_FrmPot.f 1).bind fun bt472 => ((impl_FrmPot.f 2).bind fun bt479 => ((impl_FrmOk.f t424 t427 t430).bind fun t489 => (if t489 = true then ((impl_FrmInto.f t424 t427 t430 (([(⟨bt465.1, bt465.2.1, bt465.2.2⟩ : S25), (⟨bt472.1, bt472.2.1, bt472.2.2⟩ : S25), (⟨bt479.1, bt479.2.1, bt479.2.2⟩ : S25)] : List (S25)))).bind fun bt490 => ((laws_coForm.f kj2 bt490.1 bt490.2.1 bt490.2.2 t424 t427 t430).bind fun t497 => (laws_FnFrmInto.j1 kj2 t431 t442 t445 (!t497) t424 t427 t430 t449 t452 t455))) else (laws_FnFrmInto.j1 kj2 t431 t442 t445 false t424 t427 t430 t449 t452 t455)))))) else (some false)) = some r := H
    have A10 := Aside0.mk A100
    clear A100
    by_cases c11 : t464 = true
    ·subst c11
     have H1 : ((impl_FrmPot.f 0).bind fun bt465 => ((impl_FrmPot.f 1).bind fun bt472 => ((impl_FrmPot.f 2).bind fun bt479 => ((impl_FrmOk.f t424 t427 t430).bind fun t489 => (if t489 = true then ((impl_FrmInto.f t424 t427 t430 (([(⟨bt465.1, bt465.2.1, bt465.2.2⟩ : S25), (⟨bt472.1, bt472.2.1, bt472.2.2⟩ : S25), (⟨bt479.1, bt479.2.1, bt479.2.2⟩ : S25)] : List (S25)))).bind fun bt490 => ((laws_coForm.f kj2 bt490.1 bt490.2.1 bt490.2.2 t424 t427 t430).bind fun t497 => (laws_FnFrmInto.j1 kj2 t431 t442 t445 (!t497) t424 t427 t430 t449 t452 t455))) else (laws_FnFrmInto.j1 kj2 t431 t442 t445 false t424 t427 t430 t449 t452 t455)))))) = some r := by rw [if_pos rfl] at H; exact H
     clear H
     have H := H1
     clear H1
     replace H := Option.bind_eq_some_iff.mp H
     obtain ⟨⟨t465, t468, t471⟩, A120, H⟩ := H
     replace H : ((impl_FrmPot.f 1).bind fun bt472 => ((impl_FrmPot.f 2).bind fun bt479 => ((impl_FrmOk.f t424 t427 t430).bind fun t489 => (if t489 = true then ((impl_FrmInto.f t424 t427 t430 (([(⟨t465, t468, t471⟩ : S25), (⟨bt472.1, bt472.2.1, bt472.2.2⟩ : S25), (⟨bt479.1, bt479.2.1, bt479.2.2⟩ : S25)] : List (S25)))).bind fun bt490 => ((laws_coForm.f kj2 bt490.1 bt490.2.1 bt490.2.2 t424 t427 t430).bind fun t497 => (laws_FnFrmInto.j1 kj2 t431 t442 t445 (!t497) t424 t427 t430 t449 t452 t455))) else (laws_FnFrmInto.j1 kj2 t431 t442 t445 false t424 t427 t430 t449 t452 t455))))) = some r := H
     have A12 := Aside0.mk A120
     clear A120
     replace H := Option.bind_eq_some_iff.mp H
     obtain ⟨⟨t472, t475, t478⟩, A130, H⟩ := H
     replace H : ((impl_FrmPot.f 2).bind fun bt479 => ((impl_FrmOk.f t424 t427 t430).bind fun t489 => (if t489 = true then ((impl_FrmInto.f t424 t427 t430 (([(⟨t465, t468, t471⟩ : S25), (⟨t472, t475, t478⟩ : S25), (⟨bt479.1, bt479.2.1, bt479.2.2⟩ : S25)] : List (S25)))).bind fun bt490 => ((laws_coForm.f kj2 bt490.1 bt490.2.1 bt490.2.2 t424 t427 t430).bind fun t497 => (laws_FnFrmInto.j1 kj2 t431 t442 t445 (!t497) t424 t427 t430 t449 t452 t455))) else (laws_FnFrmInto.j1 kj2 t431 t442 t445 false t424 t427 t430 t449 t452 t455)))) = some r := H
     have A13 := Aside0.mk A130
     clear A130
     replace H := Option.bind_eq_some_iff.mp H
     obtain ⟨⟨t479, t482, t485⟩, A140, H⟩ := H
     replace H : ((impl_FrmOk.f t424 t427 t430).bind fun t489 => (if t489 = true then ((impl_FrmInto.f t424 t427 t430 (([(⟨t465, t468, t471⟩ : S25), (⟨t472, t475, t478⟩ : S25), (⟨t479, t482, t485⟩ : S25)] : List (S25)))).bind fun bt490 => ((laws_coForm.f kj2 bt490.1 bt490.2.1 bt490.2.2 t424 t427 t430).bind fun t497 => (laws_FnFrmInto.j1 kj2 t431 t442 t445 (!t497) t424 t427 t430 t449 t452 t455))) else (laws_FnFrmInto.j1 kj2 t431 t442 t445 false t424 t427 t430 t449 t452 t455))) = some r := H
     have A14 := Aside0.mk A140
     clear A140
     obtain ⟨y486, hy486⟩ : ∃ y_ : List (S25), y_ = (([(⟨t465, t468, t471⟩ : S25), (⟨t472, t475, t478⟩ : S25), (⟨t479, t482, t485⟩ : S25)] : List (S25))) := ⟨_, rfl⟩
     replace H : ((impl_FrmOk.f t424 t427 t430).bind fun t489 => (if t489 = true then ((impl_FrmInto.f t424 t427 t430 y486).bind fun bt490 => ((laws_coForm.f kj2 bt490.1 bt490.2.1 bt490.2.2 t424 t427 t430).bind fun t497 => (laws_FnFrmInto.j1 kj2 t431 t442 t445 (!t497) t424 t427 t430 t449 t452 t455))) else (laws_FnFrmInto.j1 kj2 t431 t442 t445 false t424 t427 t430 t449 t452 t455))) = some r := by first | (rw [hy486]; with_reducible exact H) | (have H2_ := (Option.bind_some _ _).symm.trans H; rw [hy486]; with_reducible exact H2_) | (have H2_ := (Option.bind_some _ _).symm.trans H; with_reducible exact H2_) | with_reducible exact H | (rw [hy486]; exact H) | exact H
     have Ny486 := Aside0.mk hy486
     clear hy486
     have HC15 := Aside0.mk H
     clear H
     try go_wp2_with (first | ((with_reducible refine gate_callee (f := 5) rfl ?_); refine goesL_ (some 30) rfl rfl Try.func5 (by kernel_rfl) rfl #[.slice A0 l0.length c0] rfl (by (try simp only [mA, mC, mN]); first | done | rfl | (simp only [ld, lt]; rfl)) ?_; (with_reducible refine (spec_DrawFrmInto.calls kj2 _ _ l0 t424 t427 t430 t431 _ ?side1 ?side2 A6.out).mono ?_); (case side1 => exact lC <| (Kd.C_below HR0.out HB.out)); (case side2 => exact HC0.out); rintro e w16 ⟨v425, v428, v432, rfl, ho0, ho1, ho2, hb⟩; refine ⟨_, rfl, ?_⟩; have HO426 := Aside0.mk (Kd.R_lower (Kd.R_mono (ok' := fun k_ => some k_ ≠ (v428 : Value).ownBlock) ho0 (fun _ hk_ => hk_.2)) (below_size (by exact lB HB.out))); have HO429 := Aside0.mk (Kd.R_lower (Kd.R_mono (ok' := fun k_ => some k_ ≠ (v425 : Value).ownBlock) ho1 (fun _ hk_ => hk_.2)) (below_size (by exact lB HB.out))); have HO433 := Aside0.mk (Kd.N_lower (Kd.N_mono (ok' := fun k_ => some k_ ≠ (v425 : Value).ownBlock ∧ some k_ ≠ (v428 : Value).ownBlock) ho2 (fun k_ hk_ => ⟨hk_.2.1, hk_.2.2⟩)) (below_size (by exact lB HB.out))); replace HB := Aside0.mk (below_step (by exact lB HB.out) hb); (try clear hb); (try clear hb2); (try clear hk); (try clear hi); (try clear ho0); (try clear ho1); (try clear ho2)) | ((with_reducible refine gate_dst (N := 5) rfl ?_); (try (refine gate_guard (by rfl) ?_; dsimp only)); refine box_event ?hg (N := 5) ?hd (cs := #[.slice none 0 0, .slice none 0 0, .int .i64 0]) (t := 25) ?hr ?_; (case hd => rfl); (case hg => rfl); (case hr => first | (go_simp; done) | (go_simp; rfl)); intro gb434 hg w17 hbox hb; replace HO426 := Aside0.mk (rb HO426.out hb); replace HO429 := Aside0.mk (rb HO429.out hb); replace HO433 := Aside0.mk (Kd.N_below (Kd.N_elderB (by (with_reducible repeat (first | apply Kd.N_alloc | apply Kd.N_drewN | apply Kd.N_drew)); exact HO433.out) gb434 (Nat.le_of_eq hg.symm)) hb); have BK434 := Aside0.mk (hbox); have GW434 := Aside0.mk ((by rw [hg]; exact (below_size (by exact lB HB.out)) : w.heap.size ≤ gb434)); have IGW434 : Nonempty _ := ⟨GW434.out⟩; have GE434 := Aside0.mk ((by rw [hg]; exact (below_size (by exact lB HB.out)) : w.heap.size ≤ gb434)); have IGE434 : Nonempty _ := ⟨GE434.out⟩; replace HB := Aside0.mk (below_step (by exact lB HB.out) hb); clear hb hbox hg; obtain ⟨Ao18, co18, eo18⟩ := Kd.R_slice HO426.out; subst eo18; obtain ⟨hcz19_0, hcz19_1, hcz19_2, hfz19_0, hfz19_1, hfz19_2⟩ := cf3 BK434.out; obtain ⟨Ao20, co20, eo20⟩ := Kd.R_slice HO429.out; subst eo20) | ((with_reducible refine gate_callee (f := 6) rfl ?_); refine goesL_ (some 35) rfl rfl Try.func6 (by kernel_rfl) rfl #[.slice A1 l1.length c1] rfl (by (try simp only [mA, mC, mN]); first | done | rfl | (simp only [ld, lt]; rfl)) ?_; (with_reducible refine (spec_DrawFrmAt.calls kj2 _ _ l1 t435 t438 t441 t442 t445 _ ?side1 ?side2 A7.out).mono ?_); (case side1 => exact Kd.C_below HR1.out (by exact jB HB.out)); (case side2 => exact HC1.out); rintro e w21 ⟨v436, v439, v443, v446, rfl, ho0, ho1, ho2, ho3, hb⟩; refine ⟨_, rfl, ?_⟩; replace HO433 := Aside0.mk (Kd.N_mono (Kd.N_told (Kd.N_told (Kd.N_told (Kd.N_told (Kd.N_old (by (with_reducible repeat (first | apply Kd.N_alloc | apply Kd.N_drewN | apply Kd.N_drew)); exact (Kd.N_mono (Kd.N_far (p := ⟨gb434, 2, none⟩) (Kd.N_far (p := ⟨gb434, 1, none⟩) (Kd.N_far (p := ⟨gb434, 0, none⟩) (Kd.N_mono HO433.out (fun k_ hk => (⟨hk, hk.2⟩ : _ ∧ k_ ≠ gb434))) (fun _ hk => hk.2) (.slice Ao18 t424.length co18)) (fun _ hk => hk.2) (.slice Ao20 t427.length co20)) (fun _ hk => hk.2) (.int .i64 t430)) (fun _ h_ => h_.1))) hb) (Kd.R_base ho0)) (Kd.R_base ho1)) (Kd.R_base ho2)) (Kd.R_base ho3)) (fun _ h_ => h_.1)); have HO437 := Aside0.mk (Kd.R_lower (Kd.R_new' (Kd.R_new' ho0 (Kd.R_lt (by (with_reducible repeat (first | apply ra | apply rn | apply re)); exact (R3 HO426.out BK434.out)))) (Kd.R_lt (by (with_reducible repeat (first | apply ra | apply rn | apply re)); exact (R3 HO429.out BK434.out)))) (below_size (by exact jB HB.out))); have HO440 := Aside0.mk (Kd.R_lower (Kd.R_new' (Kd.R_new' ho1 (Kd.R_lt (by (with_reducible repeat (first | apply ra | apply rn | apply re)); exact (R3 HO426.out BK434.out)))) (Kd.R_lt (by (with_reducible repeat (first | apply ra | apply rn | apply re)); exact (R3 HO429.out BK434.out)))) (below_size (by exact jB HB.out))); have HO444 := Aside0.mk (Kd.R_lower (Kd.R_new' (Kd.R_new' ho2 (Kd.R_lt (by (with_reducible repeat (first | apply ra | apply rn | apply re)); exact (R3 HO426.out BK434.out)))) (Kd.R_lt (by (with_reducible repeat (first | apply ra | apply rn | apply re)); exact (R3 HO429.out BK434.out)))) (below_size (by exact jB HB.out))); have HO447 := Aside0.mk (Kd.R_lower (Kd.R_new' (Kd.R_new' ho3 (Kd.R_lt (by (with_reducible repeat (first | apply ra | apply rn | apply re)); exact (R3 HO426.out BK434.out)))) (Kd.R_lt (by (with_reducible repeat (first | apply ra | apply rn | apply re)); exact (R3 HO429.out BK434.out)))) (below_size (by exact jB HB.out))); replace HO426 := Aside0.mk (Kd.R_mono (Kd.R_told (Kd.R_told (Kd.R_told (Kd.R_told (Kd.R_old (by (with_reducible repeat (first | apply ra | apply rn | apply re)); exact (R3 HO426.out BK434.out)) hb) (Kd.R_base ho0)) (Kd.R_base ho1)) (Kd.R_base ho2)) (Kd.R_base ho3)) (fun _ h_ => h_.1)); replace HO429 := Aside0.mk (Kd.R_mono (Kd.R_told (Kd.R_told (Kd.R_told (Kd.R_told (Kd.R_old (by (with_reducible repeat (first | apply ra | apply rn | apply re)); exact (R3 HO429.out BK434.out)) hb) (Kd.R_base ho0)) (Kd.R_base ho1)) (Kd.R_base ho2)) (Kd.R_base ho3)) (fun _ h_ => h_.1)); replace BK434 := Aside0.mk (blk_below (g := gb434) (o := .cells #[.slice Ao18 t424.length co18, .slice Ao20 t427.length co20, .int .i64 t430] 25 (0, 0)) (by (with_reducible repeat first | refine kN ?_ _ | refine kD ?_ | refine kA ?_ _); refine blk_put (cs := #[.slice Ao18 t424.length co18, .slice Ao20 t427.length co20, .int .i64 0]) ?_ 2 _ rfl; (with_reducible repeat first | refine kN ?_ _ | refine kD ?_ | refine kA ?_ _); refine blk_put (cs := #[.slice Ao18 t424.length co18, .slice none 0 0, .int .i64 0]) ?_ 1 _ rfl; (with_reducible repeat first | refine kN ?_ _ | refine kD ?_ | refine kA ?_ _); refine blk_put (cs := #[.slice none 0 0, .slice none 0 0, .int .i64 0]) ?_ 0 _ rfl; exact lK BK434.out) hb); replace HB := Aside0.mk (below_step (by exact jB HB.out) hb); (try clear hb); (try clear hb2); (try clear hk); (try clear hi); (try clear ho0); (try clear ho1); (try clear ho2); (try clear ho3)) | ((with_reducible refine gate_dst (N := 7) rfl ?_); (try (refine gate_guard (by rfl) ?_; dsimp only)); refine box_event ?hg (N := 7) ?hd (cs := #[.slice none 0 0, .slice none 0 0, .int .i64 0]) (t := 25) ?hr ?_; (case hd => rfl); (case hg => rfl); (case hr => first | (go_simp; done) | (go_simp; rfl)); intro gb448 hg w22 hbox hb; replace HO426 := Aside0.mk (rb HO426.out hb); replace HO429 := Aside0.mk (rb HO429.out hb); replace HO433 := Aside0.mk (Kd.N_below (Kd.N_elderB (by (with_reducible repeat (first | apply Kd.N_alloc | apply Kd.N_drewN | apply Kd.N_drew)); exact HO433.out) gb448 (Nat.le_of_eq hg.symm)) hb); replace HO437 := Aside0.mk (rb HO437.out hb); replace HO440 := Aside0.mk (rb HO440.out hb); replace HO444 := Aside0.mk (rb HO444.out hb); replace HO447 := Aside0.mk (rb HO447.out hb); have BK448 := Aside0.mk (hbox); have GW448 := Aside0.mk ((by rw [hg]; exact (below_size (by exact jB HB.out)) : w.heap.size ≤ gb448)); have IGW448 : Nonempty _ := ⟨GW448.out⟩; have GE448 := Aside0.mk ((by rw [hg]; exact (below_size (by exact jB HB.out)) : w.heap.size ≤ gb448)); have IGE448 : Nonempty _ := ⟨GE448.out⟩; replace HB := Aside0.mk (below_step (by exact jB HB.out) hb); have NB434_448 := Aside0.mk ((neL hg (lK BK434.out) : gb434 ≠ gb448)); have INB434_448 : Nonempty _ := ⟨NB434_448.out⟩; have NB448_434 := Aside0.mk ((neG hg (lK BK434.out) : gb448 ≠ gb434)); have INB448_434 : Nonempty _ := ⟨NB448_434.out⟩; replace BK434 := Aside0.mk (bb BK434.out hb); clear hb hbox hg; obtain ⟨Ao23, co23, eo23⟩ := Kd.R_slice HO437.out; subst eo23; have hnb24 := NB448_434.out; have hnc24 := NB434_448.out; obtain ⟨hcz25_0, hcz25_1, hcz25_2, hfz25_0, hfz25_1, hfz25_2⟩ := cf3 BK448.out; obtain ⟨Ao26, co26, eo26⟩ := Kd.R_slice HO440.out; subst eo26; obtain ⟨hcz27_0, hcz27_1, hcz27_2, hfz27_0, hfz27_1, hfz27_2⟩ := cf3 BK434.out; obtain ⟨Ao28, co28, eo28⟩ := Kd.N_slice HO433.out; subst eo28) | ((with_reducible refine gate_callee (f := 7) rfl ?_); refine goesL_ (some 41) rfl rfl Try.func7 (by kernel_rfl) rfl #[.agg #[.slice Ao18 t424.length co18, .slice Ao20 t427.length co20, .int .i64 t430], .slice Ao28 t431.length co28] rfl (by (try simp only [mA, mC, mN]); first | done | rfl | (simp only [ld, lt]; rfl)) ?_; (with_reducible refine (impl_FrmInto.calls _ _ t424 _ _ t427 t430 _ _ t431 t449 t452 t455 _ ?side1 ?side2 ?side3 ?side4 ?side5 ?side6 A8.out).mono ?_); (case side1 => refine (Kd.R_reads' (e := 3) (base := w.heap.size) (ok := fun k_ => ((((some k_ ≠ (.slice Ao20 t427.length co20 : Value).ownBlock ∧ some k_ ≠ (.slice Ao23 t435.length co23 : Value).ownBlock) ∧ some k_ ≠ (.slice Ao26 t438.length co26 : Value).ownBlock) ∧ some k_ ≠ (v443 : Value).ownBlock) ∧ some k_ ≠ (v446 : Value).ownBlock)) (n := t424.length) (c := co18) ?_).2.2; exact (by (with_reducible repeat (first | apply ra | apply rn | apply re)); exact (R3 HO426.out BK448.out))); (case side2 => exact (Kd.R_reads' HO426.out).2.1); (case side3 => refine (Kd.R_reads' (e := 3) (base := w.heap.size) (ok := fun k_ => ((((some k_ ≠ (.slice Ao18 t424.length co18 : Value).ownBlock ∧ some k_ ≠ (.slice Ao23 t435.length co23 : Value).ownBlock) ∧ some k_ ≠ (.slice Ao26 t438.length co26 : Value).ownBlock) ∧ some k_ ≠ (v443 : Value).ownBlock) ∧ some k_ ≠ (v446 : Value).ownBlock)) (n := t427.length) (c := co20) ?_).2.2; exact (by (with_reducible repeat (first | apply ra | apply rn | apply re)); exact (R3 HO429.out BK448.out))); (case side4 => exact (Kd.R_reads' HO429.out).2.1); (case side5 => refine (Kd.N_reads' (e := 25) (base := w.heap.size) (ok := fun k_ => (((((((some k_ ≠ (.slice Ao18 t424.length co18 : Value).ownBlock ∧ some k_ ≠ (.slice Ao20 t427.length co20 : Value).ownBlock) ∧ k_ ≠ gb434) ∧ some k_ ≠ (.slice Ao23 t435.length co23 : Value).ownBlock) ∧ some k_ ≠ (.slice Ao26 t438.length co26 : Value).ownBlock) ∧ some k_ ≠ (v443 : Value).ownBlock) ∧ some k_ ≠ (v446 : Value).ownBlock) ∧ k_ ≠ gb448)) (n := t431.length) (c := co28) ?_).2.2; exact (by (with_reducible repeat (first | apply Kd.N_alloc | apply Kd.N_drewN | apply Kd.N_drew)); exact (Kd.N_mono (Kd.N_far (p := ⟨gb448, 2, none⟩) (Kd.N_far (p := ⟨gb448, 1, none⟩) (Kd.N_far (p := ⟨gb448, 0, none⟩) (Kd.N_mono HO433.out (fun k_ hk => (⟨hk, hk.2⟩ : _ ∧ k_ ≠ gb448))) (fun _ hk => hk.2) (.slice Ao23 t435.length co23)) (fun _ hk => hk.2) (.slice Ao26 t438.length co26)) (fun _ hk => hk.2) (.int .i64 t441)) (fun _ h_ => h_.1)))); (case side6 => exact (Kd.N_reads' HO433.out).2.1); rintro e w29 ⟨v450, v453, rfl, ho0, ho1, hb⟩; refine ⟨_, rfl, ?_⟩; replace HO433 := Aside0.mk (Kd.N_mono (Kd.N_told (Kd.N_told (Kd.N_old (by (with_reducible repeat (first | apply Kd.N_alloc | apply Kd.N_drewN | apply Kd.N_drew)); exact (Kd.N_mono (Kd.N_far (p := ⟨gb448, 2, none⟩) (Kd.N_far (p := ⟨gb448, 1, none⟩) (Kd.N_far (p := ⟨gb448, 0, none⟩) (Kd.N_mono HO433.out (fun k_ hk => (⟨hk, hk.2⟩ : _ ∧ k_ ≠ gb448))) (fun _ hk => hk.2) (.slice Ao23 t435.length co23)) (fun _ hk => hk.2) (.slice Ao26 t438.length co26)) (fun _ hk => hk.2) (.int .i64 t441)) (fun _ h_ => h_.1))) hb) (Kd.R_base ho0)) (Kd.R_base ho1)) (fun _ h_ => h_.1)); have HO451 := Aside0.mk (Kd.R_lower (Kd.R_new' (Kd.R_new' (Kd.R_new' (Kd.R_new' (Kd.R_new' (Kd.R_new' ho0 (Kd.R_lt (by (with_reducible repeat (first | apply ra | apply rn | apply re)); exact (R3 HO426.out BK448.out)))) (Kd.R_lt (by (with_reducible repeat (first | apply ra | apply rn | apply re)); exact (R3 HO429.out BK448.out)))) (Kd.R_lt (by (with_reducible repeat (first | apply ra | apply rn | apply re)); exact (R3 HO437.out BK448.out)))) (Kd.R_lt (by (with_reducible repeat (first | apply ra | apply rn | apply re)); exact (R3 HO440.out BK448.out)))) (Kd.R_lt (by (with_reducible repeat (first | apply ra | apply rn | apply re)); exact (R3 HO444.out BK448.out)))) (Kd.R_lt (by (with_reducible repeat (first | apply ra | apply rn | apply re)); exact (R3 HO447.out BK448.out)))) (below_size (by exact jB HB.out))); have HO454 := Aside0.mk (Kd.R_lower (Kd.R_new' (Kd.R_new' (Kd.R_new' (Kd.R_new' (Kd.R_new' (Kd.R_new' ho1 (Kd.R_lt (by (with_reducible repeat (first | apply ra | apply rn | apply re)); exact (R3 HO426.out BK448.out)))) (Kd.R_lt (by (with_reducible repeat (first | apply ra | apply rn | apply re)); exact (R3 HO429.out BK448.out)))) (Kd.R_lt (by (with_reducible repeat (first | apply ra | apply rn | apply re)); exact (R3 HO437.out BK448.out)))) (Kd.R_lt (by (with_reducible repeat (first | apply ra | apply rn | apply re)); exact (R3 HO440.out BK448.out)))) (Kd.R_lt (by (with_reducible repeat (first | apply ra | apply rn | apply re)); exact (R3 HO444.out BK448.out)))) (Kd.R_lt (by (with_reducible repeat (first | apply ra | apply rn | apply re)); exact (R3 HO447.out BK448.out)))) (below_size (by exact jB HB.out))); replace HO426 := Aside0.mk (Kd.R_mono (Kd.R_told (Kd.R_told (Kd.R_old (by (with_reducible repeat (first | apply ra | apply rn | apply re)); exact (R3 HO426.out BK448.out)) hb) (Kd.R_base ho0)) (Kd.R_base ho1)) (fun _ h_ => h_.1)); replace HO429 := Aside0.mk (Kd.R_mono (Kd.R_told (Kd.R_told (Kd.R_old (by (with_reducible repeat (first | apply ra | apply rn | apply re)); exact (R3 HO429.out BK448.out)) hb) (Kd.R_base ho0)) (Kd.R_base ho1)) (fun _ h_ => h_.1)); replace HO437 := Aside0.mk (Kd.R_mono (Kd.R_told (Kd.R_told (Kd.R_old (by (with_reducible repeat (first | apply ra | apply rn | apply re)); exact (R3 HO437.out BK448.out)) hb) (Kd.R_base ho0)) (Kd.R_base ho1)) (fun _ h_ => h_.1)); replace HO440 := Aside0.mk (Kd.R_mono (Kd.R_told (Kd.R_told (Kd.R_old (by (with_reducible repeat (first | apply ra | apply rn | apply re)); exact (R3 HO440.out BK448.out)) hb) (Kd.R_base ho0)) (Kd.R_base ho1)) (fun _ h_ => h_.1)); replace HO444 := Aside0.mk (Kd.R_mono (Kd.R_told (Kd.R_told (Kd.R_old (by (with_reducible repeat (first | apply ra | apply rn | apply re)); exact (R3 HO444.out BK448.out)) hb) (Kd.R_base ho0)) (Kd.R_base ho1)) (fun _ h_ => h_.1)); replace HO447 := Aside0.mk (Kd.R_mono (Kd.R_told (Kd.R_told (Kd.R_old (by (with_reducible repeat (first | apply ra | apply rn | apply re)); exact (R3 HO447.out BK448.out)) hb) (Kd.R_base ho0)) (Kd.R_base ho1)) (fun _ h_ => h_.1)); replace BK434 := Aside0.mk (blk_below (g := gb434) (o := .cells #[.slice Ao18 t424.length co18, .slice Ao20 t427.length co20, .int .i64 t430] 25 (0, 0)) (by (with_reducible repeat first | refine kN ?_ _ | refine kD ?_ | refine kA ?_ _); refine blk_far ?_ NB434_448.out _; (with_reducible repeat first | refine kN ?_ _ | refine kD ?_ | refine kA ?_ _); refine blk_far ?_ NB434_448.out _; (with_reducible repeat first | refine kN ?_ _ | refine kD ?_ | refine kA ?_ _); refine blk_far ?_ NB434_448.out _; exact lK BK434.out) hb); replace BK448 := Aside0.mk (blk_below (g := gb448) (o := .cells #[.slice Ao23 t435.length co23, .slice Ao26 t438.length co26, .int .i64 t441] 25 (0, 0)) (by (with_reducible repeat first | refine kN ?_ _ | refine kD ?_ | refine kA ?_ _); refine blk_put (cs := #[.slice Ao23 t435.length co23, .slice Ao26 t438.length co26, .int .i64 0]) ?_ 2 _ rfl; (with_reducible repeat first | refine kN ?_ _ | refine kD ?_ | refine kA ?_ _); refine blk_put (cs := #[.slice Ao23 t435.length co23, .slice none 0 0, .int .i64 0]) ?_ 1 _ rfl; (with_reducible repeat first | refine kN ?_ _ | refine kD ?_ | refine kA ?_ _); refine blk_put (cs := #[.slice none 0 0, .slice none 0 0, .int .i64 0]) ?_ 0 _ rfl; exact lK BK448.out) hb); replace HB := Aside0.mk (below_step (by exact jB HB.out) hb); (try clear hb); (try clear hb2); (try clear hk); (try clear hi); (try clear ho0); (try clear ho1)) | ((with_reducible refine gate_dst (N := 10) rfl ?_); (try (refine gate_guard (by rfl) ?_; dsimp only)); refine box_event ?hg (N := 10) ?hd (cs := #[.slice none 0 0, .slice none 0 0, .int .i64 0]) (t := 25) ?hr ?_; (case hd => rfl); (case hg => rfl); (case hr => first | (go_simp; done) | (go_simp; rfl)); intro gb456 hg w30 hbox hb; replace HO426 := Aside0.mk (rb HO426.out hb); replace HO429 := Aside0.mk (rb HO429.out hb); replace HO433 := Aside0.mk (Kd.N_below (Kd.N_elderB (by (with_reducible repeat (first | apply Kd.N_alloc | apply Kd.N_drewN | apply Kd.N_drew)); exact HO433.out) gb456 (Nat.le_of_eq hg.symm)) hb); replace HO437 := Aside0.mk (rb HO437.out hb); replace HO440 := Aside0.mk (rb HO440.out hb); replace HO444 := Aside0.mk (rb HO444.out hb); replace HO447 := Aside0.mk (rb HO447.out hb); replace HO451 := Aside0.mk (rb HO451.out hb); replace HO454 := Aside0.mk (rb HO454.out hb); have BK456 := Aside0.mk (hbox); have GW456 := Aside0.mk ((by rw [hg]; exact (below_size (by exact jB HB.out)) : w.heap.size ≤ gb456)); have IGW456 : Nonempty _ := ⟨GW456.out⟩; have GE456 := Aside0.mk ((by rw [hg]; exact (below_size (by exact jB HB.out)) : w.heap.size ≤ gb456)); have IGE456 : Nonempty _ := ⟨GE456.out⟩; replace HB := Aside0.mk (below_step (by exact jB HB.out) hb); have NB434_456 := Aside0.mk ((neL hg (lK BK434.out) : gb434 ≠ gb456)); have INB434_456 : Nonempty _ := ⟨NB434_456.out⟩; have NB456_434 := Aside0.mk ((neG hg (lK BK434.out) : gb456 ≠ gb434)); have INB456_434 : Nonempty _ := ⟨NB456_434.out⟩; replace BK434 := Aside0.mk (bb BK434.out hb); have NB448_456 := Aside0.mk ((neL hg (lK BK448.out) : gb448 ≠ gb456)); have INB448_456 : Nonempty _ := ⟨NB448_456.out⟩; have NB456_448 := Aside0.mk ((neG hg (lK BK448.out) : gb456 ≠ gb448)); have INB456_448 : Nonempty _ := ⟨NB456_448.out⟩; replace BK448 := Aside0.mk (bb BK448.out hb); clear hb hbox hg; obtain ⟨Ao31, co31, eo31⟩ := Kd.R_slice HO451.out; subst eo31; have hnb32 := NB456_434.out; have hnc32 := NB434_456.out; have hnb33 := NB456_448.out; have hnc33 := NB448_456.out; obtain ⟨hcz34_0, hcz34_1, hcz34_2, hfz34_0, hfz34_1, hfz34_2⟩ := cf3 BK456.out; obtain ⟨Ao35, co35, eo35⟩ := Kd.R_slice HO454.out; subst eo35))
     have n0_ := Aside0.mk (Kd.R_mono (ok' := (fun k_ => some k_ ≠ (.slice Ao20 t427.length co20 : Value).ownBlock ∧ some k_ ≠ (.slice Ao23 t435.length co23 : Value).ownBlock ∧ some k_ ≠ (.slice Ao26 t438.length co26 : Value).ownBlock ∧ some k_ ≠ (v443 : Value).ownBlock ∧ some k_ ≠ (v446 : Value).ownBlock ∧ some k_ ≠ (.slice Ao31 t449.length co31 : Value).ownBlock ∧ some k_ ≠ (.slice Ao35 t452.length co35 : Value).ownBlock)) (R3 (w := w30) (x := (.slice Ao31 t449.length co31)) (y := (.slice Ao35 t452.length co35)) (z := (.int .i64 t455)) (lR HO426.out) (lK BK456.out)) (fun _ hk => ⟨hk.1.1.1.1.1.1, ⟨hk.1.1.1.1.1.2, ⟨hk.1.1.1.1.2, ⟨hk.1.1.1.2, ⟨hk.1.1.2, ⟨hk.1.2, hk.2⟩⟩⟩⟩⟩⟩))
     have n1_ := Aside0.mk (Kd.R_mono (ok' := (fun k_ => some k_ ≠ (.slice Ao18 t424.length co18 : Value).ownBlock ∧ some k_ ≠ (.slice Ao23 t435.length co23 : Value).ownBlock ∧ some k_ ≠ (.slice Ao26 t438.length co26 : Value).ownBlock ∧ some k_ ≠ (v443 : Value).ownBlock ∧ some k_ ≠ (v446 : Value).ownBlock ∧ some k_ ≠ (.slice Ao31 t449.length co31 : Value).ownBlock ∧ some k_ ≠ (.slice Ao35 t452.length co35 : Value).ownBlock)) (R3 (w := w30) (x := (.slice Ao31 t449.length co31)) (y := (.slice Ao35 t452.length co35)) (z := (.int .i64 t455)) (lR HO429.out) (lK BK456.out)) (fun _ hk => ⟨hk.1.1.1.1.1.1, ⟨hk.1.1.1.1.1.2, ⟨hk.1.1.1.1.2, ⟨hk.1.1.1.2, ⟨hk.1.1.2, ⟨hk.1.2, hk.2⟩⟩⟩⟩⟩⟩))
     have n2_ : Aside0 (Kd.N k25 25 (((w30.setCell ⟨gb456, 0, none⟩ (.slice Ao31 t449.length co31)).setCell ⟨gb456, 1, none⟩ (.slice Ao35 t452.length co35)).setCell ⟨gb456, 2, none⟩ (.int .i64 t455)) w.heap.size (fun k_ => some k_ ≠ (.slice Ao18 t424.length co18 : Value).ownBlock ∧ some k_ ≠ (.slice Ao20 t427.length co20 : Value).ownBlock ∧ some k_ ≠ (.slice Ao23 t435.length co23 : Value).ownBlock ∧ some k_ ≠ (.slice Ao26 t438.length co26 : Value).ownBlock ∧ some k_ ≠ (v443 : Value).ownBlock ∧ some k_ ≠ (v446 : Value).ownBlock ∧ some k_ ≠ (.slice Ao31 t449.length co31 : Value).ownBlock ∧ some k_ ≠ (.slice Ao35 t452.length co35 : Value).ownBlock ∧ k_ ≠ gb434 ∧ k_ ≠ gb448 ∧ k_ ≠ gb456) (.slice Ao28 t431.length co28) t431) := ⟨by (with_reducible repeat (first | apply Kd.N_alloc | apply Kd.N_drewN | apply Kd.N_drew)); exact Kd.N_mono (Kd.N_far (p := ⟨gb456, 2, none⟩) (Kd.N_far (p := ⟨gb456, 1, none⟩) (Kd.N_far (p := ⟨gb456, 0, none⟩) (Kd.N_mono HO433.out (fun k_ hk => (⟨hk, hk.2⟩ : _ ∧ k_ ≠ gb456))) (fun _ hk => hk.2) (.slice Ao31 t449.length co31)) (fun _ hk => hk.2) (.slice Ao35 t452.length co35)) (fun _ hk => hk.2) (.int .i64 t455)) (fun _ hk => ⟨hk.1.1.1.1.1.1.1.1.1.1.1, ⟨hk.1.1.1.1.1.1.1.1.1.1.2, ⟨hk.1.1.1.1.1.1.1.1.2, ⟨hk.1.1.1.1.1.1.1.2, ⟨hk.1.1.1.1.1.1.2, ⟨hk.1.1.1.1.1.2, ⟨hk.1.1.1.2, ⟨hk.1.1.2, ⟨hk.1.1.1.1.1.1.1.1.1.2, ⟨hk.1.1.1.1.2, hk.1.2⟩⟩⟩⟩⟩⟩⟩⟩⟩⟩)⟩
     have n3_ := Aside0.mk (Kd.R_mono (ok' := (fun k_ => some k_ ≠ (.slice Ao18 t424.length co18 : Value).ownBlock ∧ some k_ ≠ (.slice Ao20 t427.length co20 : Value).ownBlock ∧ some k_ ≠ (.slice Ao26 t438.length co26 : Value).ownBlock ∧ some k_ ≠ (v443 : Value).ownBlock ∧ some k_ ≠ (v446 : Value).ownBlock ∧ some k_ ≠ (.slice Ao31 t449.length co31 : Value).ownBlock ∧ some k_ ≠ (.slice Ao35 t452.length co35 : Value).ownBlock)) (R3 (w := w30) (x := (.slice Ao31 t449.length co31)) (y := (.slice Ao35 t452.length co35)) (z := (.int .i64 t455)) (lR HO437.out) (lK BK456.out)) (fun _ hk => ⟨hk.1.1.1.2, ⟨hk.1.1.2, ⟨hk.1.1.1.1.1, ⟨hk.1.1.1.1.2.1, ⟨hk.1.1.1.1.2.2, ⟨hk.1.2, hk.2⟩⟩⟩⟩⟩⟩))
     have n4_ := Aside0.mk (Kd.R_mono (ok' := (fun k_ => some k_ ≠ (.slice Ao18 t424.length co18 : Value).ownBlock ∧ some k_ ≠ (.slice Ao20 t427.length co20 : Value).ownBlock ∧ some k_ ≠ (.slice Ao23 t435.length co23 : Value).ownBlock ∧ some k_ ≠ (v443 : Value).ownBlock ∧ some k_ ≠ (v446 : Value).ownBlock ∧ some k_ ≠ (.slice Ao31 t449.length co31 : Value).ownBlock ∧ some k_ ≠ (.slice Ao35 t452.length co35 : Value).ownBlock)) (R3 (w := w30) (x := (.slice Ao31 t449.length co31)) (y := (.slice Ao35 t452.length co35)) (z := (.int .i64 t455)) (lR HO440.out) (lK BK456.out)) (fun _ hk => ⟨hk.1.1.1.2, ⟨hk.1.1.2, ⟨hk.1.1.1.1.1, ⟨hk.1.1.1.1.2.1, ⟨hk.1.1.1.1.2.2, ⟨hk.1.2, hk.2⟩⟩⟩⟩⟩⟩))
     have n5_ := Aside0.mk (Kd.R_mono (ok' := (fun k_ => some k_ ≠ (.slice Ao18 t424.length co18 : Value).ownBlock ∧ some k_ ≠ (.slice Ao20 t427.length co20 : Value).ownBlock ∧ some k_ ≠ (.slice Ao23 t435.length co23 : Value).ownBlock ∧ some k_ ≠ (.slice Ao26 t438.length co26 : Value).ownBlock ∧ some k_ ≠ (v446 : Value).ownBlock ∧ some k_ ≠ (.slice Ao31 t449.length co31 : Value).ownBlock ∧ some k_ ≠ (.slice Ao35 t452.length co35 : Value).ownBlock)) (R3 (w := w30) (x := (.slice Ao31 t449.length co31)) (y := (.slice Ao35 t452.length co35)) (z := (.int .i64 t455)) (lR HO444.out) (lK BK456.out)) (fun _ hk => ⟨hk.1.1.1.2, ⟨hk.1.1.2, ⟨hk.1.1.1.1.1, ⟨hk.1.1.1.1.2.1, ⟨hk.1.1.1.1.2.2, ⟨hk.1.2, hk.2⟩⟩⟩⟩⟩⟩))
     have n6_ := Aside0.mk (Kd.R_mono (ok' := (fun k_ => some k_ ≠ (.slice Ao18 t424.length co18 : Value).ownBlock ∧ some k_ ≠ (.slice Ao20 t427.length co20 : Value).ownBlock ∧ some k_ ≠ (.slice Ao23 t435.length co23 : Value).ownBlock ∧ some k_ ≠ (.slice Ao26 t438.length co26 : Value).ownBlock ∧ some k_ ≠ (v443 : Value).ownBlock ∧ some k_ ≠ (.slice Ao31 t449.length co31 : Value).ownBlock ∧ some k_ ≠ (.slice Ao35 t452.length co35 : Value).ownBlock)) (R3 (w := w30) (x := (.slice Ao31 t449.length co31)) (y := (.slice Ao35 t452.length co35)) (z := (.int .i64 t455)) (lR HO447.out) (lK BK456.out)) (fun _ hk => ⟨hk.1.1.1.2, ⟨hk.1.1.2, ⟨hk.1.1.1.1.1, ⟨hk.1.1.1.1.2.1, ⟨hk.1.1.1.1.2.2, ⟨hk.1.2, hk.2⟩⟩⟩⟩⟩⟩))
     have n7_ := Aside0.mk (Kd.R_mono (ok' := (fun k_ => some k_ ≠ (.slice Ao18 t424.length co18 : Value).ownBlock ∧ some k_ ≠ (.slice Ao20 t427.length co20 : Value).ownBlock ∧ some k_ ≠ (.slice Ao23 t435.length co23 : Value).ownBlock ∧ some k_ ≠ (.slice Ao26 t438.length co26 : Value).ownBlock ∧ some k_ ≠ (v443 : Value).ownBlock ∧ some k_ ≠ (v446 : Value).ownBlock ∧ some k_ ≠ (.slice Ao35 t452.length co35 : Value).ownBlock)) (R3 (w := w30) (x := (.slice Ao31 t449.length co31)) (y := (.slice Ao35 t452.length co35)) (z := (.int .i64 t455)) (lR HO451.out) (lK BK456.out)) (fun _ hk => ⟨hk.1.1.1.1.1.2, ⟨hk.1.1.1.1.2, ⟨hk.1.1.1.2, ⟨hk.1.1.2, ⟨hk.1.2, ⟨hk.2, hk.1.1.1.1.1.1⟩⟩⟩⟩⟩⟩))
     have n8_ := Aside0.mk (Kd.R_mono (ok' := (fun k_ => some k_ ≠ (.slice Ao18 t424.length co18 : Value).ownBlock ∧ some k_ ≠ (.slice Ao20 t427.length co20 : Value).ownBlock ∧ some k_ ≠ (.slice Ao23 t435.length co23 : Value).ownBlock ∧ some k_ ≠ (.slice Ao26 t438.length co26 : Value).ownBlock ∧ some k_ ≠ (v443 : Value).ownBlock ∧ some k_ ≠ (v446 : Value).ownBlock ∧ some k_ ≠ (.slice Ao31 t449.length co31 : Value).ownBlock)) (R3 (w := w30) (x := (.slice Ao31 t449.length co31)) (y := (.slice Ao35 t452.length co35)) (z := (.int .i64 t455)) (lR HO454.out) (lK BK456.out)) (fun _ hk => ⟨hk.1.1.1.1.1.2, ⟨hk.1.1.1.1.2, ⟨hk.1.1.1.2, ⟨hk.1.1.2, ⟨hk.1.2, ⟨hk.2, hk.1.1.1.1.1.1⟩⟩⟩⟩⟩⟩))
     have n9_ : Aside0 ((((w30.setCell ⟨gb456, 0, none⟩ (.slice Ao31 t449.length co31)).setCell ⟨gb456, 1, none⟩ (.slice Ao35 t452.length co35)).setCell ⟨gb456, 2, none⟩ (.int .i64 t455)).heap[gb434]? = some (.cells #[.slice Ao18 t424.length co18, .slice Ao20 t427.length co20, .int .i64 t430] 25 (0, 0))) := ⟨by (with_reducible repeat first | refine kN ?_ _ | refine kD ?_ | refine kA ?_ _); refine blk_far ?_ NB434_456.out _; (with_reducible repeat first | refine kN ?_ _ | refine kD ?_ | refine kA ?_ _); refine blk_far ?_ NB434_456.out _; (with_reducible repeat first | refine kN ?_ _ | refine kD ?_ | refine kA ?_ _); refine blk_far ?_ NB434_456.out _; exact lK <| BK434.out⟩
     have n10_ : Aside0 ((((w30.setCell ⟨gb456, 0, none⟩ (.slice Ao31 t449.length co31)).setCell ⟨gb456, 1, none⟩ (.slice Ao35 t452.length co35)).setCell ⟨gb456, 2, none⟩ (.int .i64 t455)).heap[gb448]? = some (.cells #[.slice Ao23 t435.length co23, .slice Ao26 t438.length co26, .int .i64 t441] 25 (0, 0))) := ⟨by (with_reducible repeat first | refine kN ?_ _ | refine kD ?_ | refine kA ?_ _); refine blk_far ?_ NB448_456.out _; (with_reducible repeat first | refine kN ?_ _ | refine kD ?_ | refine kA ?_ _); refine blk_far ?_ NB448_456.out _; (with_reducible repeat first | refine kN ?_ _ | refine kD ?_ | refine kA ?_ _); refine blk_far ?_ NB448_456.out _; exact lK <| BK448.out⟩
     have n11_ := Aside0.mk (p3 (w := w30) (x := (.slice Ao31 t449.length co31)) (y := (.slice Ao35 t452.length co35)) (z := (.int .i64 t455)) (lK BK456.out))
     have n12_ : Aside0 (Below w.heap.size w (((w30.setCell ⟨gb456, 0, none⟩ (.slice Ao31 t449.length co31)).setCell ⟨gb456, 1, none⟩ (.slice Ao35 t452.length co35)).setCell ⟨gb456, 2, none⟩ (.int .i64 t455))) := ⟨by exact jB HB.out⟩
     (try clear HO426)
     (try clear HO429)
     (try clear HO433)
     (try clear HO437)
     (try clear HO440)
     (try clear HO444)
     (try clear HO447)
     (try clear HO451)
     (try clear HO454)
     (try clear BK434)
     (try clear BK448)
     (try clear BK456)
     (try clear HB)
     generalize (((w30.setCell ⟨gb456, 0, none⟩ (.slice Ao31 t449.length co31)).setCell ⟨gb456, 1, none⟩ (.slice Ao35 t452.length co35)).setCell ⟨gb456, 2, none⟩ (.int .i64 t455)) = w36 at n0_ n1_ n2_ n3_ n4_ n5_ n6_ n7_ n8_ n9_ n10_ n11_ n12_ ⊢
     have HO426 := n0_
     have HO429 := n1_
     have HO433 := n2_
     have HO437 := n3_
     have HO440 := n4_
     have HO444 := n5_
     have HO447 := n6_
     have HO451 := n7_
     have HO454 := n8_
     have BK434 := n9_
     have BK448 := n10_
     have BK456 := n11_
     have HB := n12_
     clear n0_ n1_ n2_ n3_ n4_ n5_ n6_ n7_ n8_ n9_ n10_ n11_ n12_
     replace HO426 := Aside0.mk (Kd.R_drew HO426.out)
     replace HO429 := Aside0.mk (Kd.R_drew HO429.out)
     replace HO433 := Aside0.mk (Kd.N_drew HO433.out)
     replace HO437 := Aside0.mk (Kd.R_drew HO437.out)
     replace HO440 := Aside0.mk (Kd.R_drew HO440.out)
     replace HO444 := Aside0.mk (Kd.R_drew HO444.out)
     replace HO447 := Aside0.mk (Kd.R_drew HO447.out)
     replace HO451 := Aside0.mk (Kd.R_drew HO451.out)
     replace HO454 := Aside0.mk (Kd.R_drew HO454.out)
     replace BK434 := Aside0.mk (blk_drew BK434.out)
     replace BK448 := Aside0.mk (blk_drew BK448.out)
     replace BK456 := Aside0.mk (blk_drew BK456.out)
     replace HB := Aside0.mk (below_drew1 HB.out)
     refine start_ (n := 6) (S := fun w' => w'.cell? ⟨gb456, 0, none⟩ = some (.slice Ao31 t449.length co31) ∧ w'.cell? ⟨gb456, 1, none⟩ = some (.slice Ao35 t452.length co35) ∧ w'.cell? ⟨gb456, 2, none⟩ = some (.int .i64 t455) ∧ w'.cell? ⟨gb434, 0, none⟩ = some (.slice Ao18 t424.length co18) ∧ w'.cell? ⟨gb434, 1, none⟩ = some (.slice Ao20 t427.length co20) ∧ w'.cell? ⟨gb434, 2, none⟩ = some (.int .i64 t430)) (ds := []) #[false, false, false, false, false, false] (by kernel_rfl) rfl rfl ⟨(blk_cell BK456.out 0).trans rfl, (blk_cell BK456.out 1).trans rfl, (blk_cell BK456.out 2).trans rfl, (blk_cell BK434.out 0).trans rfl, (blk_cell BK434.out 1).trans rfl, (blk_cell BK434.out 2).trans rfl⟩ (fun hHeld => ?_)
     generalize w36.drew = w37 at HO426 HO429 HO433 HO437 HO440 HO444 HO447 HO451 HO454 BK434 BK448 BK456 HB hHeld ⊢
     refine pure_ (i := 2) (N := some 44) (v := ?_) (a' := ?_) #[false, false, true, false, false, false] rfl rfl (by kernel_rfl) (fun _ _ _ h => h) (Or.inl ⟨by rfl, ?_⟩) ?_ ?_
     rotate_left
     ·intro w'
      go_simp
      with_reducible rfl
     rotate_left
     ·simp only [Act.put, sA, s0, sS, i64_w, i32_w]
      rfl
     refine take_ (i := 0) (N := some 42) (v := ?_) (a' := ?_) #[true, false, true, false, false, false] rfl rfl (by kernel_rfl) (fun _ _ _ h => h) (Or.inl ⟨by rfl, ?_⟩) hHeld ?_ ?_
     rotate_left
     ·rintro w' ⟨s0, s1, s2, s3, s4, s5⟩
      go_simp
      with_reducible rfl
     rotate_left
     ·simp only [Act.put, sA, s0, sS, i64_w, i32_w]
      rfl
     refine take_ (i := 1) (N := some 43) (v := ?_) (a' := ?_) #[true, true, true, false, false, false] rfl rfl (by kernel_rfl) (fun _ _ _ h => h) (Or.inl ⟨by rfl, ?_⟩) hHeld ?_ ?_
     rotate_left
     ·rintro w' ⟨s0, s1, s2, s3, s4, s5⟩
      go_simp
      with_reducible rfl
     rotate_left
     ·simp only [Act.put, sA, s0, sS, i64_w, i32_w]
      rfl
     refine one_ (i := 3) (N := some 45) #[true, true, true, true, false, false] rfl rfl (by kernel_rfl) (by decide) (fun K hK => ?_)
     refine goes_ Try.func9 (by kernel_rfl) rfl #[.agg #[.slice Ao18 t424.length co18, .slice Ao20 t427.length co20, .int .i64 t430], .slice Ao28 t431.length co28] (by rfl) rfl rfl (by (try simp only [mA, mC, mN]); first | done | rfl | (simp only [ld, lt]; rfl)) ?_
     with_reducible refine (spec_FrmInto.calls kj2 _ _ t424 _ _ t427 t430 _ _ t431 t457 t460 t463 _ ?side1 ?side2 ?side3 ?side4 ?side5 ?side6 A9.out).mono ?_
     (case side1 => exact lC <| (Kd.R_reads' HO426.out).2.2)
     (case side2 => exact (Kd.R_reads' HO426.out).2.1)
     (case side3 => exact lC <| (Kd.R_reads' HO429.out).2.2)
     (case side4 => exact (Kd.R_reads' HO429.out).2.1)
     (case side5 => exact lC <| (Kd.N_reads' HO433.out).2.2)
     (case side6 => exact (Kd.N_reads' HO433.out).2.1)
     rintro e w38 ⟨v458, v461, rfl, ho0, ho1, hb⟩
     refine ⟨_, rfl, ?_⟩
     replace HO433 := Aside0.mk (Kd.N_mono (Kd.N_told (Kd.N_told (Kd.N_old (by (with_reducible repeat (first | apply Kd.N_alloc | apply Kd.N_drewN | apply Kd.N_drew)); exact HO433.out) hb) (Kd.R_base ho0)) (Kd.R_base ho1)) (fun _ h_ => h_.1))
     have HO459 := Aside0.mk (Kd.R_lower (Kd.R_new' (Kd.R_new' (Kd.R_new' (Kd.R_new' (Kd.R_new' (Kd.R_new' (Kd.R_new' (Kd.R_new' ho0 (rl HO426.out)) (rl HO429.out)) (rl HO437.out)) (rl HO440.out)) (rl HO444.out)) (rl HO447.out)) (rl HO451.out)) (rl HO454.out)) (below_size (by exact jB HB.out)))
     have HO462 := Aside0.mk (Kd.R_lower (Kd.R_new' (Kd.R_new' (Kd.R_new' (Kd.R_new' (Kd.R_new' (Kd.R_new' (Kd.R_new' (Kd.R_new' ho1 (rl HO426.out)) (rl HO429.out)) (rl HO437.out)) (rl HO440.out)) (rl HO444.out)) (rl HO447.out)) (rl HO451.out)) (rl HO454.out)) (below_size (by exact jB HB.out)))
     replace HO426 := Aside0.mk (o2 HO426.out hb ho0 ho1)
     replace HO429 := Aside0.mk (o2 HO429.out hb ho0 ho1)
     replace HO437 := Aside0.mk (o2 HO437.out hb ho0 ho1)
     replace HO440 := Aside0.mk (o2 HO440.out hb ho0 ho1)
     replace HO444 := Aside0.mk (o2 HO444.out hb ho0 ho1)
     replace HO447 := Aside0.mk (o2 HO447.out hb ho0 ho1)
     replace HO451 := Aside0.mk (o2 HO451.out hb ho0 ho1)
     replace HO454 := Aside0.mk (o2 HO454.out hb ho0 ho1)
     replace BK434 := Aside0.mk (bb BK434.out hb)
     replace BK448 := Aside0.mk (bb BK448.out hb)
     replace BK456 := Aside0.mk (bb BK456.out hb)
     replace HB := Aside0.mk (below_step (by exact jB HB.out) hb)
     (try clear hb)
     (try clear hb2)
     (try clear hk)
     (try clear hi)
     (try clear ho0)
     (try clear ho1)
     obtain ⟨Ao39, co39, eo39⟩ := Kd.R_slice HO459.out
     (first | subst eo39 | (injection eo39 with f1_ f2_ f3_; have f4_ := f1_.symm; have f5_ := f3_.symm; clear f1_ f2_ f3_; subst f4_; subst f5_))
     obtain ⟨Ao40, co40, eo40⟩ := Kd.R_slice HO462.out
     (first | subst eo40 | (injection eo40 with f1_ f2_ f3_; have f4_ := f1_.symm; have f5_ := f3_.symm; clear f1_ f2_ f3_; subst f4_; subst f5_))
     refine hK.out _ _ ⟨(blk_cell BK456.out 0).trans rfl, (blk_cell BK456.out 1).trans rfl, (blk_cell BK456.out 2).trans rfl, (blk_cell BK434.out 0).trans rfl, (blk_cell BK434.out 1).trans rfl, (blk_cell BK434.out 2).trans rfl⟩ (fun hHeld => ?_)
     clear hK K
     refine norm_ (a' := ?_) ?_ ?_
     rotate_left
     ·show Act.put _ (some 45) _ = _
      simp only [Act.put, sA, s0, sS, i64_w, i32_w]
      rfl
     refine one_ (i := 4) (N := some 46) #[true, true, true, true, true, false] rfl rfl (by kernel_rfl) (by decide) (fun K hK => ?_)
     refine goes_ Try.func8 (by kernel_rfl) rfl #[.agg #[.slice Ao31 t449.length co31, .slice Ao35 t452.length co35, .int .i64 t455], .agg #[.slice Ao39 t457.length co39, .slice Ao40 t460.length co40, .int .i64 t463]] (by rfl) rfl rfl (by (try simp only [mA, mC, mN]); first | done | rfl | (simp only [ld, lt]; rfl)) ?_
     with_reducible refine (laws_coForm.calls kj2 _ _ t449 _ _ t452 t455 _ _ t457 _ _ t460 t463 true _ ?side1 ?side2 ?side3 ?side4 ?side5 ?side6 ?side7 ?side8 A10.out).mono ?_
     (case side1 => exact lC <| (Kd.R_reads' HO451.out).2.2)
     (case side2 => exact (Kd.R_reads' HO451.out).2.1)
     (case side3 => exact lC <| (Kd.R_reads' HO454.out).2.2)
     (case side4 => exact (Kd.R_reads' HO454.out).2.1)
     (case side5 => exact lC <| (Kd.R_reads' HO459.out).2.2)
     (case side6 => exact (Kd.R_reads' HO459.out).2.1)
     (case side7 => exact lC <| (Kd.R_reads' HO462.out).2.2)
     (case side8 => exact (Kd.R_reads' HO462.out).2.1)
     rintro e w41 ⟨rfl, hb⟩
     refine ⟨_, rfl, ?_⟩
     replace HO426 := Aside0.mk (rb HO426.out hb)
     replace HO429 := Aside0.mk (rb HO429.out hb)
     replace HO433 := Aside0.mk (Kd.N_below (by (with_reducible repeat (first | apply Kd.N_alloc | apply Kd.N_drewN | apply Kd.N_drew)); exact HO433.out) hb)
     replace HO437 := Aside0.mk (rb HO437.out hb)
     replace HO440 := Aside0.mk (rb HO440.out hb)
     replace HO444 := Aside0.mk (rb HO444.out hb)
     replace HO447 := Aside0.mk (rb HO447.out hb)
     replace HO451 := Aside0.mk (rb HO451.out hb)
     replace HO454 := Aside0.mk (rb HO454.out hb)
     replace HO459 := Aside0.mk (rb HO459.out hb)
     replace HO462 := Aside0.mk (rb HO462.out hb)
     replace BK434 := Aside0.mk (bb BK434.out hb)
     replace BK448 := Aside0.mk (bb BK448.out hb)
     replace BK456 := Aside0.mk (bb BK456.out hb)
     replace HB := Aside0.mk (below_step (by exact jB HB.out) hb)
     (try clear hb)
     (try clear hb2)
     (try clear hk)
     (try clear hi)
     refine hK.out _ _ ⟨(blk_cell BK456.out 0).trans rfl, (blk_cell BK456.out 1).trans rfl, (blk_cell BK456.out 2).trans rfl, (blk_cell BK434.out 0).trans rfl, (blk_cell BK434.out 1).trans rfl, (blk_cell BK434.out 2).trans rfl⟩ (fun hHeld => ?_)
     clear hK K
     refine norm_ (a' := ?_) ?_ ?_
     rotate_left
     ·show Act.put _ (some 46) _ = _
      simp only [Act.put, sA, s0, sS, i64_w, i32_w]
      rfl
     refine pure_ (i := 5) (N := some 47) (v := ?_) (a' := ?_) #[true, true, true, true, true, true] rfl rfl (by kernel_rfl) (fun _ _ _ h => h) (Or.inl ⟨by rfl, ?_⟩) ?_ ?_
     rotate_left
     ·intro w'
      go_simp
      with_reducible rfl
     rotate_left
     ·simp only [Act.put, sA, s0, sS, i64_w, i32_w]
      rfl
     refine done_ (by kernel_rfl) ?_
     go_upto_region 9 with (first | ((with_reducible refine gate_callee (f := 10) rfl ?_); refine goesL_ (some 48) rfl rfl Try.func10 (by kernel_rfl) rfl #[.int .i64 0] rfl (by (try simp only [mA, mC, mN]); first | done | rfl | (simp only [ld, lt]; rfl)) ?_; (with_reducible refine (impl_FrmPot.calls 0 t465 t468 t471 _ A12.out).mono ?_); rintro e w42 ⟨v466, v469, rfl, ho0, ho1, hb⟩; refine ⟨_, rfl, ?_⟩; replace HO433 := Aside0.mk (Kd.N_mono (Kd.N_told (Kd.N_told (Kd.N_old (by (with_reducible repeat (first | apply Kd.N_alloc | apply Kd.N_drewN | apply Kd.N_drew)); exact HO433.out) hb) (Kd.R_base ho0)) (Kd.R_base ho1)) (fun _ h_ => h_.1)); have HO467 := Aside0.mk (Kd.R_lower (Kd.R_new' (Kd.R_new' (Kd.R_new' (Kd.R_new' (Kd.R_new' (Kd.R_new' (Kd.R_new' (Kd.R_new' (Kd.R_new' (Kd.R_new' ho0 (rl HO426.out)) (rl HO429.out)) (rl HO437.out)) (rl HO440.out)) (rl HO444.out)) (rl HO447.out)) (rl HO451.out)) (rl HO454.out)) (rl HO459.out)) (rl HO462.out)) (below_size (by exact jB HB.out))); have HO470 := Aside0.mk (Kd.R_lower (Kd.R_new' (Kd.R_new' (Kd.R_new' (Kd.R_new' (Kd.R_new' (Kd.R_new' (Kd.R_new' (Kd.R_new' (Kd.R_new' (Kd.R_new' ho1 (rl HO426.out)) (rl HO429.out)) (rl HO437.out)) (rl HO440.out)) (rl HO444.out)) (rl HO447.out)) (rl HO451.out)) (rl HO454.out)) (rl HO459.out)) (rl HO462.out)) (below_size (by exact jB HB.out))); replace HO426 := Aside0.mk (o2 HO426.out hb ho0 ho1); replace HO429 := Aside0.mk (o2 HO429.out hb ho0 ho1); replace HO437 := Aside0.mk (o2 HO437.out hb ho0 ho1); replace HO440 := Aside0.mk (o2 HO440.out hb ho0 ho1); replace HO444 := Aside0.mk (o2 HO444.out hb ho0 ho1); replace HO447 := Aside0.mk (o2 HO447.out hb ho0 ho1); replace HO451 := Aside0.mk (o2 HO451.out hb ho0 ho1); replace HO454 := Aside0.mk (o2 HO454.out hb ho0 ho1); replace HO459 := Aside0.mk (o2 HO459.out hb ho0 ho1); replace HO462 := Aside0.mk (o2 HO462.out hb ho0 ho1); replace BK434 := Aside0.mk (bb BK434.out hb); replace BK448 := Aside0.mk (bb BK448.out hb); replace BK456 := Aside0.mk (bb BK456.out hb); replace HB := Aside0.mk (below_step (by exact jB HB.out) hb); (try clear hb); (try clear hb2); (try clear hk); (try clear hi); (try clear ho0); (try clear ho1)) | ((with_reducible refine gate_callee (f := 10) rfl ?_); refine goesL_ (some 49) rfl rfl Try.func10 (by kernel_rfl) rfl #[.int .i64 1] rfl (by (try simp only [mA, mC, mN]); first | done | rfl | (simp only [ld, lt]; rfl)) ?_; (with_reducible refine (impl_FrmPot.calls 1 t472 t475 t478 _ A13.out).mono ?_); rintro e w43 ⟨v473, v476, rfl, ho0, ho1, hb⟩; refine ⟨_, rfl, ?_⟩; replace HO433 := Aside0.mk (Kd.N_mono (Kd.N_told (Kd.N_told (Kd.N_old (by (with_reducible repeat (first | apply Kd.N_alloc | apply Kd.N_drewN | apply Kd.N_drew)); exact HO433.out) hb) (Kd.R_base ho0)) (Kd.R_base ho1)) (fun _ h_ => h_.1)); have HO474 := Aside0.mk (Kd.R_lower (Kd.R_new' (Kd.R_new' (Kd.R_new' (Kd.R_new' (Kd.R_new' (Kd.R_new' (Kd.R_new' (Kd.R_new' (Kd.R_new' (Kd.R_new' (Kd.R_new' (Kd.R_new' ho0 (rl HO426.out)) (rl HO429.out)) (rl HO437.out)) (rl HO440.out)) (rl HO444.out)) (rl HO447.out)) (rl HO451.out)) (rl HO454.out)) (rl HO459.out)) (rl HO462.out)) (rl HO467.out)) (rl HO470.out)) (below_size (by exact jB HB.out))); have HO477 := Aside0.mk (Kd.R_lower (Kd.R_new' (Kd.R_new' (Kd.R_new' (Kd.R_new' (Kd.R_new' (Kd.R_new' (Kd.R_new' (Kd.R_new' (Kd.R_new' (Kd.R_new' (Kd.R_new' (Kd.R_new' ho1 (rl HO426.out)) (rl HO429.out)) (rl HO437.out)) (rl HO440.out)) (rl HO444.out)) (rl HO447.out)) (rl HO451.out)) (rl HO454.out)) (rl HO459.out)) (rl HO462.out)) (rl HO467.out)) (rl HO470.out)) (below_size (by exact jB HB.out))); replace HO426 := Aside0.mk (o2 HO426.out hb ho0 ho1); replace HO429 := Aside0.mk (o2 HO429.out hb ho0 ho1); replace HO437 := Aside0.mk (o2 HO437.out hb ho0 ho1); replace HO440 := Aside0.mk (o2 HO440.out hb ho0 ho1); replace HO444 := Aside0.mk (o2 HO444.out hb ho0 ho1); replace HO447 := Aside0.mk (o2 HO447.out hb ho0 ho1); replace HO451 := Aside0.mk (o2 HO451.out hb ho0 ho1); replace HO454 := Aside0.mk (o2 HO454.out hb ho0 ho1); replace HO459 := Aside0.mk (o2 HO459.out hb ho0 ho1); replace HO462 := Aside0.mk (o2 HO462.out hb ho0 ho1); replace HO467 := Aside0.mk (o2 HO467.out hb ho0 ho1); replace HO470 := Aside0.mk (o2 HO470.out hb ho0 ho1); replace BK434 := Aside0.mk (bb BK434.out hb); replace BK448 := Aside0.mk (bb BK448.out hb); replace BK456 := Aside0.mk (bb BK456.out hb); replace HB := Aside0.mk (below_step (by exact jB HB.out) hb); (try clear hb); (try clear hb2); (try clear hk); (try clear hi); (try clear ho0); (try clear ho1)) | ((with_reducible refine gate_callee (f := 10) rfl ?_); refine goesL_ (some 50) rfl rfl Try.func10 (by kernel_rfl) rfl #[.int .i64 2] rfl (by (try simp only [mA, mC, mN]); first | done | rfl | (simp only [ld, lt]; rfl)) ?_; (with_reducible refine (impl_FrmPot.calls 2 t479 t482 t485 _ A14.out).mono ?_); rintro e w44 ⟨v480, v483, rfl, ho0, ho1, hb⟩; refine ⟨_, rfl, ?_⟩; replace HO433 := Aside0.mk (Kd.N_mono (Kd.N_told (Kd.N_told (Kd.N_old (by (with_reducible repeat (first | apply Kd.N_alloc | apply Kd.N_drewN | apply Kd.N_drew)); exact HO433.out) hb) (Kd.R_base ho0)) (Kd.R_base ho1)) (fun _ h_ => h_.1)); have HO481 := Aside0.mk (Kd.R_lower (Kd.R_new' (Kd.R_new' (Kd.R_new' (Kd.R_new' (Kd.R_new' (Kd.R_new' (Kd.R_new' (Kd.R_new' (Kd.R_new' (Kd.R_new' (Kd.R_new' (Kd.R_new' (Kd.R_new' (Kd.R_new' ho0 (rl HO426.out)) (rl HO429.out)) (rl HO437.out)) (rl HO440.out)) (rl HO444.out)) (rl HO447.out)) (rl HO451.out)) (rl HO454.out)) (rl HO459.out)) (rl HO462.out)) (rl HO467.out)) (rl HO470.out)) (rl HO474.out)) (rl HO477.out)) (below_size (by exact jB HB.out))); have HO484 := Aside0.mk (Kd.R_lower (Kd.R_new' (Kd.R_new' (Kd.R_new' (Kd.R_new' (Kd.R_new' (Kd.R_new' (Kd.R_new' (Kd.R_new' (Kd.R_new' (Kd.R_new' (Kd.R_new' (Kd.R_new' (Kd.R_new' (Kd.R_new' ho1 (rl HO426.out)) (rl HO429.out)) (rl HO437.out)) (rl HO440.out)) (rl HO444.out)) (rl HO447.out)) (rl HO451.out)) (rl HO454.out)) (rl HO459.out)) (rl HO462.out)) (rl HO467.out)) (rl HO470.out)) (rl HO474.out)) (rl HO477.out)) (below_size (by exact jB HB.out))); replace HO426 := Aside0.mk (o2 HO426.out hb ho0 ho1); replace HO429 := Aside0.mk (o2 HO429.out hb ho0 ho1); replace HO437 := Aside0.mk (o2 HO437.out hb ho0 ho1); replace HO440 := Aside0.mk (o2 HO440.out hb ho0 ho1); replace HO444 := Aside0.mk (o2 HO444.out hb ho0 ho1); replace HO447 := Aside0.mk (o2 HO447.out hb ho0 ho1); replace HO451 := Aside0.mk (o2 HO451.out hb ho0 ho1); replace HO454 := Aside0.mk (o2 HO454.out hb ho0 ho1); replace HO459 := Aside0.mk (o2 HO459.out hb ho0 ho1); replace HO462 := Aside0.mk (o2 HO462.out hb ho0 ho1); replace HO467 := Aside0.mk (o2 HO467.out hb ho0 ho1); replace HO470 := Aside0.mk (o2 HO470.out hb ho0 ho1); replace HO474 := Aside0.mk (o2 HO474.out hb ho0 ho1); replace HO477 := Aside0.mk (o2 HO477.out hb ho0 ho1); replace BK434 := Aside0.mk (bb BK434.out hb); replace BK448 := Aside0.mk (bb BK448.out hb); replace BK456 := Aside0.mk (bb BK456.out hb); replace HB := Aside0.mk (below_step (by exact jB HB.out) hb); (try clear hb); (try clear hb2); (try clear hk); (try clear hi); (try clear ho0); (try clear ho1); obtain ⟨Ao45, co45, eo45⟩ := Kd.R_slice HO467.out; subst eo45; obtain ⟨Ao46, co46, eo46⟩ := Kd.R_slice HO470.out; subst eo46; obtain ⟨Ao47, co47, eo47⟩ := Kd.R_slice HO474.out; subst eo47; obtain ⟨Ao48, co48, eo48⟩ := Kd.R_slice HO477.out; subst eo48; obtain ⟨Ao49, co49, eo49⟩ := Kd.R_slice HO481.out; subst eo49; obtain ⟨Ao50, co50, eo50⟩ := Kd.R_slice HO484.out; subst eo50) | ((with_reducible refine gate_dst (N := 51) rfl ?_); (try (refine gate_guard (by rfl) ?_; dsimp only)); refine Kd.N_lit k25 _ 25 ?hg (N' := 51) ?hd (xs := ([(⟨t465, t468, t471⟩ : S25), (⟨t472, t475, t478⟩ : S25), (⟨t479, t482, t485⟩ : S25)] : List (S25))) (inner := [.slice Ao45 t465.length co45, .slice Ao46 t468.length co46, .int .i64 t471, .slice Ao47 t472.length co47, .slice Ao48 t475.length co48, .int .i64 t478, .slice Ao49 t479.length co49, .slice Ao50 t482.length co50, .int .i64 t485]) (ok := (fun k_ => some k_ ≠ (.slice Ao18 t424.length co18 : Value).ownBlock ∧ some k_ ≠ (.slice Ao20 t427.length co20 : Value).ownBlock ∧ some k_ ≠ (.slice Ao28 t431.length co28 : Value).ownBlock ∧ some k_ ≠ (.slice Ao23 t435.length co23 : Value).ownBlock ∧ some k_ ≠ (.slice Ao26 t438.length co26 : Value).ownBlock ∧ some k_ ≠ (v443 : Value).ownBlock ∧ some k_ ≠ (v446 : Value).ownBlock ∧ some k_ ≠ (.slice Ao31 t449.length co31 : Value).ownBlock ∧ some k_ ≠ (.slice Ao35 t452.length co35 : Value).ownBlock ∧ some k_ ≠ (.slice Ao39 t457.length co39 : Value).ownBlock ∧ some k_ ≠ (.slice Ao40 t460.length co40 : Value).ownBlock ∧ k_ ≠ gb434 ∧ k_ ≠ gb448 ∧ k_ ≠ gb456)) (okp := (fun k_ => some k_ ≠ (.slice Ao18 t424.length co18 : Value).ownBlock ∧ some k_ ≠ (.slice Ao20 t427.length co20 : Value).ownBlock ∧ some k_ ≠ (.slice Ao28 t431.length co28 : Value).ownBlock ∧ some k_ ≠ (.slice Ao23 t435.length co23 : Value).ownBlock ∧ some k_ ≠ (.slice Ao26 t438.length co26 : Value).ownBlock ∧ some k_ ≠ (v443 : Value).ownBlock ∧ some k_ ≠ (v446 : Value).ownBlock ∧ some k_ ≠ (.slice Ao31 t449.length co31 : Value).ownBlock ∧ some k_ ≠ (.slice Ao35 t452.length co35 : Value).ownBlock ∧ some k_ ≠ (.slice Ao39 t457.length co39 : Value).ownBlock ∧ some k_ ≠ (.slice Ao40 t460.length co40 : Value).ownBlock ∧ k_ ≠ gb434 ∧ k_ ≠ gb448 ∧ k_ ≠ gb456)) ?hr ?hp (fun _ hk => hk) ((show ∀ k_, w44.heap.size ≤ k_ → (fun k_ => some k_ ≠ (.slice Ao18 t424.length co18 : Value).ownBlock ∧ some k_ ≠ (.slice Ao20 t427.length co20 : Value).ownBlock ∧ some k_ ≠ (.slice Ao28 t431.length co28 : Value).ownBlock ∧ some k_ ≠ (.slice Ao23 t435.length co23 : Value).ownBlock ∧ some k_ ≠ (.slice Ao26 t438.length co26 : Value).ownBlock ∧ some k_ ≠ (v443 : Value).ownBlock ∧ some k_ ≠ (v446 : Value).ownBlock ∧ some k_ ≠ (.slice Ao31 t449.length co31 : Value).ownBlock ∧ some k_ ≠ (.slice Ao35 t452.length co35 : Value).ownBlock ∧ some k_ ≠ (.slice Ao39 t457.length co39 : Value).ownBlock ∧ some k_ ≠ (.slice Ao40 t460.length co40 : Value).ownBlock ∧ k_ ≠ gb434 ∧ k_ ≠ gb448 ∧ k_ ≠ gb456) k_ from fun k_ hk => ⟨Kd.fresh' (rl HO426.out) k_ hk, Kd.fresh' (rl HO429.out) k_ hk, Kd.fresh' (Kd.N_lt (by (with_reducible repeat (first | apply Kd.N_alloc | apply Kd.N_drewN | apply Kd.N_drew)); exact HO433.out)) k_ hk, Kd.fresh' (rl HO437.out) k_ hk, Kd.fresh' (rl HO440.out) k_ hk, Kd.fresh' (rl HO444.out) k_ hk, Kd.fresh' (rl HO447.out) k_ hk, Kd.fresh' (rl HO451.out) k_ hk, Kd.fresh' (rl HO454.out) k_ hk, Kd.fresh' (rl HO459.out) k_ hk, Kd.fresh' (rl HO462.out) k_ hk, Kd.freshB (g := gb434) (o := .cells #[.slice Ao18 t424.length co18, .slice Ao20 t427.length co20, .int .i64 t430] 25 (0, 0)) (by exact lK BK434.out) k_ hk, Kd.freshB (g := gb448) (o := .cells #[.slice Ao23 t435.length co23, .slice Ao26 t438.length co26, .int .i64 t441] 25 (0, 0)) (by exact lK BK448.out) k_ hk, Kd.freshB (g := gb456) (o := .cells #[.slice Ao31 t449.length co31, .slice Ao35 t452.length co35, .int .i64 t455] 25 (0, 0)) (by exact lK BK456.out) k_ hk⟩) _ (Nat.le_refl _)) (Below.refl _ _) (Nat.le_refl _) (by simp) ?_; (case hd => rfl); (case hg => rfl); (case hr => first | (go_simp; done) | (go_simp; rfl)); (case hp => exact (Reps.c3 (show Kd.FK k25 _ _ (⟨t465, t468, t471⟩ : S25) [.slice Ao45 t465.length co45, .slice Ao46 t468.length co46, .int .i64 t471] from (k25_mkF _ _ (⟨t465, t468, t471⟩ : S25) (Kd.R_reads' (Kd.R_mono (ok' := (fun k_ => some k_ ≠ (.slice Ao18 t424.length co18 : Value).ownBlock ∧ some k_ ≠ (.slice Ao20 t427.length co20 : Value).ownBlock ∧ some k_ ≠ (.slice Ao28 t431.length co28 : Value).ownBlock ∧ some k_ ≠ (.slice Ao23 t435.length co23 : Value).ownBlock ∧ some k_ ≠ (.slice Ao26 t438.length co26 : Value).ownBlock ∧ some k_ ≠ (v443 : Value).ownBlock ∧ some k_ ≠ (v446 : Value).ownBlock ∧ some k_ ≠ (.slice Ao31 t449.length co31 : Value).ownBlock ∧ some k_ ≠ (.slice Ao35 t452.length co35 : Value).ownBlock ∧ some k_ ≠ (.slice Ao39 t457.length co39 : Value).ownBlock ∧ some k_ ≠ (.slice Ao40 t460.length co40 : Value).ownBlock ∧ k_ ≠ gb434 ∧ k_ ≠ gb448 ∧ k_ ≠ gb456)) (Kd.R_types (Kd.R_types (Kd.R_types (Kd.R_apart' (HO467.out) (Kd.N_typed HO433.out) (show ∀ q_, q_ ∈ 3 :: ((Kd.int .i64)).E → q_ ≠ 25 from by decide)) BK434.out (by decide)) BK448.out (by decide)) BK456.out (by decide)) (fun k_ hk => ⟨hk.1.1.1.1.1.1.1.1.1.1.1.1.1.1.1.1.1.2, ⟨hk.1.1.1.1.1.1.1.1.1.1.1.1.1.1.1.1.2, ⟨hk.1.1.1.2, ⟨hk.1.1.1.1.1.1.1.1.1.1.1.1.1.1.1.2, ⟨hk.1.1.1.1.1.1.1.1.1.1.1.1.1.1.2, ⟨hk.1.1.1.1.1.1.1.1.1.1.1.1.1.2, ⟨hk.1.1.1.1.1.1.1.1.1.1.1.1.2, ⟨hk.1.1.1.1.1.1.1.1.1.1.1.2, ⟨hk.1.1.1.1.1.1.1.1.1.1.2, ⟨hk.1.1.1.1.1.1.1.1.1.2, ⟨hk.1.1.1.1.1.1.1.1.2, ⟨hk.1.1.2, ⟨hk.1.2, hk.2⟩⟩⟩⟩⟩⟩⟩⟩⟩⟩⟩⟩⟩))).2.1 (Kd.R_F (Kd.R_mono (ok' := (fun k_ => some k_ ≠ (.slice Ao18 t424.length co18 : Value).ownBlock ∧ some k_ ≠ (.slice Ao20 t427.length co20 : Value).ownBlock ∧ some k_ ≠ (.slice Ao28 t431.length co28 : Value).ownBlock ∧ some k_ ≠ (.slice Ao23 t435.length co23 : Value).ownBlock ∧ some k_ ≠ (.slice Ao26 t438.length co26 : Value).ownBlock ∧ some k_ ≠ (v443 : Value).ownBlock ∧ some k_ ≠ (v446 : Value).ownBlock ∧ some k_ ≠ (.slice Ao31 t449.length co31 : Value).ownBlock ∧ some k_ ≠ (.slice Ao35 t452.length co35 : Value).ownBlock ∧ some k_ ≠ (.slice Ao39 t457.length co39 : Value).ownBlock ∧ some k_ ≠ (.slice Ao40 t460.length co40 : Value).ownBlock ∧ k_ ≠ gb434 ∧ k_ ≠ gb448 ∧ k_ ≠ gb456)) (Kd.R_types (Kd.R_types (Kd.R_types (Kd.R_apart' (HO467.out) (Kd.N_typed HO433.out) (show ∀ q_, q_ ∈ 3 :: ((Kd.int .i64)).E → q_ ≠ 25 from by decide)) BK434.out (by decide)) BK448.out (by decide)) BK456.out (by decide)) (fun k_ hk => ⟨hk.1.1.1.1.1.1.1.1.1.1.1.1.1.1.1.1.1.2, ⟨hk.1.1.1.1.1.1.1.1.1.1.1.1.1.1.1.1.2, ⟨hk.1.1.1.2, ⟨hk.1.1.1.1.1.1.1.1.1.1.1.1.1.1.1.2, ⟨hk.1.1.1.1.1.1.1.1.1.1.1.1.1.1.2, ⟨hk.1.1.1.1.1.1.1.1.1.1.1.1.1.2, ⟨hk.1.1.1.1.1.1.1.1.1.1.1.1.2, ⟨hk.1.1.1.1.1.1.1.1.1.1.1.2, ⟨hk.1.1.1.1.1.1.1.1.1.1.2, ⟨hk.1.1.1.1.1.1.1.1.1.2, ⟨hk.1.1.1.1.1.1.1.1.2, ⟨hk.1.1.2, ⟨hk.1.2, hk.2⟩⟩⟩⟩⟩⟩⟩⟩⟩⟩⟩⟩⟩))) (Kd.R_reads' (Kd.R_mono (ok' := (fun k_ => some k_ ≠ (.slice Ao18 t424.length co18 : Value).ownBlock ∧ some k_ ≠ (.slice Ao20 t427.length co20 : Value).ownBlock ∧ some k_ ≠ (.slice Ao28 t431.length co28 : Value).ownBlock ∧ some k_ ≠ (.slice Ao23 t435.length co23 : Value).ownBlock ∧ some k_ ≠ (.slice Ao26 t438.length co26 : Value).ownBlock ∧ some k_ ≠ (v443 : Value).ownBlock ∧ some k_ ≠ (v446 : Value).ownBlock ∧ some k_ ≠ (.slice Ao31 t449.length co31 : Value).ownBlock ∧ some k_ ≠ (.slice Ao35 t452.length co35 : Value).ownBlock ∧ some k_ ≠ (.slice Ao39 t457.length co39 : Value).ownBlock ∧ some k_ ≠ (.slice Ao40 t460.length co40 : Value).ownBlock ∧ k_ ≠ gb434 ∧ k_ ≠ gb448 ∧ k_ ≠ gb456)) (Kd.R_types (Kd.R_types (Kd.R_types (Kd.R_apart' (HO470.out) (Kd.N_typed HO433.out) (show ∀ q_, q_ ∈ 3 :: ((Kd.int .i64)).E → q_ ≠ 25 from by decide)) BK434.out (by decide)) BK448.out (by decide)) BK456.out (by decide)) (fun k_ hk => ⟨hk.1.1.1.1.1.1.1.1.1.1.1.1.1.1.1.1.1.2, ⟨hk.1.1.1.1.1.1.1.1.1.1.1.1.1.1.1.1.2, ⟨hk.1.1.1.2, ⟨hk.1.1.1.1.1.1.1.1.1.1.1.1.1.1.1.2, ⟨hk.1.1.1.1.1.1.1.1.1.1.1.1.1.1.2, ⟨hk.1.1.1.1.1.1.1.1.1.1.1.1.1.2, ⟨hk.1.1.1.1.1.1.1.1.1.1.1.1.2, ⟨hk.1.1.1.1.1.1.1.1.1.1.1.2, ⟨hk.1.1.1.1.1.1.1.1.1.1.2, ⟨hk.1.1.1.1.1.1.1.1.1.2, ⟨hk.1.1.1.1.1.1.1.1.2, ⟨hk.1.1.2, ⟨hk.1.2, hk.2⟩⟩⟩⟩⟩⟩⟩⟩⟩⟩⟩⟩⟩))).2.1 (Kd.R_F (Kd.R_mono (ok' := (fun k_ => some k_ ≠ (.slice Ao18 t424.length co18 : Value).ownBlock ∧ some k_ ≠ (.slice Ao20 t427.length co20 : Value).ownBlock ∧ some k_ ≠ (.slice Ao28 t431.length co28 : Value).ownBlock ∧ some k_ ≠ (.slice Ao23 t435.length co23 : Value).ownBlock ∧ some k_ ≠ (.slice Ao26 t438.length co26 : Value).ownBlock ∧ some k_ ≠ (v443 : Value).ownBlock ∧ some k_ ≠ (v446 : Value).ownBlock ∧ some k_ ≠ (.slice Ao31 t449.length co31 : Value).ownBlock ∧ some k_ ≠ (.slice Ao35 t452.length co35 : Value).ownBlock ∧ some k_ ≠ (.slice Ao39 t457.length co39 : Value).ownBlock ∧ some k_ ≠ (.slice Ao40 t460.length co40 : Value).ownBlock ∧ k_ ≠ gb434 ∧ k_ ≠ gb448 ∧ k_ ≠ gb456)) (Kd.R_types (Kd.R_types (Kd.R_types (Kd.R_apart' (HO470.out) (Kd.N_typed HO433.out) (show ∀ q_, q_ ∈ 3 :: ((Kd.int .i64)).E → q_ ≠ 25 from by decide)) BK434.out (by decide)) BK448.out (by decide)) BK456.out (by decide)) (fun k_ hk => ⟨hk.1.1.1.1.1.1.1.1.1.1.1.1.1.1.1.1.1.2, ⟨hk.1.1.1.1.1.1.1.1.1.1.1.1.1.1.1.1.2, ⟨hk.1.1.1.2, ⟨hk.1.1.1.1.1.1.1.1.1.1.1.1.1.1.1.2, ⟨hk.1.1.1.1.1.1.1.1.1.1.1.1.1.1.2, ⟨hk.1.1.1.1.1.1.1.1.1.1.1.1.1.2, ⟨hk.1.1.1.1.1.1.1.1.1.1.1.1.2, ⟨hk.1.1.1.1.1.1.1.1.1.1.1.2, ⟨hk.1.1.1.1.1.1.1.1.1.1.2, ⟨hk.1.1.1.1.1.1.1.1.1.2, ⟨hk.1.1.1.1.1.1.1.1.2, ⟨hk.1.1.2, ⟨hk.1.2, hk.2⟩⟩⟩⟩⟩⟩⟩⟩⟩⟩⟩⟩⟩))))) (Reps.c3 (show Kd.FK k25 _ _ (⟨t472, t475, t478⟩ : S25) [.slice Ao47 t472.length co47, .slice Ao48 t475.length co48, .int .i64 t478] from (k25_mkF _ _ (⟨t472, t475, t478⟩ : S25) (Kd.R_reads' (Kd.R_mono (ok' := (fun k_ => some k_ ≠ (.slice Ao18 t424.length co18 : Value).ownBlock ∧ some k_ ≠ (.slice Ao20 t427.length co20 : Value).ownBlock ∧ some k_ ≠ (.slice Ao28 t431.length co28 : Value).ownBlock ∧ some k_ ≠ (.slice Ao23 t435.length co23 : Value).ownBlock ∧ some k_ ≠ (.slice Ao26 t438.length co26 : Value).ownBlock ∧ some k_ ≠ (v443 : Value).ownBlock ∧ some k_ ≠ (v446 : Value).ownBlock ∧ some k_ ≠ (.slice Ao31 t449.length co31 : Value).ownBlock ∧ some k_ ≠ (.slice Ao35 t452.length co35 : Value).ownBlock ∧ some k_ ≠ (.slice Ao39 t457.length co39 : Value).ownBlock ∧ some k_ ≠ (.slice Ao40 t460.length co40 : Value).ownBlock ∧ k_ ≠ gb434 ∧ k_ ≠ gb448 ∧ k_ ≠ gb456)) (Kd.R_types (Kd.R_types (Kd.R_types (Kd.R_apart' (HO474.out) (Kd.N_typed HO433.out) (show ∀ q_, q_ ∈ 3 :: ((Kd.int .i64)).E → q_ ≠ 25 from by decide)) BK434.out (by decide)) BK448.out (by decide)) BK456.out (by decide)) (fun k_ hk => ⟨hk.1.1.1.1.1.1.1.1.1.1.1.1.1.1.1.1.1.2, ⟨hk.1.1.1.1.1.1.1.1.1.1.1.1.1.1.1.1.2, ⟨hk.1.1.1.2, ⟨hk.1.1.1.1.1.1.1.1.1.1.1.1.1.1.1.2, ⟨hk.1.1.1.1.1.1.1.1.1.1.1.1.1.1.2, ⟨hk.1.1.1.1.1.1.1.1.1.1.1.1.1.2, ⟨hk.1.1.1.1.1.1.1.1.1.1.1.1.2, ⟨hk.1.1.1.1.1.1.1.1.1.1.1.2, ⟨hk.1.1.1.1.1.1.1.1.1.1.2, ⟨hk.1.1.1.1.1.1.1.1.1.2, ⟨hk.1.1.1.1.1.1.1.1.2, ⟨hk.1.1.2, ⟨hk.1.2, hk.2⟩⟩⟩⟩⟩⟩⟩⟩⟩⟩⟩⟩⟩))).2.1 (Kd.R_F (Kd.R_mono (ok' := (fun k_ => some k_ ≠ (.slice Ao18 t424.length co18 : Value).ownBlock ∧ some k_ ≠ (.slice Ao20 t427.length co20 : Value).ownBlock ∧ some k_ ≠ (.slice Ao28 t431.length co28 : Value).ownBlock ∧ some k_ ≠ (.slice Ao23 t435.length co23 : Value).ownBlock ∧ some k_ ≠ (.slice Ao26 t438.length co26 : Value).ownBlock ∧ some k_ ≠ (v443 : Value).ownBlock ∧ some k_ ≠ (v446 : Value).ownBlock ∧ some k_ ≠ (.slice Ao31 t449.length co31 : Value).ownBlock ∧ some k_ ≠ (.slice Ao35 t452.length co35 : Value).ownBlock ∧ some k_ ≠ (.slice Ao39 t457.length co39 : Value).ownBlock ∧ some k_ ≠ (.slice Ao40 t460.length co40 : Value).ownBlock ∧ k_ ≠ gb434 ∧ k_ ≠ gb448 ∧ k_ ≠ gb456)) (Kd.R_types (Kd.R_types (Kd.R_types (Kd.R_apart' (HO474.out) (Kd.N_typed HO433.out) (show ∀ q_, q_ ∈ 3 :: ((Kd.int .i64)).E → q_ ≠ 25 from by decide)) BK434.out (by decide)) BK448.out (by decide)) BK456.out (by decide)) (fun k_ hk => ⟨hk.1.1.1.1.1.1.1.1.1.1.1.1.1.1.1.1.1.2, ⟨hk.1.1.1.1.1.1.1.1.1.1.1.1.1.1.1.1.2, ⟨hk.1.1.1.2, ⟨hk.1.1.1.1.1.1.1.1.1.1.1.1.1.1.1.2, ⟨hk.1.1.1.1.1.1.1.1.1.1.1.1.1.1.2, ⟨hk.1.1.1.1.1.1.1.1.1.1.1.1.1.2, ⟨hk.1.1.1.1.1.1.1.1.1.1.1.1.2, ⟨hk.1.1.1.1.1.1.1.1.1.1.1.2, ⟨hk.1.1.1.1.1.1.1.1.1.1.2, ⟨hk.1.1.1.1.1.1.1.1.1.2, ⟨hk.1.1.1.1.1.1.1.1.2, ⟨hk.1.1.2, ⟨hk.1.2, hk.2⟩⟩⟩⟩⟩⟩⟩⟩⟩⟩⟩⟩⟩))) (Kd.R_reads' (Kd.R_mono (ok' := (fun k_ => some k_ ≠ (.slice Ao18 t424.length co18 : Value).ownBlock ∧ some k_ ≠ (.slice Ao20 t427.length co20 : Value).ownBlock ∧ some k_ ≠ (.slice Ao28 t431.length co28 : Value).ownBlock ∧ some k_ ≠ (.slice Ao23 t435.length co23 : Value).ownBlock ∧ some k_ ≠ (.slice Ao26 t438.length co26 : Value).ownBlock ∧ some k_ ≠ (v443 : Value).ownBlock ∧ some k_ ≠ (v446 : Value).ownBlock ∧ some k_ ≠ (.slice Ao31 t449.length co31 : Value).ownBlock ∧ some k_ ≠ (.slice Ao35 t452.length co35 : Value).ownBlock ∧ some k_ ≠ (.slice Ao39 t457.length co39 : Value).ownBlock ∧ some k_ ≠ (.slice Ao40 t460.length co40 : Value).ownBlock ∧ k_ ≠ gb434 ∧ k_ ≠ gb448 ∧ k_ ≠ gb456)) (Kd.R_types (Kd.R_types (Kd.R_types (Kd.R_apart' (HO477.out) (Kd.N_typed HO433.out) (show ∀ q_, q_ ∈ 3 :: ((Kd.int .i64)).E → q_ ≠ 25 from by decide)) BK434.out (by decide)) BK448.out (by decide)) BK456.out (by decide)) (fun k_ hk => ⟨hk.1.1.1.1.1.1.1.1.1.1.1.1.1.1.1.1.1.2, ⟨hk.1.1.1.1.1.1.1.1.1.1.1.1.1.1.1.1.2, ⟨hk.1.1.1.2, ⟨hk.1.1.1.1.1.1.1.1.1.1.1.1.1.1.1.2, ⟨hk.1.1.1.1.1.1.1.1.1.1.1.1.1.1.2, ⟨hk.1.1.1.1.1.1.1.1.1.1.1.1.1.2, ⟨hk.1.1.1.1.1.1.1.1.1.1.1.1.2, ⟨hk.1.1.1.1.1.1.1.1.1.1.1.2, ⟨hk.1.1.1.1.1.1.1.1.1.1.2, ⟨hk.1.1.1.1.1.1.1.1.1.2, ⟨hk.1.1.1.1.1.1.1.1.2, ⟨hk.1.1.2, ⟨hk.1.2, hk.2⟩⟩⟩⟩⟩⟩⟩⟩⟩⟩⟩⟩⟩))).2.1 (Kd.R_F (Kd.R_mono (ok' := (fun k_ => some k_ ≠ (.slice Ao18 t424.length co18 : Value).ownBlock ∧ some k_ ≠ (.slice Ao20 t427.length co20 : Value).ownBlock ∧ some k_ ≠ (.slice Ao28 t431.length co28 : Value).ownBlock ∧ some k_ ≠ (.slice Ao23 t435.length co23 : Value).ownBlock ∧ some k_ ≠ (.slice Ao26 t438.length co26 : Value).ownBlock ∧ some k_ ≠ (v443 : Value).ownBlock ∧ some k_ ≠ (v446 : Value).ownBlock ∧ some k_ ≠ (.slice Ao31 t449.length co31 : Value).ownBlock ∧ some k_ ≠ (.slice Ao35 t452.length co35 : Value).ownBlock ∧ some k_ ≠ (.slice Ao39 t457.length co39 : Value).ownBlock ∧ some k_ ≠ (.slice Ao40 t460.length co40 : Value).ownBlock ∧ k_ ≠ gb434 ∧ k_ ≠ gb448 ∧ k_ ≠ gb456)) (Kd.R_types (Kd.R_types (Kd.R_types (Kd.R_apart' (HO477.out) (Kd.N_typed HO433.out) (show ∀ q_, q_ ∈ 3 :: ((Kd.int .i64)).E → q_ ≠ 25 from by decide)) BK434.out (by decide)) BK448.out (by decide)) BK456.out (by decide)) (fun k_ hk => ⟨hk.1.1.1.1.1.1.1.1.1.1.1.1.1.1.1.1.1.2, ⟨hk.1.1.1.1.1.1.1.1.1.1.1.1.1.1.1.1.2, ⟨hk.1.1.1.2, ⟨hk.1.1.1.1.1.1.1.1.1.1.1.1.1.1.1.2, ⟨hk.1.1.1.1.1.1.1.1.1.1.1.1.1.1.2, ⟨hk.1.1.1.1.1.1.1.1.1.1.1.1.1.2, ⟨hk.1.1.1.1.1.1.1.1.1.1.1.1.2, ⟨hk.1.1.1.1.1.1.1.1.1.1.1.2, ⟨hk.1.1.1.1.1.1.1.1.1.1.2, ⟨hk.1.1.1.1.1.1.1.1.1.2, ⟨hk.1.1.1.1.1.1.1.1.2, ⟨hk.1.1.2, ⟨hk.1.2, hk.2⟩⟩⟩⟩⟩⟩⟩⟩⟩⟩⟩⟩⟩))))) (Reps.c3 (show Kd.FK k25 _ _ (⟨t479, t482, t485⟩ : S25) [.slice Ao49 t479.length co49, .slice Ao50 t482.length co50, .int .i64 t485] from (k25_mkF _ _ (⟨t479, t482, t485⟩ : S25) (Kd.R_reads' (Kd.R_mono (ok' := (fun k_ => some k_ ≠ (.slice Ao18 t424.length co18 : Value).ownBlock ∧ some k_ ≠ (.slice Ao20 t427.length co20 : Value).ownBlock ∧ some k_ ≠ (.slice Ao28 t431.length co28 : Value).ownBlock ∧ some k_ ≠ (.slice Ao23 t435.length co23 : Value).ownBlock ∧ some k_ ≠ (.slice Ao26 t438.length co26 : Value).ownBlock ∧ some k_ ≠ (v443 : Value).ownBlock ∧ some k_ ≠ (v446 : Value).ownBlock ∧ some k_ ≠ (.slice Ao31 t449.length co31 : Value).ownBlock ∧ some k_ ≠ (.slice Ao35 t452.length co35 : Value).ownBlock ∧ some k_ ≠ (.slice Ao39 t457.length co39 : Value).ownBlock ∧ some k_ ≠ (.slice Ao40 t460.length co40 : Value).ownBlock ∧ k_ ≠ gb434 ∧ k_ ≠ gb448 ∧ k_ ≠ gb456)) (Kd.R_types (Kd.R_types (Kd.R_types (Kd.R_apart' (HO481.out) (Kd.N_typed HO433.out) (show ∀ q_, q_ ∈ 3 :: ((Kd.int .i64)).E → q_ ≠ 25 from by decide)) BK434.out (by decide)) BK448.out (by decide)) BK456.out (by decide)) (fun k_ hk => ⟨hk.1.1.1.1.1.1.1.1.1.1.1.1.1.1.1.1.1.2, ⟨hk.1.1.1.1.1.1.1.1.1.1.1.1.1.1.1.1.2, ⟨hk.1.1.1.2, ⟨hk.1.1.1.1.1.1.1.1.1.1.1.1.1.1.1.2, ⟨hk.1.1.1.1.1.1.1.1.1.1.1.1.1.1.2, ⟨hk.1.1.1.1.1.1.1.1.1.1.1.1.1.2, ⟨hk.1.1.1.1.1.1.1.1.1.1.1.1.2, ⟨hk.1.1.1.1.1.1.1.1.1.1.1.2, ⟨hk.1.1.1.1.1.1.1.1.1.1.2, ⟨hk.1.1.1.1.1.1.1.1.1.2, ⟨hk.1.1.1.1.1.1.1.1.2, ⟨hk.1.1.2, ⟨hk.1.2, hk.2⟩⟩⟩⟩⟩⟩⟩⟩⟩⟩⟩⟩⟩))).2.1 (Kd.R_F (Kd.R_mono (ok' := (fun k_ => some k_ ≠ (.slice Ao18 t424.length co18 : Value).ownBlock ∧ some k_ ≠ (.slice Ao20 t427.length co20 : Value).ownBlock ∧ some k_ ≠ (.slice Ao28 t431.length co28 : Value).ownBlock ∧ some k_ ≠ (.slice Ao23 t435.length co23 : Value).ownBlock ∧ some k_ ≠ (.slice Ao26 t438.length co26 : Value).ownBlock ∧ some k_ ≠ (v443 : Value).ownBlock ∧ some k_ ≠ (v446 : Value).ownBlock ∧ some k_ ≠ (.slice Ao31 t449.length co31 : Value).ownBlock ∧ some k_ ≠ (.slice Ao35 t452.length co35 : Value).ownBlock ∧ some k_ ≠ (.slice Ao39 t457.length co39 : Value).ownBlock ∧ some k_ ≠ (.slice Ao40 t460.length co40 : Value).ownBlock ∧ k_ ≠ gb434 ∧ k_ ≠ gb448 ∧ k_ ≠ gb456)) (Kd.R_types (Kd.R_types (Kd.R_types (Kd.R_apart' (HO481.out) (Kd.N_typed HO433.out) (show ∀ q_, q_ ∈ 3 :: ((Kd.int .i64)).E → q_ ≠ 25 from by decide)) BK434.out (by decide)) BK448.out (by decide)) BK456.out (by decide)) (fun k_ hk => ⟨hk.1.1.1.1.1.1.1.1.1.1.1.1.1.1.1.1.1.2, ⟨hk.1.1.1.1.1.1.1.1.1.1.1.1.1.1.1.1.2, ⟨hk.1.1.1.2, ⟨hk.1.1.1.1.1.1.1.1.1.1.1.1.1.1.1.2, ⟨hk.1.1.1.1.1.1.1.1.1.1.1.1.1.1.2, ⟨hk.1.1.1.1.1.1.1.1.1.1.1.1.1.2, ⟨hk.1.1.1.1.1.1.1.1.1.1.1.1.2, ⟨hk.1.1.1.1.1.1.1.1.1.1.1.2, ⟨hk.1.1.1.1.1.1.1.1.1.1.2, ⟨hk.1.1.1.1.1.1.1.1.1.2, ⟨hk.1.1.1.1.1.1.1.1.2, ⟨hk.1.1.2, ⟨hk.1.2, hk.2⟩⟩⟩⟩⟩⟩⟩⟩⟩⟩⟩⟩⟩))) (Kd.R_reads' (Kd.R_mono (ok' := (fun k_ => some k_ ≠ (.slice Ao18 t424.length co18 : Value).ownBlock ∧ some k_ ≠ (.slice Ao20 t427.length co20 : Value).ownBlock ∧ some k_ ≠ (.slice Ao28 t431.length co28 : Value).ownBlock ∧ some k_ ≠ (.slice Ao23 t435.length co23 : Value).ownBlock ∧ some k_ ≠ (.slice Ao26 t438.length co26 : Value).ownBlock ∧ some k_ ≠ (v443 : Value).ownBlock ∧ some k_ ≠ (v446 : Value).ownBlock ∧ some k_ ≠ (.slice Ao31 t449.length co31 : Value).ownBlock ∧ some k_ ≠ (.slice Ao35 t452.length co35 : Value).ownBlock ∧ some k_ ≠ (.slice Ao39 t457.length co39 : Value).ownBlock ∧ some k_ ≠ (.slice Ao40 t460.length co40 : Value).ownBlock ∧ k_ ≠ gb434 ∧ k_ ≠ gb448 ∧ k_ ≠ gb456)) (Kd.R_types (Kd.R_types (Kd.R_types (Kd.R_apart' (HO484.out) (Kd.N_typed HO433.out) (show ∀ q_, q_ ∈ 3 :: ((Kd.int .i64)).E → q_ ≠ 25 from by decide)) BK434.out (by decide)) BK448.out (by decide)) BK456.out (by decide)) (fun k_ hk => ⟨hk.1.1.1.1.1.1.1.1.1.1.1.1.1.1.1.1.1.2, ⟨hk.1.1.1.1.1.1.1.1.1.1.1.1.1.1.1.1.2, ⟨hk.1.1.1.2, ⟨hk.1.1.1.1.1.1.1.1.1.1.1.1.1.1.1.2, ⟨hk.1.1.1.1.1.1.1.1.1.1.1.1.1.1.2, ⟨hk.1.1.1.1.1.1.1.1.1.1.1.1.1.2, ⟨hk.1.1.1.1.1.1.1.1.1.1.1.1.2, ⟨hk.1.1.1.1.1.1.1.1.1.1.1.2, ⟨hk.1.1.1.1.1.1.1.1.1.1.2, ⟨hk.1.1.1.1.1.1.1.1.1.2, ⟨hk.1.1.1.1.1.1.1.1.2, ⟨hk.1.1.2, ⟨hk.1.2, hk.2⟩⟩⟩⟩⟩⟩⟩⟩⟩⟩⟩⟩⟩))).2.1 (Kd.R_F (Kd.R_mono (ok' := (fun k_ => some k_ ≠ (.slice Ao18 t424.length co18 : Value).ownBlock ∧ some k_ ≠ (.slice Ao20 t427.length co20 : Value).ownBlock ∧ some k_ ≠ (.slice Ao28 t431.length co28 : Value).ownBlock ∧ some k_ ≠ (.slice Ao23 t435.length co23 : Value).ownBlock ∧ some k_ ≠ (.slice Ao26 t438.length co26 : Value).ownBlock ∧ some k_ ≠ (v443 : Value).ownBlock ∧ some k_ ≠ (v446 : Value).ownBlock ∧ some k_ ≠ (.slice Ao31 t449.length co31 : Value).ownBlock ∧ some k_ ≠ (.slice Ao35 t452.length co35 : Value).ownBlock ∧ some k_ ≠ (.slice Ao39 t457.length co39 : Value).ownBlock ∧ some k_ ≠ (.slice Ao40 t460.length co40 : Value).ownBlock ∧ k_ ≠ gb434 ∧ k_ ≠ gb448 ∧ k_ ≠ gb456)) (Kd.R_types (Kd.R_types (Kd.R_types (Kd.R_apart' (HO484.out) (Kd.N_typed HO433.out) (show ∀ q_, q_ ∈ 3 :: ((Kd.int .i64)).E → q_ ≠ 25 from by decide)) BK434.out (by decide)) BK448.out (by decide)) BK456.out (by decide)) (fun k_ hk => ⟨hk.1.1.1.1.1.1.1.1.1.1.1.1.1.1.1.1.1.2, ⟨hk.1.1.1.1.1.1.1.1.1.1.1.1.1.1.1.1.2, ⟨hk.1.1.1.2, ⟨hk.1.1.1.1.1.1.1.1.1.1.1.1.1.1.1.2, ⟨hk.1.1.1.1.1.1.1.1.1.1.1.1.1.1.2, ⟨hk.1.1.1.1.1.1.1.1.1.1.1.1.1.2, ⟨hk.1.1.1.1.1.1.1.1.1.1.1.1.2, ⟨hk.1.1.1.1.1.1.1.1.1.1.1.2, ⟨hk.1.1.1.1.1.1.1.1.1.1.2, ⟨hk.1.1.1.1.1.1.1.1.1.2, ⟨hk.1.1.1.1.1.1.1.1.2, ⟨hk.1.1.2, ⟨hk.1.2, hk.2⟩⟩⟩⟩⟩⟩⟩⟩⟩⟩⟩⟩⟩))))) (Reps.none _ _))))); intro v487 w51 ho52 hb hg_ hnew_; clear hg_ hnew_; (first | rw [← Ny486.out] at ho52 | (simp only [Int.reduceToNat] at ho52; rw [← Ny486.out] at ho52)); replace HO426 := Aside0.mk (rb HO426.out hb); replace HO429 := Aside0.mk (rb HO429.out hb); replace HO433 := Aside0.mk (Kd.N_elder' (by (with_reducible repeat (first | apply Kd.N_alloc | apply Kd.N_drewN | apply Kd.N_drew)); exact HO433.out) (Kd.N_base ho52) hb); replace HO437 := Aside0.mk (rb HO437.out hb); replace HO440 := Aside0.mk (rb HO440.out hb); replace HO444 := Aside0.mk (rb HO444.out hb); replace HO447 := Aside0.mk (rb HO447.out hb); replace HO451 := Aside0.mk (rb HO451.out hb); replace HO454 := Aside0.mk (rb HO454.out hb); replace HO459 := Aside0.mk (rb HO459.out hb); replace HO462 := Aside0.mk (rb HO462.out hb); have HO488 := Aside0.mk (Kd.N_lower ho52 (below_size (by exact jB HB.out))); replace BK434 := Aside0.mk (bb BK434.out hb); replace BK448 := Aside0.mk (bb BK448.out hb); replace BK456 := Aside0.mk (bb BK456.out hb); replace HB := Aside0.mk (below_step (by exact jB HB.out) hb); clear HO467 HO470 HO474 HO477 HO481 HO484 hb ho52))
     (try simp only [Act.put, sA, s0, sS])
     go_cut [61] (fun v61 wc => ∃ (kq : Nat) (x61_14 : Bool), v61 = .bool x61_14 ∧ Aside0 (laws_FnFrmInto.j1 kq t431 t442 t445 x61_14 t424 t427 t430 t449 t452 t455 = some r) ∧ Aside0 (kq ≤ kj2) ∧ Aside0 (Kd.N k25 25 wc w.heap.size (fun k_ => some k_ ≠ (v443 : Value).ownBlock ∧ some k_ ≠ (v446 : Value).ownBlock ∧ some k_ ≠ ((.slice Ao18 t424.length co18) : Value).ownBlock ∧ some k_ ≠ ((.slice Ao20 t427.length co20) : Value).ownBlock ∧ some k_ ≠ ((.slice Ao23 t435.length co23) : Value).ownBlock ∧ some k_ ≠ ((.slice Ao26 t438.length co26) : Value).ownBlock ∧ some k_ ≠ ((.slice Ao31 t449.length co31) : Value).ownBlock ∧ some k_ ≠ ((.slice Ao35 t452.length co35) : Value).ownBlock ∧ k_ ≠ gb434 ∧ k_ ≠ gb448 ∧ k_ ≠ gb456) (.slice Ao28 t431.length co28) t431) ∧ Aside0 (Kd.R (Kd.int .i64) 3 wc w.heap.size (fun k_ => some k_ ≠ (v446 : Value).ownBlock ∧ some k_ ≠ ((.slice Ao18 t424.length co18) : Value).ownBlock ∧ some k_ ≠ ((.slice Ao20 t427.length co20) : Value).ownBlock ∧ some k_ ≠ ((.slice Ao23 t435.length co23) : Value).ownBlock ∧ some k_ ≠ ((.slice Ao26 t438.length co26) : Value).ownBlock ∧ some k_ ≠ ((.slice Ao31 t449.length co31) : Value).ownBlock ∧ some k_ ≠ ((.slice Ao35 t452.length co35) : Value).ownBlock) v443 t442) ∧ Aside0 (Kd.R (Kd.int .i64) 3 wc w.heap.size (fun k_ => some k_ ≠ (v443 : Value).ownBlock ∧ some k_ ≠ ((.slice Ao18 t424.length co18) : Value).ownBlock ∧ some k_ ≠ ((.slice Ao20 t427.length co20) : Value).ownBlock ∧ some k_ ≠ ((.slice Ao23 t435.length co23) : Value).ownBlock ∧ some k_ ≠ ((.slice Ao26 t438.length co26) : Value).ownBlock ∧ some k_ ≠ ((.slice Ao31 t449.length co31) : Value).ownBlock ∧ some k_ ≠ ((.slice Ao35 t452.length co35) : Value).ownBlock) v446 t445) ∧ Aside0 (Kd.R (Kd.int .i64) 3 wc w.heap.size (fun k_ => some k_ ≠ (v443 : Value).ownBlock ∧ some k_ ≠ (v446 : Value).ownBlock ∧ some k_ ≠ ((.slice Ao20 t427.length co20) : Value).ownBlock ∧ some k_ ≠ ((.slice Ao23 t435.length co23) : Value).ownBlock ∧ some k_ ≠ ((.slice Ao26 t438.length co26) : Value).ownBlock ∧ some k_ ≠ ((.slice Ao31 t449.length co31) : Value).ownBlock ∧ some k_ ≠ ((.slice Ao35 t452.length co35) : Value).ownBlock) (.slice Ao18 t424.length co18) t424) ∧ Aside0 (Kd.R (Kd.int .i64) 3 wc w.heap.size (fun k_ => some k_ ≠ (v443 : Value).ownBlock ∧ some k_ ≠ (v446 : Value).ownBlock ∧ some k_ ≠ ((.slice Ao18 t424.length co18) : Value).ownBlock ∧ some k_ ≠ ((.slice Ao23 t435.length co23) : Value).ownBlock ∧ some k_ ≠ ((.slice Ao26 t438.length co26) : Value).ownBlock ∧ some k_ ≠ ((.slice Ao31 t449.length co31) : Value).ownBlock ∧ some k_ ≠ ((.slice Ao35 t452.length co35) : Value).ownBlock) (.slice Ao20 t427.length co20) t427) ∧ Aside0 (Kd.R (Kd.int .i64) 3 wc w.heap.size (fun k_ => some k_ ≠ (v443 : Value).ownBlock ∧ some k_ ≠ (v446 : Value).ownBlock ∧ some k_ ≠ ((.slice Ao18 t424.length co18) : Value).ownBlock ∧ some k_ ≠ ((.slice Ao20 t427.length co20) : Value).ownBlock ∧ some k_ ≠ ((.slice Ao26 t438.length co26) : Value).ownBlock ∧ some k_ ≠ ((.slice Ao31 t449.length co31) : Value).ownBlock ∧ some k_ ≠ ((.slice Ao35 t452.length co35) : Value).ownBlock) (.slice Ao23 t435.length co23) t435) ∧ Aside0 (Kd.R (Kd.int .i64) 3 wc w.heap.size (fun k_ => some k_ ≠ (v443 : Value).ownBlock ∧ some k_ ≠ (v446 : Value).ownBlock ∧ some k_ ≠ ((.slice Ao18 t424.length co18) : Value).ownBlock ∧ some k_ ≠ ((.slice Ao20 t427.length co20) : Value).ownBlock ∧ some k_ ≠ ((.slice Ao23 t435.length co23) : Value).ownBlock ∧ some k_ ≠ ((.slice Ao31 t449.length co31) : Value).ownBlock ∧ some k_ ≠ ((.slice Ao35 t452.length co35) : Value).ownBlock) (.slice Ao26 t438.length co26) t438) ∧ Aside0 (Kd.R (Kd.int .i64) 3 wc w.heap.size (fun k_ => some k_ ≠ (v443 : Value).ownBlock ∧ some k_ ≠ (v446 : Value).ownBlock ∧ some k_ ≠ ((.slice Ao18 t424.length co18) : Value).ownBlock ∧ some k_ ≠ ((.slice Ao20 t427.length co20) : Value).ownBlock ∧ some k_ ≠ ((.slice Ao23 t435.length co23) : Value).ownBlock ∧ some k_ ≠ ((.slice Ao26 t438.length co26) : Value).ownBlock ∧ some k_ ≠ ((.slice Ao35 t452.length co35) : Value).ownBlock) (.slice Ao31 t449.length co31) t449) ∧ Aside0 (Kd.R (Kd.int .i64) 3 wc w.heap.size (fun k_ => some k_ ≠ (v443 : Value).ownBlock ∧ some k_ ≠ (v446 : Value).ownBlock ∧ some k_ ≠ ((.slice Ao18 t424.length co18) : Value).ownBlock ∧ some k_ ≠ ((.slice Ao20 t427.length co20) : Value).ownBlock ∧ some k_ ≠ ((.slice Ao23 t435.length co23) : Value).ownBlock ∧ some k_ ≠ ((.slice Ao26 t438.length co26) : Value).ownBlock ∧ some k_ ≠ ((.slice Ao31 t449.length co31) : Value).ownBlock) (.slice Ao35 t452.length co35) t452) ∧ Aside0 (wc.heap[gb434]? = some (.cells #[(.slice Ao18 t424.length co18), (.slice Ao20 t427.length co20), .int .i64 t430] 25 (0, 0))) ∧ Aside0 (wc.heap[gb448]? = some (.cells #[(.slice Ao23 t435.length co23), (.slice Ao26 t438.length co26), .int .i64 t441] 25 (0, 0))) ∧ Aside0 (wc.heap[gb456]? = some (.cells #[(.slice Ao31 t449.length co31), (.slice Ao35 t452.length co35), .int .i64 t455] 25 (0, 0))) ∧ Aside0 (Below w.heap.size w wc))
     case first =>
      have H := HC15.out
      clear HC15
      replace H := Option.bind_eq_some_iff.mp H
      obtain ⟨t489, A530, H⟩ := H
      replace H : (if t489 = true then ((impl_FrmInto.f t424 t427 t430 y486).bind fun bt490 => ((laws_coForm.f kj2 bt490.1 bt490.2.1 bt490.2.2 t424 t427 t430).bind fun t497 => (laws_FnFrmInto.j1 kj2 t431 t442 t445 (!t497) t424 t427 t430 t449 t452 t455))) else (laws_FnFrmInto.j1 kj2 t431 t442 t445 false t424 t427 t430 t449 t452 t455)) = some r := H
      have A53 := Aside0.mk A530
      clear A530
      by_cases c54 : t489 = true
      ·subst c54
       have H1 : ((impl_FrmInto.f t424 t427 t430 y486).bind fun bt490 => ((laws_coForm.f kj2 bt490.1 bt490.2.1 bt490.2.2 t424 t427 t430).bind fun t497 => (laws_FnFrmInto.j1 kj2 t431 t442 t445 (!t497) t424 t427 t430 t449 t452 t455))) = some r := by rw [if_pos rfl] at H; exact H
       clear H
       have H := H1
       clear H1
       replace H := Option.bind_eq_some_iff.mp H
       obtain ⟨⟨t490, t493, t496⟩, A550, H⟩ := H
       replace H : ((laws_coForm.f kj2 t490 t493 t496 t424 t427 t430).bind fun t497 => (laws_FnFrmInto.j1 kj2 t431 t442 t445 (!t497) t424 t427 t430 t449 t452 t455)) = some r := H
       have A55 := Aside0.mk A550
       clear A550
       replace H := Option.bind_eq_some_iff.mp H
       obtain ⟨t497, A560, H⟩ := H
       replace H : (laws_FnFrmInto.j1 kj2 t431 t442 t445 (!t497) t424 t427 t430 t449 t452 t455) = some r := H
       have A56 := Aside0.mk A560
       clear A560
       have H' := Aside0.mk H
       clear H
       try go_wp2
       replace HO426 := Aside0.mk (Kd.R_drew HO426.out)
       replace HO429 := Aside0.mk (Kd.R_drew HO429.out)
       replace HO433 := Aside0.mk (Kd.N_drew HO433.out)
       replace HO437 := Aside0.mk (Kd.R_drew HO437.out)
       replace HO440 := Aside0.mk (Kd.R_drew HO440.out)
       replace HO444 := Aside0.mk (Kd.R_drew HO444.out)
       replace HO447 := Aside0.mk (Kd.R_drew HO447.out)
       replace HO451 := Aside0.mk (Kd.R_drew HO451.out)
       replace HO454 := Aside0.mk (Kd.R_drew HO454.out)
       replace HO459 := Aside0.mk (Kd.R_drew HO459.out)
       replace HO462 := Aside0.mk (Kd.R_drew HO462.out)
       replace HO488 := Aside0.mk (Kd.N_drew HO488.out)
       replace BK434 := Aside0.mk (blk_drew BK434.out)
       replace BK448 := Aside0.mk (blk_drew BK448.out)
       replace BK456 := Aside0.mk (blk_drew BK456.out)
       replace HB := Aside0.mk (below_drew1 HB.out)
       refine start_ (n := 10) (S := fun w' => w'.cell? ⟨gb434, 0, none⟩ = some (.slice Ao18 t424.length co18) ∧ w'.cell? ⟨gb434, 1, none⟩ = some (.slice Ao20 t427.length co20) ∧ w'.cell? ⟨gb434, 2, none⟩ = some (.int .i64 t430)) (ds := []) #[false, false, false, false, false, false, false, false, false, false] (by kernel_rfl) rfl rfl ⟨(blk_cell BK434.out 0).trans rfl, (blk_cell BK434.out 1).trans rfl, (blk_cell BK434.out 2).trans rfl⟩ (fun hHeld => ?_); refine with_tabW laws_FnFrmInto.tab9 laws_FnFrmInto.bits9 (fun HT_ HW_ => ?_)
       generalize w51.drew = w57 at HO426 HO429 HO433 HO437 HO440 HO444 HO447 HO451 HO454 HO459 HO462 HO488 BK434 BK448 BK456 HB hHeld ⊢
       refine take_ (i := 0) (N := some 52) (v := ?_) (a' := ?_) #[true, false, false, false, false, false, false, false, false, false] rfl rfl (take_ofW HT_.out HW_.out (by kernel_rfl)) (fun _ _ _ h => h) (Or.inl ⟨by rfl, ?_⟩) hHeld ?_ ?_
       rotate_left
       ·rintro w' ⟨s0, s1, s2⟩
        go_simp
        with_reducible rfl
       rotate_left
       ·simp only [Act.put, sA, s0, sS, i64_w, i32_w]
        rfl
       refine one_ (i := 1) (N := some 53) #[true, true, false, false, false, false, false, false, false, false] rfl rfl (one_of HT_.out (by kernel_rfl)) (by decide) (fun K hK => ?_)
       refine goes_ Try.func11 (by kernel_rfl) rfl #[.agg #[.slice Ao18 t424.length co18, .slice Ao20 t427.length co20, .int .i64 t430]] (by rfl) rfl rfl (by (try simp only [mA, mC, mN]); first | done | rfl | (simp only [ld, lt]; rfl)) ?_
       with_reducible refine (impl_FrmOk.calls _ _ t424 _ _ t427 t430 true _ ?side1 ?side2 ?side3 ?side4 A53.out).mono ?_
       (case side1 => exact lC <| (Kd.R_reads' HO426.out).2.2)
       (case side2 => exact (Kd.R_reads' HO426.out).2.1)
       (case side3 => exact lC <| (Kd.R_reads' HO429.out).2.2)
       (case side4 => exact (Kd.R_reads' HO429.out).2.1)
       rintro e w58 ⟨rfl, hb⟩
       refine ⟨_, rfl, ?_⟩
       replace HO426 := Aside0.mk (rb HO426.out hb)
       replace HO429 := Aside0.mk (rb HO429.out hb)
       replace HO433 := Aside0.mk (Kd.N_below (by (with_reducible repeat (first | apply Kd.N_alloc | apply Kd.N_drewN | apply Kd.N_drew)); exact HO433.out) hb)
       replace HO437 := Aside0.mk (rb HO437.out hb)
       replace HO440 := Aside0.mk (rb HO440.out hb)
       replace HO444 := Aside0.mk (rb HO444.out hb)
       replace HO447 := Aside0.mk (rb HO447.out hb)
       replace HO451 := Aside0.mk (rb HO451.out hb)
       replace HO454 := Aside0.mk (rb HO454.out hb)
       replace HO459 := Aside0.mk (rb HO459.out hb)
       replace HO462 := Aside0.mk (rb HO462.out hb)
       replace HO488 := Aside0.mk (Kd.N_below (by (with_reducible repeat (first | apply Kd.N_alloc | apply Kd.N_drewN | apply Kd.N_drew)); exact HO488.out) hb)
       replace BK434 := Aside0.mk (bb BK434.out hb)
       replace BK448 := Aside0.mk (bb BK448.out hb)
       replace BK456 := Aside0.mk (bb BK456.out hb)
       replace HB := Aside0.mk (below_step (by exact jB HB.out) hb)
       (try clear hb)
       (try clear hb2)
       (try clear hk)
       (try clear hi)
       obtain ⟨Ao59, co59, eo59⟩ := Kd.N_slice HO488.out
       (first | subst eo59 | (injection eo59 with f1_ f2_ f3_; have f4_ := f1_.symm; have f5_ := f3_.symm; clear f1_ f2_ f3_; subst f4_; subst f5_))
       refine hK.out _ _ ⟨(blk_cell BK434.out 0).trans rfl, (blk_cell BK434.out 1).trans rfl, (blk_cell BK434.out 2).trans rfl⟩ (fun hHeld => ?_)
       clear hK K
       refine norm_ (a' := ?_) ?_ ?_
       rotate_left
       ·show Act.put _ (some 53) _ = _
        simp only [Act.put, sA, s0, sS, i64_w, i32_w]
        rfl
       refine pure_ (i := 2) (N := some 54) (v := ?_) (a' := ?_) #[true, true, true, false, false, false, false, false, false, false] rfl rfl (any_of HT_.out (by kernel_rfl)) (fun _ _ _ h => h) (Or.inl ⟨by rfl, ?_⟩) ?_ ?_
       rotate_left
       ·intro w'
        go_simp
        with_reducible rfl
       rotate_left
       ·simp only [Act.put, sA, s0, sS, i64_w, i32_w]
        rfl
       refine pure_ (i := 4) (N := some 56) (v := ?_) (a' := ?_) #[true, true, true, false, true, false, false, false, false, false] rfl rfl (any_of HT_.out (by kernel_rfl)) (fun _ _ _ h => h) (Or.inl ⟨by rfl, ?_⟩) ?_ ?_
       rotate_left
       ·intro w'
        go_simp
        with_reducible rfl
       rotate_left
       ·simp only [Act.put, sA, s0, sS, i64_w, i32_w]
        rfl
       refine take_ (i := 3) (N := some 55) (v := ?_) (a' := ?_) #[true, true, true, true, true, false, false, false, false, false] rfl rfl (take_ofW HT_.out HW_.out (by kernel_rfl)) (fun _ _ _ h => h) (Or.inl ⟨by rfl, ?_⟩) hHeld ?_ ?_
       rotate_left
       ·rintro w' ⟨s0, s1, s2⟩
        go_simp
        with_reducible rfl
       rotate_left
       ·simp only [Act.put, sA, s0, sS, i64_w, i32_w]
        rfl
       refine take_ (i := 6) (N := some 58) (v := ?_) (a' := ?_) #[true, true, true, true, true, false, true, false, false, false] rfl rfl (take_ofW HT_.out HW_.out (by kernel_rfl)) (fun _ _ _ h => h) (Or.inl ⟨by rfl, ?_⟩) hHeld ?_ ?_
       rotate_left
       ·rintro w' ⟨s0, s1, s2⟩
        go_simp
        with_reducible rfl
       rotate_left
       ·simp only [Act.put, sA, s0, sS, i64_w, i32_w]
        rfl
       refine one_ (i := 5) (N := some 57) #[true, true, true, true, true, true, true, false, false, false] rfl rfl (one_of HT_.out (by kernel_rfl)) (by decide) (fun K hK => ?_)
       refine goes_ Try.func7 (by kernel_rfl) rfl #[.agg #[.slice Ao18 t424.length co18, .slice Ao20 t427.length co20, .int .i64 t430], .slice Ao59 y486.length co59] (by rfl) rfl rfl (by (try simp only [mA, mC, mN]); first | done | rfl | (simp only [ld, lt]; rfl)) ?_
       with_reducible refine (impl_FrmInto.calls _ _ t424 _ _ t427 t430 _ _ y486 t490 t493 t496 _ ?side1 ?side2 ?side3 ?side4 ?side5 ?side6 A55.out).mono ?_
       (case side1 => exact lC <| (Kd.R_reads' HO426.out).2.2)
       (case side2 => exact (Kd.R_reads' HO426.out).2.1)
       (case side3 => exact lC <| (Kd.R_reads' HO429.out).2.2)
       (case side4 => exact (Kd.R_reads' HO429.out).2.1)
       (case side5 => exact lC <| (Kd.N_reads' HO488.out).2.2)
       (case side6 => exact (Kd.N_reads' HO488.out).2.1)
       rintro e w60 ⟨v491, v494, rfl, ho0, ho1, hb⟩
       refine ⟨_, rfl, ?_⟩
       replace HO433 := Aside0.mk (Kd.N_mono (Kd.N_told (Kd.N_told (Kd.N_old (by (with_reducible repeat (first | apply Kd.N_alloc | apply Kd.N_drewN | apply Kd.N_drew)); exact HO433.out) hb) (Kd.R_base ho0)) (Kd.R_base ho1)) (fun _ h_ => h_.1))
       replace HO488 := Aside0.mk (Kd.N_mono (Kd.N_told (Kd.N_told (Kd.N_old (by (with_reducible repeat (first | apply Kd.N_alloc | apply Kd.N_drewN | apply Kd.N_drew)); exact HO488.out) hb) (Kd.R_base ho0)) (Kd.R_base ho1)) (fun _ h_ => h_.1))
       have HO492 := Aside0.mk (Kd.R_lower (Kd.R_new' (Kd.R_new' (Kd.R_new' (Kd.R_new' (Kd.R_new' (Kd.R_new' (Kd.R_new' (Kd.R_new' (Kd.R_new' (Kd.R_new' ho0 (rl HO426.out)) (rl HO429.out)) (rl HO437.out)) (rl HO440.out)) (rl HO444.out)) (rl HO447.out)) (rl HO451.out)) (rl HO454.out)) (rl HO459.out)) (rl HO462.out)) (below_size (by exact jB HB.out)))
       have HO495 := Aside0.mk (Kd.R_lower (Kd.R_new' (Kd.R_new' (Kd.R_new' (Kd.R_new' (Kd.R_new' (Kd.R_new' (Kd.R_new' (Kd.R_new' (Kd.R_new' (Kd.R_new' ho1 (rl HO426.out)) (rl HO429.out)) (rl HO437.out)) (rl HO440.out)) (rl HO444.out)) (rl HO447.out)) (rl HO451.out)) (rl HO454.out)) (rl HO459.out)) (rl HO462.out)) (below_size (by exact jB HB.out)))
       replace HO426 := Aside0.mk (o2 HO426.out hb ho0 ho1)
       replace HO429 := Aside0.mk (o2 HO429.out hb ho0 ho1)
       replace HO437 := Aside0.mk (o2 HO437.out hb ho0 ho1)
       replace HO440 := Aside0.mk (o2 HO440.out hb ho0 ho1)
       replace HO444 := Aside0.mk (o2 HO444.out hb ho0 ho1)
       replace HO447 := Aside0.mk (o2 HO447.out hb ho0 ho1)
       replace HO451 := Aside0.mk (o2 HO451.out hb ho0 ho1)
       replace HO454 := Aside0.mk (o2 HO454.out hb ho0 ho1)
       replace HO459 := Aside0.mk (o2 HO459.out hb ho0 ho1)
       replace HO462 := Aside0.mk (o2 HO462.out hb ho0 ho1)
       replace BK434 := Aside0.mk (bb BK434.out hb)
       replace BK448 := Aside0.mk (bb BK448.out hb)
       replace BK456 := Aside0.mk (bb BK456.out hb)
       replace HB := Aside0.mk (below_step (by exact jB HB.out) hb)
       (try clear hb)
       (try clear hb2)
       (try clear hk)
       (try clear hi)
       (try clear ho0)
       (try clear ho1)
       obtain ⟨Ao61, co61, eo61⟩ := Kd.R_slice HO492.out
       (first | subst eo61 | (injection eo61 with f1_ f2_ f3_; have f4_ := f1_.symm; have f5_ := f3_.symm; clear f1_ f2_ f3_; subst f4_; subst f5_))
       obtain ⟨Ao62, co62, eo62⟩ := Kd.R_slice HO495.out
       (first | subst eo62 | (injection eo62 with f1_ f2_ f3_; have f4_ := f1_.symm; have f5_ := f3_.symm; clear f1_ f2_ f3_; subst f4_; subst f5_))
       refine hK.out _ _ ⟨(blk_cell BK434.out 0).trans rfl, (blk_cell BK434.out 1).trans rfl, (blk_cell BK434.out 2).trans rfl⟩ (fun hHeld => ?_)
       clear hK K
       refine norm_ (a' := ?_) ?_ ?_
       rotate_left
       ·show Act.put _ (some 57) _ = _
        simp only [Act.put, sA, s0, sS, i64_w, i32_w]
        rfl
       refine one_ (i := 7) (N := some 59) #[true, true, true, true, true, true, true, true, false, false] rfl rfl (one_of HT_.out (by kernel_rfl)) (by decide) (fun K hK => ?_)
       refine goes_ Try.func8 (by kernel_rfl) rfl #[.agg #[.slice Ao61 t490.length co61, .slice Ao62 t493.length co62, .int .i64 t496], .agg #[.slice Ao18 t424.length co18, .slice Ao20 t427.length co20, .int .i64 t430]] (by rfl) rfl rfl (by (try simp only [mA, mC, mN]); first | done | rfl | (simp only [ld, lt]; rfl)) ?_
       with_reducible refine (laws_coForm.calls kj2 _ _ t490 _ _ t493 t496 _ _ t424 _ _ t427 t430 t497 _ ?side1 ?side2 ?side3 ?side4 ?side5 ?side6 ?side7 ?side8 A56.out).mono ?_
       (case side1 => exact lC <| (Kd.R_reads' HO492.out).2.2)
       (case side2 => exact (Kd.R_reads' HO492.out).2.1)
       (case side3 => exact lC <| (Kd.R_reads' HO495.out).2.2)
       (case side4 => exact (Kd.R_reads' HO495.out).2.1)
       (case side5 => exact lC <| (Kd.R_reads' HO426.out).2.2)
       (case side6 => exact (Kd.R_reads' HO426.out).2.1)
       (case side7 => exact lC <| (Kd.R_reads' HO429.out).2.2)
       (case side8 => exact (Kd.R_reads' HO429.out).2.1)
       rintro e w63 ⟨rfl, hb⟩
       refine ⟨_, rfl, ?_⟩
       replace HO426 := Aside0.mk (rb HO426.out hb)
       replace HO429 := Aside0.mk (rb HO429.out hb)
       replace HO433 := Aside0.mk (Kd.N_below (by (with_reducible repeat (first | apply Kd.N_alloc | apply Kd.N_drewN | apply Kd.N_drew)); exact HO433.out) hb)
       replace HO437 := Aside0.mk (rb HO437.out hb)
       replace HO440 := Aside0.mk (rb HO440.out hb)
       replace HO444 := Aside0.mk (rb HO444.out hb)
       replace HO447 := Aside0.mk (rb HO447.out hb)
       replace HO451 := Aside0.mk (rb HO451.out hb)
       replace HO454 := Aside0.mk (rb HO454.out hb)
       replace HO459 := Aside0.mk (rb HO459.out hb)
       replace HO462 := Aside0.mk (rb HO462.out hb)
       replace HO488 := Aside0.mk (Kd.N_below (by (with_reducible repeat (first | apply Kd.N_alloc | apply Kd.N_drewN | apply Kd.N_drew)); exact HO488.out) hb)
       replace HO492 := Aside0.mk (rb HO492.out hb)
       replace HO495 := Aside0.mk (rb HO495.out hb)
       replace BK434 := Aside0.mk (bb BK434.out hb)
       replace BK448 := Aside0.mk (bb BK448.out hb)
       replace BK456 := Aside0.mk (bb BK456.out hb)
       replace HB := Aside0.mk (below_step (by exact jB HB.out) hb)
       (try clear hb)
       (try clear hb2)
       (try clear hk)
       (try clear hi)
       refine hK.out _ _ ⟨(blk_cell BK434.out 0).trans rfl, (blk_cell BK434.out 1).trans rfl, (blk_cell BK434.out 2).trans rfl⟩ (fun hHeld => ?_)
       clear hK K
       refine norm_ (a' := ?_) ?_ ?_
       rotate_left
       ·show Act.put _ (some 59) _ = _
        simp only [Act.put, sA, s0, sS, i64_w, i32_w]
        rfl
       refine pure_ (i := 8) (N := some 60) (v := ?_) (a' := ?_) #[true, true, true, true, true, true, true, true, true, false] rfl rfl (any_of HT_.out (by kernel_rfl)) (fun _ _ _ h => h) (Or.inl ⟨by rfl, ?_⟩) ?_ ?_
       rotate_left
       ·intro w'
        go_simp
        with_reducible rfl
       rotate_left
       ·simp only [Act.put, sA, s0, sS, i64_w, i32_w]
        rfl
       refine pure_ (i := 9) (N := some 61) (v := ?_) (a' := ?_) #[true, true, true, true, true, true, true, true, true, true] rfl rfl (any_of HT_.out (by kernel_rfl)) (fun _ _ _ h => h) (Or.inl ⟨by rfl, ?_⟩) ?_ ?_
       rotate_left
       ·intro w'
        go_simp
        with_reducible rfl
       rotate_left
       ·simp only [Act.put, sA, s0, sS, i64_w, i32_w]
        rfl
       refine done_ (done_of HT_.out (by kernel_rfl)) ?_
       try go_wp2
       go_meet
       case rel => exact ⟨_, (!t497), (by first | rfl | (simp; done) | (simp [*]; done)), H', ⟨by have := HJ2.out; first | omega | exact Nat.le_refl _⟩, ⟨by (with_reducible repeat (first | apply Kd.N_alloc | apply Kd.N_drewN | apply Kd.N_drew)); exact Kd.N_mono HO433.out (fun _ hk => ⟨hk.1.1.1.1.1.1.1.1.1.1.1.2.2.2.2.1, ⟨hk.1.1.1.1.1.1.1.1.1.1.1.2.2.2.2.2.1, ⟨hk.1.1.1.1.1.1.1.1.1.1.1.1, ⟨hk.1.1.1.1.1.1.1.1.1.1.1.2.1, ⟨hk.1.1.1.1.1.1.1.1.1.1.1.2.2.1, ⟨hk.1.1.1.1.1.1.1.1.1.1.1.2.2.2.1, ⟨hk.1.1.1.1.1.1.1.1.1.1.1.2.2.2.2.2.2.1, ⟨hk.1.1.1.1.1.1.1.1.1.1.1.2.2.2.2.2.2.2.1, ⟨hk.1.1.1.1.1.1.1.1.1.1.1.2.2.2.2.2.2.2.2.1, ⟨hk.1.1.1.1.1.1.1.1.1.1.1.2.2.2.2.2.2.2.2.2.1, hk.1.1.1.1.1.1.1.1.1.1.1.2.2.2.2.2.2.2.2.2.2⟩⟩⟩⟩⟩⟩⟩⟩⟩⟩)⟩, ⟨by exact lR <| Kd.R_mono HO444.out (fun _ hk => ⟨hk.1.1.1.1.1.1.1.1.1.1.2.2.2.2.1, ⟨hk.1.1.1.1.1.1.1.1.1.1.1, ⟨hk.1.1.1.1.1.1.1.1.1.1.2.1, ⟨hk.1.1.1.1.1.1.1.1.1.1.2.2.1, ⟨hk.1.1.1.1.1.1.1.1.1.1.2.2.2.1, ⟨hk.1.1.1.1.1.1.1.1.1.1.2.2.2.2.2.1, hk.1.1.1.1.1.1.1.1.1.1.2.2.2.2.2.2⟩⟩⟩⟩⟩⟩)⟩, ⟨by exact lR <| Kd.R_mono HO447.out (fun _ hk => ⟨hk.1.1.1.1.1.1.1.1.1.1.2.2.2.2.1, ⟨hk.1.1.1.1.1.1.1.1.1.1.1, ⟨hk.1.1.1.1.1.1.1.1.1.1.2.1, ⟨hk.1.1.1.1.1.1.1.1.1.1.2.2.1, ⟨hk.1.1.1.1.1.1.1.1.1.1.2.2.2.1, ⟨hk.1.1.1.1.1.1.1.1.1.1.2.2.2.2.2.1, hk.1.1.1.1.1.1.1.1.1.1.2.2.2.2.2.2⟩⟩⟩⟩⟩⟩)⟩, ⟨by exact lR <| Kd.R_mono HO426.out (fun _ hk => ⟨hk.1.1.1.1.1.1.1.1.1.1.2.2.2.1, ⟨hk.1.1.1.1.1.1.1.1.1.1.2.2.2.2.1, ⟨hk.1.1.1.1.1.1.1.1.1.1.1, ⟨hk.1.1.1.1.1.1.1.1.1.1.2.1, ⟨hk.1.1.1.1.1.1.1.1.1.1.2.2.1, ⟨hk.1.1.1.1.1.1.1.1.1.1.2.2.2.2.2.1, hk.1.1.1.1.1.1.1.1.1.1.2.2.2.2.2.2⟩⟩⟩⟩⟩⟩)⟩, ⟨by exact lR <| Kd.R_mono HO429.out (fun _ hk => ⟨hk.1.1.1.1.1.1.1.1.1.1.2.2.2.1, ⟨hk.1.1.1.1.1.1.1.1.1.1.2.2.2.2.1, ⟨hk.1.1.1.1.1.1.1.1.1.1.1, ⟨hk.1.1.1.1.1.1.1.1.1.1.2.1, ⟨hk.1.1.1.1.1.1.1.1.1.1.2.2.1, ⟨hk.1.1.1.1.1.1.1.1.1.1.2.2.2.2.2.1, hk.1.1.1.1.1.1.1.1.1.1.2.2.2.2.2.2⟩⟩⟩⟩⟩⟩)⟩, ⟨by exact lR <| Kd.R_mono HO437.out (fun _ hk => ⟨hk.1.1.1.1.1.1.1.1.1.1.2.2.2.1, ⟨hk.1.1.1.1.1.1.1.1.1.1.2.2.2.2.1, ⟨hk.1.1.1.1.1.1.1.1.1.1.1, ⟨hk.1.1.1.1.1.1.1.1.1.1.2.1, ⟨hk.1.1.1.1.1.1.1.1.1.1.2.2.1, ⟨hk.1.1.1.1.1.1.1.1.1.1.2.2.2.2.2.1, hk.1.1.1.1.1.1.1.1.1.1.2.2.2.2.2.2⟩⟩⟩⟩⟩⟩)⟩, ⟨by exact lR <| Kd.R_mono HO440.out (fun _ hk => ⟨hk.1.1.1.1.1.1.1.1.1.1.2.2.2.1, ⟨hk.1.1.1.1.1.1.1.1.1.1.2.2.2.2.1, ⟨hk.1.1.1.1.1.1.1.1.1.1.1, ⟨hk.1.1.1.1.1.1.1.1.1.1.2.1, ⟨hk.1.1.1.1.1.1.1.1.1.1.2.2.1, ⟨hk.1.1.1.1.1.1.1.1.1.1.2.2.2.2.2.1, hk.1.1.1.1.1.1.1.1.1.1.2.2.2.2.2.2⟩⟩⟩⟩⟩⟩)⟩, ⟨by exact lR <| Kd.R_mono HO451.out (fun _ hk => ⟨hk.1.1.1.1.1.1.1.1.1.1.2.2.2.2.1, ⟨hk.1.1.1.1.1.1.1.1.1.1.2.2.2.2.2.1, ⟨hk.1.1.1.1.1.1.1.1.1.1.1, ⟨hk.1.1.1.1.1.1.1.1.1.1.2.1, ⟨hk.1.1.1.1.1.1.1.1.1.1.2.2.1, ⟨hk.1.1.1.1.1.1.1.1.1.1.2.2.2.1, hk.1.1.1.1.1.1.1.1.1.1.2.2.2.2.2.2⟩⟩⟩⟩⟩⟩)⟩, ⟨by exact lR <| Kd.R_mono HO454.out (fun _ hk => ⟨hk.1.1.1.1.1.1.1.1.1.1.2.2.2.2.1, ⟨hk.1.1.1.1.1.1.1.1.1.1.2.2.2.2.2.1, ⟨hk.1.1.1.1.1.1.1.1.1.1.1, ⟨hk.1.1.1.1.1.1.1.1.1.1.2.1, ⟨hk.1.1.1.1.1.1.1.1.1.1.2.2.1, ⟨hk.1.1.1.1.1.1.1.1.1.1.2.2.2.1, hk.1.1.1.1.1.1.1.1.1.1.2.2.2.2.2.2⟩⟩⟩⟩⟩⟩)⟩, ⟨by exact lK <| BK434.out⟩, ⟨by exact lK <| BK448.out⟩, ⟨by exact lK <| BK456.out⟩, ⟨by exact jB HB.out⟩⟩
      ·replace c54 := Bool.eq_false_iff.mpr c54
       subst c54
       have H1 : (laws_FnFrmInto.j1 kj2 t431 t442 t445 false t424 t427 t430 t449 t452 t455) = some r := by rw [if_neg (show ¬ (false = true) by decide)] at H; exact H
       clear H
       have H := H1
       clear H1
       have H' := Aside0.mk H
       clear H
       try go_wp2
       replace HO426 := Aside0.mk (Kd.R_drew HO426.out)
       replace HO429 := Aside0.mk (Kd.R_drew HO429.out)
       replace HO433 := Aside0.mk (Kd.N_drew HO433.out)
       replace HO437 := Aside0.mk (Kd.R_drew HO437.out)
       replace HO440 := Aside0.mk (Kd.R_drew HO440.out)
       replace HO444 := Aside0.mk (Kd.R_drew HO444.out)
       replace HO447 := Aside0.mk (Kd.R_drew HO447.out)
       replace HO451 := Aside0.mk (Kd.R_drew HO451.out)
       replace HO454 := Aside0.mk (Kd.R_drew HO454.out)
       replace HO459 := Aside0.mk (Kd.R_drew HO459.out)
       replace HO462 := Aside0.mk (Kd.R_drew HO462.out)
       replace HO488 := Aside0.mk (Kd.N_drew HO488.out)
       replace BK434 := Aside0.mk (blk_drew BK434.out)
       replace BK448 := Aside0.mk (blk_drew BK448.out)
       replace BK456 := Aside0.mk (blk_drew BK456.out)
       replace HB := Aside0.mk (below_drew1 HB.out)
       refine start_ (n := 10) (S := fun w' => w'.cell? ⟨gb434, 0, none⟩ = some (.slice Ao18 t424.length co18) ∧ w'.cell? ⟨gb434, 1, none⟩ = some (.slice Ao20 t427.length co20) ∧ w'.cell? ⟨gb434, 2, none⟩ = some (.int .i64 t430)) (ds := []) #[false, false, false, false, false, false, false, false, false, false] (by kernel_rfl) rfl rfl ⟨(blk_cell BK434.out 0).trans rfl, (blk_cell BK434.out 1).trans rfl, (blk_cell BK434.out 2).trans rfl⟩ (fun hHeld => ?_); refine with_tabW laws_FnFrmInto.tab9 laws_FnFrmInto.bits9 (fun HT_ HW_ => ?_)
       generalize w51.drew = w64 at HO426 HO429 HO433 HO437 HO440 HO444 HO447 HO451 HO454 HO459 HO462 HO488 BK434 BK448 BK456 HB hHeld ⊢
       refine take_ (i := 0) (N := some 52) (v := ?_) (a' := ?_) #[true, false, false, false, false, false, false, false, false, false] rfl rfl (take_ofW HT_.out HW_.out (by kernel_rfl)) (fun _ _ _ h => h) (Or.inl ⟨by rfl, ?_⟩) hHeld ?_ ?_
       rotate_left
       ·rintro w' ⟨s0, s1, s2⟩
        go_simp
        with_reducible rfl
       rotate_left
       ·simp only [Act.put, sA, s0, sS, i64_w, i32_w]
        rfl
       refine one_ (i := 1) (N := some 53) #[true, true, false, false, false, false, false, false, false, false] rfl rfl (one_of HT_.out (by kernel_rfl)) (by decide) (fun K hK => ?_)
       refine goes_ Try.func11 (by kernel_rfl) rfl #[.agg #[.slice Ao18 t424.length co18, .slice Ao20 t427.length co20, .int .i64 t430]] (by rfl) rfl rfl (by (try simp only [mA, mC, mN]); first | done | rfl | (simp only [ld, lt]; rfl)) ?_
       with_reducible refine (impl_FrmOk.calls _ _ t424 _ _ t427 t430 false _ ?side1 ?side2 ?side3 ?side4 A53.out).mono ?_
       (case side1 => exact lC <| (Kd.R_reads' HO426.out).2.2)
       (case side2 => exact (Kd.R_reads' HO426.out).2.1)
       (case side3 => exact lC <| (Kd.R_reads' HO429.out).2.2)
       (case side4 => exact (Kd.R_reads' HO429.out).2.1)
       rintro e w65 ⟨rfl, hb⟩
       refine ⟨_, rfl, ?_⟩
       replace HO426 := Aside0.mk (rb HO426.out hb)
       replace HO429 := Aside0.mk (rb HO429.out hb)
       replace HO433 := Aside0.mk (Kd.N_below (by (with_reducible repeat (first | apply Kd.N_alloc | apply Kd.N_drewN | apply Kd.N_drew)); exact HO433.out) hb)
       replace HO437 := Aside0.mk (rb HO437.out hb)
       replace HO440 := Aside0.mk (rb HO440.out hb)
       replace HO444 := Aside0.mk (rb HO444.out hb)
       replace HO447 := Aside0.mk (rb HO447.out hb)
       replace HO451 := Aside0.mk (rb HO451.out hb)
       replace HO454 := Aside0.mk (rb HO454.out hb)
       replace HO459 := Aside0.mk (rb HO459.out hb)
       replace HO462 := Aside0.mk (rb HO462.out hb)
       replace HO488 := Aside0.mk (Kd.N_below (by (with_reducible repeat (first | apply Kd.N_alloc | apply Kd.N_drewN | apply Kd.N_drew)); exact HO488.out) hb)
       replace BK434 := Aside0.mk (bb BK434.out hb)
       replace BK448 := Aside0.mk (bb BK448.out hb)
       replace BK456 := Aside0.mk (bb BK456.out hb)
       replace HB := Aside0.mk (below_step (by exact jB HB.out) hb)
       (try clear hb)
       (try clear hb2)
       (try clear hk)
       (try clear hi)
       refine hK.out _ _ ⟨(blk_cell BK434.out 0).trans rfl, (blk_cell BK434.out 1).trans rfl, (blk_cell BK434.out 2).trans rfl⟩ (fun hHeld => ?_)
       clear hK K
       refine norm_ (a' := ?_) ?_ ?_
       rotate_left
       ·show Act.put _ (some 53) _ = _
        simp only [Act.put, sA, s0, sS, i64_w, i32_w]
        rfl
       refine pure_ (i := 2) (N := some 54) (v := ?_) (a' := ?_) #[true, true, true, false, false, false, false, false, false, false] rfl rfl (any_of HT_.out (by kernel_rfl)) (fun _ _ _ h => h) (Or.inl ⟨by rfl, ?_⟩) ?_ ?_
       rotate_left
       ·intro w'
        go_simp
        with_reducible rfl
       rotate_left
       ·simp only [Act.put, sA, s0, sS, i64_w, i32_w]
        rfl
       refine pure_ (i := 3) (N := some 55) (v := undef) (a' := ?_) #[true, true, true, true, false, false, false, false, false, false] rfl rfl (any_of HT_.out (by kernel_rfl)) (fun _ _ _ h => h) (Or.inr ⟨by rfl, rfl⟩) ?_ ?_
       rotate_left
       ·simp only [Act.put, sA, s0, sS, i64_w, i32_w]
        rfl
       refine pure_ (i := 4) (N := some 56) (v := undef) (a' := ?_) #[true, true, true, true, true, false, false, false, false, false] rfl rfl (any_of HT_.out (by kernel_rfl)) (fun _ _ _ h => h) (Or.inr ⟨by rfl, rfl⟩) ?_ ?_
       rotate_left
       ·simp only [Act.put, sA, s0, sS, i64_w, i32_w]
        rfl
       refine pure_ (i := 5) (N := some 57) (v := undef) (a' := ?_) #[true, true, true, true, true, true, false, false, false, false] rfl rfl (any_of HT_.out (by kernel_rfl)) (fun _ _ _ h => h) (Or.inr ⟨by rfl, rfl⟩) ?_ ?_
       rotate_left
       ·simp only [Act.put, sA, s0, sS, i64_w, i32_w]
        rfl
       refine pure_ (i := 6) (N := some 58) (v := undef) (a' := ?_) #[true, true, true, true, true, true, true, false, false, false] rfl rfl (any_of HT_.out (by kernel_rfl)) (fun _ _ _ h => h) (Or.inr ⟨by rfl, rfl⟩) ?_ ?_
       rotate_left
       ·simp only [Act.put, sA, s0, sS, i64_w, i32_w]
        rfl
       refine pure_ (i := 7) (N := some 59) (v := undef) (a' := ?_) #[true, true, true, true, true, true, true, true, false, false] rfl rfl (any_of HT_.out (by kernel_rfl)) (fun _ _ _ h => h) (Or.inr ⟨by rfl, rfl⟩) ?_ ?_
       rotate_left
       ·simp only [Act.put, sA, s0, sS, i64_w, i32_w]
        rfl
       refine pure_ (i := 8) (N := some 60) (v := undef) (a' := ?_) #[true, true, true, true, true, true, true, true, true, false] rfl rfl (any_of HT_.out (by kernel_rfl)) (fun _ _ _ h => h) (Or.inr ⟨by rfl, rfl⟩) ?_ ?_
       rotate_left
       ·simp only [Act.put, sA, s0, sS, i64_w, i32_w]
        rfl
       refine pure_ (i := 9) (N := some 61) (v := ?_) (a' := ?_) #[true, true, true, true, true, true, true, true, true, true] rfl rfl (any_of HT_.out (by kernel_rfl)) (fun _ _ _ h => h) (Or.inl ⟨by rfl, ?_⟩) ?_ ?_
       rotate_left
       ·intro w'
        go_simp
        with_reducible rfl
       rotate_left
       ·simp only [Act.put, sA, s0, sS, i64_w, i32_w]
        rfl
       refine done_ (done_of HT_.out (by kernel_rfl)) ?_
       try go_wp2
       go_meet
       case rel => exact ⟨_, (false), (by first | rfl | (simp; done) | (simp [*]; done)), H', ⟨by have := HJ2.out; first | omega | exact Nat.le_refl _⟩, ⟨by (with_reducible repeat (first | apply Kd.N_alloc | apply Kd.N_drewN | apply Kd.N_drew)); exact Kd.N_mono HO433.out (fun _ hk => ⟨hk.1.1.1.1.1.1.1.1.1.2.2.2.2.1, ⟨hk.1.1.1.1.1.1.1.1.1.2.2.2.2.2.1, ⟨hk.1.1.1.1.1.1.1.1.1.1, ⟨hk.1.1.1.1.1.1.1.1.1.2.1, ⟨hk.1.1.1.1.1.1.1.1.1.2.2.1, ⟨hk.1.1.1.1.1.1.1.1.1.2.2.2.1, ⟨hk.1.1.1.1.1.1.1.1.1.2.2.2.2.2.2.1, ⟨hk.1.1.1.1.1.1.1.1.1.2.2.2.2.2.2.2.1, ⟨hk.1.1.1.1.1.1.1.1.1.2.2.2.2.2.2.2.2.1, ⟨hk.1.1.1.1.1.1.1.1.1.2.2.2.2.2.2.2.2.2.1, hk.1.1.1.1.1.1.1.1.1.2.2.2.2.2.2.2.2.2.2⟩⟩⟩⟩⟩⟩⟩⟩⟩⟩)⟩, ⟨by exact lR <| Kd.R_mono HO444.out (fun _ hk => ⟨hk.1.1.1.1.1.1.1.1.2.2.2.2.1, ⟨hk.1.1.1.1.1.1.1.1.1, ⟨hk.1.1.1.1.1.1.1.1.2.1, ⟨hk.1.1.1.1.1.1.1.1.2.2.1, ⟨hk.1.1.1.1.1.1.1.1.2.2.2.1, ⟨hk.1.1.1.1.1.1.1.1.2.2.2.2.2.1, hk.1.1.1.1.1.1.1.1.2.2.2.2.2.2⟩⟩⟩⟩⟩⟩)⟩, ⟨by exact lR <| Kd.R_mono HO447.out (fun _ hk => ⟨hk.1.1.1.1.1.1.1.1.2.2.2.2.1, ⟨hk.1.1.1.1.1.1.1.1.1, ⟨hk.1.1.1.1.1.1.1.1.2.1, ⟨hk.1.1.1.1.1.1.1.1.2.2.1, ⟨hk.1.1.1.1.1.1.1.1.2.2.2.1, ⟨hk.1.1.1.1.1.1.1.1.2.2.2.2.2.1, hk.1.1.1.1.1.1.1.1.2.2.2.2.2.2⟩⟩⟩⟩⟩⟩)⟩, ⟨by exact lR <| Kd.R_mono HO426.out (fun _ hk => ⟨hk.1.1.1.1.1.1.1.1.2.2.2.1, ⟨hk.1.1.1.1.1.1.1.1.2.2.2.2.1, ⟨hk.1.1.1.1.1.1.1.1.1, ⟨hk.1.1.1.1.1.1.1.1.2.1, ⟨hk.1.1.1.1.1.1.1.1.2.2.1, ⟨hk.1.1.1.1.1.1.1.1.2.2.2.2.2.1, hk.1.1.1.1.1.1.1.1.2.2.2.2.2.2⟩⟩⟩⟩⟩⟩)⟩, ⟨by exact lR <| Kd.R_mono HO429.out (fun _ hk => ⟨hk.1.1.1.1.1.1.1.1.2.2.2.1, ⟨hk.1.1.1.1.1.1.1.1.2.2.2.2.1, ⟨hk.1.1.1.1.1.1.1.1.1, ⟨hk.1.1.1.1.1.1.1.1.2.1, ⟨hk.1.1.1.1.1.1.1.1.2.2.1, ⟨hk.1.1.1.1.1.1.1.1.2.2.2.2.2.1, hk.1.1.1.1.1.1.1.1.2.2.2.2.2.2⟩⟩⟩⟩⟩⟩)⟩, ⟨by exact lR <| Kd.R_mono HO437.out (fun _ hk => ⟨hk.1.1.1.1.1.1.1.1.2.2.2.1, ⟨hk.1.1.1.1.1.1.1.1.2.2.2.2.1, ⟨hk.1.1.1.1.1.1.1.1.1, ⟨hk.1.1.1.1.1.1.1.1.2.1, ⟨hk.1.1.1.1.1.1.1.1.2.2.1, ⟨hk.1.1.1.1.1.1.1.1.2.2.2.2.2.1, hk.1.1.1.1.1.1.1.1.2.2.2.2.2.2⟩⟩⟩⟩⟩⟩)⟩, ⟨by exact lR <| Kd.R_mono HO440.out (fun _ hk => ⟨hk.1.1.1.1.1.1.1.1.2.2.2.1, ⟨hk.1.1.1.1.1.1.1.1.2.2.2.2.1, ⟨hk.1.1.1.1.1.1.1.1.1, ⟨hk.1.1.1.1.1.1.1.1.2.1, ⟨hk.1.1.1.1.1.1.1.1.2.2.1, ⟨hk.1.1.1.1.1.1.1.1.2.2.2.2.2.1, hk.1.1.1.1.1.1.1.1.2.2.2.2.2.2⟩⟩⟩⟩⟩⟩)⟩, ⟨by exact lR <| Kd.R_mono HO451.out (fun _ hk => ⟨hk.1.1.1.1.1.1.1.1.2.2.2.2.1, ⟨hk.1.1.1.1.1.1.1.1.2.2.2.2.2.1, ⟨hk.1.1.1.1.1.1.1.1.1, ⟨hk.1.1.1.1.1.1.1.1.2.1, ⟨hk.1.1.1.1.1.1.1.1.2.2.1, ⟨hk.1.1.1.1.1.1.1.1.2.2.2.1, hk.1.1.1.1.1.1.1.1.2.2.2.2.2.2⟩⟩⟩⟩⟩⟩)⟩, ⟨by exact lR <| Kd.R_mono HO454.out (fun _ hk => ⟨hk.1.1.1.1.1.1.1.1.2.2.2.2.1, ⟨hk.1.1.1.1.1.1.1.1.2.2.2.2.2.1, ⟨hk.1.1.1.1.1.1.1.1.1, ⟨hk.1.1.1.1.1.1.1.1.2.1, ⟨hk.1.1.1.1.1.1.1.1.2.2.1, ⟨hk.1.1.1.1.1.1.1.1.2.2.2.1, hk.1.1.1.1.1.1.1.1.2.2.2.2.2.2⟩⟩⟩⟩⟩⟩)⟩, ⟨by exact lK <| BK434.out⟩, ⟨by exact lK <| BK448.out⟩, ⟨by exact lK <| BK456.out⟩, ⟨by exact jB HB.out⟩⟩
     case rest =>
      clear HC15
      try clear c1
      try clear p2
      try clear c3
      try clear c5
      try clear c7
      try clear c8
      try clear c10
      try clear c11
      try clear c54
      obtain ⟨kq, x61_14, rfl, HA, HJ14, HO_6, HO_8, HO_9, HO_435000, HO_435001, HO_449000, HO_449001, HO_457000, HO_457001, BK434, BK448, BK456, HB⟩ := hcut
      cases kq with
      | zero => exact absurd HA.out (by simp [laws_FnFrmInto.j1])
      | succ kj14 =>
       have H := HA.out
       clear HA
       simp only [laws_FnFrmInto.j1] at H
       by_cases c66 : x61_14 = true
       ·subst c66
        have H1 : (some false) = some r := by rw [if_pos rfl] at H; exact H
        clear H
        have H := H1
        clear H1
        exact absurd (Option.some.inj H) (by rw [hr.out]; decide)
       ·replace c66 := Bool.eq_false_iff.mpr c66
        subst c66
        have H1 : ((impl_FrmAt.f kj14 t449 t452 t455 t442 t445).bind fun bt498 => (if bt498.2 = true then (laws_FnFrmInto.l0 kj14 t431 t442 t445 bt498.1 (([] : List Int)) 0 t424 t427 t430) else ((laws_coHolds.f).bind fun t500 => (some t500)))) = some r := by rw [if_neg (show ¬ (false = true) by decide)] at H; exact H
        clear H
        have H := H1
        clear H1
        replace H := Option.bind_eq_some_iff.mp H
        obtain ⟨⟨t498, t499⟩, A670, H⟩ := H
        replace H : (if t499 = true then (laws_FnFrmInto.l0 kj14 t431 t442 t445 t498 (([] : List Int)) 0 t424 t427 t430) else ((laws_coHolds.f).bind fun t500 => (some t500))) = some r := H
        have A67 := Aside0.mk A670
        clear A670
        by_cases c68 : t499 = true
        ·subst c68
         have H1 : (laws_FnFrmInto.l0 kj14 t431 t442 t445 t498 (([] : List Int)) 0 t424 t427 t430) = some r := by rw [if_pos rfl] at H; exact H
         clear H
         have H := H1
         clear H1
         obtain ⟨y501, hy501⟩ : ∃ y_ : List Int, y_ = (([] : List Int)) := ⟨_, rfl⟩
         replace H : (laws_FnFrmInto.l0 kj14 t431 t442 t445 t498 y501 0 t424 t427 t430) = some r := by first | (rw [hy501]; with_reducible exact H) | (have H2_ := (Option.bind_some _ _).symm.trans H; rw [hy501]; with_reducible exact H2_) | (have H2_ := (Option.bind_some _ _).symm.trans H; with_reducible exact H2_) | with_reducible exact H | (rw [hy501]; exact H) | exact H
         have Ny501 := Aside0.mk hy501
         clear hy501
         have H' := Aside0.mk H
         clear H
         have hnb69 := NB456_434.out
         have hnc69 := NB434_456.out
         have hnb70 := NB456_448.out
         have hnc70 := NB448_456.out
         obtain ⟨hcz71_0, hcz71_1, hcz71_2, hfz71_0, hfz71_1, hfz71_2⟩ := cf3 BK456.out
         obtain ⟨Ao72, co72, eo72⟩ := Kd.R_slice HO_8.out
         subst eo72
         obtain ⟨Ao73, co73, eo73⟩ := Kd.R_slice HO_9.out
         subst eo73
         go_wp2_with (first | ((with_reducible refine gate_callee (f := 12) rfl ?_); refine goesL_ (some 66) rfl rfl Try.func12 (by kernel_rfl) rfl #[.agg #[.slice Ao31 t449.length co31, .slice Ao35 t452.length co35, .int .i64 t455], .slice Ao72 t442.length co72, .slice Ao73 t445.length co73] rfl (by (try simp only [mA, mC, mN]); first | done | rfl | (simp only [ld, lt]; rfl)) ?_; (with_reducible refine (impl_FrmAt.calls kj14 _ _ t449 _ _ t452 t455 _ _ t442 _ _ t445 t498 true _ ?side1 ?side2 ?side3 ?side4 ?side5 ?side6 ?side7 ?side8 A67.out).mono ?_); (case side1 => exact lC <| (Kd.R_reads' HO_457000.out).2.2); (case side2 => exact (Kd.R_reads' HO_457000.out).2.1); (case side3 => exact lC <| (Kd.R_reads' HO_457001.out).2.2); (case side4 => exact (Kd.R_reads' HO_457001.out).2.1); (case side5 => exact lC <| (Kd.R_reads' HO_8.out).2.2); (case side6 => exact (Kd.R_reads' HO_8.out).2.1); (case side7 => exact lC <| (Kd.R_reads' HO_9.out).2.2); (case side8 => exact (Kd.R_reads' HO_9.out).2.1); rintro e w74 ⟨rfl, hb⟩; refine ⟨_, rfl, ?_⟩; replace HO_6 := Aside0.mk (Kd.N_below (by (with_reducible repeat (first | apply Kd.N_alloc | apply Kd.N_drewN | apply Kd.N_drew)); exact HO_6.out) hb); replace HO_8 := Aside0.mk (rb HO_8.out hb); replace HO_9 := Aside0.mk (rb HO_9.out hb); replace HO_435000 := Aside0.mk (rb HO_435000.out hb); replace HO_435001 := Aside0.mk (rb HO_435001.out hb); replace HO_449000 := Aside0.mk (rb HO_449000.out hb); replace HO_449001 := Aside0.mk (rb HO_449001.out hb); replace HO_457000 := Aside0.mk (rb HO_457000.out hb); replace HO_457001 := Aside0.mk (rb HO_457001.out hb); replace BK434 := Aside0.mk (bb BK434.out hb); replace BK448 := Aside0.mk (bb BK448.out hb); replace BK456 := Aside0.mk (bb BK456.out hb); replace HB := Aside0.mk (below_step (by exact jB HB.out) hb); (try clear hb); (try clear hb2); (try clear hk); (try clear hi)) | ((with_reducible refine gate_dst (N := 72) rfl ?_); (try (refine gate_guard (by rfl) ?_; dsimp only)); refine Kd.R_lit (Kd.int .i64) _ 3 ?hg (N := 72) ?hd (xs := ([] : List Int)) (inner := []) (ok := fun _ => True) (okp := fun _ => True) ?hr ?hp (fun _ hk => hk) trivial (Below.refl _ _) (Nat.le_refl _) (by simp) ?_; (case hd => rfl); (case hg => rfl); (case hr => first | (go_simp; done) | (go_simp; rfl)); (case hp => exact (Reps.none _ _)); intro v502 w75 ho76 hb hg_ hnew_; clear hg_ hnew_; (first | rw [← Ny501.out] at ho76 | (simp only [Int.reduceToNat] at ho76; rw [← Ny501.out] at ho76)); replace HO_6 := Aside0.mk (Kd.N_elder' (by (with_reducible repeat (first | apply Kd.N_alloc | apply Kd.N_drewN | apply Kd.N_drew)); exact HO_6.out) (Kd.R_base ho76) hb); have HO503 := Aside0.mk (Kd.R_lower (Kd.R_new' (Kd.R_new' (Kd.R_new' (Kd.R_new' (Kd.R_new' (Kd.R_new' (Kd.R_new' (Kd.R_new' ho76 (rl HO_8.out)) (rl HO_9.out)) (rl HO_435000.out)) (rl HO_435001.out)) (rl HO_449000.out)) (rl HO_449001.out)) (rl HO_457000.out)) (rl HO_457001.out)) (below_size (by exact jB HB.out))); replace HO_8 := Aside0.mk (Kd.R_elder' (by exact lR HO_8.out) (Kd.R_base ho76) hb); replace HO_9 := Aside0.mk (Kd.R_elder' (by exact lR HO_9.out) (Kd.R_base ho76) hb); replace HO_435000 := Aside0.mk (Kd.R_elder' (by exact lR HO_435000.out) (Kd.R_base ho76) hb); replace HO_435001 := Aside0.mk (Kd.R_elder' (by exact lR HO_435001.out) (Kd.R_base ho76) hb); replace HO_449000 := Aside0.mk (Kd.R_elder' (by exact lR HO_449000.out) (Kd.R_base ho76) hb); replace HO_449001 := Aside0.mk (Kd.R_elder' (by exact lR HO_449001.out) (Kd.R_base ho76) hb); replace HO_457000 := Aside0.mk (Kd.R_elder' (by exact lR HO_457000.out) (Kd.R_base ho76) hb); replace HO_457001 := Aside0.mk (Kd.R_elder' (by exact lR HO_457001.out) (Kd.R_base ho76) hb); replace BK434 := Aside0.mk (bb BK434.out hb); replace BK448 := Aside0.mk (bb BK448.out hb); replace BK456 := Aside0.mk (bb BK456.out hb); replace HB := Aside0.mk (below_step (by exact jB HB.out) hb); clear hb ho76))
         go_loopg [14, 15] kj14 (fun kq v14 v15 w' => ∃ (x14_3 : List Int) (x15_3 : Int), v15 = .int .i64 x15_3 ∧ Aside0 (laws_FnFrmInto.l0 kq t431 t442 t445 t498 x14_3 x15_3 t424 t427 t430 = some r) ∧ Aside0 (kq ≤ kj14) ∧ Aside0 (Kd.N k25 25 w' w.heap.size (fun k_ => some k_ ≠ ((.slice Ao72 t442.length co72) : Value).ownBlock ∧ some k_ ≠ ((.slice Ao73 t445.length co73) : Value).ownBlock ∧ some k_ ≠ (v14 : Value).ownBlock ∧ some k_ ≠ ((.slice Ao18 t424.length co18) : Value).ownBlock ∧ some k_ ≠ ((.slice Ao20 t427.length co20) : Value).ownBlock ∧ some k_ ≠ ((.slice Ao23 t435.length co23) : Value).ownBlock ∧ some k_ ≠ ((.slice Ao26 t438.length co26) : Value).ownBlock ∧ some k_ ≠ ((.slice Ao31 t449.length co31) : Value).ownBlock ∧ some k_ ≠ ((.slice Ao35 t452.length co35) : Value).ownBlock ∧ k_ ≠ gb434 ∧ k_ ≠ gb448 ∧ k_ ≠ gb456) (.slice Ao28 t431.length co28) t431) ∧ Aside0 (Kd.R (Kd.int .i64) 3 w' w.heap.size (fun k_ => some k_ ≠ ((.slice Ao73 t445.length co73) : Value).ownBlock ∧ some k_ ≠ (v14 : Value).ownBlock ∧ some k_ ≠ ((.slice Ao18 t424.length co18) : Value).ownBlock ∧ some k_ ≠ ((.slice Ao20 t427.length co20) : Value).ownBlock ∧ some k_ ≠ ((.slice Ao23 t435.length co23) : Value).ownBlock ∧ some k_ ≠ ((.slice Ao26 t438.length co26) : Value).ownBlock ∧ some k_ ≠ ((.slice Ao31 t449.length co31) : Value).ownBlock ∧ some k_ ≠ ((.slice Ao35 t452.length co35) : Value).ownBlock) (.slice Ao72 t442.length co72) t442) ∧ Aside0 (Kd.R (Kd.int .i64) 3 w' w.heap.size (fun k_ => some k_ ≠ ((.slice Ao72 t442.length co72) : Value).ownBlock ∧ some k_ ≠ (v14 : Value).ownBlock ∧ some k_ ≠ ((.slice Ao18 t424.length co18) : Value).ownBlock ∧ some k_ ≠ ((.slice Ao20 t427.length co20) : Value).ownBlock ∧ some k_ ≠ ((.slice Ao23 t435.length co23) : Value).ownBlock ∧ some k_ ≠ ((.slice Ao26 t438.length co26) : Value).ownBlock ∧ some k_ ≠ ((.slice Ao31 t449.length co31) : Value).ownBlock ∧ some k_ ≠ ((.slice Ao35 t452.length co35) : Value).ownBlock) (.slice Ao73 t445.length co73) t445) ∧ Aside0 (Kd.R (Kd.int .i64) 3 w' w.heap.size (fun k_ => some k_ ≠ ((.slice Ao72 t442.length co72) : Value).ownBlock ∧ some k_ ≠ ((.slice Ao73 t445.length co73) : Value).ownBlock ∧ some k_ ≠ ((.slice Ao18 t424.length co18) : Value).ownBlock ∧ some k_ ≠ ((.slice Ao20 t427.length co20) : Value).ownBlock ∧ some k_ ≠ ((.slice Ao23 t435.length co23) : Value).ownBlock ∧ some k_ ≠ ((.slice Ao26 t438.length co26) : Value).ownBlock ∧ some k_ ≠ ((.slice Ao31 t449.length co31) : Value).ownBlock ∧ some k_ ≠ ((.slice Ao35 t452.length co35) : Value).ownBlock) v14 x14_3) ∧ Aside0 (Kd.R (Kd.int .i64) 3 w' w.heap.size (fun k_ => some k_ ≠ ((.slice Ao72 t442.length co72) : Value).ownBlock ∧ some k_ ≠ ((.slice Ao73 t445.length co73) : Value).ownBlock ∧ some k_ ≠ (v14 : Value).ownBlock ∧ some k_ ≠ ((.slice Ao20 t427.length co20) : Value).ownBlock ∧ some k_ ≠ ((.slice Ao23 t435.length co23) : Value).ownBlock ∧ some k_ ≠ ((.slice Ao26 t438.length co26) : Value).ownBlock ∧ some k_ ≠ ((.slice Ao31 t449.length co31) : Value).ownBlock ∧ some k_ ≠ ((.slice Ao35 t452.length co35) : Value).ownBlock) (.slice Ao18 t424.length co18) t424) ∧ Aside0 (Kd.R (Kd.int .i64) 3 w' w.heap.size (fun k_ => some k_ ≠ ((.slice Ao72 t442.length co72) : Value).ownBlock ∧ some k_ ≠ ((.slice Ao73 t445.length co73) : Value).ownBlock ∧ some k_ ≠ (v14 : Value).ownBlock ∧ some k_ ≠ ((.slice Ao18 t424.length co18) : Value).ownBlock ∧ some k_ ≠ ((.slice Ao23 t435.length co23) : Value).ownBlock ∧ some k_ ≠ ((.slice Ao26 t438.length co26) : Value).ownBlock ∧ some k_ ≠ ((.slice Ao31 t449.length co31) : Value).ownBlock ∧ some k_ ≠ ((.slice Ao35 t452.length co35) : Value).ownBlock) (.slice Ao20 t427.length co20) t427) ∧ Aside0 (Kd.R (Kd.int .i64) 3 w' w.heap.size (fun k_ => some k_ ≠ ((.slice Ao72 t442.length co72) : Value).ownBlock ∧ some k_ ≠ ((.slice Ao73 t445.length co73) : Value).ownBlock ∧ some k_ ≠ (v14 : Value).ownBlock ∧ some k_ ≠ ((.slice Ao18 t424.length co18) : Value).ownBlock ∧ some k_ ≠ ((.slice Ao20 t427.length co20) : Value).ownBlock ∧ some k_ ≠ ((.slice Ao26 t438.length co26) : Value).ownBlock ∧ some k_ ≠ ((.slice Ao31 t449.length co31) : Value).ownBlock ∧ some k_ ≠ ((.slice Ao35 t452.length co35) : Value).ownBlock) (.slice Ao23 t435.length co23) t435) ∧ Aside0 (Kd.R (Kd.int .i64) 3 w' w.heap.size (fun k_ => some k_ ≠ ((.slice Ao72 t442.length co72) : Value).ownBlock ∧ some k_ ≠ ((.slice Ao73 t445.length co73) : Value).ownBlock ∧ some k_ ≠ (v14 : Value).ownBlock ∧ some k_ ≠ ((.slice Ao18 t424.length co18) : Value).ownBlock ∧ some k_ ≠ ((.slice Ao20 t427.length co20) : Value).ownBlock ∧ some k_ ≠ ((.slice Ao23 t435.length co23) : Value).ownBlock ∧ some k_ ≠ ((.slice Ao31 t449.length co31) : Value).ownBlock ∧ some k_ ≠ ((.slice Ao35 t452.length co35) : Value).ownBlock) (.slice Ao26 t438.length co26) t438) ∧ Aside0 (Kd.R (Kd.int .i64) 3 w' w.heap.size (fun k_ => some k_ ≠ ((.slice Ao72 t442.length co72) : Value).ownBlock ∧ some k_ ≠ ((.slice Ao73 t445.length co73) : Value).ownBlock ∧ some k_ ≠ (v14 : Value).ownBlock ∧ some k_ ≠ ((.slice Ao18 t424.length co18) : Value).ownBlock ∧ some k_ ≠ ((.slice Ao20 t427.length co20) : Value).ownBlock ∧ some k_ ≠ ((.slice Ao23 t435.length co23) : Value).ownBlock ∧ some k_ ≠ ((.slice Ao26 t438.length co26) : Value).ownBlock ∧ some k_ ≠ ((.slice Ao35 t452.length co35) : Value).ownBlock) (.slice Ao31 t449.length co31) t449) ∧ Aside0 (Kd.R (Kd.int .i64) 3 w' w.heap.size (fun k_ => some k_ ≠ ((.slice Ao72 t442.length co72) : Value).ownBlock ∧ some k_ ≠ ((.slice Ao73 t445.length co73) : Value).ownBlock ∧ some k_ ≠ (v14 : Value).ownBlock ∧ some k_ ≠ ((.slice Ao18 t424.length co18) : Value).ownBlock ∧ some k_ ≠ ((.slice Ao20 t427.length co20) : Value).ownBlock ∧ some k_ ≠ ((.slice Ao23 t435.length co23) : Value).ownBlock ∧ some k_ ≠ ((.slice Ao26 t438.length co26) : Value).ownBlock ∧ some k_ ≠ ((.slice Ao31 t449.length co31) : Value).ownBlock) (.slice Ao35 t452.length co35) t452) ∧ Aside0 (w'.heap[gb434]? = some (.cells #[(.slice Ao18 t424.length co18), (.slice Ao20 t427.length co20), .int .i64 t430] 25 (0, 0))) ∧ Aside0 (w'.heap[gb448]? = some (.cells #[(.slice Ao23 t435.length co23), (.slice Ao26 t438.length co26), .int .i64 t441] 25 (0, 0))) ∧ Aside0 (w'.heap[gb456]? = some (.cells #[(.slice Ao31 t449.length co31), (.slice Ao35 t452.length co35), .int .i64 t455] 25 (0, 0))) ∧ Aside0 (Below w.heap.size w w'))
         case atStart => exact ⟨(y501), (0), (by first | rfl | (simp; done) | (simp [*]; done)), H', ⟨Nat.le_refl _⟩, ⟨by (with_reducible repeat (first | apply Kd.N_alloc | apply Kd.N_drewN | apply Kd.N_drew)); exact Kd.N_mono HO_6.out (fun _ hk => ⟨hk.1.1, ⟨hk.1.2.1, ⟨hk.2, ⟨hk.1.2.2.1, ⟨hk.1.2.2.2.1, ⟨hk.1.2.2.2.2.1, ⟨hk.1.2.2.2.2.2.1, ⟨hk.1.2.2.2.2.2.2.1, ⟨hk.1.2.2.2.2.2.2.2.1, ⟨hk.1.2.2.2.2.2.2.2.2.1, ⟨hk.1.2.2.2.2.2.2.2.2.2.1, hk.1.2.2.2.2.2.2.2.2.2.2⟩⟩⟩⟩⟩⟩⟩⟩⟩⟩⟩)⟩, ⟨by exact lR <| Kd.R_mono HO_8.out (fun _ hk => ⟨hk.1.1, ⟨hk.2, ⟨hk.1.2.1, ⟨hk.1.2.2.1, ⟨hk.1.2.2.2.1, ⟨hk.1.2.2.2.2.1, ⟨hk.1.2.2.2.2.2.1, hk.1.2.2.2.2.2.2⟩⟩⟩⟩⟩⟩⟩)⟩, ⟨by exact lR <| Kd.R_mono HO_9.out (fun _ hk => ⟨hk.1.1, ⟨hk.2, ⟨hk.1.2.1, ⟨hk.1.2.2.1, ⟨hk.1.2.2.2.1, ⟨hk.1.2.2.2.2.1, ⟨hk.1.2.2.2.2.2.1, hk.1.2.2.2.2.2.2⟩⟩⟩⟩⟩⟩⟩)⟩, ⟨by exact lR <| Kd.R_mono HO503.out (fun _ hk => ⟨hk.1.1.1.1.1.1.1.2, ⟨hk.1.1.1.1.1.1.2, ⟨hk.1.1.1.1.1.2, ⟨hk.1.1.1.1.2, ⟨hk.1.1.1.2, ⟨hk.1.1.2, ⟨hk.1.2, hk.2⟩⟩⟩⟩⟩⟩⟩)⟩, ⟨by exact lR <| Kd.R_mono HO_435000.out (fun _ hk => ⟨hk.1.1, ⟨hk.1.2.1, ⟨hk.2, ⟨hk.1.2.2.1, ⟨hk.1.2.2.2.1, ⟨hk.1.2.2.2.2.1, ⟨hk.1.2.2.2.2.2.1, hk.1.2.2.2.2.2.2⟩⟩⟩⟩⟩⟩⟩)⟩, ⟨by exact lR <| Kd.R_mono HO_435001.out (fun _ hk => ⟨hk.1.1, ⟨hk.1.2.1, ⟨hk.2, ⟨hk.1.2.2.1, ⟨hk.1.2.2.2.1, ⟨hk.1.2.2.2.2.1, ⟨hk.1.2.2.2.2.2.1, hk.1.2.2.2.2.2.2⟩⟩⟩⟩⟩⟩⟩)⟩, ⟨by exact lR <| Kd.R_mono HO_449000.out (fun _ hk => ⟨hk.1.1, ⟨hk.1.2.1, ⟨hk.2, ⟨hk.1.2.2.1, ⟨hk.1.2.2.2.1, ⟨hk.1.2.2.2.2.1, ⟨hk.1.2.2.2.2.2.1, hk.1.2.2.2.2.2.2⟩⟩⟩⟩⟩⟩⟩)⟩, ⟨by exact lR <| Kd.R_mono HO_449001.out (fun _ hk => ⟨hk.1.1, ⟨hk.1.2.1, ⟨hk.2, ⟨hk.1.2.2.1, ⟨hk.1.2.2.2.1, ⟨hk.1.2.2.2.2.1, ⟨hk.1.2.2.2.2.2.1, hk.1.2.2.2.2.2.2⟩⟩⟩⟩⟩⟩⟩)⟩, ⟨by exact lR <| Kd.R_mono HO_457000.out (fun _ hk => ⟨hk.1.1, ⟨hk.1.2.1, ⟨hk.2, ⟨hk.1.2.2.1, ⟨hk.1.2.2.2.1, ⟨hk.1.2.2.2.2.1, ⟨hk.1.2.2.2.2.2.1, hk.1.2.2.2.2.2.2⟩⟩⟩⟩⟩⟩⟩)⟩, ⟨by exact lR <| Kd.R_mono HO_457001.out (fun _ hk => ⟨hk.1.1, ⟨hk.1.2.1, ⟨hk.2, ⟨hk.1.2.2.1, ⟨hk.1.2.2.2.1, ⟨hk.1.2.2.2.2.1, ⟨hk.1.2.2.2.2.2.1, hk.1.2.2.2.2.2.2⟩⟩⟩⟩⟩⟩⟩)⟩, ⟨by exact lK <| BK434.out⟩, ⟨by exact lK <| BK448.out⟩, ⟨by exact lK <| BK456.out⟩, ⟨by exact jB HB.out⟩⟩
         case round =>
          clear H'
          try clear c1
          try clear p2
          try clear c3
          try clear c5
          try clear c6
          try clear c7
          try clear c8
          try clear c10
          try clear c11
          try clear c12
          try clear c54
          try clear c66
          try clear c68
          try clear c69
          try clear c70
          try clear hcz71_0
          try clear hcz71_1
          try clear hcz71_2
          try clear hfz71_0
          try clear hfz71_1
          try clear hfz71_2
          try clear p2
          obtain ⟨x14_3, x15_3, rfl, HA, HK3, HO_6, HO_8, HO_9, HO_14, HO_435000, HO_435001, HO_449000, HO_449001, HO_457000, HO_457001, BK434, BK448, BK456, HB⟩ := hrel
          cases gk with
          | zero => exact absurd HA.out (by simp [laws_FnFrmInto.l0])
          | succ k3 =>
           have H := HA.out
           clear HA
           simp only [laws_FnFrmInto.l0] at H
           by_cases c77 : x15_3 < 3
           ·rw [if_pos c77] at H
            have c77b0 : decide (x15_3 < 3) = true := decide_eq_true c77
            clear c77
            by_cases c78 : 0 ≤ x15_3
            ·rw [if_pos c78] at H
             have c78b0 : decide (0 ≤ x15_3) = true := decide_eq_true c78
             clear c78
             by_cases c79 : x15_3 < (t431.length : Int)
             ·rw [if_pos c79] at H
              have c79b0 : decide (x15_3 < (t431.length : Int)) = true := decide_eq_true c79
              clear c79
              replace H := Option.bind_eq_some_iff.mp H
              obtain ⟨⟨t505, t506⟩, A800, H⟩ := H
              replace H : (if x14_3.length < 17592186044416 then (laws_FnFrmInto.l0 k3 t431 t442 t445 t498 (x14_3 ++ [t505]) (wrap64 (x15_3 + 1)) t424 t427 t430) else (none)) = some r := H
              have A80 := Aside0.mk A800
              clear A800
              by_cases c81 : x14_3.length < 17592186044416
              ·rw [if_pos c81] at H
               have LMc81 := Aside0.mk c81
               clear c81
               obtain ⟨y507, hy507⟩ : ∃ y_ : List Int, y_ = (x14_3 ++ [t505]) := ⟨_, rfl⟩
               replace H : (laws_FnFrmInto.l0 k3 t431 t442 t445 t498 y507 (wrap64 (x15_3 + 1)) t424 t427 t430) = some r := by first | (rw [hy507]; with_reducible exact H) | (have H2_ := (Option.bind_some _ _).symm.trans H; rw [hy507]; with_reducible exact H2_) | (have H2_ := (Option.bind_some _ _).symm.trans H; with_reducible exact H2_) | with_reducible exact H | (rw [hy507]; exact H) | exact H
               have Ny507 := Aside0.mk hy507
               clear hy507
               have H' := Aside0.mk H
               clear H
               have p504 : 0 ≤ (x15_3 : Int) := of_decide_eq_true (by first | (with_reducible assumption) | assumption)
               have q504 : x15_3 < (t431.length : Int) := of_decide_eq_true (by first | (with_reducible assumption) | assumption)
               obtain ⟨ad504, A504_0, c504_0, A504_1, c504_1, e504, hx504_0, hx504_1, hx504_2, hl504_0, hi504_0, hl504_1, hi504_1⟩ := at_T25 (Kd.N_reads' HO_6.out).2.2 x15_3 p504 q504
               cases e504
               obtain ⟨ce504, hce504, hMe504, hcc504⟩ := Kd.N_get HO_6.out z25 x15_3 p504 (by first | exact q504 | exact of_decide_eq_true (by first | (with_reducible assumption) | assumption) | (have e_ := (Kd.N_reads' HO_6.out).1; omega))
               obtain ⟨ua504_0, uc504_0, ua504_1, uc504_1, rfl, ul504_0, ge504_0, ul504_1, ge504_1⟩ := k25_openF hMe504
               have hv504_0 := hcc504 0 _ rfl
               rw [Nat.add_zero] at hv504_0
               replace hv504_0 := Option.some.inj (hv504_0.symm.trans hx504_0)
               injection hv504_0 with hva_ hvn_ hvc_
               rw [hva_] at ge504_0
               rw [hvc_] at ul504_0
               have HL504_0 := Aside0.mk (show Kd.V (Kd.int .i64) 3 _ w.heap.size _ _ ((rd_T25 t431 x15_3).f0) from Kd.V_mk ul504_0 ge504_0)
               clear hva_ hvn_ hvc_ ge504_0 ul504_0
               have hv504_1 := hcc504 1 _ rfl
               rw [add_field _ _ 1 (by omega)] at hv504_1
               replace hv504_1 := Option.some.inj (hv504_1.symm.trans hx504_1)
               injection hv504_1 with hva_ hvn_ hvc_
               rw [hva_] at ge504_1
               rw [hvc_] at ul504_1
               have HL504_1 := Aside0.mk (show Kd.V (Kd.int .i64) 3 _ w.heap.size _ _ ((rd_T25 t431 x15_3).f1) from Kd.V_mk ul504_1 ge504_1)
               clear hva_ hvn_ hvc_ ge504_1 ul504_1 hcc504 hce504
               have HR504_0 := Aside0.mk hi504_0
               have HC504_0 := Aside0.mk hl504_0
               clear hi504_0 hl504_0
               have HR504_1 := Aside0.mk hi504_1
               have HC504_1 := Aside0.mk hl504_1
               clear hi504_1 hl504_1
               replace p504 := eq_true p504
               replace q504 := eq_true q504
               go_wp2_with (first | ((with_reducible refine gate_callee (f := 12) rfl ?_); refine goesL_ (some 84) rfl rfl Try.func12 (by kernel_rfl) rfl #[.agg #[.slice A504_0 ((rd_T25 t431 x15_3).f0).length c504_0, .slice A504_1 ((rd_T25 t431 x15_3).f1).length c504_1, .int .i64 ((rd_T25 t431 x15_3).f2)], .slice Ao72 t442.length co72, .slice Ao73 t445.length co73] rfl (by (try simp only [mA, mC, mN]); first | done | rfl | (simp only [ld, lt]; rfl)) ?_; (with_reducible refine (impl_FrmAt.calls k3 _ _ ((rd_T25 t431 x15_3).f0) _ _ ((rd_T25 t431 x15_3).f1) ((rd_T25 t431 x15_3).f2) _ _ t442 _ _ t445 t505 t506 _ ?side1 ?side2 ?side3 ?side4 ?side5 ?side6 ?side7 ?side8 A80.out).mono ?_); (case side1 => repeat (first | exact (by repeat (first | (with_reducible exact HR504_0.out) | (with_reducible refine Kd.C_alloc ?_ _) | (with_reducible refine Kd.C_drewN ?_ _) | (with_reducible refine Kd.C_drew ?_) | exact HR504_0.out)) | (with_reducible refine Kd.C_alloc ?_ _) | (with_reducible refine Kd.C_drewN ?_ _) | (with_reducible refine Kd.C_drew ?_))); (case side2 => exact HC504_0.out); (case side3 => repeat (first | exact (by repeat (first | (with_reducible exact HR504_1.out) | (with_reducible refine Kd.C_alloc ?_ _) | (with_reducible refine Kd.C_drewN ?_ _) | (with_reducible refine Kd.C_drew ?_) | exact HR504_1.out)) | (with_reducible refine Kd.C_alloc ?_ _) | (with_reducible refine Kd.C_drewN ?_ _) | (with_reducible refine Kd.C_drew ?_))); (case side4 => exact HC504_1.out); (case side5 => exact lC <| (Kd.R_reads' HO_8.out).2.2); (case side6 => exact (Kd.R_reads' HO_8.out).2.1); (case side7 => exact lC <| (Kd.R_reads' HO_9.out).2.2); (case side8 => exact (Kd.R_reads' HO_9.out).2.1); rintro e w82 ⟨rfl, hb⟩; refine ⟨_, rfl, ?_⟩; replace HO_6 := Aside0.mk (Kd.N_below (by (with_reducible repeat (first | apply Kd.N_alloc | apply Kd.N_drewN | apply Kd.N_drew)); exact HO_6.out) hb); replace HO_8 := Aside0.mk (rb HO_8.out hb); replace HO_9 := Aside0.mk (rb HO_9.out hb); replace HO_14 := Aside0.mk (rb HO_14.out hb); replace HO_435000 := Aside0.mk (rb HO_435000.out hb); replace HO_435001 := Aside0.mk (rb HO_435001.out hb); replace HO_449000 := Aside0.mk (rb HO_449000.out hb); replace HO_449001 := Aside0.mk (rb HO_449001.out hb); replace HO_457000 := Aside0.mk (rb HO_457000.out hb); replace HO_457001 := Aside0.mk (rb HO_457001.out hb); replace HL504_0 := Aside0.mk (Kd.V_below (by (with_reducible repeat (first | apply Kd.V_alloc | apply Kd.V_drewN | apply Kd.V_drew)); exact HL504_0.out) hb); replace HL504_1 := Aside0.mk (Kd.V_below (by (with_reducible repeat (first | apply Kd.V_alloc | apply Kd.V_drewN | apply Kd.V_drew)); exact HL504_1.out) hb); replace BK434 := Aside0.mk (bb BK434.out hb); replace BK448 := Aside0.mk (bb BK448.out hb); replace BK456 := Aside0.mk (bb BK456.out hb); replace HR504_0 := Aside0.mk (Kd.C_below (by repeat (first | (with_reducible exact HR504_0.out) | (with_reducible refine Kd.C_alloc ?_ _) | (with_reducible refine Kd.C_drewN ?_ _) | (with_reducible refine Kd.C_drew ?_) | exact HR504_0.out)) hb); replace HR504_1 := Aside0.mk (Kd.C_below (by repeat (first | (with_reducible exact HR504_1.out) | (with_reducible refine Kd.C_alloc ?_ _) | (with_reducible refine Kd.C_drewN ?_ _) | (with_reducible refine Kd.C_drew ?_) | exact HR504_1.out)) hb); replace HB := Aside0.mk (below_step (by exact jB HB.out) hb); (try clear hb); (try clear hb2); (try clear hk); (try clear hi)) | ((with_reducible refine gate_builtin (b := .append) (xs := #[.tmp 87, .tmp 89]) rfl ?_); (try (refine gate_guard (by rfl) ?_; dsimp only)); at_builtin; refine Kd.R_append (Kd.int .i64) (w0 := w) w.heap.size rfl (.tmp 87) (.tmp 89) 23 3 (.int .i64 0) 8 rfl Try.underlying23 info3 rfl (by decide) (by omega) u14 x14_3 t505 [.int .i64 t505] (fun k_ => some k_ ≠ (.slice Ao72 t442.length co72 : Value).ownBlock ∧ some k_ ≠ (.slice Ao73 t445.length co73 : Value).ownBlock ∧ some k_ ≠ (.slice Ao18 t424.length co18 : Value).ownBlock ∧ some k_ ≠ (.slice Ao20 t427.length co20 : Value).ownBlock ∧ some k_ ≠ (.slice Ao23 t435.length co23 : Value).ownBlock ∧ some k_ ≠ (.slice Ao26 t438.length co26 : Value).ownBlock ∧ some k_ ≠ (.slice Ao31 t449.length co31 : Value).ownBlock ∧ some k_ ≠ (.slice Ao35 t452.length co35 : Value).ownBlock) (fun _ => False) rfl rfl ?aP (fun _ hk => hk.elim) ?aF ?aO ?aB ?aS ?aL ?_; (case aP => exact rfl); (case aB => exact (by exact jB HB.out)); (case aF => exact (fun k_ hk => ⟨Kd.fresh' (rl HO_8.out) k_ hk, Kd.fresh' (rl HO_9.out) k_ hk, Kd.fresh' (rl HO_435000.out) k_ hk, Kd.fresh' (rl HO_435001.out) k_ hk, Kd.fresh' (rl HO_449000.out) k_ hk, Kd.fresh' (rl HO_449001.out) k_ hk, Kd.fresh' (rl HO_457000.out) k_ hk, Kd.fresh' (rl HO_457001.out) k_ hk⟩)); (case aO => exact (by exact lR HO_14.out)); (case aS => exact (below_size (by exact jB HB.out))); (case aL => have := LMc81.out; omega); intro v508 w83 ho hb hg hat; rw [← Ny507.out] at ho; replace HO_6 := Aside0.mk (Kd.N_afterv (ok := (fun k_ => some k_ ≠ (.slice Ao72 t442.length co72 : Value).ownBlock ∧ some k_ ≠ (.slice Ao73 t445.length co73 : Value).ownBlock ∧ some k_ ≠ (.slice Ao18 t424.length co18 : Value).ownBlock ∧ some k_ ≠ (.slice Ao20 t427.length co20 : Value).ownBlock ∧ some k_ ≠ (.slice Ao23 t435.length co23 : Value).ownBlock ∧ some k_ ≠ (.slice Ao26 t438.length co26 : Value).ownBlock ∧ some k_ ≠ (.slice Ao31 t449.length co31 : Value).ownBlock ∧ some k_ ≠ (.slice Ao35 t452.length co35 : Value).ownBlock ∧ k_ ≠ gb434 ∧ k_ ≠ gb448 ∧ k_ ≠ gb456)) (by (with_reducible repeat (first | apply Kd.N_alloc | apply Kd.N_drewN | apply Kd.N_drew)); exact Kd.N_mono HO_6.out (fun _ hk => ⟨⟨hk.1, ⟨hk.2.1, ⟨hk.2.2.2.1, ⟨hk.2.2.2.2.1, ⟨hk.2.2.2.2.2.1, ⟨hk.2.2.2.2.2.2.1, ⟨hk.2.2.2.2.2.2.2.1, ⟨hk.2.2.2.2.2.2.2.2.1, ⟨hk.2.2.2.2.2.2.2.2.2.1, ⟨hk.2.2.2.2.2.2.2.2.2.2.1, hk.2.2.2.2.2.2.2.2.2.2.2⟩⟩⟩⟩⟩⟩⟩⟩⟩⟩, hk.2.2.1⟩)) hg hat); replace HO_8 := Aside0.mk (Kd.R_after (ok := (fun k_ => some k_ ≠ (.slice Ao73 t445.length co73 : Value).ownBlock ∧ some k_ ≠ (.slice Ao18 t424.length co18 : Value).ownBlock ∧ some k_ ≠ (.slice Ao20 t427.length co20 : Value).ownBlock ∧ some k_ ≠ (.slice Ao23 t435.length co23 : Value).ownBlock ∧ some k_ ≠ (.slice Ao26 t438.length co26 : Value).ownBlock ∧ some k_ ≠ (.slice Ao31 t449.length co31 : Value).ownBlock ∧ some k_ ≠ (.slice Ao35 t452.length co35 : Value).ownBlock)) (by exact lR <| Kd.R_mono HO_8.out (fun _ hk => ⟨⟨hk.1, ⟨hk.2.2.1, ⟨hk.2.2.2.1, ⟨hk.2.2.2.2.1, ⟨hk.2.2.2.2.2.1, ⟨hk.2.2.2.2.2.2.1, hk.2.2.2.2.2.2.2⟩⟩⟩⟩⟩⟩, hk.2.1⟩)) hg hat); replace HO_9 := Aside0.mk (Kd.R_after (ok := (fun k_ => some k_ ≠ (.slice Ao72 t442.length co72 : Value).ownBlock ∧ some k_ ≠ (.slice Ao18 t424.length co18 : Value).ownBlock ∧ some k_ ≠ (.slice Ao20 t427.length co20 : Value).ownBlock ∧ some k_ ≠ (.slice Ao23 t435.length co23 : Value).ownBlock ∧ some k_ ≠ (.slice Ao26 t438.length co26 : Value).ownBlock ∧ some k_ ≠ (.slice Ao31 t449.length co31 : Value).ownBlock ∧ some k_ ≠ (.slice Ao35 t452.length co35 : Value).ownBlock)) (by exact lR <| Kd.R_mono HO_9.out (fun _ hk => ⟨⟨hk.1, ⟨hk.2.2.1, ⟨hk.2.2.2.1, ⟨hk.2.2.2.2.1, ⟨hk.2.2.2.2.2.1, ⟨hk.2.2.2.2.2.2.1, hk.2.2.2.2.2.2.2⟩⟩⟩⟩⟩⟩, hk.2.1⟩)) hg hat); replace HO_435000 := Aside0.mk (Kd.R_after (ok := (fun k_ => some k_ ≠ (.slice Ao72 t442.length co72 : Value).ownBlock ∧ some k_ ≠ (.slice Ao73 t445.length co73 : Value).ownBlock ∧ some k_ ≠ (.slice Ao20 t427.length co20 : Value).ownBlock ∧ some k_ ≠ (.slice Ao23 t435.length co23 : Value).ownBlock ∧ some k_ ≠ (.slice Ao26 t438.length co26 : Value).ownBlock ∧ some k_ ≠ (.slice Ao31 t449.length co31 : Value).ownBlock ∧ some k_ ≠ (.slice Ao35 t452.length co35 : Value).ownBlock)) (by exact lR <| Kd.R_mono HO_435000.out (fun _ hk => ⟨⟨hk.1, ⟨hk.2.1, ⟨hk.2.2.2.1, ⟨hk.2.2.2.2.1, ⟨hk.2.2.2.2.2.1, ⟨hk.2.2.2.2.2.2.1, hk.2.2.2.2.2.2.2⟩⟩⟩⟩⟩⟩, hk.2.2.1⟩)) hg hat); replace HO_435001 := Aside0.mk (Kd.R_after (ok := (fun k_ => some k_ ≠ (.slice Ao72 t442.length co72 : Value).ownBlock ∧ some k_ ≠ (.slice Ao73 t445.length co73 : Value).ownBlock ∧ some k_ ≠ (.slice Ao18 t424.length co18 : Value).ownBlock ∧ some k_ ≠ (.slice Ao23 t435.length co23 : Value).ownBlock ∧ some k_ ≠ (.slice Ao26 t438.length co26 : Value).ownBlock ∧ some k_ ≠ (.slice Ao31 t449.length co31 : Value).ownBlock ∧ some k_ ≠ (.slice Ao35 t452.length co35 : Value).ownBlock)) (by exact lR <| Kd.R_mono HO_435001.out (fun _ hk => ⟨⟨hk.1, ⟨hk.2.1, ⟨hk.2.2.2.1, ⟨hk.2.2.2.2.1, ⟨hk.2.2.2.2.2.1, ⟨hk.2.2.2.2.2.2.1, hk.2.2.2.2.2.2.2⟩⟩⟩⟩⟩⟩, hk.2.2.1⟩)) hg hat); replace HO_449000 := Aside0.mk (Kd.R_after (ok := (fun k_ => some k_ ≠ (.slice Ao72 t442.length co72 : Value).ownBlock ∧ some k_ ≠ (.slice Ao73 t445.length co73 : Value).ownBlock ∧ some k_ ≠ (.slice Ao18 t424.length co18 : Value).ownBlock ∧ some k_ ≠ (.slice Ao20 t427.length co20 : Value).ownBlock ∧ some k_ ≠ (.slice Ao26 t438.length co26 : Value).ownBlock ∧ some k_ ≠ (.slice Ao31 t449.length co31 : Value).ownBlock ∧ some k_ ≠ (.slice Ao35 t452.length co35 : Value).ownBlock)) (by exact lR <| Kd.R_mono HO_449000.out (fun _ hk => ⟨⟨hk.1, ⟨hk.2.1, ⟨hk.2.2.2.1, ⟨hk.2.2.2.2.1, ⟨hk.2.2.2.2.2.1, ⟨hk.2.2.2.2.2.2.1, hk.2.2.2.2.2.2.2⟩⟩⟩⟩⟩⟩, hk.2.2.1⟩)) hg hat); replace HO_449001 := Aside0.mk (Kd.R_after (ok := (fun k_ => some k_ ≠ (.slice Ao72 t442.length co72 : Value).ownBlock ∧ some k_ ≠ (.slice Ao73 t445.length co73 : Value).ownBlock ∧ some k_ ≠ (.slice Ao18 t424.length co18 : Value).ownBlock ∧ some k_ ≠ (.slice Ao20 t427.length co20 : Value).ownBlock ∧ some k_ ≠ (.slice Ao23 t435.length co23 : Value).ownBlock ∧ some k_ ≠ (.slice Ao31 t449.length co31 : Value).ownBlock ∧ some k_ ≠ (.slice Ao35 t452.length co35 : Value).ownBlock)) (by exact lR <| Kd.R_mono HO_449001.out (fun _ hk => ⟨⟨hk.1, ⟨hk.2.1, ⟨hk.2.2.2.1, ⟨hk.2.2.2.2.1, ⟨hk.2.2.2.2.2.1, ⟨hk.2.2.2.2.2.2.1, hk.2.2.2.2.2.2.2⟩⟩⟩⟩⟩⟩, hk.2.2.1⟩)) hg hat); replace HO_457000 := Aside0.mk (Kd.R_after (ok := (fun k_ => some k_ ≠ (.slice Ao72 t442.length co72 : Value).ownBlock ∧ some k_ ≠ (.slice Ao73 t445.length co73 : Value).ownBlock ∧ some k_ ≠ (.slice Ao18 t424.length co18 : Value).ownBlock ∧ some k_ ≠ (.slice Ao20 t427.length co20 : Value).ownBlock ∧ some k_ ≠ (.slice Ao23 t435.length co23 : Value).ownBlock ∧ some k_ ≠ (.slice Ao26 t438.length co26 : Value).ownBlock ∧ some k_ ≠ (.slice Ao35 t452.length co35 : Value).ownBlock)) (by exact lR <| Kd.R_mono HO_457000.out (fun _ hk => ⟨⟨hk.1, ⟨hk.2.1, ⟨hk.2.2.2.1, ⟨hk.2.2.2.2.1, ⟨hk.2.2.2.2.2.1, ⟨hk.2.2.2.2.2.2.1, hk.2.2.2.2.2.2.2⟩⟩⟩⟩⟩⟩, hk.2.2.1⟩)) hg hat); replace HO_457001 := Aside0.mk (Kd.R_after (ok := (fun k_ => some k_ ≠ (.slice Ao72 t442.length co72 : Value).ownBlock ∧ some k_ ≠ (.slice Ao73 t445.length co73 : Value).ownBlock ∧ some k_ ≠ (.slice Ao18 t424.length co18 : Value).ownBlock ∧ some k_ ≠ (.slice Ao20 t427.length co20 : Value).ownBlock ∧ some k_ ≠ (.slice Ao23 t435.length co23 : Value).ownBlock ∧ some k_ ≠ (.slice Ao26 t438.length co26 : Value).ownBlock ∧ some k_ ≠ (.slice Ao31 t449.length co31 : Value).ownBlock)) (by exact lR <| Kd.R_mono HO_457001.out (fun _ hk => ⟨⟨hk.1, ⟨hk.2.1, ⟨hk.2.2.2.1, ⟨hk.2.2.2.2.1, ⟨hk.2.2.2.2.2.1, ⟨hk.2.2.2.2.2.2.1, hk.2.2.2.2.2.2.2⟩⟩⟩⟩⟩⟩, hk.2.2.1⟩)) hg hat); replace BK434 := Aside0.mk (blk_grown (g := gb434) (o := .cells #[.slice Ao18 t424.length co18, .slice Ao20 t427.length co20, .int .i64 t430] 25 (0, 0)) (by exact lK BK434.out) hg (Kd.R_ne HO_14.out BK434.out (by decide))); replace BK448 := Aside0.mk (blk_grown (g := gb448) (o := .cells #[.slice Ao23 t435.length co23, .slice Ao26 t438.length co26, .int .i64 t441] 25 (0, 0)) (by exact lK BK448.out) hg (Kd.R_ne HO_14.out BK448.out (by decide))); replace BK456 := Aside0.mk (blk_grown (g := gb456) (o := .cells #[.slice Ao31 t449.length co31, .slice Ao35 t452.length co35, .int .i64 t455] 25 (0, 0)) (by exact lK BK456.out) hg (Kd.R_ne HO_14.out BK456.out (by decide))); replace HL504_0 := Aside0.mk (Kd.V_afterv (ok := (fun k_ => some k_ ≠ (.slice (some ad504) t431.length co28 : Value).ownBlock ∧ some k_ ≠ (.slice Ao72 t442.length co72 : Value).ownBlock ∧ some k_ ≠ (.slice Ao73 t445.length co73 : Value).ownBlock ∧ some k_ ≠ (.slice Ao18 t424.length co18 : Value).ownBlock ∧ some k_ ≠ (.slice Ao20 t427.length co20 : Value).ownBlock ∧ some k_ ≠ (.slice Ao23 t435.length co23 : Value).ownBlock ∧ some k_ ≠ (.slice Ao26 t438.length co26 : Value).ownBlock ∧ some k_ ≠ (.slice Ao31 t449.length co31 : Value).ownBlock ∧ some k_ ≠ (.slice Ao35 t452.length co35 : Value).ownBlock ∧ k_ ≠ gb434 ∧ k_ ≠ gb448 ∧ k_ ≠ gb456)) (by (with_reducible repeat (first | apply Kd.V_alloc | apply Kd.V_drewN | apply Kd.V_drew)); exact Kd.V_mono HL504_0.out (fun _ hk => ⟨⟨hk.2, ⟨hk.1.1, ⟨hk.1.2.1, ⟨hk.1.2.2.2.1, ⟨hk.1.2.2.2.2.1, ⟨hk.1.2.2.2.2.2.1, ⟨hk.1.2.2.2.2.2.2.1, ⟨hk.1.2.2.2.2.2.2.2.1, ⟨hk.1.2.2.2.2.2.2.2.2.1, ⟨hk.1.2.2.2.2.2.2.2.2.2.1, ⟨hk.1.2.2.2.2.2.2.2.2.2.2.1, hk.1.2.2.2.2.2.2.2.2.2.2.2⟩⟩⟩⟩⟩⟩⟩⟩⟩⟩⟩, hk.1.2.2.1⟩)) hg hat); replace HL504_1 := Aside0.mk (Kd.V_afterv (ok := (fun k_ => some k_ ≠ (.slice (some ad504) t431.length co28 : Value).ownBlock ∧ some k_ ≠ (.slice Ao72 t442.length co72 : Value).ownBlock ∧ some k_ ≠ (.slice Ao73 t445.length co73 : Value).ownBlock ∧ some k_ ≠ (.slice Ao18 t424.length co18 : Value).ownBlock ∧ some k_ ≠ (.slice Ao20 t427.length co20 : Value).ownBlock ∧ some k_ ≠ (.slice Ao23 t435.length co23 : Value).ownBlock ∧ some k_ ≠ (.slice Ao26 t438.length co26 : Value).ownBlock ∧ some k_ ≠ (.slice Ao31 t449.length co31 : Value).ownBlock ∧ some k_ ≠ (.slice Ao35 t452.length co35 : Value).ownBlock ∧ k_ ≠ gb434 ∧ k_ ≠ gb448 ∧ k_ ≠ gb456)) (by (with_reducible repeat (first | apply Kd.V_alloc | apply Kd.V_drewN | apply Kd.V_drew)); exact Kd.V_mono HL504_1.out (fun _ hk => ⟨⟨hk.2, ⟨hk.1.1, ⟨hk.1.2.1, ⟨hk.1.2.2.2.1, ⟨hk.1.2.2.2.2.1, ⟨hk.1.2.2.2.2.2.1, ⟨hk.1.2.2.2.2.2.2.1, ⟨hk.1.2.2.2.2.2.2.2.1, ⟨hk.1.2.2.2.2.2.2.2.2.1, ⟨hk.1.2.2.2.2.2.2.2.2.2.1, ⟨hk.1.2.2.2.2.2.2.2.2.2.2.1, hk.1.2.2.2.2.2.2.2.2.2.2.2⟩⟩⟩⟩⟩⟩⟩⟩⟩⟩⟩, hk.1.2.2.1⟩)) hg hat); replace HB := Aside0.mk (hb); have HO509 := Aside0.mk (ho); clear HO_14 ho hb hg hat))
               go_roundg k3
               case measure => have := HJ2.out; have := HJ14.out; have := HK3.out; omega
               case rel => exact ⟨(y507), (wrap64 (x15_3 + 1)), (by first | rfl | (simp; done) | (simp [*]; done)), H', ⟨by have := HJ2.out; have := HJ14.out; have := HK3.out; omega⟩, ⟨by (with_reducible repeat (first | apply Kd.N_alloc | apply Kd.N_drewN | apply Kd.N_drew)); exact Kd.N_mono HO_6.out (fun _ hk => ⟨hk.1.1, ⟨hk.1.2.1, ⟨hk.2, ⟨hk.1.2.2.1, ⟨hk.1.2.2.2.1, ⟨hk.1.2.2.2.2.1, ⟨hk.1.2.2.2.2.2.1, ⟨hk.1.2.2.2.2.2.2.1, ⟨hk.1.2.2.2.2.2.2.2.1, ⟨hk.1.2.2.2.2.2.2.2.2.1, ⟨hk.1.2.2.2.2.2.2.2.2.2.1, hk.1.2.2.2.2.2.2.2.2.2.2⟩⟩⟩⟩⟩⟩⟩⟩⟩⟩⟩)⟩, ⟨by exact lR <| Kd.R_mono HO_8.out (fun _ hk => ⟨hk.1.1, ⟨hk.2, ⟨hk.1.2.1, ⟨hk.1.2.2.1, ⟨hk.1.2.2.2.1, ⟨hk.1.2.2.2.2.1, ⟨hk.1.2.2.2.2.2.1, hk.1.2.2.2.2.2.2⟩⟩⟩⟩⟩⟩⟩)⟩, ⟨by exact lR <| Kd.R_mono HO_9.out (fun _ hk => ⟨hk.1.1, ⟨hk.2, ⟨hk.1.2.1, ⟨hk.1.2.2.1, ⟨hk.1.2.2.2.1, ⟨hk.1.2.2.2.2.1, ⟨hk.1.2.2.2.2.2.1, hk.1.2.2.2.2.2.2⟩⟩⟩⟩⟩⟩⟩)⟩, ⟨by exact lR <| HO509.out⟩, ⟨by exact lR <| Kd.R_mono HO_435000.out (fun _ hk => ⟨hk.1.1, ⟨hk.1.2.1, ⟨hk.2, ⟨hk.1.2.2.1, ⟨hk.1.2.2.2.1, ⟨hk.1.2.2.2.2.1, ⟨hk.1.2.2.2.2.2.1, hk.1.2.2.2.2.2.2⟩⟩⟩⟩⟩⟩⟩)⟩, ⟨by exact lR <| Kd.R_mono HO_435001.out (fun _ hk => ⟨hk.1.1, ⟨hk.1.2.1, ⟨hk.2, ⟨hk.1.2.2.1, ⟨hk.1.2.2.2.1, ⟨hk.1.2.2.2.2.1, ⟨hk.1.2.2.2.2.2.1, hk.1.2.2.2.2.2.2⟩⟩⟩⟩⟩⟩⟩)⟩, ⟨by exact lR <| Kd.R_mono HO_449000.out (fun _ hk => ⟨hk.1.1, ⟨hk.1.2.1, ⟨hk.2, ⟨hk.1.2.2.1, ⟨hk.1.2.2.2.1, ⟨hk.1.2.2.2.2.1, ⟨hk.1.2.2.2.2.2.1, hk.1.2.2.2.2.2.2⟩⟩⟩⟩⟩⟩⟩)⟩, ⟨by exact lR <| Kd.R_mono HO_449001.out (fun _ hk => ⟨hk.1.1, ⟨hk.1.2.1, ⟨hk.2, ⟨hk.1.2.2.1, ⟨hk.1.2.2.2.1, ⟨hk.1.2.2.2.2.1, ⟨hk.1.2.2.2.2.2.1, hk.1.2.2.2.2.2.2⟩⟩⟩⟩⟩⟩⟩)⟩, ⟨by exact lR <| Kd.R_mono HO_457000.out (fun _ hk => ⟨hk.1.1, ⟨hk.1.2.1, ⟨hk.2, ⟨hk.1.2.2.1, ⟨hk.1.2.2.2.1, ⟨hk.1.2.2.2.2.1, ⟨hk.1.2.2.2.2.2.1, hk.1.2.2.2.2.2.2⟩⟩⟩⟩⟩⟩⟩)⟩, ⟨by exact lR <| Kd.R_mono HO_457001.out (fun _ hk => ⟨hk.1.1, ⟨hk.1.2.1, ⟨hk.2, ⟨hk.1.2.2.1, ⟨hk.1.2.2.2.1, ⟨hk.1.2.2.2.2.1, ⟨hk.1.2.2.2.2.2.1, hk.1.2.2.2.2.2.2⟩⟩⟩⟩⟩⟩⟩)⟩, ⟨by exact lK <| BK434.out⟩, ⟨by exact lK <| BK448.out⟩, ⟨by exact lK <| BK456.out⟩, ⟨by exact jB HB.out⟩⟩
              ·rw [if_neg c81] at H
               exact absurd H (by simp)
             ·rw [if_neg c79] at H
              exact absurd H (by simp)
            ·rw [if_neg c78] at H
             exact absurd H (by simp)
           ·rw [if_neg c77] at H
            have c77b0 : decide (x15_3 < 3) = false := decide_eq_false c77
            clear c77
            replace H := Option.bind_eq_some_iff.mp H
            obtain ⟨⟨t510, t511⟩, A840, H⟩ := H
            replace H : (if t511 = true then (some (t498 == t510)) else (some true)) = some r := H
            have A84 := Aside0.mk A840
            clear A840
            by_cases c85 : t511 = true
            ·subst c85
             have H1 : (some (t498 == t510)) = some r := by rw [if_pos rfl] at H; exact H
             clear H
             have H := H1
             clear H1
             obtain rfl := Option.some.inj H
             have hnb86 := NB434_448.out
             have hnc86 := NB448_434.out
             have hnb87 := NB434_456.out
             have hnc87 := NB456_434.out
             obtain ⟨hcz88_0, hcz88_1, hcz88_2, hfz88_0, hfz88_1, hfz88_2⟩ := cf3 BK434.out
             obtain ⟨Ao89, co89, eo89⟩ := Kd.R_slice HO_14.out
             subst eo89
             go_wp2_with (first | ((with_reducible refine gate_callee (f := 12) rfl ?_); refine goesL_ (some 95) rfl rfl Try.func12 (by kernel_rfl) rfl #[.agg #[.slice Ao18 t424.length co18, .slice Ao20 t427.length co20, .int .i64 t430], .slice Ao89 x14_3.length co89, .slice Ao73 t445.length co73] rfl (by (try simp only [mA, mC, mN]); first | done | rfl | (simp only [ld, lt]; rfl)) ?_; (with_reducible refine (impl_FrmAt.calls k3 _ _ t424 _ _ t427 t430 _ _ x14_3 _ _ t445 t510 true _ ?side1 ?side2 ?side3 ?side4 ?side5 ?side6 ?side7 ?side8 A84.out).mono ?_); (case side1 => exact lC <| (Kd.R_reads' HO_435000.out).2.2); (case side2 => exact (Kd.R_reads' HO_435000.out).2.1); (case side3 => exact lC <| (Kd.R_reads' HO_435001.out).2.2); (case side4 => exact (Kd.R_reads' HO_435001.out).2.1); (case side5 => exact lC <| (Kd.R_reads' HO_14.out).2.2); (case side6 => exact (Kd.R_reads' HO_14.out).2.1); (case side7 => exact lC <| (Kd.R_reads' HO_9.out).2.2); (case side8 => exact (Kd.R_reads' HO_9.out).2.1); rintro e w90 ⟨rfl, hb⟩; refine ⟨_, rfl, ?_⟩; replace HO_6 := Aside0.mk (Kd.N_below (by (with_reducible repeat (first | apply Kd.N_alloc | apply Kd.N_drewN | apply Kd.N_drew)); exact HO_6.out) hb); replace HO_8 := Aside0.mk (rb HO_8.out hb); replace HO_9 := Aside0.mk (rb HO_9.out hb); replace HO_14 := Aside0.mk (rb HO_14.out hb); replace HO_435000 := Aside0.mk (rb HO_435000.out hb); replace HO_435001 := Aside0.mk (rb HO_435001.out hb); replace HO_449000 := Aside0.mk (rb HO_449000.out hb); replace HO_449001 := Aside0.mk (rb HO_449001.out hb); replace HO_457000 := Aside0.mk (rb HO_457000.out hb); replace HO_457001 := Aside0.mk (rb HO_457001.out hb); replace BK434 := Aside0.mk (bb BK434.out hb); replace BK448 := Aside0.mk (bb BK448.out hb); replace BK456 := Aside0.mk (bb BK456.out hb); replace HB := Aside0.mk (below_step (by exact jB HB.out) hb); (try clear hb); (try clear hb2); (try clear hk); (try clear hi)))
             go_ret
             exact ⟨by first | rfl | (simp [errW_none, errW_some] <;> rfl) | (simp [*, errW_none, errW_some] <;> rfl), by exact jB HB.out⟩
            ·replace c85 := Bool.eq_false_iff.mpr c85
             subst c85
             have H1 : (some true) = some r := by rw [if_neg (show ¬ (false = true) by decide)] at H; exact H
             clear H
             have H := H1
             clear H1
             obtain rfl := Option.some.inj H
             have hnb91 := NB434_448.out
             have hnc91 := NB448_434.out
             have hnb92 := NB434_456.out
             have hnc92 := NB456_434.out
             obtain ⟨hcz93_0, hcz93_1, hcz93_2, hfz93_0, hfz93_1, hfz93_2⟩ := cf3 BK434.out
             obtain ⟨Ao94, co94, eo94⟩ := Kd.R_slice HO_14.out
             subst eo94
             go_wp2_with (first | ((with_reducible refine gate_callee (f := 12) rfl ?_); refine goesL_ (some 95) rfl rfl Try.func12 (by kernel_rfl) rfl #[.agg #[.slice Ao18 t424.length co18, .slice Ao20 t427.length co20, .int .i64 t430], .slice Ao94 x14_3.length co94, .slice Ao73 t445.length co73] rfl (by (try simp only [mA, mC, mN]); first | done | rfl | (simp only [ld, lt]; rfl)) ?_; (with_reducible refine (impl_FrmAt.calls k3 _ _ t424 _ _ t427 t430 _ _ x14_3 _ _ t445 t510 false _ ?side1 ?side2 ?side3 ?side4 ?side5 ?side6 ?side7 ?side8 A84.out).mono ?_); (case side1 => exact lC <| (Kd.R_reads' HO_435000.out).2.2); (case side2 => exact (Kd.R_reads' HO_435000.out).2.1); (case side3 => exact lC <| (Kd.R_reads' HO_435001.out).2.2); (case side4 => exact (Kd.R_reads' HO_435001.out).2.1); (case side5 => exact lC <| (Kd.R_reads' HO_14.out).2.2); (case side6 => exact (Kd.R_reads' HO_14.out).2.1); (case side7 => exact lC <| (Kd.R_reads' HO_9.out).2.2); (case side8 => exact (Kd.R_reads' HO_9.out).2.1); rintro e w95 ⟨rfl, hb⟩; refine ⟨_, rfl, ?_⟩; replace HO_6 := Aside0.mk (Kd.N_below (by (with_reducible repeat (first | apply Kd.N_alloc | apply Kd.N_drewN | apply Kd.N_drew)); exact HO_6.out) hb); replace HO_8 := Aside0.mk (rb HO_8.out hb); replace HO_9 := Aside0.mk (rb HO_9.out hb); replace HO_14 := Aside0.mk (rb HO_14.out hb); replace HO_435000 := Aside0.mk (rb HO_435000.out hb); replace HO_435001 := Aside0.mk (rb HO_435001.out hb); replace HO_449000 := Aside0.mk (rb HO_449000.out hb); replace HO_449001 := Aside0.mk (rb HO_449001.out hb); replace HO_457000 := Aside0.mk (rb HO_457000.out hb); replace HO_457001 := Aside0.mk (rb HO_457001.out hb); replace BK434 := Aside0.mk (bb BK434.out hb); replace BK448 := Aside0.mk (bb BK448.out hb); replace BK456 := Aside0.mk (bb BK456.out hb); replace HB := Aside0.mk (below_step (by exact jB HB.out) hb); (try clear hb); (try clear hb2); (try clear hk); (try clear hi)))
             go_ret
             exact ⟨by first | rfl | (simp [errW_none, errW_some] <;> rfl) | (simp [*, errW_none, errW_some] <;> rfl), by exact jB HB.out⟩
        ·replace c68 := Bool.eq_false_iff.mpr c68
         subst c68
         have H1 : ((laws_coHolds.f).bind fun t500 => (some t500)) = some r := by rw [if_neg (show ¬ (false = true) by decide)] at H; exact H
         clear H
         have H := H1
         clear H1
         replace H := Option.bind_eq_some_iff.mp H
         obtain ⟨t500, A960, H⟩ := H
         replace H : (some t500) = some r := H
         have A96 := Aside0.mk A960
         clear A960
         obtain rfl := Option.some.inj H
         have hnb97 := NB456_434.out
         have hnc97 := NB434_456.out
         have hnb98 := NB456_448.out
         have hnc98 := NB448_456.out
         obtain ⟨hcz99_0, hcz99_1, hcz99_2, hfz99_0, hfz99_1, hfz99_2⟩ := cf3 BK456.out
         obtain ⟨Ao100, co100, eo100⟩ := Kd.R_slice HO_8.out
         subst eo100
         obtain ⟨Ao101, co101, eo101⟩ := Kd.R_slice HO_9.out
         subst eo101
         go_wp2_with (first | ((with_reducible refine gate_callee (f := 12) rfl ?_); refine goesL_ (some 66) rfl rfl Try.func12 (by kernel_rfl) rfl #[.agg #[.slice Ao31 t449.length co31, .slice Ao35 t452.length co35, .int .i64 t455], .slice Ao100 t442.length co100, .slice Ao101 t445.length co101] rfl (by (try simp only [mA, mC, mN]); first | done | rfl | (simp only [ld, lt]; rfl)) ?_; (with_reducible refine (impl_FrmAt.calls kj14 _ _ t449 _ _ t452 t455 _ _ t442 _ _ t445 t498 false _ ?side1 ?side2 ?side3 ?side4 ?side5 ?side6 ?side7 ?side8 A67.out).mono ?_); (case side1 => exact lC <| (Kd.R_reads' HO_457000.out).2.2); (case side2 => exact (Kd.R_reads' HO_457000.out).2.1); (case side3 => exact lC <| (Kd.R_reads' HO_457001.out).2.2); (case side4 => exact (Kd.R_reads' HO_457001.out).2.1); (case side5 => exact lC <| (Kd.R_reads' HO_8.out).2.2); (case side6 => exact (Kd.R_reads' HO_8.out).2.1); (case side7 => exact lC <| (Kd.R_reads' HO_9.out).2.2); (case side8 => exact (Kd.R_reads' HO_9.out).2.1); rintro e w102 ⟨rfl, hb⟩; refine ⟨_, rfl, ?_⟩; replace HO_6 := Aside0.mk (Kd.N_below (by (with_reducible repeat (first | apply Kd.N_alloc | apply Kd.N_drewN | apply Kd.N_drew)); exact HO_6.out) hb); replace HO_8 := Aside0.mk (rb HO_8.out hb); replace HO_9 := Aside0.mk (rb HO_9.out hb); replace HO_435000 := Aside0.mk (rb HO_435000.out hb); replace HO_435001 := Aside0.mk (rb HO_435001.out hb); replace HO_449000 := Aside0.mk (rb HO_449000.out hb); replace HO_449001 := Aside0.mk (rb HO_449001.out hb); replace HO_457000 := Aside0.mk (rb HO_457000.out hb); replace HO_457001 := Aside0.mk (rb HO_457001.out hb); replace BK434 := Aside0.mk (bb BK434.out hb); replace BK448 := Aside0.mk (bb BK448.out hb); replace BK456 := Aside0.mk (bb BK456.out hb); replace HB := Aside0.mk (below_step (by exact jB HB.out) hb); (try clear hb); (try clear hb2); (try clear hk); (try clear hi)) | ((with_reducible refine gate_callee (f := 13) rfl ?_); refine goesL_ (some 71) rfl rfl Try.func13 (by kernel_rfl) rfl #[] rfl (by (try simp only [mA, mC, mN]); first | done | rfl | (simp only [ld, lt]; rfl)) ?_; (with_reducible refine (laws_coHolds.calls  t500 _ A96.out).mono ?_); rintro e w103 ⟨rfl, hb⟩; refine ⟨_, rfl, ?_⟩; replace HO_6 := Aside0.mk (Kd.N_below (by (with_reducible repeat (first | apply Kd.N_alloc | apply Kd.N_drewN | apply Kd.N_drew)); exact HO_6.out) hb); replace HO_8 := Aside0.mk (rb HO_8.out hb); replace HO_9 := Aside0.mk (rb HO_9.out hb); replace HO_435000 := Aside0.mk (rb HO_435000.out hb); replace HO_435001 := Aside0.mk (rb HO_435001.out hb); replace HO_449000 := Aside0.mk (rb HO_449000.out hb); replace HO_449001 := Aside0.mk (rb HO_449001.out hb); replace HO_457000 := Aside0.mk (rb HO_457000.out hb); replace HO_457001 := Aside0.mk (rb HO_457001.out hb); replace BK434 := Aside0.mk (bb BK434.out hb); replace BK448 := Aside0.mk (bb BK448.out hb); replace BK456 := Aside0.mk (bb BK456.out hb); replace HB := Aside0.mk (below_step (by exact jB HB.out) hb); (try clear hb); (try clear hb2); (try clear hk); (try clear hi)))
         go_ret
         exact ⟨by first | rfl | (simp [errW_none, errW_some] <;> rfl) | (simp [*, errW_none, errW_some] <;> rfl), by exact jB HB.out⟩
    ·replace c11 := Bool.eq_false_iff.mpr c11
     subst c11
     have H1 : (some false) = some r := by rw [if_neg (show ¬ (false = true) by decide)] at H; exact H
     clear H
     have H := H1
     clear H1
     exact absurd (Option.some.inj H) (by rw [hr.out]; decide)

/-- THE ONE PURE STATEMENT of laws_FnFrmInto. -/
def laws_FnFrmInto.Pure : Prop := ∀ (l0 : List Int) (l1 : List Int), (l0.length ≤ 9223372036854775807 ∧ ∀ x0 ∈ l0, (Lit.int .u8 x0).wf = true) → (l1.length ≤ 9223372036854775807 ∧ ∀ x1 ∈ l1, (Lit.int .u8 x1).wf = true) → ∃ k, laws_FnFrmInto.f k l0 l1 = some true
theorem laws_FnFrmInto.walk (P : laws_FnFrmInto.Pure) (A0 : Option Addr) (c0 : Nat) (l0 : List Int) (A1 : Option Addr) (c1 : Nat) (l1 : List Int) (w : World) (hr0 : Kd.C (Kd.int .u8) w A0 l0.length l0) (hc0 : l0.length ≤ c0) (hr1 : Kd.C (Kd.int .u8) w A1 l1.length l1) (hc1 : l1.length ≤ c1) (hw0 : (l0.length ≤ 9223372036854775807 ∧ ∀ x0 ∈ l0, (Lit.int .u8 x0).wf = true)) (hw1 : (l1.length ≤ 9223372036854775807 ∧ ∀ x1 ∈ l1, (Lit.int .u8 x1).wf = true)) :
  Calls Try.prog 3 #[.slice A0 l0.length c0, .slice A1 l1.length c1] w fun e w' => e = .returned (.bool true) ∧ Below w.heap.size w w' := by
 obtain ⟨k, h⟩ := P l0 l1 hw0 hw1
 refine (laws_FnFrmInto.calls k A0 c0 l0 A1 c1 l1 true w ⟨rfl⟩ hr0 hc0 hr1 hc1 h).mono ?_
 rintro e w' ⟨rfl, hd⟩
 exact ⟨rfl, hd⟩

end Go.Proofs.Ytopbdoilpdpkmaa.QFnFrmInto

-- shorter
