/- Plain functions, and that the Go code computes them: written by a program of this session over the seat's translation; the conditions stand in each theorem. -/
import Derived.Test.YtgalnmgkcdmnkaaQFnPlnHomex0
import Derived.Test.YtgalnmgkcdmnkaaQFnPlnHomex1
import Derived.Test.YtgalnmgkcdmnkaaQFnPlnHomex3
import Derived.Test.YtgalnmgkcdmnkaaQFnPlnHomex5
import Derived.Test.YtgalnmgkcdmnkaaQFnPlnHomex8
namespace Go.Proofs.Ytgalnmgkcdmnkaa.QFnPlnHome
open Go.RowKit Go.Proofs.YtgalnmgkcdmnkaaW.PrintWords Go.Proofs.YtgalnmgkcdmnkaaW.PrintLast Go.Proofs.YtgalnmgkcdmnkaaW.PrintMore Go.Proofs.Ytgalnmgkcdmnkaa.HWords
open Value (ownBlock)
attribute [local go_sem] max2_int min2_int max_two min_two max_three min_three max_four min_four   -- for this text's walks alone
set_option linter.unusedVariables false
set_option linter.unusedSimpArgs false

/-! ### spec_l20AnyAct: function 33 -/
mutual
def spec_l20AnyAct.j0 : Nat → List (S45) → Bool → List Int → Int → Option ((List (S45)) × Int)
 | 0, _, _, _, _ => none
 | k + 1, x5, x17, x1000, x1001 => if x17 = true then (some (x5, x1001)) else ((spec_l20Rd_pick.f k x1000 x1001 (x5.length : Int)).bind fun bt470 => ((spec_l20Rd_pick.f k x1000 bt470.2 6).bind fun bt472 => (if bt472.1 = 0 then ((some (([0, 5, 4, 1] : List Int) : List Int)).bind fun y474 => ((spec_l20Rd_pick.f k x1000 bt472.2 4).bind fun bt477 => (if 0 ≤ bt477.1 then (if bt477.1 < (y474.length : Int) then (if 0 ≤ bt470.1 then (if bt470.1 < (x5.length : Int) then (some ((x5.set (bt470.1 : Int).toNat (⟨rd y474 bt477.1, (rd_T45 x5 bt470.1).f1, (rd_T45 x5 bt470.1).f2, (⟨(rd_T45 x5 bt470.1).f3.f0, (rd_T45 x5 bt470.1).f3.f1, (rd_T45 x5 bt470.1).f3.f2⟩ : S43)⟩ : S45)), bt477.2)) else (none)) else (none)) else (none)) else (none)))) else (if bt472.1 = 1 then ((some (([(-1), 3, 2] : List Int) : List Int)).bind fun y481 => ((spec_l20Rd_pick.f k x1000 bt472.2 3).bind fun bt484 => (if 0 ≤ bt484.1 then (if bt484.1 < (y481.length : Int) then (if 0 ≤ bt470.1 then (if bt470.1 < (x5.length : Int) then (some ((x5.set (bt470.1 : Int).toNat (⟨(rd_T45 x5 bt470.1).f0, rd y481 bt484.1, (rd_T45 x5 bt470.1).f2, (⟨(rd_T45 x5 bt470.1).f3.f0, (rd_T45 x5 bt470.1).f3.f1, (rd_T45 x5 bt470.1).f3.f2⟩ : S43)⟩ : S45)), bt484.2)) else (none)) else (none)) else (none)) else (none)))) else (if bt472.1 = 2 then ((some (([0, (-1), 7, 6] : List Int) : List Int)).bind fun y488 => ((spec_l20Rd_pick.f k x1000 bt472.2 4).bind fun bt491 => (if 0 ≤ bt491.1 then (if bt491.1 < (y488.length : Int) then (if 0 ≤ bt470.1 then (if bt470.1 < (x5.length : Int) then (some ((x5.set (bt470.1 : Int).toNat (⟨(rd_T45 x5 bt470.1).f0, (rd_T45 x5 bt470.1).f1, rd y488 bt491.1, (⟨(rd_T45 x5 bt470.1).f3.f0, (rd_T45 x5 bt470.1).f3.f1, (rd_T45 x5 bt470.1).f3.f2⟩ : S43)⟩ : S45)), bt491.2)) else (none)) else (none)) else (none)) else (none)))) else (if bt472.1 = 3 then ((spec_l20Form.f k x1000 bt472.2 2).bind fun bt495 => (if 0 ≤ bt470.1 then (if bt470.1 < (x5.length : Int) then (some ((x5.set (bt470.1 : Int).toNat (⟨(rd_T45 x5 bt470.1).f0, (rd_T45 x5 bt470.1).f1, (rd_T45 x5 bt470.1).f2, (⟨bt495.1, bt495.2.1, bt495.2.2.1⟩ : S43)⟩ : S45)), bt495.2.2.2)) else (none)) else (none))) else (if bt472.1 = 4 then (spec_l20AnyAct.l0 k x5 bt470.1 x1000 bt472.2) else ((spec_l20Small.f k x1000 bt472.2).bind fun bt508 => ((spec_l20Small.f k x1000 bt508.2.2.2).bind fun bt516 => ((some (([(⟨1, 0, 1, (⟨bt508.1, bt508.2.1, bt508.2.2.1⟩ : S43)⟩ : S45), (⟨1, 0, 1, (⟨bt516.1, bt516.2.1, bt516.2.2.1⟩ : S43)⟩ : S45)] : List (S45)) : List (S45))).bind fun y524 => (if x5.length + y524.length < 1759218604441 then (some ((x5 ++ y524), bt516.2.2.2)) else (none))))))))))))
def spec_l20AnyAct.l0 : Nat → List (S45) → Int → List Int → Int → Option ((List (S45)) × Int)
 | 0, _, _, _, _ => none
 | k + 1, x5, x6, x1000, x1001 => if (x5.length : Int) ≤ 6 then (if 0 ≤ x6 then (if x6 < (x5.length : Int) then (if x5.length < 1759218604441 then (spec_l20AnyAct.l0 k (x5 ++ [(⟨(rd_T45 x5 x6).f0, (rd_T45 x5 x6).f1, (rd_T45 x5 x6).f2, (⟨(rd_T45 x5 x6).f3.f0, (rd_T45 x5 x6).f3.f1, (rd_T45 x5 x6).f3.f2⟩ : S43)⟩ : S45)]) x6 x1000 x1001) else (none)) else (none)) else (none)) else (some (x5, x1001))
end
def spec_l20AnyAct.f (k : Nat) (s0_0 : List Int) (s0_1 : Int) (a1 : Int) : Option ((List (S45)) × Int) := (spec_l20Act.f k s0_0 s0_1).bind fun bt464 => (if (bt464.1.length : Int) = 0 then (spec_l20AnyAct.j0 k bt464.1 true s0_0 bt464.2) else ((spec_l20Rd_pick.f k s0_0 bt464.2 a1).bind fun bt468 => (spec_l20AnyAct.j0 k bt464.1 (decide (bt468.1 > 0)) s0_0 bt468.2)))
theorem spec_l20AnyAct.mono_l : ∀ k, (∀ y0 y1 y2 y3, LeO (spec_l20AnyAct.j0 k y0 y1 y2 y3) (spec_l20AnyAct.j0 (k + 1) y0 y1 y2 y3)) ∧ (∀ y0 y1 y2 y3, LeO (spec_l20AnyAct.l0 k y0 y1 y2 y3) (spec_l20AnyAct.l0 (k + 1) y0 y1 y2 y3))
 | 0 => ⟨fun _ _ _ _ r h => by simp [spec_l20AnyAct.j0] at h, fun _ _ _ _ r h => by simp [spec_l20AnyAct.l0] at h⟩
 | k + 1 => by
  obtain ⟨ih0, ih1⟩ := spec_l20AnyAct.mono_l k
  refine ⟨?_, ?_⟩
  ·intro y0 y1 y2 y3
   unfold spec_l20AnyAct.j0
   repeat' first
   | (with_reducible exact ih0 _ _ _ _)
   | (with_reducible exact ih1 _ _ _ _)
   | (with_reducible exact spec_l20Act.mono _ _ _)
   | (with_reducible exact spec_l20Form.mono _ _ _ _)
   | (with_reducible exact spec_l20Rd_pick.mono _ _ _ _)
   | (with_reducible exact spec_l20Small.mono _ _ _)
   | (with_reducible exact LeO.refl _)
   | (with_reducible exact LeO.none _)
   | (with_reducible refine LeO.ite ?_ ?_)
   | (with_reducible refine LeO.bind ?_ (fun _ => ?_))
   | exact LeO.none _
   | refine LeO.ite ?_ ?_
   | refine LeO.bind ?_ (fun _ => ?_)
  ·intro y0 y1 y2 y3
   unfold spec_l20AnyAct.l0
   repeat' first
   | (with_reducible exact ih0 _ _ _ _)
   | (with_reducible exact ih1 _ _ _ _)
   | (with_reducible exact spec_l20Act.mono _ _ _)
   | (with_reducible exact spec_l20Form.mono _ _ _ _)
   | (with_reducible exact spec_l20Rd_pick.mono _ _ _ _)
   | (with_reducible exact spec_l20Small.mono _ _ _)
   | (with_reducible exact LeO.refl _)
   | (with_reducible exact LeO.none _)
   | (with_reducible refine LeO.ite ?_ ?_)
   | (with_reducible refine LeO.bind ?_ (fun _ => ?_))
   | exact LeO.none _
   | refine LeO.ite ?_ ?_
   | refine LeO.bind ?_ (fun _ => ?_)
theorem spec_l20AnyAct.mono : ∀ a0 a1 a2 k, LeO (spec_l20AnyAct.f k a0 a1 a2) (spec_l20AnyAct.f (k + 1) a0 a1 a2) := by
 intro a0 a1 a2 k
 obtain ⟨ih0, ih1⟩ := spec_l20AnyAct.mono_l k
 unfold spec_l20AnyAct.f
 repeat' first
   | (with_reducible exact ih0 _ _ _ _)
   | (with_reducible exact ih1 _ _ _ _)
   | (with_reducible exact spec_l20Act.mono _ _ _)
   | (with_reducible exact spec_l20Form.mono _ _ _ _)
   | (with_reducible exact spec_l20Rd_pick.mono _ _ _ _)
   | (with_reducible exact spec_l20Small.mono _ _ _)
   | (with_reducible exact LeO.refl _)
   | (with_reducible exact LeO.none _)
   | (with_reducible refine LeO.ite ?_ ?_)
   | (with_reducible refine LeO.bind ?_ (fun _ => ?_))
   | exact LeO.none _
   | refine LeO.ite ?_ ?_
   | refine LeO.bind ?_ (fun _ => ?_)
set_option maxHeartbeats 8000000 in
set_option maxRecDepth 100000 in
theorem spec_l20AnyAct.calls (k : Nat) (g : Nat) (s0_0 : List Int) (s0_1 : Int) (a1 : Int) (r1 : List (S45)) (r2 : Int) (w0 w : World) (hI : IsS69 w0 w g s0_0 s0_1) (hB : Below w0.heap.size w0 w) (h : spec_l20AnyAct.f k s0_0 s0_1 a1 = some (r1, r2)) :
  Calls Try.prog 33 #[.pointer (some ⟨g, 0, none⟩), .int .i64 a1] w fun e w' => ∃ v0_ : Value, e = .returned (v0_) ∧ Kd.N k45 45 w' w.heap.size (fun k_ => (w.heap.size ≤ k_)) v0_ r1 ∧ IsS69 w0 w' g s0_0 r2 ∧ Below w0.heap.size w0 w' ∧ KeepBut w w' g none := by
 have hu43 := Try.underlying43
 have hu45 := Try.underlying45
 have HI0 := aM hI
 have IHI0 : Nonempty _ := ⟨IsS69.ge hI⟩
 have HK := aM (KeepBut.refl w g none)
 have HL := aM hB.size
 clear hI
 have HW0 := aM hB.size
 have HB := aM hB
 clear hB
 have H : ((spec_l20Act.f k s0_0 s0_1).bind fun bt464 => (if (bt464.1.length : Int) = 0 then (spec_l20AnyAct.j0 k bt464.1 true s0_0 bt464.2) else ((spec_l20Rd_pick.f k s0_0 bt464.2 a1).bind fun bt468 => (spec_l20AnyAct.j0 k bt464.1 (decide (bt468.1 > 0)) s0_0 bt468.2)))) = some (r1, r2) := h
 clear h
 obtain ⟨⟨t464, t467⟩, A3, H⟩ := bS H
 try dsimp only at H
 have HC4 := aM H
 clear H
 go_enter Try.func33, Try.ntmps33
 go_upto_region 2 with (first | ((with_reducible refine gate_callee (f := 53) rfl ?_); refine gL (some 8) Try.func53 #[.pointer (some ⟨g, 0, none⟩)] ?_; (with_reducible refine (spec_l20Act.calls k g s0_0 s0_1 t464 t467 w0 _ ?side1 ?side2 A3.out).mono ?_); (case side1 => exact IsS69.j HI0.out); (case side2 => exact jB HB.out); rintro e w5 ⟨v465, rfl, ho0, hi, hb, hk⟩; refine ⟨_, rfl, ?_⟩; have HO466 := aM (Kd.N_lower (Kd.N_mono (ok' := fun k_ => (w.heap.size ≤ k_) ∧ k_ ≠ g) ho0 (fun k_ hk_ => ⟨(Nat.le_trans (keep_size (w := w) (g := g) (row := none) (by exact jK HK.out)) hk_), (IsS69.fresh (by exact IsS69.j HI0.out) k_ hk_)⟩)) (keep_size (w := w) (g := g) (row := none) (by exact jK HK.out))); replace HK := aM (kt HK.out hk); replace HB := aM (hb); replace HI0 := aM (hi); (try clear hb hk hi); (try clear ho0)))
 (try simp only [Act.put, sA, s0, sS])
 go_cut [17] (fun v17 wc => ∃ (kq : Nat) (x17_3 : Bool) (x1001_3 : Int), v17 = .bool x17_3 ∧ Aside0 (spec_l20AnyAct.j0 kq t464 x17_3 s0_0 x1001_3 = some (r1, r2)) ∧ Aside0 (kq ≤ k) ∧ Aside0 (Kd.N k45 45 wc w.heap.size (fun k_ => (w.heap.size ≤ k_) ∧ k_ ≠ g) v465 t464) ∧ Aside0 (IsS69 w0 wc g s0_0 x1001_3) ∧ Aside0 (KeepBut w wc g none) ∧ Aside0 (Below w0.heap.size w0 wc))
 case first =>
  have H := HC4.out
  clear HC4
  by_cases c6 : (t464.length : Int) = 0
  ·rw [if_pos c6] at H
   have c6b0 := beq_iff_eq.mpr c6
   have c6b1 := bne_eq_false_iff_eq.mpr c6
   clear c6
   (first | rw [c6b0] | (simp only [i64_w, i32_w]; rw [c6b0]) | skip)
   have H' := aM H
   clear H
   obtain ⟨Ao7, co7, eo7⟩ := Kd.N_slice HO466.out
   subst eo7
   go_wp2
   go_meet
   case rel => exact ⟨_, (true), (t467), (by first | rfl | (simp; done) | (simp [*]; done)), H', ⟨by first | omega | exact Nat.le_refl _⟩, ⟨by exact lN <| HO466.out⟩, ⟨by exact IsS69.j HI0.out⟩, ⟨by exact jK HK.out⟩, ⟨by exact jB HB.out⟩⟩
  ·rw [if_neg c6] at H
   have c6b0 := beq_eq_false_iff_ne.mpr c6
   have c6b1 := bne_iff_ne.mpr c6
   have c6b2 : ¬ (t464 = []) := fun h_ => c6 (by rw [h_]; rfl)
   (first | rw [c6b0] | (simp only [i64_w, i32_w]; rw [c6b0]) | skip)
   obtain ⟨⟨t468, t469⟩, A8, H⟩ := bS H
   try dsimp only at H
   have H' := aM H
   clear H
   obtain ⟨Ao9, co9, eo9⟩ := Kd.N_slice HO466.out
   subst eo9
   go_wp2_with (first | (go_at_call 20; (with_reducible refine (spec_l20Rd_pick.calls k g s0_0 t467 a1 t468 t469 w0 _ ?side1 ?side2 A8.out).mono ?_); (case side1 => exact IsS69.j HI0.out); (case side2 => exact jB HB.out); rintro e w10 ⟨rfl, hi, hb, hk⟩; replace HO466 := aM (Kd.N_mono (Kd.N_keep (Kd.N_mono (ok := fun k_ => (((w.heap.size ≤ k_)) ∧ k_ ≠ g)) (by exact lN <| HO466.out) (fun k_ hk_ => (⟨hk_, hk_.2⟩ : _ ∧ k_ ≠ g))) hk (fun _ h => h.2)) (fun _ h => h.1)); replace HK := aM (kt HK.out hk); replace HB := aM (hb); replace HI0 := aM (hi); (try clear hb hk hi)))
   go_meet
   case rel => exact ⟨_, (decide (t468 > 0)), (t469), (by first | rfl | (simp; done) | (simp [*]; done)), H', ⟨by first | omega | exact Nat.le_refl _⟩, ⟨by exact lN <| HO466.out⟩, ⟨by exact IsS69.j HI0.out⟩, ⟨by exact jK HK.out⟩, ⟨by exact jB HB.out⟩⟩
 case rest =>
  clear HC4
  try clear p2
  try clear c3
  try clear c5
  try clear c6
  try clear c6b0
  try clear c6b1
  try clear c6b2
  try clear HO_5
  obtain ⟨kq, x17_3, x1001_3, rfl, HA, HJ3, HO_5, HI0, HK, HB⟩ := hcut
  cases kq with
  | zero => exact absurd HA.out (by simp [spec_l20AnyAct.j0])
  | succ kj3 =>
   have H := HA.out
   clear HA
   simp only [spec_l20AnyAct.j0] at H
   by_cases c11 : x17_3 = true
   ·subst c11
    rw [if_pos rfl] at H
    try dsimp only at H
    simp only [Option.some.injEq, Prod.mk.injEq] at H
    obtain ⟨rfl, rfl⟩ := H
    go_wp2
    go_ret
    exact ⟨_, er, by exact lN <| Kd.N_mono HO_5.out (fun _ hk => hk.1), by exact IsS69.j HI0.out, by exact jB HB.out, by exact jK HK.out⟩
   ·replace c11 := Bool.eq_false_iff.mpr c11
    subst c11
    rw [if_neg nf] at H
    try dsimp only at H
    obtain ⟨⟨t470, t471⟩, A12, H⟩ := bS H
    try dsimp only at H
    obtain ⟨⟨t472, t473⟩, A13, H⟩ := bS H
    try dsimp only at H
    by_cases c14 : t472 = 0
    ·rw [if_pos c14] at H
     have c14b0 := beq_iff_eq.mpr c14
     have c14b1 := bne_eq_false_iff_eq.mpr c14
     clear c14
     obtain ⟨y474, hy474⟩ : ∃ y_ : List Int, y_ = (([0, 5, 4, 1] : List Int)) := ⟨_, rfl⟩
     try rw [← hy474] at H
     try dsimp only [Option.bind_some] at H
     have Ny474 := aM hy474
     clear hy474
     obtain ⟨⟨t477, t478⟩, A15, H⟩ := bS H
     try dsimp only at H
     by_cases c16 : 0 ≤ t477
     ·rw [if_pos c16] at H
      have c16b0 := decide_eq_true c16
      clear c16
      by_cases c17 : t477 < (y474.length : Int)
      ·rw [if_pos c17] at H
       have c17b0 := decide_eq_true c17
       clear c17
       by_cases c18 : 0 ≤ t470
       ·rw [if_pos c18] at H
        have c18b0 := decide_eq_true c18
        clear c18
        by_cases c19 : t470 < (t464.length : Int)
        ·rw [if_pos c19] at H
         have c19b0 := decide_eq_true c19
         clear c19
         obtain ⟨y480, hy480⟩ : ∃ y_ : List (S45), y_ = (t464.set (t470 : Int).toNat (⟨rd y474 t477, (rd_T45 t464 t470).f1, (rd_T45 t464 t470).f2, (⟨(rd_T45 t464 t470).f3.f0, (rd_T45 t464 t470).f3.f1, (rd_T45 t464 t470).f3.f2⟩ : S43)⟩ : S45)) := ⟨_, rfl⟩
         try rw [← hy480] at H
         try dsimp only [Option.bind_some] at H
         have Ny480 := aM hy480
         clear hy480
         simp only [Option.some.injEq, Prod.mk.injEq] at H
         obtain ⟨rfl, rfl⟩ := H
         obtain ⟨Ao21, co21, eo21⟩ := Kd.N_slice HO_5.out
         subst eo21
         go_wp2_with (first | ((with_reducible refine gate_callee (f := 20) rfl ?_); refine gL (some 22) Try.func20 #[.pointer (some ⟨g, 0, none⟩), .int .i64 (t464.length : Int)] ?_; (with_reducible refine (spec_l20Rd_pick.calls kj3 g s0_0 x1001_3 (t464.length : Int) t470 t471 w0 _ ?side1 ?side2 A12.out).mono ?_); (case side1 => exact IsS69.j HI0.out); (case side2 => exact jB HB.out); rintro e w22 ⟨rfl, hi, hb, hk⟩; refine ⟨_, rfl, ?_⟩; replace HO_5 := aM (Kd.N_mono (Kd.N_keep (Kd.N_mono (ok := fun k_ => (((w.heap.size ≤ k_)) ∧ k_ ≠ g)) (by exact lN <| HO_5.out) (fun k_ hk_ => (⟨hk_, hk_.2⟩ : _ ∧ k_ ≠ g))) hk (fun _ h => h.2)) (fun _ h => h.1)); replace HK := aM (kt HK.out hk); replace HB := aM (hb); replace HI0 := aM (hi); (try clear hb hk hi)) | ((with_reducible refine gate_callee (f := 20) rfl ?_); refine gL (some 24) Try.func20 #[.pointer (some ⟨g, 0, none⟩), .int .i64 6] ?_; (with_reducible refine (spec_l20Rd_pick.calls kj3 g s0_0 t471 6 t472 t473 w0 _ ?side1 ?side2 A13.out).mono ?_); (case side1 => exact IsS69.j HI0.out); (case side2 => exact jB HB.out); rintro e w23 ⟨rfl, hi, hb, hk⟩; refine ⟨_, rfl, ?_⟩; replace HO_5 := aM (Kd.N_mono (Kd.N_keep (Kd.N_mono (ok := fun k_ => (((w.heap.size ≤ k_)) ∧ k_ ≠ g)) (by exact lN <| HO_5.out) (fun k_ hk_ => (⟨hk_, hk_.2⟩ : _ ∧ k_ ≠ g))) hk (fun _ h => h.2)) (fun _ h => h.1)); replace HK := aM (kt HK.out hk); replace HB := aM (hb); replace HI0 := aM (hi); (try clear hb hk hi)) | ((with_reducible refine gate_dst (N := 38) rfl ?_); refine Kd.R_lit (Kd.int .i64) _ 3 ?hg (N := 38) ?hd (xs := ([0, 5, 4, 1] : List Int)) (inner := [.int .i64 0, .int .i64 5, .int .i64 4, .int .i64 1]) (ok := fun _ => True) (okp := fun _ => True) ?hr ?hp (fun _ hk => hk) trivial (Below.refl _ _) (Nat.le_refl _) (by simp) ?_; (case hd => rfl); (case hg => rfl); (case hr => first | (go_simp; done) | (go_simp; rfl)); (case hp => exact (Reps.one (show Kd.M (Kd.int .i64) _ _ _ 0 [.int .i64 0] from rfl) (Reps.one (show Kd.M (Kd.int .i64) _ _ _ 5 [.int .i64 5] from rfl) (Reps.one (show Kd.M (Kd.int .i64) _ _ _ 4 [.int .i64 4] from rfl) (Reps.one (show Kd.M (Kd.int .i64) _ _ _ 1 [.int .i64 1] from rfl) (Reps.none _ _)))))); intro v475 w24 ho25 hb hg_ hnew_; clear hg_ hnew_; (first | rw [← Ny474.out] at ho25 | (simp only [Int.reduceToNat] at ho25; rw [← Ny474.out] at ho25)); replace HO_5 := aM (Kd.N_elder' (by exact lN <| HO_5.out) (Kd.R_base ho25) hb); have HO476 := aM (lwM ho25 HK.out); replace HI0 := aM (IsS69.below (by exact IsS69.j HI0.out) hb); replace HK := aM (kbl HK.out hb); replace HB := aM (bj HB.out hb); clear hb ho25) | ((with_reducible refine gate_callee (f := 20) rfl ?_); refine gL (some 40) Try.func20 #[.pointer (some ⟨g, 0, none⟩), .int .i64 4] ?_; (with_reducible refine (spec_l20Rd_pick.calls kj3 g s0_0 t473 4 t477 t478 w0 _ ?side1 ?side2 A15.out).mono ?_); (case side1 => exact IsS69.j HI0.out); (case side2 => exact jB HB.out); rintro e w26 ⟨rfl, hi, hb, hk⟩; refine ⟨_, rfl, ?_⟩; replace HO_5 := aM (Kd.N_mono (Kd.N_keep (Kd.N_mono (ok := fun k_ => ((((w.heap.size ≤ k_)) ∧ k_ ≠ g) ∧ some k_ ≠ v475.ownBlock)) (by exact lN <| HO_5.out) (fun k_ hk_ => (⟨hk_, hk_.1.2⟩ : _ ∧ k_ ≠ g))) hk (fun _ h => h.2)) (fun _ h => h.1)); replace HO476 := aM (IsS69.kp (f1 := t473) (by exact IsS69.j HI0.out) (lR HO476.out) hk); replace HK := aM (kt HK.out hk); replace HB := aM (hb); replace HI0 := aM (hi); (try clear hb hk hi); obtain ⟨Ao27, co27, eo27⟩ := Kd.R_slice HO476.out; subst eo27; have p479 : 0 ≤ (t477 : Int) := of_decide_eq_true (by first | (with_reducible assumption) | assumption); have q479 : t477 < (y474.length : Int) := of_decide_eq_true (by first | (with_reducible assumption) | assumption); obtain ⟨ad479, e479, hx479_0⟩ := Kd.at_int (Kd.R_reads' HO476.out).2.2 t477 p479 q479; cases e479; replace p479 := eq_true p479; replace q479 := eq_true q479; have p20 : 0 ≤ (t470 : Int) := of_decide_eq_true (by first | (with_reducible assumption) | assumption); have q20 : (t470 : Int) < ((t464.length : Int) : Int) := of_decide_eq_true (by first | (with_reducible assumption) | assumption); obtain ⟨go20, co20, eo20, gb20, gl20, cl20, HG20⟩ := Kd.N_form HO_5.out (by omega); (first | cases eo20 | (injection eo20 with ea_ en_ ec_; (first | subst ea_ | (injection ea_ with ea_; subst ea_)); subst ec_; clear en_)); have GB20 := aM gb20; have IGB20 : Nonempty _ := ⟨GB20.out⟩; have GG20 := aM HG20; clear gb20 gl20 HG20; obtain ⟨ce20, hcl20, hM20, hcc20, hfr20⟩ := Kd.N_elem HO_5.out z45 (t470 : Int) p20 q20; obtain ⟨ua20_3, uc20_3, ua20_4, uc20_4, rfl, ul20_3, ge20_3, ul20_4, ge20_4⟩ := k45_openF hM20; have hx20_0 : w26.cell? ⟨go20, (t470 : Int).toNat * 6, none⟩ = some (.int .i64 ((rd_T45 t464 t470).f0)) := hcc20 0 _ rfl; have hx20_1 : w26.cell? ⟨go20, (t470 : Int).toNat * 6 + 1, none⟩ = some (.int .i64 ((rd_T45 t464 t470).f1)) := hcc20 1 _ rfl; have hx20_2 : w26.cell? ⟨go20, (t470 : Int).toNat * 6 + 2, none⟩ = some (.int .i64 ((rd_T45 t464 t470).f2)) := hcc20 2 _ rfl; have hx20_3 : w26.cell? ⟨go20, (t470 : Int).toNat * 6 + 3, none⟩ = some (.slice ua20_3 ((rd_T45 t464 t470).f3.f0).length uc20_3) := hcc20 3 _ rfl; have hx20_4 : w26.cell? ⟨go20, (t470 : Int).toNat * 6 + 4, none⟩ = some (.slice ua20_4 ((rd_T45 t464 t470).f3.f1).length uc20_4) := hcc20 4 _ rfl; have hx20_5 : w26.cell? ⟨go20, (t470 : Int).toNat * 6 + 5, none⟩ = some (.int .i64 ((rd_T45 t464 t470).f3.f2)) := hcc20 5 _ rfl; have hf20_0 : w26.frozen? ⟨go20, (t470 : Int).toNat * 6, none⟩ = false := hfr20 0; have hf20_1 : w26.frozen? ⟨go20, (t470 : Int).toNat * 6 + 1, none⟩ = false := hfr20 1; have hf20_2 : w26.frozen? ⟨go20, (t470 : Int).toNat * 6 + 2, none⟩ = false := hfr20 2; have hf20_3 : w26.frozen? ⟨go20, (t470 : Int).toNat * 6 + 3, none⟩ = false := hfr20 3; have hf20_4 : w26.frozen? ⟨go20, (t470 : Int).toNat * 6 + 4, none⟩ = false := hfr20 4; have hf20_5 : w26.frozen? ⟨go20, (t470 : Int).toNat * 6 + 5, none⟩ = false := hfr20 5; clear hcl20 hcc20 hfr20; (try clear hM20); replace p20 := eq_true p20; replace q20 := eq_true q20; replace HO_5 := aM (Kd.N_mono (ok' := (fun k_ => (w.heap.size ≤ k_) ∧ some k_ ≠ ownBlock (.slice (some ad479) y474.length co27))) HO_5.out (fun k_ hk => ⟨hk.1.1, hk.2⟩)); have HX28 := aM (show Kd.N k45 45 w26 w.heap.size (fun k_ => (w.heap.size ≤ k_) ∧ some k_ ≠ ownBlock (.slice (some ad479) y474.length co27)) (.slice (some ⟨go20, 0, none⟩) t464.length co21) t464 from (by exact lN <| HO_5.out)); obtain ⟨ce28, hcl28, hM28, hcc28, hfr28⟩ := Kd.N_elem HX28.out z45 (t470 : Int) (of_decide_eq_true (by first | (with_reducible assumption) | assumption)) (by have h_ : (t470 : Int) < ((t464.length : Int) : Int) := of_decide_eq_true (by first | (with_reducible assumption) | assumption); first | exact h_ | (have e_ := (Kd.N_reads' HO_5.out).1; omega) | simpa using h_); obtain ⟨ua28_3, uc28_3, ua28_4, uc28_4, rfl, ul28_3, ge28_3, ul28_4, ge28_4⟩ := k45_openF hM28; have HP28 := Kd.N_seg HX28.out (t470 : Int) (of_decide_eq_true (by first | (with_reducible assumption) | assumption)) (by have h_ : (t470 : Int) < ((t464.length : Int) : Int) := of_decide_eq_true (by first | (with_reducible assumption) | assumption); first | exact h_ | (have e_ := (Kd.N_reads' HO_5.out).1; omega) | simpa using h_) (seg := [.int .i64 (rd y474 t477)]) (j := 0) hcl28 hcc28 (show 1 ≤ 6 from by decide) (x' := (⟨rd y474 t477, (rd_T45 t464 t470).f1, (rd_T45 t464 t470).f2, (⟨(rd_T45 t464 t470).f3.f0, (rd_T45 t464 t470).f3.f1, (rd_T45 t464 t470).f3.f2⟩ : S43)⟩ : S45)) (k45_mkF _ _ (⟨rd y474 t477, (rd_T45 t464 t470).f1, (rd_T45 t464 t470).f2, (⟨(rd_T45 t464 t470).f3.f0, (rd_T45 t464 t470).f3.f1, (rd_T45 t464 t470).f3.f2⟩ : S43)⟩ : S45) ul28_3 ge28_3 ul28_4 ge28_4) (fun _ hk => hk); have hx28_0 := hcc28 0 _ rfl; (try simp only [show (k45).sz = 6 from rfl, Nat.mul_one, Nat.add_zero] at hx28_0); have hf28_0 := hfr28 0; (try simp only [show (k45).sz = 6 from rfl, Nat.mul_one, Nat.add_zero] at hf28_0); clear hcl28 hcc28 hfr28; (try clear hM28)) | ((with_reducible refine gate_store (t := 3) (p := 44) rfl ?_); refine store_event (t := 3) (p := 44) (v := ?vo_w29) (w1 := (w26.setCell ⟨go20, (t470 : Int).toNat * 6, none⟩ (.int .i64 (rd y474 t477)))) ?hg ?ho ?hn ?hr ?_; (case ho => rfl); (case hg => rfl); (case hn => rfl); (case hr => first | (go_simp; done) | (go_simp; rfl)); intro w29 hw; have hg : w26.grownBy w29 (some go20) := (by rw [hw]; exact HP28.2); have hp_ : Kd.N k45 45 w29 w.heap.size (fun k_ => (w.heap.size ≤ k_) ∧ some k_ ≠ ownBlock (.slice (some ad479) y474.length co27)) (.slice (some ⟨go20, 0, none⟩) t464.length co21) y480 := (by rw [hw, Ny480.out]; exact HP28.1); clear HP28; replace HI0 := aM (IsS69.grown (by exact IsS69.j HI0.out) hg (IsS69.own_neN HI0.out HO_5.out (by decide))); replace HO476 := aM (Kd.R_over' (v := (.slice (some ⟨go20, 0, none⟩) t464.length co21)) (by exact lR HO476.out) (Kd.N_typed HO_5.out) (by decide) hg); replace HB := aM ((by rw [hw]; exact below_set (HB.out) (Nat.le_trans HL.out GB20.out) : Below w0.heap.size w0 w29)); replace HK := aM (KeepBut.trans (by exact jK HK.out) (KeepBut.of_grown hg g) (Kd.N_base2 HO_5.out)); replace HO_5 := aM (hp_); clear hg hw hp_))
         go_ret
         exact ⟨_, er, by exact lN <| Kd.N_mono HO_5.out (fun _ hk => hk.1), by exact IsS69.j HI0.out, by exact jB HB.out, by exact jK HK.out⟩
        ·rw [if_neg c19] at H
         exact absurd H (by simp)
       ·rw [if_neg c18] at H
        exact absurd H (by simp)
      ·rw [if_neg c17] at H
       exact absurd H (by simp)
     ·rw [if_neg c16] at H
      exact absurd H (by simp)
    ·rw [if_neg c14] at H
     have c14b0 := beq_eq_false_iff_ne.mpr c14
     have c14b1 := bne_iff_ne.mpr c14
     by_cases c30 : t472 = 1
     ·rw [if_pos c30] at H
      have c30b0 := beq_iff_eq.mpr c30
      have c30b1 := bne_eq_false_iff_eq.mpr c30
      clear c30
      obtain ⟨y481, hy481⟩ : ∃ y_ : List Int, y_ = (([(-1), 3, 2] : List Int)) := ⟨_, rfl⟩
      try rw [← hy481] at H
      try dsimp only [Option.bind_some] at H
      have Ny481 := aM hy481
      clear hy481
      obtain ⟨⟨t484, t485⟩, A31, H⟩ := bS H
      try dsimp only at H
      by_cases c32 : 0 ≤ t484
      ·rw [if_pos c32] at H
       have c32b0 := decide_eq_true c32
       clear c32
       by_cases c33 : t484 < (y481.length : Int)
       ·rw [if_pos c33] at H
        have c33b0 := decide_eq_true c33
        clear c33
        by_cases c34 : 0 ≤ t470
        ·rw [if_pos c34] at H
         have c34b0 := decide_eq_true c34
         clear c34
         by_cases c35 : t470 < (t464.length : Int)
         ·rw [if_pos c35] at H
          have c35b0 := decide_eq_true c35
          clear c35
          obtain ⟨y487, hy487⟩ : ∃ y_ : List (S45), y_ = (t464.set (t470 : Int).toNat (⟨(rd_T45 t464 t470).f0, rd y481 t484, (rd_T45 t464 t470).f2, (⟨(rd_T45 t464 t470).f3.f0, (rd_T45 t464 t470).f3.f1, (rd_T45 t464 t470).f3.f2⟩ : S43)⟩ : S45)) := ⟨_, rfl⟩
          try rw [← hy487] at H
          try dsimp only [Option.bind_some] at H
          have Ny487 := aM hy487
          clear hy487
          simp only [Option.some.injEq, Prod.mk.injEq] at H
          obtain ⟨rfl, rfl⟩ := H
          obtain ⟨Ao37, co37, eo37⟩ := Kd.N_slice HO_5.out
          subst eo37
          go_wp2_with (first | ((with_reducible refine gate_callee (f := 20) rfl ?_); refine gL (some 22) Try.func20 #[.pointer (some ⟨g, 0, none⟩), .int .i64 (t464.length : Int)] ?_; (with_reducible refine (spec_l20Rd_pick.calls kj3 g s0_0 x1001_3 (t464.length : Int) t470 t471 w0 _ ?side1 ?side2 A12.out).mono ?_); (case side1 => exact IsS69.j HI0.out); (case side2 => exact jB HB.out); rintro e w38 ⟨rfl, hi, hb, hk⟩; refine ⟨_, rfl, ?_⟩; replace HO_5 := aM (Kd.N_mono (Kd.N_keep (Kd.N_mono (ok := fun k_ => (((w.heap.size ≤ k_)) ∧ k_ ≠ g)) (by exact lN <| HO_5.out) (fun k_ hk_ => (⟨hk_, hk_.2⟩ : _ ∧ k_ ≠ g))) hk (fun _ h => h.2)) (fun _ h => h.1)); replace HK := aM (kt HK.out hk); replace HB := aM (hb); replace HI0 := aM (hi); (try clear hb hk hi)) | ((with_reducible refine gate_callee (f := 20) rfl ?_); refine gL (some 24) Try.func20 #[.pointer (some ⟨g, 0, none⟩), .int .i64 6] ?_; (with_reducible refine (spec_l20Rd_pick.calls kj3 g s0_0 t471 6 t472 t473 w0 _ ?side1 ?side2 A13.out).mono ?_); (case side1 => exact IsS69.j HI0.out); (case side2 => exact jB HB.out); rintro e w39 ⟨rfl, hi, hb, hk⟩; refine ⟨_, rfl, ?_⟩; replace HO_5 := aM (Kd.N_mono (Kd.N_keep (Kd.N_mono (ok := fun k_ => (((w.heap.size ≤ k_)) ∧ k_ ≠ g)) (by exact lN <| HO_5.out) (fun k_ hk_ => (⟨hk_, hk_.2⟩ : _ ∧ k_ ≠ g))) hk (fun _ h => h.2)) (fun _ h => h.1)); replace HK := aM (kt HK.out hk); replace HB := aM (hb); replace HI0 := aM (hi); (try clear hb hk hi)) | ((with_reducible refine gate_dst (N := 49) rfl ?_); refine Kd.R_lit (Kd.int .i64) _ 3 ?hg (N := 49) ?hd (xs := ([(-1), 3, 2] : List Int)) (inner := [.int .i64 (-1), .int .i64 3, .int .i64 2]) (ok := fun _ => True) (okp := fun _ => True) ?hr ?hp (fun _ hk => hk) trivial (Below.refl _ _) (Nat.le_refl _) (by simp) ?_; (case hd => rfl); (case hg => rfl); (case hr => first | (go_simp; done) | (go_simp; rfl)); (case hp => exact (Reps.one (show Kd.M (Kd.int .i64) _ _ _ (-1) [.int .i64 (-1)] from rfl) (Reps.one (show Kd.M (Kd.int .i64) _ _ _ 3 [.int .i64 3] from rfl) (Reps.one (show Kd.M (Kd.int .i64) _ _ _ 2 [.int .i64 2] from rfl) (Reps.none _ _))))); intro v482 w40 ho41 hb hg_ hnew_; clear hg_ hnew_; (first | rw [← Ny481.out] at ho41 | (simp only [Int.reduceToNat] at ho41; rw [← Ny481.out] at ho41)); replace HO_5 := aM (Kd.N_elder' (by exact lN <| HO_5.out) (Kd.R_base ho41) hb); have HO483 := aM (lwM ho41 HK.out); replace HI0 := aM (IsS69.below (by exact IsS69.j HI0.out) hb); replace HK := aM (kbl HK.out hb); replace HB := aM (bj HB.out hb); clear hb ho41) | ((with_reducible refine gate_callee (f := 20) rfl ?_); refine gL (some 51) Try.func20 #[.pointer (some ⟨g, 0, none⟩), .int .i64 3] ?_; (with_reducible refine (spec_l20Rd_pick.calls kj3 g s0_0 t473 3 t484 t485 w0 _ ?side1 ?side2 A31.out).mono ?_); (case side1 => exact IsS69.j HI0.out); (case side2 => exact jB HB.out); rintro e w42 ⟨rfl, hi, hb, hk⟩; refine ⟨_, rfl, ?_⟩; replace HO_5 := aM (Kd.N_mono (Kd.N_keep (Kd.N_mono (ok := fun k_ => ((((w.heap.size ≤ k_)) ∧ k_ ≠ g) ∧ some k_ ≠ v482.ownBlock)) (by exact lN <| HO_5.out) (fun k_ hk_ => (⟨hk_, hk_.1.2⟩ : _ ∧ k_ ≠ g))) hk (fun _ h => h.2)) (fun _ h => h.1)); replace HO483 := aM (IsS69.kp (f1 := t473) (by exact IsS69.j HI0.out) (lR HO483.out) hk); replace HK := aM (kt HK.out hk); replace HB := aM (hb); replace HI0 := aM (hi); (try clear hb hk hi); obtain ⟨Ao43, co43, eo43⟩ := Kd.R_slice HO483.out; subst eo43; have p486 : 0 ≤ (t484 : Int) := of_decide_eq_true (by first | (with_reducible assumption) | assumption); have q486 : t484 < (y481.length : Int) := of_decide_eq_true (by first | (with_reducible assumption) | assumption); obtain ⟨ad486, e486, hx486_0⟩ := Kd.at_int (Kd.R_reads' HO483.out).2.2 t484 p486 q486; cases e486; replace p486 := eq_true p486; replace q486 := eq_true q486; have p36 : 0 ≤ (t470 : Int) := of_decide_eq_true (by first | (with_reducible assumption) | assumption); have q36 : (t470 : Int) < ((t464.length : Int) : Int) := of_decide_eq_true (by first | (with_reducible assumption) | assumption); obtain ⟨go36, co36, eo36, gb36, gl36, cl36, HG36⟩ := Kd.N_form HO_5.out (by omega); (first | cases eo36 | (injection eo36 with ea_ en_ ec_; (first | subst ea_ | (injection ea_ with ea_; subst ea_)); subst ec_; clear en_)); have GB36 := aM gb36; have IGB36 : Nonempty _ := ⟨GB36.out⟩; have GG36 := aM HG36; clear gb36 gl36 HG36; obtain ⟨ce36, hcl36, hM36, hcc36, hfr36⟩ := Kd.N_elem HO_5.out z45 (t470 : Int) p36 q36; obtain ⟨ua36_3, uc36_3, ua36_4, uc36_4, rfl, ul36_3, ge36_3, ul36_4, ge36_4⟩ := k45_openF hM36; have hx36_0 : w42.cell? ⟨go36, (t470 : Int).toNat * 6, none⟩ = some (.int .i64 ((rd_T45 t464 t470).f0)) := hcc36 0 _ rfl; have hx36_1 : w42.cell? ⟨go36, (t470 : Int).toNat * 6 + 1, none⟩ = some (.int .i64 ((rd_T45 t464 t470).f1)) := hcc36 1 _ rfl; have hx36_2 : w42.cell? ⟨go36, (t470 : Int).toNat * 6 + 2, none⟩ = some (.int .i64 ((rd_T45 t464 t470).f2)) := hcc36 2 _ rfl; have hx36_3 : w42.cell? ⟨go36, (t470 : Int).toNat * 6 + 3, none⟩ = some (.slice ua36_3 ((rd_T45 t464 t470).f3.f0).length uc36_3) := hcc36 3 _ rfl; have hx36_4 : w42.cell? ⟨go36, (t470 : Int).toNat * 6 + 4, none⟩ = some (.slice ua36_4 ((rd_T45 t464 t470).f3.f1).length uc36_4) := hcc36 4 _ rfl; have hx36_5 : w42.cell? ⟨go36, (t470 : Int).toNat * 6 + 5, none⟩ = some (.int .i64 ((rd_T45 t464 t470).f3.f2)) := hcc36 5 _ rfl; have hf36_0 : w42.frozen? ⟨go36, (t470 : Int).toNat * 6, none⟩ = false := hfr36 0; have hf36_1 : w42.frozen? ⟨go36, (t470 : Int).toNat * 6 + 1, none⟩ = false := hfr36 1; have hf36_2 : w42.frozen? ⟨go36, (t470 : Int).toNat * 6 + 2, none⟩ = false := hfr36 2; have hf36_3 : w42.frozen? ⟨go36, (t470 : Int).toNat * 6 + 3, none⟩ = false := hfr36 3; have hf36_4 : w42.frozen? ⟨go36, (t470 : Int).toNat * 6 + 4, none⟩ = false := hfr36 4; have hf36_5 : w42.frozen? ⟨go36, (t470 : Int).toNat * 6 + 5, none⟩ = false := hfr36 5; clear hcl36 hcc36 hfr36; (try clear hM36); replace p36 := eq_true p36; replace q36 := eq_true q36; replace HO_5 := aM (Kd.N_mono (ok' := (fun k_ => (w.heap.size ≤ k_) ∧ some k_ ≠ ownBlock (.slice (some ad486) y481.length co43))) HO_5.out (fun k_ hk => ⟨hk.1.1, hk.2⟩)); have HX44 := aM (show Kd.N k45 45 w42 w.heap.size (fun k_ => (w.heap.size ≤ k_) ∧ some k_ ≠ ownBlock (.slice (some ad486) y481.length co43)) (.slice (some ⟨go36, 0, none⟩) t464.length co37) t464 from (by exact lN <| HO_5.out)); obtain ⟨ce44, hcl44, hM44, hcc44, hfr44⟩ := Kd.N_elem HX44.out z45 (t470 : Int) (of_decide_eq_true (by first | (with_reducible assumption) | assumption)) (by have h_ : (t470 : Int) < ((t464.length : Int) : Int) := of_decide_eq_true (by first | (with_reducible assumption) | assumption); first | exact h_ | (have e_ := (Kd.N_reads' HO_5.out).1; omega) | simpa using h_); obtain ⟨ua44_3, uc44_3, ua44_4, uc44_4, rfl, ul44_3, ge44_3, ul44_4, ge44_4⟩ := k45_openF hM44; have HP44 := Kd.N_seg HX44.out (t470 : Int) (of_decide_eq_true (by first | (with_reducible assumption) | assumption)) (by have h_ : (t470 : Int) < ((t464.length : Int) : Int) := of_decide_eq_true (by first | (with_reducible assumption) | assumption); first | exact h_ | (have e_ := (Kd.N_reads' HO_5.out).1; omega) | simpa using h_) (seg := [.int .i64 (rd y481 t484)]) (j := 1) hcl44 hcc44 (show 2 ≤ 6 from by decide) (x' := (⟨(rd_T45 t464 t470).f0, rd y481 t484, (rd_T45 t464 t470).f2, (⟨(rd_T45 t464 t470).f3.f0, (rd_T45 t464 t470).f3.f1, (rd_T45 t464 t470).f3.f2⟩ : S43)⟩ : S45)) (k45_mkF _ _ (⟨(rd_T45 t464 t470).f0, rd y481 t484, (rd_T45 t464 t470).f2, (⟨(rd_T45 t464 t470).f3.f0, (rd_T45 t464 t470).f3.f1, (rd_T45 t464 t470).f3.f2⟩ : S43)⟩ : S45) ul44_3 ge44_3 ul44_4 ge44_4) (fun _ hk => hk); have hx44_1 := hcc44 1 _ rfl; (try simp only [show (k45).sz = 6 from rfl, Nat.mul_one, Nat.add_zero] at hx44_1); have hf44_1 := hfr44 1; (try simp only [show (k45).sz = 6 from rfl, Nat.mul_one, Nat.add_zero] at hf44_1); clear hcl44 hcc44 hfr44; (try clear hM44)) | ((with_reducible refine gate_store (t := 3) (p := 55) rfl ?_); refine store_event (t := 3) (p := 55) (v := ?vo_w45) (w1 := (w42.setCell ⟨go36, (t470 : Int).toNat * 6 + 1, none⟩ (.int .i64 (rd y481 t484)))) ?hg ?ho ?hn ?hr ?_; (case ho => rfl); (case hg => rfl); (case hn => rfl); (case hr => first | (go_simp; done) | (go_simp; rfl)); intro w45 hw; have hg : w42.grownBy w45 (some go36) := (by rw [hw]; exact HP44.2); have hp_ : Kd.N k45 45 w45 w.heap.size (fun k_ => (w.heap.size ≤ k_) ∧ some k_ ≠ ownBlock (.slice (some ad486) y481.length co43)) (.slice (some ⟨go36, 0, none⟩) t464.length co37) y487 := (by rw [hw, Ny487.out]; exact HP44.1); clear HP44; replace HI0 := aM (IsS69.grown (by exact IsS69.j HI0.out) hg (IsS69.own_neN HI0.out HO_5.out (by decide))); replace HO483 := aM (Kd.R_over' (v := (.slice (some ⟨go36, 0, none⟩) t464.length co37)) (by exact lR HO483.out) (Kd.N_typed HO_5.out) (by decide) hg); replace HB := aM ((by rw [hw]; exact below_set (HB.out) (Nat.le_trans HL.out GB36.out) : Below w0.heap.size w0 w45)); replace HK := aM (KeepBut.trans (by exact jK HK.out) (KeepBut.of_grown hg g) (Kd.N_base2 HO_5.out)); replace HO_5 := aM (hp_); clear hg hw hp_))
          go_ret
          exact ⟨_, er, by exact lN <| Kd.N_mono HO_5.out (fun _ hk => hk.1), by exact IsS69.j HI0.out, by exact jB HB.out, by exact jK HK.out⟩
         ·rw [if_neg c35] at H
          exact absurd H (by simp)
        ·rw [if_neg c34] at H
         exact absurd H (by simp)
       ·rw [if_neg c33] at H
        exact absurd H (by simp)
      ·rw [if_neg c32] at H
       exact absurd H (by simp)
     ·rw [if_neg c30] at H
      have c30b0 := beq_eq_false_iff_ne.mpr c30
      have c30b1 := bne_iff_ne.mpr c30
      by_cases c46 : t472 = 2
      ·rw [if_pos c46] at H
       have c46b0 := beq_iff_eq.mpr c46
       have c46b1 := bne_eq_false_iff_eq.mpr c46
       clear c46
       obtain ⟨y488, hy488⟩ : ∃ y_ : List Int, y_ = (([0, (-1), 7, 6] : List Int)) := ⟨_, rfl⟩
       try rw [← hy488] at H
       try dsimp only [Option.bind_some] at H
       have Ny488 := aM hy488
       clear hy488
       obtain ⟨⟨t491, t492⟩, A47, H⟩ := bS H
       try dsimp only at H
       by_cases c48 : 0 ≤ t491
       ·rw [if_pos c48] at H
        have c48b0 := decide_eq_true c48
        clear c48
        by_cases c49 : t491 < (y488.length : Int)
        ·rw [if_pos c49] at H
         have c49b0 := decide_eq_true c49
         clear c49
         by_cases c50 : 0 ≤ t470
         ·rw [if_pos c50] at H
          have c50b0 := decide_eq_true c50
          clear c50
          by_cases c51 : t470 < (t464.length : Int)
          ·rw [if_pos c51] at H
           have c51b0 := decide_eq_true c51
           clear c51
           obtain ⟨y494, hy494⟩ : ∃ y_ : List (S45), y_ = (t464.set (t470 : Int).toNat (⟨(rd_T45 t464 t470).f0, (rd_T45 t464 t470).f1, rd y488 t491, (⟨(rd_T45 t464 t470).f3.f0, (rd_T45 t464 t470).f3.f1, (rd_T45 t464 t470).f3.f2⟩ : S43)⟩ : S45)) := ⟨_, rfl⟩
           try rw [← hy494] at H
           try dsimp only [Option.bind_some] at H
           have Ny494 := aM hy494
           clear hy494
           simp only [Option.some.injEq, Prod.mk.injEq] at H
           obtain ⟨rfl, rfl⟩ := H
           obtain ⟨Ao53, co53, eo53⟩ := Kd.N_slice HO_5.out
           subst eo53
           go_wp2_with (first | ((with_reducible refine gate_callee (f := 20) rfl ?_); refine gL (some 22) Try.func20 #[.pointer (some ⟨g, 0, none⟩), .int .i64 (t464.length : Int)] ?_; (with_reducible refine (spec_l20Rd_pick.calls kj3 g s0_0 x1001_3 (t464.length : Int) t470 t471 w0 _ ?side1 ?side2 A12.out).mono ?_); (case side1 => exact IsS69.j HI0.out); (case side2 => exact jB HB.out); rintro e w54 ⟨rfl, hi, hb, hk⟩; refine ⟨_, rfl, ?_⟩; replace HO_5 := aM (Kd.N_mono (Kd.N_keep (Kd.N_mono (ok := fun k_ => (((w.heap.size ≤ k_)) ∧ k_ ≠ g)) (by exact lN <| HO_5.out) (fun k_ hk_ => (⟨hk_, hk_.2⟩ : _ ∧ k_ ≠ g))) hk (fun _ h => h.2)) (fun _ h => h.1)); replace HK := aM (kt HK.out hk); replace HB := aM (hb); replace HI0 := aM (hi); (try clear hb hk hi)) | ((with_reducible refine gate_callee (f := 20) rfl ?_); refine gL (some 24) Try.func20 #[.pointer (some ⟨g, 0, none⟩), .int .i64 6] ?_; (with_reducible refine (spec_l20Rd_pick.calls kj3 g s0_0 t471 6 t472 t473 w0 _ ?side1 ?side2 A13.out).mono ?_); (case side1 => exact IsS69.j HI0.out); (case side2 => exact jB HB.out); rintro e w55 ⟨rfl, hi, hb, hk⟩; refine ⟨_, rfl, ?_⟩; replace HO_5 := aM (Kd.N_mono (Kd.N_keep (Kd.N_mono (ok := fun k_ => (((w.heap.size ≤ k_)) ∧ k_ ≠ g)) (by exact lN <| HO_5.out) (fun k_ hk_ => (⟨hk_, hk_.2⟩ : _ ∧ k_ ≠ g))) hk (fun _ h => h.2)) (fun _ h => h.1)); replace HK := aM (kt HK.out hk); replace HB := aM (hb); replace HI0 := aM (hi); (try clear hb hk hi)) | ((with_reducible refine gate_dst (N := 60) rfl ?_); refine Kd.R_lit (Kd.int .i64) _ 3 ?hg (N := 60) ?hd (xs := ([0, (-1), 7, 6] : List Int)) (inner := [.int .i64 0, .int .i64 (-1), .int .i64 7, .int .i64 6]) (ok := fun _ => True) (okp := fun _ => True) ?hr ?hp (fun _ hk => hk) trivial (Below.refl _ _) (Nat.le_refl _) (by simp) ?_; (case hd => rfl); (case hg => rfl); (case hr => first | (go_simp; done) | (go_simp; rfl)); (case hp => exact (Reps.one (show Kd.M (Kd.int .i64) _ _ _ 0 [.int .i64 0] from rfl) (Reps.one (show Kd.M (Kd.int .i64) _ _ _ (-1) [.int .i64 (-1)] from rfl) (Reps.one (show Kd.M (Kd.int .i64) _ _ _ 7 [.int .i64 7] from rfl) (Reps.one (show Kd.M (Kd.int .i64) _ _ _ 6 [.int .i64 6] from rfl) (Reps.none _ _)))))); intro v489 w56 ho57 hb hg_ hnew_; clear hg_ hnew_; (first | rw [← Ny488.out] at ho57 | (simp only [Int.reduceToNat] at ho57; rw [← Ny488.out] at ho57)); replace HO_5 := aM (Kd.N_elder' (by exact lN <| HO_5.out) (Kd.R_base ho57) hb); have HO490 := aM (lwM ho57 HK.out); replace HI0 := aM (IsS69.below (by exact IsS69.j HI0.out) hb); replace HK := aM (kbl HK.out hb); replace HB := aM (bj HB.out hb); clear hb ho57) | ((with_reducible refine gate_callee (f := 20) rfl ?_); refine gL (some 62) Try.func20 #[.pointer (some ⟨g, 0, none⟩), .int .i64 4] ?_; (with_reducible refine (spec_l20Rd_pick.calls kj3 g s0_0 t473 4 t491 t492 w0 _ ?side1 ?side2 A47.out).mono ?_); (case side1 => exact IsS69.j HI0.out); (case side2 => exact jB HB.out); rintro e w58 ⟨rfl, hi, hb, hk⟩; refine ⟨_, rfl, ?_⟩; replace HO_5 := aM (Kd.N_mono (Kd.N_keep (Kd.N_mono (ok := fun k_ => ((((w.heap.size ≤ k_)) ∧ k_ ≠ g) ∧ some k_ ≠ v489.ownBlock)) (by exact lN <| HO_5.out) (fun k_ hk_ => (⟨hk_, hk_.1.2⟩ : _ ∧ k_ ≠ g))) hk (fun _ h => h.2)) (fun _ h => h.1)); replace HO490 := aM (IsS69.kp (f1 := t473) (by exact IsS69.j HI0.out) (lR HO490.out) hk); replace HK := aM (kt HK.out hk); replace HB := aM (hb); replace HI0 := aM (hi); (try clear hb hk hi); obtain ⟨Ao59, co59, eo59⟩ := Kd.R_slice HO490.out; subst eo59; have p493 : 0 ≤ (t491 : Int) := of_decide_eq_true (by first | (with_reducible assumption) | assumption); have q493 : t491 < (y488.length : Int) := of_decide_eq_true (by first | (with_reducible assumption) | assumption); obtain ⟨ad493, e493, hx493_0⟩ := Kd.at_int (Kd.R_reads' HO490.out).2.2 t491 p493 q493; cases e493; replace p493 := eq_true p493; replace q493 := eq_true q493; have p52 : 0 ≤ (t470 : Int) := of_decide_eq_true (by first | (with_reducible assumption) | assumption); have q52 : (t470 : Int) < ((t464.length : Int) : Int) := of_decide_eq_true (by first | (with_reducible assumption) | assumption); obtain ⟨go52, co52, eo52, gb52, gl52, cl52, HG52⟩ := Kd.N_form HO_5.out (by omega); (first | cases eo52 | (injection eo52 with ea_ en_ ec_; (first | subst ea_ | (injection ea_ with ea_; subst ea_)); subst ec_; clear en_)); have GB52 := aM gb52; have IGB52 : Nonempty _ := ⟨GB52.out⟩; have GG52 := aM HG52; clear gb52 gl52 HG52; obtain ⟨ce52, hcl52, hM52, hcc52, hfr52⟩ := Kd.N_elem HO_5.out z45 (t470 : Int) p52 q52; obtain ⟨ua52_3, uc52_3, ua52_4, uc52_4, rfl, ul52_3, ge52_3, ul52_4, ge52_4⟩ := k45_openF hM52; have hx52_0 : w58.cell? ⟨go52, (t470 : Int).toNat * 6, none⟩ = some (.int .i64 ((rd_T45 t464 t470).f0)) := hcc52 0 _ rfl; have hx52_1 : w58.cell? ⟨go52, (t470 : Int).toNat * 6 + 1, none⟩ = some (.int .i64 ((rd_T45 t464 t470).f1)) := hcc52 1 _ rfl; have hx52_2 : w58.cell? ⟨go52, (t470 : Int).toNat * 6 + 2, none⟩ = some (.int .i64 ((rd_T45 t464 t470).f2)) := hcc52 2 _ rfl; have hx52_3 : w58.cell? ⟨go52, (t470 : Int).toNat * 6 + 3, none⟩ = some (.slice ua52_3 ((rd_T45 t464 t470).f3.f0).length uc52_3) := hcc52 3 _ rfl; have hx52_4 : w58.cell? ⟨go52, (t470 : Int).toNat * 6 + 4, none⟩ = some (.slice ua52_4 ((rd_T45 t464 t470).f3.f1).length uc52_4) := hcc52 4 _ rfl; have hx52_5 : w58.cell? ⟨go52, (t470 : Int).toNat * 6 + 5, none⟩ = some (.int .i64 ((rd_T45 t464 t470).f3.f2)) := hcc52 5 _ rfl; have hf52_0 : w58.frozen? ⟨go52, (t470 : Int).toNat * 6, none⟩ = false := hfr52 0; have hf52_1 : w58.frozen? ⟨go52, (t470 : Int).toNat * 6 + 1, none⟩ = false := hfr52 1; have hf52_2 : w58.frozen? ⟨go52, (t470 : Int).toNat * 6 + 2, none⟩ = false := hfr52 2; have hf52_3 : w58.frozen? ⟨go52, (t470 : Int).toNat * 6 + 3, none⟩ = false := hfr52 3; have hf52_4 : w58.frozen? ⟨go52, (t470 : Int).toNat * 6 + 4, none⟩ = false := hfr52 4; have hf52_5 : w58.frozen? ⟨go52, (t470 : Int).toNat * 6 + 5, none⟩ = false := hfr52 5; clear hcl52 hcc52 hfr52; (try clear hM52); replace p52 := eq_true p52; replace q52 := eq_true q52; replace HO_5 := aM (Kd.N_mono (ok' := (fun k_ => (w.heap.size ≤ k_) ∧ some k_ ≠ ownBlock (.slice (some ad493) y488.length co59))) HO_5.out (fun k_ hk => ⟨hk.1.1, hk.2⟩)); have HX60 := aM (show Kd.N k45 45 w58 w.heap.size (fun k_ => (w.heap.size ≤ k_) ∧ some k_ ≠ ownBlock (.slice (some ad493) y488.length co59)) (.slice (some ⟨go52, 0, none⟩) t464.length co53) t464 from (by exact lN <| HO_5.out)); obtain ⟨ce60, hcl60, hM60, hcc60, hfr60⟩ := Kd.N_elem HX60.out z45 (t470 : Int) (of_decide_eq_true (by first | (with_reducible assumption) | assumption)) (by have h_ : (t470 : Int) < ((t464.length : Int) : Int) := of_decide_eq_true (by first | (with_reducible assumption) | assumption); first | exact h_ | (have e_ := (Kd.N_reads' HO_5.out).1; omega) | simpa using h_); obtain ⟨ua60_3, uc60_3, ua60_4, uc60_4, rfl, ul60_3, ge60_3, ul60_4, ge60_4⟩ := k45_openF hM60; have HP60 := Kd.N_seg HX60.out (t470 : Int) (of_decide_eq_true (by first | (with_reducible assumption) | assumption)) (by have h_ : (t470 : Int) < ((t464.length : Int) : Int) := of_decide_eq_true (by first | (with_reducible assumption) | assumption); first | exact h_ | (have e_ := (Kd.N_reads' HO_5.out).1; omega) | simpa using h_) (seg := [.int .i64 (rd y488 t491)]) (j := 2) hcl60 hcc60 (show 3 ≤ 6 from by decide) (x' := (⟨(rd_T45 t464 t470).f0, (rd_T45 t464 t470).f1, rd y488 t491, (⟨(rd_T45 t464 t470).f3.f0, (rd_T45 t464 t470).f3.f1, (rd_T45 t464 t470).f3.f2⟩ : S43)⟩ : S45)) (k45_mkF _ _ (⟨(rd_T45 t464 t470).f0, (rd_T45 t464 t470).f1, rd y488 t491, (⟨(rd_T45 t464 t470).f3.f0, (rd_T45 t464 t470).f3.f1, (rd_T45 t464 t470).f3.f2⟩ : S43)⟩ : S45) ul60_3 ge60_3 ul60_4 ge60_4) (fun _ hk => hk); have hx60_2 := hcc60 2 _ rfl; (try simp only [show (k45).sz = 6 from rfl, Nat.mul_one, Nat.add_zero] at hx60_2); have hf60_2 := hfr60 2; (try simp only [show (k45).sz = 6 from rfl, Nat.mul_one, Nat.add_zero] at hf60_2); clear hcl60 hcc60 hfr60; (try clear hM60)) | ((with_reducible refine gate_store (t := 3) (p := 66) rfl ?_); refine store_event (t := 3) (p := 66) (v := ?vo_w61) (w1 := (w58.setCell ⟨go52, (t470 : Int).toNat * 6 + 2, none⟩ (.int .i64 (rd y488 t491)))) ?hg ?ho ?hn ?hr ?_; (case ho => rfl); (case hg => rfl); (case hn => rfl); (case hr => first | (go_simp; done) | (go_simp; rfl)); intro w61 hw; have hg : w58.grownBy w61 (some go52) := (by rw [hw]; exact HP60.2); have hp_ : Kd.N k45 45 w61 w.heap.size (fun k_ => (w.heap.size ≤ k_) ∧ some k_ ≠ ownBlock (.slice (some ad493) y488.length co59)) (.slice (some ⟨go52, 0, none⟩) t464.length co53) y494 := (by rw [hw, Ny494.out]; exact HP60.1); clear HP60; replace HI0 := aM (IsS69.grown (by exact IsS69.j HI0.out) hg (IsS69.own_neN HI0.out HO_5.out (by decide))); replace HO490 := aM (Kd.R_over' (v := (.slice (some ⟨go52, 0, none⟩) t464.length co53)) (by exact lR HO490.out) (Kd.N_typed HO_5.out) (by decide) hg); replace HB := aM ((by rw [hw]; exact below_set (HB.out) (Nat.le_trans HL.out GB52.out) : Below w0.heap.size w0 w61)); replace HK := aM (KeepBut.trans (by exact jK HK.out) (KeepBut.of_grown hg g) (Kd.N_base2 HO_5.out)); replace HO_5 := aM (hp_); clear hg hw hp_))
           go_ret
           exact ⟨_, er, by exact lN <| Kd.N_mono HO_5.out (fun _ hk => hk.1), by exact IsS69.j HI0.out, by exact jB HB.out, by exact jK HK.out⟩
          ·rw [if_neg c51] at H
           exact absurd H (by simp)
         ·rw [if_neg c50] at H
          exact absurd H (by simp)
        ·rw [if_neg c49] at H
         exact absurd H (by simp)
       ·rw [if_neg c48] at H
        exact absurd H (by simp)
      ·rw [if_neg c46] at H
       have c46b0 := beq_eq_false_iff_ne.mpr c46
       have c46b1 := bne_iff_ne.mpr c46
       by_cases c62 : t472 = 3
       ·rw [if_pos c62] at H
        have c62b0 := beq_iff_eq.mpr c62
        have c62b1 := bne_eq_false_iff_eq.mpr c62
        clear c62
        obtain ⟨⟨t495, t498, t501, t502⟩, A63, H⟩ := bS H
        try dsimp only at H
        by_cases c64 : 0 ≤ t470
        ·rw [if_pos c64] at H
         have c64b0 := decide_eq_true c64
         clear c64
         by_cases c65 : t470 < (t464.length : Int)
         ·rw [if_pos c65] at H
          have c65b0 := decide_eq_true c65
          clear c65
          obtain ⟨y503, hy503⟩ : ∃ y_ : List (S45), y_ = (t464.set (t470 : Int).toNat (⟨(rd_T45 t464 t470).f0, (rd_T45 t464 t470).f1, (rd_T45 t464 t470).f2, (⟨t495, t498, t501⟩ : S43)⟩ : S45)) := ⟨_, rfl⟩
          try rw [← hy503] at H
          try dsimp only [Option.bind_some] at H
          have Ny503 := aM hy503
          clear hy503
          simp only [Option.some.injEq, Prod.mk.injEq] at H
          obtain ⟨rfl, rfl⟩ := H
          obtain ⟨Ao67, co67, eo67⟩ := Kd.N_slice HO_5.out
          subst eo67
          go_wp2_with (first | ((with_reducible refine gate_callee (f := 20) rfl ?_); refine gL (some 22) Try.func20 #[.pointer (some ⟨g, 0, none⟩), .int .i64 (t464.length : Int)] ?_; (with_reducible refine (spec_l20Rd_pick.calls kj3 g s0_0 x1001_3 (t464.length : Int) t470 t471 w0 _ ?side1 ?side2 A12.out).mono ?_); (case side1 => exact IsS69.j HI0.out); (case side2 => exact jB HB.out); rintro e w68 ⟨rfl, hi, hb, hk⟩; refine ⟨_, rfl, ?_⟩; replace HO_5 := aM (Kd.N_mono (Kd.N_keep (Kd.N_mono (ok := fun k_ => (((w.heap.size ≤ k_)) ∧ k_ ≠ g)) (by exact lN <| HO_5.out) (fun k_ hk_ => (⟨hk_, hk_.2⟩ : _ ∧ k_ ≠ g))) hk (fun _ h => h.2)) (fun _ h => h.1)); replace HK := aM (kt HK.out hk); replace HB := aM (hb); replace HI0 := aM (hi); (try clear hb hk hi)) | ((with_reducible refine gate_callee (f := 20) rfl ?_); refine gL (some 24) Try.func20 #[.pointer (some ⟨g, 0, none⟩), .int .i64 6] ?_; (with_reducible refine (spec_l20Rd_pick.calls kj3 g s0_0 t471 6 t472 t473 w0 _ ?side1 ?side2 A13.out).mono ?_); (case side1 => exact IsS69.j HI0.out); (case side2 => exact jB HB.out); rintro e w69 ⟨rfl, hi, hb, hk⟩; refine ⟨_, rfl, ?_⟩; replace HO_5 := aM (Kd.N_mono (Kd.N_keep (Kd.N_mono (ok := fun k_ => (((w.heap.size ≤ k_)) ∧ k_ ≠ g)) (by exact lN <| HO_5.out) (fun k_ hk_ => (⟨hk_, hk_.2⟩ : _ ∧ k_ ≠ g))) hk (fun _ h => h.2)) (fun _ h => h.1)); replace HK := aM (kt HK.out hk); replace HB := aM (hb); replace HI0 := aM (hi); (try clear hb hk hi)) | ((with_reducible refine gate_callee (f := 54) rfl ?_); refine gL (some 72) Try.func54 #[.pointer (some ⟨g, 0, none⟩), .int .i64 2] ?_; (with_reducible refine (spec_l20Form.calls kj3 g s0_0 t473 2 t495 t498 t501 t502 w0 _ ?side1 ?side2 A63.out).mono ?_); (case side1 => exact IsS69.j HI0.out); (case side2 => exact jB HB.out); rintro e w70 ⟨v496, v499, rfl, ho0, ho1, hi, hb, hk⟩; refine ⟨_, rfl, ?_⟩; replace HO_5 := aM (Kd.N_mono (Kd.N_told (Kd.N_told (Kd.N_oldK (Kd.N_mono (ok := fun k_ => (((w.heap.size ≤ k_)) ∧ k_ ≠ g)) (by exact lN <| HO_5.out) (fun k_ hk_ => (⟨hk_, hk_.2⟩ : _ ∧ k_ ≠ g))) hk) (Kd.R_base ho0)) (Kd.R_base ho1)) (fun _ h_ => h_.1)); have HO497 := aM (lwM ho0 HK.out); have HO500 := aM (lwM ho1 HK.out); replace HK := aM (kt HK.out hk); replace HB := aM (hb); replace HI0 := aM (hi); (try clear hb hk hi); (try clear ho0); (try clear ho1); have p66 : 0 ≤ (t470 : Int) := of_decide_eq_true (by first | (with_reducible assumption) | assumption); have q66 : (t470 : Int) < ((t464.length : Int) : Int) := of_decide_eq_true (by first | (with_reducible assumption) | assumption); obtain ⟨go66, co66, eo66, gb66, gl66, cl66, HG66⟩ := Kd.N_form HO_5.out (by omega); (first | cases eo66 | (injection eo66 with ea_ en_ ec_; (first | subst ea_ | (injection ea_ with ea_; subst ea_)); subst ec_; clear en_)); have GB66 := aM gb66; have IGB66 : Nonempty _ := ⟨GB66.out⟩; have GG66 := aM HG66; clear gb66 gl66 HG66; obtain ⟨ce66, hcl66, hM66, hcc66, hfr66⟩ := Kd.N_elem HO_5.out z45 (t470 : Int) p66 q66; obtain ⟨ua66_3, uc66_3, ua66_4, uc66_4, rfl, ul66_3, ge66_3, ul66_4, ge66_4⟩ := k45_openF hM66; have hx66_0 : w70.cell? ⟨go66, (t470 : Int).toNat * 6, none⟩ = some (.int .i64 ((rd_T45 t464 t470).f0)) := hcc66 0 _ rfl; have hx66_1 : w70.cell? ⟨go66, (t470 : Int).toNat * 6 + 1, none⟩ = some (.int .i64 ((rd_T45 t464 t470).f1)) := hcc66 1 _ rfl; have hx66_2 : w70.cell? ⟨go66, (t470 : Int).toNat * 6 + 2, none⟩ = some (.int .i64 ((rd_T45 t464 t470).f2)) := hcc66 2 _ rfl; have hx66_3 : w70.cell? ⟨go66, (t470 : Int).toNat * 6 + 3, none⟩ = some (.slice ua66_3 ((rd_T45 t464 t470).f3.f0).length uc66_3) := hcc66 3 _ rfl; have hx66_4 : w70.cell? ⟨go66, (t470 : Int).toNat * 6 + 4, none⟩ = some (.slice ua66_4 ((rd_T45 t464 t470).f3.f1).length uc66_4) := hcc66 4 _ rfl; have hx66_5 : w70.cell? ⟨go66, (t470 : Int).toNat * 6 + 5, none⟩ = some (.int .i64 ((rd_T45 t464 t470).f3.f2)) := hcc66 5 _ rfl; have hf66_0 : w70.frozen? ⟨go66, (t470 : Int).toNat * 6, none⟩ = false := hfr66 0; have hf66_1 : w70.frozen? ⟨go66, (t470 : Int).toNat * 6 + 1, none⟩ = false := hfr66 1; have hf66_2 : w70.frozen? ⟨go66, (t470 : Int).toNat * 6 + 2, none⟩ = false := hfr66 2; have hf66_3 : w70.frozen? ⟨go66, (t470 : Int).toNat * 6 + 3, none⟩ = false := hfr66 3; have hf66_4 : w70.frozen? ⟨go66, (t470 : Int).toNat * 6 + 4, none⟩ = false := hfr66 4; have hf66_5 : w70.frozen? ⟨go66, (t470 : Int).toNat * 6 + 5, none⟩ = false := hfr66 5; clear hcl66 hcc66 hfr66; (try clear hM66); replace p66 := eq_true p66; replace q66 := eq_true q66; obtain ⟨Ao73, co73, eo73⟩ := Kd.R_slice HO497.out; subst eo73; obtain ⟨Ao74, co74, eo74⟩ := Kd.R_slice HO500.out; subst eo74; replace HO_5 := aM (Kd.N_mono (ok' := (fun k_ => (w.heap.size ≤ k_) ∧ some k_ ≠ ownBlock (.slice Ao73 t495.length co73) ∧ some k_ ≠ ownBlock (.slice Ao74 t498.length co74))) HO_5.out (fun k_ hk => ⟨hk.1.1.1, ⟨hk.1.2, hk.2⟩⟩)); have HX71 := aM (show Kd.N k45 45 w70 w.heap.size (fun k_ => (w.heap.size ≤ k_)) (.slice (some ⟨go66, 0, none⟩) t464.length co67) t464 from (by exact lN <| Kd.N_mono HO_5.out (fun _ hk => hk.1))); obtain ⟨ce71, hcl71, hM71, hcc71, hfr71⟩ := Kd.N_elem HX71.out z45 (t470 : Int) (of_decide_eq_true (by first | (with_reducible assumption) | assumption)) (by have h_ : (t470 : Int) < ((t464.length : Int) : Int) := of_decide_eq_true (by first | (with_reducible assumption) | assumption); first | exact h_ | (have e_ := (Kd.N_reads' HO_5.out).1; omega) | simpa using h_); obtain ⟨ua71_3, uc71_3, ua71_4, uc71_4, rfl, ul71_3, ge71_3, ul71_4, ge71_4⟩ := k45_openF hM71; have HP71 := Kd.N_seg HX71.out (t470 : Int) (of_decide_eq_true (by first | (with_reducible assumption) | assumption)) (by have h_ : (t470 : Int) < ((t464.length : Int) : Int) := of_decide_eq_true (by first | (with_reducible assumption) | assumption); first | exact h_ | (have e_ := (Kd.N_reads' HO_5.out).1; omega) | simpa using h_) (seg := [.slice Ao73 t495.length co73, .slice Ao74 t498.length co74, .int .i64 t501]) (j := 3) hcl71 hcc71 (show 6 ≤ 6 from by decide) (x' := (⟨(rd_T45 t464 t470).f0, (rd_T45 t464 t470).f1, (rd_T45 t464 t470).f2, (⟨t495, t498, t501⟩ : S43)⟩ : S45)) (k45_mkR _ _ (⟨(rd_T45 t464 t470).f0, (rd_T45 t464 t470).f1, (rd_T45 t464 t470).f2, (⟨t495, t498, t501⟩ : S43)⟩ : S45) (Kd.R_mono (ok' := (fun k_ => ((fun k_ => (w.heap.size ≤ k_))) k_ ∧ k_ ≠ go66)) (Kd.R_apart' (HO497.out) (Kd.N_typed HO_5.out) (show ∀ q_, q_ ∈ 3 :: ((Kd.int .i64)).E → q_ ≠ 45 from by decide)) (fun k_ hk => ⟨hk.1.1, fun e_ => (hk.2) (by rw [e_]; rfl)⟩)) (Kd.R_mono (ok' := (fun k_ => ((fun k_ => (w.heap.size ≤ k_))) k_ ∧ k_ ≠ go66)) (Kd.R_apart' (HO500.out) (Kd.N_typed HO_5.out) (show ∀ q_, q_ ∈ 3 :: ((Kd.int .i64)).E → q_ ≠ 45 from by decide)) (fun k_ hk => ⟨hk.1.1, fun e_ => (hk.2) (by rw [e_]; rfl)⟩))) (fun _ hk => hk); have hx71_3 := hcc71 3 _ rfl; (try simp only [show (k45).sz = 6 from rfl, Nat.mul_one, Nat.add_zero] at hx71_3); have hf71_3 := hfr71 3; (try simp only [show (k45).sz = 6 from rfl, Nat.mul_one, Nat.add_zero] at hf71_3); have hx71_4 := hcc71 4 _ rfl; (try simp only [show (k45).sz = 6 from rfl, Nat.mul_one, Nat.add_zero] at hx71_4); have hf71_4 := hfr71 4; (try simp only [show (k45).sz = 6 from rfl, Nat.mul_one, Nat.add_zero] at hf71_4); have hx71_5 := hcc71 5 _ rfl; (try simp only [show (k45).sz = 6 from rfl, Nat.mul_one, Nat.add_zero] at hx71_5); have hf71_5 := hfr71 5; (try simp only [show (k45).sz = 6 from rfl, Nat.mul_one, Nat.add_zero] at hf71_5); clear hcl71 hcc71 hfr71; (try clear hM71)) | ((with_reducible refine gate_store (t := 43) (p := 74) rfl ?_); refine store_event (t := 43) (p := 74) (v := ?vo_w72) (w1 := (((w70.setCell ⟨go66, (t470 : Int).toNat * 6 + 3, none⟩ (.slice Ao73 t495.length co73)).setCell ⟨go66, (t470 : Int).toNat * 6 + 4, none⟩ (.slice Ao74 t498.length co74)).setCell ⟨go66, (t470 : Int).toNat * 6 + 5, none⟩ (.int .i64 t501))) ?hg ?ho ?hn ?hr ?_; (case ho => rfl); (case hg => rfl); (case hn => rfl); (case hr => first | (go_simp; done) | (go_simp; rfl)); intro w72 hw; have hg : w70.grownBy w72 (some go66) := (by rw [hw]; exact HP71.2); have hp_ : Kd.N k45 45 w72 w.heap.size (fun k_ => (w.heap.size ≤ k_)) (.slice (some ⟨go66, 0, none⟩) t464.length co67) y503 := (by rw [hw, Ny503.out]; exact HP71.1); clear HP71; replace HI0 := aM (IsS69.grown (by exact IsS69.j HI0.out) hg (IsS69.own_neN HI0.out HO_5.out (by decide))); replace HB := aM ((by rw [hw]; exact below_set (below_set (below_set (HB.out) (Nat.le_trans HL.out GB66.out)) (Nat.le_trans HL.out GB66.out)) (Nat.le_trans HL.out GB66.out) : Below w0.heap.size w0 w72)); replace HK := aM (KeepBut.trans (by exact jK HK.out) (KeepBut.of_grown hg g) (Kd.N_base2 HO_5.out)); replace HO_5 := aM (hp_); clear HO497 HO500 hg hw hp_))
          go_ret
          exact ⟨_, er, by exact lN <| HO_5.out, by exact IsS69.j HI0.out, by exact jB HB.out, by exact jK HK.out⟩
         ·rw [if_neg c65] at H
          exact absurd H (by simp)
        ·rw [if_neg c64] at H
         exact absurd H (by simp)
       ·rw [if_neg c62] at H
        have c62b0 := beq_eq_false_iff_ne.mpr c62
        have c62b1 := bne_iff_ne.mpr c62
        by_cases c75 : t472 = 4
        ·rw [if_pos c75] at H
         have c75b0 := beq_iff_eq.mpr c75
         have c75b1 := bne_eq_false_iff_eq.mpr c75
         clear c75
         have H' := aM H
         clear H
         obtain ⟨Ao76, co76, eo76⟩ := Kd.N_slice HO_5.out
         subst eo76
         go_wp2_with (first | ((with_reducible refine gate_callee (f := 20) rfl ?_); refine gL (some 22) Try.func20 #[.pointer (some ⟨g, 0, none⟩), .int .i64 (t464.length : Int)] ?_; (with_reducible refine (spec_l20Rd_pick.calls kj3 g s0_0 x1001_3 (t464.length : Int) t470 t471 w0 _ ?side1 ?side2 A12.out).mono ?_); (case side1 => exact IsS69.j HI0.out); (case side2 => exact jB HB.out); rintro e w77 ⟨rfl, hi, hb, hk⟩; refine ⟨_, rfl, ?_⟩; replace HO_5 := aM (Kd.N_mono (Kd.N_keep (Kd.N_mono (ok := fun k_ => (((w.heap.size ≤ k_)) ∧ k_ ≠ g)) (by exact lN <| HO_5.out) (fun k_ hk_ => (⟨hk_, hk_.2⟩ : _ ∧ k_ ≠ g))) hk (fun _ h => h.2)) (fun _ h => h.1)); replace HK := aM (kt HK.out hk); replace HB := aM (hb); replace HI0 := aM (hi); (try clear hb hk hi)) | ((with_reducible refine gate_callee (f := 20) rfl ?_); refine gL (some 24) Try.func20 #[.pointer (some ⟨g, 0, none⟩), .int .i64 6] ?_; (with_reducible refine (spec_l20Rd_pick.calls kj3 g s0_0 t471 6 t472 t473 w0 _ ?side1 ?side2 A13.out).mono ?_); (case side1 => exact IsS69.j HI0.out); (case side2 => exact jB HB.out); rintro e w78 ⟨rfl, hi, hb, hk⟩; refine ⟨_, rfl, ?_⟩; replace HO_5 := aM (Kd.N_mono (Kd.N_keep (Kd.N_mono (ok := fun k_ => (((w.heap.size ≤ k_)) ∧ k_ ≠ g)) (by exact lN <| HO_5.out) (fun k_ hk_ => (⟨hk_, hk_.2⟩ : _ ∧ k_ ≠ g))) hk (fun _ h => h.2)) (fun _ h => h.1)); replace HK := aM (kt HK.out hk); replace HB := aM (hb); replace HI0 := aM (hi); (try clear hb hk hi)))
         go_loopg [5] kj3 (fun kq v5 w' => ∃ (x5_2 : List (S45)), Aside0 (spec_l20AnyAct.l0 kq x5_2 t470 s0_0 t473 = some (r1, r2)) ∧ Aside0 (kq ≤ kj3) ∧ Aside0 (Kd.N k45 45 w' w.heap.size (fun k_ => (w.heap.size ≤ k_) ∧ k_ ≠ g) v5 x5_2) ∧ Aside0 (IsS69 w0 w' g s0_0 t473) ∧ Aside0 (KeepBut w w' g none) ∧ Aside0 (Below w0.heap.size w0 w'))
         case atStart => exact ⟨(t464), H', ⟨Nat.le_refl _⟩, ⟨by exact lN <| HO_5.out⟩, ⟨by exact IsS69.j HI0.out⟩, ⟨by exact jK HK.out⟩, ⟨by exact jB HB.out⟩⟩
         case round =>
          clear H'
          try clear c1
          try clear c2
          try clear p2
          try clear q2
          try clear hx2
          try clear hf2
          try clear c3
          try clear p3
          try clear q3
          try clear hx3
          try clear hf3
          try clear c4
          try clear p4
          try clear q4
          try clear hx4
          try clear hf4
          try clear c5
          try clear p5
          try clear q5
          try clear hx5
          try clear hf5
          try clear c6
          try clear c6b0
          try clear c6b1
          try clear c6b2
          try clear p6
          try clear q6
          try clear hx6
          try clear hf6
          try clear c7
          try clear hx7
          try clear hf7
          try clear c11
          try clear c14
          try clear c14b0
          try clear c14b1
          try clear c16
          try clear c16b0
          try clear c17
          try clear c17b0
          try clear c18
          try clear c18b0
          try clear c19
          try clear c19b0
          try clear c20
          try clear p20
          try clear q20
          try clear hx20
          try clear hf20
          try clear c28
          try clear hx28
          try clear hf28
          try clear c30
          try clear c30b0
          try clear c30b1
          try clear c32
          try clear c32b0
          try clear c33
          try clear c33b0
          try clear c34
          try clear c34b0
          try clear c35
          try clear c35b0
          try clear c36
          try clear p36
          try clear q36
          try clear hx36
          try clear hf36
          try clear c44
          try clear hx44
          try clear hf44
          try clear c46
          try clear c46b0
          try clear c46b1
          try clear p47
          try clear q47
          try clear hx47
          try clear c48
          try clear c48b0
          try clear p48
          try clear q48
          try clear hx48
          try clear c49
          try clear c49b0
          try clear p49
          try clear q49
          try clear hx49
          try clear c50
          try clear c50b0
          try clear c51
          try clear c51b0
          try clear c52
          try clear p52
          try clear q52
          try clear hx52
          try clear hf52
          try clear c53
          try clear c54
          try clear c60
          try clear hx60
          try clear hf60
          try clear c62
          try clear c62b0
          try clear c62b1
          try clear c64
          try clear c64b0
          try clear c65
          try clear c65b0
          try clear c66
          try clear p66
          try clear q66
          try clear hx66
          try clear hf66
          try clear c71
          try clear hx71
          try clear hf71
          try clear c75
          try clear c75b0
          try clear c75b1
          try clear hx20_0
          try clear hx20_1
          try clear hx20_2
          try clear hx20_3
          try clear hx20_4
          try clear hx20_5
          try clear hx28_0
          try clear hx36_0
          try clear hx36_1
          try clear hx36_2
          try clear hx36_3
          try clear hx36_4
          try clear hx36_5
          try clear hx44_1
          try clear hx479_0
          try clear hx486_0
          try clear hx493_0
          try clear hx52_0
          try clear hx52_1
          try clear hx52_2
          try clear hx52_3
          try clear hx52_4
          try clear hx52_5
          try clear hx60_2
          try clear hx66_0
          try clear hx66_1
          try clear hx66_2
          try clear hx66_3
          try clear hx66_4
          try clear hx66_5
          try clear hx71_3
          try clear hx71_4
          try clear hx71_5
          try clear p2
          try clear p20
          try clear p36
          try clear p479
          try clear p486
          try clear p493
          try clear p52
          try clear p66
          try clear q20
          try clear q36
          try clear q479
          try clear q486
          try clear q493
          try clear q52
          try clear q66
          obtain ⟨x5_2, HA, HK2, HO_5, HI0, HK, HB⟩ := hrel
          cases gk with
          | zero => exact absurd HA.out (by simp [spec_l20AnyAct.l0])
          | succ k2 =>
           have H := HA.out
           clear HA
           simp only [spec_l20AnyAct.l0] at H
           by_cases c79 : (x5_2.length : Int) ≤ 6
           ·rw [if_pos c79] at H
            have c79b0 := decide_eq_true c79
            have c79b1 : decide (x5_2.length ≤ 6) = true := decide_eq_true (by omega)
            clear c79
            by_cases c80 : 0 ≤ t470
            ·rw [if_pos c80] at H
             have c80b0 := decide_eq_true c80
             clear c80
             by_cases c81 : t470 < (x5_2.length : Int)
             ·rw [if_pos c81] at H
              have c81b0 := decide_eq_true c81
              clear c81
              by_cases c82 : x5_2.length < 1759218604441
              ·rw [if_pos c82] at H
               have LMc82 := aM c82
               clear c82
               obtain ⟨y505, hy505⟩ : ∃ y_ : List (S45), y_ = (x5_2 ++ [(⟨(rd_T45 x5_2 t470).f0, (rd_T45 x5_2 t470).f1, (rd_T45 x5_2 t470).f2, (⟨(rd_T45 x5_2 t470).f3.f0, (rd_T45 x5_2 t470).f3.f1, (rd_T45 x5_2 t470).f3.f2⟩ : S43)⟩ : S45)]) := ⟨_, rfl⟩
               try rw [← hy505] at H
               try dsimp only [Option.bind_some] at H
               have Ny505 := aM hy505
               clear hy505
               have H' := aM H
               clear H
               obtain ⟨Ao83, co83, eo83⟩ := Kd.N_slice HO_5.out
               subst eo83
               have p504 : 0 ≤ (t470 : Int) := of_decide_eq_true (by first | (with_reducible assumption) | assumption)
               have q504 : t470 < (x5_2.length : Int) := of_decide_eq_true (by first | (with_reducible assumption) | assumption)
               obtain ⟨ad504, A504_3, c504_3, A504_4, c504_4, e504, hx504_0, hx504_1, hx504_2, hx504_3, hx504_4, hx504_5, hl504_3, hi504_3, hl504_4, hi504_4⟩ := at_T45 (Kd.N_reads' HO_5.out).2.2 t470 p504 q504
               cases e504
               obtain ⟨ce504, hce504, hMe504, hcc504⟩ := Kd.N_get HO_5.out z45 t470 p504 (by first | exact q504 | exact of_decide_eq_true (by first | (with_reducible assumption) | assumption) | (have e_ := (Kd.N_reads' HO_5.out).1; omega))
               obtain ⟨ua504_3, uc504_3, ua504_4, uc504_4, rfl, ul504_3, ge504_3, ul504_4, ge504_4⟩ := k45_openF hMe504
               have hv504_3 := hcc504 3 _ rfl
               rw [add_field _ _ 3 (by omega)] at hv504_3
               replace hv504_3 := Option.some.inj (hv504_3.symm.trans hx504_3)
               injection hv504_3 with hva_ hvn_ hvc_
               rw [hva_] at ge504_3
               rw [hvc_] at ul504_3
               have HL504_3 := aM (show Kd.V (Kd.int .i64) 3 _ w.heap.size _ _ ((rd_T45 x5_2 t470).f3.f0) from Kd.V_mk ul504_3 ge504_3)
               clear hva_ hvn_ hvc_ ge504_3 ul504_3
               have hv504_4 := hcc504 4 _ rfl
               rw [add_field _ _ 4 (by omega)] at hv504_4
               replace hv504_4 := Option.some.inj (hv504_4.symm.trans hx504_4)
               injection hv504_4 with hva_ hvn_ hvc_
               rw [hva_] at ge504_4
               rw [hvc_] at ul504_4
               have HL504_4 := aM (show Kd.V (Kd.int .i64) 3 _ w.heap.size _ _ ((rd_T45 x5_2 t470).f3.f1) from Kd.V_mk ul504_4 ge504_4)
               clear hva_ hvn_ hvc_ ge504_4 ul504_4 hcc504 hce504
               have HR504_3 := aM hi504_3
               have HC504_3 := aM hl504_3
               clear hi504_3 hl504_3
               have HR504_4 := aM hi504_4
               have HC504_4 := aM hl504_4
               clear hi504_4 hl504_4
               replace p504 := eq_true p504
               replace q504 := eq_true q504
               go_wp2_with (first | ((with_reducible refine gate_builtin (b := .append) (xs := #[.tmp 80, .tmp 85]) rfl ?_); at_builtin; refine Kd.N_append k45 w.heap.size rfl (.tmp 80) (.tmp 85) 33 45 (.agg #[(.int .i64 0), (.int .i64 0), (.int .i64 0), (.slice none 0 0), (.slice none 0 0), (.int .i64 0)]) 80 rfl Try.underlying33 info45 rfl (by decide) (by omega) (.slice (some ad504) x5_2.length co83) x5_2 (⟨(rd_T45 x5_2 t470).f0, (rd_T45 x5_2 t470).f1, (rd_T45 x5_2 t470).f2, (⟨(rd_T45 x5_2 t470).f3.f0, (rd_T45 x5_2 t470).f3.f1, (rd_T45 x5_2 t470).f3.f2⟩ : S43)⟩ : S45) [.int .i64 ((rd_T45 x5_2 t470).f0), .int .i64 ((rd_T45 x5_2 t470).f1), .int .i64 ((rd_T45 x5_2 t470).f2), .slice A504_3 ((rd_T45 x5_2 t470).f3.f0).length c504_3, .slice A504_4 ((rd_T45 x5_2 t470).f3.f1).length c504_4, .int .i64 ((rd_T45 x5_2 t470).f3.f2)] (fun k_ => (w.heap.size ≤ k_) ∧ k_ ≠ g) (fun k_ => ((fun k_ => (w.heap.size ≤ k_) ∧ k_ ≠ g)) k_ ∧ some k_ ≠ ownBlock (.slice (some ad504) x5_2.length co83)) rfl rfl ?aP (fun _ hk => hk) ?aF ?aO (Below.refl _ _) ?aS ?aL ?_; (case aP => exact (k45_mkF _ _ (⟨(rd_T45 x5_2 t470).f0, (rd_T45 x5_2 t470).f1, (rd_T45 x5_2 t470).f2, (⟨(rd_T45 x5_2 t470).f3.f0, (rd_T45 x5_2 t470).f3.f1, (rd_T45 x5_2 t470).f3.f2⟩ : S43)⟩ : S45) (Kd.V_reads' (Kd.V_mono (ok' := (fun k_ => ((fun k_ => (w.heap.size ≤ k_) ∧ k_ ≠ g)) k_ ∧ some k_ ≠ ownBlock (.slice (some ad504) x5_2.length co83))) (HL504_3.out) (fun k_ hk => ⟨⟨hk.1.1, hk.1.2⟩, hk.2⟩))).2.1 (Kd.V_F (Kd.V_mono (ok' := (fun k_ => ((fun k_ => (w.heap.size ≤ k_) ∧ k_ ≠ g)) k_ ∧ some k_ ≠ ownBlock (.slice (some ad504) x5_2.length co83))) (HL504_3.out) (fun k_ hk => ⟨⟨hk.1.1, hk.1.2⟩, hk.2⟩))) (Kd.V_reads' (Kd.V_mono (ok' := (fun k_ => ((fun k_ => (w.heap.size ≤ k_) ∧ k_ ≠ g)) k_ ∧ some k_ ≠ ownBlock (.slice (some ad504) x5_2.length co83))) (HL504_4.out) (fun k_ hk => ⟨⟨hk.1.1, hk.1.2⟩, hk.2⟩))).2.1 (Kd.V_F (Kd.V_mono (ok' := (fun k_ => ((fun k_ => (w.heap.size ≤ k_) ∧ k_ ≠ g)) k_ ∧ some k_ ≠ ownBlock (.slice (some ad504) x5_2.length co83))) (HL504_4.out) (fun k_ hk => ⟨⟨hk.1.1, hk.1.2⟩, hk.2⟩))))); (case aF => exact (fun k_ hk => ⟨(Nat.le_trans (keep_size (w := w) (g := g) (row := none) (by exact jK HK.out)) hk), IsS69.fresh (by exact IsS69.j HI0.out) k_ hk⟩)); (case aO => exact (by exact lN <| HO_5.out)); (case aS => exact (keep_size (w := w) (g := g) (row := none) (by exact jK HK.out))); (case aL => have := LMc82.out; omega); intro v506 w84 ho hb hg hat; rw [← Ny505.out] at ho; replace HI0 := aM (IsS69.grown (by exact IsS69.j HI0.out) hg (IsS69.own_neN HI0.out HO_5.out (by decide))); replace HL504_3 := aM (Kd.V_afterv (ok := (fun k_ => (w.heap.size ≤ k_) ∧ k_ ≠ g)) (by (with_reducible repeat (first | apply Kd.V_alloc | apply Kd.V_drewN | apply Kd.V_drew)); exact HL504_3.out) hg hat); replace HL504_4 := aM (Kd.V_afterv (ok := (fun k_ => (w.heap.size ≤ k_) ∧ k_ ≠ g)) (by (with_reducible repeat (first | apply Kd.V_alloc | apply Kd.V_drewN | apply Kd.V_drew)); exact HL504_4.out) hg hat); replace HB := aM (below_weaken (by exact jB HB.out) HL.out hb); replace HK := aM (KeepBut.trans (by exact jK HK.out) (KeepBut.of_grown hg g) (Kd.N_base2 HO_5.out)); have HO507 := aM (ho); clear HO_5 ho hb hg hat))
               go_roundg k2
               case measure => have := HJ3.out; have := HK2.out; omega
               case rel => exact ⟨(y505), H', ⟨by have := HJ3.out; have := HK2.out; omega⟩, ⟨by exact lN <| HO507.out⟩, ⟨by exact IsS69.j HI0.out⟩, ⟨by exact jK HK.out⟩, ⟨by exact jB HB.out⟩⟩
              ·rw [if_neg c82] at H
               exact absurd H (by simp)
             ·rw [if_neg c81] at H
              exact absurd H (by simp)
            ·rw [if_neg c80] at H
             exact absurd H (by simp)
           ·rw [if_neg c79] at H
            have c79b0 := decide_eq_false c79
            have c79b1 : decide (x5_2.length ≤ 6) = false := decide_eq_false (by omega)
            clear c79
            simp only [Option.some.injEq, Prod.mk.injEq] at H
            obtain ⟨rfl, rfl⟩ := H
            obtain ⟨Ao85, co85, eo85⟩ := Kd.N_slice HO_5.out
            subst eo85
            go_wp2
            go_ret
            exact ⟨_, er, by exact lN <| Kd.N_mono HO_5.out (fun _ hk => hk.1), by exact IsS69.j HI0.out, by exact jB HB.out, by exact jK HK.out⟩
        ·rw [if_neg c75] at H
         have c75b0 := beq_eq_false_iff_ne.mpr c75
         have c75b1 := bne_iff_ne.mpr c75
         obtain ⟨⟨t508, t511, t514, t515⟩, A86, H⟩ := bS H
         try dsimp only at H
         obtain ⟨⟨t516, t519, t522, t523⟩, A87, H⟩ := bS H
         try dsimp only at H
         obtain ⟨y524, hy524⟩ : ∃ y_ : List (S45), y_ = (([(⟨1, 0, 1, (⟨t508, t511, t514⟩ : S43)⟩ : S45), (⟨1, 0, 1, (⟨t516, t519, t522⟩ : S43)⟩ : S45)] : List (S45))) := ⟨_, rfl⟩
         try rw [← hy524] at H
         try dsimp only [Option.bind_some] at H
         have Ny524 := aM hy524
         clear hy524
         by_cases c88 : t464.length + y524.length < 1759218604441
         ·rw [if_pos c88] at H
          have LMc88 := aM c88
          clear c88
          obtain ⟨y527, hy527⟩ : ∃ y_ : List (S45), y_ = (t464 ++ y524) := ⟨_, rfl⟩
          try rw [← hy527] at H
          try dsimp only [Option.bind_some] at H
          have Ny527 := aM hy527
          clear hy527
          simp only [Option.some.injEq, Prod.mk.injEq] at H
          obtain ⟨rfl, rfl⟩ := H
          obtain ⟨Ao89, co89, eo89⟩ := Kd.N_slice HO_5.out
          subst eo89
          go_wp2_with (first | ((with_reducible refine gate_callee (f := 20) rfl ?_); refine gL (some 22) Try.func20 #[.pointer (some ⟨g, 0, none⟩), .int .i64 (t464.length : Int)] ?_; (with_reducible refine (spec_l20Rd_pick.calls kj3 g s0_0 x1001_3 (t464.length : Int) t470 t471 w0 _ ?side1 ?side2 A12.out).mono ?_); (case side1 => exact IsS69.j HI0.out); (case side2 => exact jB HB.out); rintro e w90 ⟨rfl, hi, hb, hk⟩; refine ⟨_, rfl, ?_⟩; replace HO_5 := aM (Kd.N_mono (Kd.N_keep (Kd.N_mono (ok := fun k_ => (((w.heap.size ≤ k_)) ∧ k_ ≠ g)) (by exact lN <| HO_5.out) (fun k_ hk_ => (⟨hk_, hk_.2⟩ : _ ∧ k_ ≠ g))) hk (fun _ h => h.2)) (fun _ h => h.1)); replace HK := aM (kt HK.out hk); replace HB := aM (hb); replace HI0 := aM (hi); (try clear hb hk hi)) | ((with_reducible refine gate_callee (f := 20) rfl ?_); refine gL (some 24) Try.func20 #[.pointer (some ⟨g, 0, none⟩), .int .i64 6] ?_; (with_reducible refine (spec_l20Rd_pick.calls kj3 g s0_0 t471 6 t472 t473 w0 _ ?side1 ?side2 A13.out).mono ?_); (case side1 => exact IsS69.j HI0.out); (case side2 => exact jB HB.out); rintro e w91 ⟨rfl, hi, hb, hk⟩; refine ⟨_, rfl, ?_⟩; replace HO_5 := aM (Kd.N_mono (Kd.N_keep (Kd.N_mono (ok := fun k_ => (((w.heap.size ≤ k_)) ∧ k_ ≠ g)) (by exact lN <| HO_5.out) (fun k_ hk_ => (⟨hk_, hk_.2⟩ : _ ∧ k_ ≠ g))) hk (fun _ h => h.2)) (fun _ h => h.1)); replace HK := aM (kt HK.out hk); replace HB := aM (hb); replace HI0 := aM (hi); (try clear hb hk hi)) | ((with_reducible refine gate_callee (f := 55) rfl ?_); refine gL (some 27) Try.func55 #[.pointer (some ⟨g, 0, none⟩)] ?_; (with_reducible refine (spec_l20Small.calls kj3 g s0_0 t473 t508 t511 t514 t515 w0 _ ?side1 ?side2 A86.out).mono ?_); (case side1 => exact IsS69.j HI0.out); (case side2 => exact jB HB.out); rintro e w92 ⟨v509, v512, rfl, ho0, ho1, hi, hb, hk⟩; refine ⟨_, rfl, ?_⟩; replace HO_5 := aM (Kd.N_mono (Kd.N_told (Kd.N_told (Kd.N_oldK (Kd.N_mono (ok := fun k_ => (((w.heap.size ≤ k_)) ∧ k_ ≠ g)) (by exact lN <| HO_5.out) (fun k_ hk_ => (⟨hk_, hk_.2⟩ : _ ∧ k_ ≠ g))) hk) (Kd.R_base ho0)) (Kd.R_base ho1)) (fun _ h_ => h_.1)); have HO510 := aM (lwM ho0 HK.out); have HO513 := aM (lwM ho1 HK.out); replace HK := aM (kt HK.out hk); replace HB := aM (hb); replace HI0 := aM (hi); (try clear hb hk hi); (try clear ho0); (try clear ho1); obtain ⟨Ao93, co93, eo93⟩ := Kd.R_slice HO513.out; subst eo93; obtain ⟨Ao94, co94, eo94⟩ := Kd.R_slice HO510.out; subst eo94) | ((with_reducible refine gate_callee (f := 55) rfl ?_); refine gL (some 30) Try.func55 #[.pointer (some ⟨g, 0, none⟩)] ?_; (with_reducible refine (spec_l20Small.calls kj3 g s0_0 t515 t516 t519 t522 t523 w0 _ ?side1 ?side2 A87.out).mono ?_); (case side1 => exact IsS69.j HI0.out); (case side2 => exact jB HB.out); rintro e w95 ⟨v517, v520, rfl, ho0, ho1, hi, hb, hk⟩; refine ⟨_, rfl, ?_⟩; replace HO_5 := aM (Kd.N_mono (Kd.N_told (Kd.N_told (Kd.N_oldK (Kd.N_mono (ok := fun k_ => (((((w.heap.size ≤ k_)) ∧ k_ ≠ g) ∧ some k_ ≠ ownBlock (.slice Ao94 t508.length co94)) ∧ some k_ ≠ ownBlock (.slice Ao93 t511.length co93))) (by exact lN <| HO_5.out) (fun k_ hk_ => (⟨hk_, hk_.1.1.2⟩ : _ ∧ k_ ≠ g))) hk) (Kd.R_base ho0)) (Kd.R_base ho1)) (fun _ h_ => h_.1)); have HO518 := aM (Kd.R_lower (Kd.R_new' (Kd.R_new' (Kd.R_newM (M := fun k_ => (w.heap.size ≤ k_)) ho0 (keep_size (w := w) (g := g) (row := none) (by exact jK HK.out)) (fun k_ h_ => h_)) (rl HO510.out)) (rl HO513.out)) (keep_size (w := w) (g := g) (row := none) (by exact jK HK.out))); have HO521 := aM (Kd.R_lower (Kd.R_new' (Kd.R_new' (Kd.R_newM (M := fun k_ => (w.heap.size ≤ k_)) ho1 (keep_size (w := w) (g := g) (row := none) (by exact jK HK.out)) (fun k_ h_ => h_)) (rl HO510.out)) (rl HO513.out)) (keep_size (w := w) (g := g) (row := none) (by exact jK HK.out))); replace HO510 := aM (Kd.R_mono (Kd.R_told (Kd.R_told (Kd.R_oldK (IsS69.apart (show IsS69 w0 _ g s0_0 t515 from by exact IsS69.j HI0.out) (by exact lR HO510.out) (by decide)) hk) (Kd.R_base ho0)) (Kd.R_base ho1)) (fun _ h_ => h_.1)); replace HO513 := aM (Kd.R_mono (Kd.R_told (Kd.R_told (Kd.R_oldK (IsS69.apart (show IsS69 w0 _ g s0_0 t515 from by exact IsS69.j HI0.out) (by exact lR HO513.out) (by decide)) hk) (Kd.R_base ho0)) (Kd.R_base ho1)) (fun _ h_ => h_.1)); replace HK := aM (kt HK.out hk); replace HB := aM (hb); replace HI0 := aM (hi); (try clear hb hk hi); (try clear ho0); (try clear ho1); obtain ⟨Ao96, co96, eo96⟩ := Kd.R_slice HO521.out; subst eo96; obtain ⟨Ao97, co97, eo97⟩ := Kd.R_slice HO518.out; subst eo97) | ((with_reducible refine gate_dst (N := 32) rfl ?_); refine Kd.N_lit k45 _ 45 ?hg (N' := 32) ?hd (xs := ([(⟨1, 0, 1, (⟨t508, t511, t514⟩ : S43)⟩ : S45), (⟨1, 0, 1, (⟨t516, t519, t522⟩ : S43)⟩ : S45)] : List (S45))) (inner := [.int .i64 1, .int .i64 0, .int .i64 1, .slice Ao94 t508.length co94, .slice Ao93 t511.length co93, .int .i64 t514, .int .i64 1, .int .i64 0, .int .i64 1, .slice Ao97 t516.length co97, .slice Ao96 t519.length co96, .int .i64 t522]) (ok := (fun k_ => (w.heap.size ≤ k_) ∧ some k_ ≠ ownBlock (.slice Ao89 t464.length co89) ∧ k_ ≠ g)) (okp := (fun k_ => (w.heap.size ≤ k_) ∧ some k_ ≠ ownBlock (.slice Ao89 t464.length co89) ∧ k_ ≠ g)) ?hr ?hp (fun _ hk => hk) ((show ∀ k_, w95.heap.size ≤ k_ → (fun k_ => (w.heap.size ≤ k_) ∧ some k_ ≠ ownBlock (.slice Ao89 t464.length co89) ∧ k_ ≠ g) k_ from fun k_ hk => ⟨(Nat.le_trans (keep_size (w := w) (g := g) (row := none) (by exact jK HK.out)) hk), Kd.fresh' (Kd.N_lt (by exact lN <| HO_5.out)) k_ hk, IsS69.fresh (by exact IsS69.j HI0.out) k_ hk⟩) _ (Nat.le_refl _)) (Below.refl _ _) (Nat.le_refl _) (by simp) ?_; (case hd => rfl); (case hg => rfl); (case hr => first | (go_simp; done) | (go_simp; rfl)); (case hp => exact (Reps.c6 (show Kd.FK k45 _ _ (⟨1, 0, 1, (⟨t508, t511, t514⟩ : S43)⟩ : S45) [.int .i64 1, .int .i64 0, .int .i64 1, .slice Ao94 t508.length co94, .slice Ao93 t511.length co93, .int .i64 t514] from (k45_mkR _ _ (⟨1, 0, 1, (⟨t508, t511, t514⟩ : S43)⟩ : S45) (Kd.R_mono (ok' := (fun k_ => (w.heap.size ≤ k_) ∧ some k_ ≠ ownBlock (.slice Ao89 t464.length co89) ∧ k_ ≠ g)) (IsS69.apart HI0.out (Kd.R_apart' (HO510.out) (Kd.N_typed HO_5.out) (show ∀ q_, q_ ∈ 3 :: ((Kd.int .i64)).E → q_ ≠ 45 from by decide)) (by decide)) (fun k_ hk => ⟨hk.1.1.1.1.1, ⟨hk.1.2, hk.2⟩⟩)) (Kd.R_mono (ok' := (fun k_ => (w.heap.size ≤ k_) ∧ some k_ ≠ ownBlock (.slice Ao89 t464.length co89) ∧ k_ ≠ g)) (IsS69.apart HI0.out (Kd.R_apart' (HO513.out) (Kd.N_typed HO_5.out) (show ∀ q_, q_ ∈ 3 :: ((Kd.int .i64)).E → q_ ≠ 45 from by decide)) (by decide)) (fun k_ hk => ⟨hk.1.1.1.1.1, ⟨hk.1.2, hk.2⟩⟩)))) (Reps.c6 (show Kd.FK k45 _ _ (⟨1, 0, 1, (⟨t516, t519, t522⟩ : S43)⟩ : S45) [.int .i64 1, .int .i64 0, .int .i64 1, .slice Ao97 t516.length co97, .slice Ao96 t519.length co96, .int .i64 t522] from (k45_mkR _ _ (⟨1, 0, 1, (⟨t516, t519, t522⟩ : S43)⟩ : S45) (Kd.R_mono (ok' := (fun k_ => (w.heap.size ≤ k_) ∧ some k_ ≠ ownBlock (.slice Ao89 t464.length co89) ∧ k_ ≠ g)) (IsS69.apart HI0.out (Kd.R_apart' (HO518.out) (Kd.N_typed HO_5.out) (show ∀ q_, q_ ∈ 3 :: ((Kd.int .i64)).E → q_ ≠ 45 from by decide)) (by decide)) (fun k_ hk => ⟨hk.1.1.1.1.1, ⟨hk.1.2, hk.2⟩⟩)) (Kd.R_mono (ok' := (fun k_ => (w.heap.size ≤ k_) ∧ some k_ ≠ ownBlock (.slice Ao89 t464.length co89) ∧ k_ ≠ g)) (IsS69.apart HI0.out (Kd.R_apart' (HO521.out) (Kd.N_typed HO_5.out) (show ∀ q_, q_ ∈ 3 :: ((Kd.int .i64)).E → q_ ≠ 45 from by decide)) (by decide)) (fun k_ hk => ⟨hk.1.1.1.1.1, ⟨hk.1.2, hk.2⟩⟩)))) (Reps.none _ _)))); intro v525 w98 ho99 hb hg_ hnew_; clear hg_ hnew_; (first | rw [← Ny524.out] at ho99 | (simp only [Int.reduceToNat] at ho99; rw [← Ny524.out] at ho99)); replace HO_5 := aM (Kd.N_elder' (by exact lN <| HO_5.out) (Kd.N_base ho99) hb); have HO526 := aM (Kd.N_lower ho99 (keep_size (w := w) (g := g) (row := none) (by exact jK HK.out))); replace HI0 := aM (IsS69.below (by exact IsS69.j HI0.out) hb); replace HK := aM (kbl HK.out hb); replace HB := aM (bj HB.out hb); clear HO510 HO513 HO518 HO521 hb ho99; obtain ⟨Ao101, co101, eo101⟩ := Kd.N_slice HO526.out; subst eo101) | ((with_reducible refine gate_builtin (b := .append) (xs := #[.tmp 25, .tmp 32]) rfl ?_); at_builtin; refine Kd.N_append_rows k45 w.heap.size rfl (.tmp 25) (.tmp 32) 33 45 (.agg #[(.int .i64 0), (.int .i64 0), (.int .i64 0), (.slice none 0 0), (.slice none 0 0), (.int .i64 0)]) 80 rfl Try.underlying33 info45 rfl (by decide) (by omega) (.slice Ao89 t464.length co89) t464 y524 _ _ _ (fun k_ => (w.heap.size ≤ k_) ∧ k_ ≠ g) (fun k_ => ((fun k_ => (w.heap.size ≤ k_) ∧ k_ ≠ g)) k_ ∧ some k_ ≠ ownBlock (.slice Ao89 t464.length co89)) rfl rfl ?aO ?aR (fun _ hk => hk) ?aF (Below.refl _ _) ?aS ?aL ?_; (case aR => exact (by skip; exact Kd.N_F (Kd.N_mono (ok' := (fun k_ => ((fun k_ => (w.heap.size ≤ k_) ∧ k_ ≠ g)) k_ ∧ some k_ ≠ ownBlock (.slice Ao89 t464.length co89))) (HO526.out) (fun k_ hk => ⟨⟨hk.1, hk.2.2⟩, hk.2.1⟩)))); (case aF => exact (fun k_ hk => ⟨(Nat.le_trans (keep_size (w := w) (g := g) (row := none) (by exact jK HK.out)) hk), IsS69.fresh (by exact IsS69.j HI0.out) k_ hk⟩)); (case aO => exact (by exact lN <| Kd.N_mono HO_5.out (fun _ hk => ⟨hk.1.1.1.1.1.1, hk.1.1.1.1.1.2⟩))); (case aS => exact (keep_size (w := w) (g := g) (row := none) (by exact jK HK.out))); (case aL => have := LMc88.out; omega); intro v528 w100 ho hb hg hat; rw [← Ny527.out] at ho; replace HI0 := aM (IsS69.grown (by exact IsS69.j HI0.out) hg (IsS69.own_neN HI0.out HO_5.out (by decide))); replace HO526 := aM (Kd.N_afterv (ok := (fun k_ => (w.heap.size ≤ k_) ∧ k_ ≠ g)) (by exact lN <| Kd.N_mono HO526.out (fun _ hk => ⟨⟨hk.1, hk.2.2⟩, hk.2.1⟩)) hg hat); replace HB := aM (below_weaken (by exact jB HB.out) HL.out hb); replace HK := aM (KeepBut.trans (by exact jK HK.out) (KeepBut.of_grown hg g) (Kd.N_base2 HO_5.out)); have HO529 := aM (ho); clear HO_5 ho hb hg hat))
          go_ret
          exact ⟨_, er, by exact lN <| Kd.N_mono HO529.out (fun _ hk => hk.1), by exact IsS69.j HI0.out, by exact jB HB.out, by exact jK HK.out⟩
         ·rw [if_neg c88] at H
          exact absurd H (by simp)

end Go.Proofs.Ytgalnmgkcdmnkaa.QFnPlnHome

-- shorter
