/- Plain functions, and that the Go code computes them: written by a program of this session over the seat's translation; the conditions stand in each theorem. -/
import Derived.Test.YtgalnmgkcdmnkaaQFnPlnHomex0
import Derived.Test.YtgalnmgkcdmnkaaQFnPlnHomex1
namespace Go.Proofs.Ytgalnmgkcdmnkaa.QFnPlnHome
open Go.RowKit Go.Proofs.YtgalnmgkcdmnkaaW.PrintWords Go.Proofs.YtgalnmgkcdmnkaaW.PrintLast Go.Proofs.YtgalnmgkcdmnkaaW.PrintMore Go.Proofs.Ytgalnmgkcdmnkaa.HWords
open Value (ownBlock)
attribute [local go_sem] max2_int min2_int max_two min_two max_three min_three max_four min_four   -- for this text's walks alone
set_option maxRecDepth 100000
set_option maxHeartbeats 8000000
set_option linter.unusedVariables false
set_option linter.unusedSimpArgs false

/-! ### spec_ActOk: function 40 -/
def spec_ActOk.l0 : Nat → List (S45) → Int → Int → Option (Bool)
 | 0, _, _, _ => none
 | k + 1, x0, x3, x4 => if x4 < (x0.length : Int) then (if 0 ≤ x4 then ((spec_l2Line.f k ((rd_T45 x0 x4).f0) ((rd_T45 x0 x4).f1) ((rd_T45 x0 x4).f2) ((rd_T45 x0 x4).f3.f0) ((rd_T45 x0 x4).f3.f1) ((rd_T45 x0 x4).f3.f2)).bind fun t120 => (if t120 = true then (if ((rd_T45 x0 x4).f0) = 1 then (spec_ActOk.l0 k x0 (wrap64 (x3 + 1)) (wrap64 (x4 + 1))) else (spec_ActOk.l0 k x0 x3 (wrap64 (x4 + 1)))) else (some false))) else (none)) else (if (x0.length : Int) ≤ 6 then (some (decide (x3 ≤ 3))) else (some false))
def spec_ActOk.f (k : Nat) (l0 : List (S45)) : Option (Bool) := spec_ActOk.l0 k l0 0 0
theorem spec_ActOk.mono_l : ∀ k, (∀ y0 y1 y2, LeO (spec_ActOk.l0 k y0 y1 y2) (spec_ActOk.l0 (k + 1) y0 y1 y2))
 | 0 => fun _ _ _ r h => by simp [spec_ActOk.l0] at h
 | k + 1 => by
  have ih0 := spec_ActOk.mono_l k
  ·intro y0 y1 y2
   unfold spec_ActOk.l0
   repeat' first
   | (with_reducible exact ih0 _ _ _)
   | (with_reducible exact spec_l2Line.mono _ _ _ _ _ _ _)
   | (with_reducible exact LeO.refl _)
   | (with_reducible exact LeO.none _)
   | (with_reducible refine LeO.ite ?_ ?_)
   | (with_reducible refine LeO.bind ?_ (fun _ => ?_))
   | exact LeO.none _
   | refine LeO.ite ?_ ?_
   | refine LeO.bind ?_ (fun _ => ?_)
theorem spec_ActOk.mono : ∀ a0 k, LeO (spec_ActOk.f k a0) (spec_ActOk.f (k + 1) a0) := by
 intro a0 k
 have ih0 := spec_ActOk.mono_l k
 unfold spec_ActOk.f
 repeat' first
   | (with_reducible exact ih0 _ _ _)
   | (with_reducible exact spec_l2Line.mono _ _ _ _ _ _ _)
   | (with_reducible exact LeO.refl _)
   | (with_reducible exact LeO.none _)
   | (with_reducible refine LeO.ite ?_ ?_)
   | (with_reducible refine LeO.bind ?_ (fun _ => ?_))
   | exact LeO.none _
   | refine LeO.ite ?_ ?_
   | refine LeO.bind ?_ (fun _ => ?_)
theorem spec_ActOk.calls (k : Nat) (A0 : Option Addr) (c0 : Nat) (l0 : List (S45)) (r : Bool) (w : World) (hr0 : Kd.C k45 w A0 l0.length l0) (hc0 : l0.length ≤ c0) (h : spec_ActOk.f k l0 = some r) :
  Calls Try.prog 40 #[.slice A0 l0.length c0] w fun e w' => e = .returned (.bool r) ∧ Below w.heap.size w w' := by
 have hu45 := Try.underlying45
 have HR0 := aM hr0
 have HC0 := aM hc0
 clear hr0 hc0
 have HB := aM (Below.refl w.heap.size w)
 have H : (spec_ActOk.l0 k l0 0 0) = some r := h
 clear h
 have H' := aM H
 clear H
 go_enter Try.func40, Try.ntmps40
 go_wp2
 go_loopg [3, 4] k (fun kq v3 v4 w' => ∃ (x3_1 : Int) (x4_1 : Int), v3 = .int .i64 x3_1 ∧ v4 = .int .i64 x4_1 ∧ Aside0 (spec_ActOk.l0 kq l0 x3_1 x4_1 = some r) ∧ Aside0 (kq ≤ k) ∧ Aside0 (Below w.heap.size w w'))
 case atStart => exact ⟨(0), (0), (by first | rfl | (simp; done) | (simp [*]; done)), (by first | rfl | (simp; done) | (simp [*]; done)), H', ⟨Nat.le_refl _⟩, ⟨by exact lB HB.out⟩⟩
 case round =>
  clear H'
  obtain ⟨x3_1, x4_1, rfl, rfl, HA, HK1, HB⟩ := hrel
  cases gk with
  | zero => exact absurd HA.out (by simp [spec_ActOk.l0])
  | succ k1 =>
   have H := HA.out
   clear HA
   simp only [spec_ActOk.l0] at H
   by_cases c2 : x4_1 < (l0.length : Int)
   ·rw [if_pos c2] at H
    have c2b0 := decide_eq_true c2
    clear c2
    by_cases c3 : 0 ≤ x4_1
    ·rw [if_pos c3] at H
     have c3b0 := decide_eq_true c3
     clear c3
     obtain ⟨t120, A4, H⟩ := bS H
     try dsimp only at H
     by_cases c5 : t120 = true
     ·subst c5
      rw [if_pos rfl] at H
      try dsimp only at H
      by_cases c6 : ((rd_T45 l0 x4_1).f0) = 1
      ·rw [if_pos c6] at H
       have c6b0 := beq_iff_eq.mpr c6
       have c6b1 := bne_eq_false_iff_eq.mpr c6
       clear c6
       have H' := aM H
       clear H
       have p119 : 0 ≤ (x4_1 : Int) := of_decide_eq_true (by first | (with_reducible assumption) | assumption)
       have q119 : x4_1 < (l0.length : Int) := of_decide_eq_true (by first | (with_reducible assumption) | assumption)
       obtain ⟨ad119, A119_3, c119_3, A119_4, c119_4, e119, hx119_0, hx119_1, hx119_2, hx119_3, hx119_4, hx119_5, hl119_3, hi119_3, hl119_4, hi119_4⟩ := at_T45 HR0.out x4_1 p119 q119
       cases e119
       replace hx119_0 := cl HB.out hx119_0
       replace hx119_1 := cl HB.out hx119_1
       replace hx119_2 := cl HB.out hx119_2
       replace hx119_3 := cl HB.out hx119_3
       replace hx119_4 := cl HB.out hx119_4
       replace hx119_5 := cl HB.out hx119_5
       have HR119_3 := aM hi119_3
       have HC119_3 := aM hl119_3
       clear hi119_3 hl119_3
       have HR119_4 := aM hi119_4
       have HC119_4 := aM hl119_4
       clear hi119_4 hl119_4
       replace p119 := eq_true p119
       replace q119 := eq_true q119
       go_wp2_with (first | ((with_reducible refine gate_callee (f := 57) rfl ?_); refine gL (some 15) Try.func57 #[.agg #[.int .i64 ((rd_T45 l0 x4_1).f0), .int .i64 ((rd_T45 l0 x4_1).f1), .int .i64 ((rd_T45 l0 x4_1).f2), .slice A119_3 ((rd_T45 l0 x4_1).f3.f0).length c119_3, .slice A119_4 ((rd_T45 l0 x4_1).f3.f1).length c119_4, .int .i64 ((rd_T45 l0 x4_1).f3.f2)]] ?_; (with_reducible refine (spec_l2Line.calls k1 ((rd_T45 l0 x4_1).f0) ((rd_T45 l0 x4_1).f1) ((rd_T45 l0 x4_1).f2) _ _ ((rd_T45 l0 x4_1).f3.f0) _ _ ((rd_T45 l0 x4_1).f3.f1) ((rd_T45 l0 x4_1).f3.f2) true _ ?side1 ?side2 ?side3 ?side4 A4.out).mono ?_); (case side1 => exact lC <| (Kd.C_below HR119_3.out HB.out)); (case side2 => exact HC119_3.out); (case side3 => exact lC <| (Kd.C_below HR119_4.out HB.out)); (case side4 => exact HC119_4.out); rintro e w7 ⟨rfl, hb⟩; refine ⟨_, rfl, ?_⟩; replace HB := aM (bj HB.out hb); (try clear hb); have p121 : 0 ≤ (x4_1 : Int) := of_decide_eq_true (by first | (with_reducible assumption) | assumption); have q121 : x4_1 < (l0.length : Int) := of_decide_eq_true (by first | (with_reducible assumption) | assumption); obtain ⟨ad121, A121_3, c121_3, A121_4, c121_4, e121, hx121_0, hx121_1, hx121_2, hx121_3, hx121_4, hx121_5, hl121_3, hi121_3, hl121_4, hi121_4⟩ := at_T45 HR0.out x4_1 p121 q121; obtain rfl : ad119 = ad121 := (by injection e121); replace hx121_0 := cl HB.out hx121_0; replace hx121_1 := cl HB.out hx121_1; replace hx121_2 := cl HB.out hx121_2; replace hx121_3 := cl HB.out hx121_3; replace hx121_4 := cl HB.out hx121_4; replace hx121_5 := cl HB.out hx121_5; have HR121_3 := aM hi121_3; have HC121_3 := aM hl121_3; clear hi121_3 hl121_3; have HR121_4 := aM hi121_4; have HC121_4 := aM hl121_4; clear hi121_4 hl121_4; replace p121 := eq_true p121; replace q121 := eq_true q121))
       go_roundg k1
       case measure => have := HK1.out; omega
       case rel => exact ⟨(wrap64 (x3_1 + 1)), (wrap64 (x4_1 + 1)), (by first | rfl | (simp; done) | (simp [*]; done)), (by first | rfl | (simp; done) | (simp [*]; done)), H', ⟨by have := HK1.out; omega⟩, ⟨by exact lB HB.out⟩⟩
      ·rw [if_neg c6] at H
       have c6b0 := beq_eq_false_iff_ne.mpr c6
       have c6b1 := bne_iff_ne.mpr c6
       have H' := aM H
       clear H
       have p119 : 0 ≤ (x4_1 : Int) := of_decide_eq_true (by first | (with_reducible assumption) | assumption)
       have q119 : x4_1 < (l0.length : Int) := of_decide_eq_true (by first | (with_reducible assumption) | assumption)
       obtain ⟨ad119, A119_3, c119_3, A119_4, c119_4, e119, hx119_0, hx119_1, hx119_2, hx119_3, hx119_4, hx119_5, hl119_3, hi119_3, hl119_4, hi119_4⟩ := at_T45 HR0.out x4_1 p119 q119
       cases e119
       replace hx119_0 := cl HB.out hx119_0
       replace hx119_1 := cl HB.out hx119_1
       replace hx119_2 := cl HB.out hx119_2
       replace hx119_3 := cl HB.out hx119_3
       replace hx119_4 := cl HB.out hx119_4
       replace hx119_5 := cl HB.out hx119_5
       have HR119_3 := aM hi119_3
       have HC119_3 := aM hl119_3
       clear hi119_3 hl119_3
       have HR119_4 := aM hi119_4
       have HC119_4 := aM hl119_4
       clear hi119_4 hl119_4
       replace p119 := eq_true p119
       replace q119 := eq_true q119
       go_wp2_with (first | ((with_reducible refine gate_callee (f := 57) rfl ?_); refine gL (some 15) Try.func57 #[.agg #[.int .i64 ((rd_T45 l0 x4_1).f0), .int .i64 ((rd_T45 l0 x4_1).f1), .int .i64 ((rd_T45 l0 x4_1).f2), .slice A119_3 ((rd_T45 l0 x4_1).f3.f0).length c119_3, .slice A119_4 ((rd_T45 l0 x4_1).f3.f1).length c119_4, .int .i64 ((rd_T45 l0 x4_1).f3.f2)]] ?_; (with_reducible refine (spec_l2Line.calls k1 ((rd_T45 l0 x4_1).f0) ((rd_T45 l0 x4_1).f1) ((rd_T45 l0 x4_1).f2) _ _ ((rd_T45 l0 x4_1).f3.f0) _ _ ((rd_T45 l0 x4_1).f3.f1) ((rd_T45 l0 x4_1).f3.f2) true _ ?side1 ?side2 ?side3 ?side4 A4.out).mono ?_); (case side1 => exact lC <| (Kd.C_below HR119_3.out HB.out)); (case side2 => exact HC119_3.out); (case side3 => exact lC <| (Kd.C_below HR119_4.out HB.out)); (case side4 => exact HC119_4.out); rintro e w8 ⟨rfl, hb⟩; refine ⟨_, rfl, ?_⟩; replace HB := aM (bj HB.out hb); (try clear hb); have p121 : 0 ≤ (x4_1 : Int) := of_decide_eq_true (by first | (with_reducible assumption) | assumption); have q121 : x4_1 < (l0.length : Int) := of_decide_eq_true (by first | (with_reducible assumption) | assumption); obtain ⟨ad121, A121_3, c121_3, A121_4, c121_4, e121, hx121_0, hx121_1, hx121_2, hx121_3, hx121_4, hx121_5, hl121_3, hi121_3, hl121_4, hi121_4⟩ := at_T45 HR0.out x4_1 p121 q121; obtain rfl : ad119 = ad121 := (by injection e121); replace hx121_0 := cl HB.out hx121_0; replace hx121_1 := cl HB.out hx121_1; replace hx121_2 := cl HB.out hx121_2; replace hx121_3 := cl HB.out hx121_3; replace hx121_4 := cl HB.out hx121_4; replace hx121_5 := cl HB.out hx121_5; have HR121_3 := aM hi121_3; have HC121_3 := aM hl121_3; clear hi121_3 hl121_3; have HR121_4 := aM hi121_4; have HC121_4 := aM hl121_4; clear hi121_4 hl121_4; replace p121 := eq_true p121; replace q121 := eq_true q121))
       go_roundg k1
       case measure => have := HK1.out; omega
       case rel => exact ⟨(x3_1), (wrap64 (x4_1 + 1)), (by first | rfl | (simp; done) | (simp [*]; done)), (by first | rfl | (simp; done) | (simp [*]; done)), H', ⟨by have := HK1.out; omega⟩, ⟨by exact lB HB.out⟩⟩
     ·replace c5 := Bool.eq_false_iff.mpr c5
      subst c5
      rw [if_neg nf] at H
      try dsimp only at H
      obtain rfl := Option.some.inj H
      have p119 : 0 ≤ (x4_1 : Int) := of_decide_eq_true (by first | (with_reducible assumption) | assumption)
      have q119 : x4_1 < (l0.length : Int) := of_decide_eq_true (by first | (with_reducible assumption) | assumption)
      obtain ⟨ad119, A119_3, c119_3, A119_4, c119_4, e119, hx119_0, hx119_1, hx119_2, hx119_3, hx119_4, hx119_5, hl119_3, hi119_3, hl119_4, hi119_4⟩ := at_T45 HR0.out x4_1 p119 q119
      cases e119
      replace hx119_0 := cl HB.out hx119_0
      replace hx119_1 := cl HB.out hx119_1
      replace hx119_2 := cl HB.out hx119_2
      replace hx119_3 := cl HB.out hx119_3
      replace hx119_4 := cl HB.out hx119_4
      replace hx119_5 := cl HB.out hx119_5
      have HR119_3 := aM hi119_3
      have HC119_3 := aM hl119_3
      clear hi119_3 hl119_3
      have HR119_4 := aM hi119_4
      have HC119_4 := aM hl119_4
      clear hi119_4 hl119_4
      replace p119 := eq_true p119
      replace q119 := eq_true q119
      go_wp2_with (first | ((with_reducible refine gate_callee (f := 57) rfl ?_); refine gL (some 15) Try.func57 #[.agg #[.int .i64 ((rd_T45 l0 x4_1).f0), .int .i64 ((rd_T45 l0 x4_1).f1), .int .i64 ((rd_T45 l0 x4_1).f2), .slice A119_3 ((rd_T45 l0 x4_1).f3.f0).length c119_3, .slice A119_4 ((rd_T45 l0 x4_1).f3.f1).length c119_4, .int .i64 ((rd_T45 l0 x4_1).f3.f2)]] ?_; (with_reducible refine (spec_l2Line.calls k1 ((rd_T45 l0 x4_1).f0) ((rd_T45 l0 x4_1).f1) ((rd_T45 l0 x4_1).f2) _ _ ((rd_T45 l0 x4_1).f3.f0) _ _ ((rd_T45 l0 x4_1).f3.f1) ((rd_T45 l0 x4_1).f3.f2) false _ ?side1 ?side2 ?side3 ?side4 A4.out).mono ?_); (case side1 => exact lC <| (Kd.C_below HR119_3.out HB.out)); (case side2 => exact HC119_3.out); (case side3 => exact lC <| (Kd.C_below HR119_4.out HB.out)); (case side4 => exact HC119_4.out); rintro e w9 ⟨rfl, hb⟩; refine ⟨_, rfl, ?_⟩; replace HB := aM (bj HB.out hb); (try clear hb)))
      go_ret
      exact ⟨er, by exact lB HB.out⟩
    ·rw [if_neg c3] at H
     exact absurd H (by simp)
   ·rw [if_neg c2] at H
    have c2b0 := decide_eq_false c2
    clear c2
    by_cases c10 : (l0.length : Int) ≤ 6
    ·rw [if_pos c10] at H
     have c10b0 := decide_eq_true c10
     have c10b1 : decide (l0.length ≤ 6) = true := decide_eq_true (by omega)
     clear c10
     obtain rfl := Option.some.inj H
     go_wp2
     go_ret
     exact ⟨er, by exact lB HB.out⟩
    ·rw [if_neg c10] at H
     have c10b0 := decide_eq_false c10
     have c10b1 : decide (l0.length ≤ 6) = false := decide_eq_false (by omega)
     clear c10
     obtain rfl := Option.some.inj H
     go_wp2
     go_ret
     exact ⟨er, by exact lB HB.out⟩

/-! ### spec_l20With: function 63 -/
def spec_l20With.f (l0_0 : List Int) (l0_1 : List Int) (a0_2 : Int) (a1 : Int) (a2 : Int) : Option (List Int × List Int × Int) := if 0 ≤ a1 then (if a1 < (l0_0.length : Int) then (some ((l0_0.set (a1 : Int).toNat a2), l0_1, a0_2)) else (none)) else (none)
theorem spec_l20With.calls (P0_0_ : Nat → Prop) (u9000_ : Value) (l0_0 : List Int) (P0_1_ : Nat → Prop) (u9001_ : Value) (l0_1 : List Int) (a0_2 : Int) (a1 : Int) (a2 : Int) (r1 : List Int) (r2 : List Int) (r3 : Int) (w0 w : World) (hB : Below w0.heap.size w0 w) (ho0_0 : Kd.R (Kd.int .i64) 3 w w0.heap.size P0_0_ u9000_ l0_0) (hp0_0_0_1 : ∀ k_, P0_0_ k_ → ¬ P0_1_ k_) (ho0_1 : Kd.R (Kd.int .i64) 3 w w0.heap.size P0_1_ u9001_ l0_1) (hp0_1_0_0 : ∀ k_, P0_1_ k_ → ¬ P0_0_ k_) (h : spec_l20With.f l0_0 l0_1 a0_2 a1 a2 = some (r1, r2, r3)) :
  Calls Try.prog 63 #[.agg #[u9000_, u9001_, .int .i64 a0_2], .int .i64 a1, .int .i64 a2] w fun e w' => ∃ v0_ v1_ : Value, e = .returned (.agg #[v0_, v1_, .int .i64 r3]) ∧ Kd.R (Kd.int .i64) 3 w' w0.heap.size (fun k_ => ((P0_0_ k_ ∨ P0_1_ k_) ∨ w.heap.size ≤ k_) ∧ some k_ ≠ (v1_ : Value).ownBlock) v0_ r1 ∧ Kd.R (Kd.int .i64) 3 w' w0.heap.size (fun k_ => ((P0_0_ k_ ∨ P0_1_ k_) ∨ w.heap.size ≤ k_) ∧ some k_ ≠ (v0_ : Value).ownBlock) v1_ r2 ∧ Below w0.heap.size w0 w' ∧ Kept w w' (fun k_ => P0_0_ k_ ∨ P0_1_ k_) := by
 have hu43 := Try.underlying43
 have HO0_0 := aM (show Kd.R (Kd.int .i64) 3 w w0.heap.size (fun k_ => ((P0_0_ k_ ∨ P0_1_ k_) ∨ w.heap.size ≤ k_) ∧ some k_ ≠ (u9001_ : Value).ownBlock) u9000_ l0_0 from Kd.R_mono ho0_0 (fun k_ hk => ⟨(.inl (.inl hk)), fun e_ => hp0_0_0_1 k_ hk (ho0_1.1 k_ e_.symm)⟩))
 have HO0_1 := aM (show Kd.R (Kd.int .i64) 3 w w0.heap.size (fun k_ => ((P0_0_ k_ ∨ P0_1_ k_) ∨ w.heap.size ≤ k_) ∧ some k_ ≠ (u9000_ : Value).ownBlock) u9001_ l0_1 from Kd.R_mono ho0_1 (fun k_ hk => ⟨(.inl (.inr hk)), fun e_ => hp0_1_0_0 k_ hk (ho0_0.1 k_ e_.symm)⟩))
 have HK := aM (Kept.refl w (fun k_ => P0_0_ k_ ∨ P0_1_ k_))
 have HW0 := aM hB.size
 have HB := aM hB
 clear hB
 have H : (if 0 ≤ a1 then (if a1 < (l0_0.length : Int) then (some ((l0_0.set (a1 : Int).toNat a2), l0_1, a0_2)) else (none)) else (none)) = some (r1, r2, r3) := h
 clear h
 by_cases c4 : 0 ≤ a1
 ·rw [if_pos c4] at H
  have c4b0 := decide_eq_true c4
  clear c4
  by_cases c5 : a1 < (l0_0.length : Int)
  ·rw [if_pos c5] at H
   have c5b0 := decide_eq_true c5
   clear c5
   obtain ⟨y124, hy124⟩ : ∃ y_ : List Int, y_ = (l0_0.set (a1 : Int).toNat a2) := ⟨_, rfl⟩
   try rw [← hy124] at H
   try dsimp only [Option.bind_some] at H
   have Ny124 := aM hy124
   clear hy124
   simp only [Option.some.injEq, Prod.mk.injEq] at H
   obtain ⟨rfl, rfl, rfl⟩ := H
   obtain ⟨Ao7, co7, eo7⟩ := Kd.R_slice HO0_0.out
   subst eo7
   obtain ⟨Ao8, co8, eo8⟩ := Kd.R_slice HO0_1.out
   subst eo8
   go_enter Try.func63, Try.ntmps63
   go_wp2_with (first | ((with_reducible refine gate_dst (N := 3) rfl ?_); refine bx 3 #[.slice Ao7 l0_0.length co7, .slice Ao8 l0_1.length co8, .int .i64 a0_2] 43 ?_; intro gb122 hg w9 hbox hb; replace HO0_0 := aM (rb HO0_0.out hb); replace HO0_1 := aM (rb HO0_1.out hb); have BK122 := aM (hbox); have GW122 := aM ((by rw [hg]; exact (by first | exact HK.out.1 | exact (show Kept w _ (fun k_ => P0_0_ k_ ∨ P0_1_ k_) from by repeat (first | (with_reducible first | exact HK.out | apply Kept.alloc | apply Kept.drewN | apply Kept.drew) | exact HK.out)).1) : w.heap.size ≤ gb122)); have IGW122 : Nonempty _ := ⟨GW122.out⟩; replace HK := aM (Kept.below (S := (fun k_ => P0_0_ k_ ∨ P0_1_ k_)) (by repeat (first | (with_reducible first | exact HK.out | apply Kept.alloc | apply Kept.drewN | apply Kept.drew) | exact HK.out)) hb); have GE122 := aM ((by rw [hg]; exact (below_size (by exact lB HB.out)) : w0.heap.size ≤ gb122)); have IGE122 : Nonempty _ := ⟨GE122.out⟩; replace HB := aM (bj HB.out hb); clear hb hbox hg) | ((with_reducible refine gate_dst (N := 6) rfl ?_); refine bx 6 #[.slice none 0 0, .slice none 0 0, .int .i64 0] 43 ?_; intro gb123 hg w10 hbox hb; replace HO0_0 := aM (rb HO0_0.out hb); replace HO0_1 := aM (rb HO0_1.out hb); have BK123 := aM (hbox); have GW123 := aM ((by rw [hg]; exact (by first | exact HK.out.1 | exact (show Kept w _ (fun k_ => P0_0_ k_ ∨ P0_1_ k_) from by repeat (first | (with_reducible first | exact HK.out | apply Kept.alloc | apply Kept.drewN | apply Kept.drew | refine Kept.setCell ?_ (.inr GW122.out) _) | exact HK.out)).1) : w.heap.size ≤ gb123)); have IGW123 : Nonempty _ := ⟨GW123.out⟩; replace HK := aM (Kept.below (S := (fun k_ => P0_0_ k_ ∨ P0_1_ k_)) (by repeat (first | (with_reducible first | exact HK.out | apply Kept.alloc | apply Kept.drewN | apply Kept.drew | refine Kept.setCell ?_ (.inr GW122.out) _) | exact HK.out)) hb); have GE123 := aM ((by rw [hg]; exact (below_size (by exact jB HB.out)) : w0.heap.size ≤ gb123)); have IGE123 : Nonempty _ := ⟨GE123.out⟩; replace HB := aM (bj HB.out hb); have NB122_123 := aM ((neL hg (lK BK122.out) : gb122 ≠ gb123)); have NB123_122 := aM ((neG hg (lK BK122.out) : gb123 ≠ gb122)); replace BK122 := aM (bb BK122.out hb); clear hb hbox hg; have hnb11 := NB122_123.out; have hnc11 := NB123_122.out; obtain ⟨hcz12_0, hcz12_1, hcz12_2, hfz12_0, hfz12_1, hfz12_2⟩ := cf3 BK122.out; have p6 : 0 ≤ (a1 : Int) := of_decide_eq_true (by first | (with_reducible assumption) | assumption); have q6 : (a1 : Int) < ((l0_0.length : Int) : Int) := of_decide_eq_true (by first | (with_reducible assumption) | assumption); obtain ⟨go6, co6, eo6, gb6, gl6, cl6, HG6⟩ := Kd.R_form HO0_0.out (by omega); (first | cases eo6 | (injection eo6 with ea_ en_ ec_; (first | subst ea_ | (injection ea_ with ea_; subst ea_)); subst ec_; clear en_)); have GB6 := aM gb6; have IGB6 : Nonempty _ := ⟨GB6.out⟩; have GG6 := aM HG6; clear gb6 gl6 HG6; have HMgo6 := aM (show ((P0_0_ go6 ∨ P0_1_ go6) ∨ w.heap.size ≤ go6) from (HO0_0.out.1 _ rfl).1); obtain ⟨hx6_0, hf6_0⟩ := Kd.R_celln 0 HO0_0.out (a1 : Int) p6 q6; replace p6 := eq_true p6; replace q6 := eq_true q6; obtain ⟨hy13_, hz13_⟩ := Kd.R_celln 0 HO0_0.out (a1 : Int) (of_decide_eq_true (by first | (with_reducible assumption) | assumption)) (of_decide_eq_true (by first | (with_reducible assumption) | assumption)); have HP13 := Kd.R_putg HO0_0.out (a1 : Int) a2) | ((with_reducible refine gate_store (t := 3) (p := 11) rfl ?_); refine store_event (t := 3) (p := 11) (v := ?vo_w14) (w1 := (w10.setCell ⟨go6, (a1 : Int).toNat, none⟩ (.int .i64 a2))) ?hg ?ho ?hn ?hr ?_; (case ho => rfl); (case hg => rfl); (case hn => rfl); (case hr => first | (go_simp; done) | (go_simp; rfl)); intro w14 hw; have hg : w10.grownBy w14 (some go6) := (by rw [hw]; exact HP13.2); have hp_ : Kd.R (Kd.int .i64) 3 w14 w0.heap.size (fun k_ => ((P0_0_ k_ ∨ P0_1_ k_) ∨ w.heap.size ≤ k_) ∧ some k_ ≠ ownBlock (.slice Ao8 l0_1.length co8)) (.slice (some ⟨go6, 0, none⟩) l0_0.length co7) y124 := (by rw [hw, Ny124.out]; exact HP13.1); clear HP13; replace HO0_1 := aM (Kd.R_after (v := (.slice (some ⟨go6, 0, none⟩) l0_0.length co7)) (v1 := (.slice (some ⟨go6, 0, none⟩) l0_0.length co7)) (ok := (fun k_ => ((P0_0_ k_ ∨ P0_1_ k_) ∨ w.heap.size ≤ k_))) (by exact lR HO0_1.out) hg (.inl rfl)); replace BK122 := aM (blk_grown (g := gb122) (o := .cells #[.slice (some ⟨go6, 0, none⟩) l0_0.length co7, .slice Ao8 l0_1.length co8, .int .i64 a0_2] 43 (0, 0)) (by exact lK BK122.out) hg (Kd.R_ne HO0_0.out BK122.out (by decide))); replace BK123 := aM (blk_grown (g := gb123) (o := .cells #[.slice none 0 0, .slice none 0 0, .int .i64 0] 43 (0, 0)) (by exact lK BK123.out) hg (Kd.R_ne HO0_0.out BK123.out (by decide))); replace HB := aM ((by rw [hw]; exact below_set (HB.out) GB6.out : Below w0.heap.size w0 w14)); replace HK := aM (Kept.of_grown (S := (fun k_ => P0_0_ k_ ∨ P0_1_ k_)) hg (by repeat (first | (with_reducible first | exact HK.out | apply Kept.alloc | apply Kept.drewN | apply Kept.drew | refine Kept.setCell ?_ (.inr GW122.out) _ | refine Kept.setCell ?_ (.inr GW123.out) _) | exact HK.out)) (fun k_ e_ => (HO0_0.out.1 k_ e_).1)); replace HO0_0 := aM (hp_); clear hg hw hp_; obtain ⟨hcz15_0, hcz15_1, hcz15_2, hfz15_0, hfz15_1, hfz15_2⟩ := cf3 BK122.out; obtain ⟨hcz16_0, hcz16_1, hcz16_2, hfz16_0, hfz16_1, hfz16_2⟩ := cf3 BK123.out))
   refine bodyPost_ret (results_cell_row rfl _ _ gb123 43 #[.slice (some ⟨go6, 0, none⟩) l0_0.length co7, .slice Ao8 l0_1.length co8, .int .i64 a0_2] (0, 0) _ rfl (by exact p3 (lK BK123.out)) Try.underlying43 rfl (by kernel_rfl)) rfl ?_
   exact ⟨_, _, er, by exact lR <| Kd.R_mono (Kd.R_far (p := ⟨gb123, 2, none⟩) (Kd.R_far (p := ⟨gb123, 1, none⟩) (Kd.R_far (p := ⟨gb123, 0, none⟩) (Kd.R_types HO0_0.out BK123.out (by decide)) (fun _ hk => by first | exact hk.2 | exact fun e_ => hk.2 (e_.trans (ob _ _ _ _))) (.slice (some ⟨go6, 0, none⟩) l0_0.length co7)) (fun _ hk => by first | exact hk.2 | exact fun e_ => hk.2 (e_.trans (ob _ _ _ _))) (.slice Ao8 l0_1.length co8)) (fun _ hk => by first | exact hk.2 | exact fun e_ => hk.2 (e_.trans (ob _ _ _ _))) (.int .i64 a0_2)) (fun _ hk => ⟨hk.1.1, hk.1.2⟩), by exact lR <| Kd.R_mono (Kd.R_far (p := ⟨gb123, 2, none⟩) (Kd.R_far (p := ⟨gb123, 1, none⟩) (Kd.R_far (p := ⟨gb123, 0, none⟩) (Kd.R_types HO0_1.out BK123.out (by decide)) (fun _ hk => by first | exact hk.2 | exact fun e_ => hk.2 (e_.trans (ob _ _ _ _))) (.slice (some ⟨go6, 0, none⟩) l0_0.length co7)) (fun _ hk => by first | exact hk.2 | exact fun e_ => hk.2 (e_.trans (ob _ _ _ _))) (.slice Ao8 l0_1.length co8)) (fun _ hk => by first | exact hk.2 | exact fun e_ => hk.2 (e_.trans (ob _ _ _ _))) (.int .i64 a0_2)) (fun _ hk => ⟨hk.1.1, hk.1.2⟩), by exact jB HB.out, by repeat (first | (with_reducible first | exact HK.out | apply Kept.alloc | apply Kept.drewN | apply Kept.drew | refine Kept.setCell ?_ (.inr GW122.out) _ | refine Kept.setCell ?_ (.inr GW123.out) _) | exact HK.out)⟩
  ·rw [if_neg c5] at H
   exact absurd H (by simp)
 ·rw [if_neg c4] at H
  exact absurd H (by simp)

/-! ### spec_FrmZero: function 66 -/
def spec_FrmZero.f  : Option (List Int × List Int × Int) := some ((([0, 0, 0] : List Int)), (([0, 0] : List Int)), 0)
theorem spec_FrmZero.calls  (r1 : List Int) (r2 : List Int) (r3 : Int) (w : World) (h : spec_FrmZero.f  = some (r1, r2, r3)) :
  Calls Try.prog 66 #[] w fun e w' => ∃ v0_ v1_ : Value, e = .returned (.agg #[v0_, v1_, .int .i64 r3]) ∧ Kd.R (Kd.int .i64) 3 w' w.heap.size (fun k_ => some k_ ≠ (v1_ : Value).ownBlock) v0_ r1 ∧ Kd.R (Kd.int .i64) 3 w' w.heap.size (fun k_ => some k_ ≠ (v0_ : Value).ownBlock) v1_ r2 ∧ Below w.heap.size w w' := by
 have hu43 := Try.underlying43
 have HB := aM (Below.refl w.heap.size w)
 have H : (some ((([0, 0, 0] : List Int)), (([0, 0] : List Int)), 0)) = some (r1, r2, r3) := h
 clear h
 obtain ⟨y126, hy126⟩ : ∃ y_ : List Int, y_ = (([0, 0, 0] : List Int)) := ⟨_, rfl⟩
 try rw [← hy126] at H
 try dsimp only [Option.bind_some] at H
 have Ny126 := aM hy126
 clear hy126
 obtain ⟨y129, hy129⟩ : ∃ y_ : List Int, y_ = (([0, 0] : List Int)) := ⟨_, rfl⟩
 try rw [← hy129] at H
 try dsimp only [Option.bind_some] at H
 have Ny129 := aM hy129
 clear hy129
 simp only [Option.some.injEq, Prod.mk.injEq] at H
 obtain ⟨rfl, rfl, rfl⟩ := H
 go_enter Try.func66, Try.ntmps66
 go_wp2_with (first | ((with_reducible refine gate_dst (N := 0) rfl ?_); refine bx 0 #[.slice none 0 0, .slice none 0 0, .int .i64 0] 43 ?_; intro gb125 hg w1 hbox hb; have BK125 := aM (hbox); have GW125 := aM ((gz hg HB.out)); have IGW125 : Nonempty _ := ⟨GW125.out⟩; have GE125 := aM ((gz hg HB.out)); have IGE125 : Nonempty _ := ⟨GE125.out⟩; replace HB := aM (bj HB.out hb); clear hb hbox hg) | ((with_reducible refine gate_dst (N := 1) rfl ?_); refine Kd.R_lit (Kd.int .i64) _ 3 ?hg (N := 1) ?hd (xs := ([0, 0, 0] : List Int)) (inner := [.int .i64 0, .int .i64 0, .int .i64 0]) (ok := fun _ => True) (okp := fun _ => True) ?hr ?hp (fun _ hk => hk) trivial (Below.refl _ _) (Nat.le_refl _) (by simp) ?_; (case hd => rfl); (case hg => rfl); (case hr => first | (go_simp; done) | (go_simp; rfl)); (case hp => exact (Reps.one (show Kd.M (Kd.int .i64) _ _ _ 0 [.int .i64 0] from rfl) (Reps.one (show Kd.M (Kd.int .i64) _ _ _ 0 [.int .i64 0] from rfl) (Reps.one (show Kd.M (Kd.int .i64) _ _ _ 0 [.int .i64 0] from rfl) (Reps.none _ _))))); intro v127 w2 ho3 hb hg_ hnew_; clear hg_ hnew_; (first | rw [← Ny126.out] at ho3 | (simp only [Int.reduceToNat] at ho3; rw [← Ny126.out] at ho3)); have HO128 := aM (Kd.R_lower ho3 (below_size (by exact jB HB.out))); replace BK125 := aM (bb BK125.out hb); replace HB := aM (bj HB.out hb); clear hb ho3) | ((with_reducible refine gate_dst (N := 2) rfl ?_); refine Kd.R_lit (Kd.int .i64) _ 3 ?hg (N := 2) ?hd (xs := ([0, 0] : List Int)) (inner := [.int .i64 0, .int .i64 0]) (ok := fun _ => True) (okp := fun _ => True) ?hr ?hp (fun _ hk => hk) trivial (Below.refl _ _) (Nat.le_refl _) (by simp) ?_; (case hd => rfl); (case hg => rfl); (case hr => first | (go_simp; done) | (go_simp; rfl)); (case hp => exact (Reps.one (show Kd.M (Kd.int .i64) _ _ _ 0 [.int .i64 0] from rfl) (Reps.one (show Kd.M (Kd.int .i64) _ _ _ 0 [.int .i64 0] from rfl) (Reps.none _ _)))); intro v130 w4 ho5 hb hg_ hnew_; clear hg_ hnew_; (first | rw [← Ny129.out] at ho5 | (simp only [Int.reduceToNat] at ho5; rw [← Ny129.out] at ho5)); have HO131 := aM (Kd.R_lower (Kd.R_new' ho5 (rl HO128.out)) (below_size (by exact jB HB.out))); replace HO128 := aM (Kd.R_elder' (by exact lR HO128.out) (Kd.R_base ho5) hb); replace BK125 := aM (bb BK125.out hb); replace HB := aM (bj HB.out hb); clear hb ho5; obtain ⟨Ao6, co6, eo6⟩ := Kd.R_slice HO131.out; subst eo6; obtain ⟨Ao7, co7, eo7⟩ := Kd.R_slice HO128.out; subst eo7; obtain ⟨hcz8_0, hcz8_1, hcz8_2, hfz8_0, hfz8_1, hfz8_2⟩ := cf3 BK125.out))
 refine bodyPost_ret (results_cell_row rfl _ _ gb125 43 #[.slice Ao7 y126.length co7, .slice Ao6 y129.length co6, .int .i64 0] (0, 0) _ rfl (by exact p3 (lK BK125.out)) Try.underlying43 rfl (by kernel_rfl)) rfl ?_
 exact ⟨_, _, er, by exact lR <| Kd.R_mono (Kd.R_far (p := ⟨gb125, 2, none⟩) (Kd.R_far (p := ⟨gb125, 1, none⟩) (Kd.R_far (p := ⟨gb125, 0, none⟩) (Kd.R_types HO128.out BK125.out (by decide)) (fun _ hk => by first | exact hk.2 | exact fun e_ => hk.2 (e_.trans (ob _ _ _ _))) (.slice Ao7 y126.length co7)) (fun _ hk => by first | exact hk.2 | exact fun e_ => hk.2 (e_.trans (ob _ _ _ _))) (.slice Ao6 y129.length co6)) (fun _ hk => by first | exact hk.2 | exact fun e_ => hk.2 (e_.trans (ob _ _ _ _))) (.int .i64 0)) (fun _ hk => by first | exact hk.1.2 | exact fun e_ => hk.1.2 (e_.trans (ob _ _ _ _))), by exact lR <| Kd.R_mono (Kd.R_far (p := ⟨gb125, 2, none⟩) (Kd.R_far (p := ⟨gb125, 1, none⟩) (Kd.R_far (p := ⟨gb125, 0, none⟩) (Kd.R_types HO131.out BK125.out (by decide)) (fun _ hk => by first | exact hk.2 | exact fun e_ => hk.2 (e_.trans (ob _ _ _ _))) (.slice Ao7 y126.length co7)) (fun _ hk => by first | exact hk.2 | exact fun e_ => hk.2 (e_.trans (ob _ _ _ _))) (.slice Ao6 y129.length co6)) (fun _ hk => by first | exact hk.2 | exact fun e_ => hk.2 (e_.trans (ob _ _ _ _))) (.int .i64 0)) (fun _ hk => by first | exact hk.1.2 | exact fun e_ => hk.1.2 (e_.trans (ob _ _ _ _))), by exact jB HB.out⟩

/-! ### spec_l20Num: function 64 -/
def spec_l20Num.f (a0 : Int) (a1 : Int) (a2 : Int) : Option (List Int × List Int × Int) := (spec_FrmZero.f).bind fun bt133 => (if 0 < (bt133.2.1.length : Int) then (if 1 < (bt133.2.1.length : Int) then (some (bt133.1, ((bt133.2.1.set (0 : Int).toNat a0).set (1 : Int).toNat a1), a2)) else (none)) else (none))
theorem spec_l20Num.calls (a0 : Int) (a1 : Int) (a2 : Int) (r1 : List Int) (r2 : List Int) (r3 : Int) (w : World) (h : spec_l20Num.f a0 a1 a2 = some (r1, r2, r3)) :
  Calls Try.prog 64 #[.int .i64 a0, .int .i64 a1, .int .i64 a2] w fun e w' => ∃ v0_ v1_ : Value, e = .returned (.agg #[v0_, v1_, .int .i64 r3]) ∧ Kd.R (Kd.int .i64) 3 w' w.heap.size (fun k_ => some k_ ≠ (v1_ : Value).ownBlock) v0_ r1 ∧ Kd.R (Kd.int .i64) 3 w' w.heap.size (fun k_ => some k_ ≠ (v0_ : Value).ownBlock) v1_ r2 ∧ Below w.heap.size w w' := by
 have hu43 := Try.underlying43
 have HB := aM (Below.refl w.heap.size w)
 have H : ((spec_FrmZero.f).bind fun bt133 => (if 0 < (bt133.2.1.length : Int) then (if 1 < (bt133.2.1.length : Int) then (some (bt133.1, ((bt133.2.1.set (0 : Int).toNat a0).set (1 : Int).toNat a1), a2)) else (none)) else (none))) = some (r1, r2, r3) := h
 clear h
 obtain ⟨⟨t133, t136, t139⟩, A4, H⟩ := bS H
 try dsimp only at H
 by_cases c5 : 0 < (t136.length : Int)
 ·rw [if_pos c5] at H
  have c5b0 := decide_eq_true c5
  have c5b1 : decide (0 < t136.length) = true := decide_eq_true (by omega)
  clear c5
  obtain ⟨y141, hy141⟩ : ∃ y_ : List Int, y_ = (t136.set (0 : Int).toNat a0) := ⟨_, rfl⟩
  try rw [← hy141] at H
  try dsimp only [Option.bind_some] at H
  have Ny141 := aM hy141
  clear hy141
  by_cases c7 : 1 < (t136.length : Int)
  ·rw [if_pos c7] at H
   have c7b0 := decide_eq_true c7
   have c7b1 : decide (1 < t136.length) = true := decide_eq_true (by omega)
   clear c7
   obtain ⟨y142, hy142⟩ : ∃ y_ : List Int, y_ = (y141.set (1 : Int).toNat a1) := ⟨_, rfl⟩
   try rw [← hy142] at H
   try dsimp only [Option.bind_some] at H
   have Ny142 := aM hy142
   clear hy142
   simp only [Option.some.injEq, Prod.mk.injEq] at H
   obtain ⟨rfl, rfl, rfl⟩ := H
   go_enter Try.func64, Try.ntmps64
   go_wp2_with (first | ((with_reducible refine gate_dst (N := 6) rfl ?_); refine bx 6 #[.slice none 0 0, .slice none 0 0, .int .i64 0] 43 ?_; intro gb132 hg w9 hbox hb; have BK132 := aM (hbox); have GW132 := aM ((gz hg HB.out)); have IGW132 : Nonempty _ := ⟨GW132.out⟩; have GE132 := aM ((gz hg HB.out)); have IGE132 : Nonempty _ := ⟨GE132.out⟩; replace HB := aM (bj HB.out hb); clear hb hbox hg) | ((with_reducible refine gate_callee (f := 66) rfl ?_); refine gL (some 8) Try.func66 #[] ?_; (with_reducible refine (spec_FrmZero.calls  t133 t136 t139 _ A4.out).mono ?_); rintro e w10 ⟨v134, v137, rfl, ho0, ho1, hb⟩; refine ⟨_, rfl, ?_⟩; have HO135 := aM (Kd.R_lower ho0 (below_size (by exact jB HB.out))); have HO138 := aM (Kd.R_lower ho1 (below_size (by exact jB HB.out))); replace BK132 := aM (bb BK132.out hb); replace HB := aM (bj HB.out hb); (try clear hb); (try clear ho0); (try clear ho1)) | ((with_reducible refine gate_dst (N := 7) rfl ?_); refine bx 7 #[.slice none 0 0, .slice none 0 0, .int .i64 0] 43 ?_; intro gb140 hg w11 hbox hb; replace HO135 := aM (rb HO135.out hb); replace HO138 := aM (rb HO138.out hb); have BK140 := aM (hbox); have GW140 := aM ((gz hg HB.out)); have IGW140 : Nonempty _ := ⟨GW140.out⟩; have GE140 := aM ((gz hg HB.out)); have IGE140 : Nonempty _ := ⟨GE140.out⟩; replace HB := aM (bj HB.out hb); have NB132_140 := aM ((neL hg (lK BK132.out) : gb132 ≠ gb140)); have NB140_132 := aM ((neG hg (lK BK132.out) : gb140 ≠ gb132)); replace BK132 := aM (bb BK132.out hb); clear hb hbox hg; obtain ⟨Ao12, co12, eo12⟩ := Kd.R_slice HO135.out; subst eo12; have hnb13 := NB140_132.out; have hnc13 := NB132_140.out; obtain ⟨hcz14_0, hcz14_1, hcz14_2, hfz14_0, hfz14_1, hfz14_2⟩ := cf3 BK140.out; obtain ⟨Ao15, co15, eo15⟩ := Kd.R_slice HO138.out; subst eo15) | ((with_reducible refine gate_store (t := 43) (p := 7) rfl ?_); refine store_event (t := 43) (p := 7) (v := ?vo_w16) (w1 := (((w11.setCell ⟨gb140, 0, none⟩ (.slice Ao12 t133.length co12)).setCell ⟨gb140, 1, none⟩ (.slice Ao15 t136.length co15)).setCell ⟨gb140, 2, none⟩ (.int .i64 t139))) ?hg ?ho ?hn ?hr ?_; (case ho => rfl); (case hg => rfl); (case hn => rfl); (case hr => first | (go_simp; done) | (go_simp; rfl)); intro w16 hw; replace HO135 : Aside0 (Kd.R (Kd.int .i64) 3 w16 w.heap.size (fun k_ => some k_ ≠ ownBlock (.slice Ao15 t136.length co15)) (.slice Ao12 t133.length co12) t133) := ⟨(by rw [hw]; exact (by (with_reducible repeat (first | apply ra | apply rn | apply re)); exact R3 HO135.out BK140.out))⟩; replace HO138 : Aside0 (Kd.R (Kd.int .i64) 3 w16 w.heap.size (fun k_ => some k_ ≠ ownBlock (.slice Ao12 t133.length co12)) (.slice Ao15 t136.length co15) t136) := ⟨(by rw [hw]; exact (by (with_reducible repeat (first | apply ra | apply rn | apply re)); exact R3 HO138.out BK140.out))⟩; replace BK132 : Aside0 (w16.heap[gb132]? = some (.cells #[.slice none 0 0, .slice none 0 0, .int .i64 0] 43 (0, 0))) := ⟨(by rw [hw]; exact (by exact f3 (lK BK132.out) NB132_140.out))⟩; replace BK140 : Aside0 (w16.heap[gb140]? = some (.cells #[.slice Ao12 t133.length co12, .slice Ao15 t136.length co15, .int .i64 t139] 43 (0, 0))) := ⟨(by rw [hw]; exact (by exact p3 (lK BK140.out)))⟩; replace HB : Aside0 (Below w.heap.size w w16) := ⟨(by rw [hw]; exact (by exact jB HB.out))⟩; clear hw; obtain ⟨hcz17_0, hcz17_1, hcz17_2, hfz17_0, hfz17_1, hfz17_2⟩ := cf3 BK140.out; have p6 : 0 ≤ (0 : Int) := (by omega); have q6 : (0 : Int) < ((t136.length : Int) : Int) := of_decide_eq_true (by first | (with_reducible assumption) | assumption); have qi6 : (0 < t136.length) = True := eq_true (by omega); obtain ⟨go6, co6, eo6, gb6, gl6, cl6, HG6⟩ := Kd.R_form HO138.out (by omega); (first | cases eo6 | (injection eo6 with ea_ en_ ec_; (first | subst ea_ | (injection ea_ with ea_; subst ea_)); subst ec_; clear en_)); have GB6 := aM gb6; have IGB6 : Nonempty _ := ⟨GB6.out⟩; have GG6 := aM HG6; clear gb6 gl6 HG6; obtain ⟨hx6_0, hf6_0⟩ := Kd.R_celln 0 HO138.out (0 : Int) p6 q6; (try rw [show ((0 : Int)).toNat = 0 from rfl] at hx6_0); (try simp only [Nat.reduceMul, Nat.zero_mul, Nat.zero_add, Nat.reduceAdd] at hx6_0); (try rw [show ((0 : Int)).toNat = 0 from rfl] at hf6_0); (try simp only [Nat.reduceMul, Nat.zero_mul, Nat.zero_add, Nat.reduceAdd] at hf6_0); replace p6 := eq_true p6; replace q6 := eq_true q6; obtain ⟨hy18_, hz18_⟩ := Kd.R_celln 0 HO138.out (0 : Int) (by omega) (of_decide_eq_true (by first | (with_reducible assumption) | assumption)); (try simp only [Int.reduceToNat, Int.toNat_zero, Int.toNat_ofNat, Nat.reduceMul, Nat.zero_mul, Nat.zero_add] at hy18_ hz18_); (try rw [show ((0 : Int)).toNat = 0 from rfl] at hy18_); (try rw [show ((0 : Int)).toNat = 0 from rfl] at hz18_); have HP18 := Kd.R_putg HO138.out (0 : Int) a0) | ((with_reducible refine gate_store (t := 3) (p := 12) rfl ?_); refine store_event (t := 3) (p := 12) (v := ?vo_w19) (w1 := (w16.setCell ⟨go6, (0 : Int).toNat, none⟩ (.int .i64 a0))) ?hg ?ho ?hn ?hr ?_; (case ho => rfl); (case hg => rfl); (case hn => rfl); (case hr => first | (go_simp; done) | (go_simp; rfl)); intro w19 hw; have hg : w16.grownBy w19 (some go6) := (by rw [hw]; exact HP18.2); have hp_ : Kd.R (Kd.int .i64) 3 w19 w.heap.size (fun k_ => some k_ ≠ ownBlock (.slice Ao12 t133.length co12)) (.slice (some ⟨go6, 0, none⟩) t136.length co15) y141 := (by rw [hw, Ny141.out]; exact HP18.1); clear HP18; replace BK132 := aM (blk_grown (g := gb132) (o := .cells #[.slice none 0 0, .slice none 0 0, .int .i64 0] 43 (0, 0)) (by exact lK BK132.out) hg (Kd.R_ne HO138.out BK132.out (by decide))); replace HO135 := aM (Kd.R_after (v := (.slice (some ⟨go6, 0, none⟩) t136.length co15)) (v1 := (.slice (some ⟨go6, 0, none⟩) t136.length co15)) (ok := (fun _ => True)) (by exact lR <| Kd.R_mono HO135.out (fun _ hk => ⟨trivial, hk⟩)) hg (.inl rfl)); replace BK140 := aM (blk_grown (g := gb140) (o := .cells #[.slice Ao12 t133.length co12, .slice (some ⟨go6, 0, none⟩) t136.length co15, .int .i64 t139] 43 (0, 0)) (by exact lK BK140.out) hg (Kd.R_ne HO138.out BK140.out (by decide))); replace HO138 := aM (hp_); replace HB := aM ((by rw [hw]; exact below_set (HB.out) GB6.out : Below w.heap.size w w19)); clear hg hw hp_; obtain ⟨hcz20_0, hcz20_1, hcz20_2, hfz20_0, hfz20_1, hfz20_2⟩ := cf3 BK140.out; have p8 : 0 ≤ (1 : Int) := (by omega); have q8 : (1 : Int) < ((t136.length : Int) : Int) := of_decide_eq_true (by first | (with_reducible assumption) | assumption); have qi8 : (1 < t136.length) = True := eq_true (by omega); obtain ⟨hx8_0, hf8_0⟩ := Kd.R_celln 0 HO138.out (1 : Int) p8 q8; (try rw [show ((1 : Int)).toNat = 1 from rfl] at hx8_0); (try simp only [Nat.reduceMul, Nat.zero_mul, Nat.zero_add, Nat.reduceAdd] at hx8_0); (try rw [show ((1 : Int)).toNat = 1 from rfl] at hf8_0); (try simp only [Nat.reduceMul, Nat.zero_mul, Nat.zero_add, Nat.reduceAdd] at hf8_0); replace p8 := eq_true p8; replace q8 := eq_true q8; obtain ⟨hy21_, hz21_⟩ := Kd.R_celln 0 HO138.out (1 : Int) (by omega) (of_decide_eq_true (by first | (with_reducible assumption) | assumption)); (try simp only [Int.reduceToNat, Int.toNat_zero, Int.toNat_ofNat, Nat.reduceMul, Nat.zero_mul, Nat.zero_add] at hy21_ hz21_); (try rw [show ((1 : Int)).toNat = 1 from rfl] at hy21_); (try rw [show ((1 : Int)).toNat = 1 from rfl] at hz21_); have HP21 := Kd.R_putg HO138.out (1 : Int) a1) | ((with_reducible refine gate_store (t := 3) (p := 16) rfl ?_); refine store_event (t := 3) (p := 16) (v := ?vo_w22) (w1 := (w19.setCell ⟨go6, (1 : Int).toNat, none⟩ (.int .i64 a1))) ?hg ?ho ?hn ?hr ?_; (case ho => rfl); (case hg => rfl); (case hn => rfl); (case hr => first | (go_simp; done) | (go_simp; rfl)); intro w22 hw; have hg : w19.grownBy w22 (some go6) := (by rw [hw]; exact HP21.2); have hp_ : Kd.R (Kd.int .i64) 3 w22 w.heap.size (fun k_ => some k_ ≠ ownBlock (.slice Ao12 t133.length co12)) (.slice (some ⟨go6, 0, none⟩) t136.length co15) y142 := (by rw [hw, Ny142.out]; exact HP21.1); clear HP21; replace BK132 := aM (blk_grown (g := gb132) (o := .cells #[.slice none 0 0, .slice none 0 0, .int .i64 0] 43 (0, 0)) (by exact lK BK132.out) hg (Kd.R_ne HO138.out BK132.out (by decide))); replace HO135 := aM (Kd.R_after (v := (.slice (some ⟨go6, 0, none⟩) t136.length co15)) (v1 := (.slice (some ⟨go6, 0, none⟩) t136.length co15)) (ok := (fun _ => True)) (by exact lR HO135.out) hg (.inl rfl)); replace BK140 := aM (blk_grown (g := gb140) (o := .cells #[.slice Ao12 t133.length co12, .slice (some ⟨go6, 0, none⟩) t136.length co15, .int .i64 t139] 43 (0, 0)) (by exact lK BK140.out) hg (Kd.R_ne HO138.out BK140.out (by decide))); replace HO138 := aM (hp_); replace HB := aM ((by rw [hw]; exact below_set (HB.out) GB6.out : Below w.heap.size w w22)); clear hg hw hp_; obtain ⟨hcz23_0, hcz23_1, hcz23_2, hfz23_0, hfz23_1, hfz23_2⟩ := cf3 BK140.out; obtain ⟨hcz24_0, hcz24_1, hcz24_2, hfz24_0, hfz24_1, hfz24_2⟩ := cf3 BK132.out))
   refine bodyPost_ret (results_cell_row rfl _ _ gb132 43 #[.slice Ao12 t133.length co12, .slice (some ⟨go6, 0, none⟩) t136.length co15, .int .i64 a2] (0, 0) _ rfl (by (with_reducible repeat first | refine kN ?_ _ | refine kD ?_ | refine kA ?_ _); refine blk_put (cs := #[.slice Ao12 t133.length co12, .slice (some ⟨go6, 0, none⟩) t136.length co15, .int .i64 0]) ?_ 2 _ rfl; (with_reducible repeat first | refine kN ?_ _ | refine kD ?_ | refine kA ?_ _); refine blk_put (cs := #[.slice Ao12 t133.length co12, .slice none 0 0, .int .i64 0]) ?_ 1 _ rfl; (with_reducible repeat first | refine kN ?_ _ | refine kD ?_ | refine kA ?_ _); refine blk_put (cs := #[.slice none 0 0, .slice none 0 0, .int .i64 0]) ?_ 0 _ rfl; (with_reducible repeat first | refine kN ?_ _ | refine kD ?_ | refine kA ?_ _); refine blk_far ?_ NB132_140.out _; exact lK BK132.out) Try.underlying43 rfl (by kernel_rfl)) rfl ?_
   exact ⟨_, _, er, by exact lR <| Kd.R_mono (Kd.R_far (p := ⟨gb132, 2, none⟩) (Kd.R_far (p := ⟨gb132, 1, none⟩) (Kd.R_far (p := ⟨gb132, 0, none⟩) (Kd.R_far (p := ⟨gb140, 2, none⟩) (Kd.R_types (Kd.R_types HO135.out BK140.out (by decide)) BK132.out (by decide)) (fun _ hk => by first | exact hk.1.2 | exact fun e_ => hk.1.2 (e_.trans (ob _ _ _ _))) (.int .i64 a2)) (fun _ hk => by first | exact hk.2 | exact fun e_ => hk.2 (e_.trans (ob _ _ _ _))) (.slice Ao12 t133.length co12)) (fun _ hk => by first | exact hk.2 | exact fun e_ => hk.2 (e_.trans (ob _ _ _ _))) (.slice (some ⟨go6, 0, none⟩) t136.length co15)) (fun _ hk => by first | exact hk.2 | exact fun e_ => hk.2 (e_.trans (ob _ _ _ _))) (.int .i64 a2)) (fun _ hk => by first | exact hk.1.1.2 | exact fun e_ => hk.1.1.2 (e_.trans (ob _ _ _ _))), by exact lR <| Kd.R_mono (Kd.R_far (p := ⟨gb132, 2, none⟩) (Kd.R_far (p := ⟨gb132, 1, none⟩) (Kd.R_far (p := ⟨gb132, 0, none⟩) (Kd.R_far (p := ⟨gb140, 2, none⟩) (Kd.R_types (Kd.R_types HO138.out BK140.out (by decide)) BK132.out (by decide)) (fun _ hk => by first | exact hk.1.2 | exact fun e_ => hk.1.2 (e_.trans (ob _ _ _ _))) (.int .i64 a2)) (fun _ hk => by first | exact hk.2 | exact fun e_ => hk.2 (e_.trans (ob _ _ _ _))) (.slice Ao12 t133.length co12)) (fun _ hk => by first | exact hk.2 | exact fun e_ => hk.2 (e_.trans (ob _ _ _ _))) (.slice (some ⟨go6, 0, none⟩) t136.length co15)) (fun _ hk => by first | exact hk.2 | exact fun e_ => hk.2 (e_.trans (ob _ _ _ _))) (.int .i64 a2)) (fun _ hk => by first | exact hk.1.1 | exact fun e_ => hk.1.1 (e_.trans (ob _ _ _ _))), by exact jB HB.out⟩
  ·rw [if_neg c7] at H
   exact absurd H (by simp)
 ·rw [if_neg c5] at H
  exact absurd H (by simp)

end Go.Proofs.Ytgalnmgkcdmnkaa.QFnPlnHome

-- shorter
