/- Plain functions, and that the Go code computes them: written by a program of this session over the seat's translation; the conditions stand in each theorem. -/
import Derived.Test.YtgalnmgkcdmnkaaQFnPlnHomex0
import Derived.Test.YtgalnmgkcdmnkaaQFnPlnHomex1
import Derived.Test.YtgalnmgkcdmnkaaQFnPlnHomex2
import Derived.Test.YtgalnmgkcdmnkaaQFnPlnHomex12
namespace Go.Proofs.Ytgalnmgkcdmnkaa.QFnPlnHome
open Go.RowKit Go.Proofs.YtgalnmgkcdmnkaaW.PrintWords Go.Proofs.YtgalnmgkcdmnkaaW.PrintLast Go.Proofs.YtgalnmgkcdmnkaaW.PrintMore Go.Proofs.Ytgalnmgkcdmnkaa.HWords
attribute [local go_sem] max2_int min2_int max_two min_two max_three min_three max_four min_four   -- for this text's walks alone
set_option maxRecDepth 100000
set_option maxHeartbeats 8000000
set_option linter.unusedVariables false
set_option linter.unusedSimpArgs false

/-! ### impl_ActOk: function 17 -/
def impl_ActOk.l0 : Nat → List (S45) → Int → List (S45) → Int → Int → Option (Bool)
 | 0, _, _, _, _, _ => none
 | k + 1, x0, x3, x6, x7, x8 => if x8 < x7 then (if 0 ≤ x8 then (if x8 < (x6.length : Int) then ((impl_ActLine_ok.f k ((rd_T45 x6 x8).f0) ((rd_T45 x6 x8).f1) ((rd_T45 x6 x8).f2) ((rd_T45 x6 x8).f3.f0) ((rd_T45 x6 x8).f3.f1) ((rd_T45 x6 x8).f3.f2)).bind fun t635 => (if t635 = true then (if ((rd_T45 x6 x8).f0) = 1 then (impl_ActOk.l0 k x0 (wrap64 (x3 + 1)) x6 x7 (wrap64 (x8 + 1))) else (impl_ActOk.l0 k x0 x3 x6 x7 (wrap64 (x8 + 1)))) else (some false))) else (none)) else (none)) else (if (x0.length : Int) ≤ 6 then (some (decide (x3 ≤ 3))) else (some false))
def impl_ActOk.f (k : Nat) (l0 : List (S45)) : Option (Bool) := impl_ActOk.l0 k l0 0 l0 (l0.length : Int) 0
theorem impl_ActOk.mono_l : ∀ k, (∀ y0 y1 y2 y3 y4, LeO (impl_ActOk.l0 k y0 y1 y2 y3 y4) (impl_ActOk.l0 (k + 1) y0 y1 y2 y3 y4))
 | 0 => fun _ _ _ _ _ r h => by simp [impl_ActOk.l0] at h
 | k + 1 => by
  have ih0 := impl_ActOk.mono_l k
  ·intro y0 y1 y2 y3 y4
   unfold impl_ActOk.l0
   repeat' first
   | (with_reducible exact ih0 _ _ _ _ _)
   | (with_reducible exact impl_ActLine_ok.mono _ _ _ _ _ _ _)
   | (with_reducible exact LeO.refl _)
   | (with_reducible exact LeO.none _)
   | (with_reducible refine LeO.ite ?_ ?_)
   | (with_reducible refine LeO.bind ?_ (fun _ => ?_))
   | exact LeO.none _
   | refine LeO.ite ?_ ?_
   | refine LeO.bind ?_ (fun _ => ?_)
theorem impl_ActOk.mono : ∀ a0 k, LeO (impl_ActOk.f k a0) (impl_ActOk.f (k + 1) a0) := by
 intro a0 k
 have ih0 := impl_ActOk.mono_l k
 unfold impl_ActOk.f
 repeat' first
   | (with_reducible exact ih0 _ _ _ _ _)
   | (with_reducible exact impl_ActLine_ok.mono _ _ _ _ _ _ _)
   | (with_reducible exact LeO.refl _)
   | (with_reducible exact LeO.none _)
   | (with_reducible refine LeO.ite ?_ ?_)
   | (with_reducible refine LeO.bind ?_ (fun _ => ?_))
   | exact LeO.none _
   | refine LeO.ite ?_ ?_
   | refine LeO.bind ?_ (fun _ => ?_)
theorem impl_ActOk.calls (k : Nat) (A0 : Option Addr) (c0 : Nat) (l0 : List (S45)) (r : Bool) (w : World) (hr0 : Kd.C k45 w A0 l0.length l0) (hc0 : l0.length ≤ c0) (h : impl_ActOk.f k l0 = some r) :
  Calls Try.prog 17 #[.slice A0 l0.length c0] w fun e w' => e = .returned (.bool r) ∧ Below w.heap.size w w' := by
 have hu45 := Try.underlying45
 have HR0 := aM hr0
 have HC0 := aM hc0
 clear hr0 hc0
 have HB := aM (Below.refl w.heap.size w)
 have H : (impl_ActOk.l0 k l0 0 l0 (l0.length : Int) 0) = some r := h
 clear h
 have H' := aM H
 clear H
 go_enter Try.func17, Try.ntmps17
 go_wp2
 go_loopg [3, 8] k (fun kq v3 v8 w' => ∃ (x3_1 : Int) (x8_1 : Int), v3 = .int .i64 x3_1 ∧ v8 = .int .i64 x8_1 ∧ Aside0 (impl_ActOk.l0 kq l0 x3_1 l0 (l0.length : Int) x8_1 = some r) ∧ Aside0 (kq ≤ k) ∧ Aside0 (Below w.heap.size w w'))
 case atStart => exact ⟨(0), (0), (by first | rfl | (simp; done) | (simp [*]; done)), (by first | rfl | (simp; done) | (simp [*]; done)), H', ⟨Nat.le_refl _⟩, ⟨by exact lB HB.out⟩⟩
 case round =>
  clear H'
  try clear c1
  obtain ⟨x3_1, x8_1, rfl, rfl, HA, HK1, HB⟩ := hrel
  cases gk with
  | zero => exact absurd HA.out (by simp [impl_ActOk.l0])
  | succ k1 =>
   have H := HA.out
   clear HA
   simp only [impl_ActOk.l0] at H
   by_cases c2 : x8_1 < (l0.length : Int)
   ·rw [if_pos c2] at H
    have c2b0 := decide_eq_true c2
    clear c2
    by_cases c3 : 0 ≤ x8_1
    ·rw [if_pos c3] at H
     have c3b0 := decide_eq_true c3
     clear c3
     by_cases c4 : x8_1 < (l0.length : Int)
     ·rw [if_pos c4] at H
      have c4b0 := decide_eq_true c4
      clear c4
      obtain ⟨t635, A5, H⟩ := bS H
      try dsimp only at H
      by_cases c6 : t635 = true
      ·subst c6
       rw [if_pos rfl] at H
       try dsimp only at H
       by_cases c7 : ((rd_T45 l0 x8_1).f0) = 1
       ·rw [if_pos c7] at H
        have c7b0 := beq_iff_eq.mpr c7
        have c7b1 := bne_eq_false_iff_eq.mpr c7
        clear c7
        have H' := aM H
        clear H
        have p633 : 0 ≤ (x8_1 : Int) := of_decide_eq_true (by first | (with_reducible assumption) | assumption)
        have q633 : x8_1 < (l0.length : Int) := of_decide_eq_true (by first | (with_reducible assumption) | assumption)
        obtain ⟨ad633, A633_3, c633_3, A633_4, c633_4, e633, hx633_0, hx633_1, hx633_2, hx633_3, hx633_4, hx633_5, hl633_3, hi633_3, hl633_4, hi633_4⟩ := at_T45 HR0.out x8_1 p633 q633
        cases e633
        replace hx633_0 := cl HB.out hx633_0
        replace hx633_1 := cl HB.out hx633_1
        replace hx633_2 := cl HB.out hx633_2
        replace hx633_3 := cl HB.out hx633_3
        replace hx633_4 := cl HB.out hx633_4
        replace hx633_5 := cl HB.out hx633_5
        have HR633_3 := aM hi633_3
        have HC633_3 := aM hl633_3
        clear hi633_3 hl633_3
        have HR633_4 := aM hi633_4
        have HC633_4 := aM hl633_4
        clear hi633_4 hl633_4
        replace p633 := eq_true p633
        replace q633 := eq_true q633
        go_wp2_with (first | ((with_reducible refine gate_dst (N := 5) rfl ?_); refine bx 5 #[.int .i64 0, .int .i64 0, .int .i64 0, .slice none 0 0, .slice none 0 0, .int .i64 0] 45 ?_; intro gb634 hg w8 hbox hb; have BK634 := aM (hbox); have GW634 := aM ((gz hg HB.out)); have IGW634 : Nonempty _ := ⟨GW634.out⟩; have GE634 := aM ((gz hg HB.out)); have IGE634 : Nonempty _ := ⟨GE634.out⟩; replace HB := aM (bj HB.out hb); clear hb hbox hg; obtain ⟨hcz9_0, hcz9_1, hcz9_2, hcz9_3, hcz9_4, hcz9_5, hfz9_0, hfz9_1, hfz9_2, hfz9_3, hfz9_4, hfz9_5⟩ := cf6 BK634.out) | ((with_reducible refine gate_callee (f := 45) rfl ?_); refine gL (some 13) Try.func45 #[.agg #[.int .i64 ((rd_T45 l0 x8_1).f0), .int .i64 ((rd_T45 l0 x8_1).f1), .int .i64 ((rd_T45 l0 x8_1).f2), .slice A633_3 ((rd_T45 l0 x8_1).f3.f0).length c633_3, .slice A633_4 ((rd_T45 l0 x8_1).f3.f1).length c633_4, .int .i64 ((rd_T45 l0 x8_1).f3.f2)]] ?_; (with_reducible refine (impl_ActLine_ok.calls k1 ((rd_T45 l0 x8_1).f0) ((rd_T45 l0 x8_1).f1) ((rd_T45 l0 x8_1).f2) _ _ ((rd_T45 l0 x8_1).f3.f0) _ _ ((rd_T45 l0 x8_1).f3.f1) ((rd_T45 l0 x8_1).f3.f2) true _ ?side1 ?side2 ?side3 ?side4 A5.out).mono ?_); (case side1 => exact Kd.C_below HR633_3.out (by exact jB HB.out)); (case side2 => exact HC633_3.out); (case side3 => exact Kd.C_below HR633_4.out (by exact jB HB.out)); (case side4 => exact HC633_4.out); rintro e w10 ⟨rfl, hb⟩; refine ⟨_, rfl, ?_⟩; replace BK634 := aM (blk_below (g := gb634) (o := .cells #[.int .i64 ((rd_T45 l0 x8_1).f0), .int .i64 ((rd_T45 l0 x8_1).f1), .int .i64 ((rd_T45 l0 x8_1).f2), .slice A633_3 ((rd_T45 l0 x8_1).f3.f0).length c633_3, .slice A633_4 ((rd_T45 l0 x8_1).f3.f1).length c633_4, .int .i64 ((rd_T45 l0 x8_1).f3.f2)] 45 (0, 0)) (by exact p6 (lK BK634.out)) hb); replace HB := aM (bj HB.out hb); (try clear hb); obtain ⟨hcz11_0, hcz11_1, hcz11_2, hcz11_3, hcz11_4, hcz11_5, hfz11_0, hfz11_1, hfz11_2, hfz11_3, hfz11_4, hfz11_5⟩ := cf6 BK634.out))
        go_roundg k1
        case measure => have := HK1.out; omega
        case rel => exact ⟨(wrap64 (x3_1 + 1)), (wrap64 (x8_1 + 1)), (by first | rfl | (simp; done) | (simp [*]; done)), (by first | rfl | (simp; done) | (simp [*]; done)), H', ⟨by have := HK1.out; omega⟩, ⟨by exact jB HB.out⟩⟩
       ·rw [if_neg c7] at H
        have c7b0 := beq_eq_false_iff_ne.mpr c7
        have c7b1 := bne_iff_ne.mpr c7
        have H' := aM H
        clear H
        have p633 : 0 ≤ (x8_1 : Int) := of_decide_eq_true (by first | (with_reducible assumption) | assumption)
        have q633 : x8_1 < (l0.length : Int) := of_decide_eq_true (by first | (with_reducible assumption) | assumption)
        obtain ⟨ad633, A633_3, c633_3, A633_4, c633_4, e633, hx633_0, hx633_1, hx633_2, hx633_3, hx633_4, hx633_5, hl633_3, hi633_3, hl633_4, hi633_4⟩ := at_T45 HR0.out x8_1 p633 q633
        cases e633
        replace hx633_0 := cl HB.out hx633_0
        replace hx633_1 := cl HB.out hx633_1
        replace hx633_2 := cl HB.out hx633_2
        replace hx633_3 := cl HB.out hx633_3
        replace hx633_4 := cl HB.out hx633_4
        replace hx633_5 := cl HB.out hx633_5
        have HR633_3 := aM hi633_3
        have HC633_3 := aM hl633_3
        clear hi633_3 hl633_3
        have HR633_4 := aM hi633_4
        have HC633_4 := aM hl633_4
        clear hi633_4 hl633_4
        replace p633 := eq_true p633
        replace q633 := eq_true q633
        go_wp2_with (first | ((with_reducible refine gate_dst (N := 5) rfl ?_); refine bx 5 #[.int .i64 0, .int .i64 0, .int .i64 0, .slice none 0 0, .slice none 0 0, .int .i64 0] 45 ?_; intro gb634 hg w12 hbox hb; have BK634 := aM (hbox); have GW634 := aM ((gz hg HB.out)); have IGW634 : Nonempty _ := ⟨GW634.out⟩; have GE634 := aM ((gz hg HB.out)); have IGE634 : Nonempty _ := ⟨GE634.out⟩; replace HB := aM (bj HB.out hb); clear hb hbox hg; obtain ⟨hcz13_0, hcz13_1, hcz13_2, hcz13_3, hcz13_4, hcz13_5, hfz13_0, hfz13_1, hfz13_2, hfz13_3, hfz13_4, hfz13_5⟩ := cf6 BK634.out) | ((with_reducible refine gate_callee (f := 45) rfl ?_); refine gL (some 13) Try.func45 #[.agg #[.int .i64 ((rd_T45 l0 x8_1).f0), .int .i64 ((rd_T45 l0 x8_1).f1), .int .i64 ((rd_T45 l0 x8_1).f2), .slice A633_3 ((rd_T45 l0 x8_1).f3.f0).length c633_3, .slice A633_4 ((rd_T45 l0 x8_1).f3.f1).length c633_4, .int .i64 ((rd_T45 l0 x8_1).f3.f2)]] ?_; (with_reducible refine (impl_ActLine_ok.calls k1 ((rd_T45 l0 x8_1).f0) ((rd_T45 l0 x8_1).f1) ((rd_T45 l0 x8_1).f2) _ _ ((rd_T45 l0 x8_1).f3.f0) _ _ ((rd_T45 l0 x8_1).f3.f1) ((rd_T45 l0 x8_1).f3.f2) true _ ?side1 ?side2 ?side3 ?side4 A5.out).mono ?_); (case side1 => exact Kd.C_below HR633_3.out (by exact jB HB.out)); (case side2 => exact HC633_3.out); (case side3 => exact Kd.C_below HR633_4.out (by exact jB HB.out)); (case side4 => exact HC633_4.out); rintro e w14 ⟨rfl, hb⟩; refine ⟨_, rfl, ?_⟩; replace BK634 := aM (blk_below (g := gb634) (o := .cells #[.int .i64 ((rd_T45 l0 x8_1).f0), .int .i64 ((rd_T45 l0 x8_1).f1), .int .i64 ((rd_T45 l0 x8_1).f2), .slice A633_3 ((rd_T45 l0 x8_1).f3.f0).length c633_3, .slice A633_4 ((rd_T45 l0 x8_1).f3.f1).length c633_4, .int .i64 ((rd_T45 l0 x8_1).f3.f2)] 45 (0, 0)) (by exact p6 (lK BK634.out)) hb); replace HB := aM (bj HB.out hb); (try clear hb); obtain ⟨hcz15_0, hcz15_1, hcz15_2, hcz15_3, hcz15_4, hcz15_5, hfz15_0, hfz15_1, hfz15_2, hfz15_3, hfz15_4, hfz15_5⟩ := cf6 BK634.out))
        go_roundg k1
        case measure => have := HK1.out; omega
        case rel => exact ⟨(x3_1), (wrap64 (x8_1 + 1)), (by first | rfl | (simp; done) | (simp [*]; done)), (by first | rfl | (simp; done) | (simp [*]; done)), H', ⟨by have := HK1.out; omega⟩, ⟨by exact jB HB.out⟩⟩
      ·replace c6 := Bool.eq_false_iff.mpr c6
       subst c6
       rw [if_neg nf] at H
       try dsimp only at H
       obtain rfl := Option.some.inj H
       have p633 : 0 ≤ (x8_1 : Int) := of_decide_eq_true (by first | (with_reducible assumption) | assumption)
       have q633 : x8_1 < (l0.length : Int) := of_decide_eq_true (by first | (with_reducible assumption) | assumption)
       obtain ⟨ad633, A633_3, c633_3, A633_4, c633_4, e633, hx633_0, hx633_1, hx633_2, hx633_3, hx633_4, hx633_5, hl633_3, hi633_3, hl633_4, hi633_4⟩ := at_T45 HR0.out x8_1 p633 q633
       cases e633
       replace hx633_0 := cl HB.out hx633_0
       replace hx633_1 := cl HB.out hx633_1
       replace hx633_2 := cl HB.out hx633_2
       replace hx633_3 := cl HB.out hx633_3
       replace hx633_4 := cl HB.out hx633_4
       replace hx633_5 := cl HB.out hx633_5
       have HR633_3 := aM hi633_3
       have HC633_3 := aM hl633_3
       clear hi633_3 hl633_3
       have HR633_4 := aM hi633_4
       have HC633_4 := aM hl633_4
       clear hi633_4 hl633_4
       replace p633 := eq_true p633
       replace q633 := eq_true q633
       go_wp2_with (first | ((with_reducible refine gate_dst (N := 5) rfl ?_); refine bx 5 #[.int .i64 0, .int .i64 0, .int .i64 0, .slice none 0 0, .slice none 0 0, .int .i64 0] 45 ?_; intro gb634 hg w16 hbox hb; have BK634 := aM (hbox); have GW634 := aM ((gz hg HB.out)); have IGW634 : Nonempty _ := ⟨GW634.out⟩; have GE634 := aM ((gz hg HB.out)); have IGE634 : Nonempty _ := ⟨GE634.out⟩; replace HB := aM (bj HB.out hb); clear hb hbox hg; obtain ⟨hcz17_0, hcz17_1, hcz17_2, hcz17_3, hcz17_4, hcz17_5, hfz17_0, hfz17_1, hfz17_2, hfz17_3, hfz17_4, hfz17_5⟩ := cf6 BK634.out) | ((with_reducible refine gate_callee (f := 45) rfl ?_); refine gL (some 13) Try.func45 #[.agg #[.int .i64 ((rd_T45 l0 x8_1).f0), .int .i64 ((rd_T45 l0 x8_1).f1), .int .i64 ((rd_T45 l0 x8_1).f2), .slice A633_3 ((rd_T45 l0 x8_1).f3.f0).length c633_3, .slice A633_4 ((rd_T45 l0 x8_1).f3.f1).length c633_4, .int .i64 ((rd_T45 l0 x8_1).f3.f2)]] ?_; (with_reducible refine (impl_ActLine_ok.calls k1 ((rd_T45 l0 x8_1).f0) ((rd_T45 l0 x8_1).f1) ((rd_T45 l0 x8_1).f2) _ _ ((rd_T45 l0 x8_1).f3.f0) _ _ ((rd_T45 l0 x8_1).f3.f1) ((rd_T45 l0 x8_1).f3.f2) false _ ?side1 ?side2 ?side3 ?side4 A5.out).mono ?_); (case side1 => exact Kd.C_below HR633_3.out (by exact jB HB.out)); (case side2 => exact HC633_3.out); (case side3 => exact Kd.C_below HR633_4.out (by exact jB HB.out)); (case side4 => exact HC633_4.out); rintro e w18 ⟨rfl, hb⟩; refine ⟨_, rfl, ?_⟩; replace BK634 := aM (blk_below (g := gb634) (o := .cells #[.int .i64 ((rd_T45 l0 x8_1).f0), .int .i64 ((rd_T45 l0 x8_1).f1), .int .i64 ((rd_T45 l0 x8_1).f2), .slice A633_3 ((rd_T45 l0 x8_1).f3.f0).length c633_3, .slice A633_4 ((rd_T45 l0 x8_1).f3.f1).length c633_4, .int .i64 ((rd_T45 l0 x8_1).f3.f2)] 45 (0, 0)) (by exact p6 (lK BK634.out)) hb); replace HB := aM (bj HB.out hb); (try clear hb)))
       go_ret
       exact ⟨er, by exact jB HB.out⟩
     ·rw [if_neg c4] at H
      exact absurd H (by simp)
    ·rw [if_neg c3] at H
     exact absurd H (by simp)
   ·rw [if_neg c2] at H
    have c2b0 := decide_eq_false c2
    clear c2
    by_cases c19 : (l0.length : Int) ≤ 6
    ·rw [if_pos c19] at H
     have c19b0 := decide_eq_true c19
     have c19b1 : decide (l0.length ≤ 6) = true := decide_eq_true (by omega)
     clear c19
     obtain rfl := Option.some.inj H
     go_wp2
     go_ret
     exact ⟨er, by exact lB HB.out⟩
    ·rw [if_neg c19] at H
     have c19b0 := decide_eq_false c19
     have c19b1 : decide (l0.length ≤ 6) = false := decide_eq_false (by omega)
     clear c19
     obtain rfl := Option.some.inj H
     go_wp2
     go_ret
     exact ⟨er, by exact lB HB.out⟩

-- NOT PRINTED: function 49 (impl_CatOk_1)

/-! ### impl_CatOk: function 24, by hand -/
def withinB (l : List Int) (n m : Int) : Bool := decide ((l.length : Int) = n) && !(l.any fun x => !inB x (wrap64 (-m)) m)
theorem within_calls (A : Option Addr) (c : Nat) (l : List Int) (n m : Int) (w : World) (hr : Kd.C (Kd.int .i64) w A l.length l) (hc : l.length ≤ c) :
  Calls Try.prog 25 #[.slice A l.length c, .int .i64 n, .int .i64 m] w fun e w' => e = .returned (.bool (withinB l n m)) ∧ Below w.heap.size w w' := impl_within.calls A c l n m _ w hr hc rfl
theorem in_calls (a lo hi : Int) (w : World) : Calls Try.prog 23 #[.int .i64 a, .int .i64 lo, .int .i64 hi] w fun e w' => e = .returned (.bool (inB a lo hi)) ∧ Drawn0 w w' := impl_in.calls a lo hi _ w (in_inB _ _ _)
set_option maxHeartbeats 1000000 in
theorem idx_acts (q : List (S45) → Bool) (g : Nat) (lb : Array Value) (eg : ∀ args w, (callFunc g args).run Try.prog w = .ok (.enter g args) w) (A0 : Option Addr) (c0 : Nat) (xs : List (List (S45))) (w : World)
  (hr : Kd.C (Kd.slice 45 k45) w A0 xs.length xs) (hp : ∀ x, x ∈ xs → ∀ (W : World) (A : Option Addr) (c : Nat), Below w.heap.size w W → x.length ≤ c → Kd.C k45 W A x.length x → Calls Try.prog g (#[.slice A x.length c] ++ lb) W fun e w' => e = .returned (.bool (q x)) ∧ Below W.heap.size W w') :
  Calls Try.prog 61 #[.slice A0 xs.length c0, .func (.func g) #[] lb] w fun e w' => e = .returned (.int .i64 (idxOf q xs)) ∧ Below w.heap.size w w' := by
 have hm := Kd.C_max hr
 have HR := aM hr
 have HP := aM hp
 clear hr hp
 go_enter Try.func61, Try.ntmps61
 go_wp2
 go_loopg [5, 8] xs.length (fun gg _ s8 wr => ∃ x : Int, s8 = .int .i64 x ∧ Aside0 (0 ≤ x ∧ x ≤ xs.length ∧ (xs.length : Int) - x ≤ gg) ∧ Aside0 (Below w.heap.size w wr) ∧ Aside0 (∀ j : Int, 0 ≤ j → j < x → q (xs.getD j.toNat ([] : List (S45))) = false))
 case atStart => exact ⟨0, rfl, ⟨by omega, by omega, by omega⟩, ⟨Below.refl _ _⟩, ⟨fun j h0 h1 => by omega⟩⟩
 case round =>
  obtain ⟨x, rfl, HX, HB, HN⟩ := hrel
  have p1 := HX.out.1
  by_cases hlt : x < (xs.length : Int)
  ·obtain ⟨ad, A1, c1, e1, hx, hl1, hi1⟩ := at_L5 (Kd.C_below HR.out HB.out) x p1 hlt
   cases e1
   have hcall := HP.out (rd_L5 xs x) (mem_rd ([] : List (S45)) xs x p1 hlt) _ A1 c1 HB.out hl1 hi1
   cases hq : q (rd_L5 xs x) with
   | true =>
    rw [hq] at hcall
    have HQ := aM hq
    clear hq
    have HC := aM hcall
    clear hcall
    go_wp2_with (go_at_fn g; refine HC.out.mono ?_; rintro e w' ⟨rfl, hb⟩)
    go_ret
    refine ⟨?_, below_then HB.out HB.out.size hb⟩
    rw [idxOf_hit ([] : List (S45)) x p1 hlt HQ.out HN.out]
    rfl
   | false =>
    rw [hq] at hcall
    have HQ := aM hq
    clear hq
    have HC := aM hcall
    clear hcall
    go_wp2_with (go_at_fn g; refine HC.out.mono ?_; rintro e w' ⟨rfl, hb⟩)
    go_roundg (xs.length - (x.toNat + 1))
    case measure => have := HX.out; omega
    case rel =>
     refine ⟨x + 1, by go_num, ⟨by have := HX.out; omega, by have := HX.out; omega, by have := HX.out; omega⟩, ⟨below_then HB.out HB.out.size hb⟩, ⟨fun j h0 h1 => ?_⟩⟩
     by_cases e : j = x
     ·subst e; exact HQ.out
     ·exact HN.out j h0 (by omega)
  ·go_wp2
   go_ret
   refine ⟨?_, HB.out⟩
   rw [idxOf_miss ([] : List (S45)) (fun j h0 h1 => HN.out j h0 (by have := HX.out; omega))]
   rfl
set_option maxHeartbeats 1000000 in
theorem has_acts (q : List (S45) → Bool) (g : Nat) (lb : Array Value) (eg : ∀ args w, (callFunc g args).run Try.prog w = .ok (.enter g args) w) (A0 : Option Addr) (c0 : Nat) (xs : List (List (S45))) (w : World)
  (hr : Kd.C (Kd.slice 45 k45) w A0 xs.length xs) (hp : ∀ x, x ∈ xs → ∀ (W : World) (A : Option Addr) (c : Nat), Below w.heap.size w W → x.length ≤ c → Kd.C k45 W A x.length x → Calls Try.prog g (#[.slice A x.length c] ++ lb) W fun e w' => e = .returned (.bool (q x)) ∧ Below W.heap.size W w') :
  Calls Try.prog 48 #[.slice A0 xs.length c0, .func (.func g) #[] lb] w fun e w' => e = .returned (.bool (xs.any q)) ∧ Below w.heap.size w w' := by
 have HC := aM (idx_acts q g lb eg A0 c0 xs w hr hp)
 rw [← idxOf_any q xs]
 generalize idxOf q xs = n at HC
 clear hr hp
 go_enter Try.func48, Try.ntmps48
 go_wp2_with (go_at_call 61; refine HC.out.mono ?_; rintro e w' ⟨rfl, hb⟩)
 go_ret
 exact ⟨rfl, hb⟩
def actO (x : List (S45)) : Option Bool := impl_ActOk.f (x.length + 10) x
set_option maxHeartbeats 1000000 in
theorem cat_pred (W : World) (A : Option Addr) (c : Nat) (x : List (S45)) (hs : (actO x).isSome = true) (hc : x.length ≤ c) (hr : Kd.C k45 W A x.length x) : Calls Try.prog 49 (#[.slice A x.length c] ++ #[]) W fun e w' => e = .returned (.bool (!(actO x).getD false)) ∧ Below W.heap.size W w' := by
 show Calls Try.prog 49 #[.slice A x.length c] W _
 obtain ⟨b, hb⟩ := Option.isSome_iff_exists.mp hs
 rw [hb]
 have HC := aM (impl_ActOk.calls (x.length + 10) A c x b W hr hc hb)
 clear hr hs hb
 go_enter Try.func49, Try.ntmps49
 go_wp2_with (go_at_call 17; refine HC.out.mono ?_; rintro e w' ⟨rfl, hb⟩)
 go_ret
 exact ⟨rfl, hb⟩
def impl_CatOk.f (l0 : List (List (S45))) : Option (Bool) := if l0.all (fun x => (actO x).isSome) = true then some (inB (l0.length : Int) 1 4 && !(l0.any fun x => !(actO x).getD false)) else none
theorem impl_CatOk.calls (A0 : Option Addr) (c0 : Nat) (l0 : List (List (S45))) (r : Bool) (w : World) (hr0 : Kd.C (Kd.slice 45 k45) w A0 l0.length l0) (hc0 : l0.length ≤ c0) (h : impl_CatOk.f l0 = some r) :
  Calls Try.prog 24 #[.slice A0 l0.length c0] w fun e w' => e = .returned (.bool r) ∧ Below w.heap.size w w' := by
 unfold impl_CatOk.f at h
 by_cases hA : l0.all (fun x => (actO x).isSome) = true
 case neg => rw [if_neg hA] at h; exact absurd h (by simp)
 case pos =>
  rw [if_pos hA] at h
  obtain rfl := Option.some.inj h
  clear h
  have eg : ∀ args w, (callFunc 49 args).run Try.prog w = .ok (.enter 49 args) w := enters_of Try.func49 (by kernel_rfl) rfl
  have hm := Kd.C_max hr0
  have HI := aM (fun (W : World) => in_calls (l0.length : Int) 1 4 W)
  have HC := aM (fun (W : World) (hb : Below w.heap.size w W) => has_acts (fun x => !(actO x).getD false) 49 #[] eg A0 c0 l0 W (Kd.C_below hr0 hb) (fun x hx W A c _ hl hi => cat_pred W A c x (List.all_eq_true.mp hA x hx) hl hi))
  clear hr0 hA
  generalize inB (l0.length : Int) 1 4 = b2 at HI ⊢
  generalize l0.any (fun x => !(actO x).getD false) = b3 at HC ⊢
  have HB0 := aM (Below.refl w.heap.size w)
  cases b2
  all_goals
   go_enter Try.func24, Try.ntmps24
   go_wp2_with (first
    | (go_at_call 23; refine (HI.out _).mono ?_; rintro e w2 ⟨rfl, ⟨n2, rfl⟩⟩)
    | (go_at_call 48; refine (HC.out _ (pw_below_drewN HB0.out _)).mono ?_; rintro e w3 ⟨rfl, hb3⟩; have HB3 := aM (below_then (pw_below_drewN HB0.out _) (pw_below_drewN HB0.out _).size hb3); clear hb3))
   go_ret
   exact ⟨by simp, by first | exact HB3.out | exact pw_below_drewN HB0.out _⟩

/-! ### impl_ValOk: function 36 -/
def impl_ValOk.f (l0 : List Int) : Option (Bool) := (impl_within.f l0 3 10000).bind fun t636 => (some t636)
theorem impl_ValOk.calls (A0 : Option Addr) (c0 : Nat) (l0 : List Int) (r : Bool) (w : World) (hr0 : Kd.C (Kd.int .i64) w A0 l0.length l0) (hc0 : l0.length ≤ c0) (h : impl_ValOk.f l0 = some r) :
  Calls Try.prog 36 #[.slice A0 l0.length c0] w fun e w' => e = .returned (.bool r) ∧ Below w.heap.size w w' := by
 have HR0 := aM hr0
 have HC0 := aM hc0
 clear hr0 hc0
 have HB := aM (Below.refl w.heap.size w)
 have H : ((impl_within.f l0 3 10000).bind fun t636 => (some t636)) = some r := h
 clear h
 obtain ⟨t636, A2, H⟩ := bS H
 try dsimp only at H
 obtain rfl := Option.some.inj H
 go_enter Try.func36, Try.ntmps36
 go_wp2_with (first | ((with_reducible refine gate_callee (f := 25) rfl ?_); refine gL (some 4) Try.func25 #[.slice A0 l0.length c0, .int .i64 3, .int .i64 10000] ?_; (with_reducible refine (impl_within.calls _ _ l0 3 10000 t636 _ ?side1 ?side2 A2.out).mono ?_); (case side1 => exact lC HR0.out); (case side2 => exact HC0.out); rintro e w3 ⟨rfl, hb⟩; refine ⟨_, rfl, ?_⟩; replace HB := aM (bj HB.out hb); (try clear hb)))
 go_ret
 exact ⟨er, by exact lB HB.out⟩

-- NOT PRINTED: function 52 (impl_TrtOk_1)

/-! ### impl_TrtOk: function 26, by hand -/
theorem val_calls (A : Option Addr) (c : Nat) (l : List Int) (w : World) (hr : Kd.C (Kd.int .i64) w A l.length l) (hc : l.length ≤ c) :
  Calls Try.prog 36 #[.slice A l.length c] w fun e w' => e = .returned (.bool (withinB l 3 10000)) ∧ Below w.heap.size w w' := impl_ValOk.calls A c l _ w hr hc rfl
set_option maxHeartbeats 1000000 in
theorem trt_pred (W : World) (x : Int) : Calls Try.prog 52 (#[.int .i64 x] ++ #[]) W fun e w' => e = .returned (.bool (!inB x 0 50)) ∧ Below W.heap.size W w' := by
 show Calls Try.prog 52 #[.int .i64 x] W _
 have HC := aM (in_calls x 0 50 W)
 generalize inB x 0 50 = b at HC ⊢
 go_enter Try.func52, Try.ntmps52
 go_wp2_with (go_at_call 23; refine HC.out.mono ?_; rintro e w' ⟨rfl, hb⟩)
 go_ret
 exact ⟨rfl, hb.below⟩
def impl_TrtOk.f (l0_0 : List Int) (l0_1 : List Int) : Option (Bool) := some (withinB l0_0 3 10000 && (inB (l0_1.length : Int) 1 3 && !(l0_1.any fun x => !inB x 0 50)))
theorem impl_TrtOk.calls (A0_0 : Option Addr) (c0_0 : Nat) (l0_0 : List Int) (A0_1 : Option Addr) (c0_1 : Nat) (l0_1 : List Int) (r : Bool) (w : World) (hr0_0 : Kd.C (Kd.int .i64) w A0_0 l0_0.length l0_0) (hc0_0 : l0_0.length ≤ c0_0) (hr0_1 : Kd.C (Kd.int .i64) w A0_1 l0_1.length l0_1) (hc0_1 : l0_1.length ≤ c0_1) (h : impl_TrtOk.f l0_0 l0_1 = some r) :
  Calls Try.prog 26 #[.agg #[.slice A0_0 l0_0.length c0_0, .slice A0_1 l0_1.length c0_1]] w fun e w' => e = .returned (.bool r) ∧ Below w.heap.size w w' := by
 obtain rfl := Option.some.inj h
 clear h
 have eg : ∀ args w, (callFunc 52 args).run Try.prog w = .ok (.enter 52 args) w := enters_of Try.func52 (by kernel_rfl) rfl
 have hm := Kd.C_max hr0_1
 have HV := aM (fun (W : World) (hb : Below w.heap.size w W) => val_calls A0_0 c0_0 l0_0 W (Kd.C_below hr0_0 hb) hc0_0)
 have HI := aM (fun (W : World) => in_calls (l0_1.length : Int) 1 3 W)
 have HC := aM (fun (W : World) (hb : Below w.heap.size w W) => has_ints (fun x => !inB x 0 50) 52 #[] eg A0_1 c0_1 l0_1 W (Kd.C_below hr0_1 hb) (fun x _ W _ => trt_pred W x))
 clear hr0_0 hr0_1
 generalize withinB l0_0 3 10000 = b1 at HV ⊢
 generalize inB (l0_1.length : Int) 1 3 = b2 at HI ⊢
 generalize l0_1.any (fun x => !inB x 0 50) = b3 at HC ⊢
 have B0 : Below w.heap.size w (w.alloc (.cells #[.slice A0_0 l0_0.length c0_0, .slice A0_1 l0_1.length c0_1] 57)) := below_alloc (Below.refl _ _) _
 have HB0 := aM B0
 clear B0
 cases b1 <;> cases b2
 all_goals
  go_enter Try.func26, Try.ntmps26
  go_wp2_with (first
   | (go_at_call 36; refine (HV.out _ HB0.out).mono ?_; rintro e w1 ⟨rfl, hb1⟩; have hx1 : w1.cell? ⟨w.heap.size, 1, none⟩ = some (.slice A0_1 l0_1.length c0_1) := (hb1.cell (p := ⟨w.heap.size, 1, none⟩) (by simp)).trans (by simp); have HB1 := aM (below_then HB0.out HB0.out.size hb1); clear hb1)
   | (go_at_call 23; refine (HI.out _).mono ?_; rintro e w2 ⟨rfl, ⟨n2, rfl⟩⟩)
   | (go_at_call 50; refine (HC.out _ (pw_below_drewN HB1.out _)).mono ?_; rintro e w3 ⟨rfl, hb3⟩; have HB3 := aM (below_then (pw_below_drewN HB1.out _) (pw_below_drewN HB1.out _).size hb3); clear hb3))
  go_ret
  exact ⟨by simp, by first | exact HB3.out | exact pw_below_drewN HB1.out _ | exact HB1.out⟩

/-! ### impl_PlnPlan_treaty: function 27 -/
/-! ### impl_PlnOk: function 9, by hand -/
theorem put2 {w : World} {g T : Nat} {a b x y : Value} (h : w.heap[g]? = some (.cells #[a, b] T (0, 0))) :
  ((w.setCell ⟨g, 0, none⟩ x).setCell ⟨g, 1, none⟩ y).heap[g]? = some (.cells #[x, y] T (0, 0)) :=
 blk_put (cs := #[x, b]) (blk_put (cs := #[a, b]) h 0 _ rfl) 1 _ rfl
theorem below_put2 {B : Nat} {w0 w : World} {g : Nat} {x y : Value} (h : Below B w0 w) (hg : B ≤ g) : Below B w0 ((w.setCell ⟨g, 0, none⟩ x).setCell ⟨g, 1, none⟩ y) :=
 (h.setCell (p := ⟨g, 0, none⟩) hg _).setCell (p := ⟨g, 1, none⟩) hg _
set_option maxHeartbeats 1000000 in
theorem treaty_calls (a : Int) (w : World) (A1 A2 A3 B : Option Addr) (n1 n2 n3 m c1 c2 c3 c : Nat) :
  Calls Try.prog 27 #[.agg #[.int .i64 a, .slice A1 n1 c1, .slice A2 n2 c2, .slice A3 n3 c3], .slice B m c] w fun e w' => e = .returned (.agg #[.slice B m c, .slice A2 n2 c2]) ∧ Below w.heap.size w w' := by
 have hu1 := Try.underlying26
 have hu2 := Try.underlying57
 have HBw := aM (Below.refl w.heap.size w)
 go_enter Try.func27, Try.ntmps27
 go_wp2_with (first
  | ((with_reducible refine gate_dst (N := 2) rfl ?_); refine bx 2 #[.int .i64 a, .slice A1 n1 c1, .slice A2 n2 c2, .slice A3 n3 c3] 26 ?_; intro G1 hG w1 hbox hb; have B1 := aM hbox; have n3 := aM (below_then HBw.out HBw.out.size hb); clear HBw hbox hb hG; have HBw := n3; clear n3)
  | ((with_reducible refine gate_dst (N := 4) rfl ?_); refine bx 4 #[.slice none 0 0, .slice none 0 0] 57 ?_; intro G2 hG w2 hbox hb; have B2 := aM hbox; have NE := aM (show G2 ≠ G1 by rw [hG]; exact Nat.ne_of_gt (blk_lt B1.out)); have GE2 := aM (show w.heap.size ≤ G2 by rw [hG]; exact HBw.out.size); have IGE2 : Nonempty _ := ⟨GE2.out⟩; have n1 := aM (blk_below B1.out hb); have n3 := aM (below_then HBw.out HBw.out.size hb); clear HBw B1 hbox hb hG; have HBw := n3; have B1 := n1; clear n1 n3; have ha2 : w2.cell? ⟨G1, 2, none⟩ = some (.slice A2 n2 c2) := (blk_cell B1.out 2).trans rfl; obtain ⟨hd0, hd1, hz0, hz1⟩ := cf2 B2.out))
 refine bodyPost_ret (results_cell_row rfl _ _ G2 57 #[.slice B m c, .slice A2 n2 c2] (0, 0) _ rfl (put2 B2.out) Try.underlying57 rfl (by kernel_rfl)) rfl ?_
 exact ⟨rfl, below_put2 HBw.out GE2.out⟩
def impl_PlnOk.f (a0_0 : Int) (l0_1 : List (List (S45))) (l0_2 : List Int) (l0_3 : List Int) : Option (Bool) := (impl_CatOk.f l0_1).bind fun b2 => (impl_TrtOk.f l0_3 l0_2).bind fun b4 => some (inB a0_0 1 4 && (b2 && (withinB l0_3 3 1000 && b4)))
theorem impl_PlnOk.calls (a0_0 : Int) (A0_1 : Option Addr) (c0_1 : Nat) (l0_1 : List (List (S45))) (A0_2 : Option Addr) (c0_2 : Nat) (l0_2 : List Int) (A0_3 : Option Addr) (c0_3 : Nat) (l0_3 : List Int) (r : Bool) (w : World) (hr0_1 : Kd.C (Kd.slice 45 k45) w A0_1 l0_1.length l0_1) (hc0_1 : l0_1.length ≤ c0_1) (hr0_2 : Kd.C (Kd.int .i64) w A0_2 l0_2.length l0_2) (hc0_2 : l0_2.length ≤ c0_2) (hr0_3 : Kd.C (Kd.int .i64) w A0_3 l0_3.length l0_3) (hc0_3 : l0_3.length ≤ c0_3) (h : impl_PlnOk.f a0_0 l0_1 l0_2 l0_3 = some r) :
  Calls Try.prog 9 #[.agg #[.int .i64 a0_0, .slice A0_1 l0_1.length c0_1, .slice A0_2 l0_2.length c0_2, .slice A0_3 l0_3.length c0_3]] w fun e w' => e = .returned (.bool r) ∧ Below w.heap.size w w' := by
 unfold impl_PlnOk.f at h
 obtain ⟨b2, h2, h⟩ := Option.bind_eq_some_iff.mp h
 obtain ⟨b4, h4, h⟩ := Option.bind_eq_some_iff.mp h
 obtain rfl := Option.some.inj h
 clear h
 have hu1 := Try.underlying26
 have HI := aM (fun (W : World) => in_calls a0_0 1 4 W)
 have HC := aM (fun (W : World) (hb : Below w.heap.size w W) => impl_CatOk.calls A0_1 c0_1 l0_1 b2 W (Kd.C_below hr0_1 hb) hc0_1 h2)
 have HW := aM (fun (W : World) (hb : Below w.heap.size w W) => within_calls A0_3 c0_3 l0_3 3 1000 W (Kd.C_below hr0_3 hb) hc0_3)
 have HT := aM (fun (W : World) (hb : Below w.heap.size w W) => impl_TrtOk.calls A0_3 c0_3 l0_3 A0_2 c0_2 l0_2 b4 W (Kd.C_below hr0_3 hb) hc0_3 (Kd.C_below hr0_2 hb) hc0_2 h4)
 have HR := aM (fun (W : World) => treaty_calls a0_0 W A0_1 A0_2 A0_3 A0_3 l0_1.length l0_2.length l0_3.length l0_3.length c0_1 c0_2 c0_3 c0_3)
 have HB0 := aM (below_alloc (Below.refl w.heap.size w) (.cells #[.int .i64 a0_0, .slice A0_1 l0_1.length c0_1, .slice A0_2 l0_2.length c0_2, .slice A0_3 l0_3.length c0_3] 26))
 clear hr0_1 hr0_2 hr0_3 h2 h4
 generalize inB a0_0 1 4 = b1 at HI ⊢
 generalize withinB l0_3 3 1000 = b3 at HW ⊢
 cases b1 <;> cases b2 <;> cases b3
 all_goals
  go_enter Try.func9, Try.ntmps9
  go_wp2_with (first
   | (go_at_call 23; refine (HI.out _).mono ?_; rintro e w1 ⟨rfl, ⟨n1, rfl⟩⟩)
   | (go_at_call 24; refine (HC.out _ (pw_below_drewN HB0.out _)).mono ?_; rintro e w2 ⟨rfl, hb2⟩; have hxw20 : w2.cell? ⟨w.heap.size, 0, none⟩ = some (.int .i64 a0_0) := (hb2.cell (p := ⟨w.heap.size, 0, none⟩) (by simp)).trans (by simp); have hxw21 : w2.cell? ⟨w.heap.size, 1, none⟩ = some (.slice A0_1 l0_1.length c0_1) := (hb2.cell (p := ⟨w.heap.size, 1, none⟩) (by simp)).trans (by simp); have hxw22 : w2.cell? ⟨w.heap.size, 2, none⟩ = some (.slice A0_2 l0_2.length c0_2) := (hb2.cell (p := ⟨w.heap.size, 2, none⟩) (by simp)).trans (by simp); have hxw23 : w2.cell? ⟨w.heap.size, 3, none⟩ = some (.slice A0_3 l0_3.length c0_3) := (hb2.cell (p := ⟨w.heap.size, 3, none⟩) (by simp)).trans (by simp); have HB2 := aM (below_then (pw_below_drewN HB0.out _) (pw_below_drewN HB0.out _).size hb2); clear hb2)
   | (go_at_call 25; refine (HW.out _ HB2.out).mono ?_; rintro e w3 ⟨rfl, hb3⟩; have hsz := HB2.out.size; have hxw30 := (hb3.cell (p := ⟨w.heap.size, 0, none⟩) (World.block_lt_of_cell? _ _ hxw20)).trans hxw20; have hxw31 := (hb3.cell (p := ⟨w.heap.size, 1, none⟩) (World.block_lt_of_cell? _ _ hxw21)).trans hxw21; have hxw32 := (hb3.cell (p := ⟨w.heap.size, 2, none⟩) (World.block_lt_of_cell? _ _ hxw22)).trans hxw22; have hxw33 := (hb3.cell (p := ⟨w.heap.size, 3, none⟩) (World.block_lt_of_cell? _ _ hxw23)).trans hxw23; have HB3 := aM (below_then HB2.out HB2.out.size hb3); clear hb3)
   | (go_at_call 27; refine (HR.out _).mono ?_; rintro e w4 ⟨rfl, hb4⟩; have HB4 := aM (below_then HB3.out HB3.out.size hb4); clear hb4)
   | (go_at_call 26; refine (HT.out _ HB4.out).mono ?_; rintro e w5 ⟨rfl, hb5⟩; have HB5 := aM (below_then HB4.out HB4.out.size hb5); clear hb5))
  go_ret
  exact ⟨by simp, by first | exact HB5.out | exact HB3.out | exact HB2.out | exact pw_below_drewN HB0.out _⟩

/-! ### impl_PlnPlan_isClient: function 21 -/
def impl_PlnPlan_isClient.f (a0_0 : Int) (l0_1 : List (List (S45))) (l0_2 : List Int) (l0_3 : List Int) (a1 : Int) : Option (Bool) := (impl_in.f a1 0 (wrap64 (a0_0 - 1))).bind fun t640 => (some t640)
theorem impl_PlnPlan_isClient.calls (a0_0 : Int) (A0_1 : Option Addr) (c0_1 : Nat) (l0_1 : List (List (S45))) (A0_2 : Option Addr) (c0_2 : Nat) (l0_2 : List Int) (A0_3 : Option Addr) (c0_3 : Nat) (l0_3 : List Int) (a1 : Int) (r : Bool) (w : World) (hr0_1 : Kd.C (Kd.slice 45 k45) w A0_1 l0_1.length l0_1) (hc0_1 : l0_1.length ≤ c0_1) (hr0_2 : Kd.C (Kd.int .i64) w A0_2 l0_2.length l0_2) (hc0_2 : l0_2.length ≤ c0_2) (hr0_3 : Kd.C (Kd.int .i64) w A0_3 l0_3.length l0_3) (hc0_3 : l0_3.length ≤ c0_3) (h : impl_PlnPlan_isClient.f a0_0 l0_1 l0_2 l0_3 a1 = some r) :
  Calls Try.prog 21 #[.agg #[.int .i64 a0_0, .slice A0_1 l0_1.length c0_1, .slice A0_2 l0_2.length c0_2, .slice A0_3 l0_3.length c0_3], .int .i64 a1] w fun e w' => e = .returned (.bool r) ∧ Below w.heap.size w w' := by
 have hu26 := Try.underlying26
 have HR0_1 := aM hr0_1
 have HC0_1 := aM hc0_1
 clear hr0_1 hc0_1
 have HR0_2 := aM hr0_2
 have HC0_2 := aM hc0_2
 clear hr0_2 hc0_2
 have HR0_3 := aM hr0_3
 have HC0_3 := aM hc0_3
 clear hr0_3 hc0_3
 have HB := aM (Below.refl w.heap.size w)
 have H : ((impl_in.f a1 0 (wrap64 (a0_0 - 1))).bind fun t640 => (some t640)) = some r := h
 clear h
 obtain ⟨t640, A3, H⟩ := bS H
 try dsimp only at H
 obtain rfl := Option.some.inj H
 go_enter Try.func21, Try.ntmps21
 go_wp2_with (first | ((with_reducible refine gate_dst (N := 2) rfl ?_); refine bx 2 #[.int .i64 a0_0, .slice A0_1 l0_1.length c0_1, .slice A0_2 l0_2.length c0_2, .slice A0_3 l0_3.length c0_3] 26 ?_; intro gb639 hg w4 hbox hb; have BK639 := aM (hbox); have GW639 := aM ((gz hg HB.out)); have IGW639 : Nonempty _ := ⟨GW639.out⟩; have GE639 := aM ((gz hg HB.out)); have IGE639 : Nonempty _ := ⟨GE639.out⟩; replace HB := aM (bj HB.out hb); clear hb hbox hg; have hcz5_0 : w4.cell? ⟨gb639, 0, none⟩ = some (.int .i64 a0_0) := (blk_cell BK639.out 0).trans rfl; have hcz5_1 : w4.cell? ⟨gb639, 1, none⟩ = some (.slice A0_1 l0_1.length c0_1) := (blk_cell BK639.out 1).trans rfl; have hcz5_2 : w4.cell? ⟨gb639, 2, none⟩ = some (.slice A0_2 l0_2.length c0_2) := (blk_cell BK639.out 2).trans rfl; have hcz5_3 : w4.cell? ⟨gb639, 3, none⟩ = some (.slice A0_3 l0_3.length c0_3) := (blk_cell BK639.out 3).trans rfl; have hfz5_0 := blk_frozen BK639.out 0; have hfz5_1 := blk_frozen BK639.out 1; have hfz5_2 := blk_frozen BK639.out 2; have hfz5_3 := blk_frozen BK639.out 3) | ((with_reducible refine gate_callee (f := 23) rfl ?_); refine gL (some 9) Try.func23 #[.int .i64 a1, .int .i64 0, .int .i64 (wrap64 (a0_0 - 1))] ?_; (with_reducible refine (impl_in.calls a1 0 (wrap64 (a0_0 - 1)) t640 _ A3.out).mono ?_); rintro e w' ⟨rfl, ⟨nd, rfl⟩⟩; refine ⟨_, rfl, ?_⟩))
 go_ret
 exact ⟨er, by exact jB HB.out⟩

/-! ### impl_PlnHome: function 7 -/
def impl_PlnHome.f (a0_0 : Int) (l0_1 : List (List (S45))) (l0_2 : List Int) (l0_3 : List Int) (a1 : Int) : Option (Int) := (impl_PlnOk.f a0_0 l0_1 l0_2 l0_3).bind fun t642 => (if t642 = true then ((impl_PlnPlan_isClient.f a0_0 l0_1 l0_2 l0_3 a1).bind fun t643 => (if t643 = true then (if (l0_2.length : Int) = 0 then (none) else (some (Int.tmod a1 (l0_2.length : Int)))) else (some (-1)))) else (some (-1)))
theorem impl_PlnHome.calls (a0_0 : Int) (A0_1 : Option Addr) (c0_1 : Nat) (l0_1 : List (List (S45))) (A0_2 : Option Addr) (c0_2 : Nat) (l0_2 : List Int) (A0_3 : Option Addr) (c0_3 : Nat) (l0_3 : List Int) (a1 : Int) (r : Int) (w : World) (hr0_1 : Kd.C (Kd.slice 45 k45) w A0_1 l0_1.length l0_1) (hc0_1 : l0_1.length ≤ c0_1) (hr0_2 : Kd.C (Kd.int .i64) w A0_2 l0_2.length l0_2) (hc0_2 : l0_2.length ≤ c0_2) (hr0_3 : Kd.C (Kd.int .i64) w A0_3 l0_3.length l0_3) (hc0_3 : l0_3.length ≤ c0_3) (h : impl_PlnHome.f a0_0 l0_1 l0_2 l0_3 a1 = some r) :
  Calls Try.prog 7 #[.agg #[.int .i64 a0_0, .slice A0_1 l0_1.length c0_1, .slice A0_2 l0_2.length c0_2, .slice A0_3 l0_3.length c0_3], .int .i64 a1] w fun e w' => e = .returned (.int .i64 r) ∧ Below w.heap.size w w' := by
 have hu26 := Try.underlying26
 have HR0_1 := aM hr0_1
 have HC0_1 := aM hc0_1
 clear hr0_1 hc0_1
 have HR0_2 := aM hr0_2
 have HC0_2 := aM hc0_2
 clear hr0_2 hc0_2
 have HR0_3 := aM hr0_3
 have HC0_3 := aM hc0_3
 clear hr0_3 hc0_3
 have HB := aM (Below.refl w.heap.size w)
 have H : ((impl_PlnOk.f a0_0 l0_1 l0_2 l0_3).bind fun t642 => (if t642 = true then ((impl_PlnPlan_isClient.f a0_0 l0_1 l0_2 l0_3 a1).bind fun t643 => (if t643 = true then (if (l0_2.length : Int) = 0 then (none) else (some (Int.tmod a1 (l0_2.length : Int)))) else (some (-1)))) else (some (-1)))) = some r := h
 clear h
 obtain ⟨t642, A3, H⟩ := bS H
 try dsimp only at H
 by_cases c4 : t642 = true
 ·subst c4
  rw [if_pos rfl] at H
  try dsimp only at H
  obtain ⟨t643, A5, H⟩ := bS H
  try dsimp only at H
  by_cases c6 : t643 = true
  ·subst c6
   rw [if_pos rfl] at H
   try dsimp only at H
   by_cases c7 : (l0_2.length : Int) = 0
   ·rw [if_pos c7] at H
    exact absurd H (by simp)
   ·rw [if_neg c7] at H
    have c7b0 := beq_eq_false_iff_ne.mpr c7
    have c7b1 := bne_iff_ne.mpr c7
    have c7b2 : ¬ (l0_2 = []) := fun h_ => c7 (by rw [h_]; rfl)
    obtain rfl := Option.some.inj H
    go_enter Try.func7, Try.ntmps7
    go_wp2_with (first | ((with_reducible refine gate_dst (N := 2) rfl ?_); refine bx 2 #[.int .i64 a0_0, .slice A0_1 l0_1.length c0_1, .slice A0_2 l0_2.length c0_2, .slice A0_3 l0_3.length c0_3] 26 ?_; intro gb641 hg w8 hbox hb; have BK641 := aM (hbox); have GW641 := aM ((gz hg HB.out)); have IGW641 : Nonempty _ := ⟨GW641.out⟩; have GE641 := aM ((gz hg HB.out)); have IGE641 : Nonempty _ := ⟨GE641.out⟩; replace HB := aM (bj HB.out hb); clear hb hbox hg; have hcz9_0 : w8.cell? ⟨gb641, 0, none⟩ = some (.int .i64 a0_0) := (blk_cell BK641.out 0).trans rfl; have hcz9_1 : w8.cell? ⟨gb641, 1, none⟩ = some (.slice A0_1 l0_1.length c0_1) := (blk_cell BK641.out 1).trans rfl; have hcz9_2 : w8.cell? ⟨gb641, 2, none⟩ = some (.slice A0_2 l0_2.length c0_2) := (blk_cell BK641.out 2).trans rfl; have hcz9_3 : w8.cell? ⟨gb641, 3, none⟩ = some (.slice A0_3 l0_3.length c0_3) := (blk_cell BK641.out 3).trans rfl; have hfz9_0 := blk_frozen BK641.out 0; have hfz9_1 := blk_frozen BK641.out 1; have hfz9_2 := blk_frozen BK641.out 2; have hfz9_3 := blk_frozen BK641.out 3) | ((with_reducible refine gate_callee (f := 9) rfl ?_); refine gL (some 6) Try.func9 #[.agg #[.int .i64 a0_0, .slice A0_1 l0_1.length c0_1, .slice A0_2 l0_2.length c0_2, .slice A0_3 l0_3.length c0_3]] ?_; (with_reducible refine (impl_PlnOk.calls a0_0 _ _ l0_1 _ _ l0_2 _ _ l0_3 true _ ?side1 ?side2 ?side3 ?side4 ?side5 ?side6 A3.out).mono ?_); (case side1 => exact lC <| (Kd.C_below HR0_1.out HB.out)); (case side2 => exact HC0_1.out); (case side3 => exact lC <| (Kd.C_below HR0_2.out HB.out)); (case side4 => exact HC0_2.out); (case side5 => exact lC <| (Kd.C_below HR0_3.out HB.out)); (case side6 => exact HC0_3.out); rintro e w10 ⟨rfl, hb⟩; refine ⟨_, rfl, ?_⟩; replace BK641 := aM (bb BK641.out hb); replace HB := aM (bj HB.out hb); (try clear hb); have hcz11_0 : w10.cell? ⟨gb641, 0, none⟩ = some (.int .i64 a0_0) := (blk_cell BK641.out 0).trans rfl; have hcz11_1 : w10.cell? ⟨gb641, 1, none⟩ = some (.slice A0_1 l0_1.length c0_1) := (blk_cell BK641.out 1).trans rfl; have hcz11_2 : w10.cell? ⟨gb641, 2, none⟩ = some (.slice A0_2 l0_2.length c0_2) := (blk_cell BK641.out 2).trans rfl; have hcz11_3 : w10.cell? ⟨gb641, 3, none⟩ = some (.slice A0_3 l0_3.length c0_3) := (blk_cell BK641.out 3).trans rfl; have hfz11_0 := blk_frozen BK641.out 0; have hfz11_1 := blk_frozen BK641.out 1; have hfz11_2 := blk_frozen BK641.out 2; have hfz11_3 := blk_frozen BK641.out 3) | (go_at_call 21; (with_reducible refine (impl_PlnPlan_isClient.calls a0_0 _ _ l0_1 _ _ l0_2 _ _ l0_3 a1 true _ ?side1 ?side2 ?side3 ?side4 ?side5 ?side6 A5.out).mono ?_); (case side1 => exact lC <| (Kd.C_below HR0_1.out HB.out)); (case side2 => exact HC0_1.out); (case side3 => exact lC <| (Kd.C_below HR0_2.out HB.out)); (case side4 => exact HC0_2.out); (case side5 => exact lC <| (Kd.C_below HR0_3.out HB.out)); (case side6 => exact HC0_3.out); rintro e w12 ⟨rfl, hb⟩; replace BK641 := aM (bb BK641.out hb); replace HB := aM (bj HB.out hb); (try clear hb); have hcz13_0 : w12.cell? ⟨gb641, 0, none⟩ = some (.int .i64 a0_0) := (blk_cell BK641.out 0).trans rfl; have hcz13_1 : w12.cell? ⟨gb641, 1, none⟩ = some (.slice A0_1 l0_1.length c0_1) := (blk_cell BK641.out 1).trans rfl; have hcz13_2 : w12.cell? ⟨gb641, 2, none⟩ = some (.slice A0_2 l0_2.length c0_2) := (blk_cell BK641.out 2).trans rfl; have hcz13_3 : w12.cell? ⟨gb641, 3, none⟩ = some (.slice A0_3 l0_3.length c0_3) := (blk_cell BK641.out 3).trans rfl; have hfz13_0 := blk_frozen BK641.out 0; have hfz13_1 := blk_frozen BK641.out 1; have hfz13_2 := blk_frozen BK641.out 2; have hfz13_3 := blk_frozen BK641.out 3))
    go_ret
    exact ⟨er, by exact jB HB.out⟩
  ·replace c6 := Bool.eq_false_iff.mpr c6
   subst c6
   rw [if_neg nf] at H
   try dsimp only at H
   obtain rfl := Option.some.inj H
   go_enter Try.func7, Try.ntmps7
   go_wp2_with (first | ((with_reducible refine gate_dst (N := 2) rfl ?_); refine bx 2 #[.int .i64 a0_0, .slice A0_1 l0_1.length c0_1, .slice A0_2 l0_2.length c0_2, .slice A0_3 l0_3.length c0_3] 26 ?_; intro gb641 hg w14 hbox hb; have BK641 := aM (hbox); have GW641 := aM ((gz hg HB.out)); have IGW641 : Nonempty _ := ⟨GW641.out⟩; have GE641 := aM ((gz hg HB.out)); have IGE641 : Nonempty _ := ⟨GE641.out⟩; replace HB := aM (bj HB.out hb); clear hb hbox hg; have hcz15_0 : w14.cell? ⟨gb641, 0, none⟩ = some (.int .i64 a0_0) := (blk_cell BK641.out 0).trans rfl; have hcz15_1 : w14.cell? ⟨gb641, 1, none⟩ = some (.slice A0_1 l0_1.length c0_1) := (blk_cell BK641.out 1).trans rfl; have hcz15_2 : w14.cell? ⟨gb641, 2, none⟩ = some (.slice A0_2 l0_2.length c0_2) := (blk_cell BK641.out 2).trans rfl; have hcz15_3 : w14.cell? ⟨gb641, 3, none⟩ = some (.slice A0_3 l0_3.length c0_3) := (blk_cell BK641.out 3).trans rfl; have hfz15_0 := blk_frozen BK641.out 0; have hfz15_1 := blk_frozen BK641.out 1; have hfz15_2 := blk_frozen BK641.out 2; have hfz15_3 := blk_frozen BK641.out 3) | ((with_reducible refine gate_callee (f := 9) rfl ?_); refine gL (some 6) Try.func9 #[.agg #[.int .i64 a0_0, .slice A0_1 l0_1.length c0_1, .slice A0_2 l0_2.length c0_2, .slice A0_3 l0_3.length c0_3]] ?_; (with_reducible refine (impl_PlnOk.calls a0_0 _ _ l0_1 _ _ l0_2 _ _ l0_3 true _ ?side1 ?side2 ?side3 ?side4 ?side5 ?side6 A3.out).mono ?_); (case side1 => exact lC <| (Kd.C_below HR0_1.out HB.out)); (case side2 => exact HC0_1.out); (case side3 => exact lC <| (Kd.C_below HR0_2.out HB.out)); (case side4 => exact HC0_2.out); (case side5 => exact lC <| (Kd.C_below HR0_3.out HB.out)); (case side6 => exact HC0_3.out); rintro e w16 ⟨rfl, hb⟩; refine ⟨_, rfl, ?_⟩; replace BK641 := aM (bb BK641.out hb); replace HB := aM (bj HB.out hb); (try clear hb); have hcz17_0 : w16.cell? ⟨gb641, 0, none⟩ = some (.int .i64 a0_0) := (blk_cell BK641.out 0).trans rfl; have hcz17_1 : w16.cell? ⟨gb641, 1, none⟩ = some (.slice A0_1 l0_1.length c0_1) := (blk_cell BK641.out 1).trans rfl; have hcz17_2 : w16.cell? ⟨gb641, 2, none⟩ = some (.slice A0_2 l0_2.length c0_2) := (blk_cell BK641.out 2).trans rfl; have hcz17_3 : w16.cell? ⟨gb641, 3, none⟩ = some (.slice A0_3 l0_3.length c0_3) := (blk_cell BK641.out 3).trans rfl; have hfz17_0 := blk_frozen BK641.out 0; have hfz17_1 := blk_frozen BK641.out 1; have hfz17_2 := blk_frozen BK641.out 2; have hfz17_3 := blk_frozen BK641.out 3) | (go_at_call 21; (with_reducible refine (impl_PlnPlan_isClient.calls a0_0 _ _ l0_1 _ _ l0_2 _ _ l0_3 a1 false _ ?side1 ?side2 ?side3 ?side4 ?side5 ?side6 A5.out).mono ?_); (case side1 => exact lC <| (Kd.C_below HR0_1.out HB.out)); (case side2 => exact HC0_1.out); (case side3 => exact lC <| (Kd.C_below HR0_2.out HB.out)); (case side4 => exact HC0_2.out); (case side5 => exact lC <| (Kd.C_below HR0_3.out HB.out)); (case side6 => exact HC0_3.out); rintro e w18 ⟨rfl, hb⟩; replace BK641 := aM (bb BK641.out hb); replace HB := aM (bj HB.out hb); (try clear hb)))
   go_ret
   exact ⟨er, by exact jB HB.out⟩
 ·replace c4 := Bool.eq_false_iff.mpr c4
  subst c4
  rw [if_neg nf] at H
  try dsimp only at H
  obtain rfl := Option.some.inj H
  go_enter Try.func7, Try.ntmps7
  go_wp2_with (first | ((with_reducible refine gate_dst (N := 2) rfl ?_); refine bx 2 #[.int .i64 a0_0, .slice A0_1 l0_1.length c0_1, .slice A0_2 l0_2.length c0_2, .slice A0_3 l0_3.length c0_3] 26 ?_; intro gb641 hg w19 hbox hb; have BK641 := aM (hbox); have GW641 := aM ((gz hg HB.out)); have IGW641 : Nonempty _ := ⟨GW641.out⟩; have GE641 := aM ((gz hg HB.out)); have IGE641 : Nonempty _ := ⟨GE641.out⟩; replace HB := aM (bj HB.out hb); clear hb hbox hg; have hcz20_0 : w19.cell? ⟨gb641, 0, none⟩ = some (.int .i64 a0_0) := (blk_cell BK641.out 0).trans rfl; have hcz20_1 : w19.cell? ⟨gb641, 1, none⟩ = some (.slice A0_1 l0_1.length c0_1) := (blk_cell BK641.out 1).trans rfl; have hcz20_2 : w19.cell? ⟨gb641, 2, none⟩ = some (.slice A0_2 l0_2.length c0_2) := (blk_cell BK641.out 2).trans rfl; have hcz20_3 : w19.cell? ⟨gb641, 3, none⟩ = some (.slice A0_3 l0_3.length c0_3) := (blk_cell BK641.out 3).trans rfl; have hfz20_0 := blk_frozen BK641.out 0; have hfz20_1 := blk_frozen BK641.out 1; have hfz20_2 := blk_frozen BK641.out 2; have hfz20_3 := blk_frozen BK641.out 3) | ((with_reducible refine gate_callee (f := 9) rfl ?_); refine gL (some 6) Try.func9 #[.agg #[.int .i64 a0_0, .slice A0_1 l0_1.length c0_1, .slice A0_2 l0_2.length c0_2, .slice A0_3 l0_3.length c0_3]] ?_; (with_reducible refine (impl_PlnOk.calls a0_0 _ _ l0_1 _ _ l0_2 _ _ l0_3 false _ ?side1 ?side2 ?side3 ?side4 ?side5 ?side6 A3.out).mono ?_); (case side1 => exact lC <| (Kd.C_below HR0_1.out HB.out)); (case side2 => exact HC0_1.out); (case side3 => exact lC <| (Kd.C_below HR0_2.out HB.out)); (case side4 => exact HC0_2.out); (case side5 => exact lC <| (Kd.C_below HR0_3.out HB.out)); (case side6 => exact HC0_3.out); rintro e w21 ⟨rfl, hb⟩; refine ⟨_, rfl, ?_⟩; replace BK641 := aM (bb BK641.out hb); replace HB := aM (bj HB.out hb); (try clear hb)))
  go_ret
  exact ⟨er, by exact jB HB.out⟩

/-! ### spec_CatOk: function 28 -/
def spec_CatOk.l0 : Nat → List (List (S45)) → Int → Option (Bool)
 | 0, _, _ => none
 | k + 1, x0, x3 => if x3 < (x0.length : Int) then (if 0 ≤ x3 then ((spec_ActOk.f k (rd_L5 x0 x3)).bind fun t646 => (if t646 = true then (spec_CatOk.l0 k x0 (wrap64 (x3 + 1))) else (some false))) else (none)) else (some true)
def spec_CatOk.f (k : Nat) (l0 : List (List (S45))) : Option (Bool) := (spec_l1In.f (l0.length : Int) 1 4).bind fun t644 => (if t644 = true then (spec_CatOk.l0 k l0 0) else (some false))
theorem spec_CatOk.mono_l : ∀ k, (∀ y0 y1, LeO (spec_CatOk.l0 k y0 y1) (spec_CatOk.l0 (k + 1) y0 y1))
 | 0 => fun _ _ r h => by simp [spec_CatOk.l0] at h
 | k + 1 => by
  have ih0 := spec_CatOk.mono_l k
  ·intro y0 y1
   unfold spec_CatOk.l0
   repeat' first
   | (with_reducible exact ih0 _ _)
   | (with_reducible exact spec_ActOk.mono _ _)
   | (with_reducible exact LeO.refl _)
   | (with_reducible exact LeO.none _)
   | (with_reducible refine LeO.ite ?_ ?_)
   | (with_reducible refine LeO.bind ?_ (fun _ => ?_))
   | exact LeO.none _
   | refine LeO.ite ?_ ?_
   | refine LeO.bind ?_ (fun _ => ?_)
theorem spec_CatOk.mono : ∀ a0 k, LeO (spec_CatOk.f k a0) (spec_CatOk.f (k + 1) a0) := by
 intro a0 k
 have ih0 := spec_CatOk.mono_l k
 unfold spec_CatOk.f
 repeat' first
   | (with_reducible exact ih0 _ _)
   | (with_reducible exact spec_ActOk.mono _ _)
   | (with_reducible exact LeO.refl _)
   | (with_reducible exact LeO.none _)
   | (with_reducible refine LeO.ite ?_ ?_)
   | (with_reducible refine LeO.bind ?_ (fun _ => ?_))
   | exact LeO.none _
   | refine LeO.ite ?_ ?_
   | refine LeO.bind ?_ (fun _ => ?_)
theorem spec_CatOk.calls (k : Nat) (A0 : Option Addr) (c0 : Nat) (l0 : List (List (S45))) (r : Bool) (w : World) (hr0 : Kd.C (Kd.slice 45 k45) w A0 l0.length l0) (hc0 : l0.length ≤ c0) (h : spec_CatOk.f k l0 = some r) :
  Calls Try.prog 28 #[.slice A0 l0.length c0] w fun e w' => e = .returned (.bool r) ∧ Below w.heap.size w w' := by
 have HR0 := aM hr0
 have HC0 := aM hc0
 clear hr0 hc0
 have HB := aM (Below.refl w.heap.size w)
 have H : ((spec_l1In.f (l0.length : Int) 1 4).bind fun t644 => (if t644 = true then (spec_CatOk.l0 k l0 0) else (some false))) = some r := h
 clear h
 obtain ⟨t644, A2, H⟩ := bS H
 try dsimp only at H
 by_cases c3 : t644 = true
 ·subst c3
  rw [if_pos rfl] at H
  try dsimp only at H
  have H' := aM H
  clear H
  go_enter Try.func28, Try.ntmps28
  go_wp2_with (first | ((with_reducible refine gate_callee (f := 22) rfl ?_); refine gL (some 6) Try.func22 #[.int .i64 (l0.length : Int), .int .i64 1, .int .i64 4] ?_; (with_reducible refine (spec_l1In.calls (l0.length : Int) 1 4 true _ A2.out).mono ?_); rintro e w' ⟨rfl, ⟨nd, rfl⟩⟩; refine ⟨_, rfl, ?_⟩))
  go_loopg [3] k (fun kq v3 w' => ∃ (x3_1 : Int), v3 = .int .i64 x3_1 ∧ Aside0 (spec_CatOk.l0 kq l0 x3_1 = some r) ∧ Aside0 (kq ≤ k) ∧ Aside0 (Below w.heap.size w w'))
  case atStart => exact ⟨(0), (by first | rfl | (simp; done) | (simp [*]; done)), H', ⟨Nat.le_refl _⟩, ⟨by exact lB HB.out⟩⟩
  case round =>
   clear H'
   try clear c2
   try clear p2
   try clear c3
   obtain ⟨x3_1, rfl, HA, HK1, HB⟩ := hrel
   cases gk with
   | zero => exact absurd HA.out (by simp [spec_CatOk.l0])
   | succ k1 =>
    have H := HA.out
    clear HA
    simp only [spec_CatOk.l0] at H
    by_cases c4 : x3_1 < (l0.length : Int)
    ·rw [if_pos c4] at H
     have c4b0 := decide_eq_true c4
     clear c4
     by_cases c5 : 0 ≤ x3_1
     ·rw [if_pos c5] at H
      have c5b0 := decide_eq_true c5
      clear c5
      obtain ⟨t646, A6, H⟩ := bS H
      try dsimp only at H
      by_cases c7 : t646 = true
      ·subst c7
       rw [if_pos rfl] at H
       try dsimp only at H
       have H' := aM H
       clear H
       have p645 : 0 ≤ (x3_1 : Int) := of_decide_eq_true (by first | (with_reducible assumption) | assumption)
       have q645 : x3_1 < (l0.length : Int) := of_decide_eq_true (by first | (with_reducible assumption) | assumption)
       obtain ⟨ad645, A645_0, c645_0, e645, hx645_0, hl645_0, hi645_0⟩ := at_L5 HR0.out x3_1 p645 q645
       cases e645
       replace hx645_0 := cl HB.out hx645_0
       have HR645_0 := aM hi645_0
       have HC645_0 := aM hl645_0
       clear hi645_0 hl645_0
       replace p645 := eq_true p645
       replace q645 := eq_true q645
       go_wp2_with (first | ((with_reducible refine gate_callee (f := 40) rfl ?_); refine gL (some 18) Try.func40 #[.slice A645_0 (rd_L5 l0 x3_1).length c645_0] ?_; (with_reducible refine (spec_ActOk.calls k1 _ _ (rd_L5 l0 x3_1) true _ ?side1 ?side2 A6.out).mono ?_); (case side1 => exact lC <| (Kd.C_below HR645_0.out HB.out)); (case side2 => exact HC645_0.out); rintro e w8 ⟨rfl, hb⟩; refine ⟨_, rfl, ?_⟩; replace HB := aM (bj HB.out hb); (try clear hb)))
       go_roundg k1
       case measure => have := HK1.out; omega
       case rel => exact ⟨(wrap64 (x3_1 + 1)), (by first | rfl | (simp; done) | (simp [*]; done)), H', ⟨by have := HK1.out; omega⟩, ⟨by exact lB HB.out⟩⟩
      ·replace c7 := Bool.eq_false_iff.mpr c7
       subst c7
       rw [if_neg nf] at H
       try dsimp only at H
       obtain rfl := Option.some.inj H
       have p645 : 0 ≤ (x3_1 : Int) := of_decide_eq_true (by first | (with_reducible assumption) | assumption)
       have q645 : x3_1 < (l0.length : Int) := of_decide_eq_true (by first | (with_reducible assumption) | assumption)
       obtain ⟨ad645, A645_0, c645_0, e645, hx645_0, hl645_0, hi645_0⟩ := at_L5 HR0.out x3_1 p645 q645
       cases e645
       replace hx645_0 := cl HB.out hx645_0
       have HR645_0 := aM hi645_0
       have HC645_0 := aM hl645_0
       clear hi645_0 hl645_0
       replace p645 := eq_true p645
       replace q645 := eq_true q645
       go_wp2_with (first | ((with_reducible refine gate_callee (f := 40) rfl ?_); refine gL (some 18) Try.func40 #[.slice A645_0 (rd_L5 l0 x3_1).length c645_0] ?_; (with_reducible refine (spec_ActOk.calls k1 _ _ (rd_L5 l0 x3_1) false _ ?side1 ?side2 A6.out).mono ?_); (case side1 => exact lC <| (Kd.C_below HR645_0.out HB.out)); (case side2 => exact HC645_0.out); rintro e w9 ⟨rfl, hb⟩; refine ⟨_, rfl, ?_⟩; replace HB := aM (bj HB.out hb); (try clear hb)))
       go_ret
       exact ⟨er, by exact lB HB.out⟩
     ·rw [if_neg c5] at H
      exact absurd H (by simp)
    ·rw [if_neg c4] at H
     have c4b0 := decide_eq_false c4
     clear c4
     obtain rfl := Option.some.inj H
     go_wp2
     go_ret
     exact ⟨er, by exact lB HB.out⟩
 ·replace c3 := Bool.eq_false_iff.mpr c3
  subst c3
  rw [if_neg nf] at H
  try dsimp only at H
  obtain rfl := Option.some.inj H
  go_enter Try.func28, Try.ntmps28
  go_wp2_with (first | ((with_reducible refine gate_callee (f := 22) rfl ?_); refine gL (some 6) Try.func22 #[.int .i64 (l0.length : Int), .int .i64 1, .int .i64 4] ?_; (with_reducible refine (spec_l1In.calls (l0.length : Int) 1 4 false _ A2.out).mono ?_); rintro e w' ⟨rfl, ⟨nd, rfl⟩⟩; refine ⟨_, rfl, ?_⟩))
  go_ret
  exact ⟨er, by exact lB HB.out⟩

/-! ### spec_ValOk: function 41 -/
def spec_ValOk.f (k : Nat) (l0 : List Int) : Option (Bool) := (spec_l1All.f k l0 3 10000).bind fun t647 => (some t647)
theorem spec_ValOk.mono : ∀ a0 k, LeO (spec_ValOk.f k a0) (spec_ValOk.f (k + 1) a0) := by
 intro a0 k
 unfold spec_ValOk.f
 repeat' first
   | (with_reducible exact spec_l1All.mono _ _ _ _)
   | (with_reducible exact LeO.refl _)
   | (with_reducible exact LeO.none _)
   | (with_reducible refine LeO.ite ?_ ?_)
   | (with_reducible refine LeO.bind ?_ (fun _ => ?_))
   | exact LeO.none _
   | refine LeO.ite ?_ ?_
   | refine LeO.bind ?_ (fun _ => ?_)
theorem spec_ValOk.calls (k : Nat) (A0 : Option Addr) (c0 : Nat) (l0 : List Int) (r : Bool) (w : World) (hr0 : Kd.C (Kd.int .i64) w A0 l0.length l0) (hc0 : l0.length ≤ c0) (h : spec_ValOk.f k l0 = some r) :
  Calls Try.prog 41 #[.slice A0 l0.length c0] w fun e w' => e = .returned (.bool r) ∧ Drawn0 w w' := by
 have HR0 := aM hr0
 have HC0 := aM hc0
 clear hr0 hc0
 have H : ((spec_l1All.f k l0 3 10000).bind fun t647 => (some t647)) = some r := h
 clear h
 obtain ⟨t647, A2, H⟩ := bS H
 try dsimp only at H
 obtain rfl := Option.some.inj H
 go_enter Try.func41, Try.ntmps41
 go_wp2_with (first | ((with_reducible refine gate_callee (f := 29) rfl ?_); refine gL (some 4) Try.func29 #[.slice A0 l0.length c0, .int .i64 3, .int .i64 10000] ?_; (with_reducible refine (spec_l1All.calls k _ _ l0 3 10000 t647 _ ?side1 ?side2 A2.out).mono ?_); (case side1 => exact lC HR0.out); (case side2 => exact HC0.out); rintro e w' ⟨rfl, ⟨nd, rfl⟩⟩; refine ⟨_, rfl, ?_⟩))
 go_ret
 exact ⟨by first | rfl | (simp; done) | (simp [*]; done), by repeat (first | exact Drawn0.refl _ | apply Drawn0.step)⟩

end Go.Proofs.Ytgalnmgkcdmnkaa.QFnPlnHome

-- shorter
