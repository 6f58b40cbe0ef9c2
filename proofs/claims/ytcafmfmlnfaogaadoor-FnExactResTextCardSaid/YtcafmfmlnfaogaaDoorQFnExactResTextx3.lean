/- Plain functions, and that the Go code computes them: written by a program of this session over the seat's translation; the conditions stand in each theorem. -/
import Derived.Test.YtcafmfmlnfaogaaDoorQFnExactResTextx0
import Derived.Test.YtcafmfmlnfaogaaDoorQFnExactResTextx1
import Derived.Test.YtcafmfmlnfaogaaDoorQFnExactResTextx2
namespace Go.Proofs.YtcafmfmlnfaogaaDoor.QFnExactResText
open Go.RowKit Go.Proofs.YtcafmfmlnfaogaaDoorW.PrintWords Go.Proofs.YtcafmfmlnfaogaaDoorW.PrintLast Go.Proofs.YtcafmfmlnfaogaaDoorW.PrintMore Go.Proofs.YtcafmfmlnfaogaaDoor.HWords
open Value (ownBlock)
attribute [local go_sem] max2_int min2_int max_two min_two max_three min_three max_four min_four   -- for this text's walks alone
set_option maxRecDepth 100000
set_option maxHeartbeats 8000000
set_option linter.unusedVariables false
set_option linter.unusedSimpArgs false

/-! ### laws_eqIntS: function 30 -/
def laws_eqIntS.l0 : Nat → List Int → List Int → Int → Option (Bool)
 | 0, _, _, _ => none
 | k + 1, x0, x1, x5 => if x5 < (x0.length : Int) then (if 0 ≤ x5 then (if x5 < (x1.length : Int) then (if (rd x0 x5) = (rd x1 x5) then (laws_eqIntS.l0 k x0 x1 (wrap64 (x5 + 1))) else (some false)) else (none)) else (none)) else (some true)
def laws_eqIntS.f (k : Nat) (l0 : List Int) (l1 : List Int) : Option (Bool) := if (l0.length : Int) = (l1.length : Int) then (laws_eqIntS.l0 k l0 l1 0) else (some false)
theorem laws_eqIntS.mono_l : ∀ k, (∀ y0 y1 y2, LeO (laws_eqIntS.l0 k y0 y1 y2) (laws_eqIntS.l0 (k + 1) y0 y1 y2))
 | 0 => fun _ _ _ r h => by simp [laws_eqIntS.l0] at h
 | k + 1 => by
  have ih0 := laws_eqIntS.mono_l k
  ·intro y0 y1 y2
   unfold laws_eqIntS.l0
   repeat' first
   | (with_reducible exact ih0 _ _ _)
   | (with_reducible exact LeO.refl _)
   | (with_reducible exact LeO.none _)
   | (with_reducible refine LeO.ite ?_ ?_)
   | (with_reducible refine LeO.bind ?_ (fun _ => ?_))
   | exact LeO.none _
   | refine LeO.ite ?_ ?_
   | refine LeO.bind ?_ (fun _ => ?_)
theorem laws_eqIntS.mono : ∀ a0 a1 k, LeO (laws_eqIntS.f k a0 a1) (laws_eqIntS.f (k + 1) a0 a1) := by
 intro a0 a1 k
 have ih0 := laws_eqIntS.mono_l k
 unfold laws_eqIntS.f
 repeat' first
   | (with_reducible exact ih0 _ _ _)
   | (with_reducible exact LeO.refl _)
   | (with_reducible exact LeO.none _)
   | (with_reducible refine LeO.ite ?_ ?_)
   | (with_reducible refine LeO.bind ?_ (fun _ => ?_))
   | exact LeO.none _
   | refine LeO.ite ?_ ?_
   | refine LeO.bind ?_ (fun _ => ?_)
theorem laws_eqIntS.calls (k : Nat) (A0 : Option Addr) (c0 : Nat) (l0 : List Int) (A1 : Option Addr) (c1 : Nat) (l1 : List Int) (r : Bool) (w : World) (hr0 : Kd.C (Kd.int .i64) w A0 l0.length l0) (hc0 : l0.length ≤ c0) (hr1 : Kd.C (Kd.int .i64) w A1 l1.length l1) (hc1 : l1.length ≤ c1) (h : laws_eqIntS.f k l0 l1 = some r) :
  Calls Tryd.prog 30 #[.slice A0 l0.length c0, .slice A1 l1.length c1] w fun e w' => e = .returned (.bool r) ∧ Drawn0 w w' := by
 have HR0 := aM hr0
 have HC0 := aM hc0
 clear hr0 hc0
 have HR1 := aM hr1
 have HC1 := aM hc1
 clear hr1 hc1
 have H : (if (l0.length : Int) = (l1.length : Int) then (laws_eqIntS.l0 k l0 l1 0) else (some false)) = some r := h
 clear h
 by_cases c3 : (l0.length : Int) = (l1.length : Int)
 ·rw [if_pos c3] at H
  have c3b0 := beq_iff_eq.mpr c3
  have c3b1 := bne_eq_false_iff_eq.mpr c3
  have c3b2 : (l0.length == l1.length) = true := by first | simpa using c3 | (simp at c3 ⊢; omega)
  clear c3
  have H' := aM H
  clear H
  go_enter Tryd.func30, Tryd.ntmps30
  go_wp2
  repeat (go_quiet (fail); try go_wp2)
  go_loopg [5] k (fun kq v5 w' => ∃ (x5_1 : Int), v5 = .int .i64 x5_1 ∧ Aside0 (laws_eqIntS.l0 kq l0 l1 x5_1 = some r) ∧ Aside0 (kq ≤ k) ∧ Drawn0 w w')
  case atStart => exact ⟨(0), (by first | rfl | (simp; done) | (simp [*]; done)), H', ⟨Nat.le_refl _⟩, by repeat (first | exact Drawn0.refl _ | apply Drawn0.step)⟩
  case round =>
   clear H'
   try clear c1
   try clear p2
   try clear c3
   try clear c3b0
   try clear c3b1
   try clear c3b2
   obtain ⟨x5_1, rfl, HA, HK1, ⟨m1, rfl⟩⟩ := hrel
   cases gk with
   | zero => exact absurd HA.out (by simp [laws_eqIntS.l0])
   | succ k1 =>
    have H := HA.out
    clear HA
    simp only [laws_eqIntS.l0] at H
    by_cases c4 : x5_1 < (l0.length : Int)
    ·rw [if_pos c4] at H
     have c4b0 := decide_eq_true c4
     clear c4
     by_cases c5 : 0 ≤ x5_1
     ·rw [if_pos c5] at H
      have c5b0 := decide_eq_true c5
      clear c5
      by_cases c6 : x5_1 < (l1.length : Int)
      ·rw [if_pos c6] at H
       have c6b0 := decide_eq_true c6
       clear c6
       by_cases c7 : (rd l0 x5_1) = (rd l1 x5_1)
       ·rw [if_pos c7] at H
        have c7b0 := beq_iff_eq.mpr c7
        have c7b1 := bne_eq_false_iff_eq.mpr c7
        clear c7
        have H' := aM H
        clear H
        have p145 : 0 ≤ (x5_1 : Int) := of_decide_eq_true (by first | (with_reducible assumption) | assumption)
        have q145 : x5_1 < (l0.length : Int) := of_decide_eq_true (by first | (with_reducible assumption) | assumption)
        obtain ⟨ad145, e145, hx145_0⟩ := Kd.at_int HR0.out x5_1 p145 q145
        cases e145
        replace p145 := eq_true p145
        replace q145 := eq_true q145
        have p146 : 0 ≤ (x5_1 : Int) := of_decide_eq_true (by first | (with_reducible assumption) | assumption)
        have q146 : x5_1 < (l1.length : Int) := of_decide_eq_true (by first | (with_reducible assumption) | assumption)
        obtain ⟨ad146, e146, hx146_0⟩ := Kd.at_int HR1.out x5_1 p146 q146
        cases e146
        replace p146 := eq_true p146
        replace q146 := eq_true q146
        go_wp2
        repeat (go_quiet (fail); try go_wp2)
        go_roundg k1
        case measure => have := HK1.out; omega
        case rel => exact ⟨(wrap64 (x5_1 + 1)), (by first | rfl | (simp; done) | (simp [*]; done)), H', ⟨by have := HK1.out; omega⟩, by repeat (first | exact Drawn0.refl _ | apply Drawn0.step)⟩
       ·rw [if_neg c7] at H
        have c7b0 := beq_eq_false_iff_ne.mpr c7
        have c7b1 := bne_iff_ne.mpr c7
        obtain rfl := Option.some.inj H
        have p145 : 0 ≤ (x5_1 : Int) := of_decide_eq_true (by first | (with_reducible assumption) | assumption)
        have q145 : x5_1 < (l0.length : Int) := of_decide_eq_true (by first | (with_reducible assumption) | assumption)
        obtain ⟨ad145, e145, hx145_0⟩ := Kd.at_int HR0.out x5_1 p145 q145
        cases e145
        replace p145 := eq_true p145
        replace q145 := eq_true q145
        have p146 : 0 ≤ (x5_1 : Int) := of_decide_eq_true (by first | (with_reducible assumption) | assumption)
        have q146 : x5_1 < (l1.length : Int) := of_decide_eq_true (by first | (with_reducible assumption) | assumption)
        obtain ⟨ad146, e146, hx146_0⟩ := Kd.at_int HR1.out x5_1 p146 q146
        cases e146
        replace p146 := eq_true p146
        replace q146 := eq_true q146
        go_wp2
        repeat (go_quiet (fail); try go_wp2)
        go_ret
        exact ⟨by first | rfl | (simp; done) | (simp [*]; done), by repeat (first | exact Drawn0.refl _ | apply Drawn0.step)⟩
      ·rw [if_neg c6] at H
       exact absurd H (by simp)
     ·rw [if_neg c5] at H
      exact absurd H (by simp)
    ·rw [if_neg c4] at H
     have c4b0 := decide_eq_false c4
     clear c4
     obtain rfl := Option.some.inj H
     go_wp2
     repeat (go_quiet (fail); try go_wp2)
     go_ret
     exact ⟨by first | rfl | (simp; done) | (simp [*]; done), by repeat (first | exact Drawn0.refl _ | apply Drawn0.step)⟩
 ·rw [if_neg c3] at H
  have c3b0 := beq_eq_false_iff_ne.mpr c3
  have c3b1 := bne_iff_ne.mpr c3
  have c3b2 : (l0.length == l1.length) = false := by first | simpa using c3 | (simp at c3 ⊢; omega)
  obtain rfl := Option.some.inj H
  go_enter Tryd.func30, Tryd.ntmps30
  go_wp2
  repeat (go_quiet (fail); try go_wp2)
  go_ret
  exact ⟨by first | rfl | (simp; done) | (simp [*]; done), by repeat (first | exact Drawn0.refl _ | apply Drawn0.step)⟩

/-! ### laws_eqResResult: function 11 -/
def laws_eqResResult.f (k : Nat) (a0_0 : Int) (l0_1 : List Int) (a1_0 : Int) (l1_1 : List Int) : Option (Bool) := if a0_0 = a1_0 then ((laws_eqIntS.f k l0_1 l1_1).bind fun t149 => (if t149 = true then (some true) else (some false))) else (some false)
theorem laws_eqResResult.mono : ∀ a0 a1 a2 a3 k, LeO (laws_eqResResult.f k a0 a1 a2 a3) (laws_eqResResult.f (k + 1) a0 a1 a2 a3) := by
 intro a0 a1 a2 a3 k
 unfold laws_eqResResult.f
 repeat' first
   | (with_reducible exact laws_eqIntS.mono _ _ _)
   | (with_reducible exact LeO.refl _)
   | (with_reducible exact LeO.none _)
   | (with_reducible refine LeO.ite ?_ ?_)
   | (with_reducible refine LeO.bind ?_ (fun _ => ?_))
   | exact LeO.none _
   | refine LeO.ite ?_ ?_
   | refine LeO.bind ?_ (fun _ => ?_)
theorem laws_eqResResult.calls (k : Nat) (a0_0 : Int) (A0_1 : Option Addr) (c0_1 : Nat) (l0_1 : List Int) (a1_0 : Int) (A1_1 : Option Addr) (c1_1 : Nat) (l1_1 : List Int) (r : Bool) (w : World) (hr0_1 : Kd.C (Kd.int .i64) w A0_1 l0_1.length l0_1) (hc0_1 : l0_1.length ≤ c0_1) (hr1_1 : Kd.C (Kd.int .i64) w A1_1 l1_1.length l1_1) (hc1_1 : l1_1.length ≤ c1_1) (h : laws_eqResResult.f k a0_0 l0_1 a1_0 l1_1 = some r) :
  Calls Tryd.prog 11 #[.agg #[.int .i64 a0_0, .slice A0_1 l0_1.length c0_1], .agg #[.int .i64 a1_0, .slice A1_1 l1_1.length c1_1]] w fun e w' => e = .returned (.bool r) ∧ Below w.heap.size w w' := by
 have hu27 := Tryd.underlying27
 have HR0_1 := aM hr0_1
 have HC0_1 := aM hc0_1
 clear hr0_1 hc0_1
 have HR1_1 := aM hr1_1
 have HC1_1 := aM hc1_1
 clear hr1_1 hc1_1
 have HB := aM (Below.refl w.heap.size w)
 have H : (if a0_0 = a1_0 then ((laws_eqIntS.f k l0_1 l1_1).bind fun t149 => (if t149 = true then (some true) else (some false))) else (some false)) = some r := h
 clear h
 by_cases c3 : a0_0 = a1_0
 ·rw [if_pos c3] at H
  have c3b0 := beq_iff_eq.mpr c3
  have c3b1 := bne_eq_false_iff_eq.mpr c3
  clear c3
  obtain ⟨t149, A4, H⟩ := bS H
  try dsimp only at H
  by_cases c5 : t149 = true
  ·subst c5
   rw [if_pos rfl] at H
   try dsimp only at H
   obtain rfl := Option.some.inj H
   go_enter Tryd.func11, Tryd.ntmps11
   go_wp2_with (first | ((with_reducible refine gate_dst (N := 2) rfl ?_); refine bx 2 #[.int .i64 a0_0, .slice A0_1 l0_1.length c0_1] 27 ?_; intro gb147 hg w6 hbox hb; have BK147 := aM (hbox); have GW147 := aM ((gz hg HB.out)); have IGW147 : Nonempty _ := ⟨GW147.out⟩; have GE147 := aM ((gz hg HB.out)); have IGE147 : Nonempty _ := ⟨GE147.out⟩; replace HB := aM (bj HB.out hb); clear hb hbox hg) | ((with_reducible refine gate_dst (N := 3) rfl ?_); refine bx 3 #[.int .i64 a1_0, .slice A1_1 l1_1.length c1_1] 27 ?_; intro gb148 hg w7 hbox hb; have BK148 := aM (hbox); have GW148 := aM ((gz hg HB.out)); have IGW148 : Nonempty _ := ⟨GW148.out⟩; have GE148 := aM ((gz hg HB.out)); have IGE148 : Nonempty _ := ⟨GE148.out⟩; replace HB := aM (bj HB.out hb); have NB147_148 := aM ((neL hg (lK BK147.out) : gb147 ≠ gb148)); have NB148_147 := aM ((neG hg (lK BK147.out) : gb148 ≠ gb147)); replace BK147 := aM (bb BK147.out hb); clear hb hbox hg; have hnb8 := NB147_148.out; have hnc8 := NB148_147.out; obtain ⟨hcz9_0, hcz9_1, hfz9_0, hfz9_1⟩ := cf2 BK147.out; obtain ⟨hcz10_0, hcz10_1, hfz10_0, hfz10_1⟩ := cf2 BK148.out) | ((with_reducible refine gate_callee (f := 30) rfl ?_); refine gL (some 14) Tryd.func30 #[.slice A0_1 l0_1.length c0_1, .slice A1_1 l1_1.length c1_1] ?_; (with_reducible refine (laws_eqIntS.calls k _ _ l0_1 _ _ l1_1 true _ ?side1 ?side2 ?side3 ?side4 A4.out).mono ?_); (case side1 => exact lC <| (Kd.C_below HR0_1.out HB.out)); (case side2 => exact HC0_1.out); (case side3 => exact lC <| (Kd.C_below HR1_1.out HB.out)); (case side4 => exact HC1_1.out); rintro e w' ⟨rfl, ⟨nd, rfl⟩⟩; refine ⟨_, rfl, ?_⟩))
   go_ret
   exact ⟨er, by exact jB HB.out⟩
  ·replace c5 := Bool.eq_false_iff.mpr c5
   subst c5
   rw [if_neg nf] at H
   try dsimp only at H
   obtain rfl := Option.some.inj H
   go_enter Tryd.func11, Tryd.ntmps11
   go_wp2_with (first | ((with_reducible refine gate_dst (N := 2) rfl ?_); refine bx 2 #[.int .i64 a0_0, .slice A0_1 l0_1.length c0_1] 27 ?_; intro gb147 hg w11 hbox hb; have BK147 := aM (hbox); have GW147 := aM ((gz hg HB.out)); have IGW147 : Nonempty _ := ⟨GW147.out⟩; have GE147 := aM ((gz hg HB.out)); have IGE147 : Nonempty _ := ⟨GE147.out⟩; replace HB := aM (bj HB.out hb); clear hb hbox hg) | ((with_reducible refine gate_dst (N := 3) rfl ?_); refine bx 3 #[.int .i64 a1_0, .slice A1_1 l1_1.length c1_1] 27 ?_; intro gb148 hg w12 hbox hb; have BK148 := aM (hbox); have GW148 := aM ((gz hg HB.out)); have IGW148 : Nonempty _ := ⟨GW148.out⟩; have GE148 := aM ((gz hg HB.out)); have IGE148 : Nonempty _ := ⟨GE148.out⟩; replace HB := aM (bj HB.out hb); have NB147_148 := aM ((neL hg (lK BK147.out) : gb147 ≠ gb148)); have NB148_147 := aM ((neG hg (lK BK147.out) : gb148 ≠ gb147)); replace BK147 := aM (bb BK147.out hb); clear hb hbox hg; have hnb13 := NB147_148.out; have hnc13 := NB148_147.out; obtain ⟨hcz14_0, hcz14_1, hfz14_0, hfz14_1⟩ := cf2 BK147.out; obtain ⟨hcz15_0, hcz15_1, hfz15_0, hfz15_1⟩ := cf2 BK148.out) | ((with_reducible refine gate_callee (f := 30) rfl ?_); refine gL (some 14) Tryd.func30 #[.slice A0_1 l0_1.length c0_1, .slice A1_1 l1_1.length c1_1] ?_; (with_reducible refine (laws_eqIntS.calls k _ _ l0_1 _ _ l1_1 false _ ?side1 ?side2 ?side3 ?side4 A4.out).mono ?_); (case side1 => exact lC <| (Kd.C_below HR0_1.out HB.out)); (case side2 => exact HC0_1.out); (case side3 => exact lC <| (Kd.C_below HR1_1.out HB.out)); (case side4 => exact HC1_1.out); rintro e w' ⟨rfl, ⟨nd, rfl⟩⟩; refine ⟨_, rfl, ?_⟩))
   go_ret
   exact ⟨er, by exact jB HB.out⟩
 ·rw [if_neg c3] at H
  have c3b0 := beq_eq_false_iff_ne.mpr c3
  have c3b1 := bne_iff_ne.mpr c3
  obtain rfl := Option.some.inj H
  go_enter Tryd.func11, Tryd.ntmps11
  go_wp2_with (first | ((with_reducible refine gate_dst (N := 2) rfl ?_); refine bx 2 #[.int .i64 a0_0, .slice A0_1 l0_1.length c0_1] 27 ?_; intro gb147 hg w16 hbox hb; have BK147 := aM (hbox); have GW147 := aM ((gz hg HB.out)); have IGW147 : Nonempty _ := ⟨GW147.out⟩; have GE147 := aM ((gz hg HB.out)); have IGE147 : Nonempty _ := ⟨GE147.out⟩; replace HB := aM (bj HB.out hb); clear hb hbox hg) | ((with_reducible refine gate_dst (N := 3) rfl ?_); refine bx 3 #[.int .i64 a1_0, .slice A1_1 l1_1.length c1_1] 27 ?_; intro gb148 hg w17 hbox hb; have BK148 := aM (hbox); have GW148 := aM ((gz hg HB.out)); have IGW148 : Nonempty _ := ⟨GW148.out⟩; have GE148 := aM ((gz hg HB.out)); have IGE148 : Nonempty _ := ⟨GE148.out⟩; replace HB := aM (bj HB.out hb); have NB147_148 := aM ((neL hg (lK BK147.out) : gb147 ≠ gb148)); have NB148_147 := aM ((neG hg (lK BK147.out) : gb148 ≠ gb147)); replace BK147 := aM (bb BK147.out hb); clear hb hbox hg; have hnb18 := NB147_148.out; have hnc18 := NB148_147.out; obtain ⟨hcz19_0, hcz19_1, hfz19_0, hfz19_1⟩ := cf2 BK147.out; obtain ⟨hcz20_0, hcz20_1, hfz20_0, hfz20_1⟩ := cf2 BK148.out))
  go_ret
  exact ⟨er, by exact jB HB.out⟩

/-! ### laws_FnExactResText: function 3 -/
def laws_FnExactResText.f (k : Nat) (a0_0 : Int) (l0_1 : List Int) : Option (Bool) := (laws_szResResult.f a0_0 l0_1 1048576).bind fun t151 => (if t151 < 0 then (some true) else ((laws_toResResult.f k a0_0 l0_1).bind fun bt152 => ((spec_ResText.f k bt152.1 bt152.2).bind fun t156 => ((laws_toResResult.f k a0_0 l0_1).bind fun bt157 => ((impl_ResText.f k bt157.1 bt157.2).bind fun t162 => (if t162.toList = t156.toList then ((laws_toResResult.f k a0_0 l0_1).bind fun bt163 => ((laws_eqResResult.f k bt157.1 bt157.2 bt163.1 bt163.2).bind fun t167 => (if t167 = true then (some true) else (some false)))) else (some false)))))))
theorem laws_FnExactResText.mono : ∀ a0 a1 k, LeO (laws_FnExactResText.f k a0 a1) (laws_FnExactResText.f (k + 1) a0 a1) := by
 intro a0 a1 k
 unfold laws_FnExactResText.f
 repeat' first
   | (with_reducible exact impl_ResText.mono _ _ _)
   | (with_reducible exact laws_eqResResult.mono _ _ _ _ _)
   | (with_reducible exact laws_toResResult.mono _ _ _)
   | (with_reducible exact spec_ResText.mono _ _ _)
   | (with_reducible exact LeO.refl _)
   | (with_reducible exact LeO.none _)
   | (with_reducible refine LeO.ite ?_ ?_)
   | (with_reducible refine LeO.bind ?_ (fun _ => ?_))
   | exact LeO.none _
   | refine LeO.ite ?_ ?_
   | refine LeO.bind ?_ (fun _ => ?_)
theorem laws_FnExactResText.calls (k : Nat) (a0_0 : Int) (A0_1 : Option Addr) (c0_1 : Nat) (l0_1 : List Int) (r : Bool) (w : World) (hr : Aside0 (r = true)) (hr0_1 : Kd.C (Kd.int .i64) w A0_1 l0_1.length l0_1) (hc0_1 : l0_1.length ≤ c0_1) (h : laws_FnExactResText.f k a0_0 l0_1 = some r) (htab : Go.Lib.TabIs Tryd.prog w "internal/strconv.uint64pow10" .u64 Go.Lib.pow10Tab) :
  Calls Tryd.prog 3 #[.agg #[.int .i64 a0_0, .slice A0_1 l0_1.length c0_1]] w fun e w' => e = .returned (.bool r) ∧ Below w.heap.size w w' := by
 have HTAB : Aside0 (∀ w', Below w.heap.size w w' → Go.Lib.TabIs Tryd.prog w' "internal/strconv.uint64pow10" .u64 Go.Lib.pow10Tab) := ⟨fun w' hb => Go.Lib.tabBelow_of_tabIs htab w' hb⟩
 clear htab
 have hu24 := Tryd.underlying24
 have hu27 := Tryd.underlying27
 have HR0_1 := aM hr0_1
 have HC0_1 := aM hc0_1
 clear hr0_1 hc0_1
 have HB := aM (Below.refl w.heap.size w)
 have H : ((laws_szResResult.f a0_0 l0_1 1048576).bind fun t151 => (if t151 < 0 then (some true) else ((laws_toResResult.f k a0_0 l0_1).bind fun bt152 => ((spec_ResText.f k bt152.1 bt152.2).bind fun t156 => ((laws_toResResult.f k a0_0 l0_1).bind fun bt157 => ((impl_ResText.f k bt157.1 bt157.2).bind fun t162 => (if t162.toList = t156.toList then ((laws_toResResult.f k a0_0 l0_1).bind fun bt163 => ((laws_eqResResult.f k bt157.1 bt157.2 bt163.1 bt163.2).bind fun t167 => (if t167 = true then (some true) else (some false)))) else (some false)))))))) = some r := h
 clear h
 obtain ⟨t151, A2, H⟩ := bS H
 try dsimp only at H
 by_cases c3 : t151 < 0
 ·rw [if_pos c3] at H
  have c3b0 := decide_eq_true c3
  clear c3
  obtain rfl := Option.some.inj H
  go_enter Tryd.func3, Tryd.ntmps3
  go_wp2_with (first | ((with_reducible refine gate_dst (N := 1) rfl ?_); refine bx 1 #[.int .i64 a0_0, .slice A0_1 l0_1.length c0_1] 24 ?_; intro gb150 hg w4 hbox hb; have BK150 := aM (hbox); have GW150 := aM ((gz hg HB.out)); have IGW150 : Nonempty _ := ⟨GW150.out⟩; have GE150 := aM ((gz hg HB.out)); have IGE150 : Nonempty _ := ⟨GE150.out⟩; replace HB := aM (bj HB.out hb); clear hb hbox hg; obtain ⟨hcz5_0, hcz5_1, hfz5_0, hfz5_1⟩ := cf2 BK150.out) | ((with_reducible refine gate_callee (f := 7) rfl ?_); refine gL (some 9) Tryd.func7 #[.agg #[.int .i64 a0_0, .slice A0_1 l0_1.length c0_1], .int .i64 1048576] ?_; (with_reducible refine (laws_szResResult.calls a0_0 _ _ l0_1 1048576 t151 _ ?side1 ?side2 A2.out).mono ?_); (case side1 => exact lC <| (Kd.C_below HR0_1.out HB.out)); (case side2 => exact HC0_1.out); rintro e w6 ⟨rfl, hb⟩; refine ⟨_, rfl, ?_⟩; replace BK150 := aM (bb BK150.out hb); replace HB := aM (bj HB.out hb); (try clear hb)))
  go_ret
  exact ⟨er, by exact jB HB.out⟩
 ·rw [if_neg c3] at H
  have c3b0 := decide_eq_false c3
  clear c3
  obtain ⟨⟨t152, t153⟩, A7, H⟩ := bS H
  try dsimp only at H
  obtain ⟨t156, A8, H⟩ := bS H
  try dsimp only at H
  obtain ⟨⟨t157, t158⟩, A9, H⟩ := bS H
  try dsimp only at H
  obtain ⟨t162, A10, H⟩ := bS H
  try dsimp only at H
  by_cases c11 : t162.toList = t156.toList
  ·rw [if_pos c11] at H
   have c11b0 := beq_iff_eq.mpr c11
   have c11b1 := bne_eq_false_iff_eq.mpr c11
   clear c11
   obtain ⟨⟨t163, t164⟩, A12, H⟩ := bS H
   try dsimp only at H
   obtain ⟨t167, A13, H⟩ := bS H
   try dsimp only at H
   by_cases c14 : t167 = true
   ·subst c14
    rw [if_pos rfl] at H
    try dsimp only at H
    obtain rfl := Option.some.inj H
    go_enter Tryd.func3, Tryd.ntmps3
    try go_wp2_with (first | ((with_reducible refine gate_dst (N := 1) rfl ?_); refine bx 1 #[.int .i64 a0_0, .slice A0_1 l0_1.length c0_1] 24 ?_; intro gb150 hg w15 hbox hb; have BK150 := aM (hbox); have GW150 := aM ((gz hg HB.out)); have IGW150 : Nonempty _ := ⟨GW150.out⟩; have GE150 := aM ((gz hg HB.out)); have IGE150 : Nonempty _ := ⟨GE150.out⟩; replace HB := aM (bj HB.out hb); clear hb hbox hg; obtain ⟨hcz16_0, hcz16_1, hfz16_0, hfz16_1⟩ := cf2 BK150.out) | ((with_reducible refine gate_callee (f := 7) rfl ?_); refine gL (some 9) Tryd.func7 #[.agg #[.int .i64 a0_0, .slice A0_1 l0_1.length c0_1], .int .i64 1048576] ?_; (with_reducible refine (laws_szResResult.calls a0_0 _ _ l0_1 1048576 t151 _ ?side1 ?side2 A2.out).mono ?_); (case side1 => exact lC <| (Kd.C_below HR0_1.out HB.out)); (case side2 => exact HC0_1.out); rintro e w17 ⟨rfl, hb⟩; refine ⟨_, rfl, ?_⟩; replace BK150 := aM (bb BK150.out hb); replace HB := aM (bj HB.out hb); (try clear hb); obtain ⟨hcz18_0, hcz18_1, hfz18_0, hfz18_1⟩ := cf2 BK150.out) | ((with_reducible refine gate_callee (f := 9) rfl ?_); refine gL (some 13) Tryd.func9 #[.agg #[.int .i64 a0_0, .slice A0_1 l0_1.length c0_1]] ?_; (with_reducible refine (laws_toResResult.calls k a0_0 _ _ l0_1 t152 t153 _ ?side1 ?side2 A7.out).mono ?_); (case side1 => exact lC <| (Kd.C_below HR0_1.out HB.out)); (case side2 => exact HC0_1.out); rintro e w19 ⟨v154, rfl, ho0, hb⟩; refine ⟨_, rfl, ?_⟩; have HO155 := aM (Kd.R_lower ho0 (below_size (by exact jB HB.out))); replace BK150 := aM (bb BK150.out hb); replace HB := aM (bj HB.out hb); (try clear hb); (try clear ho0); obtain ⟨Ao20, co20, eo20⟩ := Kd.R_slice HO155.out; subst eo20) | ((with_reducible refine gate_callee (f := 8) rfl ?_); refine gL (some 14) Tryd.func8 #[.agg #[.int .i64 t152, .slice Ao20 t153.length co20]] ?_; (with_reducible refine (spec_ResText.calls k t152 _ _ t153 t156 _ ?side1 ?side2 A8.out).mono ?_); (case side1 => exact lC <| (Kd.R_reads' HO155.out).2.2); (case side2 => exact (Kd.R_reads' HO155.out).2.1); rintro e w21 ⟨rfl, hb⟩; refine ⟨_, rfl, ?_⟩; replace HO155 := aM (rb HO155.out hb); replace BK150 := aM (bb BK150.out hb); replace HB := aM (bj HB.out hb); (try clear hb); obtain ⟨hcz22_0, hcz22_1, hfz22_0, hfz22_1⟩ := cf2 BK150.out) | ((with_reducible refine gate_callee (f := 9) rfl ?_); refine gL (some 16) Tryd.func9 #[.agg #[.int .i64 a0_0, .slice A0_1 l0_1.length c0_1]] ?_; (with_reducible refine (laws_toResResult.calls k a0_0 _ _ l0_1 t157 t158 _ ?side1 ?side2 A9.out).mono ?_); (case side1 => exact lC <| (Kd.C_below HR0_1.out HB.out)); (case side2 => exact HC0_1.out); rintro e w23 ⟨v159, rfl, ho0, hb⟩; refine ⟨_, rfl, ?_⟩; have HO160 := aM (Kd.R_lower (Kd.R_new' ho0 (rl HO155.out)) (below_size (by exact jB HB.out))); replace HO155 := aM (Kd.R_elder' (by exact lR HO155.out) (Kd.R_base ho0) hb); replace BK150 := aM (bb BK150.out hb); replace HB := aM (bj HB.out hb); (try clear hb); (try clear ho0)) | ((with_reducible refine gate_dst (N := 5) rfl ?_); refine bx 5 #[.int .i64 0, .slice none 0 0] 27 ?_; intro gb161 hg w24 hbox hb; replace HO155 := aM (rb HO155.out hb); replace HO160 := aM (rb HO160.out hb); have BK161 := aM (hbox); have GW161 := aM ((gz hg HB.out)); have IGW161 : Nonempty _ := ⟨GW161.out⟩; have GE161 := aM ((gz hg HB.out)); have IGE161 : Nonempty _ := ⟨GE161.out⟩; replace HB := aM (bj HB.out hb); have NB150_161 := aM ((neL hg (lK BK150.out) : gb150 ≠ gb161)); have NB161_150 := aM ((neG hg (lK BK150.out) : gb161 ≠ gb150)); replace BK150 := aM (bb BK150.out hb); clear hb hbox hg; have hnb25 := NB161_150.out; have hnc25 := NB150_161.out; obtain ⟨hcz26_0, hcz26_1, hfz26_0, hfz26_1⟩ := cf2 BK161.out; obtain ⟨Ao27, co27, eo27⟩ := Kd.R_slice HO160.out; subst eo27) | ((with_reducible refine gate_callee (f := 10) rfl ?_); refine gL (some 18) Tryd.func10 #[.agg #[.int .i64 t157, .slice Ao27 t158.length co27]] ?_; (with_reducible refine (impl_ResText.calls k t157 _ _ t158 t162 _ ?side1 ?side2 A10.out (HTAB.out _ (by exact jB HB.out))).mono ?_); (case side1 => refine (Kd.R_reads' (e := 3) (base := w.heap.size) (ok := fun k_ => (True ∧ some k_ ≠ ownBlock (.slice Ao20 t153.length co20))) (n := t158.length) (c := co27) ?_).2.2; exact (qp (R2 HO160.out BK161.out))); (case side2 => exact (Kd.R_reads' HO160.out).2.1); rintro e w28 ⟨rfl, hb⟩; refine ⟨_, rfl, ?_⟩; replace HO155 := aM (Kd.R_below (qp (R2 HO155.out BK161.out)) hb); replace HO160 := aM (Kd.R_below (qp (R2 HO160.out BK161.out)) hb); replace BK150 := aM (blk_below (f2 (lK BK150.out) NB150_161.out) hb); replace BK161 := aM (blk_below (g := gb161) (o := .cells #[.int .i64 t157, .slice Ao27 t158.length co27] 27 (0, 0)) (by exact p2 (lK BK161.out)) hb); replace HB := aM (bj HB.out hb); (try clear hb)))
    replace HO155 := aM (Kd.R_drew HO155.out)
    replace HO160 := aM (Kd.R_drew HO160.out)
    replace BK150 := aM (blk_drew BK150.out)
    replace BK161 := aM (blk_drew BK161.out)
    replace HB := aM (below_drew1 HB.out)
    refine start_ (n := 5) (S := fun w' => w'.cell? ⟨gb161, 0, none⟩ = some (.int .i64 t157) ∧ w'.cell? ⟨gb161, 1, none⟩ = some (.slice Ao27 t158.length co27) ∧ w'.cell? ⟨gb150, 0, none⟩ = some (.int .i64 a0_0) ∧ w'.cell? ⟨gb150, 1, none⟩ = some (.slice A0_1 l0_1.length c0_1)) (ds := []) #[false, false, false, false, false] (by kernel_rfl) rfl rfl ⟨(blk_cell BK161.out 0).trans rfl, (blk_cell BK161.out 1).trans rfl, (blk_cell BK150.out 0).trans rfl, (blk_cell BK150.out 1).trans rfl⟩ (fun hHeld => ?_)
    generalize w28.drew = w29 at HO155 HO160 BK150 BK161 HB hHeld ⊢
    refine take_ (i := 0) (N := some 22) (v := ?_) (a' := ?_) #[true, false, false, false, false] rfl rfl (by kernel_rfl) (fun _ _ _ h => h) (Or.inl ⟨by rfl, ?_⟩) hHeld ?_ ?_
    rotate_left
    ·rintro w' ⟨s0, s1, s2, s3⟩
     go_simp
     with_reducible rfl
    rotate_left
    ·simp only [Act.put, sA, s0, sS, i64_w, i32_w]
     rfl
    refine take_ (i := 1) (N := some 23) (v := ?_) (a' := ?_) #[true, true, false, false, false] rfl rfl (by kernel_rfl) (fun _ _ _ h => h) (Or.inl ⟨by rfl, ?_⟩) hHeld ?_ ?_
    rotate_left
    ·rintro w' ⟨s0, s1, s2, s3⟩
     go_simp
     with_reducible rfl
    rotate_left
    ·simp only [Act.put, sA, s0, sS, i64_w, i32_w]
     rfl
    refine one_ (i := 2) (N := some 24) #[true, true, true, false, false] rfl rfl (by kernel_rfl) (by decide) (fun K hK => ?_)
    refine goes_ Tryd.func9 (by kernel_rfl) rfl #[.agg #[.int .i64 a0_0, .slice A0_1 l0_1.length c0_1]] (by rfl) rfl rfl (by (try simp only [mA, mC, mN]); first | done | rfl | (simp only [ld, lt]; rfl)) ?_
    with_reducible refine (laws_toResResult.calls k a0_0 _ _ l0_1 t163 t164 _ ?side1 ?side2 A12.out).mono ?_
    (case side1 => exact lC <| (Kd.C_below HR0_1.out HB.out))
    (case side2 => exact HC0_1.out)
    rintro e w30 ⟨v165, rfl, ho0, hb⟩
    refine ⟨_, rfl, ?_⟩
    have HO166 := aM (Kd.R_lower (Kd.R_new' (Kd.R_new' ho0 (rl HO155.out)) (rl HO160.out)) (below_size (by exact jB HB.out)))
    replace HO155 := aM (Kd.R_elder' (by exact lR HO155.out) (Kd.R_base ho0) hb)
    replace HO160 := aM (Kd.R_elder' (by exact lR HO160.out) (Kd.R_base ho0) hb)
    replace BK150 := aM (bb BK150.out hb)
    replace BK161 := aM (bb BK161.out hb)
    replace HB := aM (bj HB.out hb)
    (try clear hb)
    (try clear hb2)
    (try clear hk)
    (try clear hi)
    (try clear ho0)
    obtain ⟨Ao31, co31, eo31⟩ := Kd.R_slice HO166.out
    (first | subst eo31 | (injection eo31 with f1_ f2_ f3_; have f4_ := f1_.symm; have f5_ := f3_.symm; clear f1_ f2_ f3_; subst f4_; subst f5_))
    refine hK.out _ _ ⟨(blk_cell BK161.out 0).trans rfl, (blk_cell BK161.out 1).trans rfl, (blk_cell BK150.out 0).trans rfl, (blk_cell BK150.out 1).trans rfl⟩ (fun hHeld => ?_)
    clear hK K
    refine norm_ (a' := ?_) ?_ ?_
    rotate_left
    ·show Act.put _ (some 24) _ = _
     simp only [Act.put, sA, s0, sS, i64_w, i32_w]
     rfl
    refine one_ (i := 3) (N := some 25) #[true, true, true, true, false] rfl rfl (by kernel_rfl) (by decide) (fun K hK => ?_)
    refine goes_ Tryd.func11 (by kernel_rfl) rfl #[.agg #[.int .i64 t157, .slice Ao27 t158.length co27], .agg #[.int .i64 t163, .slice Ao31 t164.length co31]] (by rfl) rfl rfl (by (try simp only [mA, mC, mN]); first | done | rfl | (simp only [ld, lt]; rfl)) ?_
    with_reducible refine (laws_eqResResult.calls k t157 _ _ t158 t163 _ _ t164 true _ ?side1 ?side2 ?side3 ?side4 A13.out).mono ?_
    (case side1 => exact lC <| (Kd.R_reads' HO160.out).2.2)
    (case side2 => exact (Kd.R_reads' HO160.out).2.1)
    (case side3 => exact lC <| (Kd.R_reads' HO166.out).2.2)
    (case side4 => exact (Kd.R_reads' HO166.out).2.1)
    rintro e w32 ⟨rfl, hb⟩
    refine ⟨_, rfl, ?_⟩
    replace HO155 := aM (rb HO155.out hb)
    replace HO160 := aM (rb HO160.out hb)
    replace HO166 := aM (rb HO166.out hb)
    replace BK150 := aM (bb BK150.out hb)
    replace BK161 := aM (bb BK161.out hb)
    replace HB := aM (bj HB.out hb)
    (try clear hb)
    (try clear hb2)
    (try clear hk)
    (try clear hi)
    refine hK.out _ _ ⟨(blk_cell BK161.out 0).trans rfl, (blk_cell BK161.out 1).trans rfl, (blk_cell BK150.out 0).trans rfl, (blk_cell BK150.out 1).trans rfl⟩ (fun hHeld => ?_)
    clear hK K
    refine norm_ (a' := ?_) ?_ ?_
    rotate_left
    ·show Act.put _ (some 25) _ = _
     simp only [Act.put, sA, s0, sS, i64_w, i32_w]
     rfl
    refine pure_ (i := 4) (N := some 26) (v := ?_) (a' := ?_) #[true, true, true, true, true] rfl rfl (by kernel_rfl) (fun _ _ _ h => h) (Or.inl ⟨by rfl, ?_⟩) ?_ ?_
    rotate_left
    ·intro w'
     go_simp
     with_reducible rfl
    rotate_left
    ·simp only [Act.put, sA, s0, sS, i64_w, i32_w]
     rfl
    refine done_ (by kernel_rfl) ?_
    try go_wp2
    go_ret
    exact ⟨er, by exact jB HB.out⟩
   ·replace c14 := Bool.eq_false_iff.mpr c14
    subst c14
    rw [if_neg nf] at H
    try dsimp only at H
    exact absurd (Option.some.inj H) (by rw [hr.out]; decide)
  ·rw [if_neg c11] at H
   have c11b0 := beq_eq_false_iff_ne.mpr c11
   have c11b1 := bne_iff_ne.mpr c11
   exact absurd (Option.some.inj H) (by rw [hr.out]; decide)

/-- THE ONE PURE STATEMENT of laws_FnExactResText. -/
def laws_FnExactResText.Pure : Prop := ∀ (a0_0 : Int) (l0_1 : List Int), (Lit.int .i64 a0_0).wf = true → (l0_1.length ≤ 9223372036854775807 ∧ ∀ x0 ∈ l0_1, (Lit.int .i64 x0).wf = true) → ∃ k, laws_FnExactResText.f k a0_0 l0_1 = some true
theorem laws_FnExactResText.walk (P : laws_FnExactResText.Pure) (a0_0 : Int) (A0_1 : Option Addr) (c0_1 : Nat) (l0_1 : List Int) (w : World) (hr0_1 : Kd.C (Kd.int .i64) w A0_1 l0_1.length l0_1) (hc0_1 : l0_1.length ≤ c0_1) (hw0_0 : (Lit.int .i64 a0_0).wf = true) (hw0_1 : (l0_1.length ≤ 9223372036854775807 ∧ ∀ x0 ∈ l0_1, (Lit.int .i64 x0).wf = true)) (htab : Go.Lib.TabIs Tryd.prog w "internal/strconv.uint64pow10" .u64 Go.Lib.pow10Tab) :
  Calls Tryd.prog 3 #[.agg #[.int .i64 a0_0, .slice A0_1 l0_1.length c0_1]] w fun e w' => e = .returned (.bool true) ∧ Below w.heap.size w w' := by
 obtain ⟨k, h⟩ := P a0_0 l0_1 hw0_0 hw0_1
 refine (laws_FnExactResText.calls k a0_0 A0_1 c0_1 l0_1 true w ⟨rfl⟩ hr0_1 hc0_1 h htab).mono ?_
 rintro e w' ⟨rfl, hd⟩
 exact ⟨rfl, hd⟩

end Go.Proofs.YtcafmfmlnfaogaaDoor.QFnExactResText

-- shorter
