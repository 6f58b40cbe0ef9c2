/- Plain functions, and that the Go code computes them: written by a program of this session over the seat's translation; the conditions stand in each theorem. -/
import Derived.Test.YtcpaplcnebdocaaHW4
import Derived.Test.YtcpaplcnebdocaaQFnTrtKeepsx0
import Derived.Test.YtcpaplcnebdocaaQFnTrtKeepsx8
namespace Go.Proofs.Ytcpaplcnebdocaa.QFnTrtKeeps
open Go.RowKit Go.Proofs.YtcpaplcnebdocaaW.PrintWords Go.Proofs.YtcpaplcnebdocaaW.PrintLast Go.Proofs.YtcpaplcnebdocaaW.PrintMore Go.Proofs.Ytcpaplcnebdocaa.HWords
attribute [local go_sem] max2_int min2_int max_two min_two max_three min_three max_four min_four   -- for this text's walks alone
set_option linter.unusedVariables false
set_option linter.unusedSimpArgs false
/-! ### spec_CatHas: function 84 -/
def spec_CatHas.l0 : Nat → List (List Int) → List Int → Int → Option (Int)
 | 0, _, _, _ => none
 | k + 1, x0, x1, x5 => if x5 < (x0.length : Int) then (if 0 ≤ x5 then ((spec_l4Same.f k (rd_L2 x0 x5) x1).bind fun t430 => (if t430 = true then (some x5) else (spec_CatHas.l0 k x0 x1 (wrap64 (x5 + 1))))) else (none)) else (some (-1))
def spec_CatHas.f (k : Nat) (l0 : List (List Int)) (l1 : List Int) : Option (Int) := spec_CatHas.l0 k l0 l1 0
set_option maxHeartbeats 8000000 in
set_option maxRecDepth 100000 in
theorem spec_CatHas.calls (k : Nat) (A0 : Option Addr) (c0 : Nat) (l0 : List (List Int)) (A1 : Option Addr) (c1 : Nat) (l1 : List Int) (r : Int) (w : World) (hr0 : Kd.C (Kd.slice 3 (Kd.int .i64)) w A0 l0.length l0) (hc0 : l0.length ≤ c0) (hr1 : Kd.C (Kd.int .i64) w A1 l1.length l1) (hc1 : l1.length ≤ c1) (h : spec_CatHas.f k l0 l1 = some r) :
  Calls Try.prog 84 #[.slice A0 l0.length c0, .slice A1 l1.length c1] w fun e w' => e = .returned (.int .i64 r) ∧ Drawn0 w w' := by
 have HR0 := aM hr0; have HC0 := aM hc0; clear hr0 hc0; have HR1 := aM hr1; have HC1 := aM hc1; clear hr1 hc1; have H : (spec_CatHas.l0 k l0 l1 0) = some r := h
 clear h; have H' := aM H
 clear H; go_enter Try.func84, Try.ntmps84
 go_wp2
 go_loopg [5] k (fun kq v5 w' => ∃ (x5_1 : Int), v5 = .int .i64 x5_1 ∧ Aside0 (spec_CatHas.l0 kq l0 l1 x5_1 = some r) ∧ Aside0 (kq ≤ k) ∧ Drawn0 w w')
 case atStart => exact ⟨(0), sr, H', ⟨Nat.le_refl _⟩, by repeat (first | exact Drawn0.refl _ | apply Drawn0.step)⟩
 case round =>
  clear H'
  (try clear c1); (try clear p2)
  obtain ⟨x5_1, rfl, HA, HK1, ⟨m1, rfl⟩⟩ := hrel
  cases gk with
  | zero => exact absurd HA.out (by simp [spec_CatHas.l0])
  | succ k1 =>
   have H := HA.out
   clear HA; simp only [spec_CatHas.l0] at H
   by_cases c3 : x5_1 < (l0.length : Int)
   ·rw [if_pos c3] at H; replace c3 := decide_eq_true c3; obtain ⟨c4, H⟩ := iD H; obtain ⟨t430, A5, H⟩ := bS H
    try dsimp only at H
    by_cases c6 : t430 = true
    ·subst c6; rw [if_pos rfl] at H
     try dsimp only at H
     obtain rfl := Option.some.inj H
     have p429 : 0 ≤ (x5_1 : Int) := od; have q429 : x5_1 < (l0.length : Int) := od; obtain ⟨ad429, A429_0, c429_0, e429, hx429_0, hl429_0, hi429_0⟩ := at_L2 HR0.out x5_1 p429 q429
     cases e429; have HR429_0 := aM hi429_0; have HC429_0 := aM hl429_0; clear hi429_0 hl429_0; replace p429 := eq_true p429; replace q429 := eq_true q429; go_wp2_with (first | (refine gL (some 17) Try.func85 #[.slice A429_0 (rd_L2 l0 x5_1).length c429_0, .slice A1 l1.length c1] ?_; (with_reducible refine (spec_l4Same.calls k1 _ _ (rd_L2 l0 x5_1) _ _ l1 true _ (by exact lC HR429_0.out) HC429_0.out (by exact lC HR1.out) HC1.out A5.out).mono ?_); rintro e w' ⟨rfl, ⟨nd, rfl⟩⟩; refine ⟨_, rfl, ?_⟩))
     go_ret
     exact ⟨by first | rfl | (simp; done) | (simp [*]; done), by repeat (first | exact Drawn0.refl _ | apply Drawn0.step)⟩
    ·replace c6 := Bool.eq_false_iff.mpr c6
     subst c6; rw [if_neg nf] at H
     try dsimp only at H
     have H' := aM H
     clear H; have p429 : 0 ≤ (x5_1 : Int) := od; have q429 : x5_1 < (l0.length : Int) := od; obtain ⟨ad429, A429_0, c429_0, e429, hx429_0, hl429_0, hi429_0⟩ := at_L2 HR0.out x5_1 p429 q429
     cases e429; have HR429_0 := aM hi429_0; have HC429_0 := aM hl429_0; clear hi429_0 hl429_0; replace p429 := eq_true p429; replace q429 := eq_true q429; go_wp2_with (first | (refine gL (some 17) Try.func85 #[.slice A429_0 (rd_L2 l0 x5_1).length c429_0, .slice A1 l1.length c1] ?_; (with_reducible refine (spec_l4Same.calls k1 _ _ (rd_L2 l0 x5_1) _ _ l1 false _ (by exact lC HR429_0.out) HC429_0.out (by exact lC HR1.out) HC1.out A5.out).mono ?_); rintro e w' ⟨rfl, ⟨nd, rfl⟩⟩; refine ⟨_, rfl, ?_⟩))
     go_roundg k1
     case measure => have := HK1.out; omega
     case rel => exact ⟨(wrap64 (x5_1 + 1)), sr, H', ⟨by have := HK1.out; omega⟩, by repeat (first | exact Drawn0.refl _ | apply Drawn0.step)⟩
   ·rw [if_neg c3] at H; replace c3 := decide_eq_false c3; obtain rfl := Option.some.inj H
    go_wp2
    go_ret
    exact ⟨by first | rfl | (simp; done) | (simp [*]; done), by repeat (first | exact Drawn0.refl _ | apply Drawn0.step)⟩
end Go.Proofs.Ytcpaplcnebdocaa.QFnTrtKeeps
-- shorter
