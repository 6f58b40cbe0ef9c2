/- Shorter words, tried. -/
import Derived.Test.YtcpaplcnebdocaaHWords
import Derived.Test.YtcpaplcnebdocaaWTab
import Derived.Test.YtcpaplcnebdocaaWLast
namespace Go.Proofs.Ytcpaplcnebdocaa.HWords
open Go.RowKit Go.Proofs.YtcpaplcnebdocaaW.PrintWords Go.Proofs.YtcpaplcnebdocaaW.PrintLast Go.Proofs.YtcpaplcnebdocaaW.PrintMore
section
variable {P : Program} {ops : Array Oper} {Q : Exit → Act → World → Prop} {S : World → Prop} {ds : List Nat} {T : Bool × List (List Nat × List Nat)} {B : List Nat}
theorem pu {oi : Oper} {v : Value} {fuel : Nat} {l l' : Array Bool} {a a' : Act} {w : World} (i : Nat) (N : Option Tmp) (hT : rtab .any ops = T) (h : wpAnyLast P .any ops Q S ds fuel l' a' w) (hi : ops[i]? = some oi := by rfl) (hN : oi.dst = N := by rfl) (hl : l.setIfInBounds i true = l' := by simp only [sA, s0, sS]; rfl) (hc : anyT T l.toList l'.toList i = true := by kernel_rfl) (hQ : ∀ c a w, Q (.panic c) (a.put oi.dst v) w → Q (.panic c) a w := by exact fun _ _ _ h => h) (hy : Yields P ops oi v a := by refine Or.inl ⟨by rfl, ?_⟩; intro w'; go_simp; with_reducible rfl) (ha : a.put N v = a' := by simp only [Act.put, sA, s0, sS, i64_w, i32_w]; rfl) : wpAnyLast P .any ops Q S ds (fuel + 1) l a w :=
  pure_ l' hi hN (any_of hT hc) hQ hy ha h
theorem nm {fuel : Nat} {l : Array Bool} {a a' : Act} {v : Value} {M : Option Tmp} {w : World} (N : Option Tmp) (h : wpAnyLast P .any ops Q S ds fuel l a' w) (hM : M = N := by rfl) (ha : a.put N v = a' := by simp only [Act.put, sA, s0, sS, i64_w, i32_w]; rfl) : wpAnyLast P .any ops Q S ds fuel l (a.put M v) w := by
  subst hM
  exact norm_ ha h
end
theorem lV {α : Type} {d : Kd α} {e base : Nat} {w w' : World} {ok : Nat → Prop} {v : Value} {xs : List α} [hl : Nonempty (Below w.heap.size w w')] (h : Kd.V d e w base ok v xs) : Kd.V d e w' base ok v xs := hl.elim fun hb => Kd.V_below h hb
theorem od {p : Prop} [Decidable p] (h : decide p = true := by first | (with_reducible assumption) | assumption) : p := of_decide_eq_true h
theorem ks {w W W' : World} {g : Nat} {r : Option Nat} [Nonempty (KeepBut w W g r → KeepBut w W' g r)] (h : KeepBut w W g r) : w.heap.size ≤ W'.heap.size := keep_size (jK (W' := W') h)
theorem bz {u w w' : World} [Nonempty (Below u.heap.size u w → Below u.heap.size u w')] (x : Below u.heap.size u w) : u.heap.size ≤ w'.heap.size := below_size (jB (w' := w') x)
end Go.Proofs.Ytcpaplcnebdocaa.HWords
