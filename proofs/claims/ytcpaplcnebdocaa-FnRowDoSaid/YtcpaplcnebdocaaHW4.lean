/- Shorter words, tried. -/
import Derived.Test.YtcpaplcnebdocaaHW3
namespace Go.Proofs.Ytcpaplcnebdocaa.HWords
open Go.RowKit Go.Proofs.YtcpaplcnebdocaaW.PrintWords Go.Proofs.YtcpaplcnebdocaaW.PrintLast Go.Proofs.YtcpaplcnebdocaaW.PrintMore
theorem iD {α : Type} {p : Prop} [Decidable p] {a : Option α} {r : α} (h : (if p then a else none) = some r) : decide p = true ∧ a = some r := ⟨decide_eq_true (iN h).1, (iN h).2⟩
theorem wn {p : Prop} (h : p) : Nonempty p := ⟨h⟩
theorem rI {e : Nat} {w0 w W0 W w1 w2 : World} {g ea eb : Nat} {r : Option Nat} {P okA okB : Nat → Prop} {a b v : Value} {xs as bs : List Int} [Nonempty (KeepBut w W0 g r → KeepBut w W g r)] (ho : (Kd.int .i64).R e w1 w0.heap.size (fun k => ((some k = a.ownBlock ∨ some k = b.ownBlock) ∨ W.heap.size ≤ k) ∧ P k) v xs) (hA : (Kd.int .i64).R ea w2 w.heap.size okA a as) (hB : (Kd.int .i64).R eb w2 w.heap.size okB b bs) (hK : KeepBut w W0 g r) : (Kd.int .i64).R e w1 w.heap.size (fun k => w.heap.size ≤ k ∧ P k) v xs := by
  have hle : ∀ k, ((some k = a.ownBlock ∨ some k = b.ownBlock) ∨ W.heap.size ≤ k) → w.heap.size ≤ k := fun k h => Or.elim h (fun h => Or.elim h (fun e => Kd.R_base hA k e.symm) (fun e => Kd.R_base hB k e.symm)) (fun h => Nat.le_trans (ks hK) h)
  exact Kd.R_mono (Kd.R_raise (d := Kd.int .i64) (b := w0.heap.size) (b' := w.heap.size) (fun _ _ _ _ h => h) ho (fun k e_ => hle k (ho.1 k e_).1)) (fun k hk => ⟨hle k hk.1, hk.2⟩)
end Go.Proofs.Ytcpaplcnebdocaa.HWords
