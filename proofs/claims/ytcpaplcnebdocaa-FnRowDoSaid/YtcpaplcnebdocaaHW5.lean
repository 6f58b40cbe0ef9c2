/- Shorter words, tried. -/
import Derived.Test.YtcpaplcnebdocaaHW4
namespace Go.Proofs.Ytcpaplcnebdocaa.HWords
open Go.RowKit Go.Proofs.YtcpaplcnebdocaaW.PrintWords Go.Proofs.YtcpaplcnebdocaaW.PrintLast Go.Proofs.YtcpaplcnebdocaaW.PrintMore
theorem cf4 {w : World} {g t : Nat} {a b c d : Value} (h : w.heap[g]? = some (.cells #[a, b, c, d] t (0, 0))) : w.cell? ⟨g, 0, none⟩ = some a ∧ w.cell? ⟨g, 1, none⟩ = some b ∧ w.cell? ⟨g, 2, none⟩ = some c ∧ w.cell? ⟨g, 3, none⟩ = some d ∧ w.frozen? ⟨g, 0, none⟩ = false ∧ w.frozen? ⟨g, 1, none⟩ = false ∧ w.frozen? ⟨g, 2, none⟩ = false ∧ w.frozen? ⟨g, 3, none⟩ = false := ⟨(blk_cell h 0).trans rfl, (blk_cell h 1).trans rfl, (blk_cell h 2).trans rfl, (blk_cell h 3).trans rfl, blk_frozen h 0, blk_frozen h 1, blk_frozen h 2, blk_frozen h 3⟩
section
variable {α : Type} {d : Kd α} {e base g : Nat} {W : World} {ok : Nat → Prop} {v : Value} {xs : List α}
theorem nf2 (h : Kd.N d e W base (fun k => ok k ∧ k ≠ g) v xs) (p q : Value) : Kd.N d e ((W.setCell ⟨g, 0, none⟩ p).setCell ⟨g, 1, none⟩ q) base (fun k => ok k ∧ k ≠ g) v xs := Kd.N_far (p := ⟨g, 1, none⟩) (Kd.N_far (p := ⟨g, 0, none⟩) h (fun _ h => h.2) p) (fun _ h => h.2) q
theorem nf3 (h : Kd.N d e W base (fun k => ok k ∧ k ≠ g) v xs) (p q r : Value) : Kd.N d e (((W.setCell ⟨g, 0, none⟩ p).setCell ⟨g, 1, none⟩ q).setCell ⟨g, 2, none⟩ r) base (fun k => ok k ∧ k ≠ g) v xs := Kd.N_far (p := ⟨g, 2, none⟩) (nf2 h p q) (fun _ h => h.2) r
theorem nf4 (h : Kd.N d e W base (fun k => ok k ∧ k ≠ g) v xs) (p q r s : Value) : Kd.N d e ((((W.setCell ⟨g, 0, none⟩ p).setCell ⟨g, 1, none⟩ q).setCell ⟨g, 2, none⟩ r).setCell ⟨g, 3, none⟩ s) base (fun k => ok k ∧ k ≠ g) v xs := Kd.N_far (p := ⟨g, 3, none⟩) (nf3 h p q r) (fun _ h => h.2) s
end
section
variable {P : Program} {ops : Array Oper} {rest : List Oper} {o : Oper} {a : Act} {Q : Exit → Act → World → Prop} {Kc : Act → World → Prop} {W : World}
theorem rlS (N : Tmp) (xs : List Int) (inner : List Value)
    (h : ∀ v1 w1, (Kd.int .i64).R 3 w1 W.heap.size (fun _ => True) v1 xs → Below W.heap.size W w1 → W.grownBy w1 none → (∃ b, v1.ownBlock = some b ∧ W.heap.size ≤ b) → Kc (a.put o.dst v1) w1)
    (hd : o.dst = some N := by rfl) (hw : Region.wanted o (yielded ops a.tmps) = true := by rfl)
    (hrun : (execOp a.eval o).run P W = .ok (.value (.slice (some ⟨W.heap.size, 0, none⟩) xs.length xs.length)) (W.alloc (.cells inner.toArray 3)) := by first | (go_simp; done) | (go_simp; rfl))
    (hi : encs (Value.int .i64) xs = inner := by rfl) (hm : xs.length ≤ 9223372036854775807 := by simp) : if Region.wanted o (yielded ops a.tmps) = true then Oper.wp P o a W Kc Q else Kc (a.put o.dst undef) W := by
  subst hi
  exact Kd.R_lit_step (Kd.int .i64) (w0 := W) W.heap.size 3 hw hd (ok := fun _ => True) (okp := fun _ => True) hrun (Kd.reps_scalar xs) (fun _ hk => hk) trivial (Below.refl _ _) (Nat.le_refl _) hm h
theorem rlW (N : Tmp) (xs : List Int) (inner : List Value)
    (h : ∀ v1 w1, (Kd.int .i64).R 3 w1 W.heap.size (fun _ => True) v1 xs → Below W.heap.size W w1 → W.grownBy w1 none → (∃ b, v1.ownBlock = some b ∧ W.heap.size ≤ b) → wpList P ops Q rest (a.put o.dst v1) w1)
    (hd : o.dst = some N := by rfl) (hgd : o.guard = none := by rfl)
    (hrun : (execOp a.eval o).run P W = .ok (.value (.slice (some ⟨W.heap.size, 0, none⟩) xs.length xs.length)) (W.alloc (.cells inner.toArray 3)) := by first | (go_simp; done) | (go_simp; rfl))
    (hi : encs (Value.int .i64) xs = inner := by rfl) (hm : xs.length ≤ 9223372036854775807 := by simp) : wpList P ops Q (o :: rest) a W := by
  subst hi
  exact Kd.R_lit (Kd.int .i64) (w0 := W) W.heap.size 3 hgd hd (ok := fun _ => True) (okp := fun _ => True) hrun (Kd.reps_scalar xs) (fun _ hk => hk) trivial (Below.refl _ _) (Nat.le_refl _) hm h
end
end Go.Proofs.Ytcpaplcnebdocaa.HWords
