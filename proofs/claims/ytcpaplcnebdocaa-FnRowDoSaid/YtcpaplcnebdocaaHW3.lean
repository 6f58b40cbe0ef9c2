/- Shorter words, tried. -/
import Derived.Test.YtcpaplcnebdocaaHW2
namespace Go.Proofs.Ytcpaplcnebdocaa.HWords
open Go.RowKit Go.Proofs.YtcpaplcnebdocaaW.PrintWords Go.Proofs.YtcpaplcnebdocaaW.PrintLast Go.Proofs.YtcpaplcnebdocaaW.PrintMore
section
variable {P : Program} {ops : Array Oper} {Q : Exit → Act → World → Prop} {S : World → Prop} {ds : List Nat} {T : Bool × List (List Nat × List Nat)} {B : List Nat} {oi oj : Oper} {fuel : Nat} {l l' : Array Bool} {a a' : Act} {w : World} {v : Value}
theorem tk (i : Nat) (N : Option Tmp) (hT : rtab .any ops = T) (hB : waitsOk T.2 B = true) (hS : S w) (h : wpAnyLast P .any ops Q S ds fuel l' a' w) (hi : ops[i]? = some oi := by rfl) (hN : oi.dst = N := by rfl) (hl : l.setIfInBounds i true = l' := by simp only [sA, s0, sS]; rfl) (hc : takeW T B ds l.toList l'.toList i = true := by kernel_rfl) (hQ : ∀ c a w, Q (.panic c) (a.put oi.dst v) w → Q (.panic c) a w := by exact fun _ _ _ h => h) (hy : YieldsIf P ops S oi v a := by refine Or.inl ⟨by rfl, ?_⟩; rintro w' hs_; repeat (obtain ⟨_, hs_⟩ := hs_); go_simp; with_reducible rfl) (ha : a.put N v = a' := by simp only [Act.put, sA, s0, sS, i64_w, i32_w]; rfl) : wpAnyLast P .any ops Q S ds (fuel + 1) l a w :=
  take_ l' hi hN (take_ofW hT hB hc) hQ hy hS ha h
theorem oN (i : Nat) (N : Option Tmp) (hT : rtab .any ops = T) (h : ∀ K : Act → World → Prop, Shut (∀ a' w', S w' → (S w' → wpAnyLast P .any ops Q S ds fuel l' a' w') → K a' w') → if Region.wanted oi (yielded ops a.tmps) = true then Oper.wp P oi a w K Q else K (a.put N undef) w) (hi : ops[i]? = some oi := by rfl) (hN : oi.dst = N := by rfl) (hl : l.setIfInBounds i true = l' := by simp only [sA, s0, sS]; rfl) (hc : (readyT T.2 l.toList == [i] && l.toList.set i true == l'.toList) = true := by kernel_rfl) (hd : i ∉ ds := by decide) : wpAnyLast P .any ops Q S ds (fuel + 1) l a w :=
  one_ l' hi hN (one_of hT hc) hd h
theorem tW {li lj : Array Bool} (i j : Nat) (Ni Nj : Option Tmp) (hT : rtab .any ops = T) (h1 : ∀ K : Act → World → Prop, Shut (∀ a' w', S w' → (S w' → wpAnyLast P .any ops Q S ds fuel li a' w') → K a' w') → if Region.wanted oi (yielded ops a.tmps) = true then Oper.wp P oi a w K Q else K (a.put Ni undef) w) (h2 : ∀ K : Act → World → Prop, Shut (∀ a' w', S w' → (S w' → wpAnyLast P .any ops Q S ds fuel lj a' w') → K a' w') → if Region.wanted oj (yielded ops a.tmps) = true then Oper.wp P oj a w K Q else K (a.put Nj undef) w) (hi : ops[i]? = some oi := by rfl) (hj : ops[j]? = some oj := by rfl) (hNi : oi.dst = Ni := by rfl) (hNj : oj.dst = Nj := by rfl) (hli : l.setIfInBounds i true = li := by simp only [sA, s0, sS]; rfl) (hlj : l.setIfInBounds j true = lj := by simp only [sA, s0, sS]; rfl) (hc : (readyT T.2 l.toList == [i, j] && l.toList.set i true == li.toList && l.toList.set j true == lj.toList) = true := by kernel_rfl) (hdi : i ∉ ds := by decide) (hdj : j ∉ ds := by decide) : wpAnyLast P .any ops Q S ds (fuel + 1) l a w :=
  two_ li lj hi hj hNi hNj (two_of hT hc) hdi hdj h1 h2
theorem gO {N : Option Tmp} {K : Act → World → Prop} {f : FuncId} {fn : Func} {as : Array Operand} {ts : Array TypeId} (hf : P.funcs[f]? = some fn) (args : Array Value) (h : Calls P f args w fun e w' => ∃ v, e = .returned v ∧ K (a.put N v) w') (hname : (fn.name == "runtime.NumGoroutine") = false := by kernel_rfl) (hb : fn.body.isSome = true := by rfl) (hw : Region.wanted oi (yielded ops a.tmps) = true := by rfl) (hN : oi.dst = N := by rfl) (hop : oi.op = .call { callee := .value (.func f), args := as, argTypes := ts } := by rfl) (hargs : as.map a.eval = args := by (try simp only [mA, mC, mN]); first | done | rfl | (simp only [ld, lt]; rfl)) : if Region.wanted oi (yielded ops a.tmps) = true then Oper.wp P oi a w K Q else K (a.put N undef) w :=
  goes_ hf hname hb args hw hN hop hargs h
theorem nj (h : wpAnyLast P .any ops Q S ds fuel l a' w) (ha : a = a' := by first | (simp only [putAll, Act.put, List.setIfInBounds_toArray, List.set_cons_zero, List.set_cons_succ]; done) | (simp only [putAll, Act.put, List.setIfInBounds_toArray, List.set_cons_zero, List.set_cons_succ]; rfl)) : wpAnyLast P .any ops Q S ds fuel l a w := norm_ ha h
theorem np (h : wpAnyLast P .any ops Q S ds fuel l a' w) (ha : a = a' := by simp only [putAll, Act.put, List.setIfInBounds_toArray, List.set_cons_zero, List.set_cons_succ]; rfl) : wpAnyLast P .any ops Q S ds fuel l a w := norm_ ha h
end
theorem cb {w w' : World} {p : Addr} {v : Value} (hb : Below w.heap.size w w') (hx : w.cell? p = some v) : w'.cell? p = some v := (hb.cell (World.block_lt_of_cell? _ _ hx)).trans hx
theorem sr {α : Type} {a b : α} (h : a = b := by first | rfl | (simp; done) | (simp [*]; done)) : a = b := h
theorem iN {α : Type} {p : Prop} [Decidable p] {a : Option α} {r : α} (h : (if p then a else none) = some r) : p ∧ a = some r := by
  by_cases c : p
  · rw [if_pos c] at h
    exact ⟨c, h⟩
  · rw [if_neg c] at h
    cases h
theorem fs {e : Nat} {w : World} {b : Nat} {ok : Nat → Prop} {α : Type} {d : Kd α} {A : Option Addr} {c : Nat} {xs : List α} (h : d.R e w b ok (.slice A xs.length c) xs) : Kd.FK (Kd.slice e d) w ok xs [.slice A xs.length c] := Kd.FK_slice_mk (Kd.R_reads' h).2.1 (Kd.R_F h)
section
variable {α : Type} {d : Kd α} {e : Nat} {w W0 W w1 : World} {ok : Nat → Prop} {v : Value} {xs : List α}
theorem nB [Nonempty (Below w.heap.size w W0 → Below w.heap.size w W)] (h : d.R e w1 W.heap.size ok v xs) (hB : Below w.heap.size w W0) : d.R e w1 w.heap.size (fun k => w.heap.size ≤ k ∧ ok k) v xs := Kd.R_lower (Kd.R_newM (M := fun k_ => w.heap.size ≤ k_) h (bz hB) (fun _ h_ => h_)) (bz hB)
theorem nB1 {u : Value} [Nonempty (Below w.heap.size w W0 → Below w.heap.size w W)] (h : d.R e w1 W.heap.size ok v xs) (hB : Below w.heap.size w W0) (hu : ∀ k, u.ownBlock = some k → k < W.heap.size) : d.R e w1 w.heap.size (fun k => (w.heap.size ≤ k ∧ ok k) ∧ some k ≠ u.ownBlock) v xs := Kd.R_lower (Kd.R_new' (Kd.R_newM (M := fun k_ => w.heap.size ≤ k_) h (bz hB) (fun _ h_ => h_)) hu) (bz hB)
theorem nB2 {u u' : Value} [Nonempty (Below w.heap.size w W0 → Below w.heap.size w W)] (h : d.R e w1 W.heap.size ok v xs) (hB : Below w.heap.size w W0) (hu : ∀ k, u.ownBlock = some k → k < W.heap.size) (hu' : ∀ k, u'.ownBlock = some k → k < W.heap.size) : d.R e w1 w.heap.size (fun k => ((w.heap.size ≤ k ∧ ok k) ∧ some k ≠ u.ownBlock) ∧ some k ≠ u'.ownBlock) v xs := Kd.R_lower (Kd.R_new' (Kd.R_new' (Kd.R_newM (M := fun k_ => w.heap.size ≤ k_) h (bz hB) (fun _ h_ => h_)) hu) hu') (bz hB)
end
end Go.Proofs.Ytcpaplcnebdocaa.HWords
