/- Where a predicate first holds in a list: the plain words for slices.IndexFunc and slices.ContainsFunc. -/
import Derived.Test.YtcpaplcnebdocaaWWords
import Derived.Test.YtcpaplcnebdocaaWLast
import Derived.Test.YtcpaplcnebdocaaWApart
import Derived.Test.YtcpaplcnebdocaaWKept
import Derived.Test.YtcpaplcnebdocaaWMore
import Derived.Test.YtcpaplcnebdocaaWN
import Derived.WalkKit
import Derived.Below
import Derived.KernelRfl
namespace Go.Proofs.Ytcpaplcnebdocaa.HWords
open Go.RowKit Go.Proofs.YtcpaplcnebdocaaW.PrintWords Go.Proofs.YtcpaplcnebdocaaW.PrintLast Go.Proofs.YtcpaplcnebdocaaW.PrintMore

def idxOf {α : Type} (q : α → Bool) (xs : List α) : Int := match xs.findIdx? q with | some i => (i : Int) | none => -1
theorem idxOf_hit {α : Type} {q : α → Bool} {xs : List α} (d : α) (i : Int) (h0 : 0 ≤ i) (h1 : i < (xs.length : Int)) (hq : q (xs.getD i.toNat d) = true) (hno : ∀ j : Int, 0 ≤ j → j < i → q (xs.getD j.toNat d) = false) : idxOf q xs = i := by
  unfold idxOf
  have hf : xs.findIdx? q = some i.toNat := by
    rw [List.findIdx?_eq_some_iff_getElem]
    have hl : i.toNat < xs.length := by omega
    refine ⟨hl, ?_, fun j hj => ?_⟩
    · rw [List.getD_eq_getElem?_getD, List.getElem?_eq_getElem hl] at hq
      exact hq
    · have h2 := hno (j : Int) (by omega) (by omega)
      have hjl : j < xs.length := by omega
      rw [show ((j : Int)).toNat = j from by omega, List.getD_eq_getElem?_getD, List.getElem?_eq_getElem hjl] at h2
      simpa using h2
  rw [hf]
  simp only
  omega
theorem idxOf_miss {α : Type} {q : α → Bool} {xs : List α} (d : α) (hno : ∀ j : Int, 0 ≤ j → j < (xs.length : Int) → q (xs.getD j.toNat d) = false) : idxOf q xs = -1 := by
  unfold idxOf
  have hf : xs.findIdx? q = none := by
    rw [List.findIdx?_eq_none_iff]
    intro x hx
    obtain ⟨j, hj, rfl⟩ := List.mem_iff_getElem.mp hx
    have h2 := hno (j : Int) (by omega) (by omega)
    rw [show ((j : Int)).toNat = j from by omega, List.getD_eq_getElem?_getD, List.getElem?_eq_getElem hj] at h2
    simpa using h2
  rw [hf]
theorem idxOf_any {α : Type} (q : α → Bool) (xs : List α) : decide (0 ≤ idxOf q xs) = xs.any q := by
  unfold idxOf
  cases h : xs.findIdx? q with
  | none =>
    rw [List.findIdx?_eq_none_iff] at h
    have : xs.any q = false := by rw [List.any_eq_false]; intro x hx; rw [h x hx]; decide
    rw [this]; rfl
  | some i =>
    rw [List.findIdx?_eq_some_iff_getElem] at h
    obtain ⟨hl, hq, _⟩ := h
    have : xs.any q = true := List.any_eq_true.mpr ⟨_, List.getElem_mem hl, hq⟩
    rw [this]
    simp
theorem mem_rd {α : Type} (d : α) (xs : List α) (i : Int) (h0 : 0 ≤ i) (h1 : i < (xs.length : Int)) : xs.getD i.toNat d ∈ xs := by
  have hl : i.toNat < xs.length := by omega
  rw [List.getD_eq_getElem?_getD, List.getElem?_eq_getElem hl]
  exact List.getElem_mem hl
/-! What has only been laid down or drawn since: facts go on by themselves. -/
instance later_refl (w : World) : Nonempty (Below w.heap.size w w) := ⟨Below.refl _ _⟩
instance later_alloc (u w : World) (o : Obj) [h : Nonempty (Below u.heap.size u w)] : Nonempty (Below u.heap.size u (w.alloc o)) := h.elim fun x => ⟨below_alloc x o⟩
instance later_drew (u w : World) [h : Nonempty (Below u.heap.size u w)] : Nonempty (Below u.heap.size u w.drew) := h.elim fun x => ⟨below_drew x⟩
instance later_drewN (u w : World) (n : Nat) [h : Nonempty (Below u.heap.size u w)] : Nonempty (Below u.heap.size u (w.drewN n)) := h.elim fun x => ⟨pw_below_drewN x n⟩
theorem lR {α : Type} {d : Kd α} {e base : Nat} {w w' : World} {ok : Nat → Prop} {v : Value} {xs : List α} [hl : Nonempty (Below w.heap.size w w')] (h : d.R e w base ok v xs) : d.R e w' base ok v xs := hl.elim fun hb => Kd.R_below h hb
theorem lS {α : Type} {d : Kd α} {e base : Nat} {w w' : World} {ok : Nat → Prop} {v : Value} {xs : List α} [hl : Nonempty (Below w.heap.size w w')] (h : d.S e w base ok v xs) : d.S e w' base ok v xs := hl.elim fun hb => Kd.S_below h hb
theorem lN {α : Type} {d : Kd α} {e base : Nat} {w w' : World} {ok : Nat → Prop} {v : Value} {xs : List α} [hl : Nonempty (Below w.heap.size w w')] (h : Kd.N d e w base ok v xs) : Kd.N d e w' base ok v xs := hl.elim fun hb => Kd.N_below h hb
theorem lC {α : Type} {d : Kd α} {A : Option Addr} {n : Nat} {w w' : World} {xs : List α} [hl : Nonempty (Below w.heap.size w w')] (h : d.C w A n xs) : d.C w' A n xs := hl.elim fun hb => Kd.C_below h hb
theorem lK {w w' : World} {g : Nat} {o : Obj} [hl : Nonempty (Below w.heap.size w w')] (h : w.heap[g]? = some o) : w'.heap[g]? = some o := hl.elim fun hb => blk_below h hb
theorem lB {u w w' : World} [hl : Nonempty (Below w.heap.size w w')] (h : Below u.heap.size u w) : Below u.heap.size u w' := hl.elim fun hb => below_step h hb
theorem ob (A : Option Addr) (n m c : Nat) : (Value.slice A n c).ownBlock = (Value.slice A m c).ownBlock := by cases A <;> rfl
theorem ra {α : Type} {d : Kd α} {e base : Nat} {w : World} {ok : Nat → Prop} {v : Value} {xs : List α} (h : d.R e w base ok v xs) (o : Obj) : d.R e (w.alloc o) base ok v xs := Kd.R_alloc h o
theorem rn {α : Type} {d : Kd α} {e base : Nat} {w : World} {ok : Nat → Prop} {v : Value} {xs : List α} (h : d.R e w base ok v xs) (n : Nat) : d.R e (w.drewN n) base ok v xs := Kd.R_drewN h n
theorem re {α : Type} {d : Kd α} {e base : Nat} {w : World} {ok : Nat → Prop} {v : Value} {xs : List α} (h : d.R e w base ok v xs) : d.R e w.drew base ok v xs := Kd.R_drew h
theorem R3 {α : Type} {d : Kd α} {e : Nat} {w : World} {base : Nat} {ok : Nat → Prop} {v : Value} {xs : List α} {g T : Nat} {cs : Array Value} {x y z : Value} (h : d.R e w base ok v xs) (hb : w.heap[g]? = some (.cells cs T (0, 0))) (hT : ∀ q, q ∈ e :: d.E → q ≠ T := by decide) :
    d.R e (((w.setCell ⟨g, 0, none⟩ x).setCell ⟨g, 1, none⟩ y).setCell ⟨g, 2, none⟩ z) base ok v xs :=
  Kd.R_mono (Kd.R_far (p := ⟨g, 2, none⟩) (Kd.R_far (p := ⟨g, 1, none⟩) (Kd.R_far (p := ⟨g, 0, none⟩) (Kd.R_types h hb hT) (fun _ hk => hk.2) x) (fun _ hk => hk.2) y) (fun _ hk => hk.2) z) (fun _ hk => hk.1)
theorem neL {W : World} {g g' : Nat} {o : Obj} (hg : g' = W.heap.size) (h : W.heap[g]? = some o) : g ≠ g' := by rw [hg]; exact Nat.ne_of_lt (blk_lt h)
theorem neG {W : World} {g g' : Nat} {o : Obj} (hg : g' = W.heap.size) (h : W.heap[g]? = some o) : g' ≠ g := by rw [hg]; exact Nat.ne_of_gt (blk_lt h)
/-! shorter words (comp.py) -/
instance bi_refl (u w : World) : Nonempty (Below u.heap.size u w → Below u.heap.size u w) := ⟨id⟩
instance bi_alloc (u w w' : World) (o : Obj) [h : Nonempty (Below u.heap.size u w → Below u.heap.size u w')] : Nonempty (Below u.heap.size u w → Below u.heap.size u (w'.alloc o)) := h.elim fun f => ⟨fun x => below_alloc (f x) o⟩
instance bi_drew (u w w' : World) [h : Nonempty (Below u.heap.size u w → Below u.heap.size u w')] : Nonempty (Below u.heap.size u w → Below u.heap.size u w'.drew) := h.elim fun f => ⟨fun x => below_drew (f x)⟩
instance bi_drewN (u w w' : World) (n : Nat) [h : Nonempty (Below u.heap.size u w → Below u.heap.size u w')] : Nonempty (Below u.heap.size u w → Below u.heap.size u (w'.drewN n)) := h.elim fun f => ⟨fun x => pw_below_drewN (f x) n⟩
instance bi_set (u w w' : World) (b j : Nat) (v : Value) [h : Nonempty (Below u.heap.size u w → Below u.heap.size u w')] [hg : Nonempty (u.heap.size ≤ b)] : Nonempty (Below u.heap.size u w → Below u.heap.size u (w'.setCell ⟨b, j, none⟩ v)) := h.elim fun f => hg.elim fun e => ⟨fun x => (f x).setCell (p := ⟨b, j, none⟩) e v⟩
theorem jB {u w w' : World} [h : Nonempty (Below u.heap.size u w → Below u.heap.size u w')] (x : Below u.heap.size u w) : Below u.heap.size u w' := h.elim fun f => f x
instance ki_refl (w W : World) (g : Nat) (r : Option Nat) : Nonempty (KeepBut w W g r → KeepBut w W g r) := ⟨id⟩
instance ki_alloc (w W W' : World) (g : Nat) (o : Obj) [h : Nonempty (KeepBut w W g none → KeepBut w W' g none)] : Nonempty (KeepBut w W g none → KeepBut w (W'.alloc o) g none) := h.elim fun f => ⟨fun x => keep_alloc (f x) o⟩
instance ki_drew (w W W' : World) (g : Nat) (r : Option Nat) [h : Nonempty (KeepBut w W g r → KeepBut w W' g r)] : Nonempty (KeepBut w W g r → KeepBut w W'.drew g r) := h.elim fun f => ⟨fun x => keep_drew (f x)⟩
instance ki_drewN (w W W' : World) (g : Nat) (r : Option Nat) (n : Nat) [h : Nonempty (KeepBut w W g r → KeepBut w W' g r)] : Nonempty (KeepBut w W g r → KeepBut w (W'.drewN n) g r) := h.elim fun f => ⟨fun x => keep_drewN (f x) n⟩
instance ki_far (w W W' : World) (g : Nat) (r : Option Nat) (b j : Nat) (u : Value) [h : Nonempty (KeepBut w W g r → KeepBut w W' g r)] [hg : Nonempty (w.heap.size ≤ b)] : Nonempty (KeepBut w W g r → KeepBut w (W'.setCell ⟨b, j, none⟩ u) g r) := h.elim fun f => hg.elim fun e => ⟨fun x => keep_far (p := ⟨b, j, none⟩) (f x) e u⟩
instance ki_set (w W W' : World) (g : Nat) (r : Option Nat) (j : Nat) (u : Value) [h : Nonempty (KeepBut w W g r → KeepBut w W' g r)] : Nonempty (KeepBut w W g r → KeepBut w (W'.setCell ⟨g, j, none⟩ u) g r) := h.elim fun f => ⟨fun x => KeepBut.set_ (f x) j u⟩
theorem jK {w W W' : World} {g : Nat} {r : Option Nat} [h : Nonempty (KeepBut w W g r → KeepBut w W' g r)] (x : KeepBut w W g r) : KeepBut w W' g r := h.elim fun f => f x
theorem cf2 {w : World} {g t : Nat} {a b : Value} (h : w.heap[g]? = some (.cells #[a, b] t (0, 0))) : w.cell? ⟨g, 0, none⟩ = some a ∧ w.cell? ⟨g, 1, none⟩ = some b ∧ w.frozen? ⟨g, 0, none⟩ = false ∧ w.frozen? ⟨g, 1, none⟩ = false := ⟨(blk_cell h 0).trans rfl, (blk_cell h 1).trans rfl, blk_frozen h 0, blk_frozen h 1⟩
theorem cz3 {w : World} {g t : Nat} {a b c : Value} (h : w.heap[g]? = some (.cells #[a, b, c] t (0, 0))) : w.cell? ⟨g, 0, none⟩ = some a ∧ w.cell? ⟨g, 1, none⟩ = some b ∧ w.cell? ⟨g, 2, none⟩ = some c := ⟨(blk_cell h 0).trans rfl, (blk_cell h 1).trans rfl, (blk_cell h 2).trans rfl⟩
theorem cf3 {w : World} {g t : Nat} {a b c : Value} (h : w.heap[g]? = some (.cells #[a, b, c] t (0, 0))) : w.cell? ⟨g, 0, none⟩ = some a ∧ w.cell? ⟨g, 1, none⟩ = some b ∧ w.cell? ⟨g, 2, none⟩ = some c ∧ w.frozen? ⟨g, 0, none⟩ = false ∧ w.frozen? ⟨g, 1, none⟩ = false ∧ w.frozen? ⟨g, 2, none⟩ = false := ⟨(blk_cell h 0).trans rfl, (blk_cell h 1).trans rfl, (blk_cell h 2).trans rfl, blk_frozen h 0, blk_frozen h 1, blk_frozen h 2⟩
theorem cz6 {w : World} {g t : Nat} {a b c d e f : Value} (h : w.heap[g]? = some (.cells #[a, b, c, d, e, f] t (0, 0))) : w.cell? ⟨g, 0, none⟩ = some a ∧ w.cell? ⟨g, 1, none⟩ = some b ∧ w.cell? ⟨g, 2, none⟩ = some c ∧ w.cell? ⟨g, 3, none⟩ = some d ∧ w.cell? ⟨g, 4, none⟩ = some e ∧ w.cell? ⟨g, 5, none⟩ = some f := ⟨(blk_cell h 0).trans rfl, (blk_cell h 1).trans rfl, (blk_cell h 2).trans rfl, (blk_cell h 3).trans rfl, (blk_cell h 4).trans rfl, (blk_cell h 5).trans rfl⟩
theorem cf6 {w : World} {g t : Nat} {a b c d e f : Value} (h : w.heap[g]? = some (.cells #[a, b, c, d, e, f] t (0, 0))) : w.cell? ⟨g, 0, none⟩ = some a ∧ w.cell? ⟨g, 1, none⟩ = some b ∧ w.cell? ⟨g, 2, none⟩ = some c ∧ w.cell? ⟨g, 3, none⟩ = some d ∧ w.cell? ⟨g, 4, none⟩ = some e ∧ w.cell? ⟨g, 5, none⟩ = some f ∧ w.frozen? ⟨g, 0, none⟩ = false ∧ w.frozen? ⟨g, 1, none⟩ = false ∧ w.frozen? ⟨g, 2, none⟩ = false ∧ w.frozen? ⟨g, 3, none⟩ = false ∧ w.frozen? ⟨g, 4, none⟩ = false ∧ w.frozen? ⟨g, 5, none⟩ = false := ⟨(blk_cell h 0).trans rfl, (blk_cell h 1).trans rfl, (blk_cell h 2).trans rfl, (blk_cell h 3).trans rfl, (blk_cell h 4).trans rfl, (blk_cell h 5).trans rfl, blk_frozen h 0, blk_frozen h 1, blk_frozen h 2, blk_frozen h 3, blk_frozen h 4, blk_frozen h 5⟩
theorem f3 {w : World} {g k T : Nat} {cs : Array Value} {x y z : Value} (h : w.heap[k]? = some (.cells cs T (0, 0))) (hne : k ≠ g) :
    (((w.setCell ⟨g, 0, none⟩ x).setCell ⟨g, 1, none⟩ y).setCell ⟨g, 2, none⟩ z).heap[k]? = some (.cells cs T (0, 0)) :=
  blk_far (blk_far (blk_far h hne _) hne _) hne _
theorem p3 {w : World} {g T : Nat} {a b c x y z : Value} (h : w.heap[g]? = some (.cells #[a, b, c] T (0, 0))) :
    (((w.setCell ⟨g, 0, none⟩ x).setCell ⟨g, 1, none⟩ y).setCell ⟨g, 2, none⟩ z).heap[g]? = some (.cells #[x, y, z] T (0, 0)) :=
  blk_put (cs := #[x, y, c]) (blk_put (cs := #[x, b, c]) (blk_put (cs := #[a, b, c]) h 0 _ rfl) 1 _ rfl) 2 _ rfl
section
variable {α β γ : Type} {d : Kd α} {d1 : Kd β} {d2 : Kd γ} {e e1 e2 base : Nat} {w W w' : World} {ok ok1 ok2 : Nat → Prop} {v v1 v2 : Value} {xs : List α} {ys : List β} {zs : List γ}
theorem o2 [hl : Nonempty (Below w.heap.size w W)] (h : d.R e w base ok v xs) (hb : Below W.heap.size W w') (h1 : d1.R e1 w' W.heap.size ok1 v1 ys) (h2 : d2.R e2 w' W.heap.size ok2 v2 zs) : d.R e w' base (fun k => (ok k ∧ some k ≠ v1.ownBlock) ∧ some k ≠ v2.ownBlock) v xs := Kd.R_mono (Kd.R_told (Kd.R_told (Kd.R_old (lR h) hb) (Kd.R_base h1)) (Kd.R_base h2)) (fun _ h_ => h_.1)
theorem rb [hl : Nonempty (Below w.heap.size w W)] (h : d.R e w base ok v xs) (hb : Below W.heap.size W w') : d.R e w' base ok v xs := Kd.R_below (lR h) hb
theorem rl [hl : Nonempty (Below w.heap.size w W)] (h : d.R e w base ok v xs) : ∀ k, v.ownBlock = some k → k < W.heap.size := Kd.R_lt (lR h)
end
theorem bb {w W w' : World} {g : Nat} {o : Obj} [hl : Nonempty (Below w.heap.size w W)] (h : w.heap[g]? = some o) (hb : Below W.heap.size W w') : w'.heap[g]? = some o := blk_below (lK h) hb
theorem kb {w W w' : World} {g g' : Nat} {o : Obj} [hl : Nonempty (Below w.heap.size w W)] (hk : KeepBut W w' g none) (h : w.heap[g']? = some o) (hne : g' ≠ g) : w'.heap[g']? = some o := KeepBut.blk hk (lK h) hne (by simp)
theorem sA {α : Type} (l : List α) (i : Nat) (a : α) : l.toArray.setIfInBounds i a = (l.set i a).toArray := List.setIfInBounds_toArray l i a
theorem s0 {α : Type} {a b : α} {l : List α} : (a :: l).set 0 b = b :: l := List.set_cons_zero
theorem sS {α : Type} {a b : α} {l : List α} {n : Nat} : (a :: l).set (n + 1) b = a :: l.set n b := List.set_cons_succ
theorem mA {α β : Type} {f : α → β} {l : List α} : l.toArray.map f = (l.map f).toArray := List.map_toArray
theorem mC {α β : Type} {f : α → β} {a : α} {l : List α} : (a :: l).map f = f a :: l.map f := List.map_cons
theorem mN {α β : Type} {f : α → β} : ([] : List α).map f = [] := List.map_nil
theorem ld {α : Type} {i : Nat} {l : List α} : (l.drop i).length = l.length - i := List.length_drop
theorem lt {α : Type} {i : Nat} {l : List α} : (l.take i).length = min i l.length := List.length_take
theorem kN {w : World} {g : Nat} {o : Obj} (h : w.heap[g]? = some o) (n : Nat) : (w.drewN n).heap[g]? = some o := h
theorem kD {w : World} {g : Nat} {o : Obj} (h : w.heap[g]? = some o) : w.drew.heap[g]? = some o := h
theorem kA {w : World} {g : Nat} {o : Obj} (h : w.heap[g]? = some o) (o' : Obj) : (w.alloc o').heap[g]? = some o := blk_alloc h o'
theorem f6 {w : World} {g k T : Nat} {cs : Array Value} {x y z u v t : Value} (h : w.heap[k]? = some (.cells cs T (0, 0))) (hne : k ≠ g) : ((((((w.setCell ⟨g, 0, none⟩ x).setCell ⟨g, 1, none⟩ y).setCell ⟨g, 2, none⟩ z).setCell ⟨g, 3, none⟩ u).setCell ⟨g, 4, none⟩ v).setCell ⟨g, 5, none⟩ t).heap[k]? = some (.cells cs T (0, 0)) :=
  blk_far (blk_far (blk_far (blk_far (blk_far (blk_far h hne _) hne _) hne _) hne _) hne _) hne _
theorem p6 {w : World} {g T : Nat} {a b c d e f x y z u v t : Value} (h : w.heap[g]? = some (.cells #[a, b, c, d, e, f] T (0, 0))) : ((((((w.setCell ⟨g, 0, none⟩ x).setCell ⟨g, 1, none⟩ y).setCell ⟨g, 2, none⟩ z).setCell ⟨g, 3, none⟩ u).setCell ⟨g, 4, none⟩ v).setCell ⟨g, 5, none⟩ t).heap[g]? = some (.cells #[x, y, z, u, v, t] T (0, 0)) :=
  blk_put (cs := #[x, y, z, u, v, f]) (blk_put (cs := #[x, y, z, u, e, f]) (blk_put (cs := #[x, y, z, d, e, f]) (blk_put (cs := #[x, y, c, d, e, f]) (blk_put (cs := #[x, b, c, d, e, f]) (blk_put (cs := #[a, b, c, d, e, f]) h 0 _ rfl) 1 _ rfl) 2 _ rfl) 3 _ rfl) 4 _ rfl) 5 _ rfl
theorem R6 {α : Type} {d : Kd α} {e : Nat} {w : World} {base : Nat} {ok : Nat → Prop} {v0 : Value} {xs : List α} {g T : Nat} {cs : Array Value} {x y z u v t : Value} (h : d.R e w base ok v0 xs) (hb : w.heap[g]? = some (.cells cs T (0, 0))) (hT : ∀ q, q ∈ e :: d.E → q ≠ T := by decide) :
    d.R e ((((((w.setCell ⟨g, 0, none⟩ x).setCell ⟨g, 1, none⟩ y).setCell ⟨g, 2, none⟩ z).setCell ⟨g, 3, none⟩ u).setCell ⟨g, 4, none⟩ v).setCell ⟨g, 5, none⟩ t) base ok v0 xs :=
  Kd.R_mono (Kd.R_far (p := ⟨g, 5, none⟩) (Kd.R_far (p := ⟨g, 4, none⟩) (Kd.R_far (p := ⟨g, 3, none⟩) (Kd.R_far (p := ⟨g, 2, none⟩) (Kd.R_far (p := ⟨g, 1, none⟩) (Kd.R_far (p := ⟨g, 0, none⟩) (Kd.R_types h hb hT) (fun _ hk => hk.2) x) (fun _ hk => hk.2) y) (fun _ hk => hk.2) z) (fun _ hk => hk.2) u) (fun _ hk => hk.2) v) (fun _ hk => hk.2) t) (fun _ hk => hk.1)
theorem cl {u w : World} {p : Addr} {v : Value} (h : Below u.heap.size u w) (hx : u.cell? p = some v) : w.cell? p = some v := (h.cell (World.block_lt_of_cell? u _ hx)).trans hx
section
variable {P : Program} {ops : Array Oper} {Q : Exit → Act → World → Prop} {rest : List Oper} {oi : Oper} {a : Act} {w : World}
theorem gL {f : FuncId} {fn : Func} {as : Array Operand} {ts : Array TypeId} (N : Option Tmp) (hf : P.funcs[f]? = some fn) (args : Array Value) (h : Calls P f args w fun e w' => ∃ v, e = .returned v ∧ wpList P ops Q rest (a.put N v) w') (hd : oi.dst = N := by exact rfl) (hg : oi.guard = none := by exact rfl) (hname : (fn.name == "runtime.NumGoroutine") = false := by kernel_rfl) (hb : fn.body.isSome = true := by exact rfl) (hop : oi.op = .call { callee := .value (.func f), args := as, argTypes := ts } := by exact rfl) (hargs : as.map a.eval = args := by (try simp only [mA, mC, mN]); first | done | rfl | (simp only [ld, lt]; rfl)) : wpList P ops Q (oi :: rest) a w :=
  goesL_ N hd hg hf hname hb args hop hargs h
theorem bx (N : Tmp) (cs : Array Value) (t : TypeId) (h : ∀ g, g = w.heap.size → ∀ w1, w1.heap[g]? = some (.cells cs t (0, 0)) → Below w.heap.size w w1 → wpList P ops Q rest (a.put oi.dst (.pointer (some ⟨g, 0, none⟩))) w1) (hg : oi.guard = none := by exact rfl) (hd : oi.dst = some N := by exact rfl) (hr : (execOp a.eval oi).run P w = .ok (.value (.pointer (some ⟨w.heap.size, 0, none⟩))) (w.alloc (.cells cs t (0, 0))) := by first | (go_simp; done) | (go_simp; rfl)) : wpList P ops Q (oi :: rest) a w :=
  box_event hg hd hr h
end
theorem lw {α : Type} {d : Kd α} {e : Nat} {w W0 W w1 : World} {g : Nat} {r : Option Nat} {ok : Nat → Prop} {v : Value} {xs : List α} [hi : Nonempty (KeepBut w W0 g r → KeepBut w W g r)] (h : d.R e w1 W.heap.size ok v xs) (hk : KeepBut w W0 g r) : d.R e w1 w.heap.size ok v xs := Kd.R_lower h (keep_size (jK (W' := W) hk))
theorem lwM {α : Type} {d : Kd α} {e : Nat} {w W0 W w1 : World} {g : Nat} {r : Option Nat} {ok : Nat → Prop} {v : Value} {xs : List α} [hi : Nonempty (KeepBut w W0 g r → KeepBut w W g r)] (h : d.R e w1 W.heap.size ok v xs) (hk : KeepBut w W0 g r) : d.R e w1 w.heap.size (fun k => w.heap.size ≤ k ∧ ok k) v xs := Kd.R_lower (Kd.R_newM (M := fun k_ => (w.heap.size ≤ k_)) h (keep_size (jK (W' := W) hk)) (fun _ h_ => h_)) (keep_size (jK (W' := W) hk))
theorem gz {w W0 W : World} {g : Nat} (hg : g = W.heap.size) (h : Below w.heap.size w W0) [hi : Nonempty (Below w.heap.size w W0 → Below w.heap.size w W)] : w.heap.size ≤ g := by rw [hg]; exact (jB (w' := W) h).size
theorem gk {w W0 W : World} {g g' : Nat} {r : Option Nat} (hg : g' = W.heap.size) (h : KeepBut w W0 g r) [hi : Nonempty (KeepBut w W0 g r → KeepBut w W g r)] : w.heap.size ≤ g' := by rw [hg]; exact keep_size (jK (W' := W) h)
theorem bj {w W0 W w' : World} (h : Below w.heap.size w W0) (hb : Below W.heap.size W w') [hi : Nonempty (Below w.heap.size w W0 → Below w.heap.size w W)] : Below w.heap.size w w' := below_step (jB h) hb
theorem kt {w W0 W w' : World} {g : Nat} (h : KeepBut w W0 g none) (hk : KeepBut W w' g none) [hi : Nonempty (KeepBut w W0 g none → KeepBut w W g none)] : KeepBut w w' g none := KeepBut.trans (jK h) hk (.inl rfl)
theorem kbl {w W0 W w' : World} {g : Nat} (h : KeepBut w W0 g none) (hb : Below W.heap.size W w') [hi : Nonempty (KeepBut w W0 g none → KeepBut w W g none)] : KeepBut w w' g none := KeepBut.trans (jK h) (KeepBut.of_below hb g none) (.inl rfl)
theorem f2 {w : World} {g k T : Nat} {cs : Array Value} {x y : Value} (h : w.heap[k]? = some (.cells cs T (0, 0))) (hne : k ≠ g) : ((w.setCell ⟨g, 0, none⟩ x).setCell ⟨g, 1, none⟩ y).heap[k]? = some (.cells cs T (0, 0)) := blk_far (blk_far h hne _) hne _
theorem p2 {w : World} {g T : Nat} {a b x y : Value} (h : w.heap[g]? = some (.cells #[a, b] T (0, 0))) : ((w.setCell ⟨g, 0, none⟩ x).setCell ⟨g, 1, none⟩ y).heap[g]? = some (.cells #[x, y] T (0, 0)) := blk_put (cs := #[x, b]) (blk_put (cs := #[a, b]) h 0 _ rfl) 1 _ rfl
theorem R2 {α : Type} {d : Kd α} {e : Nat} {w : World} {base : Nat} {ok : Nat → Prop} {v : Value} {xs : List α} {g T : Nat} {cs : Array Value} {x y : Value} (h : d.R e w base ok v xs) (hb : w.heap[g]? = some (.cells cs T (0, 0))) (hT : ∀ q, q ∈ e :: d.E → q ≠ T := by decide) : d.R e ((w.setCell ⟨g, 0, none⟩ x).setCell ⟨g, 1, none⟩ y) base ok v xs :=
  Kd.R_mono (Kd.R_far (p := ⟨g, 1, none⟩) (Kd.R_far (p := ⟨g, 0, none⟩) (Kd.R_types h hb hT) (fun _ hk => hk.2) x) (fun _ hk => hk.2) y) (fun _ hk => hk.1)
theorem bS {α β : Type} {x : Option α} {f : α → Option β} {r : β} (h : x.bind f = some r) : ∃ a, Aside0 (x = some a) ∧ f a = some r := (Option.bind_eq_some_iff.mp h).elim fun a e => ⟨a, ⟨e.1⟩, e.2⟩
theorem xa {u w : World} (h : Below u.heap.size u w) (o : Obj) : Below u.heap.size u (w.alloc o) := below_alloc h o
theorem xn {u w : World} (h : Below u.heap.size u w) (n : Nat) : Below u.heap.size u (w.drewN n) := pw_below_drewN h n
theorem xd {u w : World} (h : Below u.heap.size u w) : Below u.heap.size u w.drew := below_drew h
theorem xr (u : World) : Below u.heap.size u u := Below.refl _ _
theorem qp {α : Type} {d : Kd α} {e base : Nat} {w W : World} {ok : Nat → Prop} {v : Value} {xs : List α} (h : d.R e w base ok v xs) (i : Below w.heap.size w W := by (with_reducible repeat first | apply xa | apply xn | apply xd); exact xr _) : d.R e W base ok v xs := Kd.R_below h i
theorem aM {p : Prop} (h : p) : Aside0 p := ⟨h⟩
theorem nf : ¬ (false = true) := by decide
theorem f4 {w : World} {g k T : Nat} {cs : Array Value} {x y z u : Value} (h : w.heap[k]? = some (.cells cs T (0, 0))) (hne : k ≠ g) : ((((w.setCell ⟨g, 0, none⟩ x).setCell ⟨g, 1, none⟩ y).setCell ⟨g, 2, none⟩ z).setCell ⟨g, 3, none⟩ u).heap[k]? = some (.cells cs T (0, 0)) := blk_far (blk_far (blk_far (blk_far h hne _) hne _) hne _) hne _
theorem p4 {w : World} {g T : Nat} {a b c d x y z u : Value} (h : w.heap[g]? = some (.cells #[a, b, c, d] T (0, 0))) : ((((w.setCell ⟨g, 0, none⟩ x).setCell ⟨g, 1, none⟩ y).setCell ⟨g, 2, none⟩ z).setCell ⟨g, 3, none⟩ u).heap[g]? = some (.cells #[x, y, z, u] T (0, 0)) := blk_put (cs := #[x, y, z, d]) (blk_put (cs := #[x, y, c, d]) (blk_put (cs := #[x, b, c, d]) (blk_put (cs := #[a, b, c, d]) h 0 _ rfl) 1 _ rfl) 2 _ rfl) 3 _ rfl
theorem R4 {α : Type} {d : Kd α} {e : Nat} {w : World} {base : Nat} {ok : Nat → Prop} {v : Value} {xs : List α} {g T : Nat} {cs : Array Value} {x y z u : Value} (h : d.R e w base ok v xs) (hb : w.heap[g]? = some (.cells cs T (0, 0))) (hT : ∀ q, q ∈ e :: d.E → q ≠ T := by decide) : d.R e ((((w.setCell ⟨g, 0, none⟩ x).setCell ⟨g, 1, none⟩ y).setCell ⟨g, 2, none⟩ z).setCell ⟨g, 3, none⟩ u) base ok v xs :=
  Kd.R_mono (Kd.R_far (p := ⟨g, 3, none⟩) (Kd.R_far (p := ⟨g, 2, none⟩) (Kd.R_far (p := ⟨g, 1, none⟩) (Kd.R_far (p := ⟨g, 0, none⟩) (Kd.R_types h hb hT) (fun _ hk => hk.2) x) (fun _ hk => hk.2) y) (fun _ hk => hk.2) z) (fun _ hk => hk.2) u) (fun _ hk => hk.1)
end Go.Proofs.Ytcpaplcnebdocaa.HWords
