/- Where a predicate first holds in a list: the plain words for slices.IndexFunc and slices.ContainsFunc. -/
import Derived.Test.YtpmkbblibingiaaWWords
import Derived.Test.YtpmkbblibingiaaWLast
import Derived.Test.YtpmkbblibingiaaWApart
import Derived.Test.YtpmkbblibingiaaWKept
import Derived.WalkKit
import Derived.Below
namespace Go.Proofs.Ytpmkbblibingiaa.HWords
open Go.RowKit Go.Proofs.YtpmkbblibingiaaW.PrintWords Go.Proofs.YtpmkbblibingiaaW.PrintLast

/-- The first place at which q holds, or -1. -/
def idxOf {α : Type} (q : α → Bool) (xs : List α) : Int := match xs.findIdx? q with | some i => (i : Int) | none => -1
theorem idxOf_hit {α : Type} {q : α → Bool} {xs : List α} (d : α) (i : Int) (h0 : 0 ≤ i) (h1 : i < (xs.length : Int)) (hq : q (xs.getD i.toNat d) = true) (hno : ∀ j : Int, 0 ≤ j → j < i → q (xs.getD j.toNat d) = false) : idxOf q xs = i := by
  unfold idxOf
  have hf : xs.findIdx? q = some i.toNat := by
    rw [List.findIdx?_eq_some_iff_getElem]
    have hl : i.toNat < xs.length := by omega
    refine ⟨hl, ?_, fun j hj => ?_⟩
    · rw [List.getD_eq_getElem?_getD, List.getElem?_eq_getElem hl] at hq
      exact hq
    · have h2 := hno (j : Int) (by omega) (by omega)
      have hjl : j < xs.length := by omega
      rw [show ((j : Int)).toNat = j from by omega, List.getD_eq_getElem?_getD, List.getElem?_eq_getElem hjl] at h2
      simpa using h2
  rw [hf]
  simp only
  omega
theorem idxOf_miss {α : Type} {q : α → Bool} {xs : List α} (d : α) (hno : ∀ j : Int, 0 ≤ j → j < (xs.length : Int) → q (xs.getD j.toNat d) = false) : idxOf q xs = -1 := by
  unfold idxOf
  have hf : xs.findIdx? q = none := by
    rw [List.findIdx?_eq_none_iff]
    intro x hx
    obtain ⟨j, hj, rfl⟩ := List.mem_iff_getElem.mp hx
    have h2 := hno (j : Int) (by omega) (by omega)
    rw [show ((j : Int)).toNat = j from by omega, List.getD_eq_getElem?_getD, List.getElem?_eq_getElem hj] at h2
    simpa using h2
  rw [hf]
theorem idxOf_any {α : Type} (q : α → Bool) (xs : List α) : decide (0 ≤ idxOf q xs) = xs.any q := by
  unfold idxOf
  cases h : xs.findIdx? q with
  | none =>
    rw [List.findIdx?_eq_none_iff] at h
    have : xs.any q = false := by rw [List.any_eq_false]; intro x hx; rw [h x hx]; decide
    rw [this]; rfl
  | some i =>
    rw [List.findIdx?_eq_some_iff_getElem] at h
    obtain ⟨hl, hq, _⟩ := h
    have : xs.any q = true := List.any_eq_true.mpr ⟨_, List.getElem_mem hl, hq⟩
    rw [this]
    simp
theorem mem_rd {α : Type} (d : α) (xs : List α) (i : Int) (h0 : 0 ≤ i) (h1 : i < (xs.length : Int)) : xs.getD i.toNat d ∈ xs := by
  have hl : i.toNat < xs.length := by omega
  rw [List.getD_eq_getElem?_getD, List.getElem?_eq_getElem hl]
  exact List.getElem_mem hl
theorem ret_congr {v u : Value} (h : v = u) : Ending.returned v = Ending.returned u := by rw [h]
/-! What has only been laid down or drawn since: facts go on by themselves. -/
instance later_refl (w : World) : Nonempty (Below w.heap.size w w) := ⟨Below.refl _ _⟩
instance later_alloc (u w : World) (o : Obj) [h : Nonempty (Below u.heap.size u w)] : Nonempty (Below u.heap.size u (w.alloc o)) := h.elim fun x => ⟨below_alloc x o⟩
instance later_drew (u w : World) [h : Nonempty (Below u.heap.size u w)] : Nonempty (Below u.heap.size u w.drew) := h.elim fun x => ⟨below_drew x⟩
instance later_drewN (u w : World) (n : Nat) [h : Nonempty (Below u.heap.size u w)] : Nonempty (Below u.heap.size u (w.drewN n)) := h.elim fun x => ⟨pw_below_drewN x n⟩
theorem lR {α : Type} {d : Kd α} {e base : Nat} {w w' : World} {ok : Nat → Prop} {v : Value} {xs : List α} [hl : Nonempty (Below w.heap.size w w')] (h : d.R e w base ok v xs) : d.R e w' base ok v xs := hl.elim fun hb => Kd.R_below h hb
theorem lS {α : Type} {d : Kd α} {e base : Nat} {w w' : World} {ok : Nat → Prop} {v : Value} {xs : List α} [hl : Nonempty (Below w.heap.size w w')] (h : d.S e w base ok v xs) : d.S e w' base ok v xs := hl.elim fun hb => Kd.S_below h hb
theorem lC {α : Type} {d : Kd α} {A : Option Addr} {n : Nat} {w w' : World} {xs : List α} [hl : Nonempty (Below w.heap.size w w')] (h : d.C w A n xs) : d.C w' A n xs := hl.elim fun hb => Kd.C_below h hb
theorem lK {w w' : World} {g : Nat} {o : Obj} [hl : Nonempty (Below w.heap.size w w')] (h : w.heap[g]? = some o) : w'.heap[g]? = some o := hl.elim fun hb => blk_below h hb
theorem lB {u w w' : World} [hl : Nonempty (Below w.heap.size w w')] (h : Below u.heap.size u w) : Below u.heap.size u w' := hl.elim fun hb => below_step h hb
theorem ob (A : Option Addr) (n m c : Nat) : (Value.slice A n c).ownBlock = (Value.slice A m c).ownBlock := by cases A <;> rfl
theorem ra {α : Type} {d : Kd α} {e base : Nat} {w : World} {ok : Nat → Prop} {v : Value} {xs : List α} (h : d.R e w base ok v xs) (o : Obj) : d.R e (w.alloc o) base ok v xs := Kd.R_alloc h o
theorem rn {α : Type} {d : Kd α} {e base : Nat} {w : World} {ok : Nat → Prop} {v : Value} {xs : List α} (h : d.R e w base ok v xs) (n : Nat) : d.R e (w.drewN n) base ok v xs := Kd.R_drewN h n
theorem re {α : Type} {d : Kd α} {e base : Nat} {w : World} {ok : Nat → Prop} {v : Value} {xs : List α} (h : d.R e w base ok v xs) : d.R e w.drew base ok v xs := Kd.R_drew h
theorem R3 {α : Type} {d : Kd α} {e : Nat} {w : World} {base : Nat} {ok : Nat → Prop} {v : Value} {xs : List α} {g T : Nat} {cs : Array Value} {x y z : Value} (h : d.R e w base ok v xs) (hb : w.heap[g]? = some (.cells cs T (0, 0))) (hT : ∀ q, q ∈ e :: d.E → q ≠ T := by decide) :
    d.R e (((w.setCell ⟨g, 0, none⟩ x).setCell ⟨g, 1, none⟩ y).setCell ⟨g, 2, none⟩ z) base ok v xs :=
  Kd.R_mono (Kd.R_far (p := ⟨g, 2, none⟩) (Kd.R_far (p := ⟨g, 1, none⟩) (Kd.R_far (p := ⟨g, 0, none⟩) (Kd.R_types h hb hT) (fun _ hk => hk.2) x) (fun _ hk => hk.2) y) (fun _ hk => hk.2) z) (fun _ hk => hk.1)
theorem neL {W : World} {g g' : Nat} {o : Obj} (hg : g' = W.heap.size) (h : W.heap[g]? = some o) : g ≠ g' := by rw [hg]; exact Nat.ne_of_lt (blk_lt h)
theorem neG {W : World} {g g' : Nat} {o : Obj} (hg : g' = W.heap.size) (h : W.heap[g]? = some o) : g' ≠ g := by rw [hg]; exact Nat.ne_of_gt (blk_lt h)
theorem nest_ne {w : World} {g t : Nat} {E : List Nat} {cs : Array Value} (hq : ∃ q, q ∈ E ∧ ∃ cells, w.heap[g]? = some (.cells cells q (0, 0))) (hb : w.heap[g]? = some (.cells cs t (0, 0))) (ht : ∀ q, q ∈ E → q ≠ t) : False := by
  obtain ⟨q, hm, c, hc⟩ := hq
  rw [hb] at hc
  simp at hc
  exact ht q hm hc.2.symm
theorem R_marked {α : Type} {d : Kd α} {e base : Nat} {w W : World} {ok P : Nat → Prop} {v : Value} {xs : List α} (h : d.R e w base ok v xs) (hk : Kept w W P) (hne : ∀ j, v.ownBlock = some j → ¬ P j) (hE : d.E = [] := by rfl) : d.R e W base ok v xs :=
  Kd.R_mono (Kd.R_step (Kd.R_tight hE h) (fun j hj hlt => hk.2 j hlt (hne j hj.symm))) (fun k hj => h.1 k hj.symm)
end Go.Proofs.Ytpmkbblibingiaa.HWords
