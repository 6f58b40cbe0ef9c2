/- Where a predicate first holds in a list: the plain words for slices.IndexFunc and slices.ContainsFunc. -/
import Derived.Test.YtfbdjimcjoddgaaWWords
import Derived.Test.YtfbdjimcjoddgaaWLast
import Derived.WalkKit
import Derived.Below
namespace Go.Proofs.Ytfbdjimcjoddgaa.HWords
open Go.RowKit Go.Proofs.YtfbdjimcjoddgaaW.PrintWords Go.Proofs.YtfbdjimcjoddgaaW.PrintLast

/-- The first place at which q holds, or -1. -/
def idxOf {α : Type} (q : α → Bool) (xs : List α) : Int := match xs.findIdx? q with | some i => (i : Int) | none => -1
theorem idxOf_hit {α : Type} {q : α → Bool} {xs : List α} (d : α) (i : Int) (h0 : 0 ≤ i) (h1 : i < (xs.length : Int)) (hq : q (xs.getD i.toNat d) = true) (hno : ∀ j : Int, 0 ≤ j → j < i → q (xs.getD j.toNat d) = false) : idxOf q xs = i := by
  unfold idxOf
  have hf : xs.findIdx? q = some i.toNat := by
    rw [List.findIdx?_eq_some_iff_getElem]
    have hl : i.toNat < xs.length := by omega
    refine ⟨hl, ?_, fun j hj => ?_⟩
    · rw [List.getD_eq_getElem?_getD, List.getElem?_eq_getElem hl] at hq
      exact hq
    · have h2 := hno (j : Int) (by omega) (by omega)
      have hjl : j < xs.length := by omega
      rw [show ((j : Int)).toNat = j from by omega, List.getD_eq_getElem?_getD, List.getElem?_eq_getElem hjl] at h2
      simpa using h2
  rw [hf]
  simp only
  omega
theorem idxOf_miss {α : Type} {q : α → Bool} {xs : List α} (d : α) (hno : ∀ j : Int, 0 ≤ j → j < (xs.length : Int) → q (xs.getD j.toNat d) = false) : idxOf q xs = -1 := by
  unfold idxOf
  have hf : xs.findIdx? q = none := by
    rw [List.findIdx?_eq_none_iff]
    intro x hx
    obtain ⟨j, hj, rfl⟩ := List.mem_iff_getElem.mp hx
    have h2 := hno (j : Int) (by omega) (by omega)
    rw [show ((j : Int)).toNat = j from by omega, List.getD_eq_getElem?_getD, List.getElem?_eq_getElem hj] at h2
    simpa using h2
  rw [hf]
theorem idxOf_any {α : Type} (q : α → Bool) (xs : List α) : decide (0 ≤ idxOf q xs) = xs.any q := by
  unfold idxOf
  cases h : xs.findIdx? q with
  | none =>
    rw [List.findIdx?_eq_none_iff] at h
    have : xs.any q = false := by rw [List.any_eq_false]; intro x hx; rw [h x hx]; decide
    rw [this]; rfl
  | some i =>
    rw [List.findIdx?_eq_some_iff_getElem] at h
    obtain ⟨hl, hq, _⟩ := h
    have : xs.any q = true := List.any_eq_true.mpr ⟨_, List.getElem_mem hl, hq⟩
    rw [this]
    simp
theorem mem_rd {α : Type} (d : α) (xs : List α) (i : Int) (h0 : 0 ≤ i) (h1 : i < (xs.length : Int)) : xs.getD i.toNat d ∈ xs := by
  have hl : i.toNat < xs.length := by omega
  rw [List.getD_eq_getElem?_getD, List.getElem?_eq_getElem hl]
  exact List.getElem_mem hl
theorem ret_congr {v u : Value} (h : v = u) : Ending.returned v = Ending.returned u := by rw [h]
end Go.Proofs.Ytfbdjimcjoddgaa.HWords
