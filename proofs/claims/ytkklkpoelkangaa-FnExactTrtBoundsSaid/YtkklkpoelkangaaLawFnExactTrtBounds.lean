/- For every input the law FnExactTrtBounds returns true, and each argument reads behind the call as it read before. No condition. -/
import Derived.Test.YtkklkpoelkangaaRows
import Derived.Test.YtkklkpoelkangaaQFnExactTrtBoundsx9
import Derived.Test.YtkklkpoelkangaaPureFnExactTrtBounds
import Derived.Test.YtkklkpoelkangaaHOpen
import Derived.WalkKit
import Derived.ProofKit
import Derived.OpenShut
import Derived.ShutString
import Derived.ChangeOld
import Derived.Below
import Derived.SizedLaws
namespace Go.Proofs.Ytkklkpoelkangaa.fnExactTrtBounds
open Go.ChangeShapes Go.WideShapes Go.ChangeAt Go.RowKit Go.Proofs.YtkklkpoelkangaaW.PrintWords Go.Proofs.Ytkklkpoelkangaa.HOpen Go.Proofs.Ytkklkpoelkangaa.QFnExactTrtBounds
open Go.ChangeMaps (open_string shut_string)
theorem own : ownKnob Try.prog.godebug = none := by kernel_rfl
theorem laidOut : laidOutB Try.prog = true := by kernel_rfl
theorem op0 : Opens Try.prog 41 k41 (fun y => ((y.f0.length ≤ 9223372036854775807 ∧ ∀ x0 ∈ y.f0, (Lit.int .i64 x0).wf = true) ∧ (y.f1.length ≤ 9223372036854775807 ∧ ∀ x1 ∈ y.f1, (Lit.int .i64 x1).wf = true))) :=
  (Opens.iso (Wg := fun y : S41 => ((y.f0.length ≤ 9223372036854775807 ∧ ∀ x500 ∈ y.f0, (Lit.int .i64 x500).wf = true) ∧ (y.f1.length ≤ 9223372036854775807 ∧ ∀ x501 ∈ y.f1, (Lit.int .i64 x501).wf = true))) (Opens.struct Try.underlying41 (by kernel_rfl) (OpensF.cons _ _ rfl (by kernel_rfl) (Opens.slice Try.underlying22 (by kernel_rfl) (Opens.int Try.underlying3)) (OpensF.one _ rfl (by kernel_rfl) (Opens.slice Try.underlying22 (by kernel_rfl) (Opens.int Try.underlying3))))) (fun x => ⟨x.1, x.2⟩) (fun _ => rfl))
theorem op1 : Opens Try.prog 42 (Kd.slice 22 (Kd.slice 3 (Kd.int .i64))) (fun y => (y.length ≤ 9223372036854775807 ∧ ∀ x0 ∈ y, (x0.length ≤ 9223372036854775807 ∧ ∀ x1 ∈ x0, (Lit.int .i64 x1).wf = true))) :=
  (Opens.slice Try.underlying42 (by kernel_rfl) (Opens.slice Try.underlying22 (by kernel_rfl) (Opens.int Try.underlying3)))
theorem op3 : Opens Try.prog 22 (Kd.slice 3 (Kd.int .i64)) (fun y => (y.length ≤ 9223372036854775807 ∧ ∀ x0 ∈ y, (Lit.int .i64 x0).wf = true)) :=
  (Opens.slice Try.underlying22 (by kernel_rfl) (Opens.int Try.underlying3))
theorem op4 : Opens Try.prog 24 k24 (fun y => ((y.f0.length ≤ 9223372036854775807 ∧ ∀ x0 ∈ y.f0, (Lit.int .i64 x0).wf = true) ∧ (y.f1.length ≤ 9223372036854775807 ∧ ∀ x1 ∈ y.f1, (Lit.int .i64 x1).wf = true) ∧ (Lit.int .i64 y.f2).wf = true)) :=
  (Opens.iso (Wg := fun y : S24 => ((y.f0.length ≤ 9223372036854775807 ∧ ∀ x500 ∈ y.f0, (Lit.int .i64 x500).wf = true) ∧ (y.f1.length ≤ 9223372036854775807 ∧ ∀ x501 ∈ y.f1, (Lit.int .i64 x501).wf = true) ∧ (Lit.int .i64 y.f2).wf = true)) (Opens.struct Try.underlying24 (by kernel_rfl) (OpensF.cons _ _ rfl (by kernel_rfl) (Opens.slice Try.underlying22 (by kernel_rfl) (Opens.int Try.underlying3)) (OpensF.cons _ _ rfl (by kernel_rfl) (Opens.slice Try.underlying22 (by kernel_rfl) (Opens.int Try.underlying3)) (OpensF.one _ rfl (by kernel_rfl) (Opens.int Try.underlying3))))) (fun x => ⟨x.1, x.2.1, x.2.2⟩) (fun _ => rfl))
theorem op5 : Opens Try.prog 22 (Kd.slice 3 (Kd.int .i64)) (fun y => (y.length ≤ 9223372036854775807 ∧ ∀ x0 ∈ y, (Lit.int .i64 x0).wf = true)) :=
  (Opens.slice Try.underlying22 (by kernel_rfl) (Opens.int Try.underlying3))
set_option maxRecDepth 100000 in
theorem lifted (os : Os) (started : os.Started) (H : Type) (enc : TypeId × Value → H) :
    ReturnsInHanded {} Try.checked os 12 .any (Rows.fnExactTrtBoundsSpec.pre6 enc Try.prog Try.f12 Rows.fnExactTrtBoundsRow.domain false) (Rows.fnExactTrtBoundsSpec.post enc Try.prog Try.f12 false true false false) := by
  refine returnsInHanded_of_change_sized (C := Try.checked) own started (by kernel_rfl) Try.func12
    (ChangeSpec.witness6 (enc := enc) (C := Try.checked) false ⟨#[], #[.agg #[.slice none 0 0, .slice none 0 0], .slice none 0 0, .int .i64 0, .slice none 0 0, .agg #[.slice none 0 0, .slice none 0 0, .int .i64 0], .slice none 0 0], []⟩ 8 (by kernel_rfl) (by kernel_rfl) (by kernel_rfl) (by kernel_rfl)) ?_
  intro W base args ds gs before hval0 hW hcnd hsz0 _
  have hval : ∀ (j : Nat) t v, Try.f12.params[j]? = some t → args[j]? = some v → Value.okWide Try.prog W .any base t v := hval0
  have hW' := hW
  obtain ⟨p, q, hA0, hV, rfl, hfz, hnd⟩ := hW
  have hA : DataW.TrodAll enc Try.prog W 0 (fun _ => true) true Try.f12.params.toList args.toList ds p := hA0
  rw [Try.params12] at hA hval
  obtain ⟨v0, vs0, d0, ds0, p0, q0, hargs, rfl, rfl, h0, r0⟩ := trodAll_cons hA
  obtain ⟨v1, vs1, d1, ds1, p1, q1, rfl, rfl, rfl, h1, r1⟩ := trodAll_cons r0
  obtain ⟨v2, vs2, d2, ds2, p2, q2, rfl, rfl, rfl, h2, r2⟩ := trodAll_cons r1
  obtain ⟨v3, vs3, d3, ds3, p3, q3, rfl, rfl, rfl, h3, r3⟩ := trodAll_cons r2
  obtain ⟨v4, vs4, d4, ds4, p4, q4, rfl, rfl, rfl, h4, r4⟩ := trodAll_cons r3
  obtain ⟨v5, vs5, d5, ds5, p5, q5, rfl, rfl, rfl, h5, r5⟩ := trodAll_cons r4
  obtain ⟨rfl, rfl, rfl⟩ := trodAll_nil r5
  obtain rfl : args = #[v0, v1, v2, v3, v4, v5] := by cases args; simp_all
  obtain ⟨rfl, rfl⟩ := trodVars_none hV
  have k0 := h0
  have lt0 : ∀ x ∈ p0, x.block < W.heap.size := by obtain ⟨m, hm⟩ := k0; exact DataW.trod_lt m _ _ _ hm
  obtain ⟨cs0, rfl, _⟩ := okWide_struct Try.underlying41 (hval 0 41 v0 rfl rfl)
  obtain ⟨fuel0, hf0⟩ := h0
  obtain ⟨x0, hK0, hw0⟩ := op0 _ _ _ _ _ _ _ _ hf0
  obtain ⟨A0_0, c0_0, A0_1, c0_1, hcs0, hc0_0, hr0_0, hc0_1, hr0_1⟩ := k41_open hK0
  obtain rfl : cs0 = #[.slice A0_0 x0.f0.length c0_0, .slice A0_1 x0.f1.length c0_1] := Array.toList_inj.mp hcs0
  clear hcs0
  have k1 := h1
  have lt1 : ∀ x ∈ p1, x.block < W.heap.size := by obtain ⟨m, hm⟩ := k1; exact DataW.trod_lt m _ _ _ hm
  obtain ⟨a1, len1, cap1, rfl⟩ := okWide_slice Try.underlying42 (hval 1 42 v1 rfl rfl)
  obtain ⟨fuel1, hf1⟩ := h1
  obtain ⟨x1, ⟨A1, c1, hcs1, hc1, hr1⟩, hw1⟩ := op1 _ _ _ _ _ _ _ _ hf1
  obtain ⟨rfl, rfl, rfl⟩ : a1 = A1 ∧ len1 = x1.length ∧ cap1 = c1 := by simpa [Value.cells] using hcs1
  clear hcs1
  obtain ⟨a2, rfl, rfl, rfl, w2⟩ := open_int Try.underlying3 (hval 2 3 v2 rfl rfl) h2
  have k3 := h3
  have lt3 : ∀ x ∈ p3, x.block < W.heap.size := by obtain ⟨m, hm⟩ := k3; exact DataW.trod_lt m _ _ _ hm
  obtain ⟨a3, len3, cap3, rfl⟩ := okWide_slice Try.underlying22 (hval 3 22 v3 rfl rfl)
  obtain ⟨fuel3, hf3⟩ := h3
  obtain ⟨x3, ⟨A3, c3, hcs3, hc3, hr3⟩, hw3⟩ := op3 _ _ _ _ _ _ _ _ hf3
  obtain ⟨rfl, rfl, rfl⟩ : a3 = A3 ∧ len3 = x3.length ∧ cap3 = c3 := by simpa [Value.cells] using hcs3
  clear hcs3
  have k4 := h4
  have lt4 : ∀ x ∈ p4, x.block < W.heap.size := by obtain ⟨m, hm⟩ := k4; exact DataW.trod_lt m _ _ _ hm
  obtain ⟨cs4, rfl, _⟩ := okWide_struct Try.underlying24 (hval 4 24 v4 rfl rfl)
  obtain ⟨fuel4, hf4⟩ := h4
  obtain ⟨x4, hK4, hw4⟩ := op4 _ _ _ _ _ _ _ _ hf4
  obtain ⟨A4_0, c4_0, A4_1, c4_1, hcs4, hc4_0, hr4_0, hc4_1, hr4_1⟩ := k24_open hK4
  obtain rfl : cs4 = #[.slice A4_0 x4.f0.length c4_0, .slice A4_1 x4.f1.length c4_1, .int .i64 x4.f2] := Array.toList_inj.mp hcs4
  clear hcs4
  have k5 := h5
  have lt5 : ∀ x ∈ p5, x.block < W.heap.size := by obtain ⟨m, hm⟩ := k5; exact DataW.trod_lt m _ _ _ hm
  obtain ⟨a5, len5, cap5, rfl⟩ := okWide_slice Try.underlying22 (hval 5 22 v5 rfl rfl)
  obtain ⟨fuel5, hf5⟩ := h5
  obtain ⟨x5, ⟨A5, c5, hcs5, hc5, hr5⟩, hw5⟩ := op5 _ _ _ _ _ _ _ _ hf5
  obtain ⟨rfl, rfl, rfl⟩ : a5 = A5 ∧ len5 = x5.length ∧ cap5 = c5 := by simpa [Value.cells] using hcs5
  clear hcs5
  clear hA0 hval0 hsz0
  refine (laws_FnExactTrtBounds.walk Pure.FnExactTrtBounds _ _ x0.f0 _ _ x0.f1 _ _ x1 a2 _ _ x3 _ _ x4.f0 _ _ x4.f1 x4.f2 _ _ x5 W hr0_0 hc0_0 hr0_1 hc0_1 hr1 hc1 hr3 hc3 hr4_0 hc4_0 hr4_1 hc4_1 hr5 hc5 (hw0.1) (hw0.2) hw1 w2 hw3 (hw4.1) (hw4.2.1) (hw4.2.2) hw5).mono fun e W' ⟨he, bel⟩ => ?_
  subst he
  exact ⟨_, rfl, _, _, _, [], _, [], hW', trodAll_mk1 (shut_bool Try.underlying4 _), (trodAll_cons_mk (Below.trod laidOut (by kernel_rfl) (of_decide_eq_true (by kernel_rfl)) k0 bel lt0) (trodAll_cons_mk (Below.trod laidOut (by kernel_rfl) (of_decide_eq_true (by kernel_rfl)) k1 bel lt1) (trodAll_cons_mk (shut_int Try.underlying3 w2) (trodAll_cons_mk (Below.trod laidOut (by kernel_rfl) (of_decide_eq_true (by kernel_rfl)) k3 bel lt3) (trodAll_cons_mk (Below.trod laidOut (by kernel_rfl) (of_decide_eq_true (by kernel_rfl)) k4 bel lt4) (trodAll_cons_mk (Below.trod laidOut (by kernel_rfl) (of_decide_eq_true (by kernel_rfl)) k5 bel lt5) trodAll_mk0)))))), rfl, bel.frame _, fun h => by cases h⟩
theorem over : Rows.fnExactTrtBoundsRow.holds Try.pinned (OpenSpec.ofChange Rows.fnExactTrtBoundsSpec) :=
  OpenClaim.holds_of_wide 12 Try.f12 rfl rfl rfl rfl rfl rfl rfl ⟨rfl, rfl, rfl, rfl, rfl⟩ rfl rfl rfl rfl rfl (by kernel_rfl) Try.func12 (by kernel_rfl)
    (of_decide_eq_true (by kernel_rfl)) (by unfold Func.isWrapper; first | (rw [if_pos (by decide +kernel)]; kernel_rfl) | (rw [if_neg (by decide +kernel)]; exact ⟨rfl, rfl⟩))
    (fun os started H enc _ => lifted os started H enc)
theorem proved : Rows.FnExactTrtBoundsSaid := over
#print axioms proved
end Go.Proofs.Ytkklkpoelkangaa.fnExactTrtBounds
namespace Go.Proofs.Ytkklkpoelkangaa
/-- The row, under a short name, for the claim. -/
theorem fnExactTrtBounds_holds : Rows.FnExactTrtBoundsSaid := fnExactTrtBounds.proved
end Go.Proofs.Ytkklkpoelkangaa
