/- For every input the law FnExactFrmInto returns true, and each argument reads behind the call as it read before. No condition. -/
import Derived.Test.YtfbdjimcjoddgaaRows
import Derived.Test.YtfbdjimcjoddgaaQFnExactFrmIntox8
import Derived.Test.YtfbdjimcjoddgaaPureFnExactFrmInto
import Derived.Test.YtfbdjimcjoddgaaHOpen
import Derived.WalkKit
import Derived.ProofKit
import Derived.OpenShut
import Derived.ShutString
import Derived.ChangeOld
import Derived.Below
import Derived.SizedLaws
namespace Go.Proofs.Ytfbdjimcjoddgaa.fnExactFrmInto
open Go.ChangeShapes Go.WideShapes Go.ChangeAt Go.RowKit Go.Proofs.YtfbdjimcjoddgaaW.PrintWords Go.Proofs.Ytfbdjimcjoddgaa.HOpen Go.Proofs.Ytfbdjimcjoddgaa.QFnExactFrmInto
open Go.ChangeMaps (open_string shut_string)
theorem own : ownKnob Try.prog.godebug = none := by kernel_rfl
theorem laidOut : laidOutB Try.prog = true := by kernel_rfl
theorem op0 : Opens Try.prog 24 k24 (fun y => ((y.f0.length ≤ 9223372036854775807 ∧ ∀ x0 ∈ y.f0, (Lit.int .i64 x0).wf = true) ∧ (y.f1.length ≤ 9223372036854775807 ∧ ∀ x1 ∈ y.f1, (Lit.int .i64 x1).wf = true) ∧ (Lit.int .i64 y.f2).wf = true)) :=
  (Opens.iso (Wg := fun y : S24 => ((y.f0.length ≤ 9223372036854775807 ∧ ∀ x500 ∈ y.f0, (Lit.int .i64 x500).wf = true) ∧ (y.f1.length ≤ 9223372036854775807 ∧ ∀ x501 ∈ y.f1, (Lit.int .i64 x501).wf = true) ∧ (Lit.int .i64 y.f2).wf = true)) (Opens.struct Try.underlying24 (by kernel_rfl) (OpensF.cons _ _ rfl (by kernel_rfl) (Opens.slice Try.underlying22 (by kernel_rfl) (Opens.int Try.underlying3)) (OpensF.cons _ _ rfl (by kernel_rfl) (Opens.slice Try.underlying22 (by kernel_rfl) (Opens.int Try.underlying3)) (OpensF.one _ rfl (by kernel_rfl) (Opens.int Try.underlying3))))) (fun x => ⟨x.1, x.2.1, x.2.2⟩) (fun _ => rfl))
theorem op1 : Opens Try.prog 32 (Kd.slice 24 k24) (fun y => (y.length ≤ 9223372036854775807 ∧ ∀ x0 ∈ y, ((x0.f0.length ≤ 9223372036854775807 ∧ ∀ x1 ∈ x0.f0, (Lit.int .i64 x1).wf = true) ∧ (x0.f1.length ≤ 9223372036854775807 ∧ ∀ x2 ∈ x0.f1, (Lit.int .i64 x2).wf = true) ∧ (Lit.int .i64 x0.f2).wf = true))) :=
  (Opens.slice Try.underlying32 (by kernel_rfl) (Opens.iso (Wg := fun y : S24 => ((y.f0.length ≤ 9223372036854775807 ∧ ∀ x500 ∈ y.f0, (Lit.int .i64 x500).wf = true) ∧ (y.f1.length ≤ 9223372036854775807 ∧ ∀ x501 ∈ y.f1, (Lit.int .i64 x501).wf = true) ∧ (Lit.int .i64 y.f2).wf = true)) (Opens.struct Try.underlying24 (by kernel_rfl) (OpensF.cons _ _ rfl (by kernel_rfl) (Opens.slice Try.underlying22 (by kernel_rfl) (Opens.int Try.underlying3)) (OpensF.cons _ _ rfl (by kernel_rfl) (Opens.slice Try.underlying22 (by kernel_rfl) (Opens.int Try.underlying3)) (OpensF.one _ rfl (by kernel_rfl) (Opens.int Try.underlying3))))) (fun x => ⟨x.1, x.2.1, x.2.2⟩) (fun _ => rfl)))
set_option maxRecDepth 100000 in
theorem lifted (os : Os) (started : os.Started) (H : Type) (enc : TypeId × Value → H) :
    ReturnsInHanded {} Try.checked os 4 .any (Rows.fnExactFrmIntoSpec.pre6 enc Try.prog Try.f4 Rows.fnExactFrmIntoRow.domain false) (Rows.fnExactFrmIntoSpec.post enc Try.prog Try.f4 false true false false) := by
  refine returnsInHanded_of_change_sized (C := Try.checked) own started (by kernel_rfl) Try.func4
    (ChangeSpec.witness6 (enc := enc) (C := Try.checked) false ⟨#[], #[.agg #[.slice none 0 0, .slice none 0 0, .int .i64 0], .slice none 0 0], []⟩ 8 (by kernel_rfl) (by kernel_rfl) (by kernel_rfl) (by kernel_rfl)) ?_
  intro W base args ds gs before hval0 hW hcnd hsz0 _
  have hval : ∀ (j : Nat) t v, Try.f4.params[j]? = some t → args[j]? = some v → Value.okWide Try.prog W .any base t v := hval0
  have hW' := hW
  obtain ⟨p, q, hA0, hV, rfl, hfz, hnd⟩ := hW
  have hA : DataW.TrodAll enc Try.prog W 0 (fun _ => true) true Try.f4.params.toList args.toList ds p := hA0
  rw [Try.params4] at hA hval
  obtain ⟨v0, vs0, d0, ds0, p0, q0, hargs, rfl, rfl, h0, r0⟩ := trodAll_cons hA
  obtain ⟨v1, vs1, d1, ds1, p1, q1, rfl, rfl, rfl, h1, r1⟩ := trodAll_cons r0
  obtain ⟨rfl, rfl, rfl⟩ := trodAll_nil r1
  obtain rfl : args = #[v0, v1] := by cases args; simp_all
  obtain ⟨rfl, rfl⟩ := trodVars_none hV
  have k0 := h0
  have lt0 : ∀ x ∈ p0, x.block < W.heap.size := by obtain ⟨m, hm⟩ := k0; exact DataW.trod_lt m _ _ _ hm
  obtain ⟨cs0, rfl, _⟩ := okWide_struct Try.underlying24 (hval 0 24 v0 rfl rfl)
  obtain ⟨fuel0, hf0⟩ := h0
  obtain ⟨x0, hK0, hw0⟩ := op0 _ _ _ _ _ _ _ _ hf0
  obtain ⟨A0_0, c0_0, A0_1, c0_1, hcs0, hc0_0, hr0_0, hc0_1, hr0_1⟩ := k24_open hK0
  obtain rfl : cs0 = #[.slice A0_0 x0.f0.length c0_0, .slice A0_1 x0.f1.length c0_1, .int .i64 x0.f2] := Array.toList_inj.mp hcs0
  clear hcs0
  have k1 := h1
  have lt1 : ∀ x ∈ p1, x.block < W.heap.size := by obtain ⟨m, hm⟩ := k1; exact DataW.trod_lt m _ _ _ hm
  obtain ⟨a1, len1, cap1, rfl⟩ := okWide_slice Try.underlying32 (hval 1 32 v1 rfl rfl)
  obtain ⟨fuel1, hf1⟩ := h1
  obtain ⟨x1, ⟨A1, c1, hcs1, hc1, hr1⟩, hw1⟩ := op1 _ _ _ _ _ _ _ _ hf1
  obtain ⟨rfl, rfl, rfl⟩ : a1 = A1 ∧ len1 = x1.length ∧ cap1 = c1 := by simpa [Value.cells] using hcs1
  clear hcs1
  clear hA0 hval0 hsz0
  refine (laws_FnExactFrmInto.walk Pure.FnExactFrmInto _ _ x0.f0 _ _ x0.f1 x0.f2 _ _ x1 W hr0_0 hc0_0 hr0_1 hc0_1 hr1 hc1 (hw0.1) (hw0.2.1) (hw0.2.2) hw1).mono fun e W' ⟨he, bel⟩ => ?_
  subst he
  exact ⟨_, rfl, _, _, _, [], _, [], hW', trodAll_mk1 (shut_bool Try.underlying4 _), (trodAll_cons_mk (Below.trod laidOut (by kernel_rfl) (of_decide_eq_true (by kernel_rfl)) k0 bel lt0) (trodAll_cons_mk (Below.trod laidOut (by kernel_rfl) (of_decide_eq_true (by kernel_rfl)) k1 bel lt1) trodAll_mk0)), rfl, bel.frame _, fun h => by cases h⟩
theorem over : Rows.fnExactFrmIntoRow.holds Try.pinned (OpenSpec.ofChange Rows.fnExactFrmIntoSpec) :=
  OpenClaim.holds_of_wide 4 Try.f4 rfl rfl rfl rfl rfl rfl rfl ⟨rfl, rfl, rfl, rfl, rfl⟩ rfl rfl rfl rfl rfl (by kernel_rfl) Try.func4 (by kernel_rfl)
    (of_decide_eq_true (by kernel_rfl)) (by unfold Func.isWrapper; first | (rw [if_pos (by decide +kernel)]; kernel_rfl) | (rw [if_neg (by decide +kernel)]; exact ⟨rfl, rfl⟩))
    (fun os started H enc _ => lifted os started H enc)
theorem proved : Rows.FnExactFrmIntoSaid := over
#print axioms proved
end Go.Proofs.Ytfbdjimcjoddgaa.fnExactFrmInto
namespace Go.Proofs.Ytfbdjimcjoddgaa
/-- The row, under a short name, for the claim. -/
theorem fnExactFrmInto_holds : Rows.FnExactFrmIntoSaid := fnExactFrmInto.proved
end Go.Proofs.Ytfbdjimcjoddgaa
