/- For every input the law FnExactCatOk returns true, and each argument reads behind the call as it read before. No condition. -/
import Derived.Test.YtkklkpoelkangaaRows
import Derived.Test.YtkklkpoelkangaaQFnExactCatOkx6
import Derived.Test.YtkklkpoelkangaaPureFnExactCatOk
import Derived.Test.YtkklkpoelkangaaHOpen
import Derived.WalkKit
import Derived.ProofKit
import Derived.OpenShut
import Derived.ShutString
import Derived.ChangeOld
import Derived.Below
import Derived.SizedLaws
namespace Go.Proofs.Ytkklkpoelkangaa.fnExactCatOk
open Go.ChangeShapes Go.WideShapes Go.ChangeAt Go.RowKit Go.Proofs.YtkklkpoelkangaaW.PrintWords Go.Proofs.Ytkklkpoelkangaa.HOpen Go.Proofs.Ytkklkpoelkangaa.QFnExactCatOk
open Go.ChangeMaps (open_string shut_string)
theorem own : ownKnob Try.prog.godebug = none := by kernel_rfl
theorem laidOut : laidOutB Try.prog = true := by kernel_rfl
theorem op0 : Opens Try.prog 74 (Kd.slice 65 (Kd.slice 121 k121)) (fun y => (y.length ≤ 9223372036854775807 ∧ ∀ x0 ∈ y, (x0.length ≤ 9223372036854775807 ∧ ∀ x1 ∈ x0, ((Lit.int .i64 x1.f0).wf = true ∧ (Lit.int .i64 x1.f1).wf = true ∧ (Lit.int .i64 x1.f2).wf = true ∧ ((x1.f3.f0.length ≤ 9223372036854775807 ∧ ∀ x2 ∈ x1.f3.f0, (Lit.int .i64 x2).wf = true) ∧ (x1.f3.f1.length ≤ 9223372036854775807 ∧ ∀ x3 ∈ x1.f3.f1, (Lit.int .i64 x3).wf = true) ∧ (Lit.int .i64 x1.f3.f2).wf = true))))) :=
  (Opens.slice Try.underlying74 (by kernel_rfl) (Opens.slice Try.underlying65 (by kernel_rfl) (Opens.iso (Wg := fun y : S121 => ((Lit.int .i64 y.f0).wf = true ∧ (Lit.int .i64 y.f1).wf = true ∧ (Lit.int .i64 y.f2).wf = true ∧ ((y.f3.f0.length ≤ 9223372036854775807 ∧ ∀ x500 ∈ y.f3.f0, (Lit.int .i64 x500).wf = true) ∧ (y.f3.f1.length ≤ 9223372036854775807 ∧ ∀ x501 ∈ y.f3.f1, (Lit.int .i64 x501).wf = true) ∧ (Lit.int .i64 y.f3.f2).wf = true))) (Opens.struct Try.underlying121 (by kernel_rfl) (OpensF.cons _ _ rfl (by kernel_rfl) (Opens.int Try.underlying3) (OpensF.cons _ _ rfl (by kernel_rfl) (Opens.int Try.underlying3) (OpensF.cons _ _ rfl (by kernel_rfl) (Opens.int Try.underlying3) (OpensF.one _ rfl (by kernel_rfl) (Opens.iso (Wg := fun y : S24 => ((y.f0.length ≤ 9223372036854775807 ∧ ∀ x500 ∈ y.f0, (Lit.int .i64 x500).wf = true) ∧ (y.f1.length ≤ 9223372036854775807 ∧ ∀ x501 ∈ y.f1, (Lit.int .i64 x501).wf = true) ∧ (Lit.int .i64 y.f2).wf = true)) (Opens.struct Try.underlying24 (by kernel_rfl) (OpensF.cons _ _ rfl (by kernel_rfl) (Opens.slice Try.underlying22 (by kernel_rfl) (Opens.int Try.underlying3)) (OpensF.cons _ _ rfl (by kernel_rfl) (Opens.slice Try.underlying22 (by kernel_rfl) (Opens.int Try.underlying3)) (OpensF.one _ rfl (by kernel_rfl) (Opens.int Try.underlying3))))) (fun x => ⟨x.1, x.2.1, x.2.2⟩) (fun _ => rfl))))))) (fun x => ⟨x.1, x.2.1, x.2.2.1, x.2.2.2⟩) (fun _ => rfl))))
set_option maxRecDepth 100000 in
theorem lifted (os : Os) (started : os.Started) (H : Type) (enc : TypeId × Value → H) :
    ReturnsInHanded {} Try.checked os 10 .any (Rows.fnExactCatOkSpec.pre6 enc Try.prog Try.f10 Rows.fnExactCatOkRow.domain false) (Rows.fnExactCatOkSpec.post enc Try.prog Try.f10 false true false false) := by
  refine returnsInHanded_of_change_sized (C := Try.checked) own started (by kernel_rfl) Try.func10
    (ChangeSpec.witness6 (enc := enc) (C := Try.checked) false ⟨#[], #[.slice none 0 0], []⟩ 8 (by kernel_rfl) (by kernel_rfl) (by kernel_rfl) (by kernel_rfl)) ?_
  intro W base args ds gs before hval0 hW hcnd hsz0 _
  have hval : ∀ (j : Nat) t v, Try.f10.params[j]? = some t → args[j]? = some v → Value.okWide Try.prog W .any base t v := hval0
  have hW' := hW
  obtain ⟨p, q, hA0, hV, rfl, hfz, hnd⟩ := hW
  have hA : DataW.TrodAll enc Try.prog W 0 (fun _ => true) true Try.f10.params.toList args.toList ds p := hA0
  rw [Try.params10] at hA hval
  obtain ⟨v0, vs0, d0, ds0, p0, q0, hargs, rfl, rfl, h0, r0⟩ := trodAll_cons hA
  obtain ⟨rfl, rfl, rfl⟩ := trodAll_nil r0
  obtain rfl : args = #[v0] := by cases args; simp_all
  obtain ⟨rfl, rfl⟩ := trodVars_none hV
  have k0 := h0
  have lt0 : ∀ x ∈ p0, x.block < W.heap.size := by obtain ⟨m, hm⟩ := k0; exact DataW.trod_lt m _ _ _ hm
  obtain ⟨a0, len0, cap0, rfl⟩ := okWide_slice Try.underlying74 (hval 0 74 v0 rfl rfl)
  obtain ⟨fuel0, hf0⟩ := h0
  obtain ⟨x0, ⟨A0, c0, hcs0, hc0, hr0⟩, hw0⟩ := op0 _ _ _ _ _ _ _ _ hf0
  obtain ⟨rfl, rfl, rfl⟩ : a0 = A0 ∧ len0 = x0.length ∧ cap0 = c0 := by simpa [Value.cells] using hcs0
  clear hcs0
  clear hA0 hval0 hsz0
  refine (laws_FnExactCatOk.walk Pure.FnExactCatOk _ _ x0 W hr0 hc0 hw0).mono fun e W' ⟨he, bel⟩ => ?_
  subst he
  exact ⟨_, rfl, _, _, _, [], _, [], hW', trodAll_mk1 (shut_bool Try.underlying4 _), (trodAll_cons_mk (Below.trod laidOut (by kernel_rfl) (of_decide_eq_true (by kernel_rfl)) k0 bel lt0) trodAll_mk0), rfl, bel.frame _, fun h => by cases h⟩
theorem over : Rows.fnExactCatOkRow.holds Try.pinned (OpenSpec.ofChange Rows.fnExactCatOkSpec) :=
  OpenClaim.holds_of_wide 10 Try.f10 rfl rfl rfl rfl rfl rfl rfl ⟨rfl, rfl, rfl, rfl, rfl⟩ rfl rfl rfl rfl rfl (by kernel_rfl) Try.func10 (by kernel_rfl)
    (of_decide_eq_true (by kernel_rfl)) (by unfold Func.isWrapper; first | (rw [if_pos (by decide +kernel)]; kernel_rfl) | (rw [if_neg (by decide +kernel)]; exact ⟨rfl, rfl⟩))
    (fun os started H enc _ => lifted os started H enc)
theorem proved : Rows.FnExactCatOkSaid := over
#print axioms proved
end Go.Proofs.Ytkklkpoelkangaa.fnExactCatOk
namespace Go.Proofs.Ytkklkpoelkangaa
/-- The row, under a short name, for the claim. -/
theorem fnExactCatOk_holds : Rows.FnExactCatOkSaid := fnExactCatOk.proved
end Go.Proofs.Ytkklkpoelkangaa
