/- For every input the law FnExactRowOk returns true, and each argument reads behind the call as it read before. No condition. -/
import Derived.Test.YtfbdjimcjoddgaaRows
import Derived.Test.YtfbdjimcjoddgaaQFnExactRowOkx4
import Derived.Test.YtfbdjimcjoddgaaPureFnExactRowOk
import Derived.Test.YtfbdjimcjoddgaaHOpen
import Derived.WalkKit
import Derived.ProofKit
import Derived.OpenShut
import Derived.ShutString
import Derived.ChangeOld
import Derived.Below
import Derived.SizedLaws
namespace Go.Proofs.Ytfbdjimcjoddgaa.fnExactRowOk
open Go.ChangeShapes Go.WideShapes Go.ChangeAt Go.RowKit Go.Proofs.YtfbdjimcjoddgaaW.PrintWords Go.Proofs.Ytfbdjimcjoddgaa.HOpen Go.Proofs.Ytfbdjimcjoddgaa.QFnExactRowOk
open Go.ChangeMaps (open_string shut_string)
theorem own : ownKnob Try.prog.godebug = none := by kernel_rfl
theorem laidOut : laidOutB Try.prog = true := by kernel_rfl
theorem op0 : Opens Try.prog 41 k41 (fun y => ((y.f0.length ≤ 9223372036854775807 ∧ ∀ x0 ∈ y.f0, ((x0.f0.length ≤ 9223372036854775807 ∧ ∀ x1 ∈ x0.f0, (Lit.int .i64 x1).wf = true) ∧ (x0.f1.length ≤ 9223372036854775807 ∧ ∀ x2 ∈ x0.f1, (Lit.int .i64 x2).wf = true) ∧ (Lit.int .i64 x0.f2).wf = true)) ∧ (y.f1.length ≤ 9223372036854775807 ∧ ∀ x3 ∈ y.f1, ((x3.f0.length ≤ 9223372036854775807 ∧ ∀ x4 ∈ x3.f0, (Lit.int .i64 x4).wf = true) ∧ (x3.f1.length ≤ 9223372036854775807 ∧ ∀ x5 ∈ x3.f1, (Lit.int .i64 x5).wf = true) ∧ (Lit.int .i64 x3.f2).wf = true)) ∧ (y.f2.length ≤ 9223372036854775807 ∧ ∀ x6 ∈ y.f2, ((x6.f0.length ≤ 9223372036854775807 ∧ ∀ x7 ∈ x6.f0, (Lit.int .i64 x7).wf = true) ∧ (x6.f1.length ≤ 9223372036854775807 ∧ ∀ x8 ∈ x6.f1, (Lit.int .i64 x8).wf = true) ∧ (Lit.int .i64 x6.f2).wf = true)) ∧ True)) :=
  (Opens.iso (Wg := fun y : S41 => ((y.f0.length ≤ 9223372036854775807 ∧ ∀ x500 ∈ y.f0, ((x500.f0.length ≤ 9223372036854775807 ∧ ∀ x501 ∈ x500.f0, (Lit.int .i64 x501).wf = true) ∧ (x500.f1.length ≤ 9223372036854775807 ∧ ∀ x502 ∈ x500.f1, (Lit.int .i64 x502).wf = true) ∧ (Lit.int .i64 x500.f2).wf = true)) ∧ (y.f1.length ≤ 9223372036854775807 ∧ ∀ x503 ∈ y.f1, ((x503.f0.length ≤ 9223372036854775807 ∧ ∀ x504 ∈ x503.f0, (Lit.int .i64 x504).wf = true) ∧ (x503.f1.length ≤ 9223372036854775807 ∧ ∀ x505 ∈ x503.f1, (Lit.int .i64 x505).wf = true) ∧ (Lit.int .i64 x503.f2).wf = true)) ∧ (y.f2.length ≤ 9223372036854775807 ∧ ∀ x506 ∈ y.f2, ((x506.f0.length ≤ 9223372036854775807 ∧ ∀ x507 ∈ x506.f0, (Lit.int .i64 x507).wf = true) ∧ (x506.f1.length ≤ 9223372036854775807 ∧ ∀ x508 ∈ x506.f1, (Lit.int .i64 x508).wf = true) ∧ (Lit.int .i64 x506.f2).wf = true)) ∧ True)) (Opens.struct Try.underlying41 (by kernel_rfl) (OpensF.cons _ _ rfl (by kernel_rfl) (Opens.slice Try.underlying32 (by kernel_rfl) (Opens.iso (Wg := fun y : S24 => ((y.f0.length ≤ 9223372036854775807 ∧ ∀ x500 ∈ y.f0, (Lit.int .i64 x500).wf = true) ∧ (y.f1.length ≤ 9223372036854775807 ∧ ∀ x501 ∈ y.f1, (Lit.int .i64 x501).wf = true) ∧ (Lit.int .i64 y.f2).wf = true)) (Opens.struct Try.underlying24 (by kernel_rfl) (OpensF.cons _ _ rfl (by kernel_rfl) (Opens.slice Try.underlying22 (by kernel_rfl) (Opens.int Try.underlying3)) (OpensF.cons _ _ rfl (by kernel_rfl) (Opens.slice Try.underlying22 (by kernel_rfl) (Opens.int Try.underlying3)) (OpensF.one _ rfl (by kernel_rfl) (Opens.int Try.underlying3))))) (fun x => ⟨x.1, x.2.1, x.2.2⟩) (fun _ => rfl))) (OpensF.cons _ _ rfl (by kernel_rfl) (Opens.slice Try.underlying32 (by kernel_rfl) (Opens.iso (Wg := fun y : S24 => ((y.f0.length ≤ 9223372036854775807 ∧ ∀ x500 ∈ y.f0, (Lit.int .i64 x500).wf = true) ∧ (y.f1.length ≤ 9223372036854775807 ∧ ∀ x501 ∈ y.f1, (Lit.int .i64 x501).wf = true) ∧ (Lit.int .i64 y.f2).wf = true)) (Opens.struct Try.underlying24 (by kernel_rfl) (OpensF.cons _ _ rfl (by kernel_rfl) (Opens.slice Try.underlying22 (by kernel_rfl) (Opens.int Try.underlying3)) (OpensF.cons _ _ rfl (by kernel_rfl) (Opens.slice Try.underlying22 (by kernel_rfl) (Opens.int Try.underlying3)) (OpensF.one _ rfl (by kernel_rfl) (Opens.int Try.underlying3))))) (fun x => ⟨x.1, x.2.1, x.2.2⟩) (fun _ => rfl))) (OpensF.cons _ _ rfl (by kernel_rfl) (Opens.slice Try.underlying32 (by kernel_rfl) (Opens.iso (Wg := fun y : S24 => ((y.f0.length ≤ 9223372036854775807 ∧ ∀ x500 ∈ y.f0, (Lit.int .i64 x500).wf = true) ∧ (y.f1.length ≤ 9223372036854775807 ∧ ∀ x501 ∈ y.f1, (Lit.int .i64 x501).wf = true) ∧ (Lit.int .i64 y.f2).wf = true)) (Opens.struct Try.underlying24 (by kernel_rfl) (OpensF.cons _ _ rfl (by kernel_rfl) (Opens.slice Try.underlying22 (by kernel_rfl) (Opens.int Try.underlying3)) (OpensF.cons _ _ rfl (by kernel_rfl) (Opens.slice Try.underlying22 (by kernel_rfl) (Opens.int Try.underlying3)) (OpensF.one _ rfl (by kernel_rfl) (Opens.int Try.underlying3))))) (fun x => ⟨x.1, x.2.1, x.2.2⟩) (fun _ => rfl))) (OpensF.one _ rfl (by kernel_rfl) (Opens.bool Try.underlying4)))))) (fun x => ⟨x.1, x.2.1, x.2.2.1, x.2.2.2⟩) (fun _ => rfl))
set_option maxRecDepth 100000 in
theorem lifted (os : Os) (started : os.Started) (H : Type) (enc : TypeId × Value → H) :
    ReturnsInHanded {} Try.checked os 5 .any (Rows.fnExactRowOkSpec.pre6 enc Try.prog Try.f5 Rows.fnExactRowOkRow.domain false) (Rows.fnExactRowOkSpec.post enc Try.prog Try.f5 false true false false) := by
  refine returnsInHanded_of_change_sized (C := Try.checked) own started (by kernel_rfl) Try.func5
    (ChangeSpec.witness6 (enc := enc) (C := Try.checked) false ⟨#[], #[.agg #[.slice none 0 0, .slice none 0 0, .slice none 0 0, .bool false]], []⟩ 8 (by kernel_rfl) (by kernel_rfl) (by kernel_rfl) (by kernel_rfl)) ?_
  intro W base args ds gs before hval0 hW hcnd hsz0 _
  have hval : ∀ (j : Nat) t v, Try.f5.params[j]? = some t → args[j]? = some v → Value.okWide Try.prog W .any base t v := hval0
  have hW' := hW
  obtain ⟨p, q, hA0, hV, rfl, hfz, hnd⟩ := hW
  have hA : DataW.TrodAll enc Try.prog W 0 (fun _ => true) true Try.f5.params.toList args.toList ds p := hA0
  rw [Try.params5] at hA hval
  obtain ⟨v0, vs0, d0, ds0, p0, q0, hargs, rfl, rfl, h0, r0⟩ := trodAll_cons hA
  obtain ⟨rfl, rfl, rfl⟩ := trodAll_nil r0
  obtain rfl : args = #[v0] := by cases args; simp_all
  obtain ⟨rfl, rfl⟩ := trodVars_none hV
  have k0 := h0
  have lt0 : ∀ x ∈ p0, x.block < W.heap.size := by obtain ⟨m, hm⟩ := k0; exact DataW.trod_lt m _ _ _ hm
  obtain ⟨cs0, rfl, _⟩ := okWide_struct Try.underlying41 (hval 0 41 v0 rfl rfl)
  obtain ⟨fuel0, hf0⟩ := h0
  obtain ⟨x0, hK0, hw0⟩ := op0 _ _ _ _ _ _ _ _ hf0
  obtain ⟨A0_0, c0_0, A0_1, c0_1, A0_2, c0_2, hcs0, hc0_0, hr0_0, hc0_1, hr0_1, hc0_2, hr0_2⟩ := k41_open hK0
  obtain rfl : cs0 = #[.slice A0_0 x0.f0.length c0_0, .slice A0_1 x0.f1.length c0_1, .slice A0_2 x0.f2.length c0_2, .bool x0.f3] := Array.toList_inj.mp hcs0
  clear hcs0
  clear hA0 hval0 hsz0
  refine (laws_FnExactRowOk.walk Pure.FnExactRowOk _ _ x0.f0 _ _ x0.f1 _ _ x0.f2 x0.f3 W hr0_0 hc0_0 hr0_1 hc0_1 hr0_2 hc0_2 (hw0.1) (hw0.2.1) (hw0.2.2.1)).mono fun e W' ⟨he, bel⟩ => ?_
  subst he
  exact ⟨_, rfl, _, _, _, [], _, [], hW', trodAll_mk1 (shut_bool Try.underlying4 _), (trodAll_cons_mk (Below.trod laidOut (by kernel_rfl) (of_decide_eq_true (by kernel_rfl)) k0 bel lt0) trodAll_mk0), rfl, bel.frame _, fun h => by cases h⟩
theorem over : Rows.fnExactRowOkRow.holds Try.pinned (OpenSpec.ofChange Rows.fnExactRowOkSpec) :=
  OpenClaim.holds_of_wide 5 Try.f5 rfl rfl rfl rfl rfl rfl rfl ⟨rfl, rfl, rfl, rfl, rfl⟩ rfl rfl rfl rfl rfl (by kernel_rfl) Try.func5 (by kernel_rfl)
    (of_decide_eq_true (by kernel_rfl)) (by unfold Func.isWrapper; first | (rw [if_pos (by decide +kernel)]; kernel_rfl) | (rw [if_neg (by decide +kernel)]; exact ⟨rfl, rfl⟩))
    (fun os started H enc _ => lifted os started H enc)
theorem proved : Rows.FnExactRowOkSaid := over
#print axioms proved
end Go.Proofs.Ytfbdjimcjoddgaa.fnExactRowOk
namespace Go.Proofs.Ytfbdjimcjoddgaa
/-- The row, under a short name, for the claim. -/
theorem fnExactRowOk_holds : Rows.FnExactRowOkSaid := fnExactRowOk.proved
end Go.Proofs.Ytfbdjimcjoddgaa
