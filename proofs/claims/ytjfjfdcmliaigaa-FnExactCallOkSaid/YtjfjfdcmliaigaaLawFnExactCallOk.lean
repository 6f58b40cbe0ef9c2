/- For every input the law FnExactCallOk returns true, and each argument reads behind the call as it read before. No condition. -/
import Derived.Test.YtjfjfdcmliaigaaRows
import Derived.Test.YtjfjfdcmliaigaaQFnExactCallOkx8
import Derived.Test.YtjfjfdcmliaigaaPureFnExactCallOk
import Derived.Test.YtjfjfdcmliaigaaHOpen
import Derived.WalkKit
import Derived.ProofKit
import Derived.OpenShut
import Derived.ShutString
import Derived.ChangeOld
import Derived.Below
import Derived.SizedLaws
namespace Go.Proofs.Ytjfjfdcmliaigaa.fnExactCallOk
open Go.ChangeShapes Go.WideShapes Go.ChangeAt Go.RowKit Go.Proofs.YtjfjfdcmliaigaaW.PrintWords Go.Proofs.Ytjfjfdcmliaigaa.HOpen Go.Proofs.Ytjfjfdcmliaigaa.QFnExactCallOk
open Go.ChangeMaps (open_string shut_string)
theorem own : ownKnob Try.prog.godebug = none := by kernel_rfl
theorem laidOut : laidOutB Try.prog = true := by kernel_rfl
theorem op0 : Opens Try.prog 41 k41 (fun y => ((Lit.int .i64 y.f0).wf = true ∧ (y.f1.length ≤ 9223372036854775807 ∧ ∀ x0 ∈ y.f1, (x0.length ≤ 9223372036854775807 ∧ ∀ x1 ∈ x0, ((Lit.int .i64 x1.f0).wf = true ∧ (Lit.int .i64 x1.f1).wf = true ∧ (Lit.int .i64 x1.f2).wf = true ∧ ((x1.f3.f0.length ≤ 9223372036854775807 ∧ ∀ x2 ∈ x1.f3.f0, (Lit.int .i64 x2).wf = true) ∧ (x1.f3.f1.length ≤ 9223372036854775807 ∧ ∀ x3 ∈ x1.f3.f1, (Lit.int .i64 x3).wf = true) ∧ (Lit.int .i64 x1.f3.f2).wf = true)))) ∧ (y.f2.length ≤ 9223372036854775807 ∧ ∀ x4 ∈ y.f2, (Lit.int .i64 x4).wf = true) ∧ (y.f3.length ≤ 9223372036854775807 ∧ ∀ x5 ∈ y.f3, (Lit.int .i64 x5).wf = true))) :=
  (Opens.iso (Wg := fun y : S41 => ((Lit.int .i64 y.f0).wf = true ∧ (y.f1.length ≤ 9223372036854775807 ∧ ∀ x500 ∈ y.f1, (x500.length ≤ 9223372036854775807 ∧ ∀ x501 ∈ x500, ((Lit.int .i64 x501.f0).wf = true ∧ (Lit.int .i64 x501.f1).wf = true ∧ (Lit.int .i64 x501.f2).wf = true ∧ ((x501.f3.f0.length ≤ 9223372036854775807 ∧ ∀ x502 ∈ x501.f3.f0, (Lit.int .i64 x502).wf = true) ∧ (x501.f3.f1.length ≤ 9223372036854775807 ∧ ∀ x503 ∈ x501.f3.f1, (Lit.int .i64 x503).wf = true) ∧ (Lit.int .i64 x501.f3.f2).wf = true)))) ∧ (y.f2.length ≤ 9223372036854775807 ∧ ∀ x504 ∈ y.f2, (Lit.int .i64 x504).wf = true) ∧ (y.f3.length ≤ 9223372036854775807 ∧ ∀ x505 ∈ y.f3, (Lit.int .i64 x505).wf = true))) (Opens.struct Try.underlying41 (by kernel_rfl) (OpensF.cons _ _ rfl (by kernel_rfl) (Opens.int Try.underlying3) (OpensF.cons _ _ rfl (by kernel_rfl) (Opens.slice Try.underlying39 (by kernel_rfl) (Opens.slice Try.underlying22 (by kernel_rfl) (Opens.iso (Wg := fun y : S104 => ((Lit.int .i64 y.f0).wf = true ∧ (Lit.int .i64 y.f1).wf = true ∧ (Lit.int .i64 y.f2).wf = true ∧ ((y.f3.f0.length ≤ 9223372036854775807 ∧ ∀ x500 ∈ y.f3.f0, (Lit.int .i64 x500).wf = true) ∧ (y.f3.f1.length ≤ 9223372036854775807 ∧ ∀ x501 ∈ y.f3.f1, (Lit.int .i64 x501).wf = true) ∧ (Lit.int .i64 y.f3.f2).wf = true))) (Opens.struct Try.underlying104 (by kernel_rfl) (OpensF.cons _ _ rfl (by kernel_rfl) (Opens.int Try.underlying3) (OpensF.cons _ _ rfl (by kernel_rfl) (Opens.int Try.underlying3) (OpensF.cons _ _ rfl (by kernel_rfl) (Opens.int Try.underlying3) (OpensF.one _ rfl (by kernel_rfl) (Opens.iso (Wg := fun y : S102 => ((y.f0.length ≤ 9223372036854775807 ∧ ∀ x500 ∈ y.f0, (Lit.int .i64 x500).wf = true) ∧ (y.f1.length ≤ 9223372036854775807 ∧ ∀ x501 ∈ y.f1, (Lit.int .i64 x501).wf = true) ∧ (Lit.int .i64 y.f2).wf = true)) (Opens.struct Try.underlying102 (by kernel_rfl) (OpensF.cons _ _ rfl (by kernel_rfl) (Opens.slice Try.underlying23 (by kernel_rfl) (Opens.int Try.underlying3)) (OpensF.cons _ _ rfl (by kernel_rfl) (Opens.slice Try.underlying23 (by kernel_rfl) (Opens.int Try.underlying3)) (OpensF.one _ rfl (by kernel_rfl) (Opens.int Try.underlying3))))) (fun x => ⟨x.1, x.2.1, x.2.2⟩) (fun _ => rfl))))))) (fun x => ⟨x.1, x.2.1, x.2.2.1, x.2.2.2⟩) (fun _ => rfl)))) (OpensF.cons _ _ rfl (by kernel_rfl) (Opens.slice Try.underlying23 (by kernel_rfl) (Opens.int Try.underlying3)) (OpensF.one _ rfl (by kernel_rfl) (Opens.slice Try.underlying23 (by kernel_rfl) (Opens.int Try.underlying3))))))) (fun x => ⟨x.1, x.2.1, x.2.2.1, x.2.2.2⟩) (fun _ => rfl))
theorem op1 : Opens Try.prog 43 k43 (fun y => ((Lit.int .i64 y.f0).wf = true ∧ (Lit.int .i64 y.f1).wf = true ∧ (Lit.int .i64 y.f2).wf = true ∧ (y.f3.length ≤ 9223372036854775807 ∧ ∀ x0 ∈ y.f3, (Lit.int .i64 x0).wf = true))) :=
  (Opens.iso (Wg := fun y : S43 => ((Lit.int .i64 y.f0).wf = true ∧ (Lit.int .i64 y.f1).wf = true ∧ (Lit.int .i64 y.f2).wf = true ∧ (y.f3.length ≤ 9223372036854775807 ∧ ∀ x500 ∈ y.f3, (Lit.int .i64 x500).wf = true))) (Opens.struct Try.underlying43 (by kernel_rfl) (OpensF.cons _ _ rfl (by kernel_rfl) (Opens.int Try.underlying3) (OpensF.cons _ _ rfl (by kernel_rfl) (Opens.int Try.underlying3) (OpensF.cons _ _ rfl (by kernel_rfl) (Opens.int Try.underlying3) (OpensF.one _ rfl (by kernel_rfl) (Opens.slice Try.underlying23 (by kernel_rfl) (Opens.int Try.underlying3))))))) (fun x => ⟨x.1, x.2.1, x.2.2.1, x.2.2.2⟩) (fun _ => rfl))
set_option maxRecDepth 100000 in
theorem lifted (os : Os) (started : os.Started) (H : Type) (enc : TypeId × Value → H) :
    ReturnsInHanded {} Try.checked os 4 .any (Rows.fnExactCallOkSpec.pre6 enc Try.prog Try.f4 Rows.fnExactCallOkRow.domain false) (Rows.fnExactCallOkSpec.post enc Try.prog Try.f4 false true false false) := by
  refine returnsInHanded_of_change_sized (C := Try.checked) own started (by kernel_rfl) Try.func4
    (ChangeSpec.witness6 (enc := enc) (C := Try.checked) false ⟨#[], #[.agg #[.int .i64 0, .slice none 0 0, .slice none 0 0, .slice none 0 0], .agg #[.int .i64 0, .int .i64 0, .int .i64 0, .slice none 0 0]], []⟩ 8 (by kernel_rfl) (by kernel_rfl) (by kernel_rfl) (by kernel_rfl)) ?_
  intro W base args ds gs before hval0 hW hcnd hsz0 _
  have hval : ∀ (j : Nat) t v, Try.f4.params[j]? = some t → args[j]? = some v → Value.okWide Try.prog W .any base t v := hval0
  have hW' := hW
  obtain ⟨p, q, hA0, hV, rfl, hfz, hnd⟩ := hW
  have hA : DataW.TrodAll enc Try.prog W 0 (fun _ => true) true Try.f4.params.toList args.toList ds p := hA0
  rw [Try.params4] at hA hval
  obtain ⟨v0, vs0, d0, ds0, p0, q0, hargs, rfl, rfl, h0, r0⟩ := trodAll_cons hA
  obtain ⟨v1, vs1, d1, ds1, p1, q1, rfl, rfl, rfl, h1, r1⟩ := trodAll_cons r0
  obtain ⟨rfl, rfl, rfl⟩ := trodAll_nil r1
  obtain rfl : args = #[v0, v1] := by cases args; simp_all
  obtain ⟨rfl, rfl⟩ := trodVars_none hV
  have k0 := h0
  have lt0 : ∀ x ∈ p0, x.block < W.heap.size := by obtain ⟨m, hm⟩ := k0; exact DataW.trod_lt m _ _ _ hm
  obtain ⟨cs0, rfl, _⟩ := okWide_struct Try.underlying41 (hval 0 41 v0 rfl rfl)
  obtain ⟨fuel0, hf0⟩ := h0
  obtain ⟨x0, hK0, hw0⟩ := op0 _ _ _ _ _ _ _ _ hf0
  obtain ⟨A0_1, c0_1, A0_2, c0_2, A0_3, c0_3, hcs0, hc0_1, hr0_1, hc0_2, hr0_2, hc0_3, hr0_3⟩ := k41_open hK0
  obtain rfl : cs0 = #[.int .i64 x0.f0, .slice A0_1 x0.f1.length c0_1, .slice A0_2 x0.f2.length c0_2, .slice A0_3 x0.f3.length c0_3] := Array.toList_inj.mp hcs0
  clear hcs0
  have k1 := h1
  have lt1 : ∀ x ∈ p1, x.block < W.heap.size := by obtain ⟨m, hm⟩ := k1; exact DataW.trod_lt m _ _ _ hm
  obtain ⟨cs1, rfl, _⟩ := okWide_struct Try.underlying43 (hval 1 43 v1 rfl rfl)
  obtain ⟨fuel1, hf1⟩ := h1
  obtain ⟨x1, hK1, hw1⟩ := op1 _ _ _ _ _ _ _ _ hf1
  obtain ⟨A1_3, c1_3, hcs1, hc1_3, hr1_3⟩ := k43_open hK1
  obtain rfl : cs1 = #[.int .i64 x1.f0, .int .i64 x1.f1, .int .i64 x1.f2, .slice A1_3 x1.f3.length c1_3] := Array.toList_inj.mp hcs1
  clear hcs1
  clear hA0 hval0 hsz0
  refine (laws_FnExactCallOk.walk Pure.FnExactCallOk x0.f0 _ _ x0.f1 _ _ x0.f2 _ _ x0.f3 x1.f0 x1.f1 x1.f2 _ _ x1.f3 W hr0_1 hc0_1 hr0_2 hc0_2 hr0_3 hc0_3 hr1_3 hc1_3 (hw0.1) (hw0.2.1) (hw0.2.2.1) (hw0.2.2.2) (hw1.1) (hw1.2.1) (hw1.2.2.1) (hw1.2.2.2)).mono fun e W' ⟨he, bel⟩ => ?_
  subst he
  exact ⟨_, rfl, _, _, _, [], _, [], hW', trodAll_mk1 (shut_bool Try.underlying4 _), (trodAll_cons_mk (Below.trod laidOut (by kernel_rfl) (of_decide_eq_true (by kernel_rfl)) k0 bel lt0) (trodAll_cons_mk (Below.trod laidOut (by kernel_rfl) (of_decide_eq_true (by kernel_rfl)) k1 bel lt1) trodAll_mk0)), rfl, bel.frame _, fun h => by cases h⟩
theorem over : Rows.fnExactCallOkRow.holds Try.pinned (OpenSpec.ofChange Rows.fnExactCallOkSpec) :=
  OpenClaim.holds_of_wide 4 Try.f4 rfl rfl rfl rfl rfl rfl rfl ⟨rfl, rfl, rfl, rfl, rfl⟩ rfl rfl rfl rfl rfl (by kernel_rfl) Try.func4 (by kernel_rfl)
    (of_decide_eq_true (by kernel_rfl)) (by unfold Func.isWrapper; first | (rw [if_pos (by decide +kernel)]; kernel_rfl) | (rw [if_neg (by decide +kernel)]; exact ⟨rfl, rfl⟩))
    (fun os started H enc _ => lifted os started H enc)
theorem proved : Rows.FnExactCallOkSaid := over
#print axioms proved
end Go.Proofs.Ytjfjfdcmliaigaa.fnExactCallOk
namespace Go.Proofs.Ytjfjfdcmliaigaa
/-- The row, under a short name, for the claim. -/
theorem fnExactCallOk_holds : Rows.FnExactCallOkSaid := fnExactCallOk.proved
end Go.Proofs.Ytjfjfdcmliaigaa
