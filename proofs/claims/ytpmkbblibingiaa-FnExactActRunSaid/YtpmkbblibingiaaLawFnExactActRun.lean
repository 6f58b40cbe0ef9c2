/- For every input the law FnExactActRun returns true, and each argument reads behind the call as it read before. No condition. -/
import Derived.Test.YtpmkbblibingiaaRows
import Derived.Test.YtpmkbblibingiaaQFnExactActRunx9
import Derived.Test.YtpmkbblibingiaaPureFnExactActRun
import Derived.Test.YtpmkbblibingiaaHOpen
import Derived.WalkKit
import Derived.ProofKit
import Derived.OpenShut
import Derived.ShutString
import Derived.ChangeOld
import Derived.Below
import Derived.SizedLaws
namespace Go.Proofs.Ytpmkbblibingiaa.fnExactActRun
open Go.ChangeShapes Go.WideShapes Go.ChangeAt Go.RowKit Go.Proofs.YtpmkbblibingiaaW.PrintWords Go.Proofs.Ytpmkbblibingiaa.HOpen Go.Proofs.Ytpmkbblibingiaa.QFnExactActRun
open Go.ChangeMaps (open_string shut_string)
theorem own : ownKnob Try.prog.godebug = none := by kernel_rfl
theorem laidOut : laidOutB Try.prog = true := by kernel_rfl
theorem op0 : Opens Try.prog 22 (Kd.slice 43 k43) (fun y => (y.length ≤ 9223372036854775807 ∧ ∀ x0 ∈ y, ((Lit.int .i64 x0.f0).wf = true ∧ (Lit.int .i64 x0.f1).wf = true ∧ (Lit.int .i64 x0.f2).wf = true ∧ ((x0.f3.f0.length ≤ 9223372036854775807 ∧ ∀ x1 ∈ x0.f3.f0, (Lit.int .i64 x1).wf = true) ∧ (x0.f3.f1.length ≤ 9223372036854775807 ∧ ∀ x2 ∈ x0.f3.f1, (Lit.int .i64 x2).wf = true) ∧ (Lit.int .i64 x0.f3.f2).wf = true)))) :=
  (Opens.slice Try.underlying22 (by kernel_rfl) (Opens.iso (Wg := fun y : S43 => ((Lit.int .i64 y.f0).wf = true ∧ (Lit.int .i64 y.f1).wf = true ∧ (Lit.int .i64 y.f2).wf = true ∧ ((y.f3.f0.length ≤ 9223372036854775807 ∧ ∀ x500 ∈ y.f3.f0, (Lit.int .i64 x500).wf = true) ∧ (y.f3.f1.length ≤ 9223372036854775807 ∧ ∀ x501 ∈ y.f3.f1, (Lit.int .i64 x501).wf = true) ∧ (Lit.int .i64 y.f3.f2).wf = true))) (Opens.struct Try.underlying43 (by kernel_rfl) (OpensF.cons _ _ rfl (by kernel_rfl) (Opens.int Try.underlying3) (OpensF.cons _ _ rfl (by kernel_rfl) (Opens.int Try.underlying3) (OpensF.cons _ _ rfl (by kernel_rfl) (Opens.int Try.underlying3) (OpensF.one _ rfl (by kernel_rfl) (Opens.iso (Wg := fun y : S41 => ((y.f0.length ≤ 9223372036854775807 ∧ ∀ x500 ∈ y.f0, (Lit.int .i64 x500).wf = true) ∧ (y.f1.length ≤ 9223372036854775807 ∧ ∀ x501 ∈ y.f1, (Lit.int .i64 x501).wf = true) ∧ (Lit.int .i64 y.f2).wf = true)) (Opens.struct Try.underlying41 (by kernel_rfl) (OpensF.cons _ _ rfl (by kernel_rfl) (Opens.slice Try.underlying23 (by kernel_rfl) (Opens.int Try.underlying3)) (OpensF.cons _ _ rfl (by kernel_rfl) (Opens.slice Try.underlying23 (by kernel_rfl) (Opens.int Try.underlying3)) (OpensF.one _ rfl (by kernel_rfl) (Opens.int Try.underlying3))))) (fun x => ⟨x.1, x.2.1, x.2.2⟩) (fun _ => rfl))))))) (fun x => ⟨x.1, x.2.1, x.2.2.1, x.2.2.2⟩) (fun _ => rfl)))
theorem op1 : Opens Try.prog 23 (Kd.slice 3 (Kd.int .i64)) (fun y => (y.length ≤ 9223372036854775807 ∧ ∀ x0 ∈ y, (Lit.int .i64 x0).wf = true)) :=
  (Opens.slice Try.underlying23 (by kernel_rfl) (Opens.int Try.underlying3))
theorem op2 : Opens Try.prog 23 (Kd.slice 3 (Kd.int .i64)) (fun y => (y.length ≤ 9223372036854775807 ∧ ∀ x0 ∈ y, (Lit.int .i64 x0).wf = true)) :=
  (Opens.slice Try.underlying23 (by kernel_rfl) (Opens.int Try.underlying3))
set_option maxRecDepth 100000 in
theorem lifted (os : Os) (started : os.Started) (H : Type) (enc : TypeId × Value → H) :
    ReturnsInHanded {} Try.checked os 3 .any (Rows.fnExactActRunSpec.pre6 enc Try.prog Try.f3 Rows.fnExactActRunRow.domain false) (Rows.fnExactActRunSpec.post enc Try.prog Try.f3 false true false false) := by
  refine returnsInHanded_of_change_sized (C := Try.checked) own started (by kernel_rfl) Try.func3
    (ChangeSpec.witness6 (enc := enc) (C := Try.checked) false ⟨#[], #[.slice none 0 0, .slice none 0 0, .slice none 0 0], []⟩ 8 (by kernel_rfl) (by kernel_rfl) (by kernel_rfl) (by kernel_rfl)) ?_
  intro W base args ds gs before hval0 hW hcnd hsz0 _
  have hval : ∀ (j : Nat) t v, Try.f3.params[j]? = some t → args[j]? = some v → Value.okWide Try.prog W .any base t v := hval0
  have hW' := hW
  obtain ⟨p, q, hA0, hV, rfl, hfz, hnd⟩ := hW
  have hA : DataW.TrodAll enc Try.prog W 0 (fun _ => true) true Try.f3.params.toList args.toList ds p := hA0
  rw [Try.params3] at hA hval
  obtain ⟨v0, vs0, d0, ds0, p0, q0, hargs, rfl, rfl, h0, r0⟩ := trodAll_cons hA
  obtain ⟨v1, vs1, d1, ds1, p1, q1, rfl, rfl, rfl, h1, r1⟩ := trodAll_cons r0
  obtain ⟨v2, vs2, d2, ds2, p2, q2, rfl, rfl, rfl, h2, r2⟩ := trodAll_cons r1
  obtain ⟨rfl, rfl, rfl⟩ := trodAll_nil r2
  obtain rfl : args = #[v0, v1, v2] := by cases args; simp_all
  obtain ⟨rfl, rfl⟩ := trodVars_none hV
  have k0 := h0
  have lt0 : ∀ x ∈ p0, x.block < W.heap.size := by obtain ⟨m, hm⟩ := k0; exact DataW.trod_lt m _ _ _ hm
  obtain ⟨a0, len0, cap0, rfl⟩ := okWide_slice Try.underlying22 (hval 0 22 v0 rfl rfl)
  obtain ⟨fuel0, hf0⟩ := h0
  obtain ⟨x0, ⟨A0, c0, hcs0, hc0, hr0⟩, hw0⟩ := op0 _ _ _ _ _ _ _ _ hf0
  obtain ⟨rfl, rfl, rfl⟩ : a0 = A0 ∧ len0 = x0.length ∧ cap0 = c0 := by simpa [Value.cells] using hcs0
  clear hcs0
  have k1 := h1
  have lt1 : ∀ x ∈ p1, x.block < W.heap.size := by obtain ⟨m, hm⟩ := k1; exact DataW.trod_lt m _ _ _ hm
  obtain ⟨a1, len1, cap1, rfl⟩ := okWide_slice Try.underlying23 (hval 1 23 v1 rfl rfl)
  obtain ⟨fuel1, hf1⟩ := h1
  obtain ⟨x1, ⟨A1, c1, hcs1, hc1, hr1⟩, hw1⟩ := op1 _ _ _ _ _ _ _ _ hf1
  obtain ⟨rfl, rfl, rfl⟩ : a1 = A1 ∧ len1 = x1.length ∧ cap1 = c1 := by simpa [Value.cells] using hcs1
  clear hcs1
  have k2 := h2
  have lt2 : ∀ x ∈ p2, x.block < W.heap.size := by obtain ⟨m, hm⟩ := k2; exact DataW.trod_lt m _ _ _ hm
  obtain ⟨a2, len2, cap2, rfl⟩ := okWide_slice Try.underlying23 (hval 2 23 v2 rfl rfl)
  obtain ⟨fuel2, hf2⟩ := h2
  obtain ⟨x2, ⟨A2, c2, hcs2, hc2, hr2⟩, hw2⟩ := op2 _ _ _ _ _ _ _ _ hf2
  obtain ⟨rfl, rfl, rfl⟩ : a2 = A2 ∧ len2 = x2.length ∧ cap2 = c2 := by simpa [Value.cells] using hcs2
  clear hcs2
  clear hA0 hval0 hsz0
  refine (laws_FnExactActRun.walk Pure.FnExactActRun _ _ x0 _ _ x1 _ _ x2 W hr0 hc0 hr1 hc1 hr2 hc2 hw0 hw1 hw2).mono fun e W' ⟨he, bel⟩ => ?_
  subst he
  exact ⟨_, rfl, _, _, _, [], _, [], hW', trodAll_mk1 (shut_bool Try.underlying4 _), (trodAll_cons_mk (Below.trod laidOut (by kernel_rfl) (of_decide_eq_true (by kernel_rfl)) k0 bel lt0) (trodAll_cons_mk (Below.trod laidOut (by kernel_rfl) (of_decide_eq_true (by kernel_rfl)) k1 bel lt1) (trodAll_cons_mk (Below.trod laidOut (by kernel_rfl) (of_decide_eq_true (by kernel_rfl)) k2 bel lt2) trodAll_mk0))), rfl, bel.frame _, fun h => by cases h⟩
theorem over : Rows.fnExactActRunRow.holds Try.pinned (OpenSpec.ofChange Rows.fnExactActRunSpec) :=
  OpenClaim.holds_of_wide 3 Try.f3 rfl rfl rfl rfl rfl rfl rfl ⟨rfl, rfl, rfl, rfl, rfl⟩ rfl rfl rfl rfl rfl (by kernel_rfl) Try.func3 (by kernel_rfl)
    (of_decide_eq_true (by kernel_rfl)) (by unfold Func.isWrapper; first | (rw [if_pos (by decide +kernel)]; kernel_rfl) | (rw [if_neg (by decide +kernel)]; exact ⟨rfl, rfl⟩))
    (fun os started H enc _ => lifted os started H enc)
theorem proved : Rows.FnExactActRunSaid := over
#print axioms proved
end Go.Proofs.Ytpmkbblibingiaa.fnExactActRun
namespace Go.Proofs.Ytpmkbblibingiaa
/-- The row, under a short name, for the claim. -/
theorem fnExactActRun_holds : Rows.FnExactActRunSaid := fnExactActRun.proved
end Go.Proofs.Ytpmkbblibingiaa
