/- Plain functions, and that the Go code computes them: written by a program of this session over the seat's translation; the conditions stand in each theorem. -/
import Derived.Test.YtfbdjimcjoddgaaQFnExactRowDox0
import Derived.Test.YtfbdjimcjoddgaaQFnExactRowDox1
import Derived.Test.YtfbdjimcjoddgaaQFnExactRowDox2
import Derived.Test.YtfbdjimcjoddgaaQFnExactRowDox4
import Derived.Test.YtfbdjimcjoddgaaQFnExactRowDox6
import Derived.Test.YtfbdjimcjoddgaaQFnExactRowDox7
namespace Go.Proofs.Ytfbdjimcjoddgaa.QFnExactRowDo
open Go.RowKit Go.Proofs.YtfbdjimcjoddgaaW.PrintWords Go.Proofs.YtfbdjimcjoddgaaW.PrintLast Go.Proofs.YtfbdjimcjoddgaaW.PrintMore Go.Proofs.Ytfbdjimcjoddgaa.HWords
attribute [local go_sem] max2_int min2_int max_two min_two max_three min_three max_four min_four   -- for this text's walks alone
set_option linter.unusedVariables false
set_option linter.unusedSimpArgs false

/-! ### laws_FnExactRowDo: function 7 -/
mutual
def laws_FnExactRowDo.j0 : Nat → List Int → List Int → List Int → List Int → List Int → List Int → Bool → List (S24) → List (S24) → List (S24) → Bool → Int → List Int → List (S26) → List (S26) → List (S26) → Bool → Int → List Int → Option (Bool)
  | 0, _, _, _, _, _, _, _, _, _, _, _, _, _, _, _, _, _, _, _ => none
  | k + 1, x1, x2, x9, x11, x12, x14, x63, x285000, x285001, x285002, x285003, x310000, x310001, x321000, x321001, x321002, x321003, x335000, x335001 => if x63 = true then (some false) else ((laws_toRowRow.f k x285000 x285001 x285002 x285003).bind fun bt337 => ((laws_eqRowRow.f k x321000 x321001 x321002 x321003 bt337.1 bt337.2.1 bt337.2.2.1 bt337.2.2.2).bind fun t347 => (if t347 = true then ((laws_toIntS.f k x1).bind fun t348 => ((laws_eqIntS.f k x11 t348).bind fun t351 => (if t351 = true then ((laws_toIntS.f k x2).bind fun t352 => ((laws_eqIntS.f k x12 t352).bind fun t355 => (if t355 = true then ((laws_markRowRow.f x321000 x321001 x321002 x321003 1).bind fun t356 => ((laws_markIntS.f k x11 t356).bind fun bt357 => ((laws_markIntS.f k x12 bt357.1).bind fun bt359 => (if bt359.1 < 0 then (laws_FnExactRowDo.j1 k x1 x2 x9 x14 true x285000 x285001 x285002 x285003 x310000 x310001 x335000 x335001) else ((laws_eqResResult.f k x335000 x335001 x310000 x310001).bind fun t361 => (if t361 = true then ((laws_eqIntS.f k x14 x9).bind fun t362 => (laws_FnExactRowDo.j1 k x1 x2 x9 x14 (!t362) x285000 x285001 x285002 x285003 x310000 x310001 x335000 x335001)) else (laws_FnExactRowDo.j1 k x1 x2 x9 x14 true x285000 x285001 x285002 x285003 x310000 x310001 x335000 x335001))))))) else (some false)))) else (some false)))) else (some false))))
def laws_FnExactRowDo.j1 : Nat → List Int → List Int → List Int → List Int → Bool → List (S24) → List (S24) → List (S24) → Bool → Int → List Int → Int → List Int → Option (Bool)
  | 0, _, _, _, _, _, _, _, _, _, _, _, _, _ => none
  | k + 1, x1, x2, x9, x14, x101, x285000, x285001, x285002, x285003, x310000, x310001, x335000, x335001 => if x101 = true then (some false) else ((laws_markResResult.f k x335000 x335001 1).bind fun bt363 => ((laws_markIntS.f k x14 bt363.1).bind fun bt365 => ((laws_heldResResult.f k x335000 bt363.2 1).bind fun t367 => (if t367 < 0 then (some false) else ((laws_heldIntS.f k bt365.2 t367).bind fun t368 => (if t368 < 0 then (some false) else (if t368 = bt365.1 then ((laws_toRowRow.f k x285000 x285001 x285002 x285003).bind fun bt369 => ((laws_toIntS.f k x1).bind fun t379 => ((laws_toIntS.f k x2).bind fun t382 => ((impl_RowDo.f k bt369.1 bt369.2.1 bt369.2.2.1 bt369.2.2.2 t379 t382).bind fun bt385 => ((laws_eqResResult.f k bt385.1 bt385.2.1 x310000 x310001).bind fun t393 => (if t393 = true then ((laws_eqIntS.f k bt385.2.2 x9).bind fun t394 => (laws_FnExactRowDo.j2 k bt365.2 bt365.1 (!t394) x335000 bt363.2)) else (laws_FnExactRowDo.j2 k bt365.2 bt365.1 true x335000 bt363.2))))))) else (some false))))))))
def laws_FnExactRowDo.j2 : Nat → List Int → Int → Bool → Int → List Int → Option (Bool)
  | 0, _, _, _, _, _ => none
  | k + 1, x14, x16, x140, x335000, x335001 => if x140 = true then (some false) else ((laws_heldResResult.f k x335000 x335001 1).bind fun t395 => (if t395 < 0 then (some false) else ((laws_heldIntS.f k x14 t395).bind fun t396 => (if t396 < 0 then (some false) else (if t396 = x16 then (some true) else (some false))))))
end
def laws_FnExactRowDo.f (k : Nat) (l0_0 : List (S24)) (l0_1 : List (S24)) (l0_2 : List (S24)) (a0_3 : Bool) (l1 : List Int) (l2 : List Int) : Option (Bool) := if (l1.length : Int) > 1048576 then (some true) else (if (l2.length : Int) > 1048576 then (some true) else ((laws_szRowRow.f k l0_0 l0_1 l0_2 a0_3 1048576).bind fun t285 => (if t285 < 0 then (some true) else ((laws_toRowRow.f k l0_0 l0_1 l0_2 a0_3).bind fun bt286 => ((laws_toIntS.f k l1).bind fun t296 => ((laws_toIntS.f k l2).bind fun t299 => ((spec_RowDo.f k bt286.1 bt286.2.1 bt286.2.2.1 bt286.2.2.2 t296 t299).bind fun bt302 => ((laws_toRowRow.f k l0_0 l0_1 l0_2 a0_3).bind fun bt310 => ((laws_toIntS.f k l1).bind fun t321 => ((laws_toIntS.f k l2).bind fun t324 => ((impl_RowDo.f k bt310.1 bt310.2.1 bt310.2.2.1 bt310.2.2.2 t321 t324).bind fun bt327 => ((laws_eqResResult.f k bt327.1 bt327.2.1 bt302.1 bt302.2.1).bind fun t335 => (if t335 = true then ((laws_eqIntS.f k bt327.2.2 bt302.2.2).bind fun t336 => (laws_FnExactRowDo.j0 k l1 l2 bt302.2.2 t321 t324 bt327.2.2 (!t336) l0_0 l0_1 l0_2 a0_3 bt302.1 bt302.2.1 bt310.1 bt310.2.1 bt310.2.2.1 bt310.2.2.2 bt327.1 bt327.2.1)) else (laws_FnExactRowDo.j0 k l1 l2 bt302.2.2 t321 t324 bt327.2.2 true l0_0 l0_1 l0_2 a0_3 bt302.1 bt302.2.1 bt310.1 bt310.2.1 bt310.2.2.1 bt310.2.2.2 bt327.1 bt327.2.1))))))))))))))
theorem laws_FnExactRowDo.mono_l : ∀ k, (∀ y0 y1 y2 y3 y4 y5 y6 y7 y8 y9 y10 y11 y12 y13 y14 y15 y16 y17 y18, LeO (laws_FnExactRowDo.j0 k y0 y1 y2 y3 y4 y5 y6 y7 y8 y9 y10 y11 y12 y13 y14 y15 y16 y17 y18) (laws_FnExactRowDo.j0 (k + 1) y0 y1 y2 y3 y4 y5 y6 y7 y8 y9 y10 y11 y12 y13 y14 y15 y16 y17 y18)) ∧ (∀ y0 y1 y2 y3 y4 y5 y6 y7 y8 y9 y10 y11 y12, LeO (laws_FnExactRowDo.j1 k y0 y1 y2 y3 y4 y5 y6 y7 y8 y9 y10 y11 y12) (laws_FnExactRowDo.j1 (k + 1) y0 y1 y2 y3 y4 y5 y6 y7 y8 y9 y10 y11 y12)) ∧ (∀ y0 y1 y2 y3 y4, LeO (laws_FnExactRowDo.j2 k y0 y1 y2 y3 y4) (laws_FnExactRowDo.j2 (k + 1) y0 y1 y2 y3 y4))
  | 0 => ⟨fun _ _ _ _ _ _ _ _ _ _ _ _ _ _ _ _ _ _ _ r h => by simp [laws_FnExactRowDo.j0] at h, fun _ _ _ _ _ _ _ _ _ _ _ _ _ r h => by simp [laws_FnExactRowDo.j1] at h, fun _ _ _ _ _ r h => by simp [laws_FnExactRowDo.j2] at h⟩
  | k + 1 => by
    obtain ⟨ih0, ih1, ih2⟩ := laws_FnExactRowDo.mono_l k
    refine ⟨?_, ?_, ?_⟩
    · intro y0 y1 y2 y3 y4 y5 y6 y7 y8 y9 y10 y11 y12 y13 y14 y15 y16 y17 y18
      unfold laws_FnExactRowDo.j0
      repeat' first
      | (with_reducible exact ih0 _ _ _ _ _ _ _ _ _ _ _ _ _ _ _ _ _ _ _)
      | (with_reducible exact ih1 _ _ _ _ _ _ _ _ _ _ _ _ _)
      | (with_reducible exact ih2 _ _ _ _ _)
      | (with_reducible exact impl_RowDo.mono _ _ _ _ _ _ _)
      | (with_reducible exact laws_eqIntS.mono _ _ _)
      | (with_reducible exact laws_eqResResult.mono _ _ _ _ _)
      | (with_reducible exact laws_eqRowRow.mono _ _ _ _ _ _ _ _ _)
      | (with_reducible exact laws_heldIntS.mono _ _ _)
      | (with_reducible exact laws_heldResResult.mono _ _ _ _)
      | (with_reducible exact laws_markIntS.mono _ _ _)
      | (with_reducible exact laws_markResResult.mono _ _ _ _)
      | (with_reducible exact laws_szRowRow.mono _ _ _ _ _ _)
      | (with_reducible exact laws_toIntS.mono _ _)
      | (with_reducible exact laws_toRowRow.mono _ _ _ _ _)
      | (with_reducible exact spec_RowDo.mono _ _ _ _ _ _ _)
      | (with_reducible exact LeO.refl _)
      | (with_reducible exact LeO.none _)
      | (with_reducible refine LeO.ite ?_ ?_)
      | (with_reducible refine LeO.bind ?_ (fun _ => ?_))
      | exact ih0 _ _ _ _ _ _ _ _ _ _ _ _ _ _ _ _ _ _ _
      | exact ih1 _ _ _ _ _ _ _ _ _ _ _ _ _
      | exact ih2 _ _ _ _ _
      | exact impl_RowDo.mono _ _ _ _ _ _ _
      | exact laws_eqIntS.mono _ _ _
      | exact laws_eqResResult.mono _ _ _ _ _
      | exact laws_eqRowRow.mono _ _ _ _ _ _ _ _ _
      | exact laws_heldIntS.mono _ _ _
      | exact laws_heldResResult.mono _ _ _ _
      | exact laws_markIntS.mono _ _ _
      | exact laws_markResResult.mono _ _ _ _
      | exact laws_szRowRow.mono _ _ _ _ _ _
      | exact laws_toIntS.mono _ _
      | exact laws_toRowRow.mono _ _ _ _ _
      | exact spec_RowDo.mono _ _ _ _ _ _ _
      | exact LeO.none _
      | refine LeO.ite ?_ ?_
      | refine LeO.bind ?_ (fun _ => ?_)
    · intro y0 y1 y2 y3 y4 y5 y6 y7 y8 y9 y10 y11 y12
      unfold laws_FnExactRowDo.j1
      repeat' first
      | (with_reducible exact ih0 _ _ _ _ _ _ _ _ _ _ _ _ _ _ _ _ _ _ _)
      | (with_reducible exact ih1 _ _ _ _ _ _ _ _ _ _ _ _ _)
      | (with_reducible exact ih2 _ _ _ _ _)
      | (with_reducible exact impl_RowDo.mono _ _ _ _ _ _ _)
      | (with_reducible exact laws_eqIntS.mono _ _ _)
      | (with_reducible exact laws_eqResResult.mono _ _ _ _ _)
      | (with_reducible exact laws_eqRowRow.mono _ _ _ _ _ _ _ _ _)
      | (with_reducible exact laws_heldIntS.mono _ _ _)
      | (with_reducible exact laws_heldResResult.mono _ _ _ _)
      | (with_reducible exact laws_markIntS.mono _ _ _)
      | (with_reducible exact laws_markResResult.mono _ _ _ _)
      | (with_reducible exact laws_szRowRow.mono _ _ _ _ _ _)
      | (with_reducible exact laws_toIntS.mono _ _)
      | (with_reducible exact laws_toRowRow.mono _ _ _ _ _)
      | (with_reducible exact spec_RowDo.mono _ _ _ _ _ _ _)
      | (with_reducible exact LeO.refl _)
      | (with_reducible exact LeO.none _)
      | (with_reducible refine LeO.ite ?_ ?_)
      | (with_reducible refine LeO.bind ?_ (fun _ => ?_))
      | exact ih0 _ _ _ _ _ _ _ _ _ _ _ _ _ _ _ _ _ _ _
      | exact ih1 _ _ _ _ _ _ _ _ _ _ _ _ _
      | exact ih2 _ _ _ _ _
      | exact impl_RowDo.mono _ _ _ _ _ _ _
      | exact laws_eqIntS.mono _ _ _
      | exact laws_eqResResult.mono _ _ _ _ _
      | exact laws_eqRowRow.mono _ _ _ _ _ _ _ _ _
      | exact laws_heldIntS.mono _ _ _
      | exact laws_heldResResult.mono _ _ _ _
      | exact laws_markIntS.mono _ _ _
      | exact laws_markResResult.mono _ _ _ _
      | exact laws_szRowRow.mono _ _ _ _ _ _
      | exact laws_toIntS.mono _ _
      | exact laws_toRowRow.mono _ _ _ _ _
      | exact spec_RowDo.mono _ _ _ _ _ _ _
      | exact LeO.none _
      | refine LeO.ite ?_ ?_
      | refine LeO.bind ?_ (fun _ => ?_)
    · intro y0 y1 y2 y3 y4
      unfold laws_FnExactRowDo.j2
      repeat' first
      | (with_reducible exact ih0 _ _ _ _ _ _ _ _ _ _ _ _ _ _ _ _ _ _ _)
      | (with_reducible exact ih1 _ _ _ _ _ _ _ _ _ _ _ _ _)
      | (with_reducible exact ih2 _ _ _ _ _)
      | (with_reducible exact impl_RowDo.mono _ _ _ _ _ _ _)
      | (with_reducible exact laws_eqIntS.mono _ _ _)
      | (with_reducible exact laws_eqResResult.mono _ _ _ _ _)
      | (with_reducible exact laws_eqRowRow.mono _ _ _ _ _ _ _ _ _)
      | (with_reducible exact laws_heldIntS.mono _ _ _)
      | (with_reducible exact laws_heldResResult.mono _ _ _ _)
      | (with_reducible exact laws_markIntS.mono _ _ _)
      | (with_reducible exact laws_markResResult.mono _ _ _ _)
      | (with_reducible exact laws_szRowRow.mono _ _ _ _ _ _)
      | (with_reducible exact laws_toIntS.mono _ _)
      | (with_reducible exact laws_toRowRow.mono _ _ _ _ _)
      | (with_reducible exact spec_RowDo.mono _ _ _ _ _ _ _)
      | (with_reducible exact LeO.refl _)
      | (with_reducible exact LeO.none _)
      | (with_reducible refine LeO.ite ?_ ?_)
      | (with_reducible refine LeO.bind ?_ (fun _ => ?_))
      | exact ih0 _ _ _ _ _ _ _ _ _ _ _ _ _ _ _ _ _ _ _
      | exact ih1 _ _ _ _ _ _ _ _ _ _ _ _ _
      | exact ih2 _ _ _ _ _
      | exact impl_RowDo.mono _ _ _ _ _ _ _
      | exact laws_eqIntS.mono _ _ _
      | exact laws_eqResResult.mono _ _ _ _ _
      | exact laws_eqRowRow.mono _ _ _ _ _ _ _ _ _
      | exact laws_heldIntS.mono _ _ _
      | exact laws_heldResResult.mono _ _ _ _
      | exact laws_markIntS.mono _ _ _
      | exact laws_markResResult.mono _ _ _ _
      | exact laws_szRowRow.mono _ _ _ _ _ _
      | exact laws_toIntS.mono _ _
      | exact laws_toRowRow.mono _ _ _ _ _
      | exact spec_RowDo.mono _ _ _ _ _ _ _
      | exact LeO.none _
      | refine LeO.ite ?_ ?_
      | refine LeO.bind ?_ (fun _ => ?_)
theorem laws_FnExactRowDo.mono : ∀ a0 a1 a2 a3 a4 a5 k, LeO (laws_FnExactRowDo.f k a0 a1 a2 a3 a4 a5) (laws_FnExactRowDo.f (k + 1) a0 a1 a2 a3 a4 a5) := by
  intro a0 a1 a2 a3 a4 a5 k
  obtain ⟨ih0, ih1, ih2⟩ := laws_FnExactRowDo.mono_l k
  unfold laws_FnExactRowDo.f
  repeat' first
      | (with_reducible exact ih0 _ _ _ _ _ _ _ _ _ _ _ _ _ _ _ _ _ _ _)
      | (with_reducible exact ih1 _ _ _ _ _ _ _ _ _ _ _ _ _)
      | (with_reducible exact ih2 _ _ _ _ _)
      | (with_reducible exact impl_RowDo.mono _ _ _ _ _ _ _)
      | (with_reducible exact laws_eqIntS.mono _ _ _)
      | (with_reducible exact laws_eqResResult.mono _ _ _ _ _)
      | (with_reducible exact laws_eqRowRow.mono _ _ _ _ _ _ _ _ _)
      | (with_reducible exact laws_heldIntS.mono _ _ _)
      | (with_reducible exact laws_heldResResult.mono _ _ _ _)
      | (with_reducible exact laws_markIntS.mono _ _ _)
      | (with_reducible exact laws_markResResult.mono _ _ _ _)
      | (with_reducible exact laws_szRowRow.mono _ _ _ _ _ _)
      | (with_reducible exact laws_toIntS.mono _ _)
      | (with_reducible exact laws_toRowRow.mono _ _ _ _ _)
      | (with_reducible exact spec_RowDo.mono _ _ _ _ _ _ _)
      | (with_reducible exact LeO.refl _)
      | (with_reducible exact LeO.none _)
      | (with_reducible refine LeO.ite ?_ ?_)
      | (with_reducible refine LeO.bind ?_ (fun _ => ?_))
      | exact ih0 _ _ _ _ _ _ _ _ _ _ _ _ _ _ _ _ _ _ _
      | exact ih1 _ _ _ _ _ _ _ _ _ _ _ _ _
      | exact ih2 _ _ _ _ _
      | exact impl_RowDo.mono _ _ _ _ _ _ _
      | exact laws_eqIntS.mono _ _ _
      | exact laws_eqResResult.mono _ _ _ _ _
      | exact laws_eqRowRow.mono _ _ _ _ _ _ _ _ _
      | exact laws_heldIntS.mono _ _ _
      | exact laws_heldResResult.mono _ _ _ _
      | exact laws_markIntS.mono _ _ _
      | exact laws_markResResult.mono _ _ _ _
      | exact laws_szRowRow.mono _ _ _ _ _ _
      | exact laws_toIntS.mono _ _
      | exact laws_toRowRow.mono _ _ _ _ _
      | exact spec_RowDo.mono _ _ _ _ _ _ _
      | exact LeO.none _
      | refine LeO.ite ?_ ?_
      | refine LeO.bind ?_ (fun _ => ?_)
end Go.Proofs.Ytfbdjimcjoddgaa.QFnExactRowDo
