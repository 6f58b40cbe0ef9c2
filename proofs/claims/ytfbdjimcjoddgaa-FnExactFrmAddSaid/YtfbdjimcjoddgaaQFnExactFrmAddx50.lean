/- Plain functions, and that the Go code computes them: written by a program of this session over the seat's translation; the conditions stand in each theorem. -/
import Derived.Test.YtfbdjimcjoddgaaQFnExactFrmAddx0
import Derived.Test.YtfbdjimcjoddgaaQFnExactFrmAddx1
import Derived.Test.YtfbdjimcjoddgaaQFnExactFrmAddx3
import Derived.Test.YtfbdjimcjoddgaaQFnExactFrmAddx4
namespace Go.Proofs.Ytfbdjimcjoddgaa.QFnExactFrmAdd
open Go.RowKit Go.Proofs.YtfbdjimcjoddgaaW.PrintWords Go.Proofs.YtfbdjimcjoddgaaW.PrintLast Go.Proofs.YtfbdjimcjoddgaaW.PrintMore Go.Proofs.Ytfbdjimcjoddgaa.HWords
attribute [local go_sem] max2_int min2_int max_two min_two max_three min_three max_four min_four   -- for this text's walks alone
set_option linter.unusedVariables false
set_option linter.unusedSimpArgs false

/-! ### laws_FnExactFrmAdd: function 3 -/
def laws_FnExactFrmAdd.j0 : Nat → Bool → List Int → List Int → Int → List Int → List Int → Int → List Int → List Int → Int → List Int → List Int → Int → Option (Bool)
  | 0, _, _, _, _, _, _, _, _, _, _, _, _, _ => none
  | k + 1, x63, x196000, x196001, x196002, x197000, x197001, x197002, x221000, x221001, x221002, x245000, x245001, x245002 => if x63 = true then (some false) else ((laws_markFrmForm.f k x245000 x245001 x245002 1).bind fun bt269 => ((laws_heldFrmForm.f k bt269.2.1 bt269.2.2 x245002 1).bind fun t272 => (if t272 < 0 then (some false) else (if t272 = bt269.1 then ((laws_toFrmForm.f k x196000 x196001 x196002).bind fun bt273 => ((laws_toFrmForm.f k x197000 x197001 x197002).bind fun bt280 => ((impl_FrmAdd.f bt273.1 bt273.2.1 bt273.2.2 bt280.1 bt280.2.1 bt280.2.2).bind fun bt287 => ((laws_eqFrmForm.f k bt287.1 bt287.2.1 bt287.2.2 x221000 x221001 x221002).bind fun t295 => (if t295 = true then ((laws_heldFrmForm.f k bt269.2.1 bt269.2.2 x245002 1).bind fun t296 => (if t296 < 0 then (some false) else (if t296 = bt269.1 then (some true) else (some false)))) else (some false)))))) else (some false)))))
def laws_FnExactFrmAdd.f (k : Nat) (l0_0 : List Int) (l0_1 : List Int) (a0_2 : Int) (l1_0 : List Int) (l1_1 : List Int) (a1_2 : Int) : Option (Bool) := (laws_szFrmForm.f l0_0 l0_1 a0_2 1048576).bind fun t197 => (if t197 < 0 then (some true) else ((laws_szFrmForm.f l1_0 l1_1 a1_2 t197).bind fun t198 => (if t198 < 0 then (some true) else ((laws_toFrmForm.f k l0_0 l0_1 a0_2).bind fun bt199 => ((laws_toFrmForm.f k l1_0 l1_1 a1_2).bind fun bt206 => ((spec_FrmAdd.f k bt199.1 bt199.2.1 bt199.2.2 bt206.1 bt206.2.1 bt206.2.2).bind fun bt213 => ((laws_toFrmForm.f k l0_0 l0_1 a0_2).bind fun bt221 => ((laws_toFrmForm.f k l1_0 l1_1 a1_2).bind fun bt229 => ((impl_FrmAdd.f bt221.1 bt221.2.1 bt221.2.2 bt229.1 bt229.2.1 bt229.2.2).bind fun bt237 => ((laws_eqFrmForm.f k bt237.1 bt237.2.1 bt237.2.2 bt213.1 bt213.2.1 bt213.2.2).bind fun t245 => (if t245 = true then ((laws_toFrmForm.f k l0_0 l0_1 a0_2).bind fun bt246 => ((laws_eqFrmForm.f k bt221.1 bt221.2.1 bt221.2.2 bt246.1 bt246.2.1 bt246.2.2).bind fun t253 => (if t253 = true then ((laws_toFrmForm.f k l1_0 l1_1 a1_2).bind fun bt254 => ((laws_eqFrmForm.f k bt229.1 bt229.2.1 bt229.2.2 bt254.1 bt254.2.1 bt254.2.2).bind fun t261 => (if t261 = true then ((laws_markFrmForm.f k bt221.1 bt221.2.1 bt221.2.2 1).bind fun bt262 => ((laws_markFrmForm.f k bt229.1 bt229.2.1 bt229.2.2 bt262.1).bind fun bt265 => (if bt265.1 < 0 then (laws_FnExactFrmAdd.j0 k true l0_0 l0_1 a0_2 l1_0 l1_1 a1_2 bt213.1 bt213.2.1 bt213.2.2 bt237.1 bt237.2.1 bt237.2.2) else ((laws_eqFrmForm.f k bt237.1 bt237.2.1 bt237.2.2 bt213.1 bt213.2.1 bt213.2.2).bind fun t268 => (laws_FnExactFrmAdd.j0 k (!t268) l0_0 l0_1 a0_2 l1_0 l1_1 a1_2 bt213.1 bt213.2.1 bt213.2.2 bt237.1 bt237.2.1 bt237.2.2))))) else (some false)))) else (some false)))) else (some false))))))))))))
theorem laws_FnExactFrmAdd.mono_l : ∀ k, (∀ y0 y1 y2 y3 y4 y5 y6 y7 y8 y9 y10 y11 y12, LeO (laws_FnExactFrmAdd.j0 k y0 y1 y2 y3 y4 y5 y6 y7 y8 y9 y10 y11 y12) (laws_FnExactFrmAdd.j0 (k + 1) y0 y1 y2 y3 y4 y5 y6 y7 y8 y9 y10 y11 y12))
  | 0 => fun _ _ _ _ _ _ _ _ _ _ _ _ _ r h => by simp [laws_FnExactFrmAdd.j0] at h
  | k + 1 => by
    have ih0 := laws_FnExactFrmAdd.mono_l k
    · intro y0 y1 y2 y3 y4 y5 y6 y7 y8 y9 y10 y11 y12
      unfold laws_FnExactFrmAdd.j0
      repeat' first
      | (with_reducible exact ih0 _ _ _ _ _ _ _ _ _ _ _ _ _)
      | (with_reducible exact laws_eqFrmForm.mono _ _ _ _ _ _ _)
      | (with_reducible exact laws_heldFrmForm.mono _ _ _ _ _)
      | (with_reducible exact laws_markFrmForm.mono _ _ _ _ _)
      | (with_reducible exact laws_toFrmForm.mono _ _ _ _)
      | (with_reducible exact spec_FrmAdd.mono _ _ _ _ _ _ _)
      | (with_reducible exact LeO.refl _)
      | (with_reducible exact LeO.none _)
      | (with_reducible refine LeO.ite ?_ ?_)
      | (with_reducible refine LeO.bind ?_ (fun _ => ?_))
      | exact ih0 _ _ _ _ _ _ _ _ _ _ _ _ _
      | exact laws_eqFrmForm.mono _ _ _ _ _ _ _
      | exact laws_heldFrmForm.mono _ _ _ _ _
      | exact laws_markFrmForm.mono _ _ _ _ _
      | exact laws_toFrmForm.mono _ _ _ _
      | exact spec_FrmAdd.mono _ _ _ _ _ _ _
      | exact LeO.none _
      | refine LeO.ite ?_ ?_
      | refine LeO.bind ?_ (fun _ => ?_)
theorem laws_FnExactFrmAdd.mono : ∀ a0 a1 a2 a3 a4 a5 k, LeO (laws_FnExactFrmAdd.f k a0 a1 a2 a3 a4 a5) (laws_FnExactFrmAdd.f (k + 1) a0 a1 a2 a3 a4 a5) := by
  intro a0 a1 a2 a3 a4 a5 k
  have ih0 := laws_FnExactFrmAdd.mono_l k
  unfold laws_FnExactFrmAdd.f
  repeat' first
      | (with_reducible exact ih0 _ _ _ _ _ _ _ _ _ _ _ _ _)
      | (with_reducible exact laws_eqFrmForm.mono _ _ _ _ _ _ _)
      | (with_reducible exact laws_heldFrmForm.mono _ _ _ _ _)
      | (with_reducible exact laws_markFrmForm.mono _ _ _ _ _)
      | (with_reducible exact laws_toFrmForm.mono _ _ _ _)
      | (with_reducible exact spec_FrmAdd.mono _ _ _ _ _ _ _)
      | (with_reducible exact LeO.refl _)
      | (with_reducible exact LeO.none _)
      | (with_reducible refine LeO.ite ?_ ?_)
      | (with_reducible refine LeO.bind ?_ (fun _ => ?_))
      | exact ih0 _ _ _ _ _ _ _ _ _ _ _ _ _
      | exact laws_eqFrmForm.mono _ _ _ _ _ _ _
      | exact laws_heldFrmForm.mono _ _ _ _ _
      | exact laws_markFrmForm.mono _ _ _ _ _
      | exact laws_toFrmForm.mono _ _ _ _
      | exact spec_FrmAdd.mono _ _ _ _ _ _ _
      | exact LeO.none _
      | refine LeO.ite ?_ ?_
      | refine LeO.bind ?_ (fun _ => ?_)
end Go.Proofs.Ytfbdjimcjoddgaa.QFnExactFrmAdd
