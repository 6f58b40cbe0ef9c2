/- Plain functions, and that the Go code computes them: written by a program of this session over the seat's translation; the conditions stand in each theorem. -/
import Derived.Test.YtopbdoilpdpkmaaQFnFrmTimesx0
import Derived.Test.YtopbdoilpdpkmaaQFnFrmTimesx4
import Derived.Test.YtopbdoilpdpkmaaQFnFrmTimesx5
import Derived.Test.YtopbdoilpdpkmaaQFnFrmTimesx6
import Derived.Test.YtopbdoilpdpkmaaQFnFrmTimesx8
import Derived.Test.YtopbdoilpdpkmaaQFnFrmTimesx9
namespace Go.Proofs.Ytopbdoilpdpkmaa.QFnFrmTimes
open Go.RowKit Go.Proofs.YtopbdoilpdpkmaaW.PrintWords Go.Proofs.YtopbdoilpdpkmaaW.PrintLast Go.Proofs.YtopbdoilpdpkmaaW.PrintMore Go.Proofs.Ytopbdoilpdpkmaa.HWords
attribute [local go_sem] max2_int min2_int max_two min_two max_three min_three max_four min_four   -- for this text's walks alone
set_option linter.unusedVariables false
set_option linter.unusedSimpArgs false

/-! ### laws_FnFrmTimes: function 4 -/
mutual
def laws_FnFrmTimes.j0 : Nat → List Int → List Int → Bool → Option (Bool)
 | 0, _, _, _ => none
 | k + 1, x0, x1, x23 => if x23 = true then (some true) else ((spec_DrawFrmTimes.f k x0).bind fun bt370 => ((spec_DrawFrmAt.f k x1).bind fun bt379 => ((impl_FrmTimes.f bt370.1 bt370.2.1 bt370.2.2.1 bt370.2.2.2).bind fun bt393 => ((spec_FrmTimes.f k bt370.1 bt370.2.1 bt370.2.2.1 bt370.2.2.2).bind fun bt401 => ((laws_coForm.f k bt393.1 bt393.2.1 bt393.2.2 bt401.1 bt401.2.1 bt401.2.2).bind fun t408 => (if t408 = true then ((impl_FrmOk.f bt370.1 bt370.2.1 bt370.2.2.1).bind fun t409 => ((spec_FrmOk.f k bt370.1 bt370.2.1 bt370.2.2.1).bind fun t410 => (laws_FnFrmTimes.j1 k bt370.2.2.2 bt379.2.2.2.1 bt379.2.2.2.2 (t409 != t410) bt370.1 bt370.2.1 bt370.2.2.1 bt393.1 bt393.2.1 bt393.2.2))) else (laws_FnFrmTimes.j1 k bt370.2.2.2 bt379.2.2.2.1 bt379.2.2.2.2 true bt370.1 bt370.2.1 bt370.2.2.1 bt393.1 bt393.2.1 bt393.2.2)))))))
def laws_FnFrmTimes.j1 : Nat → Int → List Int → List Int → Bool → List Int → List Int → Int → List Int → List Int → Int → Option (Bool)
 | 0, _, _, _, _, _, _, _, _, _, _ => none
 | k + 1, x6, x8, x9, x50, x379000, x379001, x379002, x401000, x401001, x401002 => if x50 = true then (some false) else ((impl_FrmOk.f x379000 x379001 x379002).bind fun t411 => (if t411 = true then ((impl_FrmAt.f k x401000 x401001 x401002 x8 x9).bind fun bt413 => ((impl_FrmAt.f k x379000 x379001 x379002 x8 x9).bind fun bt415 => ((impl_FrmTimes.f x379000 x379001 x379002 (-1)).bind fun bt417 => ((impl_FrmTimes.f bt417.1 bt417.2.1 bt417.2.2 (-1)).bind fun bt424 => (if bt413.2 = true then (if bt415.2 = true then (if bt413.1 = (wrap64 (x6 * bt415.1)) then ((impl_FrmTimes.f x379000 x379001 x379002 1).bind fun bt432 => ((laws_coForm.f k bt432.1 bt432.2.1 bt432.2.2 x379000 x379001 x379002).bind fun t439 => (if t439 = true then ((impl_FrmTimes.f x379000 x379001 x379002 0).bind fun bt440 => ((impl_FrmZero.f).bind fun bt447 => ((laws_coForm.f k bt440.1 bt440.2.1 bt440.2.2 bt447.1 bt447.2.1 bt447.2.2).bind fun t454 => (if t454 = true then ((laws_coForm.f k bt424.1 bt424.2.1 bt424.2.2 x379000 x379001 x379002).bind fun t455 => (if t455 = true then ((impl_FrmTimes.f x379000 x379001 x379002 (-1)).bind fun bt456 => ((impl_FrmAdd.f x379000 x379001 x379002 bt456.1 bt456.2.1 bt456.2.2).bind fun bt463 => ((impl_FrmZero.f).bind fun bt470 => ((laws_coForm.f k bt463.1 bt463.2.1 bt463.2.2 bt470.1 bt470.2.1 bt470.2.2).bind fun t477 => (some t477))))) else (some false))) else (some false))))) else (some false)))) else (some false)) else (some false)) else ((impl_FrmTimes.f x379000 x379001 x379002 1).bind fun bt478 => ((laws_coForm.f k bt478.1 bt478.2.1 bt478.2.2 x379000 x379001 x379002).bind fun t485 => (if t485 = true then ((impl_FrmTimes.f x379000 x379001 x379002 0).bind fun bt486 => ((impl_FrmZero.f).bind fun bt493 => ((laws_coForm.f k bt486.1 bt486.2.1 bt486.2.2 bt493.1 bt493.2.1 bt493.2.2).bind fun t500 => (if t500 = true then ((laws_coForm.f k bt424.1 bt424.2.1 bt424.2.2 x379000 x379001 x379002).bind fun t501 => (if t501 = true then ((impl_FrmTimes.f x379000 x379001 x379002 (-1)).bind fun bt502 => ((impl_FrmAdd.f x379000 x379001 x379002 bt502.1 bt502.2.1 bt502.2.2).bind fun bt509 => ((impl_FrmZero.f).bind fun bt516 => ((laws_coForm.f k bt509.1 bt509.2.1 bt509.2.2 bt516.1 bt516.2.1 bt516.2.2).bind fun t523 => (some t523))))) else (some false))) else (some false))))) else (some false))))))))) else (if (x401000.length : Int) = 0 then ((laws_coHolds.f).bind fun t412 => (some t412)) else (some false))))
end
def laws_FnFrmTimes.f (k : Nat) (l0 : List Int) (l1 : List Int) : Option (Bool) := if (l0.length : Int) > 1048576 then (laws_FnFrmTimes.j0 k l0 l1 true) else (laws_FnFrmTimes.j0 k l0 l1 (decide ((l1.length : Int) > 1048576)))
theorem laws_FnFrmTimes.mono_l : ∀ k, (∀ y0 y1 y2, LeO (laws_FnFrmTimes.j0 k y0 y1 y2) (laws_FnFrmTimes.j0 (k + 1) y0 y1 y2)) ∧ (∀ y0 y1 y2 y3 y4 y5 y6 y7 y8 y9, LeO (laws_FnFrmTimes.j1 k y0 y1 y2 y3 y4 y5 y6 y7 y8 y9) (laws_FnFrmTimes.j1 (k + 1) y0 y1 y2 y3 y4 y5 y6 y7 y8 y9))
 | 0 => ⟨fun _ _ _ r h => by simp [laws_FnFrmTimes.j0] at h, fun _ _ _ _ _ _ _ _ _ _ r h => by simp [laws_FnFrmTimes.j1] at h⟩
 | k + 1 => by
  obtain ⟨ih0, ih1⟩ := laws_FnFrmTimes.mono_l k
  refine ⟨?_, ?_⟩
  ·intro y0 y1 y2
   unfold laws_FnFrmTimes.j0
   repeat' first
   | (with_reducible exact ih0 _ _ _)
   | (with_reducible exact ih1 _ _ _ _ _ _ _ _ _ _)
   | (with_reducible exact impl_FrmAt.mono _ _ _ _ _ _)
   | (with_reducible exact laws_coForm.mono _ _ _ _ _ _ _)
   | (with_reducible exact spec_DrawFrmAt.mono _ _)
   | (with_reducible exact spec_DrawFrmTimes.mono _ _)
   | (with_reducible exact spec_FrmOk.mono _ _ _ _)
   | (with_reducible exact spec_FrmTimes.mono _ _ _ _ _)
   | (with_reducible exact LeO.refl _)
   | (with_reducible exact LeO.none _)
   | (with_reducible refine LeO.ite ?_ ?_)
   | (with_reducible refine LeO.bind ?_ (fun _ => ?_))
   | exact ih0 _ _ _
   | exact ih1 _ _ _ _ _ _ _ _ _ _
   | exact impl_FrmAt.mono _ _ _ _ _ _
   | exact laws_coForm.mono _ _ _ _ _ _ _
   | exact spec_DrawFrmAt.mono _ _
   | exact spec_DrawFrmTimes.mono _ _
   | exact spec_FrmOk.mono _ _ _ _
   | exact spec_FrmTimes.mono _ _ _ _ _
   | exact LeO.none _
   | refine LeO.ite ?_ ?_
   | refine LeO.bind ?_ (fun _ => ?_)
  ·intro y0 y1 y2 y3 y4 y5 y6 y7 y8 y9
   unfold laws_FnFrmTimes.j1
   repeat' first
   | (with_reducible exact ih0 _ _ _)
   | (with_reducible exact ih1 _ _ _ _ _ _ _ _ _ _)
   | (with_reducible exact impl_FrmAt.mono _ _ _ _ _ _)
   | (with_reducible exact laws_coForm.mono _ _ _ _ _ _ _)
   | (with_reducible exact spec_DrawFrmAt.mono _ _)
   | (with_reducible exact spec_DrawFrmTimes.mono _ _)
   | (with_reducible exact spec_FrmOk.mono _ _ _ _)
   | (with_reducible exact spec_FrmTimes.mono _ _ _ _ _)
   | (with_reducible exact LeO.refl _)
   | (with_reducible exact LeO.none _)
   | (with_reducible refine LeO.ite ?_ ?_)
   | (with_reducible refine LeO.bind ?_ (fun _ => ?_))
   | exact ih0 _ _ _
   | exact ih1 _ _ _ _ _ _ _ _ _ _
   | exact impl_FrmAt.mono _ _ _ _ _ _
   | exact laws_coForm.mono _ _ _ _ _ _ _
   | exact spec_DrawFrmAt.mono _ _
   | exact spec_DrawFrmTimes.mono _ _
   | exact spec_FrmOk.mono _ _ _ _
   | exact spec_FrmTimes.mono _ _ _ _ _
   | exact LeO.none _
   | refine LeO.ite ?_ ?_
   | refine LeO.bind ?_ (fun _ => ?_)
theorem laws_FnFrmTimes.mono : ∀ a0 a1 k, LeO (laws_FnFrmTimes.f k a0 a1) (laws_FnFrmTimes.f (k + 1) a0 a1) := by
 intro a0 a1 k
 obtain ⟨ih0, ih1⟩ := laws_FnFrmTimes.mono_l k
 unfold laws_FnFrmTimes.f
 repeat' first
   | (with_reducible exact ih0 _ _ _)
   | (with_reducible exact ih1 _ _ _ _ _ _ _ _ _ _)
   | (with_reducible exact impl_FrmAt.mono _ _ _ _ _ _)
   | (with_reducible exact laws_coForm.mono _ _ _ _ _ _ _)
   | (with_reducible exact spec_DrawFrmAt.mono _ _)
   | (with_reducible exact spec_DrawFrmTimes.mono _ _)
   | (with_reducible exact spec_FrmOk.mono _ _ _ _)
   | (with_reducible exact spec_FrmTimes.mono _ _ _ _ _)
   | (with_reducible exact LeO.refl _)
   | (with_reducible exact LeO.none _)
   | (with_reducible refine LeO.ite ?_ ?_)
   | (with_reducible refine LeO.bind ?_ (fun _ => ?_))
   | exact ih0 _ _ _
   | exact ih1 _ _ _ _ _ _ _ _ _ _
   | exact impl_FrmAt.mono _ _ _ _ _ _
   | exact laws_coForm.mono _ _ _ _ _ _ _
   | exact spec_DrawFrmAt.mono _ _
   | exact spec_DrawFrmTimes.mono _ _
   | exact spec_FrmOk.mono _ _ _ _
   | exact spec_FrmTimes.mono _ _ _ _ _
   | exact LeO.none _
   | refine LeO.ite ?_ ?_
   | refine LeO.bind ?_ (fun _ => ?_)
def laws_FnFrmTimes.T6 : Bool × List (List Nat × List Nat) := (true, [([], []), ([], []), ([], []), ([1, 2], [1, 2]), ([0, 3, 3], [0, 3]), ([4], [4]), ([5, 4], [5]), ([6], [6]), ([7, 6, 6], [6, 7]), ([6], [6]), ([9, 8, 6], [6, 9]), ([8, 10, 6], [6, 8, 10]), ([6, 11], [6, 11])])
def laws_FnFrmTimes.B6 : List Nat := [0, 0, 0, 6, 15, 31, 63, 127, 255, 127, 1023, 2047, 4095]
theorem laws_FnFrmTimes.tab6 : rtab .any (opsOf Try.f4 6) = laws_FnFrmTimes.T6 := by kernel_rfl
theorem laws_FnFrmTimes.bits6 : waitsOk laws_FnFrmTimes.T6.2 laws_FnFrmTimes.B6 = true := by kernel_rfl
def laws_FnFrmTimes.T13 : Bool × List (List Nat × List Nat) := (true, [([], []), ([0], [0]), ([1], [1]), ([2], [2]), ([3, 2, 2], [2, 3]), ([4], [4]), ([4], [4]), ([4], [4]), ([6, 7, 4], [4, 6, 7]), ([5, 8, 4], [4, 5, 8]), ([4, 9, 2], [2, 4, 9]), ([2, 10], [2, 10]), ([11, 4], [11]), ([12], [12]), ([13, 12, 12], [12, 13]), ([12], [12]), ([14, 15, 14, 12], [12, 14, 15]), ([12, 16], [12, 16]), ([17, 16], [17]), ([18], [18]), ([19, 18, 18], [18, 19]), ([20, 18], [18]), ([20, 21, 21, 18], [18, 20, 21]), ([18, 22], [18, 22]), ([23, 22], [23]), ([24], [24]), ([24], [24]), ([25, 26, 24, 24], [24, 25, 26]), ([24, 27], [24, 27]), ([28, 27], [28]), ([29], [29]), ([29], [29]), ([31, 29, 29], [29, 31]), ([30, 32, 32, 29], [29, 30, 32]), ([33, 29], [29]), ([33, 34, 34, 29], [29, 33, 34]), ([29, 35], [29, 35]), ([36, 35, 0, 1, 2, 3, 4, 5, 6, 7, 8, 9, 10, 11, 12, 13, 14, 15, 16, 17, 18, 19, 20, 21, 22, 23, 24, 25, 26, 27, 28, 29, 30, 31, 32, 33, 34, 35, 36], [36])])
def laws_FnFrmTimes.B13 : List Nat := [0, 1, 3, 7, 15, 31, 31, 31, 223, 511, 1023, 2047, 4095, 8191, 16383, 8191, 65535, 131071, 262143, 524287, 1048575, 2097151, 4194303, 8388607, 16777215, 33554431, 33554431, 134217727, 268435455, 536870911, 1073741823, 1073741823, 3221225471, 8589934591, 17179869183, 34359738367, 68719476735, 137438953471]
theorem laws_FnFrmTimes.tab13 : rtab .any (opsOf Try.f4 13) = laws_FnFrmTimes.T13 := by kernel_rfl
theorem laws_FnFrmTimes.bits13 : waitsOk laws_FnFrmTimes.T13.2 laws_FnFrmTimes.B13 = true := by kernel_rfl
end Go.Proofs.Ytopbdoilpdpkmaa.QFnFrmTimes
