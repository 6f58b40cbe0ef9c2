/-
  No cell of these rows narrows 'for every input' (looked for: loops, veiled, ifaces, maps, wideKeys, modest, calm, conditions, laid).
  DERIVED. THE GIVEN ROWS OF THIS SEAT. 12 by the template 'for every input the law returns true; each argument reads behind the call as it read before'; 0 by the template 'total and deterministic' (their statements: YtjfjfdcmliaigaaTotals.lean).
  GIVEN WITH THE SEED: the statements are not yours to turn. If you find one false, say at which input.
  Laid BY PROGRAM, IN A SANDBOX (cutbox-rows.mjs): the forced cells as the released guide's own fill.sh prints them over the translation 776df148458738ee… (all of the seat's roots in one cut). By AI agents, Wed Nov 11 2026. No macro, syntax, notation, axiom, sorry.
-/
import Derived.Test.YtjfjfdcmliaigaaChecked
import GoSem.Claim
import GoSem.ClaimJoined
import GoSem.ClaimMapViews
import Derived.JoinedTies
import Derived.KernelRfl
namespace Go.Proofs.Ytjfjfdcmliaigaa
/- THE CELL 'sum', in the pinned program and in every row, IS THE sha256 OF THE DUMP (.gsa) THAT YtjfjfdcmliaigaaProg.lean LOADS. Nothing in Lean hashes anything: it is a label: what it is worth is what the hold of that sum in a sandbox is worth. -/
noncomputable def Try.pinned : Pinned := { name := "ytjfjfdcmliaigaa", sum := "776df148458738ee07946b186406e24e401ae5b5d674caa4bf255a3065dc34c9", checked := Try.checked }
namespace Rows
def none {H : Type} : Left H := { results := [], args := [] }

/-- 'laws.FnExactActRun': WHATEVER THE INPUT: true; the input reads as it did. -/
def fnExactActRunSpec : ChangeSpec := { name := "fnExactActRun", fn := fun _ => fun
  | [d1, d2, d3] => { results := [.lit (.bool true)], args := [d1, d2, d3] }
  | _ => none }
def fnExactActRunRow : OpenClaim := { program := "ytjfjfdcmliaigaa", sum := "776df148458738ee07946b186406e24e401ae5b5d674caa4bf255a3065dc34c9", func := "loop.example/concord/laws.FnExactActRun", spec := "fnExactActRun", unfollowed := true, recurses := true, apart := false }
def FnExactActRunSaid : Prop := fnExactActRunRow.holds Try.pinned (OpenSpec.ofChange fnExactActRunSpec)

/-- ITS FALSE NEIGHBOUR: 'it returns false'. Refute it at one input. -/
def fnExactActRunWrong : ChangeSpec := { name := "fnExactActRun", fn := fun _ => fun
  | [d1, d2, d3] => { results := [.lit (.bool false)], args := [d1, d2, d3] }
  | _ => none }
def FnExactActRunWrongFalsely : Prop := fnExactActRunRow.holds Try.pinned (OpenSpec.ofChange fnExactActRunWrong)

/-- 'laws.FnExactCallOk': WHATEVER THE INPUT: true; the input reads as it did. -/
def fnExactCallOkSpec : ChangeSpec := { name := "fnExactCallOk", fn := fun _ => fun
  | [d1, d2] => { results := [.lit (.bool true)], args := [d1, d2] }
  | _ => none }
def fnExactCallOkRow : OpenClaim := { program := "ytjfjfdcmliaigaa", sum := "776df148458738ee07946b186406e24e401ae5b5d674caa4bf255a3065dc34c9", func := "loop.example/concord/laws.FnExactCallOk", spec := "fnExactCallOk", unfollowed := true, recurses := true, apart := false }
def FnExactCallOkSaid : Prop := fnExactCallOkRow.holds Try.pinned (OpenSpec.ofChange fnExactCallOkSpec)

/-- ITS FALSE NEIGHBOUR: 'it returns false'. Refute it at one input. -/
def fnExactCallOkWrong : ChangeSpec := { name := "fnExactCallOk", fn := fun _ => fun
  | [d1, d2] => { results := [.lit (.bool false)], args := [d1, d2] }
  | _ => none }
def FnExactCallOkWrongFalsely : Prop := fnExactCallOkRow.holds Try.pinned (OpenSpec.ofChange fnExactCallOkWrong)

/-- 'laws.FnTrtOthers': WHATEVER THE INPUT: true; the input reads as it did. -/
def fnTrtOthersSpec : ChangeSpec := { name := "fnTrtOthers", fn := fun _ => fun
  | [d] => { results := [.lit (.bool true)], args := [d] }
  | _ => none }
def fnTrtOthersRow : OpenClaim := { program := "ytjfjfdcmliaigaa", sum := "776df148458738ee07946b186406e24e401ae5b5d674caa4bf255a3065dc34c9", func := "loop.example/concord/laws.FnTrtOthers", spec := "fnTrtOthers", apart := false }
def FnTrtOthersSaid : Prop := fnTrtOthersRow.holds Try.pinned (OpenSpec.ofChange fnTrtOthersSpec)

/-- ITS FALSE NEIGHBOUR: 'it returns false'. Refute it at one input. -/
def fnTrtOthersWrong : ChangeSpec := { name := "fnTrtOthers", fn := fun _ => fun
  | [d] => { results := [.lit (.bool false)], args := [d] }
  | _ => none }
def FnTrtOthersWrongFalsely : Prop := fnTrtOthersRow.holds Try.pinned (OpenSpec.ofChange fnTrtOthersWrong)

/-- 'laws.FnValOk': WHATEVER THE INPUT: true; the input reads as it did. -/
def fnValOkSpec : ChangeSpec := { name := "fnValOk", fn := fun _ => fun
  | [d1, d2] => { results := [.lit (.bool true)], args := [d1, d2] }
  | _ => none }
def fnValOkRow : OpenClaim := { program := "ytjfjfdcmliaigaa", sum := "776df148458738ee07946b186406e24e401ae5b5d674caa4bf255a3065dc34c9", func := "loop.example/concord/laws.FnValOk", spec := "fnValOk", unfollowed := true, recurses := true, apart := false }
def FnValOkSaid : Prop := fnValOkRow.holds Try.pinned (OpenSpec.ofChange fnValOkSpec)

/-- ITS FALSE NEIGHBOUR: 'it returns false'. Refute it at one input. -/
def fnValOkWrong : ChangeSpec := { name := "fnValOk", fn := fun _ => fun
  | [d1, d2] => { results := [.lit (.bool false)], args := [d1, d2] }
  | _ => none }
def FnValOkWrongFalsely : Prop := fnValOkRow.holds Try.pinned (OpenSpec.ofChange fnValOkWrong)

/-- 'laws.FnCatPart': WHATEVER THE INPUT: true; the input reads as it did. -/
def fnCatPartSpec : ChangeSpec := { name := "fnCatPart", fn := fun _ => fun
  | [d] => { results := [.lit (.bool true)], args := [d] }
  | _ => none }
def fnCatPartRow : OpenClaim := { program := "ytjfjfdcmliaigaa", sum := "776df148458738ee07946b186406e24e401ae5b5d674caa4bf255a3065dc34c9", func := "loop.example/concord/laws.FnCatPart", spec := "fnCatPart", unfollowed := true, recurses := true, apart := false }
def FnCatPartSaid : Prop := fnCatPartRow.holds Try.pinned (OpenSpec.ofChange fnCatPartSpec)

/-- ITS FALSE NEIGHBOUR: 'it returns false'. Refute it at one input. -/
def fnCatPartWrong : ChangeSpec := { name := "fnCatPart", fn := fun _ => fun
  | [d] => { results := [.lit (.bool false)], args := [d] }
  | _ => none }
def FnCatPartWrongFalsely : Prop := fnCatPartRow.holds Try.pinned (OpenSpec.ofChange fnCatPartWrong)

/-- 'laws.FnFrmPot': WHATEVER THE INPUT: true; the input reads as it did. -/
def fnFrmPotSpec : ChangeSpec := { name := "fnFrmPot", fn := fun _ => fun
  | [d1, d2] => { results := [.lit (.bool true)], args := [d1, d2] }
  | _ => none }
def fnFrmPotRow : OpenClaim := { program := "ytjfjfdcmliaigaa", sum := "776df148458738ee07946b186406e24e401ae5b5d674caa4bf255a3065dc34c9", func := "loop.example/concord/laws.FnFrmPot", spec := "fnFrmPot", unfollowed := true, recurses := true, apart := false }
def FnFrmPotSaid : Prop := fnFrmPotRow.holds Try.pinned (OpenSpec.ofChange fnFrmPotSpec)

/-- ITS FALSE NEIGHBOUR: 'it returns false'. Refute it at one input. -/
def fnFrmPotWrong : ChangeSpec := { name := "fnFrmPot", fn := fun _ => fun
  | [d1, d2] => { results := [.lit (.bool false)], args := [d1, d2] }
  | _ => none }
def FnFrmPotWrongFalsely : Prop := fnFrmPotRow.holds Try.pinned (OpenSpec.ofChange fnFrmPotWrong)

/-- 'laws.FnFrmTimes': WHATEVER THE INPUT: true; the input reads as it did. -/
def fnFrmTimesSpec : ChangeSpec := { name := "fnFrmTimes", fn := fun _ => fun
  | [d1, d2] => { results := [.lit (.bool true)], args := [d1, d2] }
  | _ => none }
def fnFrmTimesRow : OpenClaim := { program := "ytjfjfdcmliaigaa", sum := "776df148458738ee07946b186406e24e401ae5b5d674caa4bf255a3065dc34c9", func := "loop.example/concord/laws.FnFrmTimes", spec := "fnFrmTimes", unfollowed := true, recurses := true, apart := false }
def FnFrmTimesSaid : Prop := fnFrmTimesRow.holds Try.pinned (OpenSpec.ofChange fnFrmTimesSpec)

/-- ITS FALSE NEIGHBOUR: 'it returns false'. Refute it at one input. -/
def fnFrmTimesWrong : ChangeSpec := { name := "fnFrmTimes", fn := fun _ => fun
  | [d1, d2] => { results := [.lit (.bool false)], args := [d1, d2] }
  | _ => none }
def FnFrmTimesWrongFalsely : Prop := fnFrmTimesRow.holds Try.pinned (OpenSpec.ofChange fnFrmTimesWrong)

/-- 'laws.FnFrmInto': WHATEVER THE INPUT: true; the input reads as it did. -/
def fnFrmIntoSpec : ChangeSpec := { name := "fnFrmInto", fn := fun _ => fun
  | [d1, d2] => { results := [.lit (.bool true)], args := [d1, d2] }
  | _ => none }
def fnFrmIntoRow : OpenClaim := { program := "ytjfjfdcmliaigaa", sum := "776df148458738ee07946b186406e24e401ae5b5d674caa4bf255a3065dc34c9", func := "loop.example/concord/laws.FnFrmInto", spec := "fnFrmInto", unfollowed := true, recurses := true, apart := false }
def FnFrmIntoSaid : Prop := fnFrmIntoRow.holds Try.pinned (OpenSpec.ofChange fnFrmIntoSpec)

/-- ITS FALSE NEIGHBOUR: 'it returns false'. Refute it at one input. -/
def fnFrmIntoWrong : ChangeSpec := { name := "fnFrmInto", fn := fun _ => fun
  | [d1, d2] => { results := [.lit (.bool false)], args := [d1, d2] }
  | _ => none }
def FnFrmIntoWrongFalsely : Prop := fnFrmIntoRow.holds Try.pinned (OpenSpec.ofChange fnFrmIntoWrong)

/-- 'laws.FnFrmAdd': WHATEVER THE INPUT: true; the input reads as it did. -/
def fnFrmAddSpec : ChangeSpec := { name := "fnFrmAdd", fn := fun _ => fun
  | [d1, d2] => { results := [.lit (.bool true)], args := [d1, d2] }
  | _ => none }
def fnFrmAddRow : OpenClaim := { program := "ytjfjfdcmliaigaa", sum := "776df148458738ee07946b186406e24e401ae5b5d674caa4bf255a3065dc34c9", func := "loop.example/concord/laws.FnFrmAdd", spec := "fnFrmAdd", unfollowed := true, recurses := true, apart := false }
def FnFrmAddSaid : Prop := fnFrmAddRow.holds Try.pinned (OpenSpec.ofChange fnFrmAddSpec)

/-- ITS FALSE NEIGHBOUR: 'it returns false'. Refute it at one input. -/
def fnFrmAddWrong : ChangeSpec := { name := "fnFrmAdd", fn := fun _ => fun
  | [d1, d2] => { results := [.lit (.bool false)], args := [d1, d2] }
  | _ => none }
def FnFrmAddWrongFalsely : Prop := fnFrmAddRow.holds Try.pinned (OpenSpec.ofChange fnFrmAddWrong)

/-- 'laws.FnPlnHome': WHATEVER THE INPUT: true; the input reads as it did. -/
def fnPlnHomeSpec : ChangeSpec := { name := "fnPlnHome", fn := fun _ => fun
  | [d] => { results := [.lit (.bool true)], args := [d] }
  | _ => none }
def fnPlnHomeRow : OpenClaim := { program := "ytjfjfdcmliaigaa", sum := "776df148458738ee07946b186406e24e401ae5b5d674caa4bf255a3065dc34c9", func := "loop.example/concord/laws.FnPlnHome", spec := "fnPlnHome", unfollowed := true, recurses := true, apart := false }
def FnPlnHomeSaid : Prop := fnPlnHomeRow.holds Try.pinned (OpenSpec.ofChange fnPlnHomeSpec)

/-- ITS FALSE NEIGHBOUR: 'it returns false'. Refute it at one input. -/
def fnPlnHomeWrong : ChangeSpec := { name := "fnPlnHome", fn := fun _ => fun
  | [d] => { results := [.lit (.bool false)], args := [d] }
  | _ => none }
def FnPlnHomeWrongFalsely : Prop := fnPlnHomeRow.holds Try.pinned (OpenSpec.ofChange fnPlnHomeWrong)

/-- 'laws.FnRowDo': WHATEVER THE INPUT: true; the input reads as it did. -/
def fnRowDoSpec : ChangeSpec := { name := "fnRowDo", fn := fun _ => fun
  | [d] => { results := [.lit (.bool true)], args := [d] }
  | _ => none }
def fnRowDoRow : OpenClaim := { program := "ytjfjfdcmliaigaa", sum := "776df148458738ee07946b186406e24e401ae5b5d674caa4bf255a3065dc34c9", func := "loop.example/concord/laws.FnRowDo", spec := "fnRowDo", unfollowed := true, recurses := true, apart := false }
def FnRowDoSaid : Prop := fnRowDoRow.holds Try.pinned (OpenSpec.ofChange fnRowDoSpec)

/-- ITS FALSE NEIGHBOUR: 'it returns false'. Refute it at one input. -/
def fnRowDoWrong : ChangeSpec := { name := "fnRowDo", fn := fun _ => fun
  | [d] => { results := [.lit (.bool false)], args := [d] }
  | _ => none }
def FnRowDoWrongFalsely : Prop := fnRowDoRow.holds Try.pinned (OpenSpec.ofChange fnRowDoWrong)

/-- 'laws.FnRowFits': WHATEVER THE INPUT: true; the input reads as it did. -/
def fnRowFitsSpec : ChangeSpec := { name := "fnRowFits", fn := fun _ => fun
  | [d] => { results := [.lit (.bool true)], args := [d] }
  | _ => none }
def fnRowFitsRow : OpenClaim := { program := "ytjfjfdcmliaigaa", sum := "776df148458738ee07946b186406e24e401ae5b5d674caa4bf255a3065dc34c9", func := "loop.example/concord/laws.FnRowFits", spec := "fnRowFits", unfollowed := true, recurses := true, apart := false }
def FnRowFitsSaid : Prop := fnRowFitsRow.holds Try.pinned (OpenSpec.ofChange fnRowFitsSpec)

/-- ITS FALSE NEIGHBOUR: 'it returns false'. Refute it at one input. -/
def fnRowFitsWrong : ChangeSpec := { name := "fnRowFits", fn := fun _ => fun
  | [d] => { results := [.lit (.bool false)], args := [d] }
  | _ => none }
def FnRowFitsWrongFalsely : Prop := fnRowFitsRow.holds Try.pinned (OpenSpec.ofChange fnRowFitsWrong)

/- THE SECOND FORM. 'bulk': how many values and letters a reading holds, each counted each time it is reached (what is shared counts as often as it is met; a slice's spare places count too). A statement '..UptoSaid' is the law's where the arguments, and the package variables that the reading takes, are together of bulk at most 1048576: NARROWER than '..Said'. Prove '..Said' where nothing that the law and all that it calls make is longer than what came in: it says more and counts as full. Else prove '..UptoSaid'. A law counts once. -/
mutual
def uptoBulk {H : Type} : DataW H → Nat
  | .lit (.string bytes) => bytes.length + 1
  | .lit _ => 1
  | .nil => 1
  | .ptr d => uptoBulk d + 1
  | .slice elems spare => uptoBulkAll elems + uptoBulkAll spare + 1
  | .agg parts => uptoBulkAll parts + 1
  | .iface _ d => uptoBulk d + 1
  | .map entries => uptoBulkEntries entries + 1
  | .held _ => 1
def uptoBulkAll {H : Type} : List (DataW H) → Nat
  | [] => 0
  | d :: r => uptoBulk d + uptoBulkAll r
def uptoBulkEntries {H : Type} : List (Lit × DataW H) → Nat
  | [] => 0
  | x :: r => uptoBulkEntry x + uptoBulkEntries r
def uptoBulkEntry {H : Type} : Lit × DataW H → Nat
  | (.string bytes, d) => bytes.length + uptoBulk d + 1
  | (_, d) => uptoBulk d + 1
 end
def uptoSmall : (H : Type) → List (DataW H) → Bool := fun _ ds => decide (uptoBulkAll ds ≤ 1048576)
def OpenSpec.upto (s : _root_.Go.ChangeSpec) : _root_.Go.OpenSpec := { _root_.Go.OpenSpec.ofChange s with cond := some uptoSmall }

/-- 'laws.FnExactActRun', WHERE WHAT IT READS IS OF BULK AT MOST 1048576: true; the input reads as it did. -/
def fnExactActRunUptoRow : OpenClaim := { program := "ytjfjfdcmliaigaa", sum := "776df148458738ee07946b186406e24e401ae5b5d674caa4bf255a3065dc34c9", func := "loop.example/concord/laws.FnExactActRun", spec := "fnExactActRun", unfollowed := true, recurses := true, apart := false, narrowed := true }
def FnExactActRunUptoSaid : Prop := fnExactActRunUptoRow.holds Try.pinned (OpenSpec.upto fnExactActRunSpec)

/-- 'laws.FnExactCallOk', WHERE WHAT IT READS IS OF BULK AT MOST 1048576: true; the input reads as it did. -/
def fnExactCallOkUptoRow : OpenClaim := { program := "ytjfjfdcmliaigaa", sum := "776df148458738ee07946b186406e24e401ae5b5d674caa4bf255a3065dc34c9", func := "loop.example/concord/laws.FnExactCallOk", spec := "fnExactCallOk", unfollowed := true, recurses := true, apart := false, narrowed := true }
def FnExactCallOkUptoSaid : Prop := fnExactCallOkUptoRow.holds Try.pinned (OpenSpec.upto fnExactCallOkSpec)

/-- 'laws.FnTrtOthers', WHERE WHAT IT READS IS OF BULK AT MOST 1048576: true; the input reads as it did. -/
def fnTrtOthersUptoRow : OpenClaim := { program := "ytjfjfdcmliaigaa", sum := "776df148458738ee07946b186406e24e401ae5b5d674caa4bf255a3065dc34c9", func := "loop.example/concord/laws.FnTrtOthers", spec := "fnTrtOthers", apart := false, narrowed := true }
def FnTrtOthersUptoSaid : Prop := fnTrtOthersUptoRow.holds Try.pinned (OpenSpec.upto fnTrtOthersSpec)

/-- 'laws.FnValOk', WHERE WHAT IT READS IS OF BULK AT MOST 1048576: true; the input reads as it did. -/
def fnValOkUptoRow : OpenClaim := { program := "ytjfjfdcmliaigaa", sum := "776df148458738ee07946b186406e24e401ae5b5d674caa4bf255a3065dc34c9", func := "loop.example/concord/laws.FnValOk", spec := "fnValOk", unfollowed := true, recurses := true, apart := false, narrowed := true }
def FnValOkUptoSaid : Prop := fnValOkUptoRow.holds Try.pinned (OpenSpec.upto fnValOkSpec)

/-- 'laws.FnCatPart', WHERE WHAT IT READS IS OF BULK AT MOST 1048576: true; the input reads as it did. -/
def fnCatPartUptoRow : OpenClaim := { program := "ytjfjfdcmliaigaa", sum := "776df148458738ee07946b186406e24e401ae5b5d674caa4bf255a3065dc34c9", func := "loop.example/concord/laws.FnCatPart", spec := "fnCatPart", unfollowed := true, recurses := true, apart := false, narrowed := true }
def FnCatPartUptoSaid : Prop := fnCatPartUptoRow.holds Try.pinned (OpenSpec.upto fnCatPartSpec)

/-- 'laws.FnFrmPot', WHERE WHAT IT READS IS OF BULK AT MOST 1048576: true; the input reads as it did. -/
def fnFrmPotUptoRow : OpenClaim := { program := "ytjfjfdcmliaigaa", sum := "776df148458738ee07946b186406e24e401ae5b5d674caa4bf255a3065dc34c9", func := "loop.example/concord/laws.FnFrmPot", spec := "fnFrmPot", unfollowed := true, recurses := true, apart := false, narrowed := true }
def FnFrmPotUptoSaid : Prop := fnFrmPotUptoRow.holds Try.pinned (OpenSpec.upto fnFrmPotSpec)

/-- 'laws.FnFrmTimes', WHERE WHAT IT READS IS OF BULK AT MOST 1048576: true; the input reads as it did. -/
def fnFrmTimesUptoRow : OpenClaim := { program := "ytjfjfdcmliaigaa", sum := "776df148458738ee07946b186406e24e401ae5b5d674caa4bf255a3065dc34c9", func := "loop.example/concord/laws.FnFrmTimes", spec := "fnFrmTimes", unfollowed := true, recurses := true, apart := false, narrowed := true }
def FnFrmTimesUptoSaid : Prop := fnFrmTimesUptoRow.holds Try.pinned (OpenSpec.upto fnFrmTimesSpec)

/-- 'laws.FnFrmInto', WHERE WHAT IT READS IS OF BULK AT MOST 1048576: true; the input reads as it did. -/
def fnFrmIntoUptoRow : OpenClaim := { program := "ytjfjfdcmliaigaa", sum := "776df148458738ee07946b186406e24e401ae5b5d674caa4bf255a3065dc34c9", func := "loop.example/concord/laws.FnFrmInto", spec := "fnFrmInto", unfollowed := true, recurses := true, apart := false, narrowed := true }
def FnFrmIntoUptoSaid : Prop := fnFrmIntoUptoRow.holds Try.pinned (OpenSpec.upto fnFrmIntoSpec)

/-- 'laws.FnFrmAdd', WHERE WHAT IT READS IS OF BULK AT MOST 1048576: true; the input reads as it did. -/
def fnFrmAddUptoRow : OpenClaim := { program := "ytjfjfdcmliaigaa", sum := "776df148458738ee07946b186406e24e401ae5b5d674caa4bf255a3065dc34c9", func := "loop.example/concord/laws.FnFrmAdd", spec := "fnFrmAdd", unfollowed := true, recurses := true, apart := false, narrowed := true }
def FnFrmAddUptoSaid : Prop := fnFrmAddUptoRow.holds Try.pinned (OpenSpec.upto fnFrmAddSpec)

/-- 'laws.FnPlnHome', WHERE WHAT IT READS IS OF BULK AT MOST 1048576: true; the input reads as it did. -/
def fnPlnHomeUptoRow : OpenClaim := { program := "ytjfjfdcmliaigaa", sum := "776df148458738ee07946b186406e24e401ae5b5d674caa4bf255a3065dc34c9", func := "loop.example/concord/laws.FnPlnHome", spec := "fnPlnHome", unfollowed := true, recurses := true, apart := false, narrowed := true }
def FnPlnHomeUptoSaid : Prop := fnPlnHomeUptoRow.holds Try.pinned (OpenSpec.upto fnPlnHomeSpec)

/-- 'laws.FnRowDo', WHERE WHAT IT READS IS OF BULK AT MOST 1048576: true; the input reads as it did. -/
def fnRowDoUptoRow : OpenClaim := { program := "ytjfjfdcmliaigaa", sum := "776df148458738ee07946b186406e24e401ae5b5d674caa4bf255a3065dc34c9", func := "loop.example/concord/laws.FnRowDo", spec := "fnRowDo", unfollowed := true, recurses := true, apart := false, narrowed := true }
def FnRowDoUptoSaid : Prop := fnRowDoUptoRow.holds Try.pinned (OpenSpec.upto fnRowDoSpec)

/-- 'laws.FnRowFits', WHERE WHAT IT READS IS OF BULK AT MOST 1048576: true; the input reads as it did. -/
def fnRowFitsUptoRow : OpenClaim := { program := "ytjfjfdcmliaigaa", sum := "776df148458738ee07946b186406e24e401ae5b5d674caa4bf255a3065dc34c9", func := "loop.example/concord/laws.FnRowFits", spec := "fnRowFits", unfollowed := true, recurses := true, apart := false, narrowed := true }
def FnRowFitsUptoSaid : Prop := fnRowFitsUptoRow.holds Try.pinned (OpenSpec.upto fnRowFitsSpec)

end Rows
end Go.Proofs.Ytjfjfdcmliaigaa
