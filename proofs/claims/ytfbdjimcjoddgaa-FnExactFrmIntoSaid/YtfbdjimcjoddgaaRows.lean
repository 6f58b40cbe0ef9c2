/-
  No cell of these rows narrows 'for every input' (looked for: loops, veiled, ifaces, maps, wideKeys, modest, calm, conditions, laid).
  DERIVED. THE GIVEN ROWS OF THIS SEAT. 5 by the template 'for every input the law returns true; each argument reads behind the call as it read before'; 0 by the template 'total and deterministic' (their statements: YtfbdjimcjoddgaaTotals.lean).
  GIVEN WITH THE SEED: the statements are not yours to turn. If you find one false, say at which input.
  Laid BY PROGRAM, IN A SANDBOX (cutbox-rows.mjs): the forced cells as the released guide's own fill.sh prints them over the translation f6e11424b5789f15… (all of the seat's roots in one cut). By AI agents, Wed Nov 11 2026. No macro, syntax, notation, axiom, sorry.
-/
import Derived.Test.YtfbdjimcjoddgaaChecked
import GoSem.Claim
import GoSem.ClaimJoined
import GoSem.ClaimMapViews
import Derived.JoinedTies
import Derived.KernelRfl
namespace Go.Proofs.Ytfbdjimcjoddgaa
/- THE CELL 'sum', in the pinned program and in every row, IS THE sha256 OF THE DUMP (.gsa) THAT YtfbdjimcjoddgaaProg.lean LOADS. Nothing in Lean hashes anything: it is a label: what it is worth is what the hold of that sum in a sandbox is worth. -/
noncomputable def Try.pinned : Pinned := { name := "ytfbdjimcjoddgaa", sum := "f6e11424b5789f1565938b4f4a5c740b37d7c5465d49c9743f69cfbe543d0901", checked := Try.checked }
namespace Rows
def none {H : Type} : Left H := { results := [], args := [] }

/-- 'laws.FnExactFrmAdd': WHATEVER THE INPUT: true; the input reads as it did. -/
def fnExactFrmAddSpec : ChangeSpec := { name := "fnExactFrmAdd", fn := fun _ => fun
  | [d1, d2] => { results := [.lit (.bool true)], args := [d1, d2] }
  | _ => none }
def fnExactFrmAddRow : OpenClaim := { program := "ytfbdjimcjoddgaa", sum := "f6e11424b5789f1565938b4f4a5c740b37d7c5465d49c9743f69cfbe543d0901", func := "loop.example/concord/laws.FnExactFrmAdd", spec := "fnExactFrmAdd", unfollowed := true, recurses := true, apart := false }
def FnExactFrmAddSaid : Prop := fnExactFrmAddRow.holds Try.pinned (OpenSpec.ofChange fnExactFrmAddSpec)

/-- ITS FALSE NEIGHBOUR: 'it returns false'. Refute it at one input. -/
def fnExactFrmAddWrong : ChangeSpec := { name := "fnExactFrmAdd", fn := fun _ => fun
  | [d1, d2] => { results := [.lit (.bool false)], args := [d1, d2] }
  | _ => none }
def FnExactFrmAddWrongFalsely : Prop := fnExactFrmAddRow.holds Try.pinned (OpenSpec.ofChange fnExactFrmAddWrong)

/-- 'laws.FnExactFrmInto': WHATEVER THE INPUT: true; the input reads as it did. -/
def fnExactFrmIntoSpec : ChangeSpec := { name := "fnExactFrmInto", fn := fun _ => fun
  | [d1, d2] => { results := [.lit (.bool true)], args := [d1, d2] }
  | _ => none }
def fnExactFrmIntoRow : OpenClaim := { program := "ytfbdjimcjoddgaa", sum := "f6e11424b5789f1565938b4f4a5c740b37d7c5465d49c9743f69cfbe543d0901", func := "loop.example/concord/laws.FnExactFrmInto", spec := "fnExactFrmInto", unfollowed := true, recurses := true, apart := false }
def FnExactFrmIntoSaid : Prop := fnExactFrmIntoRow.holds Try.pinned (OpenSpec.ofChange fnExactFrmIntoSpec)

/-- ITS FALSE NEIGHBOUR: 'it returns false'. Refute it at one input. -/
def fnExactFrmIntoWrong : ChangeSpec := { name := "fnExactFrmInto", fn := fun _ => fun
  | [d1, d2] => { results := [.lit (.bool false)], args := [d1, d2] }
  | _ => none }
def FnExactFrmIntoWrongFalsely : Prop := fnExactFrmIntoRow.holds Try.pinned (OpenSpec.ofChange fnExactFrmIntoWrong)

/-- 'laws.FnExactRowOk': WHATEVER THE INPUT: true; the input reads as it did. -/
def fnExactRowOkSpec : ChangeSpec := { name := "fnExactRowOk", fn := fun _ => fun
  | [d] => { results := [.lit (.bool true)], args := [d] }
  | _ => none }
def fnExactRowOkRow : OpenClaim := { program := "ytfbdjimcjoddgaa", sum := "f6e11424b5789f1565938b4f4a5c740b37d7c5465d49c9743f69cfbe543d0901", func := "loop.example/concord/laws.FnExactRowOk", spec := "fnExactRowOk", unfollowed := true, recurses := true, apart := false }
def FnExactRowOkSaid : Prop := fnExactRowOkRow.holds Try.pinned (OpenSpec.ofChange fnExactRowOkSpec)

/-- ITS FALSE NEIGHBOUR: 'it returns false'. Refute it at one input. -/
def fnExactRowOkWrong : ChangeSpec := { name := "fnExactRowOk", fn := fun _ => fun
  | [d] => { results := [.lit (.bool false)], args := [d] }
  | _ => none }
def FnExactRowOkWrongFalsely : Prop := fnExactRowOkRow.holds Try.pinned (OpenSpec.ofChange fnExactRowOkWrong)

/-- 'laws.FnExactRowFits': WHATEVER THE INPUT: true; the input reads as it did. -/
def fnExactRowFitsSpec : ChangeSpec := { name := "fnExactRowFits", fn := fun _ => fun
  | [d1, d2, d3] => { results := [.lit (.bool true)], args := [d1, d2, d3] }
  | _ => none }
def fnExactRowFitsRow : OpenClaim := { program := "ytfbdjimcjoddgaa", sum := "f6e11424b5789f1565938b4f4a5c740b37d7c5465d49c9743f69cfbe543d0901", func := "loop.example/concord/laws.FnExactRowFits", spec := "fnExactRowFits", unfollowed := true, recurses := true, apart := false }
def FnExactRowFitsSaid : Prop := fnExactRowFitsRow.holds Try.pinned (OpenSpec.ofChange fnExactRowFitsSpec)

/-- ITS FALSE NEIGHBOUR: 'it returns false'. Refute it at one input. -/
def fnExactRowFitsWrong : ChangeSpec := { name := "fnExactRowFits", fn := fun _ => fun
  | [d1, d2, d3] => { results := [.lit (.bool false)], args := [d1, d2, d3] }
  | _ => none }
def FnExactRowFitsWrongFalsely : Prop := fnExactRowFitsRow.holds Try.pinned (OpenSpec.ofChange fnExactRowFitsWrong)

/-- 'laws.FnExactRowDo': WHATEVER THE INPUT: true; the input reads as it did. -/
def fnExactRowDoSpec : ChangeSpec := { name := "fnExactRowDo", fn := fun _ => fun
  | [d1, d2, d3] => { results := [.lit (.bool true)], args := [d1, d2, d3] }
  | _ => none }
def fnExactRowDoRow : OpenClaim := { program := "ytfbdjimcjoddgaa", sum := "f6e11424b5789f1565938b4f4a5c740b37d7c5465d49c9743f69cfbe543d0901", func := "loop.example/concord/laws.FnExactRowDo", spec := "fnExactRowDo", unfollowed := true, recurses := true, apart := false }
def FnExactRowDoSaid : Prop := fnExactRowDoRow.holds Try.pinned (OpenSpec.ofChange fnExactRowDoSpec)

/-- ITS FALSE NEIGHBOUR: 'it returns false'. Refute it at one input. -/
def fnExactRowDoWrong : ChangeSpec := { name := "fnExactRowDo", fn := fun _ => fun
  | [d1, d2, d3] => { results := [.lit (.bool false)], args := [d1, d2, d3] }
  | _ => none }
def FnExactRowDoWrongFalsely : Prop := fnExactRowDoRow.holds Try.pinned (OpenSpec.ofChange fnExactRowDoWrong)

/- THE SECOND FORM. 'bulk': how many values and letters a reading holds, each counted each time it is reached (what is shared counts as often as it is met; a slice's spare places count too). A statement '..UptoSaid' is the law's where the arguments, and the package variables that the reading takes, are together of bulk at most 1048576: NARROWER than '..Said'. Prove '..Said' where nothing that the law and all that it calls make is longer than what came in: it says more and counts as full. Else prove '..UptoSaid'. A law counts once. -/
mutual
def uptoBulk {H : Type} : DataW H → Nat
  | .lit (.string bytes) => bytes.length + 1
  | .lit _ => 1
  | .nil => 1
  | .ptr d => uptoBulk d + 1
  | .slice elems spare => uptoBulkAll elems + uptoBulkAll spare + 1
  | .agg parts => uptoBulkAll parts + 1
  | .iface _ d => uptoBulk d + 1
  | .map entries => uptoBulkEntries entries + 1
  | .held _ => 1
def uptoBulkAll {H : Type} : List (DataW H) → Nat
  | [] => 0
  | d :: r => uptoBulk d + uptoBulkAll r
def uptoBulkEntries {H : Type} : List (Lit × DataW H) → Nat
  | [] => 0
  | x :: r => uptoBulkEntry x + uptoBulkEntries r
def uptoBulkEntry {H : Type} : Lit × DataW H → Nat
  | (.string bytes, d) => bytes.length + uptoBulk d + 1
  | (_, d) => uptoBulk d + 1
 end
def uptoSmall : (H : Type) → List (DataW H) → Bool := fun _ ds => decide (uptoBulkAll ds ≤ 1048576)
def OpenSpec.upto (s : _root_.Go.ChangeSpec) : _root_.Go.OpenSpec := { _root_.Go.OpenSpec.ofChange s with cond := some uptoSmall }

/-- 'laws.FnExactFrmAdd', WHERE WHAT IT READS IS OF BULK AT MOST 1048576: true; the input reads as it did. -/
def fnExactFrmAddUptoRow : OpenClaim := { program := "ytfbdjimcjoddgaa", sum := "f6e11424b5789f1565938b4f4a5c740b37d7c5465d49c9743f69cfbe543d0901", func := "loop.example/concord/laws.FnExactFrmAdd", spec := "fnExactFrmAdd", unfollowed := true, recurses := true, apart := false, narrowed := true }
def FnExactFrmAddUptoSaid : Prop := fnExactFrmAddUptoRow.holds Try.pinned (OpenSpec.upto fnExactFrmAddSpec)

/-- 'laws.FnExactFrmInto', WHERE WHAT IT READS IS OF BULK AT MOST 1048576: true; the input reads as it did. -/
def fnExactFrmIntoUptoRow : OpenClaim := { program := "ytfbdjimcjoddgaa", sum := "f6e11424b5789f1565938b4f4a5c740b37d7c5465d49c9743f69cfbe543d0901", func := "loop.example/concord/laws.FnExactFrmInto", spec := "fnExactFrmInto", unfollowed := true, recurses := true, apart := false, narrowed := true }
def FnExactFrmIntoUptoSaid : Prop := fnExactFrmIntoUptoRow.holds Try.pinned (OpenSpec.upto fnExactFrmIntoSpec)

/-- 'laws.FnExactRowOk', WHERE WHAT IT READS IS OF BULK AT MOST 1048576: true; the input reads as it did. -/
def fnExactRowOkUptoRow : OpenClaim := { program := "ytfbdjimcjoddgaa", sum := "f6e11424b5789f1565938b4f4a5c740b37d7c5465d49c9743f69cfbe543d0901", func := "loop.example/concord/laws.FnExactRowOk", spec := "fnExactRowOk", unfollowed := true, recurses := true, apart := false, narrowed := true }
def FnExactRowOkUptoSaid : Prop := fnExactRowOkUptoRow.holds Try.pinned (OpenSpec.upto fnExactRowOkSpec)

/-- 'laws.FnExactRowFits', WHERE WHAT IT READS IS OF BULK AT MOST 1048576: true; the input reads as it did. -/
def fnExactRowFitsUptoRow : OpenClaim := { program := "ytfbdjimcjoddgaa", sum := "f6e11424b5789f1565938b4f4a5c740b37d7c5465d49c9743f69cfbe543d0901", func := "loop.example/concord/laws.FnExactRowFits", spec := "fnExactRowFits", unfollowed := true, recurses := true, apart := false, narrowed := true }
def FnExactRowFitsUptoSaid : Prop := fnExactRowFitsUptoRow.holds Try.pinned (OpenSpec.upto fnExactRowFitsSpec)

/-- 'laws.FnExactRowDo', WHERE WHAT IT READS IS OF BULK AT MOST 1048576: true; the input reads as it did. -/
def fnExactRowDoUptoRow : OpenClaim := { program := "ytfbdjimcjoddgaa", sum := "f6e11424b5789f1565938b4f4a5c740b37d7c5465d49c9743f69cfbe543d0901", func := "loop.example/concord/laws.FnExactRowDo", spec := "fnExactRowDo", unfollowed := true, recurses := true, apart := false, narrowed := true }
def FnExactRowDoUptoSaid : Prop := fnExactRowDoUptoRow.holds Try.pinned (OpenSpec.upto fnExactRowDoSpec)

end Rows
end Go.Proofs.Ytfbdjimcjoddgaa
