/-
  No cell of these rows narrows 'for every input' (looked for: loops, veiled, ifaces, maps, wideKeys, modest, calm, conditions, laid).
  DERIVED. THE GIVEN ROWS OF THIS SEAT. 12 by the template 'for every input the law returns true; each argument reads behind the call as it read before'; 0 by the template 'total and deterministic' (their statements: YtkklkpoelkangaaTotals.lean).
  GIVEN WITH THE SEED: the statements are not yours to turn. If you find one false, say at which input.
  Laid BY PROGRAM, IN A SANDBOX (cutbox-rows.mjs): the forced cells as the released guide's own fill.sh prints them over the translation a9704b5eb8b928b2… (all of the seat's roots in one cut). By AI agents, Wed Nov 11 2026. No macro, syntax, notation, axiom, sorry.
-/
import Derived.Test.YtkklkpoelkangaaChecked
import GoSem.Claim
import GoSem.ClaimJoined
import GoSem.ClaimMapViews
import Derived.JoinedTies
import Derived.KernelRfl
namespace Go.Proofs.Ytkklkpoelkangaa
/- THE CELL 'sum', in the pinned program and in every row, IS THE sha256 OF THE DUMP (.gsa) THAT YtkklkpoelkangaaProg.lean LOADS. Nothing in Lean hashes anything: it is a label: what it is worth is what the hold of that sum in a sandbox is worth. -/
noncomputable def Try.pinned : Pinned := { name := "ytkklkpoelkangaa", sum := "a9704b5eb8b928b2e70da0db5f7bd0207df2b3218174ba4aef81e235765e1a0f", checked := Try.checked }
namespace Rows
def none {H : Type} : Left H := { results := [], args := [] }

/-- 'laws.FnExactFrmAdd': WHATEVER THE INPUT: true; the input reads as it did. -/
def fnExactFrmAddSpec : ChangeSpec := { name := "fnExactFrmAdd", fn := fun _ => fun
  | [d1, d2] => { results := [.lit (.bool true)], args := [d1, d2] }
  | _ => none }
def fnExactFrmAddRow : OpenClaim := { program := "ytkklkpoelkangaa", sum := "a9704b5eb8b928b2e70da0db5f7bd0207df2b3218174ba4aef81e235765e1a0f", func := "loop.example/concord/laws.FnExactFrmAdd", spec := "fnExactFrmAdd", unfollowed := true, recurses := true, apart := false }
def FnExactFrmAddSaid : Prop := fnExactFrmAddRow.holds Try.pinned (OpenSpec.ofChange fnExactFrmAddSpec)

/-- ITS FALSE NEIGHBOUR: 'it returns false'. Refute it at one input. -/
def fnExactFrmAddWrong : ChangeSpec := { name := "fnExactFrmAdd", fn := fun _ => fun
  | [d1, d2] => { results := [.lit (.bool false)], args := [d1, d2] }
  | _ => none }
def FnExactFrmAddWrongFalsely : Prop := fnExactFrmAddRow.holds Try.pinned (OpenSpec.ofChange fnExactFrmAddWrong)

/-- 'laws.FnExactFrmInto': WHATEVER THE INPUT: true; the input reads as it did. -/
def fnExactFrmIntoSpec : ChangeSpec := { name := "fnExactFrmInto", fn := fun _ => fun
  | [d1, d2] => { results := [.lit (.bool true)], args := [d1, d2] }
  | _ => none }
def fnExactFrmIntoRow : OpenClaim := { program := "ytkklkpoelkangaa", sum := "a9704b5eb8b928b2e70da0db5f7bd0207df2b3218174ba4aef81e235765e1a0f", func := "loop.example/concord/laws.FnExactFrmInto", spec := "fnExactFrmInto", unfollowed := true, recurses := true, apart := false }
def FnExactFrmIntoSaid : Prop := fnExactFrmIntoRow.holds Try.pinned (OpenSpec.ofChange fnExactFrmIntoSpec)

/-- ITS FALSE NEIGHBOUR: 'it returns false'. Refute it at one input. -/
def fnExactFrmIntoWrong : ChangeSpec := { name := "fnExactFrmInto", fn := fun _ => fun
  | [d1, d2] => { results := [.lit (.bool false)], args := [d1, d2] }
  | _ => none }
def FnExactFrmIntoWrongFalsely : Prop := fnExactFrmIntoRow.holds Try.pinned (OpenSpec.ofChange fnExactFrmIntoWrong)

/-- 'laws.FnExactTrtKeeps': WHATEVER THE INPUT: true; the input reads as it did. -/
def fnExactTrtKeepsSpec : ChangeSpec := { name := "fnExactTrtKeeps", fn := fun _ => fun
  | [d1, d2, d3, d4] => { results := [.lit (.bool true)], args := [d1, d2, d3, d4] }
  | _ => none }
def fnExactTrtKeepsRow : OpenClaim := { program := "ytkklkpoelkangaa", sum := "a9704b5eb8b928b2e70da0db5f7bd0207df2b3218174ba4aef81e235765e1a0f", func := "loop.example/concord/laws.FnExactTrtKeeps", spec := "fnExactTrtKeeps", unfollowed := true, recurses := true, apart := false }
def FnExactTrtKeepsSaid : Prop := fnExactTrtKeepsRow.holds Try.pinned (OpenSpec.ofChange fnExactTrtKeepsSpec)

/-- ITS FALSE NEIGHBOUR: 'it returns false'. Refute it at one input. -/
def fnExactTrtKeepsWrong : ChangeSpec := { name := "fnExactTrtKeeps", fn := fun _ => fun
  | [d1, d2, d3, d4] => { results := [.lit (.bool false)], args := [d1, d2, d3, d4] }
  | _ => none }
def FnExactTrtKeepsWrongFalsely : Prop := fnExactTrtKeepsRow.holds Try.pinned (OpenSpec.ofChange fnExactTrtKeepsWrong)

/-- 'laws.FnExactTrtAll': WHATEVER THE INPUT: true; the input reads as it did. -/
def fnExactTrtAllSpec : ChangeSpec := { name := "fnExactTrtAll", fn := fun _ => fun
  | [d1, d2, d3] => { results := [.lit (.bool true)], args := [d1, d2, d3] }
  | _ => none }
def fnExactTrtAllRow : OpenClaim := { program := "ytkklkpoelkangaa", sum := "a9704b5eb8b928b2e70da0db5f7bd0207df2b3218174ba4aef81e235765e1a0f", func := "loop.example/concord/laws.FnExactTrtAll", spec := "fnExactTrtAll", unfollowed := true, recurses := true, apart := false }
def FnExactTrtAllSaid : Prop := fnExactTrtAllRow.holds Try.pinned (OpenSpec.ofChange fnExactTrtAllSpec)

/-- ITS FALSE NEIGHBOUR: 'it returns false'. Refute it at one input. -/
def fnExactTrtAllWrong : ChangeSpec := { name := "fnExactTrtAll", fn := fun _ => fun
  | [d1, d2, d3] => { results := [.lit (.bool false)], args := [d1, d2, d3] }
  | _ => none }
def FnExactTrtAllWrongFalsely : Prop := fnExactTrtAllRow.holds Try.pinned (OpenSpec.ofChange fnExactTrtAllWrong)

/-- 'laws.FnExactRowOk': WHATEVER THE INPUT: true; the input reads as it did. -/
def fnExactRowOkSpec : ChangeSpec := { name := "fnExactRowOk", fn := fun _ => fun
  | [d] => { results := [.lit (.bool true)], args := [d] }
  | _ => none }
def fnExactRowOkRow : OpenClaim := { program := "ytkklkpoelkangaa", sum := "a9704b5eb8b928b2e70da0db5f7bd0207df2b3218174ba4aef81e235765e1a0f", func := "loop.example/concord/laws.FnExactRowOk", spec := "fnExactRowOk", unfollowed := true, recurses := true, apart := false }
def FnExactRowOkSaid : Prop := fnExactRowOkRow.holds Try.pinned (OpenSpec.ofChange fnExactRowOkSpec)

/-- ITS FALSE NEIGHBOUR: 'it returns false'. Refute it at one input. -/
def fnExactRowOkWrong : ChangeSpec := { name := "fnExactRowOk", fn := fun _ => fun
  | [d] => { results := [.lit (.bool false)], args := [d] }
  | _ => none }
def FnExactRowOkWrongFalsely : Prop := fnExactRowOkRow.holds Try.pinned (OpenSpec.ofChange fnExactRowOkWrong)

/-- 'laws.FnExactActOk': WHATEVER THE INPUT: true; the input reads as it did. -/
def fnExactActOkSpec : ChangeSpec := { name := "fnExactActOk", fn := fun _ => fun
  | [d] => { results := [.lit (.bool true)], args := [d] }
  | _ => none }
def fnExactActOkRow : OpenClaim := { program := "ytkklkpoelkangaa", sum := "a9704b5eb8b928b2e70da0db5f7bd0207df2b3218174ba4aef81e235765e1a0f", func := "loop.example/concord/laws.FnExactActOk", spec := "fnExactActOk", unfollowed := true, recurses := true, apart := false }
def FnExactActOkSaid : Prop := fnExactActOkRow.holds Try.pinned (OpenSpec.ofChange fnExactActOkSpec)

/-- ITS FALSE NEIGHBOUR: 'it returns false'. Refute it at one input. -/
def fnExactActOkWrong : ChangeSpec := { name := "fnExactActOk", fn := fun _ => fun
  | [d] => { results := [.lit (.bool false)], args := [d] }
  | _ => none }
def FnExactActOkWrongFalsely : Prop := fnExactActOkRow.holds Try.pinned (OpenSpec.ofChange fnExactActOkWrong)

/-- 'laws.FnExactRowFits': WHATEVER THE INPUT: true; the input reads as it did. -/
def fnExactRowFitsSpec : ChangeSpec := { name := "fnExactRowFits", fn := fun _ => fun
  | [d1, d2, d3] => { results := [.lit (.bool true)], args := [d1, d2, d3] }
  | _ => none }
def fnExactRowFitsRow : OpenClaim := { program := "ytkklkpoelkangaa", sum := "a9704b5eb8b928b2e70da0db5f7bd0207df2b3218174ba4aef81e235765e1a0f", func := "loop.example/concord/laws.FnExactRowFits", spec := "fnExactRowFits", unfollowed := true, recurses := true, apart := false }
def FnExactRowFitsSaid : Prop := fnExactRowFitsRow.holds Try.pinned (OpenSpec.ofChange fnExactRowFitsSpec)

/-- ITS FALSE NEIGHBOUR: 'it returns false'. Refute it at one input. -/
def fnExactRowFitsWrong : ChangeSpec := { name := "fnExactRowFits", fn := fun _ => fun
  | [d1, d2, d3] => { results := [.lit (.bool false)], args := [d1, d2, d3] }
  | _ => none }
def FnExactRowFitsWrongFalsely : Prop := fnExactRowFitsRow.holds Try.pinned (OpenSpec.ofChange fnExactRowFitsWrong)

/-- 'laws.FnExactCatOk': WHATEVER THE INPUT: true; the input reads as it did. -/
def fnExactCatOkSpec : ChangeSpec := { name := "fnExactCatOk", fn := fun _ => fun
  | [d] => { results := [.lit (.bool true)], args := [d] }
  | _ => none }
def fnExactCatOkRow : OpenClaim := { program := "ytkklkpoelkangaa", sum := "a9704b5eb8b928b2e70da0db5f7bd0207df2b3218174ba4aef81e235765e1a0f", func := "loop.example/concord/laws.FnExactCatOk", spec := "fnExactCatOk", unfollowed := true, recurses := true, apart := false }
def FnExactCatOkSaid : Prop := fnExactCatOkRow.holds Try.pinned (OpenSpec.ofChange fnExactCatOkSpec)

/-- ITS FALSE NEIGHBOUR: 'it returns false'. Refute it at one input. -/
def fnExactCatOkWrong : ChangeSpec := { name := "fnExactCatOk", fn := fun _ => fun
  | [d] => { results := [.lit (.bool false)], args := [d] }
  | _ => none }
def FnExactCatOkWrongFalsely : Prop := fnExactCatOkRow.holds Try.pinned (OpenSpec.ofChange fnExactCatOkWrong)

/-- 'laws.FnExactPlnOk': WHATEVER THE INPUT: true; the input reads as it did. -/
def fnExactPlnOkSpec : ChangeSpec := { name := "fnExactPlnOk", fn := fun _ => fun
  | [d] => { results := [.lit (.bool true)], args := [d] }
  | _ => none }
def fnExactPlnOkRow : OpenClaim := { program := "ytkklkpoelkangaa", sum := "a9704b5eb8b928b2e70da0db5f7bd0207df2b3218174ba4aef81e235765e1a0f", func := "loop.example/concord/laws.FnExactPlnOk", spec := "fnExactPlnOk", unfollowed := true, recurses := true, apart := false }
def FnExactPlnOkSaid : Prop := fnExactPlnOkRow.holds Try.pinned (OpenSpec.ofChange fnExactPlnOkSpec)

/-- ITS FALSE NEIGHBOUR: 'it returns false'. Refute it at one input. -/
def fnExactPlnOkWrong : ChangeSpec := { name := "fnExactPlnOk", fn := fun _ => fun
  | [d] => { results := [.lit (.bool false)], args := [d] }
  | _ => none }
def FnExactPlnOkWrongFalsely : Prop := fnExactPlnOkRow.holds Try.pinned (OpenSpec.ofChange fnExactPlnOkWrong)

/-- 'laws.FnExactTrtBounds': WHATEVER THE INPUT: true; the input reads as it did. -/
def fnExactTrtBoundsSpec : ChangeSpec := { name := "fnExactTrtBounds", fn := fun _ => fun
  | [d1, d2, d3, d4, d5, d6] => { results := [.lit (.bool true)], args := [d1, d2, d3, d4, d5, d6] }
  | _ => none }
def fnExactTrtBoundsRow : OpenClaim := { program := "ytkklkpoelkangaa", sum := "a9704b5eb8b928b2e70da0db5f7bd0207df2b3218174ba4aef81e235765e1a0f", func := "loop.example/concord/laws.FnExactTrtBounds", spec := "fnExactTrtBounds", unfollowed := true, recurses := true, apart := false }
def FnExactTrtBoundsSaid : Prop := fnExactTrtBoundsRow.holds Try.pinned (OpenSpec.ofChange fnExactTrtBoundsSpec)

/-- ITS FALSE NEIGHBOUR: 'it returns false'. Refute it at one input. -/
def fnExactTrtBoundsWrong : ChangeSpec := { name := "fnExactTrtBounds", fn := fun _ => fun
  | [d1, d2, d3, d4, d5, d6] => { results := [.lit (.bool false)], args := [d1, d2, d3, d4, d5, d6] }
  | _ => none }
def FnExactTrtBoundsWrongFalsely : Prop := fnExactTrtBoundsRow.holds Try.pinned (OpenSpec.ofChange fnExactTrtBoundsWrong)

/-- 'laws.FnExactPlnHome': WHATEVER THE INPUT: true; the input reads as it did. -/
def fnExactPlnHomeSpec : ChangeSpec := { name := "fnExactPlnHome", fn := fun _ => fun
  | [d1, d2] => { results := [.lit (.bool true)], args := [d1, d2] }
  | _ => none }
def fnExactPlnHomeRow : OpenClaim := { program := "ytkklkpoelkangaa", sum := "a9704b5eb8b928b2e70da0db5f7bd0207df2b3218174ba4aef81e235765e1a0f", func := "loop.example/concord/laws.FnExactPlnHome", spec := "fnExactPlnHome", unfollowed := true, recurses := true, apart := false }
def FnExactPlnHomeSaid : Prop := fnExactPlnHomeRow.holds Try.pinned (OpenSpec.ofChange fnExactPlnHomeSpec)

/-- ITS FALSE NEIGHBOUR: 'it returns false'. Refute it at one input. -/
def fnExactPlnHomeWrong : ChangeSpec := { name := "fnExactPlnHome", fn := fun _ => fun
  | [d1, d2] => { results := [.lit (.bool false)], args := [d1, d2] }
  | _ => none }
def FnExactPlnHomeWrongFalsely : Prop := fnExactPlnHomeRow.holds Try.pinned (OpenSpec.ofChange fnExactPlnHomeWrong)

/-- 'laws.FnExactRowDo': WHATEVER THE INPUT: true; the input reads as it did. -/
def fnExactRowDoSpec : ChangeSpec := { name := "fnExactRowDo", fn := fun _ => fun
  | [d1, d2, d3] => { results := [.lit (.bool true)], args := [d1, d2, d3] }
  | _ => none }
def fnExactRowDoRow : OpenClaim := { program := "ytkklkpoelkangaa", sum := "a9704b5eb8b928b2e70da0db5f7bd0207df2b3218174ba4aef81e235765e1a0f", func := "loop.example/concord/laws.FnExactRowDo", spec := "fnExactRowDo", unfollowed := true, recurses := true, apart := false }
def FnExactRowDoSaid : Prop := fnExactRowDoRow.holds Try.pinned (OpenSpec.ofChange fnExactRowDoSpec)

/-- ITS FALSE NEIGHBOUR: 'it returns false'. Refute it at one input. -/
def fnExactRowDoWrong : ChangeSpec := { name := "fnExactRowDo", fn := fun _ => fun
  | [d1, d2, d3] => { results := [.lit (.bool false)], args := [d1, d2, d3] }
  | _ => none }
def FnExactRowDoWrongFalsely : Prop := fnExactRowDoRow.holds Try.pinned (OpenSpec.ofChange fnExactRowDoWrong)

/- THE SECOND FORM. 'bulk': how many values and letters a reading holds, each counted each time it is reached (what is shared counts as often as it is met; a slice's spare places count too). A statement '..UptoSaid' is the law's where the arguments, and the package variables that the reading takes, are together of bulk at most 1048576: NARROWER than '..Said'. Prove '..Said' where nothing that the law and all that it calls make is longer than what came in: it says more and counts as full. Else prove '..UptoSaid'. A law counts once. -/
mutual
def uptoBulk {H : Type} : DataW H → Nat
  | .lit (.string bytes) => bytes.length + 1
  | .lit _ => 1
  | .nil => 1
  | .ptr d => uptoBulk d + 1
  | .slice elems spare => uptoBulkAll elems + uptoBulkAll spare + 1
  | .agg parts => uptoBulkAll parts + 1
  | .iface _ d => uptoBulk d + 1
  | .map entries => uptoBulkEntries entries + 1
  | .held _ => 1
def uptoBulkAll {H : Type} : List (DataW H) → Nat
  | [] => 0
  | d :: r => uptoBulk d + uptoBulkAll r
def uptoBulkEntries {H : Type} : List (Lit × DataW H) → Nat
  | [] => 0
  | x :: r => uptoBulkEntry x + uptoBulkEntries r
def uptoBulkEntry {H : Type} : Lit × DataW H → Nat
  | (.string bytes, d) => bytes.length + uptoBulk d + 1
  | (_, d) => uptoBulk d + 1
 end
def uptoSmall : (H : Type) → List (DataW H) → Bool := fun _ ds => decide (uptoBulkAll ds ≤ 1048576)
def OpenSpec.upto (s : _root_.Go.ChangeSpec) : _root_.Go.OpenSpec := { _root_.Go.OpenSpec.ofChange s with cond := some uptoSmall }

/-- 'laws.FnExactFrmAdd', WHERE WHAT IT READS IS OF BULK AT MOST 1048576: true; the input reads as it did. -/
def fnExactFrmAddUptoRow : OpenClaim := { program := "ytkklkpoelkangaa", sum := "a9704b5eb8b928b2e70da0db5f7bd0207df2b3218174ba4aef81e235765e1a0f", func := "loop.example/concord/laws.FnExactFrmAdd", spec := "fnExactFrmAdd", unfollowed := true, recurses := true, apart := false, narrowed := true }
def FnExactFrmAddUptoSaid : Prop := fnExactFrmAddUptoRow.holds Try.pinned (OpenSpec.upto fnExactFrmAddSpec)

/-- 'laws.FnExactFrmInto', WHERE WHAT IT READS IS OF BULK AT MOST 1048576: true; the input reads as it did. -/
def fnExactFrmIntoUptoRow : OpenClaim := { program := "ytkklkpoelkangaa", sum := "a9704b5eb8b928b2e70da0db5f7bd0207df2b3218174ba4aef81e235765e1a0f", func := "loop.example/concord/laws.FnExactFrmInto", spec := "fnExactFrmInto", unfollowed := true, recurses := true, apart := false, narrowed := true }
def FnExactFrmIntoUptoSaid : Prop := fnExactFrmIntoUptoRow.holds Try.pinned (OpenSpec.upto fnExactFrmIntoSpec)

/-- 'laws.FnExactTrtKeeps', WHERE WHAT IT READS IS OF BULK AT MOST 1048576: true; the input reads as it did. -/
def fnExactTrtKeepsUptoRow : OpenClaim := { program := "ytkklkpoelkangaa", sum := "a9704b5eb8b928b2e70da0db5f7bd0207df2b3218174ba4aef81e235765e1a0f", func := "loop.example/concord/laws.FnExactTrtKeeps", spec := "fnExactTrtKeeps", unfollowed := true, recurses := true, apart := false, narrowed := true }
def FnExactTrtKeepsUptoSaid : Prop := fnExactTrtKeepsUptoRow.holds Try.pinned (OpenSpec.upto fnExactTrtKeepsSpec)

/-- 'laws.FnExactTrtAll', WHERE WHAT IT READS IS OF BULK AT MOST 1048576: true; the input reads as it did. -/
def fnExactTrtAllUptoRow : OpenClaim := { program := "ytkklkpoelkangaa", sum := "a9704b5eb8b928b2e70da0db5f7bd0207df2b3218174ba4aef81e235765e1a0f", func := "loop.example/concord/laws.FnExactTrtAll", spec := "fnExactTrtAll", unfollowed := true, recurses := true, apart := false, narrowed := true }
def FnExactTrtAllUptoSaid : Prop := fnExactTrtAllUptoRow.holds Try.pinned (OpenSpec.upto fnExactTrtAllSpec)

/-- 'laws.FnExactRowOk', WHERE WHAT IT READS IS OF BULK AT MOST 1048576: true; the input reads as it did. -/
def fnExactRowOkUptoRow : OpenClaim := { program := "ytkklkpoelkangaa", sum := "a9704b5eb8b928b2e70da0db5f7bd0207df2b3218174ba4aef81e235765e1a0f", func := "loop.example/concord/laws.FnExactRowOk", spec := "fnExactRowOk", unfollowed := true, recurses := true, apart := false, narrowed := true }
def FnExactRowOkUptoSaid : Prop := fnExactRowOkUptoRow.holds Try.pinned (OpenSpec.upto fnExactRowOkSpec)

/-- 'laws.FnExactActOk', WHERE WHAT IT READS IS OF BULK AT MOST 1048576: true; the input reads as it did. -/
def fnExactActOkUptoRow : OpenClaim := { program := "ytkklkpoelkangaa", sum := "a9704b5eb8b928b2e70da0db5f7bd0207df2b3218174ba4aef81e235765e1a0f", func := "loop.example/concord/laws.FnExactActOk", spec := "fnExactActOk", unfollowed := true, recurses := true, apart := false, narrowed := true }
def FnExactActOkUptoSaid : Prop := fnExactActOkUptoRow.holds Try.pinned (OpenSpec.upto fnExactActOkSpec)

/-- 'laws.FnExactRowFits', WHERE WHAT IT READS IS OF BULK AT MOST 1048576: true; the input reads as it did. -/
def fnExactRowFitsUptoRow : OpenClaim := { program := "ytkklkpoelkangaa", sum := "a9704b5eb8b928b2e70da0db5f7bd0207df2b3218174ba4aef81e235765e1a0f", func := "loop.example/concord/laws.FnExactRowFits", spec := "fnExactRowFits", unfollowed := true, recurses := true, apart := false, narrowed := true }
def FnExactRowFitsUptoSaid : Prop := fnExactRowFitsUptoRow.holds Try.pinned (OpenSpec.upto fnExactRowFitsSpec)

/-- 'laws.FnExactCatOk', WHERE WHAT IT READS IS OF BULK AT MOST 1048576: true; the input reads as it did. -/
def fnExactCatOkUptoRow : OpenClaim := { program := "ytkklkpoelkangaa", sum := "a9704b5eb8b928b2e70da0db5f7bd0207df2b3218174ba4aef81e235765e1a0f", func := "loop.example/concord/laws.FnExactCatOk", spec := "fnExactCatOk", unfollowed := true, recurses := true, apart := false, narrowed := true }
def FnExactCatOkUptoSaid : Prop := fnExactCatOkUptoRow.holds Try.pinned (OpenSpec.upto fnExactCatOkSpec)

/-- 'laws.FnExactPlnOk', WHERE WHAT IT READS IS OF BULK AT MOST 1048576: true; the input reads as it did. -/
def fnExactPlnOkUptoRow : OpenClaim := { program := "ytkklkpoelkangaa", sum := "a9704b5eb8b928b2e70da0db5f7bd0207df2b3218174ba4aef81e235765e1a0f", func := "loop.example/concord/laws.FnExactPlnOk", spec := "fnExactPlnOk", unfollowed := true, recurses := true, apart := false, narrowed := true }
def FnExactPlnOkUptoSaid : Prop := fnExactPlnOkUptoRow.holds Try.pinned (OpenSpec.upto fnExactPlnOkSpec)

/-- 'laws.FnExactTrtBounds', WHERE WHAT IT READS IS OF BULK AT MOST 1048576: true; the input reads as it did. -/
def fnExactTrtBoundsUptoRow : OpenClaim := { program := "ytkklkpoelkangaa", sum := "a9704b5eb8b928b2e70da0db5f7bd0207df2b3218174ba4aef81e235765e1a0f", func := "loop.example/concord/laws.FnExactTrtBounds", spec := "fnExactTrtBounds", unfollowed := true, recurses := true, apart := false, narrowed := true }
def FnExactTrtBoundsUptoSaid : Prop := fnExactTrtBoundsUptoRow.holds Try.pinned (OpenSpec.upto fnExactTrtBoundsSpec)

/-- 'laws.FnExactPlnHome', WHERE WHAT IT READS IS OF BULK AT MOST 1048576: true; the input reads as it did. -/
def fnExactPlnHomeUptoRow : OpenClaim := { program := "ytkklkpoelkangaa", sum := "a9704b5eb8b928b2e70da0db5f7bd0207df2b3218174ba4aef81e235765e1a0f", func := "loop.example/concord/laws.FnExactPlnHome", spec := "fnExactPlnHome", unfollowed := true, recurses := true, apart := false, narrowed := true }
def FnExactPlnHomeUptoSaid : Prop := fnExactPlnHomeUptoRow.holds Try.pinned (OpenSpec.upto fnExactPlnHomeSpec)

/-- 'laws.FnExactRowDo', WHERE WHAT IT READS IS OF BULK AT MOST 1048576: true; the input reads as it did. -/
def fnExactRowDoUptoRow : OpenClaim := { program := "ytkklkpoelkangaa", sum := "a9704b5eb8b928b2e70da0db5f7bd0207df2b3218174ba4aef81e235765e1a0f", func := "loop.example/concord/laws.FnExactRowDo", spec := "fnExactRowDo", unfollowed := true, recurses := true, apart := false, narrowed := true }
def FnExactRowDoUptoSaid : Prop := fnExactRowDoUptoRow.holds Try.pinned (OpenSpec.upto fnExactRowDoSpec)

end Rows
end Go.Proofs.Ytkklkpoelkangaa
