/-
  No cell of these rows narrows 'for every input' (looked for: loops, veiled, ifaces, maps, wideKeys, modest, calm, conditions, laid).
  DERIVED. THE GIVEN ROWS OF THIS SEAT. 3 by the template 'for every input the law returns true; each argument reads behind the call as it read before'; 0 by the template 'total and deterministic' (their statements: YtgalnmgkcdmnkaaTotals.lean).
  GIVEN WITH THE SEED: the statements are not yours to turn. If you find one false, say at which input.
  Laid BY PROGRAM, IN A SANDBOX (cutbox-rows.mjs): the forced cells as the released guide's own fill.sh prints them over the translation 445ecdb05df9d44b… (all of the seat's roots in one cut). By AI agents, Wed Nov 11 2026. No macro, syntax, notation, axiom, sorry.
-/
import Derived.Test.YtgalnmgkcdmnkaaChecked
import GoSem.Claim
import GoSem.ClaimJoined
import GoSem.ClaimMapViews
import Derived.JoinedTies
import Derived.KernelRfl
namespace Go.Proofs.Ytgalnmgkcdmnkaa
/- THE CELL 'sum', in the pinned program and in every row, IS THE sha256 OF THE DUMP (.gsa) THAT YtgalnmgkcdmnkaaProg.lean LOADS. Nothing in Lean hashes anything: it is a label: what it is worth is what the hold of that sum in a sandbox is worth. -/
noncomputable def Try.pinned : Pinned := { name := "ytgalnmgkcdmnkaa", sum := "445ecdb05df9d44b7fc3fc62074559ea2da42de5c5a00f3f1d265ae7b4acee12", checked := Try.checked }
namespace Rows
def none {H : Type} : Left H := { results := [], args := [] }

/-- 'laws.FnPlnHome': WHATEVER THE INPUT: true; the input reads as it did. -/
def fnPlnHomeSpec : ChangeSpec := { name := "fnPlnHome", fn := fun _ => fun
  | [d] => { results := [.lit (.bool true)], args := [d] }
  | _ => none }
def fnPlnHomeRow : OpenClaim := { program := "ytgalnmgkcdmnkaa", sum := "445ecdb05df9d44b7fc3fc62074559ea2da42de5c5a00f3f1d265ae7b4acee12", func := "loop.example/concord/laws.FnPlnHome", spec := "fnPlnHome", unfollowed := true, recurses := true, apart := false }
def FnPlnHomeSaid : Prop := fnPlnHomeRow.holds Try.pinned (OpenSpec.ofChange fnPlnHomeSpec)

/-- ITS FALSE NEIGHBOUR: 'it returns false'. Refute it at one input. -/
def fnPlnHomeWrong : ChangeSpec := { name := "fnPlnHome", fn := fun _ => fun
  | [d] => { results := [.lit (.bool false)], args := [d] }
  | _ => none }
def FnPlnHomeWrongFalsely : Prop := fnPlnHomeRow.holds Try.pinned (OpenSpec.ofChange fnPlnHomeWrong)

/-- 'laws.FnActSkip': WHATEVER THE INPUT: true; the input reads as it did. -/
def fnActSkipSpec : ChangeSpec := { name := "fnActSkip", fn := fun _ => fun
  | [d] => { results := [.lit (.bool true)], args := [d] }
  | _ => none }
def fnActSkipRow : OpenClaim := { program := "ytgalnmgkcdmnkaa", sum := "445ecdb05df9d44b7fc3fc62074559ea2da42de5c5a00f3f1d265ae7b4acee12", func := "loop.example/concord/laws.FnActSkip", spec := "fnActSkip", unfollowed := true, recurses := true, apart := false }
def FnActSkipSaid : Prop := fnActSkipRow.holds Try.pinned (OpenSpec.ofChange fnActSkipSpec)

/-- ITS FALSE NEIGHBOUR: 'it returns false'. Refute it at one input. -/
def fnActSkipWrong : ChangeSpec := { name := "fnActSkip", fn := fun _ => fun
  | [d] => { results := [.lit (.bool false)], args := [d] }
  | _ => none }
def FnActSkipWrongFalsely : Prop := fnActSkipRow.holds Try.pinned (OpenSpec.ofChange fnActSkipWrong)

/-- 'laws.FnActStop': WHATEVER THE INPUT: true; the input reads as it did. -/
def fnActStopSpec : ChangeSpec := { name := "fnActStop", fn := fun _ => fun
  | [d] => { results := [.lit (.bool true)], args := [d] }
  | _ => none }
def fnActStopRow : OpenClaim := { program := "ytgalnmgkcdmnkaa", sum := "445ecdb05df9d44b7fc3fc62074559ea2da42de5c5a00f3f1d265ae7b4acee12", func := "loop.example/concord/laws.FnActStop", spec := "fnActStop", unfollowed := true, recurses := true, apart := false }
def FnActStopSaid : Prop := fnActStopRow.holds Try.pinned (OpenSpec.ofChange fnActStopSpec)

/-- ITS FALSE NEIGHBOUR: 'it returns false'. Refute it at one input. -/
def fnActStopWrong : ChangeSpec := { name := "fnActStop", fn := fun _ => fun
  | [d] => { results := [.lit (.bool false)], args := [d] }
  | _ => none }
def FnActStopWrongFalsely : Prop := fnActStopRow.holds Try.pinned (OpenSpec.ofChange fnActStopWrong)

/- THE SECOND FORM. 'bulk': how many values and letters a reading holds, each counted each time it is reached (what is shared counts as often as it is met; a slice's spare places count too). A statement '..UptoSaid' is the law's where the arguments, and the package variables that the reading takes, are together of bulk at most 1048576: NARROWER than '..Said'. Prove '..Said' where nothing that the law and all that it calls make is longer than what came in: it says more and counts as full. Else prove '..UptoSaid'. A law counts once. -/
mutual
def uptoBulk {H : Type} : DataW H → Nat
  | .lit (.string bytes) => bytes.length + 1
  | .lit _ => 1
  | .nil => 1
  | .ptr d => uptoBulk d + 1
  | .slice elems spare => uptoBulkAll elems + uptoBulkAll spare + 1
  | .agg parts => uptoBulkAll parts + 1
  | .iface _ d => uptoBulk d + 1
  | .map entries => uptoBulkEntries entries + 1
  | .held _ => 1
def uptoBulkAll {H : Type} : List (DataW H) → Nat
  | [] => 0
  | d :: r => uptoBulk d + uptoBulkAll r
def uptoBulkEntries {H : Type} : List (Lit × DataW H) → Nat
  | [] => 0
  | x :: r => uptoBulkEntry x + uptoBulkEntries r
def uptoBulkEntry {H : Type} : Lit × DataW H → Nat
  | (.string bytes, d) => bytes.length + uptoBulk d + 1
  | (_, d) => uptoBulk d + 1
 end
def uptoSmall : (H : Type) → List (DataW H) → Bool := fun _ ds => decide (uptoBulkAll ds ≤ 1048576)
def OpenSpec.upto (s : _root_.Go.ChangeSpec) : _root_.Go.OpenSpec := { _root_.Go.OpenSpec.ofChange s with cond := some uptoSmall }

/-- 'laws.FnPlnHome', WHERE WHAT IT READS IS OF BULK AT MOST 1048576: true; the input reads as it did. -/
def fnPlnHomeUptoRow : OpenClaim := { program := "ytgalnmgkcdmnkaa", sum := "445ecdb05df9d44b7fc3fc62074559ea2da42de5c5a00f3f1d265ae7b4acee12", func := "loop.example/concord/laws.FnPlnHome", spec := "fnPlnHome", unfollowed := true, recurses := true, apart := false, narrowed := true }
def FnPlnHomeUptoSaid : Prop := fnPlnHomeUptoRow.holds Try.pinned (OpenSpec.upto fnPlnHomeSpec)

/-- 'laws.FnActSkip', WHERE WHAT IT READS IS OF BULK AT MOST 1048576: true; the input reads as it did. -/
def fnActSkipUptoRow : OpenClaim := { program := "ytgalnmgkcdmnkaa", sum := "445ecdb05df9d44b7fc3fc62074559ea2da42de5c5a00f3f1d265ae7b4acee12", func := "loop.example/concord/laws.FnActSkip", spec := "fnActSkip", unfollowed := true, recurses := true, apart := false, narrowed := true }
def FnActSkipUptoSaid : Prop := fnActSkipUptoRow.holds Try.pinned (OpenSpec.upto fnActSkipSpec)

/-- 'laws.FnActStop', WHERE WHAT IT READS IS OF BULK AT MOST 1048576: true; the input reads as it did. -/
def fnActStopUptoRow : OpenClaim := { program := "ytgalnmgkcdmnkaa", sum := "445ecdb05df9d44b7fc3fc62074559ea2da42de5c5a00f3f1d265ae7b4acee12", func := "loop.example/concord/laws.FnActStop", spec := "fnActStop", unfollowed := true, recurses := true, apart := false, narrowed := true }
def FnActStopUptoSaid : Prop := fnActStopUptoRow.holds Try.pinned (OpenSpec.upto fnActStopSpec)

end Rows
end Go.Proofs.Ytgalnmgkcdmnkaa
