/-
  No cell of these rows narrows 'for every input' (looked for: loops, veiled, ifaces, maps, wideKeys, modest, calm, conditions, laid).
  DERIVED. THE GIVEN ROWS OF THIS SEAT. 3 by the template 'for every input the law returns true; each argument reads behind the call as it read before'; 0 by the template 'total and deterministic' (their statements: YtcpaplcnebdocaaTotals.lean).
  GIVEN WITH THE SEED: the statements are not yours to turn. If you find one false, say at which input.
  Laid BY PROGRAM, IN A SANDBOX (cutbox-rows.mjs): the forced cells as the released guide's own fill.sh prints them over the translation a272f5ca1f762994… (all of the seat's roots in one cut). By AI agents, Wed Nov 11 2026. No macro, syntax, notation, axiom, sorry.
-/
import Derived.Test.YtcpaplcnebdocaaChecked
import GoSem.Claim
import GoSem.ClaimJoined
import GoSem.ClaimMapViews
import Derived.JoinedTies
import Derived.KernelRfl
namespace Go.Proofs.Ytcpaplcnebdocaa
/- THE CELL 'sum', in the pinned program and in every row, IS THE sha256 OF THE DUMP (.gsa) THAT YtcpaplcnebdocaaProg.lean LOADS. Nothing in Lean hashes anything: it is a label: what it is worth is what the hold of that sum in a sandbox is worth. -/
noncomputable def Try.pinned : Pinned := { name := "ytcpaplcnebdocaa", sum := "a272f5ca1f762994ae9ac528cff3e69124e10bf7fdb2448c32eab661a6d490f5", checked := Try.checked }
namespace Rows
def none {H : Type} : Left H := { results := [], args := [] }

/-- 'laws.FnRowFits': WHATEVER THE INPUT: true; the input reads as it did. -/
def fnRowFitsSpec : ChangeSpec := { name := "fnRowFits", fn := fun _ => fun
  | [d] => { results := [.lit (.bool true)], args := [d] }
  | _ => none }
def fnRowFitsRow : OpenClaim := { program := "ytcpaplcnebdocaa", sum := "a272f5ca1f762994ae9ac528cff3e69124e10bf7fdb2448c32eab661a6d490f5", func := "loop.example/concord/laws.FnRowFits", spec := "fnRowFits", unfollowed := true, recurses := true, apart := false }
def FnRowFitsSaid : Prop := fnRowFitsRow.holds Try.pinned (OpenSpec.ofChange fnRowFitsSpec)

/-- ITS FALSE NEIGHBOUR: 'it returns false'. Refute it at one input. -/
def fnRowFitsWrong : ChangeSpec := { name := "fnRowFits", fn := fun _ => fun
  | [d] => { results := [.lit (.bool false)], args := [d] }
  | _ => none }
def FnRowFitsWrongFalsely : Prop := fnRowFitsRow.holds Try.pinned (OpenSpec.ofChange fnRowFitsWrong)

/-- 'laws.FnRowDo': WHATEVER THE INPUT: true; the input reads as it did. -/
def fnRowDoSpec : ChangeSpec := { name := "fnRowDo", fn := fun _ => fun
  | [d] => { results := [.lit (.bool true)], args := [d] }
  | _ => none }
def fnRowDoRow : OpenClaim := { program := "ytcpaplcnebdocaa", sum := "a272f5ca1f762994ae9ac528cff3e69124e10bf7fdb2448c32eab661a6d490f5", func := "loop.example/concord/laws.FnRowDo", spec := "fnRowDo", unfollowed := true, recurses := true, apart := false }
def FnRowDoSaid : Prop := fnRowDoRow.holds Try.pinned (OpenSpec.ofChange fnRowDoSpec)

/-- ITS FALSE NEIGHBOUR: 'it returns false'. Refute it at one input. -/
def fnRowDoWrong : ChangeSpec := { name := "fnRowDo", fn := fun _ => fun
  | [d] => { results := [.lit (.bool false)], args := [d] }
  | _ => none }
def FnRowDoWrongFalsely : Prop := fnRowDoRow.holds Try.pinned (OpenSpec.ofChange fnRowDoWrong)

/-- 'laws.FnTrtKeeps': WHATEVER THE INPUT: true; the input reads as it did. -/
def fnTrtKeepsSpec : ChangeSpec := { name := "fnTrtKeeps", fn := fun _ => fun
  | [d] => { results := [.lit (.bool true)], args := [d] }
  | _ => none }
def fnTrtKeepsRow : OpenClaim := { program := "ytcpaplcnebdocaa", sum := "a272f5ca1f762994ae9ac528cff3e69124e10bf7fdb2448c32eab661a6d490f5", func := "loop.example/concord/laws.FnTrtKeeps", spec := "fnTrtKeeps", unfollowed := true, recurses := true, apart := false }
def FnTrtKeepsSaid : Prop := fnTrtKeepsRow.holds Try.pinned (OpenSpec.ofChange fnTrtKeepsSpec)

/-- ITS FALSE NEIGHBOUR: 'it returns false'. Refute it at one input. -/
def fnTrtKeepsWrong : ChangeSpec := { name := "fnTrtKeeps", fn := fun _ => fun
  | [d] => { results := [.lit (.bool false)], args := [d] }
  | _ => none }
def FnTrtKeepsWrongFalsely : Prop := fnTrtKeepsRow.holds Try.pinned (OpenSpec.ofChange fnTrtKeepsWrong)

/- THE SECOND FORM. 'bulk': how many values and letters a reading holds, each counted each time it is reached (what is shared counts as often as it is met; a slice's spare places count too). A statement '..UptoSaid' is the law's where the arguments, and the package variables that the reading takes, are together of bulk at most 1048576: NARROWER than '..Said'. Prove '..Said' where nothing that the law and all that it calls make is longer than what came in: it says more and counts as full. Else prove '..UptoSaid'. A law counts once. -/
mutual
def uptoBulk {H : Type} : DataW H → Nat
  | .lit (.string bytes) => bytes.length + 1
  | .lit _ => 1
  | .nil => 1
  | .ptr d => uptoBulk d + 1
  | .slice elems spare => uptoBulkAll elems + uptoBulkAll spare + 1
  | .agg parts => uptoBulkAll parts + 1
  | .iface _ d => uptoBulk d + 1
  | .map entries => uptoBulkEntries entries + 1
  | .held _ => 1
def uptoBulkAll {H : Type} : List (DataW H) → Nat
  | [] => 0
  | d :: r => uptoBulk d + uptoBulkAll r
def uptoBulkEntries {H : Type} : List (Lit × DataW H) → Nat
  | [] => 0
  | x :: r => uptoBulkEntry x + uptoBulkEntries r
def uptoBulkEntry {H : Type} : Lit × DataW H → Nat
  | (.string bytes, d) => bytes.length + uptoBulk d + 1
  | (_, d) => uptoBulk d + 1
 end
def uptoSmall : (H : Type) → List (DataW H) → Bool := fun _ ds => decide (uptoBulkAll ds ≤ 1048576)
def OpenSpec.upto (s : _root_.Go.ChangeSpec) : _root_.Go.OpenSpec := { _root_.Go.OpenSpec.ofChange s with cond := some uptoSmall }

/-- 'laws.FnRowFits', WHERE WHAT IT READS IS OF BULK AT MOST 1048576: true; the input reads as it did. -/
def fnRowFitsUptoRow : OpenClaim := { program := "ytcpaplcnebdocaa", sum := "a272f5ca1f762994ae9ac528cff3e69124e10bf7fdb2448c32eab661a6d490f5", func := "loop.example/concord/laws.FnRowFits", spec := "fnRowFits", unfollowed := true, recurses := true, apart := false, narrowed := true }
def FnRowFitsUptoSaid : Prop := fnRowFitsUptoRow.holds Try.pinned (OpenSpec.upto fnRowFitsSpec)

/-- 'laws.FnRowDo', WHERE WHAT IT READS IS OF BULK AT MOST 1048576: true; the input reads as it did. -/
def fnRowDoUptoRow : OpenClaim := { program := "ytcpaplcnebdocaa", sum := "a272f5ca1f762994ae9ac528cff3e69124e10bf7fdb2448c32eab661a6d490f5", func := "loop.example/concord/laws.FnRowDo", spec := "fnRowDo", unfollowed := true, recurses := true, apart := false, narrowed := true }
def FnRowDoUptoSaid : Prop := fnRowDoUptoRow.holds Try.pinned (OpenSpec.upto fnRowDoSpec)

/-- 'laws.FnTrtKeeps', WHERE WHAT IT READS IS OF BULK AT MOST 1048576: true; the input reads as it did. -/
def fnTrtKeepsUptoRow : OpenClaim := { program := "ytcpaplcnebdocaa", sum := "a272f5ca1f762994ae9ac528cff3e69124e10bf7fdb2448c32eab661a6d490f5", func := "loop.example/concord/laws.FnTrtKeeps", spec := "fnTrtKeeps", unfollowed := true, recurses := true, apart := false, narrowed := true }
def FnTrtKeepsUptoSaid : Prop := fnTrtKeepsUptoRow.holds Try.pinned (OpenSpec.upto fnTrtKeepsSpec)

end Rows
end Go.Proofs.Ytcpaplcnebdocaa
