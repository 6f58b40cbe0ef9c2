/-
  No cell of these rows narrows 'for every input' (looked for: loops, veiled, ifaces, maps, wideKeys, modest, calm, conditions, laid).
  DERIVED. THE GIVEN ROWS OF THIS SEAT. 12 by the template 'for every input the law returns true; each argument reads behind the call as it read before'; 0 by the template 'total and deterministic' (their statements: YtgpncpabgojbfaaTotals.lean).
  GIVEN WITH THE SEED: the statements are not yours to turn. If you find one false, say at which input.
  Laid BY PROGRAM, IN A SANDBOX (cutbox-rows.mjs): the forced cells as the released guide's own fill.sh prints them over the translation c06efd29c1b6affb… (all of the seat's roots in one cut). By AI agents, Wed Nov 11 2026. No macro, syntax, notation, axiom, sorry.
-/
import Derived.Test.YtgpncpabgojbfaaChecked
import GoSem.Claim
import GoSem.ClaimJoined
import GoSem.ClaimMapViews
import Derived.JoinedTies
import Derived.KernelRfl
namespace Go.Proofs.Ytgpncpabgojbfaa
/- THE CELL 'sum', in the pinned program and in every row, IS THE sha256 OF THE DUMP (.gsa) THAT YtgpncpabgojbfaaProg.lean LOADS. Nothing in Lean hashes anything: it is a label: what it is worth is what the hold of that sum in a sandbox is worth. -/
noncomputable def Try.pinned : Pinned := { name := "ytgpncpabgojbfaa", sum := "c06efd29c1b6affbdc02a31c220c8a552c6417d9e48b9594be0e7504f5c0e9c5", checked := Try.checked }
namespace Rows
def none {H : Type} : Left H := { results := [], args := [] }

/-- 'laws.FnExactConstants': WHATEVER THE INPUT: true; the input reads as it did. -/
def fnExactConstantsSpec : ChangeSpec := { name := "fnExactConstants", fn := fun _ => fun
  | [] => { results := [.lit (.bool true)], args := [] }
  | _ => none }
def fnExactConstantsRow : OpenClaim := { program := "ytgpncpabgojbfaa", sum := "c06efd29c1b6affbdc02a31c220c8a552c6417d9e48b9594be0e7504f5c0e9c5", func := "loop.example/concord/laws.FnExactConstants", spec := "fnExactConstants", apart := false }
def FnExactConstantsSaid : Prop := fnExactConstantsRow.holds Try.pinned (OpenSpec.ofChange fnExactConstantsSpec)

/-- ITS FALSE NEIGHBOUR: 'it returns false'. Refute it at one input. -/
def fnExactConstantsWrong : ChangeSpec := { name := "fnExactConstants", fn := fun _ => fun
  | [] => { results := [.lit (.bool false)], args := [] }
  | _ => none }
def FnExactConstantsWrongFalsely : Prop := fnExactConstantsRow.holds Try.pinned (OpenSpec.ofChange fnExactConstantsWrong)

/-- 'laws.FnExactArgOk': WHATEVER THE INPUT: true; the input reads as it did. -/
def fnExactArgOkSpec : ChangeSpec := { name := "fnExactArgOk", fn := fun _ => fun
  | [d] => { results := [.lit (.bool true)], args := [d] }
  | _ => none }
def fnExactArgOkRow : OpenClaim := { program := "ytgpncpabgojbfaa", sum := "c06efd29c1b6affbdc02a31c220c8a552c6417d9e48b9594be0e7504f5c0e9c5", func := "loop.example/concord/laws.FnExactArgOk", spec := "fnExactArgOk", unfollowed := true, recurses := true, apart := false }
def FnExactArgOkSaid : Prop := fnExactArgOkRow.holds Try.pinned (OpenSpec.ofChange fnExactArgOkSpec)

/-- ITS FALSE NEIGHBOUR: 'it returns false'. Refute it at one input. -/
def fnExactArgOkWrong : ChangeSpec := { name := "fnExactArgOk", fn := fun _ => fun
  | [d] => { results := [.lit (.bool false)], args := [d] }
  | _ => none }
def FnExactArgOkWrongFalsely : Prop := fnExactArgOkRow.holds Try.pinned (OpenSpec.ofChange fnExactArgOkWrong)

/-- 'laws.FnExactValOk': WHATEVER THE INPUT: true; the input reads as it did. -/
def fnExactValOkSpec : ChangeSpec := { name := "fnExactValOk", fn := fun _ => fun
  | [d] => { results := [.lit (.bool true)], args := [d] }
  | _ => none }
def fnExactValOkRow : OpenClaim := { program := "ytgpncpabgojbfaa", sum := "c06efd29c1b6affbdc02a31c220c8a552c6417d9e48b9594be0e7504f5c0e9c5", func := "loop.example/concord/laws.FnExactValOk", spec := "fnExactValOk", unfollowed := true, recurses := true, apart := false }
def FnExactValOkSaid : Prop := fnExactValOkRow.holds Try.pinned (OpenSpec.ofChange fnExactValOkSpec)

/-- ITS FALSE NEIGHBOUR: 'it returns false'. Refute it at one input. -/
def fnExactValOkWrong : ChangeSpec := { name := "fnExactValOk", fn := fun _ => fun
  | [d] => { results := [.lit (.bool false)], args := [d] }
  | _ => none }
def FnExactValOkWrongFalsely : Prop := fnExactValOkRow.holds Try.pinned (OpenSpec.ofChange fnExactValOkWrong)

/-- 'laws.FnExactFrmZero': WHATEVER THE INPUT: true; the input reads as it did. -/
def fnExactFrmZeroSpec : ChangeSpec := { name := "fnExactFrmZero", fn := fun _ => fun
  | [] => { results := [.lit (.bool true)], args := [] }
  | _ => none }
def fnExactFrmZeroRow : OpenClaim := { program := "ytgpncpabgojbfaa", sum := "c06efd29c1b6affbdc02a31c220c8a552c6417d9e48b9594be0e7504f5c0e9c5", func := "loop.example/concord/laws.FnExactFrmZero", spec := "fnExactFrmZero", apart := false }
def FnExactFrmZeroSaid : Prop := fnExactFrmZeroRow.holds Try.pinned (OpenSpec.ofChange fnExactFrmZeroSpec)

/-- ITS FALSE NEIGHBOUR: 'it returns false'. Refute it at one input. -/
def fnExactFrmZeroWrong : ChangeSpec := { name := "fnExactFrmZero", fn := fun _ => fun
  | [] => { results := [.lit (.bool false)], args := [] }
  | _ => none }
def FnExactFrmZeroWrongFalsely : Prop := fnExactFrmZeroRow.holds Try.pinned (OpenSpec.ofChange fnExactFrmZeroWrong)

/-- 'laws.FnExactTrtOthers': WHATEVER THE INPUT: true; the input reads as it did. -/
def fnExactTrtOthersSpec : ChangeSpec := { name := "fnExactTrtOthers", fn := fun _ => fun
  | [d1, d2] => { results := [.lit (.bool true)], args := [d1, d2] }
  | _ => none }
def fnExactTrtOthersRow : OpenClaim := { program := "ytgpncpabgojbfaa", sum := "c06efd29c1b6affbdc02a31c220c8a552c6417d9e48b9594be0e7504f5c0e9c5", func := "loop.example/concord/laws.FnExactTrtOthers", spec := "fnExactTrtOthers", apart := false }
def FnExactTrtOthersSaid : Prop := fnExactTrtOthersRow.holds Try.pinned (OpenSpec.ofChange fnExactTrtOthersSpec)

/-- ITS FALSE NEIGHBOUR: 'it returns false'. Refute it at one input. -/
def fnExactTrtOthersWrong : ChangeSpec := { name := "fnExactTrtOthers", fn := fun _ => fun
  | [d1, d2] => { results := [.lit (.bool false)], args := [d1, d2] }
  | _ => none }
def FnExactTrtOthersWrongFalsely : Prop := fnExactTrtOthersRow.holds Try.pinned (OpenSpec.ofChange fnExactTrtOthersWrong)

/-- 'laws.FnExactFrmPot': WHATEVER THE INPUT: true; the input reads as it did. -/
def fnExactFrmPotSpec : ChangeSpec := { name := "fnExactFrmPot", fn := fun _ => fun
  | [d] => { results := [.lit (.bool true)], args := [d] }
  | _ => none }
def fnExactFrmPotRow : OpenClaim := { program := "ytgpncpabgojbfaa", sum := "c06efd29c1b6affbdc02a31c220c8a552c6417d9e48b9594be0e7504f5c0e9c5", func := "loop.example/concord/laws.FnExactFrmPot", spec := "fnExactFrmPot", apart := false }
def FnExactFrmPotSaid : Prop := fnExactFrmPotRow.holds Try.pinned (OpenSpec.ofChange fnExactFrmPotSpec)

/-- ITS FALSE NEIGHBOUR: 'it returns false'. Refute it at one input. -/
def fnExactFrmPotWrong : ChangeSpec := { name := "fnExactFrmPot", fn := fun _ => fun
  | [d] => { results := [.lit (.bool false)], args := [d] }
  | _ => none }
def FnExactFrmPotWrongFalsely : Prop := fnExactFrmPotRow.holds Try.pinned (OpenSpec.ofChange fnExactFrmPotWrong)

/-- 'laws.FnExactFrmOk': WHATEVER THE INPUT: true; the input reads as it did. -/
def fnExactFrmOkSpec : ChangeSpec := { name := "fnExactFrmOk", fn := fun _ => fun
  | [d] => { results := [.lit (.bool true)], args := [d] }
  | _ => none }
def fnExactFrmOkRow : OpenClaim := { program := "ytgpncpabgojbfaa", sum := "c06efd29c1b6affbdc02a31c220c8a552c6417d9e48b9594be0e7504f5c0e9c5", func := "loop.example/concord/laws.FnExactFrmOk", spec := "fnExactFrmOk", unfollowed := true, recurses := true, apart := false }
def FnExactFrmOkSaid : Prop := fnExactFrmOkRow.holds Try.pinned (OpenSpec.ofChange fnExactFrmOkSpec)

/-- ITS FALSE NEIGHBOUR: 'it returns false'. Refute it at one input. -/
def fnExactFrmOkWrong : ChangeSpec := { name := "fnExactFrmOk", fn := fun _ => fun
  | [d] => { results := [.lit (.bool false)], args := [d] }
  | _ => none }
def FnExactFrmOkWrongFalsely : Prop := fnExactFrmOkRow.holds Try.pinned (OpenSpec.ofChange fnExactFrmOkWrong)

/-- 'laws.FnExactCatHas': WHATEVER THE INPUT: true; the input reads as it did. -/
def fnExactCatHasSpec : ChangeSpec := { name := "fnExactCatHas", fn := fun _ => fun
  | [d1, d2] => { results := [.lit (.bool true)], args := [d1, d2] }
  | _ => none }
def fnExactCatHasRow : OpenClaim := { program := "ytgpncpabgojbfaa", sum := "c06efd29c1b6affbdc02a31c220c8a552c6417d9e48b9594be0e7504f5c0e9c5", func := "loop.example/concord/laws.FnExactCatHas", spec := "fnExactCatHas", unfollowed := true, recurses := true, apart := false }
def FnExactCatHasSaid : Prop := fnExactCatHasRow.holds Try.pinned (OpenSpec.ofChange fnExactCatHasSpec)

/-- ITS FALSE NEIGHBOUR: 'it returns false'. Refute it at one input. -/
def fnExactCatHasWrong : ChangeSpec := { name := "fnExactCatHas", fn := fun _ => fun
  | [d1, d2] => { results := [.lit (.bool false)], args := [d1, d2] }
  | _ => none }
def FnExactCatHasWrongFalsely : Prop := fnExactCatHasRow.holds Try.pinned (OpenSpec.ofChange fnExactCatHasWrong)

/-- 'laws.FnExactTrtOk': WHATEVER THE INPUT: true; the input reads as it did. -/
def fnExactTrtOkSpec : ChangeSpec := { name := "fnExactTrtOk", fn := fun _ => fun
  | [d] => { results := [.lit (.bool true)], args := [d] }
  | _ => none }
def fnExactTrtOkRow : OpenClaim := { program := "ytgpncpabgojbfaa", sum := "c06efd29c1b6affbdc02a31c220c8a552c6417d9e48b9594be0e7504f5c0e9c5", func := "loop.example/concord/laws.FnExactTrtOk", spec := "fnExactTrtOk", unfollowed := true, recurses := true, apart := false }
def FnExactTrtOkSaid : Prop := fnExactTrtOkRow.holds Try.pinned (OpenSpec.ofChange fnExactTrtOkSpec)

/-- ITS FALSE NEIGHBOUR: 'it returns false'. Refute it at one input. -/
def fnExactTrtOkWrong : ChangeSpec := { name := "fnExactTrtOk", fn := fun _ => fun
  | [d] => { results := [.lit (.bool false)], args := [d] }
  | _ => none }
def FnExactTrtOkWrongFalsely : Prop := fnExactTrtOkRow.holds Try.pinned (OpenSpec.ofChange fnExactTrtOkWrong)

/-- 'laws.FnExactCatPart': WHATEVER THE INPUT: true; the input reads as it did. -/
def fnExactCatPartSpec : ChangeSpec := { name := "fnExactCatPart", fn := fun _ => fun
  | [d] => { results := [.lit (.bool true)], args := [d] }
  | _ => none }
def fnExactCatPartRow : OpenClaim := { program := "ytgpncpabgojbfaa", sum := "c06efd29c1b6affbdc02a31c220c8a552c6417d9e48b9594be0e7504f5c0e9c5", func := "loop.example/concord/laws.FnExactCatPart", spec := "fnExactCatPart", unfollowed := true, recurses := true, apart := false }
def FnExactCatPartSaid : Prop := fnExactCatPartRow.holds Try.pinned (OpenSpec.ofChange fnExactCatPartSpec)

/-- ITS FALSE NEIGHBOUR: 'it returns false'. Refute it at one input. -/
def fnExactCatPartWrong : ChangeSpec := { name := "fnExactCatPart", fn := fun _ => fun
  | [d] => { results := [.lit (.bool false)], args := [d] }
  | _ => none }
def FnExactCatPartWrongFalsely : Prop := fnExactCatPartRow.holds Try.pinned (OpenSpec.ofChange fnExactCatPartWrong)

/-- 'laws.FnExactFrmAt': WHATEVER THE INPUT: true; the input reads as it did. -/
def fnExactFrmAtSpec : ChangeSpec := { name := "fnExactFrmAt", fn := fun _ => fun
  | [d1, d2, d3] => { results := [.lit (.bool true)], args := [d1, d2, d3] }
  | _ => none }
def fnExactFrmAtRow : OpenClaim := { program := "ytgpncpabgojbfaa", sum := "c06efd29c1b6affbdc02a31c220c8a552c6417d9e48b9594be0e7504f5c0e9c5", func := "loop.example/concord/laws.FnExactFrmAt", spec := "fnExactFrmAt", unfollowed := true, recurses := true, apart := false }
def FnExactFrmAtSaid : Prop := fnExactFrmAtRow.holds Try.pinned (OpenSpec.ofChange fnExactFrmAtSpec)

/-- ITS FALSE NEIGHBOUR: 'it returns false'. Refute it at one input. -/
def fnExactFrmAtWrong : ChangeSpec := { name := "fnExactFrmAt", fn := fun _ => fun
  | [d1, d2, d3] => { results := [.lit (.bool false)], args := [d1, d2, d3] }
  | _ => none }
def FnExactFrmAtWrongFalsely : Prop := fnExactFrmAtRow.holds Try.pinned (OpenSpec.ofChange fnExactFrmAtWrong)

/-- 'laws.FnExactFrmTimes': WHATEVER THE INPUT: true; the input reads as it did. -/
def fnExactFrmTimesSpec : ChangeSpec := { name := "fnExactFrmTimes", fn := fun _ => fun
  | [d1, d2] => { results := [.lit (.bool true)], args := [d1, d2] }
  | _ => none }
def fnExactFrmTimesRow : OpenClaim := { program := "ytgpncpabgojbfaa", sum := "c06efd29c1b6affbdc02a31c220c8a552c6417d9e48b9594be0e7504f5c0e9c5", func := "loop.example/concord/laws.FnExactFrmTimes", spec := "fnExactFrmTimes", unfollowed := true, recurses := true, apart := false }
def FnExactFrmTimesSaid : Prop := fnExactFrmTimesRow.holds Try.pinned (OpenSpec.ofChange fnExactFrmTimesSpec)

/-- ITS FALSE NEIGHBOUR: 'it returns false'. Refute it at one input. -/
def fnExactFrmTimesWrong : ChangeSpec := { name := "fnExactFrmTimes", fn := fun _ => fun
  | [d1, d2] => { results := [.lit (.bool false)], args := [d1, d2] }
  | _ => none }
def FnExactFrmTimesWrongFalsely : Prop := fnExactFrmTimesRow.holds Try.pinned (OpenSpec.ofChange fnExactFrmTimesWrong)

/- THE SECOND FORM. 'bulk': how many values and letters a reading holds, each counted each time it is reached (what is shared counts as often as it is met; a slice's spare places count too). A statement '..UptoSaid' is the law's where the arguments, and the package variables that the reading takes, are together of bulk at most 1048576: NARROWER than '..Said'. Prove '..Said' where nothing that the law and all that it calls make is longer than what came in: it says more and counts as full. Else prove '..UptoSaid'. A law counts once. -/
mutual
def uptoBulk {H : Type} : DataW H → Nat
  | .lit (.string bytes) => bytes.length + 1
  | .lit _ => 1
  | .nil => 1
  | .ptr d => uptoBulk d + 1
  | .slice elems spare => uptoBulkAll elems + uptoBulkAll spare + 1
  | .agg parts => uptoBulkAll parts + 1
  | .iface _ d => uptoBulk d + 1
  | .map entries => uptoBulkEntries entries + 1
  | .held _ => 1
def uptoBulkAll {H : Type} : List (DataW H) → Nat
  | [] => 0
  | d :: r => uptoBulk d + uptoBulkAll r
def uptoBulkEntries {H : Type} : List (Lit × DataW H) → Nat
  | [] => 0
  | x :: r => uptoBulkEntry x + uptoBulkEntries r
def uptoBulkEntry {H : Type} : Lit × DataW H → Nat
  | (.string bytes, d) => bytes.length + uptoBulk d + 1
  | (_, d) => uptoBulk d + 1
 end
def uptoSmall : (H : Type) → List (DataW H) → Bool := fun _ ds => decide (uptoBulkAll ds ≤ 1048576)
def OpenSpec.upto (s : _root_.Go.ChangeSpec) : _root_.Go.OpenSpec := { _root_.Go.OpenSpec.ofChange s with cond := some uptoSmall }

/-- 'laws.FnExactConstants', WHERE WHAT IT READS IS OF BULK AT MOST 1048576: true; the input reads as it did. -/
def fnExactConstantsUptoRow : OpenClaim := { program := "ytgpncpabgojbfaa", sum := "c06efd29c1b6affbdc02a31c220c8a552c6417d9e48b9594be0e7504f5c0e9c5", func := "loop.example/concord/laws.FnExactConstants", spec := "fnExactConstants", apart := false, narrowed := true }
def FnExactConstantsUptoSaid : Prop := fnExactConstantsUptoRow.holds Try.pinned (OpenSpec.upto fnExactConstantsSpec)

/-- 'laws.FnExactArgOk', WHERE WHAT IT READS IS OF BULK AT MOST 1048576: true; the input reads as it did. -/
def fnExactArgOkUptoRow : OpenClaim := { program := "ytgpncpabgojbfaa", sum := "c06efd29c1b6affbdc02a31c220c8a552c6417d9e48b9594be0e7504f5c0e9c5", func := "loop.example/concord/laws.FnExactArgOk", spec := "fnExactArgOk", unfollowed := true, recurses := true, apart := false, narrowed := true }
def FnExactArgOkUptoSaid : Prop := fnExactArgOkUptoRow.holds Try.pinned (OpenSpec.upto fnExactArgOkSpec)

/-- 'laws.FnExactValOk', WHERE WHAT IT READS IS OF BULK AT MOST 1048576: true; the input reads as it did. -/
def fnExactValOkUptoRow : OpenClaim := { program := "ytgpncpabgojbfaa", sum := "c06efd29c1b6affbdc02a31c220c8a552c6417d9e48b9594be0e7504f5c0e9c5", func := "loop.example/concord/laws.FnExactValOk", spec := "fnExactValOk", unfollowed := true, recurses := true, apart := false, narrowed := true }
def FnExactValOkUptoSaid : Prop := fnExactValOkUptoRow.holds Try.pinned (OpenSpec.upto fnExactValOkSpec)

/-- 'laws.FnExactFrmZero', WHERE WHAT IT READS IS OF BULK AT MOST 1048576: true; the input reads as it did. -/
def fnExactFrmZeroUptoRow : OpenClaim := { program := "ytgpncpabgojbfaa", sum := "c06efd29c1b6affbdc02a31c220c8a552c6417d9e48b9594be0e7504f5c0e9c5", func := "loop.example/concord/laws.FnExactFrmZero", spec := "fnExactFrmZero", apart := false, narrowed := true }
def FnExactFrmZeroUptoSaid : Prop := fnExactFrmZeroUptoRow.holds Try.pinned (OpenSpec.upto fnExactFrmZeroSpec)

/-- 'laws.FnExactTrtOthers', WHERE WHAT IT READS IS OF BULK AT MOST 1048576: true; the input reads as it did. -/
def fnExactTrtOthersUptoRow : OpenClaim := { program := "ytgpncpabgojbfaa", sum := "c06efd29c1b6affbdc02a31c220c8a552c6417d9e48b9594be0e7504f5c0e9c5", func := "loop.example/concord/laws.FnExactTrtOthers", spec := "fnExactTrtOthers", apart := false, narrowed := true }
def FnExactTrtOthersUptoSaid : Prop := fnExactTrtOthersUptoRow.holds Try.pinned (OpenSpec.upto fnExactTrtOthersSpec)

/-- 'laws.FnExactFrmPot', WHERE WHAT IT READS IS OF BULK AT MOST 1048576: true; the input reads as it did. -/
def fnExactFrmPotUptoRow : OpenClaim := { program := "ytgpncpabgojbfaa", sum := "c06efd29c1b6affbdc02a31c220c8a552c6417d9e48b9594be0e7504f5c0e9c5", func := "loop.example/concord/laws.FnExactFrmPot", spec := "fnExactFrmPot", apart := false, narrowed := true }
def FnExactFrmPotUptoSaid : Prop := fnExactFrmPotUptoRow.holds Try.pinned (OpenSpec.upto fnExactFrmPotSpec)

/-- 'laws.FnExactFrmOk', WHERE WHAT IT READS IS OF BULK AT MOST 1048576: true; the input reads as it did. -/
def fnExactFrmOkUptoRow : OpenClaim := { program := "ytgpncpabgojbfaa", sum := "c06efd29c1b6affbdc02a31c220c8a552c6417d9e48b9594be0e7504f5c0e9c5", func := "loop.example/concord/laws.FnExactFrmOk", spec := "fnExactFrmOk", unfollowed := true, recurses := true, apart := false, narrowed := true }
def FnExactFrmOkUptoSaid : Prop := fnExactFrmOkUptoRow.holds Try.pinned (OpenSpec.upto fnExactFrmOkSpec)

/-- 'laws.FnExactCatHas', WHERE WHAT IT READS IS OF BULK AT MOST 1048576: true; the input reads as it did. -/
def fnExactCatHasUptoRow : OpenClaim := { program := "ytgpncpabgojbfaa", sum := "c06efd29c1b6affbdc02a31c220c8a552c6417d9e48b9594be0e7504f5c0e9c5", func := "loop.example/concord/laws.FnExactCatHas", spec := "fnExactCatHas", unfollowed := true, recurses := true, apart := false, narrowed := true }
def FnExactCatHasUptoSaid : Prop := fnExactCatHasUptoRow.holds Try.pinned (OpenSpec.upto fnExactCatHasSpec)

/-- 'laws.FnExactTrtOk', WHERE WHAT IT READS IS OF BULK AT MOST 1048576: true; the input reads as it did. -/
def fnExactTrtOkUptoRow : OpenClaim := { program := "ytgpncpabgojbfaa", sum := "c06efd29c1b6affbdc02a31c220c8a552c6417d9e48b9594be0e7504f5c0e9c5", func := "loop.example/concord/laws.FnExactTrtOk", spec := "fnExactTrtOk", unfollowed := true, recurses := true, apart := false, narrowed := true }
def FnExactTrtOkUptoSaid : Prop := fnExactTrtOkUptoRow.holds Try.pinned (OpenSpec.upto fnExactTrtOkSpec)

/-- 'laws.FnExactCatPart', WHERE WHAT IT READS IS OF BULK AT MOST 1048576: true; the input reads as it did. -/
def fnExactCatPartUptoRow : OpenClaim := { program := "ytgpncpabgojbfaa", sum := "c06efd29c1b6affbdc02a31c220c8a552c6417d9e48b9594be0e7504f5c0e9c5", func := "loop.example/concord/laws.FnExactCatPart", spec := "fnExactCatPart", unfollowed := true, recurses := true, apart := false, narrowed := true }
def FnExactCatPartUptoSaid : Prop := fnExactCatPartUptoRow.holds Try.pinned (OpenSpec.upto fnExactCatPartSpec)

/-- 'laws.FnExactFrmAt', WHERE WHAT IT READS IS OF BULK AT MOST 1048576: true; the input reads as it did. -/
def fnExactFrmAtUptoRow : OpenClaim := { program := "ytgpncpabgojbfaa", sum := "c06efd29c1b6affbdc02a31c220c8a552c6417d9e48b9594be0e7504f5c0e9c5", func := "loop.example/concord/laws.FnExactFrmAt", spec := "fnExactFrmAt", unfollowed := true, recurses := true, apart := false, narrowed := true }
def FnExactFrmAtUptoSaid : Prop := fnExactFrmAtUptoRow.holds Try.pinned (OpenSpec.upto fnExactFrmAtSpec)

/-- 'laws.FnExactFrmTimes', WHERE WHAT IT READS IS OF BULK AT MOST 1048576: true; the input reads as it did. -/
def fnExactFrmTimesUptoRow : OpenClaim := { program := "ytgpncpabgojbfaa", sum := "c06efd29c1b6affbdc02a31c220c8a552c6417d9e48b9594be0e7504f5c0e9c5", func := "loop.example/concord/laws.FnExactFrmTimes", spec := "fnExactFrmTimes", unfollowed := true, recurses := true, apart := false, narrowed := true }
def FnExactFrmTimesUptoSaid : Prop := fnExactFrmTimesUptoRow.holds Try.pinned (OpenSpec.upto fnExactFrmTimesSpec)

end Rows
end Go.Proofs.Ytgpncpabgojbfaa
