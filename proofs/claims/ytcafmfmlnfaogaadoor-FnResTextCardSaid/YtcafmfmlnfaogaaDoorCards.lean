/-
  DERIVED. GIVEN WITH THE SEED: THE CARDS: each row of YtcafmfmlnfaogaaDoorRows.lean that lists a variable, with what it lists TIED to the program's text (the seventh form; the later family's looks); each row that meets fmt, with fmt's text TOLD by the authors' own Lean function (tested against real Go, not proved from fmt's source: count such statements apart). THE CARD IS WHAT COUNTS. Prove the row's statement (the work); the ties are given (YtcafmfmlnfaogaaDoorTie.lean); close each card by the builder's one call (the guide's Derived/Test/ToyasCard.lean, 'card_holds'). Laid BY PROGRAM, IN A SANDBOX (cutbox-door.mjs). By AI agents, Wed Nov 11 2026. No macro, syntax, notation, axiom, sorry.
-/
import Derived.Test.YtcafmfmlnfaogaaDoorRows
import GoSem.ClaimSeven
namespace Go.Proofs.YtcafmfmlnfaogaaDoor
namespace Rows

/-- THE TIED CARD OF 'laws.FnExactResText'. -/
def fnExactResTextCard : Claim7 := { stood := { row := fnExactResTextRow, standIns := [], harness := (true, "ac0c577b53eb7721f1d8c2c44da4f05588f1033c9fde8214cbdb2de3283f49ea"), looks := true }, kinds := [], alts := [], laidByText := true, laidKinds := [.data, .data, .data], laidTests := true, laidLooks := .later }
def FnExactResTextCardSaid : Prop := Claim7.holds Tryd.pinned (.plain (OpenSpec.ofChange fnExactResTextSpec)) fnExactResTextCard

/-- THE TIED CARD OF 'laws.FnExactResOk'. -/
def fnExactResOkCard : Claim7 := { stood := { row := fnExactResOkRow, standIns := [], harness := (true, "ac0c577b53eb7721f1d8c2c44da4f05588f1033c9fde8214cbdb2de3283f49ea"), looks := true }, kinds := [], alts := [], laidByText := true, laidKinds := [.data, .data, .data], laidTests := true, laidLooks := .later }
def FnExactResOkCardSaid : Prop := Claim7.holds Tryd.pinned (.plain (OpenSpec.ofChange fnExactResOkSpec)) fnExactResOkCard

/-- THE TIED CARD OF 'laws.FnExactResRead'. -/
def fnExactResReadCard : Claim7 := { stood := { row := fnExactResReadRow, standIns := [], harness := (true, "ac0c577b53eb7721f1d8c2c44da4f05588f1033c9fde8214cbdb2de3283f49ea"), looks := true }, kinds := [], alts := [], laidByText := true, laidKinds := [.data, .data, .data, .data, .sentinel, .sentinel, .pinned], laidTests := true, laidLooks := .later }
def FnExactResReadCardSaid : Prop := Claim7.holds Tryd.pinned (.plain (OpenSpec.ofChange fnExactResReadSpec)) fnExactResReadCard

/-- THE TIED CARD OF 'laws.FnResText'. -/
def fnResTextCard : Claim7 := { stood := { row := fnResTextRow, standIns := [], harness := (true, "ac0c577b53eb7721f1d8c2c44da4f05588f1033c9fde8214cbdb2de3283f49ea"), looks := true }, kinds := [], alts := [], laidByText := true, laidKinds := [.data, .data, .data, .data, .sentinel, .sentinel, .pinned], laidTests := true, laidLooks := .later }
def FnResTextCardSaid : Prop := Claim7.holds Tryd.pinned (.plain (OpenSpec.ofChange fnResTextSpec)) fnResTextCard

/-- THE SECOND FORM's CARD OF 'laws.FnExactResText'. -/
def fnExactResTextUptoCard : Claim7 := { stood := { row := fnExactResTextUptoRow, standIns := [], harness := (true, "ac0c577b53eb7721f1d8c2c44da4f05588f1033c9fde8214cbdb2de3283f49ea"), looks := true }, kinds := [], alts := [], laidByText := true, laidKinds := [.data, .data, .data], laidTests := true, laidLooks := .later }
def FnExactResTextUptoCardSaid : Prop := Claim7.holds Tryd.pinned (.plain (OpenSpec.upto fnExactResTextSpec)) fnExactResTextUptoCard

/-- THE SECOND FORM's CARD OF 'laws.FnExactResOk'. -/
def fnExactResOkUptoCard : Claim7 := { stood := { row := fnExactResOkUptoRow, standIns := [], harness := (true, "ac0c577b53eb7721f1d8c2c44da4f05588f1033c9fde8214cbdb2de3283f49ea"), looks := true }, kinds := [], alts := [], laidByText := true, laidKinds := [.data, .data, .data], laidTests := true, laidLooks := .later }
def FnExactResOkUptoCardSaid : Prop := Claim7.holds Tryd.pinned (.plain (OpenSpec.upto fnExactResOkSpec)) fnExactResOkUptoCard

/-- THE SECOND FORM's CARD OF 'laws.FnExactResRead'. -/
def fnExactResReadUptoCard : Claim7 := { stood := { row := fnExactResReadUptoRow, standIns := [], harness := (true, "ac0c577b53eb7721f1d8c2c44da4f05588f1033c9fde8214cbdb2de3283f49ea"), looks := true }, kinds := [], alts := [], laidByText := true, laidKinds := [.data, .data, .data, .data, .sentinel, .sentinel, .pinned], laidTests := true, laidLooks := .later }
def FnExactResReadUptoCardSaid : Prop := Claim7.holds Tryd.pinned (.plain (OpenSpec.upto fnExactResReadSpec)) fnExactResReadUptoCard

/-- THE SECOND FORM's CARD OF 'laws.FnResText'. -/
def fnResTextUptoCard : Claim7 := { stood := { row := fnResTextUptoRow, standIns := [], harness := (true, "ac0c577b53eb7721f1d8c2c44da4f05588f1033c9fde8214cbdb2de3283f49ea"), looks := true }, kinds := [], alts := [], laidByText := true, laidKinds := [.data, .data, .data, .data, .sentinel, .sentinel, .pinned], laidTests := true, laidLooks := .later }
def FnResTextUptoCardSaid : Prop := Claim7.holds Tryd.pinned (.plain (OpenSpec.upto fnResTextSpec)) fnResTextUptoCard
end Rows
end Go.Proofs.YtcafmfmlnfaogaaDoor
