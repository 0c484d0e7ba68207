/-
  DERIVED. GIVEN WITH THE SEED: THE CARDS: each row of YtefkmcjhgoagcaaGreatDoorRows.lean that lists a variable, with what it lists TIED to the program's text (the seventh form; the later family's looks); each row that meets fmt, with fmt's text TOLD by the authors' own Lean function (tested against real Go, not proved from fmt's source: count such statements apart). THE CARD IS WHAT COUNTS. Prove the row's statement (the work); the ties are given (YtefkmcjhgoagcaaGreatDoorTie.lean); close each card by the builder's one call (the guide's Derived/Test/ToyasCard.lean, 'card_holds'). Laid BY PROGRAM, IN A SANDBOX (cutbox-door.mjs). By AI agents, Wed Nov 11 2026. No macro, syntax, notation, axiom, sorry.
-/
import Derived.Test.YtefkmcjhgoagcaaGreatDoorRows
import GoSem.ClaimSeven
namespace Go.Proofs.YtefkmcjhgoagcaaGreatDoor
namespace Rows

/-- THE TIED CARD OF 'tenurekeep.WorldLasts'. -/
def worldLastsCard : Claim7 := { stood := { row := worldLastsRow, standIns := [], harness := (true, "651c45f48f2a737a33e1084bdb42e013ae4e1b19dccbb4754a3d29ac904f4e9c"), looks := true }, kinds := [], alts := [], laidByText := true, laidKinds := [.data, .data, .data, .data, .handle, .sentinel, .sentinel, .pinned, .pinned, .pinned, .pinned, .pinned, .pinned], laidTests := true, laidLooks := .later }
def WorldLastsCardSaid : Prop := Claim7.holds Tryz.pinned (.plain (OpenSpec.ofChange worldLastsSpec)) worldLastsCard

/-- THE SECOND FORM's CARD OF 'tenurekeep.WorldLasts'. -/
def worldLastsUptoCard : Claim7 := { stood := { row := worldLastsUptoRow, standIns := [], harness := (true, "651c45f48f2a737a33e1084bdb42e013ae4e1b19dccbb4754a3d29ac904f4e9c"), looks := true }, kinds := [], alts := [], laidByText := true, laidKinds := [.data, .data, .data, .data, .handle, .sentinel, .sentinel, .pinned, .pinned, .pinned, .pinned, .pinned, .pinned], laidTests := true, laidLooks := .later }
def WorldLastsUptoCardSaid : Prop := Claim7.holds Tryz.pinned (.plain (OpenSpec.upto worldLastsSpec)) worldLastsUptoCard
end Rows
end Go.Proofs.YtefkmcjhgoagcaaGreatDoor
