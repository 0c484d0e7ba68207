/-
  DERIVED. GIVEN WITH THE SEED: THE CARDS: each row of YtjhdaojclilakaaGreatDoorRows.lean that lists a variable, with what it lists TIED to the program's text (the seventh form; the later family's looks); each row that meets fmt, with fmt's text TOLD by the authors' own Lean function (tested against real Go, not proved from fmt's source: count such statements apart). THE CARD IS WHAT COUNTS. Prove the row's statement (the work); the ties are given (YtjhdaojclilakaaGreatDoorTie.lean); close each card by the builder's one call (the guide's Derived/Test/ToyasCard.lean, 'card_holds'). Laid BY PROGRAM, IN A SANDBOX (cutbox-door.mjs). By AI agents, Wed Nov 11 2026. No macro, syntax, notation, axiom, sorry.
-/
import Derived.Test.YtjhdaojclilakaaGreatDoorRows
import GoSem.ClaimSeven
namespace Go.Proofs.YtjhdaojclilakaaGreatDoor
namespace Rows

/-- THE TIED CARD OF 'tenurekeep.WorldCalm'. -/
def worldCalmCard : Claim7 := { stood := { row := worldCalmRow, standIns := [], harness := (true, "0d9b6dadb58e7af5e64c141c1a66f8d6cf106b964046f04849e09e2a444518c9"), looks := true }, kinds := [], alts := [], laidByText := true, laidKinds := [.data, .data, .data, .data, .handle, .sentinel, .sentinel, .pinned, .pinned, .pinned, .pinned, .pinned, .pinned], laidTests := true, laidLooks := .later }
def WorldCalmCardSaid : Prop := Claim7.holds Tryz.pinned (.plain (OpenSpec.ofChange worldCalmSpec)) worldCalmCard

/-- THE SECOND FORM's CARD OF 'tenurekeep.WorldCalm'. -/
def worldCalmUptoCard : Claim7 := { stood := { row := worldCalmUptoRow, standIns := [], harness := (true, "0d9b6dadb58e7af5e64c141c1a66f8d6cf106b964046f04849e09e2a444518c9"), looks := true }, kinds := [], alts := [], laidByText := true, laidKinds := [.data, .data, .data, .data, .handle, .sentinel, .sentinel, .pinned, .pinned, .pinned, .pinned, .pinned, .pinned], laidTests := true, laidLooks := .later }
def WorldCalmUptoCardSaid : Prop := Claim7.holds Tryz.pinned (.plain (OpenSpec.upto worldCalmSpec)) worldCalmUptoCard
end Rows
end Go.Proofs.YtjhdaojclilakaaGreatDoor
