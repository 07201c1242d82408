/-
  DERIVED. GIVEN WITH THE SEED: THE CARDS: each row of YtckliinakgffpaaGreatDoorRows.lean that lists a variable, with what it lists TIED to the program's text (the seventh form; the later family's looks); each row that meets fmt, with fmt's text TOLD by the authors' own Lean function (tested against real Go, not proved from fmt's source: count such statements apart). THE CARD IS WHAT COUNTS. Prove the row's statement (the work); the ties are given (YtckliinakgffpaaGreatDoorTie.lean); close each card by the builder's one call (the guide's Derived/Test/ToyasCard.lean, 'card_holds'). Laid BY PROGRAM, IN A SANDBOX (cutbox-door.mjs). By AI agents, Wed Nov 11 2026. No macro, syntax, notation, axiom, sorry.
-/
import Derived.Test.YtckliinakgffpaaGreatDoorRows
import GoSem.ClaimSeven
namespace Go.Proofs.YtckliinakgffpaaGreatDoor
namespace Rows

/-- THE TIED CARD OF 'vestrylaw17.DigestShort'. -/
def digestShortCard : Claim7 := { stood := { row := digestShortRow, standIns := [], harness := (true, "98c1c74a36cb717af3d7b841b758bf845460289c81945c1083f9d62fe84d0915"), looks := false }, kinds := [], alts := [], laidByText := true, laidKinds := [.data, .widerDeep], laidTests := true, laidLooks := .later }
def DigestShortCardSaid : Prop := Claim7.holds Tryz.pinned (.plain (OpenSpec.ofChange digestShortSpec)) digestShortCard

/-- THE SECOND FORM's CARD OF 'vestrylaw17.DigestShort'. -/
def digestShortUptoCard : Claim7 := { stood := { row := digestShortUptoRow, standIns := [], harness := (true, "98c1c74a36cb717af3d7b841b758bf845460289c81945c1083f9d62fe84d0915"), looks := false }, kinds := [], alts := [], laidByText := true, laidKinds := [.data, .widerDeep], laidTests := true, laidLooks := .later }
def DigestShortUptoCardSaid : Prop := Claim7.holds Tryz.pinned (.plain (OpenSpec.upto digestShortSpec)) digestShortUptoCard
end Rows
end Go.Proofs.YtckliinakgffpaaGreatDoor
