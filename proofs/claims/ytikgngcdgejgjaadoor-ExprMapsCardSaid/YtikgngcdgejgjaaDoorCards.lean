/-
  DERIVED. GIVEN WITH THE SEED: THE CARDS: each row of YtikgngcdgejgjaaDoorRows.lean that lists a variable, with what it lists TIED to the program's text (the seventh form; the later family's looks); each row that meets fmt, with fmt's text TOLD by the authors' own Lean function (tested against real Go, not proved from fmt's source: count such statements apart). THE CARD IS WHAT COUNTS. Prove the row's statement (the work); the ties are given (YtikgngcdgejgjaaDoorTie.lean); close each card by the builder's one call (the guide's Derived/Test/ToyasCard.lean, 'card_holds'). Laid BY PROGRAM, IN A SANDBOX (cutbox-door.mjs). By AI agents, Wed Nov 11 2026. No macro, syntax, notation, axiom, sorry.
-/
import Derived.Test.YtikgngcdgejgjaaDoorRows
import GoSem.ClaimSeven
namespace Go.Proofs.YtikgngcdgejgjaaDoor
namespace Rows

/-- THE TIED CARD OF 'vestrylaw10.ExprMatchesReference'. -/
def exprMatchesReferenceCard : Claim7 := { stood := { row := exprMatchesReferenceRow, standIns := [], harness := (true, "a0196e4b3da9032620d9782b4562afbf26f94e6f54ee5003608fd1ffa09033c2"), looks := false }, kinds := [], alts := [], laidByText := true, laidKinds := [.widerDeep], laidTests := true, laidLooks := .later }
def ExprMatchesReferenceCardSaid : Prop := Claim7.holds Tryd.pinned (.plain (OpenSpec.ofChange exprMatchesReferenceSpec)) exprMatchesReferenceCard

/-- THE TIED CARD OF 'vestrylaw10.ExprCompares'. -/
def exprComparesCard : Claim7 := { stood := { row := exprComparesRow, standIns := [], harness := (true, "a0196e4b3da9032620d9782b4562afbf26f94e6f54ee5003608fd1ffa09033c2"), looks := false }, kinds := [], alts := [], laidByText := true, laidKinds := [.widerDeep], laidTests := true, laidLooks := .later }
def ExprComparesCardSaid : Prop := Claim7.holds Tryd.pinned (.plain (OpenSpec.ofChange exprComparesSpec)) exprComparesCard

/-- THE TIED CARD OF 'vestrylaw10.ExprTexts'. -/
def exprTextsCard : Claim7 := { stood := { row := exprTextsRow, standIns := [], harness := (true, "a0196e4b3da9032620d9782b4562afbf26f94e6f54ee5003608fd1ffa09033c2"), looks := false }, kinds := [], alts := [], laidByText := true, laidKinds := [.widerDeep], laidTests := true, laidLooks := .later }
def ExprTextsCardSaid : Prop := Claim7.holds Tryd.pinned (.plain (OpenSpec.ofChange exprTextsSpec)) exprTextsCard

/-- THE TIED CARD OF 'vestrylaw10.ExprLeaves'. -/
def exprLeavesCard : Claim7 := { stood := { row := exprLeavesRow, standIns := [], harness := (true, "a0196e4b3da9032620d9782b4562afbf26f94e6f54ee5003608fd1ffa09033c2"), looks := false }, kinds := [], alts := [], laidByText := true, laidKinds := [.widerDeep], laidTests := true, laidLooks := .later }
def ExprLeavesCardSaid : Prop := Claim7.holds Tryd.pinned (.plain (OpenSpec.ofChange exprLeavesSpec)) exprLeavesCard

/-- THE TIED CARD OF 'vestrylaw10.ExprMaps'. -/
def exprMapsCard : Claim7 := { stood := { row := exprMapsRow, standIns := [], harness := (true, "a0196e4b3da9032620d9782b4562afbf26f94e6f54ee5003608fd1ffa09033c2"), looks := false }, kinds := [], alts := [], laidByText := true, laidKinds := [.widerDeep], laidTests := true, laidLooks := .later }
def ExprMapsCardSaid : Prop := Claim7.holds Tryd.pinned (.plain (OpenSpec.ofChange exprMapsSpec)) exprMapsCard

/-- THE SECOND FORM's CARD OF 'vestrylaw10.ExprMatchesReference'. -/
def exprMatchesReferenceUptoCard : Claim7 := { stood := { row := exprMatchesReferenceUptoRow, standIns := [], harness := (true, "a0196e4b3da9032620d9782b4562afbf26f94e6f54ee5003608fd1ffa09033c2"), looks := false }, kinds := [], alts := [], laidByText := true, laidKinds := [.widerDeep], laidTests := true, laidLooks := .later }
def ExprMatchesReferenceUptoCardSaid : Prop := Claim7.holds Tryd.pinned (.plain (OpenSpec.upto exprMatchesReferenceSpec)) exprMatchesReferenceUptoCard

/-- THE SECOND FORM's CARD OF 'vestrylaw10.ExprCompares'. -/
def exprComparesUptoCard : Claim7 := { stood := { row := exprComparesUptoRow, standIns := [], harness := (true, "a0196e4b3da9032620d9782b4562afbf26f94e6f54ee5003608fd1ffa09033c2"), looks := false }, kinds := [], alts := [], laidByText := true, laidKinds := [.widerDeep], laidTests := true, laidLooks := .later }
def ExprComparesUptoCardSaid : Prop := Claim7.holds Tryd.pinned (.plain (OpenSpec.upto exprComparesSpec)) exprComparesUptoCard

/-- THE SECOND FORM's CARD OF 'vestrylaw10.ExprTexts'. -/
def exprTextsUptoCard : Claim7 := { stood := { row := exprTextsUptoRow, standIns := [], harness := (true, "a0196e4b3da9032620d9782b4562afbf26f94e6f54ee5003608fd1ffa09033c2"), looks := false }, kinds := [], alts := [], laidByText := true, laidKinds := [.widerDeep], laidTests := true, laidLooks := .later }
def ExprTextsUptoCardSaid : Prop := Claim7.holds Tryd.pinned (.plain (OpenSpec.upto exprTextsSpec)) exprTextsUptoCard

/-- THE SECOND FORM's CARD OF 'vestrylaw10.ExprLeaves'. -/
def exprLeavesUptoCard : Claim7 := { stood := { row := exprLeavesUptoRow, standIns := [], harness := (true, "a0196e4b3da9032620d9782b4562afbf26f94e6f54ee5003608fd1ffa09033c2"), looks := false }, kinds := [], alts := [], laidByText := true, laidKinds := [.widerDeep], laidTests := true, laidLooks := .later }
def ExprLeavesUptoCardSaid : Prop := Claim7.holds Tryd.pinned (.plain (OpenSpec.upto exprLeavesSpec)) exprLeavesUptoCard

/-- THE SECOND FORM's CARD OF 'vestrylaw10.ExprMaps'. -/
def exprMapsUptoCard : Claim7 := { stood := { row := exprMapsUptoRow, standIns := [], harness := (true, "a0196e4b3da9032620d9782b4562afbf26f94e6f54ee5003608fd1ffa09033c2"), looks := false }, kinds := [], alts := [], laidByText := true, laidKinds := [.widerDeep], laidTests := true, laidLooks := .later }
def ExprMapsUptoCardSaid : Prop := Claim7.holds Tryd.pinned (.plain (OpenSpec.upto exprMapsSpec)) exprMapsUptoCard
end Rows
end Go.Proofs.YtikgngcdgejgjaaDoor
