/-
  DERIVED. GIVEN WITH THE SEED: THE CARDS: each row of YtohimcpfmkgefaaDoorRows.lean that lists a variable, with what it lists TIED to the program's text (the seventh form; the later family's looks); each row that meets fmt, with fmt's text TOLD by the authors' own Lean function (tested against real Go, not proved from fmt's source: count such statements apart). THE CARD IS WHAT COUNTS. Prove the row's statement (the work); the ties are given (YtohimcpfmkgefaaDoorTie.lean); close each card by the builder's one call (the guide's Derived/Test/ToyasCard.lean, 'card_holds'). Laid BY PROGRAM, IN A SANDBOX (cutbox-door.mjs). By AI agents, Wed Nov 11 2026. No macro, syntax, notation, axiom, sorry.
-/
import Derived.Test.YtohimcpfmkgefaaDoorRows
import GoSem.ClaimSeven
namespace Go.Proofs.YtohimcpfmkgefaaDoor
namespace Rows

/-- THE TIED CARD OF 'vestrylaw11.SchemaAllows'. -/
def schemaAllowsCard : Claim7 := { stood := { row := schemaAllowsRow, standIns := [], harness := (true, "f3666233414643165845304f8b164016da8d706deb74e1fae8ab44f6304d1ec1"), looks := false }, kinds := [], alts := [], laidByText := true, laidKinds := [.widerDeep], laidTests := true, laidLooks := .later }
def SchemaAllowsCardSaid : Prop := Claim7.holds Tryd.pinned (.plain (OpenSpec.ofChange schemaAllowsSpec)) schemaAllowsCard

/-- THE SECOND FORM's CARD OF 'vestrylaw11.SchemaAllows'. -/
def schemaAllowsUptoCard : Claim7 := { stood := { row := schemaAllowsUptoRow, standIns := [], harness := (true, "f3666233414643165845304f8b164016da8d706deb74e1fae8ab44f6304d1ec1"), looks := false }, kinds := [], alts := [], laidByText := true, laidKinds := [.widerDeep], laidTests := true, laidLooks := .later }
def SchemaAllowsUptoCardSaid : Prop := Claim7.holds Tryd.pinned (.plain (OpenSpec.upto schemaAllowsSpec)) schemaAllowsUptoCard
end Rows
end Go.Proofs.YtohimcpfmkgefaaDoor
