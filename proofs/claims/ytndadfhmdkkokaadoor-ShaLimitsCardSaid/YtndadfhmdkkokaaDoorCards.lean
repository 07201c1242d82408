/-
  DERIVED. GIVEN WITH THE SEED: THE CARDS: each row of YtndadfhmdkkokaaDoorRows.lean that lists a variable, with what it lists TIED to the program's text (the seventh form; the later family's looks); each row that meets fmt, with fmt's text TOLD by the authors' own Lean function (tested against real Go, not proved from fmt's source: count such statements apart). THE CARD IS WHAT COUNTS. Prove the row's statement (the work); the ties are given (YtndadfhmdkkokaaDoorTie.lean); close each card by the builder's one call (the guide's Derived/Test/ToyasCard.lean, 'card_holds'). Laid BY PROGRAM, IN A SANDBOX (cutbox-door.mjs). By AI agents, Wed Nov 11 2026. No macro, syntax, notation, axiom, sorry.
-/
import Derived.Test.YtndadfhmdkkokaaDoorRows
import GoSem.ClaimSeven
namespace Go.Proofs.YtndadfhmdkkokaaDoor
namespace Rows

/-- THE TIED CARD OF 'vestrylaw06.ShaMatchesReference'. -/
def shaMatchesReferenceCard : Claim7 := { stood := { row := shaMatchesReferenceRow, standIns := [], harness := (true, "657d07a38159ac6dd38859174aae17fbe08d08ed6c3d94b61a054eb753ba25ad"), looks := false }, kinds := [], alts := [], laidByText := true, laidKinds := [.data], laidTests := true, laidLooks := .later }
def ShaMatchesReferenceCardSaid : Prop := Claim7.holds Tryd.pinned (.plain (OpenSpec.ofChange shaMatchesReferenceSpec)) shaMatchesReferenceCard

/-- THE TIED CARD OF 'vestrylaw06.ShaBlocks'. -/
def shaBlocksCard : Claim7 := { stood := { row := shaBlocksRow, standIns := [], harness := (true, "657d07a38159ac6dd38859174aae17fbe08d08ed6c3d94b61a054eb753ba25ad"), looks := false }, kinds := [], alts := [], laidByText := true, laidKinds := [.data], laidTests := true, laidLooks := .later }
def ShaBlocksCardSaid : Prop := Claim7.holds Tryd.pinned (.plain (OpenSpec.ofChange shaBlocksSpec)) shaBlocksCard

/-- THE TIED CARD OF 'vestrylaw06.ShaConstants'. -/
def shaConstantsCard : Claim7 := { stood := { row := shaConstantsRow, standIns := [], harness := (true, "657d07a38159ac6dd38859174aae17fbe08d08ed6c3d94b61a054eb753ba25ad"), looks := false }, kinds := [], alts := [], laidByText := true, laidKinds := [.data], laidTests := true, laidLooks := .later }
def ShaConstantsCardSaid : Prop := Claim7.holds Tryd.pinned (.plain (OpenSpec.ofChange shaConstantsSpec)) shaConstantsCard

/-- THE TIED CARD OF 'vestrylaw06.ShaPaddings'. -/
def shaPaddingsCard : Claim7 := { stood := { row := shaPaddingsRow, standIns := [], harness := (true, "657d07a38159ac6dd38859174aae17fbe08d08ed6c3d94b61a054eb753ba25ad"), looks := false }, kinds := [], alts := [], laidByText := true, laidKinds := [.data], laidTests := true, laidLooks := .later }
def ShaPaddingsCardSaid : Prop := Claim7.holds Tryd.pinned (.plain (OpenSpec.ofChange shaPaddingsSpec)) shaPaddingsCard

/-- THE TIED CARD OF 'vestrylaw06.ShaLimits'. -/
def shaLimitsCard : Claim7 := { stood := { row := shaLimitsRow, standIns := [], harness := (true, "657d07a38159ac6dd38859174aae17fbe08d08ed6c3d94b61a054eb753ba25ad"), looks := false }, kinds := [], alts := [], laidByText := true, laidKinds := [.data], laidTests := true, laidLooks := .later }
def ShaLimitsCardSaid : Prop := Claim7.holds Tryd.pinned (.plain (OpenSpec.ofChange shaLimitsSpec)) shaLimitsCard

/-- THE SECOND FORM's CARD OF 'vestrylaw06.ShaMatchesReference'. -/
def shaMatchesReferenceUptoCard : Claim7 := { stood := { row := shaMatchesReferenceUptoRow, standIns := [], harness := (true, "657d07a38159ac6dd38859174aae17fbe08d08ed6c3d94b61a054eb753ba25ad"), looks := false }, kinds := [], alts := [], laidByText := true, laidKinds := [.data], laidTests := true, laidLooks := .later }
def ShaMatchesReferenceUptoCardSaid : Prop := Claim7.holds Tryd.pinned (.plain (OpenSpec.upto shaMatchesReferenceSpec)) shaMatchesReferenceUptoCard

/-- THE SECOND FORM's CARD OF 'vestrylaw06.ShaBlocks'. -/
def shaBlocksUptoCard : Claim7 := { stood := { row := shaBlocksUptoRow, standIns := [], harness := (true, "657d07a38159ac6dd38859174aae17fbe08d08ed6c3d94b61a054eb753ba25ad"), looks := false }, kinds := [], alts := [], laidByText := true, laidKinds := [.data], laidTests := true, laidLooks := .later }
def ShaBlocksUptoCardSaid : Prop := Claim7.holds Tryd.pinned (.plain (OpenSpec.upto shaBlocksSpec)) shaBlocksUptoCard

/-- THE SECOND FORM's CARD OF 'vestrylaw06.ShaConstants'. -/
def shaConstantsUptoCard : Claim7 := { stood := { row := shaConstantsUptoRow, standIns := [], harness := (true, "657d07a38159ac6dd38859174aae17fbe08d08ed6c3d94b61a054eb753ba25ad"), looks := false }, kinds := [], alts := [], laidByText := true, laidKinds := [.data], laidTests := true, laidLooks := .later }
def ShaConstantsUptoCardSaid : Prop := Claim7.holds Tryd.pinned (.plain (OpenSpec.upto shaConstantsSpec)) shaConstantsUptoCard

/-- THE SECOND FORM's CARD OF 'vestrylaw06.ShaPaddings'. -/
def shaPaddingsUptoCard : Claim7 := { stood := { row := shaPaddingsUptoRow, standIns := [], harness := (true, "657d07a38159ac6dd38859174aae17fbe08d08ed6c3d94b61a054eb753ba25ad"), looks := false }, kinds := [], alts := [], laidByText := true, laidKinds := [.data], laidTests := true, laidLooks := .later }
def ShaPaddingsUptoCardSaid : Prop := Claim7.holds Tryd.pinned (.plain (OpenSpec.upto shaPaddingsSpec)) shaPaddingsUptoCard

/-- THE SECOND FORM's CARD OF 'vestrylaw06.ShaLimits'. -/
def shaLimitsUptoCard : Claim7 := { stood := { row := shaLimitsUptoRow, standIns := [], harness := (true, "657d07a38159ac6dd38859174aae17fbe08d08ed6c3d94b61a054eb753ba25ad"), looks := false }, kinds := [], alts := [], laidByText := true, laidKinds := [.data], laidTests := true, laidLooks := .later }
def ShaLimitsUptoCardSaid : Prop := Claim7.holds Tryd.pinned (.plain (OpenSpec.upto shaLimitsSpec)) shaLimitsUptoCard
end Rows
end Go.Proofs.YtndadfhmdkkokaaDoor
