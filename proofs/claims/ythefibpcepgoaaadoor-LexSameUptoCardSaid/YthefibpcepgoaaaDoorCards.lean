/-
  DERIVED. GIVEN WITH THE SEED: THE CARDS: each row of YthefibpcepgoaaaDoorRows.lean that lists a variable, with what it lists TIED to the program's text (the seventh form; the later family's looks); each row that meets fmt, with fmt's text TOLD by the authors' own Lean function (tested against real Go, not proved from fmt's source: count such statements apart). THE CARD IS WHAT COUNTS. Prove the row's statement (the work); the ties are given (YthefibpcepgoaaaDoorTie.lean); close each card by the builder's one call (the guide's Derived/Test/ToyasCard.lean, 'card_holds'). Laid BY PROGRAM, IN A SANDBOX (cutbox-door.mjs). By AI agents, Wed Nov 11 2026. No macro, syntax, notation, axiom, sorry.
-/
import Derived.Test.YthefibpcepgoaaaDoorRows
import GoSem.ClaimSeven
namespace Go.Proofs.YthefibpcepgoaaaDoor
namespace Rows

/-- THE TIED CARD OF 'vestrylaw09.LexMatchesReference'. -/
def lexMatchesReferenceCard : Claim7 := { stood := { row := lexMatchesReferenceRow, standIns := [], harness := (true, "720c720ff14b088203cd2a0a0e05a7dd61272e7bc7c1d45e32c831347273f54a"), looks := true }, kinds := [], alts := [], laidByText := true, laidKinds := [.handle, .widerDeep], laidTests := true, laidLooks := .later }
def LexMatchesReferenceCardSaid : Prop := Claim7.holds Tryd.pinned (.plain (OpenSpec.ofChange lexMatchesReferenceSpec)) lexMatchesReferenceCard

/-- THE TIED CARD OF 'vestrylaw09.LexJoins'. -/
def lexJoinsCard : Claim7 := { stood := { row := lexJoinsRow, standIns := [], harness := (true, "720c720ff14b088203cd2a0a0e05a7dd61272e7bc7c1d45e32c831347273f54a"), looks := true }, kinds := [], alts := [], laidByText := true, laidKinds := [.handle, .widerDeep], laidTests := true, laidLooks := .later }
def LexJoinsCardSaid : Prop := Claim7.holds Tryd.pinned (.plain (OpenSpec.ofChange lexJoinsSpec)) lexJoinsCard

/-- THE TIED CARD OF 'vestrylaw09.LexSame'. -/
def lexSameCard : Claim7 := { stood := { row := lexSameRow, standIns := [], harness := (true, "720c720ff14b088203cd2a0a0e05a7dd61272e7bc7c1d45e32c831347273f54a"), looks := true }, kinds := [], alts := [], laidByText := true, laidKinds := [.handle, .widerDeep], laidTests := true, laidLooks := .later }
def LexSameCardSaid : Prop := Claim7.holds Tryd.pinned (.plain (OpenSpec.ofChange lexSameSpec)) lexSameCard

/-- THE TIED CARD OF 'vestrylaw09.LexLines'. -/
def lexLinesCard : Claim7 := { stood := { row := lexLinesRow, standIns := [], harness := (true, "720c720ff14b088203cd2a0a0e05a7dd61272e7bc7c1d45e32c831347273f54a"), looks := true }, kinds := [], alts := [], laidByText := true, laidKinds := [.handle, .widerDeep], laidTests := true, laidLooks := .later }
def LexLinesCardSaid : Prop := Claim7.holds Tryd.pinned (.plain (OpenSpec.ofChange lexLinesSpec)) lexLinesCard

/-- THE TIED CARD OF 'vestrylaw09.LexComments'. -/
def lexCommentsCard : Claim7 := { stood := { row := lexCommentsRow, standIns := [], harness := (true, "720c720ff14b088203cd2a0a0e05a7dd61272e7bc7c1d45e32c831347273f54a"), looks := true }, kinds := [], alts := [], laidByText := true, laidKinds := [.handle, .widerDeep], laidTests := true, laidLooks := .later }
def LexCommentsCardSaid : Prop := Claim7.holds Tryd.pinned (.plain (OpenSpec.ofChange lexCommentsSpec)) lexCommentsCard

/-- THE SECOND FORM's CARD OF 'vestrylaw09.LexMatchesReference'. -/
def lexMatchesReferenceUptoCard : Claim7 := { stood := { row := lexMatchesReferenceUptoRow, standIns := [], harness := (true, "720c720ff14b088203cd2a0a0e05a7dd61272e7bc7c1d45e32c831347273f54a"), looks := true }, kinds := [], alts := [], laidByText := true, laidKinds := [.handle, .widerDeep], laidTests := true, laidLooks := .later }
def LexMatchesReferenceUptoCardSaid : Prop := Claim7.holds Tryd.pinned (.plain (OpenSpec.upto lexMatchesReferenceSpec)) lexMatchesReferenceUptoCard

/-- THE SECOND FORM's CARD OF 'vestrylaw09.LexJoins'. -/
def lexJoinsUptoCard : Claim7 := { stood := { row := lexJoinsUptoRow, standIns := [], harness := (true, "720c720ff14b088203cd2a0a0e05a7dd61272e7bc7c1d45e32c831347273f54a"), looks := true }, kinds := [], alts := [], laidByText := true, laidKinds := [.handle, .widerDeep], laidTests := true, laidLooks := .later }
def LexJoinsUptoCardSaid : Prop := Claim7.holds Tryd.pinned (.plain (OpenSpec.upto lexJoinsSpec)) lexJoinsUptoCard

/-- THE SECOND FORM's CARD OF 'vestrylaw09.LexSame'. -/
def lexSameUptoCard : Claim7 := { stood := { row := lexSameUptoRow, standIns := [], harness := (true, "720c720ff14b088203cd2a0a0e05a7dd61272e7bc7c1d45e32c831347273f54a"), looks := true }, kinds := [], alts := [], laidByText := true, laidKinds := [.handle, .widerDeep], laidTests := true, laidLooks := .later }
def LexSameUptoCardSaid : Prop := Claim7.holds Tryd.pinned (.plain (OpenSpec.upto lexSameSpec)) lexSameUptoCard

/-- THE SECOND FORM's CARD OF 'vestrylaw09.LexLines'. -/
def lexLinesUptoCard : Claim7 := { stood := { row := lexLinesUptoRow, standIns := [], harness := (true, "720c720ff14b088203cd2a0a0e05a7dd61272e7bc7c1d45e32c831347273f54a"), looks := true }, kinds := [], alts := [], laidByText := true, laidKinds := [.handle, .widerDeep], laidTests := true, laidLooks := .later }
def LexLinesUptoCardSaid : Prop := Claim7.holds Tryd.pinned (.plain (OpenSpec.upto lexLinesSpec)) lexLinesUptoCard

/-- THE SECOND FORM's CARD OF 'vestrylaw09.LexComments'. -/
def lexCommentsUptoCard : Claim7 := { stood := { row := lexCommentsUptoRow, standIns := [], harness := (true, "720c720ff14b088203cd2a0a0e05a7dd61272e7bc7c1d45e32c831347273f54a"), looks := true }, kinds := [], alts := [], laidByText := true, laidKinds := [.handle, .widerDeep], laidTests := true, laidLooks := .later }
def LexCommentsUptoCardSaid : Prop := Claim7.holds Tryd.pinned (.plain (OpenSpec.upto lexCommentsSpec)) lexCommentsUptoCard
end Rows
end Go.Proofs.YthefibpcepgoaaaDoor
