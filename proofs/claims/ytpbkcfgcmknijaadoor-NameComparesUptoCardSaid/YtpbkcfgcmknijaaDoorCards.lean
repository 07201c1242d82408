/-
  DERIVED. GIVEN WITH THE SEED: THE CARDS: each row of YtpbkcfgcmknijaaDoorRows.lean that lists a variable, with what it lists TIED to the program's text (the seventh form; the later family's looks); each row that meets fmt, with fmt's text TOLD by the authors' own Lean function (tested against real Go, not proved from fmt's source: count such statements apart). THE CARD IS WHAT COUNTS. Prove the row's statement (the work); the ties are given (YtpbkcfgcmknijaaDoorTie.lean); close each card by the builder's one call (the guide's Derived/Test/ToyasCard.lean, 'card_holds'). Laid BY PROGRAM, IN A SANDBOX (cutbox-door.mjs). By AI agents, Wed Nov 11 2026. No macro, syntax, notation, axiom, sorry.
-/
import Derived.Test.YtpbkcfgcmknijaaDoorRows
import GoSem.ClaimSeven
namespace Go.Proofs.YtpbkcfgcmknijaaDoor
namespace Rows

/-- THE TIED CARD OF 'vestrylaw08.NameMatchesReference'. -/
def nameMatchesReferenceCard : Claim7 := { stood := { row := nameMatchesReferenceRow, standIns := [], harness := (true, "70ea85937e6d49b510bc0de44908b498b86edde913ae92a202f7a65f6db77d5d"), looks := true }, kinds := [], alts := [], laidByText := true, laidKinds := [.handle, .widerDeep], laidTests := true, laidLooks := .later }
def NameMatchesReferenceCardSaid : Prop := Claim7.holds Tryd.pinned (.plain (OpenSpec.ofChange nameMatchesReferenceSpec)) nameMatchesReferenceCard

/-- THE TIED CARD OF 'vestrylaw08.NameParses'. -/
def nameParsesCard : Claim7 := { stood := { row := nameParsesRow, standIns := [], harness := (true, "70ea85937e6d49b510bc0de44908b498b86edde913ae92a202f7a65f6db77d5d"), looks := true }, kinds := [], alts := [], laidByText := true, laidKinds := [.handle, .widerDeep], laidTests := true, laidLooks := .later }
def NameParsesCardSaid : Prop := Claim7.holds Tryd.pinned (.plain (OpenSpec.ofChange nameParsesSpec)) nameParsesCard

/-- THE TIED CARD OF 'vestrylaw08.NameObjects'. -/
def nameObjectsCard : Claim7 := { stood := { row := nameObjectsRow, standIns := [], harness := (true, "70ea85937e6d49b510bc0de44908b498b86edde913ae92a202f7a65f6db77d5d"), looks := true }, kinds := [], alts := [], laidByText := true, laidKinds := [.handle, .widerDeep], laidTests := true, laidLooks := .later }
def NameObjectsCardSaid : Prop := Claim7.holds Tryd.pinned (.plain (OpenSpec.ofChange nameObjectsSpec)) nameObjectsCard

/-- THE TIED CARD OF 'vestrylaw08.NameAllowed'. -/
def nameAllowedCard : Claim7 := { stood := { row := nameAllowedRow, standIns := [], harness := (true, "70ea85937e6d49b510bc0de44908b498b86edde913ae92a202f7a65f6db77d5d"), looks := true }, kinds := [], alts := [], laidByText := true, laidKinds := [.handle, .widerDeep], laidTests := true, laidLooks := .later }
def NameAllowedCardSaid : Prop := Claim7.holds Tryd.pinned (.plain (OpenSpec.ofChange nameAllowedSpec)) nameAllowedCard

/-- THE TIED CARD OF 'vestrylaw08.NameCompares'. -/
def nameComparesCard : Claim7 := { stood := { row := nameComparesRow, standIns := [], harness := (true, "70ea85937e6d49b510bc0de44908b498b86edde913ae92a202f7a65f6db77d5d"), looks := true }, kinds := [], alts := [], laidByText := true, laidKinds := [.handle, .widerDeep], laidTests := true, laidLooks := .later }
def NameComparesCardSaid : Prop := Claim7.holds Tryd.pinned (.plain (OpenSpec.ofChange nameComparesSpec)) nameComparesCard

/-- THE SECOND FORM's CARD OF 'vestrylaw08.NameMatchesReference'. -/
def nameMatchesReferenceUptoCard : Claim7 := { stood := { row := nameMatchesReferenceUptoRow, standIns := [], harness := (true, "70ea85937e6d49b510bc0de44908b498b86edde913ae92a202f7a65f6db77d5d"), looks := true }, kinds := [], alts := [], laidByText := true, laidKinds := [.handle, .widerDeep], laidTests := true, laidLooks := .later }
def NameMatchesReferenceUptoCardSaid : Prop := Claim7.holds Tryd.pinned (.plain (OpenSpec.upto nameMatchesReferenceSpec)) nameMatchesReferenceUptoCard

/-- THE SECOND FORM's CARD OF 'vestrylaw08.NameParses'. -/
def nameParsesUptoCard : Claim7 := { stood := { row := nameParsesUptoRow, standIns := [], harness := (true, "70ea85937e6d49b510bc0de44908b498b86edde913ae92a202f7a65f6db77d5d"), looks := true }, kinds := [], alts := [], laidByText := true, laidKinds := [.handle, .widerDeep], laidTests := true, laidLooks := .later }
def NameParsesUptoCardSaid : Prop := Claim7.holds Tryd.pinned (.plain (OpenSpec.upto nameParsesSpec)) nameParsesUptoCard

/-- THE SECOND FORM's CARD OF 'vestrylaw08.NameObjects'. -/
def nameObjectsUptoCard : Claim7 := { stood := { row := nameObjectsUptoRow, standIns := [], harness := (true, "70ea85937e6d49b510bc0de44908b498b86edde913ae92a202f7a65f6db77d5d"), looks := true }, kinds := [], alts := [], laidByText := true, laidKinds := [.handle, .widerDeep], laidTests := true, laidLooks := .later }
def NameObjectsUptoCardSaid : Prop := Claim7.holds Tryd.pinned (.plain (OpenSpec.upto nameObjectsSpec)) nameObjectsUptoCard

/-- THE SECOND FORM's CARD OF 'vestrylaw08.NameAllowed'. -/
def nameAllowedUptoCard : Claim7 := { stood := { row := nameAllowedUptoRow, standIns := [], harness := (true, "70ea85937e6d49b510bc0de44908b498b86edde913ae92a202f7a65f6db77d5d"), looks := true }, kinds := [], alts := [], laidByText := true, laidKinds := [.handle, .widerDeep], laidTests := true, laidLooks := .later }
def NameAllowedUptoCardSaid : Prop := Claim7.holds Tryd.pinned (.plain (OpenSpec.upto nameAllowedSpec)) nameAllowedUptoCard

/-- THE SECOND FORM's CARD OF 'vestrylaw08.NameCompares'. -/
def nameComparesUptoCard : Claim7 := { stood := { row := nameComparesUptoRow, standIns := [], harness := (true, "70ea85937e6d49b510bc0de44908b498b86edde913ae92a202f7a65f6db77d5d"), looks := true }, kinds := [], alts := [], laidByText := true, laidKinds := [.handle, .widerDeep], laidTests := true, laidLooks := .later }
def NameComparesUptoCardSaid : Prop := Claim7.holds Tryd.pinned (.plain (OpenSpec.upto nameComparesSpec)) nameComparesUptoCard
end Rows
end Go.Proofs.YtpbkcfgcmknijaaDoor
