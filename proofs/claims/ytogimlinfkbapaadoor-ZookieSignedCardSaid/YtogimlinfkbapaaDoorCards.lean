/-
  DERIVED. GIVEN WITH THE SEED: THE CARDS: each row of YtogimlinfkbapaaDoorRows.lean that lists a variable, with what it lists TIED to the program's text (the seventh form; the later family's looks); each row that meets fmt, with fmt's text TOLD by the authors' own Lean function (tested against real Go, not proved from fmt's source: count such statements apart). THE CARD IS WHAT COUNTS. Prove the row's statement (the work); the ties are given (YtogimlinfkbapaaDoorTie.lean); close each card by the builder's one call (the guide's Derived/Test/ToyasCard.lean, 'card_holds'). Laid BY PROGRAM, IN A SANDBOX (cutbox-door.mjs). By AI agents, Wed Nov 11 2026. No macro, syntax, notation, axiom, sorry.
-/
import Derived.Test.YtogimlinfkbapaaDoorRows
import GoSem.ClaimSeven
namespace Go.Proofs.YtogimlinfkbapaaDoor
namespace Rows

/-- THE TIED CARD OF 'vestrylaw22.ZookieMatchesReference'. -/
def zookieMatchesReferenceCard : Claim7 := { stood := { row := zookieMatchesReferenceRow, standIns := [], harness := (true, "5729c4daddc95e802bcb8d5736c00c9ede43c5b4cd159c38dbe016282c331bc0"), looks := true }, kinds := [], alts := [], laidByText := true, laidKinds := [.data, .handle], laidTests := true, laidLooks := .later }
def ZookieMatchesReferenceCardSaid : Prop := Claim7.holds Tryd.pinned (.plain (OpenSpec.ofChange zookieMatchesReferenceSpec)) zookieMatchesReferenceCard

/-- THE TIED CARD OF 'vestrylaw22.ZookieParses'. -/
def zookieParsesCard : Claim7 := { stood := { row := zookieParsesRow, standIns := [], harness := (true, "5729c4daddc95e802bcb8d5736c00c9ede43c5b4cd159c38dbe016282c331bc0"), looks := true }, kinds := [], alts := [], laidByText := true, laidKinds := [.data, .handle], laidTests := true, laidLooks := .later }
def ZookieParsesCardSaid : Prop := Claim7.holds Tryd.pinned (.plain (OpenSpec.ofChange zookieParsesSpec)) zookieParsesCard

/-- THE TIED CARD OF 'vestrylaw22.ZookieVerifies'. -/
def zookieVerifiesCard : Claim7 := { stood := { row := zookieVerifiesRow, standIns := [], harness := (true, "5729c4daddc95e802bcb8d5736c00c9ede43c5b4cd159c38dbe016282c331bc0"), looks := true }, kinds := [], alts := [], laidByText := true, laidKinds := [.data, .handle], laidTests := true, laidLooks := .later }
def ZookieVerifiesCardSaid : Prop := Claim7.holds Tryd.pinned (.plain (OpenSpec.ofChange zookieVerifiesSpec)) zookieVerifiesCard

/-- THE TIED CARD OF 'vestrylaw22.ZookieSigned'. -/
def zookieSignedCard : Claim7 := { stood := { row := zookieSignedRow, standIns := [], harness := (true, "5729c4daddc95e802bcb8d5736c00c9ede43c5b4cd159c38dbe016282c331bc0"), looks := true }, kinds := [], alts := [], laidByText := true, laidKinds := [.data, .handle], laidTests := true, laidLooks := .later }
def ZookieSignedCardSaid : Prop := Claim7.holds Tryd.pinned (.plain (OpenSpec.ofChange zookieSignedSpec)) zookieSignedCard

/-- THE TIED CARD OF 'vestrylaw22.ZookieNewer'. -/
def zookieNewerCard : Claim7 := { stood := { row := zookieNewerRow, standIns := [], harness := (true, "5729c4daddc95e802bcb8d5736c00c9ede43c5b4cd159c38dbe016282c331bc0"), looks := true }, kinds := [], alts := [], laidByText := true, laidKinds := [.data, .handle], laidTests := true, laidLooks := .later }
def ZookieNewerCardSaid : Prop := Claim7.holds Tryd.pinned (.plain (OpenSpec.ofChange zookieNewerSpec)) zookieNewerCard

/-- THE SECOND FORM's CARD OF 'vestrylaw22.ZookieMatchesReference'. -/
def zookieMatchesReferenceUptoCard : Claim7 := { stood := { row := zookieMatchesReferenceUptoRow, standIns := [], harness := (true, "5729c4daddc95e802bcb8d5736c00c9ede43c5b4cd159c38dbe016282c331bc0"), looks := true }, kinds := [], alts := [], laidByText := true, laidKinds := [.data, .handle], laidTests := true, laidLooks := .later }
def ZookieMatchesReferenceUptoCardSaid : Prop := Claim7.holds Tryd.pinned (.plain (OpenSpec.upto zookieMatchesReferenceSpec)) zookieMatchesReferenceUptoCard

/-- THE SECOND FORM's CARD OF 'vestrylaw22.ZookieParses'. -/
def zookieParsesUptoCard : Claim7 := { stood := { row := zookieParsesUptoRow, standIns := [], harness := (true, "5729c4daddc95e802bcb8d5736c00c9ede43c5b4cd159c38dbe016282c331bc0"), looks := true }, kinds := [], alts := [], laidByText := true, laidKinds := [.data, .handle], laidTests := true, laidLooks := .later }
def ZookieParsesUptoCardSaid : Prop := Claim7.holds Tryd.pinned (.plain (OpenSpec.upto zookieParsesSpec)) zookieParsesUptoCard

/-- THE SECOND FORM's CARD OF 'vestrylaw22.ZookieVerifies'. -/
def zookieVerifiesUptoCard : Claim7 := { stood := { row := zookieVerifiesUptoRow, standIns := [], harness := (true, "5729c4daddc95e802bcb8d5736c00c9ede43c5b4cd159c38dbe016282c331bc0"), looks := true }, kinds := [], alts := [], laidByText := true, laidKinds := [.data, .handle], laidTests := true, laidLooks := .later }
def ZookieVerifiesUptoCardSaid : Prop := Claim7.holds Tryd.pinned (.plain (OpenSpec.upto zookieVerifiesSpec)) zookieVerifiesUptoCard

/-- THE SECOND FORM's CARD OF 'vestrylaw22.ZookieSigned'. -/
def zookieSignedUptoCard : Claim7 := { stood := { row := zookieSignedUptoRow, standIns := [], harness := (true, "5729c4daddc95e802bcb8d5736c00c9ede43c5b4cd159c38dbe016282c331bc0"), looks := true }, kinds := [], alts := [], laidByText := true, laidKinds := [.data, .handle], laidTests := true, laidLooks := .later }
def ZookieSignedUptoCardSaid : Prop := Claim7.holds Tryd.pinned (.plain (OpenSpec.upto zookieSignedSpec)) zookieSignedUptoCard

/-- THE SECOND FORM's CARD OF 'vestrylaw22.ZookieNewer'. -/
def zookieNewerUptoCard : Claim7 := { stood := { row := zookieNewerUptoRow, standIns := [], harness := (true, "5729c4daddc95e802bcb8d5736c00c9ede43c5b4cd159c38dbe016282c331bc0"), looks := true }, kinds := [], alts := [], laidByText := true, laidKinds := [.data, .handle], laidTests := true, laidLooks := .later }
def ZookieNewerUptoCardSaid : Prop := Claim7.holds Tryd.pinned (.plain (OpenSpec.upto zookieNewerSpec)) zookieNewerUptoCard
end Rows
end Go.Proofs.YtogimlinfkbapaaDoor
