/-
  DERIVED. GIVEN WITH THE SEED: THE CARDS: each row of YtlbbhgmpiednfaaGreatDoorRows.lean that lists a variable, with what it lists TIED to the program's text (the seventh form; the later family's looks); each row that meets fmt, with fmt's text TOLD by the authors' own Lean function (tested against real Go, not proved from fmt's source: count such statements apart). THE CARD IS WHAT COUNTS. Prove the row's statement (the work); the ties are given (YtlbbhgmpiednfaaGreatDoorTie.lean); close each card by the builder's one call (the guide's Derived/Test/ToyasCard.lean, 'card_holds'). Laid BY PROGRAM, IN A SANDBOX (cutbox-door.mjs). By AI agents, Wed Nov 11 2026. No macro, syntax, notation, axiom, sorry.
-/
import Derived.Test.YtlbbhgmpiednfaaGreatDoorRows
import GoSem.ClaimSeven
namespace Go.Proofs.YtlbbhgmpiednfaaGreatDoor
namespace Rows

/-- THE TIED CARD OF 'vestrylaw18.TupleSorts'. -/
def tupleSortsCard : Claim7 := { stood := { row := tupleSortsRow, standIns := [], harness := (true, "beb5aab945b144880fea044ef390a1e06b25b42aad98a3408112ad0abd83f29f"), looks := true }, kinds := [], alts := [], laidByText := true, laidKinds := [.handle, .widerDeep], laidTests := true, laidLooks := .later }
def TupleSortsCardSaid : Prop := Claim7.holds Tryz.pinned (.plain (OpenSpec.ofChange tupleSortsSpec)) tupleSortsCard

/-- THE TIED CARD OF 'vestrylaw18.TupleApart'. -/
def tupleApartCard : Claim7 := { stood := { row := tupleApartRow, standIns := [], harness := (true, "beb5aab945b144880fea044ef390a1e06b25b42aad98a3408112ad0abd83f29f"), looks := true }, kinds := [], alts := [], laidByText := true, laidKinds := [.handle, .widerDeep], laidTests := true, laidLooks := .later }
def TupleApartCardSaid : Prop := Claim7.holds Tryz.pinned (.plain (OpenSpec.ofChange tupleApartSpec)) tupleApartCard

/-- THE TIED CARD OF 'vestrylaw18.TupleMatchesReference'. -/
def tupleMatchesReferenceCard : Claim7 := { stood := { row := tupleMatchesReferenceRow, standIns := [], harness := (true, "beb5aab945b144880fea044ef390a1e06b25b42aad98a3408112ad0abd83f29f"), looks := true }, kinds := [], alts := [], laidByText := true, laidKinds := [.handle, .widerDeep], laidTests := true, laidLooks := .later }
def TupleMatchesReferenceCardSaid : Prop := Claim7.holds Tryz.pinned (.plain (OpenSpec.ofChange tupleMatchesReferenceSpec)) tupleMatchesReferenceCard

/-- THE TIED CARD OF 'vestrylaw18.TupleParses'. -/
def tupleParsesCard : Claim7 := { stood := { row := tupleParsesRow, standIns := [], harness := (true, "beb5aab945b144880fea044ef390a1e06b25b42aad98a3408112ad0abd83f29f"), looks := true }, kinds := [], alts := [], laidByText := true, laidKinds := [.handle, .widerDeep], laidTests := true, laidLooks := .later }
def TupleParsesCardSaid : Prop := Claim7.holds Tryz.pinned (.plain (OpenSpec.ofChange tupleParsesSpec)) tupleParsesCard

/-- THE TIED CARD OF 'vestrylaw18.TupleReads'. -/
def tupleReadsCard : Claim7 := { stood := { row := tupleReadsRow, standIns := [], harness := (true, "beb5aab945b144880fea044ef390a1e06b25b42aad98a3408112ad0abd83f29f"), looks := true }, kinds := [], alts := [], laidByText := true, laidKinds := [.handle, .widerDeep], laidTests := true, laidLooks := .later }
def TupleReadsCardSaid : Prop := Claim7.holds Tryz.pinned (.plain (OpenSpec.ofChange tupleReadsSpec)) tupleReadsCard

/-- THE SECOND FORM's CARD OF 'vestrylaw18.TupleSorts'. -/
def tupleSortsUptoCard : Claim7 := { stood := { row := tupleSortsUptoRow, standIns := [], harness := (true, "beb5aab945b144880fea044ef390a1e06b25b42aad98a3408112ad0abd83f29f"), looks := true }, kinds := [], alts := [], laidByText := true, laidKinds := [.handle, .widerDeep], laidTests := true, laidLooks := .later }
def TupleSortsUptoCardSaid : Prop := Claim7.holds Tryz.pinned (.plain (OpenSpec.upto tupleSortsSpec)) tupleSortsUptoCard

/-- THE SECOND FORM's CARD OF 'vestrylaw18.TupleApart'. -/
def tupleApartUptoCard : Claim7 := { stood := { row := tupleApartUptoRow, standIns := [], harness := (true, "beb5aab945b144880fea044ef390a1e06b25b42aad98a3408112ad0abd83f29f"), looks := true }, kinds := [], alts := [], laidByText := true, laidKinds := [.handle, .widerDeep], laidTests := true, laidLooks := .later }
def TupleApartUptoCardSaid : Prop := Claim7.holds Tryz.pinned (.plain (OpenSpec.upto tupleApartSpec)) tupleApartUptoCard

/-- THE SECOND FORM's CARD OF 'vestrylaw18.TupleMatchesReference'. -/
def tupleMatchesReferenceUptoCard : Claim7 := { stood := { row := tupleMatchesReferenceUptoRow, standIns := [], harness := (true, "beb5aab945b144880fea044ef390a1e06b25b42aad98a3408112ad0abd83f29f"), looks := true }, kinds := [], alts := [], laidByText := true, laidKinds := [.handle, .widerDeep], laidTests := true, laidLooks := .later }
def TupleMatchesReferenceUptoCardSaid : Prop := Claim7.holds Tryz.pinned (.plain (OpenSpec.upto tupleMatchesReferenceSpec)) tupleMatchesReferenceUptoCard

/-- THE SECOND FORM's CARD OF 'vestrylaw18.TupleParses'. -/
def tupleParsesUptoCard : Claim7 := { stood := { row := tupleParsesUptoRow, standIns := [], harness := (true, "beb5aab945b144880fea044ef390a1e06b25b42aad98a3408112ad0abd83f29f"), looks := true }, kinds := [], alts := [], laidByText := true, laidKinds := [.handle, .widerDeep], laidTests := true, laidLooks := .later }
def TupleParsesUptoCardSaid : Prop := Claim7.holds Tryz.pinned (.plain (OpenSpec.upto tupleParsesSpec)) tupleParsesUptoCard

/-- THE SECOND FORM's CARD OF 'vestrylaw18.TupleReads'. -/
def tupleReadsUptoCard : Claim7 := { stood := { row := tupleReadsUptoRow, standIns := [], harness := (true, "beb5aab945b144880fea044ef390a1e06b25b42aad98a3408112ad0abd83f29f"), looks := true }, kinds := [], alts := [], laidByText := true, laidKinds := [.handle, .widerDeep], laidTests := true, laidLooks := .later }
def TupleReadsUptoCardSaid : Prop := Claim7.holds Tryz.pinned (.plain (OpenSpec.upto tupleReadsSpec)) tupleReadsUptoCard
end Rows
end Go.Proofs.YtlbbhgmpiednfaaGreatDoor
