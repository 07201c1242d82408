/-
  NARROWER THAN 'FOR EVERY INPUT', by the rows' own cells (each row's printed sentence says how): TupleSorts: laid · TupleApart: laid · TupleMatchesReference: laid · TupleParses: laid · TupleReads: laid.
  DERIVED. THE GIVEN ROWS OF THIS SEAT. 5 by the template 'for every input the law returns true; each argument reads behind the call as it read before'; 0 by the template 'total and deterministic' (their statements: YtlbbhgmpiednfaaGreatDoorTotals.lean).
  GIVEN WITH THE SEED: the statements are not yours to turn. If you find one false, say at which input.
  Laid BY PROGRAM, IN A SANDBOX (cutbox-rows.mjs): the forced cells as the released guide's own fill.sh prints them over the translation 1f8ff01ba857f777… (all of the seat's roots in one cut). By AI agents, Wed Nov 11 2026. No macro, syntax, notation, axiom, sorry.
-/
import Derived.Test.YtlbbhgmpiednfaaGreatDoorChecked
import GoSem.Claim
import GoSem.ClaimJoined
import GoSem.ClaimMapViews
import Derived.JoinedTies
import Derived.KernelRfl
namespace Go.Proofs.YtlbbhgmpiednfaaGreatDoor
/- THE CELL 'sum', in the pinned program and in every row, IS THE sha256 OF THE DUMP (.gsa) THAT YtlbbhgmpiednfaaGreatDoorProg.lean LOADS. Nothing in Lean hashes anything: it is a label: what it is worth is what the hold of that sum in a sandbox is worth. -/
noncomputable def Tryz.pinned : Pinned := { name := "ytlbbhgmpiednfaagreatdoor", sum := "1f8ff01ba857f777918619fd7c3fab13b86acc4541aee752b3d1bf40e022dfbf", checked := Tryz.checked }
namespace Rows
def none {H : Type} : Left H := { results := [], args := [] }

/- WHAT THE LISTED PACKAGE-LEVEL VARIABLES READ AS WHEN THE CALL BEGINS. Each datum BY PROGRAM (the guide's laid-datum.mjs) off the statement by which the dump's own 'gosem.cut.vars' lays the variable. In a bare row this is a premise. The card (YtlbbhgmpiednfaaGreatDoorCards.lean) ties it to the program's text. -/
def laid_errors_errorType {H : Type} : DataW H := .iface "internal/reflectlite.rtype" (.agg [.ptr (.lit (.string [101, 114, 114, 111, 114]))])
def laid_vestry_name_reserved {H : Type} : DataW H := .agg [.lit (.string [100, 101, 102, 105, 110, 105, 116, 105, 111, 110]), .lit (.string [114, 101, 108, 97, 116, 105, 111, 110]), .lit (.string [112, 101, 114, 109, 105, 115, 115, 105, 111, 110])]

/-- 'vestrylaw18.TupleSorts': WHATEVER THE INPUT: true; the input reads as it did. -/
def tupleSortsSpec : ChangeSpec := { name := "tupleSorts", fn := fun _ => fun
  | [d] => { results := [.lit (.bool true)], args := [d] }
  | _ => none }
def tupleSortsRow : OpenClaim := { program := "ytlbbhgmpiednfaagreatdoor", sum := "1f8ff01ba857f777918619fd7c3fab13b86acc4541aee752b3d1bf40e022dfbf", func := "vestry/vestrylaw18.TupleSorts", spec := "tupleSorts", inPlace := ["internal/bytealg.IndexByteString", "internal/bytealg.IndexString", "internal/reflectlite.ValueOf", "(internal/reflectlite.Value).Type", "(internal/reflectlite.Value).IsNil", "internal/reflectlite.TypeOf", "(internal/reflectlite.Value).Elem", "(internal/reflectlite.Value).Set"], unfollowed := true, recurses := true, named := ["internal/bytealg.MaxLen", "vestry/name.reserved", "errors.errorType"], apart := false, laid := [("errors.errorType", laid_errors_errorType), ("vestry/name.reserved", laid_vestry_name_reserved)] }
def TupleSortsSaid : Prop := tupleSortsRow.holds Tryz.pinned (OpenSpec.ofChange tupleSortsSpec)

/-- ITS FALSE NEIGHBOUR: 'it returns false'. Refute it at one input. -/
def tupleSortsWrong : ChangeSpec := { name := "tupleSorts", fn := fun _ => fun
  | [d] => { results := [.lit (.bool false)], args := [d] }
  | _ => none }
def TupleSortsWrongFalsely : Prop := tupleSortsRow.holds Tryz.pinned (OpenSpec.ofChange tupleSortsWrong)

/-- 'vestrylaw18.TupleApart': WHATEVER THE INPUT: true; the input reads as it did. -/
def tupleApartSpec : ChangeSpec := { name := "tupleApart", fn := fun _ => fun
  | [d1, d2] => { results := [.lit (.bool true)], args := [d1, d2] }
  | _ => none }
def tupleApartRow : OpenClaim := { program := "ytlbbhgmpiednfaagreatdoor", sum := "1f8ff01ba857f777918619fd7c3fab13b86acc4541aee752b3d1bf40e022dfbf", func := "vestry/vestrylaw18.TupleApart", spec := "tupleApart", inPlace := ["internal/bytealg.IndexByteString", "internal/bytealg.IndexString", "internal/reflectlite.ValueOf", "(internal/reflectlite.Value).Type", "(internal/reflectlite.Value).IsNil", "internal/reflectlite.TypeOf", "(internal/reflectlite.Value).Elem", "(internal/reflectlite.Value).Set"], unfollowed := true, recurses := true, named := ["internal/bytealg.MaxLen", "vestry/name.reserved", "errors.errorType"], apart := false, laid := [("errors.errorType", laid_errors_errorType), ("vestry/name.reserved", laid_vestry_name_reserved)] }
def TupleApartSaid : Prop := tupleApartRow.holds Tryz.pinned (OpenSpec.ofChange tupleApartSpec)

/-- ITS FALSE NEIGHBOUR: 'it returns false'. Refute it at one input. -/
def tupleApartWrong : ChangeSpec := { name := "tupleApart", fn := fun _ => fun
  | [d1, d2] => { results := [.lit (.bool false)], args := [d1, d2] }
  | _ => none }
def TupleApartWrongFalsely : Prop := tupleApartRow.holds Tryz.pinned (OpenSpec.ofChange tupleApartWrong)

/-- 'vestrylaw18.TupleMatchesReference': WHATEVER THE INPUT: true; the input reads as it did. -/
def tupleMatchesReferenceSpec : ChangeSpec := { name := "tupleMatchesReference", fn := fun _ => fun
  | [d] => { results := [.lit (.bool true)], args := [d] }
  | _ => none }
def tupleMatchesReferenceRow : OpenClaim := { program := "ytlbbhgmpiednfaagreatdoor", sum := "1f8ff01ba857f777918619fd7c3fab13b86acc4541aee752b3d1bf40e022dfbf", func := "vestry/vestrylaw18.TupleMatchesReference", spec := "tupleMatchesReference", inPlace := ["internal/bytealg.IndexByteString", "internal/bytealg.IndexString", "internal/reflectlite.ValueOf", "(internal/reflectlite.Value).Type", "(internal/reflectlite.Value).IsNil", "internal/reflectlite.TypeOf", "(internal/reflectlite.Value).Elem", "(internal/reflectlite.Value).Set"], unfollowed := true, recurses := true, named := ["internal/bytealg.MaxLen", "vestry/name.reserved", "errors.errorType"], apart := false, laid := [("errors.errorType", laid_errors_errorType), ("vestry/name.reserved", laid_vestry_name_reserved)] }
def TupleMatchesReferenceSaid : Prop := tupleMatchesReferenceRow.holds Tryz.pinned (OpenSpec.ofChange tupleMatchesReferenceSpec)

/-- ITS FALSE NEIGHBOUR: 'it returns false'. Refute it at one input. -/
def tupleMatchesReferenceWrong : ChangeSpec := { name := "tupleMatchesReference", fn := fun _ => fun
  | [d] => { results := [.lit (.bool false)], args := [d] }
  | _ => none }
def TupleMatchesReferenceWrongFalsely : Prop := tupleMatchesReferenceRow.holds Tryz.pinned (OpenSpec.ofChange tupleMatchesReferenceWrong)

/-- 'vestrylaw18.TupleParses': WHATEVER THE INPUT: true; the input reads as it did. -/
def tupleParsesSpec : ChangeSpec := { name := "tupleParses", fn := fun _ => fun
  | [d] => { results := [.lit (.bool true)], args := [d] }
  | _ => none }
def tupleParsesRow : OpenClaim := { program := "ytlbbhgmpiednfaagreatdoor", sum := "1f8ff01ba857f777918619fd7c3fab13b86acc4541aee752b3d1bf40e022dfbf", func := "vestry/vestrylaw18.TupleParses", spec := "tupleParses", inPlace := ["internal/bytealg.IndexByteString", "internal/bytealg.IndexString", "internal/reflectlite.ValueOf", "(internal/reflectlite.Value).Type", "(internal/reflectlite.Value).IsNil", "internal/reflectlite.TypeOf", "(internal/reflectlite.Value).Elem", "(internal/reflectlite.Value).Set"], unfollowed := true, recurses := true, named := ["internal/bytealg.MaxLen", "vestry/name.reserved", "errors.errorType"], apart := false, laid := [("errors.errorType", laid_errors_errorType), ("vestry/name.reserved", laid_vestry_name_reserved)] }
def TupleParsesSaid : Prop := tupleParsesRow.holds Tryz.pinned (OpenSpec.ofChange tupleParsesSpec)

/-- ITS FALSE NEIGHBOUR: 'it returns false'. Refute it at one input. -/
def tupleParsesWrong : ChangeSpec := { name := "tupleParses", fn := fun _ => fun
  | [d] => { results := [.lit (.bool false)], args := [d] }
  | _ => none }
def TupleParsesWrongFalsely : Prop := tupleParsesRow.holds Tryz.pinned (OpenSpec.ofChange tupleParsesWrong)

/-- 'vestrylaw18.TupleReads': WHATEVER THE INPUT: true; the input reads as it did. -/
def tupleReadsSpec : ChangeSpec := { name := "tupleReads", fn := fun _ => fun
  | [d] => { results := [.lit (.bool true)], args := [d] }
  | _ => none }
def tupleReadsRow : OpenClaim := { program := "ytlbbhgmpiednfaagreatdoor", sum := "1f8ff01ba857f777918619fd7c3fab13b86acc4541aee752b3d1bf40e022dfbf", func := "vestry/vestrylaw18.TupleReads", spec := "tupleReads", inPlace := ["internal/bytealg.IndexByteString", "internal/bytealg.IndexString", "internal/reflectlite.ValueOf", "(internal/reflectlite.Value).Type", "(internal/reflectlite.Value).IsNil", "internal/reflectlite.TypeOf", "(internal/reflectlite.Value).Elem", "(internal/reflectlite.Value).Set"], unfollowed := true, recurses := true, named := ["internal/bytealg.MaxLen", "vestry/name.reserved", "errors.errorType"], apart := false, laid := [("errors.errorType", laid_errors_errorType), ("vestry/name.reserved", laid_vestry_name_reserved)] }
def TupleReadsSaid : Prop := tupleReadsRow.holds Tryz.pinned (OpenSpec.ofChange tupleReadsSpec)

/-- ITS FALSE NEIGHBOUR: 'it returns false'. Refute it at one input. -/
def tupleReadsWrong : ChangeSpec := { name := "tupleReads", fn := fun _ => fun
  | [d] => { results := [.lit (.bool false)], args := [d] }
  | _ => none }
def TupleReadsWrongFalsely : Prop := tupleReadsRow.holds Tryz.pinned (OpenSpec.ofChange tupleReadsWrong)

/- THE SECOND FORM. 'bulk': how many values and letters a reading holds, each counted each time it is reached (what is shared counts as often as it is met; a slice's spare places count too). A statement '..UptoSaid' is the law's where the arguments, and the package variables that the reading takes, are together of bulk at most 1048576: NARROWER than '..Said'. Prove '..Said' where nothing that the law and all that it calls make is longer than what came in: it says more and counts as full. Else prove '..UptoSaid'. A law counts once. -/
mutual
def uptoBulk {H : Type} : DataW H → Nat
  | .lit (.string bytes) => bytes.length + 1
  | .lit _ => 1
  | .nil => 1
  | .ptr d => uptoBulk d + 1
  | .slice elems spare => uptoBulkAll elems + uptoBulkAll spare + 1
  | .agg parts => uptoBulkAll parts + 1
  | .iface _ d => uptoBulk d + 1
  | .map entries => uptoBulkEntries entries + 1
  | .held _ => 1
def uptoBulkAll {H : Type} : List (DataW H) → Nat
  | [] => 0
  | d :: r => uptoBulk d + uptoBulkAll r
def uptoBulkEntries {H : Type} : List (Lit × DataW H) → Nat
  | [] => 0
  | x :: r => uptoBulkEntry x + uptoBulkEntries r
def uptoBulkEntry {H : Type} : Lit × DataW H → Nat
  | (.string bytes, d) => bytes.length + uptoBulk d + 1
  | (_, d) => uptoBulk d + 1
 end
def uptoSmall : (H : Type) → List (DataW H) → Bool := fun _ ds => decide (uptoBulkAll ds ≤ 1048576)
def OpenSpec.upto (s : _root_.Go.ChangeSpec) : _root_.Go.OpenSpec := { _root_.Go.OpenSpec.ofChange s with cond := some uptoSmall }

/-- 'vestrylaw18.TupleSorts', WHERE WHAT IT READS IS OF BULK AT MOST 1048576: true; the input reads as it did. -/
def tupleSortsUptoRow : OpenClaim := { program := "ytlbbhgmpiednfaagreatdoor", sum := "1f8ff01ba857f777918619fd7c3fab13b86acc4541aee752b3d1bf40e022dfbf", func := "vestry/vestrylaw18.TupleSorts", spec := "tupleSorts", inPlace := ["internal/bytealg.IndexByteString", "internal/bytealg.IndexString", "internal/reflectlite.ValueOf", "(internal/reflectlite.Value).Type", "(internal/reflectlite.Value).IsNil", "internal/reflectlite.TypeOf", "(internal/reflectlite.Value).Elem", "(internal/reflectlite.Value).Set"], unfollowed := true, recurses := true, named := ["internal/bytealg.MaxLen", "vestry/name.reserved", "errors.errorType"], apart := false, laid := [("errors.errorType", laid_errors_errorType), ("vestry/name.reserved", laid_vestry_name_reserved)], narrowed := true }
def TupleSortsUptoSaid : Prop := tupleSortsUptoRow.holds Tryz.pinned (OpenSpec.upto tupleSortsSpec)

/-- 'vestrylaw18.TupleApart', WHERE WHAT IT READS IS OF BULK AT MOST 1048576: true; the input reads as it did. -/
def tupleApartUptoRow : OpenClaim := { program := "ytlbbhgmpiednfaagreatdoor", sum := "1f8ff01ba857f777918619fd7c3fab13b86acc4541aee752b3d1bf40e022dfbf", func := "vestry/vestrylaw18.TupleApart", spec := "tupleApart", inPlace := ["internal/bytealg.IndexByteString", "internal/bytealg.IndexString", "internal/reflectlite.ValueOf", "(internal/reflectlite.Value).Type", "(internal/reflectlite.Value).IsNil", "internal/reflectlite.TypeOf", "(internal/reflectlite.Value).Elem", "(internal/reflectlite.Value).Set"], unfollowed := true, recurses := true, named := ["internal/bytealg.MaxLen", "vestry/name.reserved", "errors.errorType"], apart := false, laid := [("errors.errorType", laid_errors_errorType), ("vestry/name.reserved", laid_vestry_name_reserved)], narrowed := true }
def TupleApartUptoSaid : Prop := tupleApartUptoRow.holds Tryz.pinned (OpenSpec.upto tupleApartSpec)

/-- 'vestrylaw18.TupleMatchesReference', WHERE WHAT IT READS IS OF BULK AT MOST 1048576: true; the input reads as it did. -/
def tupleMatchesReferenceUptoRow : OpenClaim := { program := "ytlbbhgmpiednfaagreatdoor", sum := "1f8ff01ba857f777918619fd7c3fab13b86acc4541aee752b3d1bf40e022dfbf", func := "vestry/vestrylaw18.TupleMatchesReference", spec := "tupleMatchesReference", inPlace := ["internal/bytealg.IndexByteString", "internal/bytealg.IndexString", "internal/reflectlite.ValueOf", "(internal/reflectlite.Value).Type", "(internal/reflectlite.Value).IsNil", "internal/reflectlite.TypeOf", "(internal/reflectlite.Value).Elem", "(internal/reflectlite.Value).Set"], unfollowed := true, recurses := true, named := ["internal/bytealg.MaxLen", "vestry/name.reserved", "errors.errorType"], apart := false, laid := [("errors.errorType", laid_errors_errorType), ("vestry/name.reserved", laid_vestry_name_reserved)], narrowed := true }
def TupleMatchesReferenceUptoSaid : Prop := tupleMatchesReferenceUptoRow.holds Tryz.pinned (OpenSpec.upto tupleMatchesReferenceSpec)

/-- 'vestrylaw18.TupleParses', WHERE WHAT IT READS IS OF BULK AT MOST 1048576: true; the input reads as it did. -/
def tupleParsesUptoRow : OpenClaim := { program := "ytlbbhgmpiednfaagreatdoor", sum := "1f8ff01ba857f777918619fd7c3fab13b86acc4541aee752b3d1bf40e022dfbf", func := "vestry/vestrylaw18.TupleParses", spec := "tupleParses", inPlace := ["internal/bytealg.IndexByteString", "internal/bytealg.IndexString", "internal/reflectlite.ValueOf", "(internal/reflectlite.Value).Type", "(internal/reflectlite.Value).IsNil", "internal/reflectlite.TypeOf", "(internal/reflectlite.Value).Elem", "(internal/reflectlite.Value).Set"], unfollowed := true, recurses := true, named := ["internal/bytealg.MaxLen", "vestry/name.reserved", "errors.errorType"], apart := false, laid := [("errors.errorType", laid_errors_errorType), ("vestry/name.reserved", laid_vestry_name_reserved)], narrowed := true }
def TupleParsesUptoSaid : Prop := tupleParsesUptoRow.holds Tryz.pinned (OpenSpec.upto tupleParsesSpec)

/-- 'vestrylaw18.TupleReads', WHERE WHAT IT READS IS OF BULK AT MOST 1048576: true; the input reads as it did. -/
def tupleReadsUptoRow : OpenClaim := { program := "ytlbbhgmpiednfaagreatdoor", sum := "1f8ff01ba857f777918619fd7c3fab13b86acc4541aee752b3d1bf40e022dfbf", func := "vestry/vestrylaw18.TupleReads", spec := "tupleReads", inPlace := ["internal/bytealg.IndexByteString", "internal/bytealg.IndexString", "internal/reflectlite.ValueOf", "(internal/reflectlite.Value).Type", "(internal/reflectlite.Value).IsNil", "internal/reflectlite.TypeOf", "(internal/reflectlite.Value).Elem", "(internal/reflectlite.Value).Set"], unfollowed := true, recurses := true, named := ["internal/bytealg.MaxLen", "vestry/name.reserved", "errors.errorType"], apart := false, laid := [("errors.errorType", laid_errors_errorType), ("vestry/name.reserved", laid_vestry_name_reserved)], narrowed := true }
def TupleReadsUptoSaid : Prop := tupleReadsUptoRow.holds Tryz.pinned (OpenSpec.upto tupleReadsSpec)

end Rows
end Go.Proofs.YtlbbhgmpiednfaaGreatDoor
