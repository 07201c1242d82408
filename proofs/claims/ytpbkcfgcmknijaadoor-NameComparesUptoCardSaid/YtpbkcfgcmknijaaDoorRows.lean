/-
  NARROWER THAN 'FOR EVERY INPUT', by the rows' own cells (each row's printed sentence says how): NameMatchesReference: laid · NameParses: laid · NameObjects: laid · NameAllowed: laid · NameCompares: laid.
  DERIVED. THE GIVEN ROWS OF THIS SEAT. 5 by the template 'for every input the law returns true; each argument reads behind the call as it read before'; 0 by the template 'total and deterministic' (their statements: YtpbkcfgcmknijaaDoorTotals.lean).
  GIVEN WITH THE SEED: the statements are not yours to turn. If you find one false, say at which input.
  Laid BY PROGRAM, IN A SANDBOX (cutbox-rows.mjs): the forced cells as the released guide's own fill.sh prints them over the translation d1c44f42cd93246f… (all of the seat's roots in one cut). By AI agents, Wed Nov 11 2026. No macro, syntax, notation, axiom, sorry.
-/
import Derived.Test.YtpbkcfgcmknijaaDoorChecked
import GoSem.Claim
import GoSem.ClaimJoined
import GoSem.ClaimMapViews
import Derived.JoinedTies
import Derived.KernelRfl
namespace Go.Proofs.YtpbkcfgcmknijaaDoor
/- THE CELL 'sum', in the pinned program and in every row, IS THE sha256 OF THE DUMP (.gsa) THAT YtpbkcfgcmknijaaDoorProg.lean LOADS. Nothing in Lean hashes anything: it is a label: what it is worth is what the hold of that sum in a sandbox is worth. -/
noncomputable def Tryd.pinned : Pinned := { name := "ytpbkcfgcmknijaadoor", sum := "d1c44f42cd93246fb898a7a83976599b0743f08d15904cd64460ca725ee8e770", checked := Tryd.checked }
namespace Rows
def none {H : Type} : Left H := { results := [], args := [] }

/- WHAT THE LISTED PACKAGE-LEVEL VARIABLES READ AS WHEN THE CALL BEGINS. Each datum BY PROGRAM (the guide's laid-datum.mjs) off the statement by which the dump's own 'gosem.cut.vars' lays the variable. In a bare row this is a premise. The card (YtpbkcfgcmknijaaDoorCards.lean) ties it to the program's text. -/
def laid_errors_errorType {H : Type} : DataW H := .iface "internal/reflectlite.rtype" (.agg [.ptr (.lit (.string [101, 114, 114, 111, 114]))])
def laid_vestry_name_reserved {H : Type} : DataW H := .agg [.lit (.string [100, 101, 102, 105, 110, 105, 116, 105, 111, 110]), .lit (.string [114, 101, 108, 97, 116, 105, 111, 110]), .lit (.string [112, 101, 114, 109, 105, 115, 115, 105, 111, 110])]

/-- 'vestrylaw08.NameMatchesReference': WHATEVER THE INPUT: true; the input reads as it did. -/
def nameMatchesReferenceSpec : ChangeSpec := { name := "nameMatchesReference", fn := fun _ => fun
  | [d] => { results := [.lit (.bool true)], args := [d] }
  | _ => none }
def nameMatchesReferenceRow : OpenClaim := { program := "ytpbkcfgcmknijaadoor", sum := "d1c44f42cd93246fb898a7a83976599b0743f08d15904cd64460ca725ee8e770", func := "vestry/vestrylaw08.NameMatchesReference", spec := "nameMatchesReference", inPlace := ["internal/bytealg.IndexByteString", "internal/bytealg.IndexString", "internal/reflectlite.ValueOf", "(internal/reflectlite.Value).Type", "(internal/reflectlite.Value).IsNil", "internal/reflectlite.TypeOf", "(internal/reflectlite.Value).Elem", "(internal/reflectlite.Value).Set"], unfollowed := true, recurses := true, named := ["internal/bytealg.MaxLen", "vestry/name.reserved", "errors.errorType"], apart := false, laid := [("errors.errorType", laid_errors_errorType), ("vestry/name.reserved", laid_vestry_name_reserved)] }
def NameMatchesReferenceSaid : Prop := nameMatchesReferenceRow.holds Tryd.pinned (OpenSpec.ofChange nameMatchesReferenceSpec)

/-- ITS FALSE NEIGHBOUR: 'it returns false'. Refute it at one input. -/
def nameMatchesReferenceWrong : ChangeSpec := { name := "nameMatchesReference", fn := fun _ => fun
  | [d] => { results := [.lit (.bool false)], args := [d] }
  | _ => none }
def NameMatchesReferenceWrongFalsely : Prop := nameMatchesReferenceRow.holds Tryd.pinned (OpenSpec.ofChange nameMatchesReferenceWrong)

/-- 'vestrylaw08.NameParses': WHATEVER THE INPUT: true; the input reads as it did. -/
def nameParsesSpec : ChangeSpec := { name := "nameParses", fn := fun _ => fun
  | [d] => { results := [.lit (.bool true)], args := [d] }
  | _ => none }
def nameParsesRow : OpenClaim := { program := "ytpbkcfgcmknijaadoor", sum := "d1c44f42cd93246fb898a7a83976599b0743f08d15904cd64460ca725ee8e770", func := "vestry/vestrylaw08.NameParses", spec := "nameParses", inPlace := ["internal/bytealg.IndexByteString", "internal/bytealg.IndexString", "internal/reflectlite.ValueOf", "(internal/reflectlite.Value).Type", "(internal/reflectlite.Value).IsNil", "internal/reflectlite.TypeOf", "(internal/reflectlite.Value).Elem", "(internal/reflectlite.Value).Set"], unfollowed := true, recurses := true, named := ["internal/bytealg.MaxLen", "vestry/name.reserved", "errors.errorType"], apart := false, laid := [("errors.errorType", laid_errors_errorType), ("vestry/name.reserved", laid_vestry_name_reserved)] }
def NameParsesSaid : Prop := nameParsesRow.holds Tryd.pinned (OpenSpec.ofChange nameParsesSpec)

/-- ITS FALSE NEIGHBOUR: 'it returns false'. Refute it at one input. -/
def nameParsesWrong : ChangeSpec := { name := "nameParses", fn := fun _ => fun
  | [d] => { results := [.lit (.bool false)], args := [d] }
  | _ => none }
def NameParsesWrongFalsely : Prop := nameParsesRow.holds Tryd.pinned (OpenSpec.ofChange nameParsesWrong)

/-- 'vestrylaw08.NameObjects': WHATEVER THE INPUT: true; the input reads as it did. -/
def nameObjectsSpec : ChangeSpec := { name := "nameObjects", fn := fun _ => fun
  | [d] => { results := [.lit (.bool true)], args := [d] }
  | _ => none }
def nameObjectsRow : OpenClaim := { program := "ytpbkcfgcmknijaadoor", sum := "d1c44f42cd93246fb898a7a83976599b0743f08d15904cd64460ca725ee8e770", func := "vestry/vestrylaw08.NameObjects", spec := "nameObjects", inPlace := ["internal/bytealg.IndexByteString", "internal/bytealg.IndexString", "internal/reflectlite.ValueOf", "(internal/reflectlite.Value).Type", "(internal/reflectlite.Value).IsNil", "internal/reflectlite.TypeOf", "(internal/reflectlite.Value).Elem", "(internal/reflectlite.Value).Set"], unfollowed := true, recurses := true, named := ["internal/bytealg.MaxLen", "vestry/name.reserved", "errors.errorType"], apart := false, laid := [("errors.errorType", laid_errors_errorType), ("vestry/name.reserved", laid_vestry_name_reserved)] }
def NameObjectsSaid : Prop := nameObjectsRow.holds Tryd.pinned (OpenSpec.ofChange nameObjectsSpec)

/-- ITS FALSE NEIGHBOUR: 'it returns false'. Refute it at one input. -/
def nameObjectsWrong : ChangeSpec := { name := "nameObjects", fn := fun _ => fun
  | [d] => { results := [.lit (.bool false)], args := [d] }
  | _ => none }
def NameObjectsWrongFalsely : Prop := nameObjectsRow.holds Tryd.pinned (OpenSpec.ofChange nameObjectsWrong)

/-- 'vestrylaw08.NameAllowed': WHATEVER THE INPUT: true; the input reads as it did. -/
def nameAllowedSpec : ChangeSpec := { name := "nameAllowed", fn := fun _ => fun
  | [d] => { results := [.lit (.bool true)], args := [d] }
  | _ => none }
def nameAllowedRow : OpenClaim := { program := "ytpbkcfgcmknijaadoor", sum := "d1c44f42cd93246fb898a7a83976599b0743f08d15904cd64460ca725ee8e770", func := "vestry/vestrylaw08.NameAllowed", spec := "nameAllowed", inPlace := ["internal/bytealg.IndexByteString", "internal/bytealg.IndexString", "internal/reflectlite.ValueOf", "(internal/reflectlite.Value).Type", "(internal/reflectlite.Value).IsNil", "internal/reflectlite.TypeOf", "(internal/reflectlite.Value).Elem", "(internal/reflectlite.Value).Set"], unfollowed := true, recurses := true, named := ["internal/bytealg.MaxLen", "vestry/name.reserved", "errors.errorType"], apart := false, laid := [("errors.errorType", laid_errors_errorType), ("vestry/name.reserved", laid_vestry_name_reserved)] }
def NameAllowedSaid : Prop := nameAllowedRow.holds Tryd.pinned (OpenSpec.ofChange nameAllowedSpec)

/-- ITS FALSE NEIGHBOUR: 'it returns false'. Refute it at one input. -/
def nameAllowedWrong : ChangeSpec := { name := "nameAllowed", fn := fun _ => fun
  | [d] => { results := [.lit (.bool false)], args := [d] }
  | _ => none }
def NameAllowedWrongFalsely : Prop := nameAllowedRow.holds Tryd.pinned (OpenSpec.ofChange nameAllowedWrong)

/-- 'vestrylaw08.NameCompares': WHATEVER THE INPUT: true; the input reads as it did. -/
def nameComparesSpec : ChangeSpec := { name := "nameCompares", fn := fun _ => fun
  | [d1, d2, d3] => { results := [.lit (.bool true)], args := [d1, d2, d3] }
  | _ => none }
def nameComparesRow : OpenClaim := { program := "ytpbkcfgcmknijaadoor", sum := "d1c44f42cd93246fb898a7a83976599b0743f08d15904cd64460ca725ee8e770", func := "vestry/vestrylaw08.NameCompares", spec := "nameCompares", inPlace := ["internal/bytealg.IndexByteString", "internal/bytealg.IndexString", "internal/reflectlite.ValueOf", "(internal/reflectlite.Value).Type", "(internal/reflectlite.Value).IsNil", "internal/reflectlite.TypeOf", "(internal/reflectlite.Value).Elem", "(internal/reflectlite.Value).Set"], unfollowed := true, recurses := true, named := ["internal/bytealg.MaxLen", "vestry/name.reserved", "errors.errorType"], apart := false, laid := [("errors.errorType", laid_errors_errorType), ("vestry/name.reserved", laid_vestry_name_reserved)] }
def NameComparesSaid : Prop := nameComparesRow.holds Tryd.pinned (OpenSpec.ofChange nameComparesSpec)

/-- ITS FALSE NEIGHBOUR: 'it returns false'. Refute it at one input. -/
def nameComparesWrong : ChangeSpec := { name := "nameCompares", fn := fun _ => fun
  | [d1, d2, d3] => { results := [.lit (.bool false)], args := [d1, d2, d3] }
  | _ => none }
def NameComparesWrongFalsely : Prop := nameComparesRow.holds Tryd.pinned (OpenSpec.ofChange nameComparesWrong)

/- THE SECOND FORM. 'bulk': how many values and letters a reading holds, each counted each time it is reached (what is shared counts as often as it is met; a slice's spare places count too). A statement '..UptoSaid' is the law's where the arguments, and the package variables that the reading takes, are together of bulk at most 1048576: NARROWER than '..Said'. Prove '..Said' where nothing that the law and all that it calls make is longer than what came in: it says more and counts as full. Else prove '..UptoSaid'. A law counts once. -/
mutual
def uptoBulk {H : Type} : DataW H → Nat
  | .lit (.string bytes) => bytes.length + 1
  | .lit _ => 1
  | .nil => 1
  | .ptr d => uptoBulk d + 1
  | .slice elems spare => uptoBulkAll elems + uptoBulkAll spare + 1
  | .agg parts => uptoBulkAll parts + 1
  | .iface _ d => uptoBulk d + 1
  | .map entries => uptoBulkEntries entries + 1
  | .held _ => 1
def uptoBulkAll {H : Type} : List (DataW H) → Nat
  | [] => 0
  | d :: r => uptoBulk d + uptoBulkAll r
def uptoBulkEntries {H : Type} : List (Lit × DataW H) → Nat
  | [] => 0
  | x :: r => uptoBulkEntry x + uptoBulkEntries r
def uptoBulkEntry {H : Type} : Lit × DataW H → Nat
  | (.string bytes, d) => bytes.length + uptoBulk d + 1
  | (_, d) => uptoBulk d + 1
 end
def uptoSmall : (H : Type) → List (DataW H) → Bool := fun _ ds => decide (uptoBulkAll ds ≤ 1048576)
def OpenSpec.upto (s : _root_.Go.ChangeSpec) : _root_.Go.OpenSpec := { _root_.Go.OpenSpec.ofChange s with cond := some uptoSmall }

/-- 'vestrylaw08.NameMatchesReference', WHERE WHAT IT READS IS OF BULK AT MOST 1048576: true; the input reads as it did. -/
def nameMatchesReferenceUptoRow : OpenClaim := { program := "ytpbkcfgcmknijaadoor", sum := "d1c44f42cd93246fb898a7a83976599b0743f08d15904cd64460ca725ee8e770", func := "vestry/vestrylaw08.NameMatchesReference", spec := "nameMatchesReference", inPlace := ["internal/bytealg.IndexByteString", "internal/bytealg.IndexString", "internal/reflectlite.ValueOf", "(internal/reflectlite.Value).Type", "(internal/reflectlite.Value).IsNil", "internal/reflectlite.TypeOf", "(internal/reflectlite.Value).Elem", "(internal/reflectlite.Value).Set"], unfollowed := true, recurses := true, named := ["internal/bytealg.MaxLen", "vestry/name.reserved", "errors.errorType"], apart := false, laid := [("errors.errorType", laid_errors_errorType), ("vestry/name.reserved", laid_vestry_name_reserved)], narrowed := true }
def NameMatchesReferenceUptoSaid : Prop := nameMatchesReferenceUptoRow.holds Tryd.pinned (OpenSpec.upto nameMatchesReferenceSpec)

/-- 'vestrylaw08.NameParses', WHERE WHAT IT READS IS OF BULK AT MOST 1048576: true; the input reads as it did. -/
def nameParsesUptoRow : OpenClaim := { program := "ytpbkcfgcmknijaadoor", sum := "d1c44f42cd93246fb898a7a83976599b0743f08d15904cd64460ca725ee8e770", func := "vestry/vestrylaw08.NameParses", spec := "nameParses", inPlace := ["internal/bytealg.IndexByteString", "internal/bytealg.IndexString", "internal/reflectlite.ValueOf", "(internal/reflectlite.Value).Type", "(internal/reflectlite.Value).IsNil", "internal/reflectlite.TypeOf", "(internal/reflectlite.Value).Elem", "(internal/reflectlite.Value).Set"], unfollowed := true, recurses := true, named := ["internal/bytealg.MaxLen", "vestry/name.reserved", "errors.errorType"], apart := false, laid := [("errors.errorType", laid_errors_errorType), ("vestry/name.reserved", laid_vestry_name_reserved)], narrowed := true }
def NameParsesUptoSaid : Prop := nameParsesUptoRow.holds Tryd.pinned (OpenSpec.upto nameParsesSpec)

/-- 'vestrylaw08.NameObjects', WHERE WHAT IT READS IS OF BULK AT MOST 1048576: true; the input reads as it did. -/
def nameObjectsUptoRow : OpenClaim := { program := "ytpbkcfgcmknijaadoor", sum := "d1c44f42cd93246fb898a7a83976599b0743f08d15904cd64460ca725ee8e770", func := "vestry/vestrylaw08.NameObjects", spec := "nameObjects", inPlace := ["internal/bytealg.IndexByteString", "internal/bytealg.IndexString", "internal/reflectlite.ValueOf", "(internal/reflectlite.Value).Type", "(internal/reflectlite.Value).IsNil", "internal/reflectlite.TypeOf", "(internal/reflectlite.Value).Elem", "(internal/reflectlite.Value).Set"], unfollowed := true, recurses := true, named := ["internal/bytealg.MaxLen", "vestry/name.reserved", "errors.errorType"], apart := false, laid := [("errors.errorType", laid_errors_errorType), ("vestry/name.reserved", laid_vestry_name_reserved)], narrowed := true }
def NameObjectsUptoSaid : Prop := nameObjectsUptoRow.holds Tryd.pinned (OpenSpec.upto nameObjectsSpec)

/-- 'vestrylaw08.NameAllowed', WHERE WHAT IT READS IS OF BULK AT MOST 1048576: true; the input reads as it did. -/
def nameAllowedUptoRow : OpenClaim := { program := "ytpbkcfgcmknijaadoor", sum := "d1c44f42cd93246fb898a7a83976599b0743f08d15904cd64460ca725ee8e770", func := "vestry/vestrylaw08.NameAllowed", spec := "nameAllowed", inPlace := ["internal/bytealg.IndexByteString", "internal/bytealg.IndexString", "internal/reflectlite.ValueOf", "(internal/reflectlite.Value).Type", "(internal/reflectlite.Value).IsNil", "internal/reflectlite.TypeOf", "(internal/reflectlite.Value).Elem", "(internal/reflectlite.Value).Set"], unfollowed := true, recurses := true, named := ["internal/bytealg.MaxLen", "vestry/name.reserved", "errors.errorType"], apart := false, laid := [("errors.errorType", laid_errors_errorType), ("vestry/name.reserved", laid_vestry_name_reserved)], narrowed := true }
def NameAllowedUptoSaid : Prop := nameAllowedUptoRow.holds Tryd.pinned (OpenSpec.upto nameAllowedSpec)

/-- 'vestrylaw08.NameCompares', WHERE WHAT IT READS IS OF BULK AT MOST 1048576: true; the input reads as it did. -/
def nameComparesUptoRow : OpenClaim := { program := "ytpbkcfgcmknijaadoor", sum := "d1c44f42cd93246fb898a7a83976599b0743f08d15904cd64460ca725ee8e770", func := "vestry/vestrylaw08.NameCompares", spec := "nameCompares", inPlace := ["internal/bytealg.IndexByteString", "internal/bytealg.IndexString", "internal/reflectlite.ValueOf", "(internal/reflectlite.Value).Type", "(internal/reflectlite.Value).IsNil", "internal/reflectlite.TypeOf", "(internal/reflectlite.Value).Elem", "(internal/reflectlite.Value).Set"], unfollowed := true, recurses := true, named := ["internal/bytealg.MaxLen", "vestry/name.reserved", "errors.errorType"], apart := false, laid := [("errors.errorType", laid_errors_errorType), ("vestry/name.reserved", laid_vestry_name_reserved)], narrowed := true }
def NameComparesUptoSaid : Prop := nameComparesUptoRow.holds Tryd.pinned (OpenSpec.upto nameComparesSpec)

end Rows
end Go.Proofs.YtpbkcfgcmknijaaDoor
