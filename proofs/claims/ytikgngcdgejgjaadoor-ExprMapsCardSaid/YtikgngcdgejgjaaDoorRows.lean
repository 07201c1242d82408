/-
  NARROWER THAN 'FOR EVERY INPUT', by the rows' own cells (each row's printed sentence says how): ExprMatchesReference: loops, laid · ExprCompares: loops, laid · ExprTexts: loops, laid · ExprLeaves: loops, laid · ExprMaps: loops, laid.
  DERIVED. THE GIVEN ROWS OF THIS SEAT. 5 by the template 'for every input the law returns true; each argument reads behind the call as it read before'; 0 by the template 'total and deterministic' (their statements: YtikgngcdgejgjaaDoorTotals.lean).
  GIVEN WITH THE SEED: the statements are not yours to turn. If you find one false, say at which input.
  Laid BY PROGRAM, IN A SANDBOX (cutbox-rows.mjs): the forced cells as the released guide's own fill.sh prints them over the translation 029583cbaa2bce8c… (all of the seat's roots in one cut). By AI agents, Wed Nov 11 2026. No macro, syntax, notation, axiom, sorry.
-/
import Derived.Test.YtikgngcdgejgjaaDoorChecked
import GoSem.Claim
import GoSem.ClaimJoined
import GoSem.ClaimMapViews
import Derived.JoinedTies
import Derived.KernelRfl
namespace Go.Proofs.YtikgngcdgejgjaaDoor
/- THE CELL 'sum', in the pinned program and in every row, IS THE sha256 OF THE DUMP (.gsa) THAT YtikgngcdgejgjaaDoorProg.lean LOADS. Nothing in Lean hashes anything: it is a label: what it is worth is what the hold of that sum in a sandbox is worth. -/
noncomputable def Tryd.pinned : Pinned := { name := "ytikgngcdgejgjaadoor", sum := "029583cbaa2bce8cfc24cb2cfb8842163949b6536322416fd21793b605822d3a", checked := Tryd.checked }
namespace Rows
def none {H : Type} : Left H := { results := [], args := [] }

/- WHAT THE LISTED PACKAGE-LEVEL VARIABLES READ AS WHEN THE CALL BEGINS. Each datum BY PROGRAM (the guide's laid-datum.mjs) off the statement by which the dump's own 'gosem.cut.vars' lays the variable. In a bare row this is a premise. The card (YtikgngcdgejgjaaDoorCards.lean) ties it to the program's text. -/
def laid_vestry_name_reserved {H : Type} : DataW H := .agg [.lit (.string [100, 101, 102, 105, 110, 105, 116, 105, 111, 110]), .lit (.string [114, 101, 108, 97, 116, 105, 111, 110]), .lit (.string [112, 101, 114, 109, 105, 115, 115, 105, 111, 110])]

/-- 'vestrylaw10.ExprMatchesReference': WHATEVER THE INPUT: true; the input reads as it did. -/
def exprMatchesReferenceSpec : ChangeSpec := { name := "exprMatchesReference", fn := fun _ => fun
  | [d] => { results := [.lit (.bool true)], args := [d] }
  | _ => none }
def exprMatchesReferenceRow : OpenClaim := { program := "ytikgngcdgejgjaadoor", sum := "029583cbaa2bce8cfc24cb2cfb8842163949b6536322416fd21793b605822d3a", func := "vestry/vestrylaw10.ExprMatchesReference", spec := "exprMatchesReference", inPlace := ["internal/bytealg.IndexByteString", "internal/abi.NoEscape", "internal/bytealg.MakeNoZero"], unfollowed := true, recurses := true, named := ["vestry/name.reserved"], loops := true, apart := false, laid := [("vestry/name.reserved", laid_vestry_name_reserved)] }
def ExprMatchesReferenceSaid : Prop := exprMatchesReferenceRow.holds Tryd.pinned (OpenSpec.ofChange exprMatchesReferenceSpec)

/-- ITS FALSE NEIGHBOUR: 'it returns false'. Refute it at one input. -/
def exprMatchesReferenceWrong : ChangeSpec := { name := "exprMatchesReference", fn := fun _ => fun
  | [d] => { results := [.lit (.bool false)], args := [d] }
  | _ => none }
def ExprMatchesReferenceWrongFalsely : Prop := exprMatchesReferenceRow.holds Tryd.pinned (OpenSpec.ofChange exprMatchesReferenceWrong)

/-- 'vestrylaw10.ExprCompares': WHATEVER THE INPUT: true; the input reads as it did. -/
def exprComparesSpec : ChangeSpec := { name := "exprCompares", fn := fun _ => fun
  | [d1, d2, d3] => { results := [.lit (.bool true)], args := [d1, d2, d3] }
  | _ => none }
def exprComparesRow : OpenClaim := { program := "ytikgngcdgejgjaadoor", sum := "029583cbaa2bce8cfc24cb2cfb8842163949b6536322416fd21793b605822d3a", func := "vestry/vestrylaw10.ExprCompares", spec := "exprCompares", inPlace := ["internal/bytealg.IndexByteString", "internal/abi.NoEscape", "internal/bytealg.MakeNoZero"], unfollowed := true, recurses := true, named := ["vestry/name.reserved"], loops := true, apart := false, laid := [("vestry/name.reserved", laid_vestry_name_reserved)] }
def ExprComparesSaid : Prop := exprComparesRow.holds Tryd.pinned (OpenSpec.ofChange exprComparesSpec)

/-- ITS FALSE NEIGHBOUR: 'it returns false'. Refute it at one input. -/
def exprComparesWrong : ChangeSpec := { name := "exprCompares", fn := fun _ => fun
  | [d1, d2, d3] => { results := [.lit (.bool false)], args := [d1, d2, d3] }
  | _ => none }
def ExprComparesWrongFalsely : Prop := exprComparesRow.holds Tryd.pinned (OpenSpec.ofChange exprComparesWrong)

/-- 'vestrylaw10.ExprTexts': WHATEVER THE INPUT: true; the input reads as it did. -/
def exprTextsSpec : ChangeSpec := { name := "exprTexts", fn := fun _ => fun
  | [d1, d2] => { results := [.lit (.bool true)], args := [d1, d2] }
  | _ => none }
def exprTextsRow : OpenClaim := { program := "ytikgngcdgejgjaadoor", sum := "029583cbaa2bce8cfc24cb2cfb8842163949b6536322416fd21793b605822d3a", func := "vestry/vestrylaw10.ExprTexts", spec := "exprTexts", inPlace := ["internal/bytealg.IndexByteString", "internal/abi.NoEscape", "internal/bytealg.MakeNoZero"], unfollowed := true, recurses := true, named := ["vestry/name.reserved"], loops := true, apart := false, laid := [("vestry/name.reserved", laid_vestry_name_reserved)] }
def ExprTextsSaid : Prop := exprTextsRow.holds Tryd.pinned (OpenSpec.ofChange exprTextsSpec)

/-- ITS FALSE NEIGHBOUR: 'it returns false'. Refute it at one input. -/
def exprTextsWrong : ChangeSpec := { name := "exprTexts", fn := fun _ => fun
  | [d1, d2] => { results := [.lit (.bool false)], args := [d1, d2] }
  | _ => none }
def ExprTextsWrongFalsely : Prop := exprTextsRow.holds Tryd.pinned (OpenSpec.ofChange exprTextsWrong)

/-- 'vestrylaw10.ExprLeaves': WHATEVER THE INPUT: true; the input reads as it did. -/
def exprLeavesSpec : ChangeSpec := { name := "exprLeaves", fn := fun _ => fun
  | [d1, d2] => { results := [.lit (.bool true)], args := [d1, d2] }
  | _ => none }
def exprLeavesRow : OpenClaim := { program := "ytikgngcdgejgjaadoor", sum := "029583cbaa2bce8cfc24cb2cfb8842163949b6536322416fd21793b605822d3a", func := "vestry/vestrylaw10.ExprLeaves", spec := "exprLeaves", inPlace := ["internal/bytealg.IndexByteString", "internal/abi.NoEscape", "internal/bytealg.MakeNoZero"], unfollowed := true, recurses := true, named := ["vestry/name.reserved"], loops := true, apart := false, laid := [("vestry/name.reserved", laid_vestry_name_reserved)] }
def ExprLeavesSaid : Prop := exprLeavesRow.holds Tryd.pinned (OpenSpec.ofChange exprLeavesSpec)

/-- ITS FALSE NEIGHBOUR: 'it returns false'. Refute it at one input. -/
def exprLeavesWrong : ChangeSpec := { name := "exprLeaves", fn := fun _ => fun
  | [d1, d2] => { results := [.lit (.bool false)], args := [d1, d2] }
  | _ => none }
def ExprLeavesWrongFalsely : Prop := exprLeavesRow.holds Tryd.pinned (OpenSpec.ofChange exprLeavesWrong)

/-- 'vestrylaw10.ExprMaps': WHATEVER THE INPUT: true; the input reads as it did. -/
def exprMapsSpec : ChangeSpec := { name := "exprMaps", fn := fun _ => fun
  | [d] => { results := [.lit (.bool true)], args := [d] }
  | _ => none }
def exprMapsRow : OpenClaim := { program := "ytikgngcdgejgjaadoor", sum := "029583cbaa2bce8cfc24cb2cfb8842163949b6536322416fd21793b605822d3a", func := "vestry/vestrylaw10.ExprMaps", spec := "exprMaps", inPlace := ["internal/bytealg.IndexByteString", "internal/abi.NoEscape", "internal/bytealg.MakeNoZero"], unfollowed := true, recurses := true, named := ["vestry/name.reserved"], loops := true, apart := false, laid := [("vestry/name.reserved", laid_vestry_name_reserved)] }
def ExprMapsSaid : Prop := exprMapsRow.holds Tryd.pinned (OpenSpec.ofChange exprMapsSpec)

/-- ITS FALSE NEIGHBOUR: 'it returns false'. Refute it at one input. -/
def exprMapsWrong : ChangeSpec := { name := "exprMaps", fn := fun _ => fun
  | [d] => { results := [.lit (.bool false)], args := [d] }
  | _ => none }
def ExprMapsWrongFalsely : Prop := exprMapsRow.holds Tryd.pinned (OpenSpec.ofChange exprMapsWrong)

/- THE SECOND FORM. 'bulk': how many values and letters a reading holds, each counted each time it is reached (what is shared counts as often as it is met; a slice's spare places count too). A statement '..UptoSaid' is the law's where the arguments, and the package variables that the reading takes, are together of bulk at most 1048576: NARROWER than '..Said'. Prove '..Said' where nothing that the law and all that it calls make is longer than what came in: it says more and counts as full. Else prove '..UptoSaid'. A law counts once. -/
mutual
def uptoBulk {H : Type} : DataW H → Nat
  | .lit (.string bytes) => bytes.length + 1
  | .lit _ => 1
  | .nil => 1
  | .ptr d => uptoBulk d + 1
  | .slice elems spare => uptoBulkAll elems + uptoBulkAll spare + 1
  | .agg parts => uptoBulkAll parts + 1
  | .iface _ d => uptoBulk d + 1
  | .map entries => uptoBulkEntries entries + 1
  | .held _ => 1
def uptoBulkAll {H : Type} : List (DataW H) → Nat
  | [] => 0
  | d :: r => uptoBulk d + uptoBulkAll r
def uptoBulkEntries {H : Type} : List (Lit × DataW H) → Nat
  | [] => 0
  | x :: r => uptoBulkEntry x + uptoBulkEntries r
def uptoBulkEntry {H : Type} : Lit × DataW H → Nat
  | (.string bytes, d) => bytes.length + uptoBulk d + 1
  | (_, d) => uptoBulk d + 1
 end
def uptoSmall : (H : Type) → List (DataW H) → Bool := fun _ ds => decide (uptoBulkAll ds ≤ 1048576)
def OpenSpec.upto (s : _root_.Go.ChangeSpec) : _root_.Go.OpenSpec := { _root_.Go.OpenSpec.ofChange s with cond := some uptoSmall }

/-- 'vestrylaw10.ExprMatchesReference', WHERE WHAT IT READS IS OF BULK AT MOST 1048576: true; the input reads as it did. -/
def exprMatchesReferenceUptoRow : OpenClaim := { program := "ytikgngcdgejgjaadoor", sum := "029583cbaa2bce8cfc24cb2cfb8842163949b6536322416fd21793b605822d3a", func := "vestry/vestrylaw10.ExprMatchesReference", spec := "exprMatchesReference", inPlace := ["internal/bytealg.IndexByteString", "internal/abi.NoEscape", "internal/bytealg.MakeNoZero"], unfollowed := true, recurses := true, named := ["vestry/name.reserved"], loops := true, apart := false, laid := [("vestry/name.reserved", laid_vestry_name_reserved)], narrowed := true }
def ExprMatchesReferenceUptoSaid : Prop := exprMatchesReferenceUptoRow.holds Tryd.pinned (OpenSpec.upto exprMatchesReferenceSpec)

/-- 'vestrylaw10.ExprCompares', WHERE WHAT IT READS IS OF BULK AT MOST 1048576: true; the input reads as it did. -/
def exprComparesUptoRow : OpenClaim := { program := "ytikgngcdgejgjaadoor", sum := "029583cbaa2bce8cfc24cb2cfb8842163949b6536322416fd21793b605822d3a", func := "vestry/vestrylaw10.ExprCompares", spec := "exprCompares", inPlace := ["internal/bytealg.IndexByteString", "internal/abi.NoEscape", "internal/bytealg.MakeNoZero"], unfollowed := true, recurses := true, named := ["vestry/name.reserved"], loops := true, apart := false, laid := [("vestry/name.reserved", laid_vestry_name_reserved)], narrowed := true }
def ExprComparesUptoSaid : Prop := exprComparesUptoRow.holds Tryd.pinned (OpenSpec.upto exprComparesSpec)

/-- 'vestrylaw10.ExprTexts', WHERE WHAT IT READS IS OF BULK AT MOST 1048576: true; the input reads as it did. -/
def exprTextsUptoRow : OpenClaim := { program := "ytikgngcdgejgjaadoor", sum := "029583cbaa2bce8cfc24cb2cfb8842163949b6536322416fd21793b605822d3a", func := "vestry/vestrylaw10.ExprTexts", spec := "exprTexts", inPlace := ["internal/bytealg.IndexByteString", "internal/abi.NoEscape", "internal/bytealg.MakeNoZero"], unfollowed := true, recurses := true, named := ["vestry/name.reserved"], loops := true, apart := false, laid := [("vestry/name.reserved", laid_vestry_name_reserved)], narrowed := true }
def ExprTextsUptoSaid : Prop := exprTextsUptoRow.holds Tryd.pinned (OpenSpec.upto exprTextsSpec)

/-- 'vestrylaw10.ExprLeaves', WHERE WHAT IT READS IS OF BULK AT MOST 1048576: true; the input reads as it did. -/
def exprLeavesUptoRow : OpenClaim := { program := "ytikgngcdgejgjaadoor", sum := "029583cbaa2bce8cfc24cb2cfb8842163949b6536322416fd21793b605822d3a", func := "vestry/vestrylaw10.ExprLeaves", spec := "exprLeaves", inPlace := ["internal/bytealg.IndexByteString", "internal/abi.NoEscape", "internal/bytealg.MakeNoZero"], unfollowed := true, recurses := true, named := ["vestry/name.reserved"], loops := true, apart := false, laid := [("vestry/name.reserved", laid_vestry_name_reserved)], narrowed := true }
def ExprLeavesUptoSaid : Prop := exprLeavesUptoRow.holds Tryd.pinned (OpenSpec.upto exprLeavesSpec)

/-- 'vestrylaw10.ExprMaps', WHERE WHAT IT READS IS OF BULK AT MOST 1048576: true; the input reads as it did. -/
def exprMapsUptoRow : OpenClaim := { program := "ytikgngcdgejgjaadoor", sum := "029583cbaa2bce8cfc24cb2cfb8842163949b6536322416fd21793b605822d3a", func := "vestry/vestrylaw10.ExprMaps", spec := "exprMaps", inPlace := ["internal/bytealg.IndexByteString", "internal/abi.NoEscape", "internal/bytealg.MakeNoZero"], unfollowed := true, recurses := true, named := ["vestry/name.reserved"], loops := true, apart := false, laid := [("vestry/name.reserved", laid_vestry_name_reserved)], narrowed := true }
def ExprMapsUptoSaid : Prop := exprMapsUptoRow.holds Tryd.pinned (OpenSpec.upto exprMapsSpec)

end Rows
end Go.Proofs.YtikgngcdgejgjaaDoor
