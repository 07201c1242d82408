/-
  NARROWER THAN 'FOR EVERY INPUT', by the rows' own cells (each row's printed sentence says how): SchemaAllows: loops, laid.
  DERIVED. THE GIVEN ROWS OF THIS SEAT. 1 by the template 'for every input the law returns true; each argument reads behind the call as it read before'; 0 by the template 'total and deterministic' (their statements: YtohimcpfmkgefaaDoorTotals.lean).
  GIVEN WITH THE SEED: the statements are not yours to turn. If you find one false, say at which input.
  Laid BY PROGRAM, IN A SANDBOX (cutbox-rows.mjs): the forced cells as the released guide's own fill.sh prints them over the translation 2fc531b9721e1631… (all of the seat's roots in one cut). By AI agents, Wed Nov 11 2026. No macro, syntax, notation, axiom, sorry.
-/
import Derived.Test.YtohimcpfmkgefaaDoorChecked
import GoSem.Claim
import GoSem.ClaimJoined
import GoSem.ClaimMapViews
import Derived.JoinedTies
import Derived.KernelRfl
namespace Go.Proofs.YtohimcpfmkgefaaDoor
/- THE CELL 'sum', in the pinned program and in every row, IS THE sha256 OF THE DUMP (.gsa) THAT YtohimcpfmkgefaaDoorProg.lean LOADS. Nothing in Lean hashes anything: it is a label: what it is worth is what the hold of that sum in a sandbox is worth. -/
noncomputable def Tryd.pinned : Pinned := { name := "ytohimcpfmkgefaadoor", sum := "2fc531b9721e16316bc3d854bb8a1b512359782a02d190c3cc523454cf9da18e", checked := Tryd.checked }
namespace Rows
def none {H : Type} : Left H := { results := [], args := [] }

/- WHAT THE LISTED PACKAGE-LEVEL VARIABLES READ AS WHEN THE CALL BEGINS. Each datum BY PROGRAM (the guide's laid-datum.mjs) off the statement by which the dump's own 'gosem.cut.vars' lays the variable. In a bare row this is a premise. The card (YtohimcpfmkgefaaDoorCards.lean) ties it to the program's text. -/
def laid_vestry_name_reserved {H : Type} : DataW H := .agg [.lit (.string [100, 101, 102, 105, 110, 105, 116, 105, 111, 110]), .lit (.string [114, 101, 108, 97, 116, 105, 111, 110]), .lit (.string [112, 101, 114, 109, 105, 115, 115, 105, 111, 110])]

/-- 'vestrylaw11.SchemaAllows': WHATEVER THE INPUT: true; the input reads as it did. -/
def schemaAllowsSpec : ChangeSpec := { name := "schemaAllows", fn := fun _ => fun
  | [d1, d2] => { results := [.lit (.bool true)], args := [d1, d2] }
  | _ => none }
def schemaAllowsRow : OpenClaim := { program := "ytohimcpfmkgefaadoor", sum := "2fc531b9721e16316bc3d854bb8a1b512359782a02d190c3cc523454cf9da18e", func := "vestry/vestrylaw11.SchemaAllows", spec := "schemaAllows", inPlace := ["internal/bytealg.IndexByteString"], unfollowed := true, recurses := true, named := ["vestry/name.reserved"], loops := true, apart := false, laid := [("vestry/name.reserved", laid_vestry_name_reserved)] }
def SchemaAllowsSaid : Prop := schemaAllowsRow.holds Tryd.pinned (OpenSpec.ofChange schemaAllowsSpec)

/-- ITS FALSE NEIGHBOUR: 'it returns false'. Refute it at one input. -/
def schemaAllowsWrong : ChangeSpec := { name := "schemaAllows", fn := fun _ => fun
  | [d1, d2] => { results := [.lit (.bool false)], args := [d1, d2] }
  | _ => none }
def SchemaAllowsWrongFalsely : Prop := schemaAllowsRow.holds Tryd.pinned (OpenSpec.ofChange schemaAllowsWrong)

/- THE SECOND FORM. 'bulk': how many values and letters a reading holds, each counted each time it is reached (what is shared counts as often as it is met; a slice's spare places count too). A statement '..UptoSaid' is the law's where the arguments, and the package variables that the reading takes, are together of bulk at most 1048576: NARROWER than '..Said'. Prove '..Said' where nothing that the law and all that it calls make is longer than what came in: it says more and counts as full. Else prove '..UptoSaid'. A law counts once. -/
mutual
def uptoBulk {H : Type} : DataW H → Nat
  | .lit (.string bytes) => bytes.length + 1
  | .lit _ => 1
  | .nil => 1
  | .ptr d => uptoBulk d + 1
  | .slice elems spare => uptoBulkAll elems + uptoBulkAll spare + 1
  | .agg parts => uptoBulkAll parts + 1
  | .iface _ d => uptoBulk d + 1
  | .map entries => uptoBulkEntries entries + 1
  | .held _ => 1
def uptoBulkAll {H : Type} : List (DataW H) → Nat
  | [] => 0
  | d :: r => uptoBulk d + uptoBulkAll r
def uptoBulkEntries {H : Type} : List (Lit × DataW H) → Nat
  | [] => 0
  | x :: r => uptoBulkEntry x + uptoBulkEntries r
def uptoBulkEntry {H : Type} : Lit × DataW H → Nat
  | (.string bytes, d) => bytes.length + uptoBulk d + 1
  | (_, d) => uptoBulk d + 1
 end
def uptoSmall : (H : Type) → List (DataW H) → Bool := fun _ ds => decide (uptoBulkAll ds ≤ 1048576)
def OpenSpec.upto (s : _root_.Go.ChangeSpec) : _root_.Go.OpenSpec := { _root_.Go.OpenSpec.ofChange s with cond := some uptoSmall }

/-- 'vestrylaw11.SchemaAllows', WHERE WHAT IT READS IS OF BULK AT MOST 1048576: true; the input reads as it did. -/
def schemaAllowsUptoRow : OpenClaim := { program := "ytohimcpfmkgefaadoor", sum := "2fc531b9721e16316bc3d854bb8a1b512359782a02d190c3cc523454cf9da18e", func := "vestry/vestrylaw11.SchemaAllows", spec := "schemaAllows", inPlace := ["internal/bytealg.IndexByteString"], unfollowed := true, recurses := true, named := ["vestry/name.reserved"], loops := true, apart := false, laid := [("vestry/name.reserved", laid_vestry_name_reserved)], narrowed := true }
def SchemaAllowsUptoSaid : Prop := schemaAllowsUptoRow.holds Tryd.pinned (OpenSpec.upto schemaAllowsSpec)

end Rows
end Go.Proofs.YtohimcpfmkgefaaDoor
