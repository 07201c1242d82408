/-
  No cell of these rows narrows 'for every input' (looked for: loops, veiled, ifaces, maps, wideKeys, modest, calm, conditions, laid).
  DERIVED. THE GIVEN ROWS OF THIS SEAT. 5 by the template 'for every input the law returns true; each argument reads behind the call as it read before'; 0 by the template 'total and deterministic' (their statements: YtododekidopkhaaTotals.lean).
  GIVEN WITH THE SEED: the statements are not yours to turn. If you find one false, say at which input.
  Laid BY PROGRAM, IN A SANDBOX (cutbox-rows.mjs): the forced cells as the released guide's own fill.sh prints them over the translation 29f7f955d21a715d… (all of the seat's roots in one cut). By AI agents, Wed Nov 11 2026. No macro, syntax, notation, axiom, sorry.
-/
import Derived.Test.YtododekidopkhaaChecked
import GoSem.Claim
import GoSem.ClaimJoined
import GoSem.ClaimMapViews
import Derived.JoinedTies
import Derived.KernelRfl
namespace Go.Proofs.Ytododekidopkhaa
/- THE CELL 'sum', in the pinned program and in every row, IS THE sha256 OF THE DUMP (.gsa) THAT YtododekidopkhaaProg.lean LOADS. Nothing in Lean hashes anything: it is a label: what it is worth is what the hold of that sum in a sandbox is worth. -/
noncomputable def Try.pinned : Pinned := { name := "ytododekidopkhaa", sum := "29f7f955d21a715de7af197cfb2a49474a6bdc9180c5c7251dd8212713c68679", checked := Try.checked }
namespace Rows
def none {H : Type} : Left H := { results := [], args := [] }

/-- 'vestrylaw04.BaseMatchesReference': WHATEVER THE INPUT: true; the input reads as it did. -/
def baseMatchesReferenceSpec : ChangeSpec := { name := "baseMatchesReference", fn := fun _ => fun
  | [d] => { results := [.lit (.bool true)], args := [d] }
  | _ => none }
def baseMatchesReferenceRow : OpenClaim := { program := "ytododekidopkhaa", sum := "29f7f955d21a715de7af197cfb2a49474a6bdc9180c5c7251dd8212713c68679", func := "vestry/vestrylaw04.BaseMatchesReference", spec := "baseMatchesReference", inPlace := ["internal/bytealg.IndexByteString", "internal/abi.NoEscape"], unfollowed := true, recurses := true, apart := false }
def BaseMatchesReferenceSaid : Prop := baseMatchesReferenceRow.holds Try.pinned (OpenSpec.ofChange baseMatchesReferenceSpec)

/-- ITS FALSE NEIGHBOUR: 'it returns false'. Refute it at one input. -/
def baseMatchesReferenceWrong : ChangeSpec := { name := "baseMatchesReference", fn := fun _ => fun
  | [d] => { results := [.lit (.bool false)], args := [d] }
  | _ => none }
def BaseMatchesReferenceWrongFalsely : Prop := baseMatchesReferenceRow.holds Try.pinned (OpenSpec.ofChange baseMatchesReferenceWrong)

/-- 'vestrylaw04.BaseDecodes': WHATEVER THE INPUT: true; the input reads as it did. -/
def baseDecodesSpec : ChangeSpec := { name := "baseDecodes", fn := fun _ => fun
  | [d] => { results := [.lit (.bool true)], args := [d] }
  | _ => none }
def baseDecodesRow : OpenClaim := { program := "ytododekidopkhaa", sum := "29f7f955d21a715de7af197cfb2a49474a6bdc9180c5c7251dd8212713c68679", func := "vestry/vestrylaw04.BaseDecodes", spec := "baseDecodes", inPlace := ["internal/bytealg.IndexByteString", "internal/abi.NoEscape"], unfollowed := true, recurses := true, apart := false }
def BaseDecodesSaid : Prop := baseDecodesRow.holds Try.pinned (OpenSpec.ofChange baseDecodesSpec)

/-- ITS FALSE NEIGHBOUR: 'it returns false'. Refute it at one input. -/
def baseDecodesWrong : ChangeSpec := { name := "baseDecodes", fn := fun _ => fun
  | [d] => { results := [.lit (.bool false)], args := [d] }
  | _ => none }
def BaseDecodesWrongFalsely : Prop := baseDecodesRow.holds Try.pinned (OpenSpec.ofChange baseDecodesWrong)

/-- 'vestrylaw04.BaseSizes': WHATEVER THE INPUT: true; the input reads as it did. -/
def baseSizesSpec : ChangeSpec := { name := "baseSizes", fn := fun _ => fun
  | [d] => { results := [.lit (.bool true)], args := [d] }
  | _ => none }
def baseSizesRow : OpenClaim := { program := "ytododekidopkhaa", sum := "29f7f955d21a715de7af197cfb2a49474a6bdc9180c5c7251dd8212713c68679", func := "vestry/vestrylaw04.BaseSizes", spec := "baseSizes", inPlace := ["internal/bytealg.IndexByteString", "internal/abi.NoEscape"], unfollowed := true, recurses := true, apart := false }
def BaseSizesSaid : Prop := baseSizesRow.holds Try.pinned (OpenSpec.ofChange baseSizesSpec)

/-- ITS FALSE NEIGHBOUR: 'it returns false'. Refute it at one input. -/
def baseSizesWrong : ChangeSpec := { name := "baseSizes", fn := fun _ => fun
  | [d] => { results := [.lit (.bool false)], args := [d] }
  | _ => none }
def BaseSizesWrongFalsely : Prop := baseSizesRow.holds Try.pinned (OpenSpec.ofChange baseSizesWrong)

/-- 'vestrylaw04.BaseApart': WHATEVER THE INPUT: true; the input reads as it did. -/
def baseApartSpec : ChangeSpec := { name := "baseApart", fn := fun _ => fun
  | [d1, d2, d3] => { results := [.lit (.bool true)], args := [d1, d2, d3] }
  | _ => none }
def baseApartRow : OpenClaim := { program := "ytododekidopkhaa", sum := "29f7f955d21a715de7af197cfb2a49474a6bdc9180c5c7251dd8212713c68679", func := "vestry/vestrylaw04.BaseApart", spec := "baseApart", inPlace := ["internal/bytealg.IndexByteString", "internal/abi.NoEscape"], unfollowed := true, recurses := true, apart := false }
def BaseApartSaid : Prop := baseApartRow.holds Try.pinned (OpenSpec.ofChange baseApartSpec)

/-- ITS FALSE NEIGHBOUR: 'it returns false'. Refute it at one input. -/
def baseApartWrong : ChangeSpec := { name := "baseApart", fn := fun _ => fun
  | [d1, d2, d3] => { results := [.lit (.bool false)], args := [d1, d2, d3] }
  | _ => none }
def BaseApartWrongFalsely : Prop := baseApartRow.holds Try.pinned (OpenSpec.ofChange baseApartWrong)

/-- 'vestrylaw04.BaseSigns': WHATEVER THE INPUT: true; the input reads as it did. -/
def baseSignsSpec : ChangeSpec := { name := "baseSigns", fn := fun _ => fun
  | [d1, d2] => { results := [.lit (.bool true)], args := [d1, d2] }
  | _ => none }
def baseSignsRow : OpenClaim := { program := "ytododekidopkhaa", sum := "29f7f955d21a715de7af197cfb2a49474a6bdc9180c5c7251dd8212713c68679", func := "vestry/vestrylaw04.BaseSigns", spec := "baseSigns", inPlace := ["internal/bytealg.IndexByteString", "internal/abi.NoEscape"], unfollowed := true, recurses := true, apart := false }
def BaseSignsSaid : Prop := baseSignsRow.holds Try.pinned (OpenSpec.ofChange baseSignsSpec)

/-- ITS FALSE NEIGHBOUR: 'it returns false'. Refute it at one input. -/
def baseSignsWrong : ChangeSpec := { name := "baseSigns", fn := fun _ => fun
  | [d1, d2] => { results := [.lit (.bool false)], args := [d1, d2] }
  | _ => none }
def BaseSignsWrongFalsely : Prop := baseSignsRow.holds Try.pinned (OpenSpec.ofChange baseSignsWrong)

/- THE SECOND FORM. 'bulk': how many values and letters a reading holds, each counted each time it is reached (what is shared counts as often as it is met; a slice's spare places count too). A statement '..UptoSaid' is the law's where the arguments, and the package variables that the reading takes, are together of bulk at most 1048576: NARROWER than '..Said'. Prove '..Said' where nothing that the law and all that it calls make is longer than what came in: it says more and counts as full. Else prove '..UptoSaid'. A law counts once. -/
mutual
def uptoBulk {H : Type} : DataW H → Nat
  | .lit (.string bytes) => bytes.length + 1
  | .lit _ => 1
  | .nil => 1
  | .ptr d => uptoBulk d + 1
  | .slice elems spare => uptoBulkAll elems + uptoBulkAll spare + 1
  | .agg parts => uptoBulkAll parts + 1
  | .iface _ d => uptoBulk d + 1
  | .map entries => uptoBulkEntries entries + 1
  | .held _ => 1
def uptoBulkAll {H : Type} : List (DataW H) → Nat
  | [] => 0
  | d :: r => uptoBulk d + uptoBulkAll r
def uptoBulkEntries {H : Type} : List (Lit × DataW H) → Nat
  | [] => 0
  | x :: r => uptoBulkEntry x + uptoBulkEntries r
def uptoBulkEntry {H : Type} : Lit × DataW H → Nat
  | (.string bytes, d) => bytes.length + uptoBulk d + 1
  | (_, d) => uptoBulk d + 1
 end
def uptoSmall : (H : Type) → List (DataW H) → Bool := fun _ ds => decide (uptoBulkAll ds ≤ 1048576)
def OpenSpec.upto (s : _root_.Go.ChangeSpec) : _root_.Go.OpenSpec := { _root_.Go.OpenSpec.ofChange s with cond := some uptoSmall }

/-- 'vestrylaw04.BaseMatchesReference', WHERE WHAT IT READS IS OF BULK AT MOST 1048576: true; the input reads as it did. -/
def baseMatchesReferenceUptoRow : OpenClaim := { program := "ytododekidopkhaa", sum := "29f7f955d21a715de7af197cfb2a49474a6bdc9180c5c7251dd8212713c68679", func := "vestry/vestrylaw04.BaseMatchesReference", spec := "baseMatchesReference", inPlace := ["internal/bytealg.IndexByteString", "internal/abi.NoEscape"], unfollowed := true, recurses := true, apart := false, narrowed := true }
def BaseMatchesReferenceUptoSaid : Prop := baseMatchesReferenceUptoRow.holds Try.pinned (OpenSpec.upto baseMatchesReferenceSpec)

/-- 'vestrylaw04.BaseDecodes', WHERE WHAT IT READS IS OF BULK AT MOST 1048576: true; the input reads as it did. -/
def baseDecodesUptoRow : OpenClaim := { program := "ytododekidopkhaa", sum := "29f7f955d21a715de7af197cfb2a49474a6bdc9180c5c7251dd8212713c68679", func := "vestry/vestrylaw04.BaseDecodes", spec := "baseDecodes", inPlace := ["internal/bytealg.IndexByteString", "internal/abi.NoEscape"], unfollowed := true, recurses := true, apart := false, narrowed := true }
def BaseDecodesUptoSaid : Prop := baseDecodesUptoRow.holds Try.pinned (OpenSpec.upto baseDecodesSpec)

/-- 'vestrylaw04.BaseSizes', WHERE WHAT IT READS IS OF BULK AT MOST 1048576: true; the input reads as it did. -/
def baseSizesUptoRow : OpenClaim := { program := "ytododekidopkhaa", sum := "29f7f955d21a715de7af197cfb2a49474a6bdc9180c5c7251dd8212713c68679", func := "vestry/vestrylaw04.BaseSizes", spec := "baseSizes", inPlace := ["internal/bytealg.IndexByteString", "internal/abi.NoEscape"], unfollowed := true, recurses := true, apart := false, narrowed := true }
def BaseSizesUptoSaid : Prop := baseSizesUptoRow.holds Try.pinned (OpenSpec.upto baseSizesSpec)

/-- 'vestrylaw04.BaseApart', WHERE WHAT IT READS IS OF BULK AT MOST 1048576: true; the input reads as it did. -/
def baseApartUptoRow : OpenClaim := { program := "ytododekidopkhaa", sum := "29f7f955d21a715de7af197cfb2a49474a6bdc9180c5c7251dd8212713c68679", func := "vestry/vestrylaw04.BaseApart", spec := "baseApart", inPlace := ["internal/bytealg.IndexByteString", "internal/abi.NoEscape"], unfollowed := true, recurses := true, apart := false, narrowed := true }
def BaseApartUptoSaid : Prop := baseApartUptoRow.holds Try.pinned (OpenSpec.upto baseApartSpec)

/-- 'vestrylaw04.BaseSigns', WHERE WHAT IT READS IS OF BULK AT MOST 1048576: true; the input reads as it did. -/
def baseSignsUptoRow : OpenClaim := { program := "ytododekidopkhaa", sum := "29f7f955d21a715de7af197cfb2a49474a6bdc9180c5c7251dd8212713c68679", func := "vestry/vestrylaw04.BaseSigns", spec := "baseSigns", inPlace := ["internal/bytealg.IndexByteString", "internal/abi.NoEscape"], unfollowed := true, recurses := true, apart := false, narrowed := true }
def BaseSignsUptoSaid : Prop := baseSignsUptoRow.holds Try.pinned (OpenSpec.upto baseSignsSpec)

end Rows
end Go.Proofs.Ytododekidopkhaa
