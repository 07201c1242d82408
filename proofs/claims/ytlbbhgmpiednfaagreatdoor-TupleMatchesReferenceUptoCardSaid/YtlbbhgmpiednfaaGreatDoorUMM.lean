/- The law TupleMatchesReference: its row. -/
import Derived.Test.YtlbbhgmpiednfaaGreatDoorUM
import Derived.Test.YtlbbhgmpiednfaaGreatDoorUO
namespace Go.Proofs.YtlbbhgmpiednfaaGreatDoor.HTupLm
open Go.RowKit Go.Proofs.YtlbbhgmpiednfaaGreatDoorW.PrintWords Go.Proofs.YtlbbhgmpiednfaaGreatDoor.HLib Go.Proofs.YtlbbhgmpiednfaaGreatDoor.HTupP Go.Proofs.YtlbbhgmpiednfaaGreatDoor.HTupR Go.Proofs.YtlbbhgmpiednfaaGreatDoor.HTupG Go.Proofs.YtlbbhgmpiednfaaGreatDoor.HTupRf Go.Proofs.YtlbbhgmpiednfaaGreatDoor.HTupL1 Go.Proofs.YtlbbhgmpiednfaaGreatDoor.HTupOp Go.Proofs.YtlbbhgmpiednfaaGreatDoor.PTupleSorts
set_option linter.unusedVariables false
set_option maxRecDepth 100000
theorem match_any (a : Tp) (ha : sumP a ≤ 1048576) (w : World) (hG : GV w) : Calls Tryz.prog 5 #[tvv a] w fun e w' => e = .returned (.bool true) ∧ Below w.heap.size w w' := by
  cases h1 : shortP a with
  | false => exact match_0 a ha h1 w hG
  | true =>
    cases h3 : rightP a with
    | false => exact match_wrong a ha h1 h3 w hG
    | true => exact match_right a ha h1 h3 w hG
theorem row_matches (v0 : Value) (a0 : S32) (W : World) {base : Nat} (hv0 : Value.okWide Tryz.prog W .any base 32 v0) (k0 : k32.K W a0 v0.cells.toList) (ok0 : True) (b0 : sz32 a0 + 1 ≤ 1048576)
    (hG : GV W) : Calls Tryz.prog 5 #[v0] W fun e w' => e = .returned (.bool true) ∧ Below W.heap.size W w' := by
  obtain rfl := tup_of hv0 k0
  unfold sz32 at b0
  exact match_any (tp a0) (by unfold sumP; dsimp only [tp]; omega) W hG
end Go.Proofs.YtlbbhgmpiednfaaGreatDoor.HTupLm
