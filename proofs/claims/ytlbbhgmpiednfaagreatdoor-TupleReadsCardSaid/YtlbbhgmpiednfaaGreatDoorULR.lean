/- The law TupleReads: its row. -/
import Derived.Test.YtlbbhgmpiednfaaGreatDoorUL3
import Derived.Test.YtlbbhgmpiednfaaGreatDoorUOB
namespace Go.Proofs.YtlbbhgmpiednfaaGreatDoor.HTupLr
open Go.RowKit Go.WideShapes Go.Proofs.YtlbbhgmpiednfaaGreatDoorW.PrintWords Go.Proofs.YtlbbhgmpiednfaaGreatDoor.HLib Go.Proofs.YtlbbhgmpiednfaaGreatDoor.HTupG Go.Proofs.YtlbbhgmpiednfaaGreatDoor.HTupL3 Go.Proofs.YtlbbhgmpiednfaaGreatDoor.HTupOb
set_option linter.unusedVariables false
set_option maxRecDepth 100000
theorem row_reads (v0 : Value) (a0 : List Int) (W : World) {base : Nat} (hv0 : Value.okWide Tryz.prog W .any base 36 v0) (k0 : KB W a0 v0.cells.toList) (ok0 : OKB a0) (hG : GV W) :
    Calls Tryz.prog 7 #[v0] W fun e w' => e = .returned (.bool true) ∧ Below W.heap.size W w' := by
  obtain ⟨A, c, rfl, hB⟩ := bs_of hv0 k0
  exact HTupL3.row_reads W _ a0 hB ok0.2 (byte_wf ok0) hG
end Go.Proofs.YtlbbhgmpiednfaaGreatDoor.HTupLr
