/- The law TupleSorts: its row. -/
import Derived.Test.YtlbbhgmpiednfaaGreatDoorUQL
import Derived.Test.YtlbbhgmpiednfaaGreatDoorUO
namespace Go.Proofs.YtlbbhgmpiednfaaGreatDoor.HTupLs
open Go.RowKit Go.Proofs.YtlbbhgmpiednfaaGreatDoorW.PrintWords Go.Proofs.YtlbbhgmpiednfaaGreatDoor.HLib Go.Proofs.YtlbbhgmpiednfaaGreatDoor.HTupP Go.Proofs.YtlbbhgmpiednfaaGreatDoor.HTupR Go.Proofs.YtlbbhgmpiednfaaGreatDoor.HTupG Go.Proofs.YtlbbhgmpiednfaaGreatDoor.HTupL4 Go.Proofs.YtlbbhgmpiednfaaGreatDoor.HTupOp Go.Proofs.YtlbbhgmpiednfaaGreatDoor.PTupleSorts
set_option linter.unusedVariables false
set_option maxRecDepth 100000
theorem sum_le (xs : List S32) : xs.length + (xs.map fun x => sz32 x).sum ≤ (xs.map fun x => sz32 x + 1).sum := by
  induction xs with
  | nil => exact Nat.le_refl _
  | cons x xs ih => rw [List.map_cons, List.sum_cons, List.map_cons, List.sum_cons, List.length_cons]; omega
theorem one_le {xs : List S32} {x : S32} (h : x ∈ xs) : sz32 x ≤ (xs.map fun x => sz32 x).sum := by
  induction xs with
  | nil => cases h
  | cons y xs ih =>
    rw [List.map_cons, List.sum_cons]
    rcases List.mem_cons.1 h with rfl | h
    · omega
    · have := ih h; omega
theorem row_sorts (v0 : Value) (a0 : List S32) (W : World) {base : Nat} (hv0 : Value.okWide Tryz.prog W .any base 22 v0) (k0 : (Kd.slice 32 k32).K W a0 v0.cells.toList) (ok0 : a0.length ≤ maxLen) (b0 : (a0.map fun x => sz32 x + 1).sum + 1 ≤ 1048576)
    (hG : GV W) : Calls Tryz.prog 3 #[v0] W fun e w' => e = .returned (.bool true) ∧ Below W.heap.size W w' := by
  obtain ⟨A0, len0, cap0, rfl⟩ := WideShapes.okWide_slice Tryz.underlying22 hv0
  obtain ⟨A, c, e, hc, hC⟩ := k0
  simp only [Value.cells, List.cons.injEq, and_true] at e
  rw [e]
  have h1 := sum_le a0
  exact sorts_any A c a0 (by omega) (fun x hx => Nat.le_trans (show szs x ≤ (a0.map fun x => sz32 x).sum from one_le hx) (by omega)) hc W hC hG
end Go.Proofs.YtlbbhgmpiednfaaGreatDoor.HTupLs
