/- errors.As at the targets *api.Code and *api.Fault; fault.Code, fault.At. -/
import Derived.Test.YthefibpcepgoaaaDoorHErrA
namespace Go.Proofs.YthefibpcepgoaaaDoor.HErr
open Go.RowKit Go.Proofs.YthefibpcepgoaaaDoorW.PrintWords Go.Extern.Stop Go.Stop Go.Extern Go.Proofs.YthefibpcepgoaaaDoor.HErrF Go.Proofs.YthefibpcepgoaaaDoor.HLib
set_option linter.unusedVariables false
set_option linter.unusedSimpArgs false

set_option maxHeartbeats 4000000 in
theorem code_C (n : Int) (w : World) (hG : ErrG w) : Calls Tryd.prog 31 #[.iface 47 (.int .i64 n)] w fun e w' => e = .returned (.tuple #[.int .i64 n, .bool true]) ∧ Below w.heap.size w w' := by
  have hA : ErrG (w.alloc (.cells #[.int .i64 0] 47)) := hG.below (below_alloc (B0 w) _) hG.1
  have hgl := hG.1
  clear hG
  go_enter Tryd.func31, Tryd.ntmps31
  go_wp2_with fail
  refine (As_CC w.heap.size n _ hA hgl 0 (by simp) (by simp) (by simp)).mono ?_
  rintro e w1 ⟨rfl, hc, hb⟩
  go_wp2
  go_ret2
  exact ⟨rfl, ((below_alloc (B0 w) _).trans hb)⟩

set_option maxHeartbeats 4000000 in
theorem code_F (n m : Int) (w : World) (hG : ErrG w) : Calls Tryd.prog 31 #[.iface 64 (.agg #[.int .i64 n, .int .i64 m])] w fun e w' => e = .returned (.tuple #[.int .i64 n, .bool true]) ∧ Below w.heap.size w w' := by
  have hA : ErrG (w.alloc (.cells #[.int .i64 0] 47)) := hG.below (below_alloc (B0 w) _) hG.1
  have hgl := hG.1
  clear hG
  go_enter Tryd.func31, Tryd.ntmps31
  go_wp2_with fail
  refine (As_FC w.heap.size n m _ hA hgl 0 (by simp) (by simp) (by simp)).mono ?_
  rintro e w1 ⟨rfl, hc, hb⟩
  go_wp2
  go_ret2
  exact ⟨rfl, ((below_alloc (B0 w) _).trans hb)⟩

set_option maxHeartbeats 4000000 in
theorem at_F (n m : Int) (w : World) (hG : ErrG w) : Calls Tryd.prog 32 #[.iface 64 (.agg #[.int .i64 n, .int .i64 m])] w fun e w' => e = .returned (.tuple #[.int .i64 m, .bool true]) ∧ Below w.heap.size w w' := by
  have hA : ErrG (w.alloc (.cells #[.int .i64 0, .int .i64 0] 64)) := hG.below (below_alloc (B0 w) _) hG.1
  have hgl := hG.1
  clear hG
  go_enter Tryd.func32, Tryd.ntmps32
  go_wp2_with fail
  refine (As_FF w.heap.size n m _ hA hgl 0 0 (by simp) (by simp) (by simp) (by simp) (by simp)).mono ?_
  rintro e w1 ⟨rfl, hc, hc1, hb⟩
  go_wp2
  go_ret2
  exact ⟨rfl, ((below_alloc (B0 w) _).trans hb)⟩

set_option maxHeartbeats 4000000 in
theorem at_C (n : Int) (w : World) (hG : ErrG w) : Calls Tryd.prog 32 #[.iface 47 (.int .i64 n)] w fun e w' => e = .returned (.tuple #[.int .i64 0, .bool false]) ∧ Below w.heap.size w w' := by
  have hA : ErrG (w.alloc (.cells #[.int .i64 0, .int .i64 0] 64)) := hG.below (below_alloc (B0 w) _) hG.1
  have hgl := hG.1
  clear hG
  go_enter Tryd.func32, Tryd.ntmps32
  go_wp2_with fail
  refine (As_CF w.heap.size n _ hA hgl (by simp)).mono ?_
  rintro e w1 ⟨rfl, hb⟩
  have hc := (hb.cell (p := ⟨w.heap.size, 0, none⟩) (by simp)).trans (show _ = _ from World.cell?_alloc_at _ _ _ _ rfl)
  have hc1 := (hb.cell (p := ⟨w.heap.size, 1, none⟩) (by simp)).trans (show _ = _ from World.cell?_alloc_at _ _ _ _ rfl)
  go_wp2
  go_ret2
  exact ⟨rfl, below_step (below_alloc (B0 w) _) hb⟩

theorem code_nil (w : World) : Calls Tryd.prog 31 #[.nilIface] w fun e w' => e = .returned (.tuple #[.int .i64 0, .bool false]) ∧ Below w.heap.size w w' := by
  go_enter Tryd.func31, Tryd.ntmps31
  go_wp2_with fail
  refine (As_nil _ _).mono ?_
  rintro e w1 ⟨rfl, rfl⟩
  go_wp2
  go_ret2
  exact ⟨rfl, below_alloc (B0 w) _⟩

theorem at_nil (w : World) : Calls Tryd.prog 32 #[.nilIface] w fun e w' => e = .returned (.tuple #[.int .i64 0, .bool false]) ∧ Below w.heap.size w w' := by
  go_enter Tryd.func32, Tryd.ntmps32
  go_wp2_with fail
  refine (As_nil _ _).mono ?_
  rintro e w1 ⟨rfl, rfl⟩
  go_wp2
  go_ret2
  exact ⟨rfl, below_alloc (B0 w) _⟩

theorem new_any (n m : Int) (w : World) : Calls Tryd.prog 19 #[.int .i64 n, .int .i64 m] w fun e w' => e = .returned (.iface 64 (.agg #[.int .i64 n, .int .i64 m])) ∧ w = w' := by
  go_enter Tryd.func19, Tryd.ntmps19
  go_wp2
  go_ret
  exact ⟨rfl, rfl⟩

end Go.Proofs.YthefibpcepgoaaaDoor.HErr
