/- Start, Table, Constant. -/
import Derived.Test.YthhckkfdcnddfaaDoorHShaR
import Derived.Deep.WholeRow
namespace Go.Proofs.YthhckkfdcnddfaaDoor.HShaS
open Go.RowKit Go.Proofs.YthhckkfdcnddfaaDoorW.PrintWords Go.Proofs.YthhckkfdcnddfaaDoor.HLib Go.Proofs.YthhckkfdcnddfaaDoor.HSha Go.Proofs.YthhckkfdcnddfaaDoor.HShaR
set_option linter.unusedVariables false
set_option linter.unusedSimpArgs false

def ST : List Int := [1779033703, 3144134277, 1013904242, 2773480762, 1359893119, 2600822924, 528734635, 1541459225]

set_option maxRecDepth 100000 in
theorem start_any (w : World) : Calls Tryd.prog 23 #[] w fun e w' => e = .returned (.agg (nums .u32 ST).toArray) ∧ Below w.heap.size w w' := by
  go_enter Tryd.func23, Tryd.ntmps23
  go_wp2
  refine bodyPost_ret (v := .agg (nums .u32 ST).toArray) ?_ ?_ ?_
  · exact results_c rfl _ _ w.heap.size 47 _ (0, 0) _ rfl (blk_new _ _) Tryd.underlying47 rfl (by rw [size_st]; rfl)
  · rfl
  · exact ⟨rfl, below_alloc (B0 w) _⟩

set_option maxRecDepth 100000 in
theorem refstart_any (w : World) : Calls Tryd.prog 29 #[] w fun e w' => e = .returned (.agg (nums .u32 ST).toArray) ∧ Below w.heap.size w w' := by
  go_enter Tryd.func29, Tryd.ntmps29
  go_wp2
  refine bodyPost_ret (v := .agg (nums .u32 ST).toArray) ?_ ?_ ?_
  · exact results_c rfl _ _ w.heap.size 47 _ (0, 0) _ rfl (blk_new _ _) Tryd.underlying47 rfl (by rw [size_st]; rfl)
  · rfl
  · exact ⟨rfl, below_alloc (B0 w) _⟩

theorem run_store_of {P : Program} {o : Oper} {a : Act} {W w1 : World} {t : TypeId} {p v : Operand} (ho : o.op = .store t p v) (h : (Instr.storeAt t (a.eval p) (a.eval v)).run P W = .ok () w1) : (execOp a.eval o).run P W = .ok .skip w1 := by
  simp [execOp, ho, h, Result.andThen]
theorem size_tb : (Tryd.prog.info? 54).map (·.size) = some 64 := by kernel_rfl
set_option maxRecDepth 100000 in
set_option maxHeartbeats 4000000 in
theorem table_any (w : World) : Calls Tryd.prog 30 #[] w fun e w' => e = .returned (.agg (nums .u32 KT).toArray) ∧ Below w.heap.size w w' := by
  have hst : (Instr.storeAt 54 (.pointer (some ⟨w.heap.size, 0, none⟩)) (.agg (nums .u32 KT).toArray)).run Tryd.prog (w.alloc (.cells (nums .u32 (List.replicate 64 0)).toArray 54)) = .ok () (w.alloc (.cells (nums .u32 KT).toArray 54)) :=
    run_storeAt_new w _ _ _ (by rw [size_tb]; rfl) rfl (by kernel_rfl)
  have HST := Aside0.mk hst
  clear hst
  go_enter Tryd.func30, Tryd.ntmps30
  go_wp2_with (refine store_event rfl (t := 54) (p := 0) (v := .tmp 1) rfl rfl (w1 := w.alloc (.cells (nums .u32 KT).toArray 54)) ?hr ?_; (case hr => exact run_store_of rfl HST.out); intro w1 hw1; subst hw1)
  refine bodyPost_ret (v := .agg (nums .u32 KT).toArray) ?_ ?_ ?_
  · exact results_c rfl _ _ w.heap.size 54 _ (0, 0) _ rfl (blk_new _ _) Tryd.underlying54 rfl (by rw [size_tb]; rfl)
  · rfl
  · exact ⟨rfl, below_alloc (B0 w) _⟩


end Go.Proofs.YthhckkfdcnddfaaDoor.HShaS
