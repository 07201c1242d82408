/- Start, Table, Constant. -/
import Derived.Test.YtndadfhmdkkokaaDoorHShaR
import Derived.Deep.WholeRow
namespace Go.Proofs.YtndadfhmdkkokaaDoor.HShaS
open Go.RowKit Go.Proofs.YtndadfhmdkkokaaDoorW.PrintWords Go.Proofs.YtndadfhmdkkokaaDoor.HLib Go.Proofs.YtndadfhmdkkokaaDoor.HSha Go.Proofs.YtndadfhmdkkokaaDoor.HShaR
set_option linter.unusedVariables false
set_option linter.unusedSimpArgs false

def ST : List Int := [1779033703, 3144134277, 1013904242, 2773480762, 1359893119, 2600822924, 528734635, 1541459225]

set_option maxRecDepth 100000 in
theorem start_any (w : World) : Calls Tryd.prog 19 #[] w fun e w' => e = .returned (.agg (nums .u32 ST).toArray) ∧ Below w.heap.size w w' := by
  go_enter Tryd.func19, Tryd.ntmps19
  go_wp2
  refine bodyPost_ret (v := .agg (nums .u32 ST).toArray) ?_ ?_ ?_
  · exact results_c rfl _ _ w.heap.size 32 _ (0, 0) _ rfl (blk_new _ _) Tryd.underlying32 rfl (by rw [size_st]; rfl)
  · rfl
  · exact ⟨rfl, below_alloc (B0 w) _⟩

set_option maxRecDepth 100000 in
theorem refstart_any (w : World) : Calls Tryd.prog 24 #[] w fun e w' => e = .returned (.agg (nums .u32 ST).toArray) ∧ Below w.heap.size w w' := by
  go_enter Tryd.func24, Tryd.ntmps24
  go_wp2
  refine bodyPost_ret (v := .agg (nums .u32 ST).toArray) ?_ ?_ ?_
  · exact results_c rfl _ _ w.heap.size 32 _ (0, 0) _ rfl (blk_new _ _) Tryd.underlying32 rfl (by rw [size_st]; rfl)
  · rfl
  · exact ⟨rfl, below_alloc (B0 w) _⟩

theorem run_store_of {P : Program} {o : Oper} {a : Act} {W w1 : World} {t : TypeId} {p v : Operand} (ho : o.op = .store t p v) (h : (Instr.storeAt t (a.eval p) (a.eval v)).run P W = .ok () w1) : (execOp a.eval o).run P W = .ok .skip w1 := by
  simp [execOp, ho, h, Result.andThen]
theorem size_tb : (Tryd.prog.info? 37).map (·.size) = some 64 := by kernel_rfl
set_option maxRecDepth 100000 in
set_option maxHeartbeats 4000000 in
theorem table_any (w : World) : Calls Tryd.prog 15 #[] w fun e w' => e = .returned (.agg (nums .u32 KT).toArray) ∧ Below w.heap.size w w' := by
  have hst : (Instr.storeAt 37 (.pointer (some ⟨w.heap.size, 0, none⟩)) (.agg (nums .u32 KT).toArray)).run Tryd.prog (w.alloc (.cells (nums .u32 (List.replicate 64 0)).toArray 37)) = .ok () (w.alloc (.cells (nums .u32 KT).toArray 37)) :=
    run_storeAt_new w _ _ _ (by rw [size_tb]; rfl) rfl (by kernel_rfl)
  have HST := Aside0.mk hst
  clear hst
  go_enter Tryd.func15, Tryd.ntmps15
  go_wp2_with (refine store_event rfl (t := 37) (p := 0) (v := .tmp 1) rfl rfl (w1 := w.alloc (.cells (nums .u32 KT).toArray 37)) ?hr ?_; (case hr => exact run_store_of rfl HST.out); intro w1 hw1; subst hw1)
  refine bodyPost_ret (v := .agg (nums .u32 KT).toArray) ?_ ?_ ?_
  · exact results_c rfl _ _ w.heap.size 37 _ (0, 0) _ rfl (blk_new _ _) Tryd.underlying37 rfl (by rw [size_tb]; rfl)
  · rfl
  · exact ⟨rfl, below_alloc (B0 w) _⟩

theorem constant_any (i : Int) (w : World) (hg : Glob w) : Calls Tryd.prog 16 #[.int .i64 i] w fun e w' => e = .returned (.tuple #[.int .u32 (if 0 ≤ i ∧ i < 64 then KT.getD i.toNat 0 else 0), .bool (decide (0 ≤ i ∧ i < 64))]) ∧ w' = w := by
  by_cases c : 0 ≤ i ∧ i < 64
  · have d1 : decide (i < 0) = false := decide_eq_false (by omega)
    have d2 : decide (64 ≤ i) = false := decide_eq_false (by omega)
    have h0 : 0 ≤ i := c.1
    have h1 : i < 64 := c.2
    have e := hg.2 i.toNat (by omega)
    obtain ⟨k, hk⟩ : ∃ x, x = KT.getD i.toNat 0 := ⟨_, rfl⟩
    rw [← hk] at e ⊢
    rw [if_pos c, decide_eq_true c]
    clear c hk hg
    go_enter Tryd.func16, Tryd.ntmps16
    go_wp2
    go_ret2
    exact ⟨rfl, rfl⟩
  · rw [if_neg c, decide_eq_false c]
    by_cases c1 : i < 0
    · have d1 : decide (i < 0) = true := decide_eq_true c1
      clear c
      go_enter Tryd.func16, Tryd.ntmps16
      go_wp2
      go_ret2
      exact ⟨rfl, rfl⟩
    · have d1 : decide (i < 0) = false := decide_eq_false c1
      have d2 : decide (64 ≤ i) = true := decide_eq_true (by omega)
      clear c
      go_enter Tryd.func16, Tryd.ntmps16
      go_wp2
      go_ret2
      exact ⟨rfl, rfl⟩

end Go.Proofs.YtndadfhmdkkokaaDoor.HShaS
