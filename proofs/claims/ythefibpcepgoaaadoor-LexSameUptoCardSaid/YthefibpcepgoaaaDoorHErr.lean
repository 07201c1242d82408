/- errors.As at the targets *api.Code and *api.Fault; fault.Code, fault.At. -/
import Derived.Test.YthefibpcepgoaaaDoorHErrF
import Derived.Test.YthefibpcepgoaaaDoorHLib
namespace Go.Proofs.YthefibpcepgoaaaDoor.HErr
open Go.RowKit Go.Extern.Stop Go.Stop Go.Extern Go.Proofs.YthefibpcepgoaaaDoor.HErrF Go.Proofs.YthefibpcepgoaaaDoor.HLib
set_option linter.unusedVariables false
set_option linter.unusedSimpArgs false

/-- What the listed variable errors.errorType holds. -/
def ErrG (w : World) : Prop := 1 < w.heap.size ∧ w.cell? ⟨1, 0, none⟩ = some (.iface 95 (.agg #[.pointer (some ⟨3, 25, none⟩)]))
theorem ErrG.below {w w1 : World} {n : Nat} (h : ErrG w) (hb : Below n w w1) (hn : 1 < n) : ErrG w1 :=
  ⟨by have := hb.size; have := h.1; omega, by rw [hb.cell (p := ⟨1, 0, none⟩) hn]; exact h.2⟩

set_option maxHeartbeats 4000000 in
theorem as_CC (g a : Nat) (n old : Int) (w : World) (ht : w.cell? ⟨g, 0, none⟩ = some (.int .i64 old)) (hf : w.frozen? ⟨g, 0, none⟩ = false) (ha : w.cell? ⟨a, 0, none⟩ = some (.pointer (some ⟨g, 0, none⟩))) (hg : g < w.heap.size) (hav : a < w.heap.size) :
    Calls Tryd.prog 58 #[.iface 47 (.int .i64 n), .iface 69 (.pointer (some ⟨g, 0, none⟩)), .agg #[.pointer (some ⟨3, 69, none⟩), .pointer (some ⟨a, 0, none⟩), .int .u64 150], .iface 95 (.agg #[.pointer (some ⟨3, 47, none⟩)])] w fun e w' => e = .returned (.bool true) ∧ w'.cell? ⟨g, 0, none⟩ = some (.int .i64 n) ∧ Below g w w' := by
  have h21 := @run_callFunc_extern Tryd.prog 62 _ ReflectliteType.typeOf Tryd.func62 (by kernel_rfl) (by kernel_rfl) (by kernel_rfl) (by kernel_rfl)
  have h69 := @run_callFunc_extern Tryd.prog 96 _ (ReflectliteType.relation "AssignableTo" ReflectliteType.assignableTo) Tryd.func96 (by kernel_rfl) (by kernel_rfl) (by kernel_rfl) (by kernel_rfl)
  have h24 := @run_callFunc_extern Tryd.prog 55 _ (fun args => ReflectliteValue.unpack (args.getD 0 (.tuple #[]))) Tryd.func55 (by kernel_rfl) (by kernel_rfl) (by kernel_rfl) (by kernel_rfl)
  have h29 := @run_callFunc_extern Tryd.prog 63 _ (ReflectliteValue.method (ReflectliteValue.valueError "reflectlite.Value.Elem" 0) ReflectliteValue.elem) Tryd.func63 (by kernel_rfl) (by kernel_rfl) (by kernel_rfl) (by kernel_rfl)
  have h30 := @run_callFunc_extern Tryd.prog 64 _ ReflectliteValue.set Tryd.func64 (by kernel_rfl) (by kernel_rfl) (by kernel_rfl) (by kernel_rfl)
  have tO := typeOfC
  have mA := methodAssignableTo
  have aC := assignableCC
  have vC := valueOfC
  have el := elemVC ⟨a, 0, none⟩ ⟨g, 0, none⟩ (w.alloc (.cells #[.pointer (some ⟨3, 69, none⟩), .pointer (some ⟨a, 0, none⟩), .int .u64 150] 84)) (by rw [World.cell?_alloc_lt _ _ ⟨a, 0, none⟩ hav]; exact ha)
  have st := setC ⟨g, 0, none⟩ ⟨w.heap.size + 1, 0, none⟩ n (.int .i64 old) ((w.alloc (.cells #[.pointer (some ⟨3, 69, none⟩), .pointer (some ⟨a, 0, none⟩), .int .u64 150] 84)).alloc (.cells #[.int .i64 n] 47))
    (by simp)
    (by rw [World.cell?_alloc_lt _ _ ⟨g, 0, none⟩ (by simp <;> omega), World.cell?_alloc_lt _ _ ⟨g, 0, none⟩ hg]; exact ht)
    (by rw [World.frozen?_alloc_old _ _ ⟨g, 0, none⟩ (by simp <;> omega), World.frozen?_alloc_old _ _ ⟨g, 0, none⟩ (Nat.ne_of_lt hg)]; exact hf)
  go_enter Tryd.func58, Tryd.ntmps58
  go_wp2
  refine wp_loop_rounds 1 ?_
  rw [rounds_succ]
  go_wp2
  go_ret
  refine ⟨rfl, ?_, ?_⟩
  · rw [World.cell?_alloc_lt _ _ ⟨g, 0, none⟩ (by simp [World.setCell]; omega), World.cell?_alloc_lt _ _ ⟨g, 0, none⟩ (by simpa [World.setCell] using hg)]
    exact World.cell?_setCell_same _ _ _ ht
  · exact (((Below.refl g w).setCell (p := ⟨g, 0, none⟩) (Nat.le_refl _) _).alloc (by simp [World.setCell]; omega) _).alloc (by simp [World.setCell]; omega) _

set_option maxHeartbeats 4000000 in
theorem as_FF (g a : Nat) (n m o1 o2 : Int) (w : World) (ht : w.cell? ⟨g, 0, none⟩ = some (.int .i64 o1)) (ht1 : w.cell? ⟨g, 1, none⟩ = some (.int .i64 o2)) (hf : w.frozen? ⟨g, 0, none⟩ = false) (hf1 : w.frozen? ⟨g, 1, none⟩ = false) (ha : w.cell? ⟨a, 0, none⟩ = some (.pointer (some ⟨g, 0, none⟩))) (hg : g < w.heap.size) (hav : a < w.heap.size) :
    Calls Tryd.prog 58 #[.iface 64 (.agg #[.int .i64 n, .int .i64 m]), .iface 70 (.pointer (some ⟨g, 0, none⟩)), .agg #[.pointer (some ⟨3, 70, none⟩), .pointer (some ⟨a, 0, none⟩), .int .u64 150], .iface 95 (.agg #[.pointer (some ⟨3, 64, none⟩)])] w fun e w' => e = .returned (.bool true) ∧ w'.cell? ⟨g, 0, none⟩ = some (.int .i64 n) ∧ w'.cell? ⟨g, 1, none⟩ = some (.int .i64 m) ∧ Below g w w' := by
  have h21 := @run_callFunc_extern Tryd.prog 62 _ ReflectliteType.typeOf Tryd.func62 (by kernel_rfl) (by kernel_rfl) (by kernel_rfl) (by kernel_rfl)
  have h69 := @run_callFunc_extern Tryd.prog 96 _ (ReflectliteType.relation "AssignableTo" ReflectliteType.assignableTo) Tryd.func96 (by kernel_rfl) (by kernel_rfl) (by kernel_rfl) (by kernel_rfl)
  have h24 := @run_callFunc_extern Tryd.prog 55 _ (fun args => ReflectliteValue.unpack (args.getD 0 (.tuple #[]))) Tryd.func55 (by kernel_rfl) (by kernel_rfl) (by kernel_rfl) (by kernel_rfl)
  have h29 := @run_callFunc_extern Tryd.prog 63 _ (ReflectliteValue.method (ReflectliteValue.valueError "reflectlite.Value.Elem" 0) ReflectliteValue.elem) Tryd.func63 (by kernel_rfl) (by kernel_rfl) (by kernel_rfl) (by kernel_rfl)
  have h30 := @run_callFunc_extern Tryd.prog 64 _ ReflectliteValue.set Tryd.func64 (by kernel_rfl) (by kernel_rfl) (by kernel_rfl) (by kernel_rfl)
  have mA := methodAssignableTo
  have tO := typeOfF
  have aC := assignableFF
  have vC := valueOfF
  have el := elemVF ⟨a, 0, none⟩ ⟨g, 0, none⟩ (w.alloc (.cells #[.pointer (some ⟨3, 70, none⟩), .pointer (some ⟨a, 0, none⟩), .int .u64 150] 84)) (by rw [World.cell?_alloc_lt _ _ ⟨a, 0, none⟩ hav]; exact ha)
  have st := setF g (w.heap.size + 1) n m o1 o2 ((w.alloc (.cells #[.pointer (some ⟨3, 70, none⟩), .pointer (some ⟨a, 0, none⟩), .int .u64 150] 84)).alloc (.cells #[.int .i64 n, .int .i64 m] 64))
    (by simp) (by simp)
    (by rw [World.cell?_alloc_lt _ _ ⟨g, 0, none⟩ (by simp <;> omega), World.cell?_alloc_lt _ _ ⟨g, 0, none⟩ hg]; exact ht)
    (by rw [World.cell?_alloc_lt _ _ ⟨g, 1, none⟩ (by simp <;> omega), World.cell?_alloc_lt _ _ ⟨g, 1, none⟩ hg]; exact ht1)
    (by rw [World.frozen?_alloc_old _ _ ⟨g, 0, none⟩ (by simp <;> omega), World.frozen?_alloc_old _ _ ⟨g, 0, none⟩ (Nat.ne_of_lt hg)]; exact hf)
    (by rw [World.frozen?_alloc_old _ _ ⟨g, 1, none⟩ (by simp <;> omega), World.frozen?_alloc_old _ _ ⟨g, 1, none⟩ (Nat.ne_of_lt hg)]; exact hf1)
  go_enter Tryd.func58, Tryd.ntmps58
  go_wp2
  refine wp_loop_rounds 1 ?_
  rw [rounds_succ]
  go_wp2
  go_ret
  refine ⟨rfl, ?_, ?_, ?_⟩
  · rw [World.cell?_alloc_lt _ _ ⟨g, 0, none⟩ (by simp [World.setCell]; omega), World.cell?_alloc_lt _ _ ⟨g, 0, none⟩ (by simpa [World.setCell] using hg), World.cell?_setCell_other (h := by intro h; cases h)]
    exact World.cell?_setCell_same _ _ _ ht
  · rw [World.cell?_alloc_lt _ _ ⟨g, 1, none⟩ (by simp [World.setCell]; omega), World.cell?_alloc_lt _ _ ⟨g, 1, none⟩ (by simpa [World.setCell] using hg)]
    refine World.cell?_setCell_same _ _ _ (u := .int .i64 o2) ?_
    rw [World.cell?_setCell_other (h := by intro h; cases h)]
    exact ht1
  · exact ((((Below.refl g w).setCell (p := ⟨g, 0, none⟩) (Nat.le_refl _) _).setCell (p := ⟨g, 1, none⟩) (Nat.le_refl _) _).alloc (by simp [World.setCell]; omega) _).alloc (by simp [World.setCell]; omega) _

set_option maxHeartbeats 4000000 in
theorem as_CF (g a : Nat) (n : Int) (w : World) :
    Calls Tryd.prog 58 #[.iface 47 (.int .i64 n), .iface 70 (.pointer (some ⟨g, 0, none⟩)), .agg #[.pointer (some ⟨3, 70, none⟩), .pointer (some ⟨a, 0, none⟩), .int .u64 150], .iface 95 (.agg #[.pointer (some ⟨3, 64, none⟩)])] w fun e w' => e = .returned (.bool false) ∧ Below w.heap.size w w' := by
  have h21 := @run_callFunc_extern Tryd.prog 62 _ ReflectliteType.typeOf Tryd.func62 (by kernel_rfl) (by kernel_rfl) (by kernel_rfl) (by kernel_rfl)
  have h69 := @run_callFunc_extern Tryd.prog 96 _ (ReflectliteType.relation "AssignableTo" ReflectliteType.assignableTo) Tryd.func96 (by kernel_rfl) (by kernel_rfl) (by kernel_rfl) (by kernel_rfl)
  have h24 := @run_callFunc_extern Tryd.prog 55 _ (fun args => ReflectliteValue.unpack (args.getD 0 (.tuple #[]))) Tryd.func55 (by kernel_rfl) (by kernel_rfl) (by kernel_rfl) (by kernel_rfl)
  have h29 := @run_callFunc_extern Tryd.prog 63 _ (ReflectliteValue.method (ReflectliteValue.valueError "reflectlite.Value.Elem" 0) ReflectliteValue.elem) Tryd.func63 (by kernel_rfl) (by kernel_rfl) (by kernel_rfl) (by kernel_rfl)
  have h30 := @run_callFunc_extern Tryd.prog 64 _ ReflectliteValue.set Tryd.func64 (by kernel_rfl) (by kernel_rfl) (by kernel_rfl) (by kernel_rfl)
  have mA := methodAssignableTo
  have tO := typeOfC
  have aC := assignableCF
  have n1 := noAsC
  have n2 := noUnC
  have n3 := noUsC
  go_enter Tryd.func58, Tryd.ntmps58
  go_wp2
  refine wp_loop_rounds 1 ?_
  rw [rounds_succ]
  go_wp2
  go_ret
  exact ⟨rfl, (Below.refl _ _).alloc (Nat.le_refl _) _⟩

theorem unwrap_F (n m : Int) (w : World) : Calls Tryd.prog 90 #[.agg #[.int .i64 n, .int .i64 m]] w fun e w' => e = .returned (.iface 47 (.int .i64 n)) ∧ w' = w.alloc (.cells #[.int .i64 n, .int .i64 m] 64) := by
  go_enter Tryd.func90, Tryd.ntmps90
  go_wp2
  go_ret
  exact ⟨rfl, rfl⟩

set_option maxHeartbeats 4000000 in
theorem as_FC (g a : Nat) (n m old : Int) (w : World) (ht : w.cell? ⟨g, 0, none⟩ = some (.int .i64 old)) (hf : w.frozen? ⟨g, 0, none⟩ = false) (ha : w.cell? ⟨a, 0, none⟩ = some (.pointer (some ⟨g, 0, none⟩))) (hg : g < w.heap.size) (hav : a < w.heap.size) :
    Calls Tryd.prog 58 #[.iface 64 (.agg #[.int .i64 n, .int .i64 m]), .iface 69 (.pointer (some ⟨g, 0, none⟩)), .agg #[.pointer (some ⟨3, 69, none⟩), .pointer (some ⟨a, 0, none⟩), .int .u64 150], .iface 95 (.agg #[.pointer (some ⟨3, 47, none⟩)])] w fun e w' => e = .returned (.bool true) ∧ w'.cell? ⟨g, 0, none⟩ = some (.int .i64 n) ∧ Below g w w' := by
  have h21 := @run_callFunc_extern Tryd.prog 62 _ ReflectliteType.typeOf Tryd.func62 (by kernel_rfl) (by kernel_rfl) (by kernel_rfl) (by kernel_rfl)
  have h69 := @run_callFunc_extern Tryd.prog 96 _ (ReflectliteType.relation "AssignableTo" ReflectliteType.assignableTo) Tryd.func96 (by kernel_rfl) (by kernel_rfl) (by kernel_rfl) (by kernel_rfl)
  have h24 := @run_callFunc_extern Tryd.prog 55 _ (fun args => ReflectliteValue.unpack (args.getD 0 (.tuple #[]))) Tryd.func55 (by kernel_rfl) (by kernel_rfl) (by kernel_rfl) (by kernel_rfl)
  have h29 := @run_callFunc_extern Tryd.prog 63 _ (ReflectliteValue.method (ReflectliteValue.valueError "reflectlite.Value.Elem" 0) ReflectliteValue.elem) Tryd.func63 (by kernel_rfl) (by kernel_rfl) (by kernel_rfl) (by kernel_rfl)
  have h30 := @run_callFunc_extern Tryd.prog 64 _ ReflectliteValue.set Tryd.func64 (by kernel_rfl) (by kernel_rfl) (by kernel_rfl) (by kernel_rfl)
  have mA := methodAssignableTo
  have tO := typeOfF
  have aC := assignableFC
  have n1 := noAsF
  have n2 := unF
  have mU := methodUnwrapF
  go_enter Tryd.func58, Tryd.ntmps58
  go_wp2
  refine wp_loop_rounds 2 ?_
  rw [rounds_succ]
  go_wp2_with fail
  refine (unwrap_F _ _ _).mono ?_
  rintro e w1 ⟨rfl, rfl⟩
  have tO2 := typeOfC
  have aC2 := assignableCC
  have vC := valueOfC
  have el := elemVC ⟨a, 0, none⟩ ⟨g, 0, none⟩ ((w.alloc (.cells #[.pointer (some ⟨3, 69, none⟩), .pointer (some ⟨a, 0, none⟩), .int .u64 150] 84)).alloc (.cells #[.int .i64 n, .int .i64 m] 64)) (by rw [World.cell?_alloc_lt _ _ ⟨a, 0, none⟩ (by simp <;> omega), World.cell?_alloc_lt _ _ ⟨a, 0, none⟩ hav]; exact ha)
  have st := setC ⟨g, 0, none⟩ ⟨w.heap.size + 1 + 1, 0, none⟩ n (.int .i64 old) (((w.alloc (.cells #[.pointer (some ⟨3, 69, none⟩), .pointer (some ⟨a, 0, none⟩), .int .u64 150] 84)).alloc (.cells #[.int .i64 n, .int .i64 m] 64)).alloc (.cells #[.int .i64 n] 47))
    (by rw [World.cell?_alloc_at _ _ _ _ (by simp)]; rfl)
    (by rw [World.cell?_alloc_lt _ _ ⟨g, 0, none⟩ (by simp <;> omega), World.cell?_alloc_lt _ _ ⟨g, 0, none⟩ (by simp <;> omega), World.cell?_alloc_lt _ _ ⟨g, 0, none⟩ hg]; exact ht)
    (by rw [World.frozen?_alloc_old _ _ ⟨g, 0, none⟩ (by simp <;> omega), World.frozen?_alloc_old _ _ ⟨g, 0, none⟩ (by simp <;> omega), World.frozen?_alloc_old _ _ ⟨g, 0, none⟩ (Nat.ne_of_lt hg)]; exact hf)
  go_wp2
  rw [rounds_succ]
  go_wp2
  go_ret
  refine ⟨rfl, ?_, ?_⟩
  · refine World.cell?_setCell_same _ _ _ (u := .int .i64 old) ?_
    rw [World.cell?_alloc_lt _ _ ⟨g, 0, none⟩ (by simp <;> omega), World.cell?_alloc_lt _ _ ⟨g, 0, none⟩ (by simp <;> omega), World.cell?_alloc_lt _ _ ⟨g, 0, none⟩ hg]
    exact ht
  · exact (((((Below.refl g w).alloc (by omega) _).alloc (by simp <;> omega) _).alloc (by simp <;> omega) _).setCell (p := ⟨g, 0, none⟩) (Nat.le_refl _) _)

end Go.Proofs.YthefibpcepgoaaaDoor.HErr
