/- errors.As at the targets *api.Code and *api.Fault; fault.Code, fault.At. -/
import Derived.Test.YthefibpcepgoaaaDoorHErr
namespace Go.Proofs.YthefibpcepgoaaaDoor.HErr
open Go.RowKit Go.Extern.Stop Go.Stop Go.Extern Go.Proofs.YthefibpcepgoaaaDoor.HErrF Go.Proofs.YthefibpcepgoaaaDoor.HLib
set_option linter.unusedVariables false
set_option linter.unusedSimpArgs false

set_option maxRecDepth 100000 in
set_option maxHeartbeats 4000000 in
theorem As_CC (g : Nat) (n : Int) (w : World) (hG : ErrG w) (hgl : 1 < g) (old : Int) (ht : w.cell? ⟨g, 0, none⟩ = some (.int .i64 old)) (hf : w.frozen? ⟨g, 0, none⟩ = false) (hg : g < w.heap.size) :
    Calls Tryd.prog 45 #[.iface 47 (.int .i64 n), .iface 69 (.pointer (some ⟨g, 0, none⟩))] w fun e w' => e = .returned (.bool true) ∧ w'.cell? ⟨g, 0, none⟩ = some (.int .i64 n) ∧ Below g w w' := by
  have h24 := @run_callFunc_extern Tryd.prog 55 _ (fun args => ReflectliteValue.unpack (args.getD 0 (.tuple #[]))) Tryd.func55 (by kernel_rfl) (by kernel_rfl) (by kernel_rfl) (by kernel_rfl)
  have h25 := @run_callFunc_extern Tryd.prog 56 _ (ReflectliteValue.methodAny (ReflectliteValue.valueError "reflectlite.Value.Type" 0) (fun t _ _ _ => ReflectliteType.toType t)) Tryd.func56 (by kernel_rfl) (by kernel_rfl) (by kernel_rfl) (by kernel_rfl)
  have h26 := @run_callFunc_extern Tryd.prog 57 _ (ReflectliteValue.method (ReflectliteValue.valueError "reflectlite.Value.IsNil" 0) ReflectliteValue.isNil) Tryd.func57 (by kernel_rfl) (by kernel_rfl) (by kernel_rfl) (by kernel_rfl)
  have h57 := @run_callFunc_extern Tryd.prog 85 _ (ReflectliteType.abiMethod fun t => do pure (.int .u8 (← Rtype.kind t))) Tryd.func85 (by kernel_rfl) (by kernel_rfl) (by kernel_rfl) (by kernel_rfl)
  have h71 := @run_callFunc_extern Tryd.prog 98 _ (ReflectliteType.method ReflectliteType.elem) Tryd.func98 (by kernel_rfl) (by kernel_rfl) (by kernel_rfl) (by kernel_rfl)
  have h72 := @run_callFunc_extern Tryd.prog 99 _ (ReflectliteType.relation "Implements" ReflectliteType.implements_) Tryd.func99 (by kernel_rfl) (by kernel_rfl) (by kernel_rfl) (by kernel_rfl)
  have mK := methodKind
  have mE := methodElem
  have mI := methodImplements
  have vP := valueOfPC
  have tP := typePC
  have kP := kindPC
  have kT := kindC
  have eP := elemC
  have iT := implementsC
  have hg1 := hG.2
  have hg0 := hG.1
  have iN := isNilPC ⟨w.heap.size, 0, none⟩ ⟨g, 0, none⟩ ((w.alloc (.cells #[.pointer (some ⟨g, 0, none⟩)] 69)).alloc (.cells #[.pointer (some ⟨3, 69, none⟩), .pointer (some ⟨w.heap.size, 0, none⟩), .int .u64 150] 84)) (by simp)
  have hg2 : ((w.alloc (.cells #[.pointer (some ⟨g, 0, none⟩)] 69)).alloc (.cells #[.pointer (some ⟨3, 69, none⟩), .pointer (some ⟨w.heap.size, 0, none⟩), .int .u64 150] 84)).cell? ⟨1, 0, none⟩ = some (.iface 95 (.agg #[.pointer (some ⟨3, 25, none⟩)])) := by
    rw [World.cell?_alloc_lt _ _ ⟨1, 0, none⟩ (by simp <;> omega), World.cell?_alloc_lt _ _ ⟨1, 0, none⟩ hg0]; exact hg1
  clear hG hg1
  go_enter Tryd.func45, Tryd.ntmps45
  go_wp2_with fail
  refine (as_CC g w.heap.size n old _ (by rw [World.cell?_alloc_lt _ _ ⟨g, 0, none⟩ (by simp <;> omega), World.cell?_alloc_lt _ _ ⟨g, 0, none⟩ hg]; exact ht) (by rw [World.frozen?_alloc_old _ _ ⟨g, 0, none⟩ (by simp <;> omega), World.frozen?_alloc_old _ _ ⟨g, 0, none⟩ (Nat.ne_of_lt hg)]; exact hf) (by simp) (by simp <;> omega) (by simp <;> omega)).mono ?_
  rintro e w1 ⟨rfl, hc, hb⟩
  go_wp2
  go_ret
  exact ⟨rfl, hc, (((Below.refl g w).alloc (Nat.le_of_lt hg) _).alloc (by simp <;> omega) _).trans hb⟩

set_option maxRecDepth 100000 in
set_option maxHeartbeats 4000000 in
theorem As_FC (g : Nat) (n m : Int) (w : World) (hG : ErrG w) (hgl : 1 < g) (old : Int) (ht : w.cell? ⟨g, 0, none⟩ = some (.int .i64 old)) (hf : w.frozen? ⟨g, 0, none⟩ = false) (hg : g < w.heap.size) :
    Calls Tryd.prog 45 #[.iface 64 (.agg #[.int .i64 n, .int .i64 m]), .iface 69 (.pointer (some ⟨g, 0, none⟩))] w fun e w' => e = .returned (.bool true) ∧ w'.cell? ⟨g, 0, none⟩ = some (.int .i64 n) ∧ Below g w w' := by
  have h24 := @run_callFunc_extern Tryd.prog 55 _ (fun args => ReflectliteValue.unpack (args.getD 0 (.tuple #[]))) Tryd.func55 (by kernel_rfl) (by kernel_rfl) (by kernel_rfl) (by kernel_rfl)
  have h25 := @run_callFunc_extern Tryd.prog 56 _ (ReflectliteValue.methodAny (ReflectliteValue.valueError "reflectlite.Value.Type" 0) (fun t _ _ _ => ReflectliteType.toType t)) Tryd.func56 (by kernel_rfl) (by kernel_rfl) (by kernel_rfl) (by kernel_rfl)
  have h26 := @run_callFunc_extern Tryd.prog 57 _ (ReflectliteValue.method (ReflectliteValue.valueError "reflectlite.Value.IsNil" 0) ReflectliteValue.isNil) Tryd.func57 (by kernel_rfl) (by kernel_rfl) (by kernel_rfl) (by kernel_rfl)
  have h57 := @run_callFunc_extern Tryd.prog 85 _ (ReflectliteType.abiMethod fun t => do pure (.int .u8 (← Rtype.kind t))) Tryd.func85 (by kernel_rfl) (by kernel_rfl) (by kernel_rfl) (by kernel_rfl)
  have h71 := @run_callFunc_extern Tryd.prog 98 _ (ReflectliteType.method ReflectliteType.elem) Tryd.func98 (by kernel_rfl) (by kernel_rfl) (by kernel_rfl) (by kernel_rfl)
  have h72 := @run_callFunc_extern Tryd.prog 99 _ (ReflectliteType.relation "Implements" ReflectliteType.implements_) Tryd.func99 (by kernel_rfl) (by kernel_rfl) (by kernel_rfl) (by kernel_rfl)
  have mK := methodKind
  have mE := methodElem
  have mI := methodImplements
  have vP := valueOfPC
  have tP := typePC
  have kP := kindPC
  have kT := kindC
  have eP := elemC
  have iT := implementsC
  have hg1 := hG.2
  have hg0 := hG.1
  have iN := isNilPC ⟨w.heap.size, 0, none⟩ ⟨g, 0, none⟩ ((w.alloc (.cells #[.pointer (some ⟨g, 0, none⟩)] 69)).alloc (.cells #[.pointer (some ⟨3, 69, none⟩), .pointer (some ⟨w.heap.size, 0, none⟩), .int .u64 150] 84)) (by simp)
  have hg2 : ((w.alloc (.cells #[.pointer (some ⟨g, 0, none⟩)] 69)).alloc (.cells #[.pointer (some ⟨3, 69, none⟩), .pointer (some ⟨w.heap.size, 0, none⟩), .int .u64 150] 84)).cell? ⟨1, 0, none⟩ = some (.iface 95 (.agg #[.pointer (some ⟨3, 25, none⟩)])) := by
    rw [World.cell?_alloc_lt _ _ ⟨1, 0, none⟩ (by simp <;> omega), World.cell?_alloc_lt _ _ ⟨1, 0, none⟩ hg0]; exact hg1
  clear hG hg1
  go_enter Tryd.func45, Tryd.ntmps45
  go_wp2_with fail
  refine (as_FC g w.heap.size n m old _ (by rw [World.cell?_alloc_lt _ _ ⟨g, 0, none⟩ (by simp <;> omega), World.cell?_alloc_lt _ _ ⟨g, 0, none⟩ hg]; exact ht) (by rw [World.frozen?_alloc_old _ _ ⟨g, 0, none⟩ (by simp <;> omega), World.frozen?_alloc_old _ _ ⟨g, 0, none⟩ (Nat.ne_of_lt hg)]; exact hf) (by simp) (by simp <;> omega) (by simp <;> omega)).mono ?_
  rintro e w1 ⟨rfl, hc, hb⟩
  go_wp2
  go_ret
  exact ⟨rfl, hc, (((Below.refl g w).alloc (Nat.le_of_lt hg) _).alloc (by simp <;> omega) _).trans hb⟩

set_option maxRecDepth 100000 in
set_option maxHeartbeats 4000000 in
theorem As_FF (g : Nat) (n m : Int) (w : World) (hG : ErrG w) (hgl : 1 < g) (o1 o2 : Int) (ht : w.cell? ⟨g, 0, none⟩ = some (.int .i64 o1)) (ht1 : w.cell? ⟨g, 1, none⟩ = some (.int .i64 o2)) (hf : w.frozen? ⟨g, 0, none⟩ = false) (hf1 : w.frozen? ⟨g, 1, none⟩ = false) (hg : g < w.heap.size) :
    Calls Tryd.prog 45 #[.iface 64 (.agg #[.int .i64 n, .int .i64 m]), .iface 70 (.pointer (some ⟨g, 0, none⟩))] w fun e w' => e = .returned (.bool true) ∧ w'.cell? ⟨g, 0, none⟩ = some (.int .i64 n) ∧ w'.cell? ⟨g, 1, none⟩ = some (.int .i64 m) ∧ Below g w w' := by
  have h24 := @run_callFunc_extern Tryd.prog 55 _ (fun args => ReflectliteValue.unpack (args.getD 0 (.tuple #[]))) Tryd.func55 (by kernel_rfl) (by kernel_rfl) (by kernel_rfl) (by kernel_rfl)
  have h25 := @run_callFunc_extern Tryd.prog 56 _ (ReflectliteValue.methodAny (ReflectliteValue.valueError "reflectlite.Value.Type" 0) (fun t _ _ _ => ReflectliteType.toType t)) Tryd.func56 (by kernel_rfl) (by kernel_rfl) (by kernel_rfl) (by kernel_rfl)
  have h26 := @run_callFunc_extern Tryd.prog 57 _ (ReflectliteValue.method (ReflectliteValue.valueError "reflectlite.Value.IsNil" 0) ReflectliteValue.isNil) Tryd.func57 (by kernel_rfl) (by kernel_rfl) (by kernel_rfl) (by kernel_rfl)
  have h57 := @run_callFunc_extern Tryd.prog 85 _ (ReflectliteType.abiMethod fun t => do pure (.int .u8 (← Rtype.kind t))) Tryd.func85 (by kernel_rfl) (by kernel_rfl) (by kernel_rfl) (by kernel_rfl)
  have h71 := @run_callFunc_extern Tryd.prog 98 _ (ReflectliteType.method ReflectliteType.elem) Tryd.func98 (by kernel_rfl) (by kernel_rfl) (by kernel_rfl) (by kernel_rfl)
  have h72 := @run_callFunc_extern Tryd.prog 99 _ (ReflectliteType.relation "Implements" ReflectliteType.implements_) Tryd.func99 (by kernel_rfl) (by kernel_rfl) (by kernel_rfl) (by kernel_rfl)
  have mK := methodKind
  have mE := methodElem
  have mI := methodImplements
  have vP := valueOfPF
  have tP := typePF
  have kP := kindPF
  have kT := kindF
  have eP := elemF
  have iT := implementsF
  have hg1 := hG.2
  have hg0 := hG.1
  have iN := isNilPF ⟨w.heap.size, 0, none⟩ ⟨g, 0, none⟩ ((w.alloc (.cells #[.pointer (some ⟨g, 0, none⟩)] 70)).alloc (.cells #[.pointer (some ⟨3, 70, none⟩), .pointer (some ⟨w.heap.size, 0, none⟩), .int .u64 150] 84)) (by simp)
  have hg2 : ((w.alloc (.cells #[.pointer (some ⟨g, 0, none⟩)] 70)).alloc (.cells #[.pointer (some ⟨3, 70, none⟩), .pointer (some ⟨w.heap.size, 0, none⟩), .int .u64 150] 84)).cell? ⟨1, 0, none⟩ = some (.iface 95 (.agg #[.pointer (some ⟨3, 25, none⟩)])) := by
    rw [World.cell?_alloc_lt _ _ ⟨1, 0, none⟩ (by simp <;> omega), World.cell?_alloc_lt _ _ ⟨1, 0, none⟩ hg0]; exact hg1
  clear hG hg1
  go_enter Tryd.func45, Tryd.ntmps45
  go_wp2_with fail
  refine (as_FF g w.heap.size n m o1 o2 _ (by rw [World.cell?_alloc_lt _ _ ⟨g, 0, none⟩ (by simp <;> omega), World.cell?_alloc_lt _ _ ⟨g, 0, none⟩ hg]; exact ht) (by rw [World.cell?_alloc_lt _ _ ⟨g, 1, none⟩ (by simp <;> omega), World.cell?_alloc_lt _ _ ⟨g, 1, none⟩ hg]; exact ht1) (by rw [World.frozen?_alloc_old _ _ ⟨g, 0, none⟩ (by simp <;> omega), World.frozen?_alloc_old _ _ ⟨g, 0, none⟩ (Nat.ne_of_lt hg)]; exact hf) (by rw [World.frozen?_alloc_old _ _ ⟨g, 1, none⟩ (by simp <;> omega), World.frozen?_alloc_old _ _ ⟨g, 1, none⟩ (Nat.ne_of_lt hg)]; exact hf1) (by simp) (by simp <;> omega) (by simp <;> omega)).mono ?_
  rintro e w1 ⟨rfl, hc, hc1, hb⟩
  go_wp2
  go_ret
  exact ⟨rfl, hc, hc1, (((Below.refl g w).alloc (Nat.le_of_lt hg) _).alloc (by simp <;> omega) _).trans hb⟩

set_option maxRecDepth 100000 in
set_option maxHeartbeats 4000000 in
theorem As_CF (g : Nat) (n : Int) (w : World) (hG : ErrG w) (hgl : 1 < g)  (hg : g < w.heap.size) :
    Calls Tryd.prog 45 #[.iface 47 (.int .i64 n), .iface 70 (.pointer (some ⟨g, 0, none⟩))] w fun e w' => e = .returned (.bool false) ∧ Below w.heap.size w w' := by
  have h24 := @run_callFunc_extern Tryd.prog 55 _ (fun args => ReflectliteValue.unpack (args.getD 0 (.tuple #[]))) Tryd.func55 (by kernel_rfl) (by kernel_rfl) (by kernel_rfl) (by kernel_rfl)
  have h25 := @run_callFunc_extern Tryd.prog 56 _ (ReflectliteValue.methodAny (ReflectliteValue.valueError "reflectlite.Value.Type" 0) (fun t _ _ _ => ReflectliteType.toType t)) Tryd.func56 (by kernel_rfl) (by kernel_rfl) (by kernel_rfl) (by kernel_rfl)
  have h26 := @run_callFunc_extern Tryd.prog 57 _ (ReflectliteValue.method (ReflectliteValue.valueError "reflectlite.Value.IsNil" 0) ReflectliteValue.isNil) Tryd.func57 (by kernel_rfl) (by kernel_rfl) (by kernel_rfl) (by kernel_rfl)
  have h57 := @run_callFunc_extern Tryd.prog 85 _ (ReflectliteType.abiMethod fun t => do pure (.int .u8 (← Rtype.kind t))) Tryd.func85 (by kernel_rfl) (by kernel_rfl) (by kernel_rfl) (by kernel_rfl)
  have h71 := @run_callFunc_extern Tryd.prog 98 _ (ReflectliteType.method ReflectliteType.elem) Tryd.func98 (by kernel_rfl) (by kernel_rfl) (by kernel_rfl) (by kernel_rfl)
  have h72 := @run_callFunc_extern Tryd.prog 99 _ (ReflectliteType.relation "Implements" ReflectliteType.implements_) Tryd.func99 (by kernel_rfl) (by kernel_rfl) (by kernel_rfl) (by kernel_rfl)
  have mK := methodKind
  have mE := methodElem
  have mI := methodImplements
  have vP := valueOfPF
  have tP := typePF
  have kP := kindPF
  have kT := kindF
  have eP := elemF
  have iT := implementsF
  have hg1 := hG.2
  have hg0 := hG.1
  have iN := isNilPF ⟨w.heap.size, 0, none⟩ ⟨g, 0, none⟩ ((w.alloc (.cells #[.pointer (some ⟨g, 0, none⟩)] 70)).alloc (.cells #[.pointer (some ⟨3, 70, none⟩), .pointer (some ⟨w.heap.size, 0, none⟩), .int .u64 150] 84)) (by simp)
  have hg2 : ((w.alloc (.cells #[.pointer (some ⟨g, 0, none⟩)] 70)).alloc (.cells #[.pointer (some ⟨3, 70, none⟩), .pointer (some ⟨w.heap.size, 0, none⟩), .int .u64 150] 84)).cell? ⟨1, 0, none⟩ = some (.iface 95 (.agg #[.pointer (some ⟨3, 25, none⟩)])) := by
    rw [World.cell?_alloc_lt _ _ ⟨1, 0, none⟩ (by simp <;> omega), World.cell?_alloc_lt _ _ ⟨1, 0, none⟩ hg0]; exact hg1
  clear hG hg1
  go_enter Tryd.func45, Tryd.ntmps45
  go_wp2_with fail
  refine (as_CF g w.heap.size n _).mono ?_
  rintro e w1 ⟨rfl, hb⟩
  go_wp2
  go_ret
  exact ⟨rfl, (((Below.refl w.heap.size w).alloc (Nat.le_refl _) _).alloc (by simp) _).trans (hb.mono (by simp <;> omega))⟩

theorem As_nil (t : Value) (w : World) : Calls Tryd.prog 45 #[.nilIface, t] w fun e w' => e = .returned (.bool false) ∧ w = w' := by
  go_enter Tryd.func45, Tryd.ntmps45
  go_wp2
  go_ret
  exact ⟨rfl, rfl⟩

end Go.Proofs.YthefibpcepgoaaaDoor.HErr
