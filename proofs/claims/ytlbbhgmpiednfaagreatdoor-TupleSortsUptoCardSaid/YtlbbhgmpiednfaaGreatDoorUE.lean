/- errors.As at the targets *api.Code and *api.Fault: closed facts on the model's entries at this program's types. -/
import Derived.Test.YtlbbhgmpiednfaaGreatDoorProg
import Derived.WalkKit
import Derived.LaidEql
import Derived.Stop.Asserts
import Derived.RowKitTokens
import Derived.Test.YtlbbhgmpiednfaaGreatDoorUT
namespace Go.Proofs.YtlbbhgmpiednfaaGreatDoor.HErrF
set_option linter.unusedVariables false
set_option linter.unusedSimpArgs false
open Go.RowKit Go.Extern.Stop Go.Stop Go.Extern

theorem rlm (z : Sem Value) (f : TypeId → Addr → Nat → Nat → Sem Value) (v : Value) :
    ReflectliteValue.method z f #[v] = (do match ← ReflectliteValue.parts v with | none => z | some (t, a, fl) => f t a fl (fl % 32)) := rfl
theorem rls (v x : Value) : ReflectliteValue.set #[v, x] = (do
    let (some (dst, a, fl), some (src, b, _)) := (← ReflectliteValue.parts v, ← ReflectliteValue.parts x)
      | unsupported (.noEntry "extern/(internal/reflectlite.Value).Set.zeroValue")
    if fl / ReflectliteValue.flagAddr % 2 == 0 then unsupported (.noEntry "extern/(internal/reflectlite.Value).Set.unaddressable")
    let val ← loadVar src b
    if ← Rtype.directlyAssignable dst src then storeVar dst a val
    else if ← Rtype.implements dst src then
      if (← Rtype.kind src) == 20 then
        match val with
        | .nilIface => unsupported (.noEntry "extern/reflectlite: a nil value of one interface type handed on as a value of another")
        | _ => storeVar dst a val
      else storeVar dst a (.iface src val)
    else panicString ("reflectlite.Set: value of type " ++ (← Rtype.spelt src) ++ " is not assignable to type " ++ (← Rtype.spelt dst))
    pure (.tuple #[])) := rfl

theorem methodKind (h : Value) (w : World) : (Go.method 303 152 (.agg #[h]) "Kind").run Tryz.prog w = .ok (133, h) w := by kernel_rfl
theorem methodElem (h : Value) (w : World) : (Go.method 303 152 (.agg #[h]) "Elem").run Tryz.prog w = .ok (145, .agg #[h]) w := by kernel_rfl
theorem methodImplements (h : Value) (w : World) : (Go.method 303 152 (.agg #[h]) "Implements").run Tryz.prog w = .ok (146, .agg #[h]) w := by kernel_rfl
theorem methodAssignableTo (h : Value) (w : World) : (Go.method 303 152 (.agg #[h]) "AssignableTo").run Tryz.prog w = .ok (143, .agg #[h]) w := by kernel_rfl
theorem methodUnwrapF (h : Value) (w : World) : (Go.method 303 108 h "Unwrap").run Tryz.prog w = .ok (138, h) w := by kernel_rfl

theorem noAsC (v : Value) (xT : TypeId) (w : World) : (Instr.typeAssert (.iface 81 v) xT 157 true).run Tryz.prog w = .ok (.tuple #[.nilIface, .bool false]) w := run_typeAssert_lacksB Tryz.underlying157 (by kernel_rfl) (by kernel_rfl) v xT w
theorem noAsF (v : Value) (xT : TypeId) (w : World) : (Instr.typeAssert (.iface 108 v) xT 157 true).run Tryz.prog w = .ok (.tuple #[.nilIface, .bool false]) w := run_typeAssert_lacksB Tryz.underlying157 (by kernel_rfl) (by kernel_rfl) v xT w
theorem noUnC (v : Value) (xT : TypeId) (w : World) : (Instr.typeAssert (.iface 81 v) xT 160 true).run Tryz.prog w = .ok (.tuple #[.nilIface, .bool false]) w := run_typeAssert_lacksB Tryz.underlying160 (by kernel_rfl) (by kernel_rfl) v xT w
theorem noUsC (v : Value) (xT : TypeId) (w : World) : (Instr.typeAssert (.iface 81 v) xT 161 true).run Tryz.prog w = .ok (.tuple #[.nilIface, .bool false]) w := run_typeAssert_lacksB Tryz.underlying161 (by kernel_rfl) (by kernel_rfl) v xT w
theorem unF (v : Value) (xT : TypeId) (w : World) : (Instr.typeAssert (.iface 108 v) xT 160 true).run Tryz.prog w = .ok (.tuple #[.iface 108 v, .bool true]) w := run_typeAssert_hasB Tryz.underlying160 (by kernel_rfl) v xT w
theorem elemC (w : World) : (ReflectliteType.method ReflectliteType.elem #[.agg #[.pointer (some ⟨3, 111, none⟩)]]).run Tryz.prog w = .ok (.iface 152 (.agg #[.pointer (some ⟨3, 81, none⟩)])) w := by kernel_rfl
theorem elemF (w : World) : (ReflectliteType.method ReflectliteType.elem #[.agg #[.pointer (some ⟨3, 112, none⟩)]]).run Tryz.prog w = .ok (.iface 152 (.agg #[.pointer (some ⟨3, 108, none⟩)])) w := by kernel_rfl
theorem implementsC (w : World) : (ReflectliteType.relation "Implements" ReflectliteType.implements_ #[.agg #[.pointer (some ⟨3, 81, none⟩)], .iface 152 (.agg #[.pointer (some ⟨3, 42, none⟩)])]).run Tryz.prog w = .ok (.bool true) w := by kernel_rfl
theorem implementsF (w : World) : (ReflectliteType.relation "Implements" ReflectliteType.implements_ #[.agg #[.pointer (some ⟨3, 108, none⟩)], .iface 152 (.agg #[.pointer (some ⟨3, 42, none⟩)])]).run Tryz.prog w = .ok (.bool true) w := by kernel_rfl
theorem typeOfC (v : Value) (w : World) : (ReflectliteType.typeOf #[.iface 81 v]).run Tryz.prog w = .ok (.iface 152 (.agg #[.pointer (some ⟨3, 81, none⟩)])) w := by kernel_rfl
theorem typeOfF (v : Value) (w : World) : (ReflectliteType.typeOf #[.iface 108 v]).run Tryz.prog w = .ok (.iface 152 (.agg #[.pointer (some ⟨3, 108, none⟩)])) w := by kernel_rfl
theorem assignableCC (w : World) : (ReflectliteType.relation "AssignableTo" ReflectliteType.assignableTo #[.agg #[.pointer (some ⟨3, 81, none⟩)], .iface 152 (.agg #[.pointer (some ⟨3, 81, none⟩)])]).run Tryz.prog w = .ok (.bool true) w := by kernel_rfl
theorem assignableFF (w : World) : (ReflectliteType.relation "AssignableTo" ReflectliteType.assignableTo #[.agg #[.pointer (some ⟨3, 108, none⟩)], .iface 152 (.agg #[.pointer (some ⟨3, 108, none⟩)])]).run Tryz.prog w = .ok (.bool true) w := by kernel_rfl
theorem assignableFC (w : World) : (ReflectliteType.relation "AssignableTo" ReflectliteType.assignableTo #[.agg #[.pointer (some ⟨3, 108, none⟩)], .iface 152 (.agg #[.pointer (some ⟨3, 81, none⟩)])]).run Tryz.prog w = .ok (.bool false) w := by kernel_rfl
theorem assignableCF (w : World) : (ReflectliteType.relation "AssignableTo" ReflectliteType.assignableTo #[.agg #[.pointer (some ⟨3, 81, none⟩)], .iface 152 (.agg #[.pointer (some ⟨3, 108, none⟩)])]).run Tryz.prog w = .ok (.bool false) w := by kernel_rfl
theorem valueOfC (n : Int) (w : World) : (ReflectliteValue.unpack (.iface 81 (.int .i64 n))).run Tryz.prog w
    = .ok (.agg #[.pointer (some ⟨3, 81, none⟩), .pointer (some ⟨w.heap.size, 0, none⟩), .int .u64 130]) (w.alloc (.cells #[.int .i64 n] 81)) := by kernel_rfl
theorem valueOfF (n m : Int) (w : World) : (ReflectliteValue.unpack (.iface 108 (.agg #[.int .i64 n, .int .i64 m]))).run Tryz.prog w
    = .ok (.agg #[.pointer (some ⟨3, 108, none⟩), .pointer (some ⟨w.heap.size, 0, none⟩), .int .u64 153]) (w.alloc (.cells #[.int .i64 n, .int .i64 m] 108)) := by kernel_rfl
theorem valueOfPC (t : Addr) (w : World) : (ReflectliteValue.unpack (.iface 111 (.pointer (some t)))).run Tryz.prog w
    = .ok (.agg #[.pointer (some ⟨3, 111, none⟩), .pointer (some ⟨w.heap.size, 0, none⟩), .int .u64 150]) (w.alloc (.cells #[.pointer (some t)] 111)) := by kernel_rfl
theorem valueOfPF (t : Addr) (w : World) : (ReflectliteValue.unpack (.iface 112 (.pointer (some t)))).run Tryz.prog w
    = .ok (.agg #[.pointer (some ⟨3, 112, none⟩), .pointer (some ⟨w.heap.size, 0, none⟩), .int .u64 150]) (w.alloc (.cells #[.pointer (some t)] 112)) := by kernel_rfl
theorem typePC (a : Addr) (w : World) : (ReflectliteValue.methodAny (ReflectliteValue.valueError "reflectlite.Value.Type" 0) (fun t _ _ _ => ReflectliteType.toType t) #[.agg #[.pointer (some ⟨3, 111, none⟩), .pointer (some a), .int .u64 150]]).run Tryz.prog w
    = .ok (.iface 152 (.agg #[.pointer (some ⟨3, 111, none⟩)])) w := by kernel_rfl
theorem typePF (a : Addr) (w : World) : (ReflectliteValue.methodAny (ReflectliteValue.valueError "reflectlite.Value.Type" 0) (fun t _ _ _ => ReflectliteType.toType t) #[.agg #[.pointer (some ⟨3, 112, none⟩), .pointer (some a), .int .u64 150]]).run Tryz.prog w
    = .ok (.iface 152 (.agg #[.pointer (some ⟨3, 112, none⟩)])) w := by kernel_rfl
theorem kindPC (w : World) : ((ReflectliteType.abiMethod fun t => (fun a : Nat => Value.int IntKind.u8 (a : Int)) <$> Rtype.kind t) #[.pointer (some ⟨3, 111, none⟩)]).run Tryz.prog w = .ok (.int .u8 22) w := by kernel_rfl
theorem kindPF (w : World) : ((ReflectliteType.abiMethod fun t => (fun a : Nat => Value.int IntKind.u8 (a : Int)) <$> Rtype.kind t) #[.pointer (some ⟨3, 112, none⟩)]).run Tryz.prog w = .ok (.int .u8 22) w := by kernel_rfl
theorem kindC (w : World) : ((ReflectliteType.abiMethod fun t => (fun a : Nat => Value.int IntKind.u8 (a : Int)) <$> Rtype.kind t) #[.pointer (some ⟨3, 81, none⟩)]).run Tryz.prog w = .ok (.int .u8 2) w := by kernel_rfl
theorem kindF (w : World) : ((ReflectliteType.abiMethod fun t => (fun a : Nat => Value.int IntKind.u8 (a : Int)) <$> Rtype.kind t) #[.pointer (some ⟨3, 108, none⟩)]).run Tryz.prog w = .ok (.int .u8 25) w := by kernel_rfl

theorem partsPC (a : Addr) (w : World) : (ReflectliteValue.parts (.agg #[.pointer (some ⟨3, 111, none⟩), .pointer (some a), .int .u64 150])).run Tryz.prog w = .ok (some (111, a, 150)) w := by kernel_rfl
theorem partsPF (a : Addr) (w : World) : (ReflectliteValue.parts (.agg #[.pointer (some ⟨3, 112, none⟩), .pointer (some a), .int .u64 150])).run Tryz.prog w = .ok (some (112, a, 150)) w := by kernel_rfl
theorem isNilPC (a p : Addr) (W : World) (ha : W.cell? a = some (.pointer (some p))) :
    (ReflectliteValue.method (ReflectliteValue.valueError "reflectlite.Value.IsNil" 0) ReflectliteValue.isNil #[.agg #[.pointer (some ⟨3, 111, none⟩), .pointer (some a), .int .u64 150]]).run Tryz.prog W = .ok (.bool false) W := by
  rw [rlm]
  simp only [Sem.run_bind, partsPC, Result.andThen]
  simp [ReflectliteValue.isNil, loadVar, isAgg, underlying, Tryz.underlying111, ha, Result.andThen]
theorem isNilPF (a p : Addr) (W : World) (ha : W.cell? a = some (.pointer (some p))) :
    (ReflectliteValue.method (ReflectliteValue.valueError "reflectlite.Value.IsNil" 0) ReflectliteValue.isNil #[.agg #[.pointer (some ⟨3, 112, none⟩), .pointer (some a), .int .u64 150]]).run Tryz.prog W = .ok (.bool false) W := by
  rw [rlm]
  simp only [Sem.run_bind, partsPF, Result.andThen]
  simp [ReflectliteValue.isNil, loadVar, isAgg, underlying, Tryz.underlying112, ha, Result.andThen]
theorem elemOfPC (w : World) : (Rtype.elem? 111).run Tryz.prog w = .ok (some 81) w := by kernel_rfl
theorem elemOfPF (w : World) : (Rtype.elem? 112).run Tryz.prog w = .ok (some 108) w := by kernel_rfl
theorem mkC (p : Addr) (w : World) : (ReflectliteValue.mk 81 p ReflectliteValue.flagAddr).run Tryz.prog w = .ok (.agg #[.pointer (some ⟨3, 81, none⟩), .pointer (some p), .int .u64 386]) w := by kernel_rfl
theorem mkF (p : Addr) (w : World) : (ReflectliteValue.mk 108 p ReflectliteValue.flagAddr).run Tryz.prog w = .ok (.agg #[.pointer (some ⟨3, 108, none⟩), .pointer (some p), .int .u64 409]) w := by kernel_rfl
theorem elemVC (a p : Addr) (W : World) (ha : W.cell? a = some (.pointer (some p))) :
    (ReflectliteValue.method (ReflectliteValue.valueError "reflectlite.Value.Elem" 0) ReflectliteValue.elem #[.agg #[.pointer (some ⟨3, 111, none⟩), .pointer (some a), .int .u64 150]]).run Tryz.prog W
      = .ok (.agg #[.pointer (some ⟨3, 81, none⟩), .pointer (some p), .int .u64 386]) W := by
  rw [rlm]
  simp only [Sem.run_bind, partsPC, Result.andThen]
  simp [ReflectliteValue.elem, loadVar, isAgg, underlying, Tryz.underlying111, ha, Result.andThen, elemOfPC, mkC]
theorem elemVF (a p : Addr) (W : World) (ha : W.cell? a = some (.pointer (some p))) :
    (ReflectliteValue.method (ReflectliteValue.valueError "reflectlite.Value.Elem" 0) ReflectliteValue.elem #[.agg #[.pointer (some ⟨3, 112, none⟩), .pointer (some a), .int .u64 150]]).run Tryz.prog W
      = .ok (.agg #[.pointer (some ⟨3, 108, none⟩), .pointer (some p), .int .u64 409]) W := by
  rw [rlm]
  simp only [Sem.run_bind, partsPF, Result.andThen]
  simp [ReflectliteValue.elem, loadVar, isAgg, underlying, Tryz.underlying112, ha, Result.andThen, elemOfPF, mkF]
theorem partsCa (a : Addr) (w : World) : (ReflectliteValue.parts (.agg #[.pointer (some ⟨3, 81, none⟩), .pointer (some a), .int .u64 386])).run Tryz.prog w = .ok (some (81, a, 386)) w := by kernel_rfl
theorem partsC (a : Addr) (w : World) : (ReflectliteValue.parts (.agg #[.pointer (some ⟨3, 81, none⟩), .pointer (some a), .int .u64 130])).run Tryz.prog w = .ok (some (81, a, 130)) w := by kernel_rfl
theorem partsFa (a : Addr) (w : World) : (ReflectliteValue.parts (.agg #[.pointer (some ⟨3, 108, none⟩), .pointer (some a), .int .u64 409])).run Tryz.prog w = .ok (some (108, a, 409)) w := by kernel_rfl
theorem partsF (a : Addr) (w : World) : (ReflectliteValue.parts (.agg #[.pointer (some ⟨3, 108, none⟩), .pointer (some a), .int .u64 153])).run Tryz.prog w = .ok (some (108, a, 153)) w := by kernel_rfl
theorem directC (w : World) : (Rtype.directlyAssignable 81 81).run Tryz.prog w = .ok true w := by kernel_rfl
theorem directF (w : World) : (Rtype.directlyAssignable 108 108).run Tryz.prog w = .ok true w := by kernel_rfl
theorem sizeF (w : World) : (sizeOf 108).run Tryz.prog w = .ok 2 w := by kernel_rfl
theorem setC (ta b : Addr) (n : Int) (old : Value) (W : World) (hb : W.cell? b = some (.int .i64 n)) (ht : W.cell? ta = some old) (hf : W.frozen? ta = false) :
    (ReflectliteValue.set #[.agg #[.pointer (some ⟨3, 81, none⟩), .pointer (some ta), .int .u64 386], .agg #[.pointer (some ⟨3, 81, none⟩), .pointer (some b), .int .u64 130]]).run Tryz.prog W
      = .ok (.tuple #[]) (W.setCell ta (.int .i64 n)) := by
  rw [rls]
  simp only [Sem.run_bind, partsCa, partsC, Result.andThen]
  simp [ReflectliteValue.flagAddr, loadVar, isAgg, underlying, Tryz.underlying81, hb, Result.andThen, directC, storeVar, Value.cells, storeCells, Addr.add]
  rw [run_store Tryz.prog W ta _ _ (by rfl)]
  simp [ht, hf]
theorem setF (g b : Nat) (n m o1 o2 : Int) (W : World) (hb : W.cell? ⟨b, 0, none⟩ = some (.int .i64 n)) (hb1 : W.cell? ⟨b, 1, none⟩ = some (.int .i64 m)) (ht : W.cell? ⟨g, 0, none⟩ = some (.int .i64 o1)) (ht1 : W.cell? ⟨g, 1, none⟩ = some (.int .i64 o2)) (hf : W.frozen? ⟨g, 0, none⟩ = false) (hf1 : W.frozen? ⟨g, 1, none⟩ = false) :
    (ReflectliteValue.set #[.agg #[.pointer (some ⟨3, 108, none⟩), .pointer (some ⟨g, 0, none⟩), .int .u64 409], .agg #[.pointer (some ⟨3, 108, none⟩), .pointer (some ⟨b, 0, none⟩), .int .u64 153]]).run Tryz.prog W
      = .ok (.tuple #[]) ((W.setCell ⟨g, 0, none⟩ (.int .i64 n)).setCell ⟨g, 1, none⟩ (.int .i64 m)) := by
  rw [rls]
  have hl : (loadCells ⟨b, 0, none⟩ 2).run Tryz.prog W = .ok #[.int .i64 n, .int .i64 m] W := run_loadCells_list W ⟨b, 0, none⟩ [.int .i64 n, .int .i64 m] (fun j v h => by
    match j, h with
    | 0, h => injection h with h; subst h; exact hb
    | 1, h => injection h with h; subst h; exact hb1)
  simp only [Sem.run_bind, partsFa, partsF, Result.andThen]
  simp [ReflectliteValue.flagAddr, loadVar, isAgg, underlying, Tryz.underlying108, hl, Result.andThen, directF, storeVar, Value.cells, storeCells, Addr.add]
  rw [run_store Tryz.prog W ⟨g, 0, none⟩ _ _ (by rfl)]
  simp [ht, hf]
  rw [run_store Tryz.prog _ ⟨g, 1, none⟩ _ _ (by rfl)]
  have hq : (W.setCell ⟨g, 0, none⟩ (.int .i64 n)).cell? ⟨g, 1, none⟩ = some (.int .i64 o2) := by rw [World.cell?_setCell_other (h := by intro h; cases h)]; exact ht1
  simp [hq, hf1]
end Go.Proofs.YtlbbhgmpiednfaaGreatDoor.HErrF
/- errors.As at the targets *api.Code and *api.Fault; fault.Code, fault.At. -/
namespace Go.Proofs.YtlbbhgmpiednfaaGreatDoor.HErr
open Go.RowKit Go.Extern.Stop Go.Stop Go.Extern Go.Proofs.YtlbbhgmpiednfaaGreatDoor.HErrF Go.Proofs.YtlbbhgmpiednfaaGreatDoor.HLib
set_option linter.unusedVariables false
set_option linter.unusedSimpArgs false

/-- What the listed variable errors.errorType holds. -/
def ErrG (w : World) : Prop := 1 < w.heap.size ∧ w.cell? ⟨1, 0, none⟩ = some (.iface 152 (.agg #[.pointer (some ⟨3, 42, none⟩)]))
theorem ErrG.below {w w1 : World} {n : Nat} (h : ErrG w) (hb : Below n w w1) (hn : 1 < n) : ErrG w1 :=
  ⟨by have := hb.size; have := h.1; omega, by rw [hb.cell (p := ⟨1, 0, none⟩) hn]; exact h.2⟩

set_option maxHeartbeats 4000000 in
theorem as_CC (g a : Nat) (n old : Int) (w : World) (ht : w.cell? ⟨g, 0, none⟩ = some (.int .i64 old)) (hf : w.frozen? ⟨g, 0, none⟩ = false) (ha : w.cell? ⟨a, 0, none⟩ = some (.pointer (some ⟨g, 0, none⟩))) (hg : g < w.heap.size) (hav : a < w.heap.size) :
    Calls Tryz.prog 90 #[.iface 81 (.int .i64 n), .iface 111 (.pointer (some ⟨g, 0, none⟩)), .agg #[.pointer (some ⟨3, 111, none⟩), .pointer (some ⟨a, 0, none⟩), .int .u64 150], .iface 152 (.agg #[.pointer (some ⟨3, 81, none⟩)])] w fun e w' => e = .returned (.bool true) ∧ w'.cell? ⟨g, 0, none⟩ = some (.int .i64 n) ∧ Below g w w' := by
  have h21 := @run_callFunc_extern Tryz.prog 108 _ ReflectliteType.typeOf Tryz.func108 (by kernel_rfl) (by kernel_rfl) (by kernel_rfl) (by kernel_rfl)
  have h69 := @run_callFunc_extern Tryz.prog 143 _ (ReflectliteType.relation "AssignableTo" ReflectliteType.assignableTo) Tryz.func143 (by kernel_rfl) (by kernel_rfl) (by kernel_rfl) (by kernel_rfl)
  have h24 := @run_callFunc_extern Tryz.prog 87 _ (fun args => ReflectliteValue.unpack (args.getD 0 (.tuple #[]))) Tryz.func87 (by kernel_rfl) (by kernel_rfl) (by kernel_rfl) (by kernel_rfl)
  have h29 := @run_callFunc_extern Tryz.prog 109 _ (ReflectliteValue.method (ReflectliteValue.valueError "reflectlite.Value.Elem" 0) ReflectliteValue.elem) Tryz.func109 (by kernel_rfl) (by kernel_rfl) (by kernel_rfl) (by kernel_rfl)
  have h30 := @run_callFunc_extern Tryz.prog 110 _ ReflectliteValue.set Tryz.func110 (by kernel_rfl) (by kernel_rfl) (by kernel_rfl) (by kernel_rfl)
  have tO := typeOfC
  have mA := methodAssignableTo
  have aC := assignableCC
  have vC := valueOfC
  have el := elemVC ⟨a, 0, none⟩ ⟨g, 0, none⟩ (w.alloc (.cells #[.pointer (some ⟨3, 111, none⟩), .pointer (some ⟨a, 0, none⟩), .int .u64 150] 126)) (by rw [World.cell?_alloc_lt _ _ ⟨a, 0, none⟩ hav]; exact ha)
  have st := setC ⟨g, 0, none⟩ ⟨w.heap.size + 1, 0, none⟩ n (.int .i64 old) ((w.alloc (.cells #[.pointer (some ⟨3, 111, none⟩), .pointer (some ⟨a, 0, none⟩), .int .u64 150] 126)).alloc (.cells #[.int .i64 n] 81))
    (by simp)
    (by rw [World.cell?_alloc_lt _ _ ⟨g, 0, none⟩ (by simp <;> omega), World.cell?_alloc_lt _ _ ⟨g, 0, none⟩ hg]; exact ht)
    (by rw [World.frozen?_alloc_old _ _ ⟨g, 0, none⟩ (by simp <;> omega), World.frozen?_alloc_old _ _ ⟨g, 0, none⟩ (Nat.ne_of_lt hg)]; exact hf)
  go_enter Tryz.func90, Tryz.ntmps90
  go_wp2
  refine wp_loop_rounds 1 ?_
  rw [rounds_succ]
  go_wp2
  go_ret
  refine ⟨rfl, ?_, ?_⟩
  · rw [World.cell?_alloc_lt _ _ ⟨g, 0, none⟩ (by simp [World.setCell]; omega), World.cell?_alloc_lt _ _ ⟨g, 0, none⟩ (by simpa [World.setCell] using hg)]
    exact World.cell?_setCell_same _ _ _ ht
  · exact (((Below.refl g w).setCell (p := ⟨g, 0, none⟩) (Nat.le_refl _) _).alloc (by simp [World.setCell]; omega) _).alloc (by simp [World.setCell]; omega) _

set_option maxHeartbeats 4000000 in
theorem as_FF (g a : Nat) (n m o1 o2 : Int) (w : World) (ht : w.cell? ⟨g, 0, none⟩ = some (.int .i64 o1)) (ht1 : w.cell? ⟨g, 1, none⟩ = some (.int .i64 o2)) (hf : w.frozen? ⟨g, 0, none⟩ = false) (hf1 : w.frozen? ⟨g, 1, none⟩ = false) (ha : w.cell? ⟨a, 0, none⟩ = some (.pointer (some ⟨g, 0, none⟩))) (hg : g < w.heap.size) (hav : a < w.heap.size) :
    Calls Tryz.prog 90 #[.iface 108 (.agg #[.int .i64 n, .int .i64 m]), .iface 112 (.pointer (some ⟨g, 0, none⟩)), .agg #[.pointer (some ⟨3, 112, none⟩), .pointer (some ⟨a, 0, none⟩), .int .u64 150], .iface 152 (.agg #[.pointer (some ⟨3, 108, none⟩)])] w fun e w' => e = .returned (.bool true) ∧ w'.cell? ⟨g, 0, none⟩ = some (.int .i64 n) ∧ w'.cell? ⟨g, 1, none⟩ = some (.int .i64 m) ∧ Below g w w' := by
  have h21 := @run_callFunc_extern Tryz.prog 108 _ ReflectliteType.typeOf Tryz.func108 (by kernel_rfl) (by kernel_rfl) (by kernel_rfl) (by kernel_rfl)
  have h69 := @run_callFunc_extern Tryz.prog 143 _ (ReflectliteType.relation "AssignableTo" ReflectliteType.assignableTo) Tryz.func143 (by kernel_rfl) (by kernel_rfl) (by kernel_rfl) (by kernel_rfl)
  have h24 := @run_callFunc_extern Tryz.prog 87 _ (fun args => ReflectliteValue.unpack (args.getD 0 (.tuple #[]))) Tryz.func87 (by kernel_rfl) (by kernel_rfl) (by kernel_rfl) (by kernel_rfl)
  have h29 := @run_callFunc_extern Tryz.prog 109 _ (ReflectliteValue.method (ReflectliteValue.valueError "reflectlite.Value.Elem" 0) ReflectliteValue.elem) Tryz.func109 (by kernel_rfl) (by kernel_rfl) (by kernel_rfl) (by kernel_rfl)
  have h30 := @run_callFunc_extern Tryz.prog 110 _ ReflectliteValue.set Tryz.func110 (by kernel_rfl) (by kernel_rfl) (by kernel_rfl) (by kernel_rfl)
  have mA := methodAssignableTo
  have tO := typeOfF
  have aC := assignableFF
  have vC := valueOfF
  have el := elemVF ⟨a, 0, none⟩ ⟨g, 0, none⟩ (w.alloc (.cells #[.pointer (some ⟨3, 112, none⟩), .pointer (some ⟨a, 0, none⟩), .int .u64 150] 126)) (by rw [World.cell?_alloc_lt _ _ ⟨a, 0, none⟩ hav]; exact ha)
  have st := setF g (w.heap.size + 1) n m o1 o2 ((w.alloc (.cells #[.pointer (some ⟨3, 112, none⟩), .pointer (some ⟨a, 0, none⟩), .int .u64 150] 126)).alloc (.cells #[.int .i64 n, .int .i64 m] 108))
    (by simp) (by simp)
    (by rw [World.cell?_alloc_lt _ _ ⟨g, 0, none⟩ (by simp <;> omega), World.cell?_alloc_lt _ _ ⟨g, 0, none⟩ hg]; exact ht)
    (by rw [World.cell?_alloc_lt _ _ ⟨g, 1, none⟩ (by simp <;> omega), World.cell?_alloc_lt _ _ ⟨g, 1, none⟩ hg]; exact ht1)
    (by rw [World.frozen?_alloc_old _ _ ⟨g, 0, none⟩ (by simp <;> omega), World.frozen?_alloc_old _ _ ⟨g, 0, none⟩ (Nat.ne_of_lt hg)]; exact hf)
    (by rw [World.frozen?_alloc_old _ _ ⟨g, 1, none⟩ (by simp <;> omega), World.frozen?_alloc_old _ _ ⟨g, 1, none⟩ (Nat.ne_of_lt hg)]; exact hf1)
  go_enter Tryz.func90, Tryz.ntmps90
  go_wp2
  refine wp_loop_rounds 1 ?_
  rw [rounds_succ]
  go_wp2
  go_ret
  refine ⟨rfl, ?_, ?_, ?_⟩
  · rw [World.cell?_alloc_lt _ _ ⟨g, 0, none⟩ (by simp [World.setCell]; omega), World.cell?_alloc_lt _ _ ⟨g, 0, none⟩ (by simpa [World.setCell] using hg), World.cell?_setCell_other (h := by intro h; cases h)]
    exact World.cell?_setCell_same _ _ _ ht
  · rw [World.cell?_alloc_lt _ _ ⟨g, 1, none⟩ (by simp [World.setCell]; omega), World.cell?_alloc_lt _ _ ⟨g, 1, none⟩ (by simpa [World.setCell] using hg)]
    refine World.cell?_setCell_same _ _ _ (u := .int .i64 o2) ?_
    rw [World.cell?_setCell_other (h := by intro h; cases h)]
    exact ht1
  · exact ((((Below.refl g w).setCell (p := ⟨g, 0, none⟩) (Nat.le_refl _) _).setCell (p := ⟨g, 1, none⟩) (Nat.le_refl _) _).alloc (by simp [World.setCell]; omega) _).alloc (by simp [World.setCell]; omega) _

set_option maxHeartbeats 4000000 in
theorem as_CF (g a : Nat) (n : Int) (w : World) :
    Calls Tryz.prog 90 #[.iface 81 (.int .i64 n), .iface 112 (.pointer (some ⟨g, 0, none⟩)), .agg #[.pointer (some ⟨3, 112, none⟩), .pointer (some ⟨a, 0, none⟩), .int .u64 150], .iface 152 (.agg #[.pointer (some ⟨3, 108, none⟩)])] w fun e w' => e = .returned (.bool false) ∧ Below w.heap.size w w' := by
  have h21 := @run_callFunc_extern Tryz.prog 108 _ ReflectliteType.typeOf Tryz.func108 (by kernel_rfl) (by kernel_rfl) (by kernel_rfl) (by kernel_rfl)
  have h69 := @run_callFunc_extern Tryz.prog 143 _ (ReflectliteType.relation "AssignableTo" ReflectliteType.assignableTo) Tryz.func143 (by kernel_rfl) (by kernel_rfl) (by kernel_rfl) (by kernel_rfl)
  have h24 := @run_callFunc_extern Tryz.prog 87 _ (fun args => ReflectliteValue.unpack (args.getD 0 (.tuple #[]))) Tryz.func87 (by kernel_rfl) (by kernel_rfl) (by kernel_rfl) (by kernel_rfl)
  have h29 := @run_callFunc_extern Tryz.prog 109 _ (ReflectliteValue.method (ReflectliteValue.valueError "reflectlite.Value.Elem" 0) ReflectliteValue.elem) Tryz.func109 (by kernel_rfl) (by kernel_rfl) (by kernel_rfl) (by kernel_rfl)
  have h30 := @run_callFunc_extern Tryz.prog 110 _ ReflectliteValue.set Tryz.func110 (by kernel_rfl) (by kernel_rfl) (by kernel_rfl) (by kernel_rfl)
  have mA := methodAssignableTo
  have tO := typeOfC
  have aC := assignableCF
  have n1 := noAsC
  have n2 := noUnC
  have n3 := noUsC
  go_enter Tryz.func90, Tryz.ntmps90
  go_wp2
  refine wp_loop_rounds 1 ?_
  rw [rounds_succ]
  go_wp2
  go_ret
  exact ⟨rfl, (Below.refl _ _).alloc (Nat.le_refl _) _⟩

theorem unwrap_F (n m : Int) (w : World) : Calls Tryz.prog 138 #[.agg #[.int .i64 n, .int .i64 m]] w fun e w' => e = .returned (.iface 81 (.int .i64 n)) ∧ w' = w.alloc (.cells #[.int .i64 n, .int .i64 m] 108) := by
  go_enter Tryz.func138, Tryz.ntmps138
  go_wp2
  go_ret
  exact ⟨rfl, rfl⟩

set_option maxHeartbeats 4000000 in
theorem as_FC (g a : Nat) (n m old : Int) (w : World) (ht : w.cell? ⟨g, 0, none⟩ = some (.int .i64 old)) (hf : w.frozen? ⟨g, 0, none⟩ = false) (ha : w.cell? ⟨a, 0, none⟩ = some (.pointer (some ⟨g, 0, none⟩))) (hg : g < w.heap.size) (hav : a < w.heap.size) :
    Calls Tryz.prog 90 #[.iface 108 (.agg #[.int .i64 n, .int .i64 m]), .iface 111 (.pointer (some ⟨g, 0, none⟩)), .agg #[.pointer (some ⟨3, 111, none⟩), .pointer (some ⟨a, 0, none⟩), .int .u64 150], .iface 152 (.agg #[.pointer (some ⟨3, 81, none⟩)])] w fun e w' => e = .returned (.bool true) ∧ w'.cell? ⟨g, 0, none⟩ = some (.int .i64 n) ∧ Below g w w' := by
  have h21 := @run_callFunc_extern Tryz.prog 108 _ ReflectliteType.typeOf Tryz.func108 (by kernel_rfl) (by kernel_rfl) (by kernel_rfl) (by kernel_rfl)
  have h69 := @run_callFunc_extern Tryz.prog 143 _ (ReflectliteType.relation "AssignableTo" ReflectliteType.assignableTo) Tryz.func143 (by kernel_rfl) (by kernel_rfl) (by kernel_rfl) (by kernel_rfl)
  have h24 := @run_callFunc_extern Tryz.prog 87 _ (fun args => ReflectliteValue.unpack (args.getD 0 (.tuple #[]))) Tryz.func87 (by kernel_rfl) (by kernel_rfl) (by kernel_rfl) (by kernel_rfl)
  have h29 := @run_callFunc_extern Tryz.prog 109 _ (ReflectliteValue.method (ReflectliteValue.valueError "reflectlite.Value.Elem" 0) ReflectliteValue.elem) Tryz.func109 (by kernel_rfl) (by kernel_rfl) (by kernel_rfl) (by kernel_rfl)
  have h30 := @run_callFunc_extern Tryz.prog 110 _ ReflectliteValue.set Tryz.func110 (by kernel_rfl) (by kernel_rfl) (by kernel_rfl) (by kernel_rfl)
  have mA := methodAssignableTo
  have tO := typeOfF
  have aC := assignableFC
  have n1 := noAsF
  have n2 := unF
  have mU := methodUnwrapF
  go_enter Tryz.func90, Tryz.ntmps90
  go_wp2
  refine wp_loop_rounds 2 ?_
  rw [rounds_succ]
  go_wp2_with fail
  refine (unwrap_F _ _ _).mono ?_
  rintro e w1 ⟨rfl, rfl⟩
  have tO2 := typeOfC
  have aC2 := assignableCC
  have vC := valueOfC
  have el := elemVC ⟨a, 0, none⟩ ⟨g, 0, none⟩ ((w.alloc (.cells #[.pointer (some ⟨3, 111, none⟩), .pointer (some ⟨a, 0, none⟩), .int .u64 150] 126)).alloc (.cells #[.int .i64 n, .int .i64 m] 108)) (by rw [World.cell?_alloc_lt _ _ ⟨a, 0, none⟩ (by simp <;> omega), World.cell?_alloc_lt _ _ ⟨a, 0, none⟩ hav]; exact ha)
  have st := setC ⟨g, 0, none⟩ ⟨w.heap.size + 1 + 1, 0, none⟩ n (.int .i64 old) (((w.alloc (.cells #[.pointer (some ⟨3, 111, none⟩), .pointer (some ⟨a, 0, none⟩), .int .u64 150] 126)).alloc (.cells #[.int .i64 n, .int .i64 m] 108)).alloc (.cells #[.int .i64 n] 81))
    (by rw [World.cell?_alloc_at _ _ _ _ (by simp)]; rfl)
    (by rw [World.cell?_alloc_lt _ _ ⟨g, 0, none⟩ (by simp <;> omega), World.cell?_alloc_lt _ _ ⟨g, 0, none⟩ (by simp <;> omega), World.cell?_alloc_lt _ _ ⟨g, 0, none⟩ hg]; exact ht)
    (by rw [World.frozen?_alloc_old _ _ ⟨g, 0, none⟩ (by simp <;> omega), World.frozen?_alloc_old _ _ ⟨g, 0, none⟩ (by simp <;> omega), World.frozen?_alloc_old _ _ ⟨g, 0, none⟩ (Nat.ne_of_lt hg)]; exact hf)
  go_wp2
  rw [rounds_succ]
  go_wp2
  go_ret
  refine ⟨rfl, ?_, ?_⟩
  · refine World.cell?_setCell_same _ _ _ (u := .int .i64 old) ?_
    rw [World.cell?_alloc_lt _ _ ⟨g, 0, none⟩ (by simp <;> omega), World.cell?_alloc_lt _ _ ⟨g, 0, none⟩ (by simp <;> omega), World.cell?_alloc_lt _ _ ⟨g, 0, none⟩ hg]
    exact ht
  · exact (((((Below.refl g w).alloc (by omega) _).alloc (by simp <;> omega) _).alloc (by simp <;> omega) _).setCell (p := ⟨g, 0, none⟩) (Nat.le_refl _) _)

end Go.Proofs.YtlbbhgmpiednfaaGreatDoor.HErr
/- errors.As at the targets *api.Code and *api.Fault; fault.Code, fault.At. -/
namespace Go.Proofs.YtlbbhgmpiednfaaGreatDoor.HErr
open Go.RowKit Go.Extern.Stop Go.Stop Go.Extern Go.Proofs.YtlbbhgmpiednfaaGreatDoor.HErrF Go.Proofs.YtlbbhgmpiednfaaGreatDoor.HLib
set_option linter.unusedVariables false
set_option linter.unusedSimpArgs false

set_option maxRecDepth 100000 in
set_option maxHeartbeats 4000000 in
theorem As_CC (g : Nat) (n : Int) (w : World) (hG : ErrG w) (hgl : 1 < g) (old : Int) (ht : w.cell? ⟨g, 0, none⟩ = some (.int .i64 old)) (hf : w.frozen? ⟨g, 0, none⟩ = false) (hg : g < w.heap.size) :
    Calls Tryz.prog 78 #[.iface 81 (.int .i64 n), .iface 111 (.pointer (some ⟨g, 0, none⟩))] w fun e w' => e = .returned (.bool true) ∧ w'.cell? ⟨g, 0, none⟩ = some (.int .i64 n) ∧ Below g w w' := by
  have h24 := @run_callFunc_extern Tryz.prog 87 _ (fun args => ReflectliteValue.unpack (args.getD 0 (.tuple #[]))) Tryz.func87 (by kernel_rfl) (by kernel_rfl) (by kernel_rfl) (by kernel_rfl)
  have h25 := @run_callFunc_extern Tryz.prog 88 _ (ReflectliteValue.methodAny (ReflectliteValue.valueError "reflectlite.Value.Type" 0) (fun t _ _ _ => ReflectliteType.toType t)) Tryz.func88 (by kernel_rfl) (by kernel_rfl) (by kernel_rfl) (by kernel_rfl)
  have h26 := @run_callFunc_extern Tryz.prog 89 _ (ReflectliteValue.method (ReflectliteValue.valueError "reflectlite.Value.IsNil" 0) ReflectliteValue.isNil) Tryz.func89 (by kernel_rfl) (by kernel_rfl) (by kernel_rfl) (by kernel_rfl)
  have h57 := @run_callFunc_extern Tryz.prog 133 _ (ReflectliteType.abiMethod fun t => do pure (.int .u8 (← Rtype.kind t))) Tryz.func133 (by kernel_rfl) (by kernel_rfl) (by kernel_rfl) (by kernel_rfl)
  have h71 := @run_callFunc_extern Tryz.prog 145 _ (ReflectliteType.method ReflectliteType.elem) Tryz.func145 (by kernel_rfl) (by kernel_rfl) (by kernel_rfl) (by kernel_rfl)
  have h72 := @run_callFunc_extern Tryz.prog 146 _ (ReflectliteType.relation "Implements" ReflectliteType.implements_) Tryz.func146 (by kernel_rfl) (by kernel_rfl) (by kernel_rfl) (by kernel_rfl)
  have mK := methodKind
  have mE := methodElem
  have mI := methodImplements
  have vP := valueOfPC
  have tP := typePC
  have kP := kindPC
  have kT := kindC
  have eP := elemC
  have iT := implementsC
  have hg1 := hG.2
  have hg0 := hG.1
  have iN := isNilPC ⟨w.heap.size, 0, none⟩ ⟨g, 0, none⟩ ((w.alloc (.cells #[.pointer (some ⟨g, 0, none⟩)] 111)).alloc (.cells #[.pointer (some ⟨3, 111, none⟩), .pointer (some ⟨w.heap.size, 0, none⟩), .int .u64 150] 126)) (by simp)
  have hg2 : ((w.alloc (.cells #[.pointer (some ⟨g, 0, none⟩)] 111)).alloc (.cells #[.pointer (some ⟨3, 111, none⟩), .pointer (some ⟨w.heap.size, 0, none⟩), .int .u64 150] 126)).cell? ⟨1, 0, none⟩ = some (.iface 152 (.agg #[.pointer (some ⟨3, 42, none⟩)])) := by
    rw [World.cell?_alloc_lt _ _ ⟨1, 0, none⟩ (by simp <;> omega), World.cell?_alloc_lt _ _ ⟨1, 0, none⟩ hg0]; exact hg1
  clear hG hg1
  go_enter Tryz.func78, Tryz.ntmps78
  go_wp2_with fail
  refine (as_CC g w.heap.size n old _ (by rw [World.cell?_alloc_lt _ _ ⟨g, 0, none⟩ (by simp <;> omega), World.cell?_alloc_lt _ _ ⟨g, 0, none⟩ hg]; exact ht) (by rw [World.frozen?_alloc_old _ _ ⟨g, 0, none⟩ (by simp <;> omega), World.frozen?_alloc_old _ _ ⟨g, 0, none⟩ (Nat.ne_of_lt hg)]; exact hf) (by simp) (by simp <;> omega) (by simp <;> omega)).mono ?_
  rintro e w1 ⟨rfl, hc, hb⟩
  go_wp2
  go_ret
  exact ⟨rfl, hc, (((Below.refl g w).alloc (Nat.le_of_lt hg) _).alloc (by simp <;> omega) _).trans hb⟩

set_option maxRecDepth 100000 in
set_option maxHeartbeats 4000000 in
theorem As_FC (g : Nat) (n m : Int) (w : World) (hG : ErrG w) (hgl : 1 < g) (old : Int) (ht : w.cell? ⟨g, 0, none⟩ = some (.int .i64 old)) (hf : w.frozen? ⟨g, 0, none⟩ = false) (hg : g < w.heap.size) :
    Calls Tryz.prog 78 #[.iface 108 (.agg #[.int .i64 n, .int .i64 m]), .iface 111 (.pointer (some ⟨g, 0, none⟩))] w fun e w' => e = .returned (.bool true) ∧ w'.cell? ⟨g, 0, none⟩ = some (.int .i64 n) ∧ Below g w w' := by
  have h24 := @run_callFunc_extern Tryz.prog 87 _ (fun args => ReflectliteValue.unpack (args.getD 0 (.tuple #[]))) Tryz.func87 (by kernel_rfl) (by kernel_rfl) (by kernel_rfl) (by kernel_rfl)
  have h25 := @run_callFunc_extern Tryz.prog 88 _ (ReflectliteValue.methodAny (ReflectliteValue.valueError "reflectlite.Value.Type" 0) (fun t _ _ _ => ReflectliteType.toType t)) Tryz.func88 (by kernel_rfl) (by kernel_rfl) (by kernel_rfl) (by kernel_rfl)
  have h26 := @run_callFunc_extern Tryz.prog 89 _ (ReflectliteValue.method (ReflectliteValue.valueError "reflectlite.Value.IsNil" 0) ReflectliteValue.isNil) Tryz.func89 (by kernel_rfl) (by kernel_rfl) (by kernel_rfl) (by kernel_rfl)
  have h57 := @run_callFunc_extern Tryz.prog 133 _ (ReflectliteType.abiMethod fun t => do pure (.int .u8 (← Rtype.kind t))) Tryz.func133 (by kernel_rfl) (by kernel_rfl) (by kernel_rfl) (by kernel_rfl)
  have h71 := @run_callFunc_extern Tryz.prog 145 _ (ReflectliteType.method ReflectliteType.elem) Tryz.func145 (by kernel_rfl) (by kernel_rfl) (by kernel_rfl) (by kernel_rfl)
  have h72 := @run_callFunc_extern Tryz.prog 146 _ (ReflectliteType.relation "Implements" ReflectliteType.implements_) Tryz.func146 (by kernel_rfl) (by kernel_rfl) (by kernel_rfl) (by kernel_rfl)
  have mK := methodKind
  have mE := methodElem
  have mI := methodImplements
  have vP := valueOfPC
  have tP := typePC
  have kP := kindPC
  have kT := kindC
  have eP := elemC
  have iT := implementsC
  have hg1 := hG.2
  have hg0 := hG.1
  have iN := isNilPC ⟨w.heap.size, 0, none⟩ ⟨g, 0, none⟩ ((w.alloc (.cells #[.pointer (some ⟨g, 0, none⟩)] 111)).alloc (.cells #[.pointer (some ⟨3, 111, none⟩), .pointer (some ⟨w.heap.size, 0, none⟩), .int .u64 150] 126)) (by simp)
  have hg2 : ((w.alloc (.cells #[.pointer (some ⟨g, 0, none⟩)] 111)).alloc (.cells #[.pointer (some ⟨3, 111, none⟩), .pointer (some ⟨w.heap.size, 0, none⟩), .int .u64 150] 126)).cell? ⟨1, 0, none⟩ = some (.iface 152 (.agg #[.pointer (some ⟨3, 42, none⟩)])) := by
    rw [World.cell?_alloc_lt _ _ ⟨1, 0, none⟩ (by simp <;> omega), World.cell?_alloc_lt _ _ ⟨1, 0, none⟩ hg0]; exact hg1
  clear hG hg1
  go_enter Tryz.func78, Tryz.ntmps78
  go_wp2_with fail
  refine (as_FC g w.heap.size n m old _ (by rw [World.cell?_alloc_lt _ _ ⟨g, 0, none⟩ (by simp <;> omega), World.cell?_alloc_lt _ _ ⟨g, 0, none⟩ hg]; exact ht) (by rw [World.frozen?_alloc_old _ _ ⟨g, 0, none⟩ (by simp <;> omega), World.frozen?_alloc_old _ _ ⟨g, 0, none⟩ (Nat.ne_of_lt hg)]; exact hf) (by simp) (by simp <;> omega) (by simp <;> omega)).mono ?_
  rintro e w1 ⟨rfl, hc, hb⟩
  go_wp2
  go_ret
  exact ⟨rfl, hc, (((Below.refl g w).alloc (Nat.le_of_lt hg) _).alloc (by simp <;> omega) _).trans hb⟩

set_option maxRecDepth 100000 in
set_option maxHeartbeats 4000000 in
theorem As_FF (g : Nat) (n m : Int) (w : World) (hG : ErrG w) (hgl : 1 < g) (o1 o2 : Int) (ht : w.cell? ⟨g, 0, none⟩ = some (.int .i64 o1)) (ht1 : w.cell? ⟨g, 1, none⟩ = some (.int .i64 o2)) (hf : w.frozen? ⟨g, 0, none⟩ = false) (hf1 : w.frozen? ⟨g, 1, none⟩ = false) (hg : g < w.heap.size) :
    Calls Tryz.prog 78 #[.iface 108 (.agg #[.int .i64 n, .int .i64 m]), .iface 112 (.pointer (some ⟨g, 0, none⟩))] w fun e w' => e = .returned (.bool true) ∧ w'.cell? ⟨g, 0, none⟩ = some (.int .i64 n) ∧ w'.cell? ⟨g, 1, none⟩ = some (.int .i64 m) ∧ Below g w w' := by
  have h24 := @run_callFunc_extern Tryz.prog 87 _ (fun args => ReflectliteValue.unpack (args.getD 0 (.tuple #[]))) Tryz.func87 (by kernel_rfl) (by kernel_rfl) (by kernel_rfl) (by kernel_rfl)
  have h25 := @run_callFunc_extern Tryz.prog 88 _ (ReflectliteValue.methodAny (ReflectliteValue.valueError "reflectlite.Value.Type" 0) (fun t _ _ _ => ReflectliteType.toType t)) Tryz.func88 (by kernel_rfl) (by kernel_rfl) (by kernel_rfl) (by kernel_rfl)
  have h26 := @run_callFunc_extern Tryz.prog 89 _ (ReflectliteValue.method (ReflectliteValue.valueError "reflectlite.Value.IsNil" 0) ReflectliteValue.isNil) Tryz.func89 (by kernel_rfl) (by kernel_rfl) (by kernel_rfl) (by kernel_rfl)
  have h57 := @run_callFunc_extern Tryz.prog 133 _ (ReflectliteType.abiMethod fun t => do pure (.int .u8 (← Rtype.kind t))) Tryz.func133 (by kernel_rfl) (by kernel_rfl) (by kernel_rfl) (by kernel_rfl)
  have h71 := @run_callFunc_extern Tryz.prog 145 _ (ReflectliteType.method ReflectliteType.elem) Tryz.func145 (by kernel_rfl) (by kernel_rfl) (by kernel_rfl) (by kernel_rfl)
  have h72 := @run_callFunc_extern Tryz.prog 146 _ (ReflectliteType.relation "Implements" ReflectliteType.implements_) Tryz.func146 (by kernel_rfl) (by kernel_rfl) (by kernel_rfl) (by kernel_rfl)
  have mK := methodKind
  have mE := methodElem
  have mI := methodImplements
  have vP := valueOfPF
  have tP := typePF
  have kP := kindPF
  have kT := kindF
  have eP := elemF
  have iT := implementsF
  have hg1 := hG.2
  have hg0 := hG.1
  have iN := isNilPF ⟨w.heap.size, 0, none⟩ ⟨g, 0, none⟩ ((w.alloc (.cells #[.pointer (some ⟨g, 0, none⟩)] 112)).alloc (.cells #[.pointer (some ⟨3, 112, none⟩), .pointer (some ⟨w.heap.size, 0, none⟩), .int .u64 150] 126)) (by simp)
  have hg2 : ((w.alloc (.cells #[.pointer (some ⟨g, 0, none⟩)] 112)).alloc (.cells #[.pointer (some ⟨3, 112, none⟩), .pointer (some ⟨w.heap.size, 0, none⟩), .int .u64 150] 126)).cell? ⟨1, 0, none⟩ = some (.iface 152 (.agg #[.pointer (some ⟨3, 42, none⟩)])) := by
    rw [World.cell?_alloc_lt _ _ ⟨1, 0, none⟩ (by simp <;> omega), World.cell?_alloc_lt _ _ ⟨1, 0, none⟩ hg0]; exact hg1
  clear hG hg1
  go_enter Tryz.func78, Tryz.ntmps78
  go_wp2_with fail
  refine (as_FF g w.heap.size n m o1 o2 _ (by rw [World.cell?_alloc_lt _ _ ⟨g, 0, none⟩ (by simp <;> omega), World.cell?_alloc_lt _ _ ⟨g, 0, none⟩ hg]; exact ht) (by rw [World.cell?_alloc_lt _ _ ⟨g, 1, none⟩ (by simp <;> omega), World.cell?_alloc_lt _ _ ⟨g, 1, none⟩ hg]; exact ht1) (by rw [World.frozen?_alloc_old _ _ ⟨g, 0, none⟩ (by simp <;> omega), World.frozen?_alloc_old _ _ ⟨g, 0, none⟩ (Nat.ne_of_lt hg)]; exact hf) (by rw [World.frozen?_alloc_old _ _ ⟨g, 1, none⟩ (by simp <;> omega), World.frozen?_alloc_old _ _ ⟨g, 1, none⟩ (Nat.ne_of_lt hg)]; exact hf1) (by simp) (by simp <;> omega) (by simp <;> omega)).mono ?_
  rintro e w1 ⟨rfl, hc, hc1, hb⟩
  go_wp2
  go_ret
  exact ⟨rfl, hc, hc1, (((Below.refl g w).alloc (Nat.le_of_lt hg) _).alloc (by simp <;> omega) _).trans hb⟩

set_option maxRecDepth 100000 in
set_option maxHeartbeats 4000000 in
theorem As_CF (g : Nat) (n : Int) (w : World) (hG : ErrG w) (hgl : 1 < g)  (hg : g < w.heap.size) :
    Calls Tryz.prog 78 #[.iface 81 (.int .i64 n), .iface 112 (.pointer (some ⟨g, 0, none⟩))] w fun e w' => e = .returned (.bool false) ∧ Below w.heap.size w w' := by
  have h24 := @run_callFunc_extern Tryz.prog 87 _ (fun args => ReflectliteValue.unpack (args.getD 0 (.tuple #[]))) Tryz.func87 (by kernel_rfl) (by kernel_rfl) (by kernel_rfl) (by kernel_rfl)
  have h25 := @run_callFunc_extern Tryz.prog 88 _ (ReflectliteValue.methodAny (ReflectliteValue.valueError "reflectlite.Value.Type" 0) (fun t _ _ _ => ReflectliteType.toType t)) Tryz.func88 (by kernel_rfl) (by kernel_rfl) (by kernel_rfl) (by kernel_rfl)
  have h26 := @run_callFunc_extern Tryz.prog 89 _ (ReflectliteValue.method (ReflectliteValue.valueError "reflectlite.Value.IsNil" 0) ReflectliteValue.isNil) Tryz.func89 (by kernel_rfl) (by kernel_rfl) (by kernel_rfl) (by kernel_rfl)
  have h57 := @run_callFunc_extern Tryz.prog 133 _ (ReflectliteType.abiMethod fun t => do pure (.int .u8 (← Rtype.kind t))) Tryz.func133 (by kernel_rfl) (by kernel_rfl) (by kernel_rfl) (by kernel_rfl)
  have h71 := @run_callFunc_extern Tryz.prog 145 _ (ReflectliteType.method ReflectliteType.elem) Tryz.func145 (by kernel_rfl) (by kernel_rfl) (by kernel_rfl) (by kernel_rfl)
  have h72 := @run_callFunc_extern Tryz.prog 146 _ (ReflectliteType.relation "Implements" ReflectliteType.implements_) Tryz.func146 (by kernel_rfl) (by kernel_rfl) (by kernel_rfl) (by kernel_rfl)
  have mK := methodKind
  have mE := methodElem
  have mI := methodImplements
  have vP := valueOfPF
  have tP := typePF
  have kP := kindPF
  have kT := kindF
  have eP := elemF
  have iT := implementsF
  have hg1 := hG.2
  have hg0 := hG.1
  have iN := isNilPF ⟨w.heap.size, 0, none⟩ ⟨g, 0, none⟩ ((w.alloc (.cells #[.pointer (some ⟨g, 0, none⟩)] 112)).alloc (.cells #[.pointer (some ⟨3, 112, none⟩), .pointer (some ⟨w.heap.size, 0, none⟩), .int .u64 150] 126)) (by simp)
  have hg2 : ((w.alloc (.cells #[.pointer (some ⟨g, 0, none⟩)] 112)).alloc (.cells #[.pointer (some ⟨3, 112, none⟩), .pointer (some ⟨w.heap.size, 0, none⟩), .int .u64 150] 126)).cell? ⟨1, 0, none⟩ = some (.iface 152 (.agg #[.pointer (some ⟨3, 42, none⟩)])) := by
    rw [World.cell?_alloc_lt _ _ ⟨1, 0, none⟩ (by simp <;> omega), World.cell?_alloc_lt _ _ ⟨1, 0, none⟩ hg0]; exact hg1
  clear hG hg1
  go_enter Tryz.func78, Tryz.ntmps78
  go_wp2_with fail
  refine (as_CF g w.heap.size n _).mono ?_
  rintro e w1 ⟨rfl, hb⟩
  go_wp2
  go_ret
  exact ⟨rfl, (((Below.refl w.heap.size w).alloc (Nat.le_refl _) _).alloc (by simp) _).trans (hb.mono (by simp <;> omega))⟩

theorem As_nil (t : Value) (w : World) : Calls Tryz.prog 78 #[.nilIface, t] w fun e w' => e = .returned (.bool false) ∧ w = w' := by
  go_enter Tryz.func78, Tryz.ntmps78
  go_wp2
  go_ret
  exact ⟨rfl, rfl⟩

end Go.Proofs.YtlbbhgmpiednfaaGreatDoor.HErr
/- errors.As at the targets *api.Code and *api.Fault; fault.Code, fault.At. -/
namespace Go.Proofs.YtlbbhgmpiednfaaGreatDoor.HErr
open Go.RowKit Go.Proofs.YtlbbhgmpiednfaaGreatDoorW.PrintWords Go.Extern.Stop Go.Stop Go.Extern Go.Proofs.YtlbbhgmpiednfaaGreatDoor.HErrF Go.Proofs.YtlbbhgmpiednfaaGreatDoor.HLib
set_option linter.unusedVariables false
set_option linter.unusedSimpArgs false

set_option maxHeartbeats 4000000 in
theorem code_C (n : Int) (w : World) (hG : ErrG w) : Calls Tryz.prog 55 #[.iface 81 (.int .i64 n)] w fun e w' => e = .returned (.tuple #[.int .i64 n, .bool true]) ∧ Below w.heap.size w w' := by
  have hA : ErrG (w.alloc (.cells #[.int .i64 0] 81)) := hG.below (below_alloc (B0 w) _) hG.1
  have hgl := hG.1
  clear hG
  go_enter Tryz.func55, Tryz.ntmps55
  go_wp2_with fail
  refine (As_CC w.heap.size n _ hA hgl 0 (by simp) (by simp) (by simp)).mono ?_
  rintro e w1 ⟨rfl, hc, hb⟩
  go_wp2
  go_ret2
  exact ⟨rfl, ((below_alloc (B0 w) _).trans hb)⟩

set_option maxHeartbeats 4000000 in
theorem code_F (n m : Int) (w : World) (hG : ErrG w) : Calls Tryz.prog 55 #[.iface 108 (.agg #[.int .i64 n, .int .i64 m])] w fun e w' => e = .returned (.tuple #[.int .i64 n, .bool true]) ∧ Below w.heap.size w w' := by
  have hA : ErrG (w.alloc (.cells #[.int .i64 0] 81)) := hG.below (below_alloc (B0 w) _) hG.1
  have hgl := hG.1
  clear hG
  go_enter Tryz.func55, Tryz.ntmps55
  go_wp2_with fail
  refine (As_FC w.heap.size n m _ hA hgl 0 (by simp) (by simp) (by simp)).mono ?_
  rintro e w1 ⟨rfl, hc, hb⟩
  go_wp2
  go_ret2
  exact ⟨rfl, ((below_alloc (B0 w) _).trans hb)⟩

set_option maxHeartbeats 4000000 in
theorem at_F (n m : Int) (w : World) (hG : ErrG w) : Calls Tryz.prog 56 #[.iface 108 (.agg #[.int .i64 n, .int .i64 m])] w fun e w' => e = .returned (.tuple #[.int .i64 m, .bool true]) ∧ Below w.heap.size w w' := by
  have hA : ErrG (w.alloc (.cells #[.int .i64 0, .int .i64 0] 108)) := hG.below (below_alloc (B0 w) _) hG.1
  have hgl := hG.1
  clear hG
  go_enter Tryz.func56, Tryz.ntmps56
  go_wp2_with fail
  refine (As_FF w.heap.size n m _ hA hgl 0 0 (by simp) (by simp) (by simp) (by simp) (by simp)).mono ?_
  rintro e w1 ⟨rfl, hc, hc1, hb⟩
  go_wp2
  go_ret2
  exact ⟨rfl, ((below_alloc (B0 w) _).trans hb)⟩

set_option maxHeartbeats 4000000 in
theorem at_C (n : Int) (w : World) (hG : ErrG w) : Calls Tryz.prog 56 #[.iface 81 (.int .i64 n)] w fun e w' => e = .returned (.tuple #[.int .i64 0, .bool false]) ∧ Below w.heap.size w w' := by
  have hA : ErrG (w.alloc (.cells #[.int .i64 0, .int .i64 0] 108)) := hG.below (below_alloc (B0 w) _) hG.1
  have hgl := hG.1
  clear hG
  go_enter Tryz.func56, Tryz.ntmps56
  go_wp2_with fail
  refine (As_CF w.heap.size n _ hA hgl (by simp)).mono ?_
  rintro e w1 ⟨rfl, hb⟩
  have hc := (hb.cell (p := ⟨w.heap.size, 0, none⟩) (by simp)).trans (show _ = _ from World.cell?_alloc_at _ _ _ _ rfl)
  have hc1 := (hb.cell (p := ⟨w.heap.size, 1, none⟩) (by simp)).trans (show _ = _ from World.cell?_alloc_at _ _ _ _ rfl)
  go_wp2
  go_ret2
  exact ⟨rfl, below_step (below_alloc (B0 w) _) hb⟩

theorem code_nil (w : World) : Calls Tryz.prog 55 #[.nilIface] w fun e w' => e = .returned (.tuple #[.int .i64 0, .bool false]) ∧ Below w.heap.size w w' := by
  go_enter Tryz.func55, Tryz.ntmps55
  go_wp2_with fail
  refine (As_nil _ _).mono ?_
  rintro e w1 ⟨rfl, rfl⟩
  go_wp2
  go_ret2
  exact ⟨rfl, below_alloc (B0 w) _⟩

theorem at_nil (w : World) : Calls Tryz.prog 56 #[.nilIface] w fun e w' => e = .returned (.tuple #[.int .i64 0, .bool false]) ∧ Below w.heap.size w w' := by
  go_enter Tryz.func56, Tryz.ntmps56
  go_wp2_with fail
  refine (As_nil _ _).mono ?_
  rintro e w1 ⟨rfl, rfl⟩
  go_wp2
  go_ret2
  exact ⟨rfl, below_alloc (B0 w) _⟩

theorem new_any (n m : Int) (w : World) : Calls Tryz.prog 47 #[.int .i64 n, .int .i64 m] w fun e w' => e = .returned (.iface 108 (.agg #[.int .i64 n, .int .i64 m])) ∧ w = w' := by
  go_enter Tryz.func47, Tryz.ntmps47
  go_wp2
  go_ret
  exact ⟨rfl, rfl⟩

end Go.Proofs.YtlbbhgmpiednfaaGreatDoor.HErr
