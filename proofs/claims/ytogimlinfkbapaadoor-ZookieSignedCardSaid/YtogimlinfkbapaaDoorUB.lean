/- errors.As at the targets *api.Code and *api.Fault: closed facts on the model's entries at this program's types. -/
import Derived.Test.YtogimlinfkbapaaDoorProg
import Derived.WalkKit
import Derived.LaidEql
import Derived.Stop.Asserts
import Derived.RowKitTokens
import Derived.Test.YtogimlinfkbapaaDoorUA
namespace Go.Proofs.YtogimlinfkbapaaDoor.HErrF
set_option linter.unusedVariables false
set_option linter.unusedSimpArgs false
open Go.RowKit Go.Extern.Stop Go.Stop Go.Extern

theorem rlm (z : Sem Value) (f : TypeId → Addr → Nat → Nat → Sem Value) (v : Value) :
    ReflectliteValue.method z f #[v] = (do match ← ReflectliteValue.parts v with | none => z | some (t, a, fl) => f t a fl (fl % 32)) := rfl
theorem rls (v x : Value) : ReflectliteValue.set #[v, x] = (do
    let (some (dst, a, fl), some (src, b, _)) := (← ReflectliteValue.parts v, ← ReflectliteValue.parts x)
      | unsupported (.noEntry "extern/(internal/reflectlite.Value).Set.zeroValue")
    if fl / ReflectliteValue.flagAddr % 2 == 0 then unsupported (.noEntry "extern/(internal/reflectlite.Value).Set.unaddressable")
    let val ← loadVar src b
    if ← Rtype.directlyAssignable dst src then storeVar dst a val
    else if ← Rtype.implements dst src then
      if (← Rtype.kind src) == 20 then
        match val with
        | .nilIface => unsupported (.noEntry "extern/reflectlite: a nil value of one interface type handed on as a value of another")
        | _ => storeVar dst a val
      else storeVar dst a (.iface src val)
    else panicString ("reflectlite.Set: value of type " ++ (← Rtype.spelt src) ++ " is not assignable to type " ++ (← Rtype.spelt dst))
    pure (.tuple #[])) := rfl

theorem methodKind (h : Value) (w : World) : (Go.method 270 131 (.agg #[h]) "Kind").run Tryd.prog w = .ok (99, h) w := by kernel_rfl
theorem methodElem (h : Value) (w : World) : (Go.method 270 131 (.agg #[h]) "Elem").run Tryd.prog w = .ok (112, .agg #[h]) w := by kernel_rfl
theorem methodImplements (h : Value) (w : World) : (Go.method 270 131 (.agg #[h]) "Implements").run Tryd.prog w = .ok (113, .agg #[h]) w := by kernel_rfl
theorem methodAssignableTo (h : Value) (w : World) : (Go.method 270 131 (.agg #[h]) "AssignableTo").run Tryd.prog w = .ok (110, .agg #[h]) w := by kernel_rfl
theorem methodUnwrapF (h : Value) (w : World) : (Go.method 270 96 h "Unwrap").run Tryd.prog w = .ok (105, h) w := by kernel_rfl

theorem noAsC (v : Value) (xT : TypeId) (w : World) : (Instr.typeAssert (.iface 35 v) xT 136 true).run Tryd.prog w = .ok (.tuple #[.nilIface, .bool false]) w := run_typeAssert_lacksB Tryd.underlying136 (by kernel_rfl) (by kernel_rfl) v xT w
theorem noAsF (v : Value) (xT : TypeId) (w : World) : (Instr.typeAssert (.iface 96 v) xT 136 true).run Tryd.prog w = .ok (.tuple #[.nilIface, .bool false]) w := run_typeAssert_lacksB Tryd.underlying136 (by kernel_rfl) (by kernel_rfl) v xT w
theorem noUnC (v : Value) (xT : TypeId) (w : World) : (Instr.typeAssert (.iface 35 v) xT 139 true).run Tryd.prog w = .ok (.tuple #[.nilIface, .bool false]) w := run_typeAssert_lacksB Tryd.underlying139 (by kernel_rfl) (by kernel_rfl) v xT w
theorem noUsC (v : Value) (xT : TypeId) (w : World) : (Instr.typeAssert (.iface 35 v) xT 140 true).run Tryd.prog w = .ok (.tuple #[.nilIface, .bool false]) w := run_typeAssert_lacksB Tryd.underlying140 (by kernel_rfl) (by kernel_rfl) v xT w
theorem unF (v : Value) (xT : TypeId) (w : World) : (Instr.typeAssert (.iface 96 v) xT 139 true).run Tryd.prog w = .ok (.tuple #[.iface 96 v, .bool true]) w := run_typeAssert_hasB Tryd.underlying139 (by kernel_rfl) v xT w
theorem elemC (w : World) : (ReflectliteType.method ReflectliteType.elem #[.agg #[.pointer (some ⟨3, 98, none⟩)]]).run Tryd.prog w = .ok (.iface 131 (.agg #[.pointer (some ⟨3, 35, none⟩)])) w := by kernel_rfl
theorem elemF (w : World) : (ReflectliteType.method ReflectliteType.elem #[.agg #[.pointer (some ⟨3, 99, none⟩)]]).run Tryd.prog w = .ok (.iface 131 (.agg #[.pointer (some ⟨3, 96, none⟩)])) w := by kernel_rfl
theorem implementsC (w : World) : (ReflectliteType.relation "Implements" ReflectliteType.implements_ #[.agg #[.pointer (some ⟨3, 35, none⟩)], .iface 131 (.agg #[.pointer (some ⟨3, 31, none⟩)])]).run Tryd.prog w = .ok (.bool true) w := by kernel_rfl
theorem implementsF (w : World) : (ReflectliteType.relation "Implements" ReflectliteType.implements_ #[.agg #[.pointer (some ⟨3, 96, none⟩)], .iface 131 (.agg #[.pointer (some ⟨3, 31, none⟩)])]).run Tryd.prog w = .ok (.bool true) w := by kernel_rfl
theorem typeOfC (v : Value) (w : World) : (ReflectliteType.typeOf #[.iface 35 v]).run Tryd.prog w = .ok (.iface 131 (.agg #[.pointer (some ⟨3, 35, none⟩)])) w := by kernel_rfl
theorem typeOfF (v : Value) (w : World) : (ReflectliteType.typeOf #[.iface 96 v]).run Tryd.prog w = .ok (.iface 131 (.agg #[.pointer (some ⟨3, 96, none⟩)])) w := by kernel_rfl
theorem assignableCC (w : World) : (ReflectliteType.relation "AssignableTo" ReflectliteType.assignableTo #[.agg #[.pointer (some ⟨3, 35, none⟩)], .iface 131 (.agg #[.pointer (some ⟨3, 35, none⟩)])]).run Tryd.prog w = .ok (.bool true) w := by kernel_rfl
theorem assignableFF (w : World) : (ReflectliteType.relation "AssignableTo" ReflectliteType.assignableTo #[.agg #[.pointer (some ⟨3, 96, none⟩)], .iface 131 (.agg #[.pointer (some ⟨3, 96, none⟩)])]).run Tryd.prog w = .ok (.bool true) w := by kernel_rfl
theorem assignableFC (w : World) : (ReflectliteType.relation "AssignableTo" ReflectliteType.assignableTo #[.agg #[.pointer (some ⟨3, 96, none⟩)], .iface 131 (.agg #[.pointer (some ⟨3, 35, none⟩)])]).run Tryd.prog w = .ok (.bool false) w := by kernel_rfl
theorem assignableCF (w : World) : (ReflectliteType.relation "AssignableTo" ReflectliteType.assignableTo #[.agg #[.pointer (some ⟨3, 35, none⟩)], .iface 131 (.agg #[.pointer (some ⟨3, 96, none⟩)])]).run Tryd.prog w = .ok (.bool false) w := by kernel_rfl
theorem valueOfC (n : Int) (w : World) : (ReflectliteValue.unpack (.iface 35 (.int .i64 n))).run Tryd.prog w
    = .ok (.agg #[.pointer (some ⟨3, 35, none⟩), .pointer (some ⟨w.heap.size, 0, none⟩), .int .u64 130]) (w.alloc (.cells #[.int .i64 n] 35)) := by kernel_rfl
theorem valueOfF (n m : Int) (w : World) : (ReflectliteValue.unpack (.iface 96 (.agg #[.int .i64 n, .int .i64 m]))).run Tryd.prog w
    = .ok (.agg #[.pointer (some ⟨3, 96, none⟩), .pointer (some ⟨w.heap.size, 0, none⟩), .int .u64 153]) (w.alloc (.cells #[.int .i64 n, .int .i64 m] 96)) := by kernel_rfl
theorem valueOfPC (t : Addr) (w : World) : (ReflectliteValue.unpack (.iface 98 (.pointer (some t)))).run Tryd.prog w
    = .ok (.agg #[.pointer (some ⟨3, 98, none⟩), .pointer (some ⟨w.heap.size, 0, none⟩), .int .u64 150]) (w.alloc (.cells #[.pointer (some t)] 98)) := by kernel_rfl
theorem valueOfPF (t : Addr) (w : World) : (ReflectliteValue.unpack (.iface 99 (.pointer (some t)))).run Tryd.prog w
    = .ok (.agg #[.pointer (some ⟨3, 99, none⟩), .pointer (some ⟨w.heap.size, 0, none⟩), .int .u64 150]) (w.alloc (.cells #[.pointer (some t)] 99)) := by kernel_rfl
theorem typePC (a : Addr) (w : World) : (ReflectliteValue.methodAny (ReflectliteValue.valueError "reflectlite.Value.Type" 0) (fun t _ _ _ => ReflectliteType.toType t) #[.agg #[.pointer (some ⟨3, 98, none⟩), .pointer (some a), .int .u64 150]]).run Tryd.prog w
    = .ok (.iface 131 (.agg #[.pointer (some ⟨3, 98, none⟩)])) w := by kernel_rfl
theorem typePF (a : Addr) (w : World) : (ReflectliteValue.methodAny (ReflectliteValue.valueError "reflectlite.Value.Type" 0) (fun t _ _ _ => ReflectliteType.toType t) #[.agg #[.pointer (some ⟨3, 99, none⟩), .pointer (some a), .int .u64 150]]).run Tryd.prog w
    = .ok (.iface 131 (.agg #[.pointer (some ⟨3, 99, none⟩)])) w := by kernel_rfl
theorem kindPC (w : World) : ((ReflectliteType.abiMethod fun t => (fun a : Nat => Value.int IntKind.u8 (a : Int)) <$> Rtype.kind t) #[.pointer (some ⟨3, 98, none⟩)]).run Tryd.prog w = .ok (.int .u8 22) w := by kernel_rfl
theorem kindPF (w : World) : ((ReflectliteType.abiMethod fun t => (fun a : Nat => Value.int IntKind.u8 (a : Int)) <$> Rtype.kind t) #[.pointer (some ⟨3, 99, none⟩)]).run Tryd.prog w = .ok (.int .u8 22) w := by kernel_rfl
theorem kindC (w : World) : ((ReflectliteType.abiMethod fun t => (fun a : Nat => Value.int IntKind.u8 (a : Int)) <$> Rtype.kind t) #[.pointer (some ⟨3, 35, none⟩)]).run Tryd.prog w = .ok (.int .u8 2) w := by kernel_rfl
theorem kindF (w : World) : ((ReflectliteType.abiMethod fun t => (fun a : Nat => Value.int IntKind.u8 (a : Int)) <$> Rtype.kind t) #[.pointer (some ⟨3, 96, none⟩)]).run Tryd.prog w = .ok (.int .u8 25) w := by kernel_rfl

theorem partsPC (a : Addr) (w : World) : (ReflectliteValue.parts (.agg #[.pointer (some ⟨3, 98, none⟩), .pointer (some a), .int .u64 150])).run Tryd.prog w = .ok (some (98, a, 150)) w := by kernel_rfl
theorem partsPF (a : Addr) (w : World) : (ReflectliteValue.parts (.agg #[.pointer (some ⟨3, 99, none⟩), .pointer (some a), .int .u64 150])).run Tryd.prog w = .ok (some (99, a, 150)) w := by kernel_rfl
theorem isNilPC (a p : Addr) (W : World) (ha : W.cell? a = some (.pointer (some p))) :
    (ReflectliteValue.method (ReflectliteValue.valueError "reflectlite.Value.IsNil" 0) ReflectliteValue.isNil #[.agg #[.pointer (some ⟨3, 98, none⟩), .pointer (some a), .int .u64 150]]).run Tryd.prog W = .ok (.bool false) W := by
  rw [rlm]
  simp only [Sem.run_bind, partsPC, Result.andThen]
  simp [ReflectliteValue.isNil, loadVar, isAgg, underlying, Tryd.underlying98, ha, Result.andThen]
theorem isNilPF (a p : Addr) (W : World) (ha : W.cell? a = some (.pointer (some p))) :
    (ReflectliteValue.method (ReflectliteValue.valueError "reflectlite.Value.IsNil" 0) ReflectliteValue.isNil #[.agg #[.pointer (some ⟨3, 99, none⟩), .pointer (some a), .int .u64 150]]).run Tryd.prog W = .ok (.bool false) W := by
  rw [rlm]
  simp only [Sem.run_bind, partsPF, Result.andThen]
  simp [ReflectliteValue.isNil, loadVar, isAgg, underlying, Tryd.underlying99, ha, Result.andThen]
theorem elemOfPC (w : World) : (Rtype.elem? 98).run Tryd.prog w = .ok (some 35) w := by kernel_rfl
theorem elemOfPF (w : World) : (Rtype.elem? 99).run Tryd.prog w = .ok (some 96) w := by kernel_rfl
theorem mkC (p : Addr) (w : World) : (ReflectliteValue.mk 35 p ReflectliteValue.flagAddr).run Tryd.prog w = .ok (.agg #[.pointer (some ⟨3, 35, none⟩), .pointer (some p), .int .u64 386]) w := by kernel_rfl
theorem mkF (p : Addr) (w : World) : (ReflectliteValue.mk 96 p ReflectliteValue.flagAddr).run Tryd.prog w = .ok (.agg #[.pointer (some ⟨3, 96, none⟩), .pointer (some p), .int .u64 409]) w := by kernel_rfl
theorem elemVC (a p : Addr) (W : World) (ha : W.cell? a = some (.pointer (some p))) :
    (ReflectliteValue.method (ReflectliteValue.valueError "reflectlite.Value.Elem" 0) ReflectliteValue.elem #[.agg #[.pointer (some ⟨3, 98, none⟩), .pointer (some a), .int .u64 150]]).run Tryd.prog W
      = .ok (.agg #[.pointer (some ⟨3, 35, none⟩), .pointer (some p), .int .u64 386]) W := by
  rw [rlm]
  simp only [Sem.run_bind, partsPC, Result.andThen]
  simp [ReflectliteValue.elem, loadVar, isAgg, underlying, Tryd.underlying98, ha, Result.andThen, elemOfPC, mkC]
theorem elemVF (a p : Addr) (W : World) (ha : W.cell? a = some (.pointer (some p))) :
    (ReflectliteValue.method (ReflectliteValue.valueError "reflectlite.Value.Elem" 0) ReflectliteValue.elem #[.agg #[.pointer (some ⟨3, 99, none⟩), .pointer (some a), .int .u64 150]]).run Tryd.prog W
      = .ok (.agg #[.pointer (some ⟨3, 96, none⟩), .pointer (some p), .int .u64 409]) W := by
  rw [rlm]
  simp only [Sem.run_bind, partsPF, Result.andThen]
  simp [ReflectliteValue.elem, loadVar, isAgg, underlying, Tryd.underlying99, ha, Result.andThen, elemOfPF, mkF]
theorem partsCa (a : Addr) (w : World) : (ReflectliteValue.parts (.agg #[.pointer (some ⟨3, 35, none⟩), .pointer (some a), .int .u64 386])).run Tryd.prog w = .ok (some (35, a, 386)) w := by kernel_rfl
theorem partsC (a : Addr) (w : World) : (ReflectliteValue.parts (.agg #[.pointer (some ⟨3, 35, none⟩), .pointer (some a), .int .u64 130])).run Tryd.prog w = .ok (some (35, a, 130)) w := by kernel_rfl
theorem partsFa (a : Addr) (w : World) : (ReflectliteValue.parts (.agg #[.pointer (some ⟨3, 96, none⟩), .pointer (some a), .int .u64 409])).run Tryd.prog w = .ok (some (96, a, 409)) w := by kernel_rfl
theorem partsF (a : Addr) (w : World) : (ReflectliteValue.parts (.agg #[.pointer (some ⟨3, 96, none⟩), .pointer (some a), .int .u64 153])).run Tryd.prog w = .ok (some (96, a, 153)) w := by kernel_rfl
theorem directC (w : World) : (Rtype.directlyAssignable 35 35).run Tryd.prog w = .ok true w := by kernel_rfl
theorem directF (w : World) : (Rtype.directlyAssignable 96 96).run Tryd.prog w = .ok true w := by kernel_rfl
theorem sizeF (w : World) : (sizeOf 96).run Tryd.prog w = .ok 2 w := by kernel_rfl
theorem setC (ta b : Addr) (n : Int) (old : Value) (W : World) (hb : W.cell? b = some (.int .i64 n)) (ht : W.cell? ta = some old) (hf : W.frozen? ta = false) :
    (ReflectliteValue.set #[.agg #[.pointer (some ⟨3, 35, none⟩), .pointer (some ta), .int .u64 386], .agg #[.pointer (some ⟨3, 35, none⟩), .pointer (some b), .int .u64 130]]).run Tryd.prog W
      = .ok (.tuple #[]) (W.setCell ta (.int .i64 n)) := by
  rw [rls]
  simp only [Sem.run_bind, partsCa, partsC, Result.andThen]
  simp [ReflectliteValue.flagAddr, loadVar, isAgg, underlying, Tryd.underlying35, hb, Result.andThen, directC, storeVar, Value.cells, storeCells, Addr.add]
  rw [run_store Tryd.prog W ta _ _ (by rfl)]
  simp [ht, hf]
theorem setF (g b : Nat) (n m o1 o2 : Int) (W : World) (hb : W.cell? ⟨b, 0, none⟩ = some (.int .i64 n)) (hb1 : W.cell? ⟨b, 1, none⟩ = some (.int .i64 m)) (ht : W.cell? ⟨g, 0, none⟩ = some (.int .i64 o1)) (ht1 : W.cell? ⟨g, 1, none⟩ = some (.int .i64 o2)) (hf : W.frozen? ⟨g, 0, none⟩ = false) (hf1 : W.frozen? ⟨g, 1, none⟩ = false) :
    (ReflectliteValue.set #[.agg #[.pointer (some ⟨3, 96, none⟩), .pointer (some ⟨g, 0, none⟩), .int .u64 409], .agg #[.pointer (some ⟨3, 96, none⟩), .pointer (some ⟨b, 0, none⟩), .int .u64 153]]).run Tryd.prog W
      = .ok (.tuple #[]) ((W.setCell ⟨g, 0, none⟩ (.int .i64 n)).setCell ⟨g, 1, none⟩ (.int .i64 m)) := by
  rw [rls]
  have hl : (loadCells ⟨b, 0, none⟩ 2).run Tryd.prog W = .ok #[.int .i64 n, .int .i64 m] W := run_loadCells_list W ⟨b, 0, none⟩ [.int .i64 n, .int .i64 m] (fun j v h => by
    match j, h with
    | 0, h => injection h with h; subst h; exact hb
    | 1, h => injection h with h; subst h; exact hb1)
  simp only [Sem.run_bind, partsFa, partsF, Result.andThen]
  simp [ReflectliteValue.flagAddr, loadVar, isAgg, underlying, Tryd.underlying96, hl, Result.andThen, directF, storeVar, Value.cells, storeCells, Addr.add]
  rw [run_store Tryd.prog W ⟨g, 0, none⟩ _ _ (by rfl)]
  simp [ht, hf]
  rw [run_store Tryd.prog _ ⟨g, 1, none⟩ _ _ (by rfl)]
  have hq : (W.setCell ⟨g, 0, none⟩ (.int .i64 n)).cell? ⟨g, 1, none⟩ = some (.int .i64 o2) := by rw [World.cell?_setCell_other (h := by intro h; cases h)]; exact ht1
  simp [hq, hf1]
end Go.Proofs.YtogimlinfkbapaaDoor.HErrF
/- errors.As at the targets *api.Code and *api.Fault; fault.Code, fault.At. -/
namespace Go.Proofs.YtogimlinfkbapaaDoor.HErr
open Go.RowKit Go.Extern.Stop Go.Stop Go.Extern Go.Proofs.YtogimlinfkbapaaDoor.HErrF Go.Proofs.YtogimlinfkbapaaDoor.HLib
set_option linter.unusedVariables false
set_option linter.unusedSimpArgs false

/-- What the listed variable errors.errorType holds. -/
def ErrG (w : World) : Prop := 0 < w.heap.size ∧ w.cell? ⟨0, 0, none⟩ = some (.iface 131 (.agg #[.pointer (some ⟨3, 31, none⟩)]))
theorem ErrG.below {w w1 : World} {n : Nat} (h : ErrG w) (hb : Below n w w1) (hn : 0 < n) : ErrG w1 :=
  ⟨by have := hb.size; have := h.1; omega, by rw [hb.cell (p := ⟨0, 0, none⟩) hn]; exact h.2⟩

set_option maxHeartbeats 4000000 in
theorem as_CC (g a : Nat) (n old : Int) (w : World) (ht : w.cell? ⟨g, 0, none⟩ = some (.int .i64 old)) (hf : w.frozen? ⟨g, 0, none⟩ = false) (ha : w.cell? ⟨a, 0, none⟩ = some (.pointer (some ⟨g, 0, none⟩))) (hg : g < w.heap.size) (hav : a < w.heap.size) :
    Calls Tryd.prog 71 #[.iface 35 (.int .i64 n), .iface 98 (.pointer (some ⟨g, 0, none⟩)), .agg #[.pointer (some ⟨3, 98, none⟩), .pointer (some ⟨a, 0, none⟩), .int .u64 150], .iface 131 (.agg #[.pointer (some ⟨3, 35, none⟩)])] w fun e w' => e = .returned (.bool true) ∧ w'.cell? ⟨g, 0, none⟩ = some (.int .i64 n) ∧ Below g w w' := by
  have h21 := @run_callFunc_extern Tryd.prog 79 _ ReflectliteType.typeOf Tryd.func79 (by kernel_rfl) (by kernel_rfl) (by kernel_rfl) (by kernel_rfl)
  have h69 := @run_callFunc_extern Tryd.prog 110 _ (ReflectliteType.relation "AssignableTo" ReflectliteType.assignableTo) Tryd.func110 (by kernel_rfl) (by kernel_rfl) (by kernel_rfl) (by kernel_rfl)
  have h24 := @run_callFunc_extern Tryd.prog 68 _ (fun args => ReflectliteValue.unpack (args.getD 0 (.tuple #[]))) Tryd.func68 (by kernel_rfl) (by kernel_rfl) (by kernel_rfl) (by kernel_rfl)
  have h29 := @run_callFunc_extern Tryd.prog 80 _ (ReflectliteValue.method (ReflectliteValue.valueError "reflectlite.Value.Elem" 0) ReflectliteValue.elem) Tryd.func80 (by kernel_rfl) (by kernel_rfl) (by kernel_rfl) (by kernel_rfl)
  have h30 := @run_callFunc_extern Tryd.prog 81 _ ReflectliteValue.set Tryd.func81 (by kernel_rfl) (by kernel_rfl) (by kernel_rfl) (by kernel_rfl)
  have tO := typeOfC
  have mA := methodAssignableTo
  have aC := assignableCC
  have vC := valueOfC
  have el := elemVC ⟨a, 0, none⟩ ⟨g, 0, none⟩ (w.alloc (.cells #[.pointer (some ⟨3, 98, none⟩), .pointer (some ⟨a, 0, none⟩), .int .u64 150] 116)) (by rw [World.cell?_alloc_lt _ _ ⟨a, 0, none⟩ hav]; exact ha)
  have st := setC ⟨g, 0, none⟩ ⟨w.heap.size + 1, 0, none⟩ n (.int .i64 old) ((w.alloc (.cells #[.pointer (some ⟨3, 98, none⟩), .pointer (some ⟨a, 0, none⟩), .int .u64 150] 116)).alloc (.cells #[.int .i64 n] 35))
    (by simp)
    (by rw [World.cell?_alloc_lt _ _ ⟨g, 0, none⟩ (by simp <;> omega), World.cell?_alloc_lt _ _ ⟨g, 0, none⟩ hg]; exact ht)
    (by rw [World.frozen?_alloc_old _ _ ⟨g, 0, none⟩ (by simp <;> omega), World.frozen?_alloc_old _ _ ⟨g, 0, none⟩ (Nat.ne_of_lt hg)]; exact hf)
  go_enter Tryd.func71, Tryd.ntmps71
  go_wp2
  refine wp_loop_rounds 1 ?_
  rw [rounds_succ]
  go_wp2
  go_ret
  refine ⟨rfl, ?_, ?_⟩
  · rw [World.cell?_alloc_lt _ _ ⟨g, 0, none⟩ (by simp [World.setCell]; omega), World.cell?_alloc_lt _ _ ⟨g, 0, none⟩ (by simpa [World.setCell] using hg)]
    exact World.cell?_setCell_same _ _ _ ht
  · exact (((Below.refl g w).setCell (p := ⟨g, 0, none⟩) (Nat.le_refl _) _).alloc (by simp [World.setCell]; omega) _).alloc (by simp [World.setCell]; omega) _

set_option maxHeartbeats 4000000 in
theorem as_FF (g a : Nat) (n m o1 o2 : Int) (w : World) (ht : w.cell? ⟨g, 0, none⟩ = some (.int .i64 o1)) (ht1 : w.cell? ⟨g, 1, none⟩ = some (.int .i64 o2)) (hf : w.frozen? ⟨g, 0, none⟩ = false) (hf1 : w.frozen? ⟨g, 1, none⟩ = false) (ha : w.cell? ⟨a, 0, none⟩ = some (.pointer (some ⟨g, 0, none⟩))) (hg : g < w.heap.size) (hav : a < w.heap.size) :
    Calls Tryd.prog 71 #[.iface 96 (.agg #[.int .i64 n, .int .i64 m]), .iface 99 (.pointer (some ⟨g, 0, none⟩)), .agg #[.pointer (some ⟨3, 99, none⟩), .pointer (some ⟨a, 0, none⟩), .int .u64 150], .iface 131 (.agg #[.pointer (some ⟨3, 96, none⟩)])] w fun e w' => e = .returned (.bool true) ∧ w'.cell? ⟨g, 0, none⟩ = some (.int .i64 n) ∧ w'.cell? ⟨g, 1, none⟩ = some (.int .i64 m) ∧ Below g w w' := by
  have h21 := @run_callFunc_extern Tryd.prog 79 _ ReflectliteType.typeOf Tryd.func79 (by kernel_rfl) (by kernel_rfl) (by kernel_rfl) (by kernel_rfl)
  have h69 := @run_callFunc_extern Tryd.prog 110 _ (ReflectliteType.relation "AssignableTo" ReflectliteType.assignableTo) Tryd.func110 (by kernel_rfl) (by kernel_rfl) (by kernel_rfl) (by kernel_rfl)
  have h24 := @run_callFunc_extern Tryd.prog 68 _ (fun args => ReflectliteValue.unpack (args.getD 0 (.tuple #[]))) Tryd.func68 (by kernel_rfl) (by kernel_rfl) (by kernel_rfl) (by kernel_rfl)
  have h29 := @run_callFunc_extern Tryd.prog 80 _ (ReflectliteValue.method (ReflectliteValue.valueError "reflectlite.Value.Elem" 0) ReflectliteValue.elem) Tryd.func80 (by kernel_rfl) (by kernel_rfl) (by kernel_rfl) (by kernel_rfl)
  have h30 := @run_callFunc_extern Tryd.prog 81 _ ReflectliteValue.set Tryd.func81 (by kernel_rfl) (by kernel_rfl) (by kernel_rfl) (by kernel_rfl)
  have mA := methodAssignableTo
  have tO := typeOfF
  have aC := assignableFF
  have vC := valueOfF
  have el := elemVF ⟨a, 0, none⟩ ⟨g, 0, none⟩ (w.alloc (.cells #[.pointer (some ⟨3, 99, none⟩), .pointer (some ⟨a, 0, none⟩), .int .u64 150] 116)) (by rw [World.cell?_alloc_lt _ _ ⟨a, 0, none⟩ hav]; exact ha)
  have st := setF g (w.heap.size + 1) n m o1 o2 ((w.alloc (.cells #[.pointer (some ⟨3, 99, none⟩), .pointer (some ⟨a, 0, none⟩), .int .u64 150] 116)).alloc (.cells #[.int .i64 n, .int .i64 m] 96))
    (by simp) (by simp)
    (by rw [World.cell?_alloc_lt _ _ ⟨g, 0, none⟩ (by simp <;> omega), World.cell?_alloc_lt _ _ ⟨g, 0, none⟩ hg]; exact ht)
    (by rw [World.cell?_alloc_lt _ _ ⟨g, 1, none⟩ (by simp <;> omega), World.cell?_alloc_lt _ _ ⟨g, 1, none⟩ hg]; exact ht1)
    (by rw [World.frozen?_alloc_old _ _ ⟨g, 0, none⟩ (by simp <;> omega), World.frozen?_alloc_old _ _ ⟨g, 0, none⟩ (Nat.ne_of_lt hg)]; exact hf)
    (by rw [World.frozen?_alloc_old _ _ ⟨g, 1, none⟩ (by simp <;> omega), World.frozen?_alloc_old _ _ ⟨g, 1, none⟩ (Nat.ne_of_lt hg)]; exact hf1)
  go_enter Tryd.func71, Tryd.ntmps71
  go_wp2
  refine wp_loop_rounds 1 ?_
  rw [rounds_succ]
  go_wp2
  go_ret
  refine ⟨rfl, ?_, ?_, ?_⟩
  · rw [World.cell?_alloc_lt _ _ ⟨g, 0, none⟩ (by simp [World.setCell]; omega), World.cell?_alloc_lt _ _ ⟨g, 0, none⟩ (by simpa [World.setCell] using hg), World.cell?_setCell_other (h := by intro h; cases h)]
    exact World.cell?_setCell_same _ _ _ ht
  · rw [World.cell?_alloc_lt _ _ ⟨g, 1, none⟩ (by simp [World.setCell]; omega), World.cell?_alloc_lt _ _ ⟨g, 1, none⟩ (by simpa [World.setCell] using hg)]
    refine World.cell?_setCell_same _ _ _ (u := .int .i64 o2) ?_
    rw [World.cell?_setCell_other (h := by intro h; cases h)]
    exact ht1
  · exact ((((Below.refl g w).setCell (p := ⟨g, 0, none⟩) (Nat.le_refl _) _).setCell (p := ⟨g, 1, none⟩) (Nat.le_refl _) _).alloc (by simp [World.setCell]; omega) _).alloc (by simp [World.setCell]; omega) _

set_option maxHeartbeats 4000000 in
theorem as_CF (g a : Nat) (n : Int) (w : World) :
    Calls Tryd.prog 71 #[.iface 35 (.int .i64 n), .iface 99 (.pointer (some ⟨g, 0, none⟩)), .agg #[.pointer (some ⟨3, 99, none⟩), .pointer (some ⟨a, 0, none⟩), .int .u64 150], .iface 131 (.agg #[.pointer (some ⟨3, 96, none⟩)])] w fun e w' => e = .returned (.bool false) ∧ Below w.heap.size w w' := by
  have h21 := @run_callFunc_extern Tryd.prog 79 _ ReflectliteType.typeOf Tryd.func79 (by kernel_rfl) (by kernel_rfl) (by kernel_rfl) (by kernel_rfl)
  have h69 := @run_callFunc_extern Tryd.prog 110 _ (ReflectliteType.relation "AssignableTo" ReflectliteType.assignableTo) Tryd.func110 (by kernel_rfl) (by kernel_rfl) (by kernel_rfl) (by kernel_rfl)
  have h24 := @run_callFunc_extern Tryd.prog 68 _ (fun args => ReflectliteValue.unpack (args.getD 0 (.tuple #[]))) Tryd.func68 (by kernel_rfl) (by kernel_rfl) (by kernel_rfl) (by kernel_rfl)
  have h29 := @run_callFunc_extern Tryd.prog 80 _ (ReflectliteValue.method (ReflectliteValue.valueError "reflectlite.Value.Elem" 0) ReflectliteValue.elem) Tryd.func80 (by kernel_rfl) (by kernel_rfl) (by kernel_rfl) (by kernel_rfl)
  have h30 := @run_callFunc_extern Tryd.prog 81 _ ReflectliteValue.set Tryd.func81 (by kernel_rfl) (by kernel_rfl) (by kernel_rfl) (by kernel_rfl)
  have mA := methodAssignableTo
  have tO := typeOfC
  have aC := assignableCF
  have n1 := noAsC
  have n2 := noUnC
  have n3 := noUsC
  go_enter Tryd.func71, Tryd.ntmps71
  go_wp2
  refine wp_loop_rounds 1 ?_
  rw [rounds_succ]
  go_wp2
  go_ret
  exact ⟨rfl, (Below.refl _ _).alloc (Nat.le_refl _) _⟩

theorem unwrap_F (n m : Int) (w : World) : Calls Tryd.prog 105 #[.agg #[.int .i64 n, .int .i64 m]] w fun e w' => e = .returned (.iface 35 (.int .i64 n)) ∧ w' = w.alloc (.cells #[.int .i64 n, .int .i64 m] 96) := by
  go_enter Tryd.func105, Tryd.ntmps105
  go_wp2
  go_ret
  exact ⟨rfl, rfl⟩

set_option maxHeartbeats 4000000 in
theorem as_FC (g a : Nat) (n m old : Int) (w : World) (ht : w.cell? ⟨g, 0, none⟩ = some (.int .i64 old)) (hf : w.frozen? ⟨g, 0, none⟩ = false) (ha : w.cell? ⟨a, 0, none⟩ = some (.pointer (some ⟨g, 0, none⟩))) (hg : g < w.heap.size) (hav : a < w.heap.size) :
    Calls Tryd.prog 71 #[.iface 96 (.agg #[.int .i64 n, .int .i64 m]), .iface 98 (.pointer (some ⟨g, 0, none⟩)), .agg #[.pointer (some ⟨3, 98, none⟩), .pointer (some ⟨a, 0, none⟩), .int .u64 150], .iface 131 (.agg #[.pointer (some ⟨3, 35, none⟩)])] w fun e w' => e = .returned (.bool true) ∧ w'.cell? ⟨g, 0, none⟩ = some (.int .i64 n) ∧ Below g w w' := by
  have h21 := @run_callFunc_extern Tryd.prog 79 _ ReflectliteType.typeOf Tryd.func79 (by kernel_rfl) (by kernel_rfl) (by kernel_rfl) (by kernel_rfl)
  have h69 := @run_callFunc_extern Tryd.prog 110 _ (ReflectliteType.relation "AssignableTo" ReflectliteType.assignableTo) Tryd.func110 (by kernel_rfl) (by kernel_rfl) (by kernel_rfl) (by kernel_rfl)
  have h24 := @run_callFunc_extern Tryd.prog 68 _ (fun args => ReflectliteValue.unpack (args.getD 0 (.tuple #[]))) Tryd.func68 (by kernel_rfl) (by kernel_rfl) (by kernel_rfl) (by kernel_rfl)
  have h29 := @run_callFunc_extern Tryd.prog 80 _ (ReflectliteValue.method (ReflectliteValue.valueError "reflectlite.Value.Elem" 0) ReflectliteValue.elem) Tryd.func80 (by kernel_rfl) (by kernel_rfl) (by kernel_rfl) (by kernel_rfl)
  have h30 := @run_callFunc_extern Tryd.prog 81 _ ReflectliteValue.set Tryd.func81 (by kernel_rfl) (by kernel_rfl) (by kernel_rfl) (by kernel_rfl)
  have mA := methodAssignableTo
  have tO := typeOfF
  have aC := assignableFC
  have n1 := noAsF
  have n2 := unF
  have mU := methodUnwrapF
  go_enter Tryd.func71, Tryd.ntmps71
  go_wp2
  refine wp_loop_rounds 2 ?_
  rw [rounds_succ]
  go_wp2_with fail
  refine (unwrap_F _ _ _).mono ?_
  rintro e w1 ⟨rfl, rfl⟩
  have tO2 := typeOfC
  have aC2 := assignableCC
  have vC := valueOfC
  have el := elemVC ⟨a, 0, none⟩ ⟨g, 0, none⟩ ((w.alloc (.cells #[.pointer (some ⟨3, 98, none⟩), .pointer (some ⟨a, 0, none⟩), .int .u64 150] 116)).alloc (.cells #[.int .i64 n, .int .i64 m] 96)) (by rw [World.cell?_alloc_lt _ _ ⟨a, 0, none⟩ (by simp <;> omega), World.cell?_alloc_lt _ _ ⟨a, 0, none⟩ hav]; exact ha)
  have st := setC ⟨g, 0, none⟩ ⟨w.heap.size + 1 + 1, 0, none⟩ n (.int .i64 old) (((w.alloc (.cells #[.pointer (some ⟨3, 98, none⟩), .pointer (some ⟨a, 0, none⟩), .int .u64 150] 116)).alloc (.cells #[.int .i64 n, .int .i64 m] 96)).alloc (.cells #[.int .i64 n] 35))
    (by rw [World.cell?_alloc_at _ _ _ _ (by simp)]; rfl)
    (by rw [World.cell?_alloc_lt _ _ ⟨g, 0, none⟩ (by simp <;> omega), World.cell?_alloc_lt _ _ ⟨g, 0, none⟩ (by simp <;> omega), World.cell?_alloc_lt _ _ ⟨g, 0, none⟩ hg]; exact ht)
    (by rw [World.frozen?_alloc_old _ _ ⟨g, 0, none⟩ (by simp <;> omega), World.frozen?_alloc_old _ _ ⟨g, 0, none⟩ (by simp <;> omega), World.frozen?_alloc_old _ _ ⟨g, 0, none⟩ (Nat.ne_of_lt hg)]; exact hf)
  go_wp2
  rw [rounds_succ]
  go_wp2
  go_ret
  refine ⟨rfl, ?_, ?_⟩
  · refine World.cell?_setCell_same _ _ _ (u := .int .i64 old) ?_
    rw [World.cell?_alloc_lt _ _ ⟨g, 0, none⟩ (by simp <;> omega), World.cell?_alloc_lt _ _ ⟨g, 0, none⟩ (by simp <;> omega), World.cell?_alloc_lt _ _ ⟨g, 0, none⟩ hg]
    exact ht
  · exact (((((Below.refl g w).alloc (by omega) _).alloc (by simp <;> omega) _).alloc (by simp <;> omega) _).setCell (p := ⟨g, 0, none⟩) (Nat.le_refl _) _)

end Go.Proofs.YtogimlinfkbapaaDoor.HErr
/- errors.As at the targets *api.Code and *api.Fault; fault.Code, fault.At. -/
namespace Go.Proofs.YtogimlinfkbapaaDoor.HErr
open Go.RowKit Go.Extern.Stop Go.Stop Go.Extern Go.Proofs.YtogimlinfkbapaaDoor.HErrF Go.Proofs.YtogimlinfkbapaaDoor.HLib
set_option linter.unusedVariables false
set_option linter.unusedSimpArgs false

set_option maxRecDepth 100000 in
set_option maxHeartbeats 4000000 in
theorem As_CC (g : Nat) (n : Int) (w : World) (hG : ErrG w) (hgl : 0 < g) (old : Int) (ht : w.cell? ⟨g, 0, none⟩ = some (.int .i64 old)) (hf : w.frozen? ⟨g, 0, none⟩ = false) (hg : g < w.heap.size) :
    Calls Tryd.prog 56 #[.iface 35 (.int .i64 n), .iface 98 (.pointer (some ⟨g, 0, none⟩))] w fun e w' => e = .returned (.bool true) ∧ w'.cell? ⟨g, 0, none⟩ = some (.int .i64 n) ∧ Below g w w' := by
  have h24 := @run_callFunc_extern Tryd.prog 68 _ (fun args => ReflectliteValue.unpack (args.getD 0 (.tuple #[]))) Tryd.func68 (by kernel_rfl) (by kernel_rfl) (by kernel_rfl) (by kernel_rfl)
  have h25 := @run_callFunc_extern Tryd.prog 69 _ (ReflectliteValue.methodAny (ReflectliteValue.valueError "reflectlite.Value.Type" 0) (fun t _ _ _ => ReflectliteType.toType t)) Tryd.func69 (by kernel_rfl) (by kernel_rfl) (by kernel_rfl) (by kernel_rfl)
  have h26 := @run_callFunc_extern Tryd.prog 70 _ (ReflectliteValue.method (ReflectliteValue.valueError "reflectlite.Value.IsNil" 0) ReflectliteValue.isNil) Tryd.func70 (by kernel_rfl) (by kernel_rfl) (by kernel_rfl) (by kernel_rfl)
  have h57 := @run_callFunc_extern Tryd.prog 99 _ (ReflectliteType.abiMethod fun t => do pure (.int .u8 (← Rtype.kind t))) Tryd.func99 (by kernel_rfl) (by kernel_rfl) (by kernel_rfl) (by kernel_rfl)
  have h71 := @run_callFunc_extern Tryd.prog 112 _ (ReflectliteType.method ReflectliteType.elem) Tryd.func112 (by kernel_rfl) (by kernel_rfl) (by kernel_rfl) (by kernel_rfl)
  have h72 := @run_callFunc_extern Tryd.prog 113 _ (ReflectliteType.relation "Implements" ReflectliteType.implements_) Tryd.func113 (by kernel_rfl) (by kernel_rfl) (by kernel_rfl) (by kernel_rfl)
  have mK := methodKind
  have mE := methodElem
  have mI := methodImplements
  have vP := valueOfPC
  have tP := typePC
  have kP := kindPC
  have kT := kindC
  have eP := elemC
  have iT := implementsC
  have hg1 := hG.2
  have hg0 := hG.1
  have iN := isNilPC ⟨w.heap.size, 0, none⟩ ⟨g, 0, none⟩ ((w.alloc (.cells #[.pointer (some ⟨g, 0, none⟩)] 98)).alloc (.cells #[.pointer (some ⟨3, 98, none⟩), .pointer (some ⟨w.heap.size, 0, none⟩), .int .u64 150] 116)) (by simp)
  have hg2 : ((w.alloc (.cells #[.pointer (some ⟨g, 0, none⟩)] 98)).alloc (.cells #[.pointer (some ⟨3, 98, none⟩), .pointer (some ⟨w.heap.size, 0, none⟩), .int .u64 150] 116)).cell? ⟨0, 0, none⟩ = some (.iface 131 (.agg #[.pointer (some ⟨3, 31, none⟩)])) := by
    rw [World.cell?_alloc_lt _ _ ⟨0, 0, none⟩ (by simp <;> omega), World.cell?_alloc_lt _ _ ⟨0, 0, none⟩ hg0]; exact hg1
  clear hG hg1
  go_enter Tryd.func56, Tryd.ntmps56
  go_wp2_with fail
  refine (as_CC g w.heap.size n old _ (by rw [World.cell?_alloc_lt _ _ ⟨g, 0, none⟩ (by simp <;> omega), World.cell?_alloc_lt _ _ ⟨g, 0, none⟩ hg]; exact ht) (by rw [World.frozen?_alloc_old _ _ ⟨g, 0, none⟩ (by simp <;> omega), World.frozen?_alloc_old _ _ ⟨g, 0, none⟩ (Nat.ne_of_lt hg)]; exact hf) (by simp) (by simp <;> omega) (by simp <;> omega)).mono ?_
  rintro e w1 ⟨rfl, hc, hb⟩
  go_wp2
  go_ret
  exact ⟨rfl, hc, (((Below.refl g w).alloc (Nat.le_of_lt hg) _).alloc (by simp <;> omega) _).trans hb⟩

set_option maxRecDepth 100000 in
set_option maxHeartbeats 4000000 in
theorem As_FC (g : Nat) (n m : Int) (w : World) (hG : ErrG w) (hgl : 0 < g) (old : Int) (ht : w.cell? ⟨g, 0, none⟩ = some (.int .i64 old)) (hf : w.frozen? ⟨g, 0, none⟩ = false) (hg : g < w.heap.size) :
    Calls Tryd.prog 56 #[.iface 96 (.agg #[.int .i64 n, .int .i64 m]), .iface 98 (.pointer (some ⟨g, 0, none⟩))] w fun e w' => e = .returned (.bool true) ∧ w'.cell? ⟨g, 0, none⟩ = some (.int .i64 n) ∧ Below g w w' := by
  have h24 := @run_callFunc_extern Tryd.prog 68 _ (fun args => ReflectliteValue.unpack (args.getD 0 (.tuple #[]))) Tryd.func68 (by kernel_rfl) (by kernel_rfl) (by kernel_rfl) (by kernel_rfl)
  have h25 := @run_callFunc_extern Tryd.prog 69 _ (ReflectliteValue.methodAny (ReflectliteValue.valueError "reflectlite.Value.Type" 0) (fun t _ _ _ => ReflectliteType.toType t)) Tryd.func69 (by kernel_rfl) (by kernel_rfl) (by kernel_rfl) (by kernel_rfl)
  have h26 := @run_callFunc_extern Tryd.prog 70 _ (ReflectliteValue.method (ReflectliteValue.valueError "reflectlite.Value.IsNil" 0) ReflectliteValue.isNil) Tryd.func70 (by kernel_rfl) (by kernel_rfl) (by kernel_rfl) (by kernel_rfl)
  have h57 := @run_callFunc_extern Tryd.prog 99 _ (ReflectliteType.abiMethod fun t => do pure (.int .u8 (← Rtype.kind t))) Tryd.func99 (by kernel_rfl) (by kernel_rfl) (by kernel_rfl) (by kernel_rfl)
  have h71 := @run_callFunc_extern Tryd.prog 112 _ (ReflectliteType.method ReflectliteType.elem) Tryd.func112 (by kernel_rfl) (by kernel_rfl) (by kernel_rfl) (by kernel_rfl)
  have h72 := @run_callFunc_extern Tryd.prog 113 _ (ReflectliteType.relation "Implements" ReflectliteType.implements_) Tryd.func113 (by kernel_rfl) (by kernel_rfl) (by kernel_rfl) (by kernel_rfl)
  have mK := methodKind
  have mE := methodElem
  have mI := methodImplements
  have vP := valueOfPC
  have tP := typePC
  have kP := kindPC
  have kT := kindC
  have eP := elemC
  have iT := implementsC
  have hg1 := hG.2
  have hg0 := hG.1
  have iN := isNilPC ⟨w.heap.size, 0, none⟩ ⟨g, 0, none⟩ ((w.alloc (.cells #[.pointer (some ⟨g, 0, none⟩)] 98)).alloc (.cells #[.pointer (some ⟨3, 98, none⟩), .pointer (some ⟨w.heap.size, 0, none⟩), .int .u64 150] 116)) (by simp)
  have hg2 : ((w.alloc (.cells #[.pointer (some ⟨g, 0, none⟩)] 98)).alloc (.cells #[.pointer (some ⟨3, 98, none⟩), .pointer (some ⟨w.heap.size, 0, none⟩), .int .u64 150] 116)).cell? ⟨0, 0, none⟩ = some (.iface 131 (.agg #[.pointer (some ⟨3, 31, none⟩)])) := by
    rw [World.cell?_alloc_lt _ _ ⟨0, 0, none⟩ (by simp <;> omega), World.cell?_alloc_lt _ _ ⟨0, 0, none⟩ hg0]; exact hg1
  clear hG hg1
  go_enter Tryd.func56, Tryd.ntmps56
  go_wp2_with fail
  refine (as_FC g w.heap.size n m old _ (by rw [World.cell?_alloc_lt _ _ ⟨g, 0, none⟩ (by simp <;> omega), World.cell?_alloc_lt _ _ ⟨g, 0, none⟩ hg]; exact ht) (by rw [World.frozen?_alloc_old _ _ ⟨g, 0, none⟩ (by simp <;> omega), World.frozen?_alloc_old _ _ ⟨g, 0, none⟩ (Nat.ne_of_lt hg)]; exact hf) (by simp) (by simp <;> omega) (by simp <;> omega)).mono ?_
  rintro e w1 ⟨rfl, hc, hb⟩
  go_wp2
  go_ret
  exact ⟨rfl, hc, (((Below.refl g w).alloc (Nat.le_of_lt hg) _).alloc (by simp <;> omega) _).trans hb⟩

set_option maxRecDepth 100000 in
set_option maxHeartbeats 4000000 in
theorem As_FF (g : Nat) (n m : Int) (w : World) (hG : ErrG w) (hgl : 0 < g) (o1 o2 : Int) (ht : w.cell? ⟨g, 0, none⟩ = some (.int .i64 o1)) (ht1 : w.cell? ⟨g, 1, none⟩ = some (.int .i64 o2)) (hf : w.frozen? ⟨g, 0, none⟩ = false) (hf1 : w.frozen? ⟨g, 1, none⟩ = false) (hg : g < w.heap.size) :
    Calls Tryd.prog 56 #[.iface 96 (.agg #[.int .i64 n, .int .i64 m]), .iface 99 (.pointer (some ⟨g, 0, none⟩))] w fun e w' => e = .returned (.bool true) ∧ w'.cell? ⟨g, 0, none⟩ = some (.int .i64 n) ∧ w'.cell? ⟨g, 1, none⟩ = some (.int .i64 m) ∧ Below g w w' := by
  have h24 := @run_callFunc_extern Tryd.prog 68 _ (fun args => ReflectliteValue.unpack (args.getD 0 (.tuple #[]))) Tryd.func68 (by kernel_rfl) (by kernel_rfl) (by kernel_rfl) (by kernel_rfl)
  have h25 := @run_callFunc_extern Tryd.prog 69 _ (ReflectliteValue.methodAny (ReflectliteValue.valueError "reflectlite.Value.Type" 0) (fun t _ _ _ => ReflectliteType.toType t)) Tryd.func69 (by kernel_rfl) (by kernel_rfl) (by kernel_rfl) (by kernel_rfl)
  have h26 := @run_callFunc_extern Tryd.prog 70 _ (ReflectliteValue.method (ReflectliteValue.valueError "reflectlite.Value.IsNil" 0) ReflectliteValue.isNil) Tryd.func70 (by kernel_rfl) (by kernel_rfl) (by kernel_rfl) (by kernel_rfl)
  have h57 := @run_callFunc_extern Tryd.prog 99 _ (ReflectliteType.abiMethod fun t => do pure (.int .u8 (← Rtype.kind t))) Tryd.func99 (by kernel_rfl) (by kernel_rfl) (by kernel_rfl) (by kernel_rfl)
  have h71 := @run_callFunc_extern Tryd.prog 112 _ (ReflectliteType.method ReflectliteType.elem) Tryd.func112 (by kernel_rfl) (by kernel_rfl) (by kernel_rfl) (by kernel_rfl)
  have h72 := @run_callFunc_extern Tryd.prog 113 _ (ReflectliteType.relation "Implements" ReflectliteType.implements_) Tryd.func113 (by kernel_rfl) (by kernel_rfl) (by kernel_rfl) (by kernel_rfl)
  have mK := methodKind
  have mE := methodElem
  have mI := methodImplements
  have vP := valueOfPF
  have tP := typePF
  have kP := kindPF
  have kT := kindF
  have eP := elemF
  have iT := implementsF
  have hg1 := hG.2
  have hg0 := hG.1
  have iN := isNilPF ⟨w.heap.size, 0, none⟩ ⟨g, 0, none⟩ ((w.alloc (.cells #[.pointer (some ⟨g, 0, none⟩)] 99)).alloc (.cells #[.pointer (some ⟨3, 99, none⟩), .pointer (some ⟨w.heap.size, 0, none⟩), .int .u64 150] 116)) (by simp)
  have hg2 : ((w.alloc (.cells #[.pointer (some ⟨g, 0, none⟩)] 99)).alloc (.cells #[.pointer (some ⟨3, 99, none⟩), .pointer (some ⟨w.heap.size, 0, none⟩), .int .u64 150] 116)).cell? ⟨0, 0, none⟩ = some (.iface 131 (.agg #[.pointer (some ⟨3, 31, none⟩)])) := by
    rw [World.cell?_alloc_lt _ _ ⟨0, 0, none⟩ (by simp <;> omega), World.cell?_alloc_lt _ _ ⟨0, 0, none⟩ hg0]; exact hg1
  clear hG hg1
  go_enter Tryd.func56, Tryd.ntmps56
  go_wp2_with fail
  refine (as_FF g w.heap.size n m o1 o2 _ (by rw [World.cell?_alloc_lt _ _ ⟨g, 0, none⟩ (by simp <;> omega), World.cell?_alloc_lt _ _ ⟨g, 0, none⟩ hg]; exact ht) (by rw [World.cell?_alloc_lt _ _ ⟨g, 1, none⟩ (by simp <;> omega), World.cell?_alloc_lt _ _ ⟨g, 1, none⟩ hg]; exact ht1) (by rw [World.frozen?_alloc_old _ _ ⟨g, 0, none⟩ (by simp <;> omega), World.frozen?_alloc_old _ _ ⟨g, 0, none⟩ (Nat.ne_of_lt hg)]; exact hf) (by rw [World.frozen?_alloc_old _ _ ⟨g, 1, none⟩ (by simp <;> omega), World.frozen?_alloc_old _ _ ⟨g, 1, none⟩ (Nat.ne_of_lt hg)]; exact hf1) (by simp) (by simp <;> omega) (by simp <;> omega)).mono ?_
  rintro e w1 ⟨rfl, hc, hc1, hb⟩
  go_wp2
  go_ret
  exact ⟨rfl, hc, hc1, (((Below.refl g w).alloc (Nat.le_of_lt hg) _).alloc (by simp <;> omega) _).trans hb⟩

set_option maxRecDepth 100000 in
set_option maxHeartbeats 4000000 in
theorem As_CF (g : Nat) (n : Int) (w : World) (hG : ErrG w) (hgl : 0 < g)  (hg : g < w.heap.size) :
    Calls Tryd.prog 56 #[.iface 35 (.int .i64 n), .iface 99 (.pointer (some ⟨g, 0, none⟩))] w fun e w' => e = .returned (.bool false) ∧ Below w.heap.size w w' := by
  have h24 := @run_callFunc_extern Tryd.prog 68 _ (fun args => ReflectliteValue.unpack (args.getD 0 (.tuple #[]))) Tryd.func68 (by kernel_rfl) (by kernel_rfl) (by kernel_rfl) (by kernel_rfl)
  have h25 := @run_callFunc_extern Tryd.prog 69 _ (ReflectliteValue.methodAny (ReflectliteValue.valueError "reflectlite.Value.Type" 0) (fun t _ _ _ => ReflectliteType.toType t)) Tryd.func69 (by kernel_rfl) (by kernel_rfl) (by kernel_rfl) (by kernel_rfl)
  have h26 := @run_callFunc_extern Tryd.prog 70 _ (ReflectliteValue.method (ReflectliteValue.valueError "reflectlite.Value.IsNil" 0) ReflectliteValue.isNil) Tryd.func70 (by kernel_rfl) (by kernel_rfl) (by kernel_rfl) (by kernel_rfl)
  have h57 := @run_callFunc_extern Tryd.prog 99 _ (ReflectliteType.abiMethod fun t => do pure (.int .u8 (← Rtype.kind t))) Tryd.func99 (by kernel_rfl) (by kernel_rfl) (by kernel_rfl) (by kernel_rfl)
  have h71 := @run_callFunc_extern Tryd.prog 112 _ (ReflectliteType.method ReflectliteType.elem) Tryd.func112 (by kernel_rfl) (by kernel_rfl) (by kernel_rfl) (by kernel_rfl)
  have h72 := @run_callFunc_extern Tryd.prog 113 _ (ReflectliteType.relation "Implements" ReflectliteType.implements_) Tryd.func113 (by kernel_rfl) (by kernel_rfl) (by kernel_rfl) (by kernel_rfl)
  have mK := methodKind
  have mE := methodElem
  have mI := methodImplements
  have vP := valueOfPF
  have tP := typePF
  have kP := kindPF
  have kT := kindF
  have eP := elemF
  have iT := implementsF
  have hg1 := hG.2
  have hg0 := hG.1
  have iN := isNilPF ⟨w.heap.size, 0, none⟩ ⟨g, 0, none⟩ ((w.alloc (.cells #[.pointer (some ⟨g, 0, none⟩)] 99)).alloc (.cells #[.pointer (some ⟨3, 99, none⟩), .pointer (some ⟨w.heap.size, 0, none⟩), .int .u64 150] 116)) (by simp)
  have hg2 : ((w.alloc (.cells #[.pointer (some ⟨g, 0, none⟩)] 99)).alloc (.cells #[.pointer (some ⟨3, 99, none⟩), .pointer (some ⟨w.heap.size, 0, none⟩), .int .u64 150] 116)).cell? ⟨0, 0, none⟩ = some (.iface 131 (.agg #[.pointer (some ⟨3, 31, none⟩)])) := by
    rw [World.cell?_alloc_lt _ _ ⟨0, 0, none⟩ (by simp <;> omega), World.cell?_alloc_lt _ _ ⟨0, 0, none⟩ hg0]; exact hg1
  clear hG hg1
  go_enter Tryd.func56, Tryd.ntmps56
  go_wp2_with fail
  refine (as_CF g w.heap.size n _).mono ?_
  rintro e w1 ⟨rfl, hb⟩
  go_wp2
  go_ret
  exact ⟨rfl, (((Below.refl w.heap.size w).alloc (Nat.le_refl _) _).alloc (by simp) _).trans (hb.mono (by simp <;> omega))⟩

theorem As_nil (t : Value) (w : World) : Calls Tryd.prog 56 #[.nilIface, t] w fun e w' => e = .returned (.bool false) ∧ w = w' := by
  go_enter Tryd.func56, Tryd.ntmps56
  go_wp2
  go_ret
  exact ⟨rfl, rfl⟩

end Go.Proofs.YtogimlinfkbapaaDoor.HErr
/- errors.As at the targets *api.Code and *api.Fault; fault.Code, fault.At. -/
namespace Go.Proofs.YtogimlinfkbapaaDoor.HErr
open Go.RowKit Go.Proofs.YtogimlinfkbapaaDoorW.PrintWords Go.Extern.Stop Go.Stop Go.Extern Go.Proofs.YtogimlinfkbapaaDoor.HErrF Go.Proofs.YtogimlinfkbapaaDoor.HLib
set_option linter.unusedVariables false
set_option linter.unusedSimpArgs false

set_option maxHeartbeats 4000000 in
theorem code_C (n : Int) (w : World) (hG : ErrG w) : Calls Tryd.prog 39 #[.iface 35 (.int .i64 n)] w fun e w' => e = .returned (.tuple #[.int .i64 n, .bool true]) ∧ Below w.heap.size w w' := by
  have hA : ErrG (w.alloc (.cells #[.int .i64 0] 35)) := hG.below (below_alloc (B0 w) _) hG.1
  have hgl := hG.1
  clear hG
  go_enter Tryd.func39, Tryd.ntmps39
  go_wp2_with fail
  refine (As_CC w.heap.size n _ hA hgl 0 (by simp) (by simp) (by simp)).mono ?_
  rintro e w1 ⟨rfl, hc, hb⟩
  go_wp2
  go_ret2
  exact ⟨rfl, ((below_alloc (B0 w) _).trans hb)⟩

set_option maxHeartbeats 4000000 in
theorem code_F (n m : Int) (w : World) (hG : ErrG w) : Calls Tryd.prog 39 #[.iface 96 (.agg #[.int .i64 n, .int .i64 m])] w fun e w' => e = .returned (.tuple #[.int .i64 n, .bool true]) ∧ Below w.heap.size w w' := by
  have hA : ErrG (w.alloc (.cells #[.int .i64 0] 35)) := hG.below (below_alloc (B0 w) _) hG.1
  have hgl := hG.1
  clear hG
  go_enter Tryd.func39, Tryd.ntmps39
  go_wp2_with fail
  refine (As_FC w.heap.size n m _ hA hgl 0 (by simp) (by simp) (by simp)).mono ?_
  rintro e w1 ⟨rfl, hc, hb⟩
  go_wp2
  go_ret2
  exact ⟨rfl, ((below_alloc (B0 w) _).trans hb)⟩

set_option maxHeartbeats 4000000 in
theorem at_F (n m : Int) (w : World) (hG : ErrG w) : Calls Tryd.prog 40 #[.iface 96 (.agg #[.int .i64 n, .int .i64 m])] w fun e w' => e = .returned (.tuple #[.int .i64 m, .bool true]) ∧ Below w.heap.size w w' := by
  have hA : ErrG (w.alloc (.cells #[.int .i64 0, .int .i64 0] 96)) := hG.below (below_alloc (B0 w) _) hG.1
  have hgl := hG.1
  clear hG
  go_enter Tryd.func40, Tryd.ntmps40
  go_wp2_with fail
  refine (As_FF w.heap.size n m _ hA hgl 0 0 (by simp) (by simp) (by simp) (by simp) (by simp)).mono ?_
  rintro e w1 ⟨rfl, hc, hc1, hb⟩
  go_wp2
  go_ret2
  exact ⟨rfl, ((below_alloc (B0 w) _).trans hb)⟩

set_option maxHeartbeats 4000000 in
theorem at_C (n : Int) (w : World) (hG : ErrG w) : Calls Tryd.prog 40 #[.iface 35 (.int .i64 n)] w fun e w' => e = .returned (.tuple #[.int .i64 0, .bool false]) ∧ Below w.heap.size w w' := by
  have hA : ErrG (w.alloc (.cells #[.int .i64 0, .int .i64 0] 96)) := hG.below (below_alloc (B0 w) _) hG.1
  have hgl := hG.1
  clear hG
  go_enter Tryd.func40, Tryd.ntmps40
  go_wp2_with fail
  refine (As_CF w.heap.size n _ hA hgl (by simp)).mono ?_
  rintro e w1 ⟨rfl, hb⟩
  have hc := (hb.cell (p := ⟨w.heap.size, 0, none⟩) (by simp)).trans (show _ = _ from World.cell?_alloc_at _ _ _ _ rfl)
  have hc1 := (hb.cell (p := ⟨w.heap.size, 1, none⟩) (by simp)).trans (show _ = _ from World.cell?_alloc_at _ _ _ _ rfl)
  go_wp2
  go_ret2
  exact ⟨rfl, below_step (below_alloc (B0 w) _) hb⟩

theorem code_nil (w : World) : Calls Tryd.prog 39 #[.nilIface] w fun e w' => e = .returned (.tuple #[.int .i64 0, .bool false]) ∧ Below w.heap.size w w' := by
  go_enter Tryd.func39, Tryd.ntmps39
  go_wp2_with fail
  refine (As_nil _ _).mono ?_
  rintro e w1 ⟨rfl, rfl⟩
  go_wp2
  go_ret2
  exact ⟨rfl, below_alloc (B0 w) _⟩

theorem at_nil (w : World) : Calls Tryd.prog 40 #[.nilIface] w fun e w' => e = .returned (.tuple #[.int .i64 0, .bool false]) ∧ Below w.heap.size w w' := by
  go_enter Tryd.func40, Tryd.ntmps40
  go_wp2_with fail
  refine (As_nil _ _).mono ?_
  rintro e w1 ⟨rfl, rfl⟩
  go_wp2
  go_ret2
  exact ⟨rfl, below_alloc (B0 w) _⟩

theorem new_any (n m : Int) (w : World) : Calls Tryd.prog 35 #[.int .i64 n, .int .i64 m] w fun e w' => e = .returned (.iface 96 (.agg #[.int .i64 n, .int .i64 m])) ∧ w = w' := by
  go_enter Tryd.func35, Tryd.ntmps35
  go_wp2
  go_ret
  exact ⟨rfl, rfl⟩

end Go.Proofs.YtogimlinfkbapaaDoor.HErr
