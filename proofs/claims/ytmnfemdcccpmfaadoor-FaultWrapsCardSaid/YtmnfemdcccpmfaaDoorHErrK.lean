/- errors.Unwrap and errors.Is on chains. -/
import Derived.Test.YtmnfemdcccpmfaaDoorHErrI
import Derived.Lib.IfaceEq
namespace Go.Proofs.YtmnfemdcccpmfaaDoor.HErr
open Go.RowKit Go.Proofs.YtmnfemdcccpmfaaDoorW.PrintWords Go.Extern.Stop Go.Stop Go.Extern Go.Proofs.YtmnfemdcccpmfaaDoor.HErrF Go.Proofs.YtmnfemdcccpmfaaDoor.HLib
set_option linter.unusedVariables false
set_option linter.unusedSimpArgs false

theorem noIsC (v : Value) (xT : TypeId) (w : World) : (Instr.typeAssert (.iface 30 v) xT 75 true).run Tryd.prog w = .ok (.tuple #[.nilIface, .bool false]) w := run_typeAssert_lacksB Tryd.underlying75 (by kernel_rfl) (by kernel_rfl) v xT w
theorem noIsF (v : Value) (xT : TypeId) (w : World) : (Instr.typeAssert (.iface 47 v) xT 75 true).run Tryd.prog w = .ok (.tuple #[.nilIface, .bool false]) w := run_typeAssert_lacksB Tryd.underlying75 (by kernel_rfl) (by kernel_rfl) v xT w
theorem noIsI (v : Value) (xT : TypeId) (w : World) : (Instr.typeAssert (.iface 53 v) xT 75 true).run Tryd.prog w = .ok (.tuple #[.nilIface, .bool false]) w := run_typeAssert_lacksB Tryd.underlying75 (by kernel_rfl) (by kernel_rfl) v xT w
theorem methodComparable (h : Value) (w : World) : (Go.method 233 73 (.agg #[h]) "Comparable").run Tryd.prog w = .ok (70, .agg #[h]) w := by kernel_rfl
def cmpX : Array Value → Sem Value := ReflectliteType.method fun t => do Rtype.noPackHeld "Comparable" t; pure (.bool (← typeInfo t).comparable)
theorem comparableC (w : World) : (cmpX #[.agg #[.pointer (some ⟨5, 30, none⟩)]]).run Tryd.prog w = .ok (.bool true) w := by kernel_rfl
theorem eq_CC (a b : Int) (w : World) : (binOp .eql 28 (.iface 30 (.int .i64 a)) (.iface 30 (.int .i64 b))).run Tryd.prog w = .ok (.bool (a == b)) w :=
  Lib.run_eql_iface_int (P := Tryd.prog) w (t := 28) (tx := 30) (k := .i64) a b Tryd.underlying28 (by kernel_rfl) Tryd.underlying30
theorem eq_FC (v u : Value) (w : World) : (binOp .eql 28 (.iface 47 v) (.iface 30 u)).run Tryd.prog w = .ok (.bool false) w := run_eql_iface_types _ _ v u Tryd.underlying28 (by decide) w
theorem eq_IC (v u : Value) (w : World) : (binOp .eql 28 (.iface 53 v) (.iface 30 u)).run Tryd.prog w = .ok (.bool false) w := run_eql_iface_types _ _ v u Tryd.underlying28 (by decide) w

set_option maxHeartbeats 4000000 in
theorem unwrap_ch (p : ByteArray) (f : Bool) (c a : Int) (ps : List ByteArray) (w : World) : Calls Tryd.prog 14 #[wrapV (baseV f c a) (p :: ps)] w fun e w' => e = .returned (wrapV (baseV f c a) ps) ∧ Below w.heap.size w w' := by
  have yUI := unI
  have mUI := methodUnwrapI
  obtain ⟨V, hV⟩ : ∃ V, V = wrapV (baseV f c a) ps := ⟨_, rfl⟩
  have HV := Aside0.mk hV
  rw [wrapV, ← hV]
  clear hV
  go_enter Tryd.func14, Tryd.ntmps14
  go_wp2_with fail
  refine (unwrap_I _ _ _).mono ?_
  rintro e w1 ⟨rfl, rfl⟩
  go_wp2
  go_ret
  exact ⟨rfl, below_alloc (B0 w) _⟩

set_option maxRecDepth 100000 in
set_option maxHeartbeats 8000000 in
theorem is_ch (f : Bool) (c at_ t : Int) (ps : List ByteArray) (w : World) : Calls Tryd.prog 22 #[wrapV (baseV f c at_) ps, .iface 30 (.int .i64 t), .bool true] w fun e w' => e = .returned (.bool (c == t)) ∧ Below w.heap.size w w' := by
  have mUF := methodUnwrapF
  have mUI := methodUnwrapI
  have nIC := noIsC
  have nIF := noIsF
  have nII := noIsI
  have nUC := noUnC
  have nUsC := noUsC
  have yUF := unF
  have yUI := unI
  have eCC := eq_CC c t
  have eFC := eq_FC
  have eIC := eq_IC
  obtain ⟨V, hV⟩ : ∃ V, V = wrapV (baseV f c at_) ps := ⟨_, rfl⟩
  have HV := Aside0.mk hV
  rw [← hV]
  clear hV
  go_enter Tryd.func22, Tryd.ntmps22
  go_wp2
  go_loopg [0] (ps.length + fnat f) (fun kq v0 w' => ∃ (f1 : Bool) (ps1 : List ByteArray), v0 = wrapV (baseV f1 c at_) ps1 ∧ Aside0 (kq = ps1.length + fnat f1) ∧ Aside0 (Below w.heap.size w w'))
  case atStart => exact ⟨f, ps, HV.out, ⟨rfl⟩, ⟨B0 w⟩⟩
  case round =>
    clear HV
    obtain ⟨f1, ps1, rfl, HK, HB⟩ := hrel
    have hk1 := HK.out
    cases ps1 with
    | cons p ps1 =>
      unfold wrapV
      go_wp2_with fail
      refine (unwrap_I _ _ _).mono ?_
      rintro e w1 ⟨rfl, rfl⟩
      obtain ⟨tt, tv, htv⟩ := wrap_iface f1 c at_ ps1
      rw [htv]
      go_wp2
      rw [← htv]
      go_roundg (ps1.length + fnat f1)
      case measure => rw [hk1, List.length_cons]; omega
      case rel => exact ⟨f1, ps1, rfl, ⟨rfl⟩, ⟨below_alloc HB.out _⟩⟩
    | nil =>
      cases f1 with
      | true =>
        unfold wrapV baseV
        rw [if_pos rfl]
        go_wp2_with fail
        refine (unwrap_F _ _ _).mono ?_
        rintro e w1 ⟨rfl, rfl⟩
        go_wp2
        go_roundg 0
        case measure => rw [hk1]; simp [fnat]
        case rel => exact ⟨false, [], rfl, ⟨rfl⟩, ⟨below_alloc HB.out _⟩⟩
      | false =>
        unfold wrapV baseV
        rw [if_neg (by simp)]
        by_cases hct : c = t
        · have e1 : (c == t) = true := by simpa using hct
          clear hct
          go_wp2
          go_ret
          exact ⟨by rw [e1]; rfl, HB.out⟩
        · have e1 : (c == t) = false := by simpa using hct
          clear hct
          go_wp2
          go_ret
          exact ⟨by rw [e1]; rfl, HB.out⟩

set_option maxHeartbeats 4000000 in
theorem Is_ch (f : Bool) (c a t : Int) (ps : List ByteArray) (w : World) : Calls Tryd.prog 15 #[wrapV (baseV f c a) ps, .iface 30 (.int .i64 t)] w fun e w' => e = .returned (.bool (c == t)) ∧ Below w.heap.size w w' := by
  have h21 := @run_callFunc_extern Tryd.prog 21 _ ReflectliteType.typeOf Tryd.func21 (by kernel_rfl) (by kernel_rfl) (by kernel_rfl) (by kernel_rfl)
  have h70 := @run_callFunc_extern Tryd.prog 70 _ cmpX Tryd.func70 (by kernel_rfl) (by kernel_rfl) (by kernel_rfl) (by kernel_rfl)
  have mC := methodComparable
  have tOC := typeOfC
  have cC := comparableC
  obtain ⟨tt, tv, htv⟩ := wrap_iface f c a ps
  have HTV := Aside0.mk htv
  rw [htv]
  go_enter Tryd.func15, Tryd.ntmps15
  go_wp2_with fail
  rw [← HTV.out]
  refine (is_ch f c a t ps _).mono ?_
  rintro e w1 ⟨rfl, hb⟩
  have HB := Aside0.mk hb
  clear hb
  go_wp2
  go_ret
  exact ⟨rfl, HB.out⟩
end Go.Proofs.YtmnfemdcccpmfaaDoor.HErr
