/- fault.Code, fault.At, fault.Shift on wrapped errors. -/
import Derived.Test.YtmnfemdcccpmfaaDoorHErrI
import Derived.Test.YtmnfemdcccpmfaaDoorHErrA
namespace Go.Proofs.YtmnfemdcccpmfaaDoor.HErr
open Go.RowKit Go.Proofs.YtmnfemdcccpmfaaDoorW.PrintWords Go.Extern.Stop Go.Stop Go.Extern Go.Proofs.YtmnfemdcccpmfaaDoor.HErrF Go.Proofs.YtmnfemdcccpmfaaDoor.HLib
set_option linter.unusedVariables false
set_option linter.unusedSimpArgs false

set_option maxRecDepth 100000 in
set_option maxHeartbeats 4000000 in
theorem As_chC (g : Nat) (f : Bool) (c a : Int) (ps : List ByteArray) (w : World) (hG : ErrG w) (hgl : 1 < g) (old : Int) (ht : w.cell? ⟨g, 0, none⟩ = some (.int .i64 old)) (hf : w.frozen? ⟨g, 0, none⟩ = false) (hg : g < w.heap.size) :
    Calls Tryd.prog 19 #[wrapV (baseV f c a) ps, .iface 49 (.pointer (some ⟨g, 0, none⟩))] w fun e w' => e = .returned (.bool true) ∧ w'.cell? ⟨g, 0, none⟩ = some (.int .i64 c) ∧ Below g w w' := by
  have h24 := @run_callFunc_extern Tryd.prog 24 _ (fun args => ReflectliteValue.unpack (args.getD 0 (.tuple #[]))) Tryd.func24 (by kernel_rfl) (by kernel_rfl) (by kernel_rfl) (by kernel_rfl)
  have h25 := @run_callFunc_extern Tryd.prog 25 _ (ReflectliteValue.methodAny (ReflectliteValue.valueError "reflectlite.Value.Type" 0) (fun t _ _ _ => ReflectliteType.toType t)) Tryd.func25 (by kernel_rfl) (by kernel_rfl) (by kernel_rfl) (by kernel_rfl)
  have h26 := @run_callFunc_extern Tryd.prog 26 _ (ReflectliteValue.method (ReflectliteValue.valueError "reflectlite.Value.IsNil" 0) ReflectliteValue.isNil) Tryd.func26 (by kernel_rfl) (by kernel_rfl) (by kernel_rfl) (by kernel_rfl)
  have h57 := @run_callFunc_extern Tryd.prog 57 _ (ReflectliteType.abiMethod fun t => do pure (.int .u8 (← Rtype.kind t))) Tryd.func57 (by kernel_rfl) (by kernel_rfl) (by kernel_rfl) (by kernel_rfl)
  have h71 := @run_callFunc_extern Tryd.prog 71 _ (ReflectliteType.method ReflectliteType.elem) Tryd.func71 (by kernel_rfl) (by kernel_rfl) (by kernel_rfl) (by kernel_rfl)
  have h72 := @run_callFunc_extern Tryd.prog 72 _ (ReflectliteType.relation "Implements" ReflectliteType.implements_) Tryd.func72 (by kernel_rfl) (by kernel_rfl) (by kernel_rfl) (by kernel_rfl)
  have mK := methodKind
  have mE := methodElem
  have mI := methodImplements
  have vP := valueOfPC
  have tP := typePC
  have kP := kindPC
  have kT := kindC
  have eP := elemC
  have iT := implementsC
  have hg1 := hG.2
  have hg0 := hG.1
  have iN := isNilPC ⟨w.heap.size, 0, none⟩ ⟨g, 0, none⟩ ((w.alloc (.cells #[.pointer (some ⟨g, 0, none⟩)] 49)).alloc (.cells #[.pointer (some ⟨5, 49, none⟩), .pointer (some ⟨w.heap.size, 0, none⟩), .int .u64 150] 65)) (by simp)
  have hg2 : ((w.alloc (.cells #[.pointer (some ⟨g, 0, none⟩)] 49)).alloc (.cells #[.pointer (some ⟨5, 49, none⟩), .pointer (some ⟨w.heap.size, 0, none⟩), .int .u64 150] 65)).cell? ⟨1, 0, none⟩ = some (.iface 73 (.agg #[.pointer (some ⟨5, 28, none⟩)])) := by
    rw [World.cell?_alloc_lt _ _ ⟨1, 0, none⟩ (by simp; omega), World.cell?_alloc_lt _ _ ⟨1, 0, none⟩ hg0]; exact hg1
  clear hG hg1
  obtain ⟨tt, tv, htv⟩ := wrap_iface f c a ps
  have HTV := Aside0.mk htv
  rw [htv]
  clear htv
  go_enter Tryd.func19, Tryd.ntmps19
  go_wp2_with fail
  rw [← HTV.out]
  refine (as_chC g w.heap.size f c a ps _ old (by rw [World.cell?_alloc_lt _ _ ⟨g, 0, none⟩ (by simp; omega), World.cell?_alloc_lt _ _ ⟨g, 0, none⟩ hg]; exact ht) (by rw [World.frozen?_alloc_old _ _ ⟨g, 0, none⟩ (by simp; omega), World.frozen?_alloc_old _ _ ⟨g, 0, none⟩ (Nat.ne_of_lt hg)]; exact hf) (by simp) (by simp; omega) (by simp; omega)).mono ?_
  rintro e w1 ⟨rfl, hc, hb⟩
  have HR := Aside0.mk (And.intro hc ((((Below.refl g w).alloc (Nat.le_of_lt hg) _).alloc (by simp; omega) _).trans hb))
  clear hc hb
  go_wp2
  go_ret
  exact ⟨rfl, HR.out.1, HR.out.2⟩

set_option maxRecDepth 100000 in
set_option maxHeartbeats 4000000 in
theorem As_chF (g : Nat) (f : Bool) (c a : Int) (ps : List ByteArray) (w : World) (hG : ErrG w) (hgl : 1 < g) (o1 o2 : Int) (ht : w.cell? ⟨g, 0, none⟩ = some (.int .i64 o1)) (ht1 : w.cell? ⟨g, 1, none⟩ = some (.int .i64 o2)) (hf : w.frozen? ⟨g, 0, none⟩ = false) (hf1 : w.frozen? ⟨g, 1, none⟩ = false) (hg : g < w.heap.size) :
    Calls Tryd.prog 19 #[wrapV (baseV f c a) ps, .iface 50 (.pointer (some ⟨g, 0, none⟩))] w fun e w' => e = .returned (.bool f) ∧ w'.cell? ⟨g, 1, none⟩ = some (.int .i64 (if f then a else o2)) ∧ Below g w w' := by
  have h24 := @run_callFunc_extern Tryd.prog 24 _ (fun args => ReflectliteValue.unpack (args.getD 0 (.tuple #[]))) Tryd.func24 (by kernel_rfl) (by kernel_rfl) (by kernel_rfl) (by kernel_rfl)
  have h25 := @run_callFunc_extern Tryd.prog 25 _ (ReflectliteValue.methodAny (ReflectliteValue.valueError "reflectlite.Value.Type" 0) (fun t _ _ _ => ReflectliteType.toType t)) Tryd.func25 (by kernel_rfl) (by kernel_rfl) (by kernel_rfl) (by kernel_rfl)
  have h26 := @run_callFunc_extern Tryd.prog 26 _ (ReflectliteValue.method (ReflectliteValue.valueError "reflectlite.Value.IsNil" 0) ReflectliteValue.isNil) Tryd.func26 (by kernel_rfl) (by kernel_rfl) (by kernel_rfl) (by kernel_rfl)
  have h57 := @run_callFunc_extern Tryd.prog 57 _ (ReflectliteType.abiMethod fun t => do pure (.int .u8 (← Rtype.kind t))) Tryd.func57 (by kernel_rfl) (by kernel_rfl) (by kernel_rfl) (by kernel_rfl)
  have h71 := @run_callFunc_extern Tryd.prog 71 _ (ReflectliteType.method ReflectliteType.elem) Tryd.func71 (by kernel_rfl) (by kernel_rfl) (by kernel_rfl) (by kernel_rfl)
  have h72 := @run_callFunc_extern Tryd.prog 72 _ (ReflectliteType.relation "Implements" ReflectliteType.implements_) Tryd.func72 (by kernel_rfl) (by kernel_rfl) (by kernel_rfl) (by kernel_rfl)
  have mK := methodKind
  have mE := methodElem
  have mI := methodImplements
  have vP := valueOfPF
  have tP := typePF
  have kP := kindPF
  have kT := kindF
  have eP := elemF
  have iT := implementsF
  have hg1 := hG.2
  have hg0 := hG.1
  have iN := isNilPF ⟨w.heap.size, 0, none⟩ ⟨g, 0, none⟩ ((w.alloc (.cells #[.pointer (some ⟨g, 0, none⟩)] 50)).alloc (.cells #[.pointer (some ⟨5, 50, none⟩), .pointer (some ⟨w.heap.size, 0, none⟩), .int .u64 150] 65)) (by simp)
  have hg2 : ((w.alloc (.cells #[.pointer (some ⟨g, 0, none⟩)] 50)).alloc (.cells #[.pointer (some ⟨5, 50, none⟩), .pointer (some ⟨w.heap.size, 0, none⟩), .int .u64 150] 65)).cell? ⟨1, 0, none⟩ = some (.iface 73 (.agg #[.pointer (some ⟨5, 28, none⟩)])) := by
    rw [World.cell?_alloc_lt _ _ ⟨1, 0, none⟩ (by simp; omega), World.cell?_alloc_lt _ _ ⟨1, 0, none⟩ hg0]; exact hg1
  clear hG hg1
  obtain ⟨x, hx⟩ : ∃ x : Int, x = (if f then a else o2) := ⟨_, rfl⟩
  have HX := Aside0.mk hx
  rw [← hx]
  clear hx
  obtain ⟨tt, tv, htv⟩ := wrap_iface f c a ps
  have HTV := Aside0.mk htv
  rw [htv]
  clear htv
  go_enter Tryd.func19, Tryd.ntmps19
  go_wp2_with fail
  rw [← HTV.out]
  refine (as_chF g w.heap.size f c a ps _ o1 o2 (by rw [World.cell?_alloc_lt _ _ ⟨g, 0, none⟩ (by simp; omega), World.cell?_alloc_lt _ _ ⟨g, 0, none⟩ hg]; exact ht) (by rw [World.cell?_alloc_lt _ _ ⟨g, 1, none⟩ (by simp; omega), World.cell?_alloc_lt _ _ ⟨g, 1, none⟩ hg]; exact ht1) (by rw [World.frozen?_alloc_old _ _ ⟨g, 0, none⟩ (by simp; omega), World.frozen?_alloc_old _ _ ⟨g, 0, none⟩ (Nat.ne_of_lt hg)]; exact hf) (by rw [World.frozen?_alloc_old _ _ ⟨g, 1, none⟩ (by simp; omega), World.frozen?_alloc_old _ _ ⟨g, 1, none⟩ (Nat.ne_of_lt hg)]; exact hf1) (by simp) (by simp; omega) (by simp; omega)).mono ?_
  rintro e w1 ⟨rfl, hc, hb⟩
  rw [← HX.out] at hc
  have HR := Aside0.mk (And.intro hc ((((Below.refl g w).alloc (Nat.le_of_lt hg) _).alloc (by simp; omega) _).trans hb))
  clear hc hb
  go_wp2
  go_ret
  exact ⟨rfl, HR.out.1, HR.out.2⟩

set_option maxHeartbeats 4000000 in
theorem code_ch (f : Bool) (c a : Int) (ps : List ByteArray) (w : World) (hG : ErrG w) : Calls Tryd.prog 9 #[wrapV (baseV f c a) ps] w fun e w' => e = .returned (.tuple #[.int .i64 c, .bool true]) ∧ Below w.heap.size w w' := by
  have hA : ErrG (w.alloc (.cells #[.int .i64 0] 30)) := hG.below (below_alloc (B0 w) _) hG.1
  have hgl := hG.1
  obtain ⟨V, hV⟩ : ∃ V, V = wrapV (baseV f c a) ps := ⟨_, rfl⟩
  have HV := Aside0.mk hV
  rw [← hV]
  clear hG hV
  go_enter Tryd.func9, Tryd.ntmps9
  go_wp2_with fail
  rw [HV.out]
  refine (As_chC w.heap.size f c a ps _ hA hgl 0 (by simp) (by simp) (by simp)).mono ?_
  rintro e w1 ⟨rfl, hc, hb⟩
  go_wp2
  go_ret2
  exact ⟨rfl, (below_alloc (B0 w) _).trans hb⟩

set_option maxHeartbeats 4000000 in
theorem at_ch (f : Bool) (c a : Int) (ps : List ByteArray) (w : World) (hG : ErrG w) : Calls Tryd.prog 10 #[wrapV (baseV f c a) ps] w fun e w' => e = .returned (.tuple #[.int .i64 (if f then a else 0), .bool f]) ∧ Below w.heap.size w w' := by
  have hA : ErrG (w.alloc (.cells #[.int .i64 0, .int .i64 0] 47)) := hG.below (below_alloc (B0 w) _) hG.1
  have hgl := hG.1
  obtain ⟨V, hV⟩ : ∃ V, V = wrapV (baseV f c a) ps := ⟨_, rfl⟩
  have HV := Aside0.mk hV
  rw [← hV]
  obtain ⟨x, hx⟩ : ∃ x : Int, x = (if f then a else 0) := ⟨_, rfl⟩
  have HX := Aside0.mk hx
  rw [← hx]
  clear hG hV hx
  go_enter Tryd.func10, Tryd.ntmps10
  go_wp2_with fail
  rw [HV.out]
  refine (As_chF w.heap.size f c a ps _ hA hgl 0 0 (by simp) (by simp) (by simp) (by simp) (by simp)).mono ?_
  rintro e w1 ⟨rfl, hc, hb⟩
  rw [show (if f = true then a else 0) = x from HX.out.symm] at hc
  go_wp2
  go_ret2
  exact ⟨rfl, (below_alloc (B0 w) _).trans hb⟩

set_option maxHeartbeats 4000000 in
theorem shift_ch (f : Bool) (c a : Int) (ps : List ByteArray) (n : Int) (ha : -1152921504606846976 < a ∧ a < 1152921504606846976) (hn : -2147483648 ≤ n ∧ n ≤ 2147483647) (w : World) (hG : ErrG w) : Calls Tryd.prog 12 #[wrapV (baseV f c a) ps, .int .i64 n] w fun e w' => e = .returned (.iface 47 (.agg #[.int .i64 c, .int .i64 ((if f then a else 0) + n)])) ∧ Below w.heap.size w w' := by
  obtain ⟨V, hV⟩ : ∃ V, V = wrapV (baseV f c a) ps := ⟨_, rfl⟩
  have HV := Aside0.mk hV
  rw [← hV]
  obtain ⟨x, hx⟩ : ∃ x : Int, x = (if f then a else 0) := ⟨_, rfl⟩
  have hx1 : -1152921504606846976 < x := by rw [hx]; split <;> omega
  have hx2 : x < 1152921504606846976 := by rw [hx]; split <;> omega
  have hn1 := hn.1
  have hn2 := hn.2
  have HX := Aside0.mk hx
  have HG := Aside0.mk hG
  rw [← hx]
  clear hG hV hx ha hn
  go_enter Tryd.func12, Tryd.ntmps12
  go_wp2_with fail
  rw [HV.out]
  refine (code_ch f c a ps _ HG.out).mono ?_
  rintro e w1 ⟨rfl, hb⟩
  have HB := Aside0.mk hb
  have HG1 := Aside0.mk (HG.out.below hb HG.out.1)
  clear hb
  go_wp2_with fail
  refine (at_ch f c a ps _ HG1.out).mono ?_
  rintro e w2 ⟨rfl, hb⟩
  rw [← HX.out]
  have HB2 := Aside0.mk (below_step HB.out hb)
  clear hb
  go_wp2_with fail
  refine (new_any _ _ _).mono ?_
  rintro e w3 ⟨rfl, rfl⟩
  go_wp2
  go_ret
  exact ⟨rfl, HB2.out⟩

end Go.Proofs.YtmnfemdcccpmfaaDoor.HErr
