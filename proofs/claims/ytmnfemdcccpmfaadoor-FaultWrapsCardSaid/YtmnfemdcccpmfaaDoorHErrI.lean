/- Wrapped errors: errors.As, fault.Code, fault.At on chains. -/
import Derived.Test.YtmnfemdcccpmfaaDoorHErrC
namespace Go.Proofs.YtmnfemdcccpmfaaDoor.HErr
open Go.RowKit Go.Proofs.YtmnfemdcccpmfaaDoorW.PrintWords Go.Extern.Stop Go.Stop Go.Extern Go.Proofs.YtmnfemdcccpmfaaDoor.HErrF Go.Proofs.YtmnfemdcccpmfaaDoor.HLib
set_option linter.unusedVariables false
set_option linter.unusedSimpArgs false

def baseV (f : Bool) (c a : Int) : Value := if f then .iface 47 (.agg #[.int .i64 c, .int .i64 a]) else .iface 30 (.int .i64 c)
def wrapV (b : Value) : List ByteArray → Value
  | [] => b
  | p :: ps => .iface 53 (.agg #[.string p, wrapV b ps])
def fnat (f : Bool) : Nat := if f then 1 else 0
theorem wrap_iface (f : Bool) (c a : Int) (ps : List ByteArray) : ∃ t v, wrapV (baseV f c a) ps = .iface t v := by
  cases ps with
  | nil => cases f <;> exact ⟨_, _, rfl⟩
  | cons p ps => exact ⟨_, _, rfl⟩
theorem unwrap_I (p : ByteArray) (v : Value) (w : World) : Calls Tryd.prog 64 #[.agg #[.string p, v]] w fun e w' => e = .returned v ∧ w' = w.alloc (.cells #[.string p, v] 53) := by
  go_enter Tryd.func64, Tryd.ntmps64
  go_wp2
  go_ret
  exact ⟨rfl, rfl⟩

set_option maxRecDepth 100000 in
set_option maxHeartbeats 8000000 in
theorem as_chC (g a : Nat) (f : Bool) (c at_ : Int) (ps : List ByteArray) (w : World) (old : Int) (ht : w.cell? ⟨g, 0, none⟩ = some (.int .i64 old)) (hf : w.frozen? ⟨g, 0, none⟩ = false) (ha : w.cell? ⟨a, 0, none⟩ = some (.pointer (some ⟨g, 0, none⟩))) (hg : g < w.heap.size) (hav : a < w.heap.size) :
    Calls Tryd.prog 27 #[wrapV (baseV f c at_) ps, .iface 49 (.pointer (some ⟨g, 0, none⟩)), .agg #[.pointer (some ⟨5, 49, none⟩), .pointer (some ⟨a, 0, none⟩), .int .u64 150], .iface 73 (.agg #[.pointer (some ⟨5, 30, none⟩)])] w fun e w' => e = .returned (.bool true) ∧ w'.cell? ⟨g, 0, none⟩ = some (.int .i64 c) ∧ Below g w w' := by
  have h21 := @run_callFunc_extern Tryd.prog 21 _ ReflectliteType.typeOf Tryd.func21 (by kernel_rfl) (by kernel_rfl) (by kernel_rfl) (by kernel_rfl)
  have h69 := @run_callFunc_extern Tryd.prog 69 _ (ReflectliteType.relation "AssignableTo" ReflectliteType.assignableTo) Tryd.func69 (by kernel_rfl) (by kernel_rfl) (by kernel_rfl) (by kernel_rfl)
  have h24 := @run_callFunc_extern Tryd.prog 24 _ (fun args => ReflectliteValue.unpack (args.getD 0 (.tuple #[]))) Tryd.func24 (by kernel_rfl) (by kernel_rfl) (by kernel_rfl) (by kernel_rfl)
  have h29 := @run_callFunc_extern Tryd.prog 29 _ (ReflectliteValue.method (ReflectliteValue.valueError "reflectlite.Value.Elem" 0) ReflectliteValue.elem) Tryd.func29 (by kernel_rfl) (by kernel_rfl) (by kernel_rfl) (by kernel_rfl)
  have h30 := @run_callFunc_extern Tryd.prog 30 _ ReflectliteValue.set Tryd.func30 (by kernel_rfl) (by kernel_rfl) (by kernel_rfl) (by kernel_rfl)
  have mA := methodAssignableTo
  have mUF := methodUnwrapF
  have mUI := methodUnwrapI
  have nAC := noAsC
  have nAF := noAsF
  have nAI := noAsI
  have nUC := noUnC
  have nUsC := noUsC
  have yUF := unF
  have yUI := unI
  have tOC := typeOfC
  have tOF := typeOfF
  have tOI := typeOfI
  have aC := assignableCC
  have aF := assignableFC
  have aI := assignableIC
  have vC := valueOfC
  obtain ⟨W0, hW0⟩ : ∃ u, u = w.alloc (.cells #[.pointer (some ⟨5, 49, none⟩), .pointer (some ⟨a, 0, none⟩), .int .u64 150] 65) := ⟨_, rfl⟩
  have HW0 := Aside0.mk (show Below w.heap.size w W0 from by rw [hW0]; exact below_alloc (B0 w) _)
  have F0 := Aside0.mk (show W0.heap[w.heap.size]? = some (.cells #[.pointer (some ⟨5, 49, none⟩), .pointer (some ⟨a, 0, none⟩), .int .u64 150] 65 (0, 0)) from by rw [hW0]; exact blk_new w _)
  have HN := Aside0.mk (And.intro hg hav)
  have HA := Aside0.mk ha
  have HT := Aside0.mk (And.intro ht hf)
  clear ha hg hav ht hf
  obtain ⟨V, hV⟩ : ∃ V, V = wrapV (baseV f c at_) ps := ⟨_, rfl⟩
  have HV := Aside0.mk hV
  rw [← hV]
  clear hV
  go_enter Tryd.func27, Tryd.ntmps27
  go_wp2
  rw [← hW0]
  clear hW0
  go_loopg [0] (ps.length + fnat f) (fun kq v0 w' => ∃ (f1 : Bool) (ps1 : List ByteArray), v0 = wrapV (baseV f1 c at_) ps1 ∧ Aside0 (kq = ps1.length + fnat f1 ∧ True) ∧ Aside0 (Below W0.heap.size W0 w'))
  case atStart => exact ⟨f, ps, HV.out, ⟨rfl, trivial⟩, ⟨B0 W0⟩⟩
  case round =>
    clear HV
    obtain ⟨f1, ps1, rfl, HK, HB⟩ := hrel
    have HF := Aside0.mk (blk_below F0.out HB.out)
    have k1 := (blk_cell HF.out 0).trans (show _ = some _ from rfl)
    have k2 := (blk_cell HF.out 1).trans (show _ = some _ from rfl)
    have k3 := (blk_cell HF.out 2).trans (show _ = some _ from rfl)
    have hk1 := HK.out.1
    cases ps1 with
    | cons p ps1 =>
      unfold wrapV
      go_wp2_with fail
      refine (unwrap_I _ _ _).mono ?_
      rintro e w1 ⟨rfl, rfl⟩
      obtain ⟨tt, tv, htv⟩ := wrap_iface f1 c at_ ps1
      rw [htv]
      go_wp2
      rw [← htv]
      go_roundg (ps1.length + fnat f1)
      case measure => rw [hk1, List.length_cons]; omega
      case rel => exact ⟨f1, ps1, rfl, ⟨rfl, HK.out.2⟩, ⟨below_alloc HB.out _⟩⟩
    | nil =>
      cases f1 with
      | true =>
        unfold wrapV baseV
        rw [if_pos rfl]
        go_wp2_with fail
        refine (unwrap_F _ _ _).mono ?_
        rintro e w1 ⟨rfl, rfl⟩
        go_wp2
        go_roundg 0
        case measure => rw [hk1]; simp [fnat]
        case rel => exact ⟨false, [], rfl, ⟨rfl, trivial⟩, ⟨below_alloc HB.out _⟩⟩
      | false =>
        unfold wrapV baseV
        rw [if_neg (by simp)]
        have el := elemVC ⟨a, 0, none⟩ ⟨g, 0, none⟩ wr (by rw [HB.out.cell (p := ⟨a, 0, none⟩) (by have := HW0.out.size; have := HN.out.2; show a < _; omega), HW0.out.cell (p := ⟨a, 0, none⟩) HN.out.2]; exact HA.out)
        have hgw : g < wr.heap.size := by have := HW0.out.size; have := HB.out.size; have := HN.out.1; omega
        have e1 : wr.cell? ⟨g, 0, none⟩ = some (.int .i64 old) := (by rw [HB.out.cell (p := ⟨g, 0, none⟩) (by have := HW0.out.size; have := HN.out.1; show g < _; omega), HW0.out.cell (p := ⟨g, 0, none⟩) HN.out.1]; exact HT.out.1)
        have e2 : wr.frozen? ⟨g, 0, none⟩ = false := (by rw [HB.out.frozen (p := ⟨g, 0, none⟩) (by have := HW0.out.size; have := HN.out.1; show g < _; omega), HW0.out.frozen (p := ⟨g, 0, none⟩) HN.out.1]; exact HT.out.2)
        have st := setC ⟨g, 0, none⟩ ⟨wr.heap.size, 0, none⟩ c (.int .i64 old) (wr.alloc (.cells #[.int .i64 c] 30)) (by rw [World.cell?_alloc_at _ _ _ _ rfl]; rfl) (by rw [World.cell?_alloc_lt _ _ ⟨g, 0, none⟩ hgw]; exact e1) (by rw [World.frozen?_alloc_old _ _ ⟨g, 0, none⟩ (Nat.ne_of_lt hgw)]; exact e2)
        have HE := Aside0.mk (And.intro e1 hgw)
        clear e1 e2 hgw
        go_wp2
        go_ret
        refine ⟨rfl, ?_, ?_⟩
        · first
          | (refine World.cell?_setCell_same _ _ _ (u := .int .i64 old) ?_
             rw [World.cell?_alloc_lt _ _ ⟨g, 0, none⟩ HE.out.2]
             exact HE.out.1)
          | (rw [World.cell?_alloc_lt _ _ ⟨g, 0, none⟩ (by simpa [World.setCell] using HE.out.2)]
             exact World.cell?_setCell_same _ _ _ HE.out.1)
        · have hbb : Below g w wr := (HW0.out.mono (Nat.le_of_lt HN.out.1)).trans (HB.out.mono (by have := HW0.out.size; have := HN.out.1; omega))
          first
          | exact (hbb.alloc (Nat.le_of_lt HE.out.2) _).setCell (p := ⟨g, 0, none⟩) (Nat.le_refl _) _
          | exact (hbb.setCell (p := ⟨g, 0, none⟩) (Nat.le_refl _) _).alloc (by simp [World.setCell]; have := HE.out.2; omega) _

set_option maxRecDepth 100000 in
set_option maxHeartbeats 8000000 in
theorem as_chF (g a : Nat) (f : Bool) (c at_ : Int) (ps : List ByteArray) (w : World) (o1 o2 : Int) (ht : w.cell? ⟨g, 0, none⟩ = some (.int .i64 o1)) (ht1 : w.cell? ⟨g, 1, none⟩ = some (.int .i64 o2)) (hf : w.frozen? ⟨g, 0, none⟩ = false) (hf1 : w.frozen? ⟨g, 1, none⟩ = false) (ha : w.cell? ⟨a, 0, none⟩ = some (.pointer (some ⟨g, 0, none⟩))) (hg : g < w.heap.size) (hav : a < w.heap.size) :
    Calls Tryd.prog 27 #[wrapV (baseV f c at_) ps, .iface 50 (.pointer (some ⟨g, 0, none⟩)), .agg #[.pointer (some ⟨5, 50, none⟩), .pointer (some ⟨a, 0, none⟩), .int .u64 150], .iface 73 (.agg #[.pointer (some ⟨5, 47, none⟩)])] w fun e w' => e = .returned (.bool f) ∧ w'.cell? ⟨g, 1, none⟩ = some (.int .i64 (if f then at_ else o2)) ∧ Below g w w' := by
  have h21 := @run_callFunc_extern Tryd.prog 21 _ ReflectliteType.typeOf Tryd.func21 (by kernel_rfl) (by kernel_rfl) (by kernel_rfl) (by kernel_rfl)
  have h69 := @run_callFunc_extern Tryd.prog 69 _ (ReflectliteType.relation "AssignableTo" ReflectliteType.assignableTo) Tryd.func69 (by kernel_rfl) (by kernel_rfl) (by kernel_rfl) (by kernel_rfl)
  have h24 := @run_callFunc_extern Tryd.prog 24 _ (fun args => ReflectliteValue.unpack (args.getD 0 (.tuple #[]))) Tryd.func24 (by kernel_rfl) (by kernel_rfl) (by kernel_rfl) (by kernel_rfl)
  have h29 := @run_callFunc_extern Tryd.prog 29 _ (ReflectliteValue.method (ReflectliteValue.valueError "reflectlite.Value.Elem" 0) ReflectliteValue.elem) Tryd.func29 (by kernel_rfl) (by kernel_rfl) (by kernel_rfl) (by kernel_rfl)
  have h30 := @run_callFunc_extern Tryd.prog 30 _ ReflectliteValue.set Tryd.func30 (by kernel_rfl) (by kernel_rfl) (by kernel_rfl) (by kernel_rfl)
  have mA := methodAssignableTo
  have mUF := methodUnwrapF
  have mUI := methodUnwrapI
  have nAC := noAsC
  have nAF := noAsF
  have nAI := noAsI
  have nUC := noUnC
  have nUsC := noUsC
  have yUF := unF
  have yUI := unI
  have tOC := typeOfC
  have tOF := typeOfF
  have tOI := typeOfI
  have aC := assignableCF
  have aF := assignableFF
  have aI := assignableIF
  have vF := valueOfF
  obtain ⟨W0, hW0⟩ : ∃ u, u = w.alloc (.cells #[.pointer (some ⟨5, 50, none⟩), .pointer (some ⟨a, 0, none⟩), .int .u64 150] 65) := ⟨_, rfl⟩
  have HW0 := Aside0.mk (show Below w.heap.size w W0 from by rw [hW0]; exact below_alloc (B0 w) _)
  have F0 := Aside0.mk (show W0.heap[w.heap.size]? = some (.cells #[.pointer (some ⟨5, 50, none⟩), .pointer (some ⟨a, 0, none⟩), .int .u64 150] 65 (0, 0)) from by rw [hW0]; exact blk_new w _)
  have HN := Aside0.mk (And.intro hg hav)
  have HA := Aside0.mk ha
  have HT := Aside0.mk (And.intro (And.intro ht hf) (And.intro ht1 hf1))
  clear ha hg hav ht hf ht1 hf1
  obtain ⟨V, hV⟩ : ∃ V, V = wrapV (baseV f c at_) ps := ⟨_, rfl⟩
  have HV := Aside0.mk hV
  rw [← hV]
  clear hV
  go_enter Tryd.func27, Tryd.ntmps27
  go_wp2
  rw [← hW0]
  clear hW0
  go_loopg [0] (ps.length + fnat f) (fun kq v0 w' => ∃ (f1 : Bool) (ps1 : List ByteArray), v0 = wrapV (baseV f1 c at_) ps1 ∧ Aside0 (kq = ps1.length + fnat f1 ∧ f1 = f) ∧ Aside0 (Below W0.heap.size W0 w'))
  case atStart => exact ⟨f, ps, HV.out, ⟨rfl, rfl⟩, ⟨B0 W0⟩⟩
  case round =>
    clear HV
    obtain ⟨f1, ps1, rfl, HK, HB⟩ := hrel
    have HF := Aside0.mk (blk_below F0.out HB.out)
    have k1 := (blk_cell HF.out 0).trans (show _ = some _ from rfl)
    have k2 := (blk_cell HF.out 1).trans (show _ = some _ from rfl)
    have k3 := (blk_cell HF.out 2).trans (show _ = some _ from rfl)
    have hk1 := HK.out.1
    cases ps1 with
    | cons p ps1 =>
      unfold wrapV
      go_wp2_with fail
      refine (unwrap_I _ _ _).mono ?_
      rintro e w1 ⟨rfl, rfl⟩
      obtain ⟨tt, tv, htv⟩ := wrap_iface f1 c at_ ps1
      rw [htv]
      go_wp2
      rw [← htv]
      go_roundg (ps1.length + fnat f1)
      case measure => rw [hk1, List.length_cons]; omega
      case rel => exact ⟨f1, ps1, rfl, ⟨rfl, HK.out.2⟩, ⟨below_alloc HB.out _⟩⟩
    | nil =>
      cases f1 with
      | true =>
        unfold wrapV baseV
        rw [if_pos rfl]
        have el := elemVF ⟨a, 0, none⟩ ⟨g, 0, none⟩ wr (by rw [HB.out.cell (p := ⟨a, 0, none⟩) (by have := HW0.out.size; have := HN.out.2; show a < _; omega), HW0.out.cell (p := ⟨a, 0, none⟩) HN.out.2]; exact HA.out)
        have hgw : g < wr.heap.size := by have := HW0.out.size; have := HB.out.size; have := HN.out.1; omega
        have e1 : wr.cell? ⟨g, 0, none⟩ = some (.int .i64 o1) := (by rw [HB.out.cell (p := ⟨g, 0, none⟩) (by have := HW0.out.size; have := HN.out.1; show g < _; omega), HW0.out.cell (p := ⟨g, 0, none⟩) HN.out.1]; exact HT.out.1.1)
        have e2 : wr.frozen? ⟨g, 0, none⟩ = false := (by rw [HB.out.frozen (p := ⟨g, 0, none⟩) (by have := HW0.out.size; have := HN.out.1; show g < _; omega), HW0.out.frozen (p := ⟨g, 0, none⟩) HN.out.1]; exact HT.out.1.2)
        have e3 : wr.cell? ⟨g, 1, none⟩ = some (.int .i64 o2) := (by rw [HB.out.cell (p := ⟨g, 1, none⟩) (by have := HW0.out.size; have := HN.out.1; show g < _; omega), HW0.out.cell (p := ⟨g, 1, none⟩) HN.out.1]; exact HT.out.2.1)
        have e4 : wr.frozen? ⟨g, 1, none⟩ = false := (by rw [HB.out.frozen (p := ⟨g, 1, none⟩) (by have := HW0.out.size; have := HN.out.1; show g < _; omega), HW0.out.frozen (p := ⟨g, 1, none⟩) HN.out.1]; exact HT.out.2.2)
        have st := setF g wr.heap.size c at_ o1 o2 (wr.alloc (.cells #[.int .i64 c, .int .i64 at_] 47)) (by rw [World.cell?_alloc_at _ _ _ _ rfl]; rfl) (by rw [World.cell?_alloc_at _ _ _ _ rfl]; rfl) (by rw [World.cell?_alloc_lt _ _ ⟨g, 0, none⟩ hgw]; exact e1) (by rw [World.cell?_alloc_lt _ _ ⟨g, 1, none⟩ hgw]; exact e3) (by rw [World.frozen?_alloc_old _ _ ⟨g, 0, none⟩ (Nat.ne_of_lt hgw)]; exact e2) (by rw [World.frozen?_alloc_old _ _ ⟨g, 1, none⟩ (Nat.ne_of_lt hgw)]; exact e4)
        have HE := Aside0.mk (And.intro e3 hgw)
        clear e1 e2 e3 e4 hgw
        have hff : f = true := HK.out.2.symm
        subst hff
        go_wp2
        go_ret
        refine ⟨rfl, ?_, ?_⟩
        · first
          | (refine World.cell?_setCell_same _ _ _ (u := .int .i64 o2) ?_
             rw [World.cell?_setCell_other (h := by intro h; cases h), World.cell?_alloc_lt _ _ ⟨g, 1, none⟩ HE.out.2]
             exact HE.out.1)
          | (rw [World.cell?_alloc_lt _ _ ⟨g, 1, none⟩ (by simpa [World.setCell] using HE.out.2)]
             refine World.cell?_setCell_same _ _ _ (u := .int .i64 o2) ?_
             rw [World.cell?_setCell_other (h := by intro h; cases h)]
             exact HE.out.1)
        · have hbb : Below g w wr := (HW0.out.mono (Nat.le_of_lt HN.out.1)).trans (HB.out.mono (by have := HW0.out.size; have := HN.out.1; omega))
          first
          | exact ((hbb.alloc (Nat.le_of_lt HE.out.2) _).setCell (p := ⟨g, 0, none⟩) (Nat.le_refl _) _).setCell (p := ⟨g, 1, none⟩) (Nat.le_refl _) _
          | exact ((hbb.setCell (p := ⟨g, 0, none⟩) (Nat.le_refl _) _).setCell (p := ⟨g, 1, none⟩) (Nat.le_refl _) _).alloc (by simp [World.setCell]; have := HE.out.2; omega) _
      | false =>
        unfold wrapV baseV
        rw [if_neg (by simp)]
        have hff : f = false := HK.out.2.symm
        subst hff
        go_wp2
        go_ret
        refine ⟨rfl, ?_, (HW0.out.mono (Nat.le_of_lt HN.out.1)).trans (HB.out.mono (by have := HW0.out.size; have := HN.out.1; omega))⟩
        rw [HB.out.cell (p := ⟨g, 1, none⟩) (by have := HW0.out.size; have := HN.out.1; show g < _; omega), HW0.out.cell (p := ⟨g, 1, none⟩) HN.out.1]
        exact HT.out.2.1

end Go.Proofs.YtmnfemdcccpmfaaDoor.HErr
