/- The package name. -/
import Derived.Test.YtckliinakgffpaaGreatDoorUT
import Derived.Test.YtckliinakgffpaaGreatDoorShelf
import Derived.Sort.Grow
import Derived.Shelf.SlSortCmp.QuietGrown
namespace Go.Proofs.YtckliinakgffpaaGreatDoor.HName
open Go.RowKit Go.Proofs.YtckliinakgffpaaGreatDoorW.PrintWords Go.Proofs.YtckliinakgffpaaGreatDoor.HLib Go.Proofs.YtckliinakgffpaaGreatDoor.HNameP
set_option linter.unusedVariables false
set_option linter.unusedSimpArgs false

theorem indexbyte_any (s : ByteArray) (c : Int) (w : World) : Calls Tryz.prog 102 #[.string s, .int .u8 c] w fun e w' => e = .returned (.int .i64 (findP s c)) ∧ w = w' :=
  (Tryz.strings_IndexByte s c w).mono fun _ _ ⟨a, b⟩ => ⟨a, b.symm⟩

set_option maxHeartbeats 4000000 in
theorem has_any (set s : ByteArray) (w : World) (hs : s.size ≤ 1099511627776) : Calls Tryz.prog 75 #[.string set, .string s] w fun e w' => e = .returned (.bool (allC (memC set) s)) ∧ w = w' := by
  go_enter Tryz.func75, Tryz.ntmps75
  go_wp2
  go_loop [5, 8] (fun v5 v8 => ∃ (j : Int), v8 = .int .i64 j ∧ Aside0 (0 ≤ j ∧ j ≤ s.size ∧ ∀ i : Nat, i < j.toNat → memC set (bt s i) = true)) (fun _ v8 => s.size - (intOf v8).toNat)
  case atStart => exact ⟨0, rfl, ⟨⟨by omega, by omega, fun i hi => by omega⟩⟩⟩
  case round =>
    obtain ⟨j, rfl, HA⟩ := hrel
    have hj0 := HA.out.1
    have hjm : j ≤ 1099511627776 := by have := HA.out; omega
    by_cases c1 : j < s.size
    · have d1 : decide (j < (s.size : Int)) = true := decide_eq_true c1
      go_wp2_with fail
      rw [bt_at s j]
      refine (indexbyte_any set _ _).mono ?_
      rintro e w1 ⟨rfl, rfl⟩
      obtain ⟨V, hV⟩ : ∃ V, V = findP set (bt s j) := ⟨_, rfl⟩
      have HV := Aside0.mk hV
      rw [← hV]
      clear hV
      by_cases c2 : V < 0
      · have d2 : decide (V < 0) = true := decide_eq_true c2
        have HE := Aside0.mk (allC_false (p := memC set) (s := s) j.toNat (by omega) (by rw [show ((j.toNat : Nat) : Int) = j from by omega]; unfold memC; exact decide_eq_false (by have := HV.out; unfold findP at this; omega)))
        go_wp2
        go_ret
        exact ⟨by rw [HE.out]; rfl, rfl⟩
      · have d2 : decide (V < 0) = false := decide_eq_false c2
        go_wp2
        go_round
        case measure => simp [intOf]; omega
        case rel =>
          refine ⟨j + 1, rfl, ⟨⟨by omega, by omega, fun i hi => ?_⟩⟩⟩
          by_cases hij : i < j.toNat
          · exact HA.out.2.2 i hij
          · rw [show i = j.toNat from by omega, show ((j.toNat : Nat) : Int) = j from by omega]
            unfold memC
            exact decide_eq_true (by have := HV.out; unfold findP at this; omega)
    · have d1 : decide (j < (s.size : Int)) = false := decide_eq_false c1
      have HE := Aside0.mk (allC_true (p := memC set) (s := s) (fun i hi => HA.out.2.2 i (by omega)))
      go_wp2
      go_ret
      exact ⟨by rw [HE.out]; rfl, rfl⟩

/-- What the listed variable name.reserved holds. -/
def ResG (w : World) : Prop := 1 < w.heap.size ∧ ∀ j : Nat, j < 3 → w.cell? ⟨1, j, none⟩ = some (.string ([DEF, REL, PERM].getD j ByteArray.empty))
theorem ResG.below {w w1 : World} {n : Nat} (h : ResG w) (hb : Below n w w1) (hn : 1 < n) : ResG w1 :=
  ⟨by have := hb.size; have := h.1; omega, fun j hj => by rw [hb.cell (p := ⟨1, j, none⟩) hn]; exact h.2 j hj⟩

set_option maxHeartbeats 4000000 in
theorem reserved_any (s : ByteArray) (w : World) (hG : ResG w) : Calls Tryz.prog 76 #[.string s] w fun e w' => e = .returned (.bool (resP s)) ∧ w = w' := by
  have HG := Aside0.mk hG
  clear hG
  go_enter Tryz.func76, Tryz.ntmps76
  go_wp2_with fail
  refine (Tryz.slices_Contains_string 1 0 3 3 [DEF, REL, PERM] s _ (by decide) (by decide) (fun j hj => by rw [Nat.zero_add]; exact HG.out.2 j hj)).mono ?_
  rintro e w1 ⟨rfl, hw⟩
  subst hw
  go_wp2
  go_ret
  exact ⟨rfl, rfl⟩

set_option maxHeartbeats 4000000 in
theorem is_any (s : ByteArray) (w : World) (hG : ResG w) : Calls Tryz.prog 47 #[.string s] w fun e w' => e = .returned (.bool (isP s)) ∧ w = w' := by
  have HG := Aside0.mk hG
  clear hG
  by_cases h0 : s.size = 0
  · have HN := Aside0.mk (isP_no s (.inl h0))
    have he := nil_of_size h0
    clear h0
    go_enter Tryz.func47, Tryz.ntmps47
    go_wp2
    go_ret
    exact ⟨by rw [HN.out]; rfl, rfl⟩
  by_cases h64 : 64 < s.size
  · have HN := Aside0.mk (isP_no s (.inr h64))
    have he := ne_of_size (s := s) (by omega)
    have d1 : ¬ ((s.size : Int) ≤ 64) := by omega
    clear h0 h64
    go_enter Tryz.func47, Tryz.ntmps47
    go_wp2
    go_ret
    exact ⟨by rw [HN.out]; rfl, rfl⟩
  have he := ne_of_size (s := s) (by omega)
  have he2 : s.toList.isEmpty = false := by cases h : s.toList with
    | nil => exact absurd h he
    | cons a l => rfl
  have h1 : (1 : Int) ≤ (s.size : Int) := by omega
  have h2 : (s.size : Int) ≤ 64 := by omega
  have HX := Aside0.mk (show (s.extract 0 1).size ≤ 1099511627776 by rw [ByteArray.size_extract]; omega)
  have HV := Aside0.mk (first_small s (by omega))
  have HP := Aside0.mk (isP_eq s (by omega) (by omega))
  have HA := Aside0.mk (all_name s)
  clear h0 h64
  go_enter Tryz.func47, Tryz.ntmps47
  go_wp2_with fail
  refine (has_any SMALL _ _ HX.out).mono ?_
  rintro e w1 ⟨rfl, rfl⟩
  rw [HV.out]
  cases hv : smallC (bt s 0) with
  | false =>
    rw [hv, Bool.false_and] at HP
    clear hv HV
    go_wp2
    go_ret
    exact ⟨by rw [HP.out]; rfl, rfl⟩
  | true =>
    rw [hv, Bool.true_and] at HP
    clear hv HV
    go_wp2_with fail
    refine (has_any INNAME _ _ (by omega)).mono ?_
    rintro e w1 ⟨rfl, rfl⟩
    rw [HA.out]
    cases hn : allC nameC s with
    | false =>
      rw [hn, Bool.false_and] at HP
      clear hn HA
      go_wp2
      go_ret
      exact ⟨by rw [HP.out]; rfl, rfl⟩
    | true =>
      rw [hn, Bool.true_and] at HP
      clear hn HA
      go_wp2_with fail
      refine (reserved_any _ _ HG.out).mono ?_
      rintro e w1 ⟨rfl, rfl⟩
      go_wp2
      go_ret
      exact ⟨by rw [HP.out]; rfl, rfl⟩

end Go.Proofs.YtckliinakgffpaaGreatDoor.HName
/- Worlds that have but grown and drawn. -/
namespace Go.Proofs.YtckliinakgffpaaGreatDoor.HGr
open Go.RowKit Go.Sort Go.Proofs.YtckliinakgffpaaGreatDoorW.PrintWords Go.Proofs.YtckliinakgffpaaGreatDoor.HLib
set_option linter.unusedVariables false
set_option linter.unusedSimpArgs false
/-- w' is w, orders having been drawn and blocks laid behind. -/
def Gr (w w' : World) : Prop := ∃ q os, w' = grow (w.drewN q) os
theorem Gr.refl (w : World) : Gr w w := ⟨0, #[], by rw [grow_empty]; rfl⟩
theorem Gr.alloc {w w' : World} (h : Gr w w') (o : Obj) : Gr w (w'.alloc o) := by
  obtain ⟨q, os, rfl⟩ := h
  exact ⟨q, os ++ #[o], by rw [alloc_eq_grow, grow_grow]⟩
theorem Gr.drewN {w w' : World} (h : Gr w w') (n : Nat) : Gr w (w'.drewN n) := by
  obtain ⟨q, os, rfl⟩ := h
  refine ⟨q + n, os, ?_⟩
  rw [← World.drewN_drewN]
  rfl
theorem Gr.drew {w w' : World} (h : Gr w w') : Gr w w'.drew := h.drewN 1
theorem Gr.trans {w w1 w2 : World} (h : Gr w w1) (k : Gr w1 w2) : Gr w w2 := by
  obtain ⟨q, os, rfl⟩ := h
  obtain ⟨q2, os2, rfl⟩ := k
  refine ⟨q + q2, os ++ os2, ?_⟩
  rw [← grow_grow, ← World.drewN_drewN]
  rfl
theorem Gr.cell {w w' : World} (h : Gr w w') {a : Addr} {v : Value} (hb : a.block < w.heap.size) (hc : w.cell? a = some v) : w'.cell? a = some v := by
  obtain ⟨q, os, rfl⟩ := h
  exact cell_grown hb hc q os
theorem Gr.size {w w' : World} (h : Gr w w') : w.heap.size ≤ w'.heap.size := by
  obtain ⟨q, os, rfl⟩ := h
  rw [size_grow]
  exact Nat.le_add_right _ _
theorem Gr.below {w w' : World} (h : Gr w w') : Below w.heap.size w w' := by
  obtain ⟨q, os, rfl⟩ := h
  refine ⟨rfl, rfl, rfl, ?_, fun k hk => ?_⟩
  · rw [size_grow]; exact Nat.le_add_right _ _
  · exact heap_grow_old (w.drewN q) os hk
theorem Gr.drawn0 {w w' : World} (h : Drawn0 w w') : Gr w w' := by
  obtain ⟨n, rfl⟩ := h
  exact (Gr.refl w).drewN n
theorem load_str {P : Program} {W : World} {a : Addr} {x : ByteArray} {ty : TypeId} (hu : P.underlying ty = some .string) (h : W.cell? a = some (.string x)) :
    (Instr.loadAt ty (.pointer (some a))).run P W = .ok (.string x) W := by
  simp [Instr.loadAt, Instr.sureAddr, loadVar, isAgg, run_underlying hu, Result.andThen, run_load, h]
theorem yieldsIf_load {P : Program} {ops : Array Oper} {S : World → Prop} {op : Oper} {a : Act} (hw : Region.wanted op (yielded ops a.tmps) = true) (ty : TypeId) (x : Operand) (ho : op.op = .load ty x) (v : Value)
    (h : ∀ w, S w → (Instr.loadAt ty (a.eval x)).run P w = .ok v w) : YieldsIf P ops S op v a :=
  .inl ⟨hw, fun w hS => by simp [execOp, ho, h w hS, Result.andThen]⟩
end Go.Proofs.YtckliinakgffpaaGreatDoor.HGr
