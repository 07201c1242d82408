/- The package name. -/
import Derived.Test.YtpbkcfgcmknijaaDoorHNameP
import Derived.Test.YtpbkcfgcmknijaaDoorHErrC
import Derived.Test.YtpbkcfgcmknijaaDoorShelf
namespace Go.Proofs.YtpbkcfgcmknijaaDoor.HName
open Go.RowKit Go.Proofs.YtpbkcfgcmknijaaDoorW.PrintWords Go.Proofs.YtpbkcfgcmknijaaDoor.HLib Go.Proofs.YtpbkcfgcmknijaaDoor.HNameP Go.Proofs.YtpbkcfgcmknijaaDoor.HErr
set_option linter.unusedVariables false
set_option linter.unusedSimpArgs false

theorem indexbyte_any (s : ByteArray) (c : Int) (w : World) : Calls Tryd.prog 40 #[.string s, .int .u8 c] w fun e w' => e = .returned (.int .i64 (findP s c)) ∧ w = w' :=
  (Tryd.strings_IndexByte s c w).mono fun _ _ ⟨a, b⟩ => ⟨a, b.symm⟩

set_option maxHeartbeats 4000000 in
theorem has_any (set s : ByteArray) (w : World) (hs : s.size ≤ 1099511627776) : Calls Tryd.prog 27 #[.string set, .string s] w fun e w' => e = .returned (.bool (allC (memC set) s)) ∧ w = w' := by
  go_enter Tryd.func27, Tryd.ntmps27
  go_wp2
  go_loop [5, 8] (fun v5 v8 => ∃ (j : Int), v8 = .int .i64 j ∧ Aside0 (0 ≤ j ∧ j ≤ s.size ∧ ∀ i : Nat, i < j.toNat → memC set (bt s i) = true)) (fun _ v8 => s.size - (intOf v8).toNat)
  case atStart => exact ⟨0, rfl, ⟨⟨by omega, by omega, fun i hi => by omega⟩⟩⟩
  case round =>
    obtain ⟨j, rfl, HA⟩ := hrel
    have hj0 := HA.out.1
    have hjm : j ≤ 1099511627776 := by have := HA.out; omega
    by_cases c1 : j < s.size
    · have d1 : decide (j < (s.size : Int)) = true := decide_eq_true c1
      go_wp2_with fail
      rw [bt_at s j]
      refine (indexbyte_any set _ _).mono ?_
      rintro e w1 ⟨rfl, rfl⟩
      obtain ⟨V, hV⟩ : ∃ V, V = findP set (bt s j) := ⟨_, rfl⟩
      have HV := Aside0.mk hV
      rw [← hV]
      clear hV
      by_cases c2 : V < 0
      · have d2 : decide (V < 0) = true := decide_eq_true c2
        have HE := Aside0.mk (allC_false (p := memC set) (s := s) j.toNat (by omega) (by rw [show ((j.toNat : Nat) : Int) = j from by omega]; unfold memC; exact decide_eq_false (by have := HV.out; unfold findP at this; omega)))
        go_wp2
        go_ret
        exact ⟨by rw [HE.out]; rfl, rfl⟩
      · have d2 : decide (V < 0) = false := decide_eq_false c2
        go_wp2
        go_round
        case measure => simp [intOf]; omega
        case rel =>
          refine ⟨j + 1, rfl, ⟨⟨by omega, by omega, fun i hi => ?_⟩⟩⟩
          by_cases hij : i < j.toNat
          · exact HA.out.2.2 i hij
          · rw [show i = j.toNat from by omega, show ((j.toNat : Nat) : Int) = j from by omega]
            unfold memC
            exact decide_eq_true (by have := HV.out; unfold findP at this; omega)
    · have d1 : decide (j < (s.size : Int)) = false := decide_eq_false c1
      have HE := Aside0.mk (allC_true (p := memC set) (s := s) (fun i hi => HA.out.2.2 i (by omega)))
      go_wp2
      go_ret
      exact ⟨by rw [HE.out]; rfl, rfl⟩

/-- What the listed variable name.reserved holds. -/
def ResG (w : World) : Prop := 0 < w.heap.size ∧ ∀ j : Nat, j < 3 → w.cell? ⟨0, j, none⟩ = some (.string ([DEF, REL, PERM].getD j ByteArray.empty))
theorem ResG.below {w w1 : World} {n : Nat} (h : ResG w) (hb : Below n w w1) (hn : 0 < n) : ResG w1 :=
  ⟨by have := hb.size; have := h.1; omega, fun j hj => by rw [hb.cell (p := ⟨0, j, none⟩) hn]; exact h.2 j hj⟩

set_option maxHeartbeats 4000000 in
theorem reserved_any (s : ByteArray) (w : World) (hG : ResG w) : Calls Tryd.prog 13 #[.string s] w fun e w' => e = .returned (.bool (resP s)) ∧ w = w' := by
  have HG := Aside0.mk hG
  clear hG
  go_enter Tryd.func13, Tryd.ntmps13
  go_wp2_with fail
  refine (Tryd.slices_Contains_string 0 0 3 3 [DEF, REL, PERM] s _ (by decide) (by decide) (fun j hj => by rw [Nat.zero_add]; exact HG.out.2 j hj)).mono ?_
  rintro e w1 ⟨rfl, hw⟩
  subst hw
  go_wp2
  go_ret
  exact ⟨rfl, rfl⟩

set_option maxHeartbeats 4000000 in
theorem is_any (s : ByteArray) (w : World) (hG : ResG w) : Calls Tryd.prog 9 #[.string s] w fun e w' => e = .returned (.bool (isP s)) ∧ w = w' := by
  have HG := Aside0.mk hG
  clear hG
  by_cases h0 : s.size = 0
  · have HN := Aside0.mk (isP_no s (.inl h0))
    have he := nil_of_size h0
    clear h0
    go_enter Tryd.func9, Tryd.ntmps9
    go_wp2
    go_ret
    exact ⟨by rw [HN.out]; rfl, rfl⟩
  by_cases h64 : 64 < s.size
  · have HN := Aside0.mk (isP_no s (.inr h64))
    have he := ne_of_size (s := s) (by omega)
    have d1 : ¬ ((s.size : Int) ≤ 64) := by omega
    clear h0 h64
    go_enter Tryd.func9, Tryd.ntmps9
    go_wp2
    go_ret
    exact ⟨by rw [HN.out]; rfl, rfl⟩
  have he := ne_of_size (s := s) (by omega)
  have he2 : s.toList.isEmpty = false := by cases h : s.toList with
    | nil => exact absurd h he
    | cons a l => rfl
  have h1 : (1 : Int) ≤ (s.size : Int) := by omega
  have h2 : (s.size : Int) ≤ 64 := by omega
  have HX := Aside0.mk (show (s.extract 0 1).size ≤ 1099511627776 by rw [ByteArray.size_extract]; omega)
  have HV := Aside0.mk (first_small s (by omega))
  have HP := Aside0.mk (isP_eq s (by omega) (by omega))
  have HA := Aside0.mk (all_name s)
  clear h0 h64
  go_enter Tryd.func9, Tryd.ntmps9
  go_wp2_with fail
  refine (has_any SMALL _ _ HX.out).mono ?_
  rintro e w1 ⟨rfl, rfl⟩
  rw [HV.out]
  cases hv : smallC (bt s 0) with
  | false =>
    rw [hv, Bool.false_and] at HP
    clear hv HV
    go_wp2
    go_ret
    exact ⟨by rw [HP.out]; rfl, rfl⟩
  | true =>
    rw [hv, Bool.true_and] at HP
    clear hv HV
    go_wp2_with fail
    refine (has_any INNAME _ _ (by omega)).mono ?_
    rintro e w1 ⟨rfl, rfl⟩
    rw [HA.out]
    cases hn : allC nameC s with
    | false =>
      rw [hn, Bool.false_and] at HP
      clear hn HA
      go_wp2
      go_ret
      exact ⟨by rw [HP.out]; rfl, rfl⟩
    | true =>
      rw [hn, Bool.true_and] at HP
      clear hn HA
      go_wp2_with fail
      refine (reserved_any _ _ HG.out).mono ?_
      rintro e w1 ⟨rfl, rfl⟩
      go_wp2
      go_ret
      exact ⟨by rw [HP.out]; rfl, rfl⟩

set_option maxHeartbeats 4000000 in
theorem isid_any (s : ByteArray) (w : World) : Calls Tryd.prog 11 #[.string s] w fun e w' => e = .returned (.bool (idP s)) ∧ w = w' := by
  by_cases h0 : s.size = 0
  · have HN := Aside0.mk (idP_no s (.inl h0))
    have he := nil_of_size h0
    clear h0
    go_enter Tryd.func11, Tryd.ntmps11
    go_wp2
    go_ret
    exact ⟨by rw [HN.out]; rfl, rfl⟩
  by_cases h64 : 128 < s.size
  · have HN := Aside0.mk (idP_no s (.inr h64))
    have he := ne_of_size (s := s) (by omega)
    have d1 : ¬ ((s.size : Int) ≤ 128) := by omega
    clear h0 h64
    go_enter Tryd.func11, Tryd.ntmps11
    go_wp2
    go_ret
    exact ⟨by rw [HN.out]; rfl, rfl⟩
  have he := ne_of_size (s := s) (by omega)
  have he2 : s.toList.isEmpty = false := by cases h : s.toList with
    | nil => exact absurd h he
    | cons a l => rfl
  have h1 : (1 : Int) ≤ (s.size : Int) := by omega
  have h2 : (s.size : Int) ≤ 128 := by omega
  have HP := Aside0.mk (idP_eq s (by omega) (by omega))
  have HA := Aside0.mk (all_id s)
  clear h0 h64
  go_enter Tryd.func11, Tryd.ntmps11
  go_wp2_with fail
  refine (has_any INID _ _ (by omega)).mono ?_
  rintro e w1 ⟨rfl, rfl⟩
  rw [HA.out]
  go_wp2
  go_ret
  exact ⟨by rw [HP.out]; rfl, rfl⟩

end Go.Proofs.YtpbkcfgcmknijaaDoor.HName
