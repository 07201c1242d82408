/- The package name. -/
import Derived.Test.YtlbbhgmpiednfaaGreatDoorUT
import Derived.Test.YtlbbhgmpiednfaaGreatDoorUE
import Derived.Test.YtlbbhgmpiednfaaGreatDoorShelf
namespace Go.Proofs.YtlbbhgmpiednfaaGreatDoor.HName
open Go.RowKit Go.Proofs.YtlbbhgmpiednfaaGreatDoorW.PrintWords Go.Proofs.YtlbbhgmpiednfaaGreatDoor.HLib Go.Proofs.YtlbbhgmpiednfaaGreatDoor.HNameP
open Go.Proofs.YtlbbhgmpiednfaaGreatDoor.HErr
set_option linter.unusedVariables false
set_option linter.unusedSimpArgs false

theorem indexbyte_any (s : ByteArray) (c : Int) (w : World) : Calls Tryz.prog 85 #[.string s, .int .u8 c] w fun e w' => e = .returned (.int .i64 (findP s c)) ∧ w = w' :=
  (Tryz.strings_IndexByte s c w).mono fun _ _ ⟨a, b⟩ => ⟨a, b.symm⟩

set_option maxHeartbeats 4000000 in
theorem has_any (set s : ByteArray) (w : World) (hs : s.size ≤ 1099511627776) : Calls Tryz.prog 74 #[.string set, .string s] w fun e w' => e = .returned (.bool (allC (memC set) s)) ∧ w = w' := by
  go_enter Tryz.func74, Tryz.ntmps74
  go_wp2
  go_loop [5, 8] (fun v5 v8 => ∃ (j : Int), v8 = .int .i64 j ∧ Aside0 (0 ≤ j ∧ j ≤ s.size ∧ ∀ i : Nat, i < j.toNat → memC set (bt s i) = true)) (fun _ v8 => s.size - (intOf v8).toNat)
  case atStart => exact ⟨0, rfl, ⟨⟨by omega, by omega, fun i hi => by omega⟩⟩⟩
  case round =>
    obtain ⟨j, rfl, HA⟩ := hrel
    have hj0 := HA.out.1
    have hjm : j ≤ 1099511627776 := by have := HA.out; omega
    by_cases c1 : j < s.size
    · have d1 : decide (j < (s.size : Int)) = true := decide_eq_true c1
      go_wp2_with fail
      rw [bt_at s j]
      refine (indexbyte_any set _ _).mono ?_
      rintro e w1 ⟨rfl, rfl⟩
      obtain ⟨V, hV⟩ : ∃ V, V = findP set (bt s j) := ⟨_, rfl⟩
      have HV := Aside0.mk hV
      rw [← hV]
      clear hV
      by_cases c2 : V < 0
      · have d2 : decide (V < 0) = true := decide_eq_true c2
        have HE := Aside0.mk (allC_false (p := memC set) (s := s) j.toNat (by omega) (by rw [show ((j.toNat : Nat) : Int) = j from by omega]; unfold memC; exact decide_eq_false (by have := HV.out; unfold findP at this; omega)))
        go_wp2
        go_ret
        exact ⟨by rw [HE.out]; rfl, rfl⟩
      · have d2 : decide (V < 0) = false := decide_eq_false c2
        go_wp2
        go_round
        case measure => simp [intOf]; omega
        case rel =>
          refine ⟨j + 1, rfl, ⟨⟨by omega, by omega, fun i hi => ?_⟩⟩⟩
          by_cases hij : i < j.toNat
          · exact HA.out.2.2 i hij
          · rw [show i = j.toNat from by omega, show ((j.toNat : Nat) : Int) = j from by omega]
            unfold memC
            exact decide_eq_true (by have := HV.out; unfold findP at this; omega)
    · have d1 : decide (j < (s.size : Int)) = false := decide_eq_false c1
      have HE := Aside0.mk (allC_true (p := memC set) (s := s) (fun i hi => HA.out.2.2 i (by omega)))
      go_wp2
      go_ret
      exact ⟨by rw [HE.out]; rfl, rfl⟩

/-- What the listed variable name.reserved holds. -/
def ResG (w : World) : Prop := 0 < w.heap.size ∧ ∀ j : Nat, j < 3 → w.cell? ⟨0, j, none⟩ = some (.string ([DEF, REL, PERM].getD j ByteArray.empty))
theorem ResG.below {w w1 : World} {n : Nat} (h : ResG w) (hb : Below n w w1) (hn : 0 < n) : ResG w1 :=
  ⟨by have := hb.size; have := h.1; omega, fun j hj => by rw [hb.cell (p := ⟨0, j, none⟩) hn]; exact h.2 j hj⟩

set_option maxHeartbeats 4000000 in
theorem reserved_any (s : ByteArray) (w : World) (hG : ResG w) : Calls Tryz.prog 75 #[.string s] w fun e w' => e = .returned (.bool (resP s)) ∧ w = w' := by
  have HG := Aside0.mk hG
  clear hG
  go_enter Tryz.func75, Tryz.ntmps75
  go_wp2_with fail
  refine (Tryz.slices_Contains_string 0 0 3 3 [DEF, REL, PERM] s _ (by decide) (by decide) (fun j hj => by rw [Nat.zero_add]; exact HG.out.2 j hj)).mono ?_
  rintro e w1 ⟨rfl, hw⟩
  subst hw
  go_wp2
  go_ret
  exact ⟨rfl, rfl⟩

set_option maxHeartbeats 4000000 in
theorem is_any (s : ByteArray) (w : World) (hG : ResG w) : Calls Tryz.prog 49 #[.string s] w fun e w' => e = .returned (.bool (isP s)) ∧ w = w' := by
  have HG := Aside0.mk hG
  clear hG
  by_cases h0 : s.size = 0
  · have HN := Aside0.mk (isP_no s (.inl h0))
    have he := nil_of_size h0
    clear h0
    go_enter Tryz.func49, Tryz.ntmps49
    go_wp2
    go_ret
    exact ⟨by rw [HN.out]; rfl, rfl⟩
  by_cases h64 : 64 < s.size
  · have HN := Aside0.mk (isP_no s (.inr h64))
    have he := ne_of_size (s := s) (by omega)
    have d1 : ¬ ((s.size : Int) ≤ 64) := by omega
    clear h0 h64
    go_enter Tryz.func49, Tryz.ntmps49
    go_wp2
    go_ret
    exact ⟨by rw [HN.out]; rfl, rfl⟩
  have he := ne_of_size (s := s) (by omega)
  have he2 : s.toList.isEmpty = false := by cases h : s.toList with
    | nil => exact absurd h he
    | cons a l => rfl
  have h1 : (1 : Int) ≤ (s.size : Int) := by omega
  have h2 : (s.size : Int) ≤ 64 := by omega
  have HX := Aside0.mk (show (s.extract 0 1).size ≤ 1099511627776 by rw [ByteArray.size_extract]; omega)
  have HV := Aside0.mk (first_small s (by omega))
  have HP := Aside0.mk (isP_eq s (by omega) (by omega))
  have HA := Aside0.mk (all_name s)
  clear h0 h64
  go_enter Tryz.func49, Tryz.ntmps49
  go_wp2_with fail
  refine (has_any SMALL _ _ HX.out).mono ?_
  rintro e w1 ⟨rfl, rfl⟩
  rw [HV.out]
  cases hv : smallC (bt s 0) with
  | false =>
    rw [hv, Bool.false_and] at HP
    clear hv HV
    go_wp2
    go_ret
    exact ⟨by rw [HP.out]; rfl, rfl⟩
  | true =>
    rw [hv, Bool.true_and] at HP
    clear hv HV
    go_wp2_with fail
    refine (has_any INNAME _ _ (by omega)).mono ?_
    rintro e w1 ⟨rfl, rfl⟩
    rw [HA.out]
    cases hn : allC nameC s with
    | false =>
      rw [hn, Bool.false_and] at HP
      clear hn HA
      go_wp2
      go_ret
      exact ⟨by rw [HP.out]; rfl, rfl⟩
    | true =>
      rw [hn, Bool.true_and] at HP
      clear hn HA
      go_wp2_with fail
      refine (reserved_any _ _ HG.out).mono ?_
      rintro e w1 ⟨rfl, rfl⟩
      go_wp2
      go_ret
      exact ⟨by rw [HP.out]; rfl, rfl⟩

set_option maxHeartbeats 4000000 in
theorem isid_any (s : ByteArray) (w : World) : Calls Tryz.prog 68 #[.string s] w fun e w' => e = .returned (.bool (idP s)) ∧ w = w' := by
  by_cases h0 : s.size = 0
  · have HN := Aside0.mk (idP_no s (.inl h0))
    have he := nil_of_size h0
    clear h0
    go_enter Tryz.func68, Tryz.ntmps68
    go_wp2
    go_ret
    exact ⟨by rw [HN.out]; rfl, rfl⟩
  by_cases h64 : 128 < s.size
  · have HN := Aside0.mk (idP_no s (.inr h64))
    have he := ne_of_size (s := s) (by omega)
    have d1 : ¬ ((s.size : Int) ≤ 128) := by omega
    clear h0 h64
    go_enter Tryz.func68, Tryz.ntmps68
    go_wp2
    go_ret
    exact ⟨by rw [HN.out]; rfl, rfl⟩
  have he := ne_of_size (s := s) (by omega)
  have he2 : s.toList.isEmpty = false := by cases h : s.toList with
    | nil => exact absurd h he
    | cons a l => rfl
  have h1 : (1 : Int) ≤ (s.size : Int) := by omega
  have h2 : (s.size : Int) ≤ 128 := by omega
  have HP := Aside0.mk (idP_eq s (by omega) (by omega))
  have HA := Aside0.mk (all_id s)
  clear h0 h64
  go_enter Tryz.func68, Tryz.ntmps68
  go_wp2_with fail
  refine (has_any INID _ _ (by omega)).mono ?_
  rintro e w1 ⟨rfl, rfl⟩
  rw [HA.out]
  go_wp2
  go_ret
  exact ⟨by rw [HP.out]; rfl, rfl⟩
end Go.Proofs.YtlbbhgmpiednfaaGreatDoor.HName
/- The package name: objects and allowed types. -/
namespace Go.Proofs.YtlbbhgmpiednfaaGreatDoor.HName
open Go.RowKit Go.Proofs.YtlbbhgmpiednfaaGreatDoorW.PrintWords Go.Proofs.YtlbbhgmpiednfaaGreatDoor.HLib Go.Proofs.YtlbbhgmpiednfaaGreatDoor.HNameP Go.Proofs.YtlbbhgmpiednfaaGreatDoor.HErr
set_option linter.unusedVariables false
set_option linter.unusedSimpArgs false

def errV : Option (Int × Int) → Value
  | none => .nilIface
  | some (n, m) => .iface 108 (.agg #[.int .i64 n, .int .i64 m])

theorem index_any (s : ByteArray) (c : UInt8) (k : Int) (hk : k.toNat.toUInt8 = c) (w : World) : Calls Tryz.prog 73 #[.string s, .string ⟨#[c]⟩] w fun e w' => e = .returned (.int .i64 (findP s k)) ∧ w = w' := by
  subst hk
  exact (Tryz.strings_Index_one s _ w).mono fun _ _ ⟨a, b⟩ => ⟨a, b.symm⟩

set_option maxHeartbeats 4000000 in
theorem parseobject_any (s : ByteArray) (w : World) (hs : s.size ≤ 1099511627776) (hG : ResG w) : Calls Tryz.prog 48 #[.string s] w fun e w' => e = .returned (.tuple #[.agg #[.string (parseO s).1, .string (parseO s).2.1], errV (parseO s).2.2]) ∧ Below w.heap.size w w' := by
  have HG := Aside0.mk hG
  have hc : (0 : Int) ≤ 58 ∧ (58 : Int) ≤ 255 := by decide
  have hge := find_ge s 58
  have hlt := find_lt (s := s) hc
  clear hG hc
  obtain ⟨F, hF⟩ : ∃ F, F = findP s 58 := ⟨_, rfl⟩
  have HF := Aside0.mk hF
  have HGA : Aside0 (ResG (w.alloc (.cells #[.string ⟨#[]⟩, .string ⟨#[]⟩] 30))) := ⟨HG.out.below (below_alloc (B0 w) _) HG.out.1⟩
  rw [← hF] at hge hlt
  by_cases h1 : F = -1
  · have HR := Aside0.mk (show parseO s = (⟨#[]⟩, ⟨#[]⟩, some (5, 0)) from by unfold parseO; rw [if_pos (by rw [← hF]; exact h1)])
    have hb1 : (F == -1) = true := by simpa using h1
    clear hF h1
    go_enter Tryz.func48, Tryz.ntmps48
    go_wp2_with fail
    refine (index_any s 58 58 rfl _).mono ?_
    rintro e w1 ⟨rfl, rfl⟩
    rw [← HF.out]
    go_wp2_with fail
    refine (new_any _ _ _).mono ?_
    rintro e w1 ⟨rfl, rfl⟩
    go_wp2
    refine bodyPost_ret (v := .tuple #[.agg #[.string (parseO s).1, .string (parseO s).2.1], errV (parseO s).2.2]) (by rw [HR.out]; simp [results, Tryz.results48, go_sem, errV]) rfl ⟨rfl, below_alloc (B0 w) _⟩
  · have hb1 : (F == -1) = false := by simpa using h1
    have hF0 : 0 ≤ F := by omega
    have hF1 : F ≤ (s.size : Int) := by omega
    have hF2 : F ≤ 1099511627776 := by omega
    have hF3 : 0 ≤ F + 1 := by omega
    have hF4 : F + 1 ≤ (s.size : Int) := by omega
    obtain ⟨t, ht⟩ : ∃ t, t = s.extract 0 F.toNat := ⟨_, rfl⟩
    obtain ⟨d, hd⟩ : ∃ t, t = s.extract (F + 1).toNat s.size := ⟨_, rfl⟩
    have HT := Aside0.mk ht
    have HD := Aside0.mk hd
    cases h2 : isP t with
    | false =>
      have HR := Aside0.mk (show parseO s = (⟨#[]⟩, ⟨#[]⟩, some (5, 0)) from by unfold parseO; rw [← hF, if_neg h1, ← ht, if_pos h2])
      have H2 := Aside0.mk h2
      clear hF h1 h2 ht hd
      go_enter Tryz.func48, Tryz.ntmps48
      go_wp2_with fail
      refine (index_any s 58 58 rfl _).mono ?_
      rintro e w1 ⟨rfl, rfl⟩
      rw [← HF.out]
      go_wp2_with fail
      rw [← HT.out]
      refine (is_any _ _ HGA.out).mono ?_
      rintro e w1 ⟨rfl, rfl⟩
      rw [H2.out]
      go_wp2_with fail
      refine (new_any _ _ _).mono ?_
      rintro e w1 ⟨rfl, rfl⟩
      go_wp2
      refine bodyPost_ret (v := .tuple #[.agg #[.string (parseO s).1, .string (parseO s).2.1], errV (parseO s).2.2]) (by rw [HR.out]; simp [results, Tryz.results48, go_sem, errV]) rfl ⟨rfl, below_alloc (B0 w) _⟩
    | true =>
      cases h3 : idP d with
      | false =>
        have HR := Aside0.mk (show parseO s = (⟨#[]⟩, ⟨#[]⟩, some (5, F + 1)) from by unfold parseO; rw [← hF, if_neg h1, ← ht, if_neg (by rw [h2]; simp), ← hd, if_pos h3])
        have H2 := Aside0.mk h2
        have H3 := Aside0.mk h3
        clear hF h1 h2 h3 ht hd
        go_enter Tryz.func48, Tryz.ntmps48
        go_wp2_with fail
        refine (index_any s 58 58 rfl _).mono ?_
        rintro e w1 ⟨rfl, rfl⟩
        rw [← HF.out]
        go_wp2_with fail
        rw [← HT.out]
        refine (is_any _ _ HGA.out).mono ?_
        rintro e w1 ⟨rfl, rfl⟩
        rw [H2.out]
        go_wp2_with fail
        rw [← HD.out]
        refine (isid_any _ _).mono ?_
        rintro e w1 ⟨rfl, rfl⟩
        rw [H3.out]
        go_wp2_with fail
        refine (new_any _ _ _).mono ?_
        rintro e w1 ⟨rfl, rfl⟩
        go_wp2
        refine bodyPost_ret (v := .tuple #[.agg #[.string (parseO s).1, .string (parseO s).2.1], errV (parseO s).2.2]) (by rw [HR.out]; simp [results, Tryz.results48, go_sem, errV]) rfl ⟨rfl, below_alloc (B0 w) _⟩
      | true =>
        have HR := Aside0.mk (show parseO s = (t, d, none) from by unfold parseO; rw [← hF, if_neg h1, ← ht, if_neg (by rw [h2]; simp), ← hd, if_neg (by rw [h3]; simp)])
        have H2 := Aside0.mk h2
        have H3 := Aside0.mk h3
        clear hF h1 h2 h3 ht hd
        go_enter Tryz.func48, Tryz.ntmps48
        go_wp2_with fail
        refine (index_any s 58 58 rfl _).mono ?_
        rintro e w1 ⟨rfl, rfl⟩
        rw [← HF.out]
        go_wp2_with fail
        rw [← HT.out]
        refine (is_any _ _ HGA.out).mono ?_
        rintro e w1 ⟨rfl, rfl⟩
        rw [H2.out]
        go_wp2_with fail
        rw [← HD.out]
        refine (isid_any _ _).mono ?_
        rintro e w1 ⟨rfl, rfl⟩
        rw [H3.out]
        go_wp2
        go_region
        go_wp2
        rw [← HT.out, ← HD.out]
        refine bodyPost_ret (v := .tuple #[.agg #[.string (parseO s).1, .string (parseO s).2.1], errV (parseO s).2.2]) (by rw [HR.out]; simp [results, Tryz.results48, go_sem, errV]) rfl ⟨rfl, below_drew1 (below_alloc (B0 w) _)⟩

end Go.Proofs.YtlbbhgmpiednfaaGreatDoor.HName
/- The package name: allowed types; told. -/
namespace Go.Proofs.YtlbbhgmpiednfaaGreatDoor.HName
open Go.RowKit Go.Proofs.YtlbbhgmpiednfaaGreatDoorW.PrintWords Go.Proofs.YtlbbhgmpiednfaaGreatDoor.HLib Go.Proofs.YtlbbhgmpiednfaaGreatDoor.HNameP Go.Proofs.YtlbbhgmpiednfaaGreatDoor.HErr
set_option linter.unusedVariables false
set_option linter.unusedSimpArgs false

theorem two_cells {w1 : World} {g : Nat} {x y : Value} (a b : Value) (h0 : w1.cell? ⟨g, 0, none⟩ = some x) (h1 : w1.cell? ⟨g, 1, none⟩ = some y) :
    ((w1.setCell ⟨g, 0, none⟩ a).setCell ⟨g, 1, none⟩ b).cell? ⟨g, 0, none⟩ = some a ∧ ((w1.setCell ⟨g, 0, none⟩ a).setCell ⟨g, 1, none⟩ b).cell? ⟨g, 1, none⟩ = some b := by
  refine ⟨?_, ?_⟩
  · rw [World.cell?_setCell_other (h := by intro h; cases h)]
    exact World.cell?_setCell_same _ _ _ h0
  · refine World.cell?_setCell_same _ _ _ (u := y) ?_
    rw [World.cell?_setCell_other (h := by intro h; cases h)]
    exact h1

set_option maxHeartbeats 4000000 in
theorem cutlite_any (s : ByteArray) (c : UInt8) (k : Int) (hk : k.toNat.toUInt8 = c) (hk0 : 0 ≤ k ∧ k ≤ 255) (w : World) (hs : s.size ≤ 1099511627776) : Calls Tryz.prog 72 #[.string s, .string ⟨#[c]⟩] w fun e w' => e = .returned (.tuple #[.string (cutP s k).1, .string (cutP s k).2.1, .bool (cutP s k).2.2]) ∧ Below w.heap.size w w' := by
  have hge := find_ge s k
  have hlt := find_lt (s := s) hk0
  obtain ⟨F, hF⟩ : ∃ F, F = findP s k := ⟨_, rfl⟩
  have HF := Aside0.mk (show Lib.indexByte s.data.toList c = F from by rw [hF, ← hk]; rfl)
  rw [← hF] at hge hlt
  by_cases h1 : F = -1
  · have HR := Aside0.mk (show cutP s k = (s, ⟨#[]⟩, false) from by unfold cutP; rw [if_pos (by rw [← hF]; exact h1)])
    have hb1 : decide (0 ≤ F) = false := decide_eq_false (by omega)
    clear hF h1 hk hk0
    go_enter Tryz.func72, Tryz.ntmps72
    go_wp2_with fail
    refine (Tryz.stringslite_Index_one s c _).mono ?_
    rintro e w1 ⟨rfl, hw⟩
    subst hw
    rw [HF.out]
    go_wp2
    go_ret3
    rw [HR.out]
    exact ⟨rfl, B0 _⟩
  · have hF0 : 0 ≤ F := by omega
    have hF1 : F ≤ (s.size : Int) := by omega
    have hF2 : F ≤ 1099511627776 := by omega
    have hF3 : 0 ≤ F + 1 := by omega
    have hF4 : F + 1 ≤ (s.size : Int) := by omega
    have HR := Aside0.mk (show cutP s k = (s.extract 0 F.toNat, s.extract (F + 1).toNat s.size, true) from by unfold cutP; rw [← hF, if_neg h1])
    clear hF h1 hk hk0
    go_enter Tryz.func72, Tryz.ntmps72
    go_wp2_with fail
    refine (Tryz.stringslite_Index_one s c _).mono ?_
    rintro e w1 ⟨rfl, hw⟩
    subst hw
    rw [HF.out]
    go_wp2
    go_region
    go_wp2
    go_ret3
    rw [HR.out]
    exact ⟨rfl, below_drew1 (B0 _)⟩

set_option maxHeartbeats 4000000 in
theorem cut_any (s : ByteArray) (c : UInt8) (k : Int) (hk : k.toNat.toUInt8 = c) (hk0 : 0 ≤ k ∧ k ≤ 255) (w : World) (hs : s.size ≤ 1099511627776) : Calls Tryz.prog 46 #[.string s, .string ⟨#[c]⟩] w fun e w' => e = .returned (.tuple #[.string (cutP s k).1, .string (cutP s k).2.1, .bool (cutP s k).2.2]) ∧ Below w.heap.size w w' := by
  have HK := Aside0.mk (And.intro hk hk0)
  clear hk hk0
  go_enter Tryz.func46, Tryz.ntmps46
  go_wp2_with fail
  refine (cutlite_any s c k HK.out.1 HK.out.2 _ hs).mono ?_
  rintro e w1 ⟨rfl, hb⟩
  have HB := Aside0.mk hb
  clear hb
  go_wp2
  go_ret3
  exact ⟨rfl, HB.out⟩

end Go.Proofs.YtlbbhgmpiednfaaGreatDoor.HName
/- The reference's names: the printed functions are the plain ones. -/
namespace Go.Proofs.YtlbbhgmpiednfaaGreatDoor.HNameR
open Go.RowKit Go.Proofs.YtlbbhgmpiednfaaGreatDoorW.PrintWords Go.Proofs.YtlbbhgmpiednfaaGreatDoor.HNameP Go.Proofs.YtlbbhgmpiednfaaGreatDoor.HPr
set_option linter.unusedVariables false
set_option linter.unusedSimpArgs false

theorem small_eq (c : Int) : vestryref08_small.f c = some (smallC c) := by
  unfold vestryref08_small.f smallC
  by_cases h : c ≥ 97
  · rw [if_pos h, decide_eq_true (show 97 ≤ c from h), Bool.true_and]
  · rw [if_neg h, decide_eq_false (show ¬ 97 ≤ c from h), Bool.false_and]
theorem digit_eq (c : Int) : vestryref08_digit.f c = some (digitC c) := by
  unfold vestryref08_digit.f digitC
  by_cases h : c ≥ 48
  · rw [if_pos h, decide_eq_true (show 48 ≤ c from h), Bool.true_and]
  · rw [if_neg h, decide_eq_false (show ¬ 48 ≤ c from h), Bool.false_and]
theorem list_eq (s : ByteArray) (l : Array UInt8) : (s.toList = l.toList) ↔ s = ⟨l⟩ := by
  rw [ByteArray.toList_eq]
  constructor
  · intro h
    exact ByteArray.ext (Array.toList_inj.mp h)
  · rintro rfl
    rfl
theorem reserved_eq (s : ByteArray) : vestryref08_Reserved.f s = some (resP s) := by
  unfold vestryref08_Reserved.f
  rw [res_or]
  have e1 : s.toList = ([100, 101, 102, 105, 110, 105, 116, 105, 111, 110] : List UInt8) ↔ s = DEF := list_eq s #[100, 101, 102, 105, 110, 105, 116, 105, 111, 110]
  have e2 : s.toList = ([114, 101, 108, 97, 116, 105, 111, 110] : List UInt8) ↔ s = REL := list_eq s #[114, 101, 108, 97, 116, 105, 111, 110]
  have e3 : s.toList = ([112, 101, 114, 109, 105, 115, 115, 105, 111, 110] : List UInt8) ↔ s = PERM := list_eq s #[112, 101, 114, 109, 105, 115, 115, 105, 111, 110]
  by_cases h1 : s = DEF
  · rw [if_pos (e1.2 h1), decide_eq_true h1, Bool.true_or]
  · rw [if_neg (fun h => h1 (e1.1 h)), decide_eq_false h1, Bool.false_or]
    by_cases h2 : s = REL
    · rw [if_pos (e2.2 h2), decide_eq_true h2, Bool.true_or]
    · rw [if_neg (fun h => h2 (e2.1 h)), decide_eq_false h2, Bool.false_or]
      congr 1
      rw [Bool.eq_iff_iff, beq_iff_eq, decide_eq_true_eq]
      exact e3
/-- A loop over the bytes from j on. -/
def allFrom (p : Int → Bool) (s : ByteArray) (j : Nat) : Bool := (List.range (s.size - j)).all fun (i : Nat) => p (bt s ((j + i : Nat) : Int))
theorem allFrom_zero (p : Int → Bool) (s : ByteArray) : allFrom p s 0 = allC p s := by simp [allFrom, allC]
theorem allFrom_done (p : Int → Bool) (s : ByteArray) (j : Nat) (h : s.size ≤ j) : allFrom p s j = true := by
  unfold allFrom
  rw [show s.size - j = 0 from by omega]
  rfl
theorem allFrom_step (p : Int → Bool) (s : ByteArray) (j : Nat) (h : j < s.size) : allFrom p s j = (p (bt s j) && allFrom p s (j + 1)) := by
  unfold allFrom
  rw [show s.size - j = (s.size - (j + 1)) + 1 from by omega, List.range_succ_eq_map, List.all_cons, List.all_map]
  congr 2
  funext i
  simp only [Function.comp]
  rw [show j + Nat.succ i = j + 1 + i from by omega]
theorem is_l0 (s : ByteArray) (hs : s.size ≤ 1099511627776) : ∀ (d j k : Nat), s.size - j = d → d < k → j ≤ s.size → vestryref08_Is.l0 k s j = some (allFrom nameC s j) := by
  intro d
  induction d with
  | zero =>
    intro j k h hk hj
    obtain ⟨k, rfl⟩ : ∃ q, k = q + 1 := ⟨k - 1, by omega⟩
    rw [vestryref08_Is.l0, if_neg (by omega), allFrom_done _ _ _ (by omega)]
  | succ d ih =>
    intro j k h hk hj
    obtain ⟨k, rfl⟩ : ∃ q, k = q + 1 := ⟨k - 1, by omega⟩
    have e : wrap64 ((j : Int) + 1) = ((j + 1 : Nat) : Int) := by rw [IntWalk.wrap64_in _ (by omega)]; omega
    rw [vestryref08_Is.l0, if_pos (by omega), if_pos (by omega), small_eq, Option.bind_some, digit_eq, Option.bind_some, e, ih (j + 1) k (by omega) (by omega) (by omega), allFrom_step nameC s j (by omega)]
    unfold nameC
    cases smallC (bt s j) <;> cases digitC (bt s j) <;> by_cases h95 : bt s j = 95 <;> simp [h95]
theorem is_eq (s : ByteArray) (k : Nat) (hk : 70 ≤ k) : vestryref08_Is.f k s = some (isP s) := by
  unfold vestryref08_Is.f
  obtain ⟨k, rfl⟩ : ∃ q, k = q + 1 := ⟨k - 1, by omega⟩
  by_cases h1 : s.size = 0
  · rw [if_pos (by omega), vestryref08_Is.j0, if_pos rfl, isP_no s (.inl h1)]
  rw [if_neg (by omega)]
  by_cases h2 : 64 < s.size
  · rw [if_pos (by omega), vestryref08_Is.j0, if_pos rfl, isP_no s (.inr h2)]
  rw [if_neg (by omega), if_pos (by omega), small_eq, Option.bind_some, reserved_eq, Option.bind_some, vestryref08_Is.j0, vestryref08_Is.j0, isP_eq s (by omega) (by omega)]
  have hl := is_l0 s (by omega) s.size 0 k (by omega) (by omega) (by omega)
  rw [allFrom_zero] at hl
  rw [show vestryref08_Is.l0 k s 0 = _ from hl]
  cases smallC (bt s 0) <;> cases resP s <;> cases allC nameC s <;> rfl
theorem isid_l0 (s : ByteArray) (hs : s.size ≤ 1099511627776) : ∀ (d j k : Nat), s.size - j = d → d < k → j ≤ s.size → vestryref08_IsID.l0 k s j = some (allFrom idC s j && (decide (1 ≤ s.size) && decide (s.size ≤ 128))) := by
  intro d
  induction d with
  | zero =>
    intro j k h hk hj
    obtain ⟨k, rfl⟩ : ∃ q, k = q + 1 := ⟨k - 1, by omega⟩
    rw [vestryref08_IsID.l0, if_neg (by omega), allFrom_done _ _ _ (by omega), Bool.true_and]
    by_cases h1 : 1 ≤ s.size
    · rw [if_pos (by omega), decide_eq_true h1, Bool.true_and]
      congr 1
      rw [Bool.eq_iff_iff]
      simp
      omega
    · rw [if_neg (by omega), decide_eq_false h1, Bool.false_and]
  | succ d ih =>
    intro j k h hk hj
    obtain ⟨k, rfl⟩ : ∃ q, k = q + 1 := ⟨k - 1, by omega⟩
    have e : wrap64 ((j : Int) + 1) = ((j + 1 : Nat) : Int) := by rw [IntWalk.wrap64_in _ (by omega)]; omega
    rw [vestryref08_IsID.l0, if_pos (by omega), if_pos (by omega), small_eq, Option.bind_some, digit_eq, Option.bind_some, e, ih (j + 1) k (by omega) (by omega) (by omega), allFrom_step idC s j (by omega)]
    generalize hX : (some (allFrom idC s (j + 1) && (decide (1 ≤ s.size) && decide (s.size ≤ 128))) : Option Bool) = X
    rw [show some (idC (bt s j) && allFrom idC s (j + 1) && (decide (1 ≤ s.size) && decide (s.size ≤ 128))) = (if idC (bt s j) = true then X else some false) from by rw [← hX]; cases idC (bt s j) <;> rfl]
    unfold idC nameC
    generalize bt s j = c
    cases smallC c <;> cases digitC c <;> by_cases h1 : 65 ≤ c <;> by_cases h2 : c ≤ 90 <;> by_cases h95 : c = 95 <;> by_cases h45 : c = 45 <;> by_cases h46 : c = 46 <;> by_cases h47 : c = 47 <;> by_cases h61 : c = 61 <;> simp [h1, h2, h95, h45, h46, h47, h61]
theorem isid_eq (s : ByteArray) (k : Nat) (hs : s.size ≤ 1099511627776) (hk : s.size < k) : vestryref08_IsID.f k s = some (idP s) := by
  unfold vestryref08_IsID.f
  have hl := isid_l0 s hs s.size 0 k (by omega) (by omega) (by omega)
  rw [allFrom_zero] at hl
  rw [show vestryref08_IsID.l0 k s 0 = _ from hl]
  unfold idP
  rw [Bool.and_comm, Bool.and_assoc]
theorem find_l0 (s : ByteArray) (c : Int) (hc : 0 ≤ c ∧ c ≤ 255) (hs : s.size ≤ 1099511627776) : ∀ (d j k : Nat), s.size - j = d → d < k → j ≤ s.size → (∀ i : Nat, i < j → bt s i ≠ c) → vestryref08_Find.l0 k s c j = some (findP s c) := by
  intro d
  induction d with
  | zero =>
    intro j k h hk hj hb
    obtain ⟨k, rfl⟩ : ∃ q, k = q + 1 := ⟨k - 1, by omega⟩
    rw [vestryref08_Find.l0, if_neg (by omega), find_miss hc (fun i hi => hb i (by omega))]
  | succ d ih =>
    intro j k h hk hj hb
    obtain ⟨k, rfl⟩ : ∃ q, k = q + 1 := ⟨k - 1, by omega⟩
    have e : wrap64 ((j : Int) + 1) = ((j + 1 : Nat) : Int) := by rw [IntWalk.wrap64_in _ (by omega)]; omega
    rw [vestryref08_Find.l0, if_pos (by omega), if_pos (by omega), e]
    by_cases he : bt s j = c
    · rw [if_pos he, find_hit j (by omega) hc he hb]
    · rw [if_neg he]
      refine ih (j + 1) k (by omega) (by omega) (by omega) (fun i hi => ?_)
      by_cases hij : i = j
      · rw [hij]; exact he
      · exact hb i (by omega)
theorem find_eq (s : ByteArray) (c : Int) (k : Nat) (hc : 0 ≤ c ∧ c ≤ 255) (hs : s.size ≤ 1099511627776) (hk : s.size < k) : vestryref08_Find.f k s c = some (findP s c) :=
  find_l0 s c hc hs s.size 0 k (by omega) hk (by omega) (fun i hi => absurd hi (by omega))
def ecode : Option (Int × Int) → Int
  | none => 0
  | some (n, _) => n
def eat : Option (Int × Int) → Int
  | none => 0
  | some (_, m) => m
theorem told_self (e : Option (Int × Int)) (h : ∀ n m, e = some (n, m) → n ≠ 0) : toldP e (ecode e) (eat e) = true := by
  cases e with
  | none => rfl
  | some p => obtain ⟨n, m⟩ := p; simp [toldP, ecode, eat, h n m rfl]
theorem ext_size (s : ByteArray) (a b : Nat) : (s.extract a b).size ≤ s.size := by rw [ByteArray.size_extract]; omega
theorem parseO_code (s : ByteArray) (n m : Int) (h : (parseO s).2.2 = some (n, m)) : n ≠ 0 := by
  unfold parseO at h
  split at h
  · cases h; decide
  · split at h
    · cases h; decide
    · split at h
      · cases h; decide
      · cases h
theorem parseA_code (s : ByteArray) (n m : Int) (h : (parseA s).2.2 = some (n, m)) : n ≠ 0 := by
  unfold parseA at h
  split at h
  · cases h; decide
  · split at h
    · cases h; decide
    · cases h
theorem parseO_eq (s : ByteArray) (hs : s.size ≤ 1099511627776) : vestryref08_ParseObject.f (s.size + 100) s = some ((parseO s).1, (parseO s).2.1, ecode (parseO s).2.2, eat (parseO s).2.2) := by
  unfold vestryref08_ParseObject.f
  rw [find_eq s 58 _ (by decide) hs (by omega), Option.bind_some]
  have hge := find_ge s 58
  have hlt := find_lt (s := s) (c := 58) (by decide)
  unfold parseO
  obtain ⟨F, hF⟩ : ∃ F, F = findP s 58 := ⟨_, rfl⟩
  rw [← hF] at hge hlt ⊢
  obtain ⟨k, hk⟩ : ∃ k, s.size + 100 = k + 1 := ⟨s.size + 99, rfl⟩
  by_cases h1 : F = -1
  · rw [if_pos (by omega), if_pos h1, hk, vestryref08_ParseObject.j0, if_pos rfl]
    rfl
  · have e : wrap64 (F + 1) = F + 1 := IntWalk.wrap64_in _ (by omega)
    rw [if_neg (by omega), if_neg h1, if_pos (by omega), if_pos (by omega), is_eq _ _ (by omega), Option.bind_some]
    have f1 : 0 ≤ F + 1 := by omega
    have f2 : F + 1 ≤ (s.size : Int) := by omega
    have f3 : 0 ≤ F := by omega
    have f4 : F ≤ (s.size : Int) := by omega
    have hz := ext_size s (F + 1).toNat s.size
    rw [hk, vestryref08_ParseObject.j0, e, isid_eq _ _ (by omega) (by omega)]
    clear hk hF e hge hlt
    cases h2 : isP (s.extract 0 F.toNat) <;> cases h3 : idP (s.extract (F + 1).toNat s.size) <;> simp [f1, f2, f3, f4, ecode, eat]
theorem list_at (a : ByteArray) (j : Nat) (h : j < a.size) : a.toList.drop j = UInt8.ofNat (bt a j).toNat :: a.toList.drop (j + 1) := by
  have hl : a.toList.length = a.size := by rw [ByteArray.toList_eq, Array.length_toList]; rfl
  rw [List.drop_eq_getElem_cons (by omega)]
  congr 1
  rw [← bt_at a j h]
  have e : a.toList[j]'(by omega) = a[j] := by
    have h2 := ByteArray.toList_eq (bs := a)
    simp only [h2]
    rfl
  rw [e]
  apply UInt8.toNat_inj.1
  rw [UInt8.toNat_ofNat']
  have := (a[j]).toNat_lt
  simp only [Int.toNat_natCast]
  omega
theorem ofNat_lt (x y : Int) (hx : 0 ≤ x ∧ x ≤ 255) (hy : 0 ≤ y ∧ y ≤ 255) : (UInt8.ofNat x.toNat < UInt8.ofNat y.toNat) ↔ x < y := by
  rw [UInt8.lt_iff_toNat_lt, UInt8.toNat_ofNat', UInt8.toNat_ofNat']
  omega
theorem order_l0 (a b : ByteArray) (hs : a.size ≤ 1099511627776 ∧ b.size ≤ 1099511627776) : ∀ (d j k : Nat), a.size - j = d → 2 * d < k → j ≤ a.size → j ≤ b.size → vestryref08_Order.l0 (k + 1) a b j = some (HCmp.cmpL (a.toList.drop j) (b.toList.drop j)) := by
  have hla : a.toList.length = a.size := by rw [ByteArray.toList_eq, Array.length_toList]; rfl
  have hlb : b.toList.length = b.size := by rw [ByteArray.toList_eq, Array.length_toList]; rfl
  intro d
  induction d with
  | zero =>
    intro j k h hk hj hb
    obtain ⟨k, rfl⟩ : ∃ q, k = q + 1 := ⟨k - 1, by omega⟩
    rw [vestryref08_Order.l0, if_neg (by omega), vestryref08_Order.j1, if_neg (by simp), List.drop_of_length_le (by omega)]
    by_cases h1 : a.size < b.size
    · rw [if_pos (by omega), list_at b j (by omega)]
      rfl
    · rw [if_neg (by omega), if_neg (by omega), List.drop_of_length_le (by omega)]
      rfl
  | succ d ih =>
    intro j k h hk hj hb
    obtain ⟨k, rfl⟩ : ∃ q, k = q + 2 := ⟨k - 2, by omega⟩
    rw [vestryref08_Order.l0, if_pos (by omega), vestryref08_Order.j1]
    by_cases h1 : j < b.size
    · rw [if_pos (decide_eq_true (by omega)), if_pos (by omega), if_pos (by omega), if_pos (by omega), list_at a j (by omega), list_at b j h1, HCmp.cmpL]
      have e : wrap64 ((j : Int) + 1) = ((j + 1 : Nat) : Int) := by rw [IntWalk.wrap64_in _ (by omega)]; omega
      have l1 := ofNat_lt _ _ (bt_range a j) (bt_range b j)
      have l2 := ofNat_lt _ _ (bt_range b j) (bt_range a j)
      rw [e, ih (j + 1) k (by omega) (by omega) (by omega) (by omega)]
      by_cases c1 : bt a j < bt b j
      · rw [if_pos c1, if_pos (l1.2 c1)]
      · rw [if_neg c1, if_neg (fun h => c1 (l1.1 h))]
        by_cases c2 : bt b j < bt a j
        · rw [if_pos c2, if_pos (l2.2 c2)]
        · rw [if_neg c2, if_neg (fun h => c2 (l2.1 h))]
    · rw [if_neg (by rw [decide_eq_false (by omega)]; simp), if_neg (by omega), if_pos (by omega), list_at a j (by omega), List.drop_of_length_le (l := b.toList) (by omega)]
      rfl
theorem order_eq (a b : ByteArray) (hs : a.size ≤ 1099511627776 ∧ b.size ≤ 1099511627776) (k : Nat) (hk : 2 * a.size + 1 < k) : vestryref08_Order.f k a b = some (HCmp.cmpS a b) := by
  unfold vestryref08_Order.f HCmp.cmpS
  obtain ⟨k, rfl⟩ : ∃ q, k = q + 1 := ⟨k - 1, by omega⟩
  have := order_l0 a b hs a.size 0 k (by omega) (by omega) (by omega) (by omega)
  simpa using this
end Go.Proofs.YtlbbhgmpiednfaaGreatDoor.HNameR
/- The package name: the texts of objects and of allowed types; the reference's. -/
namespace Go.Proofs.YtlbbhgmpiednfaaGreatDoor.HName
open Go.RowKit Go.Proofs.YtlbbhgmpiednfaaGreatDoorW.PrintWords Go.Proofs.YtlbbhgmpiednfaaGreatDoor.HLib Go.Proofs.YtlbbhgmpiednfaaGreatDoor.HNameP Go.Proofs.YtlbbhgmpiednfaaGreatDoor.HErr Go.Proofs.YtlbbhgmpiednfaaGreatDoor.HNameR Go.Proofs.YtlbbhgmpiednfaaGreatDoor.HPr
set_option linter.unusedVariables false
set_option linter.unusedSimpArgs false

theorem refis_any (s : ByteArray) (w : World) : Calls Tryz.prog 40 #[.string s] w fun e w' => e = .returned (.bool (isP s)) ∧ Drawn0 w w' :=
  vestryref08_Is.calls 70 s _ w (is_eq s 70 (by omega))
theorem refisid_any (s : ByteArray) (w : World) (hs : s.size ≤ 1099511627776) : Calls Tryz.prog 60 #[.string s] w fun e w' => e = .returned (.bool (idP s)) ∧ Drawn0 w w' :=
  vestryref08_IsID.calls (s.size + 1) s _ w (isid_eq s _ hs (by omega))
theorem reffind_any (s : ByteArray) (c : Int) (w : World) (hc : 0 ≤ c ∧ c ≤ 255) (hs : s.size ≤ 1099511627776) : Calls Tryz.prog 53 #[.string s, .int .u8 c] w fun e w' => e = .returned (.int .i64 (findP s c)) ∧ Drawn0 w w' :=
  vestryref08_Find.calls (s.size + 1) s c _ w (find_eq s c _ hc hs (by omega))
theorem refres_any (s : ByteArray) (w : World) : Calls Tryz.prog 66 #[.string s] w fun e w' => e = .returned (.bool (resP s)) ∧ Drawn0 w w' :=
  vestryref08_Reserved.calls s _ w (reserved_eq s)

def objP (t d : ByteArray) : Bool := isP t && idP d
def objS (t d : ByteArray) : ByteArray := if objP t d then t ++ ⟨#[58]⟩ ++ d else ⟨#[]⟩
def allP (t r : ByteArray) : Bool := isP t && (decide (r.size = 0) || isP r)
def allT (t r : ByteArray) : ByteArray := if r.size = 0 then t else t ++ ⟨#[35]⟩ ++ r
def allS (t r : ByteArray) : ByteArray := if allP t r then allT t r else ⟨#[]⟩

theorem isP_size {s : ByteArray} (h : isP s = true) : 1 ≤ s.size ∧ s.size ≤ 64 := by
  simp only [isP, Bool.and_eq_true, decide_eq_true_eq] at h
  exact ⟨h.1, h.2.1⟩
theorem idP_size {s : ByteArray} (h : idP s = true) : 1 ≤ s.size ∧ s.size ≤ 128 := by
  simp only [idP, Bool.and_eq_true, decide_eq_true_eq] at h
  exact ⟨h.1, h.2.1⟩

set_option maxHeartbeats 4000000 in
theorem object_any (t d : ByteArray) (w : World) (hG : ResG w) : Calls Tryz.prog 41 #[.agg #[.string t, .string d]] w fun e w' => e = .returned (.tuple #[.string (objS t d), .bool (objP t d)]) ∧ Below w.heap.size w w' := by
  have HGA : Aside0 (ResG (w.alloc (.cells #[.string t, .string d] 30))) := ⟨hG.below (below_alloc (B0 w) _) hG.1⟩
  clear hG
  cases h1 : isP t with
  | false =>
    have HP := Aside0.mk (show objP t d = false from by unfold objP; rw [h1, Bool.false_and])
    have H1 := Aside0.mk h1
    clear h1
    go_enter Tryz.func41, Tryz.ntmps41
    go_wp2_with fail
    refine (is_any _ _ HGA.out).mono ?_
    rintro e w1 ⟨rfl, rfl⟩
    rw [H1.out]
    go_wp2
    go_ret2
    unfold objS
    rw [HP.out]
    exact ⟨rfl, below_alloc (B0 w) _⟩
  | true =>
    cases h2 : idP d with
    | false =>
      have HP := Aside0.mk (show objP t d = false from by unfold objP; rw [h1, h2, Bool.and_false])
      have H1 := Aside0.mk h1
      have H2 := Aside0.mk h2
      clear h1 h2
      go_enter Tryz.func41, Tryz.ntmps41
      go_wp2_with fail
      refine (is_any _ _ HGA.out).mono ?_
      rintro e w1 ⟨rfl, rfl⟩
      rw [H1.out]
      go_wp2_with fail
      refine (isid_any _ _).mono ?_
      rintro e w1 ⟨rfl, rfl⟩
      rw [H2.out]
      go_wp2
      go_ret2
      unfold objS
      rw [HP.out]
      exact ⟨rfl, below_alloc (B0 w) _⟩
    | true =>
      have HP := Aside0.mk (show objP t d = true from by unfold objP; rw [h1, h2, Bool.and_true])
      have H1 := Aside0.mk h1
      have H2 := Aside0.mk h2
      have hs1 := isP_size h1
      have hs2 := idP_size h2
      have z1 : t.size + 1 ≤ 9223372036854775807 := by omega
      have z2 : (t ++ (⟨#[58]⟩ : ByteArray)).size + d.size ≤ 9223372036854775807 := by rw [ByteArray.size_append]; simp only [ByteArray.size]; have e1 : t.size = t.data.size := rfl; have e2 : d.size = d.data.size := rfl; simp; omega
      clear h1 h2 hs1 hs2
      go_enter Tryz.func41, Tryz.ntmps41
      go_wp2_with fail
      refine (is_any _ _ HGA.out).mono ?_
      rintro e w1 ⟨rfl, rfl⟩
      rw [H1.out]
      go_wp2_with fail
      refine (isid_any _ _).mono ?_
      rintro e w1 ⟨rfl, rfl⟩
      rw [H2.out]
      go_wp2
      go_ret2
      unfold objS
      rw [HP.out]
      exact ⟨rfl, below_alloc (B0 w) _⟩

end Go.Proofs.YtlbbhgmpiednfaaGreatDoor.HName
/- Names, plain: texts of objects and of allowed types lead back. -/
namespace Go.Proofs.YtlbbhgmpiednfaaGreatDoor.HNameJ
open Go.RowKit Go.Proofs.YtlbbhgmpiednfaaGreatDoorW.PrintWords Go.Proofs.YtlbbhgmpiednfaaGreatDoor.HNameP Go.Proofs.YtlbbhgmpiednfaaGreatDoor.HNameR Go.Proofs.YtlbbhgmpiednfaaGreatDoor.HName
set_option linter.unusedVariables false

theorem bt_left (a b : ByteArray) (i : Nat) (h : i < a.size) : bt (a ++ b) i = bt a i := by
  rw [← bt_at (a ++ b) i (by simp [ByteArray.size_append]; omega), ← bt_at a i (by simpa using h)]
  congr 2
  simp only [Int.toNat_natCast]
  exact ByteArray.getElem_append_left h
theorem bt_right (a b : ByteArray) (i : Nat) (h : i < b.size) : bt (a ++ b) ((a.size + i : Nat) : Int) = bt b i := by
  rw [← bt_at (a ++ b) ((a.size + i : Nat) : Int) (by simp [ByteArray.size_append]; omega), ← bt_at b i (by simpa using h)]
  congr 2
  simp only [Int.toNat_natCast]
  rw [ByteArray.getElem_append_right (by omega)]
  simp
theorem ext_left (a b : ByteArray) : (a ++ b).extract 0 a.size = a := by
  rw [ByteArray.extract_append]
  simp
theorem ext_right (a b : ByteArray) : (a ++ b).extract a.size (a ++ b).size = b := by
  rw [ByteArray.extract_append, ByteArray.size_append, ByteArray.extract_eq_empty_iff.2 (by omega)]
  simp
theorem find_append (t b : ByteArray) (c : Int) (hc : 0 ≤ c ∧ c ≤ 255) (ht : ∀ i : Nat, i < t.size → bt t i ≠ c) (hb : 0 < b.size) (h0 : bt b 0 = c) : findP (t ++ b) c = t.size := by
  refine find_hit t.size (by rw [ByteArray.size_append]; omega) hc ?_ (fun i hi => ?_)
  · have := bt_right t b 0 hb
    rw [Nat.add_zero] at this
    rw [this]
    exact h0
  · rw [bt_left t b i hi]
    exact ht i hi
theorem name_no (t : ByteArray) (c : Int) (hn : nameC c = false) (h : isP t = true) (i : Nat) (hi : i < t.size) : bt t i ≠ c := by
  intro e
  simp only [isP, Bool.and_eq_true] at h
  have := List.all_eq_true.1 h.2.2.2.1 i (List.mem_range.2 hi)
  rw [e, hn] at this
  cases this
theorem join_size (t d : ByteArray) (c : UInt8) : (t ++ ⟨#[c]⟩ ++ d).size = t.size + 1 + d.size := by
  rw [ByteArray.size_append, ByteArray.size_append]
  rfl
theorem join_find (t d : ByteArray) (c : UInt8) (ht : ∀ i : Nat, i < t.size → bt t i ≠ (c.toNat : Int)) : findP (t ++ ⟨#[c]⟩ ++ d) c.toNat = t.size := by
  rw [ByteArray.append_assoc]
  have hc := c.toNat_lt
  refine find_append t _ _ (by omega) ht (by rw [ByteArray.size_append]; have : (⟨#[c]⟩ : ByteArray).size = 1 := rfl; omega) ?_
  have := bt_left ⟨#[c]⟩ d 0 (by show 0 < 1; decide)
  rw [show ((0 : Nat) : Int) = 0 from rfl] at this
  rw [this]
  rfl
theorem join_left (t d : ByteArray) (c : UInt8) : (t ++ ⟨#[c]⟩ ++ d).extract 0 t.size = t := by
  rw [ByteArray.append_assoc]
  exact ext_left _ _
theorem join_right (t d : ByteArray) (c : UInt8) : (t ++ ⟨#[c]⟩ ++ d).extract (t.size + 1) (t ++ ⟨#[c]⟩ ++ d).size = d := by
  have := ext_right (t ++ ⟨#[c]⟩) d
  rw [show (t ++ (⟨#[c]⟩ : ByteArray)).size = t.size + 1 from by rw [ByteArray.size_append]; rfl] at this
  exact this
theorem parseO_join (t d : ByteArray) (h1 : isP t = true) (h2 : idP d = true) : parseO (t ++ ⟨#[58]⟩ ++ d) = (t, d, none) := by
  have hf : findP (t ++ ⟨#[58]⟩ ++ d) 58 = t.size := join_find t d 58 (name_no t 58 (by decide) h1)
  unfold parseO
  rw [hf, if_neg (by omega), show ((t.size : Nat) : Int).toNat = t.size from by omega, show ((t.size : Int) + 1).toNat = t.size + 1 from by omega, join_left, join_right, if_neg (by rw [h1]; simp), if_neg (by rw [h2]; simp)]
theorem parseA_join (t d : ByteArray) (h1 : isP t = true) (h2 : isP d = true) : parseA (t ++ ⟨#[35]⟩ ++ d) = (t, d, none) := by
  have hf : findP (t ++ ⟨#[35]⟩ ++ d) 35 = t.size := join_find t d 35 (name_no t 35 (by decide) h1)
  have hc : cutP (t ++ ⟨#[35]⟩ ++ d) 35 = (t, d, true) := by
    unfold cutP
    rw [hf, if_neg (show ¬ ((t.size : Nat) : Int) = -1 by omega), show ((t.size : Nat) : Int).toNat = t.size from by omega, show ((t.size : Int) + 1).toNat = t.size + 1 from by omega, join_left, join_right]
  unfold parseA
  rw [hc, if_neg (by rw [h1]; simp), if_neg (by rw [h2]; simp)]
theorem parseA_one (t : ByteArray) (h1 : isP t = true) : parseA t = (t, ⟨#[]⟩, none) := by
  have hf : findP t 35 = -1 := find_miss (by decide) (name_no t 35 (by decide) h1)
  unfold parseA cutP
  rw [hf, if_pos rfl, if_neg (by rw [h1]; simp), if_neg (by simp)]
theorem empty_of_size {d : ByteArray} (h : d.size = 0) : d = ⟨#[]⟩ := ByteArray.ext (Array.eq_empty_of_size_eq_zero h)
end Go.Proofs.YtlbbhgmpiednfaaGreatDoor.HNameJ
