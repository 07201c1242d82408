/- The package name. -/
import Derived.Test.YtikgngcdgejgjaaDoorUT
import Derived.Test.YtikgngcdgejgjaaDoorShelf
import Derived.Test.YtikgngcdgejgjaaDoorUP
namespace Go.Proofs.YtikgngcdgejgjaaDoor.HName
open Go.RowKit Go.Proofs.YtikgngcdgejgjaaDoorW.PrintWords Go.Proofs.YtikgngcdgejgjaaDoor.HLib Go.Proofs.YtikgngcdgejgjaaDoor.HNameP
set_option linter.unusedVariables false
set_option linter.unusedSimpArgs false

theorem indexbyte_any (s : ByteArray) (c : Int) (w : World) : Calls Tryd.prog 64 #[.string s, .int .u8 c] w fun e w' => e = .returned (.int .i64 (findP s c)) ∧ w = w' :=
  (Tryd.strings_IndexByte s c w).mono fun _ _ ⟨a, b⟩ => ⟨a, b.symm⟩

set_option maxHeartbeats 4000000 in
theorem has_any (set s : ByteArray) (w : World) (hs : s.size ≤ 1099511627776) : Calls Tryd.prog 60 #[.string set, .string s] w fun e w' => e = .returned (.bool (allC (memC set) s)) ∧ w = w' := by
  go_enter Tryd.func60, Tryd.ntmps60
  go_wp2
  go_loop [5, 8] (fun v5 v8 => ∃ (j : Int), v8 = .int .i64 j ∧ Aside0 (0 ≤ j ∧ j ≤ s.size ∧ ∀ i : Nat, i < j.toNat → memC set (bt s i) = true)) (fun _ v8 => s.size - (intOf v8).toNat)
  case atStart => exact ⟨0, rfl, ⟨⟨by omega, by omega, fun i hi => by omega⟩⟩⟩
  case round =>
    obtain ⟨j, rfl, HA⟩ := hrel
    have hj0 := HA.out.1
    have hjm : j ≤ 1099511627776 := by have := HA.out; omega
    by_cases c1 : j < s.size
    · have d1 : decide (j < (s.size : Int)) = true := decide_eq_true c1
      go_wp2_with fail
      rw [bt_at s j]
      refine (indexbyte_any set _ _).mono ?_
      rintro e w1 ⟨rfl, rfl⟩
      obtain ⟨V, hV⟩ : ∃ V, V = findP set (bt s j) := ⟨_, rfl⟩
      have HV := Aside0.mk hV
      rw [← hV]
      clear hV
      by_cases c2 : V < 0
      · have d2 : decide (V < 0) = true := decide_eq_true c2
        have HE := Aside0.mk (allC_false (p := memC set) (s := s) j.toNat (by omega) (by rw [show ((j.toNat : Nat) : Int) = j from by omega]; unfold memC; exact decide_eq_false (by have := HV.out; unfold findP at this; omega)))
        go_wp2
        go_ret
        exact ⟨by rw [HE.out]; rfl, rfl⟩
      · have d2 : decide (V < 0) = false := decide_eq_false c2
        go_wp2
        go_round
        case measure => simp [intOf]; omega
        case rel =>
          refine ⟨j + 1, rfl, ⟨⟨by omega, by omega, fun i hi => ?_⟩⟩⟩
          by_cases hij : i < j.toNat
          · exact HA.out.2.2 i hij
          · rw [show i = j.toNat from by omega, show ((j.toNat : Nat) : Int) = j from by omega]
            unfold memC
            exact decide_eq_true (by have := HV.out; unfold findP at this; omega)
    · have d1 : decide (j < (s.size : Int)) = false := decide_eq_false c1
      have HE := Aside0.mk (allC_true (p := memC set) (s := s) (fun i hi => HA.out.2.2 i (by omega)))
      go_wp2
      go_ret
      exact ⟨by rw [HE.out]; rfl, rfl⟩

/-- What the listed variable name.reserved holds. -/
def ResG (w : World) : Prop := 0 < w.heap.size ∧ ∀ j : Nat, j < 3 → w.cell? ⟨0, j, none⟩ = some (.string ([DEF, REL, PERM].getD j ByteArray.empty))
theorem ResG.below {w w1 : World} {n : Nat} (h : ResG w) (hb : Below n w w1) (hn : 0 < n) : ResG w1 :=
  ⟨by have := hb.size; have := h.1; omega, fun j hj => by rw [hb.cell (p := ⟨0, j, none⟩) hn]; exact h.2 j hj⟩

set_option maxHeartbeats 4000000 in
theorem reserved_any (s : ByteArray) (w : World) (hG : ResG w) : Calls Tryd.prog 61 #[.string s] w fun e w' => e = .returned (.bool (resP s)) ∧ w = w' := by
  have HG := Aside0.mk hG
  clear hG
  go_enter Tryd.func61, Tryd.ntmps61
  go_wp2_with fail
  refine (Tryd.slices_Contains_string 0 0 3 3 [DEF, REL, PERM] s _ (by decide) (by decide) (fun j hj => by rw [Nat.zero_add]; exact HG.out.2 j hj)).mono ?_
  rintro e w1 ⟨rfl, hw⟩
  subst hw
  go_wp2
  go_ret
  exact ⟨rfl, rfl⟩

set_option maxHeartbeats 4000000 in
theorem is_any (s : ByteArray) (w : World) (hG : ResG w) : Calls Tryd.prog 56 #[.string s] w fun e w' => e = .returned (.bool (isP s)) ∧ w = w' := by
  have HG := Aside0.mk hG
  clear hG
  by_cases h0 : s.size = 0
  · have HN := Aside0.mk (isP_no s (.inl h0))
    have he := nil_of_size h0
    clear h0
    go_enter Tryd.func56, Tryd.ntmps56
    go_wp2
    go_ret
    exact ⟨by rw [HN.out]; rfl, rfl⟩
  by_cases h64 : 64 < s.size
  · have HN := Aside0.mk (isP_no s (.inr h64))
    have he := ne_of_size (s := s) (by omega)
    have d1 : ¬ ((s.size : Int) ≤ 64) := by omega
    clear h0 h64
    go_enter Tryd.func56, Tryd.ntmps56
    go_wp2
    go_ret
    exact ⟨by rw [HN.out]; rfl, rfl⟩
  have he := ne_of_size (s := s) (by omega)
  have he2 : s.toList.isEmpty = false := by cases h : s.toList with
    | nil => exact absurd h he
    | cons a l => rfl
  have h1 : (1 : Int) ≤ (s.size : Int) := by omega
  have h2 : (s.size : Int) ≤ 64 := by omega
  have HX := Aside0.mk (show (s.extract 0 1).size ≤ 1099511627776 by rw [ByteArray.size_extract]; omega)
  have HV := Aside0.mk (first_small s (by omega))
  have HP := Aside0.mk (isP_eq s (by omega) (by omega))
  have HA := Aside0.mk (all_name s)
  clear h0 h64
  go_enter Tryd.func56, Tryd.ntmps56
  go_wp2_with fail
  refine (has_any SMALL _ _ HX.out).mono ?_
  rintro e w1 ⟨rfl, rfl⟩
  rw [HV.out]
  cases hv : smallC (bt s 0) with
  | false =>
    rw [hv, Bool.false_and] at HP
    clear hv HV
    go_wp2
    go_ret
    exact ⟨by rw [HP.out]; rfl, rfl⟩
  | true =>
    rw [hv, Bool.true_and] at HP
    clear hv HV
    go_wp2_with fail
    refine (has_any INNAME _ _ (by omega)).mono ?_
    rintro e w1 ⟨rfl, rfl⟩
    rw [HA.out]
    cases hn : allC nameC s with
    | false =>
      rw [hn, Bool.false_and] at HP
      clear hn HA
      go_wp2
      go_ret
      exact ⟨by rw [HP.out]; rfl, rfl⟩
    | true =>
      rw [hn, Bool.true_and] at HP
      clear hn HA
      go_wp2_with fail
      refine (reserved_any _ _ HG.out).mono ?_
      rintro e w1 ⟨rfl, rfl⟩
      go_wp2
      go_ret
      exact ⟨by rw [HP.out]; rfl, rfl⟩

end Go.Proofs.YtikgngcdgejgjaaDoor.HName
/- The reference's names: the printed functions are the plain ones. -/
namespace Go.Proofs.YtikgngcdgejgjaaDoor.HNameR
open Go.RowKit Go.Proofs.YtikgngcdgejgjaaDoorW.PrintWords Go.Proofs.YtikgngcdgejgjaaDoor.HNameP Go.Proofs.YtikgngcdgejgjaaDoor.HPr
set_option linter.unusedVariables false
set_option linter.unusedSimpArgs false

theorem small_eq (c : Int) : vestryref08_small.f c = some (smallC c) := by
  unfold vestryref08_small.f smallC
  by_cases h : c ≥ 97
  · rw [if_pos h, decide_eq_true (show 97 ≤ c from h), Bool.true_and]
  · rw [if_neg h, decide_eq_false (show ¬ 97 ≤ c from h), Bool.false_and]
theorem digit_eq (c : Int) : vestryref08_digit.f c = some (digitC c) := by
  unfold vestryref08_digit.f digitC
  by_cases h : c ≥ 48
  · rw [if_pos h, decide_eq_true (show 48 ≤ c from h), Bool.true_and]
  · rw [if_neg h, decide_eq_false (show ¬ 48 ≤ c from h), Bool.false_and]
theorem list_eq (s : ByteArray) (l : Array UInt8) : (s.toList = l.toList) ↔ s = ⟨l⟩ := by
  rw [ByteArray.toList_eq]
  constructor
  · intro h
    exact ByteArray.ext (Array.toList_inj.mp h)
  · rintro rfl
    rfl
theorem reserved_eq (s : ByteArray) : vestryref08_Reserved.f s = some (resP s) := by
  unfold vestryref08_Reserved.f
  rw [res_or]
  have e1 : s.toList = ([100, 101, 102, 105, 110, 105, 116, 105, 111, 110] : List UInt8) ↔ s = DEF := list_eq s #[100, 101, 102, 105, 110, 105, 116, 105, 111, 110]
  have e2 : s.toList = ([114, 101, 108, 97, 116, 105, 111, 110] : List UInt8) ↔ s = REL := list_eq s #[114, 101, 108, 97, 116, 105, 111, 110]
  have e3 : s.toList = ([112, 101, 114, 109, 105, 115, 115, 105, 111, 110] : List UInt8) ↔ s = PERM := list_eq s #[112, 101, 114, 109, 105, 115, 115, 105, 111, 110]
  by_cases h1 : s = DEF
  · rw [if_pos (e1.2 h1), decide_eq_true h1, Bool.true_or]
  · rw [if_neg (fun h => h1 (e1.1 h)), decide_eq_false h1, Bool.false_or]
    by_cases h2 : s = REL
    · rw [if_pos (e2.2 h2), decide_eq_true h2, Bool.true_or]
    · rw [if_neg (fun h => h2 (e2.1 h)), decide_eq_false h2, Bool.false_or]
      congr 1
      rw [Bool.eq_iff_iff, beq_iff_eq, decide_eq_true_eq]
      exact e3
/-- A loop over the bytes from j on. -/
def allFrom (p : Int → Bool) (s : ByteArray) (j : Nat) : Bool := (List.range (s.size - j)).all fun (i : Nat) => p (bt s ((j + i : Nat) : Int))
theorem allFrom_zero (p : Int → Bool) (s : ByteArray) : allFrom p s 0 = allC p s := by simp [allFrom, allC]
theorem allFrom_done (p : Int → Bool) (s : ByteArray) (j : Nat) (h : s.size ≤ j) : allFrom p s j = true := by
  unfold allFrom
  rw [show s.size - j = 0 from by omega]
  rfl
theorem allFrom_step (p : Int → Bool) (s : ByteArray) (j : Nat) (h : j < s.size) : allFrom p s j = (p (bt s j) && allFrom p s (j + 1)) := by
  unfold allFrom
  rw [show s.size - j = (s.size - (j + 1)) + 1 from by omega, List.range_succ_eq_map, List.all_cons, List.all_map]
  congr 2
  funext i
  simp only [Function.comp]
  rw [show j + Nat.succ i = j + 1 + i from by omega]
theorem is_l0 (s : ByteArray) (hs : s.size ≤ 1099511627776) : ∀ (d j k : Nat), s.size - j = d → d < k → j ≤ s.size → vestryref08_Is.l0 k s j = some (allFrom nameC s j) := by
  intro d
  induction d with
  | zero =>
    intro j k h hk hj
    obtain ⟨k, rfl⟩ : ∃ q, k = q + 1 := ⟨k - 1, by omega⟩
    rw [vestryref08_Is.l0, if_neg (by omega), allFrom_done _ _ _ (by omega)]
  | succ d ih =>
    intro j k h hk hj
    obtain ⟨k, rfl⟩ : ∃ q, k = q + 1 := ⟨k - 1, by omega⟩
    have e : wrap64 ((j : Int) + 1) = ((j + 1 : Nat) : Int) := by rw [IntWalk.wrap64_in _ (by omega)]; omega
    rw [vestryref08_Is.l0, if_pos (by omega), if_pos (by omega), small_eq, Option.bind_some, digit_eq, Option.bind_some, e, ih (j + 1) k (by omega) (by omega) (by omega), allFrom_step nameC s j (by omega)]
    unfold nameC
    cases smallC (bt s j) <;> cases digitC (bt s j) <;> by_cases h95 : bt s j = 95 <;> simp [h95]
theorem is_eq (s : ByteArray) (k : Nat) (hk : 70 ≤ k) : vestryref08_Is.f k s = some (isP s) := by
  unfold vestryref08_Is.f
  obtain ⟨k, rfl⟩ : ∃ q, k = q + 1 := ⟨k - 1, by omega⟩
  by_cases h1 : s.size = 0
  · rw [if_pos (by omega), vestryref08_Is.j0, if_pos rfl, isP_no s (.inl h1)]
  rw [if_neg (by omega)]
  by_cases h2 : 64 < s.size
  · rw [if_pos (by omega), vestryref08_Is.j0, if_pos rfl, isP_no s (.inr h2)]
  rw [if_neg (by omega), if_pos (by omega), small_eq, Option.bind_some, reserved_eq, Option.bind_some, vestryref08_Is.j0, vestryref08_Is.j0, isP_eq s (by omega) (by omega)]
  have hl := is_l0 s (by omega) s.size 0 k (by omega) (by omega) (by omega)
  rw [allFrom_zero] at hl
  rw [show vestryref08_Is.l0 k s 0 = _ from hl]
  cases smallC (bt s 0) <;> cases resP s <;> cases allC nameC s <;> rfl
def ecode : Option (Int × Int) → Int
  | none => 0
  | some (n, _) => n
def eat : Option (Int × Int) → Int
  | none => 0
  | some (_, m) => m
theorem told_self (e : Option (Int × Int)) (h : ∀ n m, e = some (n, m) → n ≠ 0) : toldP e (ecode e) (eat e) = true := by
  cases e with
  | none => rfl
  | some p => obtain ⟨n, m⟩ := p; simp [toldP, ecode, eat, h n m rfl]
theorem ext_size (s : ByteArray) (a b : Nat) : (s.extract a b).size ≤ s.size := by rw [ByteArray.size_extract]; omega
theorem parseO_code (s : ByteArray) (n m : Int) (h : (parseO s).2.2 = some (n, m)) : n ≠ 0 := by
  unfold parseO at h
  split at h
  · cases h; decide
  · split at h
    · cases h; decide
    · split at h
      · cases h; decide
      · cases h
theorem parseA_code (s : ByteArray) (n m : Int) (h : (parseA s).2.2 = some (n, m)) : n ≠ 0 := by
  unfold parseA at h
  split at h
  · cases h; decide
  · split at h
    · cases h; decide
    · cases h
theorem list_at (a : ByteArray) (j : Nat) (h : j < a.size) : a.toList.drop j = UInt8.ofNat (bt a j).toNat :: a.toList.drop (j + 1) := by
  have hl : a.toList.length = a.size := by rw [ByteArray.toList_eq, Array.length_toList]; rfl
  rw [List.drop_eq_getElem_cons (by omega)]
  congr 1
  rw [← bt_at a j h]
  have e : a.toList[j]'(by omega) = a[j] := by
    have h2 := ByteArray.toList_eq (bs := a)
    simp only [h2]
    rfl
  rw [e]
  apply UInt8.toNat_inj.1
  rw [UInt8.toNat_ofNat']
  have := (a[j]).toNat_lt
  simp only [Int.toNat_natCast]
  omega
theorem ofNat_lt (x y : Int) (hx : 0 ≤ x ∧ x ≤ 255) (hy : 0 ≤ y ∧ y ≤ 255) : (UInt8.ofNat x.toNat < UInt8.ofNat y.toNat) ↔ x < y := by
  rw [UInt8.lt_iff_toNat_lt, UInt8.toNat_ofNat', UInt8.toNat_ofNat']
  omega
theorem order_l0 (a b : ByteArray) (hs : a.size ≤ 1099511627776 ∧ b.size ≤ 1099511627776) : ∀ (d j k : Nat), a.size - j = d → 2 * d < k → j ≤ a.size → j ≤ b.size → vestryref08_Order.l0 (k + 1) a b j = some (HCmp.cmpL (a.toList.drop j) (b.toList.drop j)) := by
  have hla : a.toList.length = a.size := by rw [ByteArray.toList_eq, Array.length_toList]; rfl
  have hlb : b.toList.length = b.size := by rw [ByteArray.toList_eq, Array.length_toList]; rfl
  intro d
  induction d with
  | zero =>
    intro j k h hk hj hb
    obtain ⟨k, rfl⟩ : ∃ q, k = q + 1 := ⟨k - 1, by omega⟩
    rw [vestryref08_Order.l0, if_neg (by omega), vestryref08_Order.j1, if_neg (by simp), List.drop_of_length_le (by omega)]
    by_cases h1 : a.size < b.size
    · rw [if_pos (by omega), list_at b j (by omega)]
      rfl
    · rw [if_neg (by omega), if_neg (by omega), List.drop_of_length_le (by omega)]
      rfl
  | succ d ih =>
    intro j k h hk hj hb
    obtain ⟨k, rfl⟩ : ∃ q, k = q + 2 := ⟨k - 2, by omega⟩
    rw [vestryref08_Order.l0, if_pos (by omega), vestryref08_Order.j1]
    by_cases h1 : j < b.size
    · rw [if_pos (decide_eq_true (by omega)), if_pos (by omega), if_pos (by omega), if_pos (by omega), list_at a j (by omega), list_at b j h1, HCmp.cmpL]
      have e : wrap64 ((j : Int) + 1) = ((j + 1 : Nat) : Int) := by rw [IntWalk.wrap64_in _ (by omega)]; omega
      have l1 := ofNat_lt _ _ (bt_range a j) (bt_range b j)
      have l2 := ofNat_lt _ _ (bt_range b j) (bt_range a j)
      rw [e, ih (j + 1) k (by omega) (by omega) (by omega) (by omega)]
      by_cases c1 : bt a j < bt b j
      · rw [if_pos c1, if_pos (l1.2 c1)]
      · rw [if_neg c1, if_neg (fun h => c1 (l1.1 h))]
        by_cases c2 : bt b j < bt a j
        · rw [if_pos c2, if_pos (l2.2 c2)]
        · rw [if_neg c2, if_neg (fun h => c2 (l2.1 h))]
    · rw [if_neg (by rw [decide_eq_false (by omega)]; simp), if_neg (by omega), if_pos (by omega), list_at a j (by omega), List.drop_of_length_le (l := b.toList) (by omega)]
      rfl
theorem order_eq (a b : ByteArray) (hs : a.size ≤ 1099511627776 ∧ b.size ≤ 1099511627776) (k : Nat) (hk : 2 * a.size + 1 < k) : vestryref08_Order.f k a b = some (HCmp.cmpS a b) := by
  unfold vestryref08_Order.f HCmp.cmpS
  obtain ⟨k, rfl⟩ : ∃ q, k = q + 1 := ⟨k - 1, by omega⟩
  have := order_l0 a b hs a.size 0 k (by omega) (by omega) (by omega) (by omega)
  simpa using this
end Go.Proofs.YtikgngcdgejgjaaDoor.HNameR
