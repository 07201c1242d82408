/- The reference's names: the printed functions are the plain ones. -/
import Derived.Test.YtpbkcfgcmknijaaDoorHNameP
import Derived.Test.YtpbkcfgcmknijaaDoorHPr
import Derived.Test.YtpbkcfgcmknijaaDoorHCmp
namespace Go.Proofs.YtpbkcfgcmknijaaDoor.HNameR
open Go.RowKit Go.Proofs.YtpbkcfgcmknijaaDoorW.PrintWords Go.Proofs.YtpbkcfgcmknijaaDoor.HNameP Go.Proofs.YtpbkcfgcmknijaaDoor.HPr
set_option linter.unusedVariables false
set_option linter.unusedSimpArgs false

theorem small_eq (c : Int) : vestryref08_small.f c = some (smallC c) := by
  unfold vestryref08_small.f smallC
  by_cases h : c ≥ 97
  · rw [if_pos h, decide_eq_true (show 97 ≤ c from h), Bool.true_and]
  · rw [if_neg h, decide_eq_false (show ¬ 97 ≤ c from h), Bool.false_and]
theorem digit_eq (c : Int) : vestryref08_digit.f c = some (digitC c) := by
  unfold vestryref08_digit.f digitC
  by_cases h : c ≥ 48
  · rw [if_pos h, decide_eq_true (show 48 ≤ c from h), Bool.true_and]
  · rw [if_neg h, decide_eq_false (show ¬ 48 ≤ c from h), Bool.false_and]
theorem list_eq (s : ByteArray) (l : Array UInt8) : (s.toList = l.toList) ↔ s = ⟨l⟩ := by
  rw [ByteArray.toList_eq]
  constructor
  · intro h
    exact ByteArray.ext (Array.toList_inj.mp h)
  · rintro rfl
    rfl
theorem reserved_eq (s : ByteArray) : vestryref08_Reserved.f s = some (resP s) := by
  unfold vestryref08_Reserved.f
  rw [res_or]
  have e1 : s.toList = ([100, 101, 102, 105, 110, 105, 116, 105, 111, 110] : List UInt8) ↔ s = DEF := list_eq s #[100, 101, 102, 105, 110, 105, 116, 105, 111, 110]
  have e2 : s.toList = ([114, 101, 108, 97, 116, 105, 111, 110] : List UInt8) ↔ s = REL := list_eq s #[114, 101, 108, 97, 116, 105, 111, 110]
  have e3 : s.toList = ([112, 101, 114, 109, 105, 115, 115, 105, 111, 110] : List UInt8) ↔ s = PERM := list_eq s #[112, 101, 114, 109, 105, 115, 115, 105, 111, 110]
  by_cases h1 : s = DEF
  · rw [if_pos (e1.2 h1), decide_eq_true h1, Bool.true_or]
  · rw [if_neg (fun h => h1 (e1.1 h)), decide_eq_false h1, Bool.false_or]
    by_cases h2 : s = REL
    · rw [if_pos (e2.2 h2), decide_eq_true h2, Bool.true_or]
    · rw [if_neg (fun h => h2 (e2.1 h)), decide_eq_false h2, Bool.false_or]
      congr 1
      rw [Bool.eq_iff_iff, beq_iff_eq, decide_eq_true_eq]
      exact e3
/-- A loop over the bytes from j on. -/
def allFrom (p : Int → Bool) (s : ByteArray) (j : Nat) : Bool := (List.range (s.size - j)).all fun (i : Nat) => p (bt s ((j + i : Nat) : Int))
theorem allFrom_zero (p : Int → Bool) (s : ByteArray) : allFrom p s 0 = allC p s := by simp [allFrom, allC]
theorem allFrom_done (p : Int → Bool) (s : ByteArray) (j : Nat) (h : s.size ≤ j) : allFrom p s j = true := by
  unfold allFrom
  rw [show s.size - j = 0 from by omega]
  rfl
theorem allFrom_step (p : Int → Bool) (s : ByteArray) (j : Nat) (h : j < s.size) : allFrom p s j = (p (bt s j) && allFrom p s (j + 1)) := by
  unfold allFrom
  rw [show s.size - j = (s.size - (j + 1)) + 1 from by omega, List.range_succ_eq_map, List.all_cons, List.all_map]
  congr 2
  funext i
  simp only [Function.comp]
  rw [show j + Nat.succ i = j + 1 + i from by omega]
theorem is_l0 (s : ByteArray) (hs : s.size ≤ 1099511627776) : ∀ (d j k : Nat), s.size - j = d → d < k → j ≤ s.size → vestryref08_Is.l0 k s j = some (allFrom nameC s j) := by
  intro d
  induction d with
  | zero =>
    intro j k h hk hj
    obtain ⟨k, rfl⟩ : ∃ q, k = q + 1 := ⟨k - 1, by omega⟩
    rw [vestryref08_Is.l0, if_neg (by omega), allFrom_done _ _ _ (by omega)]
  | succ d ih =>
    intro j k h hk hj
    obtain ⟨k, rfl⟩ : ∃ q, k = q + 1 := ⟨k - 1, by omega⟩
    have e : wrap64 ((j : Int) + 1) = ((j + 1 : Nat) : Int) := by rw [IntWalk.wrap64_in _ (by omega)]; omega
    rw [vestryref08_Is.l0, if_pos (by omega), if_pos (by omega), small_eq, Option.bind_some, digit_eq, Option.bind_some, e, ih (j + 1) k (by omega) (by omega) (by omega), allFrom_step nameC s j (by omega)]
    unfold nameC
    cases smallC (bt s j) <;> cases digitC (bt s j) <;> by_cases h95 : bt s j = 95 <;> simp [h95]
theorem is_eq (s : ByteArray) (k : Nat) (hk : 70 ≤ k) : vestryref08_Is.f k s = some (isP s) := by
  unfold vestryref08_Is.f
  obtain ⟨k, rfl⟩ : ∃ q, k = q + 1 := ⟨k - 1, by omega⟩
  by_cases h1 : s.size = 0
  · rw [if_pos (by omega), vestryref08_Is.j0, if_pos rfl, isP_no s (.inl h1)]
  rw [if_neg (by omega)]
  by_cases h2 : 64 < s.size
  · rw [if_pos (by omega), vestryref08_Is.j0, if_pos rfl, isP_no s (.inr h2)]
  rw [if_neg (by omega), if_pos (by omega), small_eq, Option.bind_some, reserved_eq, Option.bind_some, vestryref08_Is.j0, vestryref08_Is.j0, isP_eq s (by omega) (by omega)]
  have hl := is_l0 s (by omega) s.size 0 k (by omega) (by omega) (by omega)
  rw [allFrom_zero] at hl
  rw [show vestryref08_Is.l0 k s 0 = _ from hl]
  cases smallC (bt s 0) <;> cases resP s <;> cases allC nameC s <;> rfl
theorem isid_l0 (s : ByteArray) (hs : s.size ≤ 1099511627776) : ∀ (d j k : Nat), s.size - j = d → d < k → j ≤ s.size → vestryref08_IsID.l0 k s j = some (allFrom idC s j && (decide (1 ≤ s.size) && decide (s.size ≤ 128))) := by
  intro d
  induction d with
  | zero =>
    intro j k h hk hj
    obtain ⟨k, rfl⟩ : ∃ q, k = q + 1 := ⟨k - 1, by omega⟩
    rw [vestryref08_IsID.l0, if_neg (by omega), allFrom_done _ _ _ (by omega), Bool.true_and]
    by_cases h1 : 1 ≤ s.size
    · rw [if_pos (by omega), decide_eq_true h1, Bool.true_and]
      congr 1
      rw [Bool.eq_iff_iff]
      simp
      omega
    · rw [if_neg (by omega), decide_eq_false h1, Bool.false_and]
  | succ d ih =>
    intro j k h hk hj
    obtain ⟨k, rfl⟩ : ∃ q, k = q + 1 := ⟨k - 1, by omega⟩
    have e : wrap64 ((j : Int) + 1) = ((j + 1 : Nat) : Int) := by rw [IntWalk.wrap64_in _ (by omega)]; omega
    rw [vestryref08_IsID.l0, if_pos (by omega), if_pos (by omega), small_eq, Option.bind_some, digit_eq, Option.bind_some, e, ih (j + 1) k (by omega) (by omega) (by omega), allFrom_step idC s j (by omega)]
    generalize hX : (some (allFrom idC s (j + 1) && (decide (1 ≤ s.size) && decide (s.size ≤ 128))) : Option Bool) = X
    rw [show some (idC (bt s j) && allFrom idC s (j + 1) && (decide (1 ≤ s.size) && decide (s.size ≤ 128))) = (if idC (bt s j) = true then X else some false) from by rw [← hX]; cases idC (bt s j) <;> rfl]
    unfold idC nameC
    generalize bt s j = c
    cases smallC c <;> cases digitC c <;> by_cases h1 : 65 ≤ c <;> by_cases h2 : c ≤ 90 <;> by_cases h95 : c = 95 <;> by_cases h45 : c = 45 <;> by_cases h46 : c = 46 <;> by_cases h47 : c = 47 <;> by_cases h61 : c = 61 <;> simp [h1, h2, h95, h45, h46, h47, h61]
theorem isid_eq (s : ByteArray) (k : Nat) (hs : s.size ≤ 1099511627776) (hk : s.size < k) : vestryref08_IsID.f k s = some (idP s) := by
  unfold vestryref08_IsID.f
  have hl := isid_l0 s hs s.size 0 k (by omega) (by omega) (by omega)
  rw [allFrom_zero] at hl
  rw [show vestryref08_IsID.l0 k s 0 = _ from hl]
  unfold idP
  rw [Bool.and_comm, Bool.and_assoc]
theorem find_l0 (s : ByteArray) (c : Int) (hc : 0 ≤ c ∧ c ≤ 255) (hs : s.size ≤ 1099511627776) : ∀ (d j k : Nat), s.size - j = d → d < k → j ≤ s.size → (∀ i : Nat, i < j → bt s i ≠ c) → vestryref08_Find.l0 k s c j = some (findP s c) := by
  intro d
  induction d with
  | zero =>
    intro j k h hk hj hb
    obtain ⟨k, rfl⟩ : ∃ q, k = q + 1 := ⟨k - 1, by omega⟩
    rw [vestryref08_Find.l0, if_neg (by omega), find_miss hc (fun i hi => hb i (by omega))]
  | succ d ih =>
    intro j k h hk hj hb
    obtain ⟨k, rfl⟩ : ∃ q, k = q + 1 := ⟨k - 1, by omega⟩
    have e : wrap64 ((j : Int) + 1) = ((j + 1 : Nat) : Int) := by rw [IntWalk.wrap64_in _ (by omega)]; omega
    rw [vestryref08_Find.l0, if_pos (by omega), if_pos (by omega), e]
    by_cases he : bt s j = c
    · rw [if_pos he, find_hit j (by omega) hc he hb]
    · rw [if_neg he]
      refine ih (j + 1) k (by omega) (by omega) (by omega) (fun i hi => ?_)
      by_cases hij : i = j
      · rw [hij]; exact he
      · exact hb i (by omega)
theorem find_eq (s : ByteArray) (c : Int) (k : Nat) (hc : 0 ≤ c ∧ c ≤ 255) (hs : s.size ≤ 1099511627776) (hk : s.size < k) : vestryref08_Find.f k s c = some (findP s c) :=
  find_l0 s c hc hs s.size 0 k (by omega) hk (by omega) (fun i hi => absurd hi (by omega))

def ecode : Option (Int × Int) → Int
  | none => 0
  | some (n, _) => n
def eat : Option (Int × Int) → Int
  | none => 0
  | some (_, m) => m
theorem told_self (e : Option (Int × Int)) (h : ∀ n m, e = some (n, m) → n ≠ 0) : toldP e (ecode e) (eat e) = true := by
  cases e with
  | none => rfl
  | some p => obtain ⟨n, m⟩ := p; simp [toldP, ecode, eat, h n m rfl]
theorem ext_size (s : ByteArray) (a b : Nat) : (s.extract a b).size ≤ s.size := by rw [ByteArray.size_extract]; omega
theorem parseO_code (s : ByteArray) (n m : Int) (h : (parseO s).2.2 = some (n, m)) : n ≠ 0 := by
  unfold parseO at h
  split at h
  · cases h; decide
  · split at h
    · cases h; decide
    · split at h
      · cases h; decide
      · cases h
theorem parseA_code (s : ByteArray) (n m : Int) (h : (parseA s).2.2 = some (n, m)) : n ≠ 0 := by
  unfold parseA at h
  split at h
  · cases h; decide
  · split at h
    · cases h; decide
    · cases h
theorem parseO_eq (s : ByteArray) (hs : s.size ≤ 1099511627776) : vestryref08_ParseObject.f (s.size + 100) s = some ((parseO s).1, (parseO s).2.1, ecode (parseO s).2.2, eat (parseO s).2.2) := by
  unfold vestryref08_ParseObject.f
  rw [find_eq s 58 _ (by decide) hs (by omega), Option.bind_some]
  have hge := find_ge s 58
  have hlt := find_lt (s := s) (c := 58) (by decide)
  unfold parseO
  obtain ⟨F, hF⟩ : ∃ F, F = findP s 58 := ⟨_, rfl⟩
  rw [← hF] at hge hlt ⊢
  obtain ⟨k, hk⟩ : ∃ k, s.size + 100 = k + 1 := ⟨s.size + 99, rfl⟩
  by_cases h1 : F = -1
  · rw [if_pos (by omega), if_pos h1, hk, vestryref08_ParseObject.j0, if_pos rfl]
    rfl
  · have e : wrap64 (F + 1) = F + 1 := IntWalk.wrap64_in _ (by omega)
    rw [if_neg (by omega), if_neg h1, if_pos (by omega), if_pos (by omega), is_eq _ _ (by omega), Option.bind_some]
    have f1 : 0 ≤ F + 1 := by omega
    have f2 : F + 1 ≤ (s.size : Int) := by omega
    have f3 : 0 ≤ F := by omega
    have f4 : F ≤ (s.size : Int) := by omega
    have hz := ext_size s (F + 1).toNat s.size
    rw [hk, vestryref08_ParseObject.j0, e, isid_eq _ _ (by omega) (by omega)]
    clear hk hF e hge hlt
    cases h2 : isP (s.extract 0 F.toNat) <;> cases h3 : idP (s.extract (F + 1).toNat s.size) <;> simp [f1, f2, f3, f4, ecode, eat]
theorem parseA_eq (s : ByteArray) (hs : s.size ≤ 1099511627776) : vestryref08_ParseAllowed.f (s.size + 100) s = some ((parseA s).1, (parseA s).2.1, ecode (parseA s).2.2, eat (parseA s).2.2) := by
  unfold vestryref08_ParseAllowed.f
  rw [find_eq s 35 _ (by decide) hs (by omega), Option.bind_some]
  have hge := find_ge s 35
  have hlt := find_lt (s := s) (c := 35) (by decide)
  unfold parseA cutP
  obtain ⟨F, hF⟩ : ∃ F, F = findP s 35 := ⟨_, rfl⟩
  rw [← hF] at hge hlt ⊢
  by_cases h1 : F = -1
  · rw [if_pos (by omega), if_pos h1, is_eq _ _ (by omega), Option.bind_some]
    cases h2 : isP s <;> simp [ecode, eat]
  · have e : wrap64 (F + 1) = F + 1 := IntWalk.wrap64_in _ (by omega)
    rw [if_neg (by omega), if_neg h1, if_pos (by omega), if_pos (by omega), is_eq _ _ (by omega), Option.bind_some, is_eq _ _ (by omega), e]
    have hsz : ((s.extract 0 F.toNat).size : Int) = F := by rw [ByteArray.size_extract]; omega
    have f1 : 0 ≤ F + 1 := by omega
    have f2 : F + 1 ≤ (s.size : Int) := by omega
    clear hF e hge hlt
    cases h2 : isP (s.extract 0 F.toNat) <;> cases h3 : isP (s.extract (F + 1).toNat s.size) <;> simp [f1, f2, h1, ecode, eat, h2, h3] <;> omega
theorem list_at (a : ByteArray) (j : Nat) (h : j < a.size) : a.toList.drop j = UInt8.ofNat (bt a j).toNat :: a.toList.drop (j + 1) := by
  have hl : a.toList.length = a.size := by rw [ByteArray.toList_eq, Array.length_toList]; rfl
  rw [List.drop_eq_getElem_cons (by omega)]
  congr 1
  rw [← bt_at a j h]
  have e : a.toList[j]'(by omega) = a[j] := by
    have h2 := ByteArray.toList_eq (bs := a)
    simp only [h2]
    rfl
  rw [e]
  apply UInt8.toNat_inj.1
  rw [UInt8.toNat_ofNat']
  have := (a[j]).toNat_lt
  simp only [Int.toNat_natCast]
  omega
theorem ofNat_lt (x y : Int) (hx : 0 ≤ x ∧ x ≤ 255) (hy : 0 ≤ y ∧ y ≤ 255) : (UInt8.ofNat x.toNat < UInt8.ofNat y.toNat) ↔ x < y := by
  rw [UInt8.lt_iff_toNat_lt, UInt8.toNat_ofNat', UInt8.toNat_ofNat']
  omega
theorem order_l0 (a b : ByteArray) (hs : a.size ≤ 1099511627776 ∧ b.size ≤ 1099511627776) : ∀ (d j k : Nat), a.size - j = d → 2 * d < k → j ≤ a.size → j ≤ b.size → vestryref08_Order.l0 (k + 1) a b j = some (HCmp.cmpL (a.toList.drop j) (b.toList.drop j)) := by
  have hla : a.toList.length = a.size := by rw [ByteArray.toList_eq, Array.length_toList]; rfl
  have hlb : b.toList.length = b.size := by rw [ByteArray.toList_eq, Array.length_toList]; rfl
  intro d
  induction d with
  | zero =>
    intro j k h hk hj hb
    obtain ⟨k, rfl⟩ : ∃ q, k = q + 1 := ⟨k - 1, by omega⟩
    rw [vestryref08_Order.l0, if_neg (by omega), vestryref08_Order.j1, if_neg (by simp), List.drop_of_length_le (by omega)]
    by_cases h1 : a.size < b.size
    · rw [if_pos (by omega), list_at b j (by omega)]
      rfl
    · rw [if_neg (by omega), if_neg (by omega), List.drop_of_length_le (by omega)]
      rfl
  | succ d ih =>
    intro j k h hk hj hb
    obtain ⟨k, rfl⟩ : ∃ q, k = q + 2 := ⟨k - 2, by omega⟩
    rw [vestryref08_Order.l0, if_pos (by omega), vestryref08_Order.j1]
    by_cases h1 : j < b.size
    · rw [if_pos (decide_eq_true (by omega)), if_pos (by omega), if_pos (by omega), if_pos (by omega), list_at a j (by omega), list_at b j h1, HCmp.cmpL]
      have e : wrap64 ((j : Int) + 1) = ((j + 1 : Nat) : Int) := by rw [IntWalk.wrap64_in _ (by omega)]; omega
      have l1 := ofNat_lt _ _ (bt_range a j) (bt_range b j)
      have l2 := ofNat_lt _ _ (bt_range b j) (bt_range a j)
      rw [e, ih (j + 1) k (by omega) (by omega) (by omega) (by omega)]
      by_cases c1 : bt a j < bt b j
      · rw [if_pos c1, if_pos (l1.2 c1)]
      · rw [if_neg c1, if_neg (fun h => c1 (l1.1 h))]
        by_cases c2 : bt b j < bt a j
        · rw [if_pos c2, if_pos (l2.2 c2)]
        · rw [if_neg c2, if_neg (fun h => c2 (l2.1 h))]
    · rw [if_neg (by rw [decide_eq_false (by omega)]; simp), if_neg (by omega), if_pos (by omega), list_at a j (by omega), List.drop_of_length_le (l := b.toList) (by omega)]
      rfl
theorem order_eq (a b : ByteArray) (hs : a.size ≤ 1099511627776 ∧ b.size ≤ 1099511627776) (k : Nat) (hk : 2 * a.size + 1 < k) : vestryref08_Order.f k a b = some (HCmp.cmpS a b) := by
  unfold vestryref08_Order.f HCmp.cmpS
  obtain ⟨k, rfl⟩ : ∃ q, k = q + 1 := ⟨k - 1, by omega⟩
  have := order_l0 a b hs a.size 0 k (by omega) (by omega) (by omega) (by omega)
  simpa using this
end Go.Proofs.YtpbkcfgcmknijaaDoor.HNameR
