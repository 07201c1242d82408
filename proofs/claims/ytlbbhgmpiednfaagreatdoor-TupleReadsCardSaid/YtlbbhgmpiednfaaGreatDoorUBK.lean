/- Tuples, plain: bytes that are read are those of the tuple. -/
import Derived.Test.YtlbbhgmpiednfaaGreatDoorUB
namespace Go.Proofs.YtlbbhgmpiednfaaGreatDoor.HTupBk
open Go.RowKit Go.Proofs.YtlbbhgmpiednfaaGreatDoorW.PrintWords Go.Proofs.YtlbbhgmpiednfaaGreatDoor.HLib Go.Proofs.YtlbbhgmpiednfaaGreatDoor.HNameP Go.Proofs.YtlbbhgmpiednfaaGreatDoor.HName Go.Proofs.YtlbbhgmpiednfaaGreatDoor.HTupP Go.Proofs.YtlbbhgmpiednfaaGreatDoor.HTupR Go.Proofs.YtlbbhgmpiednfaaGreatDoor.HTupX Go.Proofs.YtlbbhgmpiednfaaGreatDoor.HWireS Go.Proofs.YtlbbhgmpiednfaaGreatDoor.HWire Go.Proofs.YtlbbhgmpiednfaaGreatDoor.HPut Go.Proofs.YtlbbhgmpiednfaaGreatDoor.HCur Go.Proofs.YtlbbhgmpiednfaaGreatDoor.HTupI Go.Proofs.YtlbbhgmpiednfaaGreatDoor.HTupL Go.Proofs.YtlbbhgmpiednfaaGreatDoor.HTupM Go.Proofs.YtlbbhgmpiednfaaGreatDoor.HTupB Go.Proofs.YtlbbhgmpiednfaaGreatDoor.HTupN
set_option linter.unusedVariables false
set_option linter.unusedSimpArgs false
/-- A number that is read has its bytes. -/
theorem numGo_back (l : List Int) (hb : ∀ x ∈ l, 0 ≤ x ∧ x < 256) : ∀ (f i : Nat) (x y : Int) (n : Nat), numGo l f i x = .inr (y, n) →
    ∃ z : Nat, y = x + z * 2 ^ (7 * i) ∧ i < n ∧ n ≤ l.length ∧ (l.drop i).take (n - i) = enc z ∧ (0 < i → 0 < z) := by
  intro f
  induction f with
  | zero => intro i x y n h; cases h
  | succ f ih =>
    intro i x y n h
    by_cases h1 : l.length ≤ i
    · rw [numGo, if_pos h1] at h; cases h
    · rw [numGo, if_neg h1] at h
      have hg : l.getD i 0 = l[i]'(by omega) := by rw [List.getD_eq_getElem?_getD, List.getElem?_eq_getElem (by omega)]; rfl
      have hr := hb _ (List.getElem_mem (show i < l.length by omega))
      rw [← hg] at hr
      have hd : l.drop i = l.getD i 0 :: l.drop (i + 1) := by rw [hg]; exact List.drop_eq_getElem_cons (by omega)
      split at h
      · cases h
      · split at h
        · cases h
        · rename_i hz
          obtain ⟨b, hbe⟩ := Int.eq_ofNat_of_zero_le hr.1
          split at h
          · rename_i hlt
            injection h with h
            injection h with ha hn
            refine ⟨b, ?_, by omega, by omega, ?_, fun h0 => ?_⟩
            · rw [← ha, hbe, show ((b : Int) % 128) = b from by omega]
            · rw [hd, show n - i = 1 from by omega, enc_small (by omega), hbe]; rfl
            · by_cases hb0 : l.getD i 0 = 0
              · exact absurd ⟨h0, hb0⟩ hz
              · omega
          · rename_i hge
            obtain ⟨z, e1, e2, e3, e4, e5⟩ := ih _ _ _ _ h
            have hz0 := e5 (by omega)
            refine ⟨b % 128 + 128 * z, ?_, by omega, e3, ?_, fun _ => by omega⟩
            · rw [e1, hbe, Int.add_assoc]
              congr 1
              rw [show 7 * (i + 1) = 7 + 7 * i from by omega, Int.pow_add, ← Int.mul_assoc, ← Int.add_mul]
              congr 1
              rw [show ((2 : Int) ^ 7) = 128 from rfl]
              push_cast
              omega
            · rw [hd, show n - i = (n - (i + 1)) + 1 from by omega, List.take_succ_cons, e4, enc_big (x := b % 128 + 128 * z) (by omega), hbe, show (b % 128 + 128 * z) / 128 = z from by omega]
              congr 1
              omega
theorem num_back {l : List Int} (hb : ∀ x ∈ l, 0 ≤ x ∧ x < 256) {y : Int} {n : Nat} (h : num l = .inr (y, n)) : ∃ z : Nat, y = z ∧ n ≤ l.length ∧ l.take n = enc z := by
  obtain ⟨z, e1, _, e3, e4, _⟩ := numGo_back l hb _ _ _ _ _ h
  refine ⟨z, by rw [e1]; simp, e3, ?_⟩
  simpa using e4

theorem txt_bytes {r : List Int} (hb : ∀ x ∈ r, 0 ≤ x ∧ x < 256) {limit : Int} {bs : List Int} {k : Nat} (h : txt r limit = .inr (bs, k)) : k ≤ r.length ∧ r.take k = encText (strOfNums bs) := by
  unfold txt at h
  cases hn : num r with
  | inl c => rw [hn] at h; cases h
  | inr p =>
    obtain ⟨n, q⟩ := p
    obtain ⟨z, rfl, h1, h2⟩ := num_back hb hn
    rw [hn] at h
    simp only at h
    split at h
    · cases h
    · split at h
      · cases h
      · injection h with h
        injection h with h3 h4
        rw [Int.toNat_natCast] at h3 h4
        have hl : bs.length = z := by rw [← h3, List.length_take, List.length_drop]; omega
        have hbb : ∀ x ∈ bs, 0 ≤ x ∧ x < 256 := fun x hx => by rw [← h3] at hx; exact hb x (List.mem_of_mem_drop (List.mem_of_mem_take hx))
        refine ⟨by omega, ?_⟩
        unfold encText
        rw [bytes_nums bs hbb, strOfNums_size, hl, ← h2, ← h3, ← h4, ← List.take_add]
theorem str_set (t : Tp) (j m : Nat) (hj : j < 6) (hm : m < 6) (s : ByteArray) : str (setS t j s) m = if m = j then s else str t m := by
  match j, hj, m, hm with
  | 0, _, 0, _ | 0, _, 1, _ | 0, _, 2, _ | 0, _, 3, _ | 0, _, 4, _ | 0, _, 5, _ => rfl
  | 1, _, 0, _ | 1, _, 1, _ | 1, _, 2, _ | 1, _, 3, _ | 1, _, 4, _ | 1, _, 5, _ => rfl
  | 2, _, 0, _ | 2, _, 1, _ | 2, _, 2, _ | 2, _, 3, _ | 2, _, 4, _ | 2, _, 5, _ => rfl
  | 3, _, 0, _ | 3, _, 1, _ | 3, _, 2, _ | 3, _, 3, _ | 3, _, 4, _ | 3, _, 5, _ => rfl
  | 4, _, 0, _ | 4, _, 1, _ | 4, _, 2, _ | 4, _, 3, _ | 4, _, 4, _ | 4, _, 5, _ => rfl
  | 5, _, 0, _ | 5, _, 1, _ | 5, _, 2, _ | 5, _, 3, _ | 5, _, 4, _ | 5, _, 5, _ => rfl
theorem readK_back (l : List Int) (hb : ∀ x ∈ l, 0 ≤ x ∧ x < 256) : ∀ (n : Nat), n ≤ 6 → ∀ (i : Int) (t t' : Tp) (i' : Int), 0 ≤ i → i ≤ l.length → readK l n (6 - n) i t = (t', none, i') →
    (∀ m, m < 6 - n → str t' m = str t m) ∧ (∀ m, 6 - n ≤ m → m < 6 → chk t' m = true) ∧ l.drop i.toNat = tailp t' n ++ l.drop i'.toNat ∧ i ≤ i' ∧ i' ≤ l.length := by
  intro n
  induction n with
  | zero =>
    intro _ i t t' i' h0 h1 h
    rw [readK] at h
    injection h with ha h
    injection h with _ h
    subst ha h
    exact ⟨fun _ _ => rfl, fun m h2 h3 => by omega, by simp [tailp], Int.le_refl _, h1⟩
  | succ n ih =>
    intro hn i t t' i' h0 h1 h
    have hj : 6 - (n + 1) < 6 := by omega
    cases hT : txt (l.drop i.toNat) (mov (6 - (n + 1))) with
    | inl c => rw [readK_inl hT] at h; injection h with _ h; injection h with h _; cases h
    | inr p =>
      obtain ⟨bs, k⟩ := p
      cases hS : chkS (6 - (n + 1)) (strOfNums bs) with
      | false => rw [readK_bad hT hS] at h; injection h with _ h; injection h with h _; cases h
      | true =>
        rw [readK_ok hT hS, show 6 - (n + 1) + 1 = 6 - n from by omega] at h
        obtain ⟨b1, b2⟩ := txt_bytes (fun x hx => hb x (List.mem_of_mem_drop hx)) hT
        rw [List.length_drop] at b1
        obtain ⟨c1, c2, c3, c4, c5⟩ := ih (by omega) _ _ _ _ (by omega) (by omega) h
        have hs : str t' (6 - (n + 1)) = strOfNums bs := by rw [c1 _ (by omega), str_set _ _ _ hj hj, if_pos rfl]
        refine ⟨fun m hm => ?_, fun m hm h6 => ?_, ?_, by omega, c5⟩
        · rw [c1 m (by omega), str_set _ _ _ hj (by omega), if_neg (by omega)]
        · by_cases hm2 : m = 6 - (n + 1)
          · subst hm2
            rw [← chk_str t' _ hj, hs]
            exact hS
          · exact c2 m (by omega) h6
        · rw [tailp_succ t' n (by omega), hs, List.append_assoc, ← c3, ← b2]
          conv => lhs; rw [← List.take_append_drop k (l.drop i.toNat)]
          rw [List.drop_drop, show i.toNat + k = (i + (k : Int)).toNat from by omega]
theorem readK_code (l : List Int) : ∀ (n j : Nat) (i : Int) (t : Tp) (c : Int), (readK l n j i t).2.1 = some c → c ≠ 0 := by
  intro n
  induction n with
  | zero => intro j i t c h; rw [readK] at h; cases h
  | succ n ih =>
    intro j i t c h
    cases hT : txt (l.drop i.toNat) (mov j) with
    | inl c' =>
      rw [readK_inl hT] at h
      injection h with h
      have := txt_err hT
      omega
    | inr p =>
      obtain ⟨bs, k⟩ := p
      cases hS : chkS j (strOfNums bs) with
      | false => rw [readK_bad hT hS] at h; injection h with h; omega
      | true => rw [readK_ok hT hS] at h; exact ih _ _ _ _ h
theorem parseB_back (l : List Int) (hb : ∀ x ∈ l, 0 ≤ x ∧ x < 256) (t : Tp) (a : Int) (h : parseB l = (t, none, a)) : rightP t = true ∧ putP t = l ∧ readK l 6 0 0 Tp.nil = (t, none, a) := by
  obtain ⟨t', e, i', hr⟩ : ∃ a b c, readK l 6 0 0 Tp.nil = (a, b, c) := ⟨_, _, _, rfl⟩
  unfold parseB at h
  rw [hr] at h
  cases e with
  | some c => simp only at h; injection h with _ h; injection h with h _; cases h
  | none =>
    simp only at h
    split at h
    · injection h with _ h; injection h with h _; cases h
    · injection h with h1 h
      injection h with _ h
      subst h1 h
      obtain ⟨_, c2, c3, c4, c5⟩ := readK_back l hb 6 (Nat.le_refl _) 0 Tp.nil t' i' (by omega) (by omega) hr
      refine ⟨upto_right (fun m hm => c2 m (by omega) hm), ?_, hr⟩
      rw [put_split t' 6 (Nat.le_refl _)]
      have : i'.toNat = l.length := by omega
      rw [this, List.drop_length, List.append_nil] at c3
      rw [← c3]
      rfl
end Go.Proofs.YtlbbhgmpiednfaaGreatDoor.HTupBk
