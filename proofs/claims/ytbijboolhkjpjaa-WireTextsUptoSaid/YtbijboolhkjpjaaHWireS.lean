/- Numbers in groups of seven bits: what is written, what is read. No program here. -/
import Derived.Laws.BitsAllLaws
import Derived.Test.YtbijboolhkjpjaaHLib
namespace Go.Proofs.Ytbijboolhkjpjaa.HWireS
open Go.RowKit Go.Proofs.YtbijboolhkjpjaaW.PrintWords

/-- The bytes of a number. -/
def enc (x : Nat) : List Int := if x < 128 then [(x : Int)] else ((x % 128 + 128 : Nat) : Int) :: enc (x / 128)
termination_by x
decreasing_by omega

theorem enc_small {x : Nat} (h : x < 128) : enc x = [(x : Int)] := by rw [enc, if_pos h]
theorem enc_big {x : Nat} (h : 128 ≤ x) : enc x = ((x % 128 + 128 : Nat) : Int) :: enc (x / 128) := by rw [enc, if_neg (by omega)]

theorem enc_pos (x : Nat) : 0 < (enc x).length := by
  rw [enc]; split <;> simp

theorem enc_byte (x : Nat) : ∀ b ∈ enc x, 0 ≤ b ∧ b < 256 := by
  induction x using Nat.strongRecOn with
  | _ x ih =>
    intro b hb
    by_cases h : x < 128
    · rw [enc_small h] at hb
      simp at hb; omega
    · rw [enc_big (by omega)] at hb
      simp only [List.mem_cons] at hb
      rcases hb with hb | hb
      · omega
      · exact ih (x / 128) (by omega) b hb

/-- How many groups. -/
theorem enc_len (d : Nat) : ∀ x, x < 128 ^ (d + 1) → (enc x).length ≤ d + 1 := by
  induction d with
  | zero => intro x h; rw [enc_small (by simpa using h)]; simp
  | succ d ih =>
    intro x h
    by_cases hx : x < 128
    · rw [enc_small hx]; simp
    · rw [enc_big (by omega)]
      have := ih (x / 128) (by rw [Nat.pow_succ] at h; omega)
      simp only [List.length_cons]; omega
theorem enc_len10 (x : Nat) (h : x < 18446744073709551616) : (enc x).length ≤ 10 := enc_len 9 x (by omega)

/-- What a number's reading from byte i on tells: .inl: the code of the error; .inr: the number, and how many bytes it has. -/
def numGo (l : List Int) : Nat → Nat → Int → Int ⊕ (Int × Nat)
  | 0, _, _ => .inl 2
  | f + 1, i, x =>
    if l.length ≤ i then .inl 1
    else if i = 9 ∧ 1 < l.getD i 0 then .inl 2
    else if 0 < i ∧ l.getD i 0 = 0 then .inl 3
    else if l.getD i 0 < 128 then .inr (x + l.getD i 0 % 128 * 2 ^ (7 * i), i + 1)
    else numGo l f (i + 1) (x + l.getD i 0 % 128 * 2 ^ (7 * i))
def num (l : List Int) : Int ⊕ (Int × Nat) := numGo l 11 0 0

theorem numGo_end {l : List Int} {k j : Nat} {x : Int} (hj : l.length ≤ j) : numGo l (k + 1) j x = .inl 1 := by simp [numGo, hj]
theorem numGo_long {l : List Int} {k : Nat} {x : Int} (hj : 9 < l.length) (h : 1 < l.getD 9 0) : numGo l (k + 1) 9 x = .inl 2 := by
  rw [numGo, if_neg (by omega), if_pos ⟨rfl, h⟩]
theorem numGo_min {l : List Int} {k j : Nat} {x : Int} (hj : j < l.length) (h0 : 0 < j) (h : l.getD j 0 = 0) : numGo l (k + 1) j x = .inl 3 := by
  rw [numGo, if_neg (by omega), if_neg (by omega), if_pos ⟨h0, h⟩]
theorem numGo_last {l : List Int} {k j : Nat} {x : Int} (hj : j < l.length) (h9 : j = 9 → ¬ 1 < l.getD j 0) (h0 : 0 < j → l.getD j 0 ≠ 0) (h : l.getD j 0 < 128) :
    numGo l (k + 1) j x = .inr (x + l.getD j 0 % 128 * 2 ^ (7 * j), j + 1) := by
  rw [numGo, if_neg (by omega), if_neg (fun z => h9 z.1 z.2), if_neg (fun z => h0 z.1 z.2), if_pos h]
theorem numGo_more {l : List Int} {k j : Nat} {x : Int} (hj : j < l.length) (h9 : j = 9 → ¬ 1 < l.getD j 0) (h0 : 0 < j → l.getD j 0 ≠ 0) (h : ¬ l.getD j 0 < 128) :
    numGo l (k + 1) j x = numGo l k (j + 1) (x + l.getD j 0 % 128 * 2 ^ (7 * j)) := by
  rw [numGo, if_neg (by omega), if_neg (fun z => h9 z.1 z.2), if_neg (fun z => h0 z.1 z.2), if_neg h]

/-- Bytes of a number behind j others are read as the number. -/
theorem numGo_enc (more : List Int) (d : Nat) : ∀ (pre : List Int) (y : Nat) (k : Nat) (x : Int), pre.length + d = 10 → 0 < d → d ≤ k → y < 2 ^ (64 - 7 * pre.length) → (0 < pre.length → 0 < y) →
    numGo (pre ++ enc y ++ more) k pre.length x = .inr (x + y * 2 ^ (7 * pre.length), pre.length + (enc y).length) := by
  induction d with
  | zero => intro pre y k x _ h0; omega
  | succ d ih =>
    intro pre y k x hd _ hk hy hp
    obtain ⟨k, rfl⟩ : ∃ m, k = m + 1 := ⟨k - 1, by omega⟩
    by_cases h : y < 128
    · have hl : (pre ++ enc y ++ more).getD pre.length 0 = (y : Int) := by
        rw [enc_small h]; simp
      rw [numGo_last (by rw [enc_small h]; simp) ?_ ?_ (by rw [hl]; omega), hl, enc_small h]
      · have : ((y : Int) % 128) = y := by omega
        rw [this]; simp
      · intro h9
        rw [hl]
        have : y < 2 ^ 1 := by rw [h9] at hy; exact hy
        omega
      · intro h0
        rw [hl]
        have := hp h0
        omega
    · have hl : (pre ++ enc y ++ more).getD pre.length 0 = ((y % 128 + 128 : Nat) : Int) := by
        rw [enc_big (by omega)]; simp
      have hne : pre.length ≠ 9 := by
        intro h9
        rw [h9] at hy
        have : y < 2 ^ 1 := hy
        omega
      rw [numGo_more (by rw [enc_big (by omega)]; simp) (fun z => absurd z hne) (by intro _; rw [hl]; omega) (by rw [hl]; omega), hl]
      have hlen : (pre ++ [((y % 128 + 128 : Nat) : Int)]).length = pre.length + 1 := by simp
      have hyy : y / 128 < 2 ^ (64 - 7 * (pre.length + 1)) := by
        have : 64 - 7 * pre.length = 64 - 7 * (pre.length + 1) + 7 := by omega
        rw [this, Nat.pow_add] at hy
        exact Nat.div_lt_of_lt_mul (by rw [Nat.mul_comm]; exact hy)
      have := ih (pre ++ [((y % 128 + 128 : Nat) : Int)]) (y / 128) k (x + ((y % 128 + 128 : Nat) : Int) % 128 * 2 ^ (7 * pre.length)) (by rw [hlen]; omega) (by omega) (by omega) (by rw [hlen]; exact hyy) (by intro _; omega)
      rw [hlen] at this
      have hcat : pre ++ enc y ++ more = (pre ++ [((y % 128 + 128 : Nat) : Int)]) ++ enc (y / 128) ++ more := by rw [enc_big (by omega)]; simp
      rw [hcat, this, enc_big (show 128 ≤ y by omega)]
      have e1 : (((y % 128 + 128 : Nat) : Int) % 128) = ((y % 128 : Nat) : Int) := by omega
      have e2 : 7 * (pre.length + 1) = 7 * pre.length + 7 := by omega
      have e3 : ((y : Nat) : Int) = (y % 128 : Nat) + 128 * (y / 128 : Nat) := by omega
      congr 2
      · rw [e1, e2, Int.pow_add]
        generalize (2 : Int) ^ (7 * pre.length) = q
        rw [show ((y : Nat) : Int) * q = ((y % 128 : Nat) + 128 * (y / 128 : Nat)) * q from by rw [← e3]]
        rw [show ((2 : Int) ^ 7) = 128 from rfl]
        generalize ((y % 128 : Nat) : Int) = a
        generalize ((y / 128 : Nat) : Int) = b
        rw [Int.add_mul, ← Int.mul_assoc, Int.add_assoc, show b * q * 128 = 128 * b * q from by rw [Int.mul_comm (b * q), ← Int.mul_assoc]]
      · simp only [List.length_cons]; omega
theorem num_enc (y : Nat) (h : y < 18446744073709551616) (more : List Int) : num (enc y ++ more) = .inr (y, (enc y).length) := by
  have := numGo_enc more 10 [] y 11 0 rfl (by omega) (by omega) (by simpa using h) (by simp)
  simpa [num] using this

/-- A beginning of the bytes is too short. -/
theorem numGo_short (d : Nat) : ∀ (pre : List Int) (y : Nat) (k : Nat) (x : Int), pre.length + d = 10 → 0 < d → d ≤ k → y < 2 ^ (64 - 7 * pre.length) →
    ∀ m, m < (enc y).length → numGo (pre ++ (enc y).take m) k pre.length x = .inl 1 := by
  induction d with
  | zero => intro pre y k x _ h0; omega
  | succ d ih =>
    intro pre y k x hd _ hk hy m hm
    obtain ⟨k, rfl⟩ : ∃ m, k = m + 1 := ⟨k - 1, by omega⟩
    cases m with
    | zero => exact numGo_end (by simp)
    | succ m =>
      by_cases h : y < 128
      · rw [enc_small h] at hm
        simp at hm
      · rw [enc_big (by omega)] at hm ⊢
        simp only [List.length_cons] at hm
        have hl : (pre ++ (((y % 128 + 128 : Nat) : Int) :: enc (y / 128)).take (m + 1)).getD pre.length 0 = ((y % 128 + 128 : Nat) : Int) := by simp
        have hne : pre.length ≠ 9 := by
          intro h9
          rw [h9] at hy
          have : y < 2 ^ 1 := hy
          omega
        rw [numGo_more (by simp) (fun z => absurd z hne) (by intro _; rw [hl]; omega) (by rw [hl]; omega), hl]
        have hlen : (pre ++ [((y % 128 + 128 : Nat) : Int)]).length = pre.length + 1 := by simp
        have hyy : y / 128 < 2 ^ (64 - 7 * (pre.length + 1)) := by
          have : 64 - 7 * pre.length = 64 - 7 * (pre.length + 1) + 7 := by omega
          rw [this, Nat.pow_add] at hy
          exact Nat.div_lt_of_lt_mul (by rw [Nat.mul_comm]; exact hy)
        have := ih (pre ++ [((y % 128 + 128 : Nat) : Int)]) (y / 128) k (x + ((y % 128 + 128 : Nat) : Int) % 128 * 2 ^ (7 * pre.length)) (by rw [hlen]; omega) (by omega) (by omega) (by rw [hlen]; exact hyy) m (by omega)
        rw [hlen] at this
        rw [← this]
        congr 1
        simp
theorem num_short (y : Nat) (h : y < 18446744073709551616) (m : Nat) (hm : m < (enc y).length) : num ((enc y).take m) = .inl 1 := by
  have := numGo_short 10 [] y 11 0 rfl (by omega) (by omega) (by simpa using h) m hm
  simpa [num] using this

/-- A greater number doesn't have fewer bytes. -/
theorem enc_mono (x : Nat) : ∀ y, x ≤ y → (enc x).length ≤ (enc y).length := by
  induction x using Nat.strongRecOn with
  | _ x ih =>
    intro y h
    by_cases hx : x < 128
    · rw [enc_small hx]; exact enc_pos y
    · rw [enc_big (show 128 ≤ x by omega), enc_big (show 128 ≤ y by omega)]
      have := ih (x / 128) (by omega) (y / 128) (by omega)
      simpa using this

/-- One group joined: bits are a sum. -/
theorem join_group (x b : Int) (j : Nat) (hx0 : 0 ≤ x) (hx : x < 2 ^ (7 * j)) (hb0 : 0 ≤ b) (hb : b < 256) (h9 : j ≤ 9) (hj : j = 9 → b ≤ 1) :
    bits .or .u64 x (IntKind.u64.wrap (IntKind.u64.wrap (bits .and .u8 b 127) * 2 ^ (7 * j))) = x + b % 128 * 2 ^ (7 * j) := by
  obtain ⟨X, rfl⟩ := Int.eq_ofNat_of_zero_le hx0
  obtain ⟨B, rfl⟩ := Int.eq_ofNat_of_zero_le hb0
  have e1 : bits .and .u8 (B : Int) 127 = ((B % 128 : Nat) : Int) := by
    have := u8_and_nat B 127 (by omega) (by omega)
    rw [nat_mask7] at this
    exact this
  have hX : X < 2 ^ (7 * j) := by
    have : ((X : Nat) : Int) < ((2 ^ (7 * j) : Nat) : Int) := by rw [Int.natCast_pow]; exact hx
    omega
  have hq : B % 128 * 2 ^ (7 * j) < 18446744073709551616 := by
    by_cases h : j = 9
    · subst h
      have : B % 128 ≤ 1 := by have := hj rfl; omega
      have e : (2 : Nat) ^ (7 * 9) = 9223372036854775808 := rfl
      rw [e]; omega
    · have h8 : j ≤ 8 := by omega
      have h1 : (2 : Nat) ^ (7 * j) ≤ 2 ^ 56 := Nat.pow_le_pow_right (by omega) (by omega)
      have h2 : B % 128 ≤ 127 := by omega
      calc B % 128 * 2 ^ (7 * j) ≤ 127 * 2 ^ 56 := Nat.mul_le_mul h2 h1
        _ < 18446744073709551616 := by decide
  have hX2 : X < 18446744073709551616 := Nat.lt_of_lt_of_le hX (by
    have : (2 : Nat) ^ (7 * j) ≤ 2 ^ 63 := Nat.pow_le_pow_right (by omega) (by omega)
    exact Nat.le_trans this (by decide))
  have e2 : IntKind.u64.wrap (IntKind.u64.wrap (bits .and .u8 (B : Int) 127) * 2 ^ (7 * j)) = ((B % 128 * 2 ^ (7 * j) : Nat) : Int) := by
    rw [e1, IntKind.wrap_u64, IntKind.wrap_u64]
    have : ((B % 128 : Nat) : Int) % 18446744073709551616 = ((B % 128 : Nat) : Int) := by omega
    rw [this]
    have h2 : ((B % 128 : Nat) : Int) * 2 ^ (7 * j) = ((B % 128 * 2 ^ (7 * j) : Nat) : Int) := by
      rw [Int.natCast_mul, Int.natCast_pow]; rfl
    rw [h2]
    generalize B % 128 * 2 ^ (7 * j) = q at hq ⊢
    omega
  rw [e2, u64_or_nat X _ hX2 hq, Nat.or_comm]
  have hj2 := nat_join (7 * j) (B % 128 * 2 ^ (7 * j)) X (Nat.mul_mod_left _ _) hX
  rw [hj2, Int.natCast_add, Int.natCast_mul, Int.natCast_pow, Int.add_comm]
  rfl

theorem pow63 : (2 : Int) ^ (7 * (9 : Int).toNat) = 9223372036854775808 := by
  have h : ((2 ^ 63 : Nat) : Int) = 9223372036854775808 := rfl
  rw [Int.natCast_pow] at h
  exact h

/-- Behind j groups a number is below 2^(7j). -/
theorem group_lt (x b : Int) (j : Nat) (hx : x < 2 ^ (7 * j)) : x + b % 128 * 2 ^ (7 * j) < 2 ^ (7 * (j + 1)) := by
  have e : (2 : Int) ^ (7 * (j + 1)) = 128 * 2 ^ (7 * j) := by
    rw [show 7 * (j + 1) = 7 * j + 7 from by omega, Int.pow_add, Int.mul_comm]; rfl
  rw [e]
  have hb : b % 128 ≤ 127 := by omega
  have hp : (0 : Int) < 2 ^ (7 * j) := Int.pow_pos (by decide)
  have := Int.mul_le_mul_of_nonneg_right hb (Int.le_of_lt hp)
  omega

end Go.Proofs.Ytbijboolhkjpjaa.HWireS
