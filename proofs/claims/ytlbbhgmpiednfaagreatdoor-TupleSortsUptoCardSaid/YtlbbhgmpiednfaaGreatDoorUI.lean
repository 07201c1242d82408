/- Numbers in groups of seven bits: what is written, what is read. No program here. -/
import Derived.Laws.BitsAllLaws
import Derived.Test.YtlbbhgmpiednfaaGreatDoorUT
namespace Go.Proofs.YtlbbhgmpiednfaaGreatDoor.HWireS
open Go.RowKit Go.Proofs.YtlbbhgmpiednfaaGreatDoorW.PrintWords

/-- The bytes of a number. -/
def enc (x : Nat) : List Int := if x < 128 then [(x : Int)] else ((x % 128 + 128 : Nat) : Int) :: enc (x / 128)
termination_by x
decreasing_by omega

theorem enc_small {x : Nat} (h : x < 128) : enc x = [(x : Int)] := by rw [enc, if_pos h]
theorem enc_big {x : Nat} (h : 128 ≤ x) : enc x = ((x % 128 + 128 : Nat) : Int) :: enc (x / 128) := by rw [enc, if_neg (by omega)]

theorem enc_pos (x : Nat) : 0 < (enc x).length := by
  rw [enc]; split <;> simp

theorem enc_byte (x : Nat) : ∀ b ∈ enc x, 0 ≤ b ∧ b < 256 := by
  induction x using Nat.strongRecOn with
  | _ x ih =>
    intro b hb
    by_cases h : x < 128
    · rw [enc_small h] at hb
      simp at hb; omega
    · rw [enc_big (by omega)] at hb
      simp only [List.mem_cons] at hb
      rcases hb with hb | hb
      · omega
      · exact ih (x / 128) (by omega) b hb

/-- How many groups. -/
theorem enc_len (d : Nat) : ∀ x, x < 128 ^ (d + 1) → (enc x).length ≤ d + 1 := by
  induction d with
  | zero => intro x h; rw [enc_small (by simpa using h)]; simp
  | succ d ih =>
    intro x h
    by_cases hx : x < 128
    · rw [enc_small hx]; simp
    · rw [enc_big (by omega)]
      have := ih (x / 128) (by rw [Nat.pow_succ] at h; omega)
      simp only [List.length_cons]; omega
theorem enc_len10 (x : Nat) (h : x < 18446744073709551616) : (enc x).length ≤ 10 := enc_len 9 x (by omega)

/-- What a number's reading from byte i on tells: .inl: the code of the error; .inr: the number, and how many bytes it has. -/
def numGo (l : List Int) : Nat → Nat → Int → Int ⊕ (Int × Nat)
  | 0, _, _ => .inl 2
  | f + 1, i, x =>
    if l.length ≤ i then .inl 1
    else if i = 9 ∧ 1 < l.getD i 0 then .inl 2
    else if 0 < i ∧ l.getD i 0 = 0 then .inl 3
    else if l.getD i 0 < 128 then .inr (x + l.getD i 0 % 128 * 2 ^ (7 * i), i + 1)
    else numGo l f (i + 1) (x + l.getD i 0 % 128 * 2 ^ (7 * i))
def num (l : List Int) : Int ⊕ (Int × Nat) := numGo l 11 0 0

theorem numGo_end {l : List Int} {k j : Nat} {x : Int} (hj : l.length ≤ j) : numGo l (k + 1) j x = .inl 1 := by simp [numGo, hj]
theorem numGo_long {l : List Int} {k : Nat} {x : Int} (hj : 9 < l.length) (h : 1 < l.getD 9 0) : numGo l (k + 1) 9 x = .inl 2 := by
  rw [numGo, if_neg (by omega), if_pos ⟨rfl, h⟩]
theorem numGo_min {l : List Int} {k j : Nat} {x : Int} (hj : j < l.length) (h0 : 0 < j) (h : l.getD j 0 = 0) : numGo l (k + 1) j x = .inl 3 := by
  rw [numGo, if_neg (by omega), if_neg (by omega), if_pos ⟨h0, h⟩]
theorem numGo_last {l : List Int} {k j : Nat} {x : Int} (hj : j < l.length) (h9 : j = 9 → ¬ 1 < l.getD j 0) (h0 : 0 < j → l.getD j 0 ≠ 0) (h : l.getD j 0 < 128) :
    numGo l (k + 1) j x = .inr (x + l.getD j 0 % 128 * 2 ^ (7 * j), j + 1) := by
  rw [numGo, if_neg (by omega), if_neg (fun z => h9 z.1 z.2), if_neg (fun z => h0 z.1 z.2), if_pos h]
theorem numGo_more {l : List Int} {k j : Nat} {x : Int} (hj : j < l.length) (h9 : j = 9 → ¬ 1 < l.getD j 0) (h0 : 0 < j → l.getD j 0 ≠ 0) (h : ¬ l.getD j 0 < 128) :
    numGo l (k + 1) j x = numGo l k (j + 1) (x + l.getD j 0 % 128 * 2 ^ (7 * j)) := by
  rw [numGo, if_neg (by omega), if_neg (fun z => h9 z.1 z.2), if_neg (fun z => h0 z.1 z.2), if_neg h]

/-- Bytes of a number behind j others are read as the number. -/
theorem numGo_enc (more : List Int) (d : Nat) : ∀ (pre : List Int) (y : Nat) (k : Nat) (x : Int), pre.length + d = 10 → 0 < d → d ≤ k → y < 2 ^ (64 - 7 * pre.length) → (0 < pre.length → 0 < y) →
    numGo (pre ++ enc y ++ more) k pre.length x = .inr (x + y * 2 ^ (7 * pre.length), pre.length + (enc y).length) := by
  induction d with
  | zero => intro pre y k x _ h0; omega
  | succ d ih =>
    intro pre y k x hd _ hk hy hp
    obtain ⟨k, rfl⟩ : ∃ m, k = m + 1 := ⟨k - 1, by omega⟩
    by_cases h : y < 128
    · have hl : (pre ++ enc y ++ more).getD pre.length 0 = (y : Int) := by
        rw [enc_small h]; simp
      rw [numGo_last (by rw [enc_small h]; simp) ?_ ?_ (by rw [hl]; omega), hl, enc_small h]
      · have : ((y : Int) % 128) = y := by omega
        rw [this]; simp
      · intro h9
        rw [hl]
        have : y < 2 ^ 1 := by rw [h9] at hy; exact hy
        omega
      · intro h0
        rw [hl]
        have := hp h0
        omega
    · have hl : (pre ++ enc y ++ more).getD pre.length 0 = ((y % 128 + 128 : Nat) : Int) := by
        rw [enc_big (by omega)]; simp
      have hne : pre.length ≠ 9 := by
        intro h9
        rw [h9] at hy
        have : y < 2 ^ 1 := hy
        omega
      rw [numGo_more (by rw [enc_big (by omega)]; simp) (fun z => absurd z hne) (by intro _; rw [hl]; omega) (by rw [hl]; omega), hl]
      have hlen : (pre ++ [((y % 128 + 128 : Nat) : Int)]).length = pre.length + 1 := by simp
      have hyy : y / 128 < 2 ^ (64 - 7 * (pre.length + 1)) := by
        have : 64 - 7 * pre.length = 64 - 7 * (pre.length + 1) + 7 := by omega
        rw [this, Nat.pow_add] at hy
        exact Nat.div_lt_of_lt_mul (by rw [Nat.mul_comm]; exact hy)
      have := ih (pre ++ [((y % 128 + 128 : Nat) : Int)]) (y / 128) k (x + ((y % 128 + 128 : Nat) : Int) % 128 * 2 ^ (7 * pre.length)) (by rw [hlen]; omega) (by omega) (by omega) (by rw [hlen]; exact hyy) (by intro _; omega)
      rw [hlen] at this
      have hcat : pre ++ enc y ++ more = (pre ++ [((y % 128 + 128 : Nat) : Int)]) ++ enc (y / 128) ++ more := by rw [enc_big (by omega)]; simp
      rw [hcat, this, enc_big (show 128 ≤ y by omega)]
      have e1 : (((y % 128 + 128 : Nat) : Int) % 128) = ((y % 128 : Nat) : Int) := by omega
      have e2 : 7 * (pre.length + 1) = 7 * pre.length + 7 := by omega
      have e3 : ((y : Nat) : Int) = (y % 128 : Nat) + 128 * (y / 128 : Nat) := by omega
      congr 2
      · rw [e1, e2, Int.pow_add]
        generalize (2 : Int) ^ (7 * pre.length) = q
        rw [show ((y : Nat) : Int) * q = ((y % 128 : Nat) + 128 * (y / 128 : Nat)) * q from by rw [← e3]]
        rw [show ((2 : Int) ^ 7) = 128 from rfl]
        generalize ((y % 128 : Nat) : Int) = a
        generalize ((y / 128 : Nat) : Int) = b
        rw [Int.add_mul, ← Int.mul_assoc, Int.add_assoc, show b * q * 128 = 128 * b * q from by rw [Int.mul_comm (b * q), ← Int.mul_assoc]]
      · simp only [List.length_cons]; omega
theorem num_enc (y : Nat) (h : y < 18446744073709551616) (more : List Int) : num (enc y ++ more) = .inr (y, (enc y).length) := by
  have := numGo_enc more 10 [] y 11 0 rfl (by omega) (by omega) (by simpa using h) (by simp)
  simpa [num] using this

/-- A beginning of the bytes is too short. -/
theorem numGo_short (d : Nat) : ∀ (pre : List Int) (y : Nat) (k : Nat) (x : Int), pre.length + d = 10 → 0 < d → d ≤ k → y < 2 ^ (64 - 7 * pre.length) →
    ∀ m, m < (enc y).length → numGo (pre ++ (enc y).take m) k pre.length x = .inl 1 := by
  induction d with
  | zero => intro pre y k x _ h0; omega
  | succ d ih =>
    intro pre y k x hd _ hk hy m hm
    obtain ⟨k, rfl⟩ : ∃ m, k = m + 1 := ⟨k - 1, by omega⟩
    cases m with
    | zero => exact numGo_end (by simp)
    | succ m =>
      by_cases h : y < 128
      · rw [enc_small h] at hm
        simp at hm
      · rw [enc_big (by omega)] at hm ⊢
        simp only [List.length_cons] at hm
        have hl : (pre ++ (((y % 128 + 128 : Nat) : Int) :: enc (y / 128)).take (m + 1)).getD pre.length 0 = ((y % 128 + 128 : Nat) : Int) := by simp
        have hne : pre.length ≠ 9 := by
          intro h9
          rw [h9] at hy
          have : y < 2 ^ 1 := hy
          omega
        rw [numGo_more (by simp) (fun z => absurd z hne) (by intro _; rw [hl]; omega) (by rw [hl]; omega), hl]
        have hlen : (pre ++ [((y % 128 + 128 : Nat) : Int)]).length = pre.length + 1 := by simp
        have hyy : y / 128 < 2 ^ (64 - 7 * (pre.length + 1)) := by
          have : 64 - 7 * pre.length = 64 - 7 * (pre.length + 1) + 7 := by omega
          rw [this, Nat.pow_add] at hy
          exact Nat.div_lt_of_lt_mul (by rw [Nat.mul_comm]; exact hy)
        have := ih (pre ++ [((y % 128 + 128 : Nat) : Int)]) (y / 128) k (x + ((y % 128 + 128 : Nat) : Int) % 128 * 2 ^ (7 * pre.length)) (by rw [hlen]; omega) (by omega) (by omega) (by rw [hlen]; exact hyy) m (by omega)
        rw [hlen] at this
        rw [← this]
        congr 1
        simp
theorem num_short (y : Nat) (h : y < 18446744073709551616) (m : Nat) (hm : m < (enc y).length) : num ((enc y).take m) = .inl 1 := by
  have := numGo_short 10 [] y 11 0 rfl (by omega) (by omega) (by simpa using h) m hm
  simpa [num] using this

/-- A greater number doesn't have fewer bytes. -/
theorem enc_mono (x : Nat) : ∀ y, x ≤ y → (enc x).length ≤ (enc y).length := by
  induction x using Nat.strongRecOn with
  | _ x ih =>
    intro y h
    by_cases hx : x < 128
    · rw [enc_small hx]; exact enc_pos y
    · rw [enc_big (show 128 ≤ x by omega), enc_big (show 128 ≤ y by omega)]
      have := ih (x / 128) (by omega) (y / 128) (by omega)
      simpa using this

/-- One group joined: bits are a sum. -/
theorem join_group (x b : Int) (j : Nat) (hx0 : 0 ≤ x) (hx : x < 2 ^ (7 * j)) (hb0 : 0 ≤ b) (hb : b < 256) (h9 : j ≤ 9) (hj : j = 9 → b ≤ 1) :
    bits .or .u64 x (IntKind.u64.wrap (IntKind.u64.wrap (bits .and .u8 b 127) * 2 ^ (7 * j))) = x + b % 128 * 2 ^ (7 * j) := by
  obtain ⟨X, rfl⟩ := Int.eq_ofNat_of_zero_le hx0
  obtain ⟨B, rfl⟩ := Int.eq_ofNat_of_zero_le hb0
  have e1 : bits .and .u8 (B : Int) 127 = ((B % 128 : Nat) : Int) := by
    have := u8_and_nat B 127 (by omega) (by omega)
    rw [nat_mask7] at this
    exact this
  have hX : X < 2 ^ (7 * j) := by
    have : ((X : Nat) : Int) < ((2 ^ (7 * j) : Nat) : Int) := by rw [Int.natCast_pow]; exact hx
    omega
  have hq : B % 128 * 2 ^ (7 * j) < 18446744073709551616 := by
    by_cases h : j = 9
    · subst h
      have : B % 128 ≤ 1 := by have := hj rfl; omega
      have e : (2 : Nat) ^ (7 * 9) = 9223372036854775808 := rfl
      rw [e]; omega
    · have h8 : j ≤ 8 := by omega
      have h1 : (2 : Nat) ^ (7 * j) ≤ 2 ^ 56 := Nat.pow_le_pow_right (by omega) (by omega)
      have h2 : B % 128 ≤ 127 := by omega
      calc B % 128 * 2 ^ (7 * j) ≤ 127 * 2 ^ 56 := Nat.mul_le_mul h2 h1
        _ < 18446744073709551616 := by decide
  have hX2 : X < 18446744073709551616 := Nat.lt_of_lt_of_le hX (by
    have : (2 : Nat) ^ (7 * j) ≤ 2 ^ 63 := Nat.pow_le_pow_right (by omega) (by omega)
    exact Nat.le_trans this (by decide))
  have e2 : IntKind.u64.wrap (IntKind.u64.wrap (bits .and .u8 (B : Int) 127) * 2 ^ (7 * j)) = ((B % 128 * 2 ^ (7 * j) : Nat) : Int) := by
    rw [e1, IntKind.wrap_u64, IntKind.wrap_u64]
    have : ((B % 128 : Nat) : Int) % 18446744073709551616 = ((B % 128 : Nat) : Int) := by omega
    rw [this]
    have h2 : ((B % 128 : Nat) : Int) * 2 ^ (7 * j) = ((B % 128 * 2 ^ (7 * j) : Nat) : Int) := by
      rw [Int.natCast_mul, Int.natCast_pow]; rfl
    rw [h2]
    generalize B % 128 * 2 ^ (7 * j) = q at hq ⊢
    omega
  rw [e2, u64_or_nat X _ hX2 hq, Nat.or_comm]
  have hj2 := nat_join (7 * j) (B % 128 * 2 ^ (7 * j)) X (Nat.mul_mod_left _ _) hX
  rw [hj2, Int.natCast_add, Int.natCast_mul, Int.natCast_pow, Int.add_comm]
  rfl

theorem pow63 : (2 : Int) ^ (7 * (9 : Int).toNat) = 9223372036854775808 := by
  have h : ((2 ^ 63 : Nat) : Int) = 9223372036854775808 := rfl
  rw [Int.natCast_pow] at h
  exact h

/-- Behind j groups a number is below 2^(7j). -/
theorem group_lt (x b : Int) (j : Nat) (hx : x < 2 ^ (7 * j)) : x + b % 128 * 2 ^ (7 * j) < 2 ^ (7 * (j + 1)) := by
  have e : (2 : Int) ^ (7 * (j + 1)) = 128 * 2 ^ (7 * j) := by
    rw [show 7 * (j + 1) = 7 * j + 7 from by omega, Int.pow_add, Int.mul_comm]; rfl
  rw [e]
  have hb : b % 128 ≤ 127 := by omega
  have hp : (0 : Int) < 2 ^ (7 * j) := Int.pow_pos (by decide)
  have := Int.mul_le_mul_of_nonneg_right hb (Int.le_of_lt hp)
  omega

end Go.Proofs.YtlbbhgmpiednfaaGreatDoor.HWireS
/- The walks of the package wire: what its functions come to. -/
namespace Go.Proofs.YtlbbhgmpiednfaaGreatDoor.HWire
open Go.RowKit Go.Proofs.YtlbbhgmpiednfaaGreatDoorW.PrintWords Go.Proofs.YtlbbhgmpiednfaaGreatDoor.HLib Go.Proofs.YtlbbhgmpiednfaaGreatDoor.HWireS
set_option linter.unusedVariables false
set_option linter.unusedSimpArgs false

/-- An error of this program: nil, or a code. -/
def errW : Option Int → Value
  | none => .nilIface
  | some c => .iface 81 (.int .i64 c)

/-- A cursor at block g of W: it reads the bytes l, at byte i. -/
def IsCur (W : World) (g : Nat) (l : List Int) (i : Int) : Prop :=
  ∃ A c, W.heap[g]? = some (.cells #[.slice A l.length c, .int .i64 i] 95 (0, 0)) ∧ Kd.C (Kd.int .u8) W A l.length l ∧ l.length ≤ c ∧ (∀ ad, A = some ad → ad.block ≠ g) ∧ (A = none → c = 0)
theorem IsCur.drewN {W : World} {g : Nat} {l : List Int} {i : Int} (h : IsCur W g l i) (m : Nat) : IsCur (W.drewN m) g l i := h
theorem IsCur.drawn {W W1 : World} {g : Nat} {l : List Int} {i : Int} (h : IsCur W g l i) (hd : Drawn0 W W1) : IsCur W1 g l i := by
  obtain ⟨⟨m, rfl⟩⟩ := hd
  exact h
theorem IsCur.lt {W : World} {g : Nat} {l : List Int} {i : Int} (h : IsCur W g l i) : g < W.heap.size := by
  obtain ⟨A, c, hb, _⟩ := h
  exact blk_lt hb
theorem IsCur.below {W W1 : World} {g : Nat} {l : List Int} {i : Int} (h : IsCur W g l i) (hb : Below W.heap.size W W1) : IsCur W1 g l i := by
  obtain ⟨A, c, hB, hC, hr⟩ := h
  exact ⟨A, c, (hb.block g (blk_lt hB)).trans hB, Kd.C_below hC hb, hr⟩
/-- The cursor goes on to byte j. -/
theorem IsCur.set {W : World} {g : Nat} {l : List Int} {i : Int} (h : IsCur W g l i) (j : Int) : IsCur (W.setCell ⟨g, 1, none⟩ (.int .i64 j)) g l j := by
  obtain ⟨A, c, hB, hC, hc, hne, hn⟩ := h
  refine ⟨A, c, by simpa using blk_set hB 1 (.int .i64 j), ?_, hc, hne, hn⟩
  have hR := (Kd.reads_of_C (d := (0 : Int)) hC)
  have hR2 := ReadsInt.keep (W := W.setCell ⟨g, 1, none⟩ (.int .i64 j)) (readsInt_of.2 hR) ((KeepBut.refl W g none).set_ 1 _) (fun ad e _ => hne ad e)
  exact Kd.C_of_reads (readsInt_of.1 hR2)

theorem left_nil (w : World) : Calls Tryz.prog 76 #[.pointer none] w fun e w' => e = .returned (.int .i64 0) ∧ w' = w := by
  go_enter Tryz.func76, Tryz.ntmps76
  go_wp2
  go_ret
  exact ⟨rfl, rfl⟩

theorem left_at (w : World) (g : Nat) (l : List Int) (i : Int) (h : IsCur w g l i) (h0 : 0 ≤ i) (h1 : i ≤ l.length) (hl : l.length ≤ 140737488355328) :
    Calls Tryz.prog 76 #[.pointer (some ⟨g, 0, none⟩)] w fun e w' => e = .returned (.int .i64 (l.length - i)) ∧ Drawn0 w w' := by
  obtain ⟨A, c, hb, hC, hc, hne, hn⟩ := h
  have c0 := blk_cell hb 0
  have c1 := blk_cell hb 1
  simp at c0 c1
  clear hb hC hc hne hn
  go_enter Tryz.func76, Tryz.ntmps76
  go_wp2
  repeat (go_quiet (fail); try go_wp2)
  go_ret
  exact ⟨rfl, by repeat (first | exact Drawn0.refl _ | apply Drawn0.step)⟩

theorem at_at (w : World) (g : Nat) (l : List Int) (i : Int) (h : IsCur w g l i) :
    Calls Tryz.prog 31 #[.pointer (some ⟨g, 0, none⟩)] w fun e w' => e = .returned (.int .i64 i) ∧ Drawn0 w w' := by
  obtain ⟨A, c, hb, hC, hc, hne, hn⟩ := h
  have c0 := blk_cell hb 0
  have c1 := blk_cell hb 1
  simp at c0 c1
  clear hb hC hc hne hn
  go_enter Tryz.func31, Tryz.ntmps31
  go_wp2
  repeat (go_quiet (fail); try go_wp2)
  go_ret
  exact ⟨rfl, by repeat (first | exact Drawn0.refl _ | apply Drawn0.step)⟩

theorem end_nil (w : World) : Calls Tryz.prog 51 #[.pointer none] w fun e w' => e = .returned .nilIface ∧ w' = w := by
  go_enter Tryz.func51, Tryz.ntmps51
  go_wp2_with (go_at_call 76; refine (left_nil _).mono ?_; rintro e w' ⟨rfl, rfl⟩)
  go_ret
  exact ⟨rfl, rfl⟩

theorem end_at (w : World) (g : Nat) (l : List Int) (i : Int) (h : IsCur w g l i) (h0 : 0 ≤ i) (h1 : i ≤ l.length) (hl : l.length ≤ 140737488355328) :
    Calls Tryz.prog 51 #[.pointer (some ⟨g, 0, none⟩)] w fun e w' => e = .returned (errW (if i < l.length then some 16 else none)) ∧ Drawn0 w w' := by
  by_cases hi : i < l.length
  · rw [if_pos hi]
    have hd : decide (0 < (l.length : Int) - i) = true := by simp; omega
    go_enter Tryz.func51, Tryz.ntmps51
    go_wp2_with (go_at_call 76; refine (left_at _ g l i h h0 h1 hl).mono ?_; rintro e w' ⟨rfl, ⟨m, rfl⟩⟩)
    go_ret
    exact ⟨rfl, by repeat (first | exact Drawn0.refl _ | apply Drawn0.step)⟩
  · rw [if_neg hi]
    have hd : decide (0 < (l.length : Int) - i) = false := by simp; omega
    go_enter Tryz.func51, Tryz.ntmps51
    go_wp2_with (go_at_call 76; refine (left_at _ g l i h h0 h1 hl).mono ?_; rintro e w' ⟨rfl, ⟨m, rfl⟩⟩)
    go_ret
    exact ⟨rfl, by repeat (first | exact Drawn0.refl _ | apply Drawn0.step)⟩

theorem clone_nil (w : World) : Calls Tryz.prog 57 #[.slice none 0 0] w fun e w' => ∃ v, e = .returned v ∧ Kd.R (Kd.int .u8) 5 w' w.heap.size (fun _ => True) v [] ∧ Below w.heap.size w w' := by
  have hn := fun w => Lib.run_eql_slice_nil (P := Tryz.prog) w 36 5 none 0 0 0 0 Tryz.underlying36
  go_enter Tryz.func57, Tryz.ntmps57
  go_wp2
  go_ret
  exact ⟨_, rfl, Kd.R_nil _ _ _ _ _, Below.refl _ _⟩

theorem clone_some (w : World) (ad : Addr) (c : Nat) (l : List Int) (hC : Kd.C (Kd.int .u8) w (some ad) l.length l) (hc : l.length ≤ c) (hl : l.length < 140737488355328) :
    Calls Tryz.prog 57 #[.slice (some ad) l.length c] w fun e w' => ∃ v, e = .returned v ∧ Kd.R (Kd.int .u8) 5 w' w.heap.size (fun _ => True) v l ∧ Below w.heap.size w w' := by
  have hn := fun w => Lib.run_eql_slice_nil (P := Tryz.prog) w 36 5 (some ad) l.length c 0 0 Tryz.underlying36
  have HR := Aside0.mk (Kd.reads_of_C (d := (0 : Int)) hC)
  have HL := Aside0.mk hl
  clear hC hc hl
  go_enter Tryz.func57, Tryz.ntmps57
  go_wp2_with (at_builtin; refine print_append_row (w0 := w) w.heap.size rfl (.tmp 5) (.tmp 6) 36 5 .u8 1 rfl Tryz.underlying36 info_u8 (by decide) (.slice (some ⟨w.heap.size, 0, none⟩) 0 0) [] l (some ad) l.length c rfl rfl (own_lit w w.heap.size 5 .u8 [] (Nat.le_refl _) (by decide)) ?aR ?aB ?aS ?aL ?_; (case aR => exact (readsInt_of.2 HR.out).below ((Below.refl _ _).alloc (Nat.le_refl _) _)); (case aB => exact (Below.refl _ _).alloc (Nat.le_refl _) _); (case aS => simp); (case aL => have := HL.out; simp; omega); intro v1 w1 ho hb hg hat; have HO := Aside0.mk ho; have HB := Aside0.mk hb; clear ho hb hg hat)
  go_ret
  exact ⟨_, rfl, Kd.R_of_own (h1 := fun _ => rfl) HO.out (fun _ _ => trivial), HB.out⟩

theorem clone_any (w : World) (v : Value) (l : List Int) (h : Bs w v l) (hl : l.length < 140737488355328) :
    Calls Tryz.prog 57 #[v] w fun e w' => ∃ v, e = .returned v ∧ Kd.R (Kd.int .u8) 5 w' w.heap.size (fun _ => True) v l ∧ Below w.heap.size w w' := by
  obtain ⟨A, c, rfl, hc, hC, hn⟩ := h
  cases A with
  | none =>
    obtain rfl := hn rfl
    have : l = [] := List.eq_nil_of_length_eq_zero (by omega)
    subst this
    exact clone_nil w
  | some ad => exact clone_some w ad c l hC hc hl

theorem new_any (w : World) (v : Value) (l : List Int) (h : Bs w v l) (hl : l.length < 140737488355328) :
    Calls Tryz.prog 28 #[v] w fun e w' => ∃ g, e = .returned (.pointer (some ⟨g, 0, none⟩)) ∧ w.heap.size ≤ g ∧ IsCur w' g l 0 ∧ Below w.heap.size w w' := by
  go_enter Tryz.func28, Tryz.ntmps28
  go_wp2_with (go_at_call 57; refine (clone_any _ v l h hl).mono ?_; rintro e w1 ⟨v1, rfl, hR, hB⟩; obtain ⟨A, c, rfl, hc, hC, hn⟩ := Bs.of_R hR; have HA := Aside0.mk (And.intro hc (And.intro hC hn)); have HB := Aside0.mk hB; have HL := Aside0.mk (fun ad (e : A = some ad) => Kd.R_lt hR ad.block (by rw [e]; rfl)); clear hc hC hn hB hR)
  go_ret
  obtain ⟨hc, hC, hn⟩ := HA.out
  refine ⟨w1.heap.size, rfl, HB.out.size, ⟨A, c, by simpa using heap_alloc_new w1 _, Kd.C_below hC (below_alloc (Below.refl _ _) _), hc, fun ad e => ?_, hn⟩, HB.out.alloc HB.out.size _⟩
  have := HL.out ad e
  omega

theorem below_set1 (w : World) (n g : Nat) (v : Value) : Below g w ((w.drewN n).setCell ⟨g, 1, none⟩ v) := Below.setCell (p := ⟨g, 1, none⟩) (pw_below_drewN (Below.refl _ _) n) (Nat.le_refl _) v
theorem keep_set1 (w : World) (n g : Nat) (v : Value) : KeepBut w ((w.drewN n).setCell ⟨g, 1, none⟩ v) g none := KeepBut.set_ (KeepBut.of_below (pw_below_drewN (Below.refl _ _) n) _ _) 1 v

def numE : Int ⊕ (Int × Nat) → Value
  | .inl c => .tuple #[.int .u64 0, errW (some c)]
  | .inr (x, _) => .tuple #[.int .u64 x, errW none]
def numAt (i : Int) : Int ⊕ (Int × Nat) → Int
  | .inl _ => i
  | .inr (_, n) => i + n

theorem num_end {l : List Int} {k j : Nat} {x : Int} (h : numGo l (k + 1) j x = num l) (hj : l.length ≤ j) : num l = .inl 1 := by rw [← h, numGo_end hj]

theorem rd_drop (l : List Int) (i : Int) (h0 : 0 ≤ i) (j : Nat) : (l.drop i.toNat).getD j 0 = rd l (i + j) := by
  unfold rd
  rw [show (i + (j : Int)).toNat = i.toNat + j from by omega]
  simp [List.getD_eq_getElem?_getD]

theorem number_nil (w : World) : Calls Tryz.prog 91 #[.pointer none] w fun e w' => e = .returned (numE (.inl 1)) ∧ w' = w := by
  go_enter Tryz.func91, Tryz.ntmps91
  go_wp2
  refine wp_loop_rounds 1 ?_
  rw [rounds_succ]
  go_wp2_with (go_at_call 76; refine (left_nil _).mono ?_; rintro e w' ⟨rfl, rfl⟩)
  go_ret2
  exact ⟨rfl, rfl⟩

set_option maxHeartbeats 4000000 in
theorem number_at (w : World) (g : Nat) (l : List Int) (i : Int) (h : IsCur w g l i) (h0 : 0 ≤ i) (h1 : i ≤ l.length) (hl : l.length ≤ 140737488355328) (hb : ∀ x ∈ l, 0 ≤ x ∧ x < 256) :
    Calls Tryz.prog 91 #[.pointer (some ⟨g, 0, none⟩)] w fun e w' => e = .returned (numE (num (l.drop i.toNat))) ∧ IsCur w' g l (numAt i (num (l.drop i.toNat))) ∧ KeepBut w w' g none ∧ Below g w w' := by
  have Hb := Aside0.mk hb
  clear hb
  go_enter Tryz.func91, Tryz.ntmps91
  go_wp2
  go_loopg [4, 5, 6] 11 (fun kq v4 v5 v6 w' => ∃ (x : Int) (J : Int), v4 = .int .u64 x ∧ v5 = .int .i64 J ∧ Aside0 (numGo (l.drop i.toNat) kq J.toNat x = num (l.drop i.toNat) ∧ kq + J.toNat = 11 ∧ 0 ≤ J ∧ J ≤ 9 ∧ 0 ≤ x ∧ x < 2 ^ (7 * J.toNat)) ∧ Drawn0 w w')
  case atStart => exact ⟨0, 0, rfl, rfl, ⟨⟨rfl, rfl, by omega, by omega, by decide, by decide⟩⟩, Drawn0.refl _⟩
  case round =>
    obtain ⟨x, J, rfl, rfl, HA, ⟨m, rfl⟩⟩ := hrel
    cases gk with
    | zero => obtain ⟨_, h1, h2, _⟩ := HA.out; omega
    | succ k1 =>
      have hJ0 : 0 ≤ J := HA.out.2.2.1
      have hJ9 : J ≤ 9 := HA.out.2.2.2.1
      by_cases hj : (l.drop i.toNat).length ≤ J.toNat
      · have hd : decide ((l.length : Int) - i ≤ J) = true := by simp at hj ⊢; omega
        have Hn := Aside0.mk (num_end HA.out.1 hj)
        go_wp2_with (go_at_call 76; refine (left_at _ g l i (IsCur.drewN h _) h0 h1 hl).mono ?_; rintro e w' ⟨rfl, ⟨m, rfl⟩⟩)
        go_ret2
        rw [Hn.out]
        exact ⟨rfl, IsCur.drewN h _, KeepBut.of_below (by repeat (first | exact Below.refl _ _ | apply pw_below_drewN)) _ _, by repeat (first | exact Below.refl _ _ | apply pw_below_drewN)⟩
      · have hd : decide ((l.length : Int) - i ≤ J) = false := by simp at hj ⊢; omega
        obtain ⟨A, c, hB, hC, hc, hne, hn⟩ := h
        have hj' : J < l.length - i := by simp at hj; omega
        obtain ⟨ad, rfl, hx⟩ := Kd.at_int hC (i + J) (by omega) (by omega)
        have c0 := blk_cell hB 0
        have c1 := blk_cell hB 1
        have f1 := blk_frozen hB 1
        simp at c0 c1
        have hbb : 0 ≤ rd l (i + J) ∧ rd l (i + J) < 256 := by
          refine Hb.out _ ?_
          unfold rd
          rw [List.getD_eq_getElem?_getD, List.getElem?_eq_getElem (show (i + J).toNat < l.length by omega)]
          exact List.getElem_mem _
        obtain ⟨b, hbe⟩ : ∃ b, b = rd l (i + J) := ⟨_, rfl⟩
        rw [← hbe] at hx hbb
        have HBD := Aside0.mk (show (l.drop i.toNat).getD J.toNat 0 = b by rw [rd_drop l i h0 J.toNat, hbe, show ((J.toNat : Nat) : Int) = J from by omega])
        have HI := Aside0.mk (show IsCur w g l i from ⟨_, _, hB, hC, hc, hne, hn⟩)
        have HJ := Aside0.mk (show J.toNat < (l.drop i.toNat).length by omega)
        obtain ⟨hb0, hb1⟩ := hbb
        have hi0 : 0 ≤ i + J := by omega
        have hi1 : i + J < l.length := by omega
        have hdd : decide (i + J < l.length) = true := decide_eq_true hi1
        clear hbe hB hC hc hne hn hj
        by_cases e9 : J = 9 ∧ 1 < b
        · obtain ⟨rfl, e9⟩ := e9
          have Hn := Aside0.mk (HA.out.1.symm.trans (numGo_long HJ.out (by rw [show (9 : Int).toNat = 9 from rfl] at HBD; rw [HBD.out]; exact e9)))
          have eb : decide (1 < b) = true := decide_eq_true e9
          go_wp2_with (go_at_call 76; refine (left_at _ g l i (IsCur.drewN HI.out _) h0 h1 hl).mono ?_; rintro e w' ⟨rfl, ⟨m, rfl⟩⟩)
          repeat (go_quiet (fail); try go_wp2)
          go_ret2
          rw [Hn.out]
          exact ⟨rfl, IsCur.drewN HI.out _, KeepBut.of_below (by repeat (first | exact Below.refl _ _ | apply pw_below_drewN)) _ _, by repeat (first | exact Below.refl _ _ | apply pw_below_drewN)⟩
        · by_cases e0 : 0 < J ∧ b = 0
          · obtain ⟨e0, rfl⟩ := e0
            have Hn := Aside0.mk (HA.out.1.symm.trans (numGo_min HJ.out (by omega) HBD.out))
            have eb : decide (0 < J) = true := by simp; omega
            have e9a : J = 9 ∨ (J == 9) = false := by
              by_cases z : J = 9
              · exact .inl z
              · right; simp; omega
            rcases e9a with rfl | e9a
            all_goals
              go_wp2_with (go_at_call 76; refine (left_at _ g l i (IsCur.drewN HI.out _) h0 h1 hl).mono ?_; rintro e w' ⟨rfl, ⟨m, rfl⟩⟩)
              repeat (go_quiet (fail); try go_wp2)
              go_ret2
              rw [Hn.out]
              exact ⟨rfl, IsCur.drewN HI.out _, KeepBut.of_below (by repeat (first | exact Below.refl _ _ | apply pw_below_drewN)) _ _, by repeat (first | exact Below.refl _ _ | apply pw_below_drewN)⟩
          · have hJ := HJ.out
            have h9 : J.toNat = 9 → ¬ 1 < (l.drop i.toNat).getD J.toNat 0 := by rw [HBD.out]; exact fun z z2 => e9 ⟨by omega, z2⟩
            have h00 : 0 < J.toNat → (l.drop i.toNat).getD J.toNat 0 ≠ 0 := by rw [HBD.out]; exact fun z z2 => e0 ⟨by omega, z2⟩
            have HO := Aside0.mk (join_group x b J.toNat HA.out.2.2.2.2.1 HA.out.2.2.2.2.2 hb0 hb1 (by omega) (fun z => by have := fun z2 => e9 ⟨by omega, z2⟩; omega))
            have HG := Aside0.mk (group_lt x b J.toNat HA.out.2.2.2.2.2)
            have HP := Aside0.mk (show 0 ≤ x + b % 128 * 2 ^ (7 * J.toNat) from by
              have h1 := HA.out.2.2.2.2.1
              have h2 : (0 : Int) ≤ b % 128 * 2 ^ (7 * J.toNat) := Int.mul_nonneg (by omega) (Int.le_of_lt (Int.pow_pos (by decide)))
              omega)
            have h70 : 0 ≤ 7 * J := by omega
            have h7 : (7 * J).toNat = 7 * J.toNat := by omega
            have H7 := Aside0.mk h7
            clear h7
            have e9a : J = 9 ∧ decide (1 < b) = false ∨ (J == 9) = false := by
              by_cases z : J = 9
              · left; exact ⟨z, by simp; have := fun z2 => e9 ⟨z, z2⟩; omega⟩
              · right; simp; omega
            have e0a : decide (0 < J) = true ∧ (b == 0) = false ∨ decide (0 < J) = false := by
              by_cases z : 0 < J
              · left; exact ⟨by simp; omega, by simp; exact fun z2 => e0 ⟨z, z2⟩⟩
              · right; simp; omega
            by_cases h128 : b < 128
            · have Hn := Aside0.mk (HA.out.1.symm.trans (numGo_last hJ h9 h00 (by rw [HBD.out]; exact h128)))
              have ed : decide (b < 128) = true := decide_eq_true h128
              clear hJ h9 h00 e9 e0
              rcases e9a with ⟨rfl, e9b⟩ | e9a
              · rcases e0a with ⟨e0a, e0b⟩ | e0a
                · rw [pow63] at HO Hn
                  rw [HBD.out] at Hn
                  go_wp2_with (go_at_call 76; refine (left_at _ g l i (IsCur.drewN HI.out _) h0 h1 hl).mono ?_; rintro e w' ⟨rfl, ⟨m, rfl⟩⟩)
                  repeat (go_quiet (fail); try go_wp2)
                  go_ret2
                  rw [Hn.out]
                  refine ⟨?_, ?_, keep_set1 w _ g _, below_set1 w _ g _⟩
                  · refine congrArg Ending.returned ?_
                    refine congrArg Value.tuple ?_
                    show #[Value.int .u64 (bits .or .u64 x _), Value.nilIface] = #[Value.int .u64 _, Value.nilIface]
                    rw [HO.out]
                  · show IsCur _ g l (i + (10 : Int))
                    exact IsCur.set (IsCur.drewN HI.out _) _
                · exfalso; revert e0a; decide
              · rw [← H7.out] at HO Hn
                rw [HBD.out] at Hn
                have HT := Aside0.mk (show i + ((J.toNat + 1 : Nat) : Int) = i + (J + 1) from by omega)
                rcases e0a with ⟨e0a, e0b⟩ | e0a
                all_goals
                  go_wp2_with (go_at_call 76; refine (left_at _ g l i (IsCur.drewN HI.out _) h0 h1 hl).mono ?_; rintro e w' ⟨rfl, ⟨m, rfl⟩⟩)
                  repeat (go_quiet (fail); try go_wp2)
                  go_ret2
                  rw [Hn.out]
                  refine ⟨?_, ?_, keep_set1 w _ g _, below_set1 w _ g _⟩
                  · refine congrArg Ending.returned ?_
                    refine congrArg Value.tuple ?_
                    show #[Value.int .u64 (bits .or .u64 x _), Value.nilIface] = #[Value.int .u64 _, Value.nilIface]
                    rw [HO.out]
                  · show IsCur _ g l (i + ((J.toNat + 1 : Nat) : Int))
                    rw [HT.out]
                    exact IsCur.set (IsCur.drewN HI.out _) _
            · have Hn := Aside0.mk ((numGo_more (x := x) (k := k1) hJ h9 h00 (by rw [HBD.out]; exact h128)).symm.trans HA.out.1)
              have ed : decide (b < 128) = false := decide_eq_false h128
              have HKJ := Aside0.mk HA.out.2.1
              have HJT := Aside0.mk (show (J + 1).toNat = J.toNat + 1 from by omega)
              rcases e9a with ⟨rfl, e9b⟩ | e9a
              · exfalso
                have := of_decide_eq_false e9b
                omega
              · have hJ8 : J ≤ 8 := by have : J ≠ 9 := by simpa using e9a
                                       omega
                clear hJ h9 h00 e9 e0
                rw [← H7.out] at HO Hn HG HP
                rw [HBD.out] at Hn
                rcases e0a with ⟨e0a, e0b⟩ | e0a
                all_goals
                  go_wp2_with (go_at_call 76; refine (left_at _ g l i (IsCur.drewN HI.out _) h0 h1 hl).mono ?_; rintro e w' ⟨rfl, ⟨m, rfl⟩⟩)
                  repeat (go_quiet (fail); try go_wp2)
                  go_roundg k1
                  case measure => omega
                  case rel =>
                    refine ⟨_, J + 1, rfl, rfl, ⟨?_⟩, by repeat (first | exact Drawn0.refl _ | apply Drawn0.step)⟩
                    rw [HO.out, HJT.out]
                    exact ⟨Hn.out, by have := HKJ.out; omega, by omega, by omega, HP.out, HG.out⟩

end Go.Proofs.YtlbbhgmpiednfaaGreatDoor.HWire
/- The walks of what writes numbers and texts, and of the references beside them. -/
namespace Go.Proofs.YtlbbhgmpiednfaaGreatDoor.HPut
open Go.RowKit Go.Proofs.YtlbbhgmpiednfaaGreatDoorW.PrintWords Go.Proofs.YtlbbhgmpiednfaaGreatDoor.HLib Go.Proofs.YtlbbhgmpiednfaaGreatDoor.HWireS Go.Proofs.YtlbbhgmpiednfaaGreatDoor.HWire
set_option linter.unusedVariables false
set_option linter.unusedSimpArgs false

theorem or128 (y : Nat) : bits .or .u8 ((y : Int) % 256) 128 = ((y % 128 + 128 : Nat) : Int) := by
  have h := u8_or_nat (y % 256) 128 (by omega) (by decide)
  rw [show (((y % 256 : Nat) : Int)) = (y : Int) % 256 from by omega] at h
  rw [show ((128 : Nat) : Int) = 128 from rfl] at h
  rw [h]
  congr 1
  have e : y % 256 = y % 256 / 128 * 128 + y % 128 := by omega
  have h2 : y % 256 / 128 = 0 ∨ y % 256 / 128 = 1 := by omega
  rcases h2 with h2 | h2
  · have e2 : y % 256 = y % 128 := by omega
    rw [e2, Nat.or_comm]
    have := nat_join 7 128 (y % 128) (by decide) (by omega)
    omega
  · have e2 : y % 256 = 128 + y % 128 := by omega
    have h3 := nat_join 7 128 (y % 128) (by decide) (by omega)
    rw [e2, ← h3, Nat.or_comm, ← Nat.or_assoc, Nat.or_self]; omega

theorem put_any (w : World) (x : Nat) (hx : x < 18446744073709551616) :
    Calls Tryz.prog 70 #[.int .u64 x] w fun e w' => ∃ v, e = .returned v ∧ Kd.R (Kd.int .u8) 5 w' w.heap.size (fun _ => True) v (enc x) ∧ Below w.heap.size w w' := by
  have HX := Aside0.mk hx
  clear hx
  go_enter Tryz.func70, Tryz.ntmps70
  go_wp2
  go_loopg [0, 3] x (fun kq v0 v3 w' => ∃ (y : Nat) (out : List Int), v0 = .int .u64 y ∧ Aside0 (kq = y ∧ out ++ enc y = enc x ∧ y < 18446744073709551616) ∧ Aside0 (Kd.R (Kd.int .u8) 5 w' w.heap.size (fun _ => True) v3 out) ∧ Aside0 (Below w.heap.size w w'))
  case atStart => exact ⟨x, [], rfl, ⟨⟨rfl, rfl, HX.out⟩⟩, ⟨Kd.R_nil _ _ _ _ _⟩, ⟨Below.refl _ _⟩⟩
  case round =>
    obtain ⟨y, out, rfl, HA, HO, HB⟩ := hrel
    have HL := Aside0.mk (show out.length ≤ 10 from by
      have h1 := enc_len10 x HX.out
      have h2 := congrArg List.length HA.out.2.1
      rw [List.length_append] at h2
      omega)
    by_cases c : 128 ≤ y
    · have cb : decide ((128 : Int) ≤ (y : Int)) = true := decide_eq_true (by omega)
      clear c
      go_wp2_with (at_builtin; refine Kd.R_append (Kd.int .u8) (w0 := w) w.heap.size rfl (.tmp 8) (.tmp 12) 36 5 (.int .u8 0) 1 rfl Tryz.underlying36 info_u8 rfl (by decide) (by omega) u3 out (Go.bits .or .u8 ((y : Int) % 256) 128) [.int .u8 (Go.bits .or .u8 ((y : Int) % 256) 128)] (fun _ => True) (fun _ => False) rfl rfl ?aP (fun _ hk => hk.elim) (fun _ _ => trivial) ?aO ?aB ?aS ?aL ?_; (case aP => exact rfl); (case aB => exact HB.out); (case aO => exact HO.out); (case aS => exact below_size HB.out); (case aL => have := HL.out; omega); intro v1 w1 ho hb hg hat; have HO1 := Aside0.mk ho; have HB1 := Aside0.mk hb; clear ho hb hg hat)
      go_roundg (y / 128)
      case measure => rw [HA.out.1]; have := of_decide_eq_true cb; omega
      case rel =>
        refine ⟨y / 128, _, by simp, ⟨rfl, ?_, by have := HA.out.2.2; omega⟩, HO1, HB1⟩
        rw [or128, List.append_assoc, ← HA.out.2.1, enc_big (x := y) (by have := of_decide_eq_true cb; omega)]
        rfl
    · have cb : decide ((128 : Int) ≤ (y : Int)) = false := decide_eq_false (by omega)
      have HS := Aside0.mk (show enc y = [(y : Int)] from enc_small (by omega))
      have hy : (y : Int) < 128 := by omega
      clear c
      go_wp2_with (at_builtin; refine Kd.R_append (Kd.int .u8) (w0 := w) w.heap.size rfl (.tmp 14) (.tmp 17) 36 5 (.int .u8 0) 1 rfl Tryz.underlying36 info_u8 rfl (by decide) (by omega) u3 out (y : Int) [.int .u8 (y : Int)] (fun _ => True) (fun _ => False) rfl rfl ?aP (fun _ hk => hk.elim) (fun _ _ => trivial) ?aO ?aB ?aS ?aL ?_; (case aP => exact rfl); (case aB => exact HB.out); (case aO => exact HO.out); (case aS => exact below_size HB.out); (case aL => have := HL.out; omega); intro v1 w1 ho hb hg hat; have HO1 := Aside0.mk ho; have HB1 := Aside0.mk hb; clear ho hb hg hat)
      go_ret
      refine ⟨_, rfl, ?_, HB1.out⟩
      rw [← HA.out.2.1, HS.out]
      exact HO1.out

theorem refput_any (w : World) (x : Nat) (hx : x < 18446744073709551616) :
    Calls Tryz.prog 77 #[.int .u64 x] w fun e w' => ∃ v, e = .returned v ∧ Kd.R (Kd.int .u8) 5 w' w.heap.size (fun _ => True) v (enc x) ∧ Below w.heap.size w w' := by
  have HX := Aside0.mk hx
  clear hx
  go_enter Tryz.func77, Tryz.ntmps77
  go_wp2
  go_loopg [0, 3] x (fun kq v0 v3 w' => ∃ (y : Nat) (out : List Int), v0 = .int .u64 y ∧ Aside0 (kq = y ∧ out ++ enc y = enc x ∧ y < 18446744073709551616) ∧ Aside0 (Kd.R (Kd.int .u8) 5 w' w.heap.size (fun _ => True) v3 out) ∧ Aside0 (Below w.heap.size w w'))
  case atStart => exact ⟨x, [], rfl, ⟨⟨rfl, rfl, HX.out⟩⟩, ⟨Kd.R_nil _ _ _ _ _⟩, ⟨Below.refl _ _⟩⟩
  case round =>
    obtain ⟨y, out, rfl, HA, HO, HB⟩ := hrel
    have HL := Aside0.mk (show out.length ≤ 10 from by
      have h1 := enc_len10 x HX.out
      have h2 := congrArg List.length HA.out.2.1
      rw [List.length_append] at h2
      omega)
    have hw : IntKind.u64.wrap ((y : Int) / 128) = ((y / 128 : Nat) : Int) := by
      have := HA.out.2.2
      rw [IntKind.wrap_u64]; omega
    by_cases c : 128 ≤ y
    · have cb : (((y / 128 : Nat) : Int) == 0) = false := by simp; omega
      have HC := Aside0.mk c
      clear c
      go_wp2_with (at_builtin; refine Kd.R_append (Kd.int .u8) (w0 := w) w.heap.size rfl (.tmp 16) (.tmp 19) 36 5 (.int .u8 0) 1 rfl Tryz.underlying36 info_u8 rfl (by decide) (by omega) u3 out ((y : Int) % 128 + 128) [.int .u8 ((y : Int) % 128 + 128)] (fun _ => True) (fun _ => False) rfl rfl ?aP (fun _ hk => hk.elim) (fun _ _ => trivial) ?aO ?aB ?aS ?aL ?_; (case aP => exact rfl); (case aB => exact HB.out); (case aO => exact HO.out); (case aS => exact below_size HB.out); (case aL => have := HL.out; omega); intro v1 w1 ho hb hg hat; have HO1 := Aside0.mk ho; have HB1 := Aside0.mk hb; clear ho hb hg hat)
      go_roundg (y / 128)
      case measure => rw [HA.out.1]; have := HC.out; omega
      case rel =>
        refine ⟨y / 128, _, by simp, ⟨rfl, ?_, by have := HA.out.2.2; omega⟩, HO1, HB1⟩
        rw [List.append_assoc, ← HA.out.2.1, enc_big (x := y) HC.out]
        congr 1
    · have cb : (((y / 128 : Nat) : Int) == 0) = true := by simp; omega
      have HC := Aside0.mk c
      clear c
      go_wp2_with (at_builtin; refine Kd.R_append (Kd.int .u8) (w0 := w) w.heap.size rfl (.tmp 12) (.tmp 14) 36 5 (.int .u8 0) 1 rfl Tryz.underlying36 info_u8 rfl (by decide) (by omega) u3 out ((y : Int) % 128) [.int .u8 ((y : Int) % 128)] (fun _ => True) (fun _ => False) rfl rfl ?aP (fun _ hk => hk.elim) (fun _ _ => trivial) ?aO ?aB ?aS ?aL ?_; (case aP => exact rfl); (case aB => exact HB.out); (case aO => exact HO.out); (case aS => exact below_size HB.out); (case aL => have := HL.out; omega); intro v1 w1 ho hb hg hat; have HO1 := Aside0.mk ho; have HB1 := Aside0.mk hb; clear ho hb hg hat)
      go_ret
      refine ⟨_, rfl, ?_, HB1.out⟩
      rw [← HA.out.2.1, enc_small (x := y) (by have := HC.out; omega)]
      have h := HO1.out
      rw [show (y : Int) % 128 = y from by have := HC.out; omega] at h
      exact h

theorem same_len (w : World) (a b : Value) (xs ys : List Int) (ha : Bs w a xs) (hb : Bs w b ys) (h : xs.length ≠ ys.length) :
    Calls Tryz.prog 19 #[a, b] w fun e w' => e = .returned (.bool false) ∧ Drawn0 w w' := by
  obtain ⟨A, c, rfl, hc, hC, _⟩ := ha
  obtain ⟨B, d, rfl, hd, hD, _⟩ := hb
  have h1 : (xs.length == ys.length) = false := by simpa using h
  have h2 : ((xs.length : Int) == (ys.length : Int)) = false := by simp; omega
  have h3 : ((xs.length : Int) != (ys.length : Int)) = true := by simp; omega
  clear hc hC hd hD h
  go_enter Tryz.func19, Tryz.ntmps19
  go_wp2
  go_ret
  exact ⟨rfl, Drawn0.refl _⟩

theorem same_any (w : World) (a b : Value) (xs ys : List Int) (ha : Bs w a xs) (hb : Bs w b ys) (hl : xs.length < 140737488355328) :
    Calls Tryz.prog 19 #[a, b] w fun e w' => e = .returned (.bool (decide (xs = ys))) ∧ Drawn0 w w' := by
  by_cases hn : xs.length = ys.length
  · have ha' := ha
    have hb' := hb
    obtain ⟨A, c, rfl, hc, hC, _⟩ := ha'
    obtain ⟨B, d, rfl, hd, hD, _⟩ := hb'
    have h1 : (xs.length == ys.length) = true := by simpa using hn
    have h2 : ((xs.length : Int) == (ys.length : Int)) = true := by simp; omega
    have h3 : ((xs.length : Int) != (ys.length : Int)) = false := by simp; omega
    have HN := Aside0.mk hn
    have HC := Aside0.mk hC
    have HD := Aside0.mk hD
    clear hn hc hC hd hD ha hb
    go_enter Tryz.func19, Tryz.ntmps19
    go_wp2
    clear h1 h2 h3
    go_loopg [5] xs.length (fun kq v5 w' => ∃ (j : Int), v5 = .int .i64 j ∧ Aside0 (0 ≤ j ∧ (kq : Int) + j = xs.length ∧ xs.take j.toNat = ys.take j.toNat) ∧ Drawn0 w w')
    case atStart => exact ⟨0, rfl, ⟨⟨by omega, by omega, by simp⟩⟩, Drawn0.refl _⟩
    case round =>
      obtain ⟨j, rfl, HA, ⟨m, rfl⟩⟩ := hrel
      by_cases hlt : j < xs.length
      · have hj0 : 0 ≤ j := HA.out.1
        have hj1 : j < ys.length := by have := HN.out; omega
        obtain ⟨ad, rfl, hx⟩ := Kd.at_int HC.out j hj0 hlt
        obtain ⟨bd, rfl, hy⟩ := Kd.at_int HD.out j hj0 hj1
        have d1 : decide (j < xs.length) = true := decide_eq_true hlt
        have d2 : decide (j < ys.length) = true := decide_eq_true hj1
        by_cases heq : rd xs j = rd ys j
        · have e1 : (rd xs j == rd ys j) = true := by simpa using heq
          have e2 : (rd xs j != rd ys j) = false := by simpa using heq
          have HE := Aside0.mk heq
          clear heq
          go_wp2
          repeat (go_quiet (fail); try go_wp2)
          go_roundg (xs.length - (j + 1).toNat)
          case measure => have := HA.out; omega
          case rel =>
            refine ⟨j + 1, rfl, ⟨⟨by omega, by omega, ?_⟩⟩, by repeat (first | exact Drawn0.refl _ | apply Drawn0.step)⟩
            rw [show (j + 1).toNat = j.toNat + 1 from by omega, List.take_add_one, List.take_add_one, HA.out.2.2]
            have h1 := HE.out
            unfold rd at h1
            rw [List.getD_eq_getElem?_getD, List.getD_eq_getElem?_getD, List.getElem?_eq_getElem (show j.toNat < xs.length by omega), List.getElem?_eq_getElem (show j.toNat < ys.length by omega)] at h1
            rw [List.getElem?_eq_getElem (show j.toNat < xs.length by omega), List.getElem?_eq_getElem (show j.toNat < ys.length by omega)]
            simp only [Option.getD_some] at h1
            rw [h1]
        · have e1 : (rd xs j == rd ys j) = false := by simpa using heq
          have e2 : (rd xs j != rd ys j) = true := by simpa using heq
          have HE := Aside0.mk (show decide (xs = ys) = false from decide_eq_false (fun z => heq (by rw [z])))
          clear heq
          go_wp2
          repeat (go_quiet (fail); try go_wp2)
          go_ret
          rw [HE.out]
          exact ⟨rfl, by repeat (first | exact Drawn0.refl _ | apply Drawn0.step)⟩
      · have d1 : decide (j < xs.length) = false := decide_eq_false hlt
        have HE := Aside0.mk (show decide (xs = ys) = true from decide_eq_true (by
          have h := HA.out.2.2
          rwa [List.take_of_length_le (by omega), List.take_of_length_le (by have := HN.out; omega)] at h))
        go_wp2
        go_ret
        rw [HE.out]
        exact ⟨rfl, by repeat (first | exact Drawn0.refl _ | apply Drawn0.step)⟩
  · rw [decide_eq_false (fun z => hn (by rw [z]))]
    exact same_len w a b xs ys ha hb hn

theorem bs_R {w : World} {b : Nat} {v : Value} {l : List Int} (h : Kd.R (Kd.int .u8) 5 w b (fun _ => True) v l) : Bs w v l := Bs.of_R h

/-- The bytes of a text. -/
def encText (s : ByteArray) : List Int := enc s.size ++ bytesOf s

theorem text_any (w : World) (s : ByteArray) (hs : s.size ≤ 140737488351232) :
    Calls Tryz.prog 43 #[.string s] w fun e w' => ∃ v, e = .returned v ∧ Kd.R (Kd.int .u8) 5 w' w.heap.size (fun _ => True) v (encText s) ∧ Below w.heap.size w w' := by
  have hz : IntKind.u64.wrap (s.size : Int) = s.size := by rw [IntKind.wrap_u64]; omega
  have HS := Aside0.mk hs
  clear hs
  go_enter Tryz.func43, Tryz.ntmps43
  go_wp2_with (first | (go_at_call 70; refine (put_any _ s.size (by have := HS.out; omega)).mono ?_; rintro e w1 ⟨v1, rfl, hR, hB⟩; have HR := Aside0.mk hR; have HB := Aside0.mk hB; clear hR hB) | (at_builtin; refine print_append_str (w0 := w) w.heap.size rfl (.tmp 6) (.tmp 7) 36 9 5 rfl Tryz.underlying36 Tryz.underlying9 info_u8 v1 (enc s.size) s rfl rfl ?aO ?aB ?aS ?aL ?_; (case aO => exact Kd.own_of_R HR.out); (case aB => exact HB.out); (case aS => exact HB.out.size); (case aL => have := HS.out; have := enc_len10 s.size (by omega); omega); intro v2 w2 ho hb hg; have HO := Aside0.mk ho; have HB2 := Aside0.mk hb; clear ho hb hg))
  go_ret
  exact ⟨_, rfl, Kd.R_of_own (h1 := fun _ => rfl) HO.out (fun _ _ => trivial), HB2.out⟩

theorem reftext_any (w : World) (s : ByteArray) (hs : s.size ≤ 140737488351232) :
    Calls Tryz.prog 52 #[.string s] w fun e w' => ∃ v, e = .returned v ∧ Kd.R (Kd.int .u8) 5 w' w.heap.size (fun _ => True) v (encText s) ∧ Below w.heap.size w w' := by
  have hz : IntKind.u64.wrap (s.size : Int) = s.size := by rw [IntKind.wrap_u64]; omega
  have HS := Aside0.mk hs
  clear hs
  go_enter Tryz.func52, Tryz.ntmps52
  go_wp2_with (first | (go_at_call 77; refine (refput_any _ s.size (by have := HS.out; omega)).mono ?_; rintro e w1 ⟨v1, rfl, hR, hB⟩; have HR := Aside0.mk hR; have HB := Aside0.mk hB; clear hR hB) | (at_builtin; refine print_append_str (w0 := w) w.heap.size rfl (.tmp 6) (.tmp 7) 36 9 5 rfl Tryz.underlying36 Tryz.underlying9 info_u8 v1 (enc s.size) s rfl rfl ?aO ?aB ?aS ?aL ?_; (case aO => exact Kd.own_of_R HR.out); (case aB => exact HB.out); (case aS => exact HB.out.size); (case aL => have := HS.out; have := enc_len10 s.size (by omega); omega); intro v2 w2 ho hb hg; have HO := Aside0.mk ho; have HB2 := Aside0.mk hb; clear ho hb hg))
  go_ret
  exact ⟨_, rfl, Kd.R_of_own (h1 := fun _ => rfl) HO.out (fun _ _ => trivial), HB2.out⟩

end Go.Proofs.YtlbbhgmpiednfaaGreatDoor.HPut
/- The cursor's other readings: bytes, texts. -/
namespace Go.Proofs.YtlbbhgmpiednfaaGreatDoor.HCur
open Go.RowKit Go.Proofs.YtlbbhgmpiednfaaGreatDoorW.PrintWords Go.Proofs.YtlbbhgmpiednfaaGreatDoor.HLib Go.Proofs.YtlbbhgmpiednfaaGreatDoor.HWireS Go.Proofs.YtlbbhgmpiednfaaGreatDoor.HWire Go.Proofs.YtlbbhgmpiednfaaGreatDoor.HPut
set_option linter.unusedVariables false
set_option linter.unusedSimpArgs false

/-- What a reading of bytes tells: the first n of what is left. -/
def tak (r : List Int) (n : Int) : Option (List Int) := if n < 0 ∨ (r.length : Int) < n then none else some (r.take n.toNat)

theorem numGo_ok (l : List Int) (hb : ∀ x ∈ l, 0 ≤ x ∧ x < 256) : ∀ (f i : Nat) (x : Int), f + i = 11 → i ≤ 9 → 0 ≤ x → x < 2 ^ (7 * i) → ∀ y k, numGo l f i x = .inr (y, k) → 0 ≤ y ∧ y < 18446744073709551616 ∧ i < k ∧ k ≤ l.length ∧ k ≤ 10 := by
  intro f
  induction f with
  | zero => intro i x h1 h2; omega
  | succ f ih =>
    intro i x h1 h2 h3 h4 y k h
    by_cases c1 : l.length ≤ i
    · rw [numGo_end c1] at h; cases h
    · have hbi : 0 ≤ l.getD i 0 ∧ l.getD i 0 < 256 := by
        refine hb _ ?_
        rw [List.getD_eq_getElem?_getD, List.getElem?_eq_getElem (show i < l.length by omega)]
        exact List.getElem_mem _
      by_cases c2 : i = 9 ∧ 1 < l.getD i 0
      · obtain ⟨rfl, c2⟩ := c2
        rw [numGo_long (by omega) c2] at h; cases h
      · by_cases c3 : 0 < i ∧ l.getD i 0 = 0
        · rw [numGo_min (by omega) c3.1 c3.2] at h; cases h
        · have h9 : i = 9 → ¬ 1 < l.getD i 0 := fun z z2 => c2 ⟨z, z2⟩
          have h0 : 0 < i → l.getD i 0 ≠ 0 := fun z z2 => c3 ⟨z, z2⟩
          have hp : (0 : Int) ≤ l.getD i 0 % 128 * 2 ^ (7 * i) := Int.mul_nonneg (by omega) (Int.le_of_lt (Int.pow_pos (by decide)))
          by_cases c4 : l.getD i 0 < 128
          · rw [numGo_last (by omega) h9 h0 c4] at h
            simp only [Sum.inr.injEq, Prod.mk.injEq] at h
            obtain ⟨rfl, rfl⟩ := h
            refine ⟨by omega, ?_, by omega, by omega, by omega⟩
            by_cases z9 : i = 9
            · subst z9
              have hb1 : l.getD 9 0 ≤ 1 := by have := h9 rfl; omega
              have e : (2 : Int) ^ (7 * 9) = 9223372036854775808 := pow63
              rw [e] at h4 ⊢
              omega
            · have := group_lt x (l.getD i 0) i h4
              have h2 : (2 : Int) ^ (7 * (i + 1)) ≤ 2 ^ 63 := by
                have : (2 : Nat) ^ (7 * (i + 1)) ≤ 2 ^ 63 := Nat.pow_le_pow_right (by omega) (by omega)
                have h3 : ((2 ^ (7 * (i + 1)) : Nat) : Int) ≤ ((2 ^ 63 : Nat) : Int) := Int.ofNat_le.2 this
                rwa [Int.natCast_pow, Int.natCast_pow] at h3
              have e : (2 : Int) ^ 63 = 9223372036854775808 := pow63
              rw [e] at h2
              omega
          · rw [numGo_more (by omega) h9 h0 c4] at h
            have hi8 : i ≤ 8 := by
              by_cases z9 : i = 9
              · have := h9 z9; omega
              · omega
            obtain ⟨q1, q2, q3, q4, q5⟩ := ih (i + 1) _ (by omega) (by omega) (by omega) (group_lt x _ i h4) y k h
            exact ⟨q1, q2, by omega, q4, q5⟩
theorem numGo_err (l : List Int) : ∀ (f i : Nat) (x : Int) c, numGo l f i x = .inl c → c = 1 ∨ c = 2 ∨ c = 3 := by
  intro f
  induction f with
  | zero => intro i x c h; simp [numGo] at h; omega
  | succ f ih =>
    intro i x c h
    rw [numGo] at h
    split at h
    · simp at h; omega
    · split at h
      · simp at h; omega
      · split at h
        · simp at h; omega
        · split at h
          · cases h
          · exact ih _ _ _ h
theorem num_err {l : List Int} {c : Int} (h : num l = .inl c) : c = 1 ∨ c = 2 ∨ c = 3 := numGo_err l _ _ _ _ h
theorem num_ok {l : List Int} (hb : ∀ x ∈ l, 0 ≤ x ∧ x < 256) {y : Int} {k : Nat} (h : num l = .inr (y, k)) : 0 ≤ y ∧ y < 18446744073709551616 ∧ 0 < k ∧ k ≤ l.length ∧ k ≤ 10 :=
  numGo_ok l hb 11 0 0 rfl (by omega) (by omega) (by decide) y k h

set_option maxHeartbeats 1000000 in
theorem take_bad (w : World) (g : Nat) (l : List Int) (i n : Int) (h : IsCur w g l i) (h0 : 0 ≤ i) (h1 : i ≤ l.length) (hl : l.length ≤ 140737488355328) (hn : n < 0 ∨ (l.length : Int) - i < n) :
    Calls Tryz.prog 92 #[.pointer (some ⟨g, 0, none⟩), .int .i64 n] w fun e w' => e = .returned (.tuple #[.slice none 0 0, errW (some 1)]) ∧ Drawn0 w w' := by
  have HN := Aside0.mk hn
  clear hn
  by_cases c : n < 0
  · have d1 : decide (n < 0) = true := decide_eq_true c
    go_enter Tryz.func92, Tryz.ntmps92
    go_wp2
    go_ret2
    exact ⟨rfl, Drawn0.refl _⟩
  · have d1 : decide (n < 0) = false := decide_eq_false c
    have d2 : decide ((l.length : Int) - i < n) = true := decide_eq_true (by have := HN.out; omega)
    go_enter Tryz.func92, Tryz.ntmps92
    go_wp2_with (go_at_call 76; refine (left_at _ g l i h h0 h1 hl).mono ?_; rintro e w' ⟨rfl, ⟨m, rfl⟩⟩)
    go_ret2
    exact ⟨rfl, by repeat (first | exact Drawn0.refl _ | apply Drawn0.step)⟩

set_option maxHeartbeats 1000000 in
theorem take_good (w : World) (g : Nat) (l : List Int) (i n : Int) (h : IsCur w g l i) (h0 : 0 ≤ i) (h1 : i ≤ l.length) (hl : l.length ≤ 140737488355327) (hn : 0 ≤ n) (hm : n ≤ (l.length : Int) - i) :
    Calls Tryz.prog 92 #[.pointer (some ⟨g, 0, none⟩), .int .i64 n] w fun e w' => ∃ v, e = .returned (.tuple #[v, errW none]) ∧ Kd.R (Kd.int .u8) 5 w' w.heap.size (fun _ => True) v ((l.drop i.toNat).take n.toNat) ∧ IsCur w' g l (i + n) ∧ KeepBut w w' g none ∧ Below g w w' := by
  obtain ⟨A, c, hb, hC, hc, hne, hnz⟩ := id h
  have HI := Aside0.mk h
  have c0 := blk_cell hb 0
  have c1 := blk_cell hb 1
  have f1 := blk_frozen hb 1
  simp at c0 c1
  have d1 : decide (n < 0) = false := decide_eq_false (by omega)
  have d2 : decide ((l.length : Int) - i < n) = false := decide_eq_false (by omega)
  have hnl : i + n ≤ 140737488355327 := by omega
  obtain ⟨i0, hi0, _, hi1, _⟩ := info_parts info_u8
  obtain ⟨A', hsl, hrd⟩ := run_mid3 (P := Tryz.prog) 36 5 Tryz.underlying36 hi0 hi1 A c l i (i + n) h0 (by omega) (by omega) hc hnz
  rw [show i + n - i = n from by omega] at hsl hrd
  have HRD := Aside0.mk (hrd w (readsInt_of.2 (Kd.reads_of_C (d := (0 : Int)) hC))).1
  have HNE := Aside0.mk (show ∀ ad', A' = some ad' → ad'.block ≠ g from fun ad' e => by
    obtain ⟨ad, e1, e2⟩ := (hrd w (readsInt_of.2 (Kd.reads_of_C (d := (0 : Int)) hC))).2 ad' e
    rw [e2]
    exact hne ad e1)
  have HLT := Aside0.mk (show ((l.drop i.toNat).take n.toNat).length < 140737488355328 from by rw [List.length_take, List.length_drop]; omega)
  obtain ⟨L, hL⟩ : ∃ L, L = (l.drop i.toNat).take n.toNat := ⟨_, rfl⟩
  rw [← hL] at hsl HRD HLT ⊢
  have HLL := Aside0.mk hL
  clear hb hC hne hnz h hrd hi0 hi1 hc hL
  go_enter Tryz.func92, Tryz.ntmps92
  go_wp2_with (go_at_call 76; refine (left_at _ g l i HI.out h0 h1 (by omega)).mono ?_; rintro e w' ⟨rfl, ⟨m, rfl⟩⟩)
  go_quiet (fail)
  go_wp2_with fail
  refine (clone_any _ _ L (Bs.far (Bs.drewN HRD.out _) g 1 _ (fun ad n c e => by injection e with e1; exact HNE.out ad e1)) HLT.out).mono ?_
  rintro e w1 ⟨v1, rfl, hR, hB⟩
  have HR := Aside0.mk hR
  have HB := Aside0.mk hB
  clear hR hB
  go_wp2
  go_ret2
  have hsz : ((w.drewN (m + nq)).setCell ⟨g, 1, none⟩ (Value.int .i64 (i + n))).heap.size = w.heap.size := by simp [World.setCell]
  refine ⟨v1, rfl, ?_, (IsCur.set (IsCur.drewN HI.out _) _).below HB.out, ?_, ?_⟩
  · have h := HR.out
    rw [hsz] at h
    exact h
  · refine KeepBut.trans (keep_set1 w _ g _) (KeepBut.of_below HB.out g none) (.inl rfl)
  · exact (below_set1 w _ g _).trans (HB.out.mono (by rw [hsz]; exact Nat.le_of_lt HI.out.lt))

/-- What a reading of a text tells: .inl: the code; .inr: the text's bytes, and how many bytes were read. -/
def txt (r : List Int) (limit : Int) : Int ⊕ (List Int × Nat) :=
  match num r with
  | .inl c => .inl c
  | .inr (n, k) => if limit < 0 ∨ limit < n then .inl 15 else if (r.length : Int) - k < n then .inl 1 else .inr ((r.drop k).take n.toNat, k + n.toNat)
def txtE : Int ⊕ (List Int × Nat) → Value
  | .inl c => .tuple #[.string ⟨#[]⟩, errW (some c)]
  | .inr (s, _) => .tuple #[.string (strOfNums s), errW none]
def txtAt (i : Int) : Int ⊕ (List Int × Nat) → Int
  | .inl _ => i
  | .inr (_, n) => i + n

theorem txt_inl {r : List Int} {limit c : Int} (h : num r = .inl c) : txt r limit = .inl c := by simp [txt, h]
theorem txt_limit {r : List Int} {limit n : Int} {k : Nat} (h : num r = .inr (n, k)) (hl : limit < 0 ∨ limit < n) : txt r limit = .inl 15 := by
  unfold txt; rw [h]; simp only; rw [if_pos hl]
theorem txt_short {r : List Int} {limit n : Int} {k : Nat} (h : num r = .inr (n, k)) (hl : ¬ (limit < 0 ∨ limit < n)) (hs : (r.length : Int) - k < n) : txt r limit = .inl 1 := by
  unfold txt; rw [h]; simp only; rw [if_neg hl, if_pos hs]
theorem txt_ok {r : List Int} {limit n : Int} {k : Nat} (h : num r = .inr (n, k)) (hl : ¬ (limit < 0 ∨ limit < n)) (hs : ¬ (r.length : Int) - k < n) : txt r limit = .inr ((r.drop k).take n.toNat, k + n.toNat) := by
  unfold txt; rw [h]; simp only; rw [if_neg hl, if_neg hs]

theorem txt_err {r : List Int} {limit c : Int} (h : txt r limit = .inl c) : c = 1 ∨ c = 2 ∨ c = 3 ∨ c = 15 := by
  unfold txt at h
  cases hn : num r with
  | inl d =>
    rw [hn] at h
    have := num_err hn
    simp only [Sum.inl.injEq] at h
    omega
  | inr p =>
    rw [hn] at h
    simp only at h
    split at h
    · simp only [Sum.inl.injEq] at h; omega
    · split at h
      · simp only [Sum.inl.injEq] at h; omega
      · cases h

set_option maxHeartbeats 4000000 in
theorem text_at (w : World) (g : Nat) (l : List Int) (i limit : Int) (h : IsCur w g l i) (h0 : 0 ≤ i) (h1 : i ≤ l.length) (hl : l.length ≤ 140737488355327) (hb : ∀ x ∈ l, 0 ≤ x ∧ x < 256) (hlim : limit ≤ 9223372036854775807) :
    Calls Tryz.prog 79 #[.pointer (some ⟨g, 0, none⟩), .int .i64 limit] w fun e w' => e = .returned (txtE (txt (l.drop i.toNat) limit)) ∧ IsCur w' g l (txtAt i (txt (l.drop i.toNat) limit)) ∧ KeepBut w w' g none ∧ Below g w w' := by
  have HI := Aside0.mk h
  have HB := Aside0.mk hb
  have hbd : ∀ x ∈ l.drop i.toNat, 0 ≤ x ∧ x < 256 := fun x hx => hb x (List.mem_of_mem_drop hx)
  have HBD := Aside0.mk hbd
  have HLIM := Aside0.mk hlim
  clear h hb hbd hlim
  go_enter Tryz.func79, Tryz.ntmps79
  go_wp2_with (go_at_call 31; refine (at_at _ g l i HI.out).mono ?_; rintro e w' ⟨rfl, ⟨m, rfl⟩⟩)
  refine (number_at _ g l i (IsCur.drewN HI.out _) h0 h1 (by omega) HB.out).mono ?_
  rintro e w1 ⟨rfl, hI, hk, hB⟩
  have HK1 := Aside0.mk (KeepBut.trans (KeepBut.of_below (pw_below_drewN (B0 w) m) g none) hk (.inl rfl))
  have HB1 := Aside0.mk ((pw_below_drewN (Below.refl g w) m).trans hB)
  cases hnum : num (l.drop i.toNat) with
  | inl c =>
    rw [hnum] at hI
    simp only [numE, numAt, errW] at hI ⊢
    have HI1 := Aside0.mk hI
    have HT := Aside0.mk (txt_inl (limit := limit) hnum)
    clear hI hk hB hnum
    go_wp2
    go_ret2
    rw [HT.out]
    exact ⟨rfl, HI1.out, HK1.out, HB1.out⟩
  | inr p =>
    obtain ⟨n, k⟩ := p
    rw [hnum] at hI
    simp only [numE, numAt, errW] at hI ⊢
    obtain ⟨n0, n1, k0, k1, k2⟩ := num_ok HBD.out hnum
    have hdl : ((l.drop i.toNat).length : Int) = l.length - i := by rw [List.length_drop]; omega
    have HI1 := Aside0.mk hI
    have HNUM := Aside0.mk hnum
    have HDL := Aside0.mk hdl
    have HKK := Aside0.mk (And.intro k0 (And.intro k1 n1))
    have HBK := Aside0.mk (show Below g w (w1.setCell ⟨g, 1, none⟩ (.int .i64 i)) from HB1.out.setCell (p := ⟨g, 1, none⟩) (Nat.le_refl _) _)
    have HKK2 := Aside0.mk (show KeepBut w (w1.setCell ⟨g, 1, none⟩ (.int .i64 i)) g none from HK1.out.set_ 1 _)
    have HIK := Aside0.mk (show IsCur (w1.setCell ⟨g, 1, none⟩ (.int .i64 i)) g l i from HI1.out.set i)
    obtain ⟨A1, c1, hb1, _⟩ := id hI
    have fr1 := blk_frozen hb1 1
    have ce1 := blk_cell hb1 1
    simp at ce1
    clear hI hk hB hnum hdl k0 k1 n1 hb1
    by_cases hneg : limit < 0
    · have d1 : decide (limit < 0) = true := decide_eq_true hneg
      have HT := Aside0.mk (txt_limit (limit := limit) HNUM.out (.inl hneg))
      clear hneg
      go_wp2
      go_ret2
      rw [HT.out]
      exact ⟨rfl, HIK.out, HKK2.out, HBK.out⟩
    · have d1 : decide (limit < 0) = false := decide_eq_false hneg
      have hw : IntKind.u64.wrap limit = limit := by have := HLIM.out; rw [IntKind.wrap_u64]; omega
      by_cases hlm : limit < n
      · have d2 : decide (limit < n) = true := decide_eq_true hlm
        have HT := Aside0.mk (txt_limit (limit := limit) HNUM.out (.inr hlm))
        clear hneg hlm
        go_wp2
        go_ret2
        rw [HT.out]
        exact ⟨rfl, HIK.out, HKK2.out, HBK.out⟩
      · have d2 : decide (limit < n) = false := decide_eq_false hlm
        have HLN := Aside0.mk (show ¬ (limit < 0 ∨ limit < n) from by omega)
        clear hneg hlm
        have hik0 : 0 ≤ i + (k : Int) := by omega
        have hik1 : i + (k : Int) ≤ l.length := by have := HKK.out; have := HDL.out; omega
        have hw2 : IntKind.u64.wrap ((l.length : Int) - (i + k)) = (l.length : Int) - (i + k) := by rw [IntKind.wrap_u64]; omega
        by_cases hsh : (l.length : Int) - (i + k) < n
        · have d3 : decide ((l.length : Int) - (i + k) < n) = true := decide_eq_true hsh
          have HT := Aside0.mk (txt_short (limit := limit) HNUM.out HLN.out (by have := HDL.out; omega))
          clear hsh
          go_wp2_with fail
          refine (left_at _ g l (i + k) HI1.out hik0 hik1 (by omega)).mono ?_
          rintro e w2 ⟨rfl, ⟨m2, rfl⟩⟩
          have fr2 : (w1.drewN m2).frozen? ⟨g, 1, none⟩ = false := fr1
          go_wp2
          go_ret2
          rw [HT.out]
          exact ⟨rfl, IsCur.set (IsCur.drewN HI1.out m2) i, KeepBut.set_ (keep_drewN HK1.out m2) 1 _, Below.setCell (p := ⟨g, 1, none⟩) (pw_below_drewN HB1.out m2) (Nat.le_refl _) _⟩
        · have d3 : decide ((l.length : Int) - (i + k) < n) = false := decide_eq_false hsh
          have HT := Aside0.mk (txt_ok (limit := limit) HNUM.out HLN.out (by have := HDL.out; omega))
          have hn2 : n ≤ 140737488355327 := by omega
          have hn3 : n ≤ (l.length : Int) - (i + k) := by omega
          clear hsh
          go_wp2_with fail
          refine (left_at _ g l (i + k) HI1.out hik0 hik1 (by omega)).mono ?_
          rintro e w2 ⟨rfl, ⟨m2, rfl⟩⟩
          go_wp2_with fail
          refine (take_good _ g l (i + k) n (IsCur.drewN HI1.out m2) hik0 hik1 hl n0 hn3).mono ?_
          rintro e w3 ⟨v3, rfl, hR, hI3, hk3, hB3⟩
          have hcv : (convert 36 9 v3).run Tryz.prog w3 = .ok (.string (strOfNums ((l.drop (i + (k : Int)).toNat).take n.toNat))) w3 := own_string Tryz.underlying36 Tryz.underlying5 Tryz.underlying9 (Kd.own_of_R hR)
          have HT2 := Aside0.mk (show (l.drop (i + (k : Int)).toNat).take n.toNat = ((l.drop i.toNat).drop k).take n.toNat from by rw [List.drop_drop, show (i + (k : Int)).toNat = i.toNat + k from by omega])
          have HI3 := Aside0.mk hI3
          have HK3 := Aside0.mk (KeepBut.trans (keep_drewN HK1.out m2) hk3 (.inl rfl))
          have HB3 := Aside0.mk ((pw_below_drewN HB1.out m2).trans hB3)
          clear hR hI3 hk3 hB3
          simp only [errW]
          go_wp2
          go_ret2
          rw [HT.out]
          refine ⟨?_, ?_, HK3.out, HB3.out⟩
          · rw [HT2.out]
            rfl
          · have h := HI3.out
            rw [show i + (k : Int) + n = i + ((k + n.toNat : Nat) : Int) from by omega] at h
            exact h

end Go.Proofs.YtlbbhgmpiednfaaGreatDoor.HCur
