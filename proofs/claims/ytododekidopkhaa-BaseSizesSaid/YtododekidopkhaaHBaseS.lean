/- Bits regrouped: no program here. -/
import Derived.Test.YtododekidopkhaaHLib
import Derived.IntWalk
namespace Go.Proofs.Ytododekidopkhaa.HBaseS
open Go.RowKit Go.Proofs.YtododekidopkhaaW.PrintWords
set_option linter.unusedVariables false

/-- Groups taken off the front of n bits a. -/
def drn (tw : Nat) : Nat → Int → Nat → List Int × Int × Nat
  | 0, a, n => ([], a, n)
  | f + 1, a, n => if tw ≤ n then (a / 2 ^ (n - tw) :: (drn tw f (a % 2 ^ (n - tw)) (n - tw)).1, (drn tw f (a % 2 ^ (n - tw)) (n - tw)).2) else ([], a, n)
/-- All groups, the last one filled up with zeros (false). -/
def rg (fr tw : Nat) : List Int → Int → Nat → List (Int × Bool)
  | [], a, n => if 0 < n then [(a * 2 ^ (tw - n), false)] else []
  | v :: vs, a, n => ((drn tw 16 (a * 2 ^ fr + v) (n + fr)).1.map fun x => (x, true)) ++ rg fr tw vs (drn tw 16 (a * 2 ^ fr + v) (n + fr)).2.1 (drn tw 16 (a * 2 ^ fr + v) (n + fr)).2.2

theorem drn_done {tw f n : Nat} {a : Int} (h : n < tw) : drn tw f a n = ([], a, n) := by
  cases f with
  | zero => rfl
  | succ f => rw [drn, if_neg (by omega)]
theorem drn_step {tw f n : Nat} {a : Int} (h : tw ≤ n) : drn tw (f + 1) a n = (a / 2 ^ (n - tw) :: (drn tw f (a % 2 ^ (n - tw)) (n - tw)).1, (drn tw f (a % 2 ^ (n - tw)) (n - tw)).2) := by
  rw [drn, if_pos h]
/-- Enough fuel. -/
theorem drn_fuel {tw : Nat} (h0 : 0 < tw) : ∀ f n a, n ≤ f → drn tw f a n = drn tw (f + 1) a n := by
  intro f
  induction f with
  | zero => intro n a h; rw [drn_done (by omega), drn_done (by omega)]
  | succ f ih =>
    intro n a h
    by_cases c : tw ≤ n
    · rw [drn_step c, drn_step c, ih (n - tw) _ (by omega)]
    · rw [drn_done (by omega), drn_done (by omega)]
/-- What is left is less than a group. -/
theorem drn_rest {tw : Nat} (h0 : 0 < tw) : ∀ f n (a : Int), n ≤ f → 0 ≤ a → a < 2 ^ n → 0 ≤ (drn tw f a n).2.1 ∧ (drn tw f a n).2.1 < 2 ^ (drn tw f a n).2.2 ∧ (drn tw f a n).2.2 < tw ∧ (∀ x ∈ (drn tw f a n).1, 0 ≤ x ∧ x < 2 ^ tw) := by
  intro f
  induction f with
  | zero => intro n a h h1 h2; rw [drn_done (by omega)]; exact ⟨h1, h2, by simp; omega, fun x hx => by cases hx⟩
  | succ f ih =>
    intro n a h h1 h2
    by_cases c : tw ≤ n
    · rw [drn_step c]
      have hp : (0 : Int) < 2 ^ (n - tw) := Int.pow_pos (by decide)
      obtain ⟨q1, q2, q3, q4⟩ := ih (n - tw) (a % 2 ^ (n - tw)) (by omega) (Int.emod_nonneg _ (by omega)) (Int.emod_lt_of_pos _ hp)
      refine ⟨q1, q2, q3, fun x hx => ?_⟩
      simp only [List.mem_cons] at hx
      rcases hx with rfl | hx
      · refine ⟨Int.ediv_nonneg h1 (by omega), Int.ediv_lt_of_lt_mul hp ?_⟩
        rw [← Int.pow_add, show tw + (n - tw) = n from by omega]
        exact h2
      · exact q4 x hx
    · rw [drn_done (by omega)]; exact ⟨h1, h2, by simp; omega, fun x hx => by cases hx⟩
theorem drn_len {tw : Nat} (h0 : 0 < tw) : ∀ f n (a : Int), (drn tw f a n).1.length ≤ n := by
  intro f
  induction f with
  | zero => intro n a; simp [drn]
  | succ f ih =>
    intro n a
    by_cases c : tw ≤ n
    · rw [drn_step c]; have := ih (n - tw) (a % 2 ^ (n - tw)); simp only [List.length_cons]; omega
    · rw [drn_done (by omega)]; simp

theorem i64_nat_or (a b : Nat) (ha : a < 9223372036854775808) (hb : b < 9223372036854775808) : bits .or .i64 (a : Int) (b : Int) = ((a ||| b : Nat) : Int) := by
  have hx : a ||| b < 2 ^ 63 := Nat.or_lt_two_pow (by omega) (by omega)
  show IntKind.i64.wrap ((BitVec.ofInt 64 (a : Int) ||| BitVec.ofInt 64 (b : Int)).toNat : Int) = _
  rw [BitVec.toNat_or, ofInt_u64 a (by omega), ofInt_u64 b (by omega)]
  exact IntWalk.i64_in _ (by omega)
theorem i64_nat_and (a b : Nat) (ha : a < 9223372036854775808) (hb : b < 9223372036854775808) : bits .and .i64 (a : Int) (b : Int) = ((a &&& b : Nat) : Int) := by
  have hx : a &&& b ≤ a := Nat.and_le_left
  show IntKind.i64.wrap ((BitVec.ofInt 64 (a : Int) &&& BitVec.ofInt 64 (b : Int)).toNat : Int) = _
  rw [BitVec.toNat_and, ofInt_u64 a (by omega), ofInt_u64 b (by omega)]
  exact IntWalk.i64_in _ (by omega)
theorem or_low (a v : Int) (f : Nat) (M : Int) (hM : M = 2 ^ f) (ha : 0 ≤ a) (ha2 : a * M < 9223372036854775808) (hv : 0 ≤ v) (hv2 : v < M) (hM2 : M ≤ 9223372036854775808) : bits .or .i64 (a * M) v = a * M + v := by
  obtain ⟨A, rfl⟩ := Int.eq_ofNat_of_zero_le ha
  obtain ⟨V, rfl⟩ := Int.eq_ofNat_of_zero_le hv
  subst hM
  have e : (A : Int) * 2 ^ f = ((A * 2 ^ f : Nat) : Int) := by rw [Int.natCast_mul, Int.natCast_pow]; rfl
  have hv3 : V < 2 ^ f := by
    have h : (V : Int) < ((2 ^ f : Nat) : Int) := by rw [Int.natCast_pow]; exact hv2
    omega
  rw [e] at ha2 ⊢
  rw [i64_nat_or _ _ (by omega) (by omega), nat_join f (A * 2 ^ f) V (Nat.mul_mod_left _ _) hv3, Int.natCast_add]
theorem and_low (a : Int) (n : Nat) (M : Int) (hM : M = 2 ^ n) (ha : 0 ≤ a) (ha2 : a < 9223372036854775808) (hM2 : M ≤ 9223372036854775808) : bits .and .i64 a (M - 1) = a % M := by
  obtain ⟨A, rfl⟩ := Int.eq_ofNat_of_zero_le ha
  subst hM
  have hp : 0 < 2 ^ n := Nat.pow_pos (by decide)
  have e : (2 : Int) ^ n = ((2 ^ n : Nat) : Int) := by rw [Int.natCast_pow]; rfl
  rw [e] at hM2 ⊢
  rw [show ((2 ^ n : Nat) : Int) - 1 = ((2 ^ n - 1 : Nat) : Int) from by omega, i64_nat_and _ _ (by omega) (by omega), Nat.and_two_pow_sub_one_eq_mod]
  rfl
theorem pow_le (m k : Nat) (h : m ≤ k) : (2 : Int) ^ m ≤ 2 ^ k := by
  have := Nat.pow_le_pow_right (show 0 < 2 by decide) h
  have h3 : ((2 ^ m : Nat) : Int) ≤ ((2 ^ k : Nat) : Int) := Int.ofNat_le.2 this
  rwa [Int.natCast_pow, Int.natCast_pow] at h3

theorem drn_fuel_len {tw : Nat} : ∀ f n (a : Int), (drn tw f a n).1.length ≤ f := by
  intro f
  induction f with
  | zero => intro n a; simp [drn]
  | succ f ih =>
    intro n a
    rw [drn]
    split
    · have := ih (n - tw) (a % 2 ^ (n - tw)); simp only [List.length_cons]; omega
    · simp
theorem rg_len (fr tw : Nat) : ∀ (vs : List Int) (a : Int) (n : Nat), (rg fr tw vs a n).length ≤ 16 * vs.length + 1 := by
  intro vs
  induction vs with
  | nil => intro a n; rw [rg]; split <;> simp
  | cons v vs ih =>
    intro a n
    rw [rg, List.length_append, List.length_map, List.length_cons]
    have := ih (drn tw 16 (a * 2 ^ fr + v) (n + fr)).2.1 (drn tw 16 (a * 2 ^ fr + v) (n + fr)).2.2
    have := drn_fuel_len (tw := tw) 16 (n + fr) (a * 2 ^ fr + v)
    omega
theorem rg_bound (fr tw : Nat) (h0 : 0 < tw) (h16 : tw + fr ≤ 16) : ∀ (vs : List Int) (a : Int) (n : Nat), (∀ v ∈ vs, 0 ≤ v ∧ v < 2 ^ fr) → 0 ≤ a → a < 2 ^ n → n < tw → ∀ p ∈ rg fr tw vs a n, 0 ≤ p.1 ∧ p.1 < 2 ^ tw := by
  intro vs
  induction vs with
  | nil =>
    intro a n _ h1 h2 h3 p hp
    rw [rg] at hp
    split at hp
    · simp only [List.mem_singleton] at hp
      subst hp
      have hq : (0 : Int) < 2 ^ (tw - n) := Int.pow_pos (by decide)
      refine ⟨Int.mul_nonneg h1 (by omega), ?_⟩
      have := Int.mul_lt_mul_of_pos_right h2 hq
      rw [← Int.pow_add, show n + (tw - n) = tw from by omega] at this
      exact this
    · cases hp
  | cons v vs ih =>
    intro a n hv h1 h2 h3 p hp
    have hvv := hv v (List.mem_cons_self ..)
    have hq : (0 : Int) < 2 ^ fr := Int.pow_pos (by decide)
    have hlt : a * 2 ^ fr + v < 2 ^ (n + fr) := by
      rw [Int.pow_add]
      have : (a + 1) * 2 ^ fr ≤ 2 ^ n * 2 ^ fr := Int.mul_le_mul_of_nonneg_right (by omega) (by omega)
      rw [Int.add_mul, Int.one_mul] at this
      omega
    have hge : 0 ≤ a * 2 ^ fr + v := by have := Int.mul_nonneg h1 (Int.le_of_lt hq); omega
    obtain ⟨q1, q2, q3, q4⟩ := drn_rest h0 16 (n + fr) (a * 2 ^ fr + v) (by omega) hge hlt
    rw [rg, List.mem_append] at hp
    rcases hp with hp | hp
    · obtain ⟨x, hx, rfl⟩ := List.mem_map.1 hp
      exact q4 x hx
    · exact ih _ _ (fun y hy => hv y (List.mem_cons_of_mem _ hy)) q1 q2 q3 p hp

end Go.Proofs.Ytododekidopkhaa.HBaseS
