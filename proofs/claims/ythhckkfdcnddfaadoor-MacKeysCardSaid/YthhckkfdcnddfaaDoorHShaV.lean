/- The digest in plain words: bytes fed one by one, and blocks of 64. -/
import Derived.Test.YthhckkfdcnddfaaDoorHShaU
namespace Go.Proofs.YthhckkfdcnddfaaDoor.HShaV
open Go.RowKit Go.Proofs.YthhckkfdcnddfaaDoorW.PrintWords Go.Proofs.YthhckkfdcnddfaaDoor.HLib Go.Proofs.YthhckkfdcnddfaaDoor.HSha Go.Proofs.YthhckkfdcnddfaaDoor.HShaS Go.Proofs.YthhckkfdcnddfaaDoor.HShaP Go.Proofs.YthhckkfdcnddfaaDoor.HShaU
set_option linter.unusedVariables false
set_option linter.unusedSimpArgs false

def S0 : Sta := (ST, List.replicate 64 0, 0)
theorem S0_ok : OkU S0 := ⟨rfl, by simp [S0], by intro x hx; rw [List.eq_of_mem_replicate hx]; decide, by simp [S0]⟩
/-- The bytes of a state. -/
def outB (s : List Int) : List Int := (List.range 32).map fun (j : Nat) => s.getD (j / 4) 0 / 2 ^ (24 - 8 * (j % 4)) % 256
def padded (bs : List Int) : List Int := bs ++ padP bs.length
/-- The digest. -/
def sumP (bs : List Int) : List Int := outB (feed S0 (padded bs)).1
/-- The state behind j blocks. -/
def cst (l : List Int) : Nat → List Int
  | 0 => ST
  | j + 1 => blockP (cst l j) ((l.drop (64 * j)).take 64)
theorem outB_len (s : List Int) : (outB s).length = 32 := by simp [outB]
theorem outB_get (s : List Int) (j : Nat) (h : j < 32) : (outB s).getD j 0 = s.getD (j / 4) 0 / 2 ^ (24 - 8 * (j % 4)) % 256 := by
  rw [List.getD_eq_getElem?_getD, List.getElem?_eq_getElem (by rw [outB_len]; exact h)]
  simp [outB]
theorem outB_byte (s : List Int) : ∀ x ∈ outB s, 0 ≤ x ∧ x < 256 := by
  intro x hx
  obtain ⟨i, _, rfl⟩ := List.mem_map.1 hx
  omega
theorem sumP_len (bs : List Int) : (sumP bs).length = 32 := outB_len _
theorem sumP_byte (bs : List Int) : ∀ x ∈ sumP bs, 0 ≤ x ∧ x < 256 := outB_byte _

theorem mixn_set (a r : List Int) (i : Nat) (hi : i < a.length) (hl : r.length = a.length) : (a.take i ++ r.drop i).set i (a.getD i 0) = a.take (i + 1) ++ r.drop (i + 1) := by
  have h : (a.take i).length = i := by rw [List.length_take]; omega
  rw [List.set_append_right (h := by omega), h, Nat.sub_self, List.drop_eq_getElem_cons (show i < r.length by omega), List.set_cons_zero, List.take_add_one, List.getElem?_eq_getElem hi, List.getD_eq_getElem?_getD, List.getElem?_eq_getElem hi, List.append_assoc]
  rfl
theorem feed_part (a : Sta) (c : List Int) (hc : c.length = 64) (hb : a.2.1.length = 64) (hn0 : 0 ≤ a.2.2) (hn : a.2.2 % 64 = 0) : ∀ r, r ≤ 63 → feed a (c.take r) = (a.1, c.take r ++ a.2.1.drop r, a.2.2 + r) := by
  intro r
  induction r with
  | zero => intro _; simp [feed]
  | succ r ih =>
    intro hr
    rw [feed_take a c r (by omega), ih (by omega)]
    unfold stepP
    dsimp only
    rw [if_neg (by omega), show ((a.2.2 + (r : Int)) % 64).toNat = r from by omega, mixn_set c a.2.1 r (by omega) (by omega)]
    congr 2
    omega
theorem feed_block (a : Sta) (c : List Int) (hc : c.length = 64) (hb : a.2.1.length = 64) (hn0 : 0 ≤ a.2.2) (hn : a.2.2 % 64 = 0) : feed a c = (blockP a.1 c, c, a.2.2 + 64) := by
  have h := feed_take a c 63 (by omega)
  rw [feed_part a c hc hb hn0 hn 63 (by omega)] at h
  rw [List.take_of_length_le (by omega)] at h
  rw [h]
  unfold stepP
  dsimp only
  rw [show ((a.2.2 + ((63 : Nat) : Int)) % 64).toNat = 63 from by omega, mixn_set c a.2.1 63 (by omega) (by omega), show c.take (63 + 1) ++ a.2.1.drop (63 + 1) = c from by rw [List.take_of_length_le (show c.length ≤ 63 + 1 by omega), List.drop_of_length_le (show a.2.1.length ≤ 63 + 1 by omega), List.append_nil], if_pos (by omega), show a.2.2 + ((63 : Nat) : Int) + 1 = a.2.2 + 64 from by omega]
theorem feed_cst (l : List Int) : ∀ j, 64 * j ≤ l.length → (feed S0 (l.take (64 * j))).1 = cst l j ∧ (feed S0 (l.take (64 * j))).2.2 = 64 * j ∧ (feed S0 (l.take (64 * j))).2.1.length = 64 := by
  intro j
  induction j with
  | zero => intro _; exact ⟨rfl, rfl, by simp [feed, S0]⟩
  | succ j ih =>
    intro h
    obtain ⟨h1, h2, h3⟩ := ih (by omega)
    have e : l.take (64 * (j + 1)) = l.take (64 * j) ++ (l.drop (64 * j)).take 64 := by
      rw [show 64 * (j + 1) = 64 * j + 64 from by omega, List.take_add]
    rw [e, feed_append, feed_block _ _ (by rw [List.length_take, List.length_drop]; omega) h3 (by omega) (by omega)]
    refine ⟨?_, ?_, ?_⟩
    · dsimp only
      rw [h1]; rfl
    · dsimp only
      omega
    · dsimp only
      rw [List.length_take, List.length_drop]; omega
theorem padded_len (bs : List Int) : (padded bs).length % 64 = 0 := by
  have := padP_full (bs.length : Int) (by omega)
  unfold padded
  rw [List.length_append]
  omega
theorem sum_cst (bs : List Int) : sumP bs = outB (cst (padded bs) ((padded bs).length / 64)) := by
  have h := padded_len bs
  have h1 := feed_cst (padded bs) ((padded bs).length / 64) (by omega)
  rw [List.take_of_length_le (by omega)] at h1
  rw [sumP, h1.1]
theorem cst_len (l : List Int) (j : Nat) : (cst l j).length = 8 := by
  induction j with
  | zero => rfl
  | succ j ih => exact blockP_len _ _ ih

end Go.Proofs.YthhckkfdcnddfaaDoor.HShaV
