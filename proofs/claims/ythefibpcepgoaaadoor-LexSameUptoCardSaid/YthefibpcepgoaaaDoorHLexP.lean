/- Tokens, plain: no program here. -/
import Derived.Test.YthefibpcepgoaaaDoorHNameP
namespace Go.Proofs.YthefibpcepgoaaaDoor.HLexP
open Go.RowKit Go.Proofs.YthefibpcepgoaaaDoorW.PrintWords Go.Proofs.YthefibpcepgoaaaDoor.HNameP
set_option linter.unusedVariables false

def inW (c : Int) : Bool := (decide (97 ≤ c) && decide (c ≤ 122)) || ((decide (65 ≤ c) && decide (c ≤ 90)) || ((decide (48 ≤ c) && decide (c ≤ 57)) || c == 95))
def notNL (c : Int) : Bool := !(c == 10)
def spC (c : Int) : Bool := c == 32 || (c == 9 || (c == 10 || c == 13))
def signC (c : Int) : Bool := c == 123 || (c == 125 || (c == 40 || (c == 41 || (c == 58 || (c == 59 || (c == 61 || (c == 124 || (c == 35 || (c == 43 || (c == 38 || c == 45))))))))))
/-- How many bytes from the beginning have the property. -/
def runLn (p : Int → Bool) (s : ByteArray) : Nat := ((List.range s.size).takeWhile fun (i : Nat) => p (bt s i)).length
abbrev Tok := Int × ByteArray × Int
def rest (s : ByteArray) (i : Nat) : ByteArray := s.extract i s.size
def two (s : ByteArray) (i : Nat) (a b : Int) : Bool := decide (i + 1 < s.size) && (bt s i == a && bt s (i + 1 : Nat) == b)
def ARROW : ByteArray := ⟨#[45, 62]⟩
/-- The tokens from a place on. -/
def lexG (s : ByteArray) : Nat → Nat → List Tok → (Int × Int) ⊕ List Tok
  | 0, i, out => .inr (out ++ [(3, ⟨#[]⟩, (i : Int))])
  | f + 1, i, out =>
    if s.size ≤ i then .inr (out ++ [(3, ⟨#[]⟩, (i : Int))])
    else if spC (bt s i) = true then lexG s f (i + 1) out
    else if two s i 47 47 = true then lexG s f (i + runLn notNL (rest s i)) out
    else if 0 < runLn inW (rest s i) then
      if (isP ((rest s i).extract 0 (runLn inW (rest s i))) || resP ((rest s i).extract 0 (runLn inW (rest s i)))) = true then lexG s f (i + runLn inW (rest s i)) (out ++ [(1, (rest s i).extract 0 (runLn inW (rest s i)), (i : Int))]) else .inl (5, i)
    else if two s i 45 62 = true then lexG s f (i + 2) (out ++ [(2, ARROW, (i : Int))])
    else if signC (bt s i) = true then lexG s f (i + 1) (out ++ [(2, (rest s i).extract 0 1, (i : Int))])
    else .inl (6, i)
def lexP (s : ByteArray) : (Int × Int) ⊕ List Tok := if 65536 < s.size then .inl (15, 0) else lexG s (s.size + 1) 0 []

theorem runLn_le (p : Int → Bool) (s : ByteArray) : runLn p s ≤ s.size := by
  have := (List.takeWhile_sublist (fun (i : Nat) => p (bt s i)) (l := List.range s.size)).length_le
  rwa [List.length_range] at this
theorem takeWhile_range (q : Nat → Bool) (n m : Nat) (hm : m ≤ n) (hq : ∀ i, i < m → q i = true) (he : m < n → q m = false) : ((List.range n).takeWhile q).length = m := by
  have e : List.range n = List.range m ++ (List.range (n - m)).map (m + ·) := by
    rw [← List.range_add, show m + (n - m) = n from by omega]
  rw [e, List.takeWhile_append_of_pos (fun i hi => hq i (List.mem_range.1 hi)), List.length_append, List.length_range]
  by_cases h : m < n
  · obtain ⟨k, hk⟩ : ∃ k, n - m = k + 1 := ⟨n - m - 1, by omega⟩
    rw [hk, List.range_succ_eq_map, List.map_cons, List.takeWhile_cons, Nat.add_zero, he h]
    simp
  · rw [show n - m = 0 from by omega]
    simp
theorem runLn_eq {p : Int → Bool} {s : ByteArray} {m : Nat} (hm : m ≤ s.size) (hq : ∀ i : Nat, i < m → p (bt s i) = true) (he : m < s.size → p (bt s m) = false) : runLn p s = m :=
  takeWhile_range _ _ _ hm hq he
theorem exists_run (q : Nat → Bool) : ∀ n : Nat, ∃ m, m ≤ n ∧ (∀ i, i < m → q i = true) ∧ (m < n → q m = false) := by
  intro n
  induction n with
  | zero => exact ⟨0, Nat.le_refl _, fun i hi => by omega, fun h => by omega⟩
  | succ n ih =>
    obtain ⟨m, h1, h2, h3⟩ := ih
    by_cases h : m < n
    · exact ⟨m, by omega, h2, fun _ => h3 h⟩
    · have : m = n := by omega
      subst this
      cases hq : q m with
      | true => exact ⟨m + 1, Nat.le_refl _, fun i hi => by rcases Nat.lt_succ_iff_lt_or_eq.1 hi with h | h; exact h2 i h; rw [h]; exact hq, fun h => by omega⟩
      | false => exact ⟨m, by omega, h2, fun _ => hq⟩
theorem runLn_spec (p : Int → Bool) (s : ByteArray) : (∀ i : Nat, i < runLn p s → p (bt s i) = true) ∧ (runLn p s < s.size → p (bt s (runLn p s)) = false) := by
  obtain ⟨m, h1, h2, h3⟩ := exists_run (fun (i : Nat) => p (bt s i)) s.size
  rw [show runLn p s = m from runLn_eq h1 h2 h3]
  exact ⟨h2, h3⟩
theorem rest_size (s : ByteArray) (i : Nat) : (rest s i).size = s.size - i := by
  unfold rest; rw [ByteArray.size_extract]; omega
theorem bt_ext (s : ByteArray) (a b : Nat) (hb : b ≤ s.size) (k : Nat) (hk : a + k < b) : bt (s.extract a b) k = bt s (a + k : Nat) := by
  have h1 : (s.extract a b).size = b - a := by rw [ByteArray.size_extract]; omega
  unfold bt
  rw [dif_pos (by simp only [Int.toNat_natCast]; omega), dif_pos (by simp only [Int.toNat_natCast]; omega)]
  congr 2
  simp only [Int.toNat_natCast]
  exact ByteArray.getElem_extract ..
theorem bt_rest (s : ByteArray) (i k : Nat) (h : i + k < s.size) : bt (rest s i) k = bt s (i + k : Nat) := bt_ext s i s.size (Nat.le_refl _) k h
theorem runLn_pos {p : Int → Bool} {s : ByteArray} {i : Nat} (h : i < s.size) : 0 < runLn p (rest s i) ↔ p (bt s i) = true := by
  have hs := runLn_spec p (rest s i)
  have e := bt_rest s i 0 h
  constructor
  · intro h0
    have := hs.1 0 h0
    rw [e] at this
    exact this
  · intro hp
    apply Nat.pos_of_ne_zero
    intro h0
    have := hs.2 (by rw [h0, rest_size]; omega)
    rw [h0, e, Nat.add_zero, hp] at this
    cases this
theorem two_at {s : ByteArray} {i : Nat} {a b : Int} (h : two s i a b = true) : i + 1 < s.size ∧ bt s i = a ∧ bt s (i + 1 : Nat) = b := by
  simp only [two, Bool.and_eq_true, decide_eq_true_eq, beq_iff_eq] at h
  exact h
/-- More places than needed change nothing. -/
theorem lexG_any (s : ByteArray) : ∀ (f g i : Nat) (out : List Tok), s.size < i + f → s.size < i + g → lexG s f i out = lexG s g i out := by
  intro f
  induction f with
  | zero =>
    intro g i out h1 h2
    cases g with
    | zero => rfl
    | succ g => rw [lexG, lexG, if_pos (by omega)]
  | succ f ih =>
    intro g i out h1 h2
    cases g with
    | zero => rw [lexG, lexG, if_pos (by omega)]
    | succ g =>
      rw [lexG, lexG]
      by_cases c0 : s.size ≤ i
      · rw [if_pos c0, if_pos c0]
      · rw [if_neg c0, if_neg c0]
        by_cases c1 : spC (bt s i) = true
        · rw [if_pos c1, if_pos c1]; exact ih g _ _ (by omega) (by omega)
        · rw [if_neg c1, if_neg c1]
          by_cases c2 : two s i 47 47 = true
          · rw [if_pos c2, if_pos c2]
            have hp : 0 < runLn notNL (rest s i) := (runLn_pos (by omega)).2 (by rw [(two_at c2).2.1]; rfl)
            exact ih g _ _ (by omega) (by omega)
          · rw [if_neg c2, if_neg c2]
            by_cases c3 : 0 < runLn inW (rest s i)
            · rw [if_pos c3, if_pos c3]
              by_cases c4 : (isP ((rest s i).extract 0 (runLn inW (rest s i))) || resP ((rest s i).extract 0 (runLn inW (rest s i)))) = true
              · rw [if_pos c4, if_pos c4]; exact ih g _ _ (by omega) (by omega)
              · rw [if_neg c4, if_neg c4]
            · rw [if_neg c3, if_neg c3]
              by_cases c5 : two s i 45 62 = true
              · rw [if_pos c5, if_pos c5]; exact ih g _ _ (by omega) (by omega)
              · rw [if_neg c5, if_neg c5]
                by_cases c6 : signC (bt s i) = true
                · rw [if_pos c6, if_pos c6]; exact ih g _ _ (by omega) (by omega)
                · rw [if_neg c6, if_neg c6]
end Go.Proofs.YthefibpcepgoaaaDoor.HLexP
