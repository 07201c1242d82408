/- The reference's errors, plain. -/
import Derived.Test.YtmnfemdcccpmfaaDoorHPr
import Derived.Test.YtmnfemdcccpmfaaDoorHErrT
namespace Go.Proofs.YtmnfemdcccpmfaaDoor.HFaultP
open Go.RowKit Go.Proofs.YtmnfemdcccpmfaaDoorW.PrintWords Go.Proofs.YtmnfemdcccpmfaaDoor.HPr Go.Proofs.YtmnfemdcccpmfaaDoor.HErr
set_option linter.unusedVariables false
set_option linter.unusedSimpArgs false

def fewP (parts : List ByteArray) (a : Int) : Bool := parts.all (fun p => decide (p.size ≤ 50)) && (decide (parts.length ≤ 20) && (decide (-1152921504606846976 < a) && decide (a < 1152921504606846976)))
theorem rdOf_nat (l : List ByteArray) (j : Nat) (h : j < l.length) : rdOf ByteArray.empty l (j : Int) = l[j] := by
  unfold rdOf
  simp [List.getD_eq_getElem?_getD, List.getElem?_eq_getElem h]
theorem few_l0 (n : Bool) (parts : List ByteArray) (c a : Int) (f : Bool) (hl : parts.length ≤ 9223372036854775807) : ∀ (d j k : Nat), parts.length - j = d → d < k → j ≤ parts.length →
    vestryref02_Few.l0 k j n parts c a f = some ((parts.drop j).all (fun p => decide (p.size ≤ 50)) && (decide (parts.length ≤ 20) && (decide (-1152921504606846976 < a) && decide (a < 1152921504606846976)))) := by
  intro d
  induction d with
  | zero =>
    intro j k h hk hj
    obtain ⟨k, rfl⟩ : ∃ q, k = q + 1 := ⟨k - 1, by omega⟩
    rw [vestryref02_Few.l0, if_neg (by omega), List.drop_of_length_le (by omega)]
    by_cases h1 : parts.length ≤ 20
    · rw [if_pos (by omega), decide_eq_true h1]
      by_cases h2 : a > -1152921504606846976
      · rw [if_pos h2, decide_eq_true (show -1152921504606846976 < a from h2)]
        rfl
      · rw [if_neg h2, decide_eq_false (show ¬ -1152921504606846976 < a from h2)]
        rfl
    · rw [if_neg (by omega), decide_eq_false h1]
      rfl
  | succ d ih =>
    intro j k h hk hj
    obtain ⟨k, rfl⟩ : ∃ q, k = q + 1 := ⟨k - 1, by omega⟩
    have e : wrap64 ((j : Int) + 1) = ((j + 1 : Nat) : Int) := by rw [IntWalk.wrap64_in _ (by omega)]; omega
    rw [vestryref02_Few.l0, if_pos (by omega), if_pos (by omega), rdOf_nat parts j (by omega), List.drop_eq_getElem_cons (show j < parts.length by omega), List.all_cons, e, ih (j + 1) k (by omega) (by omega) (by omega)]
    by_cases h1 : (parts[j]'(by omega)).size ≤ 50
    · rw [if_neg (by omega), decide_eq_true h1, Bool.true_and]
    · rw [if_pos (by omega), decide_eq_false h1]
      rfl
theorem few_eq (n : Bool) (parts : List ByteArray) (c a : Int) (f : Bool) (hl : parts.length ≤ 9223372036854775807) : vestryref02_Few.f (parts.length + 1) n parts c a f = some (fewP parts a) := by
  have := few_l0 n parts c a f hl parts.length 0 (parts.length + 1) (by omega) (by omega) (by omega)
  simpa [vestryref02_Few.f, fewP] using this
theorem digits_len : ∀ (k : Nat) (u : Nat), u < 10 ^ k → (Lib.decDigits u).length ≤ k + 0 ∨ (Lib.decDigits u).length ≤ 1 := by
  intro k
  induction k with
  | zero =>
    intro u h
    have : u = 0 := by omega
    subst this
    exact .inr (by rw [Lib.decDigits_one (by decide)]; simp)
  | succ k ih =>
    intro u h
    by_cases h3 : u < 10
    · exact .inr (by rw [Lib.decDigits_one h3]; simp)
    · rw [Lib.decDigits, dif_neg h3, List.length_append, List.length_singleton]
      rcases ih (u / 10) (by rw [Nat.pow_succ] at h; omega) with h4 | h4
      · exact .inl (by omega)
      · rcases Nat.eq_zero_or_pos k with h5 | h5
        · subst h5
          exact absurd h (by omega)
        · exact .inl (by omega)
/-- Digits, by the reference's way. -/
theorem decimal_pos : ∀ (k : Nat) (u : Nat), u < 10 ^ k → u < 9223372036854775808 → ∀ (K : Nat), k + 1 ≤ K → vestryref02_Decimal.f K (u : Int) = some ⟨(Lib.decDigits u).toArray⟩ := by
  intro k
  induction k with
  | zero =>
    intro u h1 h2 K hK
    obtain ⟨K, rfl⟩ : ∃ q, K = q + 1 := ⟨K - 1, by omega⟩
    have : u = 0 := by omega
    subst this
    have e : wrap64 ((0 : Nat) + 1 : Int) = 1 := IntWalk.wrap64_in _ (by omega)
    rw [vestryref02_Decimal.f, if_neg (by omega), if_neg (by omega), if_pos (by omega), if_pos (by omega), e, if_pos (by omega), if_pos (by omega), Lib.decDigits_one (by decide)]
    rfl
  | succ k ih =>
    intro u h1 h2 K hK
    obtain ⟨K, rfl⟩ : ∃ q, K = q + 1 := ⟨K - 1, by omega⟩
    rw [vestryref02_Decimal.f, if_neg (by omega), if_neg (by omega)]
    by_cases h3 : u < 10
    · have e : wrap64 ((u : Int) + 1) = (u : Int) + 1 := IntWalk.wrap64_in _ (by omega)
      rw [if_pos (by omega), if_pos (by omega), e, if_pos (by omega), if_pos (by omega), Lib.decDigits_one h3]
      congr 1
      rw [show (u : Int).toNat = u from by omega, show ((u : Int) + 1).toNat = u + 1 from by omega]
      have : ∀ v : Fin 10, (⟨#[48, 49, 50, 51, 52, 53, 54, 55, 56, 57]⟩ : ByteArray).extract v.val (v.val + 1) = ⟨#[UInt8.ofNat (48 + v.val)]⟩ := by decide +kernel
      exact this ⟨u, h3⟩
    · have e1 : Int.tdiv (u : Int) 10 = ((u / 10 : Nat) : Int) := rfl
      have e2 : Int.tmod (u : Int) 10 = ((u % 10 : Nat) : Int) := rfl
      have hm : u % 10 < 10 := Nat.mod_lt _ (by decide)
      have e3 : wrap64 ((u / 10 : Nat) : Int) = ((u / 10 : Nat) : Int) := IntWalk.wrap64_in _ (by omega)
      have e4 : wrap64 (((u % 10 : Nat) : Int) + 1) = ((u % 10 : Nat) : Int) + 1 := IntWalk.wrap64_in _ (by omega)
      have hx : ∀ v : Fin 10, (⟨#[48, 49, 50, 51, 52, 53, 54, 55, 56, 57]⟩ : ByteArray).extract v.val (v.val + 1) = ⟨#[UInt8.ofNat (48 + v.val)]⟩ := by decide +kernel
      have hx2 := hx ⟨u % 10, hm⟩
      simp only at hx2
      rw [if_neg (by omega), e1, e2, e3, ih (u / 10) (by rw [Nat.pow_succ] at h1; omega) (by omega) K (by omega), Option.bind_some, if_pos (by omega), e4, if_pos (by omega), if_pos (by omega),
        show (((u % 10 : Nat) : Int)).toNat = u % 10 from by omega, show (((u % 10 : Nat) : Int) + 1).toNat = u % 10 + 1 from by omega, hx2]
      have hd : Lib.decDigits u = Lib.decDigits (u / 10) ++ [UInt8.ofNat (48 + u % 10)] := by rw [Lib.decDigits, dif_neg h3]
      have hsz : (⟨(Lib.decDigits (u / 10)).toArray⟩ : ByteArray).size ≤ 20 := by
        have := digits_len 19 (u / 10) (by omega)
        show (Lib.decDigits (u / 10)).toArray.size ≤ 20
        simp
        omega
      rw [if_pos (by
        have : (⟨#[UInt8.ofNat (48 + u % 10)]⟩ : ByteArray).size = 1 := rfl
        omega)]
      congr 1
      rw [hd]
      apply ByteArray.ext
      rw [ByteArray.data_append]
      simp
theorem decimal_neg : ∀ (k : Nat) (m : Nat), 1 ≤ m → m < 10 ^ k → m ≤ 9223372036854775808 → ∀ (K : Nat), k + 2 ≤ K → vestryref02_Decimal.f K (-(m : Int)) = some ⟨(45 :: Lib.decDigits m).toArray⟩ := by
  intro k
  induction k with
  | zero => intro m h0 h1; omega
  | succ k ih =>
    intro m h0 h1 h2 K hK
    obtain ⟨K, rfl⟩ : ∃ q, K = q + 1 := ⟨K - 1, by omega⟩
    rw [vestryref02_Decimal.f]
    by_cases h3 : m < 10
    · have e : wrap64 (- -(m : Int)) = (m : Int) := by rw [Int.neg_neg]; exact IntWalk.wrap64_in _ (by omega)
      rw [if_neg (by omega), if_pos (by omega), e, decimal_pos 1 m (by omega) (by omega) K (by omega), Option.bind_some, if_pos (by
        show 1 + (Lib.decDigits m).toArray.size ≤ _
        have := digits_len 1 m (by omega)
        simp
        omega)]
      congr 1
    · have e1 : Int.tdiv (-(m : Int)) 10 = -((m / 10 : Nat) : Int) := by rw [Int.neg_tdiv]; rfl
      have e2 : -(Int.tmod (-(m : Int)) 10) = ((m % 10 : Nat) : Int) := by rw [Int.neg_tmod, Int.neg_neg]; rfl
      have hm : m % 10 < 10 := Nat.mod_lt _ (by decide)
      have e3 : wrap64 (-((m / 10 : Nat) : Int)) = -((m / 10 : Nat) : Int) := IntWalk.wrap64_in _ (by omega)
      have e4 : wrap64 ((m % 10 : Nat) : Int) = ((m % 10 : Nat) : Int) := IntWalk.wrap64_in _ (by omega)
      rw [if_pos (by omega), e1, e2, e3, e4, ih (m / 10) (by omega) (by rw [Nat.pow_succ] at h1; omega) (by omega) K (by omega), Option.bind_some, decimal_pos 1 (m % 10) (by omega) (by omega) K (by omega), Option.bind_some]
      have hd : Lib.decDigits m = Lib.decDigits (m / 10) ++ [UInt8.ofNat (48 + m % 10)] := by rw [Lib.decDigits, dif_neg h3]
      have hl := digits_len 19 (m / 10) (by omega)
      rw [if_pos (by
        show (45 :: Lib.decDigits (m / 10)).toArray.size + (Lib.decDigits (m % 10)).toArray.size ≤ _
        have := digits_len 1 (m % 10) (by omega)
        simp
        omega)]
      congr 1
      rw [hd, Lib.decDigits_one hm]
      apply ByteArray.ext
      rw [ByteArray.data_append]
      simp
theorem decimal_eq (n : Int) (h : I64 n) : vestryref02_Decimal.f 40 n = some (itoaS n) := by
  unfold itoaS Lib.itoa
  obtain ⟨h1, h2⟩ := h
  by_cases hn : n < 0
  · rw [if_pos hn]
    have := decimal_neg 19 n.natAbs (by omega) (by omega) (by omega) 40 (by omega)
    rw [show -((n.natAbs : Nat) : Int) = n from by omega] at this
    exact this
  · rw [if_neg hn]
    have := decimal_pos 19 n.toNat (by omega) (by omega) 40 (by omega)
    rw [show ((n.toNat : Nat) : Int) = n from by omega] at this
    exact this
theorem itoa_size (n : Int) (h : I64 n) : (itoaS n).size ≤ 20 := by
  show (Lib.itoa n).toArray.size ≤ 20
  obtain ⟨h1, h2⟩ := h
  unfold Lib.itoa
  split
  · have := digits_len 19 n.natAbs (by omega)
    simp
    omega
  · have := digits_len 19 n.toNat (by omega)
    simp
    omega
theorem errC_size (n : Int) (h : I64 n) : (errC n).size ≤ 26 := by
  unfold errC
  rw [ByteArray.size_append, show ERR.size = 6 from rfl]
  have := itoa_size n h
  omega
/-- The loop of the reference's text. -/
def wrapL (x : ByteArray) (ps : List ByteArray) : ByteArray := ps.foldl (fun s p => p ++ SEP ++ s) x
theorem txt_rev (c : Int) (ps : List ByteArray) : txt c ps = wrapL (errC c) ps.reverse := by
  induction ps with
  | nil => rfl
  | cons p ps ih =>
    rw [txt, ih]
    unfold wrapL
    rw [List.reverse_cons, List.foldl_append]
    rfl
theorem txt_size (c : Int) (h : I64 c) (ps : List ByteArray) (hp : ∀ p ∈ ps, p.size ≤ 50) : (txt c ps).size ≤ 26 + 52 * ps.length := by
  induction ps with
  | nil => have := errC_size c h; rw [txt, List.length_nil]; omega
  | cons p ps ih =>
    have h1 := ih (fun q hq => hp q (List.mem_cons_of_mem _ hq))
    have h2 := hp p List.mem_cons_self
    rw [txt, ByteArray.size_append, ByteArray.size_append, show SEP.size = 2 from rfl, List.length_cons]
    omega
theorem text_l0 (n : Bool) (parts : List ByteArray) (c a : Int) (f : Bool) (hl : parts.length ≤ 20) (hp : ∀ p ∈ parts, p.size ≤ 50) : ∀ (d j k : Nat) (x : ByteArray), parts.length - j = d → d < k → j ≤ parts.length → x.size ≤ 26 + 52 * j →
    vestryref02_Text.l0 k x j n parts c a f = some (wrapL x (parts.drop j)) := by
  intro d
  induction d with
  | zero =>
    intro j k x h hk hj hx
    obtain ⟨k, rfl⟩ : ∃ q, k = q + 1 := ⟨k - 1, by omega⟩
    rw [vestryref02_Text.l0, if_neg (by omega), List.drop_of_length_le (by omega)]
    rfl
  | succ d ih =>
    intro j k x h hk hj hx
    obtain ⟨k, rfl⟩ : ∃ q, k = q + 1 := ⟨k - 1, by omega⟩
    have e : wrap64 ((j : Int) + 1) = ((j + 1 : Nat) : Int) := by rw [IntWalk.wrap64_in _ (by omega)]; omega
    have hpj := hp (parts[j]'(by omega)) (List.getElem_mem _)
    have hz : ((parts[j]'(by omega)) ++ (⟨#[58, 32]⟩ : ByteArray)).size = (parts[j]'(by omega)).size + 2 := by rw [ByteArray.size_append]; rfl
    rw [vestryref02_Text.l0, if_pos (by omega), if_pos (by omega), rdOf_nat parts j (by omega), if_pos (by omega), if_pos (by omega), e, ih (j + 1) k _ (by omega) (by omega) (by omega) (by rw [ByteArray.size_append, hz]; omega), List.drop_eq_getElem_cons (show j < parts.length by omega)]
    rfl
theorem text_eq (n : Bool) (parts : List ByteArray) (c a : Int) (f : Bool) (hc : I64 c) (hl : parts.length ≤ 20) (hp : ∀ p ∈ parts, p.size ≤ 50) : vestryref02_Text.f 40 n parts c a f = some (txt c parts.reverse) := by
  unfold vestryref02_Text.f
  have hz := itoa_size c hc
  rw [decimal_eq c hc, Option.bind_some, if_pos (by omega)]
  have := text_l0 n parts c a f hl hp parts.length 0 40 (errC c) (by omega) (by omega) (by omega) (by have := errC_size c hc; omega)
  rw [txt_rev, List.reverse_reverse]
  simpa [errC, ERR] using this
end Go.Proofs.YtmnfemdcccpmfaaDoor.HFaultP
