/- cmp.Compare at strings; the order of strings. -/
import Derived.Test.YtpbkcfgcmknijaaDoorHLib
import Derived.Laws.Cover1
namespace Go.Proofs.YtpbkcfgcmknijaaDoor.HCmp
open Go.RowKit Go.Proofs.YtpbkcfgcmknijaaDoorW.PrintWords Go.Proofs.YtpbkcfgcmknijaaDoor.HLib
set_option linter.unusedVariables false
set_option linter.unusedSimpArgs false

/-- The order of bytes, one by one. -/
def cmpL : List UInt8 → List UInt8 → Int
  | [], [] => 0
  | [], _ :: _ => -1
  | _ :: _, [] => 1
  | x :: xs, y :: ys => if x < y then -1 else if y < x then 1 else cmpL xs ys
def cmpS (a b : ByteArray) : Int := cmpL a.toList b.toList

theorem cmpL_self (a : List UInt8) : cmpL a a = 0 := by
  induction a with
  | nil => rfl
  | cons x xs ih => rw [cmpL, if_neg (UInt8.lt_irrefl x), if_neg (UInt8.lt_irrefl x), ih]
theorem cmpL_zero : ∀ {a b : List UInt8}, cmpL a b = 0 → a = b
  | [], [], _ => rfl
  | [], _ :: _, h => by simp [cmpL] at h
  | _ :: _, [], h => by simp [cmpL] at h
  | x :: xs, y :: ys, h => by
    rw [cmpL] at h
    split at h
    · cases h
    · split at h
      · cases h
      · rename_i h1 h2
        have e : x = y := UInt8.le_antisymm (UInt8.not_lt.1 h2) (UInt8.not_lt.1 h1)
        rw [e, cmpL_zero h]
theorem cmpL_range : ∀ (a b : List UInt8), cmpL a b = -1 ∨ cmpL a b = 0 ∨ cmpL a b = 1
  | [], [] => .inr (.inl rfl)
  | [], _ :: _ => .inl rfl
  | _ :: _, [] => .inr (.inr rfl)
  | x :: xs, y :: ys => by
    rw [cmpL]
    split
    · exact .inl rfl
    · split
      · exact .inr (.inr rfl)
      · exact cmpL_range xs ys
theorem cmpL_swap : ∀ (a b : List UInt8), cmpL b a = - cmpL a b
  | [], [] => rfl
  | [], _ :: _ => rfl
  | _ :: _, [] => rfl
  | x :: xs, y :: ys => by
    rw [cmpL, cmpL]
    by_cases h1 : x < y
    · rw [if_pos h1, if_neg (UInt8.lt_asymm h1), if_pos h1]
      rfl
    · by_cases h2 : y < x
      · rw [if_pos h2, if_neg h1, if_pos h2]
      · rw [if_neg h1, if_neg h2, if_neg h1, if_neg h2]
        exact cmpL_swap xs ys
theorem cmpL_trans : ∀ (a b c : List UInt8), cmpL a b ≤ 0 → cmpL b c ≤ 0 → cmpL a c ≤ 0
  | [], _, [], _, _ => by decide
  | [], _, _ :: _, _, _ => by simp [cmpL]
  | _ :: _, [], _, h, _ => by simp [cmpL] at h
  | _ :: _, _ :: _, [], _, h => by simp [cmpL] at h
  | x :: xs, y :: ys, z :: zs, h1, h2 => by
    rw [cmpL] at h1 h2 ⊢
    by_cases a1 : x < y
    · by_cases b1 : y < z
      · rw [if_pos (UInt8.lt_trans a1 b1)]; decide
      · rw [if_neg b1] at h2
        by_cases b2 : z < y
        · rw [if_pos b2] at h2; exact absurd h2 (by decide)
        · have e : y = z := UInt8.le_antisymm (UInt8.not_lt.1 b2) (UInt8.not_lt.1 b1)
          rw [if_pos (e ▸ a1)]; decide
    · rw [if_neg a1] at h1
      by_cases a2 : y < x
      · rw [if_pos a2] at h1; exact absurd h1 (by decide)
      · rw [if_neg a2] at h1
        have e : x = y := UInt8.le_antisymm (UInt8.not_lt.1 a2) (UInt8.not_lt.1 a1)
        subst e
        by_cases b1 : x < z
        · rw [if_pos b1]; decide
        · rw [if_neg b1] at h2 ⊢
          by_cases b2 : z < x
          · rw [if_pos b2] at h2; exact absurd h2 (by decide)
          · rw [if_neg b2] at h2 ⊢
            exact cmpL_trans xs ys zs h1 h2
theorem less_cmp : ∀ (a b : List UInt8), Op.bytesLess a b = decide (cmpL a b = -1)
  | [], [] => rfl
  | [], _ :: _ => rfl
  | _ :: _, [] => rfl
  | x :: xs, y :: ys => by
    rw [cmpL, Op.bytesLess]
    by_cases h1 : x < y
    · simp [h1]
    · by_cases h2 : y < x
      · have hne : x ≠ y := fun e => UInt8.lt_irrefl y (e ▸ h2)
        simp [h1, h2, hne]
      · have e : x = y := UInt8.le_antisymm (UInt8.not_lt.1 h2) (UInt8.not_lt.1 h1)
        subst e
        simp [UInt8.lt_irrefl, less_cmp xs ys]

theorem cmpS_zero {a b : ByteArray} (h : cmpS a b = 0) : a = b := by
  have := cmpL_zero h
  rw [ByteArray.toList_eq, ByteArray.toList_eq] at this
  exact ByteArray.ext (Array.toList_inj.mp this)
theorem cmpS_self (a : ByteArray) : cmpS a a = 0 := cmpL_self _
theorem cmpS_swap (a b : ByteArray) : cmpS b a = - cmpS a b := cmpL_swap _ _
theorem cmpS_range (a b : ByteArray) : cmpS a b = -1 ∨ cmpS a b = 0 ∨ cmpS a b = 1 := cmpL_range _ _

theorem isnan_any (a : ByteArray) (w : World) : Calls Tryd.prog 45 #[.string a] w fun e w' => e = .returned (.bool false) ∧ w = w' := by
  go_enter Tryd.func45, Tryd.ntmps45
  go_wp2
  go_ret
  exact ⟨rfl, rfl⟩
theorem cmp_any (a b : ByteArray) (w : World) : Calls Tryd.prog 38 #[.string a, .string b] w fun e w' => e = .returned (.int .i64 (cmpS a b)) ∧ w = w' := by
  obtain ⟨L, hL⟩ : ∃ L, L = Op.bytesLess a.toList b.toList := ⟨_, rfl⟩
  obtain ⟨Q, hQ⟩ : ∃ Q, Q = (a.toList == b.toList) := ⟨_, rfl⟩
  have hR : cmpS a b = (if L = true then -1 else if Q = true then 0 else 1) := by
    have h1 := less_cmp a.toList b.toList
    rw [← hL] at h1
    unfold cmpS
    rcases cmpL_range a.toList b.toList with h | h | h
    · rw [if_pos (by rw [h1, h]; rfl), h]
    · rw [if_neg (by rw [h1, h]; decide), if_pos (by rw [hQ, cmpL_zero h]; simp), h]
    · rw [if_neg (by rw [h1, h]; decide), if_neg (fun q => by
        rw [hQ, beq_iff_eq] at q
        rw [q, cmpL_self] at h
        exact absurd h (by decide)), h]
  have HL := Aside0.mk hL
  have HQ := Aside0.mk hQ
  have HR := Aside0.mk hR
  clear hL hQ hR
  have e1 : ∀ (P : Program) (W : World), (binOp .lss 9 (.string a) (.string b)).run P W = .ok (.bool L) W := fun P W => by rw [HL.out, binOp_string_lss]; rfl
  have e2 : ∀ (P : Program) (W : World), (binOp .gtr 9 (.string a) (.string b)).run P W = .ok (.bool !(L || Q)) W := fun P W => by rw [HL.out, HQ.out, binOp_string_gtr]; rfl
  cases L with
  | true =>
    go_enter Tryd.func38, Tryd.ntmps38
    go_wp2_with fail
    refine (isnan_any _ _).mono ?_
    rintro e w1 ⟨rfl, rfl⟩
    go_wp2_with fail
    refine (isnan_any _ _).mono ?_
    rintro e w1 ⟨rfl, rfl⟩
    have z := HL.out.symm
    go_wp2
    go_ret
    exact ⟨by rw [HR.out]; rfl, rfl⟩
  | false =>
    cases Q with
    | true =>
      go_enter Tryd.func38, Tryd.ntmps38
      go_wp2_with fail
      refine (isnan_any _ _).mono ?_
      rintro e w1 ⟨rfl, rfl⟩
      go_wp2_with fail
      refine (isnan_any _ _).mono ?_
      rintro e w1 ⟨rfl, rfl⟩
      have z := HL.out.symm
      have z2 := HQ.out.symm
      go_wp2
      go_ret
      exact ⟨by rw [HR.out]; rfl, rfl⟩
    | false =>
      go_enter Tryd.func38, Tryd.ntmps38
      go_wp2_with fail
      refine (isnan_any _ _).mono ?_
      rintro e w1 ⟨rfl, rfl⟩
      go_wp2_with fail
      refine (isnan_any _ _).mono ?_
      rintro e w1 ⟨rfl, rfl⟩
      have z := HL.out.symm
      have z2 := HQ.out.symm
      go_wp2
      go_ret
      exact ⟨by rw [HR.out]; rfl, rfl⟩

end Go.Proofs.YtpbkcfgcmknijaaDoor.HCmp
