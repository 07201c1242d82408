/- Paddings: the printed functions, and what they answer. -/
import Derived.Test.YthhckkfdcnddfaaDoorHShaS
import Derived.Test.YthhckkfdcnddfaaDoorPMacChecksx1
namespace Go.Proofs.YthhckkfdcnddfaaDoor.HShaP
open Go.RowKit Go.Proofs.YthhckkfdcnddfaaDoorW.PrintWords Go.Proofs.YthhckkfdcnddfaaDoorW.PrintMore Go.Proofs.YthhckkfdcnddfaaDoor.HLib Go.Proofs.YthhckkfdcnddfaaDoor.HSha Go.Proofs.YthhckkfdcnddfaaDoor.PMacChecks
set_option linter.unusedVariables false

def bytes8 (n : Int) : List Int := (List.range 8).map fun (i : Nat) => n * 8 / 2 ^ (56 - 8 * i) % 256
def padz (n : Int) : Nat := ((119 - n % 64) % 64).toNat
def padP (n : Int) : List Int := (128 :: List.replicate (padz n) 0) ++ bytes8 n

theorem bytes8_len (n : Int) : (bytes8 n).length = 8 := by simp [bytes8]
theorem bytes8_get (n : Int) (i : Nat) (h : i < 8) : (bytes8 n).getD i 0 = n * 8 / 2 ^ (56 - 8 * i) % 256 := by
  rw [List.getD_eq_getElem?_getD, List.getElem?_eq_getElem (by rw [bytes8_len]; exact h)]
  simp [bytes8]
theorem put_list (b : List Int) (j : Nat) (h : j < b.length) : (b.take j ++ List.replicate (b.length - j) 0).set j (b.getD j 0) = b.take (j + 1) ++ List.replicate (b.length - (j + 1)) 0 := by
  have hl : (b.take j).length = j := by rw [List.length_take]; omega
  rw [List.set_append_right (h := by omega), hl, Nat.sub_self, show b.length - j = (b.length - (j + 1)) + 1 from by omega, List.replicate_succ, List.set_cons_zero, List.take_add_one, List.append_assoc, List.getD_eq_getElem?_getD, List.getElem?_eq_getElem h]
  rfl

def row (n : Int) (i : Nat) : List Int := (128 :: List.replicate (padz n) 0) ++ ((bytes8 n).take i ++ List.replicate (8 - i) 0)
theorem row_len (n : Int) (i : Nat) (h : i ≤ 8) : (row n i).length = padz n + 9 := by simp [row, bytes8_len]; omega
theorem row_set (n : Int) (i : Nat) (h : i < 8) : (row n i).set (1 + padz n + i) (n * 8 / 2 ^ (56 - 8 * i) % 256) = row n (i + 1) := by
  have hb := bytes8_len n
  have := put_list (bytes8 n) i (by omega)
  rw [bytes8_get n i h, hb] at this
  unfold row
  rw [List.set_append_right (h := by simp; omega), ← this]
  congr 2
  simp
  omega
theorem padz_lt (n : Int) : padz n < 64 := by unfold padz; omega

theorem pad_step (n : Int) (h0 : 0 ≤ n) (h1 : n ≤ 4294967296) : ∀ d i : Nat, i + d = 8 → sha_Padding.l0 (d + 1) n (padz n : Int) (row n i) i = some (row n 8) := by
  intro d
  induction d with
  | zero =>
    intro i hi
    obtain rfl : i = 8 := by omega
    simp [sha_Padding.l0]
  | succ d ih =>
    intro i hi
    have hz := padz_lt n
    have e1 : wrap64 (8 * (i : Int)) = 8 * i := IntWalk.wrap64_in _ (by omega)
    have e2 : wrap64 (56 - 8 * (i : Int)) = 56 - 8 * i := IntWalk.wrap64_in _ (by omega)
    have e3 : wrap64 (1 + (padz n : Int)) = 1 + padz n := IntWalk.wrap64_in _ (by omega)
    have e4 : wrap64 (1 + (padz n : Int) + i) = 1 + padz n + i := IntWalk.wrap64_in _ (by omega)
    have e5 : wrap64 (n * 8) = n * 8 := IntWalk.wrap64_in _ (by omega)
    have e6 : wrap64 ((i : Int) + 1) = ((i + 1 : Nat) : Int) := by rw [IntWalk.wrap64_in _ (by omega)]; omega
    have e7 : shr .i64 (n * 8) (56 - 8 * (i : Int)) % 256 = n * 8 / 2 ^ (56 - 8 * i) % 256 := by
      rw [shr, show min (56 - 8 * (i : Int)).toNat IntKind.i64.bits = 56 - 8 * i from by
        have : IntKind.i64.bits = 64 := rfl
        omega]
    rw [sha_Padding.l0, if_pos (by omega), e1, e2, if_pos (by omega), e3, e4, if_pos (by omega), row_len n i (by omega), if_pos (by omega), e5, e6, e7, show (1 + (padz n : Int) + i).toNat = 1 + padz n + i from by omega, row_set n i (by omega)]
    exact ih (i + 1) (by omega)

theorem pad_f (n : Int) (h0 : 0 ≤ n) (h1 : n ≤ 4294967296) : sha_Padding.f 9 n = some (padP n) := by
  have hz := padz_lt n
  have e1 : Int.tmod n 64 = n % 64 := Int.tmod_eq_emod_of_nonneg h0
  have e2 : wrap64 (119 - n % 64) = 119 - n % 64 := IntWalk.wrap64_in _ (by omega)
  have e3 : Int.tmod (119 - n % 64) 64 = (padz n : Int) := by rw [Int.tmod_eq_emod_of_nonneg (by omega), padz]; omega
  have e4 : wrap64 (1 + (padz n : Int)) = 1 + padz n := IntWalk.wrap64_in _ (by omega)
  have e5 : wrap64 (1 + (padz n : Int) + 8) = padz n + 9 := by rw [IntWalk.wrap64_in _ (by omega)]; omega
  rw [sha_Padding.f, e1, e2, e3, e4, e5, if_pos (by omega), if_pos (by omega)]
  simp only [Option.bind_some, List.length_replicate]
  rw [if_pos (by omega)]
  have e6 : (List.replicate ((padz n : Int) + 9).toNat (0 : Int)).set (0 : Int).toNat 128 = row n 0 := by
    rw [show ((padz n : Int) + 9).toNat = (padz n + 8) + 1 from by omega, List.replicate_succ, show (0 : Int).toNat = 0 from rfl, List.set_cons_zero, row, List.take_zero, List.nil_append, List.cons_append, List.replicate_append_replicate]
  rw [e6]
  have := pad_step n h0 h1 8 0 rfl
  rw [show row n 8 = padP n from by rw [row, padP, List.take_of_length_le (by rw [bytes8_len]; omega), List.replicate_zero, List.append_nil]] at this
  exact this

theorem padding_any (n : Int) (w : World) (h0 : 0 ≤ n) (h1 : n ≤ 4294967296) :
    Calls Tryd.prog 26 #[.int .i64 n] w fun e w' => ∃ v, e = .returned v ∧ Kd.R (Kd.int .u8) 5 w' w.heap.size (fun _ => True) v (padP n) ∧ Below w.heap.size w w' := sha_Padding.calls 9 n _ w (pad_f n h0 h1)

/-! The reference's. -/
theorem rpad_l1 (n : Int) (h0 : 0 ≤ n) (h1 : n ≤ 4294967296) (p : List Int) (hp : p.length ≤ 1000) : ∀ d i : Nat, i + d = 8 → vestryref06_Padding.l1 (d + 1) (p ++ (bytes8 n).take i) (n * 8) (7 - (i : Int)) = some (p ++ bytes8 n) := by
  intro d
  induction d with
  | zero =>
    intro i hi
    obtain rfl : i = 8 := by omega
    rw [vestryref06_Padding.l1, if_neg (by omega), List.take_of_length_le (by rw [bytes8_len]; omega)]
  | succ d ih =>
    intro i hi
    have hb := bytes8_len n
    have e1 : wrap64 (8 * (7 - (i : Int))) = 56 - 8 * i := by rw [IntWalk.wrap64_in _ (by omega)]; omega
    have e2 : IntKind.u64.wrap (56 - 8 * (i : Int)) = 56 - 8 * i := by rw [IntKind.wrap_u64]; omega
    have e3 : wrap64 (7 - (i : Int) - 1) = 7 - ((i + 1 : Nat) : Int) := by rw [IntWalk.wrap64_in _ (by omega)]; omega
    have e4 : shr .u64 (n * 8) (56 - 8 * (i : Int)) % 256 = (bytes8 n).getD i 0 := by
      rw [bytes8_get n i (by omega), shr, show min (56 - 8 * (i : Int)).toNat IntKind.u64.bits = 56 - 8 * i from by
        have : IntKind.u64.bits = 64 := rfl
        omega]
    rw [vestryref06_Padding.l1, if_pos (by omega), e1, e2, if_pos (by omega), if_pos (by rw [List.length_append, List.length_take]; omega), e3, e4, List.append_assoc]
    have e5 : (bytes8 n).take i ++ [(bytes8 n).getD i 0] = (bytes8 n).take (i + 1) := by
      rw [List.take_add_one, List.getElem?_eq_getElem (show i < (bytes8 n).length by omega), List.getD_eq_getElem?_getD, List.getElem?_eq_getElem (show i < (bytes8 n).length by omega)]
      rfl
    rw [e5]
    exact ih (i + 1) (by omega)
theorem rpad_l0 (n : Int) (h0 : 0 ≤ n) (h1 : n ≤ 4294967296) : ∀ d i : Nat, i + d = padz n → vestryref06_Padding.l0 (d + 10) n (128 :: List.replicate i 0) = some (padP n) := by
  intro d
  induction d with
  | zero =>
    intro i hi
    have hz := padz_lt n
    have e0 : (128 :: List.replicate i (0 : Int)).length = i + 1 := by simp
    have e1 : wrap64 (n + ((i + 1 : Nat) : Int)) = n + i + 1 := by rw [IntWalk.wrap64_in _ (by omega)]; omega
    have e2 : wrap64 (n + i + 1 + 8) = n + i + 9 := by rw [IntWalk.wrap64_in _ (by omega)]; omega
    have e3 : Int.tmod (n + i + 9) 64 = 0 := by rw [Int.tmod_eq_emod_of_nonneg (by omega)]; unfold padz at hi; omega
    have e4 : IntKind.u64.wrap n = n := by rw [IntKind.wrap_u64]; omega
    have e5 : IntKind.u64.wrap (n * 8) = n * 8 := by rw [IntKind.wrap_u64]; omega
    rw [vestryref06_Padding.l0, e0, e1, e2, if_pos e3, e4, e5]
    have := rpad_l1 n h0 h1 (128 :: List.replicate i (0 : Int)) (by rw [e0]; omega) 8 0 rfl
    rw [List.take_zero, List.append_nil] at this
    rw [padP, ← hi]
    exact this
  | succ d ih =>
    intro i hi
    have hz := padz_lt n
    have e0 : (128 :: List.replicate i (0 : Int)).length = i + 1 := by simp
    have e1 : wrap64 (n + ((i + 1 : Nat) : Int)) = n + i + 1 := by rw [IntWalk.wrap64_in _ (by omega)]; omega
    have e2 : wrap64 (n + i + 1 + 8) = n + i + 9 := by rw [IntWalk.wrap64_in _ (by omega)]; omega
    have e3 : ¬ Int.tmod (n + i + 9) 64 = 0 := by rw [Int.tmod_eq_emod_of_nonneg (by omega)]; unfold padz at hi; omega
    rw [show d + 1 + 10 = (d + 10) + 1 from by omega, vestryref06_Padding.l0, e0, e1, e2, if_neg e3, if_pos (by omega), List.cons_append, ← List.replicate_succ']
    exact ih (i + 1) (by omega)
theorem refpadding_any (n : Int) (w : World) (h0 : 0 ≤ n) (h1 : n ≤ 4294967296) :
    Calls Tryd.prog 28 #[.int .i64 n] w fun e w' => ∃ v, e = .returned v ∧ Kd.R (Kd.int .u8) 5 w' w.heap.size (fun _ => True) v (padP n) ∧ Below w.heap.size w w' :=
  vestryref06_Padding.calls (padz n + 10) n _ w (by
    have := rpad_l0 n h0 h1 (padz n) 0 (Nat.zero_add _)
    exact this)
theorem padP_len (n : Int) : (padP n).length = padz n + 9 := by simp [padP, bytes8_len]
theorem padP_full (n : Int) (h0 : 0 ≤ n) : (n + (padP n).length) % 64 = 0 := by rw [padP_len, padz]; omega
theorem padP_byte (n : Int) : ∀ x ∈ padP n, 0 ≤ x ∧ x < 256 := by
  intro x hx
  rw [padP, List.cons_append, List.mem_cons] at hx
  rcases hx with rfl | hx
  · decide
  · rcases List.mem_append.1 hx with hx | hx
    · rw [List.eq_of_mem_replicate hx]; decide
    · obtain ⟨i, _, rfl⟩ := List.mem_map.1 hx
      omega

end Go.Proofs.YthhckkfdcnddfaaDoor.HShaP
