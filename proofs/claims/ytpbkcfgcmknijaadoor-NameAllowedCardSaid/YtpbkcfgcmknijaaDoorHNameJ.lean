/- Names, plain: texts of objects and of allowed types lead back. -/
import Derived.Test.YtpbkcfgcmknijaaDoorHNameR
import Derived.Test.YtpbkcfgcmknijaaDoorHName4
namespace Go.Proofs.YtpbkcfgcmknijaaDoor.HNameJ
open Go.RowKit Go.Proofs.YtpbkcfgcmknijaaDoorW.PrintWords Go.Proofs.YtpbkcfgcmknijaaDoor.HNameP Go.Proofs.YtpbkcfgcmknijaaDoor.HNameR Go.Proofs.YtpbkcfgcmknijaaDoor.HName
set_option linter.unusedVariables false

theorem bt_left (a b : ByteArray) (i : Nat) (h : i < a.size) : bt (a ++ b) i = bt a i := by
  rw [← bt_at (a ++ b) i (by simp [ByteArray.size_append]; omega), ← bt_at a i (by simpa using h)]
  congr 2
  simp only [Int.toNat_natCast]
  exact ByteArray.getElem_append_left h
theorem bt_right (a b : ByteArray) (i : Nat) (h : i < b.size) : bt (a ++ b) ((a.size + i : Nat) : Int) = bt b i := by
  rw [← bt_at (a ++ b) ((a.size + i : Nat) : Int) (by simp [ByteArray.size_append]; omega), ← bt_at b i (by simpa using h)]
  congr 2
  simp only [Int.toNat_natCast]
  rw [ByteArray.getElem_append_right (by omega)]
  simp
theorem ext_left (a b : ByteArray) : (a ++ b).extract 0 a.size = a := by
  rw [ByteArray.extract_append]
  simp
theorem ext_right (a b : ByteArray) : (a ++ b).extract a.size (a ++ b).size = b := by
  rw [ByteArray.extract_append, ByteArray.size_append, ByteArray.extract_eq_empty_iff.2 (by omega)]
  simp
theorem find_append (t b : ByteArray) (c : Int) (hc : 0 ≤ c ∧ c ≤ 255) (ht : ∀ i : Nat, i < t.size → bt t i ≠ c) (hb : 0 < b.size) (h0 : bt b 0 = c) : findP (t ++ b) c = t.size := by
  refine find_hit t.size (by rw [ByteArray.size_append]; omega) hc ?_ (fun i hi => ?_)
  · have := bt_right t b 0 hb
    rw [Nat.add_zero] at this
    rw [this]
    exact h0
  · rw [bt_left t b i hi]
    exact ht i hi
theorem name_no (t : ByteArray) (c : Int) (hn : nameC c = false) (h : isP t = true) (i : Nat) (hi : i < t.size) : bt t i ≠ c := by
  intro e
  simp only [isP, Bool.and_eq_true] at h
  have := List.all_eq_true.1 h.2.2.2.1 i (List.mem_range.2 hi)
  rw [e, hn] at this
  cases this
theorem join_size (t d : ByteArray) (c : UInt8) : (t ++ ⟨#[c]⟩ ++ d).size = t.size + 1 + d.size := by
  rw [ByteArray.size_append, ByteArray.size_append]
  rfl
theorem join_find (t d : ByteArray) (c : UInt8) (ht : ∀ i : Nat, i < t.size → bt t i ≠ (c.toNat : Int)) : findP (t ++ ⟨#[c]⟩ ++ d) c.toNat = t.size := by
  rw [ByteArray.append_assoc]
  have hc := c.toNat_lt
  refine find_append t _ _ (by omega) ht (by rw [ByteArray.size_append]; have : (⟨#[c]⟩ : ByteArray).size = 1 := rfl; omega) ?_
  have := bt_left ⟨#[c]⟩ d 0 (by show 0 < 1; decide)
  rw [show ((0 : Nat) : Int) = 0 from rfl] at this
  rw [this]
  rfl
theorem join_left (t d : ByteArray) (c : UInt8) : (t ++ ⟨#[c]⟩ ++ d).extract 0 t.size = t := by
  rw [ByteArray.append_assoc]
  exact ext_left _ _
theorem join_right (t d : ByteArray) (c : UInt8) : (t ++ ⟨#[c]⟩ ++ d).extract (t.size + 1) (t ++ ⟨#[c]⟩ ++ d).size = d := by
  have := ext_right (t ++ ⟨#[c]⟩) d
  rw [show (t ++ (⟨#[c]⟩ : ByteArray)).size = t.size + 1 from by rw [ByteArray.size_append]; rfl] at this
  exact this
theorem parseO_join (t d : ByteArray) (h1 : isP t = true) (h2 : idP d = true) : parseO (t ++ ⟨#[58]⟩ ++ d) = (t, d, none) := by
  have hf : findP (t ++ ⟨#[58]⟩ ++ d) 58 = t.size := join_find t d 58 (name_no t 58 (by decide) h1)
  unfold parseO
  rw [hf, if_neg (by omega), show ((t.size : Nat) : Int).toNat = t.size from by omega, show ((t.size : Int) + 1).toNat = t.size + 1 from by omega, join_left, join_right, if_neg (by rw [h1]; simp), if_neg (by rw [h2]; simp)]
theorem parseA_join (t d : ByteArray) (h1 : isP t = true) (h2 : isP d = true) : parseA (t ++ ⟨#[35]⟩ ++ d) = (t, d, none) := by
  have hf : findP (t ++ ⟨#[35]⟩ ++ d) 35 = t.size := join_find t d 35 (name_no t 35 (by decide) h1)
  have hc : cutP (t ++ ⟨#[35]⟩ ++ d) 35 = (t, d, true) := by
    unfold cutP
    rw [hf, if_neg (show ¬ ((t.size : Nat) : Int) = -1 by omega), show ((t.size : Nat) : Int).toNat = t.size from by omega, show ((t.size : Int) + 1).toNat = t.size + 1 from by omega, join_left, join_right]
  unfold parseA
  rw [hc, if_neg (by rw [h1]; simp), if_neg (by rw [h2]; simp)]
theorem parseA_one (t : ByteArray) (h1 : isP t = true) : parseA t = (t, ⟨#[]⟩, none) := by
  have hf : findP t 35 = -1 := find_miss (by decide) (name_no t 35 (by decide) h1)
  unfold parseA cutP
  rw [hf, if_pos rfl, if_neg (by rw [h1]; simp), if_neg (by simp)]
theorem empty_of_size {d : ByteArray} (h : d.size = 0) : d = ⟨#[]⟩ := ByteArray.ext (Array.eq_empty_of_size_eq_zero h)
end Go.Proofs.YtpbkcfgcmknijaaDoor.HNameJ
