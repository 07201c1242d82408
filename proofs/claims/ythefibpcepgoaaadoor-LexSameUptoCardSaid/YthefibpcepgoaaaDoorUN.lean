/- Lines and columns: lex.Line and the reference's. -/
import Derived.Test.YthefibpcepgoaaaDoorHLexJ
import Derived.Test.YthefibpcepgoaaaDoorHLib
import Derived.Test.YthefibpcepgoaaaDoorUQ
import Derived.Test.YthefibpcepgoaaaDoorShelf
namespace Go.Proofs.YthefibpcepgoaaaDoor.HLexN
open Go.RowKit Go.Proofs.YthefibpcepgoaaaDoorW.PrintWords Go.Proofs.YthefibpcepgoaaaDoor.HLib Go.Proofs.YthefibpcepgoaaaDoor.HLexP Go.Proofs.YthefibpcepgoaaaDoor.HLexJ Go.Proofs.YthefibpcepgoaaaDoor.HPl
set_option linter.unusedVariables false
set_option linter.unusedSimpArgs false

def lastP (s : ByteArray) : Nat → Int
  | 0 => -1
  | j + 1 => if bt s j = 10 then (j : Int) else lastP s j
def cntP (s : ByteArray) : Nat → Nat
  | 0 => 0
  | j + 1 => if bt s j = 10 then cntP s j + 1 else cntP s j
def lineP (s : ByteArray) (a : Int) : Int × Int := if a < 0 ∨ (s.size : Int) < a then (0, 0) else ((cntP s a.toNat : Int) + 1, a - lastP s a.toNat)
theorem lastP_range (s : ByteArray) : ∀ n : Nat, -1 ≤ lastP s n ∧ lastP s n < n := by
  intro n
  induction n with
  | zero => simp [lastP]
  | succ n ih => rw [lastP]; split <;> omega
theorem cntP_le (s : ByteArray) : ∀ n : Nat, cntP s n ≤ n := by
  intro n
  induction n with
  | zero => simp [cntP]
  | succ n ih => rw [cntP]; split <;> omega
theorem front_list (s : ByteArray) (n : Nat) : (s.extract 0 n).data.toList = s.data.toList.take n := by
  rw [ByteArray.data_extract, Array.toList_extract]
  simp [List.extract_eq_take_drop]
theorem cnt_lib (s : ByteArray) : ∀ n : Nat, n ≤ s.size → Lib.countByte (s.extract 0 n).data.toList 10 = cntP s n := by
  intro n
  induction n with
  | zero => intro _; rw [front_list]; simp [Lib.countByte, cntP]
  | succ n ih =>
    intro h
    have hn := ih (by omega)
    rw [front_list] at hn ⊢
    have hl : n < s.data.toList.length := by rw [data_length]; omega
    rw [List.take_succ_eq_append_getElem hl, Lib.countByte, List.count_append]
    unfold Lib.countByte at hn
    rw [hn, cntP]
    have hb : bt s n = (s.data.toList[n].toNat : Int) := by
      have hn' : ((n : Nat) : Int).toNat < s.size := by simp only [Int.toNat_natCast]; omega
      unfold bt
      rw [dif_pos hn']
      rfl
    by_cases h10 : bt s n = 10
    · rw [if_pos h10]
      have : s.data.toList[n] = 10 := by
        apply UInt8.toNat_inj.1
        rw [hb] at h10
        exact Int.ofNat.inj h10
      rw [this]
      simp
    · rw [if_neg h10]
      have : s.data.toList[n] ≠ 10 := fun e => h10 (by rw [hb, e]; rfl)
      rw [List.count_singleton, if_neg (by simpa using this), Nat.add_zero]
theorem last_lib (s : ByteArray) (n : Nat) (h : n ≤ s.size) : ∀ k : Nat, k ≤ n → Lib.lastIdx (s.extract 0 n) 10 k = lastP s k := by
  intro k
  induction k with
  | zero => intro _; rfl
  | succ k ih =>
    intro hk
    have hsz : (s.extract 0 n).size = n := by rw [ByteArray.size_extract]; omega
    have hb : (((s.extract 0 n).data[k]!).toNat : Int) = bt s k := by
      rw [← Nat.zero_add k, ← bt_ext s 0 n h k (by omega)]
      unfold bt
      have hk' : ((k : Nat) : Int).toNat < (s.extract 0 n).size := by simp only [Int.toNat_natCast]; omega
      rw [dif_pos hk', Nat.zero_add]
      rw [getElem!_pos (s.extract 0 n).data k (by have : (s.extract 0 n).data.size = n := hsz; omega)]
      rfl
    rw [Lib.lastIdx, lastP, hb, ih (by omega)]
set_option maxHeartbeats 1000000 in
theorem line_any (s : ByteArray) (a : Int) (hs : s.size ≤ 100000) (w : World) : Calls Tryd.prog 17 #[.string s, .int .i64 a] w fun e w' => e = .returned (.tuple #[.int .i64 (lineP s a).1, .int .i64 (lineP s a).2]) ∧ Below w.heap.size w w' := by
  by_cases c1 : a < 0
  · have d1 : decide (a < 0) = true := decide_eq_true c1
    rw [lineP, if_pos (.inl c1)]
    clear c1
    go_enter Tryd.func17, Tryd.ntmps17
    go_wp2
    go_ret2
    exact ⟨rfl, B0 w⟩
  · have d1 : decide (a < 0) = false := decide_eq_false c1
    by_cases c2 : (s.size : Int) < a
    · have d2 : decide ((s.size : Int) < a) = true := decide_eq_true c2
      rw [lineP, if_pos (.inr c2)]
      clear c1
      go_enter Tryd.func17, Tryd.ntmps17
      go_wp2
      go_ret2
      exact ⟨rfl, B0 w⟩
    · have d2 : decide ((s.size : Int) < a) = false := decide_eq_false c2
      rw [lineP, if_neg (by omega)]
      obtain ⟨n, rfl⟩ := Int.eq_ofNat_of_zero_le (show 0 ≤ a by omega)
      have hn : n ≤ s.size := by omega
      have hfs : (s.extract 0 n).size = n := by rw [ByteArray.size_extract]; omega
      have HC := Aside0.mk (cnt_lib s n hn)
      have HL := Aside0.mk (show Lib.lastIndexByte (s.extract 0 n) 10 = lastP s n from by rw [Lib.lastIndexByte, hfs]; exact last_lib s n hn n (Nat.le_refl _))
      have HF := Aside0.mk hfs
      have hr := lastP_range s n
      have hcl := cntP_le s n
      have hS := hs
      simp only [Int.toNat_natCast]
      obtain ⟨C, hC⟩ : ∃ C, C = cntP s n := ⟨_, rfl⟩
      obtain ⟨L, hL⟩ : ∃ L, L = lastP s n := ⟨_, rfl⟩
      rw [← hC] at HC hcl ⊢
      rw [← hL] at HL hr ⊢
      have hr1 := hr.1
      have hr2 := hr.2
      have hw1 : wrap64 ((C : Int) + 1) = (C : Int) + 1 := IntWalk.wrap64_in _ (by omega)
      have hw2 : wrap64 ((n : Int) - L) = (n : Int) - L := IntWalk.wrap64_in _ (by omega)
      clear hfs hC hL hr
      go_enter Tryd.func17, Tryd.ntmps17
      go_wp2_with fail
      refine (Tryd.strings_Count_one (s.extract 0 n) 10 w).mono ?_
      rintro e w1 ⟨rfl, rfl⟩
      rw [HC.out]
      go_wp2_with fail
      refine (Tryd.strings_LastIndexByte (s.extract 0 n) 10 (by rw [HF.out]; omega) _).mono ?_
      rintro e w1 ⟨rfl, rfl⟩
      rw [HL.out]
      go_wp2
      go_ret2
      exact ⟨rfl, B0 _⟩
theorem line_l0 (s : ByteArray) (n : Nat) (hn : n ≤ s.size) (hs : s.size ≤ 100000) : ∀ (d j k : Nat), n - j = d → d < k → j ≤ n → vestryref09_Line.l0 k s n ((cntP s j : Int) + 1) ((j : Int) - lastP s j) j = some ((cntP s n : Int) + 1, (n : Int) - lastP s n) := by
  intro d
  induction d with
  | zero =>
    intro j k hd hk hj
    obtain ⟨k, rfl⟩ : ∃ m, k = m + 1 := ⟨k - 1, by omega⟩
    obtain rfl : j = n := by omega
    rw [vestryref09_Line.l0, if_neg (by omega)]
  | succ d ih =>
    intro j k hd hk hj
    obtain ⟨k, rfl⟩ : ∃ m, k = m + 1 := ⟨k - 1, by omega⟩
    have h1 := cntP_le s j
    have h2 := lastP_range s j
    have ih' := ih (j + 1) k (by omega) (by omega) (by omega)
    rw [cntP, lastP] at ih'
    rw [vestryref09_Line.l0, if_pos (by omega), if_pos (by omega), if_pos (by omega), show wrap64 ((j : Int) + 1) = ((j + 1 : Nat) : Int) from by rw [IntWalk.wrap64_in _ (by omega)]; omega]
    by_cases h10 : bt s j = 10
    · rw [if_pos h10] at ih' ⊢
      rw [if_pos h10] at ih'
      rw [show wrap64 ((cntP s j : Int) + 1 + 1) = ((cntP s j + 1 : Nat) : Int) + 1 from by rw [IntWalk.wrap64_in _ (by omega)]; omega]
      rw [show ((j + 1 : Nat) : Int) - (j : Int) = 1 from by omega] at ih'
      exact ih'
    · rw [if_neg h10] at ih' ⊢
      rw [if_neg h10] at ih'
      rw [show wrap64 ((j : Int) - lastP s j + 1) = ((j + 1 : Nat) : Int) - lastP s j from by rw [IntWalk.wrap64_in _ (by omega)]; omega]
      exact ih'
theorem line_eq (s : ByteArray) (a : Int) (hs : s.size ≤ 100000) : vestryref09_Line.f (s.size + 10) s a = some (lineP s a) := by
  rw [vestryref09_Line.f, lineP]
  by_cases c1 : a < 0
  · rw [if_pos c1, if_pos (.inl c1), vestryref09_Line.j0, if_pos rfl]
  · rw [if_neg c1, vestryref09_Line.j0]
    by_cases c2 : (s.size : Int) < a
    · rw [if_pos (by simpa using c2), if_pos (.inr c2)]
    · rw [if_neg (by simpa using c2), if_neg (by omega)]
      obtain ⟨n, rfl⟩ := Int.eq_ofNat_of_zero_le (show 0 ≤ a by omega)
      exact line_l0 s n (by omega) hs n 0 _ (by omega) (by omega) (by omega)
theorem refline_any (s : ByteArray) (a : Int) (hs : s.size ≤ 100000) (w : World) : Calls Tryd.prog 18 #[.string s, .int .i64 a] w fun e w' => e = .returned (.tuple #[.int .i64 (lineP s a).1, .int .i64 (lineP s a).2]) ∧ Drawn0 w w' :=
  vestryref09_Line.calls _ s a _ _ w (line_eq s a hs)
end Go.Proofs.YthefibpcepgoaaaDoor.HLexN
