/- The walks of the laws of the chapter base: the decoders. -/
import Derived.Test.YtododekidopkhaaHW04
namespace Go.Proofs.Ytododekidopkhaa.HW04b
open Go.RowKit Go.Proofs.YtododekidopkhaaW.PrintWords Go.Proofs.Ytododekidopkhaa.HLib Go.Proofs.Ytododekidopkhaa.HBaseS Go.Proofs.Ytododekidopkhaa.HBase Go.Proofs.Ytododekidopkhaa.HEnc Go.Proofs.Ytododekidopkhaa.HDec Go.Proofs.Ytododekidopkhaa.HBaseL Go.Proofs.Ytododekidopkhaa.HRef04 Go.Proofs.Ytododekidopkhaa.HRef04d Go.Proofs.Ytododekidopkhaa.HBaseP Go.Proofs.Ytododekidopkhaa.HSame Go.Proofs.Ytododekidopkhaa.HW04
set_option linter.unusedVariables false
set_option linter.unusedSimpArgs false

theorem str_eqv (a b : ByteArray) (h : a = b) : (a.toList == b.toList) = true := by rw [h]; exact beq_self_eq_true _
theorem str_nev (a b : ByteArray) (h : a ≠ b) : (a.toList == b.toList) = false := by
  rw [beq_eq_false_iff_ne, ByteArray.toList_eq, ByteArray.toList_eq]; exact fun e => h (ByteArray.ext (Array.toList_inj.mp e))

theorem matches_far (w : World) (v : Value) (b : List Int) (h : Bs w v b) (hl : 500 < b.length) :
    Calls Try.prog 3 #[v] w fun e w' => e = .returned (.bool true) ∧ Below w.heap.size w w' := by
  obtain ⟨A, c, rfl, _, _⟩ := h
  have hd : decide ((500 : Int) < (b.length : Int)) = true := decide_eq_true (by omega)
  have hd2 : decide (500 < b.length) = true := decide_eq_true hl
  clear hl
  go_enter Try.func3, Try.ntmps3
  go_wp2_with fail
  refine (awake_true _).mono ?_
  rintro e w1 ⟨rfl, hB⟩
  have HB := Aside0.mk hB
  clear hB
  go_wp2_with fail
  refine (awake_true _).mono ?_
  rintro e w2 ⟨rfl, hB⟩
  have HB2 := Aside0.mk (below_step HB.out hB)
  clear hB
  go_wp2
  go_ret
  exact ⟨rfl, HB2.out⟩

set_option maxHeartbeats 2000000 in
theorem matches_near (w : World) (v : Value) (b : List Int) (h : Bs w v b) (hb : ∀ x ∈ b, 0 ≤ x ∧ x < 256) (hl : ¬ 500 < b.length) :
    Calls Try.prog 3 #[v] w fun e w' => e = .returned (.bool true) ∧ Below w.heap.size w w' := by
  have HI := Aside0.mk h
  have HBY := Aside0.mk hb
  obtain ⟨A, c, rfl, _, _⟩ := h
  have hd : decide ((500 : Int) < (b.length : Int)) = false := decide_eq_false (by omega)
  have hd2 : decide (500 < b.length) = false := decide_eq_false hl
  have HL := Aside0.mk hl
  have HDE := Aside0.mk (dec_enc b hb)
  obtain ⟨E, hE⟩ : ∃ E, E = encS b := ⟨_, rfl⟩
  have HE := Aside0.mk hE
  have HES := Aside0.mk (show E.size = (8 * b.length + 5) / 6 from by rw [hE]; exact encS_size b hb)
  have hRE : E = strOfNums ((chs 6 (pad 6 (b.flatMap (bts 8)))).map sign) := by rw [hE]; exact encS_eq b hb
  have HRE := Aside0.mk hRE
  have hsz : (E.size : Int) ≤ 700 := by have := HES.out; omega
  have hee := str_eqv E E rfl
  have hszz : ((E.size : Int) == (8 * (b.length : Int) + 5) / 6) = true := by rw [beq_iff_eq]; have := HES.out; omega
  clear hl hb hE hRE
  go_enter Try.func3, Try.ntmps3
  go_wp2_with fail
  refine (awake_true _).mono ?_
  rintro e w1 ⟨rfl, hB⟩
  have HB := Aside0.mk hB
  have HI1 := Aside0.mk (HI.out.below hB)
  clear hB
  go_wp2_with fail
  refine (encode_any _ _ b HI1.out HBY.out (by have := HL.out; omega)).mono ?_
  rintro e w2 ⟨rfl, hB⟩
  rw [← HE.out]
  have HB2 := Aside0.mk (below_step HB.out hB)
  have HI2 := Aside0.mk (HI1.out.below hB)
  clear hB
  go_wp2_with fail
  refine (decode_any _ _ (by have := HES.out; have := HL.out; omega)).mono ?_
  rintro e w3 ⟨v3, rfl, hR, hB⟩
  rw [HE.out, HDE.out] at hR ⊢
  rw [← HE.out]
  have HR3 := Aside0.mk hR
  have HB3 := Aside0.mk (below_step HB2.out hB)
  have HI3 := Aside0.mk (HI2.out.below hB)
  clear hB hR
  go_wp2_with fail
  refine (refEncode_any _ _ b HI3.out HBY.out (by have := HL.out; omega)).mono ?_
  rintro e w4 ⟨rfl, hB⟩
  rw [← HRE.out]
  have HR4 := Aside0.mk (HR3.out.below hB)
  have HB4 := Aside0.mk (below_step HB3.out hB)
  have HI4 := Aside0.mk (HI3.out.below hB)
  clear hB
  go_wp2_with fail
  refine (size_any b.length _ (by omega) (by have := HL.out; omega)).mono ?_
  rintro e w5 ⟨rfl, hw5⟩
  have HB5 := Aside0.mk (show Below w.heap.size w w5 from by rw [hw5]; exact HB4.out)
  have HI5 := Aside0.mk (show Bs w5 (.slice A b.length c) b from by rw [hw5]; exact HI4.out)
  have HR5 := Aside0.mk (show Bs w5 v3 b from by rw [hw5]; exact HR4.out)
  clear hw5
  go_wp2_with fail
  refine (same_any _ _ _ b b HR5.out HI5.out (by have := HL.out; omega)).mono ?_
  rintro e w6 ⟨rfl, ⟨m6, rfl⟩⟩
  simp only [decide_true]
  go_wp2
  go_ret
  exact ⟨by simp, pw_below_drewN HB5.out _⟩

theorem matches_row (a0 : Option Addr) (len0 cap0 : Nat) (z0 : List Int) (W : World) (w0 : IsRow .u8 W a0 len0 cap0 z0) (y0 : len0 * 1 ≤ 140737488351232) :
    Calls Try.prog 3 #[.slice a0 len0 cap0] W fun e w' => e = .returned (.bool true) ∧ Below W.heap.size W w' := by
  obtain ⟨ms, _, hm, hb⟩ := bs_row w0
  by_cases h : 500 < ms.length
  · exact matches_far W _ ms hm h
  · exact matches_near W _ ms hm hb h

theorem decodes_far (w : World) (s : ByteArray) (hl : 500 < s.size) :
    Calls Try.prog 4 #[.string s] w fun e w' => e = .returned (.bool true) ∧ Below w.heap.size w w' := by
  have hd : decide ((500 : Int) < (s.size : Int)) = true := decide_eq_true (by omega)
  have hd2 : decide (500 < s.size) = true := decide_eq_true hl
  clear hl
  go_enter Try.func4, Try.ntmps4
  go_wp2_with fail
  refine (awake_true _).mono ?_
  rintro e w1 ⟨rfl, hB⟩
  have HB := Aside0.mk hB
  clear hB
  go_wp2_with fail
  refine (awake_true _).mono ?_
  rintro e w2 ⟨rfl, hB⟩
  have HB2 := Aside0.mk (below_step HB.out hB)
  clear hB
  go_wp2
  go_ret
  exact ⟨rfl, HB2.out⟩

set_option maxHeartbeats 2000000 in
theorem decodes_near (w : World) (s : ByteArray) (hl : ¬ 500 < s.size) :
    Calls Try.prog 4 #[.string s] w fun e w' => e = .returned (.bool true) ∧ Below w.heap.size w w' := by
  have hd : decide ((500 : Int) < (s.size : Int)) = false := decide_eq_false (by omega)
  have hd2 : decide (500 < s.size) = false := decide_eq_false hl
  have HL := Aside0.mk hl
  have HG := Aside0.mk (fun h => dec_good (s := s) h)
  have HBY := Aside0.mk (dec_bytes s)
  have HLN := Aside0.mk (dec_len s)
  have HRF := Aside0.mk (dec_ref s)
  obtain ⟨b, hb⟩ : ∃ b, b = (decP s).1 := ⟨_, rfl⟩
  obtain ⟨p, hp⟩ : ∃ p, p = (decP s).2 := ⟨_, rfl⟩
  have Hb := Aside0.mk hb
  have Hp := Aside0.mk hp
  clear hl hb hp
  go_enter Try.func4, Try.ntmps4
  go_wp2_with fail
  refine (awake_true _).mono ?_
  rintro e w1 ⟨rfl, hB⟩
  have HB := Aside0.mk hB
  clear hB
  go_wp2_with fail
  refine (decode_any _ _ (by have := HL.out; omega)).mono ?_
  rintro e w2 ⟨v2, rfl, hR, hB⟩
  rw [← Hb.out] at hR
  rw [← Hp.out]
  have HR2 := Aside0.mk hR
  have HB2 := Aside0.mk (below_step HB.out hB)
  clear hB hR
  go_wp2_with fail
  refine (refDecode_any _ _ (by have := HL.out; omega)).mono ?_
  rintro e w3 ⟨v3, rfl, hR, hB⟩
  rw [← HRF.out] at hR ⊢
  rw [← Hb.out] at hR
  rw [← Hp.out]
  have HR3 := Aside0.mk hR
  have HR23 := Aside0.mk (HR2.out.below hB)
  have HB3 := Aside0.mk (below_step HB2.out hB)
  clear hB hR
  go_wp2_with fail
  refine (same_any _ _ _ b b HR23.out HR3.out (by rw [Hb.out]; have := HLN.out; have := HL.out; omega)).mono ?_
  rintro e w4 ⟨rfl, ⟨m4, rfl⟩⟩
  simp only [decide_true]
  have hpp : (p == p) = true := beq_self_eq_true p
  by_cases c : 0 ≤ p
  · have d : decide (0 ≤ p) = true := decide_eq_true c
    go_wp2
    go_ret
    exact ⟨by simp, pw_below_drewN HB3.out _⟩
  · have d : decide (0 ≤ p) = false := decide_eq_false c
    have HEN := Aside0.mk (show encS b = s from by rw [Hb.out]; exact (HG.out (by rw [← Hp.out]; omega)).1)
    have hss := str_eqv s s rfl
    clear c
    go_wp2_with fail
    refine (encode_any _ _ b (HR23.out.drewN _) (by rw [Hb.out]; exact HBY.out) (by rw [Hb.out]; have := HLN.out; have := HL.out; omega)).mono ?_
    rintro e w5 ⟨rfl, hB⟩
    rw [HEN.out]
    have HB5 := Aside0.mk (below_step (pw_below_drewN HB3.out _) hB)
    go_wp2
    go_ret
    exact ⟨by simp, HB5.out⟩

theorem decodes_row (a0 : ByteArray) (W : World) (w0 : a0.size ≤ 140737488351232) (y0 : a0.size ≤ maxLen) :
    Calls Try.prog 4 #[.string a0] W fun e w' => e = .returned (.bool true) ∧ Below W.heap.size W w' := by
  by_cases h : 500 < a0.size
  · exact decodes_far W _ h
  · exact decodes_near W _ h

theorem apart_far (w : World) (s t : ByteArray) (c : Int) (hl : 300 < s.size ∨ 300 < t.size) :
    Calls Try.prog 6 #[.string s, .string t, .int .u8 c] w fun e w' => e = .returned (.bool true) ∧ Below w.heap.size w w' := by
  by_cases h : 300 < s.size
  · have hd : decide ((300 : Int) < (s.size : Int)) = true := decide_eq_true (by omega)
    have hd2 : decide (300 < s.size) = true := decide_eq_true h
    clear hl h
    go_enter Try.func6, Try.ntmps6
    go_wp2_with fail
    refine (awake_true _).mono ?_
    rintro e w1 ⟨rfl, hB⟩
    have HB := Aside0.mk hB
    clear hB
    go_wp2_with fail
    refine (awake_true _).mono ?_
    rintro e w2 ⟨rfl, hB⟩
    have HB2 := Aside0.mk (below_step HB.out hB)
    clear hB
    go_wp2
    go_ret
    exact ⟨rfl, HB2.out⟩
  · have hd : decide ((300 : Int) < (s.size : Int)) = false := decide_eq_false (by omega)
    have hd2 : decide (300 < s.size) = false := decide_eq_false h
    have he : decide ((300 : Int) < (t.size : Int)) = true := decide_eq_true (by omega)
    have he2 : decide (300 < t.size) = true := decide_eq_true (by omega)
    clear hl h
    go_enter Try.func6, Try.ntmps6
    go_wp2_with fail
    refine (awake_true _).mono ?_
    rintro e w1 ⟨rfl, hB⟩
    have HB := Aside0.mk hB
    clear hB
    go_wp2_with fail
    refine (awake_true _).mono ?_
    rintro e w2 ⟨rfl, hB⟩
    have HB2 := Aside0.mk (below_step HB.out hB)
    clear hB
    go_wp2
    go_ret
    exact ⟨rfl, HB2.out⟩

set_option maxHeartbeats 4000000 in
theorem apart_near (w : World) (s t : ByteArray) (c : Int) (hc : 0 ≤ c ∧ c < 256) (hl : ¬ 300 < s.size) (hl2 : ¬ 300 < t.size) :
    Calls Try.prog 6 #[.string s, .string t, .int .u8 c] w fun e w' => e = .returned (.bool true) ∧ Below w.heap.size w w' := by
  have hd : decide ((300 : Int) < (s.size : Int)) = false := decide_eq_false (by omega)
  have hd2 : decide (300 < s.size) = false := decide_eq_false hl
  have he : decide ((300 : Int) < (t.size : Int)) = false := decide_eq_false (by omega)
  have he2 : decide (300 < t.size) = false := decide_eq_false hl2
  have HL := Aside0.mk hl
  have HL2 := Aside0.mk hl2
  have HC := Aside0.mk hc
  obtain ⟨a, ha⟩ : ∃ a, a = (decP s).1 := ⟨_, rfl⟩
  obtain ⟨p, hp⟩ : ∃ p, p = (decP s).2 := ⟨_, rfl⟩
  obtain ⟨b, hb⟩ : ∃ b, b = (decP t).1 := ⟨_, rfl⟩
  obtain ⟨q, hq⟩ : ∃ q, q = (decP t).2 := ⟨_, rfl⟩
  have Ha := Aside0.mk ha
  have Hp := Aside0.mk hp
  have Hb := Aside0.mk hb
  have Hq := Aside0.mk hq
  have hcv : ∀ W : World, (convert 22 9 (.slice (some ⟨W.heap.size, 0, none⟩) 1 1)).run Try.prog (W.alloc (.cells #[.int .u8 c] 5)) = .ok (.string (strOfNums [c])) (W.alloc (.cells #[.int .u8 c] 5)) := fun W => by
    obtain ⟨A, c', e1, _, hC, _⟩ := bs_lit W [c] (by simp)
    injection e1 with e1 e2 e3
    subst e1
    have h := Kd.C_string (P := Try.prog) Try.underlying22 Try.underlying5 Try.underlying9 (c := 1) hC
    exact h
  clear hl hl2 ha hp hb hq hc
  go_enter Try.func6, Try.ntmps6
  go_wp2_with fail
  refine (awake_true _).mono ?_
  rintro e w1 ⟨rfl, hB⟩
  have HB := Aside0.mk hB
  clear hB
  go_wp2_with fail
  refine (decode_any _ _ (by have := HL.out; omega)).mono ?_
  rintro e w2 ⟨v2, rfl, hR, hB⟩
  rw [← Ha.out] at hR
  rw [← Hp.out]
  have HR2 := Aside0.mk hR
  have HB2 := Aside0.mk (below_step HB.out hB)
  clear hB hR
  go_wp2_with fail
  refine (decode_any _ _ (by have := HL2.out; omega)).mono ?_
  rintro e w3 ⟨v3, rfl, hR, hB⟩
  rw [← Hb.out] at hR
  rw [← Hq.out]
  have HR3 := Aside0.mk hR
  have HR23 := Aside0.mk (HR2.out.below hB)
  have HB3 := Aside0.mk (below_step HB2.out hB)
  clear hB hR
  have hcat : ¬ (9223372036854775807 < s.size + (strOfNums [c]).size) := by rw [strOfNums_size, List.length_singleton]; have := HL.out; omega
  go_wp2_with fail
  refine (decode_any _ _ (by rw [ByteArray.size_append, strOfNums_size, List.length_singleton]; have := HL.out; omega)).mono ?_
  rintro e w4 ⟨v4, rfl, hR, hB⟩
  obtain ⟨m, hm⟩ : ∃ m, m = (decP (s ++ strOfNums [c])).1 := ⟨_, rfl⟩
  obtain ⟨o, ho⟩ : ∃ o, o = (decP (s ++ strOfNums [c])).2 := ⟨_, rfl⟩
  rw [← hm] at hR
  rw [← ho]
  have Hm := Aside0.mk hm
  have Ho := Aside0.mk ho
  have hb1 := below_alloc (B0 w3) (.cells #[.int .u8 c] 5)
  have HR4 := Aside0.mk hR
  have HR24 := Aside0.mk ((HR23.out.below hb1).below hB)
  have HR34 := Aside0.mk ((HR3.out.below hb1).below hB)
  have HB4 := Aside0.mk (below_step (below_step HB3.out hb1) hB)
  have Hal := Aside0.mk (show a.length < 140737488355328 from by rw [Ha.out]; have := dec_len s; have := HL.out; omega)
  clear hB hR hb1 hm ho hcat
  by_cases cp : p < 0
  · have p1 : decide (p < 0) = true := decide_eq_true cp
    have p2 : decide (0 ≤ p) = false := decide_eq_false (by omega)
    have GP := Aside0.mk (dec_good (s := s) (by rw [← Hp.out]; exact cp)).1
    clear cp
    by_cases co : o < 0
    · have o1 : decide (o < 0) = true := decide_eq_true co
      have hne : decide (a = m) = false := decide_eq_false (fun e => by
        have g2 := (dec_good (s := s ++ strOfNums [c]) (by rw [← Ho.out]; exact co)).1
        have g1 := GP.out
        rw [← Hm.out, ← e, Ha.out, g1] at g2
        have := congrArg ByteArray.size g2
        rw [ByteArray.size_append, strOfNums_size, List.length_singleton] at this
        omega)
      clear co
      go_wp2_with fail
      refine (same_any _ _ _ a m HR24.out HR4.out Hal.out).mono ?_
      rintro e w5 ⟨rfl, ⟨m5, rfl⟩⟩
      rw [hne]
      clear hne
      by_cases cq : q < 0
      · have q2 : decide (0 ≤ q) = false := decide_eq_false (by omega)
        have GQ := Aside0.mk (dec_good (s := t) (by rw [← Hq.out]; exact cq)).1
        have hst : (decide (a = b) == (s.toList == t.toList)) = true := by
          by_cases e : s = t
          · rw [str_eqv _ _ e, decide_eq_true (show a = b from by rw [Ha.out, Hb.out, e])]; rfl
          · rw [str_nev _ _ e, decide_eq_false (show ¬ a = b from fun e2 => e (by have g1 := GP.out; have g2 := GQ.out; rw [← Ha.out] at g1; rw [← Hb.out] at g2; rw [← g1, ← g2, e2]))]; rfl
        clear cq
        go_wp2_with fail
        refine (same_any _ _ _ a b (HR24.out.drewN _) (HR34.out.drewN _) Hal.out).mono ?_
        rintro e w5 ⟨rfl, ⟨m6, rfl⟩⟩
        go_wp2
        go_ret
        exact ⟨by simp, by repeat (first | exact HB4.out | apply pw_below_drewN)⟩
      · have q2 : decide (0 ≤ q) = true := decide_eq_true (by omega)
        clear cq
        go_wp2
        go_ret
        exact ⟨by simp, by repeat (first | exact HB4.out | apply pw_below_drewN)⟩
    · have o1 : decide (o < 0) = false := decide_eq_false co
      clear co
      by_cases cq : q < 0
      · have q2 : decide (0 ≤ q) = false := decide_eq_false (by omega)
        have GQ := Aside0.mk (dec_good (s := t) (by rw [← Hq.out]; exact cq)).1
        have hst : (decide (a = b) == (s.toList == t.toList)) = true := by
          by_cases e : s = t
          · rw [str_eqv _ _ e, decide_eq_true (show a = b from by rw [Ha.out, Hb.out, e])]; rfl
          · rw [str_nev _ _ e, decide_eq_false (show ¬ a = b from fun e2 => e (by have g1 := GP.out; have g2 := GQ.out; rw [← Ha.out] at g1; rw [← Hb.out] at g2; rw [← g1, ← g2, e2]))]; rfl
        clear cq
        go_wp2_with fail
        refine (same_any _ _ _ a b HR24.out HR34.out Hal.out).mono ?_
        rintro e w5 ⟨rfl, ⟨m6, rfl⟩⟩
        go_wp2
        go_ret
        exact ⟨by simp, by repeat (first | exact HB4.out | apply pw_below_drewN)⟩
      · have q2 : decide (0 ≤ q) = true := decide_eq_true (by omega)
        clear cq
        go_wp2
        go_ret
        exact ⟨by simp, by repeat (first | exact HB4.out | apply pw_below_drewN)⟩
  · have p1 : decide (p < 0) = false := decide_eq_false cp
    have p2 : decide (0 ≤ p) = true := decide_eq_true (by omega)
    clear cp
    go_wp2
    go_ret
    exact ⟨by simp, by repeat (first | exact HB4.out | apply pw_below_drewN)⟩

theorem apart_row (a0 a1 : ByteArray) (a2 : Int) (W : World) (w0 : a0.size ≤ 140737488351232) (y0 : a0.size ≤ maxLen) (w1 : a1.size ≤ 140737488351232) (y1 : a1.size ≤ maxLen) (w2 : (Lit.int .u8 a2).wf = true) :
    Calls Try.prog 6 #[.string a0, .string a1, .int .u8 a2] W fun e w' => e = .returned (.bool true) ∧ Below W.heap.size W w' := by
  by_cases h : 300 < a0.size
  · exact apart_far W _ _ _ (.inl h)
  · by_cases h1 : 300 < a1.size
    · exact apart_far W _ _ _ (.inr h1)
    · exact apart_near W _ _ _ (wf_u8 w2) h h1

end Go.Proofs.Ytododekidopkhaa.HW04b
