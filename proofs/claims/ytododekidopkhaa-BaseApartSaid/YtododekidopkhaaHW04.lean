/- The walks of the laws of the chapter base. -/
import Derived.Test.YtododekidopkhaaHBaseP
import Derived.Test.YtododekidopkhaaHSame
namespace Go.Proofs.Ytododekidopkhaa.HW04
open Go.RowKit Go.Proofs.YtododekidopkhaaW.PrintWords Go.Proofs.Ytododekidopkhaa.HLib Go.Proofs.Ytododekidopkhaa.HBaseS Go.Proofs.Ytododekidopkhaa.HBase Go.Proofs.Ytododekidopkhaa.HEnc Go.Proofs.Ytododekidopkhaa.HDec Go.Proofs.Ytododekidopkhaa.HBaseL Go.Proofs.Ytododekidopkhaa.HRef04 Go.Proofs.Ytododekidopkhaa.HRef04d Go.Proofs.Ytododekidopkhaa.HBaseP Go.Proofs.Ytododekidopkhaa.HSame
set_option linter.unusedVariables false
set_option linter.unusedSimpArgs false

theorem bs_lit (W : World) (xs : List Int) (h : xs.length ≤ 9223372036854775807) : Bs (W.alloc (.cells (nums .u8 xs).toArray 5)) (.slice (some ⟨W.heap.size, 0, none⟩) xs.length xs.length) xs :=
  Bs.of_R (Kd.R_of_own (h1 := fun _ => rfl) (ok := fun _ => True) (own_lit W 0 5 .u8 xs (Nat.zero_le _) h) (fun _ _ => trivial))

theorem a1 : decP ⟨#[95, 45, 65]⟩ = ([255, 224], -1) := by kernel_rfl
theorem a2 : (decP ⟨#[95, 45, 66]⟩).2 = 2 := by kernel_rfl
theorem a3 : (decP ⟨#[65, 61, 65]⟩).2 = 1 := by kernel_rfl
theorem a4 : encS [255, 224] = ⟨#[95, 45, 65]⟩ := by kernel_rfl

theorem awake_true (w : World) : Calls Try.prog 8 #[] w fun e w' => e = .returned (.bool true) ∧ Below w.heap.size w w' := by
  go_enter Try.func8, Try.ntmps8
  go_wp2_with fail
  refine (decode_any _ _ (by decide)).mono ?_
  rintro e w1 ⟨v1, rfl, hR, hB⟩
  rw [a1] at hR ⊢
  have HR := Aside0.mk hR
  have HB := Aside0.mk hB
  obtain ⟨A, c, rfl, _, _, _⟩ := hR
  clear hB
  go_wp2_with fail
  refine (decode_any _ _ (by decide)).mono ?_
  rintro e w2 ⟨v2, rfl, ⟨A2, c2, rfl, _, _, _⟩, hB⟩
  rw [a2]
  have HR2 := Aside0.mk (HR.out.below hB)
  have HB2 := Aside0.mk (below_step HB.out hB)
  clear hB
  go_wp2_with fail
  refine (decode_any _ _ (by decide)).mono ?_
  rintro e w3 ⟨v3, rfl, ⟨A3, c3, rfl, _, _, _⟩, hB⟩
  rw [a3]
  have HR3 := Aside0.mk (HR2.out.below hB)
  have HB3 := Aside0.mk (below_step HB2.out hB)
  clear hB
  go_wp2_with fail
  refine (encode_any _ _ [255, 224] (bs_lit w3 [255, 224] (by decide)) (by decide) (by decide)).mono ?_
  rintro e w4 ⟨rfl, hB⟩
  rw [a4]
  have hb1 := below_alloc (B0 w3) (.cells (nums .u8 [255, 224]).toArray 5)
  have HR4 := Aside0.mk ((HR3.out.below hb1).below hB)
  have HB4 := Aside0.mk (below_step (below_step HB3.out hb1) hB)
  clear hB hb1
  have hss : (ByteArray.toList ⟨#[95, 45, 65]⟩ == ByteArray.toList ⟨#[95, 45, 65]⟩) = true := beq_self_eq_true _
  go_wp2_with fail
  refine (same_any _ _ _ [255, 224] [255, 224] (HR4.out.below (below_alloc (B0 _) _)) (bs_lit w4 [255, 224] (by decide)) (by decide)).mono ?_
  rintro e w5 ⟨rfl, ⟨m5, rfl⟩⟩
  have h5 : decide (([255, 224] : List Int) = [255, 224]) = true := by decide
  have HB5 := Aside0.mk (pw_below_drewN (below_step HB4.out (below_alloc (B0 w4) (.cells (nums .u8 [255, 224]).toArray 5))) m5)
  go_wp2_with fail
  refine (size_any 2 _ (by decide) (by decide)).mono ?_
  rintro e w6 ⟨rfl, hw6⟩
  have HB6 := Aside0.mk (show Below w.heap.size w w6 from by rw [hw6]; exact HB5.out)
  have h6 : ((8 * (2 : Int) + 5) / 6) = 3 := by decide
  rw [h6]
  clear hw6
  go_wp2
  go_ret
  exact ⟨by simp, HB6.out⟩

theorem sizes_row (a0 : Int) (W : World) (w0 : (Lit.int .u32 a0).wf = true) :
    Calls Try.prog 5 #[.int .u32 a0] W fun e w' => e = .returned (.bool true) ∧ Below W.heap.size W w' := by
  obtain ⟨n, hn, hn1⟩ := wf_u32 w0
  have hn0 : 0 ≤ a0 := by omega
  have hn2 : a0 < 4294967296 := by omega
  clear w0 hn hn1
  go_enter Try.func5, Try.ntmps5
  go_wp2_with fail
  refine (awake_true _).mono ?_
  rintro e w1 ⟨rfl, hB⟩
  have HB := Aside0.mk hB
  clear hB
  go_wp2_with fail
  refine (size_any a0 _ hn0 (by omega)).mono ?_
  rintro e w2 ⟨rfl, hw2⟩
  have HB2 := Aside0.mk (show Below W.heap.size W w2 from by rw [hw2]; exact HB.out)
  clear hw2
  obtain ⟨k, hk⟩ : ∃ k, k = (8 * a0 + 5) / 6 := ⟨_, rfl⟩
  have HK := Aside0.mk hk
  have hk0 : 0 ≤ k := by omega
  have hk1 : k ≤ 5726623062 := by omega
  have d1 : decide (8 * a0 ≤ 6 * k) = true := decide_eq_true (by omega)
  have d2 : decide (6 * k < 8 * a0 + 6) = true := decide_eq_true (by omega)
  rw [← hk]
  clear hk
  go_wp2_with fail
  refine (size_any (a0 + 1) _ (by omega) (by omega)).mono ?_
  rintro e w3 ⟨rfl, hw3⟩
  have HB3 := Aside0.mk (show Below W.heap.size W w3 from by rw [hw3]; exact HB2.out)
  have d3 : decide (k < (8 * (a0 + 1) + 5) / 6) = true := decide_eq_true (by have := HK.out; omega)
  clear hw3
  go_wp2
  go_ret
  exact ⟨by simp, HB3.out⟩

set_option maxHeartbeats 2000000 in
theorem signs_row (a0 a1 : Int) (W : World) (w0 : (Lit.int .i64 a0).wf = true) (w1 : (Lit.int .u8 a1).wf = true) :
    Calls Try.prog 7 #[.int .i64 a0, .int .u8 a1] W fun e w' => e = .returned (.bool true) ∧ Below W.heap.size W w' := by
  have HC := Aside0.mk (wf_u8 w1)
  have HL := vidx_lt a1
  obtain ⟨V, hV⟩ : ∃ V, V = vidx a1 := ⟨_, rfl⟩
  have HV := Aside0.mk hV
  rw [← hV] at HL
  clear w0 w1 hV
  go_enter Try.func7, Try.ntmps7
  go_wp2_with fail
  refine (awake_true _).mono ?_
  rintro e w1 ⟨rfl, hB⟩
  have HB := Aside0.mk hB
  clear hB
  go_wp2_with fail
  refine (sign_any a0 _).mono ?_
  rintro e w2 ⟨rfl, hw2⟩
  have HB2 := Aside0.mk (show Below W.heap.size W w2 from by rw [hw2]; exact HB.out)
  obtain ⟨S, hS⟩ : ∃ S, S = if 0 ≤ a0 ∧ a0 < 64 then sign a0 else 0 := ⟨_, rfl⟩
  obtain ⟨bb, hbb⟩ : ∃ bb, bb = decide (0 ≤ a0 ∧ a0 < 64) := ⟨_, rfl⟩
  rw [← hS, ← hbb]
  have HS := Aside0.mk hS
  have HBB := Aside0.mk hbb
  clear hw2 hS hbb
  go_wp2_with fail
  refine (value_any a1 _).mono ?_
  rintro e w3 ⟨rfl, hw3⟩
  have HB3 := Aside0.mk (show Below W.heap.size W w3 from by rw [hw3]; exact HB2.out)
  rw [← HV.out]
  clear hw3
  by_cases c0 : 0 ≤ a0 ∧ a0 < 64
  · obtain rfl : S = sign a0 := by rw [HS.out]; exact if_pos c0
    obtain rfl : bb = true := by rw [HBB.out]; exact decide_eq_true c0
    have d1 : decide (0 ≤ a0) = true := decide_eq_true c0.1
    have d2 : decide (a0 < 64) = true := decide_eq_true c0.2
    have HSG := Aside0.mk (vidx_sign a0 c0.1 c0.2)
    clear c0 HS HBB
    by_cases c1 : 0 ≤ V
    · have d3 : decide (0 ≤ V) = true := decide_eq_true c1
      have e3 : max V 0 = V := by omega
      rw [d3, e3]
      go_wp2_with fail
      refine (refValue_any a1 _ HC.out).mono ?_
      rintro e w4 ⟨rfl, m4, rfl⟩
      rw [← HV.out]
      go_wp2_with fail
      refine (refValue_any _ _ (sign_byte a0)).mono ?_
      rintro e w4 ⟨rfl, m5, rfl⟩
      rw [HSG.out]
      go_wp2_with fail
      refine (refValue_any a1 _ HC.out).mono ?_
      rintro e w4 ⟨rfl, m6, rfl⟩
      rw [← HV.out]
      go_wp2
      go_ret
      exact ⟨by simp, by repeat (first | exact HB3.out | apply pw_below_drewN)⟩
    · have d3 : decide (0 ≤ V) = false := decide_eq_false c1
      have e3 : max V 0 = 0 := by omega
      rw [d3, e3]
      go_wp2_with fail
      refine (refValue_any a1 _ HC.out).mono ?_
      rintro e w4 ⟨rfl, m4, rfl⟩
      rw [← HV.out]
      go_wp2_with fail
      refine (refValue_any _ _ (sign_byte a0)).mono ?_
      rintro e w4 ⟨rfl, m5, rfl⟩
      rw [HSG.out]
      go_wp2
      go_ret
      exact ⟨by simp, by repeat (first | exact HB3.out | apply pw_below_drewN)⟩
  · obtain rfl : S = 0 := by rw [HS.out]; exact if_neg c0
    obtain rfl : bb = false := by rw [HBB.out]; exact decide_eq_false c0
    have e4 : (decide (0 ≤ a0) = true ∧ decide (a0 < 64) = false) ∨ decide (0 ≤ a0) = false := by
      by_cases h : 0 ≤ a0
      · exact .inl ⟨decide_eq_true h, decide_eq_false (by omega)⟩
      · exact .inr (decide_eq_false h)
    clear c0 HS HBB
    rcases e4 with ⟨d1, d2⟩ | d1
    all_goals
      by_cases c1 : 0 ≤ V
      · have d3 : decide (0 ≤ V) = true := decide_eq_true c1
        have e3 : max V 0 = V := by omega
        rw [d3, e3]
        go_wp2_with fail
        refine (refValue_any a1 _ HC.out).mono ?_
        rintro e w4 ⟨rfl, m4, rfl⟩
        rw [← HV.out]
        go_wp2_with fail
        refine (refValue_any a1 _ HC.out).mono ?_
        rintro e w4 ⟨rfl, m6, rfl⟩
        rw [← HV.out]
        go_wp2
        go_ret
        exact ⟨by simp, by repeat (first | exact HB3.out | apply pw_below_drewN)⟩
      · have d3 : decide (0 ≤ V) = false := decide_eq_false c1
        have e3 : max V 0 = 0 := by omega
        rw [d3, e3]
        go_wp2_with fail
        refine (refValue_any a1 _ HC.out).mono ?_
        rintro e w4 ⟨rfl, m4, rfl⟩
        rw [← HV.out]
        go_wp2
        go_ret
        exact ⟨by simp, by repeat (first | exact HB3.out | apply pw_below_drewN)⟩

end Go.Proofs.Ytododekidopkhaa.HW04
