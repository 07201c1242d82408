/- The walks of the laws of the chapter wire. -/
import Derived.Test.YtbijboolhkjpjaaHPut
namespace Go.Proofs.Ytbijboolhkjpjaa.HW01
open Go.RowKit Go.Proofs.YtbijboolhkjpjaaW.PrintWords Go.Proofs.Ytbijboolhkjpjaa.HLib Go.Proofs.Ytbijboolhkjpjaa.HWireS Go.Proofs.Ytbijboolhkjpjaa.HWire Go.Proofs.Ytbijboolhkjpjaa.HPut
set_option linter.unusedVariables false
set_option linter.unusedSimpArgs false

theorem bs_lit (W : World) (xs : List Int) (h : xs.length ≤ 9223372036854775807) : Bs (W.alloc (.cells (nums .u8 xs).toArray 5)) (.slice (some ⟨W.heap.size, 0, none⟩) xs.length xs.length) xs :=
  Bs.of_R (Kd.R_of_own (h1 := fun _ => rfl) (ok := fun _ => True) (own_lit W 0 5 .u8 xs (Nat.zero_le _) h) (fun _ _ => trivial))

theorem enc300 : enc 300 = [172, 2] := by rw [enc_big (by omega), enc_small (by omega)]; rfl
theorem num1 : num [172, 2, 128, 0] = .inr (300, 2) := by decide
theorem num2 : num ([172, 2, 128, 0].drop 2) = .inl 3 := by decide

theorem awake_true (w : World) : Calls Try.prog 6 #[] w fun e w' => e = .returned (.bool true) ∧ Below w.heap.size w w' := by
  go_enter Try.func6, Try.ntmps6
  go_wp2_with fail
  refine (new_any _ _ [172, 2, 128, 0] (bs_lit w [172, 2, 128, 0] (by decide)) (by decide)).mono ?_
  rintro e w1 ⟨g, rfl, hg, hI, hB⟩
  have HG := Aside0.mk (show w.heap.size ≤ g from by simp at hg; omega)
  have HI := Aside0.mk hI
  have HB := Aside0.mk ((below_alloc (B0 w) _).trans (hB.mono (by simp)))
  clear hg hI hB
  go_wp2_with fail
  refine (number_at _ g [172, 2, 128, 0] 0 HI.out (by decide) (by decide) (by decide) (by decide)).mono ?_
  rintro e w2 ⟨rfl, hI, _, hB⟩
  simp only [show (0 : Int).toNat = 0 from rfl, List.drop_zero, num1, numAt, numE, errW] at hI ⊢
  have HI2 := Aside0.mk (show IsCur w2 g [172, 2, 128, 0] 2 from hI)
  have HB2 := Aside0.mk (HB.out.trans (hB.mono HG.out))
  clear hI hB
  go_wp2_with fail
  refine (number_at _ g [172, 2, 128, 0] 2 HI2.out (by decide) (by decide) (by decide) (by decide)).mono ?_
  rintro e w3 ⟨rfl, hI, _, hB⟩
  simp only [show (2 : Int).toNat = 2 from rfl, num2, numAt, numE, errW] at hI ⊢
  have HI3 := Aside0.mk hI
  have HB3 := Aside0.mk (HB2.out.trans (hB.mono HG.out))
  clear hI hB
  go_wp2_with fail
  refine (put_any _ 300 (by decide)).mono ?_
  rintro e w4 ⟨v4, rfl, hR, hB⟩
  rw [enc300] at hR
  have HR := Aside0.mk (Bs.of_R hR)
  have HI4 := Aside0.mk (HI3.out.below hB)
  have HB4 := Aside0.mk (below_step HB3.out hB)
  clear hR hB
  go_wp2_with fail
  refine (same_any _ v4 _ [172, 2] [172, 2] (HR.out.below (below_alloc (B0 _) _)) (bs_lit w4 [172, 2] (by decide)) (by decide)).mono ?_
  rintro e w5 ⟨rfl, ⟨m5, rfl⟩⟩
  have HI5 := Aside0.mk (HI4.out.below (below_alloc (B0 _) (.cells (nums .u8 [172, 2]).toArray 5)))
  have HB5 := Aside0.mk (below_step HB4.out (below_alloc (B0 _) (.cells (nums .u8 [172, 2]).toArray 5)))
  have h5 : decide (([172, 2] : List Int) = [172, 2]) = true := by decide
  have hif : ∀ w : World, (binOp .eql 28 (.iface 33 (.int .i64 3)) (.iface 33 (.int .i64 3))).run Try.prog w = .ok (.bool true) w := fun w => by kernel_rfl
  go_wp2_with fail
  refine (at_at _ g _ 2 (HI5.out.drewN _)).mono ?_
  rintro e w6 ⟨rfl, ⟨m6, rfl⟩⟩
  go_wp2_with fail
  refine (left_at _ g _ 2 (HI5.out.drewN _) (by decide) (by decide) (by decide)).mono ?_
  rintro e w6 ⟨rfl, ⟨m7, rfl⟩⟩
  go_wp2_with fail
  refine (end_at _ g _ 2 (HI5.out.drewN _) (by decide) (by decide) (by decide)).mono ?_
  rintro e w6 ⟨rfl, ⟨m8, rfl⟩⟩
  rw [if_pos (by decide)]
  simp only [errW]
  have hi2 : ∀ w : World, (binOp .eql 28 (.iface 33 (.int .i64 16)) (.iface 33 (.int .i64 16))).run Try.prog w = .ok (.bool true) w := fun w => by kernel_rfl
  go_wp2_with fail
  refine (left_nil _).mono ?_
  rintro e w6 ⟨rfl, rfl⟩
  go_wp2_with fail
  refine (end_nil _).mono ?_
  rintro e w6 ⟨rfl, rfl⟩
  go_wp2_with fail
  refine (text_any _ _ (by decide)).mono ?_
  rintro e w7 ⟨v7, rfl, hR, hB⟩
  have hv : encText ⟨#[97, 98]⟩ = [2, 97, 98] := by unfold encText; rw [show (⟨#[97, 98]⟩ : ByteArray).size = 2 from rfl, enc_small (by omega)]; rfl
  rw [hv] at hR
  have HR7 := Aside0.mk (Bs.of_R hR)
  have HB7 := Aside0.mk (below_step (by repeat (first | exact HB5.out | apply pw_below_drewN)) hB)
  clear hR hB hv
  go_wp2_with fail
  refine (same_any _ v7 _ [2, 97, 98] [2, 97, 98] (HR7.out.below (below_alloc (B0 _) _)) (bs_lit w7 [2, 97, 98] (by decide)) (by decide)).mono ?_
  rintro e w8 ⟨rfl, ⟨m9, rfl⟩⟩
  have HB8 := Aside0.mk (pw_below_drewN (below_step HB7.out (below_alloc (B0 _) (.cells (nums .u8 [2, 97, 98]).toArray 5))) m9)
  go_wp2
  go_ret
  exact ⟨by simp, HB8.out⟩

set_option maxHeartbeats 1000000 in
theorem lengths_walk (w : World) (x y : Nat) (hx : x < 18446744073709551616) (hy : y < 18446744073709551616) :
    Calls Try.prog 4 #[.int .u64 x, .int .u64 y] w fun e w' => e = .returned (.bool true) ∧ Below w.heap.size w w' := by
  have HX := Aside0.mk hx
  have HY := Aside0.mk hy
  clear hx hy
  go_enter Try.func4, Try.ntmps4
  go_wp2_with (go_at_call 6; refine (awake_true _).mono ?_; rintro e w1 ⟨rfl, hB⟩; have HB := Aside0.mk hB; clear hB)
  go_loopg [5, 6] x (fun kq v5 v6 w' => ∃ (n z : Nat), v5 = .int .i64 n ∧ v6 = .int .u64 z ∧ Aside0 (kq = z ∧ n + (enc z).length = (enc x).length + 1 ∧ z < 18446744073709551616) ∧ w' = w1)
  case atStart => exact ⟨1, x, rfl, rfl, ⟨⟨rfl, by omega, HX.out⟩⟩, rfl⟩
  case round =>
    obtain ⟨n, z, rfl, rfl, HA, rfl⟩ := hrel
    have hn : (n : Int) ≤ 10 := by have := HA.out.2.1; have := enc_pos z; have := enc_len10 x HX.out; omega
    by_cases c : 128 ≤ z
    · have cb : decide ((128 : Int) ≤ (z : Int)) = true := decide_eq_true (by omega)
      have hw : IntKind.u64.wrap ((z : Int) / 128) = ((z / 128 : Nat) : Int) := by
        have := HA.out.2.2
        rw [IntKind.wrap_u64]; omega
      have HC := Aside0.mk c
      clear c
      go_wp2
      go_roundg (z / 128)
      case measure => rw [HA.out.1]; have := HC.out; omega
      case rel =>
        refine ⟨n + 1, z / 128, by simp, by simp, ⟨⟨rfl, ?_, by have := HA.out.2.2; omega⟩⟩, rfl⟩
        have h := HA.out.2.1
        rw [enc_big HC.out] at h
        simp only [List.length_cons] at h
        omega
    · have cb : decide ((128 : Int) ≤ (z : Int)) = false := decide_eq_false (by omega)
      have HL := Aside0.mk (show (enc x).length = n from by
        have h := HA.out.2.1
        rw [enc_small (by omega)] at h
        simp only [List.length_cons, List.length_nil] at h
        omega)
      clear c
      have hk : ((n : Int) == n) = true := by simp
      go_wp2_with fail
      refine (put_any _ x HX.out).mono ?_
      rintro e w2 ⟨v2, rfl, hR, hB⟩
      obtain ⟨A, c, rfl, _, _⟩ := Kd.R_reads hR
      rw [HL.out]
      have HB2 := Aside0.mk (below_step HB.out hB)
      have d10 : decide ((n : Int) ≤ 10) = true := decide_eq_true hn
      clear hR hB
      by_cases hyx : y < x
      · have d1 : decide (y < x) = true := decide_eq_true hyx
        clear hyx
        go_wp2
        go_ret
        exact ⟨by simp, HB2.out⟩
      · have d1 : decide (y < x) = false := decide_eq_false hyx
        have HM := Aside0.mk (enc_mono x y (by omega))
        clear hyx
        go_wp2_with fail
        refine (put_any _ y HY.out).mono ?_
        rintro e w3 ⟨v3, rfl, hR, hB⟩
        obtain ⟨A3, c3, rfl, _, _⟩ := Kd.R_reads hR
        have HB3 := Aside0.mk (below_step HB2.out hB)
        have d2 : decide ((n : Int) ≤ ((enc y).length : Int)) = true := decide_eq_true (by have := HM.out; have := HL.out; omega)
        have d3 : decide (n ≤ (enc y).length) = true := decide_eq_true (by have := HM.out; have := HL.out; omega)
        clear hR hB
        go_wp2
        go_ret
        exact ⟨by simp, HB3.out⟩

theorem numbers_far (w : World) (x : Nat) (v : Value) (ms : List Int) (hm : Bs w v ms) (h : 300 < ms.length) :
    Calls Try.prog 3 #[.int .u64 x, v] w fun e w' => e = .returned (.bool true) ∧ Below w.heap.size w w' := by
  obtain ⟨A, c, rfl, _, _⟩ := hm
  have hd : decide ((300 : Int) < (ms.length : Int)) = true := decide_eq_true (by omega)
  have hd2 : decide (300 < ms.length) = true := decide_eq_true h
  clear h
  go_enter Try.func3, Try.ntmps3
  go_wp2_with fail
  refine (awake_true _).mono ?_
  rintro e w1 ⟨rfl, hB⟩
  have HB := Aside0.mk hB
  clear hB
  go_wp2_with fail
  refine (awake_true _).mono ?_
  rintro e w2 ⟨rfl, hB⟩
  have HB2 := Aside0.mk (below_step HB.out hB)
  clear hB
  go_wp2
  go_ret
  exact ⟨rfl, HB2.out⟩

set_option maxHeartbeats 1000000 in
theorem numbers_near (w : World) (x : Nat) (v : Value) (ms : List Int) (hx : x < 18446744073709551616) (hm : Bs w v ms) (hb : ∀ b ∈ ms, 0 ≤ b ∧ b < 256) (h : ¬ 300 < ms.length) :
    Calls Try.prog 3 #[.int .u64 x, v] w fun e w' => e = .returned (.bool true) ∧ Below w.heap.size w w' := by
  have HM := Aside0.mk hm
  have HX := Aside0.mk hx
  obtain ⟨A, c, rfl, hc, hC, hn⟩ := hm
  have hd : decide ((300 : Int) < (ms.length : Int)) = false := decide_eq_false (by omega)
  have hd2 : decide (300 < ms.length) = false := decide_eq_false h
  have HL := Aside0.mk h
  have HBY := Aside0.mk hb
  have HRD := Aside0.mk (readsInt_of.2 (Kd.reads_of_C (d := (0 : Int)) hC))
  clear h hc hC hn hb hx
  go_enter Try.func3, Try.ntmps3
  go_wp2_with fail
  refine (awake_true _).mono ?_
  rintro e w1 ⟨rfl, hB⟩
  have HB := Aside0.mk hB
  clear hB
  go_wp2_with fail
  refine (put_any _ x HX.out).mono ?_
  rintro e w2 ⟨v2, rfl, hR, hB⟩
  have HR2 := Aside0.mk (Bs.of_R hR)
  have HB2 := Aside0.mk (below_step HB.out hB)
  clear hR hB
  go_wp2_with fail
  refine (refput_any _ x HX.out).mono ?_
  rintro e w3 ⟨v3, rfl, hR, hB⟩
  have HR23 := Aside0.mk (HR2.out.below hB)
  have HR3 := Aside0.mk (Bs.of_R hR)
  have HB3 := Aside0.mk (below_step HB2.out hB)
  clear hR hB
  go_wp2_with fail
  have hlen := enc_len10 x HX.out
  have hpos := enc_pos x
  refine (same_any _ v2 v3 _ _ HR23.out HR3.out (by omega)).mono ?_
  rintro e w4 ⟨rfl, ⟨m4, rfl⟩⟩
  simp only [decide_true]
  have HRV := Aside0.mk HR23.out
  obtain ⟨A2, c2, rfl, hc2, hC2, hn2⟩ := HR23.out
  have HRD2 := Aside0.mk (readsInt_of.2 (Kd.reads_of_C (d := (0 : Int)) hC2))
  have HS3 := Aside0.mk HB3.out.size
  have HNZ := Aside0.mk (And.intro hlen (And.intro hpos hc2))
  clear hC2 hc2 hn2 HR23 HR2 HR3 hlen hpos
  have hi10 : ((enc x).length : Int) ≤ 10 := by have := HNZ.out; omega
  have hi0 : (1 : Int) ≤ ((enc x).length : Int) := by have := HNZ.out; omega
  have hic : ((enc x).length : Int) - 1 ≤ (c2 : Int) := by have := HNZ.out; omega
  have htn : (((enc x).length : Int) - 1).toNat = (enc x).length - 1 := by omega
  go_wp2_with (first | (at_builtin; refine print_append_row (w0 := w3) w3.heap.size rfl (.tmp 26) (.tmp 27) 23 5 .u8 1 rfl Try.underlying23 info_u8 (by decide) (.slice (some ⟨w3.heap.size, 0, none⟩) 0 0) [] (enc x) A2 _ c2 rfl rfl ?aO ?aR ?aB ?aS ?aL ?_; (case aO => exact own_lit (w3.drewN m4) w3.heap.size 5 .u8 [] (Nat.le_refl _) (by decide)); (case aR => exact (ReadsInt.drewN HRD2.out m4).below (below_alloc (B0 _) _)); (case aB => exact (pw_below_drewN (B0 _) m4).alloc (Nat.le_refl _) _); (case aS => exact by simp); (case aL => have := HNZ.out; simp; omega); intro v5 w5 ho hb hg hat; have HO5 := Aside0.mk ho; have HB5 := Aside0.mk hb; clear ho hb hg hat) | (at_builtin; refine print_append_row (w0 := w3) w3.heap.size rfl (.tmp 28) (.tmp 29) 23 5 .u8 1 rfl Try.underlying23 info_u8 (by decide) v5 ([] ++ enc x) ms A _ c rfl rfl ?aO ?aR ?aB ?aS ?aL ?_; (case aO => exact HO5.out); (case aR => exact HRD.out.below (below_step HB3.out HB5.out)); (case aB => exact HB5.out); (case aS => exact HB5.out.size); (case aL => have := HNZ.out; have := HL.out; simp; omega); intro v6 w6 ho hb hg hat; have HO6 := Aside0.mk ho; have HB6 := Aside0.mk hb; clear ho hb hg hat) | fail)
  refine (new_any _ v6 (([] ++ enc x) ++ ms) (Bs.of_R (Kd.R_of_own (h1 := fun _ => rfl) (ok := fun _ => True) HO6.out (fun _ _ => trivial))) (by have := HNZ.out; have := HL.out; simp; omega)).mono ?_
  rintro e w7 ⟨g7, rfl, hg, hI, hB⟩
  have HG7 := Aside0.mk (Nat.le_trans HB6.out.size hg)
  have HI7 := Aside0.mk hI
  have HB7 := Aside0.mk (below_step HB6.out hB)
  clear hg hI hB
  go_wp2_with fail
  refine (number_at _ g7 _ 0 HI7.out (by decide) (by omega) (by have := HNZ.out; have := HL.out; simp; omega) (by
    intro b hb
    simp only [List.nil_append, List.mem_append] at hb
    exact hb.elim (enc_byte x b) (HBY.out b))).mono ?_
  rintro e w8 ⟨rfl, _, _, hB⟩
  have HB8 := Aside0.mk (HB7.out.trans (hB.mono HG7.out))
  clear hB
  have hdr : List.drop (Int.toNat 0) (([] ++ enc x) ++ ms) = enc x ++ ms := rfl
  rw [hdr, num_enc x HX.out ms]
  clear hdr
  simp only [numE, errW]
  go_wp2_with fail
  refine (new_any _ _ _ ((HRV.out.below HB8.out).take ((enc x).length - 1) (by omega)) (by have := HNZ.out; simp; omega)).mono ?_
  rintro e w9 ⟨g9, rfl, hg, hI, hB⟩
  have HG9 := Aside0.mk (Nat.le_trans HB8.out.size hg)
  have HI9 := Aside0.mk hI
  have HB9 := Aside0.mk (below_step HB8.out hB)
  clear hg hI hB
  go_wp2_with fail
  refine (number_at _ g9 _ 0 HI9.out (by decide) (by omega) (by have := HNZ.out; simp; omega) (fun b hb => enc_byte x b (List.mem_of_mem_take hb))).mono ?_
  rintro e w10 ⟨rfl, _, _, hB⟩
  have HB10 := Aside0.mk (HB9.out.trans (hB.mono HG9.out))
  clear hB
  have hdr : List.drop (Int.toNat 0) ((enc x).take ((enc x).length - 1)) = (enc x).take ((enc x).length - 1) := rfl
  rw [hdr, num_short x HX.out _ (by have := HNZ.out; omega)]
  clear hdr
  simp only [numE, errW]
  have hif : ∀ w : World, (binOp .eql 28 (.iface 33 (.int .i64 1)) (.iface 33 (.int .i64 1))).run Try.prog w = .ok (.bool true) w := fun w => by kernel_rfl
  have hxx : ((x : Int) == x) = true := by simp
  go_wp2
  go_ret
  exact ⟨by simp, below_step HB3.out HB10.out⟩

theorem lengths_row (a0 a1 : Int) (W : World) (w0 : (Lit.int .u64 a0).wf = true) (w1 : (Lit.int .u64 a1).wf = true) :
    Calls Try.prog 4 #[.int .u64 a0, .int .u64 a1] W fun e w' => e = .returned (.bool true) ∧ Below W.heap.size W w' := by
  obtain ⟨x, rfl, hx⟩ := wf_u64 w0
  obtain ⟨y, rfl, hy⟩ := wf_u64 w1
  exact lengths_walk W x y hx hy

theorem numbers_row (a0 : Int) (a1 : Option Addr) (len1 cap1 : Nat) (z1 : List Int) (W : World) (w0 : (Lit.int .u64 a0).wf = true) (w1 : IsRow .u8 W a1 len1 cap1 z1) (y1 : len1 * 1 ≤ 140737488351232) :
    Calls Try.prog 3 #[.int .u64 a0, .slice a1 len1 cap1] W fun e w' => e = .returned (.bool true) ∧ Below W.heap.size W w' := by
  obtain ⟨x, rfl, hx⟩ := wf_u64 w0
  obtain ⟨ms, _, hm, hb⟩ := bs_row w1
  by_cases h : 300 < ms.length
  · exact numbers_far W x _ ms hm h
  · exact numbers_near W x _ ms hx hm hb h

end Go.Proofs.Ytbijboolhkjpjaa.HW01
