/- The reference of base: Decode. -/
import Derived.Test.YtododekidopkhaaHRef04
namespace Go.Proofs.Ytododekidopkhaa.HRef04d
open Go.RowKit Go.Proofs.YtododekidopkhaaW.PrintWords Go.Proofs.Ytododekidopkhaa.HLib Go.Proofs.Ytododekidopkhaa.HBaseS Go.Proofs.Ytododekidopkhaa.HBase Go.Proofs.Ytododekidopkhaa.HEnc Go.Proofs.Ytododekidopkhaa.HDec Go.Proofs.Ytododekidopkhaa.HBaseL Go.Proofs.Ytododekidopkhaa.HRef04
set_option linter.unusedVariables false
set_option linter.unusedSimpArgs false

def refP (s : ByteArray) : List Int × Int :=
  match badAt s with
  | some i => ([], i)
  | none => if 6 ≤ 6 * s.size - 8 * (6 * s.size / 8) ∨ 0 < (((vids s).flatMap (bts 6)).drop (8 * (6 * s.size / 8))).sum then ([], (s.size : Int) - 1) else (chs 8 ((vids s).flatMap (bts 6)), -1)

theorem refP_bad {s : ByteArray} {j : Nat} (h : ∀ i : Nat, i < j → 0 ≤ vidx (bt s i)) (hj : j < s.size) (hb : vidx (bt s j) < 0) : refP s = ([], (j : Int)) := by
  have : badAt s = some j := by
    unfold badAt
    rw [List.find?_range_eq_some]
    exact ⟨decide_eq_true hb, List.mem_range.2 hj, fun i hi => by have := h i hi; simp; omega⟩
  rw [refP, this]
theorem sum_take_succ (l : List Int) (q k : Nat) (h : q + k < l.length) : ((l.drop q).take (k + 1)).sum = ((l.drop q).take k).sum + l.getD (q + k) 0 := by
  rw [List.take_add_one, List.getElem?_drop, List.getElem?_eq_getElem h, List.getD_eq_getElem?_getD, List.getElem?_eq_getElem h, List.sum_append]
  simp
theorem sum_01 : ∀ (l : List Int), (∀ x ∈ l, x = 0 ∨ x = 1) → 0 ≤ l.sum ∧ l.sum ≤ l.length := by
  intro l
  induction l with
  | nil => intro _; simp
  | cons x l ih =>
    intro h
    have h1 := ih (fun y hy => h y (List.mem_cons_of_mem _ hy))
    have h2 := h x (List.mem_cons_self ..)
    rw [List.sum_cons, List.length_cons]
    omega

set_option maxHeartbeats 8000000 in
theorem refDecode_any (w : World) (s : ByteArray) (hl : s.size ≤ 1099511627) :
    Calls Try.prog 14 #[.string s] w fun e w' => ∃ v, e = .returned (.tuple #[v, .int .i64 (refP s).2]) ∧ Bs w' v (refP s).1 ∧ Below w.heap.size w w' := by
  have HL := Aside0.mk hl
  clear hl
  go_enter Try.func14, Try.ntmps14
  go_wp2
  go_loopg [4, 5, 6, 7] s.size (fun kq v4 v5 v6 v7 w' => ∃ (j : Int), v5 = .int .i64 j ∧ Aside0 (0 ≤ j ∧ (kq : Int) + j = s.size ∧ ∀ i : Nat, i < j.toNat → 0 ≤ vidx (bt s i)) ∧
    Aside0 (Kd.R (Kd.int .i64) 3 w' w.heap.size (fun _ => True) v4 (((vids s).take j.toNat).flatMap (bts 6))) ∧ Aside0 (Below w.heap.size w w'))
  case atStart => exact ⟨0, rfl, ⟨⟨by omega, by omega, fun i hi => by omega⟩⟩, ⟨Kd.R_nil _ _ _ _ _⟩, ⟨B0 w⟩⟩
  case round =>
    obtain ⟨j, rfl, HA, HO, HB⟩ := hrel
    have hj0 := HA.out.1
    have hjm : j ≤ 1099511627 := by have := HA.out; have := HL.out; omega
    by_cases c1 : j < s.size
    · have d1 : decide (j < (s.size : Int)) = true := decide_eq_true c1
      go_wp2_with (rw [bt_at s j])
      refine (refValue_any _ _ (by have := bt_range s j; omega)).mono ?_
      rintro e w1 ⟨rfl, m, hw1⟩
      have HV := Aside0.mk (show (vids s).getD j.toNat 0 = vidx (bt s j) from by
        rw [vids_get s j.toNat (by omega), show ((j.toNat : Nat) : Int) = j from by omega])
      obtain ⟨V, hV⟩ : ∃ V, V = vidx (bt s j) := ⟨_, rfl⟩
      have HVE := Aside0.mk hV
      have hv64 : V < 64 := by rw [hV]; exact (vidx_lt _).2
      rw [← hV]
      have HB1 : Aside0 (Below w.heap.size w w1) := ⟨by rw [hw1]; exact pw_below_drewN HB.out m⟩
      have HO1 : Aside0 (Kd.R (Kd.int .i64) 3 w1 w.heap.size (fun _ => True) u4 (((vids s).take j.toNat).flatMap (bts 6))) := ⟨by rw [hw1]; exact HO.out⟩
      clear hV hw1 HO HB
      by_cases c2 : V < 0
      · have d2 : decide (V < 0) = true := decide_eq_true c2
        have HD := Aside0.mk (refP_bad (s := s) (j := j.toNat) HA.out.2.2 (by omega) (by rw [show ((j.toNat : Nat) : Int) = j from by omega, ← HVE.out]; omega))
        have HJ := Aside0.mk (show ((j.toNat : Nat) : Int) = j from by omega)
        go_wp2
        go_ret2
        rw [HD.out, HJ.out]
        exact ⟨_, rfl, Bs.nil _, HB1.out⟩
      · have d2 : decide (V < 0) = false := decide_eq_false c2
        have hv0 : 0 ≤ V := by omega
        clear c2
        go_wp2
        go_loopg [4, 7] 6 (fun kq v4 v7 w' => ∃ (k : Int), v7 = .int .i64 k ∧ Aside0 (-1 ≤ k ∧ k ≤ 5 ∧ (kq : Int) = k + 1) ∧
          Aside0 (Kd.R (Kd.int .i64) 3 w' w.heap.size (fun _ => True) v4 (((vids s).take j.toNat).flatMap (bts 6) ++ bts (5 - k).toNat (V / 2 ^ (k + 1).toNat))) ∧ Aside0 (Below w.heap.size w w'))
        case atStart =>
          refine ⟨5, rfl, ⟨⟨by omega, by omega, by omega⟩⟩, ⟨?_⟩, HB1⟩
          have := HO1.out
          rw [show (5 - (5 : Int)).toNat = 0 from rfl, bts, List.append_nil]
          exact this
        case round =>
          obtain ⟨k, rfl, HK, HO2, HB2⟩ := hrel
          have hk0 := HK.out.1
          have hk7 := HK.out.2.1
          by_cases c2 : 0 ≤ k
          · have d2 : decide (0 ≤ k) = true := decide_eq_true c2
            have hp0 : (0 : Int) < 2 ^ k.toNat := Int.pow_pos (by decide)
            have hy0 : 0 ≤ V / 2 ^ k.toNat := Int.ediv_nonneg hv0 (by omega)
            have hy1 : V / 2 ^ k.toNat < 64 := Int.lt_of_le_of_lt (Int.ediv_le_self _ hv0) hv64
            have HLN := Aside0.mk (show (((vids s).take j.toNat).flatMap (bts 6) ++ bts (5 - k).toNat (V / 2 ^ (k + 1).toNat)).length ≤ 9000000000 from by
              rw [List.length_append, flat_len, bts_len, List.length_take, vids_len]; omega)
            clear hp0
            go_wp2_with (at_builtin; refine Kd.R_append (Kd.int .i64) (w0 := w) w.heap.size rfl (.tmp 32) (.tmp 38) 40 3 (.int .i64 0) 8 rfl Try.underlying40 info_int rfl (by decide) (by omega) u4 (((vids s).take j.toNat).flatMap (bts 6) ++ bts (5 - k).toNat (V / 2 ^ (k + 1).toNat)) (V / 2 ^ k.toNat % 2) [.int .i64 (V / 2 ^ k.toNat % 2)] (fun _ => True) (fun _ => False) rfl rfl ?aP (fun _ hk => hk.elim) (fun _ _ => trivial) ?aO ?aB ?aS ?aL ?_; (case aP => exact rfl); (case aB => exact HB2.out); (case aO => exact HO2.out); (case aS => exact HB2.out.size); (case aL => (have := HLN.out; omega)); intro v3 w3 ho hb hg hat; have HO3 := Aside0.mk ho; have HB3 := Aside0.mk hb; clear ho hb hg hat)
            go_roundg k.toNat
            case measure => have := HK.out; omega
            case rel =>
              refine ⟨k - 1, rfl, ⟨⟨by omega, by omega, by omega⟩⟩, ⟨?_⟩, HB3⟩
              have h := HO3.out
              rw [List.append_assoc] at h
              have e : bts (5 - (k - 1)).toNat (V / 2 ^ (k - 1 + 1).toNat) = bts (5 - k).toNat (V / 2 ^ (k + 1).toNat) ++ [V / 2 ^ k.toNat % 2] := by
                rw [show (5 - (k - 1)).toNat = (5 - k).toNat + 1 from by omega, show (k - 1 + 1) = k from by omega, bts, show (k + 1).toNat = k.toNat + 1 from by omega, Int.pow_succ, Int.ediv_ediv_of_nonneg (by exact Int.le_of_lt (Int.pow_pos (by decide)))]
              rw [e]
              exact h
          · have d2 : decide (0 ≤ k) = false := decide_eq_false c2
            have HF := Aside0.mk (show ((vids s).take (j + 1).toNat).flatMap (bts 6) = ((vids s).take j.toNat).flatMap (bts 6) ++ bts (5 - k).toNat (V / 2 ^ (k + 1).toNat) from by
              have hx := HV.out
              rw [List.getD_eq_getElem?_getD] at hx
              have hlt : j.toNat < (vids s).length := by rw [vids_len]; omega
              rw [List.getElem?_eq_getElem hlt] at hx
              rw [show k = -1 from by omega, show (5 - (-1 : Int)).toNat = 6 from rfl, show ((-1 : Int) + 1).toNat = 0 from rfl, show (j + 1).toNat = j.toNat + 1 from by omega, List.take_add_one, List.getElem?_eq_getElem hlt, List.flatMap_append]
              simp at hx
              simp [hx, HVE.out])
            have HVP := Aside0.mk (show 0 ≤ vidx (bt s j) from by rw [← HVE.out]; exact hv0)
            go_wp2
            go_roundg (s.size - (j + 1).toNat)
            case measure => have := HA.out; omega
            case rel =>
              refine ⟨j + 1, rfl, ⟨⟨by omega, by omega, fun i hi => ?_⟩⟩, ⟨?_⟩, HB2⟩
              · by_cases hij : i < j.toNat
                · exact HA.out.2.2 i hij
                · rw [show i = j.toNat from by omega, show ((j.toNat : Nat) : Int) = j from by omega]
                  exact HVP.out
              · rw [HF.out]
                exact HO2.out
    · have d1 : decide (j < (s.size : Int)) = false := decide_eq_false c1
      have HGD := Aside0.mk (show ∀ i : Nat, i < s.size → 0 ≤ vidx (bt s i) from fun i hi => HA.out.2.2 i (by have := HA.out; omega))
      have HBN := Aside0.mk (badAt_none HGD.out)
      obtain ⟨L, hL⟩ : ∃ L, L = (vids s).flatMap (bts 6) := ⟨_, rfl⟩
      have HLE := Aside0.mk hL
      have HO1 : Aside0 (Kd.R (Kd.int .i64) 3 wr w.heap.size (fun _ => True) u4 L) := ⟨by
        have h := HO.out
        rw [List.take_of_length_le (by rw [vids_len]; have := HA.out; omega), ← hL] at h
        exact h⟩
      have HLL := Aside0.mk (show L.length = 6 * s.size from by rw [hL, flat_len, vids_len])
      have HL0 := Aside0.mk (show ∀ x ∈ L, x = 0 ∨ x = 1 from by rw [hL]; exact flat_01 6 _)
      have hLs : (L.length : Int) ≤ 9000000000 := by have := HLL.out; have := HL.out; omega
      obtain ⟨A3, c3, rfl, _, hC3⟩ := Kd.R_reads HO1.out
      have HC3 := Aside0.mk hC3
      have hq : (L.length : Int).tdiv 8 = (L.length : Int) / 8 := Int.tdiv_eq_ediv_of_nonneg (by omega)
      clear hL HO c1 hC3
      go_wp2
      clear hq
      go_loopg [9, 10] (L.length - 8 * (L.length / 8)) (fun kq v9 v10 w' => ∃ (I : Int) (t : Nat), v10 = .int .i64 I ∧ v9 = .int .i64 ((L.drop (8 * (L.length / 8))).take t).sum ∧ Aside0 (t + kq = L.length - 8 * (L.length / 8) ∧ I = 8 * ((L.length : Int) / 8) + t) ∧ w' = wr)
      case atStart => exact ⟨_, 0, rfl, rfl, ⟨by omega, by omega⟩, rfl⟩
      case round =>
        obtain ⟨I, t, rfl, rfl, HT, rfl⟩ := hrel
        have hI0 : 0 ≤ I := by have := HT.out; omega
        have hI1 : I ≤ 9000000000 := by have := HT.out; omega
        obtain ⟨S, hS⟩ : ∃ S, S = ((L.drop (8 * (L.length / 8))).take t).sum := ⟨_, rfl⟩
        have HS := Aside0.mk hS
        have hSr := sum_01 ((L.drop (8 * (L.length / 8))).take t) (fun x hx => HL0.out x (List.mem_of_mem_drop (List.mem_of_mem_take hx)))
        rw [← hS] at hSr
        have hS1 : S ≤ 9000000000 := by have h := hSr.2; rw [List.length_take, List.length_drop] at h; omega
        have hS0 := hSr.1
        rw [← hS]
        clear hS hSr
        by_cases c2 : I < L.length
        · have d2 : decide (I < (L.length : Int)) = true := decide_eq_true c2
          obtain ⟨ad, rfl, hx⟩ := Kd.at_int HC3.out I hI0 c2
          obtain ⟨Y, hY⟩ : ∃ Y, Y = rd L I := ⟨_, rfl⟩
          have HY := Aside0.mk (show ((L.drop (8 * (L.length / 8))).take (t + 1)).sum = S + Y from by
            have := HT.out
            rw [sum_take_succ L _ t (by omega), HS.out, hY, rd, show I.toNat = 8 * (L.length / 8) + t from by omega])
          have hYr := getD_01 L I.toNat HL0.out
          rw [← hY] at hx
          obtain ⟨hY0, hY1⟩ : 0 ≤ Y ∧ Y ≤ 1 := by rw [hY]; exact hYr
          clear hY hYr
          go_wp2
          go_roundg (L.length - 8 * (L.length / 8) - (t + 1))
          case measure => have := HT.out; omega
          case rel => exact ⟨I + 1, t + 1, rfl, by rw [HY.out], ⟨by have := HT.out; omega, by have := HT.out; omega⟩, rfl⟩
        · have d2 : decide (I < (L.length : Int)) = false := decide_eq_false c2
          have HSE := Aside0.mk (show S = (L.drop (8 * (L.length / 8))).sum from by
            rw [HS.out, List.take_of_length_le (by rw [List.length_drop]; have := HT.out; omega)])
          clear c2
          by_cases c4 : 6 ≤ L.length - 8 * (L.length / 8) ∨ 0 < S
          · have HR := Aside0.mk (show refP s = ([], (s.size : Int) - 1) from by
              rw [refP, HBN.out, ← HLE.out, ← HLL.out, ← HSE.out]
              exact if_pos c4)
            have hsz : (s.size : Int) ≤ 1099511627 := by have := HL.out; omega
            by_cases c5 : 6 ≤ (L.length : Int) - 8 * ((L.length : Int) / 8)
            · have d5 : decide (6 ≤ (L.length : Int) - 8 * ((L.length : Int) / 8)) = true := decide_eq_true c5
              clear c5 c4
              go_wp2
              go_ret2
              rw [HR.out]
              exact ⟨_, rfl, Bs.nil _, HB.out⟩
            · have d5 : decide (6 ≤ (L.length : Int) - 8 * ((L.length : Int) / 8)) = false := decide_eq_false c5
              have d6 : decide (0 < S) = true := decide_eq_true (by omega)
              clear c5 c4
              go_wp2
              go_ret2
              rw [HR.out]
              exact ⟨_, rfl, Bs.nil _, HB.out⟩
          · have HR := Aside0.mk (show refP s = (chs 8 L, -1) from by
              rw [refP, HBN.out, ← HLE.out, ← HLL.out, ← HSE.out]
              exact if_neg c4)
            have d5 : decide (6 ≤ (L.length : Int) - 8 * ((L.length : Int) / 8)) = false := decide_eq_false (by omega)
            have d6 : decide (0 < S) = false := decide_eq_false (by omega)
            clear c4
            obtain ⟨wL, rfl⟩ : ∃ x, x = wr := ⟨_, rfl⟩
            go_wp2
            go_loopg [11, 12, 13, 14] (L.length / 8) (fun kq v11 v12 v13 v14 w' => ∃ (I : Int) (q : Nat), v12 = .int .i64 I ∧ Aside0 (q + kq = L.length / 8 ∧ I = (q : Int)) ∧
              Aside0 (Kd.R (Kd.int .u8) 5 w' wL.heap.size (fun _ => True) v11 ((chs 8 L).take q)) ∧ Aside0 (Below wL.heap.size wL w'))
            case atStart => exact ⟨0, 0, rfl, ⟨by omega, by omega⟩, ⟨Kd.R_nil _ _ _ _ _⟩, ⟨B0 wL⟩⟩
            case round =>
              obtain ⟨J, q, rfl, HQ, HO4, HB4⟩ := hrel
              have hJ0 : 0 ≤ J := by have := HQ.out; omega
              have hJ1 : J ≤ 9000000006 := by have := HQ.out; omega
              by_cases c3 : J < (L.length : Int) / 8
              · have d3 : decide (J < (L.length : Int) / 8) = true := decide_eq_true c3
                have HQP := Aside0.mk (show q < L.length / 8 from by have := HQ.out; omega)
                have HQ6 := Aside0.mk (show 8 * q + 8 ≤ L.length from by have := HQP.out; omega)
                clear c3
                go_wp2
                go_loopg [13, 14] 8 (fun kq v13 v14 w' => ∃ (K : Int) (k : Nat), v14 = .int .i64 K ∧ v13 = .int .i64 (val ((L.drop (8 * q)).take k)) ∧ Aside0 (k + kq = 8 ∧ K = k) ∧ w' = wr)
                case atStart => exact ⟨0, 0, rfl, rfl, ⟨by omega, rfl⟩, rfl⟩
                case round =>
                  obtain ⟨K, k, rfl, rfl, HK, rfl⟩ := hrel
                  have hk6 : K ≤ 8 := by have := HK.out; omega
                  have hk0 : 0 ≤ K := by have := HK.out; omega
                  obtain ⟨V, hV⟩ : ∃ V, V = val ((L.drop (8 * q)).take k) := ⟨_, rfl⟩
                  have HV := Aside0.mk hV
                  have hVr := val_take_range L (8 * q) k HL0.out (by have := HQ6.out; have := HK.out; omega)
                  rw [← hV] at hVr
                  have hV64 : V < 256 := Int.lt_of_lt_of_le hVr.2 (pow_le k 8 (by have := HK.out; omega))
                  have hV0 := hVr.1
                  clear hVr
                  rw [← hV]
                  clear hV
                  by_cases c4 : K < 8
                  · have d4 : decide (K < 8) = true := decide_eq_true c4
                    have hi0 : 0 ≤ 8 * J + K := by omega
                    have hi1 : 8 * J + K < L.length := by have := HQ6.out; have := HQ.out; omega
                    obtain ⟨ad, rfl, hx⟩ := Kd.at_int (Kd.C_below HC3.out HB4.out) (8 * J + K) hi0 hi1
                    obtain ⟨Y, hY⟩ : ∃ Y, Y = rd L (8 * J + K) := ⟨_, rfl⟩
                    have HY := Aside0.mk (show val ((L.drop (8 * q)).take (k + 1)) = 2 * V + Y from by
                      have := HQ.out; have := HK.out
                      rw [take_succ_rd L (8 * q) k (by have := HQ6.out; omega), HV.out, hY, rd, show (8 * J + K).toNat = 8 * q + k from by omega])
                    have hYr := getD_01 L (8 * J + K).toNat HL0.out
                    rw [← hY] at hx
                    obtain ⟨hY0, hY1⟩ : 0 ≤ Y ∧ Y ≤ 1 := by rw [hY]; exact hYr
                    clear hY hYr
                    go_wp2
                    go_roundg (8 - (k + 1))
                    case measure => have := HK.out; omega
                    case rel => exact ⟨K + 1, k + 1, by simp, by rw [HY.out], ⟨by have := HK.out; omega, by have := HK.out; omega⟩, rfl⟩
                  · have d4 : decide (K < 8) = false := decide_eq_false c4
                    have HK6 := Aside0.mk (show k = 8 from by have := HK.out; omega)
                    have HSL := Aside0.mk (show ((chs 8 L).take q).length ≤ 9000000000 from by rw [List.length_take, chs_len]; omega)
                    clear c4
                    go_wp2_with (at_builtin; refine Kd.R_append (Kd.int .u8) (w0 := wL) wL.heap.size rfl (.tmp 89) (.tmp 92) 22 5 (.int .u8 0) 1 rfl Try.underlying22 info_u8 rfl (by decide) (by omega) u11 ((chs 8 L).take q) V [.int .u8 V] (fun _ => True) (fun _ => False) rfl rfl ?aP (fun _ hk => hk.elim) (fun _ _ => trivial) ?aO ?aB ?aS ?aL ?_; (case aP => exact rfl); (case aB => exact HB4.out); (case aO => exact HO4.out); (case aS => exact HB4.out.size); (case aL => (have := HSL.out; omega)); intro v7 w7 ho hb hg hat; have HO7 := Aside0.mk ho; have HB7 := Aside0.mk hb; clear ho hb hg hat)
                    go_roundg (L.length / 8 - (q + 1))
                    case measure => have := HQ.out; have := HQP.out; omega
                    case rel =>
                      refine ⟨J + 1, q + 1, rfl, ⟨by have := HQP.out; omega, by have := HQ.out; omega⟩, ⟨?_⟩, HB7⟩
                      have h := HO7.out
                      rw [HV.out, HK6.out] at h
                      rw [chs_take_succ L q HQP.out]
                      exact h
              · have d3 : decide (J < (L.length : Int) / 8) = false := decide_eq_false c3
                have HX := Aside0.mk (show (chs 8 L).take q = chs 8 L from List.take_of_length_le (by rw [chs_len]; have := HQ.out; omega))
                have HBs := Aside0.mk (Bs.of_R HO4.out)
                clear c3
                go_wp2
                go_ret2
                rw [HR.out]
                refine ⟨_, rfl, ?_, HB.out.trans (HB4.out.mono HB.out.size)⟩
                rw [← HX.out]
                exact HBs.out

end Go.Proofs.Ytododekidopkhaa.HRef04d
