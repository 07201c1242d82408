/- The reference of base. -/
import Derived.Test.YtododekidopkhaaHDec
import Derived.Test.YtododekidopkhaaHBaseL
namespace Go.Proofs.Ytododekidopkhaa.HRef04
open Go.RowKit Go.Proofs.YtododekidopkhaaW.PrintWords Go.Proofs.Ytododekidopkhaa.HLib Go.Proofs.Ytododekidopkhaa.HBaseS Go.Proofs.Ytododekidopkhaa.HBase Go.Proofs.Ytododekidopkhaa.HEnc Go.Proofs.Ytododekidopkhaa.HDec Go.Proofs.Ytododekidopkhaa.HBaseL
set_option linter.unusedVariables false
set_option linter.unusedSimpArgs false

theorem alpha_get (k : Nat) (c : Int) (hc : 0 ≤ c ∧ c < 256) (hk : k < 64) : alpha.data.toList[k]? = some c.toNat.toUInt8 ↔ bt alpha k = c := by
  have hl : alpha.data.toList.length = 64 := rfl
  have hs : alpha.size = 64 := rfl
  rw [List.getElem?_eq_getElem (by omega), bt, dif_pos (show ((k : Nat) : Int).toNat < alpha.size by omega)]
  have e : alpha[((k : Nat) : Int).toNat]'(by omega) = alpha.data.toList[k]'(by omega) := rfl
  rw [e]
  constructor
  · intro h
    injection h with h
    rw [h, show c.toNat.toUInt8.toNat = c.toNat % 256 from rfl]
    omega
  · intro h
    congr 1
    apply UInt8.toNat_inj.1
    rw [show c.toNat.toUInt8.toNat = c.toNat % 256 from rfl]
    omega
theorem vidx_at (c : Int) (hc : 0 ≤ c ∧ c < 256) (j : Nat) (hj : j < 64) (h1 : bt alpha j = c) (h2 : ∀ k : Nat, k < j → bt alpha k ≠ c) : vidx c = j := by
  have hl : alpha.data.toList.length = 64 := rfl
  have hj1 := (alpha_get j c hc hj).2 h1
  rcases Int.lt_or_le (vidx c) 0 with h | h
  · have hv : vidx c = -1 := by have := vidx_lt c; omega
    exact absurd hj1 (Lib.indexByte_none hv j)
  · obtain ⟨o, ho⟩ := Int.eq_ofNat_of_zero_le h
    obtain ⟨q1, q2⟩ := Lib.indexByte_some (o := o) ho
    have ho64 : o < 64 := by have := vidx_lt c; omega
    rcases Nat.lt_trichotomy o j with h3 | h3 | h3
    · exact absurd ((alpha_get o c hc ho64).1 q1) (h2 o h3)
    · rw [ho, h3]
    · exact absurd hj1 (q2 j h3)
theorem vidx_none (c : Int) (hc : 0 ≤ c ∧ c < 256) (h : ∀ k : Nat, k < 64 → bt alpha k ≠ c) : vidx c = -1 := by
  rcases Int.lt_or_le (vidx c) 0 with h0 | h0
  · have := vidx_lt c; omega
  · obtain ⟨o, ho⟩ := Int.eq_ofNat_of_zero_le h0
    obtain ⟨q1, _⟩ := Lib.indexByte_some (o := o) ho
    have ho64 : o < 64 := by have := vidx_lt c; omega
    exact absurd ((alpha_get o c hc ho64).1 q1) (h o ho64)
theorem sign_vidx (c : Int) (hc : 0 ≤ c ∧ c < 256) (h0 : 0 ≤ vidx c) : sign (vidx c) = c := by
  obtain ⟨o, ho⟩ := Int.eq_ofNat_of_zero_le h0
  obtain ⟨q1, _⟩ := Lib.indexByte_some (o := o) ho
  have ho64 : o < 64 := by have := vidx_lt c; omega
  rw [ho]
  exact (alpha_get o c hc ho64).1 q1
theorem vidx_sign_all : ∀ v : Fin 64, vidx (sign (v.val : Int)) = (v.val : Int) := of_decide_eq_true (by kernel_rfl)
theorem vidx_sign (v : Int) (h0 : 0 ≤ v) (h1 : v < 64) : vidx (sign v) = v := by
  have := vidx_sign_all ⟨v.toNat, by omega⟩
  simp only at this
  rw [show ((v.toNat : Nat) : Int) = v from by omega] at this
  exact this

theorem alphabet_any (w : World) : Calls Try.prog 23 #[] w fun e w' => e = .returned (.string alpha) ∧ w' = w := by
  go_enter Try.func23, Try.ntmps23
  go_wp2
  go_ret
  exact ⟨rfl, rfl⟩

set_option maxHeartbeats 2000000 in
theorem refValue_any (c : Int) (w : World) (hc : 0 ≤ c ∧ c < 256) : Calls Try.prog 17 #[.int .u8 c] w fun e w' => e = .returned (.int .i64 (vidx c)) ∧ ∃ m, w' = w.drewN m := by
  have HC := Aside0.mk hc
  clear hc
  go_enter Try.func17, Try.ntmps17
  go_wp2_with fail
  refine (alphabet_any _).mono ?_
  rintro e w1 ⟨rfl, rfl⟩
  obtain ⟨S, hS⟩ : ∃ S, S = alpha := ⟨_, rfl⟩
  have HS := Aside0.mk hS
  have HZ := Aside0.mk (show S.size = 64 from by rw [hS]; rfl)
  rw [← hS]
  clear hS
  go_wp2
  go_loopg [4] 64 (fun kq v4 w' => ∃ (j : Int), v4 = .int .i64 j ∧ Aside0 (0 ≤ j ∧ (kq : Int) + j = 64 ∧ ∀ k : Nat, k < j.toNat → bt alpha k ≠ c) ∧ ∃ m, w' = w1.drewN m)
  case atStart => exact ⟨0, rfl, ⟨⟨by omega, by omega, fun k hk => by omega⟩⟩, 0, rfl⟩
  case round =>
    obtain ⟨j, rfl, HA, m, rfl⟩ := hrel
    have hj0 := HA.out.1
    have hjm : j ≤ 64 := by have := HA.out; omega
    by_cases c1 : j < S.size
    · have d1 : decide (j < (S.size : Int)) = true := decide_eq_true c1
      have HJ64 := Aside0.mk (show j.toNat < 64 from by have := HZ.out; omega)
      by_cases c2 : bt S j = c
      · have d2 : (bt S j == c) = true := beq_iff_eq.2 c2
        have HV := Aside0.mk (vidx_at c HC.out j.toNat HJ64.out (by rw [← HS.out, show ((j.toNat : Nat) : Int) = j from by omega]; exact c2) HA.out.2.2)
        go_wp2_with (rw [bt_at S j])
        go_ret
        rw [HV.out, show ((j.toNat : Nat) : Int) = j from by omega]
        exact ⟨rfl, _, rfl⟩
      · have d2 : (bt S j == c) = false := beq_false_of_ne c2
        have HN := Aside0.mk c2
        clear c2
        go_wp2_with (rw [bt_at S j])
        go_roundg (64 - (j + 1).toNat)
        case measure => have := HA.out; have := HJ64.out; omega
        case rel =>
          refine ⟨j + 1, rfl, ⟨⟨by omega, by have := HJ64.out; omega, fun k hk => ?_⟩⟩, _, rfl⟩
          by_cases hkj : k < j.toNat
          · exact HA.out.2.2 k hkj
          · rw [show k = j.toNat from by omega, show ((j.toNat : Nat) : Int) = j from by omega, ← HS.out]
            exact HN.out
    · have d1 : decide (j < (S.size : Int)) = false := decide_eq_false c1
      have HV := Aside0.mk (vidx_none c HC.out (fun k hk => HA.out.2.2 k (by have := HZ.out; omega)))
      go_wp2
      go_ret
      rw [HV.out]
      exact ⟨rfl, _, rfl⟩

theorem put_bit (m : Nat) (v : Int) : bts (m + 1) v = bts m (v / 2) ++ [v % 2] := rfl

theorem chs_get {tw : Nat} (l : List Int) (q : Nat) (h : q < l.length / tw) : (chs tw l)[q]? = some (val ((l.drop (tw * q)).take tw)) := by
  unfold chs
  rw [List.getElem?_map, List.getElem?_range h]
  rfl
theorem chs_len (tw : Nat) (l : List Int) : (chs tw l).length = l.length / tw := by simp [chs]
theorem chs_take_succ {tw : Nat} (l : List Int) (q : Nat) (h : q < l.length / tw) : (chs tw l).take (q + 1) = (chs tw l).take q ++ [val ((l.drop (tw * q)).take tw)] := by
  rw [List.take_add_one, chs_get l q h]
  rfl
theorem take_succ_rd (l : List Int) (q k : Nat) (h : q + k < l.length) : val ((l.drop q).take (k + 1)) = 2 * val ((l.drop q).take k) + l.getD (q + k) 0 := by
  rw [List.take_add_one, List.getElem?_drop, List.getElem?_eq_getElem h, List.getD_eq_getElem?_getD, List.getElem?_eq_getElem h]
  exact val_snoc _ _
theorem val_take_range (l : List Int) (q k : Nat) (h : ∀ x ∈ l, x = 0 ∨ x = 1) (h2 : q + k ≤ l.length) : 0 ≤ val ((l.drop q).take k) ∧ val ((l.drop q).take k) < 2 ^ k := by
  obtain ⟨a, b, _⟩ := val_range (tw := k) ((l.drop q).take k) (fun x hx => h x (List.mem_of_mem_drop (List.mem_of_mem_take hx))) (by rw [List.length_take, List.length_drop]; omega)
  exact ⟨a, b⟩
theorem getD_01 (l : List Int) (q : Nat) (h : ∀ x ∈ l, x = 0 ∨ x = 1) : 0 ≤ l.getD q 0 ∧ l.getD q 0 ≤ 1 := by
  rw [List.getD_eq_getElem?_getD]
  by_cases hq : q < l.length
  · rw [List.getElem?_eq_getElem hq]
    have := h _ (List.getElem_mem hq)
    simp only [Option.getD_some]
    omega
  · rw [List.getElem?_eq_none (by omega)]; decide

set_option maxHeartbeats 8000000 in
theorem refEncode_any (w : World) (v : Value) (b : List Int) (h : Bs w v b) (hb : ∀ x ∈ b, 0 ≤ x ∧ x < 256) (hl : b.length ≤ 1099511627) :
    Calls Try.prog 11 #[v] w fun e w' => e = .returned (.string (strOfNums ((chs 6 (pad 6 (b.flatMap (bts 8)))).map sign))) ∧ Below w.heap.size w w' := by
  obtain ⟨A, c, rfl, hc, hC, hn⟩ := h
  have HC := Aside0.mk hC
  have HBY := Aside0.mk hb
  have HL := Aside0.mk hl
  clear hC hb hc hn hl
  go_enter Try.func11, Try.ntmps11
  go_wp2
  go_loopg [3, 4, 5] b.length (fun kq v3 v4 v5 w' => ∃ (j : Int), v4 = .int .i64 j ∧ Aside0 (0 ≤ j ∧ (kq : Int) + j = b.length) ∧
    Aside0 (Kd.R (Kd.int .i64) 3 w' w.heap.size (fun _ => True) v3 ((b.take j.toNat).flatMap (bts 8))) ∧ Aside0 (Below w.heap.size w w'))
  case atStart => exact ⟨0, rfl, ⟨⟨by omega, by omega⟩⟩, ⟨Kd.R_nil _ _ _ _ _⟩, ⟨B0 w⟩⟩
  case round =>
    obtain ⟨j, rfl, HA, HO, HB⟩ := hrel
    have hj0 := HA.out.1
    have hjm : j ≤ 1099511627 := by have := HA.out; have := HL.out; omega
    by_cases c1 : j < b.length
    · have d1 : decide (j < (b.length : Int)) = true := decide_eq_true c1
      obtain ⟨X, hX⟩ : ∃ X, X = rd b j := ⟨_, rfl⟩
      have HX := Aside0.mk hX
      have hbb : 0 ≤ X ∧ X < 256 := by
        rw [hX]
        refine HBY.out _ ?_
        unfold rd
        rw [List.getD_eq_getElem?_getD, List.getElem?_eq_getElem (show j.toNat < b.length by omega)]
        exact List.getElem_mem _
      clear hX
      obtain ⟨hb0, hb1⟩ := hbb
      go_wp2
      go_loopg [3, 5] 8 (fun kq v3 v5 w' => ∃ (k : Int), v5 = .int .i64 k ∧ Aside0 (-1 ≤ k ∧ k ≤ 7 ∧ (kq : Int) = k + 1) ∧
        Aside0 (Kd.R (Kd.int .i64) 3 w' w.heap.size (fun _ => True) v3 ((b.take j.toNat).flatMap (bts 8) ++ bts (7 - k).toNat (X / 2 ^ (k + 1).toNat))) ∧ Aside0 (Below w.heap.size w w'))
      case atStart =>
        refine ⟨7, rfl, ⟨⟨by omega, by omega, by omega⟩⟩, ⟨?_⟩, HB⟩
        have := HO.out
        rw [show (7 - (7 : Int)).toNat = 0 from rfl, bts, List.append_nil]
        exact this
      case round =>
        obtain ⟨k, rfl, HK, HO2, HB2⟩ := hrel
        have hk0 := HK.out.1
        have hk7 := HK.out.2.1
        by_cases c2 : 0 ≤ k
        · have d2 : decide (0 ≤ k) = true := decide_eq_true c2
          obtain ⟨ad, rfl, hx⟩ := Kd.at_int (Kd.C_below HC.out HB2.out) j hj0 c1
          rw [← HX.out] at hx
          have hp0 : (0 : Int) < 2 ^ k.toNat := Int.pow_pos (by decide)
          have hy0 : 0 ≤ X / 2 ^ k.toNat := Int.ediv_nonneg hb0 (by omega)
          have hy1 : X / 2 ^ k.toNat < 256 := Int.lt_of_le_of_lt (Int.ediv_le_self _ hb0) hb1
          have HLN := Aside0.mk (show ((b.take j.toNat).flatMap (bts 8) ++ bts (7 - k).toNat (X / 2 ^ (k + 1).toNat)).length ≤ 9000000000 from by
            rw [List.length_append, flat_len, bts_len, List.length_take]; omega)
          clear hp0
          go_wp2_with (at_builtin; refine Kd.R_append (Kd.int .i64) (w0 := w) w.heap.size rfl (.tmp 20) (.tmp 30) 40 3 (.int .i64 0) 8 rfl Try.underlying40 info_int rfl (by decide) (by omega) u3 ((b.take j.toNat).flatMap (bts 8) ++ bts (7 - k).toNat (X / 2 ^ (k + 1).toNat)) (X / 2 ^ k.toNat % 2) [.int .i64 (X / 2 ^ k.toNat % 2)] (fun _ => True) (fun _ => False) rfl rfl ?aP (fun _ hk => hk.elim) (fun _ _ => trivial) ?aO ?aB ?aS ?aL ?_; (case aP => exact rfl); (case aB => exact HB2.out); (case aO => exact HO2.out); (case aS => exact HB2.out.size); (case aL => (have := HLN.out; omega)); intro v3 w3 ho hb hg hat; have HO3 := Aside0.mk ho; have HB3 := Aside0.mk hb; clear ho hb hg hat)
          go_roundg k.toNat
          case measure => have := HK.out; omega
          case rel =>
            refine ⟨k - 1, rfl, ⟨⟨by omega, by omega, by omega⟩⟩, ⟨?_⟩, HB3⟩
            have h := HO3.out
            rw [List.append_assoc] at h
            have e : bts (7 - (k - 1)).toNat (X / 2 ^ (k - 1 + 1).toNat) = bts (7 - k).toNat (X / 2 ^ (k + 1).toNat) ++ [X / 2 ^ k.toNat % 2] := by
              rw [show (7 - (k - 1)).toNat = (7 - k).toNat + 1 from by omega, show (k - 1 + 1) = k from by omega, bts, show (k + 1).toNat = k.toNat + 1 from by omega, Int.pow_succ, Int.ediv_ediv_of_nonneg (by exact Int.le_of_lt (Int.pow_pos (by decide)))]
            rw [e]
            exact h
        · have d2 : decide (0 ≤ k) = false := decide_eq_false c2
          have HF := Aside0.mk (show (b.take (j + 1).toNat).flatMap (bts 8) = (b.take j.toNat).flatMap (bts 8) ++ bts (7 - k).toNat (X / 2 ^ (k + 1).toNat) from by
            rw [show k = -1 from by omega, show (7 - (-1 : Int)).toNat = 8 from rfl, show ((-1 : Int) + 1).toNat = 0 from rfl, show (j + 1).toNat = j.toNat + 1 from by omega, List.take_add_one, List.getElem?_eq_getElem (show j.toNat < b.length by omega), List.flatMap_append]
            simp [HX.out, rd, List.getD_eq_getElem?_getD, List.getElem?_eq_getElem (show j.toNat < b.length by omega)])
          go_wp2
          go_roundg (b.length - (j + 1).toNat)
          case measure => have := HA.out; omega
          case rel =>
            refine ⟨j + 1, rfl, ⟨⟨by omega, by omega⟩⟩, ⟨?_⟩, HB2⟩
            rw [HF.out]
            exact HO2.out
    · have d1 : decide (j < (b.length : Int)) = false := decide_eq_false c1
      have HE := Aside0.mk (show b.take j.toNat = b from List.take_of_length_le (by have := HA.out; omega))
      obtain ⟨L, hL⟩ : ∃ L, L = b.flatMap (bts 8) := ⟨_, rfl⟩
      have HLE := Aside0.mk hL
      have HO1 : Aside0 (Kd.R (Kd.int .i64) 3 wr w.heap.size (fun _ => True) u3 L) := ⟨by have h := HO.out; rw [HE.out, ← hL] at h; exact h⟩
      have HLL := Aside0.mk (show L.length = 8 * b.length from by rw [hL, flat_len])
      have HL0 := Aside0.mk (show ∀ x ∈ L, x = 0 ∨ x = 1 from by rw [hL]; exact flat_01 8 b)
      clear hL HO c1
      go_wp2
      go_loopg [3] (padn 6 L.length) (fun kq v3 w' => ∃ (p : Nat), Aside0 (kq = padn 6 (L.length + p) ∧ p + kq = padn 6 L.length) ∧
        Aside0 (Kd.R (Kd.int .i64) 3 w' w.heap.size (fun _ => True) v3 (L ++ List.replicate p 0)) ∧ Aside0 (Below w.heap.size w w'))
      case atStart => exact ⟨0, ⟨⟨rfl, Nat.zero_add _⟩⟩, ⟨by rw [List.replicate_zero, List.append_nil]; exact HO1.out⟩, HB⟩
      case round =>
        obtain ⟨p, HA2, HO2, HB2⟩ := hrel
        obtain ⟨P, hP⟩ : ∃ P, P = L ++ List.replicate p 0 := ⟨_, rfl⟩
        have HP := Aside0.mk hP
        rw [← hP] at HO2
        have HPL := Aside0.mk (show P.length = L.length + p from by rw [hP, List.length_append, List.length_replicate])
        have HPS := Aside0.mk (show (P.length : Int) ≤ 9000000000 from by have := HPL.out; have := HLL.out; have := HL.out; have := HA2.out.2; have : padn 6 L.length < 6 := Nat.mod_lt _ (by decide); omega)
        clear hP
        obtain ⟨A3, c3, rfl, _, _⟩ := Kd.R_reads HO2.out
        by_cases c2 : P.length % 6 = 0
        · have d2 : ((P.length : Int) % 6 != 0) = false := by simp; omega
          have hp0 := HPS.out
          go_wp2
          obtain ⟨wL, rfl⟩ : ∃ x, x = wr := ⟨_, rfl⟩
          have HPP := Aside0.mk (show P = pad 6 L from by
            have h1 := HA2.out.1; rw [← HPL.out] at h1
            rw [HP.out, pad, ← HA2.out.2, h1, padn, c2]; rfl)
          have HP01 := Aside0.mk (show ∀ x ∈ P, x = 0 ∨ x = 1 from by
            rw [HP.out]; intro x hx
            rcases List.mem_append.1 hx with hx | hx
            · exact HL0.out x hx
            · exact .inl (List.eq_of_mem_replicate hx))
          have HPM := Aside0.mk c2
          have HPC := Aside0.mk (Kd.R_reads' HO2.out).2.2
          clear c2
          go_loopg [6, 7, 8, 9] (P.length / 6) (fun kq v6 v7 v8 v9 w' => ∃ (I : Int) (q : Nat), v7 = .int .i64 I ∧ Aside0 (q + kq = P.length / 6 ∧ I = 6 * (q : Int)) ∧
            Aside0 (Kd.R (Kd.int .u8) 5 w' wL.heap.size (fun _ => True) v6 (((chs 6 P).take q).map sign)) ∧ Aside0 (Below wL.heap.size wL w'))
          case atStart => exact ⟨0, 0, rfl, ⟨by omega, by omega⟩, ⟨Kd.R_nil _ _ _ _ _⟩, ⟨B0 wL⟩⟩
          case round =>
            obtain ⟨I, q, rfl, HQ, HO4, HB4⟩ := hrel
            have hI0 : 0 ≤ I := by have := HQ.out; omega
            have hI1 : I ≤ 9000000006 := by have := HQ.out; have := HPS.out; omega
            by_cases c3 : I < P.length
            · have d3 : decide (I < (P.length : Int)) = true := decide_eq_true c3
              have HQP := Aside0.mk (show q < P.length / 6 from by have := HQ.out; have := HPM.out; omega)
              have HQ6 := Aside0.mk (show 6 * q + 6 ≤ P.length from by have := HQ.out; have := HPM.out; omega)
              clear c3
              go_wp2
              go_loopg [8, 9] 6 (fun kq v8 v9 w' => ∃ (K : Int) (k : Nat), v9 = .int .i64 K ∧ v8 = .int .i64 (val ((P.drop (6 * q)).take k)) ∧ Aside0 (k + kq = 6 ∧ K = k) ∧ w' = wr)
              case atStart => exact ⟨0, 0, rfl, rfl, ⟨by omega, rfl⟩, rfl⟩
              case round =>
                obtain ⟨K, k, rfl, rfl, HK, rfl⟩ := hrel
                have hk6 : K ≤ 6 := by have := HK.out; omega
                have hk0 : 0 ≤ K := by have := HK.out; omega
                obtain ⟨V, hV⟩ : ∃ V, V = val ((P.drop (6 * q)).take k) := ⟨_, rfl⟩
                have HV := Aside0.mk hV
                have hVr := val_take_range P (6 * q) k HP01.out (by have := HQ6.out; have := HK.out; omega)
                rw [← hV] at hVr
                have hV64 : V < 64 := Int.lt_of_lt_of_le hVr.2 (pow_le k 6 (by have := HK.out; omega))
                have hV0 := hVr.1
                clear hVr
                rw [← hV]
                clear hV
                by_cases c4 : K < 6
                · have d4 : decide (K < 6) = true := decide_eq_true c4
                  have hi0 : 0 ≤ I + K := by omega
                  have hi1 : I + K < P.length := by have := HQ6.out; have := HQ.out; omega
                  obtain ⟨ad, rfl, hx⟩ := Kd.at_int (Kd.C_below HPC.out HB4.out) (I + K) hi0 hi1
                  obtain ⟨Y, hY⟩ : ∃ Y, Y = rd P (I + K) := ⟨_, rfl⟩
                  have HY := Aside0.mk (show val ((P.drop (6 * q)).take (k + 1)) = 2 * V + Y from by
                    have := HQ.out; have := HK.out
                    rw [take_succ_rd P (6 * q) k (by have := HQ6.out; omega), HV.out, hY, rd, show (I + K).toNat = 6 * q + k from by omega])
                  have hYr := getD_01 P (I + K).toNat HP01.out
                  rw [← hY] at hx
                  obtain ⟨hY0, hY1⟩ : 0 ≤ Y ∧ Y ≤ 1 := by rw [hY]; exact hYr
                  clear hY hYr
                  go_wp2
                  go_roundg (6 - (k + 1))
                  case measure => have := HK.out; omega
                  case rel => exact ⟨K + 1, k + 1, by simp, by rw [HY.out], ⟨by have := HK.out; omega, by have := HK.out; omega⟩, rfl⟩
                · have d4 : decide (K < 6) = false := decide_eq_false c4
                  have HK6 := Aside0.mk (show k = 6 from by have := HK.out; omega)
                  clear c4
                  go_wp2_with fail
                  refine (alphabet_any _).mono ?_
                  rintro e w1 ⟨rfl, hw1⟩
                  obtain ⟨S, hS⟩ : ∃ S, S = alpha := ⟨_, rfl⟩
                  have HS := Aside0.mk (show bt S V = sign V from by rw [hS]; rfl)
                  have HZ := Aside0.mk (show S.size = 64 from by rw [hS]; rfl)
                  rw [← hS]
                  clear hS
                  have hVS : V < S.size := by have := HZ.out; omega
                  have HSL := Aside0.mk (show (((chs 6 P).take q).map sign).length ≤ 9000000000 from by rw [List.length_map, List.length_take, chs_len]; have := HPS.out; omega)
                  have HB5 := Aside0.mk (show Below wL.heap.size wL w1 from by rw [hw1]; exact HB4.out)
                  have HO5 := Aside0.mk (show Kd.R (Kd.int .u8) 5 w1 wL.heap.size (fun _ => True) u6 (((chs 6 P).take q).map sign) from by rw [hw1]; exact HO4.out)
                  clear hw1
                  have HO6 : Aside0 (Kd.R (Kd.int .u8) 5 w1 wL.heap.size (fun _ => True) u6 (((chs 6 P).take q).map sign)) := HO5
                  go_wp2_with (first | rw [bt_at S V] | (at_builtin; refine Kd.R_append (Kd.int .u8) (w0 := wL) wL.heap.size rfl (.tmp 58) (.tmp 62) 22 5 (.int .u8 0) 1 rfl Try.underlying22 info_u8 rfl (by decide) (by omega) u6 (((chs 6 P).take q).map sign) (bt S V) [.int .u8 (bt S V)] (fun _ => True) (fun _ => False) rfl rfl ?aP (fun _ hk => hk.elim) (fun _ _ => trivial) ?aO ?aB ?aS ?aL ?_; (case aP => exact rfl); (case aB => exact HB5.out); (case aO => exact HO6.out); (case aS => exact HB5.out.size); (case aL => (have := HSL.out; omega)); intro v7 w7 ho hb hg hat; have HO7 := Aside0.mk ho; have HB7 := Aside0.mk hb; clear ho hb hg hat))
                  go_roundg (P.length / 6 - (q + 1))
                  case measure => have := HQ.out; have := HQP.out; omega
                  case rel =>
                    refine ⟨I + 6, q + 1, rfl, ⟨by have := HQP.out; omega, by have := HQ.out; omega⟩, ⟨?_⟩, HB7⟩
                    have h := HO7.out
                    rw [HS.out, HV.out, HK6.out] at h
                    rw [chs_take_succ P q HQP.out, List.map_append]
                    exact h
            · have d3 : decide (I < (P.length : Int)) = false := decide_eq_false c3
              obtain ⟨X, hX⟩ : ∃ X, X = ((chs 6 P).take q).map sign := ⟨_, rfl⟩
              have HX := Aside0.mk (show X = (chs 6 (pad 6 (b.flatMap (bts 8)))).map sign from by
                rw [hX, ← HLE.out, ← HPP.out, List.take_of_length_le (by rw [chs_len]; have := HPM.out; have := HQ.out; omega)])
              rw [← hX] at HO4
              clear hX
              obtain ⟨A6, c6, rfl, _, hC6⟩ := Kd.R_reads HO4.out
              have hcv := Kd.C_string (P := Try.prog) Try.underlying22 Try.underlying5 Try.underlying9 (c := c6) hC6
              clear c3 hC6
              go_wp2
              go_ret
              rw [HX.out]
              exact ⟨rfl, HB2.out.trans (HB4.out.mono HB2.out.size)⟩
        · have d2 : ((P.length : Int) % 6 == 0) = false := by rw [beq_eq_false_iff_ne]; omega
          have hp0 := HPS.out
          have HND := Aside0.mk c2
          clear c2
          go_wp2_with (at_builtin; refine Kd.R_append (Kd.int .i64) (w0 := w) w.heap.size rfl (.tmp 36) (.tmp 37) 40 3 (.int .i64 0) 8 rfl Try.underlying40 info_int rfl (by decide) (by omega) (.slice A3 P.length c3) P (0) [.int .i64 (0)] (fun _ => True) (fun _ => False) rfl rfl ?aP (fun _ hk => hk.elim) (fun _ _ => trivial) ?aO ?aB ?aS ?aL ?_; (case aP => exact rfl); (case aB => exact HB2.out); (case aO => exact HO2.out); (case aS => exact HB2.out.size); (case aL => (have := HPS.out; omega)); intro v3 w3 ho hb hg hat; have HO3 := Aside0.mk ho; have HB3 := Aside0.mk hb; clear ho hb hg hat)
          go_roundg (gk - 1)
          case measure => have h1 := HA2.out; have h2 := HND.out; have h3 := HPL.out; rw [h3] at h2; unfold padn at h1; omega
          case rel =>
            refine ⟨p + 1, ⟨?_⟩, ⟨?_⟩, HB3⟩
            · have h1 := HA2.out; have h2 := HND.out; have h3 := HPL.out; rw [h3] at h2; unfold padn at h1 ⊢; omega
            · have h := HO3.out
              rw [HP.out, List.append_assoc, ← List.replicate_succ'] at h
              exact h

end Go.Proofs.Ytododekidopkhaa.HRef04
