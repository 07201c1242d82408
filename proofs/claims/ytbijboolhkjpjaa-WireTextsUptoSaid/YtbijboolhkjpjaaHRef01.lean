/- The references' readings: numbers, texts. -/
import Derived.Test.YtbijboolhkjpjaaHCur
namespace Go.Proofs.Ytbijboolhkjpjaa.HRef01
open Go.RowKit Go.Proofs.YtbijboolhkjpjaaW.PrintWords Go.Proofs.Ytbijboolhkjpjaa.HLib Go.Proofs.Ytbijboolhkjpjaa.HWireS Go.Proofs.Ytbijboolhkjpjaa.HWire Go.Proofs.Ytbijboolhkjpjaa.HPut Go.Proofs.Ytbijboolhkjpjaa.HCur
set_option linter.unusedVariables false
set_option linter.unusedSimpArgs false

def refE (i : Int) : Int ⊕ (Int × Nat) → Value
  | .inl c => .tuple #[.int .u64 0, .int .i64 i, .int .i64 c]
  | .inr (x, n) => .tuple #[.int .u64 x, .int .i64 (i + n), .int .i64 0]

/-- One group added. -/
theorem add_group (x b : Int) (j : Nat) (hx0 : 0 ≤ x) (hx : x < 2 ^ (7 * j)) (hb0 : 0 ≤ b) (hb : b < 256) (h9 : j ≤ 9) (hj : j = 9 → b ≤ 1) :
    IntKind.u64.wrap (x + IntKind.u64.wrap (b % 128 * 2 ^ (7 * j))) = x + b % 128 * 2 ^ (7 * j) := by
  have h1 := join_group x b j hx0 hx hb0 hb h9 hj
  have hlt : x + b % 128 * 2 ^ (7 * j) < 18446744073709551616 := by
    by_cases h : j = 9
    · subst h
      have e : (2 : Int) ^ (7 * 9) = 9223372036854775808 := pow63
      have := hj rfl
      rw [e] at hx ⊢
      omega
    · have := group_lt x b j hx
      have h2 : (2 : Int) ^ (7 * (j + 1)) ≤ 2 ^ 63 := by
        have : (2 : Nat) ^ (7 * (j + 1)) ≤ 2 ^ 63 := Nat.pow_le_pow_right (by omega) (by omega)
        have h3 : ((2 ^ (7 * (j + 1)) : Nat) : Int) ≤ ((2 ^ 63 : Nat) : Int) := Int.ofNat_le.2 this
        rwa [Int.natCast_pow, Int.natCast_pow] at h3
      have e : (2 : Int) ^ 63 = 9223372036854775808 := pow63
      rw [e] at h2
      omega
  have h0 : (0 : Int) ≤ b % 128 * 2 ^ (7 * j) := Int.mul_nonneg (by omega) (Int.le_of_lt (Int.pow_pos (by decide)))
  rw [IntKind.wrap_u64, IntKind.wrap_u64]
  generalize b % 128 * 2 ^ (7 * j) = q at *
  omega

set_option maxHeartbeats 4000000 in
theorem refnumber_any (w : World) (v : Value) (l : List Int) (i : Int) (h : Bs w v l) (h0 : 0 ≤ i) (hi : i ≤ 140737488355328) (hl : l.length ≤ 140737488355328) (hb : ∀ x ∈ l, 0 ≤ x ∧ x < 256) :
    Calls Try.prog 24 #[v, .int .i64 i] w fun e w' => e = .returned (refE i (num (l.drop i.toNat))) ∧ Drawn0 w w' := by
  obtain ⟨A, c, rfl, hc, hC, _⟩ := h
  have Hb := Aside0.mk hb
  have HC := Aside0.mk hC
  clear hb hC
  go_enter Try.func24, Try.ntmps24
  go_wp2
  go_loopg [7, 8, 9] 11 (fun kq v4 v5 v6 w' => ∃ (x : Int) (J : Int), v4 = .int .u64 x ∧ v5 = .int .i64 J ∧ Aside0 (numGo (l.drop i.toNat) kq J.toNat x = num (l.drop i.toNat) ∧ kq + J.toNat = 11 ∧ 0 ≤ J ∧ J ≤ 9 ∧ 0 ≤ x ∧ x < 2 ^ (7 * J.toNat)) ∧ Drawn0 w w')
  case atStart => exact ⟨0, 0, rfl, rfl, ⟨⟨rfl, rfl, by omega, by omega, by decide, by decide⟩⟩, Drawn0.refl _⟩
  case round =>
    obtain ⟨x, J, rfl, rfl, HA, ⟨m, rfl⟩⟩ := hrel
    cases gk with
    | zero => obtain ⟨_, h1, h2, _⟩ := HA.out; omega
    | succ k1 =>
      have hJ0 : 0 ≤ J := HA.out.2.2.1
      have hJ9 : J ≤ 9 := HA.out.2.2.2.1
      have d11 : decide (J < 11) = true := decide_eq_true (by omega)
      have hij : 0 ≤ i + J := by omega
      by_cases hj : (l.drop i.toNat).length ≤ J.toNat
      · have hd : decide ((l.length : Int) ≤ i + J) = true := by simp at hj ⊢; omega
        have Hn := Aside0.mk (num_end HA.out.1 hj)
        clear hj
        go_wp2
        go_ret3
        rw [Hn.out]
        exact ⟨rfl, by repeat (first | exact Drawn0.refl _ | apply Drawn0.step)⟩
      · have hj' : i + J < l.length := by simp at hj; omega
        have hd : decide ((l.length : Int) ≤ i + J) = false := by simp; omega
        obtain ⟨ad, rfl, hx⟩ := Kd.at_int HC.out (i + J) (by omega) (by omega)
        have hbb : 0 ≤ rd l (i + J) ∧ rd l (i + J) < 256 := by
          refine Hb.out _ ?_
          unfold rd
          rw [List.getD_eq_getElem?_getD, List.getElem?_eq_getElem (show (i + J).toNat < l.length by omega)]
          exact List.getElem_mem _
        obtain ⟨b, hbe⟩ : ∃ b, b = rd l (i + J) := ⟨_, rfl⟩
        rw [← hbe] at hx hbb
        have HBD := Aside0.mk (show (l.drop i.toNat).getD J.toNat 0 = b by rw [rd_drop l i h0 J.toNat, hbe, show ((J.toNat : Nat) : Int) = J from by omega])
        have HJ := Aside0.mk (show J.toNat < (l.drop i.toNat).length by omega)
        obtain ⟨hb0, hb1⟩ := hbb
        clear hbe hj
        by_cases e9 : J = 9 ∧ 1 < b
        · obtain ⟨rfl, e9⟩ := e9
          have Hn := Aside0.mk (HA.out.1.symm.trans (numGo_long HJ.out (by rw [show (9 : Int).toNat = 9 from rfl] at HBD; rw [HBD.out]; exact e9)))
          have eb : decide (1 < b) = true := decide_eq_true e9
          go_wp2
          go_ret3
          rw [Hn.out]
          exact ⟨rfl, by repeat (first | exact Drawn0.refl _ | apply Drawn0.step)⟩
        · by_cases e0 : 0 < J ∧ b = 0
          · obtain ⟨e0, rfl⟩ := e0
            have Hn := Aside0.mk (HA.out.1.symm.trans (numGo_min HJ.out (by omega) HBD.out))
            have eb : decide (0 < J) = true := by simp; omega
            have e9a : J = 9 ∨ (J == 9) = false := by
              by_cases z : J = 9
              · exact .inl z
              · right; simp; omega
            rcases e9a with rfl | e9a
            all_goals
              go_wp2
              go_ret3
              rw [Hn.out]
              exact ⟨rfl, by repeat (first | exact Drawn0.refl _ | apply Drawn0.step)⟩
          · have hJ := HJ.out
            have h9 : J.toNat = 9 → ¬ 1 < (l.drop i.toNat).getD J.toNat 0 := by rw [HBD.out]; exact fun z z2 => e9 ⟨by omega, z2⟩
            have h00 : 0 < J.toNat → (l.drop i.toNat).getD J.toNat 0 ≠ 0 := by rw [HBD.out]; exact fun z z2 => e0 ⟨by omega, z2⟩
            have HO := Aside0.mk (add_group x b J.toNat HA.out.2.2.2.2.1 HA.out.2.2.2.2.2 hb0 hb1 (by omega) (fun z => by have := fun z2 => e9 ⟨by omega, z2⟩; omega))
            have HG := Aside0.mk (group_lt x b J.toNat HA.out.2.2.2.2.2)
            have HP := Aside0.mk (show 0 ≤ x + b % 128 * 2 ^ (7 * J.toNat) from by
              have h1 := HA.out.2.2.2.2.1
              have h2 : (0 : Int) ≤ b % 128 * 2 ^ (7 * J.toNat) := Int.mul_nonneg (by omega) (Int.le_of_lt (Int.pow_pos (by decide)))
              omega)
            have h70 : 0 ≤ 7 * J := by omega
            have H7 := Aside0.mk (show (7 * J).toNat = 7 * J.toNat by omega)
            have e9a : J = 9 ∧ decide (1 < b) = false ∨ (J == 9) = false := by
              by_cases z : J = 9
              · left; exact ⟨z, by simp; have := fun z2 => e9 ⟨z, z2⟩; omega⟩
              · right; simp; omega
            have e0a : decide (0 < J) = true ∧ (b == 0) = false ∨ decide (0 < J) = false := by
              by_cases z : 0 < J
              · left; exact ⟨by simp; omega, by simp; exact fun z2 => e0 ⟨z, z2⟩⟩
              · right; simp; omega
            by_cases h128 : b < 128
            · have Hn := Aside0.mk (HA.out.1.symm.trans (numGo_last hJ h9 h00 (by rw [HBD.out]; exact h128)))
              have ed : decide (b < 128) = true := decide_eq_true h128
              clear hJ h9 h00 e9 e0
              rcases e9a with ⟨rfl, e9b⟩ | e9a
              · rcases e0a with ⟨e0a, e0b⟩ | e0a
                · rw [pow63] at HO Hn
                  rw [HBD.out] at Hn
                  go_wp2
                  go_ret3
                  rw [Hn.out]
                  refine ⟨congrArg Ending.returned (congrArg Value.tuple ?_), by repeat (first | exact Drawn0.refl _ | apply Drawn0.step)⟩
                  show #[Value.int .u64 (IntKind.u64.wrap (x + _)), Value.int .i64 (i + 9 + 1), Value.int .i64 0] = #[Value.int .u64 _, Value.int .i64 (i + ((10 : Nat) : Int)), Value.int .i64 0]
                  rw [HO.out, show i + 9 + 1 = i + ((10 : Nat) : Int) from by omega]
                · exfalso; revert e0a; decide
              · rw [← H7.out] at HO Hn
                rw [HBD.out] at Hn
                rcases e0a with ⟨e0a, e0b⟩ | e0a
                all_goals
                  go_wp2
                  go_ret3
                  rw [Hn.out]
                  refine ⟨congrArg Ending.returned (congrArg Value.tuple ?_), by repeat (first | exact Drawn0.refl _ | apply Drawn0.step)⟩
                  show #[Value.int .u64 (IntKind.u64.wrap (x + _)), Value.int .i64 (i + J + 1), Value.int .i64 0] = #[Value.int .u64 _, Value.int .i64 (i + ((J.toNat + 1 : Nat) : Int)), Value.int .i64 0]
                  rw [HO.out, show i + J + 1 = i + ((J.toNat + 1 : Nat) : Int) from by omega]
            · have Hn := Aside0.mk ((numGo_more (x := x) (k := k1) hJ h9 h00 (by rw [HBD.out]; exact h128)).symm.trans HA.out.1)
              have ed : decide (b < 128) = false := decide_eq_false h128
              have HKJ := Aside0.mk HA.out.2.1
              have HJT := Aside0.mk (show (J + 1).toNat = J.toNat + 1 from by omega)
              rcases e9a with ⟨rfl, e9b⟩ | e9a
              · exfalso
                have := of_decide_eq_false e9b
                omega
              · have hJ8 : J ≤ 8 := by have : J ≠ 9 := by simpa using e9a
                                       omega
                clear hJ h9 h00 e9 e0
                rw [← H7.out] at HO Hn HG HP
                rw [HBD.out] at Hn
                rcases e0a with ⟨e0a, e0b⟩ | e0a
                all_goals
                  go_wp2
                  go_roundg k1
                  case measure => omega
                  case rel =>
                    refine ⟨_, J + 1, rfl, rfl, ⟨?_⟩, by repeat (first | exact Drawn0.refl _ | apply Drawn0.step)⟩
                    rw [HO.out, HJT.out]
                    exact ⟨Hn.out, by have := HKJ.out; omega, by omega, by omega, HP.out, HG.out⟩

def readE (i : Int) : Int ⊕ (List Int × Nat) → Value
  | .inl c => .tuple #[.string ⟨#[]⟩, .int .i64 i, .int .i64 c]
  | .inr (s, n) => .tuple #[.string (strOfNums s), .int .i64 (i + n), .int .i64 0]

set_option maxHeartbeats 4000000 in
theorem refread_any (w : World) (v : Value) (l : List Int) (i limit : Int) (h : Bs w v l) (h0 : 0 ≤ i) (h1 : i ≤ l.length) (hl : l.length ≤ 140737488355327) (hb : ∀ x ∈ l, 0 ≤ x ∧ x < 256) (hlim : limit ≤ 9223372036854775807) :
    Calls Try.prog 15 #[v, .int .i64 i, .int .i64 limit] w fun e w' => e = .returned (readE i (txt (l.drop i.toNat) limit)) ∧ Drawn0 w w' := by
  have HV := Aside0.mk h
  obtain ⟨A, c, rfl, hc, hC, hnz⟩ := h
  have HB := Aside0.mk hb
  have HBD := Aside0.mk (show ∀ x ∈ l.drop i.toNat, 0 ≤ x ∧ x < 256 from fun x hx => hb x (List.mem_of_mem_drop hx))
  have HLIM := Aside0.mk hlim
  have HC := Aside0.mk hC
  have HNZ := Aside0.mk (And.intro hc hnz)
  clear hb hlim hC hc hnz
  go_enter Try.func15, Try.ntmps15
  go_wp2_with fail
  refine (refnumber_any _ _ l i HV.out h0 (by omega) (by omega) HB.out).mono ?_
  rintro e w1 ⟨rfl, ⟨m, rfl⟩⟩
  cases hnum : num (l.drop i.toNat) with
  | inl cc =>
    have HT := Aside0.mk (txt_inl (limit := limit) hnum)
    have hcc := num_err hnum
    clear hnum
    simp only [refE]
    rcases hcc with rfl | rfl | rfl
    all_goals
      go_wp2
      go_ret3
      rw [HT.out]
      exact ⟨rfl, by repeat (first | exact Drawn0.refl _ | apply Drawn0.step)⟩
  | inr p =>
    obtain ⟨n, k⟩ := p
    simp only [refE]
    obtain ⟨n0, n1, k0, k1, k2⟩ := num_ok HBD.out hnum
    have hdl : ((l.drop i.toNat).length : Int) = l.length - i := by rw [List.length_drop]; omega
    have HNUM := Aside0.mk hnum
    have HDL := Aside0.mk hdl
    have HKK := Aside0.mk (And.intro k0 (And.intro k1 n1))
    clear hnum hdl k0 k1 n1
    by_cases hneg : limit < 0
    · have d1 : decide (limit < 0) = true := decide_eq_true hneg
      have HT := Aside0.mk (txt_limit (limit := limit) HNUM.out (.inl hneg))
      clear hneg
      go_wp2
      go_ret3
      rw [HT.out]
      exact ⟨rfl, by repeat (first | exact Drawn0.refl _ | apply Drawn0.step)⟩
    · have d1 : decide (limit < 0) = false := decide_eq_false hneg
      have hw : IntKind.u64.wrap limit = limit := by have := HLIM.out; rw [IntKind.wrap_u64]; omega
      by_cases hlm : limit < n
      · have d2 : decide (limit < n) = true := decide_eq_true hlm
        have HT := Aside0.mk (txt_limit (limit := limit) HNUM.out (.inr hlm))
        clear hneg hlm
        go_wp2
        go_ret3
        rw [HT.out]
        exact ⟨rfl, by repeat (first | exact Drawn0.refl _ | apply Drawn0.step)⟩
      · have d2 : decide (limit < n) = false := decide_eq_false hlm
        have HLN := Aside0.mk (show ¬ (limit < 0 ∨ limit < n) from by omega)
        clear hneg hlm
        have hik0 : 0 ≤ i + (k : Int) := by omega
        have hik1 : i + (k : Int) ≤ l.length := by have := HKK.out; have := HDL.out; omega
        have hw2 : IntKind.u64.wrap ((l.length : Int) - (i + k)) = (l.length : Int) - (i + k) := by rw [IntKind.wrap_u64]; omega
        by_cases hsh : (l.length : Int) - (i + k) < n
        · have d3 : decide ((l.length : Int) - (i + k) < n) = true := decide_eq_true hsh
          have HT := Aside0.mk (txt_short (limit := limit) HNUM.out HLN.out (by have := HDL.out; omega))
          clear hsh
          go_wp2
          go_ret3
          rw [HT.out]
          exact ⟨rfl, by repeat (first | exact Drawn0.refl _ | apply Drawn0.step)⟩
        · have d3 : decide ((l.length : Int) - (i + k) < n) = false := decide_eq_false hsh
          have HT := Aside0.mk (txt_ok (limit := limit) HNUM.out HLN.out (by have := HDL.out; omega))
          have hn2 : n ≤ 140737488355327 := by omega
          have hn3 : i + k + n ≤ (l.length : Int) := by omega
          have hn4 : i + k ≤ i + k + n := by omega
          clear hsh
          obtain ⟨i0, hi0, _, hi1, _⟩ := info_parts info_u8
          obtain ⟨A', hsl, hrd⟩ := run_mid2 (P := Try.prog) 23 5 Try.underlying23 hi0 hi1 A c l (i + k) (i + k + n) hik0 hn4 hn3 HNZ.out.1 HNZ.out.2
          rw [show i + (k : Int) + n - (i + k) = n from by omega] at hsl hrd
          have hcv : (convert 23 9 (.slice A' ((l.drop (i + (k : Int)).toNat).take n.toNat).length (c - (i + (k : Int)).toNat))).run Try.prog (w.drewN m) = .ok (.string (strOfNums ((l.drop (i + (k : Int)).toNat).take n.toNat))) (w.drewN m) := string_of_reads Try.underlying23 Try.underlying5 Try.underlying9 (ReadsInt.drewN (hrd w (readsInt_of.2 (Kd.reads_of_C (d := (0 : Int)) HC.out))).1 m)
          have HT2 := Aside0.mk (show (l.drop (i + (k : Int)).toNat).take n.toNat = ((l.drop i.toNat).drop k).take n.toNat from by rw [List.drop_drop, show (i + (k : Int)).toNat = i.toNat + k from by omega])
          obtain ⟨L, hL⟩ : ∃ L, L = (l.drop (i + (k : Int)).toNat).take n.toNat := ⟨_, rfl⟩
          rw [← hL] at hsl hcv HT2
          clear hrd hi0 hi1 hL
          go_wp2
          go_ret3
          rw [HT.out]
          refine ⟨?_, by repeat (first | exact Drawn0.refl _ | apply Drawn0.step)⟩
          rw [← HT2.out]
          refine congrArg Ending.returned (congrArg Value.tuple ?_)
          show #[Value.string _, Value.int .i64 (i + k + n), Value.int .i64 0] = #[Value.string _, Value.int .i64 (i + ((k + n.toNat : Nat) : Int)), Value.int .i64 0]
          rw [show i + (k : Int) + n = i + ((k + n.toNat : Nat) : Int) from by omega]

end Go.Proofs.Ytbijboolhkjpjaa.HRef01
