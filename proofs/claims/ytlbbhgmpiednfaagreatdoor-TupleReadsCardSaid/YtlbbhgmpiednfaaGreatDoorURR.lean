/- Small contracts of the references. -/
import Derived.Test.YtlbbhgmpiednfaaGreatDoorUN
import Derived.Test.YtlbbhgmpiednfaaGreatDoorUG
import Derived.Test.YtlbbhgmpiednfaaGreatDoorUI
import Derived.Test.YtlbbhgmpiednfaaGreatDoorUB
namespace Go.Proofs.YtlbbhgmpiednfaaGreatDoor.HTupZ0
open Go.RowKit Go.Proofs.YtlbbhgmpiednfaaGreatDoorW.PrintWords Go.Proofs.YtlbbhgmpiednfaaGreatDoor.HLib Go.Proofs.YtlbbhgmpiednfaaGreatDoor.HErr Go.Proofs.YtlbbhgmpiednfaaGreatDoor.HNameP Go.Proofs.YtlbbhgmpiednfaaGreatDoor.HNameR Go.Proofs.YtlbbhgmpiednfaaGreatDoor.HName Go.Proofs.YtlbbhgmpiednfaaGreatDoor.HTupP
set_option linter.unusedVariables false
theorem below_dr {n : Nat} {w0 w w1 : World} (h : Below n w0 w) (hd : Drawn0 w w1) : Below n w0 w1 := by
  obtain ⟨⟨m, rfl⟩⟩ := hd
  exact pw_below_drewN h m
theorem drawn_b {w w1 : World} (hd : Drawn0 w w1) : Below w.heap.size w w1 := below_dr (B0 w) hd
theorem is_calls (s : ByteArray) (w : World) : Calls Tryz.prog 40 #[.string s] w fun e w' => e = .returned (.bool (isP s)) ∧ Below w.heap.size w w' :=
  (refis_any s w).mono fun e w' r => ⟨r.1, drawn_b r.2⟩
theorem empty_list (s : ByteArray) : s.toList = ([] : List UInt8) ↔ s.size = 0 := by
  rw [ByteArray.toList_eq]
  constructor
  · intro h
    have := congrArg List.length h
    simpa using this
  · intro h
    have : s = ⟨#[]⟩ := ByteArray.ext (Array.eq_empty_of_size_eq_zero h)
    rw [this]
end Go.Proofs.YtlbbhgmpiednfaaGreatDoor.HTupZ0
/- The references' readings: numbers, texts. -/
namespace Go.Proofs.YtlbbhgmpiednfaaGreatDoor.HRef01
open Go.RowKit Go.Proofs.YtlbbhgmpiednfaaGreatDoorW.PrintWords Go.Proofs.YtlbbhgmpiednfaaGreatDoor.HLib Go.Proofs.YtlbbhgmpiednfaaGreatDoor.HWireS Go.Proofs.YtlbbhgmpiednfaaGreatDoor.HWire Go.Proofs.YtlbbhgmpiednfaaGreatDoor.HPut Go.Proofs.YtlbbhgmpiednfaaGreatDoor.HCur
set_option linter.unusedVariables false
set_option linter.unusedSimpArgs false

def refE (i : Int) : Int ⊕ (Int × Nat) → Value
  | .inl c => .tuple #[.int .u64 0, .int .i64 i, .int .i64 c]
  | .inr (x, n) => .tuple #[.int .u64 x, .int .i64 (i + n), .int .i64 0]

/-- One group added. -/
theorem add_group (x b : Int) (j : Nat) (hx0 : 0 ≤ x) (hx : x < 2 ^ (7 * j)) (hb0 : 0 ≤ b) (hb : b < 256) (h9 : j ≤ 9) (hj : j = 9 → b ≤ 1) :
    IntKind.u64.wrap (x + IntKind.u64.wrap (b % 128 * 2 ^ (7 * j))) = x + b % 128 * 2 ^ (7 * j) := by
  have h1 := join_group x b j hx0 hx hb0 hb h9 hj
  have hlt : x + b % 128 * 2 ^ (7 * j) < 18446744073709551616 := by
    by_cases h : j = 9
    · subst h
      have e : (2 : Int) ^ (7 * 9) = 9223372036854775808 := pow63
      have := hj rfl
      rw [e] at hx ⊢
      omega
    · have := group_lt x b j hx
      have h2 : (2 : Int) ^ (7 * (j + 1)) ≤ 2 ^ 63 := by
        have : (2 : Nat) ^ (7 * (j + 1)) ≤ 2 ^ 63 := Nat.pow_le_pow_right (by omega) (by omega)
        have h3 : ((2 ^ (7 * (j + 1)) : Nat) : Int) ≤ ((2 ^ 63 : Nat) : Int) := Int.ofNat_le.2 this
        rwa [Int.natCast_pow, Int.natCast_pow] at h3
      have e : (2 : Int) ^ 63 = 9223372036854775808 := pow63
      rw [e] at h2
      omega
  have h0 : (0 : Int) ≤ b % 128 * 2 ^ (7 * j) := Int.mul_nonneg (by omega) (Int.le_of_lt (Int.pow_pos (by decide)))
  rw [IntKind.wrap_u64, IntKind.wrap_u64]
  generalize b % 128 * 2 ^ (7 * j) = q at *
  omega

set_option maxHeartbeats 4000000 in
theorem refnumber_any (w : World) (v : Value) (l : List Int) (i : Int) (h : Bs w v l) (h0 : 0 ≤ i) (hi : i ≤ 140737488355328) (hl : l.length ≤ 140737488355328) (hb : ∀ x ∈ l, 0 ≤ x ∧ x < 256) :
    Calls Tryz.prog 80 #[v, .int .i64 i] w fun e w' => e = .returned (refE i (num (l.drop i.toNat))) ∧ Drawn0 w w' := by
  obtain ⟨A, c, rfl, hc, hC, _⟩ := h
  have Hb := Aside0.mk hb
  have HC := Aside0.mk hC
  clear hb hC
  go_enter Tryz.func80, Tryz.ntmps80
  go_wp2
  go_loopg [7, 8, 9] 11 (fun kq v4 v5 v6 w' => ∃ (x : Int) (J : Int), v4 = .int .u64 x ∧ v5 = .int .i64 J ∧ Aside0 (numGo (l.drop i.toNat) kq J.toNat x = num (l.drop i.toNat) ∧ kq + J.toNat = 11 ∧ 0 ≤ J ∧ J ≤ 9 ∧ 0 ≤ x ∧ x < 2 ^ (7 * J.toNat)) ∧ Drawn0 w w')
  case atStart => exact ⟨0, 0, rfl, rfl, ⟨⟨rfl, rfl, by omega, by omega, by decide, by decide⟩⟩, Drawn0.refl _⟩
  case round =>
    obtain ⟨x, J, rfl, rfl, HA, ⟨m, rfl⟩⟩ := hrel
    cases gk with
    | zero => obtain ⟨_, h1, h2, _⟩ := HA.out; omega
    | succ k1 =>
      have hJ0 : 0 ≤ J := HA.out.2.2.1
      have hJ9 : J ≤ 9 := HA.out.2.2.2.1
      have d11 : decide (J < 11) = true := decide_eq_true (by omega)
      have hij : 0 ≤ i + J := by omega
      by_cases hj : (l.drop i.toNat).length ≤ J.toNat
      · have hd : decide ((l.length : Int) ≤ i + J) = true := by simp at hj ⊢; omega
        have Hn := Aside0.mk (num_end HA.out.1 hj)
        clear hj
        go_wp2
        go_ret3
        rw [Hn.out]
        exact ⟨rfl, by repeat (first | exact Drawn0.refl _ | apply Drawn0.step)⟩
      · have hj' : i + J < l.length := by simp at hj; omega
        have hd : decide ((l.length : Int) ≤ i + J) = false := by simp; omega
        obtain ⟨ad, rfl, hx⟩ := Kd.at_int HC.out (i + J) (by omega) (by omega)
        have hbb : 0 ≤ rd l (i + J) ∧ rd l (i + J) < 256 := by
          refine Hb.out _ ?_
          unfold rd
          rw [List.getD_eq_getElem?_getD, List.getElem?_eq_getElem (show (i + J).toNat < l.length by omega)]
          exact List.getElem_mem _
        obtain ⟨b, hbe⟩ : ∃ b, b = rd l (i + J) := ⟨_, rfl⟩
        rw [← hbe] at hx hbb
        have HBD := Aside0.mk (show (l.drop i.toNat).getD J.toNat 0 = b by rw [rd_drop l i h0 J.toNat, hbe, show ((J.toNat : Nat) : Int) = J from by omega])
        have HJ := Aside0.mk (show J.toNat < (l.drop i.toNat).length by omega)
        obtain ⟨hb0, hb1⟩ := hbb
        clear hbe hj
        by_cases e9 : J = 9 ∧ 1 < b
        · obtain ⟨rfl, e9⟩ := e9
          have Hn := Aside0.mk (HA.out.1.symm.trans (numGo_long HJ.out (by rw [show (9 : Int).toNat = 9 from rfl] at HBD; rw [HBD.out]; exact e9)))
          have eb : decide (1 < b) = true := decide_eq_true e9
          go_wp2
          go_ret3
          rw [Hn.out]
          exact ⟨rfl, by repeat (first | exact Drawn0.refl _ | apply Drawn0.step)⟩
        · by_cases e0 : 0 < J ∧ b = 0
          · obtain ⟨e0, rfl⟩ := e0
            have Hn := Aside0.mk (HA.out.1.symm.trans (numGo_min HJ.out (by omega) HBD.out))
            have eb : decide (0 < J) = true := by simp; omega
            have e9a : J = 9 ∨ (J == 9) = false := by
              by_cases z : J = 9
              · exact .inl z
              · right; simp; omega
            rcases e9a with rfl | e9a
            all_goals
              go_wp2
              go_ret3
              rw [Hn.out]
              exact ⟨rfl, by repeat (first | exact Drawn0.refl _ | apply Drawn0.step)⟩
          · have hJ := HJ.out
            have h9 : J.toNat = 9 → ¬ 1 < (l.drop i.toNat).getD J.toNat 0 := by rw [HBD.out]; exact fun z z2 => e9 ⟨by omega, z2⟩
            have h00 : 0 < J.toNat → (l.drop i.toNat).getD J.toNat 0 ≠ 0 := by rw [HBD.out]; exact fun z z2 => e0 ⟨by omega, z2⟩
            have HO := Aside0.mk (add_group x b J.toNat HA.out.2.2.2.2.1 HA.out.2.2.2.2.2 hb0 hb1 (by omega) (fun z => by have := fun z2 => e9 ⟨by omega, z2⟩; omega))
            have HG := Aside0.mk (group_lt x b J.toNat HA.out.2.2.2.2.2)
            have HP := Aside0.mk (show 0 ≤ x + b % 128 * 2 ^ (7 * J.toNat) from by
              have h1 := HA.out.2.2.2.2.1
              have h2 : (0 : Int) ≤ b % 128 * 2 ^ (7 * J.toNat) := Int.mul_nonneg (by omega) (Int.le_of_lt (Int.pow_pos (by decide)))
              omega)
            have h70 : 0 ≤ 7 * J := by omega
            have H7 := Aside0.mk (show (7 * J).toNat = 7 * J.toNat by omega)
            have e9a : J = 9 ∧ decide (1 < b) = false ∨ (J == 9) = false := by
              by_cases z : J = 9
              · left; exact ⟨z, by simp; have := fun z2 => e9 ⟨z, z2⟩; omega⟩
              · right; simp; omega
            have e0a : decide (0 < J) = true ∧ (b == 0) = false ∨ decide (0 < J) = false := by
              by_cases z : 0 < J
              · left; exact ⟨by simp; omega, by simp; exact fun z2 => e0 ⟨z, z2⟩⟩
              · right; simp; omega
            by_cases h128 : b < 128
            · have Hn := Aside0.mk (HA.out.1.symm.trans (numGo_last hJ h9 h00 (by rw [HBD.out]; exact h128)))
              have ed : decide (b < 128) = true := decide_eq_true h128
              clear hJ h9 h00 e9 e0
              rcases e9a with ⟨rfl, e9b⟩ | e9a
              · rcases e0a with ⟨e0a, e0b⟩ | e0a
                · rw [pow63] at HO Hn
                  rw [HBD.out] at Hn
                  go_wp2
                  go_ret3
                  rw [Hn.out]
                  refine ⟨congrArg Ending.returned (congrArg Value.tuple ?_), by repeat (first | exact Drawn0.refl _ | apply Drawn0.step)⟩
                  show #[Value.int .u64 (IntKind.u64.wrap (x + _)), Value.int .i64 (i + 9 + 1), Value.int .i64 0] = #[Value.int .u64 _, Value.int .i64 (i + ((10 : Nat) : Int)), Value.int .i64 0]
                  rw [HO.out, show i + 9 + 1 = i + ((10 : Nat) : Int) from by omega]
                · exfalso; revert e0a; decide
              · rw [← H7.out] at HO Hn
                rw [HBD.out] at Hn
                rcases e0a with ⟨e0a, e0b⟩ | e0a
                all_goals
                  go_wp2
                  go_ret3
                  rw [Hn.out]
                  refine ⟨congrArg Ending.returned (congrArg Value.tuple ?_), by repeat (first | exact Drawn0.refl _ | apply Drawn0.step)⟩
                  show #[Value.int .u64 (IntKind.u64.wrap (x + _)), Value.int .i64 (i + J + 1), Value.int .i64 0] = #[Value.int .u64 _, Value.int .i64 (i + ((J.toNat + 1 : Nat) : Int)), Value.int .i64 0]
                  rw [HO.out, show i + J + 1 = i + ((J.toNat + 1 : Nat) : Int) from by omega]
            · have Hn := Aside0.mk ((numGo_more (x := x) (k := k1) hJ h9 h00 (by rw [HBD.out]; exact h128)).symm.trans HA.out.1)
              have ed : decide (b < 128) = false := decide_eq_false h128
              have HKJ := Aside0.mk HA.out.2.1
              have HJT := Aside0.mk (show (J + 1).toNat = J.toNat + 1 from by omega)
              rcases e9a with ⟨rfl, e9b⟩ | e9a
              · exfalso
                have := of_decide_eq_false e9b
                omega
              · have hJ8 : J ≤ 8 := by have : J ≠ 9 := by simpa using e9a
                                       omega
                clear hJ h9 h00 e9 e0
                rw [← H7.out] at HO Hn HG HP
                rw [HBD.out] at Hn
                rcases e0a with ⟨e0a, e0b⟩ | e0a
                all_goals
                  go_wp2
                  go_roundg k1
                  case measure => omega
                  case rel =>
                    refine ⟨_, J + 1, rfl, rfl, ⟨?_⟩, by repeat (first | exact Drawn0.refl _ | apply Drawn0.step)⟩
                    rw [HO.out, HJT.out]
                    exact ⟨Hn.out, by have := HKJ.out; omega, by omega, by omega, HP.out, HG.out⟩

def readE (i : Int) : Int ⊕ (List Int × Nat) → Value
  | .inl c => .tuple #[.string ⟨#[]⟩, .int .i64 i, .int .i64 c]
  | .inr (s, n) => .tuple #[.string (strOfNums s), .int .i64 (i + n), .int .i64 0]

set_option maxHeartbeats 4000000 in
theorem refread_any (w : World) (v : Value) (l : List Int) (i limit : Int) (h : Bs w v l) (h0 : 0 ≤ i) (h1 : i ≤ l.length) (hl : l.length ≤ 140737488355327) (hb : ∀ x ∈ l, 0 ≤ x ∧ x < 256) (hlim : limit ≤ 9223372036854775807) :
    Calls Tryz.prog 59 #[v, .int .i64 i, .int .i64 limit] w fun e w' => e = .returned (readE i (txt (l.drop i.toNat) limit)) ∧ Drawn0 w w' := by
  have HV := Aside0.mk h
  obtain ⟨A, c, rfl, hc, hC, hnz⟩ := h
  have HB := Aside0.mk hb
  have HBD := Aside0.mk (show ∀ x ∈ l.drop i.toNat, 0 ≤ x ∧ x < 256 from fun x hx => hb x (List.mem_of_mem_drop hx))
  have HLIM := Aside0.mk hlim
  have HC := Aside0.mk hC
  have HNZ := Aside0.mk (And.intro hc hnz)
  clear hb hlim hC hc hnz
  go_enter Tryz.func59, Tryz.ntmps59
  go_wp2_with fail
  refine (refnumber_any _ _ l i HV.out h0 (by omega) (by omega) HB.out).mono ?_
  rintro e w1 ⟨rfl, ⟨m, rfl⟩⟩
  cases hnum : num (l.drop i.toNat) with
  | inl cc =>
    have HT := Aside0.mk (txt_inl (limit := limit) hnum)
    have hcc := num_err hnum
    clear hnum
    simp only [refE]
    rcases hcc with rfl | rfl | rfl
    all_goals
      go_wp2
      go_ret3
      rw [HT.out]
      exact ⟨rfl, by repeat (first | exact Drawn0.refl _ | apply Drawn0.step)⟩
  | inr p =>
    obtain ⟨n, k⟩ := p
    simp only [refE]
    obtain ⟨n0, n1, k0, k1, k2⟩ := num_ok HBD.out hnum
    have hdl : ((l.drop i.toNat).length : Int) = l.length - i := by rw [List.length_drop]; omega
    have HNUM := Aside0.mk hnum
    have HDL := Aside0.mk hdl
    have HKK := Aside0.mk (And.intro k0 (And.intro k1 n1))
    clear hnum hdl k0 k1 n1
    by_cases hneg : limit < 0
    · have d1 : decide (limit < 0) = true := decide_eq_true hneg
      have HT := Aside0.mk (txt_limit (limit := limit) HNUM.out (.inl hneg))
      clear hneg
      go_wp2
      go_ret3
      rw [HT.out]
      exact ⟨rfl, by repeat (first | exact Drawn0.refl _ | apply Drawn0.step)⟩
    · have d1 : decide (limit < 0) = false := decide_eq_false hneg
      have hw : IntKind.u64.wrap limit = limit := by have := HLIM.out; rw [IntKind.wrap_u64]; omega
      by_cases hlm : limit < n
      · have d2 : decide (limit < n) = true := decide_eq_true hlm
        have HT := Aside0.mk (txt_limit (limit := limit) HNUM.out (.inr hlm))
        clear hneg hlm
        go_wp2
        go_ret3
        rw [HT.out]
        exact ⟨rfl, by repeat (first | exact Drawn0.refl _ | apply Drawn0.step)⟩
      · have d2 : decide (limit < n) = false := decide_eq_false hlm
        have HLN := Aside0.mk (show ¬ (limit < 0 ∨ limit < n) from by omega)
        clear hneg hlm
        have hik0 : 0 ≤ i + (k : Int) := by omega
        have hik1 : i + (k : Int) ≤ l.length := by have := HKK.out; have := HDL.out; omega
        have hw2 : IntKind.u64.wrap ((l.length : Int) - (i + k)) = (l.length : Int) - (i + k) := by rw [IntKind.wrap_u64]; omega
        by_cases hsh : (l.length : Int) - (i + k) < n
        · have d3 : decide ((l.length : Int) - (i + k) < n) = true := decide_eq_true hsh
          have HT := Aside0.mk (txt_short (limit := limit) HNUM.out HLN.out (by have := HDL.out; omega))
          clear hsh
          go_wp2
          go_ret3
          rw [HT.out]
          exact ⟨rfl, by repeat (first | exact Drawn0.refl _ | apply Drawn0.step)⟩
        · have d3 : decide ((l.length : Int) - (i + k) < n) = false := decide_eq_false hsh
          have HT := Aside0.mk (txt_ok (limit := limit) HNUM.out HLN.out (by have := HDL.out; omega))
          have hn2 : n ≤ 140737488355327 := by omega
          have hn3 : i + k + n ≤ (l.length : Int) := by omega
          have hn4 : i + k ≤ i + k + n := by omega
          clear hsh
          obtain ⟨i0, hi0, _, hi1, _⟩ := info_parts info_u8
          obtain ⟨A', hsl, hrd⟩ := run_mid2 (P := Tryz.prog) 36 5 Tryz.underlying36 hi0 hi1 A c l (i + k) (i + k + n) hik0 hn4 hn3 HNZ.out.1 HNZ.out.2
          rw [show i + (k : Int) + n - (i + k) = n from by omega] at hsl hrd
          have hcv : (convert 36 9 (.slice A' ((l.drop (i + (k : Int)).toNat).take n.toNat).length (c - (i + (k : Int)).toNat))).run Tryz.prog (w.drewN m) = .ok (.string (strOfNums ((l.drop (i + (k : Int)).toNat).take n.toNat))) (w.drewN m) := string_of_reads Tryz.underlying36 Tryz.underlying5 Tryz.underlying9 (ReadsInt.drewN (hrd w (readsInt_of.2 (Kd.reads_of_C (d := (0 : Int)) HC.out))).1 m)
          have HT2 := Aside0.mk (show (l.drop (i + (k : Int)).toNat).take n.toNat = ((l.drop i.toNat).drop k).take n.toNat from by rw [List.drop_drop, show (i + (k : Int)).toNat = i.toNat + k from by omega])
          obtain ⟨L, hL⟩ : ∃ L, L = (l.drop (i + (k : Int)).toNat).take n.toNat := ⟨_, rfl⟩
          rw [← hL] at hsl hcv HT2
          clear hrd hi0 hi1 hL
          go_wp2
          go_ret3
          rw [HT.out]
          refine ⟨?_, by repeat (first | exact Drawn0.refl _ | apply Drawn0.step)⟩
          rw [← HT2.out]
          refine congrArg Ending.returned (congrArg Value.tuple ?_)
          show #[Value.string _, Value.int .i64 (i + k + n), Value.int .i64 0] = #[Value.string _, Value.int .i64 (i + ((k + n.toNat : Nat) : Int)), Value.int .i64 0]
          rw [show i + (k : Int) + n = i + ((k + n.toNat : Nat) : Int) from by omega]

end Go.Proofs.YtlbbhgmpiednfaaGreatDoor.HRef01
/- The reference's Read. -/
namespace Go.Proofs.YtlbbhgmpiednfaaGreatDoor.HTupRr
open Go.RowKit Go.Proofs.YtlbbhgmpiednfaaGreatDoorW.PrintWords Go.Proofs.YtlbbhgmpiednfaaGreatDoor.HLib Go.Proofs.YtlbbhgmpiednfaaGreatDoor.HGr Go.Proofs.YtlbbhgmpiednfaaGreatDoor.HErr Go.Proofs.YtlbbhgmpiednfaaGreatDoor.HNameP Go.Proofs.YtlbbhgmpiednfaaGreatDoor.HNameR Go.Proofs.YtlbbhgmpiednfaaGreatDoor.HName Go.Proofs.YtlbbhgmpiednfaaGreatDoor.HTupP Go.Proofs.YtlbbhgmpiednfaaGreatDoor.HTupR Go.Proofs.YtlbbhgmpiednfaaGreatDoor.HTupG Go.Proofs.YtlbbhgmpiednfaaGreatDoor.HTupX Go.Proofs.YtlbbhgmpiednfaaGreatDoor.HWireS Go.Proofs.YtlbbhgmpiednfaaGreatDoor.HWire Go.Proofs.YtlbbhgmpiednfaaGreatDoor.HCur Go.Proofs.YtlbbhgmpiednfaaGreatDoor.HRef01 Go.Proofs.YtlbbhgmpiednfaaGreatDoor.HTupI Go.Proofs.YtlbbhgmpiednfaaGreatDoor.HTupL Go.Proofs.YtlbbhgmpiednfaaGreatDoor.HTupM Go.Proofs.YtlbbhgmpiednfaaGreatDoor.HTupZ0
set_option linter.unusedVariables false
set_option linter.unusedSimpArgs false
def ec (c : Option Int) : Int := c.getD 0
theorem isid_calls (s : ByteArray) (w : World) (hs : s.size ≤ 1099511627776) : Calls Tryz.prog 60 #[.string s] w fun e w' => e = .returned (.bool (idP s)) ∧ Below w.heap.size w w' :=
  (refisid_any s w hs).mono fun e w' r => ⟨r.1, drawn_b r.2⟩
theorem read1_calls (w : World) (v : Value) (l : List Int) (i limit : Int) (h : Bs w v l) (h0 : 0 ≤ i) (h1 : i ≤ l.length) (hl : l.length ≤ 1000000) (hb : ∀ x ∈ l, 0 ≤ x ∧ x < 256) (hlim : limit ≤ 9223372036854775807) :
    Calls Tryz.prog 59 #[v, .int .i64 i, .int .i64 limit] w fun e w' => e = .returned (readE i (txt (l.drop i.toNat) limit)) ∧ Below w.heap.size w w' :=
  (refread_any w v l i limit h h0 h1 (by omega) hb hlim).mono fun e w' r => ⟨r.1, drawn_b r.2⟩
theorem txt_size {r : List Int} {limit : Int} {bs : List Int} {k : Nat} (hb : ∀ x ∈ r, 0 ≤ x ∧ x < 256) (h : txt r limit = .inr (bs, k)) : k ≤ r.length ∧ bs.length ≤ r.length := by
  refine ⟨txt_le hb h, ?_⟩
  unfold txt at h
  cases hn : num r with
  | inl c => rw [hn] at h; cases h
  | inr p =>
    obtain ⟨n, q⟩ := p
    rw [hn] at h
    simp only at h
    split at h
    · cases h
    · split at h
      · cases h
      · injection h with h
        injection h with h _
        subst h
        rw [List.length_take, List.length_drop]
        omega

set_option maxRecDepth 20000 in
set_option maxHeartbeats 16000000 in
theorem rread_any (w : World) (v : Value) (l : List Int) (i : Int) (hv : Bs w v l) (h0 : 0 ≤ i) (h1 : i ≤ l.length) (hl : l.length ≤ 1000000) (hb : ∀ x ∈ l, 0 ≤ x ∧ x < 256) :
    Calls Tryz.prog 30 #[v, .int .i64 i] w fun e w' => e = .returned (.tuple #[tvv (readK l 6 0 i Tp.nil).1, .int .i64 (readK l 6 0 i Tp.nil).2.2, .int .i64 (ec (readK l 6 0 i Tp.nil).2.1)]) ∧ Below w.heap.size w w' := by
  obtain ⟨W, hW⟩ : ∃ W, W = w.alloc (.cells zc 32) := ⟨_, rfl⟩
  obtain ⟨V, hV⟩ : ∃ V, V = W.alloc (.cells zc 97) := ⟨_, rfl⟩
  have hbW : Below w.heap.size w W := by rw [hW]; exact below_alloc (B0 w) _
  have hbV : Below W.heap.size W V := by rw [hV]; exact below_alloc (B0 W) _
  have hsW : W.heap.size = w.heap.size + 1 := by rw [hW]; exact World.size_alloc _ _
  have HR := Aside0.mk (show V.heap[w.heap.size]? = some (.cells zc 32 (0, 0)) from by have h := blk_new w (.cells zc 32); rw [← hW] at h; exact blk_below h hbV)
  have HT := Aside0.mk (show V.heap[W.heap.size]? = some (.cells (rowc Tp.nil) 97 (0, 0)) from by rw [hV]; exact blk_new W _)
  have HB := Aside0.mk (show Below w.heap.size w V from below_step hbW hbV)
  obtain ⟨gr, hgr⟩ : ∃ gr, gr = w.heap.size := ⟨_, rfl⟩
  obtain ⟨gt, hgt⟩ : ∃ gt, gt = W.heap.size := ⟨_, rfl⟩
  have hg1 : gt = gr + 1 := by omega
  rw [← hgr] at HR
  rw [← hgt] at HT
  have HGE := Aside0.mk (show w.heap.size ≤ gr from by omega)
  have HGT := Aside0.mk (show w.heap.size ≤ gt from by omega)
  have HNE := Aside0.mk (show gr ≠ gt from by omega)
  have HV := Aside0.mk hv
  have HL := Aside0.mk hl
  have HBY := Aside0.mk hb
  have HI := Aside0.mk (show 0 ≤ i ∧ i ≤ l.length from ⟨h0, h1⟩)
  obtain ⟨r, hr⟩ : ∃ r, r = readK l 6 0 i Tp.nil := ⟨_, rfl⟩
  rw [← hr]
  have HK := Aside0.mk hr.symm
  clear hv h0 h1 hl hb hbW hbV hsW hr
  go_enter Tryz.func30, Tryz.ntmps30
  go_upto_region 2 with fail
  rw [← hW, ← hgr, ← hg1, ← hV]
  clear hW hgr hgt hV hg1
  go_wp2
  go_loopg [1, 8, 9, 10, 11, 12, 13] 6 (fun kq v1 v8 v9 v10 v11 v12 v13 w' => ∃ (j : Nat) (jj i' : Int) (t : Tp), v1 = .int .i64 i' ∧ v8 = .int .i64 jj ∧ jj = (j : Int) ∧ Aside0 (kq + j = 6) ∧ Aside0 (readK l (6 - j) j i' t = r) ∧ Aside0 (0 ≤ i' ∧ i' ≤ l.length) ∧ Aside0 (w'.heap[gr]? = some (.cells zc 32 (0, 0))) ∧ Aside0 (w'.heap[gt]? = some (.cells (rowc t) 97 (0, 0))) ∧ Aside0 (Below w.heap.size w w'))
  case atStart => exact ⟨0, 0, i, Tp.nil, rfl, rfl, rfl, ⟨rfl⟩, HK, HI, HR, HT, HB⟩
  case round =>
    obtain ⟨j, jj, i', t, rfl, rfl, hjj, HJ, HKJ, HIJ, HRJ, HTJ, HBJ⟩ := hrel
    clear HR HT HB HI HK
    have HR := HRJ
    have HT := HTJ
    have HB := HBJ
    clear HRJ HTJ HBJ
    have hj : j = 0 ∨ j = 1 ∨ j = 2 ∨ j = 3 ∨ j = 4 ∨ j = 5 ∨ j = 6 := by have := HJ.out; omega
    rcases hj with rfl | rfl | rfl | rfl | rfl | rfl | rfl
    · obtain rfl : jj = 0 := by omega
      have HTXB := Aside0.mk (show ∀ x ∈ l.drop i'.toNat, 0 ≤ x ∧ x < 256 from fun x hx => HBY.out x (List.mem_of_mem_drop hx))
      clear hjj
      cases hT : txt (l.drop i'.toNat) 64 with
      | inl c =>
        have HE := Aside0.mk (show r = (Tp.nil, some c, i') from HKJ.out.symm.trans (readK_inl hT))
        have hc := txt_err hT
        have hc0 : (c != 0) = true := by rcases hc with rfl | rfl | rfl | rfl <;> rfl
        have hc1 : ¬ c = 0 := by omega
        clear hc
        have HTX := Aside0.mk hT
        clear hT
        go_wp2_with fail
        refine (read1_calls wr v l i' 64 (HV.out.below HB.out) HIJ.out.1 HIJ.out.2 HL.out HBY.out (by decide)).mono ?_
        rintro e_ w1 ⟨rfl, hb⟩
        rw [HTX.out]
        dsimp only [readE]
        have HB' := Aside0.mk (below_step HB.out hb)
        have HR' := Aside0.mk (blk_below HR.out hb)
        have HT' := Aside0.mk (blk_below HT.out hb)
        clear HR HT HB hb
        have HR := HR'
        have HT := HT'
        have HB := HB'
        clear HR' HT' HB'
        have z0 : w1.cell? ⟨gr, 0, none⟩ = some (.string ⟨#[]⟩) := (blk_cell HR.out 0).trans rfl
        have z1 : w1.cell? ⟨gr, 1, none⟩ = some (.string ⟨#[]⟩) := (blk_cell HR.out 1).trans rfl
        have z2 : w1.cell? ⟨gr, 2, none⟩ = some (.string ⟨#[]⟩) := (blk_cell HR.out 2).trans rfl
        have z3 : w1.cell? ⟨gr, 3, none⟩ = some (.string ⟨#[]⟩) := (blk_cell HR.out 3).trans rfl
        have z4 : w1.cell? ⟨gr, 4, none⟩ = some (.string ⟨#[]⟩) := (blk_cell HR.out 4).trans rfl
        have z5 : w1.cell? ⟨gr, 5, none⟩ = some (.string ⟨#[]⟩) := (blk_cell HR.out 5).trans rfl
        have fz0 : w1.frozen? ⟨gr, 0, none⟩ = false := blk_frozen HR.out 0
        have fz1 : w1.frozen? ⟨gr, 1, none⟩ = false := blk_frozen HR.out 1
        have fz2 : w1.frozen? ⟨gr, 2, none⟩ = false := blk_frozen HR.out 2
        have fz3 : w1.frozen? ⟨gr, 3, none⟩ = false := blk_frozen HR.out 3
        have fz4 : w1.frozen? ⟨gr, 4, none⟩ = false := blk_frozen HR.out 4
        have fz5 : w1.frozen? ⟨gr, 5, none⟩ = false := blk_frozen HR.out 5
        go_wp2
        have hf := fin_row HR.out Tp.nil
        have hbf := fin_below HGE.out HB.out Tp.nil
        dsimp only [rowc, Tp.nil] at hf hbf
        generalize hW9 : ((((((w1.setCell ⟨gr, 0, none⟩ (.string ⟨#[]⟩)).setCell ⟨gr, 1, none⟩ (.string ⟨#[]⟩)).setCell ⟨gr, 2, none⟩ (.string ⟨#[]⟩)).setCell ⟨gr, 3, none⟩ (.string ⟨#[]⟩)).setCell ⟨gr, 4, none⟩ (.string ⟨#[]⟩)).setCell ⟨gr, 5, none⟩ (.string ⟨#[]⟩)) = W9 at hf hbf ⊢
        clear hW9
        have d0 := (blk_cell hf 0).trans rfl
        have d1 := (blk_cell hf 1).trans rfl
        have d2 := (blk_cell hf 2).trans rfl
        have d3 := (blk_cell hf 3).trans rfl
        have d4 := (blk_cell hf 4).trans rfl
        have d5 := (blk_cell hf 5).trans rfl
        have he := HE.out
        subst he
        refine bodyPost_ret (v := .tuple #[tvv Tp.nil, .int .i64 i', .int .i64 c]) (by simp [results, Tryz.results30, go_sem, d0, d1, d2, d3, d4, d5, Tp.nil]) rfl ⟨rfl, hbf⟩
      | inr p =>
        obtain ⟨bs, k⟩ := p
        have HKL := Aside0.mk (show (k : Int) ≤ (l.length : Int) - i' ∧ (bs.length : Int) ≤ 1000000 from by have h1 := txt_size HTXB.out hT; rw [List.length_drop] at h1; have := HIJ.out; have := HL.out; omega)
        have HSZ := Aside0.mk (show (strOfNums bs).size ≤ 1000000 from by have := HKL.out.2; rw [strOfNums_size]; omega)
        cases hS : chkS 0 (strOfNums bs) with
        | false =>
          have HE := Aside0.mk (show r = (Tp.nil, some 5, i') from HKJ.out.symm.trans (readK_bad hT hS))
          have HSC := Aside0.mk hS
          clear hS
          have HTX := Aside0.mk hT
          clear hT
          go_wp2_with fail
          refine (read1_calls wr v l i' 64 (HV.out.below HB.out) HIJ.out.1 HIJ.out.2 HL.out HBY.out (by decide)).mono ?_
          rintro e_ w1 ⟨rfl, hb⟩
          rw [HTX.out]
          dsimp only [readE]
          have HB' := Aside0.mk (below_step HB.out hb)
          have HR' := Aside0.mk (blk_below HR.out hb)
          have HT' := Aside0.mk (blk_below HT.out hb)
          clear HR HT HB hb
          have HR := HR'
          have HT := HT'
          have HB := HB'
          clear HR' HT' HB'
          obtain ⟨s, hs⟩ : ∃ s, s = strOfNums bs := ⟨_, rfl⟩
          rw [← hs] at HSZ HSC ⊢
          clear hs
          go_wp2_with fail
          refine (is_calls s w1).mono ?_
          rintro e_ w2 ⟨rfl, hb⟩
          have HB' := Aside0.mk (below_step HB.out hb)
          have HR' := Aside0.mk (blk_below HR.out hb)
          have HT' := Aside0.mk (blk_below HT.out hb)
          clear HR HT HB hb
          have HR := HR'
          have HT := HT'
          have HB := HB'
          clear HR' HT' HB'
          rw [show isP s = false from HSC.out]
          have z0 : w2.cell? ⟨gr, 0, none⟩ = some (.string ⟨#[]⟩) := (blk_cell HR.out 0).trans rfl
          have z1 : w2.cell? ⟨gr, 1, none⟩ = some (.string ⟨#[]⟩) := (blk_cell HR.out 1).trans rfl
          have z2 : w2.cell? ⟨gr, 2, none⟩ = some (.string ⟨#[]⟩) := (blk_cell HR.out 2).trans rfl
          have z3 : w2.cell? ⟨gr, 3, none⟩ = some (.string ⟨#[]⟩) := (blk_cell HR.out 3).trans rfl
          have z4 : w2.cell? ⟨gr, 4, none⟩ = some (.string ⟨#[]⟩) := (blk_cell HR.out 4).trans rfl
          have z5 : w2.cell? ⟨gr, 5, none⟩ = some (.string ⟨#[]⟩) := (blk_cell HR.out 5).trans rfl
          have fz0 : w2.frozen? ⟨gr, 0, none⟩ = false := blk_frozen HR.out 0
          have fz1 : w2.frozen? ⟨gr, 1, none⟩ = false := blk_frozen HR.out 1
          have fz2 : w2.frozen? ⟨gr, 2, none⟩ = false := blk_frozen HR.out 2
          have fz3 : w2.frozen? ⟨gr, 3, none⟩ = false := blk_frozen HR.out 3
          have fz4 : w2.frozen? ⟨gr, 4, none⟩ = false := blk_frozen HR.out 4
          have fz5 : w2.frozen? ⟨gr, 5, none⟩ = false := blk_frozen HR.out 5
          go_wp2
          have hf := fin_row HR.out Tp.nil
          have hbf := fin_below HGE.out HB.out Tp.nil
          dsimp only [rowc, Tp.nil] at hf hbf
          generalize hW9 : ((((((w2.setCell ⟨gr, 0, none⟩ (.string ⟨#[]⟩)).setCell ⟨gr, 1, none⟩ (.string ⟨#[]⟩)).setCell ⟨gr, 2, none⟩ (.string ⟨#[]⟩)).setCell ⟨gr, 3, none⟩ (.string ⟨#[]⟩)).setCell ⟨gr, 4, none⟩ (.string ⟨#[]⟩)).setCell ⟨gr, 5, none⟩ (.string ⟨#[]⟩)) = W9 at hf hbf ⊢
          clear hW9
          have d0 := (blk_cell hf 0).trans rfl
          have d1 := (blk_cell hf 1).trans rfl
          have d2 := (blk_cell hf 2).trans rfl
          have d3 := (blk_cell hf 3).trans rfl
          have d4 := (blk_cell hf 4).trans rfl
          have d5 := (blk_cell hf 5).trans rfl
          have he := HE.out
          subst he
          refine bodyPost_ret (v := .tuple #[tvv Tp.nil, .int .i64 i', .int .i64 5]) (by simp [results, Tryz.results30, go_sem, d0, d1, d2, d3, d4, d5, Tp.nil]) rfl ⟨rfl, hbf⟩
        | true =>
          have HE := Aside0.mk (show readK l 5 1 (i' + k) (setS t 0 (strOfNums bs)) = r from (readK_ok hT hS).symm.trans HKJ.out)
          have HSC := Aside0.mk hS
          clear hS
          have HTX := Aside0.mk hT
          clear hT
          go_wp2_with fail
          refine (read1_calls wr v l i' 64 (HV.out.below HB.out) HIJ.out.1 HIJ.out.2 HL.out HBY.out (by decide)).mono ?_
          rintro e_ w1 ⟨rfl, hb⟩
          rw [HTX.out]
          dsimp only [readE]
          have HB' := Aside0.mk (below_step HB.out hb)
          have HR' := Aside0.mk (blk_below HR.out hb)
          have HT' := Aside0.mk (blk_below HT.out hb)
          clear HR HT HB hb
          have HR := HR'
          have HT := HT'
          have HB := HB'
          clear HR' HT' HB'
          obtain ⟨s, hs⟩ : ∃ s, s = strOfNums bs := ⟨_, rfl⟩
          rw [← hs] at HSZ HSC ⊢
          rw [← hs] at HE
          clear hs
          go_wp2_with fail
          refine (is_calls s w1).mono ?_
          rintro e_ w2 ⟨rfl, hb⟩
          have HB' := Aside0.mk (below_step HB.out hb)
          have HR' := Aside0.mk (blk_below HR.out hb)
          have HT' := Aside0.mk (blk_below HT.out hb)
          clear HR HT HB hb
          have HR := HR'
          have HT := HT'
          have HB := HB'
          clear HR' HT' HB'
          rw [show isP s = true from HSC.out]
          have s1 : w2.cell? ⟨gt, 0, none⟩ = some (.string t.a) := (blk_cell HT.out 0).trans rfl
          have s2 : w2.frozen? ⟨gt, 0, none⟩ = false := blk_frozen HT.out 0
          have HT2 := Aside0.mk (show (w2.setCell ⟨gt, 0, none⟩ (.string s)).heap[gt]? = some (.cells (rowc (setS t 0 s)) 97 (0, 0)) from by have h := blk_set HT.out 0 (.string s); rw [row_set t 0 (by decide) s] at h; exact h)
          have HR2 := Aside0.mk (show (w2.setCell ⟨gt, 0, none⟩ (.string s)).heap[gr]? = some (.cells zc 32 (0, 0)) from blk_far HR.out HNE.out _)
          have HB2 := Aside0.mk (show Below w.heap.size w (w2.setCell ⟨gt, 0, none⟩ (.string s)) from HB.out.setCell (p := ⟨gt, 0, none⟩) HGT.out _)
          go_wp2
          go_roundg 5
          case measure => have := HJ.out; omega
          case rel => exact ⟨1, 1, i' + k, setS t 0 s, rfl, rfl, rfl, ⟨rfl⟩, HE, ⟨by have := HIJ.out; have := HKL.out; omega⟩, HR2, HT2, HB2⟩
    · obtain rfl : jj = 1 := by omega
      have HTXB := Aside0.mk (show ∀ x ∈ l.drop i'.toNat, 0 ≤ x ∧ x < 256 from fun x hx => HBY.out x (List.mem_of_mem_drop hx))
      clear hjj
      cases hT : txt (l.drop i'.toNat) 128 with
      | inl c =>
        have HE := Aside0.mk (show r = (Tp.nil, some c, i') from HKJ.out.symm.trans (readK_inl hT))
        have hc := txt_err hT
        have hc0 : (c != 0) = true := by rcases hc with rfl | rfl | rfl | rfl <;> rfl
        have hc1 : ¬ c = 0 := by omega
        clear hc
        have HTX := Aside0.mk hT
        clear hT
        go_wp2_with fail
        refine (read1_calls wr v l i' 128 (HV.out.below HB.out) HIJ.out.1 HIJ.out.2 HL.out HBY.out (by decide)).mono ?_
        rintro e_ w1 ⟨rfl, hb⟩
        rw [HTX.out]
        dsimp only [readE]
        have HB' := Aside0.mk (below_step HB.out hb)
        have HR' := Aside0.mk (blk_below HR.out hb)
        have HT' := Aside0.mk (blk_below HT.out hb)
        clear HR HT HB hb
        have HR := HR'
        have HT := HT'
        have HB := HB'
        clear HR' HT' HB'
        have z0 : w1.cell? ⟨gr, 0, none⟩ = some (.string ⟨#[]⟩) := (blk_cell HR.out 0).trans rfl
        have z1 : w1.cell? ⟨gr, 1, none⟩ = some (.string ⟨#[]⟩) := (blk_cell HR.out 1).trans rfl
        have z2 : w1.cell? ⟨gr, 2, none⟩ = some (.string ⟨#[]⟩) := (blk_cell HR.out 2).trans rfl
        have z3 : w1.cell? ⟨gr, 3, none⟩ = some (.string ⟨#[]⟩) := (blk_cell HR.out 3).trans rfl
        have z4 : w1.cell? ⟨gr, 4, none⟩ = some (.string ⟨#[]⟩) := (blk_cell HR.out 4).trans rfl
        have z5 : w1.cell? ⟨gr, 5, none⟩ = some (.string ⟨#[]⟩) := (blk_cell HR.out 5).trans rfl
        have fz0 : w1.frozen? ⟨gr, 0, none⟩ = false := blk_frozen HR.out 0
        have fz1 : w1.frozen? ⟨gr, 1, none⟩ = false := blk_frozen HR.out 1
        have fz2 : w1.frozen? ⟨gr, 2, none⟩ = false := blk_frozen HR.out 2
        have fz3 : w1.frozen? ⟨gr, 3, none⟩ = false := blk_frozen HR.out 3
        have fz4 : w1.frozen? ⟨gr, 4, none⟩ = false := blk_frozen HR.out 4
        have fz5 : w1.frozen? ⟨gr, 5, none⟩ = false := blk_frozen HR.out 5
        go_wp2
        have hf := fin_row HR.out Tp.nil
        have hbf := fin_below HGE.out HB.out Tp.nil
        dsimp only [rowc, Tp.nil] at hf hbf
        generalize hW9 : ((((((w1.setCell ⟨gr, 0, none⟩ (.string ⟨#[]⟩)).setCell ⟨gr, 1, none⟩ (.string ⟨#[]⟩)).setCell ⟨gr, 2, none⟩ (.string ⟨#[]⟩)).setCell ⟨gr, 3, none⟩ (.string ⟨#[]⟩)).setCell ⟨gr, 4, none⟩ (.string ⟨#[]⟩)).setCell ⟨gr, 5, none⟩ (.string ⟨#[]⟩)) = W9 at hf hbf ⊢
        clear hW9
        have d0 := (blk_cell hf 0).trans rfl
        have d1 := (blk_cell hf 1).trans rfl
        have d2 := (blk_cell hf 2).trans rfl
        have d3 := (blk_cell hf 3).trans rfl
        have d4 := (blk_cell hf 4).trans rfl
        have d5 := (blk_cell hf 5).trans rfl
        have he := HE.out
        subst he
        refine bodyPost_ret (v := .tuple #[tvv Tp.nil, .int .i64 i', .int .i64 c]) (by simp [results, Tryz.results30, go_sem, d0, d1, d2, d3, d4, d5, Tp.nil]) rfl ⟨rfl, hbf⟩
      | inr p =>
        obtain ⟨bs, k⟩ := p
        have HKL := Aside0.mk (show (k : Int) ≤ (l.length : Int) - i' ∧ (bs.length : Int) ≤ 1000000 from by have h1 := txt_size HTXB.out hT; rw [List.length_drop] at h1; have := HIJ.out; have := HL.out; omega)
        have HSZ := Aside0.mk (show (strOfNums bs).size ≤ 1000000 from by have := HKL.out.2; rw [strOfNums_size]; omega)
        cases hS : chkS 1 (strOfNums bs) with
        | false =>
          have HE := Aside0.mk (show r = (Tp.nil, some 5, i') from HKJ.out.symm.trans (readK_bad hT hS))
          have HSC := Aside0.mk hS
          clear hS
          have HTX := Aside0.mk hT
          clear hT
          go_wp2_with fail
          refine (read1_calls wr v l i' 128 (HV.out.below HB.out) HIJ.out.1 HIJ.out.2 HL.out HBY.out (by decide)).mono ?_
          rintro e_ w1 ⟨rfl, hb⟩
          rw [HTX.out]
          dsimp only [readE]
          have HB' := Aside0.mk (below_step HB.out hb)
          have HR' := Aside0.mk (blk_below HR.out hb)
          have HT' := Aside0.mk (blk_below HT.out hb)
          clear HR HT HB hb
          have HR := HR'
          have HT := HT'
          have HB := HB'
          clear HR' HT' HB'
          obtain ⟨s, hs⟩ : ∃ s, s = strOfNums bs := ⟨_, rfl⟩
          rw [← hs] at HSZ HSC ⊢
          clear hs
          go_wp2_with fail
          refine (is_calls s w1).mono ?_
          rintro e_ w2 ⟨rfl, hb⟩
          have HB' := Aside0.mk (below_step HB.out hb)
          have HR' := Aside0.mk (blk_below HR.out hb)
          have HT' := Aside0.mk (blk_below HT.out hb)
          clear HR HT HB hb
          have HR := HR'
          have HT := HT'
          have HB := HB'
          clear HR' HT' HB'
          go_wp2_with fail
          refine (isid_calls s w2 (by have := HSZ.out; omega)).mono ?_
          rintro e_ w3 ⟨rfl, hb⟩
          rw [show idP s = false from HSC.out]
          have HB' := Aside0.mk (below_step HB.out hb)
          have HR' := Aside0.mk (blk_below HR.out hb)
          have HT' := Aside0.mk (blk_below HT.out hb)
          clear HR HT HB hb
          have HR := HR'
          have HT := HT'
          have HB := HB'
          clear HR' HT' HB'
          have z0 : w3.cell? ⟨gr, 0, none⟩ = some (.string ⟨#[]⟩) := (blk_cell HR.out 0).trans rfl
          have z1 : w3.cell? ⟨gr, 1, none⟩ = some (.string ⟨#[]⟩) := (blk_cell HR.out 1).trans rfl
          have z2 : w3.cell? ⟨gr, 2, none⟩ = some (.string ⟨#[]⟩) := (blk_cell HR.out 2).trans rfl
          have z3 : w3.cell? ⟨gr, 3, none⟩ = some (.string ⟨#[]⟩) := (blk_cell HR.out 3).trans rfl
          have z4 : w3.cell? ⟨gr, 4, none⟩ = some (.string ⟨#[]⟩) := (blk_cell HR.out 4).trans rfl
          have z5 : w3.cell? ⟨gr, 5, none⟩ = some (.string ⟨#[]⟩) := (blk_cell HR.out 5).trans rfl
          have fz0 : w3.frozen? ⟨gr, 0, none⟩ = false := blk_frozen HR.out 0
          have fz1 : w3.frozen? ⟨gr, 1, none⟩ = false := blk_frozen HR.out 1
          have fz2 : w3.frozen? ⟨gr, 2, none⟩ = false := blk_frozen HR.out 2
          have fz3 : w3.frozen? ⟨gr, 3, none⟩ = false := blk_frozen HR.out 3
          have fz4 : w3.frozen? ⟨gr, 4, none⟩ = false := blk_frozen HR.out 4
          have fz5 : w3.frozen? ⟨gr, 5, none⟩ = false := blk_frozen HR.out 5
          go_wp2
          have hf := fin_row HR.out Tp.nil
          have hbf := fin_below HGE.out HB.out Tp.nil
          dsimp only [rowc, Tp.nil] at hf hbf
          generalize hW9 : ((((((w3.setCell ⟨gr, 0, none⟩ (.string ⟨#[]⟩)).setCell ⟨gr, 1, none⟩ (.string ⟨#[]⟩)).setCell ⟨gr, 2, none⟩ (.string ⟨#[]⟩)).setCell ⟨gr, 3, none⟩ (.string ⟨#[]⟩)).setCell ⟨gr, 4, none⟩ (.string ⟨#[]⟩)).setCell ⟨gr, 5, none⟩ (.string ⟨#[]⟩)) = W9 at hf hbf ⊢
          clear hW9
          have d0 := (blk_cell hf 0).trans rfl
          have d1 := (blk_cell hf 1).trans rfl
          have d2 := (blk_cell hf 2).trans rfl
          have d3 := (blk_cell hf 3).trans rfl
          have d4 := (blk_cell hf 4).trans rfl
          have d5 := (blk_cell hf 5).trans rfl
          have he := HE.out
          subst he
          refine bodyPost_ret (v := .tuple #[tvv Tp.nil, .int .i64 i', .int .i64 5]) (by simp [results, Tryz.results30, go_sem, d0, d1, d2, d3, d4, d5, Tp.nil]) rfl ⟨rfl, hbf⟩
        | true =>
          have HE := Aside0.mk (show readK l 4 2 (i' + k) (setS t 1 (strOfNums bs)) = r from (readK_ok hT hS).symm.trans HKJ.out)
          have HSC := Aside0.mk hS
          clear hS
          have HTX := Aside0.mk hT
          clear hT
          go_wp2_with fail
          refine (read1_calls wr v l i' 128 (HV.out.below HB.out) HIJ.out.1 HIJ.out.2 HL.out HBY.out (by decide)).mono ?_
          rintro e_ w1 ⟨rfl, hb⟩
          rw [HTX.out]
          dsimp only [readE]
          have HB' := Aside0.mk (below_step HB.out hb)
          have HR' := Aside0.mk (blk_below HR.out hb)
          have HT' := Aside0.mk (blk_below HT.out hb)
          clear HR HT HB hb
          have HR := HR'
          have HT := HT'
          have HB := HB'
          clear HR' HT' HB'
          obtain ⟨s, hs⟩ : ∃ s, s = strOfNums bs := ⟨_, rfl⟩
          rw [← hs] at HSZ HSC ⊢
          rw [← hs] at HE
          clear hs
          go_wp2_with fail
          refine (is_calls s w1).mono ?_
          rintro e_ w2 ⟨rfl, hb⟩
          have HB' := Aside0.mk (below_step HB.out hb)
          have HR' := Aside0.mk (blk_below HR.out hb)
          have HT' := Aside0.mk (blk_below HT.out hb)
          clear HR HT HB hb
          have HR := HR'
          have HT := HT'
          have HB := HB'
          clear HR' HT' HB'
          go_wp2_with fail
          refine (isid_calls s w2 (by have := HSZ.out; omega)).mono ?_
          rintro e_ w3 ⟨rfl, hb⟩
          rw [show idP s = true from HSC.out]
          have HB' := Aside0.mk (below_step HB.out hb)
          have HR' := Aside0.mk (blk_below HR.out hb)
          have HT' := Aside0.mk (blk_below HT.out hb)
          clear HR HT HB hb
          have HR := HR'
          have HT := HT'
          have HB := HB'
          clear HR' HT' HB'
          have s1 : w3.cell? ⟨gt, 1, none⟩ = some (.string t.b) := (blk_cell HT.out 1).trans rfl
          have s2 : w3.frozen? ⟨gt, 1, none⟩ = false := blk_frozen HT.out 1
          have HT2 := Aside0.mk (show (w3.setCell ⟨gt, 1, none⟩ (.string s)).heap[gt]? = some (.cells (rowc (setS t 1 s)) 97 (0, 0)) from by have h := blk_set HT.out 1 (.string s); rw [row_set t 1 (by decide) s] at h; exact h)
          have HR2 := Aside0.mk (show (w3.setCell ⟨gt, 1, none⟩ (.string s)).heap[gr]? = some (.cells zc 32 (0, 0)) from blk_far HR.out HNE.out _)
          have HB2 := Aside0.mk (show Below w.heap.size w (w3.setCell ⟨gt, 1, none⟩ (.string s)) from HB.out.setCell (p := ⟨gt, 1, none⟩) HGT.out _)
          go_wp2
          go_roundg 4
          case measure => have := HJ.out; omega
          case rel => exact ⟨2, 2, i' + k, setS t 1 s, rfl, rfl, rfl, ⟨rfl⟩, HE, ⟨by have := HIJ.out; have := HKL.out; omega⟩, HR2, HT2, HB2⟩
    · obtain rfl : jj = 2 := by omega
      have HTXB := Aside0.mk (show ∀ x ∈ l.drop i'.toNat, 0 ≤ x ∧ x < 256 from fun x hx => HBY.out x (List.mem_of_mem_drop hx))
      clear hjj
      cases hT : txt (l.drop i'.toNat) 64 with
      | inl c =>
        have HE := Aside0.mk (show r = (Tp.nil, some c, i') from HKJ.out.symm.trans (readK_inl hT))
        have hc := txt_err hT
        have hc0 : (c != 0) = true := by rcases hc with rfl | rfl | rfl | rfl <;> rfl
        have hc1 : ¬ c = 0 := by omega
        clear hc
        have HTX := Aside0.mk hT
        clear hT
        go_wp2_with fail
        refine (read1_calls wr v l i' 64 (HV.out.below HB.out) HIJ.out.1 HIJ.out.2 HL.out HBY.out (by decide)).mono ?_
        rintro e_ w1 ⟨rfl, hb⟩
        rw [HTX.out]
        dsimp only [readE]
        have HB' := Aside0.mk (below_step HB.out hb)
        have HR' := Aside0.mk (blk_below HR.out hb)
        have HT' := Aside0.mk (blk_below HT.out hb)
        clear HR HT HB hb
        have HR := HR'
        have HT := HT'
        have HB := HB'
        clear HR' HT' HB'
        have z0 : w1.cell? ⟨gr, 0, none⟩ = some (.string ⟨#[]⟩) := (blk_cell HR.out 0).trans rfl
        have z1 : w1.cell? ⟨gr, 1, none⟩ = some (.string ⟨#[]⟩) := (blk_cell HR.out 1).trans rfl
        have z2 : w1.cell? ⟨gr, 2, none⟩ = some (.string ⟨#[]⟩) := (blk_cell HR.out 2).trans rfl
        have z3 : w1.cell? ⟨gr, 3, none⟩ = some (.string ⟨#[]⟩) := (blk_cell HR.out 3).trans rfl
        have z4 : w1.cell? ⟨gr, 4, none⟩ = some (.string ⟨#[]⟩) := (blk_cell HR.out 4).trans rfl
        have z5 : w1.cell? ⟨gr, 5, none⟩ = some (.string ⟨#[]⟩) := (blk_cell HR.out 5).trans rfl
        have fz0 : w1.frozen? ⟨gr, 0, none⟩ = false := blk_frozen HR.out 0
        have fz1 : w1.frozen? ⟨gr, 1, none⟩ = false := blk_frozen HR.out 1
        have fz2 : w1.frozen? ⟨gr, 2, none⟩ = false := blk_frozen HR.out 2
        have fz3 : w1.frozen? ⟨gr, 3, none⟩ = false := blk_frozen HR.out 3
        have fz4 : w1.frozen? ⟨gr, 4, none⟩ = false := blk_frozen HR.out 4
        have fz5 : w1.frozen? ⟨gr, 5, none⟩ = false := blk_frozen HR.out 5
        go_wp2
        have hf := fin_row HR.out Tp.nil
        have hbf := fin_below HGE.out HB.out Tp.nil
        dsimp only [rowc, Tp.nil] at hf hbf
        generalize hW9 : ((((((w1.setCell ⟨gr, 0, none⟩ (.string ⟨#[]⟩)).setCell ⟨gr, 1, none⟩ (.string ⟨#[]⟩)).setCell ⟨gr, 2, none⟩ (.string ⟨#[]⟩)).setCell ⟨gr, 3, none⟩ (.string ⟨#[]⟩)).setCell ⟨gr, 4, none⟩ (.string ⟨#[]⟩)).setCell ⟨gr, 5, none⟩ (.string ⟨#[]⟩)) = W9 at hf hbf ⊢
        clear hW9
        have d0 := (blk_cell hf 0).trans rfl
        have d1 := (blk_cell hf 1).trans rfl
        have d2 := (blk_cell hf 2).trans rfl
        have d3 := (blk_cell hf 3).trans rfl
        have d4 := (blk_cell hf 4).trans rfl
        have d5 := (blk_cell hf 5).trans rfl
        have he := HE.out
        subst he
        refine bodyPost_ret (v := .tuple #[tvv Tp.nil, .int .i64 i', .int .i64 c]) (by simp [results, Tryz.results30, go_sem, d0, d1, d2, d3, d4, d5, Tp.nil]) rfl ⟨rfl, hbf⟩
      | inr p =>
        obtain ⟨bs, k⟩ := p
        have HKL := Aside0.mk (show (k : Int) ≤ (l.length : Int) - i' ∧ (bs.length : Int) ≤ 1000000 from by have h1 := txt_size HTXB.out hT; rw [List.length_drop] at h1; have := HIJ.out; have := HL.out; omega)
        have HSZ := Aside0.mk (show (strOfNums bs).size ≤ 1000000 from by have := HKL.out.2; rw [strOfNums_size]; omega)
        cases hS : chkS 2 (strOfNums bs) with
        | false =>
          have HE := Aside0.mk (show r = (Tp.nil, some 5, i') from HKJ.out.symm.trans (readK_bad hT hS))
          have HSC := Aside0.mk hS
          clear hS
          have HTX := Aside0.mk hT
          clear hT
          go_wp2_with fail
          refine (read1_calls wr v l i' 64 (HV.out.below HB.out) HIJ.out.1 HIJ.out.2 HL.out HBY.out (by decide)).mono ?_
          rintro e_ w1 ⟨rfl, hb⟩
          rw [HTX.out]
          dsimp only [readE]
          have HB' := Aside0.mk (below_step HB.out hb)
          have HR' := Aside0.mk (blk_below HR.out hb)
          have HT' := Aside0.mk (blk_below HT.out hb)
          clear HR HT HB hb
          have HR := HR'
          have HT := HT'
          have HB := HB'
          clear HR' HT' HB'
          obtain ⟨s, hs⟩ : ∃ s, s = strOfNums bs := ⟨_, rfl⟩
          rw [← hs] at HSZ HSC ⊢
          clear hs
          go_wp2_with fail
          refine (is_calls s w1).mono ?_
          rintro e_ w2 ⟨rfl, hb⟩
          have HB' := Aside0.mk (below_step HB.out hb)
          have HR' := Aside0.mk (blk_below HR.out hb)
          have HT' := Aside0.mk (blk_below HT.out hb)
          clear HR HT HB hb
          have HR := HR'
          have HT := HT'
          have HB := HB'
          clear HR' HT' HB'
          rw [show isP s = false from HSC.out]
          have z0 : w2.cell? ⟨gr, 0, none⟩ = some (.string ⟨#[]⟩) := (blk_cell HR.out 0).trans rfl
          have z1 : w2.cell? ⟨gr, 1, none⟩ = some (.string ⟨#[]⟩) := (blk_cell HR.out 1).trans rfl
          have z2 : w2.cell? ⟨gr, 2, none⟩ = some (.string ⟨#[]⟩) := (blk_cell HR.out 2).trans rfl
          have z3 : w2.cell? ⟨gr, 3, none⟩ = some (.string ⟨#[]⟩) := (blk_cell HR.out 3).trans rfl
          have z4 : w2.cell? ⟨gr, 4, none⟩ = some (.string ⟨#[]⟩) := (blk_cell HR.out 4).trans rfl
          have z5 : w2.cell? ⟨gr, 5, none⟩ = some (.string ⟨#[]⟩) := (blk_cell HR.out 5).trans rfl
          have fz0 : w2.frozen? ⟨gr, 0, none⟩ = false := blk_frozen HR.out 0
          have fz1 : w2.frozen? ⟨gr, 1, none⟩ = false := blk_frozen HR.out 1
          have fz2 : w2.frozen? ⟨gr, 2, none⟩ = false := blk_frozen HR.out 2
          have fz3 : w2.frozen? ⟨gr, 3, none⟩ = false := blk_frozen HR.out 3
          have fz4 : w2.frozen? ⟨gr, 4, none⟩ = false := blk_frozen HR.out 4
          have fz5 : w2.frozen? ⟨gr, 5, none⟩ = false := blk_frozen HR.out 5
          go_wp2
          have hf := fin_row HR.out Tp.nil
          have hbf := fin_below HGE.out HB.out Tp.nil
          dsimp only [rowc, Tp.nil] at hf hbf
          generalize hW9 : ((((((w2.setCell ⟨gr, 0, none⟩ (.string ⟨#[]⟩)).setCell ⟨gr, 1, none⟩ (.string ⟨#[]⟩)).setCell ⟨gr, 2, none⟩ (.string ⟨#[]⟩)).setCell ⟨gr, 3, none⟩ (.string ⟨#[]⟩)).setCell ⟨gr, 4, none⟩ (.string ⟨#[]⟩)).setCell ⟨gr, 5, none⟩ (.string ⟨#[]⟩)) = W9 at hf hbf ⊢
          clear hW9
          have d0 := (blk_cell hf 0).trans rfl
          have d1 := (blk_cell hf 1).trans rfl
          have d2 := (blk_cell hf 2).trans rfl
          have d3 := (blk_cell hf 3).trans rfl
          have d4 := (blk_cell hf 4).trans rfl
          have d5 := (blk_cell hf 5).trans rfl
          have he := HE.out
          subst he
          refine bodyPost_ret (v := .tuple #[tvv Tp.nil, .int .i64 i', .int .i64 5]) (by simp [results, Tryz.results30, go_sem, d0, d1, d2, d3, d4, d5, Tp.nil]) rfl ⟨rfl, hbf⟩
        | true =>
          have HE := Aside0.mk (show readK l 3 3 (i' + k) (setS t 2 (strOfNums bs)) = r from (readK_ok hT hS).symm.trans HKJ.out)
          have HSC := Aside0.mk hS
          clear hS
          have HTX := Aside0.mk hT
          clear hT
          go_wp2_with fail
          refine (read1_calls wr v l i' 64 (HV.out.below HB.out) HIJ.out.1 HIJ.out.2 HL.out HBY.out (by decide)).mono ?_
          rintro e_ w1 ⟨rfl, hb⟩
          rw [HTX.out]
          dsimp only [readE]
          have HB' := Aside0.mk (below_step HB.out hb)
          have HR' := Aside0.mk (blk_below HR.out hb)
          have HT' := Aside0.mk (blk_below HT.out hb)
          clear HR HT HB hb
          have HR := HR'
          have HT := HT'
          have HB := HB'
          clear HR' HT' HB'
          obtain ⟨s, hs⟩ : ∃ s, s = strOfNums bs := ⟨_, rfl⟩
          rw [← hs] at HSZ HSC ⊢
          rw [← hs] at HE
          clear hs
          go_wp2_with fail
          refine (is_calls s w1).mono ?_
          rintro e_ w2 ⟨rfl, hb⟩
          have HB' := Aside0.mk (below_step HB.out hb)
          have HR' := Aside0.mk (blk_below HR.out hb)
          have HT' := Aside0.mk (blk_below HT.out hb)
          clear HR HT HB hb
          have HR := HR'
          have HT := HT'
          have HB := HB'
          clear HR' HT' HB'
          rw [show isP s = true from HSC.out]
          have s1 : w2.cell? ⟨gt, 2, none⟩ = some (.string t.c) := (blk_cell HT.out 2).trans rfl
          have s2 : w2.frozen? ⟨gt, 2, none⟩ = false := blk_frozen HT.out 2
          have HT2 := Aside0.mk (show (w2.setCell ⟨gt, 2, none⟩ (.string s)).heap[gt]? = some (.cells (rowc (setS t 2 s)) 97 (0, 0)) from by have h := blk_set HT.out 2 (.string s); rw [row_set t 2 (by decide) s] at h; exact h)
          have HR2 := Aside0.mk (show (w2.setCell ⟨gt, 2, none⟩ (.string s)).heap[gr]? = some (.cells zc 32 (0, 0)) from blk_far HR.out HNE.out _)
          have HB2 := Aside0.mk (show Below w.heap.size w (w2.setCell ⟨gt, 2, none⟩ (.string s)) from HB.out.setCell (p := ⟨gt, 2, none⟩) HGT.out _)
          go_wp2
          go_roundg 3
          case measure => have := HJ.out; omega
          case rel => exact ⟨3, 3, i' + k, setS t 2 s, rfl, rfl, rfl, ⟨rfl⟩, HE, ⟨by have := HIJ.out; have := HKL.out; omega⟩, HR2, HT2, HB2⟩
    · obtain rfl : jj = 3 := by omega
      have HTXB := Aside0.mk (show ∀ x ∈ l.drop i'.toNat, 0 ≤ x ∧ x < 256 from fun x hx => HBY.out x (List.mem_of_mem_drop hx))
      clear hjj
      cases hT : txt (l.drop i'.toNat) 64 with
      | inl c =>
        have HE := Aside0.mk (show r = (Tp.nil, some c, i') from HKJ.out.symm.trans (readK_inl hT))
        have hc := txt_err hT
        have hc0 : (c != 0) = true := by rcases hc with rfl | rfl | rfl | rfl <;> rfl
        have hc1 : ¬ c = 0 := by omega
        clear hc
        have HTX := Aside0.mk hT
        clear hT
        go_wp2_with fail
        refine (read1_calls wr v l i' 64 (HV.out.below HB.out) HIJ.out.1 HIJ.out.2 HL.out HBY.out (by decide)).mono ?_
        rintro e_ w1 ⟨rfl, hb⟩
        rw [HTX.out]
        dsimp only [readE]
        have HB' := Aside0.mk (below_step HB.out hb)
        have HR' := Aside0.mk (blk_below HR.out hb)
        have HT' := Aside0.mk (blk_below HT.out hb)
        clear HR HT HB hb
        have HR := HR'
        have HT := HT'
        have HB := HB'
        clear HR' HT' HB'
        have z0 : w1.cell? ⟨gr, 0, none⟩ = some (.string ⟨#[]⟩) := (blk_cell HR.out 0).trans rfl
        have z1 : w1.cell? ⟨gr, 1, none⟩ = some (.string ⟨#[]⟩) := (blk_cell HR.out 1).trans rfl
        have z2 : w1.cell? ⟨gr, 2, none⟩ = some (.string ⟨#[]⟩) := (blk_cell HR.out 2).trans rfl
        have z3 : w1.cell? ⟨gr, 3, none⟩ = some (.string ⟨#[]⟩) := (blk_cell HR.out 3).trans rfl
        have z4 : w1.cell? ⟨gr, 4, none⟩ = some (.string ⟨#[]⟩) := (blk_cell HR.out 4).trans rfl
        have z5 : w1.cell? ⟨gr, 5, none⟩ = some (.string ⟨#[]⟩) := (blk_cell HR.out 5).trans rfl
        have fz0 : w1.frozen? ⟨gr, 0, none⟩ = false := blk_frozen HR.out 0
        have fz1 : w1.frozen? ⟨gr, 1, none⟩ = false := blk_frozen HR.out 1
        have fz2 : w1.frozen? ⟨gr, 2, none⟩ = false := blk_frozen HR.out 2
        have fz3 : w1.frozen? ⟨gr, 3, none⟩ = false := blk_frozen HR.out 3
        have fz4 : w1.frozen? ⟨gr, 4, none⟩ = false := blk_frozen HR.out 4
        have fz5 : w1.frozen? ⟨gr, 5, none⟩ = false := blk_frozen HR.out 5
        go_wp2
        have hf := fin_row HR.out Tp.nil
        have hbf := fin_below HGE.out HB.out Tp.nil
        dsimp only [rowc, Tp.nil] at hf hbf
        generalize hW9 : ((((((w1.setCell ⟨gr, 0, none⟩ (.string ⟨#[]⟩)).setCell ⟨gr, 1, none⟩ (.string ⟨#[]⟩)).setCell ⟨gr, 2, none⟩ (.string ⟨#[]⟩)).setCell ⟨gr, 3, none⟩ (.string ⟨#[]⟩)).setCell ⟨gr, 4, none⟩ (.string ⟨#[]⟩)).setCell ⟨gr, 5, none⟩ (.string ⟨#[]⟩)) = W9 at hf hbf ⊢
        clear hW9
        have d0 := (blk_cell hf 0).trans rfl
        have d1 := (blk_cell hf 1).trans rfl
        have d2 := (blk_cell hf 2).trans rfl
        have d3 := (blk_cell hf 3).trans rfl
        have d4 := (blk_cell hf 4).trans rfl
        have d5 := (blk_cell hf 5).trans rfl
        have he := HE.out
        subst he
        refine bodyPost_ret (v := .tuple #[tvv Tp.nil, .int .i64 i', .int .i64 c]) (by simp [results, Tryz.results30, go_sem, d0, d1, d2, d3, d4, d5, Tp.nil]) rfl ⟨rfl, hbf⟩
      | inr p =>
        obtain ⟨bs, k⟩ := p
        have HKL := Aside0.mk (show (k : Int) ≤ (l.length : Int) - i' ∧ (bs.length : Int) ≤ 1000000 from by have h1 := txt_size HTXB.out hT; rw [List.length_drop] at h1; have := HIJ.out; have := HL.out; omega)
        have HSZ := Aside0.mk (show (strOfNums bs).size ≤ 1000000 from by have := HKL.out.2; rw [strOfNums_size]; omega)
        cases hS : chkS 3 (strOfNums bs) with
        | false =>
          have HE := Aside0.mk (show r = (Tp.nil, some 5, i') from HKJ.out.symm.trans (readK_bad hT hS))
          have HSC := Aside0.mk hS
          clear hS
          have HTX := Aside0.mk hT
          clear hT
          go_wp2_with fail
          refine (read1_calls wr v l i' 64 (HV.out.below HB.out) HIJ.out.1 HIJ.out.2 HL.out HBY.out (by decide)).mono ?_
          rintro e_ w1 ⟨rfl, hb⟩
          rw [HTX.out]
          dsimp only [readE]
          have HB' := Aside0.mk (below_step HB.out hb)
          have HR' := Aside0.mk (blk_below HR.out hb)
          have HT' := Aside0.mk (blk_below HT.out hb)
          clear HR HT HB hb
          have HR := HR'
          have HT := HT'
          have HB := HB'
          clear HR' HT' HB'
          obtain ⟨s, hs⟩ : ∃ s, s = strOfNums bs := ⟨_, rfl⟩
          rw [← hs] at HSZ HSC ⊢
          clear hs
          go_wp2_with fail
          refine (is_calls s w1).mono ?_
          rintro e_ w2 ⟨rfl, hb⟩
          have HB' := Aside0.mk (below_step HB.out hb)
          have HR' := Aside0.mk (blk_below HR.out hb)
          have HT' := Aside0.mk (blk_below HT.out hb)
          clear HR HT HB hb
          have HR := HR'
          have HT := HT'
          have HB := HB'
          clear HR' HT' HB'
          rw [show isP s = false from HSC.out]
          have z0 : w2.cell? ⟨gr, 0, none⟩ = some (.string ⟨#[]⟩) := (blk_cell HR.out 0).trans rfl
          have z1 : w2.cell? ⟨gr, 1, none⟩ = some (.string ⟨#[]⟩) := (blk_cell HR.out 1).trans rfl
          have z2 : w2.cell? ⟨gr, 2, none⟩ = some (.string ⟨#[]⟩) := (blk_cell HR.out 2).trans rfl
          have z3 : w2.cell? ⟨gr, 3, none⟩ = some (.string ⟨#[]⟩) := (blk_cell HR.out 3).trans rfl
          have z4 : w2.cell? ⟨gr, 4, none⟩ = some (.string ⟨#[]⟩) := (blk_cell HR.out 4).trans rfl
          have z5 : w2.cell? ⟨gr, 5, none⟩ = some (.string ⟨#[]⟩) := (blk_cell HR.out 5).trans rfl
          have fz0 : w2.frozen? ⟨gr, 0, none⟩ = false := blk_frozen HR.out 0
          have fz1 : w2.frozen? ⟨gr, 1, none⟩ = false := blk_frozen HR.out 1
          have fz2 : w2.frozen? ⟨gr, 2, none⟩ = false := blk_frozen HR.out 2
          have fz3 : w2.frozen? ⟨gr, 3, none⟩ = false := blk_frozen HR.out 3
          have fz4 : w2.frozen? ⟨gr, 4, none⟩ = false := blk_frozen HR.out 4
          have fz5 : w2.frozen? ⟨gr, 5, none⟩ = false := blk_frozen HR.out 5
          go_wp2
          have hf := fin_row HR.out Tp.nil
          have hbf := fin_below HGE.out HB.out Tp.nil
          dsimp only [rowc, Tp.nil] at hf hbf
          generalize hW9 : ((((((w2.setCell ⟨gr, 0, none⟩ (.string ⟨#[]⟩)).setCell ⟨gr, 1, none⟩ (.string ⟨#[]⟩)).setCell ⟨gr, 2, none⟩ (.string ⟨#[]⟩)).setCell ⟨gr, 3, none⟩ (.string ⟨#[]⟩)).setCell ⟨gr, 4, none⟩ (.string ⟨#[]⟩)).setCell ⟨gr, 5, none⟩ (.string ⟨#[]⟩)) = W9 at hf hbf ⊢
          clear hW9
          have d0 := (blk_cell hf 0).trans rfl
          have d1 := (blk_cell hf 1).trans rfl
          have d2 := (blk_cell hf 2).trans rfl
          have d3 := (blk_cell hf 3).trans rfl
          have d4 := (blk_cell hf 4).trans rfl
          have d5 := (blk_cell hf 5).trans rfl
          have he := HE.out
          subst he
          refine bodyPost_ret (v := .tuple #[tvv Tp.nil, .int .i64 i', .int .i64 5]) (by simp [results, Tryz.results30, go_sem, d0, d1, d2, d3, d4, d5, Tp.nil]) rfl ⟨rfl, hbf⟩
        | true =>
          have HE := Aside0.mk (show readK l 2 4 (i' + k) (setS t 3 (strOfNums bs)) = r from (readK_ok hT hS).symm.trans HKJ.out)
          have HSC := Aside0.mk hS
          clear hS
          have HTX := Aside0.mk hT
          clear hT
          go_wp2_with fail
          refine (read1_calls wr v l i' 64 (HV.out.below HB.out) HIJ.out.1 HIJ.out.2 HL.out HBY.out (by decide)).mono ?_
          rintro e_ w1 ⟨rfl, hb⟩
          rw [HTX.out]
          dsimp only [readE]
          have HB' := Aside0.mk (below_step HB.out hb)
          have HR' := Aside0.mk (blk_below HR.out hb)
          have HT' := Aside0.mk (blk_below HT.out hb)
          clear HR HT HB hb
          have HR := HR'
          have HT := HT'
          have HB := HB'
          clear HR' HT' HB'
          obtain ⟨s, hs⟩ : ∃ s, s = strOfNums bs := ⟨_, rfl⟩
          rw [← hs] at HSZ HSC ⊢
          rw [← hs] at HE
          clear hs
          go_wp2_with fail
          refine (is_calls s w1).mono ?_
          rintro e_ w2 ⟨rfl, hb⟩
          have HB' := Aside0.mk (below_step HB.out hb)
          have HR' := Aside0.mk (blk_below HR.out hb)
          have HT' := Aside0.mk (blk_below HT.out hb)
          clear HR HT HB hb
          have HR := HR'
          have HT := HT'
          have HB := HB'
          clear HR' HT' HB'
          rw [show isP s = true from HSC.out]
          have s1 : w2.cell? ⟨gt, 3, none⟩ = some (.string t.d) := (blk_cell HT.out 3).trans rfl
          have s2 : w2.frozen? ⟨gt, 3, none⟩ = false := blk_frozen HT.out 3
          have HT2 := Aside0.mk (show (w2.setCell ⟨gt, 3, none⟩ (.string s)).heap[gt]? = some (.cells (rowc (setS t 3 s)) 97 (0, 0)) from by have h := blk_set HT.out 3 (.string s); rw [row_set t 3 (by decide) s] at h; exact h)
          have HR2 := Aside0.mk (show (w2.setCell ⟨gt, 3, none⟩ (.string s)).heap[gr]? = some (.cells zc 32 (0, 0)) from blk_far HR.out HNE.out _)
          have HB2 := Aside0.mk (show Below w.heap.size w (w2.setCell ⟨gt, 3, none⟩ (.string s)) from HB.out.setCell (p := ⟨gt, 3, none⟩) HGT.out _)
          go_wp2
          go_roundg 2
          case measure => have := HJ.out; omega
          case rel => exact ⟨4, 4, i' + k, setS t 3 s, rfl, rfl, rfl, ⟨rfl⟩, HE, ⟨by have := HIJ.out; have := HKL.out; omega⟩, HR2, HT2, HB2⟩
    · obtain rfl : jj = 4 := by omega
      have HTXB := Aside0.mk (show ∀ x ∈ l.drop i'.toNat, 0 ≤ x ∧ x < 256 from fun x hx => HBY.out x (List.mem_of_mem_drop hx))
      clear hjj
      cases hT : txt (l.drop i'.toNat) 128 with
      | inl c =>
        have HE := Aside0.mk (show r = (Tp.nil, some c, i') from HKJ.out.symm.trans (readK_inl hT))
        have hc := txt_err hT
        have hc0 : (c != 0) = true := by rcases hc with rfl | rfl | rfl | rfl <;> rfl
        have hc1 : ¬ c = 0 := by omega
        clear hc
        have HTX := Aside0.mk hT
        clear hT
        go_wp2_with fail
        refine (read1_calls wr v l i' 128 (HV.out.below HB.out) HIJ.out.1 HIJ.out.2 HL.out HBY.out (by decide)).mono ?_
        rintro e_ w1 ⟨rfl, hb⟩
        rw [HTX.out]
        dsimp only [readE]
        have HB' := Aside0.mk (below_step HB.out hb)
        have HR' := Aside0.mk (blk_below HR.out hb)
        have HT' := Aside0.mk (blk_below HT.out hb)
        clear HR HT HB hb
        have HR := HR'
        have HT := HT'
        have HB := HB'
        clear HR' HT' HB'
        have z0 : w1.cell? ⟨gr, 0, none⟩ = some (.string ⟨#[]⟩) := (blk_cell HR.out 0).trans rfl
        have z1 : w1.cell? ⟨gr, 1, none⟩ = some (.string ⟨#[]⟩) := (blk_cell HR.out 1).trans rfl
        have z2 : w1.cell? ⟨gr, 2, none⟩ = some (.string ⟨#[]⟩) := (blk_cell HR.out 2).trans rfl
        have z3 : w1.cell? ⟨gr, 3, none⟩ = some (.string ⟨#[]⟩) := (blk_cell HR.out 3).trans rfl
        have z4 : w1.cell? ⟨gr, 4, none⟩ = some (.string ⟨#[]⟩) := (blk_cell HR.out 4).trans rfl
        have z5 : w1.cell? ⟨gr, 5, none⟩ = some (.string ⟨#[]⟩) := (blk_cell HR.out 5).trans rfl
        have fz0 : w1.frozen? ⟨gr, 0, none⟩ = false := blk_frozen HR.out 0
        have fz1 : w1.frozen? ⟨gr, 1, none⟩ = false := blk_frozen HR.out 1
        have fz2 : w1.frozen? ⟨gr, 2, none⟩ = false := blk_frozen HR.out 2
        have fz3 : w1.frozen? ⟨gr, 3, none⟩ = false := blk_frozen HR.out 3
        have fz4 : w1.frozen? ⟨gr, 4, none⟩ = false := blk_frozen HR.out 4
        have fz5 : w1.frozen? ⟨gr, 5, none⟩ = false := blk_frozen HR.out 5
        go_wp2
        have hf := fin_row HR.out Tp.nil
        have hbf := fin_below HGE.out HB.out Tp.nil
        dsimp only [rowc, Tp.nil] at hf hbf
        generalize hW9 : ((((((w1.setCell ⟨gr, 0, none⟩ (.string ⟨#[]⟩)).setCell ⟨gr, 1, none⟩ (.string ⟨#[]⟩)).setCell ⟨gr, 2, none⟩ (.string ⟨#[]⟩)).setCell ⟨gr, 3, none⟩ (.string ⟨#[]⟩)).setCell ⟨gr, 4, none⟩ (.string ⟨#[]⟩)).setCell ⟨gr, 5, none⟩ (.string ⟨#[]⟩)) = W9 at hf hbf ⊢
        clear hW9
        have d0 := (blk_cell hf 0).trans rfl
        have d1 := (blk_cell hf 1).trans rfl
        have d2 := (blk_cell hf 2).trans rfl
        have d3 := (blk_cell hf 3).trans rfl
        have d4 := (blk_cell hf 4).trans rfl
        have d5 := (blk_cell hf 5).trans rfl
        have he := HE.out
        subst he
        refine bodyPost_ret (v := .tuple #[tvv Tp.nil, .int .i64 i', .int .i64 c]) (by simp [results, Tryz.results30, go_sem, d0, d1, d2, d3, d4, d5, Tp.nil]) rfl ⟨rfl, hbf⟩
      | inr p =>
        obtain ⟨bs, k⟩ := p
        have HKL := Aside0.mk (show (k : Int) ≤ (l.length : Int) - i' ∧ (bs.length : Int) ≤ 1000000 from by have h1 := txt_size HTXB.out hT; rw [List.length_drop] at h1; have := HIJ.out; have := HL.out; omega)
        have HSZ := Aside0.mk (show (strOfNums bs).size ≤ 1000000 from by have := HKL.out.2; rw [strOfNums_size]; omega)
        cases hS : chkS 4 (strOfNums bs) with
        | false =>
          have HE := Aside0.mk (show r = (Tp.nil, some 5, i') from HKJ.out.symm.trans (readK_bad hT hS))
          have HSC := Aside0.mk hS
          clear hS
          have HTX := Aside0.mk hT
          clear hT
          go_wp2_with fail
          refine (read1_calls wr v l i' 128 (HV.out.below HB.out) HIJ.out.1 HIJ.out.2 HL.out HBY.out (by decide)).mono ?_
          rintro e_ w1 ⟨rfl, hb⟩
          rw [HTX.out]
          dsimp only [readE]
          have HB' := Aside0.mk (below_step HB.out hb)
          have HR' := Aside0.mk (blk_below HR.out hb)
          have HT' := Aside0.mk (blk_below HT.out hb)
          clear HR HT HB hb
          have HR := HR'
          have HT := HT'
          have HB := HB'
          clear HR' HT' HB'
          obtain ⟨s, hs⟩ : ∃ s, s = strOfNums bs := ⟨_, rfl⟩
          rw [← hs] at HSZ HSC ⊢
          clear hs
          go_wp2_with fail
          refine (is_calls s w1).mono ?_
          rintro e_ w2 ⟨rfl, hb⟩
          have HB' := Aside0.mk (below_step HB.out hb)
          have HR' := Aside0.mk (blk_below HR.out hb)
          have HT' := Aside0.mk (blk_below HT.out hb)
          clear HR HT HB hb
          have HR := HR'
          have HT := HT'
          have HB := HB'
          clear HR' HT' HB'
          go_wp2_with fail
          refine (isid_calls s w2 (by have := HSZ.out; omega)).mono ?_
          rintro e_ w3 ⟨rfl, hb⟩
          rw [show idP s = false from HSC.out]
          have HB' := Aside0.mk (below_step HB.out hb)
          have HR' := Aside0.mk (blk_below HR.out hb)
          have HT' := Aside0.mk (blk_below HT.out hb)
          clear HR HT HB hb
          have HR := HR'
          have HT := HT'
          have HB := HB'
          clear HR' HT' HB'
          have z0 : w3.cell? ⟨gr, 0, none⟩ = some (.string ⟨#[]⟩) := (blk_cell HR.out 0).trans rfl
          have z1 : w3.cell? ⟨gr, 1, none⟩ = some (.string ⟨#[]⟩) := (blk_cell HR.out 1).trans rfl
          have z2 : w3.cell? ⟨gr, 2, none⟩ = some (.string ⟨#[]⟩) := (blk_cell HR.out 2).trans rfl
          have z3 : w3.cell? ⟨gr, 3, none⟩ = some (.string ⟨#[]⟩) := (blk_cell HR.out 3).trans rfl
          have z4 : w3.cell? ⟨gr, 4, none⟩ = some (.string ⟨#[]⟩) := (blk_cell HR.out 4).trans rfl
          have z5 : w3.cell? ⟨gr, 5, none⟩ = some (.string ⟨#[]⟩) := (blk_cell HR.out 5).trans rfl
          have fz0 : w3.frozen? ⟨gr, 0, none⟩ = false := blk_frozen HR.out 0
          have fz1 : w3.frozen? ⟨gr, 1, none⟩ = false := blk_frozen HR.out 1
          have fz2 : w3.frozen? ⟨gr, 2, none⟩ = false := blk_frozen HR.out 2
          have fz3 : w3.frozen? ⟨gr, 3, none⟩ = false := blk_frozen HR.out 3
          have fz4 : w3.frozen? ⟨gr, 4, none⟩ = false := blk_frozen HR.out 4
          have fz5 : w3.frozen? ⟨gr, 5, none⟩ = false := blk_frozen HR.out 5
          go_wp2
          have hf := fin_row HR.out Tp.nil
          have hbf := fin_below HGE.out HB.out Tp.nil
          dsimp only [rowc, Tp.nil] at hf hbf
          generalize hW9 : ((((((w3.setCell ⟨gr, 0, none⟩ (.string ⟨#[]⟩)).setCell ⟨gr, 1, none⟩ (.string ⟨#[]⟩)).setCell ⟨gr, 2, none⟩ (.string ⟨#[]⟩)).setCell ⟨gr, 3, none⟩ (.string ⟨#[]⟩)).setCell ⟨gr, 4, none⟩ (.string ⟨#[]⟩)).setCell ⟨gr, 5, none⟩ (.string ⟨#[]⟩)) = W9 at hf hbf ⊢
          clear hW9
          have d0 := (blk_cell hf 0).trans rfl
          have d1 := (blk_cell hf 1).trans rfl
          have d2 := (blk_cell hf 2).trans rfl
          have d3 := (blk_cell hf 3).trans rfl
          have d4 := (blk_cell hf 4).trans rfl
          have d5 := (blk_cell hf 5).trans rfl
          have he := HE.out
          subst he
          refine bodyPost_ret (v := .tuple #[tvv Tp.nil, .int .i64 i', .int .i64 5]) (by simp [results, Tryz.results30, go_sem, d0, d1, d2, d3, d4, d5, Tp.nil]) rfl ⟨rfl, hbf⟩
        | true =>
          have HE := Aside0.mk (show readK l 1 5 (i' + k) (setS t 4 (strOfNums bs)) = r from (readK_ok hT hS).symm.trans HKJ.out)
          have HSC := Aside0.mk hS
          clear hS
          have HTX := Aside0.mk hT
          clear hT
          go_wp2_with fail
          refine (read1_calls wr v l i' 128 (HV.out.below HB.out) HIJ.out.1 HIJ.out.2 HL.out HBY.out (by decide)).mono ?_
          rintro e_ w1 ⟨rfl, hb⟩
          rw [HTX.out]
          dsimp only [readE]
          have HB' := Aside0.mk (below_step HB.out hb)
          have HR' := Aside0.mk (blk_below HR.out hb)
          have HT' := Aside0.mk (blk_below HT.out hb)
          clear HR HT HB hb
          have HR := HR'
          have HT := HT'
          have HB := HB'
          clear HR' HT' HB'
          obtain ⟨s, hs⟩ : ∃ s, s = strOfNums bs := ⟨_, rfl⟩
          rw [← hs] at HSZ HSC ⊢
          rw [← hs] at HE
          clear hs
          go_wp2_with fail
          refine (is_calls s w1).mono ?_
          rintro e_ w2 ⟨rfl, hb⟩
          have HB' := Aside0.mk (below_step HB.out hb)
          have HR' := Aside0.mk (blk_below HR.out hb)
          have HT' := Aside0.mk (blk_below HT.out hb)
          clear HR HT HB hb
          have HR := HR'
          have HT := HT'
          have HB := HB'
          clear HR' HT' HB'
          go_wp2_with fail
          refine (isid_calls s w2 (by have := HSZ.out; omega)).mono ?_
          rintro e_ w3 ⟨rfl, hb⟩
          rw [show idP s = true from HSC.out]
          have HB' := Aside0.mk (below_step HB.out hb)
          have HR' := Aside0.mk (blk_below HR.out hb)
          have HT' := Aside0.mk (blk_below HT.out hb)
          clear HR HT HB hb
          have HR := HR'
          have HT := HT'
          have HB := HB'
          clear HR' HT' HB'
          have s1 : w3.cell? ⟨gt, 4, none⟩ = some (.string t.e) := (blk_cell HT.out 4).trans rfl
          have s2 : w3.frozen? ⟨gt, 4, none⟩ = false := blk_frozen HT.out 4
          have HT2 := Aside0.mk (show (w3.setCell ⟨gt, 4, none⟩ (.string s)).heap[gt]? = some (.cells (rowc (setS t 4 s)) 97 (0, 0)) from by have h := blk_set HT.out 4 (.string s); rw [row_set t 4 (by decide) s] at h; exact h)
          have HR2 := Aside0.mk (show (w3.setCell ⟨gt, 4, none⟩ (.string s)).heap[gr]? = some (.cells zc 32 (0, 0)) from blk_far HR.out HNE.out _)
          have HB2 := Aside0.mk (show Below w.heap.size w (w3.setCell ⟨gt, 4, none⟩ (.string s)) from HB.out.setCell (p := ⟨gt, 4, none⟩) HGT.out _)
          go_wp2
          go_roundg 1
          case measure => have := HJ.out; omega
          case rel => exact ⟨5, 5, i' + k, setS t 4 s, rfl, rfl, rfl, ⟨rfl⟩, HE, ⟨by have := HIJ.out; have := HKL.out; omega⟩, HR2, HT2, HB2⟩
    · obtain rfl : jj = 5 := by omega
      have HTXB := Aside0.mk (show ∀ x ∈ l.drop i'.toNat, 0 ≤ x ∧ x < 256 from fun x hx => HBY.out x (List.mem_of_mem_drop hx))
      clear hjj
      cases hT : txt (l.drop i'.toNat) 64 with
      | inl c =>
        have HE := Aside0.mk (show r = (Tp.nil, some c, i') from HKJ.out.symm.trans (readK_inl hT))
        have hc := txt_err hT
        have hc0 : (c != 0) = true := by rcases hc with rfl | rfl | rfl | rfl <;> rfl
        have hc1 : ¬ c = 0 := by omega
        clear hc
        have HTX := Aside0.mk hT
        clear hT
        go_wp2_with fail
        refine (read1_calls wr v l i' 64 (HV.out.below HB.out) HIJ.out.1 HIJ.out.2 HL.out HBY.out (by decide)).mono ?_
        rintro e_ w1 ⟨rfl, hb⟩
        rw [HTX.out]
        dsimp only [readE]
        have HB' := Aside0.mk (below_step HB.out hb)
        have HR' := Aside0.mk (blk_below HR.out hb)
        have HT' := Aside0.mk (blk_below HT.out hb)
        clear HR HT HB hb
        have HR := HR'
        have HT := HT'
        have HB := HB'
        clear HR' HT' HB'
        have z0 : w1.cell? ⟨gr, 0, none⟩ = some (.string ⟨#[]⟩) := (blk_cell HR.out 0).trans rfl
        have z1 : w1.cell? ⟨gr, 1, none⟩ = some (.string ⟨#[]⟩) := (blk_cell HR.out 1).trans rfl
        have z2 : w1.cell? ⟨gr, 2, none⟩ = some (.string ⟨#[]⟩) := (blk_cell HR.out 2).trans rfl
        have z3 : w1.cell? ⟨gr, 3, none⟩ = some (.string ⟨#[]⟩) := (blk_cell HR.out 3).trans rfl
        have z4 : w1.cell? ⟨gr, 4, none⟩ = some (.string ⟨#[]⟩) := (blk_cell HR.out 4).trans rfl
        have z5 : w1.cell? ⟨gr, 5, none⟩ = some (.string ⟨#[]⟩) := (blk_cell HR.out 5).trans rfl
        have fz0 : w1.frozen? ⟨gr, 0, none⟩ = false := blk_frozen HR.out 0
        have fz1 : w1.frozen? ⟨gr, 1, none⟩ = false := blk_frozen HR.out 1
        have fz2 : w1.frozen? ⟨gr, 2, none⟩ = false := blk_frozen HR.out 2
        have fz3 : w1.frozen? ⟨gr, 3, none⟩ = false := blk_frozen HR.out 3
        have fz4 : w1.frozen? ⟨gr, 4, none⟩ = false := blk_frozen HR.out 4
        have fz5 : w1.frozen? ⟨gr, 5, none⟩ = false := blk_frozen HR.out 5
        go_wp2
        have hf := fin_row HR.out Tp.nil
        have hbf := fin_below HGE.out HB.out Tp.nil
        dsimp only [rowc, Tp.nil] at hf hbf
        generalize hW9 : ((((((w1.setCell ⟨gr, 0, none⟩ (.string ⟨#[]⟩)).setCell ⟨gr, 1, none⟩ (.string ⟨#[]⟩)).setCell ⟨gr, 2, none⟩ (.string ⟨#[]⟩)).setCell ⟨gr, 3, none⟩ (.string ⟨#[]⟩)).setCell ⟨gr, 4, none⟩ (.string ⟨#[]⟩)).setCell ⟨gr, 5, none⟩ (.string ⟨#[]⟩)) = W9 at hf hbf ⊢
        clear hW9
        have d0 := (blk_cell hf 0).trans rfl
        have d1 := (blk_cell hf 1).trans rfl
        have d2 := (blk_cell hf 2).trans rfl
        have d3 := (blk_cell hf 3).trans rfl
        have d4 := (blk_cell hf 4).trans rfl
        have d5 := (blk_cell hf 5).trans rfl
        have he := HE.out
        subst he
        refine bodyPost_ret (v := .tuple #[tvv Tp.nil, .int .i64 i', .int .i64 c]) (by simp [results, Tryz.results30, go_sem, d0, d1, d2, d3, d4, d5, Tp.nil]) rfl ⟨rfl, hbf⟩
      | inr p =>
        obtain ⟨bs, k⟩ := p
        have HKL := Aside0.mk (show (k : Int) ≤ (l.length : Int) - i' ∧ (bs.length : Int) ≤ 1000000 from by have h1 := txt_size HTXB.out hT; rw [List.length_drop] at h1; have := HIJ.out; have := HL.out; omega)
        have HSZ := Aside0.mk (show (strOfNums bs).size ≤ 1000000 from by have := HKL.out.2; rw [strOfNums_size]; omega)
        cases hS : chkS 5 (strOfNums bs) with
        | false =>
          have HE := Aside0.mk (show r = (Tp.nil, some 5, i') from HKJ.out.symm.trans (readK_bad hT hS))
          have HSC := Aside0.mk hS
          clear hS
          have HTX := Aside0.mk hT
          clear hT
          go_wp2_with fail
          refine (read1_calls wr v l i' 64 (HV.out.below HB.out) HIJ.out.1 HIJ.out.2 HL.out HBY.out (by decide)).mono ?_
          rintro e_ w1 ⟨rfl, hb⟩
          rw [HTX.out]
          dsimp only [readE]
          have HB' := Aside0.mk (below_step HB.out hb)
          have HR' := Aside0.mk (blk_below HR.out hb)
          have HT' := Aside0.mk (blk_below HT.out hb)
          clear HR HT HB hb
          have HR := HR'
          have HT := HT'
          have HB := HB'
          clear HR' HT' HB'
          obtain ⟨s, hs⟩ : ∃ s, s = strOfNums bs := ⟨_, rfl⟩
          rw [← hs] at HSZ HSC ⊢
          clear hs
          go_wp2_with fail
          refine (is_calls s w1).mono ?_
          rintro e_ w2 ⟨rfl, hb⟩
          have HB' := Aside0.mk (below_step HB.out hb)
          have HR' := Aside0.mk (blk_below HR.out hb)
          have HT' := Aside0.mk (blk_below HT.out hb)
          clear HR HT HB hb
          have HR := HR'
          have HT := HT'
          have HB := HB'
          clear HR' HT' HB'
          have h9 : isP s = false ∧ ¬ s.size = 0 := by have := HSC.out; simpa [chkS, optP, and_comm] using this
          rw [h9.1]
          have h8 : (s.toList == (#[] : Array UInt8).toList) = false := by
            cases hb : s.toList == (#[] : Array UInt8).toList with
            | false => rfl
            | true => exact absurd ((empty_list s).1 (beq_iff_eq.1 hb)) h9.2
          have h7 : ¬ s.toList = [] := fun e => h9.2 ((empty_list s).1 e)
          clear h9
          have z0 : w2.cell? ⟨gr, 0, none⟩ = some (.string ⟨#[]⟩) := (blk_cell HR.out 0).trans rfl
          have z1 : w2.cell? ⟨gr, 1, none⟩ = some (.string ⟨#[]⟩) := (blk_cell HR.out 1).trans rfl
          have z2 : w2.cell? ⟨gr, 2, none⟩ = some (.string ⟨#[]⟩) := (blk_cell HR.out 2).trans rfl
          have z3 : w2.cell? ⟨gr, 3, none⟩ = some (.string ⟨#[]⟩) := (blk_cell HR.out 3).trans rfl
          have z4 : w2.cell? ⟨gr, 4, none⟩ = some (.string ⟨#[]⟩) := (blk_cell HR.out 4).trans rfl
          have z5 : w2.cell? ⟨gr, 5, none⟩ = some (.string ⟨#[]⟩) := (blk_cell HR.out 5).trans rfl
          have fz0 : w2.frozen? ⟨gr, 0, none⟩ = false := blk_frozen HR.out 0
          have fz1 : w2.frozen? ⟨gr, 1, none⟩ = false := blk_frozen HR.out 1
          have fz2 : w2.frozen? ⟨gr, 2, none⟩ = false := blk_frozen HR.out 2
          have fz3 : w2.frozen? ⟨gr, 3, none⟩ = false := blk_frozen HR.out 3
          have fz4 : w2.frozen? ⟨gr, 4, none⟩ = false := blk_frozen HR.out 4
          have fz5 : w2.frozen? ⟨gr, 5, none⟩ = false := blk_frozen HR.out 5
          go_wp2
          have hf := fin_row HR.out Tp.nil
          have hbf := fin_below HGE.out HB.out Tp.nil
          dsimp only [rowc, Tp.nil] at hf hbf
          generalize hW9 : ((((((w2.setCell ⟨gr, 0, none⟩ (.string ⟨#[]⟩)).setCell ⟨gr, 1, none⟩ (.string ⟨#[]⟩)).setCell ⟨gr, 2, none⟩ (.string ⟨#[]⟩)).setCell ⟨gr, 3, none⟩ (.string ⟨#[]⟩)).setCell ⟨gr, 4, none⟩ (.string ⟨#[]⟩)).setCell ⟨gr, 5, none⟩ (.string ⟨#[]⟩)) = W9 at hf hbf ⊢
          clear hW9
          have d0 := (blk_cell hf 0).trans rfl
          have d1 := (blk_cell hf 1).trans rfl
          have d2 := (blk_cell hf 2).trans rfl
          have d3 := (blk_cell hf 3).trans rfl
          have d4 := (blk_cell hf 4).trans rfl
          have d5 := (blk_cell hf 5).trans rfl
          have he := HE.out
          subst he
          refine bodyPost_ret (v := .tuple #[tvv Tp.nil, .int .i64 i', .int .i64 5]) (by simp [results, Tryz.results30, go_sem, d0, d1, d2, d3, d4, d5, Tp.nil]) rfl ⟨rfl, hbf⟩
        | true =>
          have HE := Aside0.mk (show readK l 0 6 (i' + k) (setS t 5 (strOfNums bs)) = r from (readK_ok hT hS).symm.trans HKJ.out)
          have HSC := Aside0.mk hS
          clear hS
          have HTX := Aside0.mk hT
          clear hT
          go_wp2_with fail
          refine (read1_calls wr v l i' 64 (HV.out.below HB.out) HIJ.out.1 HIJ.out.2 HL.out HBY.out (by decide)).mono ?_
          rintro e_ w1 ⟨rfl, hb⟩
          rw [HTX.out]
          dsimp only [readE]
          have HB' := Aside0.mk (below_step HB.out hb)
          have HR' := Aside0.mk (blk_below HR.out hb)
          have HT' := Aside0.mk (blk_below HT.out hb)
          clear HR HT HB hb
          have HR := HR'
          have HT := HT'
          have HB := HB'
          clear HR' HT' HB'
          obtain ⟨s, hs⟩ : ∃ s, s = strOfNums bs := ⟨_, rfl⟩
          rw [← hs] at HSZ HSC ⊢
          rw [← hs] at HE
          clear hs
          go_wp2_with fail
          refine (is_calls s w1).mono ?_
          rintro e_ w2 ⟨rfl, hb⟩
          have HB' := Aside0.mk (below_step HB.out hb)
          have HR' := Aside0.mk (blk_below HR.out hb)
          have HT' := Aside0.mk (blk_below HT.out hb)
          clear HR HT HB hb
          have HR := HR'
          have HT := HT'
          have HB := HB'
          clear HR' HT' HB'
          have h9 : s.size = 0 ∨ isP s = true := by have := HSC.out; simpa [chkS, optP] using this
          cases hi : isP s with
          | true =>
            have s1 : w2.cell? ⟨gt, 5, none⟩ = some (.string t.f) := (blk_cell HT.out 5).trans rfl
            have s2 : w2.frozen? ⟨gt, 5, none⟩ = false := blk_frozen HT.out 5
            have HT2 := Aside0.mk (show (w2.setCell ⟨gt, 5, none⟩ (.string s)).heap[gt]? = some (.cells (rowc (setS t 5 s)) 97 (0, 0)) from by have h := blk_set HT.out 5 (.string s); rw [row_set t 5 (by decide) s] at h; exact h)
            have HR2 := Aside0.mk (show (w2.setCell ⟨gt, 5, none⟩ (.string s)).heap[gr]? = some (.cells zc 32 (0, 0)) from blk_far HR.out HNE.out _)
            have HB2 := Aside0.mk (show Below w.heap.size w (w2.setCell ⟨gt, 5, none⟩ (.string s)) from HB.out.setCell (p := ⟨gt, 5, none⟩) HGT.out _)
            go_wp2
            go_roundg 0
            case measure => have := HJ.out; omega
            case rel => exact ⟨6, 6, i' + k, setS t 5 s, rfl, rfl, rfl, ⟨rfl⟩, HE, ⟨by have := HIJ.out; have := HKL.out; omega⟩, HR2, HT2, HB2⟩
          | false =>
            have h8 : (s.toList == (#[] : Array UInt8).toList) = true := beq_iff_eq.2 ((empty_list s).2 (h9.resolve_right (by rw [hi]; simp)))
            have h7 : s.toList = [] := (empty_list s).2 (h9.resolve_right (by rw [hi]; simp))
            clear h9 hi
            have s1 : w2.cell? ⟨gt, 5, none⟩ = some (.string t.f) := (blk_cell HT.out 5).trans rfl
            have s2 : w2.frozen? ⟨gt, 5, none⟩ = false := blk_frozen HT.out 5
            have HT2 := Aside0.mk (show (w2.setCell ⟨gt, 5, none⟩ (.string s)).heap[gt]? = some (.cells (rowc (setS t 5 s)) 97 (0, 0)) from by have h := blk_set HT.out 5 (.string s); rw [row_set t 5 (by decide) s] at h; exact h)
            have HR2 := Aside0.mk (show (w2.setCell ⟨gt, 5, none⟩ (.string s)).heap[gr]? = some (.cells zc 32 (0, 0)) from blk_far HR.out HNE.out _)
            have HB2 := Aside0.mk (show Below w.heap.size w (w2.setCell ⟨gt, 5, none⟩ (.string s)) from HB.out.setCell (p := ⟨gt, 5, none⟩) HGT.out _)
            go_wp2
            go_roundg 0
            case measure => have := HJ.out; omega
            case rel => exact ⟨6, 6, i' + k, setS t 5 s, rfl, rfl, rfl, ⟨rfl⟩, HE, ⟨by have := HIJ.out; have := HKL.out; omega⟩, HR2, HT2, HB2⟩
    · obtain rfl : jj = 6 := by omega
      have HE := Aside0.mk (show r = (t, none, i') from HKJ.out.symm)
      clear HKJ hjj
      have t0 : wr.cell? ⟨gt, 0, none⟩ = some (.string t.a) := (blk_cell HT.out 0).trans rfl
      have t1 : wr.cell? ⟨gt, 1, none⟩ = some (.string t.b) := (blk_cell HT.out 1).trans rfl
      have t2 : wr.cell? ⟨gt, 2, none⟩ = some (.string t.c) := (blk_cell HT.out 2).trans rfl
      have t3 : wr.cell? ⟨gt, 3, none⟩ = some (.string t.d) := (blk_cell HT.out 3).trans rfl
      have t4 : wr.cell? ⟨gt, 4, none⟩ = some (.string t.e) := (blk_cell HT.out 4).trans rfl
      have t5 : wr.cell? ⟨gt, 5, none⟩ = some (.string t.f) := (blk_cell HT.out 5).trans rfl
      have z0 : wr.cell? ⟨gr, 0, none⟩ = some (.string ⟨#[]⟩) := (blk_cell HR.out 0).trans rfl
      have z1 : wr.cell? ⟨gr, 1, none⟩ = some (.string ⟨#[]⟩) := (blk_cell HR.out 1).trans rfl
      have z2 : wr.cell? ⟨gr, 2, none⟩ = some (.string ⟨#[]⟩) := (blk_cell HR.out 2).trans rfl
      have z3 : wr.cell? ⟨gr, 3, none⟩ = some (.string ⟨#[]⟩) := (blk_cell HR.out 3).trans rfl
      have z4 : wr.cell? ⟨gr, 4, none⟩ = some (.string ⟨#[]⟩) := (blk_cell HR.out 4).trans rfl
      have z5 : wr.cell? ⟨gr, 5, none⟩ = some (.string ⟨#[]⟩) := (blk_cell HR.out 5).trans rfl
      have fz0 : wr.frozen? ⟨gr, 0, none⟩ = false := blk_frozen HR.out 0
      have fz1 : wr.frozen? ⟨gr, 1, none⟩ = false := blk_frozen HR.out 1
      have fz2 : wr.frozen? ⟨gr, 2, none⟩ = false := blk_frozen HR.out 2
      have fz3 : wr.frozen? ⟨gr, 3, none⟩ = false := blk_frozen HR.out 3
      have fz4 : wr.frozen? ⟨gr, 4, none⟩ = false := blk_frozen HR.out 4
      have fz5 : wr.frozen? ⟨gr, 5, none⟩ = false := blk_frozen HR.out 5
      go_wp2
      have hf := fin_row HR.out t
      have hbf := fin_below HGE.out HB.out t
      dsimp only [rowc] at hf hbf
      generalize hW9 : ((((((wr.setCell ⟨gr, 0, none⟩ (.string t.a)).setCell ⟨gr, 1, none⟩ (.string t.b)).setCell ⟨gr, 2, none⟩ (.string t.c)).setCell ⟨gr, 3, none⟩ (.string t.d)).setCell ⟨gr, 4, none⟩ (.string t.e)).setCell ⟨gr, 5, none⟩ (.string t.f)) = W9 at hf hbf ⊢
      clear hW9
      have d0 := (blk_cell hf 0).trans rfl
      have d1 := (blk_cell hf 1).trans rfl
      have d2 := (blk_cell hf 2).trans rfl
      have d3 := (blk_cell hf 3).trans rfl
      have d4 := (blk_cell hf 4).trans rfl
      have d5 := (blk_cell hf 5).trans rfl
      have he := HE.out
      subst he
      refine bodyPost_ret (v := .tuple #[tvv t, .int .i64 i', .int .i64 0]) (by simp [results, Tryz.results30, go_sem, d0, d1, d2, d3, d4, d5]) rfl ⟨rfl, hbf⟩
end Go.Proofs.YtlbbhgmpiednfaaGreatDoor.HTupRr
