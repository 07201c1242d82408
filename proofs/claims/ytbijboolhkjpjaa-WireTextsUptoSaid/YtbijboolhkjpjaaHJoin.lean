/- slices.Concat and what is built on it: the parts, one behind the other. -/
import Derived.Test.YtbijboolhkjpjaaHPut
import Derived.Test.YtbijboolhkjpjaaWZeros
namespace Go.Proofs.Ytbijboolhkjpjaa.HJoin
open Go.RowKit Go.Proofs.YtbijboolhkjpjaaW.PrintWords Go.Proofs.Ytbijboolhkjpjaa.HLib Go.Proofs.Ytbijboolhkjpjaa.HWireS Go.Proofs.Ytbijboolhkjpjaa.HWire Go.Proofs.Ytbijboolhkjpjaa.HPut
set_option linter.unusedVariables false
set_option linter.unusedSimpArgs false

/-- Lists of bytes that are read. -/
def KB : Kd (List Int) := Kd.slice 5 (Kd.int .u8)
/-- The i-th list. -/
def el (xs : List (List Int)) (i : Int) : List Int := xs.getD i.toNat []
theorem at_bytes {w : World} {A : Option Addr} {n : Nat} {xs : List (List Int)} (h : KB.C w A n xs) (i : Int) (h0 : 0 ≤ i) (h1 : i < n) : ∃ ad A0 c0, A = some ad ∧ w.cell? (ad.add i.toNat) = some (.slice A0 (el xs i).length c0) ∧ (el xs i).length ≤ c0 ∧ (Kd.int .u8).C w A0 (el xs i).length (el xs i) := by
  obtain ⟨ad, c, e, _, hK, hc0⟩ := Kd.C_get h ([] : List Int) i h0 h1
  have hc : ∀ j u, c[j]? = some u → w.cell? (ad.add (i.toNat * 1 + j)) = some u := hc0
  obtain ⟨A0, c0, rfl, l0, g0⟩ := hK
  exact ⟨ad, A0, c0, e, by have hq := hc 0 _ rfl; rwa [Nat.mul_one, Nat.add_zero] at hq, l0, g0⟩

theorem grow_any (w : World) (n : Nat) (hn : n ≤ 1099511627776) :
    Calls Try.prog 26 #[.slice none 0 0, .int .i64 n] w fun e w' => ∃ v, e = .returned v ∧ Kd.R (Kd.int .u8) 5 w' w.heap.size (fun _ => True) v [] ∧ Below w.heap.size w w' := by
  have h0 : (0 : Int) ≤ (n : Int) := by omega
  have h1 : (n : Int) ≤ 1099511627776 := by omega
  have HN := Aside0.mk hn
  clear hn
  by_cases hz : n = 0
  · subst hz
    go_enter Try.func26, Try.ntmps26
    go_wp2
    go_ret
    exact ⟨_, rfl, Kd.R_nil _ _ _ _ _, Below.refl _ _⟩
  · have hp : decide (0 < n) = true := decide_eq_true (by omega)
    have hq : decide ((n : Int) < 0) = false := decide_eq_false (by omega)
    clear hz
    go_enter Try.func26, Try.ntmps26
    go_wp2_with (at_builtin; refine Kd.R_append_zeros (Kd.int .u8) (w0 := w) w.heap.size rfl (.tmp 20) (.tmp 21) 23 3 5 (.int .u8 0) 1 rfl Try.underlying23 Try.underlying3 info_u8 rfl (by decide) (by decide) (.slice none 0 0) [] (0 : Int) (n : Int) (fun _ => True) rfl rfl ?aZ (fun _ _ => trivial) (Kd.R_nil _ _ _ _ _) h0 (B0 w) (Nat.le_refl _) ?aL ?_; (case aZ => exact rfl); (case aL => have := HN.out; simp; omega); intro v1 w1 ho hb hg hat; obtain ⟨A, c, rfl, hc, _⟩ := Kd.R_reads ho; have HT := Aside0.mk (Kd.R_take ho (Nat.zero_le _)); have HB := Aside0.mk hb; clear ho hb hg hat)
    go_ret
    exact ⟨_, rfl, HT.out, HB.out⟩

/-- All parts, one behind the other. -/
def cat (xss : List (List Int)) : List Int := xss.flatten
theorem cat_take (xss : List (List Int)) (k : Nat) (h : k < xss.length) : cat (xss.take (k + 1)) = cat (xss.take k) ++ xss.getD k [] := by
  unfold cat
  rw [List.take_add_one, List.flatten_append, List.getD_eq_getElem?_getD]
  rw [List.getElem?_eq_getElem h]
  simp
theorem cat_take_le (xss : List (List Int)) (k : Nat) : (cat (xss.take k)).length ≤ (cat xss).length := by
  have h : cat xss = cat (xss.take k) ++ cat (xss.drop k) := by
    unfold cat
    rw [← List.flatten_append, List.take_append_drop]
  rw [h, List.length_append]
  omega

set_option maxHeartbeats 1000000 in
theorem concat_any (w : World) (A : Option Addr) (c : Nat) (xss : List (List Int)) (hC : KB.C w A xss.length xss) (hs : (cat xss).length ≤ 1099511627776) (hn : xss.length ≤ 1099511627776) :
    Calls Try.prog 25 #[.slice A xss.length c] w fun e w' => ∃ v, e = .returned v ∧ Kd.R (Kd.int .u8) 5 w' w.heap.size (fun _ => True) v (cat xss) ∧ Below w.heap.size w w' := by
  have HC := Aside0.mk hC
  have HS := Aside0.mk hs
  have HN := Aside0.mk hn
  clear hC hs hn
  go_enter Try.func25, Try.ntmps25
  go_wp2
  go_loopg [3, 5, 11] xss.length (fun kq v3 v5 v11 w' => ∃ (s : Int) (j : Int), v3 = .int .i64 s ∧ v11 = .int .i64 j ∧ Aside0 (0 ≤ j ∧ (kq : Int) + j = xss.length ∧ s = (cat (xss.take j.toNat)).length) ∧ w = w')
  case atStart => exact ⟨0, 0, rfl, rfl, ⟨⟨by omega, by omega, by simp [cat]⟩⟩, rfl⟩
  case round =>
    obtain ⟨s, j, rfl, rfl, HA, rfl⟩ := hrel
    have hj0 := HA.out.1
    have hjn : j ≤ 1099511627776 := by have := HN.out; have := HA.out; omega
    by_cases c1 : j < xss.length
    · have d1 : decide (j < (xss.length : Int)) = true := decide_eq_true c1
      obtain ⟨ad, A0, c0, rfl, hx, _, _⟩ := at_bytes HC.out j hj0 c1
      have HT := Aside0.mk (show cat (xss.take (j.toNat + 1)) = cat (xss.take j.toNat) ++ el xss j from cat_take xss j.toNat (by omega))
      have HL := Aside0.mk (cat_take_le xss (j.toNat + 1))
      have hs0 : 0 ≤ s := by have := HA.out.2.2; omega
      have hs1 : s + ((el xss j).length : Int) ≤ 1099511627776 := by
        have h1 := HL.out
        rw [HT.out, List.length_append] at h1
        have := HA.out.2.2
        have := HS.out
        omega
      have d2 : decide (s + ((el xss j).length : Int) < 0) = false := decide_eq_false (by omega)
      go_wp2
      go_roundg (xss.length - (j + 1).toNat)
      case measure => have := HA.out; omega
      case rel =>
        refine ⟨_, j + 1, rfl, rfl, ⟨⟨by omega, by omega, ?_⟩⟩, rfl⟩
        rw [show (j + 1).toNat = j.toNat + 1 from by omega, HT.out, List.length_append, HA.out.2.2]
        omega
    · have d1 : decide (j < (xss.length : Int)) = false := decide_eq_false c1
      have hsl : s = ((cat xss).length : Nat) := by
        have := HA.out.2.2
        rw [List.take_of_length_le (by omega)] at this
        exact this
      subst hsl
      clear c1 HA
      go_wp2_with fail
      refine (grow_any _ (cat xss).length HS.out).mono ?_
      rintro e w1 ⟨v1, rfl, hR, hB⟩
      have HR := Aside0.mk hR
      have HB := Aside0.mk hB
      clear hR hB
      go_wp2
      go_loopg [6, 8, 27] xss.length (fun kq v6 v8 v27 w' => ∃ (j : Int), v27 = .int .i64 j ∧ Aside0 (0 ≤ j ∧ (kq : Int) + j = xss.length) ∧ Aside0 (Kd.R (Kd.int .u8) 5 w' w.heap.size (fun _ => True) v6 (cat (xss.take j.toNat))) ∧ Aside0 (Below w.heap.size w w'))
      case atStart => exact ⟨0, rfl, ⟨⟨by omega, by omega⟩⟩, ⟨by simpa [cat] using HR.out⟩, HB⟩
      case round =>
        clear HR HB
        obtain ⟨j, rfl, HA, HO, HB⟩ := hrel
        have hj0 := HA.out.1
        have hjn : j ≤ 1099511627776 := by have := HN.out; have := HA.out; omega
        by_cases c1 : j < xss.length
        · have d1 : decide (j < (xss.length : Int)) = true := decide_eq_true c1
          obtain ⟨ad, A0, c0, rfl, hx, _, hK⟩ := at_bytes (Kd.C_below HC.out HB.out) j hj0 c1
          have HK := Aside0.mk (readsInt_of.2 (Kd.reads_of_C (d := (0 : Int)) hK))
          have HT := Aside0.mk (show cat (xss.take (j.toNat + 1)) = cat (xss.take j.toNat) ++ el xss j from cat_take xss j.toNat (by omega))
          have HL := Aside0.mk (cat_take_le xss (j.toNat + 1))
          clear hK
          go_wp2_with (at_builtin; refine print_append_row (w0 := w) w.heap.size rfl (.tmp 31) (.tmp 32) 23 5 .u8 1 rfl Try.underlying23 info_u8 (by decide) u6 (cat (xss.take j.toNat)) (el xss j) A0 _ c0 rfl rfl ?aO ?aR ?aB ?aS ?aL ?_; (case aO => exact Kd.own_of_R HO.out); (case aR => exact HK.out); (case aB => exact HB.out); (case aS => exact HB.out.size); (case aL => have h1 := HL.out; rw [HT.out, List.length_append] at h1; have := HS.out; omega); intro v2 w2 ho hb hg hat; have HO2 := Aside0.mk ho; have HB2 := Aside0.mk hb; clear ho hb hg hat)
          go_roundg (xss.length - (j + 1).toNat)
          case measure => have := HA.out; omega
          case rel =>
            refine ⟨j + 1, rfl, ⟨⟨by omega, by have := HA.out; omega⟩⟩, ⟨?_⟩, HB2⟩
            rw [show (j + 1).toNat = j.toNat + 1 from by omega, HT.out]
            exact Kd.R_of_own (h1 := fun _ => rfl) HO2.out (fun _ _ => trivial)
        · have d1 : decide (j < (xss.length : Int)) = false := decide_eq_false c1
          go_wp2
          go_ret
          refine ⟨_, rfl, ?_, HB.out⟩
          have h := HO.out
          rw [List.take_of_length_le (by omega)] at h
          exact h

theorem join_any (w : World) (A : Option Addr) (c : Nat) (xss : List (List Int)) (hC : KB.C w A xss.length xss) (hs : (cat xss).length ≤ 1099511627776) (hn : xss.length ≤ 1099511627776) :
    Calls Try.prog 18 #[.slice A xss.length c] w fun e w' => ∃ v, e = .returned v ∧ Kd.R (Kd.int .u8) 5 w' w.heap.size (fun _ => True) v (cat xss) ∧ Below w.heap.size w w' := by
  go_enter Try.func18, Try.ntmps18
  go_wp2_with fail
  refine (concat_any _ A c xss hC hs hn).mono ?_
  rintro e w1 ⟨v1, rfl, hR, hB⟩
  have HR := Aside0.mk hR
  have HB := Aside0.mk hB
  clear hR hB
  go_wp2
  go_ret
  exact ⟨_, rfl, HR.out, HB.out⟩

theorem refjoin_any (w : World) (A : Option Addr) (c : Nat) (xss : List (List Int)) (hC : KB.C w A xss.length xss) (hs : (cat xss).length ≤ 1099511627776) (hn : xss.length ≤ 1099511627776) :
    Calls Try.prog 12 #[.slice A xss.length c] w fun e w' => ∃ v, e = .returned v ∧ Kd.R (Kd.int .u8) 5 w' w.heap.size (fun _ => True) v (cat xss) ∧ Below w.heap.size w w' := by
  have HC := Aside0.mk hC
  have HS := Aside0.mk hs
  have HN := Aside0.mk hn
  clear hC hs hn
  go_enter Try.func12, Try.ntmps12
  go_wp2
  go_loopg [3, 4] xss.length (fun kq v6 v27 w' => ∃ (j : Int), v27 = .int .i64 j ∧ Aside0 (0 ≤ j ∧ (kq : Int) + j = xss.length) ∧ Aside0 (Kd.R (Kd.int .u8) 5 w' w.heap.size (fun _ => True) v6 (cat (xss.take j.toNat))) ∧ Aside0 (Below w.heap.size w w'))
  case atStart => exact ⟨0, rfl, ⟨⟨by omega, by omega⟩⟩, ⟨by simpa [cat] using Kd.R_nil _ _ _ _ _⟩, ⟨Below.refl _ _⟩⟩
  case round =>
    obtain ⟨j, rfl, HA, HO, HB⟩ := hrel
    have hj0 := HA.out.1
    have hjn : j ≤ 1099511627776 := by have := HN.out; have := HA.out; omega
    by_cases c1 : j < xss.length
    · have d1 : decide (j < (xss.length : Int)) = true := decide_eq_true c1
      obtain ⟨ad, A0, c0, rfl, hx, _, hK⟩ := at_bytes (Kd.C_below HC.out HB.out) j hj0 c1
      have HK := Aside0.mk (readsInt_of.2 (Kd.reads_of_C (d := (0 : Int)) hK))
      have HT := Aside0.mk (show cat (xss.take (j.toNat + 1)) = cat (xss.take j.toNat) ++ el xss j from cat_take xss j.toNat (by omega))
      have HL := Aside0.mk (cat_take_le xss (j.toNat + 1))
      clear hK
      go_wp2_with (at_builtin; refine print_append_row (w0 := w) w.heap.size rfl (.tmp 11) (.tmp 15) 23 5 .u8 1 rfl Try.underlying23 info_u8 (by decide) u3 (cat (xss.take j.toNat)) (el xss j) A0 _ c0 rfl rfl ?aO ?aR ?aB ?aS ?aL ?_; (case aO => exact Kd.own_of_R HO.out); (case aR => exact HK.out); (case aB => exact HB.out); (case aS => exact HB.out.size); (case aL => have h1 := HL.out; rw [HT.out, List.length_append] at h1; have := HS.out; omega); intro v2 w2 ho hb hg hat; have HO2 := Aside0.mk ho; have HB2 := Aside0.mk hb; clear ho hb hg hat)
      go_roundg (xss.length - (j + 1).toNat)
      case measure => have := HA.out; omega
      case rel =>
        refine ⟨j + 1, rfl, ⟨⟨by omega, by have := HA.out; omega⟩⟩, ⟨?_⟩, HB2⟩
        rw [show (j + 1).toNat = j.toNat + 1 from by omega, HT.out]
        exact Kd.R_of_own (h1 := fun _ => rfl) HO2.out (fun _ _ => trivial)
    · have d1 : decide (j < (xss.length : Int)) = false := decide_eq_false c1
      go_wp2
      go_ret
      refine ⟨_, rfl, ?_, HB.out⟩
      have h := HO.out
      rw [List.take_of_length_le (by omega)] at h
      exact h

end Go.Proofs.Ytbijboolhkjpjaa.HJoin
