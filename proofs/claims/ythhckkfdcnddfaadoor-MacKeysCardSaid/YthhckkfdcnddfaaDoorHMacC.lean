/- slices.Concat of lists of bytes: the headers, one behind the other. -/
import Derived.Test.YthhckkfdcnddfaaDoorHMac
import Derived.Test.YthhckkfdcnddfaaDoorWZeros
namespace Go.Proofs.YthhckkfdcnddfaaDoor.HMacC
open Go.RowKit Go.Proofs.YthhckkfdcnddfaaDoorW.PrintWords Go.Proofs.YthhckkfdcnddfaaDoor.HLib Go.Proofs.YthhckkfdcnddfaaDoor.HSha Go.Proofs.YthhckkfdcnddfaaDoor.HShaU Go.Proofs.YthhckkfdcnddfaaDoor.HShaV Go.Proofs.YthhckkfdcnddfaaDoor.HShaW Go.Proofs.YthhckkfdcnddfaaDoor.HShaB Go.Proofs.YthhckkfdcnddfaaDoor.HMac
set_option linter.unusedVariables false
set_option linter.unusedSimpArgs false

/-- A slice's header. -/
abbrev Hd := Option Addr × Nat × Nat
def encH (h : Hd) : Value := .slice h.1 h.2.1 h.2.2
def KH : Kd Hd := Kd.scalar encH (fun _ => rfl)
def H0 : Hd := (none, 0, 0)
theorem info_bs : (Tryd.prog.info? 22).map (fun i => (i.zero, i.size, i.bytes)) = some (some (.slice none 0 0), 1, 24) := by kernel_rfl
theorem info_bs2 : (Tryd.prog.info? 23).map (fun i => (i.zero, i.size, i.bytes)) = some (some (.slice none 0 0), 1, 24) := by kernel_rfl
def KHH : Kd (List Hd) := Kd.slice 22 KH
def elH (xs : List (List Hd)) (i : Int) : List Hd := xs.getD i.toNat []
theorem at_hds {w : World} {A : Option Addr} {n : Nat} {xs : List (List Hd)} (h : KHH.C w A n xs) (i : Int) (h0 : 0 ≤ i) (h1 : i < n) : ∃ ad A0 c0, A = some ad ∧ w.cell? (ad.add i.toNat) = some (.slice A0 (elH xs i).length c0) ∧ (elH xs i).length ≤ c0 ∧ KH.C w A0 (elH xs i).length (elH xs i) := by
  obtain ⟨ad, c, e, _, hK, hc0⟩ := Kd.C_get h ([] : List Hd) i h0 h1
  have hc : ∀ j u, c[j]? = some u → w.cell? (ad.add (i.toNat * 1 + j)) = some u := hc0
  obtain ⟨A0, c0, rfl, l0, g0⟩ := hK
  exact ⟨ad, A0, c0, e, by have hq := hc 0 _ rfl; rwa [Nat.mul_one, Nat.add_zero] at hq, l0, g0⟩

theorem grow_any (w : World) (n : Nat) (hn : n ≤ 4294967296) :
    Calls Tryd.prog 27 #[.slice none 0 0, .int .i64 n] w fun e w' => ∃ v, e = .returned v ∧ Kd.R KH 22 w' w.heap.size (fun _ => True) v [] ∧ Below w.heap.size w w' := by
  have h0 : (0 : Int) ≤ (n : Int) := by omega
  have h1 : (n : Int) ≤ 4294967296 := by omega
  have HN := Aside0.mk hn
  clear hn
  by_cases hz : n = 0
  · subst hz
    go_enter Tryd.func27, Tryd.ntmps27
    go_wp2
    go_ret
    exact ⟨_, rfl, Kd.R_nil _ _ _ _ _, Below.refl _ _⟩
  · have hp : decide (0 < n) = true := decide_eq_true (by omega)
    have hq : decide ((n : Int) < 0) = false := decide_eq_false (by omega)
    clear hz
    go_enter Tryd.func27, Tryd.ntmps27
    go_wp2_with (at_builtin; refine Kd.R_append_zeros KH (w0 := w) w.heap.size rfl (.tmp 20) (.tmp 21) 23 3 22 (.slice none 0 0) 24 rfl Tryd.underlying23 Tryd.underlying3 info_bs rfl (by decide) (by decide) (.slice none 0 0) [] H0 (n : Int) (fun _ => True) rfl rfl ?aZ (fun _ _ => trivial) (Kd.R_nil _ _ _ _ _) h0 (B0 w) (Nat.le_refl _) ?aL ?_; (case aZ => exact rfl); (case aL => have := HN.out; simp; omega); intro v1 w1 ho hb hg hat; obtain ⟨A, c, rfl, hc, _⟩ := Kd.R_reads ho; have HT := Aside0.mk (Kd.R_take ho (Nat.zero_le _)); have HB := Aside0.mk hb; clear ho hb hg hat)
    go_ret
    exact ⟨_, rfl, HT.out, HB.out⟩

def catH (xss : List (List Hd)) : List Hd := xss.flatten
theorem catH_take (xss : List (List Hd)) (k : Nat) (h : k < xss.length) : catH (xss.take (k + 1)) = catH (xss.take k) ++ xss.getD k [] := by
  unfold catH
  rw [List.take_add_one, List.flatten_append, List.getD_eq_getElem?_getD]
  rw [List.getElem?_eq_getElem h]
  simp
theorem catH_take_le (xss : List (List Hd)) (k : Nat) : (catH (xss.take k)).length ≤ (catH xss).length := by
  have h : catH xss = catH (xss.take k) ++ catH (xss.drop k) := by
    unfold catH
    rw [← List.flatten_append, List.take_append_drop]
  rw [h, List.length_append]
  omega

set_option maxHeartbeats 1000000 in
theorem concat_any (w : World) (A : Option Addr) (c : Nat) (xss : List (List Hd)) (hC : KHH.C w A xss.length xss) (hs : (catH xss).length ≤ 4294967296) (hn : xss.length ≤ 4294967296) :
    Calls Tryd.prog 21 #[.slice A xss.length c] w fun e w' => ∃ v, e = .returned v ∧ Kd.R KH 22 w' w.heap.size (fun _ => True) v (catH xss) ∧ Below w.heap.size w w' := by
  have HC := Aside0.mk hC
  have HS := Aside0.mk hs
  have HN := Aside0.mk hn
  clear hC hs hn
  go_enter Tryd.func21, Tryd.ntmps21
  go_wp2
  go_loopg [3, 5, 11] xss.length (fun kq v3 v5 v11 w' => ∃ (s : Int) (j : Int), v3 = .int .i64 s ∧ v11 = .int .i64 j ∧ Aside0 (0 ≤ j ∧ (kq : Int) + j = xss.length ∧ s = (catH (xss.take j.toNat)).length) ∧ w = w')
  case atStart => exact ⟨0, 0, rfl, rfl, ⟨⟨by omega, by omega, by simp [catH]⟩⟩, rfl⟩
  case round =>
    obtain ⟨s, j, rfl, rfl, HA, rfl⟩ := hrel
    have hj0 := HA.out.1
    have hjn : j ≤ 4294967296 := by have := HN.out; have := HA.out; omega
    by_cases c1 : j < xss.length
    · have d1 : decide (j < (xss.length : Int)) = true := decide_eq_true c1
      obtain ⟨ad, A0, c0, rfl, hx, _, _⟩ := at_hds HC.out j hj0 c1
      have HT := Aside0.mk (show catH (xss.take (j.toNat + 1)) = catH (xss.take j.toNat) ++ elH xss j from catH_take xss j.toNat (by omega))
      have HL := Aside0.mk (catH_take_le xss (j.toNat + 1))
      have hs0 : 0 ≤ s := by have := HA.out.2.2; omega
      have hs1 : s + ((elH xss j).length : Int) ≤ 4294967296 := by
        have h1 := HL.out
        rw [HT.out, List.length_append] at h1
        have := HA.out.2.2
        have := HS.out
        omega
      have d2 : decide (s + ((elH xss j).length : Int) < 0) = false := decide_eq_false (by omega)
      go_wp2
      go_roundg (xss.length - (j + 1).toNat)
      case measure => have := HA.out; omega
      case rel =>
        refine ⟨_, j + 1, rfl, rfl, ⟨⟨by omega, by omega, ?_⟩⟩, rfl⟩
        rw [show (j + 1).toNat = j.toNat + 1 from by omega, HT.out, List.length_append, HA.out.2.2]
        omega
    · have d1 : decide (j < (xss.length : Int)) = false := decide_eq_false c1
      have hsl : s = ((catH xss).length : Nat) := by
        have := HA.out.2.2
        rw [List.take_of_length_le (by omega)] at this
        exact this
      subst hsl
      clear c1 HA
      go_wp2_with fail
      refine (grow_any _ (catH xss).length HS.out).mono ?_
      rintro e w1 ⟨v1, rfl, hR, hB⟩
      have HR := Aside0.mk hR
      have HB := Aside0.mk hB
      clear hR hB
      go_wp2
      go_loopg [6, 8, 27] xss.length (fun kq v6 v8 v27 w' => ∃ (j : Int), v27 = .int .i64 j ∧ Aside0 (0 ≤ j ∧ (kq : Int) + j = xss.length) ∧ Aside0 (Kd.R KH 22 w' w.heap.size (fun _ => True) v6 (catH (xss.take j.toNat))) ∧ Aside0 (Below w.heap.size w w'))
      case atStart => exact ⟨0, rfl, ⟨⟨by omega, by omega⟩⟩, ⟨by simpa [catH] using HR.out⟩, HB⟩
      case round =>
        clear HR HB
        obtain ⟨j, rfl, HA, HO, HB⟩ := hrel
        have hj0 := HA.out.1
        have hjn : j ≤ 4294967296 := by have := HN.out; have := HA.out; omega
        by_cases c1 : j < xss.length
        · have d1 : decide (j < (xss.length : Int)) = true := decide_eq_true c1
          obtain ⟨ad, A0, c0, rfl, hx, _, hK⟩ := at_hds (Kd.C_below HC.out HB.out) j hj0 c1
          have HK := Aside0.mk (Kd.reads_of_C (d := H0) hK)
          have HT := Aside0.mk (show catH (xss.take (j.toNat + 1)) = catH (xss.take j.toNat) ++ elH xss j from catH_take xss j.toNat (by omega))
          have HL := Aside0.mk (catH_take_le xss (j.toNat + 1))
          clear hK
          go_wp2_with (at_builtin; refine print_append_row_of (w0 := w) encH H0 w.heap.size rfl (.tmp 31) (.tmp 32) 23 22 (.slice none 0 0) 24 rfl Tryd.underlying23 info_bs rfl (by decide) (fun _ => rfl) u6 (catH (xss.take j.toNat)) (elH xss j) A0 _ c0 rfl rfl ?aO ?aR ?aB ?aS ?aL ?_; (case aO => exact Kd.own_of_R HO.out); (case aR => exact HK.out); (case aB => exact HB.out); (case aS => exact HB.out.size); (case aL => have h1 := HL.out; rw [HT.out, List.length_append] at h1; have := HS.out; omega); intro v2 w2 ho hb hg hat; have HO2 := Aside0.mk ho; have HB2 := Aside0.mk hb; clear ho hb hg hat)
          go_roundg (xss.length - (j + 1).toNat)
          case measure => have := HA.out; omega
          case rel =>
            refine ⟨j + 1, rfl, ⟨⟨by omega, by have := HA.out; omega⟩⟩, ⟨?_⟩, HB2⟩
            rw [show (j + 1).toNat = j.toNat + 1 from by omega, HT.out]
            exact Kd.R_of_own (enc := encH) (h1 := fun _ => rfl) HO2.out (fun _ _ => trivial)
        · have d1 : decide (j < (xss.length : Int)) = false := decide_eq_false c1
          go_wp2
          go_ret
          refine ⟨_, rfl, ?_, HB.out⟩
          have h := HO.out
          rw [List.take_of_length_le (by omega)] at h
          exact h

end Go.Proofs.YthhckkfdcnddfaaDoor.HMacC
