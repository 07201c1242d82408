/- The code's inner parts: the masked key. -/
import Derived.Test.YtogimlinfkbapaaDoorUD
import Derived.Laws.CopyOwn
import Derived.OpenShut
import Derived.Test.YtogimlinfkbapaaDoorUW
namespace Go.Proofs.YtogimlinfkbapaaDoor.HMac
open Go.RowKit Go.Proofs.YtogimlinfkbapaaDoorW.PrintWords Go.Proofs.YtogimlinfkbapaaDoor.HLib Go.Proofs.YtogimlinfkbapaaDoor.HSha Go.Proofs.YtogimlinfkbapaaDoor.HShaS Go.Proofs.YtogimlinfkbapaaDoor.HShaP Go.Proofs.YtogimlinfkbapaaDoor.HShaU Go.Proofs.YtogimlinfkbapaaDoor.HShaV Go.Proofs.YtogimlinfkbapaaDoor.HShaW Go.Proofs.YtogimlinfkbapaaDoor.HShaB Go.Proofs.YtogimlinfkbapaaDoor.HShaX
set_option linter.unusedVariables false
set_option linter.unusedSimpArgs false

/-- Bytes, each turned by c. -/
def xr (c : Int) (k : List Int) : List Int := k.map fun x => bits .xor .u8 x c
theorem xr_len (c : Int) (k : List Int) : (xr c k).length = k.length := by simp [xr]
theorem xr_byte (c : Int) (k : List Int) : ∀ x ∈ xr c k, 0 ≤ x ∧ x < 256 := by
  intro x hx
  obtain ⟨y, _, rfl⟩ := List.mem_map.1 hx
  exact wf_u8 (wf_bits .xor .u8 y c)
theorem xr_get (c : Int) (k : List Int) (j : Nat) (h : j < k.length) : (xr c k).getD j 0 = bits .xor .u8 (k.getD j 0) c := by
  rw [List.getD_eq_getElem?_getD, List.getElem?_eq_getElem (by rw [xr_len]; exact h), List.getD_eq_getElem?_getD, List.getElem?_eq_getElem h]
  simp [xr]
/-- The key, filled up. -/
def key64 (key : List Int) : List Int := (if 64 < key.length then sumP key else key) ++ List.replicate (64 - (if 64 < key.length then sumP key else key).length) 0
theorem key64_len (key : List Int) : (key64 key).length = 64 := by
  unfold key64
  split
  · rw [List.length_append, sumP_len, List.length_replicate]
  · rw [List.length_append, List.length_replicate]; omega
/-- The code. -/
def macP (key bs : List Int) : List Int := sumP (xr 92 (key64 key) ++ sumP (xr 54 (key64 key) ++ bs))
theorem size_pad : (Tryd.prog.info? 80).map (·.size) = some 64 := by kernel_rfl

set_option maxRecDepth 20000 in
set_option maxHeartbeats 4000000 in
theorem mask_any (w : World) (gp : Nat) (k : List Int) (c : Int) (hk : IsArr w gp .u8 80 k) (hl : k.length = 64) :
    Calls Tryd.prog 46 #[.int .u8 c, .pointer (some ⟨gp, 0, none⟩)] w fun e w' => e = .returned (.slice (some ⟨w.heap.size, 0, none⟩) 64 64) ∧ IsArr w' w.heap.size .u8 80 (xr c k) ∧ Below w.heap.size w w' := by
  have HK := Aside0.mk hk
  have HL := Aside0.mk hl
  have HLD := Aside0.mk (arr_load (P := Tryd.prog) hk Tryd.underlying80 rfl (by rw [size_pad, hl]))
  have HST := Aside0.mk (run_storeAt_new (P := Tryd.prog) w 80 (nums .u8 (List.replicate 64 0)).toArray (nums .u8 k).toArray (by rw [size_pad]; simp [nums, hl]) (by simp [nums, hl]) (by simp [nums, Value.oneCell']))
  clear hk hl
  go_enter Tryd.func46, Tryd.ntmps46
  go_wp2_with (first | (refine load_ev (t := 80) (p := .tmp 1) rfl rfl HLD.out ?_) | (refine store_event rfl (t := 80) (p := 4) (v := .tmp 6) rfl rfl (w1 := w.alloc (.cells (nums .u8 k).toArray 80)) ?hr ?_; (case hr => exact run_store_of rfl HST.out); intro w5 hw5; subst hw5))
  go_loopg [7] 64 (fun kq v7 w' => ∃ (j : Int), v7 = .int .i64 j ∧ Aside0 (0 ≤ j ∧ (kq : Int) + j = 64) ∧ Aside0 (IsArr w' w.heap.size .u8 80 ((xr c k).take j.toNat ++ k.drop j.toNat)) ∧ Aside0 (Below w.heap.size w w'))
  case atStart => exact ⟨0, rfl, ⟨⟨by omega, by omega⟩⟩, ⟨blk_new w _⟩, ⟨below_alloc (B0 w) _⟩⟩
  case round =>
    obtain ⟨j, rfl, HA, HR, HB⟩ := hrel
    have hj0 : 0 ≤ j := HA.out.1
    have hjm : j ≤ 64 := by have := HA.out; omega
    by_cases c1 : j < 64
    · have d1 : decide (j < 64) = true := decide_eq_true c1
      have hlen : ((xr c k).take j.toNat ++ k.drop j.toNat).length = 64 := by rw [List.length_append, List.length_take, List.length_drop, xr_len, HL.out]; omega
      have e0 := HR.out.cell j hj0 (by rw [hlen]; exact c1)
      have f0 := HR.out.frozen j.toNat
      have hv : rd ((xr c k).take j.toNat ++ k.drop j.toNat) j = k.getD j.toNat 0 := by
        have h : ((xr c k).take j.toNat).length = j.toNat := by rw [List.length_take, xr_len, HL.out]; omega
        rw [rd, List.getD_eq_getElem?_getD, List.getElem?_append_right (by omega), h, Nat.sub_self, List.getElem?_drop, Nat.add_zero, List.getD_eq_getElem?_getD]
      rw [hv] at e0
      have HG := Aside0.mk (xr_get c k j.toNat (by rw [HL.out]; omega))
      have HM := Aside0.mk (mixn_set (xr c k) k j.toNat (by rw [xr_len, HL.out]; omega) (by rw [xr_len]))
      obtain ⟨y, hy⟩ : ∃ y, y = k.getD j.toNat 0 := ⟨_, rfl⟩
      rw [← hy] at e0 HG
      clear hlen hv hy
      go_wp2
      go_roundg (64 - (j + 1).toNat)
      case measure => have := HA.out; omega
      case rel =>
        refine ⟨j + 1, rfl, ⟨⟨by omega, by omega⟩⟩, ⟨?_⟩, ⟨HB.out.setCell (p := ⟨w.heap.size, j.toNat, none⟩) (Nat.le_refl _) _⟩⟩
        have h := HR.out.put j.toNat (bits .xor .u8 y c)
        rw [← HG.out, HM.out, HG.out, show j.toNat + 1 = (j + 1).toNat from by omega] at h
        exact h
    · have d1 : decide (j < 64) = false := decide_eq_false c1
      have HF : Aside0 (IsArr wr w.heap.size .u8 80 (xr c k)) := ⟨by
        have h := HR.out
        rw [show j.toNat = 64 from by omega, List.take_of_length_le (by rw [xr_len, HL.out]; decide), List.drop_of_length_le (by rw [HL.out]; decide), List.append_nil] at h
        exact h⟩
      go_wp2
      go_ret
      exact ⟨rfl, HF.out, HB.out⟩

end Go.Proofs.YtogimlinfkbapaaDoor.HMac
/- slices.Concat of lists of bytes: the headers, one behind the other. -/
namespace Go.Proofs.YtogimlinfkbapaaDoor.HMacC
open Go.RowKit Go.Proofs.YtogimlinfkbapaaDoorW.PrintWords Go.Proofs.YtogimlinfkbapaaDoor.HLib Go.Proofs.YtogimlinfkbapaaDoor.HSha Go.Proofs.YtogimlinfkbapaaDoor.HShaU Go.Proofs.YtogimlinfkbapaaDoor.HShaV Go.Proofs.YtogimlinfkbapaaDoor.HShaW Go.Proofs.YtogimlinfkbapaaDoor.HShaB Go.Proofs.YtogimlinfkbapaaDoor.HMac
set_option linter.unusedVariables false
set_option linter.unusedSimpArgs false

/-- A slice's header. -/
abbrev Hd := Option Addr × Nat × Nat
def encH (h : Hd) : Value := .slice h.1 h.2.1 h.2.2
def KH : Kd Hd := Kd.scalar encH (fun _ => rfl)
def H0 : Hd := (none, 0, 0)
theorem info_bs : (Tryd.prog.info? 22).map (fun i => (i.zero, i.size, i.bytes)) = some (some (.slice none 0 0), 1, 24) := by kernel_rfl
theorem info_bs2 : (Tryd.prog.info? 77).map (fun i => (i.zero, i.size, i.bytes)) = some (some (.slice none 0 0), 1, 24) := by kernel_rfl
def KHH : Kd (List Hd) := Kd.slice 22 KH
def elH (xs : List (List Hd)) (i : Int) : List Hd := xs.getD i.toNat []
theorem at_hds {w : World} {A : Option Addr} {n : Nat} {xs : List (List Hd)} (h : KHH.C w A n xs) (i : Int) (h0 : 0 ≤ i) (h1 : i < n) : ∃ ad A0 c0, A = some ad ∧ w.cell? (ad.add i.toNat) = some (.slice A0 (elH xs i).length c0) ∧ (elH xs i).length ≤ c0 ∧ KH.C w A0 (elH xs i).length (elH xs i) := by
  obtain ⟨ad, c, e, _, hK, hc0⟩ := Kd.C_get h ([] : List Hd) i h0 h1
  have hc : ∀ j u, c[j]? = some u → w.cell? (ad.add (i.toNat * 1 + j)) = some u := hc0
  obtain ⟨A0, c0, rfl, l0, g0⟩ := hK
  exact ⟨ad, A0, c0, e, by have hq := hc 0 _ rfl; rwa [Nat.mul_one, Nat.add_zero] at hq, l0, g0⟩

theorem grow_any (w : World) (n : Nat) (hn : n ≤ 4294967296) :
    Calls Tryd.prog 65 #[.slice none 0 0, .int .i64 n] w fun e w' => ∃ v, e = .returned v ∧ Kd.R KH 22 w' w.heap.size (fun _ => True) v [] ∧ Below w.heap.size w w' := by
  have h0 : (0 : Int) ≤ (n : Int) := by omega
  have h1 : (n : Int) ≤ 4294967296 := by omega
  have HN := Aside0.mk hn
  clear hn
  by_cases hz : n = 0
  · subst hz
    go_enter Tryd.func65, Tryd.ntmps65
    go_wp2
    go_ret
    exact ⟨_, rfl, Kd.R_nil _ _ _ _ _, Below.refl _ _⟩
  · have hp : decide (0 < n) = true := decide_eq_true (by omega)
    have hq : decide ((n : Int) < 0) = false := decide_eq_false (by omega)
    clear hz
    go_enter Tryd.func65, Tryd.ntmps65
    go_wp2_with (at_builtin; refine Kd.R_append_zeros KH (w0 := w) w.heap.size rfl (.tmp 20) (.tmp 21) 77 3 22 (.slice none 0 0) 24 rfl Tryd.underlying77 Tryd.underlying3 info_bs rfl (by decide) (by decide) (.slice none 0 0) [] H0 (n : Int) (fun _ => True) rfl rfl ?aZ (fun _ _ => trivial) (Kd.R_nil _ _ _ _ _) h0 (B0 w) (Nat.le_refl _) ?aL ?_; (case aZ => exact rfl); (case aL => have := HN.out; simp; omega); intro v1 w1 ho hb hg hat; obtain ⟨A, c, rfl, hc, _⟩ := Kd.R_reads ho; have HT := Aside0.mk (Kd.R_take ho (Nat.zero_le _)); have HB := Aside0.mk hb; clear ho hb hg hat)
    go_ret
    exact ⟨_, rfl, HT.out, HB.out⟩

def catH (xss : List (List Hd)) : List Hd := xss.flatten
theorem catH_take (xss : List (List Hd)) (k : Nat) (h : k < xss.length) : catH (xss.take (k + 1)) = catH (xss.take k) ++ xss.getD k [] := by
  unfold catH
  rw [List.take_add_one, List.flatten_append, List.getD_eq_getElem?_getD]
  rw [List.getElem?_eq_getElem h]
  simp
theorem catH_take_le (xss : List (List Hd)) (k : Nat) : (catH (xss.take k)).length ≤ (catH xss).length := by
  have h : catH xss = catH (xss.take k) ++ catH (xss.drop k) := by
    unfold catH
    rw [← List.flatten_append, List.take_append_drop]
  rw [h, List.length_append]
  omega

set_option maxHeartbeats 1000000 in
theorem concat_any (w : World) (A : Option Addr) (c : Nat) (xss : List (List Hd)) (hC : KHH.C w A xss.length xss) (hs : (catH xss).length ≤ 4294967296) (hn : xss.length ≤ 4294967296) :
    Calls Tryd.prog 47 #[.slice A xss.length c] w fun e w' => ∃ v, e = .returned v ∧ Kd.R KH 22 w' w.heap.size (fun _ => True) v (catH xss) ∧ Below w.heap.size w w' := by
  have HC := Aside0.mk hC
  have HS := Aside0.mk hs
  have HN := Aside0.mk hn
  clear hC hs hn
  go_enter Tryd.func47, Tryd.ntmps47
  go_wp2
  go_loopg [3, 5, 11] xss.length (fun kq v3 v5 v11 w' => ∃ (s : Int) (j : Int), v3 = .int .i64 s ∧ v11 = .int .i64 j ∧ Aside0 (0 ≤ j ∧ (kq : Int) + j = xss.length ∧ s = (catH (xss.take j.toNat)).length) ∧ w = w')
  case atStart => exact ⟨0, 0, rfl, rfl, ⟨⟨by omega, by omega, by simp [catH]⟩⟩, rfl⟩
  case round =>
    obtain ⟨s, j, rfl, rfl, HA, rfl⟩ := hrel
    have hj0 := HA.out.1
    have hjn : j ≤ 4294967296 := by have := HN.out; have := HA.out; omega
    by_cases c1 : j < xss.length
    · have d1 : decide (j < (xss.length : Int)) = true := decide_eq_true c1
      obtain ⟨ad, A0, c0, rfl, hx, _, _⟩ := at_hds HC.out j hj0 c1
      have HT := Aside0.mk (show catH (xss.take (j.toNat + 1)) = catH (xss.take j.toNat) ++ elH xss j from catH_take xss j.toNat (by omega))
      have HL := Aside0.mk (catH_take_le xss (j.toNat + 1))
      have hs0 : 0 ≤ s := by have := HA.out.2.2; omega
      have hs1 : s + ((elH xss j).length : Int) ≤ 4294967296 := by
        have h1 := HL.out
        rw [HT.out, List.length_append] at h1
        have := HA.out.2.2
        have := HS.out
        omega
      have d2 : decide (s + ((elH xss j).length : Int) < 0) = false := decide_eq_false (by omega)
      go_wp2
      go_roundg (xss.length - (j + 1).toNat)
      case measure => have := HA.out; omega
      case rel =>
        refine ⟨_, j + 1, rfl, rfl, ⟨⟨by omega, by omega, ?_⟩⟩, rfl⟩
        rw [show (j + 1).toNat = j.toNat + 1 from by omega, HT.out, List.length_append, HA.out.2.2]
        omega
    · have d1 : decide (j < (xss.length : Int)) = false := decide_eq_false c1
      have hsl : s = ((catH xss).length : Nat) := by
        have := HA.out.2.2
        rw [List.take_of_length_le (by omega)] at this
        exact this
      subst hsl
      clear c1 HA
      go_wp2_with fail
      refine (grow_any _ (catH xss).length HS.out).mono ?_
      rintro e w1 ⟨v1, rfl, hR, hB⟩
      have HR := Aside0.mk hR
      have HB := Aside0.mk hB
      clear hR hB
      go_wp2
      go_loopg [6, 8, 27] xss.length (fun kq v6 v8 v27 w' => ∃ (j : Int), v27 = .int .i64 j ∧ Aside0 (0 ≤ j ∧ (kq : Int) + j = xss.length) ∧ Aside0 (Kd.R KH 22 w' w.heap.size (fun _ => True) v6 (catH (xss.take j.toNat))) ∧ Aside0 (Below w.heap.size w w'))
      case atStart => exact ⟨0, rfl, ⟨⟨by omega, by omega⟩⟩, ⟨by simpa [catH] using HR.out⟩, HB⟩
      case round =>
        clear HR HB
        obtain ⟨j, rfl, HA, HO, HB⟩ := hrel
        have hj0 := HA.out.1
        have hjn : j ≤ 4294967296 := by have := HN.out; have := HA.out; omega
        by_cases c1 : j < xss.length
        · have d1 : decide (j < (xss.length : Int)) = true := decide_eq_true c1
          obtain ⟨ad, A0, c0, rfl, hx, _, hK⟩ := at_hds (Kd.C_below HC.out HB.out) j hj0 c1
          have HK := Aside0.mk (Kd.reads_of_C (d := H0) hK)
          have HT := Aside0.mk (show catH (xss.take (j.toNat + 1)) = catH (xss.take j.toNat) ++ elH xss j from catH_take xss j.toNat (by omega))
          have HL := Aside0.mk (catH_take_le xss (j.toNat + 1))
          clear hK
          go_wp2_with (at_builtin; refine print_append_row_of (w0 := w) encH H0 w.heap.size rfl (.tmp 31) (.tmp 32) 77 22 (.slice none 0 0) 24 rfl Tryd.underlying77 info_bs rfl (by decide) (fun _ => rfl) u6 (catH (xss.take j.toNat)) (elH xss j) A0 _ c0 rfl rfl ?aO ?aR ?aB ?aS ?aL ?_; (case aO => exact Kd.own_of_R HO.out); (case aR => exact HK.out); (case aB => exact HB.out); (case aS => exact HB.out.size); (case aL => have h1 := HL.out; rw [HT.out, List.length_append] at h1; have := HS.out; omega); intro v2 w2 ho hb hg hat; have HO2 := Aside0.mk ho; have HB2 := Aside0.mk hb; clear ho hb hg hat)
          go_roundg (xss.length - (j + 1).toNat)
          case measure => have := HA.out; omega
          case rel =>
            refine ⟨j + 1, rfl, ⟨⟨by omega, by have := HA.out; omega⟩⟩, ⟨?_⟩, HB2⟩
            rw [show (j + 1).toNat = j.toNat + 1 from by omega, HT.out]
            exact Kd.R_of_own (enc := encH) (h1 := fun _ => rfl) HO2.out (fun _ _ => trivial)
        · have d1 : decide (j < (xss.length : Int)) = false := decide_eq_false c1
          go_wp2
          go_ret
          refine ⟨_, rfl, ?_, HB.out⟩
          have h := HO.out
          rw [List.take_of_length_le (by omega)] at h
          exact h

end Go.Proofs.YtogimlinfkbapaaDoor.HMacC
/- mac.Sum. -/
namespace Go.Proofs.YtogimlinfkbapaaDoor.HMacS
open Go.RowKit Go.Proofs.YtogimlinfkbapaaDoorW.PrintWords Go.Proofs.YtogimlinfkbapaaDoor.HLib Go.Proofs.YtogimlinfkbapaaDoor.HSha Go.Proofs.YtogimlinfkbapaaDoor.HShaS Go.Proofs.YtogimlinfkbapaaDoor.HShaU Go.Proofs.YtogimlinfkbapaaDoor.HShaV Go.Proofs.YtogimlinfkbapaaDoor.HShaW Go.Proofs.YtogimlinfkbapaaDoor.HShaB Go.Proofs.YtogimlinfkbapaaDoor.HMac Go.Proofs.YtogimlinfkbapaaDoor.HMacC
set_option linter.unusedVariables false
set_option linter.unusedSimpArgs false

/-- Headers and the bytes that they read. -/
def Match (w : World) (hs : List Hd) (xss : List (List Int)) : Prop := hs.length = xss.length ∧ ∀ (i : Nat) (h : Hd) (xs : List Int), hs[i]? = some h → xss[i]? = some xs → (h : Hd).2.1 = xs.length ∧ xs.length ≤ h.2.2 ∧ (Kd.int .u8).C w h.1 xs.length xs
theorem Match.below {w w1 : World} {hs : List Hd} {xss : List (List Int)} (h : Match w hs xss) (hb : Below w.heap.size w w1) : Match w1 hs xss :=
  ⟨h.1, fun i a b h1 h2 => let q := h.2 i a b h1 h2; ⟨q.1, q.2.1, Kd.C_below q.2.2 hb⟩⟩
theorem Match.cons {w : World} {h : Hd} {hs : List Hd} {xs : List Int} {xss : List (List Int)} (h0 : h.2.1 = xs.length ∧ xs.length ≤ h.2.2 ∧ (Kd.int .u8).C w h.1 xs.length xs) (hm : Match w hs xss) : Match w (h :: hs) (xs :: xss) := by
  refine ⟨by rw [List.length_cons, List.length_cons, hm.1], fun i a b h1 h2 => ?_⟩
  cases i with
  | zero =>
    simp at h1 h2
    subst h1 h2
    exact h0
  | succ i => exact hm.2 i a b (by simpa using h1) (by simpa using h2)
theorem of_KB {w : World} {A : Option Addr} {xss : List (List Int)} (h : KB.C w A xss.length xss) : ∃ hs, KH.C w A hs.length hs ∧ Match w hs xss := by
  have hmax : xss.length ≤ 9223372036854775807 := h.2.1
  have each : ∀ i, i < xss.length → ∃ hd : Hd, (∀ ad, A = some ad → w.cell? (ad.add i) = some (encH hd)) ∧ hd.2.1 = (xss.getD i []).length ∧ (xss.getD i []).length ≤ hd.2.2 ∧ (Kd.int .u8).C w hd.1 (xss.getD i []).length (xss.getD i []) := by
    intro i hi
    obtain ⟨ad, A0, c0, e, hc, hl, hC⟩ := at_bytes h (i : Int) (by omega) (by omega)
    refine ⟨(A0, (xss.getD i []).length, c0), fun ad' e' => ?_, rfl, hl, hC⟩
    rw [e] at e'
    injection e' with e'
    subst e'
    exact hc
  obtain ⟨f, hf⟩ : ∃ f : Nat → Hd, ∀ i, i < xss.length → (∀ ad, A = some ad → w.cell? (ad.add i) = some (encH (f i))) ∧ (f i).2.1 = (xss.getD i []).length ∧ (xss.getD i []).length ≤ (f i).2.2 ∧ (Kd.int .u8).C w (f i).1 (xss.getD i []).length (xss.getD i []) :=
    ⟨fun i => if h : i < xss.length then (each i h).choose else H0, fun i hi => by
      simp only [dif_pos hi]
      exact (each i hi).choose_spec⟩
  refine ⟨(List.range xss.length).map f, ?_, by simp, fun i hd xs h1 h2 => ?_⟩
  · rw [List.length_map, List.length_range]
    refine ⟨by simp, hmax, fun hp => ?_⟩
    obtain ⟨ad, _, _, e, _⟩ := at_bytes h 0 (by omega) (by omega)
    refine ⟨ad, e, fun j p hj => ?_⟩
    have hjl : j < xss.length := by
      have := (List.getElem?_eq_some_iff.1 hj).1
      simpa using this
    have hp2 : f j = p := by simpa [List.getElem?_range hjl] using hj
    refine ⟨[encH p], rfl, rfl, fun q u hq => ?_⟩
    cases q with
    | succ q => simp at hq
    | zero =>
      obtain rfl : encH p = u := by simpa using hq
      rw [← hp2]
      have := (hf j hjl).1 ad e
      rwa [show j * KH.sz + 0 = j from by show j * 1 + 0 = j; omega]
  · have hil : i < xss.length := (List.getElem?_eq_some_iff.1 h2).1
    have e1 : f i = hd := by simpa [List.getElem?_range hil] using h1
    have e2 : xss.getD i [] = xs := by rw [List.getD_eq_getElem?_getD, h2]; rfl
    have := hf i hil
    rw [e1, e2] at this
    exact ⟨this.2.1, this.2.2.1, this.2.2.2⟩
theorem to_KB {w : World} {A : Option Addr} {hs : List Hd} {xss : List (List Int)} (h : KH.C w A hs.length hs) (hm : Match w hs xss) : KB.C w A xss.length xss := by
  rw [← hm.1]
  refine ⟨hm.1.symm, h.2.1, fun hp => ?_⟩
  obtain ⟨ad, e, hc⟩ := h.2.2 hp
  refine ⟨ad, e, fun j p hj => ?_⟩
  have hjl : j < hs.length := by rw [hm.1]; exact (List.getElem?_eq_some_iff.1 hj).1
  obtain ⟨c, hcl, hK, hcell⟩ := hc j hs[j] (List.getElem?_eq_getElem hjl)
  have hq := hm.2 j hs[j] p (List.getElem?_eq_getElem hjl) hj
  obtain rfl : c = [encH hs[j]] := hK
  refine ⟨[encH hs[j]], rfl, ⟨hs[j].1, hs[j].2.2, ?_, hq.2.1, hq.2.2⟩, hcell⟩
  rw [← hq.1]
  rfl
theorem splice_nums (k z : List Int) : splice (nums .u8 z) 0 (nums .u8 k) = nums .u8 (k ++ z.drop k.length) := by
  unfold splice
  rw [List.take_zero, List.nil_append, Nat.zero_add]
  simp [nums]
theorem C_cells {w : World} {A : Option Addr} {xs : List Int} (h : (Kd.int .u8).C w A xs.length xs) (hp : 0 < xs.length) : ∃ ad, A = some ad ∧ ∀ (j : Nat) (v : Value), (nums .u8 xs)[j]? = some v → w.cell? (ad.add j) = some v := by
  obtain ⟨_, _, h3⟩ := (readsInt_of.2 (Kd.reads_of_C (d := (0 : Int)) h) : ReadsInt w .u8 A xs.length xs)
  obtain ⟨ad, e, hc⟩ := h3 hp
  refine ⟨ad, e, fun j v hj => ?_⟩
  have hjl : j < xs.length := by
    have := (List.getElem?_eq_some_iff.1 hj).1
    simpa [nums] using this
  rw [hc j hjl]
  simpa [nums, List.getElem?_eq_getElem hjl, List.getD_eq_getElem?_getD] using hj
theorem KHH_two {w : World} {g : Nat} {A1 A2 : Option Addr} {h1 h2 : List Hd} {c1 c2 : Nat} (e1 : w.cell? ⟨g, 0, none⟩ = some (.slice A1 h1.length c1)) (e2 : w.cell? ⟨g, 1, none⟩ = some (.slice A2 h2.length c2)) (l1 : h1.length ≤ c1) (l2 : h2.length ≤ c2) (k1 : KH.C w A1 h1.length h1) (k2 : KH.C w A2 h2.length h2) : KHH.C w (some ⟨g, 0, none⟩) 2 [h1, h2] := by
  refine ⟨rfl, by decide, fun _ => ⟨_, rfl, fun j p hj => ?_⟩⟩
  match j, hj with
  | 0, hj =>
    obtain rfl : h1 = p := by simpa using hj
    refine ⟨[.slice A1 h1.length c1], rfl, ⟨A1, c1, rfl, l1, k1⟩, fun q u hq => ?_⟩
    cases q with
    | succ q => simp at hq
    | zero =>
      obtain rfl : Value.slice A1 h1.length c1 = u := by simpa using hq
      exact e1
  | 1, hj =>
    obtain rfl : h2 = p := by simpa using hj
    refine ⟨[.slice A2 h2.length c2], rfl, ⟨A2, c2, rfl, l2, k2⟩, fun q u hq => ?_⟩
    cases q with
    | succ q => simp at hq
    | zero =>
      obtain rfl : Value.slice A2 h2.length c2 = u := by simpa using hq
      exact e2
  | n + 2, hj => simp at hj
theorem KH_one {w : World} {g : Nat} {h : Hd} (e : w.cell? ⟨g, 0, none⟩ = some (encH h)) : KH.C w (some ⟨g, 0, none⟩) 1 [h] := by
  refine ⟨rfl, by decide, fun _ => ⟨_, rfl, fun j p hj => ?_⟩⟩
  cases j with
  | succ j => simp at hj
  | zero =>
    obtain rfl : h = p := by simpa using hj
    refine ⟨[encH h], rfl, rfl, fun q u hq => ?_⟩
    cases q with
    | succ q => simp at hq
    | zero =>
      obtain rfl : encH h = u := by simpa using hq
      exact e
def SM (w : World) (gp g8 : Nat) (K inner : List Int) (w' : World) : Prop := Glob w' ∧ Below w.heap.size w w' ∧ IsArr w' gp .u8 80 K ∧ IsArr w' g8 .u8 24 inner ∧ ∃ xs, xs.length = 32 ∧ IsArr w' w.heap.size .u8 24 xs
theorem SM.step {w : World} {gp g8 : Nat} {K inner : List Int} {w1 w2 : World} (h : SM w gp g8 K inner w1) (hb : Below w1.heap.size w1 w2) : SM w gp g8 K inner w2 := by
  obtain ⟨h1, h2, h3, h4, xs, h5, h6⟩ := h
  exact ⟨h1.below hb, below_step h2 hb, h3.below hb (arr_lt h3), h4.below hb (arr_lt h4), xs, h5, h6.below hb (arr_lt h6)⟩

theorem SM.row {w : World} {gp g8 : Nat} {K inner ys : List Int} {w1 : World} (h : SM w gp g8 K inner w1) (h0 : 1 < w.heap.size) (n1 : gp ≠ w.heap.size) (n2 : g8 ≠ w.heap.size) (hl : ys.length = 32) : SM w gp g8 K inner (w1.setRow w.heap.size (nums .u8 ys).toArray) := by
  obtain ⟨h1, h2, h3, h4, xs, h5, h6⟩ := h
  exact ⟨glob_below h1 h0 (below_row (Below.refl _ _) (Nat.le_refl _) _), below_row h2 (Nat.le_refl _) _, arr_rowfar h3 n1 _, arr_rowfar h4 n2 _, ys, hl, arr_row h6 _⟩
theorem KB_two {w : World} {g : Nat} {A1 A2 : Option Addr} {xs ys : List Int} {c1 c2 : Nat} (e1 : w.cell? ⟨g, 0, none⟩ = some (.slice A1 xs.length c1)) (e2 : w.cell? ⟨g, 1, none⟩ = some (.slice A2 ys.length c2)) (l1 : xs.length ≤ c1) (l2 : ys.length ≤ c2) (k1 : (Kd.int .u8).C w A1 xs.length xs) (k2 : (Kd.int .u8).C w A2 ys.length ys) : KB.C w (some ⟨g, 0, none⟩) 2 [xs, ys] := by
  refine ⟨rfl, by decide, fun _ => ⟨_, rfl, fun j p hj => ?_⟩⟩
  match j, hj with
  | 0, hj =>
    obtain rfl : xs = p := by simpa using hj
    refine ⟨[.slice A1 xs.length c1], rfl, ⟨A1, c1, rfl, l1, k1⟩, fun q u hq => ?_⟩
    cases q with
    | succ q => simp at hq
    | zero =>
      obtain rfl : Value.slice A1 xs.length c1 = u := by simpa using hq
      exact e1
  | 1, hj =>
    obtain rfl : ys = p := by simpa using hj
    refine ⟨[.slice A2 ys.length c2], rfl, ⟨A2, c2, rfl, l2, k2⟩, fun q u hq => ?_⟩
    cases q with
    | succ q => simp at hq
    | zero =>
      obtain rfl : Value.slice A2 ys.length c2 = u := by simpa using hq
      exact e2
  | n + 2, hj => simp at hj

set_option maxRecDepth 100000 in
set_option maxHeartbeats 8000000 in
theorem mac_any (w : World) (vk : Value) (key : List Int) (hvk : Bv w vk key) (hkb : ∀ x ∈ key, 0 ≤ x ∧ x < 256) (hkl : key.length ≤ 4294960000) (A : Option Addr) (c : Nat) (xss : List (List Int)) (hC : KB.C w A xss.length xss) (hcc : xss.length ≤ c)
    (hby : ∀ x ∈ cat xss, 0 ≤ x ∧ x < 256) (hl : (cat xss).length ≤ 4294960000) (hxl : xss.length ≤ 4294960000) (hG : Glob w) :
    Calls Tryd.prog 25 #[vk, .slice A xss.length c] w fun e w' => e = .returned (.agg (nums .u8 (macP key (cat xss))).toArray) ∧ Below w.heap.size w w' := by
  obtain ⟨Ak, ck, rfl, hck, hCk⟩ := hvk
  have HCK := Aside0.mk hCk
  have HCKL := Aside0.mk hck
  have HKB := Aside0.mk hkb
  have HKL := Aside0.mk hkl
  have HC := Aside0.mk hC
  have HCC := Aside0.mk hcc
  have HBY := Aside0.mk hby
  have HL := Aside0.mk hl
  have HXL := Aside0.mk hxl
  have HG := Aside0.mk hG
  clear hCk hkb hkl hC hcc hby hl hxl hG hck
  have hR0 : IsArr (w.alloc (.cells (nums .u8 (List.replicate 32 0)).toArray 24)) w.heap.size .u8 24 (List.replicate 32 0) := blk_new w _
  have hB0 : Below w.heap.size w (w.alloc (.cells (nums .u8 (List.replicate 32 0)).toArray 24)) := below_alloc (B0 w) _
  have HR0 := Aside0.mk hR0
  have HB0 := Aside0.mk hB0
  clear hR0 hB0
  by_cases c1 : 64 < key.length
  · have d1 : decide (64 < key.length) = true := decide_eq_true c1
    have d2 : decide ((64 : Int) < (key.length : Int)) = true := decide_eq_true (by omega)
    have HKE := Aside0.mk (show key64 key = sumP key ++ List.replicate (64 - (sumP key).length) 0 from by unfold key64; rw [if_pos c1])
    clear c1
    go_enter Tryd.func25, Tryd.ntmps25
    go_wp2_with fail
    obtain ⟨W1, hW1⟩ : ∃ W, W = (w.alloc (.cells (nums .u8 (List.replicate 32 0)).toArray 24)).alloc (.cells #[.slice Ak key.length ck] 22) := ⟨_, rfl⟩
    have hcell : W1.cell? ⟨w.heap.size + 1, 0, none⟩ = some (.slice Ak key.length ck) := by
      have h := blk_new (w.alloc (.cells (nums .u8 (List.replicate 32 0)).toArray 24)) (.cells #[.slice Ak key.length ck] 22)
      rw [World.size_alloc] at h
      rw [hW1]
      exact blk_cell h 0
    have hb1 : Below w.heap.size w W1 := by rw [hW1]; exact below_alloc HB0.out _
    have hr1 : IsArr W1 w.heap.size .u8 24 (List.replicate 32 0) := by rw [hW1]; exact blk_alloc HR0.out _
    change Calls Tryd.prog 45 _ ((w.alloc (.cells (nums .u8 (List.replicate 32 0)).toArray 24)).alloc (.cells #[.slice Ak key.length ck] 22)) _
    rw [← hW1]
    refine (sum_any W1 (some ⟨w.heap.size + 1, 0, none⟩) 1 [key] (KB_one (xs := key) hcell HCKL.out (Kd.C_below HCK.out hb1)) (by simpa [cat] using HKB.out) (by have := HKL.out; simp [cat]; omega) (show 1 ≤ 4294967296 by decide) (show 1 ≤ 1 by decide) (glob_below HG.out HG.out.1 hb1)).mono ?_
    rintro e w2 ⟨rfl, hb2⟩
    rw [show cat [key] = key from by simp [cat]]
    have HB2 := Aside0.mk (hb1.trans (hb2.mono hb1.size))
    have HR2 := Aside0.mk (hr1.below hb2 (arr_lt hr1))
    have HST := Aside0.mk (run_storeAt_new (P := Tryd.prog) w2 24 (nums .u8 (List.replicate 32 0)).toArray (nums .u8 (sumP key)).toArray (by rw [size_out]; simp [nums, sumP_len]) (by simp [nums, sumP_len]) (by simp [nums, Value.oneCell']))
    clear hcell hb1 hr1 hb2 hW1
    have HKM := Aside0.mk (show (sumP key).length ≤ 64 from by rw [sumP_len]; decide)
    have hKC : (Kd.int .u8).C ((w2.alloc (.cells (nums .u8 (sumP key)).toArray 24)).alloc (.cells (nums .u8 (List.replicate 64 0)).toArray 80)) (some ⟨w2.heap.size, 0, none⟩) (sumP key).length (sumP key) := Kd.C_below (bytes_C (blk_new w2 _) (by rw [sumP_len]; decide)) (below_alloc (B0 _) _)
    have hGP : IsArr ((w2.alloc (.cells (nums .u8 (sumP key)).toArray 24)).alloc (.cells (nums .u8 (List.replicate 64 0)).toArray 80)) (w2.heap.size + 1) .u8 80 (List.replicate 64 0) := by
      have h := blk_new (w2.alloc (.cells (nums .u8 (sumP key)).toArray 24)) (.cells (nums .u8 (List.replicate 64 0)).toArray 80)
      rw [World.size_alloc] at h
      exact h
    have HRC := Aside0.mk (show IsArr ((w2.alloc (.cells (nums .u8 (sumP key)).toArray 24)).alloc (.cells (nums .u8 (List.replicate 64 0)).toArray 80)) w.heap.size .u8 24 (List.replicate 32 0) from blk_alloc (blk_alloc HR2.out _) _)
    have HBC := Aside0.mk (show Below w.heap.size w ((w2.alloc (.cells (nums .u8 (sumP key)).toArray 24)).alloc (.cells (nums .u8 (List.replicate 64 0)).toArray 80)) from below_alloc (below_alloc HB2.out _) _)
    have HCN := Aside0.mk (show (nums .u8 (sumP key)).length = Nat.min (32) 64 from by simp only [nums, List.length_map]; rw [sumP_len]; rfl)
    have HFIT := Aside0.mk (show 0 + (nums .u8 (sumP key)).length ≤ (nums .u8 (List.replicate 64 0)).length from by simp only [nums, List.length_map, List.length_replicate]; have := HKM.out; omega)
    have HPOS := Aside0.mk (fun (hp : 0 < (nums .u8 (sumP key)).length) => C_cells hKC (by simpa [nums] using hp))
    have HGP := Aside0.mk hGP
    have HWG := Aside0.mk (show w.heap.size + 1 ≤ w2.heap.size + 1 from by have := HB2.out.size; have := arr_lt HR2.out; omega)
    clear hKC hGP
    go_wp2_with (first | (refine store_event rfl (t := 24) (p := 5) (v := .tmp 14) rfl rfl (w1 := w2.alloc (.cells (nums .u8 (sumP key)).toArray 24)) ?hr ?_; (case hr => exact run_store_of rfl HST.out); intro w3 hw3; subst hw3) | (refine wpList_copy_splice rfl (.tmp 16) (.tmp 17) 22 22 rfl 5 Tryd.underlying22 (show (Tryd.prog.info? 5).map (·.size) = some 1 by kernel_rfl) (some ⟨w2.heap.size + 1, 0, none⟩) (some ⟨w2.heap.size, 0, none⟩) 64 64 (32) (32) rfl rfl (w2.heap.size + 1) 0 (nums .u8 (List.replicate 64 0)) 80 HGP.out (nums .u8 (sumP key)) HCN.out (fun hp => ⟨rfl, HPOS.out hp⟩) HFIT.out (fun v hv => by obtain ⟨x, _, rfl⟩ := List.mem_map.1 hv; rfl) (w.heap.size + 1) ((w2.alloc (.cells (nums .u8 (sumP key)).toArray 24)).alloc (.cells (nums .u8 (List.replicate 64 0)).toArray 80)) (Below.refl _ _) HWG.out ?_; intro w3 hid hb3))
    have hP3 : IsArr w3 (w2.heap.size + 1) .u8 80 (key64 key) := by
      have h : w3.heap[w2.heap.size + 1]? = some (.cells (splice (nums .u8 (List.replicate 64 0)) 0 (nums .u8 (sumP key))).toArray 80 (0, 0)) := hid
      rw [splice_nums, List.drop_replicate, ← HKE.out] at h
      exact h
    have HP3 := Aside0.mk hP3
    have HB3 := Aside0.mk (HBC.out.trans (hb3.mono (Nat.le_succ _)))
    have HR3 := Aside0.mk (HRC.out.below hb3 (Nat.lt_succ_self _))
    clear hP3 hb3 hid
    have HG3 := Aside0.mk (glob_below HG.out HG.out.1 HB3.out)
    go_wp2_with fail
    refine (mask_any w3 (w2.heap.size + 1) (key64 key) 54 HP3.out (key64_len key)).mono ?_
    rintro e w4 ⟨rfl, hm4, hb4⟩
    have HP4 := Aside0.mk (HP3.out.below hb4 (arr_lt HP3.out))
    have HR4 := Aside0.mk (HR3.out.below hb4 (arr_lt HR3.out))
    have HB4 := Aside0.mk (below_step HB3.out hb4)
    have HM4 := Aside0.mk hm4
    clear hb4 hm4
    obtain ⟨hs, hKH, hMT⟩ := of_KB (Kd.C_below HC.out HB4.out)
    obtain ⟨W5, hW5⟩ : ∃ W, W = ((w4.alloc (.cells #[.slice (some ⟨w3.heap.size, 0, none⟩) 64 64] 22)).alloc (.cells #[.slice (some ⟨w4.heap.size, 0, none⟩) 1 1, .slice A xss.length c] 77)) := ⟨_, rfl⟩
    have hb45 : Below w4.heap.size w4 W5 := by rw [hW5]; exact below_alloc (below_alloc (B0 w4) _) _
    have hA5 : W5.heap[w4.heap.size]? = some (.cells #[.slice (some ⟨w3.heap.size, 0, none⟩) 64 64] 22 (0, 0)) := by rw [hW5]; exact blk_alloc (blk_new w4 _) _
    have hB5 : W5.heap[w4.heap.size + 1]? = some (.cells #[.slice (some ⟨w4.heap.size, 0, none⟩) 1 1, .slice A xss.length c] 77 (0, 0)) := by
      have h := blk_new (w4.alloc (.cells #[.slice (some ⟨w3.heap.size, 0, none⟩) 64 64] 22)) (.cells #[.slice (some ⟨w4.heap.size, 0, none⟩) 1 1, .slice A xss.length c] 77)
      rw [World.size_alloc] at h
      rw [hW5]
      exact h
    have hk1 : KH.C W5 (some ⟨w4.heap.size, 0, none⟩) 1 [(some ⟨w3.heap.size, 0, none⟩, 64, 64)] := KH_one (blk_cell hA5 0)
    have hl5 : hs.length = xss.length := hMT.1
    have HKHH := Aside0.mk (KHH_two (h1 := [(some ⟨w3.heap.size, 0, none⟩, 64, 64)]) (h2 := hs) (blk_cell hB5 0) (by rw [hl5]; exact blk_cell hB5 1) (Nat.le_refl _) (by rw [hl5]; exact HCC.out) hk1 (Kd.C_below hKH hb45))
    have HM5 := Aside0.mk ((HM4.out.below hb45 (arr_lt HM4.out)))
    have hC5 : (Kd.int .u8).C W5 (some ⟨w3.heap.size, 0, none⟩) (xr 54 (key64 key)).length (xr 54 (key64 key)) := bytes_C HM5.out (by rw [xr_len, key64_len]; decide)
    have HMT5 := Aside0.mk (Match.cons (h := (some ⟨w3.heap.size, 0, none⟩, 64, 64)) (xs := xr 54 (key64 key)) ⟨by rw [xr_len, key64_len], by rw [xr_len, key64_len]; exact Nat.le_refl _, hC5⟩ (hMT.below hb45))
    have HP5 := Aside0.mk (HP4.out.below hb45 (arr_lt HP4.out))
    have HR5 := Aside0.mk (HR4.out.below hb45 (arr_lt HR4.out))
    have HB5 := Aside0.mk (below_step HB4.out hb45)
    have HL5 := Aside0.mk hl5
    clear hb45 hA5 hB5 hk1 hC5 hKH hMT hl5
    go_wp2_with fail
    change Calls Tryd.prog 47 _ ((w4.alloc (.cells #[.slice (some ⟨w3.heap.size, 0, none⟩) 64 64] 22)).alloc (.cells #[.slice (some ⟨w4.heap.size, 0, none⟩) 1 1, .slice A xss.length c] 77)) _
    rw [← hW5]
    refine (concat_any W5 (some ⟨w4.heap.size + 1, 0, none⟩) 2 [[(some ⟨w3.heap.size, 0, none⟩, 64, 64)], hs] HKHH.out (by have := HL5.out; have := HXL.out; simp [catH]; omega) (show 2 ≤ 4294967296 by decide)).mono ?_
    rintro e w6 ⟨v6, rfl, hR6, hb6⟩
    obtain ⟨A6, c6, rfl, hc6, hC6⟩ := Kd.R_reads hR6
    have hcat : catH [[((some ⟨w3.heap.size, 0, none⟩, 64, 64) : Hd)], hs] = (some ⟨w3.heap.size, 0, none⟩, 64, 64) :: hs := by simp [catH]
    rw [hcat] at hC6 hc6 ⊢
    have HMT6 := Aside0.mk (HMT5.out.below hb6)
    have HC6 := Aside0.mk (to_KB hC6 HMT6.out)
    have HP6 := Aside0.mk (HP5.out.below hb6 (arr_lt HP5.out))
    have HR6 := Aside0.mk (HR5.out.below hb6 (arr_lt HR5.out))
    have HB6 := Aside0.mk (below_step HB5.out hb6)
    rw [HMT6.out.1] at hc6 ⊢
    have HCC6 := Aside0.mk hc6
    clear hR6 hb6 hcat hC6 hc6 hW5 HKHH
    go_wp2_with fail
    have hall : cat (xr 54 (key64 key) :: xss) = xr 54 (key64 key) ++ cat xss := by simp [cat]
    have hall1 : ∀ x ∈ cat (xr 54 (key64 key) :: xss), 0 ≤ x ∧ x < 256 := by
      rw [hall]
      intro x hx
      exact (List.mem_append.1 hx).elim (xr_byte _ _ x) (HBY.out x)
    have hall2 : (cat (xr 54 (key64 key) :: xss)).length ≤ 4294967296 := by rw [hall, List.length_append, xr_len, key64_len]; have := HL.out; omega
    refine (sum_any w6 A6 c6 (xr 54 (key64 key) :: xss) HC6.out hall1 hall2 (by have := HXL.out; rw [List.length_cons]; omega) HCC6.out (glob_below HG.out HG.out.1 HB6.out)).mono ?_
    rintro e w7 ⟨rfl, hb7⟩
    rw [hall]
    obtain ⟨inner, hin⟩ : ∃ i, i = sumP (xr 54 (key64 key) ++ cat xss) := ⟨_, rfl⟩
    have HIN := Aside0.mk (show macP key (cat xss) = sumP (xr 92 (key64 key) ++ inner) from by rw [hin]; rfl)
    have HIL := Aside0.mk (show inner.length = 32 from by rw [hin]; exact sumP_len _)
    have HIB := Aside0.mk (show ∀ x ∈ inner, 0 ≤ x ∧ x < 256 from by rw [hin]; exact sumP_byte _)
    rw [← hin]
    have HP7 := Aside0.mk (HP6.out.below hb7 (arr_lt HP6.out))
    have HR7 := Aside0.mk (HR6.out.below hb7 (arr_lt HR6.out))
    have HB7 := Aside0.mk (below_step HB6.out hb7)
    have HST7 := Aside0.mk (run_storeAt_new (P := Tryd.prog) w7 24 (nums .u8 (List.replicate 32 0)).toArray (nums .u8 inner).toArray (by rw [size_out]; simp [nums, HIL.out]) (by simp [nums, HIL.out]) (by simp [nums, Value.oneCell']))
    have hS8 : SM w (w2.heap.size + 1) w7.heap.size (key64 key) inner (w7.alloc (.cells (nums .u8 inner).toArray 24)).drew := by
      have hb : Below w.heap.size w (w7.alloc (.cells (nums .u8 inner).toArray 24)) := below_alloc HB7.out _
      exact SM.step ⟨glob_below HG.out HG.out.1 hb, hb, blk_alloc HP7.out _, blk_new w7 _, _, rfl, blk_alloc HR7.out _⟩ (below_drew1 (B0 _))
    have HS8 := Aside0.mk hS8
    clear hall hall1 hall2 hin hb7 hS8
    go_wp2_with (refine store_event rfl (t := 24) (p := 8) (v := .tmp 26) rfl rfl (w1 := w7.alloc (.cells (nums .u8 inner).toArray 24)) ?hr ?_; (case hr => exact run_store_of rfl HST7.out); intro w8 hw8; subst hw8)
    refine wp_region_held_drew (S := SM w (w2.heap.size + 1) w7.heap.size (key64 key) inner) (by kernel_rfl) HS8.out (fun hHeld => ?_)
    refine wpAnyH_take (i := 0) (v := .func (.func 46) #[] #[.pointer (some ⟨w2.heap.size + 1, 0, none⟩)]) rfl (by kernel_rfl) (by kernel_rfl) (by kernel_rfl) (fun _ _ _ h => h) (Or.inl ⟨by rfl, ?hy0⟩) hHeld ?_
    case hy0 => intro w' _; go_simp
    simp only [List.getElem_toArray, List.getElem_cons_succ, List.getElem_cons_zero, Act.put, List.setIfInBounds_toArray, List.set_cons_zero, List.set_cons_succ]
    refine wpAnyH_take (i := 2) (v := .slice (some ⟨w7.heap.size, 0, none⟩) 32 32) rfl (by kernel_rfl) (by kernel_rfl) (by kernel_rfl) (fun _ _ _ h => h) (Or.inl ⟨by rfl, ?hy2⟩) hHeld ?_
    case hy2 => intro w' _; go_simp
    simp only [List.getElem_toArray, List.getElem_cons_succ, List.getElem_cons_zero, Act.put, List.setIfInBounds_toArray, List.set_cons_zero, List.set_cons_succ]
    refine wpAnyH_ready (rs := [1]) (by kernel_rfl) (by simp) ?_
    refine AllReadyH.cons rfl (fun K hK => ?_) AllReadyH.nil
    simp only [List.getElem_toArray, List.getElem_cons_succ, List.getElem_cons_zero]
    rw [if_pos (by rfl)]
    go_simp
    refine (mask_any _ (w2.heap.size + 1) (key64 key) 92 hHeld.2.2.1 (key64_len key)).mono ?_
    rintro e w9 ⟨rfl, hm9, hbb⟩
    have hsz : (w7.alloc (.cells (nums .u8 inner).toArray 24)).drew.heap.size = w7.heap.size + 1 := World.size_alloc ..
    rw [hsz] at hm9 ⊢
    refine hK.out _ _ (SM.step hHeld hbb) (fun hHeld => ?_)
    clear hK K
    refine wpAnyH_ready (rs := [3]) (by kernel_rfl) (by simp) ?_
    refine AllReadyH.cons rfl (fun K hK => ?_) AllReadyH.nil
    simp only [List.getElem_toArray, List.getElem_cons_succ, List.getElem_cons_zero]
    rw [if_pos (by rfl)]
    go_simp
    have hA9 : (w9.alloc (.cells #[.slice (some ⟨w7.heap.size + 1, 0, none⟩) 64 64, .slice (some ⟨w7.heap.size, 0, none⟩) 32 32] 22)).heap[w9.heap.size]? = some (.cells #[.slice (some ⟨w7.heap.size + 1, 0, none⟩) 64 64, .slice (some ⟨w7.heap.size, 0, none⟩) 32 32] 22 (0, 0)) := blk_new w9 _
    have hbb2 := below_alloc (B0 w9) (.cells #[.slice (some ⟨w7.heap.size + 1, 0, none⟩) 64 64, .slice (some ⟨w7.heap.size, 0, none⟩) 32 32] 22)
    have hm10 := hm9.below hbb2 (arr_lt hm9)
    refine hK.out _ _ (SM.step hHeld hbb2) (fun hHeld => ?_)
    clear hK K
    refine wpAnyH_ready (rs := [4]) (by kernel_rfl) (by simp) ?_
    refine AllReadyH.cons rfl (fun K hK => ?_) AllReadyH.nil
    simp only [List.getElem_toArray, List.getElem_cons_succ, List.getElem_cons_zero]
    rw [if_pos (by rfl)]
    go_simp
    have hcat2 : cat [xr 92 (key64 key), inner] = xr 92 (key64 key) ++ inner := by simp [cat]
    have hC10 : (Kd.int .u8).C (w9.alloc (.cells #[.slice (some ⟨w7.heap.size + 1, 0, none⟩) 64 64, .slice (some ⟨w7.heap.size, 0, none⟩) 32 32] 22)) (some ⟨w7.heap.size + 1, 0, none⟩) (xr 92 (key64 key)).length (xr 92 (key64 key)) := bytes_C hm10 (by rw [xr_len, key64_len]; decide)
    have hC11 : (Kd.int .u8).C (w9.alloc (.cells #[.slice (some ⟨w7.heap.size + 1, 0, none⟩) 64 64, .slice (some ⟨w7.heap.size, 0, none⟩) 32 32] 22)) (some ⟨w7.heap.size, 0, none⟩) inner.length inner := bytes_C hHeld.2.2.2.1 (by rw [HIL.out]; decide)
    have hKB := KB_two (xs := xr 92 (key64 key)) (ys := inner) (A1 := some ⟨w7.heap.size + 1, 0, none⟩) (A2 := some ⟨w7.heap.size, 0, none⟩) (c1 := 64) (c2 := 32) (by rw [xr_len, key64_len]; exact blk_cell hA9 0) (by rw [HIL.out]; exact blk_cell hA9 1) (by rw [xr_len, key64_len]; exact Nat.le_refl _) (by rw [HIL.out]; exact Nat.le_refl _) hC10 hC11
    refine (sum_any _ (some ⟨w9.heap.size, 0, none⟩) 2 [xr 92 (key64 key), inner] hKB (by rw [hcat2]; intro x hx; exact (List.mem_append.1 hx).elim (xr_byte _ _ x) (HIB.out x)) (by rw [hcat2, List.length_append, xr_len, key64_len, HIL.out]; decide) (show 2 ≤ 4294967296 by decide) (show 2 ≤ 2 by decide) hHeld.1).mono ?_
    rintro e w11 ⟨rfl, hbb3⟩
    rw [hcat2, ← HIN.out]
    refine hK.out _ _ (SM.step hHeld hbb3) (fun hHeld => ?_)
    clear hK K
    obtain ⟨_, hbw, _, _, zs, hzl, hzs⟩ := id hHeld
    refine wpAnyH_ready (rs := [5]) (by kernel_rfl) (by simp) ?_
    refine AllReadyH.cons rfl (fun K hK => ?_) AllReadyH.nil
    simp only [List.getElem_toArray, List.getElem_cons_succ, List.getElem_cons_zero]
    rw [if_pos (by rfl)]
    refine wp_store_row 24 (.tmp 4) (.tmp 31) rfl w.heap.size (nums .u8 (macP key (cat xss))).toArray rfl rfl 24 _ hzs (by rw [size_out]; simp [nums, macP, sumP_len]) (by simp [nums, macP, sumP_len, hzl]) (by simp [nums, Value.oneCell']) ?_
    simp only [Act.put, List.setIfInBounds_toArray, List.set_cons_zero, List.set_cons_succ]
    have hgp0 : (w2.heap.size + 1) ≠ w.heap.size := by have := HB2.out.size; have := arr_lt HR2.out; omega
    have hg80 : w7.heap.size ≠ w.heap.size := by have := arr_lt HR7.out; omega
    refine hK.out _ _ (SM.row hHeld HG.out.1 hgp0 hg80 (by simp [macP, sumP_len])) (fun hHeld => ?_)
    clear hK K
    refine wpAnyH_done (by kernel_rfl) ?_ _
    have HZS := Aside0.mk hzs
    have HBW := Aside0.mk hbw
    clear hHeld hzs hbw hgp0 hg80 hzl hKB hC10 hC11 hm10 hA9 hcat2 hbb3 hbb2 hbb hm9
    go_wp2
    refine bodyPost_ret (v := .agg (nums .u8 (macP key (cat xss))).toArray) ?_ ?_ ?_
    · exact results_c rfl _ _ w.heap.size 24 _ (0, 0) _ rfl (arr_row HZS.out _) Tryd.underlying24 rfl (by rw [size_out]; simp [nums, macP, sumP_len])
    · rfl
    · exact ⟨rfl, below_row HBW.out (Nat.le_refl _) _⟩
  · have d1 : decide (64 < key.length) = false := decide_eq_false c1
    have d2 : decide ((64 : Int) < (key.length : Int)) = false := decide_eq_false (by omega)
    have HKE := Aside0.mk (show key64 key = key ++ List.replicate (64 - key.length) 0 from by unfold key64; rw [if_neg c1])
    have HKM := Aside0.mk (show key.length ≤ 64 from by omega)
    clear c1
    have hKC : (Kd.int .u8).C ((w.alloc (.cells (nums .u8 (List.replicate 32 0)).toArray 24)).alloc (.cells (nums .u8 (List.replicate 64 0)).toArray 80)) (Ak) (key).length (key) := Kd.C_below (Kd.C_below HCK.out HB0.out) (below_alloc (B0 _) _)
    have hGP : IsArr ((w.alloc (.cells (nums .u8 (List.replicate 32 0)).toArray 24)).alloc (.cells (nums .u8 (List.replicate 64 0)).toArray 80)) (w.heap.size + 1) .u8 80 (List.replicate 64 0) := by
      have h := blk_new (w.alloc (.cells (nums .u8 (List.replicate 32 0)).toArray 24)) (.cells (nums .u8 (List.replicate 64 0)).toArray 80)
      rw [World.size_alloc] at h
      exact h
    have HRC := Aside0.mk (show IsArr ((w.alloc (.cells (nums .u8 (List.replicate 32 0)).toArray 24)).alloc (.cells (nums .u8 (List.replicate 64 0)).toArray 80)) w.heap.size .u8 24 (List.replicate 32 0) from blk_alloc HR0.out _)
    have HBC := Aside0.mk (show Below w.heap.size w ((w.alloc (.cells (nums .u8 (List.replicate 32 0)).toArray 24)).alloc (.cells (nums .u8 (List.replicate 64 0)).toArray 80)) from below_alloc HB0.out _)
    have HCN := Aside0.mk (show (nums .u8 (key)).length = Nat.min (key.length) 64 from by simp only [nums, List.length_map]; have := HKM.out; exact (Nat.min_eq_left this).symm)
    have HFIT := Aside0.mk (show 0 + (nums .u8 (key)).length ≤ (nums .u8 (List.replicate 64 0)).length from by simp only [nums, List.length_map, List.length_replicate]; have := HKM.out; omega)
    have HPOS := Aside0.mk (fun (hp : 0 < (nums .u8 (key)).length) => C_cells hKC (by simpa [nums] using hp))
    have HGP := Aside0.mk hGP
    have HWG := Aside0.mk (show w.heap.size + 1 ≤ w.heap.size + 1 from Nat.le_refl _)
    clear hKC hGP
    go_enter Tryd.func25, Tryd.ntmps25
    go_wp2_with (first | (refine wpList_copy_splice rfl (.tmp 16) (.tmp 17) 22 22 rfl 5 Tryd.underlying22 (show (Tryd.prog.info? 5).map (·.size) = some 1 by kernel_rfl) (some ⟨w.heap.size + 1, 0, none⟩) (Ak) 64 64 (key.length) (ck) rfl rfl (w.heap.size + 1) 0 (nums .u8 (List.replicate 64 0)) 80 HGP.out (nums .u8 (key)) HCN.out (fun hp => ⟨rfl, HPOS.out hp⟩) HFIT.out (fun v hv => by obtain ⟨x, _, rfl⟩ := List.mem_map.1 hv; rfl) (w.heap.size + 1) ((w.alloc (.cells (nums .u8 (List.replicate 32 0)).toArray 24)).alloc (.cells (nums .u8 (List.replicate 64 0)).toArray 80)) (Below.refl _ _) HWG.out ?_; intro w3 hid hb3))
    have hP3 : IsArr w3 (w.heap.size + 1) .u8 80 (key64 key) := by
      have h : w3.heap[w.heap.size + 1]? = some (.cells (splice (nums .u8 (List.replicate 64 0)) 0 (nums .u8 (key))).toArray 80 (0, 0)) := hid
      rw [splice_nums, List.drop_replicate, ← HKE.out] at h
      exact h
    have HP3 := Aside0.mk hP3
    have HB3 := Aside0.mk (HBC.out.trans (hb3.mono (Nat.le_succ _)))
    have HR3 := Aside0.mk (HRC.out.below hb3 (Nat.lt_succ_self _))
    clear hP3 hb3 hid
    have HG3 := Aside0.mk (glob_below HG.out HG.out.1 HB3.out)
    go_wp2_with fail
    refine (mask_any w3 (w.heap.size + 1) (key64 key) 54 HP3.out (key64_len key)).mono ?_
    rintro e w4 ⟨rfl, hm4, hb4⟩
    have HP4 := Aside0.mk (HP3.out.below hb4 (arr_lt HP3.out))
    have HR4 := Aside0.mk (HR3.out.below hb4 (arr_lt HR3.out))
    have HB4 := Aside0.mk (below_step HB3.out hb4)
    have HM4 := Aside0.mk hm4
    clear hb4 hm4
    obtain ⟨hs, hKH, hMT⟩ := of_KB (Kd.C_below HC.out HB4.out)
    obtain ⟨W5, hW5⟩ : ∃ W, W = ((w4.alloc (.cells #[.slice (some ⟨w3.heap.size, 0, none⟩) 64 64] 22)).alloc (.cells #[.slice (some ⟨w4.heap.size, 0, none⟩) 1 1, .slice A xss.length c] 77)) := ⟨_, rfl⟩
    have hb45 : Below w4.heap.size w4 W5 := by rw [hW5]; exact below_alloc (below_alloc (B0 w4) _) _
    have hA5 : W5.heap[w4.heap.size]? = some (.cells #[.slice (some ⟨w3.heap.size, 0, none⟩) 64 64] 22 (0, 0)) := by rw [hW5]; exact blk_alloc (blk_new w4 _) _
    have hB5 : W5.heap[w4.heap.size + 1]? = some (.cells #[.slice (some ⟨w4.heap.size, 0, none⟩) 1 1, .slice A xss.length c] 77 (0, 0)) := by
      have h := blk_new (w4.alloc (.cells #[.slice (some ⟨w3.heap.size, 0, none⟩) 64 64] 22)) (.cells #[.slice (some ⟨w4.heap.size, 0, none⟩) 1 1, .slice A xss.length c] 77)
      rw [World.size_alloc] at h
      rw [hW5]
      exact h
    have hk1 : KH.C W5 (some ⟨w4.heap.size, 0, none⟩) 1 [(some ⟨w3.heap.size, 0, none⟩, 64, 64)] := KH_one (blk_cell hA5 0)
    have hl5 : hs.length = xss.length := hMT.1
    have HKHH := Aside0.mk (KHH_two (h1 := [(some ⟨w3.heap.size, 0, none⟩, 64, 64)]) (h2 := hs) (blk_cell hB5 0) (by rw [hl5]; exact blk_cell hB5 1) (Nat.le_refl _) (by rw [hl5]; exact HCC.out) hk1 (Kd.C_below hKH hb45))
    have HM5 := Aside0.mk ((HM4.out.below hb45 (arr_lt HM4.out)))
    have hC5 : (Kd.int .u8).C W5 (some ⟨w3.heap.size, 0, none⟩) (xr 54 (key64 key)).length (xr 54 (key64 key)) := bytes_C HM5.out (by rw [xr_len, key64_len]; decide)
    have HMT5 := Aside0.mk (Match.cons (h := (some ⟨w3.heap.size, 0, none⟩, 64, 64)) (xs := xr 54 (key64 key)) ⟨by rw [xr_len, key64_len], by rw [xr_len, key64_len]; exact Nat.le_refl _, hC5⟩ (hMT.below hb45))
    have HP5 := Aside0.mk (HP4.out.below hb45 (arr_lt HP4.out))
    have HR5 := Aside0.mk (HR4.out.below hb45 (arr_lt HR4.out))
    have HB5 := Aside0.mk (below_step HB4.out hb45)
    have HL5 := Aside0.mk hl5
    clear hb45 hA5 hB5 hk1 hC5 hKH hMT hl5
    go_wp2_with fail
    change Calls Tryd.prog 47 _ ((w4.alloc (.cells #[.slice (some ⟨w3.heap.size, 0, none⟩) 64 64] 22)).alloc (.cells #[.slice (some ⟨w4.heap.size, 0, none⟩) 1 1, .slice A xss.length c] 77)) _
    rw [← hW5]
    refine (concat_any W5 (some ⟨w4.heap.size + 1, 0, none⟩) 2 [[(some ⟨w3.heap.size, 0, none⟩, 64, 64)], hs] HKHH.out (by have := HL5.out; have := HXL.out; simp [catH]; omega) (show 2 ≤ 4294967296 by decide)).mono ?_
    rintro e w6 ⟨v6, rfl, hR6, hb6⟩
    obtain ⟨A6, c6, rfl, hc6, hC6⟩ := Kd.R_reads hR6
    have hcat : catH [[((some ⟨w3.heap.size, 0, none⟩, 64, 64) : Hd)], hs] = (some ⟨w3.heap.size, 0, none⟩, 64, 64) :: hs := by simp [catH]
    rw [hcat] at hC6 hc6 ⊢
    have HMT6 := Aside0.mk (HMT5.out.below hb6)
    have HC6 := Aside0.mk (to_KB hC6 HMT6.out)
    have HP6 := Aside0.mk (HP5.out.below hb6 (arr_lt HP5.out))
    have HR6 := Aside0.mk (HR5.out.below hb6 (arr_lt HR5.out))
    have HB6 := Aside0.mk (below_step HB5.out hb6)
    rw [HMT6.out.1] at hc6 ⊢
    have HCC6 := Aside0.mk hc6
    clear hR6 hb6 hcat hC6 hc6 hW5 HKHH
    go_wp2_with fail
    have hall : cat (xr 54 (key64 key) :: xss) = xr 54 (key64 key) ++ cat xss := by simp [cat]
    have hall1 : ∀ x ∈ cat (xr 54 (key64 key) :: xss), 0 ≤ x ∧ x < 256 := by
      rw [hall]
      intro x hx
      exact (List.mem_append.1 hx).elim (xr_byte _ _ x) (HBY.out x)
    have hall2 : (cat (xr 54 (key64 key) :: xss)).length ≤ 4294967296 := by rw [hall, List.length_append, xr_len, key64_len]; have := HL.out; omega
    refine (sum_any w6 A6 c6 (xr 54 (key64 key) :: xss) HC6.out hall1 hall2 (by have := HXL.out; rw [List.length_cons]; omega) HCC6.out (glob_below HG.out HG.out.1 HB6.out)).mono ?_
    rintro e w7 ⟨rfl, hb7⟩
    rw [hall]
    obtain ⟨inner, hin⟩ : ∃ i, i = sumP (xr 54 (key64 key) ++ cat xss) := ⟨_, rfl⟩
    have HIN := Aside0.mk (show macP key (cat xss) = sumP (xr 92 (key64 key) ++ inner) from by rw [hin]; rfl)
    have HIL := Aside0.mk (show inner.length = 32 from by rw [hin]; exact sumP_len _)
    have HIB := Aside0.mk (show ∀ x ∈ inner, 0 ≤ x ∧ x < 256 from by rw [hin]; exact sumP_byte _)
    rw [← hin]
    have HP7 := Aside0.mk (HP6.out.below hb7 (arr_lt HP6.out))
    have HR7 := Aside0.mk (HR6.out.below hb7 (arr_lt HR6.out))
    have HB7 := Aside0.mk (below_step HB6.out hb7)
    have HST7 := Aside0.mk (run_storeAt_new (P := Tryd.prog) w7 24 (nums .u8 (List.replicate 32 0)).toArray (nums .u8 inner).toArray (by rw [size_out]; simp [nums, HIL.out]) (by simp [nums, HIL.out]) (by simp [nums, Value.oneCell']))
    have hS8 : SM w (w.heap.size + 1) w7.heap.size (key64 key) inner (w7.alloc (.cells (nums .u8 inner).toArray 24)).drew := by
      have hb : Below w.heap.size w (w7.alloc (.cells (nums .u8 inner).toArray 24)) := below_alloc HB7.out _
      exact SM.step ⟨glob_below HG.out HG.out.1 hb, hb, blk_alloc HP7.out _, blk_new w7 _, _, rfl, blk_alloc HR7.out _⟩ (below_drew1 (B0 _))
    have HS8 := Aside0.mk hS8
    clear hall hall1 hall2 hin hb7 hS8
    go_wp2_with (refine store_event rfl (t := 24) (p := 8) (v := .tmp 26) rfl rfl (w1 := w7.alloc (.cells (nums .u8 inner).toArray 24)) ?hr ?_; (case hr => exact run_store_of rfl HST7.out); intro w8 hw8; subst hw8)
    refine wp_region_held_drew (S := SM w (w.heap.size + 1) w7.heap.size (key64 key) inner) (by kernel_rfl) HS8.out (fun hHeld => ?_)
    refine wpAnyH_take (i := 0) (v := .func (.func 46) #[] #[.pointer (some ⟨w.heap.size + 1, 0, none⟩)]) rfl (by kernel_rfl) (by kernel_rfl) (by kernel_rfl) (fun _ _ _ h => h) (Or.inl ⟨by rfl, ?hy0⟩) hHeld ?_
    case hy0 => intro w' _; go_simp
    simp only [List.getElem_toArray, List.getElem_cons_succ, List.getElem_cons_zero, Act.put, List.setIfInBounds_toArray, List.set_cons_zero, List.set_cons_succ]
    refine wpAnyH_take (i := 2) (v := .slice (some ⟨w7.heap.size, 0, none⟩) 32 32) rfl (by kernel_rfl) (by kernel_rfl) (by kernel_rfl) (fun _ _ _ h => h) (Or.inl ⟨by rfl, ?hy2⟩) hHeld ?_
    case hy2 => intro w' _; go_simp
    simp only [List.getElem_toArray, List.getElem_cons_succ, List.getElem_cons_zero, Act.put, List.setIfInBounds_toArray, List.set_cons_zero, List.set_cons_succ]
    refine wpAnyH_ready (rs := [1]) (by kernel_rfl) (by simp) ?_
    refine AllReadyH.cons rfl (fun K hK => ?_) AllReadyH.nil
    simp only [List.getElem_toArray, List.getElem_cons_succ, List.getElem_cons_zero]
    rw [if_pos (by rfl)]
    go_simp
    refine (mask_any _ (w.heap.size + 1) (key64 key) 92 hHeld.2.2.1 (key64_len key)).mono ?_
    rintro e w9 ⟨rfl, hm9, hbb⟩
    have hsz : (w7.alloc (.cells (nums .u8 inner).toArray 24)).drew.heap.size = w7.heap.size + 1 := World.size_alloc ..
    rw [hsz] at hm9 ⊢
    refine hK.out _ _ (SM.step hHeld hbb) (fun hHeld => ?_)
    clear hK K
    refine wpAnyH_ready (rs := [3]) (by kernel_rfl) (by simp) ?_
    refine AllReadyH.cons rfl (fun K hK => ?_) AllReadyH.nil
    simp only [List.getElem_toArray, List.getElem_cons_succ, List.getElem_cons_zero]
    rw [if_pos (by rfl)]
    go_simp
    have hA9 : (w9.alloc (.cells #[.slice (some ⟨w7.heap.size + 1, 0, none⟩) 64 64, .slice (some ⟨w7.heap.size, 0, none⟩) 32 32] 22)).heap[w9.heap.size]? = some (.cells #[.slice (some ⟨w7.heap.size + 1, 0, none⟩) 64 64, .slice (some ⟨w7.heap.size, 0, none⟩) 32 32] 22 (0, 0)) := blk_new w9 _
    have hbb2 := below_alloc (B0 w9) (.cells #[.slice (some ⟨w7.heap.size + 1, 0, none⟩) 64 64, .slice (some ⟨w7.heap.size, 0, none⟩) 32 32] 22)
    have hm10 := hm9.below hbb2 (arr_lt hm9)
    refine hK.out _ _ (SM.step hHeld hbb2) (fun hHeld => ?_)
    clear hK K
    refine wpAnyH_ready (rs := [4]) (by kernel_rfl) (by simp) ?_
    refine AllReadyH.cons rfl (fun K hK => ?_) AllReadyH.nil
    simp only [List.getElem_toArray, List.getElem_cons_succ, List.getElem_cons_zero]
    rw [if_pos (by rfl)]
    go_simp
    have hcat2 : cat [xr 92 (key64 key), inner] = xr 92 (key64 key) ++ inner := by simp [cat]
    have hC10 : (Kd.int .u8).C (w9.alloc (.cells #[.slice (some ⟨w7.heap.size + 1, 0, none⟩) 64 64, .slice (some ⟨w7.heap.size, 0, none⟩) 32 32] 22)) (some ⟨w7.heap.size + 1, 0, none⟩) (xr 92 (key64 key)).length (xr 92 (key64 key)) := bytes_C hm10 (by rw [xr_len, key64_len]; decide)
    have hC11 : (Kd.int .u8).C (w9.alloc (.cells #[.slice (some ⟨w7.heap.size + 1, 0, none⟩) 64 64, .slice (some ⟨w7.heap.size, 0, none⟩) 32 32] 22)) (some ⟨w7.heap.size, 0, none⟩) inner.length inner := bytes_C hHeld.2.2.2.1 (by rw [HIL.out]; decide)
    have hKB := KB_two (xs := xr 92 (key64 key)) (ys := inner) (A1 := some ⟨w7.heap.size + 1, 0, none⟩) (A2 := some ⟨w7.heap.size, 0, none⟩) (c1 := 64) (c2 := 32) (by rw [xr_len, key64_len]; exact blk_cell hA9 0) (by rw [HIL.out]; exact blk_cell hA9 1) (by rw [xr_len, key64_len]; exact Nat.le_refl _) (by rw [HIL.out]; exact Nat.le_refl _) hC10 hC11
    refine (sum_any _ (some ⟨w9.heap.size, 0, none⟩) 2 [xr 92 (key64 key), inner] hKB (by rw [hcat2]; intro x hx; exact (List.mem_append.1 hx).elim (xr_byte _ _ x) (HIB.out x)) (by rw [hcat2, List.length_append, xr_len, key64_len, HIL.out]; decide) (show 2 ≤ 4294967296 by decide) (show 2 ≤ 2 by decide) hHeld.1).mono ?_
    rintro e w11 ⟨rfl, hbb3⟩
    rw [hcat2, ← HIN.out]
    refine hK.out _ _ (SM.step hHeld hbb3) (fun hHeld => ?_)
    clear hK K
    obtain ⟨_, hbw, _, _, zs, hzl, hzs⟩ := id hHeld
    refine wpAnyH_ready (rs := [5]) (by kernel_rfl) (by simp) ?_
    refine AllReadyH.cons rfl (fun K hK => ?_) AllReadyH.nil
    simp only [List.getElem_toArray, List.getElem_cons_succ, List.getElem_cons_zero]
    rw [if_pos (by rfl)]
    refine wp_store_row 24 (.tmp 4) (.tmp 31) rfl w.heap.size (nums .u8 (macP key (cat xss))).toArray rfl rfl 24 _ hzs (by rw [size_out]; simp [nums, macP, sumP_len]) (by simp [nums, macP, sumP_len, hzl]) (by simp [nums, Value.oneCell']) ?_
    simp only [Act.put, List.setIfInBounds_toArray, List.set_cons_zero, List.set_cons_succ]
    have hgp0 : (w.heap.size + 1) ≠ w.heap.size := by omega
    have hg80 : w7.heap.size ≠ w.heap.size := by have := arr_lt HR7.out; omega
    refine hK.out _ _ (SM.row hHeld HG.out.1 hgp0 hg80 (by simp [macP, sumP_len])) (fun hHeld => ?_)
    clear hK K
    refine wpAnyH_done (by kernel_rfl) ?_ _
    have HZS := Aside0.mk hzs
    have HBW := Aside0.mk hbw
    clear hHeld hzs hbw hgp0 hg80 hzl hKB hC10 hC11 hm10 hA9 hcat2 hbb3 hbb2 hbb hm9
    go_wp2
    refine bodyPost_ret (v := .agg (nums .u8 (macP key (cat xss))).toArray) ?_ ?_ ?_
    · exact results_c rfl _ _ w.heap.size 24 _ (0, 0) _ rfl (arr_row HZS.out _) Tryd.underlying24 rfl (by rw [size_out]; simp [nums, macP, sumP_len])
    · rfl
    · exact ⟨rfl, below_row HBW.out (Nat.le_refl _) _⟩

end Go.Proofs.YtogimlinfkbapaaDoor.HMacS
/- The reference's code. -/
namespace Go.Proofs.YtogimlinfkbapaaDoor.HMacR
open Go.RowKit Go.Proofs.YtogimlinfkbapaaDoorW.PrintWords Go.Proofs.YtogimlinfkbapaaDoor.HLib Go.Proofs.YtogimlinfkbapaaDoor.HSha Go.Proofs.YtogimlinfkbapaaDoor.HShaS Go.Proofs.YtogimlinfkbapaaDoor.HShaU Go.Proofs.YtogimlinfkbapaaDoor.HShaV Go.Proofs.YtogimlinfkbapaaDoor.HShaW Go.Proofs.YtogimlinfkbapaaDoor.HShaB Go.Proofs.YtogimlinfkbapaaDoor.HShaX Go.Proofs.YtogimlinfkbapaaDoor.HMac Go.Proofs.YtogimlinfkbapaaDoor.HMacC Go.Proofs.YtogimlinfkbapaaDoor.HMacS
set_option linter.unusedVariables false
set_option linter.unusedSimpArgs false

/-- Two rows that are not the same block. -/
def Dis (a b : Value) : Prop := ∀ k, a.ownBlock = some k → b.ownBlock ≠ some k
theorem Dis.ne {a b : Value} (h : Dis a b) : b.ownBlock = none ∨ b.ownBlock ≠ a.ownBlock := by
  cases hb : b.ownBlock with
  | none => exact .inl rfl
  | some k => exact .inr (fun e => h k e.symm hb)
theorem Dis.symm {a b : Value} (h : Dis a b) : Dis b a := fun k hk ha => h k ha hk
theorem Dis.grown {a a' b : Value} {W : World} (h : Dis a b) (hat : a'.ownBlock = a.ownBlock ∨ ∃ k, a'.ownBlock = some k ∧ W.heap.size ≤ k) (hb : ∀ k, b.ownBlock = some k → k < W.heap.size) : Dis a' b := by
  intro k hk hbk
  rcases hat with e | ⟨q, e, hq⟩
  · exact h k (e ▸ hk) hbk
  · rw [e] at hk
    injection hk with hk
    subst hk
    have := hb _ hbk
    omega
theorem reads_one {w : World} (x : Int) : ReadsInt (w.alloc (.cells #[.int .u8 x] 5)) .u8 (some ⟨w.heap.size, 0, none⟩) 1 [x] := by
  refine ⟨rfl, by decide, fun _ => ⟨_, rfl, fun j hj => ?_⟩⟩
  obtain rfl : j = 0 := by omega
  have e : (⟨w.heap.size, 0, none⟩ : Addr).add 0 = ⟨w.heap.size, 0, none⟩ := by unfold Addr.add; split <;> simp_all
  rw [e]
  exact blk_cell (blk_new w _) 0
theorem xr_take (c : Int) (K : List Int) (i : Nat) (h : i < K.length) : xr c (K.take i) ++ [bits .xor .u8 (K.getD i 0) c] = xr c (K.take (i + 1)) := by
  unfold xr
  rw [List.take_add_one, List.map_append, List.getElem?_eq_getElem h, List.getD_eq_getElem?_getD, List.getElem?_eq_getElem h]
  rfl
theorem key64_get (k : List Int) (i : Nat) (h : i < k.length) : (k ++ List.replicate (64 - k.length) 0).getD i 0 = k.getD i 0 := by
  rw [List.getD_eq_getElem?_getD, List.getElem?_append_left h, List.getD_eq_getElem?_getD]
theorem key64_zero (k : List Int) (i : Nat) (h : k.length ≤ i) : (k ++ List.replicate (64 - k.length) (0 : Int)).getD i 0 = 0 := by
  rw [List.getD_eq_getElem?_getD, List.getElem?_append_right h]
  by_cases hq : i - k.length < 64 - k.length
  · rw [List.getElem?_eq_getElem (by simpa using hq)]; simp
  · rw [List.getElem?_eq_none (by simpa using hq)]; rfl

set_option maxRecDepth 100000 in
set_option maxHeartbeats 16000000 in
theorem refmac_any (w : World) (vk : Value) (key : List Int) (hvk : Bv w vk key) (hkb : ∀ x ∈ key, 0 ≤ x ∧ x < 256) (hkl : key.length ≤ 4294960000) (vb : Value) (bs : List Int) (hvb : Bv w vb bs) (hbb : ∀ x ∈ bs, 0 ≤ x ∧ x < 256) (hbl : bs.length ≤ 4294960000) :
    Calls Tryd.prog 42 #[vk, vb] w fun e w' => e = .returned (.agg (nums .u8 (macP key bs)).toArray) ∧ Below w.heap.size w w' := by
  obtain ⟨Ak, ck, rfl, hck, hCk⟩ := hvk
  obtain ⟨Ab, cb, rfl, hcb, hCb⟩ := hvb
  have HCK := Aside0.mk hCk
  have HKB := Aside0.mk hkb
  have HKL := Aside0.mk hkl
  have HCB := Aside0.mk hCb
  have HBB := Aside0.mk hbb
  have HBL := Aside0.mk hbl
  clear hCk hkb hkl hCb hbb hbl hck hcb
  have HOL := Aside0.mk (own_lit (w.alloc (.cells (nums .u8 (List.replicate 32 0)).toArray 24)) (w.heap.size + 1) 5 .u8 [] (by rw [World.size_alloc]; exact Nat.le_refl _) (by decide))
  rw [World.size_alloc] at HOL
  have HR0 : Aside0 (IsArr (w.alloc (.cells (nums .u8 (List.replicate 32 0)).toArray 24)) w.heap.size .u8 24 (List.replicate 32 0)) := ⟨blk_new w _⟩
  have HBL0 : Aside0 (Below (w.heap.size + 1) (w.alloc (.cells (nums .u8 (List.replicate 32 0)).toArray 24)) ((w.alloc (.cells (nums .u8 (List.replicate 32 0)).toArray 24)).alloc (.cells (nums .u8 []).toArray 5))) := ⟨by have := below_alloc (B0 (w.alloc (.cells (nums .u8 (List.replicate 32 0)).toArray 24))) (.cells (nums .u8 []).toArray 5); rwa [World.size_alloc] at this⟩
  have HSZ0 : Aside0 (w.heap.size + 1 ≤ ((w.alloc (.cells (nums .u8 (List.replicate 32 0)).toArray 24)).alloc (.cells (nums .u8 []).toArray 5)).heap.size) := ⟨by rw [World.size_alloc, World.size_alloc]; omega⟩
  by_cases c1 : 64 < key.length
  · have d1 : decide (64 < key.length) = true := decide_eq_true c1
    have d2 : decide ((64 : Int) < (key.length : Int)) = true := decide_eq_true (by omega)
    have HKE := Aside0.mk (show key64 key = sumP key ++ List.replicate (64 - (sumP key).length) 0 from by unfold key64; rw [if_pos c1])
    clear c1
    go_enter Tryd.func42, Tryd.ntmps42
    go_wp2_with (first | (at_builtin; refine print_append_row (w0 := (w.alloc (.cells (nums .u8 (List.replicate 32 0)).toArray 24))) (w.heap.size + 1) rfl (.tmp 12) (.tmp 13) 22 5 .u8 1 rfl Tryd.underlying22 info_u8 (by decide) (.slice (some ⟨w.heap.size + 1, 0, none⟩) 0 0) ([]) (key) (Ak) _ (ck) rfl rfl ?aO ?aR ?aB ?aS ?aL ?_; (case aO => exact HOL.out); (case aR => exact ((readsInt_of.2 (Kd.reads_of_C (d := (0 : Int)) HCK.out)).below (below_alloc (B0 _) _)).below (below_alloc (B0 _) _)); (case aB => exact HBL0.out); (case aS => exact HSZ0.out); (case aL => (have := HKL.out; simp; omega)); intro v1 w1 ho hb hg hat; obtain ⟨A1, c1', rfl, hc1, hC1, hn1⟩ := Bs.of_R (Kd.R_of_own (enc := Value.int .u8) (h1 := fun _ => rfl) (ok := fun _ => True) ho (fun _ _ => trivial)); rw [List.nil_append] at hC1 hc1 ⊢; have HC1 := Aside0.mk hC1; have HN1 := Aside0.mk (And.intro hc1 hn1); have HB1 := Aside0.mk hb; clear ho hb hg hat hC1 hc1 hn1) | fail)
    have hs1 : w.heap.size + 1 ≤ w1.heap.size := by have := HB1.out.size; rw [World.size_alloc] at this; exact this
    refine (refsum_any w1 _ key ⟨A1, c1', rfl, HN1.out.1, HC1.out, HN1.out.2⟩ HKB.out (by have := HKL.out; omega)).mono ?_
    rintro e w3 ⟨rfl, hb3⟩
    have hW03 : Below (w.heap.size + 1) (w.alloc (.cells (nums .u8 (List.replicate 32 0)).toArray 24)) w3 := HB1.out.trans (hb3.mono hs1)
    have HST0 := Aside0.mk (run_storeAt_new (P := Tryd.prog) w3 24 (nums .u8 (List.replicate 32 0)).toArray (nums .u8 (sumP key)).toArray (by rw [size_out]; simp [nums, sumP_len]) (by simp [nums, sumP_len]) (by simp [nums, Value.oneCell']))
    obtain ⟨We, hWe⟩ : ∃ W, W = w3.alloc (.cells (nums .u8 (sumP key)).toArray 24) := ⟨_, rfl⟩
    have hs3 : w.heap.size + 1 ≤ w3.heap.size := Nat.le_trans hs1 hb3.size
    have HRWe : Aside0 (IsArr We w.heap.size .u8 24 (List.replicate 32 0)) := ⟨by rw [hWe]; exact blk_alloc (HR0.out.below hW03 (Nat.lt_succ_self _)) _⟩
    have HWe : Aside0 (Below w.heap.size w We) := ⟨by rw [hWe]; exact below_alloc ((below_alloc (B0 w) _).trans (hW03.mono (Nat.le_succ _))) _⟩
    have HKC : Aside0 ((Kd.int .u8).C We (some ⟨w3.heap.size, 0, none⟩) (sumP key).length (sumP key)) := ⟨by rw [hWe]; exact bytes_C (blk_new w3 _) (by rw [sumP_len]; decide)⟩
    have hst0 := HST0.out
    rw [← hWe] at hst0
    have HST := Aside0.mk hst0
    have HSL := Aside0.mk (sumP_len key)
    clear hb3 hW03 hst0 hs3 hs1 hWe HST0
    go_wp2_with (refine store_event rfl (t := 24) (p := 6) (v := .tmp 19) rfl rfl (w1 := We) ?hr ?_; (case hr => exact run_store_of rfl HST.out); intro w5 hw5; have hw6 := hw5.symm; subst hw6)
    have HKK := Aside0.mk (key64_len key)
    obtain ⟨K, hK⟩ : ∃ K, K = key64 key := ⟨_, rfl⟩
    have HME := Aside0.mk (show macP key bs = sumP (xr 92 K ++ sumP (xr 54 K ++ bs)) from by rw [hK]; rfl)
    rw [← hK] at HKE HKK
    clear hK
    go_loopg [7, 8, 9] 64 (fun kq v7 v8 v9 w' => ∃ (i : Int), v9 = .int .i64 i ∧ Aside0 (0 ≤ i ∧ (kq : Int) + i = 64) ∧ Aside0 (w'.ownsRow We.heap.size 5 1 v7 (xr 54 (K.take i.toNat)).length (nums .u8 (xr 54 (K.take i.toNat)))) ∧ Aside0 (w'.ownsRow We.heap.size 5 1 v8 (xr 92 (K.take i.toNat)).length (nums .u8 (xr 92 (K.take i.toNat)))) ∧ Aside0 (Dis v7 v8) ∧ Aside0 (Below We.heap.size We w'))
    case atStart => exact ⟨0, rfl, ⟨⟨by omega, by omega⟩⟩, ⟨⟨rfl, .inl ⟨rfl, rfl⟩⟩⟩, ⟨⟨rfl, .inl ⟨rfl, rfl⟩⟩⟩, ⟨fun k hk => by simp [Value.ownBlock] at hk⟩, ⟨B0 We⟩⟩
    case round =>
      obtain ⟨i, rfl, HA, HO7, HO8, HD, HB⟩ := hrel
      have hi0 : 0 ≤ i := HA.out.1
      have him : i ≤ 64 := by have := HA.out; omega
      by_cases c2 : i < 64
      · have e1 : decide (i < 64) = true := decide_eq_true c2
        have HT7 := Aside0.mk (xr_take 54 K i.toNat (by rw [HKK.out]; omega))
        have HT8 := Aside0.mk (xr_take 92 K i.toNat (by rw [HKK.out]; omega))
        have HL7 := Aside0.mk (show (xr 54 (K.take i.toNat)).length ≤ 64 ∧ (xr 92 (K.take i.toNat)).length ≤ 64 from by rw [xr_len, xr_len, List.length_take]; omega)
        obtain ⟨y, hy⟩ : ∃ y, y = K.getD i.toNat 0 := ⟨_, rfl⟩
        rw [← hy] at HT7 HT8
        by_cases c3 : i < 32
        · have e2 : decide (i < 32) = true := decide_eq_true c3
          have hyk : y = rd (sumP key) i := by rw [hy, HKE.out, key64_get _ _ (by have := HSL.out; omega)]; rfl
          obtain ⟨ad, ea, hx⟩ := Kd.at_int (Kd.C_below HKC.out HB.out) i hi0 (by have := HSL.out; omega)
          rw [← hyk] at hx
          injection ea with ea
          subst ea
          have ha0 : (⟨w3.heap.size, 0, none⟩ : Addr).add i.toNat = ⟨w3.heap.size, i.toNat, none⟩ := by unfold Addr.add; split <;> simp_all
          rw [ha0] at hx
          clear ha0
          clear hy hyk
          go_wp2_with (first | (at_builtin; refine print_append_row (w0 := We) (We.heap.size) rfl (.tmp 33) (.tmp 36) 22 5 .u8 1 rfl Tryd.underlying22 info_u8 (by decide) (u7) (xr 54 (K.take i.toNat)) ([bits .xor .u8 y 54]) (some ⟨wr.heap.size, 0, none⟩) _ (1) rfl rfl ?aO ?aR ?aB ?aS ?aL ?_; (case aO => exact pw_own_below HO7.out (below_alloc (B0 wr) _)); (case aR => exact reads_one _); (case aB => exact HB.out.alloc HB.out.size _); (case aS => exact (by rw [World.size_alloc]; exact Nat.le_succ_of_le HB.out.size)); (case aL => (have := HL7.out; omega)); intro v7 w7 ho hb hg hat; have HO8a := Aside0.mk (own_other (pw_own_below HO8.out (below_alloc (B0 wr) (.cells #[.int .u8 (bits .xor .u8 y 54)] 5))) hg (Dis.ne HD.out)); have HDa := Aside0.mk (Dis.grown HD.out hat (fun k hk => own_lt (pw_own_below HO8.out (below_alloc (B0 wr) (.cells #[.int .u8 (bits .xor .u8 y 54)] 5))) k hk)); have HO7a := Aside0.mk ho; have HBa := Aside0.mk hb; clear ho hb hg hat) | (at_builtin; refine print_append_row (w0 := We) (We.heap.size) rfl (.tmp 38) (.tmp 41) 22 5 .u8 1 rfl Tryd.underlying22 info_u8 (by decide) (u8) (xr 92 (K.take i.toNat)) ([bits .xor .u8 y 92]) (some ⟨w7.heap.size, 0, none⟩) _ (1) rfl rfl ?aO ?aR ?aB ?aS ?aL ?_; (case aO => exact pw_own_below HO8a.out (below_alloc (B0 w7) _)); (case aR => exact reads_one _); (case aB => exact HBa.out.alloc HBa.out.size _); (case aS => exact (by rw [World.size_alloc]; exact Nat.le_succ_of_le HBa.out.size)); (case aL => (have := HL7.out; omega)); intro v8 w8 ho hb hg hat; have HO7b := Aside0.mk (own_other (pw_own_below HO7a.out (below_alloc (B0 w7) (.cells #[.int .u8 (bits .xor .u8 y 92)] 5))) hg (Dis.ne (Dis.symm HDa.out))); have HDb := Aside0.mk (Dis.symm (Dis.grown (Dis.symm HDa.out) hat (fun k hk => own_lt (pw_own_below HO7a.out (below_alloc (B0 w7) (.cells #[.int .u8 (bits .xor .u8 y 92)] 5))) k hk))); have HO8b := Aside0.mk ho; have HBb := Aside0.mk hb; clear ho hb hg hat) | fail)
          go_roundg (64 - (i + 1).toNat)
          case measure => have := HA.out; omega
          case rel =>
            refine ⟨i + 1, rfl, ⟨⟨by omega, by omega⟩⟩, ⟨?_⟩, ⟨?_⟩, HDb, HBb⟩
            · rw [show (i + 1).toNat = i.toNat + 1 from by omega, ← HT7.out]; exact HO7b.out
            · rw [show (i + 1).toNat = i.toNat + 1 from by omega, ← HT8.out]; exact HO8b.out
        · have e2 : decide (i < 32) = false := decide_eq_false c3
          obtain rfl : y = 0 := by rw [hy, HKE.out]; exact key64_zero _ _ (by have := HSL.out; omega)
          clear hy
          go_wp2_with (first | (at_builtin; refine print_append_row (w0 := We) (We.heap.size) rfl (.tmp 33) (.tmp 36) 22 5 .u8 1 rfl Tryd.underlying22 info_u8 (by decide) (u7) (xr 54 (K.take i.toNat)) ([bits .xor .u8 0 54]) (some ⟨wr.heap.size, 0, none⟩) _ (1) rfl rfl ?aO ?aR ?aB ?aS ?aL ?_; (case aO => exact pw_own_below HO7.out (below_alloc (B0 wr) _)); (case aR => exact reads_one _); (case aB => exact HB.out.alloc HB.out.size _); (case aS => exact (by rw [World.size_alloc]; exact Nat.le_succ_of_le HB.out.size)); (case aL => (have := HL7.out; omega)); intro v7 w7 ho hb hg hat; have HO8a := Aside0.mk (own_other (pw_own_below HO8.out (below_alloc (B0 wr) (.cells #[.int .u8 (bits .xor .u8 0 54)] 5))) hg (Dis.ne HD.out)); have HDa := Aside0.mk (Dis.grown HD.out hat (fun k hk => own_lt (pw_own_below HO8.out (below_alloc (B0 wr) (.cells #[.int .u8 (bits .xor .u8 0 54)] 5))) k hk)); have HO7a := Aside0.mk ho; have HBa := Aside0.mk hb; clear ho hb hg hat) | (at_builtin; refine print_append_row (w0 := We) (We.heap.size) rfl (.tmp 38) (.tmp 41) 22 5 .u8 1 rfl Tryd.underlying22 info_u8 (by decide) (u8) (xr 92 (K.take i.toNat)) ([bits .xor .u8 0 92]) (some ⟨w7.heap.size, 0, none⟩) _ (1) rfl rfl ?aO ?aR ?aB ?aS ?aL ?_; (case aO => exact pw_own_below HO8a.out (below_alloc (B0 w7) _)); (case aR => exact reads_one _); (case aB => exact HBa.out.alloc HBa.out.size _); (case aS => exact (by rw [World.size_alloc]; exact Nat.le_succ_of_le HBa.out.size)); (case aL => (have := HL7.out; omega)); intro v8 w8 ho hb hg hat; have HO7b := Aside0.mk (own_other (pw_own_below HO7a.out (below_alloc (B0 w7) (.cells #[.int .u8 (bits .xor .u8 0 92)] 5))) hg (Dis.ne (Dis.symm HDa.out))); have HDb := Aside0.mk (Dis.symm (Dis.grown (Dis.symm HDa.out) hat (fun k hk => own_lt (pw_own_below HO7a.out (below_alloc (B0 w7) (.cells #[.int .u8 (bits .xor .u8 0 92)] 5))) k hk))); have HO8b := Aside0.mk ho; have HBb := Aside0.mk hb; clear ho hb hg hat) | fail)
          go_roundg (64 - (i + 1).toNat)
          case measure => have := HA.out; omega
          case rel =>
            refine ⟨i + 1, rfl, ⟨⟨by omega, by omega⟩⟩, ⟨?_⟩, ⟨?_⟩, HDb, HBb⟩
            · rw [show (i + 1).toNat = i.toNat + 1 from by omega, ← HT7.out]; exact HO7b.out
            · rw [show (i + 1).toNat = i.toNat + 1 from by omega, ← HT8.out]; exact HO8b.out
      · have e1 : decide (i < 64) = false := decide_eq_false c2
        rw [show K.take i.toNat = K from List.take_of_length_le (by rw [HKK.out]; omega)] at HO7 HO8
        have HCBr := Aside0.mk (Kd.C_below (Kd.C_below HCB.out HWe.out) HB.out)
        have HXL := Aside0.mk (show (xr 54 K).length = 64 ∧ (xr 92 K).length = 64 from by rw [xr_len, xr_len]; exact ⟨HKK.out, HKK.out⟩)
        go_wp2_with (first | (at_builtin; refine print_append_row (w0 := We) (We.heap.size) rfl (.tmp 43) (.tmp 44) 22 5 .u8 1 rfl Tryd.underlying22 info_u8 (by decide) (u7) (xr 54 K) (bs) (Ab) _ (cb) rfl rfl ?aO ?aR ?aB ?aS ?aL ?_; (case aO => exact HO7.out); (case aR => exact readsInt_of.2 (Kd.reads_of_C (d := (0 : Int)) HCBr.out)); (case aB => exact HB.out); (case aS => exact HB.out.size); (case aL => (have := HXL.out; have := HBL.out; omega)); intro v9 w9 ho hb hg hat; have HO8a := Aside0.mk (own_other HO8.out hg (Dis.ne HD.out)); have HO9 := Aside0.mk ho; have HB9 := Aside0.mk hb; clear ho hb hg hat) | fail)
        have hIB : ∀ x ∈ xr 54 K ++ bs, 0 ≤ x ∧ x < 256 := fun x hx => (List.mem_append.1 hx).elim (xr_byte _ _ x) (HBB.out x)
        refine (refsum_any w9 _ (xr 54 K ++ bs) (Bs.of_R (Kd.R_of_own (h1 := fun _ => rfl) (ok := fun _ => True) HO9.out (fun _ _ => trivial))) hIB (by rw [List.length_append]; have := HXL.out; have := HBL.out; omega)).mono ?_
        rintro e w10 ⟨rfl, hb10⟩
        obtain ⟨inner, hin⟩ : ∃ q, q = sumP (xr 54 K ++ bs) := ⟨_, rfl⟩
        have HIL := Aside0.mk (show inner.length = 32 from by rw [hin]; exact sumP_len _)
        have HIB := Aside0.mk (show ∀ x ∈ inner, 0 ≤ x ∧ x < 256 from by rw [hin]; exact sumP_byte _)
        rw [← hin] at HME ⊢
        clear hin hIB
        have HO10 := Aside0.mk (pw_own_below HO8a.out hb10)
        have HB10 := Aside0.mk (HB9.out.trans (hb10.mono HB9.out.size))
        have HST := Aside0.mk (run_storeAt_new (P := Tryd.prog) w10 24 (nums .u8 (List.replicate 32 0)).toArray (nums .u8 inner).toArray (by rw [size_out]; simp [nums, HIL.out]) (by simp [nums, HIL.out]) (by simp [nums, Value.oneCell']))
        have HCI : Aside0 ((Kd.int .u8).C (w10.alloc (.cells (nums .u8 inner).toArray 24)) (some ⟨w10.heap.size, 0, none⟩) inner.length inner) := ⟨bytes_C (blk_new w10 _) (by rw [HIL.out]; decide)⟩
        rw [HIL.out] at HCI
        clear hb10
        go_wp2_with (first | (refine store_event rfl (t := 24) (p := 11) (v := .tmp 46) rfl rfl (w1 := w10.alloc (.cells (nums .u8 inner).toArray 24)) ?hr ?_; (case hr => exact run_store_of rfl HST.out); intro w5 hw5; subst hw5) | (at_builtin; refine print_append_row (w0 := We) (We.heap.size) rfl (.tmp 47) (.tmp 48) 22 5 .u8 1 rfl Tryd.underlying22 info_u8 (by decide) (u8) (xr 92 K) (inner) (some ⟨w10.heap.size, 0, none⟩) _ (32) rfl rfl ?aO ?aR ?aB ?aS ?aL ?_; (case aO => exact pw_own_below HO10.out (below_alloc (B0 w10) _)); (case aR => exact (readsInt_of.2 (Kd.reads_of_C (d := (0 : Int)) HCI.out))); (case aB => exact HB10.out.alloc HB10.out.size _); (case aS => exact (by rw [World.size_alloc]; exact Nat.le_succ_of_le HB10.out.size)); (case aL => (have := HXL.out; omega)); intro v11 w11 ho hb hg hat; have HO11 := Aside0.mk ho; have HB11 := Aside0.mk hb; clear ho hb hg hat) | fail)
        have hOB : ∀ x ∈ xr 92 K ++ inner, 0 ≤ x ∧ x < 256 := fun x hx => (List.mem_append.1 hx).elim (xr_byte _ _ x) (HIB.out x)
        refine (refsum_any w11 _ (xr 92 K ++ inner) (Bs.of_R (Kd.R_of_own (h1 := fun _ => rfl) (ok := fun _ => True) HO11.out (fun _ _ => trivial))) hOB (by rw [List.length_append]; have := HXL.out; have := HIL.out; omega)).mono ?_
        rintro e w12 ⟨rfl, hb12⟩
        rw [← HME.out]
        have HBF := Aside0.mk (HB11.out.trans (hb12.mono HB11.out.size))
        have HRF := Aside0.mk (HRWe.out.below HBF.out (arr_lt HRWe.out))
        have HSF := Aside0.mk (arr_store (P := Tryd.prog) (ys := macP key bs) HRF.out (by rw [size_out]; rfl) (by unfold macP; rw [sumP_len]; rfl))
        clear hb12 hOB
        go_wp2_with (refine store_event rfl (t := 24) (p := 4) (v := .tmp 50) rfl rfl (w1 := w12.setRow w.heap.size (nums .u8 (macP key bs)).toArray) ?hr ?_; (case hr => exact run_store_of rfl HSF.out); intro w2 hw2; subst hw2)
        refine bodyPost_ret (v := .agg (nums .u8 (macP key bs)).toArray) ?_ ?_ ?_
        · exact results_c rfl _ _ w.heap.size 24 _ (0, 0) _ rfl (arr_row HRF.out _) Tryd.underlying24 rfl (by rw [size_out]; simp [nums, macP, sumP_len])
        · rfl
        · exact ⟨rfl, below_row (HWe.out.trans (HBF.out.mono HWe.out.size)) (Nat.le_refl _) _⟩
  · have d1 : decide (64 < key.length) = false := decide_eq_false c1
    have d2 : decide ((64 : Int) < (key.length : Int)) = false := decide_eq_false (by omega)
    have HKE := Aside0.mk (show key64 key = key ++ List.replicate (64 - key.length) 0 from by unfold key64; rw [if_neg c1])
    clear c1
    go_enter Tryd.func42, Tryd.ntmps42
    go_wp2_with (first | (at_builtin; refine print_append_row (w0 := (w.alloc (.cells (nums .u8 (List.replicate 32 0)).toArray 24))) (w.heap.size + 1) rfl (.tmp 12) (.tmp 13) 22 5 .u8 1 rfl Tryd.underlying22 info_u8 (by decide) (.slice (some ⟨w.heap.size + 1, 0, none⟩) 0 0) ([]) (key) (Ak) _ (ck) rfl rfl ?aO ?aR ?aB ?aS ?aL ?_; (case aO => exact HOL.out); (case aR => exact ((readsInt_of.2 (Kd.reads_of_C (d := (0 : Int)) HCK.out)).below (below_alloc (B0 _) _)).below (below_alloc (B0 _) _)); (case aB => exact HBL0.out); (case aS => exact HSZ0.out); (case aL => (have := HKL.out; simp; omega)); intro v1 w1 ho hb hg hat; obtain ⟨A1, c1', rfl, hc1, hC1, hn1⟩ := Bs.of_R (Kd.R_of_own (enc := Value.int .u8) (h1 := fun _ => rfl) (ok := fun _ => True) ho (fun _ _ => trivial)); rw [List.nil_append] at hC1 hc1 ⊢; have HC1 := Aside0.mk hC1; have HN1 := Aside0.mk (And.intro hc1 hn1); have HB1 := Aside0.mk hb; clear ho hb hg hat hC1 hc1 hn1) | fail)
    obtain ⟨We, rfl⟩ : ∃ x, x = w1 := ⟨_, rfl⟩
    have HRWe : Aside0 (IsArr We w.heap.size .u8 24 (List.replicate 32 0)) := ⟨HR0.out.below HB1.out (Nat.lt_succ_self _)⟩
    have HWe : Aside0 (Below w.heap.size w We) := ⟨(below_alloc (B0 w) _).trans (HB1.out.mono (Nat.le_succ _))⟩
    have HKC := HC1
    have HKK := Aside0.mk (key64_len key)
    obtain ⟨K, hK⟩ : ∃ K, K = key64 key := ⟨_, rfl⟩
    have HME := Aside0.mk (show macP key bs = sumP (xr 92 K ++ sumP (xr 54 K ++ bs)) from by rw [hK]; rfl)
    rw [← hK] at HKE HKK
    clear hK
    go_loopg [7, 8, 9] 64 (fun kq v7 v8 v9 w' => ∃ (i : Int), v9 = .int .i64 i ∧ Aside0 (0 ≤ i ∧ (kq : Int) + i = 64) ∧ Aside0 (w'.ownsRow We.heap.size 5 1 v7 (xr 54 (K.take i.toNat)).length (nums .u8 (xr 54 (K.take i.toNat)))) ∧ Aside0 (w'.ownsRow We.heap.size 5 1 v8 (xr 92 (K.take i.toNat)).length (nums .u8 (xr 92 (K.take i.toNat)))) ∧ Aside0 (Dis v7 v8) ∧ Aside0 (Below We.heap.size We w'))
    case atStart => exact ⟨0, rfl, ⟨⟨by omega, by omega⟩⟩, ⟨⟨rfl, .inl ⟨rfl, rfl⟩⟩⟩, ⟨⟨rfl, .inl ⟨rfl, rfl⟩⟩⟩, ⟨fun k hk => by simp [Value.ownBlock] at hk⟩, ⟨B0 We⟩⟩
    case round =>
      obtain ⟨i, rfl, HA, HO7, HO8, HD, HB⟩ := hrel
      have hi0 : 0 ≤ i := HA.out.1
      have him : i ≤ 64 := by have := HA.out; omega
      by_cases c2 : i < 64
      · have e1 : decide (i < 64) = true := decide_eq_true c2
        have HT7 := Aside0.mk (xr_take 54 K i.toNat (by rw [HKK.out]; omega))
        have HT8 := Aside0.mk (xr_take 92 K i.toNat (by rw [HKK.out]; omega))
        have HL7 := Aside0.mk (show (xr 54 (K.take i.toNat)).length ≤ 64 ∧ (xr 92 (K.take i.toNat)).length ≤ 64 from by rw [xr_len, xr_len, List.length_take]; omega)
        obtain ⟨y, hy⟩ : ∃ y, y = K.getD i.toNat 0 := ⟨_, rfl⟩
        rw [← hy] at HT7 HT8
        by_cases c3 : i < (key.length : Int)
        · have e2 : decide (i < (key.length : Int)) = true := decide_eq_true c3
          have hyk : y = rd (key) i := by rw [hy, HKE.out, key64_get _ _ (by omega)]; rfl
          obtain ⟨ad, ea, hx⟩ := Kd.at_int (Kd.C_below HKC.out HB.out) i hi0 (by omega)
          rw [← hyk] at hx
          subst ea
          clear hy hyk
          go_wp2_with (first | (at_builtin; refine print_append_row (w0 := We) (We.heap.size) rfl (.tmp 33) (.tmp 36) 22 5 .u8 1 rfl Tryd.underlying22 info_u8 (by decide) (u7) (xr 54 (K.take i.toNat)) ([bits .xor .u8 y 54]) (some ⟨wr.heap.size, 0, none⟩) _ (1) rfl rfl ?aO ?aR ?aB ?aS ?aL ?_; (case aO => exact pw_own_below HO7.out (below_alloc (B0 wr) _)); (case aR => exact reads_one _); (case aB => exact HB.out.alloc HB.out.size _); (case aS => exact (by rw [World.size_alloc]; exact Nat.le_succ_of_le HB.out.size)); (case aL => (have := HL7.out; omega)); intro v7 w7 ho hb hg hat; have HO8a := Aside0.mk (own_other (pw_own_below HO8.out (below_alloc (B0 wr) (.cells #[.int .u8 (bits .xor .u8 y 54)] 5))) hg (Dis.ne HD.out)); have HDa := Aside0.mk (Dis.grown HD.out hat (fun k hk => own_lt (pw_own_below HO8.out (below_alloc (B0 wr) (.cells #[.int .u8 (bits .xor .u8 y 54)] 5))) k hk)); have HO7a := Aside0.mk ho; have HBa := Aside0.mk hb; clear ho hb hg hat) | (at_builtin; refine print_append_row (w0 := We) (We.heap.size) rfl (.tmp 38) (.tmp 41) 22 5 .u8 1 rfl Tryd.underlying22 info_u8 (by decide) (u8) (xr 92 (K.take i.toNat)) ([bits .xor .u8 y 92]) (some ⟨w7.heap.size, 0, none⟩) _ (1) rfl rfl ?aO ?aR ?aB ?aS ?aL ?_; (case aO => exact pw_own_below HO8a.out (below_alloc (B0 w7) _)); (case aR => exact reads_one _); (case aB => exact HBa.out.alloc HBa.out.size _); (case aS => exact (by rw [World.size_alloc]; exact Nat.le_succ_of_le HBa.out.size)); (case aL => (have := HL7.out; omega)); intro v8 w8 ho hb hg hat; have HO7b := Aside0.mk (own_other (pw_own_below HO7a.out (below_alloc (B0 w7) (.cells #[.int .u8 (bits .xor .u8 y 92)] 5))) hg (Dis.ne (Dis.symm HDa.out))); have HDb := Aside0.mk (Dis.symm (Dis.grown (Dis.symm HDa.out) hat (fun k hk => own_lt (pw_own_below HO7a.out (below_alloc (B0 w7) (.cells #[.int .u8 (bits .xor .u8 y 92)] 5))) k hk))); have HO8b := Aside0.mk ho; have HBb := Aside0.mk hb; clear ho hb hg hat) | fail)
          go_roundg (64 - (i + 1).toNat)
          case measure => have := HA.out; omega
          case rel =>
            refine ⟨i + 1, rfl, ⟨⟨by omega, by omega⟩⟩, ⟨?_⟩, ⟨?_⟩, HDb, HBb⟩
            · rw [show (i + 1).toNat = i.toNat + 1 from by omega, ← HT7.out]; exact HO7b.out
            · rw [show (i + 1).toNat = i.toNat + 1 from by omega, ← HT8.out]; exact HO8b.out
        · have e2 : decide (i < (key.length : Int)) = false := decide_eq_false c3
          obtain rfl : y = 0 := by rw [hy, HKE.out]; exact key64_zero _ _ (by omega)
          clear hy
          go_wp2_with (first | (at_builtin; refine print_append_row (w0 := We) (We.heap.size) rfl (.tmp 33) (.tmp 36) 22 5 .u8 1 rfl Tryd.underlying22 info_u8 (by decide) (u7) (xr 54 (K.take i.toNat)) ([bits .xor .u8 0 54]) (some ⟨wr.heap.size, 0, none⟩) _ (1) rfl rfl ?aO ?aR ?aB ?aS ?aL ?_; (case aO => exact pw_own_below HO7.out (below_alloc (B0 wr) _)); (case aR => exact reads_one _); (case aB => exact HB.out.alloc HB.out.size _); (case aS => exact (by rw [World.size_alloc]; exact Nat.le_succ_of_le HB.out.size)); (case aL => (have := HL7.out; omega)); intro v7 w7 ho hb hg hat; have HO8a := Aside0.mk (own_other (pw_own_below HO8.out (below_alloc (B0 wr) (.cells #[.int .u8 (bits .xor .u8 0 54)] 5))) hg (Dis.ne HD.out)); have HDa := Aside0.mk (Dis.grown HD.out hat (fun k hk => own_lt (pw_own_below HO8.out (below_alloc (B0 wr) (.cells #[.int .u8 (bits .xor .u8 0 54)] 5))) k hk)); have HO7a := Aside0.mk ho; have HBa := Aside0.mk hb; clear ho hb hg hat) | (at_builtin; refine print_append_row (w0 := We) (We.heap.size) rfl (.tmp 38) (.tmp 41) 22 5 .u8 1 rfl Tryd.underlying22 info_u8 (by decide) (u8) (xr 92 (K.take i.toNat)) ([bits .xor .u8 0 92]) (some ⟨w7.heap.size, 0, none⟩) _ (1) rfl rfl ?aO ?aR ?aB ?aS ?aL ?_; (case aO => exact pw_own_below HO8a.out (below_alloc (B0 w7) _)); (case aR => exact reads_one _); (case aB => exact HBa.out.alloc HBa.out.size _); (case aS => exact (by rw [World.size_alloc]; exact Nat.le_succ_of_le HBa.out.size)); (case aL => (have := HL7.out; omega)); intro v8 w8 ho hb hg hat; have HO7b := Aside0.mk (own_other (pw_own_below HO7a.out (below_alloc (B0 w7) (.cells #[.int .u8 (bits .xor .u8 0 92)] 5))) hg (Dis.ne (Dis.symm HDa.out))); have HDb := Aside0.mk (Dis.symm (Dis.grown (Dis.symm HDa.out) hat (fun k hk => own_lt (pw_own_below HO7a.out (below_alloc (B0 w7) (.cells #[.int .u8 (bits .xor .u8 0 92)] 5))) k hk))); have HO8b := Aside0.mk ho; have HBb := Aside0.mk hb; clear ho hb hg hat) | fail)
          go_roundg (64 - (i + 1).toNat)
          case measure => have := HA.out; omega
          case rel =>
            refine ⟨i + 1, rfl, ⟨⟨by omega, by omega⟩⟩, ⟨?_⟩, ⟨?_⟩, HDb, HBb⟩
            · rw [show (i + 1).toNat = i.toNat + 1 from by omega, ← HT7.out]; exact HO7b.out
            · rw [show (i + 1).toNat = i.toNat + 1 from by omega, ← HT8.out]; exact HO8b.out
      · have e1 : decide (i < 64) = false := decide_eq_false c2
        rw [show K.take i.toNat = K from List.take_of_length_le (by rw [HKK.out]; omega)] at HO7 HO8
        have HCBr := Aside0.mk (Kd.C_below (Kd.C_below HCB.out HWe.out) HB.out)
        have HXL := Aside0.mk (show (xr 54 K).length = 64 ∧ (xr 92 K).length = 64 from by rw [xr_len, xr_len]; exact ⟨HKK.out, HKK.out⟩)
        go_wp2_with (first | (at_builtin; refine print_append_row (w0 := We) (We.heap.size) rfl (.tmp 43) (.tmp 44) 22 5 .u8 1 rfl Tryd.underlying22 info_u8 (by decide) (u7) (xr 54 K) (bs) (Ab) _ (cb) rfl rfl ?aO ?aR ?aB ?aS ?aL ?_; (case aO => exact HO7.out); (case aR => exact readsInt_of.2 (Kd.reads_of_C (d := (0 : Int)) HCBr.out)); (case aB => exact HB.out); (case aS => exact HB.out.size); (case aL => (have := HXL.out; have := HBL.out; omega)); intro v9 w9 ho hb hg hat; have HO8a := Aside0.mk (own_other HO8.out hg (Dis.ne HD.out)); have HO9 := Aside0.mk ho; have HB9 := Aside0.mk hb; clear ho hb hg hat) | fail)
        have hIB : ∀ x ∈ xr 54 K ++ bs, 0 ≤ x ∧ x < 256 := fun x hx => (List.mem_append.1 hx).elim (xr_byte _ _ x) (HBB.out x)
        refine (refsum_any w9 _ (xr 54 K ++ bs) (Bs.of_R (Kd.R_of_own (h1 := fun _ => rfl) (ok := fun _ => True) HO9.out (fun _ _ => trivial))) hIB (by rw [List.length_append]; have := HXL.out; have := HBL.out; omega)).mono ?_
        rintro e w10 ⟨rfl, hb10⟩
        obtain ⟨inner, hin⟩ : ∃ q, q = sumP (xr 54 K ++ bs) := ⟨_, rfl⟩
        have HIL := Aside0.mk (show inner.length = 32 from by rw [hin]; exact sumP_len _)
        have HIB := Aside0.mk (show ∀ x ∈ inner, 0 ≤ x ∧ x < 256 from by rw [hin]; exact sumP_byte _)
        rw [← hin] at HME ⊢
        clear hin hIB
        have HO10 := Aside0.mk (pw_own_below HO8a.out hb10)
        have HB10 := Aside0.mk (HB9.out.trans (hb10.mono HB9.out.size))
        have HST := Aside0.mk (run_storeAt_new (P := Tryd.prog) w10 24 (nums .u8 (List.replicate 32 0)).toArray (nums .u8 inner).toArray (by rw [size_out]; simp [nums, HIL.out]) (by simp [nums, HIL.out]) (by simp [nums, Value.oneCell']))
        have HCI : Aside0 ((Kd.int .u8).C (w10.alloc (.cells (nums .u8 inner).toArray 24)) (some ⟨w10.heap.size, 0, none⟩) inner.length inner) := ⟨bytes_C (blk_new w10 _) (by rw [HIL.out]; decide)⟩
        rw [HIL.out] at HCI
        clear hb10
        go_wp2_with (first | (refine store_event rfl (t := 24) (p := 11) (v := .tmp 46) rfl rfl (w1 := w10.alloc (.cells (nums .u8 inner).toArray 24)) ?hr ?_; (case hr => exact run_store_of rfl HST.out); intro w5 hw5; subst hw5) | (at_builtin; refine print_append_row (w0 := We) (We.heap.size) rfl (.tmp 47) (.tmp 48) 22 5 .u8 1 rfl Tryd.underlying22 info_u8 (by decide) (u8) (xr 92 K) (inner) (some ⟨w10.heap.size, 0, none⟩) _ (32) rfl rfl ?aO ?aR ?aB ?aS ?aL ?_; (case aO => exact pw_own_below HO10.out (below_alloc (B0 w10) _)); (case aR => exact (readsInt_of.2 (Kd.reads_of_C (d := (0 : Int)) HCI.out))); (case aB => exact HB10.out.alloc HB10.out.size _); (case aS => exact (by rw [World.size_alloc]; exact Nat.le_succ_of_le HB10.out.size)); (case aL => (have := HXL.out; omega)); intro v11 w11 ho hb hg hat; have HO11 := Aside0.mk ho; have HB11 := Aside0.mk hb; clear ho hb hg hat) | fail)
        have hOB : ∀ x ∈ xr 92 K ++ inner, 0 ≤ x ∧ x < 256 := fun x hx => (List.mem_append.1 hx).elim (xr_byte _ _ x) (HIB.out x)
        refine (refsum_any w11 _ (xr 92 K ++ inner) (Bs.of_R (Kd.R_of_own (h1 := fun _ => rfl) (ok := fun _ => True) HO11.out (fun _ _ => trivial))) hOB (by rw [List.length_append]; have := HXL.out; have := HIL.out; omega)).mono ?_
        rintro e w12 ⟨rfl, hb12⟩
        rw [← HME.out]
        have HBF := Aside0.mk (HB11.out.trans (hb12.mono HB11.out.size))
        have HRF := Aside0.mk (HRWe.out.below HBF.out (arr_lt HRWe.out))
        have HSF := Aside0.mk (arr_store (P := Tryd.prog) (ys := macP key bs) HRF.out (by rw [size_out]; rfl) (by unfold macP; rw [sumP_len]; rfl))
        clear hb12 hOB
        go_wp2_with (refine store_event rfl (t := 24) (p := 4) (v := .tmp 50) rfl rfl (w1 := w12.setRow w.heap.size (nums .u8 (macP key bs)).toArray) ?hr ?_; (case hr => exact run_store_of rfl HSF.out); intro w2 hw2; subst hw2)
        refine bodyPost_ret (v := .agg (nums .u8 (macP key bs)).toArray) ?_ ?_ ?_
        · exact results_c rfl _ _ w.heap.size 24 _ (0, 0) _ rfl (arr_row HRF.out _) Tryd.underlying24 rfl (by rw [size_out]; simp [nums, macP, sumP_len])
        · rfl
        · exact ⟨rfl, below_row (HWe.out.trans (HBF.out.mono HWe.out.size)) (Nat.le_refl _) _⟩

end Go.Proofs.YtogimlinfkbapaaDoor.HMacR
/- mac.Equal, mac.Check. -/
namespace Go.Proofs.YtogimlinfkbapaaDoor.HMacQ
open Go.RowKit Go.Proofs.YtogimlinfkbapaaDoorW.PrintWords Go.Proofs.YtogimlinfkbapaaDoorW.PrintMore Go.Proofs.YtogimlinfkbapaaDoor.HLib Go.Proofs.YtogimlinfkbapaaDoor.HSha Go.Proofs.YtogimlinfkbapaaDoor.HShaS Go.Proofs.YtogimlinfkbapaaDoor.HShaU Go.Proofs.YtogimlinfkbapaaDoor.HShaV Go.Proofs.YtogimlinfkbapaaDoor.HShaW Go.Proofs.YtogimlinfkbapaaDoor.HShaB Go.Proofs.YtogimlinfkbapaaDoor.HShaX Go.Proofs.YtogimlinfkbapaaDoor.HMac Go.Proofs.YtogimlinfkbapaaDoor.HMacC Go.Proofs.YtogimlinfkbapaaDoor.HMacS Go.Proofs.YtogimlinfkbapaaDoor.HMacR Go.Proofs.YtogimlinfkbapaaDoor.HPr
set_option linter.unusedVariables false
set_option linter.unusedSimpArgs false

theorem u8_in (x : Int) (h0 : 0 ≤ x) (h1 : x < 256) : IntKind.u8.wrap x = x := by rw [IntKind.wrap_u8]; omega
theorem u8_nat_or (a b : Nat) (ha : a < 256) (hb : b < 256) : bits .or .u8 (a : Int) (b : Int) = ((a ||| b : Nat) : Int) := by
  have hx : a ||| b < 2 ^ 8 := Nat.or_lt_two_pow (by omega) (by omega)
  have ha2 : (BitVec.ofInt 8 (a : Int)).toNat = a := by simp; omega
  have hb2 : (BitVec.ofInt 8 (b : Int)).toNat = b := by simp; omega
  show IntKind.u8.wrap ((BitVec.ofInt 8 (a : Int) ||| BitVec.ofInt 8 (b : Int)).toNat : Int) = _
  rw [BitVec.toNat_or, ha2, hb2]
  exact u8_in _ (by omega) (by omega)
theorem u8_nat_xor (a b : Nat) (ha : a < 256) (hb : b < 256) : bits .xor .u8 (a : Int) (b : Int) = ((a ^^^ b : Nat) : Int) := by
  have hx : a ^^^ b < 2 ^ 8 := Nat.xor_lt_two_pow (by omega) (by omega)
  have ha2 : (BitVec.ofInt 8 (a : Int)).toNat = a := by simp; omega
  have hb2 : (BitVec.ofInt 8 (b : Int)).toNat = b := by simp; omega
  show IntKind.u8.wrap ((BitVec.ofInt 8 (a : Int) ^^^ BitVec.ofInt 8 (b : Int)).toNat : Int) = _
  rw [BitVec.toNat_xor, ha2, hb2]
  exact u8_in _ (by omega) (by omega)
theorem nat_xor_zero (a b : Nat) (h : a ^^^ b = 0) : a = b := by
  have h2 : (a ^^^ b) ^^^ b = 0 ^^^ b := by rw [h]
  rwa [Nat.xor_assoc, Nat.xor_self, Nat.xor_zero, Nat.zero_xor] at h2
/-- diff behind one more byte. -/
theorem diff_step (d x y : Int) (hd : 0 ≤ d ∧ d < 256) (hx : 0 ≤ x ∧ x < 256) (hy : 0 ≤ y ∧ y < 256) : (0 ≤ bits .or .u8 d (bits .xor .u8 x y) ∧ bits .or .u8 d (bits .xor .u8 x y) < 256) ∧ (bits .or .u8 d (bits .xor .u8 x y) = 0 ↔ d = 0 ∧ x = y) := by
  obtain ⟨D, rfl⟩ := Int.eq_ofNat_of_zero_le hd.1
  obtain ⟨X, rfl⟩ := Int.eq_ofNat_of_zero_le hx.1
  obtain ⟨Y, rfl⟩ := Int.eq_ofNat_of_zero_le hy.1
  have hxy : X ^^^ Y < 2 ^ 8 := Nat.xor_lt_two_pow (by omega) (by omega)
  have hor : D ||| (X ^^^ Y) < 2 ^ 8 := Nat.or_lt_two_pow (by omega) hxy
  rw [u8_nat_xor X Y (by omega) (by omega), u8_nat_or D (X ^^^ Y) (by omega) (by omega)]
  refine ⟨⟨by omega, by omega⟩, fun h => ?_, fun ⟨h1, h2⟩ => ?_⟩
  · have h3 : D ||| (X ^^^ Y) = 0 := by omega
    have h4 := Nat.or_eq_zero_iff.1 h3
    have := nat_xor_zero X Y h4.2
    omega
  · have e1 : D = 0 := by omega
    have e2 : X = Y := by omega
    rw [e1, e2, Nat.xor_self]
    rfl
theorem equal_step (xs ys : List Int) (hn : xs.length = ys.length) (hl : xs.length ≤ 4294967296) (hx : ∀ x ∈ xs, 0 ≤ x ∧ x < 256) (hy : ∀ x ∈ ys, 0 ≤ x ∧ x < 256) :
    ∀ (n i : Nat) (d : Int), i + n = xs.length → (0 ≤ d ∧ d < 256) → (d = 0 ↔ xs.take i = ys.take i) → mac_Equal.l0 (n + 1) xs ys d (xs.length : Int) (i : Int) = some (decide (xs = ys)) := by
  intro n
  induction n with
  | zero =>
    intro i d hi hd hz
    obtain rfl : i = xs.length := by omega
    rw [mac_Equal.l0, if_neg (by omega)]
    rw [List.take_of_length_le (Nat.le_refl _), List.take_of_length_le (by omega)] at hz
    congr 1
    by_cases h : d = 0
    · rw [decide_eq_true (hz.1 h), h]; rfl
    · rw [decide_eq_false (fun e => h (hz.2 e))]; simpa using h
  | succ n ih =>
    intro i d hi hd hz
    have e : wrap64 ((i : Int) + 1) = ((i + 1 : Nat) : Int) := by rw [IntWalk.wrap64_in _ (by omega)]; omega
    have hxi : rd xs (i : Int) = xs[i]'(by omega) := by
      rw [rd, show ((i : Int)).toNat = i from by omega, List.getD_eq_getElem?_getD, List.getElem?_eq_getElem (by omega)]; rfl
    have hyi : rd ys (i : Int) = ys[i]'(by omega) := by
      rw [rd, show ((i : Int)).toNat = i from by omega, List.getD_eq_getElem?_getD, List.getElem?_eq_getElem (by omega)]; rfl
    have hst := diff_step d (xs[i]'(by omega)) (ys[i]'(by omega)) hd (hx _ (List.getElem_mem _)) (hy _ (List.getElem_mem _))
    rw [mac_Equal.l0, if_pos (by omega), if_pos (by omega), if_pos (by omega), if_pos (by omega), e, hxi, hyi]
    refine ih (i + 1) _ (by omega) hst.1 ?_
    rw [hst.2, hz, List.take_add_one, List.take_add_one, List.getElem?_eq_getElem (show i < xs.length by omega), List.getElem?_eq_getElem (show i < ys.length by omega)]
    constructor
    · rintro ⟨h1, h2⟩
      rw [h1, h2]
    · intro h
      have h1 := List.append_inj h (by rw [List.length_take, List.length_take]; omega)
      exact ⟨h1.1, by simpa using h1.2⟩
theorem equal_any (w : World) (a b : Value) (xs ys : List Int) (ha : Bv w a xs) (hb : Bv w b ys) (hx : ∀ x ∈ xs, 0 ≤ x ∧ x < 256) (hy : ∀ x ∈ ys, 0 ≤ x ∧ x < 256) (hl : xs.length ≤ 4294967296) :
    Calls Tryd.prog 36 #[a, b] w fun e w' => e = .returned (.bool (decide (xs = ys))) ∧ Below w.heap.size w w' := by
  obtain ⟨A, c, rfl, hc, hC⟩ := ha
  obtain ⟨B, d, rfl, hd, hD⟩ := hb
  have hf : mac_Equal.f (xs.length + 1) xs ys = some (decide (xs = ys)) := by
    unfold mac_Equal.f
    by_cases h : xs.length = ys.length
    · rw [if_pos (by omega)]
      exact equal_step xs ys h hl hx hy xs.length 0 0 (Nat.zero_add _) (by decide) (by simp)
    · rw [if_neg (by omega), decide_eq_false (fun e => h (by rw [e]))]
  refine (mac_Equal.calls (xs.length + 1) A c xs B d ys _ w hC hc hD hd hf).mono ?_
  rintro e w' ⟨he, ⟨m, rfl⟩⟩
  exact ⟨he, pw_below_drewN (B0 w) m⟩

end Go.Proofs.YtogimlinfkbapaaDoor.HMacQ
