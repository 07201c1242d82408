/- The reference's Derive; mac.Key. -/
import Derived.Test.YthhckkfdcnddfaaDoorHMacD
namespace Go.Proofs.YthhckkfdcnddfaaDoor.HMacF
open Go.RowKit Go.Proofs.YthhckkfdcnddfaaDoorW.PrintWords Go.Proofs.YthhckkfdcnddfaaDoor.HLib Go.Proofs.YthhckkfdcnddfaaDoor.HSha Go.Proofs.YthhckkfdcnddfaaDoor.HShaS Go.Proofs.YthhckkfdcnddfaaDoor.HShaU Go.Proofs.YthhckkfdcnddfaaDoor.HShaV Go.Proofs.YthhckkfdcnddfaaDoor.HShaW Go.Proofs.YthhckkfdcnddfaaDoor.HShaB Go.Proofs.YthhckkfdcnddfaaDoor.HShaX Go.Proofs.YthhckkfdcnddfaaDoor.HMac Go.Proofs.YthhckkfdcnddfaaDoor.HMacC Go.Proofs.YthhckkfdcnddfaaDoor.HMacS Go.Proofs.YthhckkfdcnddfaaDoor.HMacR Go.Proofs.YthhckkfdcnddfaaDoor.HMacQ Go.Proofs.YthhckkfdcnddfaaDoor.HMacK Go.Proofs.YthhckkfdcnddfaaDoor.HMacD
set_option linter.unusedVariables false
set_option linter.unusedSimpArgs false

set_option maxHeartbeats 8000000 in
theorem refder_any (w : World) (vk : Value) (key : List Int) (hvk : Bv w vk key) (hkb : ∀ x ∈ key, 0 ≤ x ∧ x < 256) (hkl : key.length ≤ 4294960000) (label : ByteArray) (hll : label.size ≤ 4294950000) (n : Int) :
    Calls Tryd.prog 17 #[vk, .string label, .int .i64 n] w fun e w' => ∃ v, e = .returned v ∧ Kd.R (Kd.int .u8) 5 w' w.heap.size (fun _ => True) v (derP key (bytesOf label) n) ∧ Below w.heap.size w w' := by
  by_cases c1 : 0 ≤ n ∧ n ≤ 8160
  · have HE := Aside0.mk (show derP key (bytesOf label) n = (dall key (bytesOf label) ((n.toNat + 31) / 32)).take n.toNat from by unfold derP; rw [if_pos c1])
    obtain ⟨h0, h1⟩ := c1
    have d1 : decide (n < 0) = false := decide_eq_false (by omega)
    have d2 : decide (8160 < n) = false := decide_eq_false (by omega)
    have HVK := Aside0.mk hvk
    have HKB := Aside0.mk (And.intro hkb hkl)
    have HLL := Aside0.mk hll
    have HLB := Aside0.mk (bytesOf_length label)
    obtain ⟨Ak, ck, rfl, _, _⟩ := id hvk
    clear hvk hkb hkl hll
    go_enter Tryd.func17, Tryd.ntmps17
    go_wp2
    go_loopg [7, 8] n.toNat (fun kq v7 v8 w' => ∃ (i : Int), v8 = .int .i64 i ∧ Aside0 (0 ≤ i ∧ (kq : Int) + i = n) ∧ Aside0 (Kd.R (Kd.int .u8) 5 w' w.heap.size (fun _ => True) v7 (dall key (bytesOf label) ((i.toNat + 31) / 32))) ∧ Aside0 (Below w.heap.size w w'))
    case atStart => exact ⟨0, rfl, ⟨⟨by omega, by omega⟩⟩, ⟨Kd.R_nil _ _ _ _ _⟩, ⟨B0 w⟩⟩
    case round =>
      obtain ⟨i, rfl, HA, HO, HB⟩ := hrel
      have hi0 : 0 ≤ i := HA.out.1
      have him : i ≤ 8160 := by have := HA.out; omega
      by_cases c2 : i < n
      · have e1 : decide (i < n) = true := decide_eq_true c2
        by_cases c3 : i % 32 = 0
        · obtain ⟨j, hj⟩ : ∃ j : Nat, i / 32 = (j : Int) := ⟨(i / 32).toNat, by omega⟩
          have e2 : (i % 32 == 0) = true := by rw [c3]; rfl
          have hj8 : (j : Int) ≤ 254 := by omega
          have HJM := Aside0.mk (show (((j + 1 : Nat) : Int) % 256) = (j : Int) + 1 from by omega)
          have HJ := Aside0.mk (show (i.toNat + 31) / 32 = j ∧ (i + 1).toNat + 31 = 32 * (j + 1) from by omega)
          obtain ⟨D, hD⟩ : ∃ D, D = dall key (bytesOf label) j := ⟨_, rfl⟩
          rw [HJ.out.1, ← hD] at HO
          have HDE := Aside0.mk hD
          have HDL := Aside0.mk (show D.length = 32 * j from by rw [hD, dall_len])
          obtain ⟨A7, c7, rfl, hc7, hC7⟩ := Kd.R_reads HO.out
          have HO7 := Aside0.mk (Kd.own_of_R HO.out)
          have HOL := Aside0.mk (own_lit wr wr.heap.size 5 .u8 [(j : Int) + 1] (Nat.le_refl _) (by simp))
          have HBR := Aside0.mk (B0 wr)
          clear hC7 hD
          go_wp2_with (first | (at_builtin; refine print_append_str (w0 := wr) wr.heap.size rfl (.tmp 29) (.tmp 30) 22 9 5 rfl Tryd.underlying22 Tryd.underlying9 info_u8 (.slice (some ⟨wr.heap.size, 0, none⟩) 1 1) [(j : Int) + 1] label rfl rfl ?aO ?aB ?aS ?aL ?_; (case aO => exact HOL.out); (case aB => exact below_alloc HBR.out _); (case aS => exact (by rw [World.size_alloc]; exact Nat.le_succ _)); (case aL => have := HLL.out; simp; omega); intro v3 w3 ho hb hg; have HO3 := Aside0.mk (Bs.bv (Bs.of_R (Kd.R_of_own (enc := Value.int .u8) (h1 := fun _ => rfl) (ok := fun _ => True) ho (fun _ _ => trivial)))); have HB3 := Aside0.mk hb; clear ho hb hg) | fail)
          obtain ⟨A3, c3', rfl, hc3', _⟩ := id HO3.out
          have HW3 := Aside0.mk (below_step HB.out HB3.out)
          refine (refmac_any w3 _ key (HVK.out.below HW3.out) HKB.out.1 (by have := HKB.out.2; omega) _ ([(j : Int) + 1] ++ bytesOf label) HO3.out (fun x hx => by
            rcases List.mem_append.1 hx with h | h
            · rw [List.mem_singleton.1 h]; omega
            · exact bytesOf_byte label x h) (by rw [List.length_append, HLB.out]; have := HLL.out; simp; omega)).mono ?_
          rintro e w4 ⟨rfl, hb4⟩
          rw [show [(j : Int) + 1] ++ bytesOf label = ((j : Int) + 1) :: bytesOf label from rfl]
          obtain ⟨M, hM⟩ : ∃ M, M = macP key (((j : Int) + 1) :: bytesOf label) := ⟨_, rfl⟩
          have HM := Aside0.mk (show M.length = 32 from by rw [hM]; exact macP_len _ _)
          have HN := Aside0.mk (show dall key (bytesOf label) (j + 1) = D ++ M from by rw [dall, ← HDE.out, HJM.out, ← hM])
          rw [← hM]
          have hbt : Below wr.heap.size wr w4 := below_step HB3.out hb4
          have HO4 := Aside0.mk (pw_own_below HO7.out hbt)
          have HB4 := Aside0.mk (below_step HB.out hbt)
          have HST := Aside0.mk (run_storeAt_new (P := Tryd.prog) w4 26 (nums .u8 (List.replicate 32 0)).toArray (nums .u8 M).toArray (by rw [size_out]; simp [nums, HM.out]) (by simp [nums, HM.out]) (by simp [nums, Value.oneCell']))
          have hci : (Kd.int .u8).C (w4.alloc (.cells (nums .u8 M).toArray 26)) (some ⟨w4.heap.size, 0, none⟩) M.length M := bytes_C (blk_new w4 _) (by rw [HM.out]; decide)
          rw [HM.out] at hci
          have HCI := Aside0.mk (readsInt_of.2 (Kd.reads_of_C (d := (0 : Int)) hci))
          clear hM hb4 hbt hci
          go_wp2_with (first | (refine store_event rfl (t := 26) (p := 9) (v := .tmp 32) rfl rfl (w1 := w4.alloc (.cells (nums .u8 M).toArray 26)) ?hr ?_; (case hr => exact run_store_of rfl HST.out); intro w5 hw5; subst hw5) | (at_builtin; refine print_append_row (w0 := w) w.heap.size rfl (.tmp 33) (.tmp 34) 22 5 .u8 1 rfl Tryd.underlying22 info_u8 (by decide) (.slice A7 D.length c7) D M (some ⟨w4.heap.size, 0, none⟩) _ 32 rfl rfl ?aO ?aR ?aB ?aS ?aL ?_; (case aO => exact pw_own_below HO4.out (below_alloc (B0 w4) _)); (case aR => exact HCI.out); (case aB => exact below_alloc HB4.out _); (case aS => exact (by rw [World.size_alloc]; exact Nat.le_succ_of_le HB4.out.size)); (case aL => have := HDL.out; omega); intro v9 w9 ho hb hg hat; have HO9 := Aside0.mk ho; have HB9 := Aside0.mk hb; clear ho hb hg hat) | fail)
          go_roundg (n.toNat - (i + 1).toNat)
          case measure => have := HA.out; omega
          case rel =>
            refine ⟨i + 1, rfl, ⟨⟨by omega, by have := HA.out; omega⟩⟩, ⟨?_⟩, HB9⟩
            rw [show ((i + 1).toNat + 31) / 32 = j + 1 from by have := HJ.out.2; omega, HN.out]
            exact Kd.R_of_own (enc := Value.int .u8) (h1 := fun _ => rfl) HO9.out (fun _ _ => trivial)
        · have e2 : (i % 32 == 0) = false := by simpa using c3
          go_wp2
          go_roundg (n.toNat - (i + 1).toNat)
          case measure => have := HA.out; omega
          case rel => exact ⟨i + 1, rfl, ⟨⟨by omega, by have := HA.out; omega⟩⟩, ⟨by have h := HO.out; rwa [show (i.toNat + 31) / 32 = ((i + 1).toNat + 31) / 32 from by omega] at h⟩, HB⟩
      · have e1 : decide (i < n) = false := decide_eq_false c2
        obtain rfl : i = n := by have := HA.out; omega
        obtain ⟨A7, c7, rfl, hc7, hC7⟩ := Kd.R_reads HO.out
        have HL := Aside0.mk (dall_len key (bytesOf label) ((i.toNat + 31) / 32))
        have i1 : i ≤ (c7 : Int) := by have := HL.out; omega
        have HT := Aside0.mk (Kd.R_take HO.out (show i.toNat ≤ _ by rw [HL.out]; omega))
        clear hC7 hc7
        go_wp2
        go_ret
        refine ⟨_, rfl, ?_, HB.out⟩
        rw [HE.out]
        exact HT.out
  · have HE := Aside0.mk (show derP key (bytesOf label) n = [] from by unfold derP; rw [if_neg c1])
    obtain ⟨Ak, ck, rfl, _, _⟩ := id hvk
    by_cases c2 : n < 0
    · have d1 : decide (n < 0) = true := decide_eq_true c2
      clear c1 hvk hkb hkl hll
      go_enter Tryd.func17, Tryd.ntmps17
      go_wp2
      go_ret
      rw [HE.out]
      exact ⟨_, rfl, Kd.R_nil _ _ _ _ _, B0 w⟩
    · have d1 : decide (n < 0) = false := decide_eq_false c2
      have d2 : decide (8160 < n) = true := decide_eq_true (by omega)
      clear c1 hvk hkb hkl hll
      go_enter Tryd.func17, Tryd.ntmps17
      go_wp2
      go_ret
      rw [HE.out]
      exact ⟨_, rfl, Kd.R_nil _ _ _ _ _, B0 w⟩

theorem derP_byte (key lab : List Int) (n : Int) : ∀ x ∈ derP key lab n, 0 ≤ x ∧ x < 256 := by
  intro x hx
  unfold derP at hx
  split at hx
  · exact dall_byte key lab _ x (List.mem_of_mem_take hx)
  · cases hx
theorem range_C {w : World} {g : Nat} {xs : List Int} {n : Nat} (h : (Kd.int .u8).C w (some ⟨g, 0, none⟩) n xs) (hn : xs.length = n) : w.rangeAt g 0 (nums .u8 xs) := fun j v hj => by
  have hjl : j < xs.length := by
    have := (List.getElem?_eq_some_iff.1 hj).1
    simpa [nums] using this
  obtain ⟨ad, e1, hx⟩ := Kd.at_int h (j : Int) (by omega) (by omega)
  injection e1 with e1
  subst e1
  have ha : (⟨g, 0, none⟩ : Addr).add j = ⟨g, j, none⟩ := by unfold Addr.add; split <;> simp_all
  rw [show ((j : Int)).toNat = j from by omega, ha] at hx
  rw [Nat.zero_add, hx]
  have hv : Value.int .u8 (rd xs (j : Int)) = v := by
    simpa [nums, rd, List.getElem?_eq_getElem hjl, List.getD_eq_getElem?_getD] using hj
  rw [hv]

theorem range_arr {w : World} {g : Nat} {k : IntKind} {t : TypeId} {xs : List Int} (h : IsArr w g k t xs) : w.rangeAt g 0 (nums k xs) := fun j v hj => by
  refine (blk_cell h (0 + j)).trans ?_
  rw [Nat.zero_add]
  simpa using hj

theorem size_16 : (Tryd.prog.info? 37).map (·.size) = some 16 := by kernel_rfl
theorem derP_len (key lab : List Int) (n : Int) (h : 0 ≤ n ∧ n ≤ 8160) : (derP key lab n).length = n.toNat := by
  unfold derP
  rw [if_pos h, List.length_take, dall_len]
  omega
theorem run_at16 {P : Program} {t e : TypeId} (ht : P.underlying t = some (.array 16 e)) (a : Addr) (c : Nat) (W : World) : (Instr.arrayAt t (.slice (some a) 16 c)).run P W = .ok (.pointer (some a)) W := by
  simp [Instr.arrayAt, run_underlying ht, Result.andThen]

set_option maxHeartbeats 8000000 in
theorem key_any (w : World) (vk : Value) (key : List Int) (hvk : Bv w vk key) (hkb : ∀ x ∈ key, 0 ≤ x ∧ x < 256) (hkl : key.length ≤ 4294960000) (label : ByteArray) (hll : label.size ≤ 4294950000) (hG : Glob w) :
    Calls Tryd.prog 18 #[vk, .string label] w fun e w' => e = .returned (.agg (nums .u8 (derP key (bytesOf label) 16)).toArray) ∧ Below w.heap.size w w' := by
  have HVK := Aside0.mk hvk
  have HKB := Aside0.mk (And.intro hkb hkl)
  have HLL := Aside0.mk hll
  have HG := Aside0.mk hG
  obtain ⟨Ak, ck, rfl, _, _⟩ := id hvk
  have hr0 : IsArr (w.alloc (.cells (nums .u8 (List.replicate 16 0)).toArray 37)) w.heap.size .u8 37 (List.replicate 16 0) := blk_new w _
  have hb0 : Below w.heap.size w (w.alloc (.cells (nums .u8 (List.replicate 16 0)).toArray 37)) := below_alloc (B0 w) _
  have HW0 := Aside0.mk (And.intro hr0 hb0)
  clear hvk hkb hkl hll hG hr0 hb0
  go_enter Tryd.func18, Tryd.ntmps18
  go_wp2_with fail
  change Calls Tryd.prog 16 _ (w.alloc (.cells (nums .u8 (List.replicate 16 0)).toArray 37)) _
  refine (derive_any _ _ key (HVK.out.below HW0.out.2) HKB.out.1 HKB.out.2 label HLL.out 16 (glob_below HG.out HG.out.1 HW0.out.2)).mono ?_
  rintro e w2 ⟨v, rfl, hR, hb2⟩
  have HB2 := Aside0.mk (below_step HW0.out.2 hb2)
  have HR2 := Aside0.mk (HW0.out.1.below hb2 (arr_lt HW0.out.1))
  have hl := derP_len key (bytesOf label) 16 ⟨by decide, by decide⟩
  rw [show (16 : Int).toNat = 16 from rfl] at hl
  obtain ⟨D, hD⟩ : ∃ D, D = derP key (bytesOf label) 16 := ⟨_, rfl⟩
  rw [← hD] at hR hl
  have HDE := Aside0.mk hD
  obtain ⟨inner, hown⟩ := Kd.R_own hR
  obtain ⟨g, c, rfl⟩ := Joins.ownsRow_form hown (by omega)
  obtain ⟨A', c', e', hc', hC'⟩ := Kd.R_reads hR
  injection e' with e1 _ e3
  subst e3
  rw [← e1] at hC'
  have hrg := range_C hC' rfl
  rw [hl] at hc' ⊢
  have hsp := run_at16 (P := Tryd.prog) Tryd.underlying37 ⟨g, 0, none⟩ c
  have HLB := Aside0.mk (run_loadAt_mid (P := Tryd.prog) w2 g 0 37 (nums .u8 D) _ hrg Tryd.underlying37 rfl (by rw [size_16]; simp [nums, hl]))
  have HSF := Aside0.mk (arr_store (P := Tryd.prog) (ys := D) HR2.out (by rw [size_16]; rfl) (by rw [hl]; rfl))
  have HDL := Aside0.mk hl
  clear hR hb2 hown hC' hrg hc' e1 hl inner hD HW0
  go_wp2_with (first | (refine load_ev (t := 37) (p := .tmp 8) rfl rfl HLB.out ?_) | (refine store_event rfl (t := 37) (p := 4) (v := .tmp 9) rfl rfl (w1 := w2.setRow w.heap.size (nums .u8 D).toArray) ?hr ?_; (case hr => exact run_store_of rfl HSF.out); intro w5 hw5; subst hw5))
  refine bodyPost_ret (v := .agg (nums .u8 D).toArray) ?_ ?_ ?_
  · exact results_c rfl _ _ w.heap.size 37 _ (0, 0) _ rfl (arr_row HR2.out _) Tryd.underlying37 rfl (by rw [size_16]; simp [nums, HDL.out])
  · rfl
  · exact ⟨by rw [HDE.out], below_row HB2.out (Nat.le_refl _) _⟩

end Go.Proofs.YthhckkfdcnddfaaDoor.HMacF
