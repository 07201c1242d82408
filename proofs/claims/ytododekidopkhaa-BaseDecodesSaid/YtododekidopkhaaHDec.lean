/- base.Decode. -/
import Derived.Test.YtododekidopkhaaHEnc
namespace Go.Proofs.Ytododekidopkhaa.HDec
open Go.RowKit Go.Proofs.YtododekidopkhaaW.PrintWords Go.Proofs.Ytododekidopkhaa.HLib Go.Proofs.Ytododekidopkhaa.HBuild Go.Proofs.Ytododekidopkhaa.HBaseS Go.Proofs.Ytododekidopkhaa.HBase Go.Proofs.Ytododekidopkhaa.HEnc
set_option linter.unusedVariables false
set_option linter.unusedSimpArgs false

/-- The values of a text's signs. -/
def vids (s : ByteArray) : List Int := (List.range s.size).map fun (i : Nat) => vidx (bt s i)
def badAt (s : ByteArray) : Option Nat := (List.range s.size).find? fun (i : Nat) => decide (vidx (bt s i) < 0)
def outOf (s : ByteArray) : List Int := ((rg 6 8 (vids s) 0 0).filter (·.2)).map (·.1)
def decP (s : ByteArray) : List Int × Int :=
  match badAt s with
  | some i => ([], i)
  | none => if encS (outOf s) = s then (outOf s, -1) else ([], s.size - 1)

theorem vids_len (s : ByteArray) : (vids s).length = s.size := by simp [vids]
theorem vids_get (s : ByteArray) (j : Nat) (h : j < s.size) : (vids s).getD j 0 = vidx (bt s j) := by
  rw [List.getD_eq_getElem?_getD, List.getElem?_eq_getElem (by rw [vids_len]; exact h)]
  simp [vids]
theorem decP_bad {s : ByteArray} {j : Nat} (h : ∀ i : Nat, i < j → 0 ≤ vidx (bt s i)) (hj : j < s.size) (hb : vidx (bt s j) < 0) : decP s = ([], (j : Int)) := by
  have : badAt s = some j := by
    unfold badAt
    rw [List.find?_range_eq_some]
    exact ⟨decide_eq_true hb, List.mem_range.2 hj, fun i hi => by have := h i hi; simp; omega⟩
  rw [decP, this]
theorem badAt_none {s : ByteArray} (h : ∀ i : Nat, i < s.size → 0 ≤ vidx (bt s i)) : badAt s = none := by
  unfold badAt
  rw [List.find?_eq_none]
  intro i hi
  have := h i (List.mem_range.1 hi)
  simp
  omega
theorem outOf_bound (s : ByteArray) (h : ∀ i : Nat, i < s.size → 0 ≤ vidx (bt s i)) : ∀ x ∈ outOf s, 0 ≤ x ∧ x < 256 := by
  intro x hx
  obtain ⟨p, hp, rfl⟩ := List.mem_map.1 hx
  refine rg_bound 6 8 (by decide) (by decide) (vids s) 0 0 (fun v hv => ?_) (by decide) (by decide) (by decide) p (List.mem_filter.1 hp).1
  obtain ⟨i, hi, rfl⟩ := List.mem_map.1 hv
  have h1 := h i (List.mem_range.1 hi)
  have h2 := vidx_lt (bt s i)
  have h3 : (2 : Int) ^ 6 = 64 := rfl
  omega
theorem outOf_len (s : ByteArray) : (outOf s).length ≤ 16 * s.size + 1 := by
  have h1 := rg_len 6 8 (vids s) 0 0
  rw [vids_len] at h1
  have h2 := List.length_filter_le (·.2) (rg 6 8 (vids s) 0 0)
  rw [outOf, List.length_map]
  omega

set_option maxHeartbeats 4000000 in
theorem decode_any (w : World) (s : ByteArray) (hl : s.size ≤ 17592186044) :
    Calls Try.prog 10 #[.string s] w fun e w' => ∃ v, e = .returned (.tuple #[v, .int .i64 (decP s).2]) ∧ Bs w' v (decP s).1 ∧ Below w.heap.size w w' := by
  have HL := Aside0.mk hl
  have hmk := print_make (P := Try.prog) 40 3 .i64 8 Try.underlying40 info_int (by decide) s.size (by omega)
  clear hl
  go_enter Try.func10, Try.ntmps10
  go_wp2
  go_loopg [5, 6, 7, 14] s.size (fun kq v5 v6 v7 v14 w' => ∃ (j : Int), v14 = .int .i64 j ∧ Aside0 (0 ≤ j ∧ (kq : Int) + j = s.size ∧ ∀ i : Nat, i < j.toNat → 0 ≤ vidx (bt s i)) ∧
    Aside0 (Kd.R (Kd.int .i64) 3 w' w.heap.size (fun _ => True) (.slice (some ⟨w.heap.size, 0, none⟩) s.size s.size) ((vids s).take j.toNat ++ List.replicate (s.size - j.toNat) 0)) ∧ Aside0 (Below w.heap.size w w') ∧ Aside0 (w'.heap.size = w.heap.size + 1))
  case atStart =>
    refine ⟨0, rfl, ⟨⟨by omega, by omega, fun i hi => by omega⟩⟩, ⟨?_⟩, ⟨below_alloc (B0 w) _⟩, ⟨by simp⟩⟩
    have h := own_made w w.heap.size 3 .i64 s.size (Nat.le_refl _) (by have := HL.out; omega)
    refine Kd.R_of_own (enc := Value.int .i64) (h1 := fun _ => rfl) (ok := fun _ => True) ?_ (fun _ _ => trivial)
    rw [show (vids s).take (0 : Int).toNat ++ List.replicate (s.size - (0 : Int).toNat) 0 = List.replicate s.size (0 : Int) from rfl, List.length_replicate]
    exact h
  case round =>
    obtain ⟨j, rfl, HA, HO, HB, HZ⟩ := hrel
    have hj0 := HA.out.1
    have hjm : j ≤ 1099511627776 := by have := HA.out; have := HL.out; omega
    by_cases c1 : j < s.size
    · have d1 : decide (j < (s.size : Int)) = true := decide_eq_true c1
      go_wp2_with fail
      rw [bt_at s j]
      refine (value_any _ _).mono ?_
      rintro e w1 ⟨rfl, rfl⟩
      have HV := Aside0.mk (show (vids s).getD j.toNat 0 = vidx (bt s j) from by
        rw [vids_get s j.toNat (by omega), show ((j.toNat : Nat) : Int) = j from by omega])
      obtain ⟨V, hV⟩ : ∃ V, V = vidx (bt s j) := ⟨_, rfl⟩
      have HVE := Aside0.mk hV
      rw [← hV]
      clear hV
      by_cases c2 : 0 ≤ V
      · have d2 : decide (0 ≤ V) = true := decide_eq_true c2
        have d3 : max V 0 = V := by omega
        obtain ⟨hcc, hfz⟩ := Kd.R_celln (0 : Int) HO.out j hj0 c1
        have HP := Aside0.mk (Kd.R_putn HO.out j V)
        have HSZ := Aside0.mk (show ∀ u, (w1.setCell ⟨w.heap.size, j.toNat, none⟩ u).heap.size = w.heap.size + 1 from fun u => by simp [World.setCell, HZ.out])
        rw [d2, d3]
        go_wp2
        repeat (go_quiet (fail); try go_wp2)
        go_roundg (s.size - (j + 1).toNat)
        case measure => have := HA.out; omega
        case rel =>
          refine ⟨j + 1, rfl, ⟨⟨by omega, by omega, fun i hi => ?_⟩⟩, ⟨?_⟩, ⟨HB.out.setCell (p := ⟨w.heap.size, j.toNat, none⟩) (Nat.le_refl _) _⟩, ⟨HSZ.out _⟩⟩
          · by_cases hij : i < j.toNat
            · exact HA.out.2.2 i hij
            · rw [show i = j.toNat from by omega, show ((j.toNat : Nat) : Int) = j from by omega, ← HVE.out]
              exact c2
          · have h := HP.out
            have h2 := put_list (vids s) j.toNat (by rw [vids_len]; omega)
            rw [vids_len, HV.out, ← HVE.out] at h2
            rw [h2] at h
            rw [show (j + 1).toNat = j.toNat + 1 from by omega]
            exact h
      · have d2 : decide (0 ≤ V) = false := decide_eq_false c2
        have HD := Aside0.mk (decP_bad (s := s) (j := j.toNat) HA.out.2.2 (by omega) (by rw [show ((j.toNat : Nat) : Int) = j from by omega, ← HVE.out]; omega))
        have HJ := Aside0.mk (show ((j.toNat : Nat) : Int) = j from by omega)
        rw [d2]
        go_wp2
        go_ret2
        rw [HD.out, HJ.out]
        exact ⟨_, rfl, Bs.nil _, HB.out⟩
    · have d1 : decide (j < (s.size : Int)) = false := decide_eq_false c1
      have hsz1 : (s.size : Int) ≤ 17592186044 := by have := HL.out; omega
      have hjs : j.toNat = s.size := by have := HA.out; omega
      have hgood : ∀ i : Nat, i < s.size → 0 ≤ vidx (bt s i) := fun i hi => HA.out.2.2 i (by omega)
      have HE := Aside0.mk (show (vids s).take j.toNat ++ List.replicate (s.size - j.toNat) 0 = vids s from by
        rw [List.take_of_length_le (by rw [vids_len]; omega), show s.size - j.toNat = 0 from by omega]
        simp)
      have HBN := Aside0.mk (badAt_none hgood)
      have HOB := Aside0.mk (outOf_bound s hgood)
      have HVB := Aside0.mk (show ∀ v ∈ vids s, 0 ≤ v ∧ v < 64 from fun v hv => by
        obtain ⟨i, hi, rfl⟩ := List.mem_map.1 hv
        exact ⟨hgood i (List.mem_range.1 hi), (vidx_lt _).2⟩)
      have HRd := Aside0.mk (Kd.R_reads HO.out)
      clear c1 hgood hjs
      go_wp2_with fail
      obtain ⟨A2, c2, hv2, hc2, hC2⟩ := HRd.out
      injection hv2 with e1 e2 e3
      rw [HE.out, vids_len] at hC2
      have HC2 := Aside0.mk hC2
      clear hC2 hc2 e2
      subst e1 e3
      have HC3 := Aside0.mk (Kd.C_alloc HC2.out (.cells #[.slice none 0 0] 22 (0, 0)))
      have hcall := regroup_dec wr.heap.size wr.heap.size (some ⟨w.heap.size, 0, none⟩) s.size (vids s) (wr.alloc (.cells #[.slice none 0 0] 22 (0, 0))) (by rw [vids_len]; exact HC3.out) HVB.out (by rintro ad h; injection h with h; subst h; have := HZ.out; show w.heap.size < _; omega) ⟨Nat.le_refl _, _, blk_new _ _, Kd.R_nil _ _ _ _ _⟩ (by rw [World.size_alloc]; omega) (by rw [vids_len]; have := HL.out; omega)
      rw [vids_len] at hcall
      refine hcall.mono ?_
      rintro e w1 ⟨rfl, ⟨hgB, v, hg, hR⟩, hbe⟩
      obtain ⟨os, hos⟩ : ∃ os, os = outOf s := ⟨_, rfl⟩
      have HOS := Aside0.mk hos
      have hR : Kd.R (Kd.int .u8) 5 w1 wr.heap.size (fun k => k ≠ wr.heap.size) v os := hos ▸ hR
      clear hos
      have HBe := Aside0.mk hbe
      have HBs := Aside0.mk (Bs.of_R hR)
      obtain ⟨A3, c3, rfl, _, _⟩ := Kd.R_reads hR
      have HG := Aside0.mk hg
      have f1 := (blk_cell hg 0).trans (show _ = some _ from rfl)
      have HW1 := Aside0.mk (show w.heap.size ≤ w1.heap.size from by have h1 := hbe.size; rw [World.size_alloc] at h1; have h2 := HB.out.size; omega)
      clear hbe hcall hR hgB hg
      go_wp2_with fail
      refine (encode_any w1 _ os HBs.out (by rw [HOS.out]; exact HOB.out) (by rw [HOS.out]; have := outOf_len s; have := HL.out; omega)).mono ?_
      rintro e w2 ⟨rfl, hb2⟩
      have HB2 := Aside0.mk hb2
      have f2 := (blk_cell (blk_below HG.out hb2) 0).trans (show _ = some _ from rfl)
      have HBs2 := Aside0.mk (HBs.out.below hb2)
      have HBW := Aside0.mk (((below_alloc HB.out _).trans (HBe.out.mono HB.out.size)).trans (hb2.mono HW1.out))
      clear hb2
      obtain ⟨E, hE⟩ : ∃ E, E = encS os := ⟨_, rfl⟩
      have HE2 := Aside0.mk (show E = encS (outOf s) from by rw [hE, HOS.out])
      rw [← hE]
      clear hE
      by_cases ce : E = s
      · have HD := Aside0.mk (show decP s = (outOf s, -1) from by rw [decP, HBN.out]; exact if_pos (HE2.out ▸ ce))
        have ce2 : (E.toList == s.toList) = true := by rw [beq_iff_eq, ce]
        clear ce
        go_wp2
        go_ret2
        rw [HD.out, ← HOS.out]
        exact ⟨_, rfl, HBs2.out, HBW.out⟩
      · have HD := Aside0.mk (show decP s = ([], (s.size : Int) - 1) from by rw [decP, HBN.out]; exact if_neg (HE2.out ▸ ce))
        have ce2 : (E.toList == s.toList) = false := by rw [beq_eq_false_iff_ne, ByteArray.toList_eq, ByteArray.toList_eq]; exact fun h => ce (ByteArray.ext (Array.toList_inj.mp h))
        clear ce
        go_wp2
        go_ret2
        rw [HD.out]
        exact ⟨_, rfl, Bs.nil _, HBW.out⟩

end Go.Proofs.Ytododekidopkhaa.HDec
