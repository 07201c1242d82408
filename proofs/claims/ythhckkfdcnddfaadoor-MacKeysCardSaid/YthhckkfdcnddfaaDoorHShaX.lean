/- The reference's Sum. -/
import Derived.Test.YthhckkfdcnddfaaDoorHShaW
import Derived.Lib.SmallJoins
import Derived.Deep.MidRow
namespace Go.Proofs.YthhckkfdcnddfaaDoor.HShaX
open Go.RowKit Go.Proofs.YthhckkfdcnddfaaDoorW.PrintWords Go.Proofs.YthhckkfdcnddfaaDoor.HLib Go.Proofs.YthhckkfdcnddfaaDoor.HSha Go.Proofs.YthhckkfdcnddfaaDoor.HShaR Go.Proofs.YthhckkfdcnddfaaDoor.HShaS Go.Proofs.YthhckkfdcnddfaaDoor.HShaP Go.Proofs.YthhckkfdcnddfaaDoor.HShaU Go.Proofs.YthhckkfdcnddfaaDoor.HShaV Go.Proofs.YthhckkfdcnddfaaDoor.HShaW
set_option linter.unusedVariables false
set_option linter.unusedSimpArgs false

theorem run_cut64 (t e : TypeId) {P : Program} {i0 : TypeInfo} (ht : P.underlying t = some (.slice e)) (hi0 : P.info? e = some i0) (hsz : i0.size = 1) (g n c : Nat) (i : Int) (h0 : 0 ≤ i) (h2 : i + 64 ≤ c) (W : World) :
    (Instr.slice t (.slice (some ⟨g, 0, none⟩) n c) (some (.int .i64 i)) (some (.int .i64 (i + 64))) none).run P W = .ok (.slice (some ⟨g, i.toNat, none⟩) 64 (c - i.toNat)) W := by
  have hel : P.elem t = e := by simp [Program.elem, ht]
  have hu : P.underlying t = some (.slice (P.elem t)) := by rw [hel]; exact ht
  have ha : (⟨g, 0, none⟩ : Addr).add i.toNat = ⟨g, i.toNat, none⟩ := by unfold Addr.add; split <;> simp_all
  rw [run_slice_lh W t _ n c hu .i64 .i64 i (i + 64) h0 (by omega) (by omega), hel]
  simp only [sizeOf, typeInfo]
  simp [hi0, hsz, sliced, Result.andThen, show (i + 64).toNat - i.toNat = 64 from by omega, show ¬ c = i.toNat from by omega, ha]

theorem run_at64 {P : Program} {t e : TypeId} (ht : P.underlying t = some (.array 64 e)) (a : Addr) (c : Nat) (W : World) : (Instr.arrayAt t (.slice (some a) 64 c)).run P W = .ok (.pointer (some a)) W := by
  simp [Instr.arrayAt, run_underlying ht, Result.andThen]

set_option maxRecDepth 100000 in
set_option maxHeartbeats 8000000 in
theorem refsum_any (w : World) (v : Value) (bs : List Int) (hv : Bs w v bs) (hby : ∀ x ∈ bs, 0 ≤ x ∧ x < 256) (hl : bs.length ≤ 4294967296) :
    Calls Tryd.prog 22 #[v] w fun e w' => e = .returned (.agg (nums .u8 (sumP bs)).toArray) ∧ Below w.heap.size w w' := by
  obtain ⟨A, c, rfl, hc, hC, hn⟩ := hv
  have HC := Aside0.mk hC
  have HBY := Aside0.mk hby
  have HL := Aside0.mk hl
  clear hC hc hn hby hl
  go_enter Tryd.func22, Tryd.ntmps22
  have HOL := Aside0.mk (own_lit (w.alloc (.cells (nums .u8 (List.replicate 32 0)).toArray 26)) (w.heap.size + 1) 5 .u8 [] (by rw [World.size_alloc]; exact Nat.le_refl _) (by decide))
  rw [World.size_alloc] at HOL
  have HR0 : Aside0 (IsArr (w.alloc (.cells (nums .u8 (List.replicate 32 0)).toArray 26)) w.heap.size .u8 26 (List.replicate 32 0)) := ⟨blk_new w _⟩
  go_wp2_with (first | (at_builtin; refine print_append_row (w0 := (w.alloc (.cells (nums .u8 (List.replicate 32 0)).toArray 26))) (w.heap.size + 1) rfl (.tmp 9) (.tmp 10) 22 5 .u8 1 rfl Tryd.underlying22 info_u8 (by decide) (.slice (some ⟨w.heap.size + 1, 0, none⟩) 0 0) [] bs A _ c rfl rfl ?aO ?aR ?aB ?aS ?aL ?_; (case aO => exact HOL.out); (case aR => exact ((readsInt_of.2 (Kd.reads_of_C (d := (0 : Int)) HC.out)).below (below_alloc (B0 _) _)).below (below_alloc (B0 _) _)); (case aB => exact by have := below_alloc (B0 (w.alloc (.cells (nums .u8 (List.replicate 32 0)).toArray 26))) (.cells (nums .u8 []).toArray 5); rwa [World.size_alloc] at this); (case aS => exact by (rw [World.size_alloc, World.size_alloc]; omega)); (case aL => (have := HL.out; simp; omega)); intro v1 w1 ho hb hg hat; have HO1 := Aside0.mk ho; have HB1 := Aside0.mk hb; clear ho hb hg hat) | fail)
  refine (refpadding_any (bs.length : Int) w1 (by omega) (by have := HL.out; omega)).mono ?_
  rintro e w2 ⟨v2, rfl, hR2, hb2⟩
  have HB2 := Aside0.mk (HB1.out.trans (hb2.mono (by have := HB1.out.size; rw [World.size_alloc] at this; exact this)))
  have HO2 := Aside0.mk (pw_own_below HO1.out hb2)
  obtain ⟨A2, c2, rfl, hc2, hC2⟩ := Kd.R_reads hR2
  have HC2 := Aside0.mk hC2
  clear hb2 hR2 hc2 hC2
  have HPL := Aside0.mk (show (padP (bs.length : Int)).length ≤ 100 from by rw [padP_len]; have := padz_lt (bs.length : Int); omega)
  have HB2s := Aside0.mk (show w.heap.size + 1 ≤ w2.heap.size from by have := HB2.out.size; rw [World.size_alloc] at this; exact this)
  go_wp2_with (first | (at_builtin; refine print_append_row (w0 := (w.alloc (.cells (nums .u8 (List.replicate 32 0)).toArray 26))) (w.heap.size + 1) rfl (.tmp 11) (.tmp 14) 22 5 .u8 1 rfl Tryd.underlying22 info_u8 (by decide) v1 ([] ++ bs) (padP (bs.length : Int)) A2 _ c2 rfl rfl ?aO ?aR ?aB ?aS ?aL ?_; (case aO => exact HO2.out); (case aR => exact readsInt_of.2 (Kd.reads_of_C (d := (0 : Int)) HC2.out)); (case aB => exact HB2.out); (case aS => exact HB2s.out); (case aL => (have := HL.out; have := HPL.out; simp; omega)); intro v3 w3 ho hb hg hat; have HO3 := Aside0.mk ho; have HB3 := Aside0.mk hb; clear ho hb hg hat) | fail)
  have HB3s := Aside0.mk (show w.heap.size + 1 ≤ w3.heap.size from by have := HB3.out.size; rw [World.size_alloc] at this; exact this)
  refine (refstart_any w3).mono ?_
  rintro e w4 ⟨rfl, hb4⟩
  have HO4 := Aside0.mk (pw_own_below HO3.out hb4)
  have HB4 := Aside0.mk (HB3.out.trans (hb4.mono HB3s.out))
  have HST := Aside0.mk (run_storeAt_new (P := Tryd.prog) w4 47 (nums .u32 (List.replicate 8 0)).toArray (nums .u32 ST).toArray (by rw [size_st]; rfl) rfl (by kernel_rfl))
  clear hb4
  go_wp2_with (refine store_event rfl (t := 47) (p := 4) (v := .tmp 16) rfl rfl (w1 := w4.alloc (.cells (nums .u32 ST).toArray 47)) ?hr ?_; (case hr => exact run_store_of rfl HST.out); intro w5 hw5; subst hw5)
  refine (table_any _).mono ?_
  rintro e w5 ⟨rfl, hb5⟩
  have HB4s := Aside0.mk (show w.heap.size + 1 ≤ w4.heap.size from by have := HB4.out.size; rw [World.size_alloc] at this; exact this)
  have hb5' : Below (w4.heap.size + 1) (w4.alloc (.cells (nums .u32 ST).toArray 47)) w5 := by rw [World.size_alloc] at hb5; exact hb5
  have HO5 := Aside0.mk (pw_own_below (pw_own_below HO4.out (below_alloc (B0 w4) _)) hb5)
  have HB5 := Aside0.mk ((HB4.out.alloc HB4s.out _).trans (hb5'.mono (by have := HB4s.out; omega)))
  have HA5 := Aside0.mk ((show IsArr (w4.alloc (.cells (nums .u32 ST).toArray 47)) w4.heap.size .u32 47 ST from blk_new w4 _).below hb5' (Nat.lt_succ_self _))
  have HTT := Aside0.mk (run_storeAt_new (P := Tryd.prog) w5 54 (nums .u32 (List.replicate 64 0)).toArray (nums .u32 KT).toArray (by rw [size_tb]; rfl) rfl (by kernel_rfl))
  clear hb5 hb5'
  go_wp2_with (refine store_event rfl (t := 54) (p := 5) (v := .tmp 17) rfl rfl (w1 := w5.alloc (.cells (nums .u32 KT).toArray 54)) ?hr ?_; (case hr => exact run_store_of rfl HTT.out); intro w6 hw6; subst hw6)
  have HB5s := Aside0.mk (show w4.heap.size < w5.heap.size from arr_lt HA5.out)
  have HLP := Aside0.mk (padded_len bs)
  have HLB := Aside0.mk (show (padded bs).length ≤ 4294967396 ∧ 0 < (padded bs).length from by
    have h := HPL.out
    have h2 := HL.out
    have h3 := padP_len (bs.length : Int)
    unfold padded
    rw [List.length_append]
    omega)
  have HPB := Aside0.mk (show ∀ x ∈ padded bs, 0 ≤ x ∧ x < 256 from fun x hx => by
    rcases List.mem_append.1 hx with h | h
    · exact HBY.out x h
    · exact padP_byte _ x h)
  have hown : w5.ownsRow (w.heap.size + 1) 5 1 v3 (padded bs).length (nums .u8 (padded bs)) := HO5.out
  obtain ⟨g, c3, rfl⟩ := Joins.ownsRow_form hown HLB.out.2
  have hg4 : g < w4.heap.size := own_lt (e := 5) (size := 1) (n := (padded bs).length) (xs := nums .u8 (padded bs)) HO4.out g rfl
  obtain ⟨A3, c3', e3, hc3, hC3, _⟩ := Bs.of_R (Kd.R_of_own (h1 := fun _ => rfl) (ok := fun _ => True) hown (fun _ _ => trivial))
  injection e3 with e3a _ e3c
  subst e3c
  have HC3 := Aside0.mk (show (Kd.int .u8).C w5 (some ⟨g, 0, none⟩) (padded bs).length (padded bs) from by rw [e3a]; exact hC3)
  have HG4 := Aside0.mk hg4
  have HC3c := Aside0.mk hc3
  have hle3 : ((padded bs).length : Int) ≤ (c3 : Int) := by omega
  clear hown hC3 e3a hg4 HO1 HO2 HO3 HO4 HO5 HOL HC2
  obtain ⟨P, hP⟩ : ∃ P, P = padded bs := ⟨_, rfl⟩
  have HPE := Aside0.mk hP
  rw [← hP] at HLP HLB HPB HC3 HC3c hle3 hc3 ⊢
  clear hP hc3
  go_loopg [6] (P.length / 64) (fun kq v6 w' => ∃ (i : Int), v6 = .int .i64 i ∧ Aside0 (0 ≤ i ∧ i % 64 = 0 ∧ 64 * (kq : Int) + i = P.length) ∧ Aside0 (IsArr w' w4.heap.size .u32 47 (cst P (i / 64).toNat)) ∧ Aside0 (IsArr w' w5.heap.size .u32 54 KT) ∧ Aside0 (Below (w.heap.size + 1) (w.alloc (.cells (nums .u8 (List.replicate 32 0)).toArray 26)) w') ∧ Aside0 (∀ j, w'.cell? ⟨g, j, none⟩ = w5.cell? ⟨g, j, none⟩))
  case atStart =>
    refine ⟨0, rfl, ⟨⟨by omega, by omega, by have := HLP.out; omega⟩⟩, ⟨blk_alloc HA5.out _⟩, ⟨blk_new w5 _⟩, ⟨HB5.out.alloc (by have := HB4s.out; have := HB5s.out; omega) _⟩, ⟨fun j => ?_⟩⟩
    have h := (below_alloc (B0 w5) (.cells (nums .u32 KT).toArray 54)).cell (p := ⟨g, j, none⟩) (show g < w5.heap.size by have := HG4.out; have := HB5s.out; omega)
    exact h
  case round =>
    obtain ⟨i, rfl, HA, HIS, HIT, HIB, HIC⟩ := hrel
    have hi0 : 0 ≤ i := HA.out.1
    have him : i ≤ 4294967396 := by have := HA.out; have := HLB.out; omega
    by_cases c1 : i < P.length
    · have d1 : decide (i < (P.length : Int)) = true := decide_eq_true c1
      have i64 : i + 64 ≤ (P.length : Int) := by have := HA.out; omega
      have k0 : IntKind.i64.wrap (i + 64) = i + 64 := IntWalk.i64_in _ (by omega)
      have hqn : (i / 64).toNat * 64 = i.toNat := by have := HA.out; omega
      obtain ⟨ch, hch⟩ : ∃ ch, ch = (P.drop (64 * (i / 64).toNat)).take 64 := ⟨_, rfl⟩
      have hcl : ch.length = 64 := by rw [hch, List.length_take, List.length_drop]; omega
      have hcr : wr.drew.rangeAt g i.toNat (nums .u8 ch) := fun j v hj => by
        have hjl : j < 64 := by
          have := (List.getElem?_eq_some_iff.1 hj).1
          simpa [nums, hcl] using this
        have hcell : w5.cell? ⟨g, i.toNat + j, none⟩ = some (.int .u8 (rd P (i.toNat + j : Nat))) := by
          obtain ⟨ad, e1, hx⟩ := Kd.at_int HC3.out ((i.toNat + j : Nat) : Int) (by omega) (by omega)
          injection e1 with e1
          subst e1
          have ha : (⟨g, 0, none⟩ : Addr).add (i.toNat + j) = ⟨g, i.toNat + j, none⟩ := by unfold Addr.add; split <;> simp_all
          rw [show (((i.toNat + j : Nat) : Int)).toNat = i.toNat + j from by omega, ha] at hx
          exact hx
        have hv : v = .int .u8 (rd P (i.toNat + j : Nat)) := by
          rw [hch] at hj
          rw [nums, List.getElem?_map, List.getElem?_take_of_lt hjl, List.getElem?_drop, show 64 * (i / 64).toNat + j = i.toNat + j from by omega, List.getElem?_eq_getElem (show i.toNat + j < P.length by omega)] at hj
          rw [rd, show (((i.toNat + j : Nat) : Int)).toNat = i.toNat + j from by omega, List.getD_eq_getElem?_getD, List.getElem?_eq_getElem (show i.toNat + j < P.length by omega)]
          simpa using hj.symm
        rw [hv, ← hcell]
        exact HIC.out (i.toNat + j)
      have htr : wr.drew.rangeAt w5.heap.size 0 (nums .u32 KT) := fun j v hj => by
        have := blk_cell HIT.out (0 + j)
        refine this.trans ?_
        rw [Nat.zero_add]
        simpa using hj
      have hsl := run_cut64 (P := Tryd.prog) 22 5 Tryd.underlying22 (show Tryd.prog.info? 5 = some _ from rfl) rfl g P.length c3 i hi0 (by omega)
      have HCH := Aside0.mk hch
      have HCL := Aside0.mk hcl
      have HCB := Aside0.mk (show ∀ x ∈ ch, 0 ≤ x ∧ x < 256 from fun x hx => HPB.out x (by rw [hch] at hx; exact List.mem_of_mem_drop (List.mem_of_mem_take hx)))
      clear hch
      have hsp := run_at64 (P := Tryd.prog) Tryd.underlying41 ⟨g, i.toNat, none⟩ (c3 - i.toNat)
      go_wp2
      refine wp_region_held_drew (S := fun w' => w'.rangeAt g i.toNat (nums .u8 ch) ∧ w'.rangeAt w5.heap.size 0 (nums .u32 KT)) (by kernel_rfl) ⟨hcr, htr⟩ (fun hHeld => ?_)
      refine wpAnyH_take (i := 1) (v := .slice (some ⟨g, 0, none⟩) P.length c3) rfl (by kernel_rfl) (by kernel_rfl) (by kernel_rfl) (fun _ _ _ h => h) (Or.inl ⟨by rfl, ?hy1⟩) hHeld ?_
      case hy1 => intro w' _; go_simp
      simp only [List.getElem_toArray, List.getElem_cons_succ, List.getElem_cons_zero, Act.put, List.setIfInBounds_toArray, List.set_cons_zero, List.set_cons_succ]
      refine wpAnyH_take (i := 2) (v := .int .i64 i) rfl (by kernel_rfl) (by kernel_rfl) (by kernel_rfl) (fun _ _ _ h => h) (Or.inl ⟨by rfl, ?hy2⟩) hHeld ?_
      case hy2 => intro w' _; go_simp
      simp only [List.getElem_toArray, List.getElem_cons_succ, List.getElem_cons_zero, Act.put, List.setIfInBounds_toArray, List.set_cons_zero, List.set_cons_succ]
      refine wpAnyH_take (i := 3) (v := .int .i64 i) rfl (by kernel_rfl) (by kernel_rfl) (by kernel_rfl) (fun _ _ _ h => h) (Or.inl ⟨by rfl, ?hy3⟩) hHeld ?_
      case hy3 => intro w' _; go_simp
      simp only [List.getElem_toArray, List.getElem_cons_succ, List.getElem_cons_zero, Act.put, List.setIfInBounds_toArray, List.set_cons_zero, List.set_cons_succ]
      refine wpAnyH_take (i := 4) (v := .int .i64 (i + 64)) rfl (by kernel_rfl) (by kernel_rfl) (by kernel_rfl) (fun _ _ _ h => h) (Or.inl ⟨by rfl, ?hy4⟩) hHeld ?_
      case hy4 => intro w' _; go_simp
      simp only [List.getElem_toArray, List.getElem_cons_succ, List.getElem_cons_zero, Act.put, List.setIfInBounds_toArray, List.set_cons_zero, List.set_cons_succ]
      refine wpAnyH_take (i := 5) (v := .slice (some ⟨g, i.toNat, none⟩) 64 (c3 - i.toNat)) rfl (by kernel_rfl) (by kernel_rfl) (by kernel_rfl) (fun _ _ _ h => h) (Or.inl ⟨by rfl, ?hy5⟩) hHeld ?_
      case hy5 => intro w' _; go_simp
      simp only [List.getElem_toArray, List.getElem_cons_succ, List.getElem_cons_zero, Act.put, List.setIfInBounds_toArray, List.set_cons_zero, List.set_cons_succ]
      refine wpAnyH_take (i := 6) (v := .pointer (some ⟨g, i.toNat, none⟩)) rfl (by kernel_rfl) (by kernel_rfl) (by kernel_rfl) (fun _ _ _ h => h) (Or.inl ⟨by rfl, ?hy6⟩) hHeld ?_
      case hy6 => intro w' _; go_simp
      simp only [List.getElem_toArray, List.getElem_cons_succ, List.getElem_cons_zero, Act.put, List.setIfInBounds_toArray, List.set_cons_zero, List.set_cons_succ]
      refine wpAnyH_take (i := 7) (v := .agg (nums .u8 ch).toArray) rfl (by kernel_rfl) (by kernel_rfl) (by kernel_rfl) (fun _ _ _ h => h) (yieldsIf_load_mid (by rfl) 41 (.tmp 30) rfl g i.toNat rfl (nums .u8 ch) _ (fun w' h => h.1) Tryd.underlying41 rfl (by rw [size_bl]; simp [nums, hcl])) hHeld ?_
      simp only [List.getElem_toArray, List.getElem_cons_succ, List.getElem_cons_zero, Act.put, List.setIfInBounds_toArray, List.set_cons_zero, List.set_cons_succ]
      refine wpAnyH_take (i := 8) (v := .agg (nums .u32 KT).toArray) rfl (by kernel_rfl) (by kernel_rfl) (by kernel_rfl) (fun _ _ _ h => h) (yieldsIf_load_mid (by rfl) 54 (.tmp 5) rfl w5.heap.size 0 rfl (nums .u32 KT) _ (fun w' h => h.2) Tryd.underlying54 rfl (by rw [size_tb]; rfl)) hHeld ?_
      simp only [List.getElem_toArray, List.getElem_cons_succ, List.getElem_cons_zero, Act.put, List.setIfInBounds_toArray, List.set_cons_zero, List.set_cons_succ]
      refine wpAnyH_ready (rs := [0]) (by kernel_rfl) (by simp) ?_
      refine AllReadyH.cons rfl (fun K hK => ?_) AllReadyH.nil
      simp only [List.getElem_toArray, List.getElem_cons_succ, List.getElem_cons_zero]
      rw [if_pos (by rfl)]
      have hsd : IsArr wr.drew w4.heap.size .u32 47 (cst P (i / 64).toNat) := HIS.out.drew
      refine wp_load_row 47 (.tmp 4) rfl w4.heap.size rfl _ _ (0, 0) _ hsd Tryd.underlying47 rfl (by rw [size_st]; simp [nums, cst_len]) ?_
      simp only [Act.put, List.setIfInBounds_toArray, List.set_cons_zero, List.set_cons_succ]
      refine hK.out _ _ hHeld (fun hHeld => ?_)
      clear hK K
      refine wpAnyH_ready (rs := [9]) (by kernel_rfl) (by simp) ?_
      refine AllReadyH.cons rfl (fun K hK => ?_) AllReadyH.nil
      simp only [List.getElem_toArray, List.getElem_cons_succ, List.getElem_cons_zero]
      rw [if_pos (by rfl)]
      go_simp
      refine (refblock_any wr.drew (cst P (i / 64).toNat) ch (cst_len _ _) HCL.out HCB.out).mono ?_
      rintro e w7 ⟨rfl, hb7⟩
      have hsz7 : wr.drew.heap.size = wr.heap.size := rfl
      have hlg : g < wr.drew.heap.size := Nat.lt_trans HG4.out (arr_lt HIS.out)
      refine hK.out _ _ ⟨fun j v hj => (hb7.cell (p := ⟨g, i.toNat + j, none⟩) hlg).trans (hHeld.1 j v hj), fun j v hj => (hb7.cell (p := ⟨w5.heap.size, 0 + j, none⟩) (arr_lt HIT.out)).trans (hHeld.2 j v hj)⟩ (fun hHeld => ?_)
      clear hK K
      have h7s := hsd.below hb7 (arr_lt hsd)
      refine wpAnyH_ready (rs := [10]) (by kernel_rfl) (by simp) ?_
      refine AllReadyH.cons rfl (fun K hK => ?_) AllReadyH.nil
      simp only [List.getElem_toArray, List.getElem_cons_succ, List.getElem_cons_zero]
      rw [if_pos (by rfl)]
      refine wp_store_row 47 (.tmp 4) (.tmp 33) rfl w4.heap.size (nums .u32 (blockP (cst P (i / 64).toNat) ch)).toArray rfl rfl 47 _ h7s (by rw [size_st]; simp [nums, blockP_len _ _ (cst_len P _)]) (by simp [nums, blockP_len _ _ (cst_len P _), cst_len]) (by simp [nums, Value.oneCell']) ?_
      simp only [Act.put, List.setIfInBounds_toArray, List.set_cons_zero, List.set_cons_succ]
      have hgn : g ≠ w4.heap.size := Nat.ne_of_lt HG4.out
      have htn : w5.heap.size ≠ w4.heap.size := Nat.ne_of_gt HB5s.out
      refine hK.out _ _ ⟨fun j v hj => (cell_setRow_other w7 w4.heap.size _ ⟨g, i.toNat + j, none⟩ hgn).trans (hHeld.1 j v hj), fun j v hj => (cell_setRow_other w7 w4.heap.size _ ⟨w5.heap.size, 0 + j, none⟩ htn).trans (hHeld.2 j v hj)⟩ (fun hHeld => ?_)
      clear hK K
      refine wpAnyH_done (by kernel_rfl) ?_ _
      have HB7 := Aside0.mk hb7
      have H7S := Aside0.mk h7s
      clear hb7 h7s hHeld hcr htr hsd
      go_wp2
      go_roundg ((P.length / 64) - ((i + 64) / 64).toNat)
      case measure => have := HA.out; omega
      case rel =>
        refine ⟨i + 64, rfl, ⟨⟨by omega, by omega, by have := HA.out; omega⟩⟩, ⟨?_⟩, ⟨?_⟩, ⟨?_⟩, ⟨fun j => ?_⟩⟩
        · rw [show ((i + 64) / 64).toNat = (i / 64).toNat + 1 from by omega, cst, ← HCH.out]
          exact arr_row H7S.out _
        · exact arr_rowfar ((show IsArr wr.drew w5.heap.size .u32 54 KT from HIT.out.drew).below HB7.out (arr_lt HIT.out)) htn _
        · exact below_row ((below_drew1 HIB.out).trans (HB7.out.mono (Nat.le_trans HB4s.out (Nat.le_of_lt (arr_lt HIS.out))))) HB4s.out _
        · exact (cell_setRow_other w7 w4.heap.size _ ⟨g, j, none⟩ hgn).trans ((HB7.out.cell (p := ⟨g, j, none⟩) hlg).trans (HIC.out j))
    · have d1 : decide (i < (P.length : Int)) = false := decide_eq_false c1
      have HIE := Aside0.mk (show (i / 64).toNat = P.length / 64 from by have := HA.out; omega)
      obtain ⟨st, hst⟩ : ∃ x, x = cst P (i / 64).toNat := ⟨_, rfl⟩
      rw [← hst] at HIS
      have HSL := Aside0.mk (show st.length = 8 from by rw [hst]; exact cst_len _ _)
      have HSE := Aside0.mk (show sumP bs = outB st from by rw [hst, HIE.out, HPE.out]; exact sum_cst bs)
      have HRW := Aside0.mk (HR0.out.below HIB.out (Nat.lt_succ_self _))
      have HBW := Aside0.mk ((below_alloc (B0 w) (.cells (nums .u8 (List.replicate 32 0)).toArray 26)).trans (HIB.out.mono (Nat.le_succ _)))
      clear hst
      obtain ⟨wE, rfl⟩ : ∃ x, x = wr := ⟨_, rfl⟩
      have HW4E := Aside0.mk (show w4.heap.size < wE.heap.size from arr_lt HIS.out)
      go_wp2
      go_loopg [8] 32 (fun kq v8 w' => ∃ (k : Int), v8 = .int .i64 k ∧ Aside0 (0 ≤ k ∧ (kq : Int) + k = 32) ∧ Aside0 (IsArr w' wE.heap.size .u8 26 (mixB st k.toNat)) ∧ Aside0 (IsArr w' w4.heap.size .u32 47 st) ∧ Aside0 (Below w.heap.size w w') ∧ Aside0 (IsArr w' w.heap.size .u8 26 (List.replicate 32 0)))
      case atStart => exact ⟨0, rfl, ⟨⟨by omega, by omega⟩⟩, ⟨blk_new wE _⟩, ⟨blk_alloc HIS.out _⟩, ⟨below_alloc HBW.out _⟩, ⟨blk_alloc HRW.out _⟩⟩
      case round =>
        obtain ⟨k, rfl, HA5, HR5, HS5, HB5', HO5⟩ := hrel
        have hk0 : 0 ≤ k := HA5.out.1
        have hkm : k ≤ 32 := by have := HA5.out; omega
        by_cases c5 : k < 32
        · have d5 : decide (k < 32) = true := decide_eq_true c5
          have hq0 : 0 ≤ k / 4 := by omega
          have hq1 : k / 4 < 8 := by omega
          have hr0 : 0 ≤ k % 4 := by omega
          have hr1 : k % 4 < 4 := by omega
          have es := HS5.out.cell (k / 4) hq0 (by rw [HSL.out]; exact hq1)
          have eo := HR5.out.cell k hk0 (by rw [mixB_len _ _ (by omega)]; exact c5)
          have fo := HR5.out.frozen k.toNat
          obtain ⟨y, hy⟩ : ∃ y, y = rd st (k / 4) := ⟨_, rfl⟩
          rw [← hy] at es
          have k2 : IntKind.i64.wrap (8 * (k % 4)) = 8 * (k % 4) := IntWalk.i64_in _ (by omega)
          have k3 : IntKind.i64.wrap (24 - 8 * (k % 4)) = 24 - 8 * (k % 4) := IntWalk.i64_in _ (by omega)
          have k4 : IntKind.u64.wrap (24 - 8 * (k % 4)) = 24 - 8 * (k % 4) := by rw [IntKind.wrap_u64]; omega
          have HV := Aside0.mk (show (outB st).getD k.toNat 0 = y / 2 ^ (24 - 8 * (k % 4)).toNat % 256 from by
            rw [outB_get _ _ (by omega), show k.toNat / 4 = (k / 4).toNat from by omega, show 24 - 8 * (k.toNat % 4) = (24 - 8 * (k % 4)).toNat from by omega, hy]
            rfl)
          clear hy
          go_wp2
          go_roundg (32 - (k + 1).toNat)
          case measure => have := HA5.out; omega
          case rel =>
            have hz := HB5'.out.size
            refine ⟨k + 1, rfl, ⟨⟨by omega, by omega⟩⟩, ⟨?_⟩, ⟨HS5.out.far (by have := HW4E.out; dsimp only; omega) _⟩, ⟨HB5'.out.setCell (p := ⟨wE.heap.size, k.toNat, none⟩) (by have := HBW.out.size; dsimp only; omega) _⟩, ⟨HO5.out.far (by have := HW4E.out; have := HB4s.out; dsimp only; omega) _⟩⟩
            have h := HR5.out.put k.toNat (y / 2 ^ (24 - 8 * (k % 4)).toNat % 256)
            rw [← HV.out, mixB_set _ _ (by omega), HV.out, show k.toNat + 1 = (k + 1).toNat from by omega] at h
            exact h
        · have d5 : decide (k < 32) = false := decide_eq_false c5
          have HF : Aside0 (IsArr wr wE.heap.size .u8 26 (outB st)) := ⟨by
            have h := HR5.out
            rw [show k.toNat = 32 from by omega, mixB, List.take_of_length_le (by rw [outB_len]; decide), Nat.sub_self, List.replicate_zero, List.append_nil] at h
            exact h⟩
          have HLF := Aside0.mk (arr_load (P := Tryd.prog) HF.out Tryd.underlying26 rfl (by rw [size_out, outB_len]))
          have HSF := Aside0.mk (arr_store (P := Tryd.prog) (ys := outB st) HO5.out (by rw [size_out]; rfl) (by rw [outB_len]; rfl))
          go_wp2_with (first | (refine load_ev (t := 26) (p := .tmp 7) rfl rfl HLF.out ?_) | (refine store_event rfl (t := 26) (p := 2) (v := .tmp 51) rfl rfl (w1 := wr.setRow w.heap.size (nums .u8 (outB st)).toArray) ?hr ?_; (case hr => exact run_store_of rfl HSF.out); intro w2 hw2; subst hw2))
          refine bodyPost_ret (v := .agg (nums .u8 (outB st)).toArray) ?_ ?_ ?_
          · exact results_c rfl _ _ w.heap.size 26 _ (0, 0) _ rfl (arr_row HO5.out (outB st)) Tryd.underlying26 rfl (by rw [size_out]; simp [nums, outB_len])
          · rfl
          · rw [HSE.out]
            exact ⟨rfl, below_row HB5'.out (Nat.le_refl _) _⟩

end Go.Proofs.YthhckkfdcnddfaaDoor.HShaX
