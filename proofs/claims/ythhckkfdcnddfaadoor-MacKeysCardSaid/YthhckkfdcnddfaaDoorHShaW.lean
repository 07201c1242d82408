/- sha.Sum. -/
import Derived.Test.YthhckkfdcnddfaaDoorHShaV
namespace Go.Proofs.YthhckkfdcnddfaaDoor.HShaW
open Go.RowKit Go.Proofs.YthhckkfdcnddfaaDoorW.PrintWords Go.Proofs.YthhckkfdcnddfaaDoor.HLib Go.Proofs.YthhckkfdcnddfaaDoor.HSha Go.Proofs.YthhckkfdcnddfaaDoor.HShaS Go.Proofs.YthhckkfdcnddfaaDoor.HShaP Go.Proofs.YthhckkfdcnddfaaDoor.HShaU Go.Proofs.YthhckkfdcnddfaaDoor.HShaV
set_option linter.unusedVariables false
set_option linter.unusedSimpArgs false

/-- Lists of bytes that are read. -/
def KB : Kd (List Int) := Kd.slice 5 (Kd.int .u8)
/-- The i-th list. -/
def el (xs : List (List Int)) (i : Int) : List Int := xs.getD i.toNat []
theorem at_bytes {w : World} {A : Option Addr} {n : Nat} {xs : List (List Int)} (h : KB.C w A n xs) (i : Int) (h0 : 0 ≤ i) (h1 : i < n) : ∃ ad A0 c0, A = some ad ∧ w.cell? (ad.add i.toNat) = some (.slice A0 (el xs i).length c0) ∧ (el xs i).length ≤ c0 ∧ (Kd.int .u8).C w A0 (el xs i).length (el xs i) := by
  obtain ⟨ad, c, e, _, hK, hc0⟩ := Kd.C_get h ([] : List Int) i h0 h1
  have hc : ∀ j u, c[j]? = some u → w.cell? (ad.add (i.toNat * 1 + j)) = some u := hc0
  obtain ⟨A0, c0, rfl, l0, g0⟩ := hK
  exact ⟨ad, A0, c0, e, by have hq := hc 0 _ rfl; rwa [Nat.mul_one, Nat.add_zero] at hq, l0, g0⟩
/-- All parts, one behind the other. -/
def cat (xss : List (List Int)) : List Int := xss.flatten
theorem cat_take (xss : List (List Int)) (k : Nat) (h : k < xss.length) : cat (xss.take (k + 1)) = cat (xss.take k) ++ xss.getD k [] := by
  unfold cat
  rw [List.take_add_one, List.flatten_append, List.getD_eq_getElem?_getD]
  rw [List.getElem?_eq_getElem h]
  simp
theorem cat_take_le (xss : List (List Int)) (k : Nat) : (cat (xss.take k)).length ≤ (cat xss).length := by
  have h : cat xss = cat (xss.take k) ++ cat (xss.drop k) := by
    unfold cat
    rw [← List.flatten_append, List.take_append_drop]
  rw [h, List.length_append]
  omega
theorem cell_lt {w : World} {p : Addr} {v : Value} (h : w.cell? p = some v) : p.block < w.heap.size := by
  apply Classical.byContradiction
  intro hn
  simp [World.cell?, Array.getElem?_eq_none (show w.heap.size ≤ p.block from by omega)] at h
theorem block_lt {w : World} {A : Option Addr} {n : Nat} {xs : List Int} (h : (Kd.int .u8).C w A n xs) (hn : 0 < n) : ∀ ad, A = some ad → ad.block < w.heap.size := by
  intro ad e
  obtain ⟨ad', e', hx⟩ := Kd.at_int h 0 (by omega) (by omega)
  rw [e] at e'
  injection e' with e'
  subst e'
  have h1 := cell_lt hx
  have : (ad.add (0 : Int).toNat).block = ad.block := by unfold Addr.add; split <;> rfl
  omega
theorem arr_index {P : Program} {t e : TypeId} {n : Nat} (ht : P.underlying t = some (.array n e)) (k : IntKind) (he : P.underlying e = some (.int k)) (hz : (P.info? e).map (·.size) = some 1) (xs : List Int) (i : Int) (h0 : 0 ≤ i) (hi : i < xs.length) (hn : n = xs.length) (w : World) :
    (Instr.index t (.agg (nums k xs).toArray) (.int .i64 i)).run P w = .ok (.int k (rd xs i)) w := by
  have hl : i.toNat < xs.length := by omega
  have hc : (0 ≤ i ∧ i < (n : Int)) := ⟨h0, by omega⟩
  have hg : (nums k xs)[i.toNat]? = some (.int k (rd xs i)) := by
    simp [nums, rd, List.getElem?_eq_getElem hl, List.getD_eq_getElem?_getD]
  cases hq : P.info? e with
  | none => simp [hq] at hz
  | some inf =>
    have hs : inf.size = 1 := by simpa [hq] using hz
    have hsz : (Go.sizeOf e).run P w = .ok 1 w := by simp [Go.sizeOf, typeInfo, hq, hs]
    simp [Instr.index, asIntOf, run_underlying ht, hc, hsz, part, isAgg, run_underlying he, Result.andThen, hg]
theorem info_u32 : (Tryd.prog.info? 46).map (·.size) = some 1 := by kernel_rfl
theorem size_out : (Tryd.prog.info? 26).map (·.size) = some 32 := by kernel_rfl

def mixB (s : List Int) (n : Nat) : List Int := (outB s).take n ++ List.replicate (32 - n) 0
theorem mixB_len (s : List Int) (n : Nat) (h : n ≤ 32) : (mixB s n).length = 32 := by
  rw [mixB, List.length_append, List.length_take, outB_len, List.length_replicate]; omega
theorem mixB_set (s : List Int) (n : Nat) (h : n < 32) : (mixB s n).set n ((outB s).getD n 0) = mixB s (n + 1) := by
  have := put_list (outB s) n (by rw [outB_len]; exact h)
  rw [outB_len] at this
  exact this
theorem el_sub {xss : List (List Int)} {j : Int} (h0 : 0 ≤ j) (h : j < xss.length) {x : Int} (hx : x ∈ el xss j) : x ∈ cat xss := by
  unfold el at hx
  rw [List.getD_eq_getElem?_getD, List.getElem?_eq_getElem (show j.toNat < xss.length by omega)] at hx
  exact List.mem_flatten.2 ⟨_, List.getElem_mem _, hx⟩
theorem cat_feed (xss : List (List Int)) (j : Int) (h0 : 0 ≤ j) (h : j < xss.length) : feed (feed S0 (cat (xss.take j.toNat))) (el xss j) = feed S0 (cat (xss.take (j + 1).toNat)) := by
  rw [← feed_append, show (j + 1).toNat = j.toNat + 1 from by omega, cat_take xss j.toNat (by omega)]
  rfl
theorem cat_bound (xss : List (List Int)) (j : Int) (h0 : 0 ≤ j) (h : j < xss.length) : (cat (xss.take j.toNat)).length + (el xss j).length ≤ (cat xss).length := by
  have h1 := cat_take_le xss (j.toNat + 1)
  rw [cat_take xss j.toNat (by omega), List.length_append] at h1
  exact h1

set_option maxRecDepth 100000 in
set_option maxHeartbeats 8000000 in
theorem sum_any (w : World) (A : Option Addr) (c : Nat) (xss : List (List Int)) (hC : KB.C w A xss.length xss) (hby : ∀ x ∈ cat xss, 0 ≤ x ∧ x < 256) (hl : (cat xss).length ≤ 4294967296) (hxl : xss.length ≤ 4294967296) (hcc : xss.length ≤ c) (hG : Glob w) :
    Calls Tryd.prog 19 #[.slice A xss.length c] w fun e w' => e = .returned (.agg (nums .u8 (sumP (cat xss))).toArray) ∧ Below w.heap.size w w' := by
  have HC := Aside0.mk hC
  have HBY := Aside0.mk hby
  have HL := Aside0.mk hl
  have HXL := Aside0.mk hxl
  have HG := Aside0.mk hG
  clear hC hby hl hxl hG
  go_enter Tryd.func19, Tryd.ntmps19
  go_wp2_with fail
  have HR0 : Aside0 (IsArr (w.alloc (.cells (nums .u8 (List.replicate 32 0)).toArray 26)) w.heap.size .u8 26 (List.replicate 32 0)) := ⟨blk_new w _⟩
  refine (start_any (w.alloc (.cells (nums .u8 (List.replicate 32 0)).toArray 26))).mono ?_
  rintro e w1 ⟨rfl, hb1⟩
  have HB1 := Aside0.mk hb1
  have HST := Aside0.mk (run_storeAt_new (P := Tryd.prog) w1 47 (nums .u32 (List.replicate 8 0)).toArray (nums .u32 ST).toArray (by rw [size_st]; rfl) rfl (by kernel_rfl))
  clear hb1
  go_wp2_with (refine store_event rfl (t := 47) (p := 3) (v := .tmp 13) rfl rfl (w1 := w1.alloc (.cells (nums .u32 ST).toArray 47)) ?hr ?_; (case hr => exact run_store_of rfl HST.out); intro w2 hw2; subst hw2)
  go_loopg [8, 17] xss.length (fun kq v8 v17 w' => ∃ (j : Int), v17 = .int .i64 j ∧ Aside0 (0 ≤ j ∧ (kq : Int) + j = xss.length) ∧ Aside0 (InvU w' (w1.heap.size + 1) (w1.heap.size + 1 + 1) w1.heap.size (feed S0 (cat (xss.take j.toNat)))) ∧ Aside0 (Below w.heap.size w w') ∧ Aside0 (IsArr w' w.heap.size .u8 26 (List.replicate 32 0)))
  case atStart =>
    have hz : (w.alloc (.cells (nums .u8 (List.replicate 32 0)).toArray 26)).heap.size = w.heap.size + 1 := World.size_alloc ..
    have hb : Below (w.heap.size + 1) (w.alloc (.cells (nums .u8 (List.replicate 32 0)).toArray 26)) w1 := by rw [← hz]; exact HB1.out
    refine ⟨0, rfl, ⟨⟨by omega, by omega⟩⟩, ⟨?_, ?_, ?_⟩, ⟨?_⟩, ⟨?_⟩⟩
    · have h1 := blk_new (w1.alloc (.cells (nums .u32 ST).toArray 47)) (.cells (nums .u8 (List.replicate 64 0)).toArray 41)
      rw [World.size_alloc] at h1
      exact blk_alloc h1 _
    · have h1 := blk_new ((w1.alloc (.cells (nums .u32 ST).toArray 47)).alloc (.cells (nums .u8 (List.replicate 64 0)).toArray 41)) (.cells (nums .i64 [0]).toArray 3)
      rw [World.size_alloc, World.size_alloc] at h1
      exact h1
    · exact blk_alloc (blk_alloc (blk_new w1 _) _) _
    · exact below_alloc (below_alloc (below_alloc ((below_alloc (B0 w) _).trans (hb.mono (Nat.le_succ _))) _) _) _
    · exact blk_alloc (blk_alloc (blk_alloc (HR0.out.below hb (Nat.lt_succ_self _)) _) _) _
  case round =>
    obtain ⟨j, rfl, HA, HI, HB, HO⟩ := hrel
    have hj0 := HA.out.1
    have hjm : j ≤ 4294967296 := by have := HA.out; have := HXL.out; omega
    have HWS := Aside0.mk (show w.heap.size < w1.heap.size from by have := HB1.out.size; rw [World.size_alloc] at this; omega)
    by_cases c1 : j < xss.length
    · have d1 : decide (j < (xss.length : Int)) = true := decide_eq_true c1
      obtain ⟨ad, A0, c0, rfl, hx, hlc, hCx⟩ := at_bytes (Kd.C_below HC.out HB.out) j hj0 c1
      have HCX := Aside0.mk hCx
      have HLC := Aside0.mk hlc
      have hne := block_lt (n := (el xss j).length) hCx
      have HNE := Aside0.mk (show ∀ a n c, (Value.slice A0 (el xss j).length c0) = .slice (some a) n c → 0 < n → a.block ≠ w1.heap.size + 1 ∧ a.block ≠ w1.heap.size + 1 + 1 ∧ a.block ≠ w1.heap.size from by
        intro a n c h hn
        injection h with h1 h2 h3
        subst h2
        have hCw : (Kd.int .u8).C w A0 (el xss j).length (el xss j) := by
          obtain ⟨_, A0', c0', e', hx', _, hCx'⟩ := at_bytes HC.out j hj0 c1
          injection e' with e'
          subst e'
          have hcell := HB.out.cell (cell_lt hx')
          rw [hx] at hcell
          rw [hx'] at hcell
          injection hcell with hcell
          injection hcell with q1 q2 q3
          rw [q1]
          exact hCx'
        have := block_lt hCw hn a h1
        have := HWS.out
        omega)
      clear hCx hlc hne
      go_wp2_with fail
      refine (add_any wr (w.heap.size + 1) (.slice A0 (el xss j).length c0) (el xss j) (w1.heap.size + 1) (w1.heap.size + 1 + 1) w1.heap.size (feed S0 (cat (xss.take j.toNat))) ⟨A0, c0, rfl, HLC.out, HCX.out⟩ (fun x hx => HBY.out x (el_sub hj0 c1 hx)) HI.out (feed_ok _ _ S0_ok (fun x hx => HBY.out x ((List.mem_flatten.1 hx).elim fun l hl => List.mem_flatten.2 ⟨l, List.mem_of_mem_take hl.1, hl.2⟩))) (by rw [feed_n]; have := cat_bound xss j hj0 c1; have := HL.out; simp only [S0]; omega) (glob_below HG.out HG.out.1 HB.out) (Nat.succ_pos _) (by have := HWS.out; omega) (by have := HWS.out; omega) (by have := HWS.out; omega) (by omega) (by omega) (by omega) HNE.out).mono ?_
      rintro e w2 ⟨rfl, hI2, hb2⟩
      have HI2 := Aside0.mk hI2
      have HB2 := Aside0.mk hb2
      clear hI2 hb2
      go_wp2
      go_roundg (xss.length - (j + 1).toNat)
      case measure => have := HA.out; omega
      case rel =>
        refine ⟨j + 1, rfl, ⟨⟨by omega, by omega⟩⟩, ⟨?_⟩, ⟨?_⟩, ⟨?_⟩⟩
        · rw [← cat_feed xss j hj0 c1]; exact HI2.out
        · exact HB.out.trans (HB2.out.mono (Nat.le_succ _))
        · exact HO.out.below HB2.out (Nat.lt_succ_self _)
    · have d1 : decide (j < (xss.length : Int)) = false := decide_eq_false c1
      have HE := Aside0.mk (show xss.take j.toNat = xss from List.take_of_length_le (by have := HA.out; omega))
      rw [HE.out] at HI
      have HNN := Aside0.mk (show (feed S0 (cat xss)).2.2 = ((cat xss).length : Int) from by rw [feed_n]; exact Int.zero_add _)
      have en : wr.cell? ⟨w1.heap.size + 1 + 1, 0, none⟩ = some (.int .i64 ((cat xss).length : Int)) := by rw [← HNN.out]; exact HI.out.2.1.cell 0 (by omega) (by simp)
      go_wp2_with fail
      refine (padding_any ((cat xss).length : Int) wr (by omega) (by have := HL.out; omega)).mono ?_
      rintro e w2 ⟨v, rfl, hR, hb2⟩
      have hI2 : InvU w2 (w1.heap.size + 1) (w1.heap.size + 1 + 1) w1.heap.size (feed S0 (cat xss)) := ⟨HI.out.1.below hb2 (arr_lt HI.out.1), HI.out.2.1.below hb2 (arr_lt HI.out.2.1), HI.out.2.2.below hb2 (arr_lt HI.out.2.2)⟩
      have HBV := Aside0.mk (Bs.bv (Bs.of_R hR))
      have HB2 := Aside0.mk (HB.out.trans (hb2.mono HB.out.size))
      have HO2 := Aside0.mk (HO.out.below hb2 (arr_lt HO.out))
      have HNE := Aside0.mk (show ∀ a n c, v = .slice (some a) n c → 0 < n → a.block ≠ w1.heap.size + 1 ∧ a.block ≠ w1.heap.size + 1 + 1 ∧ a.block ≠ w1.heap.size from by
        intro a n c h hn
        have h1 := arr_lt HI.out.1
        have h2 := arr_lt HI.out.2.1
        have h3 := arr_lt HI.out.2.2
        have : wr.heap.size ≤ a.block := ((Kd.R_bound hR).1 a.block (by rw [h]; rfl)).2.1
        omega)
      have HI2 := Aside0.mk hI2
      clear hR hb2 hI2 en
      go_wp2_with fail
      refine (add_any w2 (w.heap.size + 1) v (padP ((cat xss).length : Int)) (w1.heap.size + 1) (w1.heap.size + 1 + 1) w1.heap.size (feed S0 (cat xss)) HBV.out (padP_byte _) HI2.out (feed_ok _ _ S0_ok HBY.out) (by rw [HNN.out, padP_len]; have := HL.out; have := padz_lt ((cat xss).length : Int); omega) (glob_below HG.out HG.out.1 HB2.out) (Nat.succ_pos _) (by have := HWS.out; omega) (by have := HWS.out; omega) (by have := HWS.out; omega) (by omega) (by omega) (by omega) HNE.out).mono ?_
      rintro e w3 ⟨rfl, hI3, hb3⟩
      rw [← feed_append] at hI3
      have HI3 := Aside0.mk (show InvU w3 (w1.heap.size + 1) (w1.heap.size + 1 + 1) w1.heap.size (feed S0 (padded (cat xss))) from hI3)
      have HB3 := Aside0.mk (HB2.out.trans (hb3.mono (Nat.le_succ _)))
      have HO3 := Aside0.mk (HO2.out.below hb3 (Nat.lt_succ_self _))
      clear hI3 hb3 HI2 HI HB HB2 HO HO2
      obtain ⟨st, hst⟩ : ∃ x, x = (feed S0 (padded (cat xss))).1 := ⟨_, rfl⟩
      have HSL := Aside0.mk (show st.length = 8 from by rw [hst]; exact (feed_ok _ _ S0_ok (fun x hx => by
        rcases List.mem_append.1 hx with h | h
        · exact HBY.out x h
        · exact padP_byte _ x h)).1)
      have HSE := Aside0.mk (show sumP (cat xss) = outB st from by rw [hst]; rfl)
      have h4 := blk_alloc HI3.out.2.2 (.cells (nums .u8 (List.replicate 32 0)).toArray 26)
      rw [← hst] at h4
      have HS4 := Aside0.mk (show IsArr (w3.alloc (.cells (nums .u8 (List.replicate 32 0)).toArray 26)) w1.heap.size .u32 47 st from h4)
      clear h4 hst
      have HL4 := Aside0.mk (arr_load (P := Tryd.prog) HS4.out Tryd.underlying47 rfl (by rw [size_st, HSL.out]))
      go_wp2_with (first | (refine load_ev (t := 47) (p := .tmp 3) rfl rfl HL4.out ?_))
      have HZ3 := Aside0.mk (show w1.heap.size < w3.heap.size from arr_lt HI3.out.2.2)
      go_loopg [30] 8 (fun kq v30 w' => ∃ (i : Int), v30 = .int .i64 i ∧ Aside0 (0 ≤ i ∧ (kq : Int) + i = 8) ∧ Aside0 (IsArr w' w3.heap.size .u8 26 (mixB st (4 * i).toNat)) ∧ Aside0 (Below w.heap.size w w') ∧ Aside0 (IsArr w' w.heap.size .u8 26 (List.replicate 32 0)))
      case atStart => exact ⟨0, rfl, ⟨⟨by omega, by omega⟩⟩, ⟨blk_new w3 _⟩, ⟨below_alloc HB3.out _⟩, ⟨blk_alloc HO3.out _⟩⟩
      case round =>
        obtain ⟨i, rfl, HA2, HR2, HB4, HO4⟩ := hrel
        have hi0 : 0 ≤ i := HA2.out.1
        have him : i ≤ 8 := by have := HA2.out; omega
        by_cases c3 : i < 8
        · have d3 : decide (i < 8) = true := decide_eq_true c3
          obtain ⟨y, hy⟩ : ∃ y, y = rd st i := ⟨_, rfl⟩
          have hix : (Instr.index 47 (.agg (nums .u32 st).toArray) (.int .i64 i)).run Tryd.prog wr = .ok (.int .u32 y) wr := by
            rw [hy]
            exact arr_index Tryd.underlying47 .u32 Tryd.underlying46 info_u32 st i hi0 (by have := HSL.out; omega) HSL.out.symm wr
          have HY := Aside0.mk hy
          clear hy
          go_wp2
          obtain ⟨wO, rfl⟩ : ∃ x, x = wr := ⟨_, rfl⟩
          go_loopg [34] 4 (fun kq v34 w' => ∃ (k : Int), v34 = .int .i64 k ∧ Aside0 (0 ≤ k ∧ (kq : Int) + k = 4) ∧ Aside0 (IsArr w' w3.heap.size .u8 26 (mixB st (4 * i + k).toNat)) ∧ Aside0 (Below w.heap.size w w') ∧ Aside0 (IsArr w' w.heap.size .u8 26 (List.replicate 32 0)))
          case atStart => exact ⟨0, rfl, ⟨⟨by omega, by omega⟩⟩, ⟨by rw [Int.add_zero]; exact HR2.out⟩, HB4, HO4⟩
          case round =>
            obtain ⟨k, rfl, HA5, HR5, HB5, HO5⟩ := hrel
            have hk0 : 0 ≤ k := HA5.out.1
            have hkm : k ≤ 4 := by have := HA5.out; omega
            by_cases c5 : k < 4
            · have d5 : decide (k < 4) = true := decide_eq_true c5
              have hq0 : 0 ≤ 4 * i + k := by omega
              have hq1 : 4 * i + k < 32 := by omega
              have eo := HR5.out.cell (4 * i + k) hq0 (by rw [mixB_len _ _ (by omega)]; exact hq1)
              have fo := HR5.out.frozen (4 * i + k).toNat
              have k0 : IntKind.i64.wrap (4 * i) = 4 * i := IntWalk.i64_in _ (by omega)
              have k1 : IntKind.i64.wrap (4 * i + k) = 4 * i + k := IntWalk.i64_in _ (by omega)
              have k2 : IntKind.i64.wrap (8 * k) = 8 * k := IntWalk.i64_in _ (by omega)
              have k3 : IntKind.i64.wrap (24 - 8 * k) = 24 - 8 * k := IntWalk.i64_in _ (by omega)
              have HV := Aside0.mk (show (outB st).getD (4 * i + k).toNat 0 = y / 2 ^ (24 - 8 * k).toNat % 256 from by
                rw [outB_get _ _ (by omega), show (4 * i + k).toNat / 4 = i.toNat from by omega, show 24 - 8 * ((4 * i + k).toNat % 4) = (24 - 8 * k).toNat from by omega, HY.out]
                rfl)
              go_wp2
              go_roundg (4 - (k + 1).toNat)
              case measure => have := HA5.out; omega
              case rel =>
                refine ⟨k + 1, rfl, ⟨⟨by omega, by omega⟩⟩, ⟨?_⟩, ⟨HB5.out.setCell (p := ⟨w3.heap.size, (4 * i + k).toNat, none⟩) (by have := HWS.out; have := HZ3.out; dsimp only; omega) _⟩, ⟨HO5.out.far (by have := HWS.out; have := HZ3.out; dsimp only; omega) _⟩⟩
                have h := HR5.out.put (4 * i + k).toNat (y / 2 ^ (24 - 8 * k).toNat % 256)
                rw [← HV.out, mixB_set _ _ (by omega), HV.out, show (4 * i + k).toNat + 1 = (4 * i + (k + 1)).toNat from by omega] at h
                exact h
            · have d5 : decide (k < 4) = false := decide_eq_false c5
              go_wp2
              go_roundg (8 - (i + 1).toNat)
              case measure => have := HA2.out; omega
              case rel =>
                refine ⟨i + 1, rfl, ⟨⟨by omega, by omega⟩⟩, ⟨?_⟩, HB5, HO5⟩
                rw [show (4 * (i + 1)).toNat = (4 * i + k).toNat from by omega]
                exact HR5.out
        · have d3 : decide (i < 8) = false := decide_eq_false c3
          have HF : Aside0 (IsArr wr w3.heap.size .u8 26 (outB st)) := ⟨by
            have h := HR2.out
            rw [show (4 * i).toNat = 32 from by omega, mixB, List.take_of_length_le (by rw [outB_len]; decide), Nat.sub_self, List.replicate_zero, List.append_nil] at h
            exact h⟩
          have HLF := Aside0.mk (arr_load (P := Tryd.prog) HF.out Tryd.underlying26 rfl (by rw [size_out, outB_len]))
          have HSF := Aside0.mk (arr_store (P := Tryd.prog) (ys := outB st) HO4.out (by rw [size_out]; rfl) (by rw [outB_len]; rfl))
          go_wp2_with (first | (refine load_ev (t := 26) (p := .tmp 9) rfl rfl HLF.out ?_) | (refine store_event rfl (t := 26) (p := 2) (v := .tmp 50) rfl rfl (w1 := wr.setRow w.heap.size (nums .u8 (outB st)).toArray) ?hr ?_; (case hr => exact run_store_of rfl HSF.out); intro w2 hw2; subst hw2))
          refine bodyPost_ret (v := .agg (nums .u8 (outB st)).toArray) ?_ ?_ ?_
          · exact results_c rfl _ _ w.heap.size 26 _ (0, 0) _ rfl (arr_row HO4.out (outB st)) Tryd.underlying26 rfl (by rw [size_out]; simp [nums, outB_len])
          · rfl
          · rw [HSE.out]
            exact ⟨rfl, below_row HB4.out (Nat.le_refl _) _⟩

end Go.Proofs.YthhckkfdcnddfaaDoor.HShaW
