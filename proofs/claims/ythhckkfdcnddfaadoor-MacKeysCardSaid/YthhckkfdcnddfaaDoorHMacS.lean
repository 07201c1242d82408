/- mac.Sum. -/
import Derived.Test.YthhckkfdcnddfaaDoorHMacC
namespace Go.Proofs.YthhckkfdcnddfaaDoor.HMacS
open Go.RowKit Go.Proofs.YthhckkfdcnddfaaDoorW.PrintWords Go.Proofs.YthhckkfdcnddfaaDoor.HLib Go.Proofs.YthhckkfdcnddfaaDoor.HSha Go.Proofs.YthhckkfdcnddfaaDoor.HShaS Go.Proofs.YthhckkfdcnddfaaDoor.HShaU Go.Proofs.YthhckkfdcnddfaaDoor.HShaV Go.Proofs.YthhckkfdcnddfaaDoor.HShaW Go.Proofs.YthhckkfdcnddfaaDoor.HShaB Go.Proofs.YthhckkfdcnddfaaDoor.HMac Go.Proofs.YthhckkfdcnddfaaDoor.HMacC
set_option linter.unusedVariables false
set_option linter.unusedSimpArgs false

/-- Headers and the bytes that they read. -/
def Match (w : World) (hs : List Hd) (xss : List (List Int)) : Prop := hs.length = xss.length ∧ ∀ (i : Nat) (h : Hd) (xs : List Int), hs[i]? = some h → xss[i]? = some xs → (h : Hd).2.1 = xs.length ∧ xs.length ≤ h.2.2 ∧ (Kd.int .u8).C w h.1 xs.length xs
theorem Match.below {w w1 : World} {hs : List Hd} {xss : List (List Int)} (h : Match w hs xss) (hb : Below w.heap.size w w1) : Match w1 hs xss :=
  ⟨h.1, fun i a b h1 h2 => let q := h.2 i a b h1 h2; ⟨q.1, q.2.1, Kd.C_below q.2.2 hb⟩⟩
theorem Match.cons {w : World} {h : Hd} {hs : List Hd} {xs : List Int} {xss : List (List Int)} (h0 : h.2.1 = xs.length ∧ xs.length ≤ h.2.2 ∧ (Kd.int .u8).C w h.1 xs.length xs) (hm : Match w hs xss) : Match w (h :: hs) (xs :: xss) := by
  refine ⟨by rw [List.length_cons, List.length_cons, hm.1], fun i a b h1 h2 => ?_⟩
  cases i with
  | zero =>
    simp at h1 h2
    subst h1 h2
    exact h0
  | succ i => exact hm.2 i a b (by simpa using h1) (by simpa using h2)
theorem of_KB {w : World} {A : Option Addr} {xss : List (List Int)} (h : KB.C w A xss.length xss) : ∃ hs, KH.C w A hs.length hs ∧ Match w hs xss := by
  have hmax : xss.length ≤ 9223372036854775807 := h.2.1
  have each : ∀ i, i < xss.length → ∃ hd : Hd, (∀ ad, A = some ad → w.cell? (ad.add i) = some (encH hd)) ∧ hd.2.1 = (xss.getD i []).length ∧ (xss.getD i []).length ≤ hd.2.2 ∧ (Kd.int .u8).C w hd.1 (xss.getD i []).length (xss.getD i []) := by
    intro i hi
    obtain ⟨ad, A0, c0, e, hc, hl, hC⟩ := at_bytes h (i : Int) (by omega) (by omega)
    refine ⟨(A0, (xss.getD i []).length, c0), fun ad' e' => ?_, rfl, hl, hC⟩
    rw [e] at e'
    injection e' with e'
    subst e'
    exact hc
  obtain ⟨f, hf⟩ : ∃ f : Nat → Hd, ∀ i, i < xss.length → (∀ ad, A = some ad → w.cell? (ad.add i) = some (encH (f i))) ∧ (f i).2.1 = (xss.getD i []).length ∧ (xss.getD i []).length ≤ (f i).2.2 ∧ (Kd.int .u8).C w (f i).1 (xss.getD i []).length (xss.getD i []) :=
    ⟨fun i => if h : i < xss.length then (each i h).choose else H0, fun i hi => by
      simp only [dif_pos hi]
      exact (each i hi).choose_spec⟩
  refine ⟨(List.range xss.length).map f, ?_, by simp, fun i hd xs h1 h2 => ?_⟩
  · rw [List.length_map, List.length_range]
    refine ⟨by simp, hmax, fun hp => ?_⟩
    obtain ⟨ad, _, _, e, _⟩ := at_bytes h 0 (by omega) (by omega)
    refine ⟨ad, e, fun j p hj => ?_⟩
    have hjl : j < xss.length := by
      have := (List.getElem?_eq_some_iff.1 hj).1
      simpa using this
    have hp2 : f j = p := by simpa [List.getElem?_range hjl] using hj
    refine ⟨[encH p], rfl, rfl, fun q u hq => ?_⟩
    cases q with
    | succ q => simp at hq
    | zero =>
      obtain rfl : encH p = u := by simpa using hq
      rw [← hp2]
      have := (hf j hjl).1 ad e
      rwa [show j * KH.sz + 0 = j from by show j * 1 + 0 = j; omega]
  · have hil : i < xss.length := (List.getElem?_eq_some_iff.1 h2).1
    have e1 : f i = hd := by simpa [List.getElem?_range hil] using h1
    have e2 : xss.getD i [] = xs := by rw [List.getD_eq_getElem?_getD, h2]; rfl
    have := hf i hil
    rw [e1, e2] at this
    exact ⟨this.2.1, this.2.2.1, this.2.2.2⟩
theorem to_KB {w : World} {A : Option Addr} {hs : List Hd} {xss : List (List Int)} (h : KH.C w A hs.length hs) (hm : Match w hs xss) : KB.C w A xss.length xss := by
  rw [← hm.1]
  refine ⟨hm.1.symm, h.2.1, fun hp => ?_⟩
  obtain ⟨ad, e, hc⟩ := h.2.2 hp
  refine ⟨ad, e, fun j p hj => ?_⟩
  have hjl : j < hs.length := by rw [hm.1]; exact (List.getElem?_eq_some_iff.1 hj).1
  obtain ⟨c, hcl, hK, hcell⟩ := hc j hs[j] (List.getElem?_eq_getElem hjl)
  have hq := hm.2 j hs[j] p (List.getElem?_eq_getElem hjl) hj
  obtain rfl : c = [encH hs[j]] := hK
  refine ⟨[encH hs[j]], rfl, ⟨hs[j].1, hs[j].2.2, ?_, hq.2.1, hq.2.2⟩, hcell⟩
  rw [← hq.1]
  rfl
theorem splice_nums (k z : List Int) : splice (nums .u8 z) 0 (nums .u8 k) = nums .u8 (k ++ z.drop k.length) := by
  unfold splice
  rw [List.take_zero, List.nil_append, Nat.zero_add]
  simp [nums]
theorem C_cells {w : World} {A : Option Addr} {xs : List Int} (h : (Kd.int .u8).C w A xs.length xs) (hp : 0 < xs.length) : ∃ ad, A = some ad ∧ ∀ (j : Nat) (v : Value), (nums .u8 xs)[j]? = some v → w.cell? (ad.add j) = some v := by
  obtain ⟨_, _, h3⟩ := (readsInt_of.2 (Kd.reads_of_C (d := (0 : Int)) h) : ReadsInt w .u8 A xs.length xs)
  obtain ⟨ad, e, hc⟩ := h3 hp
  refine ⟨ad, e, fun j v hj => ?_⟩
  have hjl : j < xs.length := by
    have := (List.getElem?_eq_some_iff.1 hj).1
    simpa [nums] using this
  rw [hc j hjl]
  simpa [nums, List.getElem?_eq_getElem hjl, List.getD_eq_getElem?_getD] using hj
theorem KHH_two {w : World} {g : Nat} {A1 A2 : Option Addr} {h1 h2 : List Hd} {c1 c2 : Nat} (e1 : w.cell? ⟨g, 0, none⟩ = some (.slice A1 h1.length c1)) (e2 : w.cell? ⟨g, 1, none⟩ = some (.slice A2 h2.length c2)) (l1 : h1.length ≤ c1) (l2 : h2.length ≤ c2) (k1 : KH.C w A1 h1.length h1) (k2 : KH.C w A2 h2.length h2) : KHH.C w (some ⟨g, 0, none⟩) 2 [h1, h2] := by
  refine ⟨rfl, by decide, fun _ => ⟨_, rfl, fun j p hj => ?_⟩⟩
  match j, hj with
  | 0, hj =>
    obtain rfl : h1 = p := by simpa using hj
    refine ⟨[.slice A1 h1.length c1], rfl, ⟨A1, c1, rfl, l1, k1⟩, fun q u hq => ?_⟩
    cases q with
    | succ q => simp at hq
    | zero =>
      obtain rfl : Value.slice A1 h1.length c1 = u := by simpa using hq
      exact e1
  | 1, hj =>
    obtain rfl : h2 = p := by simpa using hj
    refine ⟨[.slice A2 h2.length c2], rfl, ⟨A2, c2, rfl, l2, k2⟩, fun q u hq => ?_⟩
    cases q with
    | succ q => simp at hq
    | zero =>
      obtain rfl : Value.slice A2 h2.length c2 = u := by simpa using hq
      exact e2
  | n + 2, hj => simp at hj
theorem KH_one {w : World} {g : Nat} {h : Hd} (e : w.cell? ⟨g, 0, none⟩ = some (encH h)) : KH.C w (some ⟨g, 0, none⟩) 1 [h] := by
  refine ⟨rfl, by decide, fun _ => ⟨_, rfl, fun j p hj => ?_⟩⟩
  cases j with
  | succ j => simp at hj
  | zero =>
    obtain rfl : h = p := by simpa using hj
    refine ⟨[encH h], rfl, rfl, fun q u hq => ?_⟩
    cases q with
    | succ q => simp at hq
    | zero =>
      obtain rfl : encH h = u := by simpa using hq
      exact e
def SM (w : World) (gp g8 : Nat) (K inner : List Int) (w' : World) : Prop := Glob w' ∧ Below w.heap.size w w' ∧ IsArr w' gp .u8 41 K ∧ IsArr w' g8 .u8 26 inner ∧ ∃ xs, xs.length = 32 ∧ IsArr w' w.heap.size .u8 26 xs
theorem SM.step {w : World} {gp g8 : Nat} {K inner : List Int} {w1 w2 : World} (h : SM w gp g8 K inner w1) (hb : Below w1.heap.size w1 w2) : SM w gp g8 K inner w2 := by
  obtain ⟨h1, h2, h3, h4, xs, h5, h6⟩ := h
  exact ⟨h1.below hb, below_step h2 hb, h3.below hb (arr_lt h3), h4.below hb (arr_lt h4), xs, h5, h6.below hb (arr_lt h6)⟩

theorem SM.row {w : World} {gp g8 : Nat} {K inner ys : List Int} {w1 : World} (h : SM w gp g8 K inner w1) (h0 : 0 < w.heap.size) (n1 : gp ≠ w.heap.size) (n2 : g8 ≠ w.heap.size) (hl : ys.length = 32) : SM w gp g8 K inner (w1.setRow w.heap.size (nums .u8 ys).toArray) := by
  obtain ⟨h1, h2, h3, h4, xs, h5, h6⟩ := h
  exact ⟨glob_below h1 h0 (below_row (Below.refl _ _) (Nat.le_refl _) _), below_row h2 (Nat.le_refl _) _, arr_rowfar h3 n1 _, arr_rowfar h4 n2 _, ys, hl, arr_row h6 _⟩
theorem KB_two {w : World} {g : Nat} {A1 A2 : Option Addr} {xs ys : List Int} {c1 c2 : Nat} (e1 : w.cell? ⟨g, 0, none⟩ = some (.slice A1 xs.length c1)) (e2 : w.cell? ⟨g, 1, none⟩ = some (.slice A2 ys.length c2)) (l1 : xs.length ≤ c1) (l2 : ys.length ≤ c2) (k1 : (Kd.int .u8).C w A1 xs.length xs) (k2 : (Kd.int .u8).C w A2 ys.length ys) : KB.C w (some ⟨g, 0, none⟩) 2 [xs, ys] := by
  refine ⟨rfl, by decide, fun _ => ⟨_, rfl, fun j p hj => ?_⟩⟩
  match j, hj with
  | 0, hj =>
    obtain rfl : xs = p := by simpa using hj
    refine ⟨[.slice A1 xs.length c1], rfl, ⟨A1, c1, rfl, l1, k1⟩, fun q u hq => ?_⟩
    cases q with
    | succ q => simp at hq
    | zero =>
      obtain rfl : Value.slice A1 xs.length c1 = u := by simpa using hq
      exact e1
  | 1, hj =>
    obtain rfl : ys = p := by simpa using hj
    refine ⟨[.slice A2 ys.length c2], rfl, ⟨A2, c2, rfl, l2, k2⟩, fun q u hq => ?_⟩
    cases q with
    | succ q => simp at hq
    | zero =>
      obtain rfl : Value.slice A2 ys.length c2 = u := by simpa using hq
      exact e2
  | n + 2, hj => simp at hj

set_option maxRecDepth 100000 in
set_option maxHeartbeats 8000000 in
theorem mac_any (w : World) (vk : Value) (key : List Int) (hvk : Bv w vk key) (hkb : ∀ x ∈ key, 0 ≤ x ∧ x < 256) (hkl : key.length ≤ 4294960000) (A : Option Addr) (c : Nat) (xss : List (List Int)) (hC : KB.C w A xss.length xss) (hcc : xss.length ≤ c)
    (hby : ∀ x ∈ cat xss, 0 ≤ x ∧ x < 256) (hl : (cat xss).length ≤ 4294960000) (hxl : xss.length ≤ 4294960000) (hG : Glob w) :
    Calls Tryd.prog 10 #[vk, .slice A xss.length c] w fun e w' => e = .returned (.agg (nums .u8 (macP key (cat xss))).toArray) ∧ Below w.heap.size w w' := by
  obtain ⟨Ak, ck, rfl, hck, hCk⟩ := hvk
  have HCK := Aside0.mk hCk
  have HCKL := Aside0.mk hck
  have HKB := Aside0.mk hkb
  have HKL := Aside0.mk hkl
  have HC := Aside0.mk hC
  have HCC := Aside0.mk hcc
  have HBY := Aside0.mk hby
  have HL := Aside0.mk hl
  have HXL := Aside0.mk hxl
  have HG := Aside0.mk hG
  clear hCk hkb hkl hC hcc hby hl hxl hG hck
  have hR0 : IsArr (w.alloc (.cells (nums .u8 (List.replicate 32 0)).toArray 26)) w.heap.size .u8 26 (List.replicate 32 0) := blk_new w _
  have hB0 : Below w.heap.size w (w.alloc (.cells (nums .u8 (List.replicate 32 0)).toArray 26)) := below_alloc (B0 w) _
  have HR0 := Aside0.mk hR0
  have HB0 := Aside0.mk hB0
  clear hR0 hB0
  by_cases c1 : 64 < key.length
  · have d1 : decide (64 < key.length) = true := decide_eq_true c1
    have d2 : decide ((64 : Int) < (key.length : Int)) = true := decide_eq_true (by omega)
    have HKE := Aside0.mk (show key64 key = sumP key ++ List.replicate (64 - (sumP key).length) 0 from by unfold key64; rw [if_pos c1])
    clear c1
    go_enter Tryd.func10, Tryd.ntmps10
    go_wp2_with fail
    obtain ⟨W1, hW1⟩ : ∃ W, W = (w.alloc (.cells (nums .u8 (List.replicate 32 0)).toArray 26)).alloc (.cells #[.slice Ak key.length ck] 22) := ⟨_, rfl⟩
    have hcell : W1.cell? ⟨w.heap.size + 1, 0, none⟩ = some (.slice Ak key.length ck) := by
      have h := blk_new (w.alloc (.cells (nums .u8 (List.replicate 32 0)).toArray 26)) (.cells #[.slice Ak key.length ck] 22)
      rw [World.size_alloc] at h
      rw [hW1]
      exact blk_cell h 0
    have hb1 : Below w.heap.size w W1 := by rw [hW1]; exact below_alloc HB0.out _
    have hr1 : IsArr W1 w.heap.size .u8 26 (List.replicate 32 0) := by rw [hW1]; exact blk_alloc HR0.out _
    change Calls Tryd.prog 19 _ ((w.alloc (.cells (nums .u8 (List.replicate 32 0)).toArray 26)).alloc (.cells #[.slice Ak key.length ck] 22)) _
    rw [← hW1]
    refine (sum_any W1 (some ⟨w.heap.size + 1, 0, none⟩) 1 [key] (KB_one (xs := key) hcell HCKL.out (Kd.C_below HCK.out hb1)) (by simpa [cat] using HKB.out) (by have := HKL.out; simp [cat]; omega) (show 1 ≤ 4294967296 by decide) (show 1 ≤ 1 by decide) (glob_below HG.out HG.out.1 hb1)).mono ?_
    rintro e w2 ⟨rfl, hb2⟩
    rw [show cat [key] = key from by simp [cat]]
    have HB2 := Aside0.mk (hb1.trans (hb2.mono hb1.size))
    have HR2 := Aside0.mk (hr1.below hb2 (arr_lt hr1))
    have HST := Aside0.mk (run_storeAt_new (P := Tryd.prog) w2 26 (nums .u8 (List.replicate 32 0)).toArray (nums .u8 (sumP key)).toArray (by rw [size_out]; simp [nums, sumP_len]) (by simp [nums, sumP_len]) (by simp [nums, Value.oneCell']))
    clear hcell hb1 hr1 hb2 hW1
    have HKM := Aside0.mk (show (sumP key).length ≤ 64 from by rw [sumP_len]; decide)
    have hKC : (Kd.int .u8).C ((w2.alloc (.cells (nums .u8 (sumP key)).toArray 26)).alloc (.cells (nums .u8 (List.replicate 64 0)).toArray 41)) (some ⟨w2.heap.size, 0, none⟩) (sumP key).length (sumP key) := Kd.C_below (bytes_C (blk_new w2 _) (by rw [sumP_len]; decide)) (below_alloc (B0 _) _)
    have hGP : IsArr ((w2.alloc (.cells (nums .u8 (sumP key)).toArray 26)).alloc (.cells (nums .u8 (List.replicate 64 0)).toArray 41)) (w2.heap.size + 1) .u8 41 (List.replicate 64 0) := by
      have h := blk_new (w2.alloc (.cells (nums .u8 (sumP key)).toArray 26)) (.cells (nums .u8 (List.replicate 64 0)).toArray 41)
      rw [World.size_alloc] at h
      exact h
    have HRC := Aside0.mk (show IsArr ((w2.alloc (.cells (nums .u8 (sumP key)).toArray 26)).alloc (.cells (nums .u8 (List.replicate 64 0)).toArray 41)) w.heap.size .u8 26 (List.replicate 32 0) from blk_alloc (blk_alloc HR2.out _) _)
    have HBC := Aside0.mk (show Below w.heap.size w ((w2.alloc (.cells (nums .u8 (sumP key)).toArray 26)).alloc (.cells (nums .u8 (List.replicate 64 0)).toArray 41)) from below_alloc (below_alloc HB2.out _) _)
    have HCN := Aside0.mk (show (nums .u8 (sumP key)).length = Nat.min (32) 64 from by simp only [nums, List.length_map]; rw [sumP_len]; rfl)
    have HFIT := Aside0.mk (show 0 + (nums .u8 (sumP key)).length ≤ (nums .u8 (List.replicate 64 0)).length from by simp only [nums, List.length_map, List.length_replicate]; have := HKM.out; omega)
    have HPOS := Aside0.mk (fun (hp : 0 < (nums .u8 (sumP key)).length) => C_cells hKC (by simpa [nums] using hp))
    have HGP := Aside0.mk hGP
    have HWG := Aside0.mk (show w.heap.size + 1 ≤ w2.heap.size + 1 from by have := HB2.out.size; have := arr_lt HR2.out; omega)
    clear hKC hGP
    go_wp2_with (first | (refine store_event rfl (t := 26) (p := 5) (v := .tmp 14) rfl rfl (w1 := w2.alloc (.cells (nums .u8 (sumP key)).toArray 26)) ?hr ?_; (case hr => exact run_store_of rfl HST.out); intro w3 hw3; subst hw3) | (refine wpList_copy_splice rfl (.tmp 16) (.tmp 17) 22 22 rfl 5 Tryd.underlying22 (show (Tryd.prog.info? 5).map (·.size) = some 1 by kernel_rfl) (some ⟨w2.heap.size + 1, 0, none⟩) (some ⟨w2.heap.size, 0, none⟩) 64 64 (32) (32) rfl rfl (w2.heap.size + 1) 0 (nums .u8 (List.replicate 64 0)) 41 HGP.out (nums .u8 (sumP key)) HCN.out (fun hp => ⟨rfl, HPOS.out hp⟩) HFIT.out (fun v hv => by obtain ⟨x, _, rfl⟩ := List.mem_map.1 hv; rfl) (w.heap.size + 1) ((w2.alloc (.cells (nums .u8 (sumP key)).toArray 26)).alloc (.cells (nums .u8 (List.replicate 64 0)).toArray 41)) (Below.refl _ _) HWG.out ?_; intro w3 hid hb3))
    have hP3 : IsArr w3 (w2.heap.size + 1) .u8 41 (key64 key) := by
      have h : w3.heap[w2.heap.size + 1]? = some (.cells (splice (nums .u8 (List.replicate 64 0)) 0 (nums .u8 (sumP key))).toArray 41 (0, 0)) := hid
      rw [splice_nums, List.drop_replicate, ← HKE.out] at h
      exact h
    have HP3 := Aside0.mk hP3
    have HB3 := Aside0.mk (HBC.out.trans (hb3.mono (Nat.le_succ _)))
    have HR3 := Aside0.mk (HRC.out.below hb3 (Nat.lt_succ_self _))
    clear hP3 hb3 hid
    have HG3 := Aside0.mk (glob_below HG.out HG.out.1 HB3.out)
    go_wp2_with fail
    refine (mask_any w3 (w2.heap.size + 1) (key64 key) 54 HP3.out (key64_len key)).mono ?_
    rintro e w4 ⟨rfl, hm4, hb4⟩
    have HP4 := Aside0.mk (HP3.out.below hb4 (arr_lt HP3.out))
    have HR4 := Aside0.mk (HR3.out.below hb4 (arr_lt HR3.out))
    have HB4 := Aside0.mk (below_step HB3.out hb4)
    have HM4 := Aside0.mk hm4
    clear hb4 hm4
    obtain ⟨hs, hKH, hMT⟩ := of_KB (Kd.C_below HC.out HB4.out)
    obtain ⟨W5, hW5⟩ : ∃ W, W = ((w4.alloc (.cells #[.slice (some ⟨w3.heap.size, 0, none⟩) 64 64] 22)).alloc (.cells #[.slice (some ⟨w4.heap.size, 0, none⟩) 1 1, .slice A xss.length c] 23)) := ⟨_, rfl⟩
    have hb45 : Below w4.heap.size w4 W5 := by rw [hW5]; exact below_alloc (below_alloc (B0 w4) _) _
    have hA5 : W5.heap[w4.heap.size]? = some (.cells #[.slice (some ⟨w3.heap.size, 0, none⟩) 64 64] 22 (0, 0)) := by rw [hW5]; exact blk_alloc (blk_new w4 _) _
    have hB5 : W5.heap[w4.heap.size + 1]? = some (.cells #[.slice (some ⟨w4.heap.size, 0, none⟩) 1 1, .slice A xss.length c] 23 (0, 0)) := by
      have h := blk_new (w4.alloc (.cells #[.slice (some ⟨w3.heap.size, 0, none⟩) 64 64] 22)) (.cells #[.slice (some ⟨w4.heap.size, 0, none⟩) 1 1, .slice A xss.length c] 23)
      rw [World.size_alloc] at h
      rw [hW5]
      exact h
    have hk1 : KH.C W5 (some ⟨w4.heap.size, 0, none⟩) 1 [(some ⟨w3.heap.size, 0, none⟩, 64, 64)] := KH_one (blk_cell hA5 0)
    have hl5 : hs.length = xss.length := hMT.1
    have HKHH := Aside0.mk (KHH_two (h1 := [(some ⟨w3.heap.size, 0, none⟩, 64, 64)]) (h2 := hs) (blk_cell hB5 0) (by rw [hl5]; exact blk_cell hB5 1) (Nat.le_refl _) (by rw [hl5]; exact HCC.out) hk1 (Kd.C_below hKH hb45))
    have HM5 := Aside0.mk ((HM4.out.below hb45 (arr_lt HM4.out)))
    have hC5 : (Kd.int .u8).C W5 (some ⟨w3.heap.size, 0, none⟩) (xr 54 (key64 key)).length (xr 54 (key64 key)) := bytes_C HM5.out (by rw [xr_len, key64_len]; decide)
    have HMT5 := Aside0.mk (Match.cons (h := (some ⟨w3.heap.size, 0, none⟩, 64, 64)) (xs := xr 54 (key64 key)) ⟨by rw [xr_len, key64_len], by rw [xr_len, key64_len]; exact Nat.le_refl _, hC5⟩ (hMT.below hb45))
    have HP5 := Aside0.mk (HP4.out.below hb45 (arr_lt HP4.out))
    have HR5 := Aside0.mk (HR4.out.below hb45 (arr_lt HR4.out))
    have HB5 := Aside0.mk (below_step HB4.out hb45)
    have HL5 := Aside0.mk hl5
    clear hb45 hA5 hB5 hk1 hC5 hKH hMT hl5
    go_wp2_with fail
    change Calls Tryd.prog 21 _ ((w4.alloc (.cells #[.slice (some ⟨w3.heap.size, 0, none⟩) 64 64] 22)).alloc (.cells #[.slice (some ⟨w4.heap.size, 0, none⟩) 1 1, .slice A xss.length c] 23)) _
    rw [← hW5]
    refine (concat_any W5 (some ⟨w4.heap.size + 1, 0, none⟩) 2 [[(some ⟨w3.heap.size, 0, none⟩, 64, 64)], hs] HKHH.out (by have := HL5.out; have := HXL.out; simp [catH]; omega) (show 2 ≤ 4294967296 by decide)).mono ?_
    rintro e w6 ⟨v6, rfl, hR6, hb6⟩
    obtain ⟨A6, c6, rfl, hc6, hC6⟩ := Kd.R_reads hR6
    have hcat : catH [[((some ⟨w3.heap.size, 0, none⟩, 64, 64) : Hd)], hs] = (some ⟨w3.heap.size, 0, none⟩, 64, 64) :: hs := by simp [catH]
    rw [hcat] at hC6 hc6 ⊢
    have HMT6 := Aside0.mk (HMT5.out.below hb6)
    have HC6 := Aside0.mk (to_KB hC6 HMT6.out)
    have HP6 := Aside0.mk (HP5.out.below hb6 (arr_lt HP5.out))
    have HR6 := Aside0.mk (HR5.out.below hb6 (arr_lt HR5.out))
    have HB6 := Aside0.mk (below_step HB5.out hb6)
    rw [HMT6.out.1] at hc6 ⊢
    have HCC6 := Aside0.mk hc6
    clear hR6 hb6 hcat hC6 hc6 hW5 HKHH
    go_wp2_with fail
    have hall : cat (xr 54 (key64 key) :: xss) = xr 54 (key64 key) ++ cat xss := by simp [cat]
    have hall1 : ∀ x ∈ cat (xr 54 (key64 key) :: xss), 0 ≤ x ∧ x < 256 := by
      rw [hall]
      intro x hx
      exact (List.mem_append.1 hx).elim (xr_byte _ _ x) (HBY.out x)
    have hall2 : (cat (xr 54 (key64 key) :: xss)).length ≤ 4294967296 := by rw [hall, List.length_append, xr_len, key64_len]; have := HL.out; omega
    refine (sum_any w6 A6 c6 (xr 54 (key64 key) :: xss) HC6.out hall1 hall2 (by have := HXL.out; rw [List.length_cons]; omega) HCC6.out (glob_below HG.out HG.out.1 HB6.out)).mono ?_
    rintro e w7 ⟨rfl, hb7⟩
    rw [hall]
    obtain ⟨inner, hin⟩ : ∃ i, i = sumP (xr 54 (key64 key) ++ cat xss) := ⟨_, rfl⟩
    have HIN := Aside0.mk (show macP key (cat xss) = sumP (xr 92 (key64 key) ++ inner) from by rw [hin]; rfl)
    have HIL := Aside0.mk (show inner.length = 32 from by rw [hin]; exact sumP_len _)
    have HIB := Aside0.mk (show ∀ x ∈ inner, 0 ≤ x ∧ x < 256 from by rw [hin]; exact sumP_byte _)
    rw [← hin]
    have HP7 := Aside0.mk (HP6.out.below hb7 (arr_lt HP6.out))
    have HR7 := Aside0.mk (HR6.out.below hb7 (arr_lt HR6.out))
    have HB7 := Aside0.mk (below_step HB6.out hb7)
    have HST7 := Aside0.mk (run_storeAt_new (P := Tryd.prog) w7 26 (nums .u8 (List.replicate 32 0)).toArray (nums .u8 inner).toArray (by rw [size_out]; simp [nums, HIL.out]) (by simp [nums, HIL.out]) (by simp [nums, Value.oneCell']))
    have hS8 : SM w (w2.heap.size + 1) w7.heap.size (key64 key) inner (w7.alloc (.cells (nums .u8 inner).toArray 26)).drew := by
      have hb : Below w.heap.size w (w7.alloc (.cells (nums .u8 inner).toArray 26)) := below_alloc HB7.out _
      exact SM.step ⟨glob_below HG.out HG.out.1 hb, hb, blk_alloc HP7.out _, blk_new w7 _, _, rfl, blk_alloc HR7.out _⟩ (below_drew1 (B0 _))
    have HS8 := Aside0.mk hS8
    clear hall hall1 hall2 hin hb7 hS8
    go_wp2_with (refine store_event rfl (t := 26) (p := 8) (v := .tmp 26) rfl rfl (w1 := w7.alloc (.cells (nums .u8 inner).toArray 26)) ?hr ?_; (case hr => exact run_store_of rfl HST7.out); intro w8 hw8; subst hw8)
    refine wp_region_held_drew (S := SM w (w2.heap.size + 1) w7.heap.size (key64 key) inner) (by kernel_rfl) HS8.out (fun hHeld => ?_)
    refine wpAnyH_take (i := 0) (v := .func (.func 20) #[] #[.pointer (some ⟨w2.heap.size + 1, 0, none⟩)]) rfl (by kernel_rfl) (by kernel_rfl) (by kernel_rfl) (fun _ _ _ h => h) (Or.inl ⟨by rfl, ?hy0⟩) hHeld ?_
    case hy0 => intro w' _; go_simp
    simp only [List.getElem_toArray, List.getElem_cons_succ, List.getElem_cons_zero, Act.put, List.setIfInBounds_toArray, List.set_cons_zero, List.set_cons_succ]
    refine wpAnyH_take (i := 2) (v := .slice (some ⟨w7.heap.size, 0, none⟩) 32 32) rfl (by kernel_rfl) (by kernel_rfl) (by kernel_rfl) (fun _ _ _ h => h) (Or.inl ⟨by rfl, ?hy2⟩) hHeld ?_
    case hy2 => intro w' _; go_simp
    simp only [List.getElem_toArray, List.getElem_cons_succ, List.getElem_cons_zero, Act.put, List.setIfInBounds_toArray, List.set_cons_zero, List.set_cons_succ]
    refine wpAnyH_ready (rs := [1]) (by kernel_rfl) (by simp) ?_
    refine AllReadyH.cons rfl (fun K hK => ?_) AllReadyH.nil
    simp only [List.getElem_toArray, List.getElem_cons_succ, List.getElem_cons_zero]
    rw [if_pos (by rfl)]
    go_simp
    refine (mask_any _ (w2.heap.size + 1) (key64 key) 92 hHeld.2.2.1 (key64_len key)).mono ?_
    rintro e w9 ⟨rfl, hm9, hbb⟩
    have hsz : (w7.alloc (.cells (nums .u8 inner).toArray 26)).drew.heap.size = w7.heap.size + 1 := World.size_alloc ..
    rw [hsz] at hm9 ⊢
    refine hK.out _ _ (SM.step hHeld hbb) (fun hHeld => ?_)
    clear hK K
    refine wpAnyH_ready (rs := [3]) (by kernel_rfl) (by simp) ?_
    refine AllReadyH.cons rfl (fun K hK => ?_) AllReadyH.nil
    simp only [List.getElem_toArray, List.getElem_cons_succ, List.getElem_cons_zero]
    rw [if_pos (by rfl)]
    go_simp
    have hA9 : (w9.alloc (.cells #[.slice (some ⟨w7.heap.size + 1, 0, none⟩) 64 64, .slice (some ⟨w7.heap.size, 0, none⟩) 32 32] 22)).heap[w9.heap.size]? = some (.cells #[.slice (some ⟨w7.heap.size + 1, 0, none⟩) 64 64, .slice (some ⟨w7.heap.size, 0, none⟩) 32 32] 22 (0, 0)) := blk_new w9 _
    have hbb2 := below_alloc (B0 w9) (.cells #[.slice (some ⟨w7.heap.size + 1, 0, none⟩) 64 64, .slice (some ⟨w7.heap.size, 0, none⟩) 32 32] 22)
    have hm10 := hm9.below hbb2 (arr_lt hm9)
    refine hK.out _ _ (SM.step hHeld hbb2) (fun hHeld => ?_)
    clear hK K
    refine wpAnyH_ready (rs := [4]) (by kernel_rfl) (by simp) ?_
    refine AllReadyH.cons rfl (fun K hK => ?_) AllReadyH.nil
    simp only [List.getElem_toArray, List.getElem_cons_succ, List.getElem_cons_zero]
    rw [if_pos (by rfl)]
    go_simp
    have hcat2 : cat [xr 92 (key64 key), inner] = xr 92 (key64 key) ++ inner := by simp [cat]
    have hC10 : (Kd.int .u8).C (w9.alloc (.cells #[.slice (some ⟨w7.heap.size + 1, 0, none⟩) 64 64, .slice (some ⟨w7.heap.size, 0, none⟩) 32 32] 22)) (some ⟨w7.heap.size + 1, 0, none⟩) (xr 92 (key64 key)).length (xr 92 (key64 key)) := bytes_C hm10 (by rw [xr_len, key64_len]; decide)
    have hC11 : (Kd.int .u8).C (w9.alloc (.cells #[.slice (some ⟨w7.heap.size + 1, 0, none⟩) 64 64, .slice (some ⟨w7.heap.size, 0, none⟩) 32 32] 22)) (some ⟨w7.heap.size, 0, none⟩) inner.length inner := bytes_C hHeld.2.2.2.1 (by rw [HIL.out]; decide)
    have hKB := KB_two (xs := xr 92 (key64 key)) (ys := inner) (A1 := some ⟨w7.heap.size + 1, 0, none⟩) (A2 := some ⟨w7.heap.size, 0, none⟩) (c1 := 64) (c2 := 32) (by rw [xr_len, key64_len]; exact blk_cell hA9 0) (by rw [HIL.out]; exact blk_cell hA9 1) (by rw [xr_len, key64_len]; exact Nat.le_refl _) (by rw [HIL.out]; exact Nat.le_refl _) hC10 hC11
    refine (sum_any _ (some ⟨w9.heap.size, 0, none⟩) 2 [xr 92 (key64 key), inner] hKB (by rw [hcat2]; intro x hx; exact (List.mem_append.1 hx).elim (xr_byte _ _ x) (HIB.out x)) (by rw [hcat2, List.length_append, xr_len, key64_len, HIL.out]; decide) (show 2 ≤ 4294967296 by decide) (show 2 ≤ 2 by decide) hHeld.1).mono ?_
    rintro e w11 ⟨rfl, hbb3⟩
    rw [hcat2, ← HIN.out]
    refine hK.out _ _ (SM.step hHeld hbb3) (fun hHeld => ?_)
    clear hK K
    obtain ⟨_, hbw, _, _, zs, hzl, hzs⟩ := id hHeld
    refine wpAnyH_ready (rs := [5]) (by kernel_rfl) (by simp) ?_
    refine AllReadyH.cons rfl (fun K hK => ?_) AllReadyH.nil
    simp only [List.getElem_toArray, List.getElem_cons_succ, List.getElem_cons_zero]
    rw [if_pos (by rfl)]
    refine wp_store_row 26 (.tmp 4) (.tmp 31) rfl w.heap.size (nums .u8 (macP key (cat xss))).toArray rfl rfl 26 _ hzs (by rw [size_out]; simp [nums, macP, sumP_len]) (by simp [nums, macP, sumP_len, hzl]) (by simp [nums, Value.oneCell']) ?_
    simp only [Act.put, List.setIfInBounds_toArray, List.set_cons_zero, List.set_cons_succ]
    have hgp0 : (w2.heap.size + 1) ≠ w.heap.size := by have := HB2.out.size; have := arr_lt HR2.out; omega
    have hg80 : w7.heap.size ≠ w.heap.size := by have := arr_lt HR7.out; omega
    refine hK.out _ _ (SM.row hHeld HG.out.1 hgp0 hg80 (by simp [macP, sumP_len])) (fun hHeld => ?_)
    clear hK K
    refine wpAnyH_done (by kernel_rfl) ?_ _
    have HZS := Aside0.mk hzs
    have HBW := Aside0.mk hbw
    clear hHeld hzs hbw hgp0 hg80 hzl hKB hC10 hC11 hm10 hA9 hcat2 hbb3 hbb2 hbb hm9
    go_wp2
    refine bodyPost_ret (v := .agg (nums .u8 (macP key (cat xss))).toArray) ?_ ?_ ?_
    · exact results_c rfl _ _ w.heap.size 26 _ (0, 0) _ rfl (arr_row HZS.out _) Tryd.underlying26 rfl (by rw [size_out]; simp [nums, macP, sumP_len])
    · rfl
    · exact ⟨rfl, below_row HBW.out (Nat.le_refl _) _⟩
  · have d1 : decide (64 < key.length) = false := decide_eq_false c1
    have d2 : decide ((64 : Int) < (key.length : Int)) = false := decide_eq_false (by omega)
    have HKE := Aside0.mk (show key64 key = key ++ List.replicate (64 - key.length) 0 from by unfold key64; rw [if_neg c1])
    have HKM := Aside0.mk (show key.length ≤ 64 from by omega)
    clear c1
    have hKC : (Kd.int .u8).C ((w.alloc (.cells (nums .u8 (List.replicate 32 0)).toArray 26)).alloc (.cells (nums .u8 (List.replicate 64 0)).toArray 41)) (Ak) (key).length (key) := Kd.C_below (Kd.C_below HCK.out HB0.out) (below_alloc (B0 _) _)
    have hGP : IsArr ((w.alloc (.cells (nums .u8 (List.replicate 32 0)).toArray 26)).alloc (.cells (nums .u8 (List.replicate 64 0)).toArray 41)) (w.heap.size + 1) .u8 41 (List.replicate 64 0) := by
      have h := blk_new (w.alloc (.cells (nums .u8 (List.replicate 32 0)).toArray 26)) (.cells (nums .u8 (List.replicate 64 0)).toArray 41)
      rw [World.size_alloc] at h
      exact h
    have HRC := Aside0.mk (show IsArr ((w.alloc (.cells (nums .u8 (List.replicate 32 0)).toArray 26)).alloc (.cells (nums .u8 (List.replicate 64 0)).toArray 41)) w.heap.size .u8 26 (List.replicate 32 0) from blk_alloc HR0.out _)
    have HBC := Aside0.mk (show Below w.heap.size w ((w.alloc (.cells (nums .u8 (List.replicate 32 0)).toArray 26)).alloc (.cells (nums .u8 (List.replicate 64 0)).toArray 41)) from below_alloc HB0.out _)
    have HCN := Aside0.mk (show (nums .u8 (key)).length = Nat.min (key.length) 64 from by simp only [nums, List.length_map]; have := HKM.out; exact (Nat.min_eq_left this).symm)
    have HFIT := Aside0.mk (show 0 + (nums .u8 (key)).length ≤ (nums .u8 (List.replicate 64 0)).length from by simp only [nums, List.length_map, List.length_replicate]; have := HKM.out; omega)
    have HPOS := Aside0.mk (fun (hp : 0 < (nums .u8 (key)).length) => C_cells hKC (by simpa [nums] using hp))
    have HGP := Aside0.mk hGP
    have HWG := Aside0.mk (show w.heap.size + 1 ≤ w.heap.size + 1 from Nat.le_refl _)
    clear hKC hGP
    go_enter Tryd.func10, Tryd.ntmps10
    go_wp2_with (first | (refine wpList_copy_splice rfl (.tmp 16) (.tmp 17) 22 22 rfl 5 Tryd.underlying22 (show (Tryd.prog.info? 5).map (·.size) = some 1 by kernel_rfl) (some ⟨w.heap.size + 1, 0, none⟩) (Ak) 64 64 (key.length) (ck) rfl rfl (w.heap.size + 1) 0 (nums .u8 (List.replicate 64 0)) 41 HGP.out (nums .u8 (key)) HCN.out (fun hp => ⟨rfl, HPOS.out hp⟩) HFIT.out (fun v hv => by obtain ⟨x, _, rfl⟩ := List.mem_map.1 hv; rfl) (w.heap.size + 1) ((w.alloc (.cells (nums .u8 (List.replicate 32 0)).toArray 26)).alloc (.cells (nums .u8 (List.replicate 64 0)).toArray 41)) (Below.refl _ _) HWG.out ?_; intro w3 hid hb3))
    have hP3 : IsArr w3 (w.heap.size + 1) .u8 41 (key64 key) := by
      have h : w3.heap[w.heap.size + 1]? = some (.cells (splice (nums .u8 (List.replicate 64 0)) 0 (nums .u8 (key))).toArray 41 (0, 0)) := hid
      rw [splice_nums, List.drop_replicate, ← HKE.out] at h
      exact h
    have HP3 := Aside0.mk hP3
    have HB3 := Aside0.mk (HBC.out.trans (hb3.mono (Nat.le_succ _)))
    have HR3 := Aside0.mk (HRC.out.below hb3 (Nat.lt_succ_self _))
    clear hP3 hb3 hid
    have HG3 := Aside0.mk (glob_below HG.out HG.out.1 HB3.out)
    go_wp2_with fail
    refine (mask_any w3 (w.heap.size + 1) (key64 key) 54 HP3.out (key64_len key)).mono ?_
    rintro e w4 ⟨rfl, hm4, hb4⟩
    have HP4 := Aside0.mk (HP3.out.below hb4 (arr_lt HP3.out))
    have HR4 := Aside0.mk (HR3.out.below hb4 (arr_lt HR3.out))
    have HB4 := Aside0.mk (below_step HB3.out hb4)
    have HM4 := Aside0.mk hm4
    clear hb4 hm4
    obtain ⟨hs, hKH, hMT⟩ := of_KB (Kd.C_below HC.out HB4.out)
    obtain ⟨W5, hW5⟩ : ∃ W, W = ((w4.alloc (.cells #[.slice (some ⟨w3.heap.size, 0, none⟩) 64 64] 22)).alloc (.cells #[.slice (some ⟨w4.heap.size, 0, none⟩) 1 1, .slice A xss.length c] 23)) := ⟨_, rfl⟩
    have hb45 : Below w4.heap.size w4 W5 := by rw [hW5]; exact below_alloc (below_alloc (B0 w4) _) _
    have hA5 : W5.heap[w4.heap.size]? = some (.cells #[.slice (some ⟨w3.heap.size, 0, none⟩) 64 64] 22 (0, 0)) := by rw [hW5]; exact blk_alloc (blk_new w4 _) _
    have hB5 : W5.heap[w4.heap.size + 1]? = some (.cells #[.slice (some ⟨w4.heap.size, 0, none⟩) 1 1, .slice A xss.length c] 23 (0, 0)) := by
      have h := blk_new (w4.alloc (.cells #[.slice (some ⟨w3.heap.size, 0, none⟩) 64 64] 22)) (.cells #[.slice (some ⟨w4.heap.size, 0, none⟩) 1 1, .slice A xss.length c] 23)
      rw [World.size_alloc] at h
      rw [hW5]
      exact h
    have hk1 : KH.C W5 (some ⟨w4.heap.size, 0, none⟩) 1 [(some ⟨w3.heap.size, 0, none⟩, 64, 64)] := KH_one (blk_cell hA5 0)
    have hl5 : hs.length = xss.length := hMT.1
    have HKHH := Aside0.mk (KHH_two (h1 := [(some ⟨w3.heap.size, 0, none⟩, 64, 64)]) (h2 := hs) (blk_cell hB5 0) (by rw [hl5]; exact blk_cell hB5 1) (Nat.le_refl _) (by rw [hl5]; exact HCC.out) hk1 (Kd.C_below hKH hb45))
    have HM5 := Aside0.mk ((HM4.out.below hb45 (arr_lt HM4.out)))
    have hC5 : (Kd.int .u8).C W5 (some ⟨w3.heap.size, 0, none⟩) (xr 54 (key64 key)).length (xr 54 (key64 key)) := bytes_C HM5.out (by rw [xr_len, key64_len]; decide)
    have HMT5 := Aside0.mk (Match.cons (h := (some ⟨w3.heap.size, 0, none⟩, 64, 64)) (xs := xr 54 (key64 key)) ⟨by rw [xr_len, key64_len], by rw [xr_len, key64_len]; exact Nat.le_refl _, hC5⟩ (hMT.below hb45))
    have HP5 := Aside0.mk (HP4.out.below hb45 (arr_lt HP4.out))
    have HR5 := Aside0.mk (HR4.out.below hb45 (arr_lt HR4.out))
    have HB5 := Aside0.mk (below_step HB4.out hb45)
    have HL5 := Aside0.mk hl5
    clear hb45 hA5 hB5 hk1 hC5 hKH hMT hl5
    go_wp2_with fail
    change Calls Tryd.prog 21 _ ((w4.alloc (.cells #[.slice (some ⟨w3.heap.size, 0, none⟩) 64 64] 22)).alloc (.cells #[.slice (some ⟨w4.heap.size, 0, none⟩) 1 1, .slice A xss.length c] 23)) _
    rw [← hW5]
    refine (concat_any W5 (some ⟨w4.heap.size + 1, 0, none⟩) 2 [[(some ⟨w3.heap.size, 0, none⟩, 64, 64)], hs] HKHH.out (by have := HL5.out; have := HXL.out; simp [catH]; omega) (show 2 ≤ 4294967296 by decide)).mono ?_
    rintro e w6 ⟨v6, rfl, hR6, hb6⟩
    obtain ⟨A6, c6, rfl, hc6, hC6⟩ := Kd.R_reads hR6
    have hcat : catH [[((some ⟨w3.heap.size, 0, none⟩, 64, 64) : Hd)], hs] = (some ⟨w3.heap.size, 0, none⟩, 64, 64) :: hs := by simp [catH]
    rw [hcat] at hC6 hc6 ⊢
    have HMT6 := Aside0.mk (HMT5.out.below hb6)
    have HC6 := Aside0.mk (to_KB hC6 HMT6.out)
    have HP6 := Aside0.mk (HP5.out.below hb6 (arr_lt HP5.out))
    have HR6 := Aside0.mk (HR5.out.below hb6 (arr_lt HR5.out))
    have HB6 := Aside0.mk (below_step HB5.out hb6)
    rw [HMT6.out.1] at hc6 ⊢
    have HCC6 := Aside0.mk hc6
    clear hR6 hb6 hcat hC6 hc6 hW5 HKHH
    go_wp2_with fail
    have hall : cat (xr 54 (key64 key) :: xss) = xr 54 (key64 key) ++ cat xss := by simp [cat]
    have hall1 : ∀ x ∈ cat (xr 54 (key64 key) :: xss), 0 ≤ x ∧ x < 256 := by
      rw [hall]
      intro x hx
      exact (List.mem_append.1 hx).elim (xr_byte _ _ x) (HBY.out x)
    have hall2 : (cat (xr 54 (key64 key) :: xss)).length ≤ 4294967296 := by rw [hall, List.length_append, xr_len, key64_len]; have := HL.out; omega
    refine (sum_any w6 A6 c6 (xr 54 (key64 key) :: xss) HC6.out hall1 hall2 (by have := HXL.out; rw [List.length_cons]; omega) HCC6.out (glob_below HG.out HG.out.1 HB6.out)).mono ?_
    rintro e w7 ⟨rfl, hb7⟩
    rw [hall]
    obtain ⟨inner, hin⟩ : ∃ i, i = sumP (xr 54 (key64 key) ++ cat xss) := ⟨_, rfl⟩
    have HIN := Aside0.mk (show macP key (cat xss) = sumP (xr 92 (key64 key) ++ inner) from by rw [hin]; rfl)
    have HIL := Aside0.mk (show inner.length = 32 from by rw [hin]; exact sumP_len _)
    have HIB := Aside0.mk (show ∀ x ∈ inner, 0 ≤ x ∧ x < 256 from by rw [hin]; exact sumP_byte _)
    rw [← hin]
    have HP7 := Aside0.mk (HP6.out.below hb7 (arr_lt HP6.out))
    have HR7 := Aside0.mk (HR6.out.below hb7 (arr_lt HR6.out))
    have HB7 := Aside0.mk (below_step HB6.out hb7)
    have HST7 := Aside0.mk (run_storeAt_new (P := Tryd.prog) w7 26 (nums .u8 (List.replicate 32 0)).toArray (nums .u8 inner).toArray (by rw [size_out]; simp [nums, HIL.out]) (by simp [nums, HIL.out]) (by simp [nums, Value.oneCell']))
    have hS8 : SM w (w.heap.size + 1) w7.heap.size (key64 key) inner (w7.alloc (.cells (nums .u8 inner).toArray 26)).drew := by
      have hb : Below w.heap.size w (w7.alloc (.cells (nums .u8 inner).toArray 26)) := below_alloc HB7.out _
      exact SM.step ⟨glob_below HG.out HG.out.1 hb, hb, blk_alloc HP7.out _, blk_new w7 _, _, rfl, blk_alloc HR7.out _⟩ (below_drew1 (B0 _))
    have HS8 := Aside0.mk hS8
    clear hall hall1 hall2 hin hb7 hS8
    go_wp2_with (refine store_event rfl (t := 26) (p := 8) (v := .tmp 26) rfl rfl (w1 := w7.alloc (.cells (nums .u8 inner).toArray 26)) ?hr ?_; (case hr => exact run_store_of rfl HST7.out); intro w8 hw8; subst hw8)
    refine wp_region_held_drew (S := SM w (w.heap.size + 1) w7.heap.size (key64 key) inner) (by kernel_rfl) HS8.out (fun hHeld => ?_)
    refine wpAnyH_take (i := 0) (v := .func (.func 20) #[] #[.pointer (some ⟨w.heap.size + 1, 0, none⟩)]) rfl (by kernel_rfl) (by kernel_rfl) (by kernel_rfl) (fun _ _ _ h => h) (Or.inl ⟨by rfl, ?hy0⟩) hHeld ?_
    case hy0 => intro w' _; go_simp
    simp only [List.getElem_toArray, List.getElem_cons_succ, List.getElem_cons_zero, Act.put, List.setIfInBounds_toArray, List.set_cons_zero, List.set_cons_succ]
    refine wpAnyH_take (i := 2) (v := .slice (some ⟨w7.heap.size, 0, none⟩) 32 32) rfl (by kernel_rfl) (by kernel_rfl) (by kernel_rfl) (fun _ _ _ h => h) (Or.inl ⟨by rfl, ?hy2⟩) hHeld ?_
    case hy2 => intro w' _; go_simp
    simp only [List.getElem_toArray, List.getElem_cons_succ, List.getElem_cons_zero, Act.put, List.setIfInBounds_toArray, List.set_cons_zero, List.set_cons_succ]
    refine wpAnyH_ready (rs := [1]) (by kernel_rfl) (by simp) ?_
    refine AllReadyH.cons rfl (fun K hK => ?_) AllReadyH.nil
    simp only [List.getElem_toArray, List.getElem_cons_succ, List.getElem_cons_zero]
    rw [if_pos (by rfl)]
    go_simp
    refine (mask_any _ (w.heap.size + 1) (key64 key) 92 hHeld.2.2.1 (key64_len key)).mono ?_
    rintro e w9 ⟨rfl, hm9, hbb⟩
    have hsz : (w7.alloc (.cells (nums .u8 inner).toArray 26)).drew.heap.size = w7.heap.size + 1 := World.size_alloc ..
    rw [hsz] at hm9 ⊢
    refine hK.out _ _ (SM.step hHeld hbb) (fun hHeld => ?_)
    clear hK K
    refine wpAnyH_ready (rs := [3]) (by kernel_rfl) (by simp) ?_
    refine AllReadyH.cons rfl (fun K hK => ?_) AllReadyH.nil
    simp only [List.getElem_toArray, List.getElem_cons_succ, List.getElem_cons_zero]
    rw [if_pos (by rfl)]
    go_simp
    have hA9 : (w9.alloc (.cells #[.slice (some ⟨w7.heap.size + 1, 0, none⟩) 64 64, .slice (some ⟨w7.heap.size, 0, none⟩) 32 32] 22)).heap[w9.heap.size]? = some (.cells #[.slice (some ⟨w7.heap.size + 1, 0, none⟩) 64 64, .slice (some ⟨w7.heap.size, 0, none⟩) 32 32] 22 (0, 0)) := blk_new w9 _
    have hbb2 := below_alloc (B0 w9) (.cells #[.slice (some ⟨w7.heap.size + 1, 0, none⟩) 64 64, .slice (some ⟨w7.heap.size, 0, none⟩) 32 32] 22)
    have hm10 := hm9.below hbb2 (arr_lt hm9)
    refine hK.out _ _ (SM.step hHeld hbb2) (fun hHeld => ?_)
    clear hK K
    refine wpAnyH_ready (rs := [4]) (by kernel_rfl) (by simp) ?_
    refine AllReadyH.cons rfl (fun K hK => ?_) AllReadyH.nil
    simp only [List.getElem_toArray, List.getElem_cons_succ, List.getElem_cons_zero]
    rw [if_pos (by rfl)]
    go_simp
    have hcat2 : cat [xr 92 (key64 key), inner] = xr 92 (key64 key) ++ inner := by simp [cat]
    have hC10 : (Kd.int .u8).C (w9.alloc (.cells #[.slice (some ⟨w7.heap.size + 1, 0, none⟩) 64 64, .slice (some ⟨w7.heap.size, 0, none⟩) 32 32] 22)) (some ⟨w7.heap.size + 1, 0, none⟩) (xr 92 (key64 key)).length (xr 92 (key64 key)) := bytes_C hm10 (by rw [xr_len, key64_len]; decide)
    have hC11 : (Kd.int .u8).C (w9.alloc (.cells #[.slice (some ⟨w7.heap.size + 1, 0, none⟩) 64 64, .slice (some ⟨w7.heap.size, 0, none⟩) 32 32] 22)) (some ⟨w7.heap.size, 0, none⟩) inner.length inner := bytes_C hHeld.2.2.2.1 (by rw [HIL.out]; decide)
    have hKB := KB_two (xs := xr 92 (key64 key)) (ys := inner) (A1 := some ⟨w7.heap.size + 1, 0, none⟩) (A2 := some ⟨w7.heap.size, 0, none⟩) (c1 := 64) (c2 := 32) (by rw [xr_len, key64_len]; exact blk_cell hA9 0) (by rw [HIL.out]; exact blk_cell hA9 1) (by rw [xr_len, key64_len]; exact Nat.le_refl _) (by rw [HIL.out]; exact Nat.le_refl _) hC10 hC11
    refine (sum_any _ (some ⟨w9.heap.size, 0, none⟩) 2 [xr 92 (key64 key), inner] hKB (by rw [hcat2]; intro x hx; exact (List.mem_append.1 hx).elim (xr_byte _ _ x) (HIB.out x)) (by rw [hcat2, List.length_append, xr_len, key64_len, HIL.out]; decide) (show 2 ≤ 4294967296 by decide) (show 2 ≤ 2 by decide) hHeld.1).mono ?_
    rintro e w11 ⟨rfl, hbb3⟩
    rw [hcat2, ← HIN.out]
    refine hK.out _ _ (SM.step hHeld hbb3) (fun hHeld => ?_)
    clear hK K
    obtain ⟨_, hbw, _, _, zs, hzl, hzs⟩ := id hHeld
    refine wpAnyH_ready (rs := [5]) (by kernel_rfl) (by simp) ?_
    refine AllReadyH.cons rfl (fun K hK => ?_) AllReadyH.nil
    simp only [List.getElem_toArray, List.getElem_cons_succ, List.getElem_cons_zero]
    rw [if_pos (by rfl)]
    refine wp_store_row 26 (.tmp 4) (.tmp 31) rfl w.heap.size (nums .u8 (macP key (cat xss))).toArray rfl rfl 26 _ hzs (by rw [size_out]; simp [nums, macP, sumP_len]) (by simp [nums, macP, sumP_len, hzl]) (by simp [nums, Value.oneCell']) ?_
    simp only [Act.put, List.setIfInBounds_toArray, List.set_cons_zero, List.set_cons_succ]
    have hgp0 : (w.heap.size + 1) ≠ w.heap.size := by omega
    have hg80 : w7.heap.size ≠ w.heap.size := by have := arr_lt HR7.out; omega
    refine hK.out _ _ (SM.row hHeld HG.out.1 hgp0 hg80 (by simp [macP, sumP_len])) (fun hHeld => ?_)
    clear hK K
    refine wpAnyH_done (by kernel_rfl) ?_ _
    have HZS := Aside0.mk hzs
    have HBW := Aside0.mk hbw
    clear hHeld hzs hbw hgp0 hg80 hzl hKB hC10 hC11 hm10 hA9 hcat2 hbb3 hbb2 hbb hm9
    go_wp2
    refine bodyPost_ret (v := .agg (nums .u8 (macP key (cat xss))).toArray) ?_ ?_ ?_
    · exact results_c rfl _ _ w.heap.size 26 _ (0, 0) _ rfl (arr_row HZS.out _) Tryd.underlying26 rfl (by rw [size_out]; simp [nums, macP, sumP_len])
    · rfl
    · exact ⟨rfl, below_row HBW.out (Nat.le_refl _) _⟩

end Go.Proofs.YthhckkfdcnddfaaDoor.HMacS
