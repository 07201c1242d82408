/- The law ZookieSigned. -/
import Derived.Test.YtogimlinfkbapaaDoorUL
import Derived.Test.YtogimlinfkbapaaDoorUI
import Derived.Laws.IdiomStrings
import Derived.Test.YtogimlinfkbapaaDoorUX
namespace Go.Proofs.YtogimlinfkbapaaDoor.HZookL4
open Go.RowKit Go.WideShapes Go.Proofs.YtogimlinfkbapaaDoorW.PrintWords Go.Proofs.YtogimlinfkbapaaDoor.HLib Go.Proofs.YtogimlinfkbapaaDoor.HSha Go.Proofs.YtogimlinfkbapaaDoor.HShaU Go.Proofs.YtogimlinfkbapaaDoor.HShaS Go.Proofs.YtogimlinfkbapaaDoor.HZook Go.Proofs.YtogimlinfkbapaaDoor.HZookE Go.Proofs.YtogimlinfkbapaaDoor.HZookP Go.Proofs.YtogimlinfkbapaaDoor.HZookR Go.Proofs.YtogimlinfkbapaaDoor.HZookF Go.Proofs.YtogimlinfkbapaaDoor.HZookM Go.Proofs.YtogimlinfkbapaaDoor.HErr Go.Proofs.YtogimlinfkbapaaDoor.HZookL Go.Proofs.YtogimlinfkbapaaDoor.HZookW Go.Proofs.YtogimlinfkbapaaDoor.HZookQ Go.Proofs.YtogimlinfkbapaaDoor.HZookN Go.Proofs.YtogimlinfkbapaaDoor.HZookA Go.Proofs.YtogimlinfkbapaaDoor.HZookL2 Go.Proofs.YtogimlinfkbapaaDoor.HZookL3 Go.Proofs.YtogimlinfkbapaaDoor.HZookS
set_option linter.unusedVariables false
set_option linter.unusedSimpArgs false

theorem sign_z (w : World) (vk : Value) (key : List Int) (hvk : Bv w vk key) (hkb : ∀ x ∈ key, 0 ≤ x ∧ x < 256) (hkl : key.length ≤ 200) (vb : Value) (bs : List Int) (hvb : Bv w vb bs) (hbb : ∀ x ∈ bs, 0 ≤ x ∧ x < 256) (hbl : bs.length ≤ 300) {s : ByteArray} (hs : signP key bs = s) :
    Calls Tryd.prog 20 #[vk, vb] w fun e w' => e = .returned (.string s) ∧ Below w.heap.size w w' := by
  subst hs; exact refsign_any w vk key hvk hkb (by omega) vb bs hvb hbb (by omega)
theorem row_cell {W : World} {g k : Nat} {cur : Array Value} {e : TypeId} (h : W.heap[g]? = some (.cells cur e (k, k + 1))) {i : Nat} {v : Value} (hv : cur[i]? = some v) : W.cell? ⟨g, i, none⟩ = some v := by
  simp [World.cell?, h, hv]
theorem row_frozen {W : World} {g k : Nat} {cur : Array Value} {e : TypeId} (h : W.heap[g]? = some (.cells cur e (k, k + 1))) {i : Nat} (hi : i < k) : W.frozen? ⟨g, i, none⟩ = false := by
  simp [World.frozen?, h]; omega
theorem row_set {W : World} {g k : Nat} {cur : Array Value} {e : TypeId} (h : W.heap[g]? = some (.cells cur e (k, k + 1))) (i : Nat) (v : Value) : (W.setCell ⟨g, i, none⟩ v).heap[g]? = some (.cells (cur.setIfInBounds i v) e (k, k + 1)) := by
  simp [World.setCell, Array.getElem?_modify, h]
theorem set_below {W : World} {g i : Nat} {v : Value} {B : Nat} {w0 : World} (h : Below B w0 W) (hg : B ≤ g) : Below B w0 (W.setCell ⟨g, i, none⟩ v) := h.setCell (p := (⟨g, i, none⟩ : Addr)) hg v
/-- The bytes of a text in a row of its own, with one of them set. -/
theorem set_C {W : World} {g k : Nat} {s : ByteArray} {cap : Nat} {e : TypeId} {i : Nat} {c : Int} (h : W.heap[g]? = some (.cells ((Go.bytesRow s cap).setIfInBounds i (.int .u8 c)) e (k, k + 1))) (hs : s.size ≤ 4294967296) :
    (Kd.int .u8).C W (some ⟨g, 0, none⟩) (((List.range s.size).map fun (j : Nat) => bt s j).set i c).length (((List.range s.size).map fun (j : Nat) => bt s j).set i c) := by
  refine Kd.C_of_reads (d := (0 : Int)) (readsInt_of.1 ⟨rfl, by simp; omega, fun _ => ⟨_, rfl, fun j hj => ?_⟩⟩)
  rw [List.length_set, List.length_map, List.length_range] at hj
  rw [Go.Proofs.YtogimlinfkbapaaDoorW.PrintWords.add_plain]
  refine row_cell h ?_
  rw [List.getD_eq_getElem?_getD, List.getElem?_set, Array.getElem?_setIfInBounds]
  have hjd : j < s.data.size := hj
  have hb := Go.bytesRow_at s cap j hjd
  by_cases hij : i = j
  · subst hij
    have hlt : i < (Go.bytesRow s cap).size := (Array.getElem?_eq_some_iff.1 hb).1
    simp [hlt, hj]
  · rw [if_neg hij, if_neg hij, hb]
    simp [hj, bt]
    rfl

theorem bt_sign {s : ByteArray} (v : Int) (h : s = HBase.alpha) : bt s v = HBase.sign v := by subst h; rfl
theorem conv_C {W w' : World} {A : Option Addr} {n c : Nat} {xs : List Int} {s : ByteArray} (h : (Kd.int .u8).C W A xs.length xs) (hb : Below W.heap.size W w') (hn : xs.length = n) (hs : s = strOfNums xs) :
    (convert 22 9 (.slice A n c)).run Tryd.prog w' = .ok (.string s) w' := by
  subst hn; subst hs
  exact string_of_reads Tryd.underlying22 Tryd.underlying5 Tryd.underlying9 (readsInt_of.2 (Kd.reads_of_C (d := (0 : Int)) (Kd.C_below h hb)))

set_option maxRecDepth 20000 in
set_option maxHeartbeats 4000000 in
theorem far_k (w : World) (A : Option Addr) (n c : Nat) (B : Option Addr) (m d : Nat) (at_ x : Int) (h : 200 < n) (hG : Glob w) (hE : ErrG w) : Calls Tryd.prog 6 #[.slice A n c, .slice B m d, .int .u8 at_, .int .u8 x] w fun e w' => e = .returned (.bool true) ∧ Below w.heap.size w w' := by
  have HG := Aside0.mk hG
  have HE := Aside0.mk hE
  have d1 : decide (200 < n) = true := decide_eq_true h
  have d2 : decide ((200 : Int) < (n : Int)) = true := decide_eq_true (by omega)
  clear hG hE h
  go_enter Tryd.func6, Tryd.ntmps6
  go_wp2_with fail
  refine (awake_any w HG.out HE.out).mono ?_
  rintro e w1 ⟨rfl, hbw1⟩
  have HBw1 := Aside0.mk hbw1
  clear hbw1
  go_wp2_with fail
  refine (awake_any w1 (glob_below HG.out HG.out.1 HBw1.out) (errg_step HE.out HBw1.out)).mono ?_
  rintro e w2 ⟨rfl, hbw2⟩
  have HBw2 := Aside0.mk (below_step HBw1.out hbw2)
  clear hbw2
  go_wp2
  go_ret
  exact ⟨rfl, HBw2.out⟩
set_option maxRecDepth 20000 in
set_option maxHeartbeats 4000000 in
theorem far_b (w : World) (A : Option Addr) (n c : Nat) (B : Option Addr) (m d : Nat) (at_ x : Int) (h0 : ¬ 200 < n) (h : 300 < m) (hG : Glob w) (hE : ErrG w) : Calls Tryd.prog 6 #[.slice A n c, .slice B m d, .int .u8 at_, .int .u8 x] w fun e w' => e = .returned (.bool true) ∧ Below w.heap.size w w' := by
  have HG := Aside0.mk hG
  have HE := Aside0.mk hE
  have d1 : decide (200 < n) = false := decide_eq_false h0
  have d2 : decide ((200 : Int) < (n : Int)) = false := decide_eq_false (by omega)
  have d3 : decide (300 < m) = true := decide_eq_true h
  have d4 : decide ((300 : Int) < (m : Int)) = true := decide_eq_true (by omega)
  clear hG hE h h0
  go_enter Tryd.func6, Tryd.ntmps6
  go_wp2_with fail
  refine (awake_any w HG.out HE.out).mono ?_
  rintro e w1 ⟨rfl, hbw1⟩
  have HBw1 := Aside0.mk hbw1
  clear hbw1
  go_wp2_with fail
  refine (awake_any w1 (glob_below HG.out HG.out.1 HBw1.out) (errg_step HE.out HBw1.out)).mono ?_
  rintro e w2 ⟨rfl, hbw2⟩
  have HBw2 := Aside0.mk (below_step HBw1.out hbw2)
  clear hbw2
  go_wp2
  go_ret
  exact ⟨rfl, HBw2.out⟩
set_option maxRecDepth 20000 in
set_option maxHeartbeats 4000000 in
theorem near_same (w : World) (Ak : Option Addr) (ck : Nat) (key : List Int) (hK : Bv w (.slice Ak key.length ck) key) (hkb : ∀ x ∈ key, 0 ≤ x ∧ x < 256) (hkl : key.length ≤ 200) (Ab : Option Addr) (cb : Nat) (bs : List Int) (hB : Bs w (.slice Ab bs.length cb) bs) (hbb : ∀ x ∈ bs, 0 ≤ x ∧ x < 256) (hbl : bs.length ≤ 300) (at_ x : Int) (hat : 0 ≤ at_ ∧ at_ < 256) (hx : 0 ≤ x ∧ x < 256) (hG : Glob w) (hE : ErrG w) (zd : Array Value) (hsd : zd.size = 34) (had : zd.all (·.oneCell') = true) (heq : ∀ w, (Op.equalIn 10000 26 (.agg zd) (.agg zd)).run Tryd.prog w = .ok true w) (c n : Int) (hz : prsZ (prs bs) = .agg zd) (hc : prsC (prs bs) = c) (hn : prsN (prs bs) = n)
    (S s2 : ByteArray) (hS : signP key bs = S) (hsz : S.size = (8 * (bs.length + 32) + 5) / 6) (I : Nat) (hI : (I : Int) = (S.size : Int) - 2 - at_ % 40) (hs2 : s2 = strOfNums (((List.range S.size).map fun (j : Nat) => bt S j).set I (HBase.sign (x % 64)))) (hq : s2 = S) :
    Calls Tryd.prog 6 #[.slice Ak key.length ck, .slice Ab bs.length cb, .int .u8 at_, .int .u8 x] w fun e w' => e = .returned (.bool true) ∧ Below w.heap.size w w' := by
  have HG := Aside0.mk hG
  have HE := Aside0.mk hE
  have HK := Aside0.mk hK
  have HKB := Aside0.mk hkb
  have HKL := Aside0.mk hkl
  have HB := Aside0.mk hB
  have HBB := Aside0.mk hbb
  have HBL := Aside0.mk hbl
  have HX := Aside0.mk hx
  have HAT := Aside0.mk hat
  have HAD := Aside0.mk had
  have HZ := Aside0.mk hz
  have HC := Aside0.mk hc
  have HN := Aside0.mk hn
  have HS := Aside0.mk hS
  have HSZ := Aside0.mk hsz
  have HI := Aside0.mk hI
  have HS2 := Aside0.mk hs2
  have HQ := Aside0.mk hq
  have HSS := Aside0.mk (show S.size ≤ 500 from by omega)
  have HSV := Aside0.mk (show verP key S = prs bs from by rw [← hS]; exact ver_sign key bs hbb)
  have d1 : decide (200 < key.length) = false := decide_eq_false (by omega)
  have d2 : decide ((200 : Int) < (key.length : Int)) = false := decide_eq_false (by omega)
  have d3 : decide (300 < bs.length) = false := decide_eq_false (by omega)
  have d4 : decide ((300 : Int) < (bs.length : Int)) = false := decide_eq_false (by omega)
  clear hG hE hK hkb hkl hB hbb hbl hx hat had hz hc hn hS hsz hI hs2 hq
  generalize hz0 : (#[.int .u8 0, .int .u64 0, .int .u8 0, .int .u8 0, .int .u8 0, .int .u8 0, .int .u8 0, .int .u8 0, .int .u8 0, .int .u8 0, .int .u8 0, .int .u8 0, .int .u8 0, .int .u8 0, .int .u8 0, .int .u8 0, .int .u8 0, .int .u8 0, .int .u8 0, .int .u8 0, .int .u8 0, .int .u8 0, .int .u8 0, .int .u8 0, .int .u8 0, .int .u8 0, .int .u8 0, .int .u8 0, .int .u8 0, .int .u8 0, .int .u8 0, .int .u8 0, .int .u8 0, .int .u8 0] : Array Value) = z0
  have HZ0 := Aside0.mk (show z0 = zkC 0 0 ZZ from hz0.symm.trans rfl)
  have hs0 : z0.size = 34 := by rw [HZ0.out]; rfl
  have HA0 := Aside0.mk (show z0.all (·.oneCell') = true from by rw [HZ0.out]; simp [nums, Value.oneCell'])
  go_enter Tryd.func6, Tryd.ntmps6
  go_wp2_with fail
  refine (awake_any w HG.out HE.out).mono ?_
  rintro e w1 ⟨rfl, hbw1⟩
  have HBw1 := Aside0.mk hbw1
  clear hbw1
  go_wp2_with fail
  refine (sign_z w1 _ key (HK.out.below HBw1.out) HKB.out HKL.out _ bs (Bs.bv (HB.out.below HBw1.out)) HBB.out HBL.out HS.out).mono ?_
  rintro e w2 ⟨rfl, hb2⟩
  have HBw2 := Aside0.mk (below_step HBw1.out hb2)
  clear hb2
  go_wp2_with fail
  refine (ver_z w2 _ S HSS.out key (HK.out.below HBw2.out) HKB.out HKL.out (glob_below HG.out HG.out.1 HBw2.out) (errg_step HE.out HBw2.out) (zd := zd) (c := c) (n := n) (by rw [HSV.out]; exact HZ.out) (by rw [HSV.out]; exact HC.out) (by rw [HSV.out]; exact HN.out)).mono ?_
  rintro e w3 ⟨rfl, hb3⟩
  have HBw3 := Aside0.mk (below_step HBw2.out hb3)
  clear hb3
  have hscq := zk_cells (blk_new w3 (.cells z0 26)) hs0 hsd HAD.out
  go_upto_region 4 with fail
  obtain ⟨WA, hWA⟩ : ∃ W, W = (w3.alloc (.cells z0 26)).setRow w3.heap.size zd := ⟨_, rfl⟩
  rw [← hWA]
  have HBWA := Aside0.mk (show Below w.heap.size w WA from by rw [hWA]; exact below_row (below_alloc HBw3.out _) (by have := HBw3.out.size; omega) _)
  have FWA := Aside0.mk (show WA.heap[w3.heap.size]? = some (.cells zd 26 (0, 0)) from by rw [hWA]; exact setRow_heap _ w3.heap.size _ _ _ (0, 0) (blk_new w3 _))
  clear hWA hscq
  go_wp2_with fail
  refine (refparse_z WA _ bs (HB.out.below HBWA.out) (by have := HBL.out; omega) HBB.out HZ.out HC.out HN.out).mono ?_
  rintro e w4 ⟨rfl, hb4⟩
  have HBw4 := Aside0.mk (below_step HBWA.out hb4)
  have F4 := Aside0.mk ((hb4.block w3.heap.size (blk_lt FWA.out)).trans FWA.out)
  clear hb4
  have hscq := zk_cells (blk_new w4 (.cells z0 26)) hs0 hsd HAD.out
  go_upto_region 5 with fail
  obtain ⟨WB, hWB⟩ : ∃ W, W = (w4.alloc (.cells z0 26)).setRow w4.heap.size zd := ⟨_, rfl⟩
  rw [← hWB]
  have HBWB := Aside0.mk (show Below w.heap.size w WB from by rw [hWB]; exact below_row (below_alloc HBw4.out _) (by have := HBw4.out.size; omega) _)
  have FWB := Aside0.mk (show WB.heap[w4.heap.size]? = some (.cells zd 26 (0, 0)) from by rw [hWB]; exact setRow_heap _ w4.heap.size _ _ _ (0, 0) (blk_new w4 _))
  have FA2 := Aside0.mk (show WB.heap[w3.heap.size]? = some (.cells zd 26 (0, 0)) from by rw [hWB]; exact ((below_row (below_alloc (B0 w4) _) (Nat.le_refl _) _).block w3.heap.size (blk_lt F4.out)).trans F4.out)
  clear hWB hscq
  have HLa := Aside0.mk (row_load FA2.out hsd)
  have HLb := Aside0.mk (row_load FWB.out hsd)
  go_wp2_with (first | (refine load_evg (t := 26) (p := .tmp 9) (by rfl) rfl HLa.out ?_) | (refine load_evg (t := 26) (p := .tmp 11) (by rfl) rfl HLb.out ?_))
  refine (told_any c n WB (errg_step HE.out HBWB.out)).mono ?_
  rintro e w5 ⟨rfl, hb5⟩
  have HBw5 := Aside0.mk (below_step HBWB.out hb5)
  clear hb5
  clear heq
  go_wp2_with fail
  refine (sign_z w5 _ key (HK.out.below HBw5.out) HKB.out HKL.out _ bs (Bs.bv (HB.out.below HBw5.out)) HBB.out HBL.out HS.out).mono ?_
  rintro e w6 ⟨rfl, hb6⟩
  have HBw6 := Aside0.mk (below_step HBw5.out hb6)
  clear hb6
  have hcv := Go.run_bytes_of_string (P := Tryd.prog) w6 9 22 5 S Tryd.underlying9 Tryd.underlying22 Tryd.underlying5
  obtain ⟨cap, hcap⟩ : ∃ k, k = grownCap w6 S.size 0 5 := ⟨_, rfl⟩
  rw [← hcap] at hcv
  have HCAP := Aside0.mk (show S.size ≤ cap from by rw [hcap]; exact grownCap_ge _ _ _ _)
  clear hcap
  obtain ⟨row, hrow⟩ : ∃ r, r = Go.bytesRow S cap := ⟨_, rfl⟩
  rw [← hrow] at hcv
  have HROW := Aside0.mk hrow
  clear hrow
  go_upto_region 8 with fail
  have hrs : row.size = cap := by rw [HROW.out]; simp [Go.bytesRow]; have := HCAP.out; have e : S.data.size = S.size := rfl; omega
  obtain ⟨WC, hWC⟩ : ∃ W, W = (w6.alloc (.cells row 5 (row.size, row.size + 1))).drew := ⟨_, rfl⟩
  rw [← hWC]
  have HBWC := Aside0.mk (show Below w.heap.size w WC from by rw [hWC]; exact below_drew (below_alloc HBw6.out _))
  have FWC := Aside0.mk (show WC.heap[w6.heap.size]? = some (.cells row 5 (row.size, row.size + 1)) from by rw [hWC]; exact blk_new w6 _)
  have HRS := Aside0.mk hrs
  clear hWC hcv hrs
  have HW1 := HSZ.out
  have HW2 := HSS.out
  have hat0 := HAT.out.1
  have hat1 := HAT.out.2
  have h43 : 43 ≤ S.size := by omega
  clear HW1
  go_upto_region 9 with fail
  rw [← HI.out]
  clear h43
  have HIB := Aside0.mk (show I + 2 ≤ S.size ∧ S.size ≤ I + 41 from by have := HI.out; omega)
  have hi1 : I < S.size := by have := HIB.out; omega
  have hi2 : (I : Int) < (S.size : Int) := by omega
  have hxa := HX.out.1
  have hxb := HX.out.2
  have hx0 : 0 ≤ x % 64 := by omega
  have hx1 : x % 64 < 64 := by omega
  obtain ⟨b0, hb0⟩ : ∃ b : Int, row[I]? = some (.int .u8 b) := ⟨_, by rw [HROW.out]; exact Go.bytesRow_at S cap I hi1⟩
  have hcx : WC.cell? ⟨w6.heap.size, I, none⟩ = some (.int .u8 b0) := row_cell FWC.out hb0
  have hfx : WC.frozen? ⟨w6.heap.size, I, none⟩ = false := row_frozen FWC.out (by have := HRS.out; have := HCAP.out; omega)
  clear hb0
  go_upto_region 10 with fail
  rw [bt_at _ (x % 64), bt_sign (x % 64) (h := by rfl)]
  obtain ⟨WD, hWD⟩ : ∃ W, W = WC.setCell ⟨w6.heap.size, I, none⟩ (.int .u8 (HBase.sign (x % 64))) := ⟨_, rfl⟩
  rw [← hWD]
  have HBWD := Aside0.mk (show Below w.heap.size w WD from by rw [hWD]; exact set_below HBWC.out (by have := HBw6.out.size; omega))
  have HCD := Aside0.mk (show (Kd.int .u8).C WD (some ⟨w6.heap.size, 0, none⟩) (((List.range S.size).map fun (j : Nat) => bt S j).set I (HBase.sign (x % 64))).length (((List.range S.size).map fun (j : Nat) => bt S j).set I (HBase.sign (x % 64))) from set_C (cap := cap) (by rw [hWD, ← HROW.out]; exact row_set FWC.out I _) (by have := HSS.out; omega))
  have HTC := Aside0.mk (show ∀ w', Below WD.heap.size WD w' → (convert 22 9 (.slice (some ⟨w6.heap.size, 0, none⟩) S.size cap)).run Tryd.prog w' = .ok (.string s2) w' from fun w' h => conv_C HCD.out h (by simp) HS2.out)
  have HEQ := Aside0.mk (show (s2.toList == S.toList) = true from (by rw [HQ.out]; exact beq_self_eq_true _))
  clear hWD hcx hfx hx0 hx1 hxa hxb hi1 hi2 hat0 hat1 HW2
  refine wp_region_held_drew (S := fun w' => Below WD.heap.size WD w') (by kernel_rfl) (below_drew1 (B0 WD)) (fun hHeld => ?_)
  generalize WD.drew = wd at hHeld ⊢
  refine wpAnyH_take (i := 0) (v := .slice (some ⟨w6.heap.size, 0, none⟩) S.size cap) rfl (by kernel_rfl) (by kernel_rfl) (by kernel_rfl) (fun _ _ _ h => h) (Or.inl ⟨by rfl, ?hy0⟩) hHeld ?_
  case hy0 => intro w' hSw; go_simp
  simp only [List.getElem_toArray, List.getElem_cons_succ, List.getElem_cons_zero, Act.put, List.setIfInBounds_toArray, List.set_cons_zero, List.set_cons_succ]
  refine wpAnyH_take (i := 1) (v := .string s2) rfl (by kernel_rfl) (by kernel_rfl) (by kernel_rfl) (fun _ _ _ h => h) (Or.inl ⟨by rfl, ?hy1⟩) hHeld ?_
  case hy1 => intro w' hSw; have hcv := HTC.out w' hSw; go_simp
  simp only [List.getElem_toArray, List.getElem_cons_succ, List.getElem_cons_zero, Act.put, List.setIfInBounds_toArray, List.set_cons_zero, List.set_cons_succ]
  refine wpAnyH_take (i := 2) (v := .slice Ak key.length ck) rfl (by kernel_rfl) (by kernel_rfl) (by kernel_rfl) (fun _ _ _ h => h) (Or.inl ⟨by rfl, ?hy2⟩) hHeld ?_
  case hy2 => intro w' hSw; go_simp
  simp only [List.getElem_toArray, List.getElem_cons_succ, List.getElem_cons_zero, Act.put, List.setIfInBounds_toArray, List.set_cons_zero, List.set_cons_succ]
  refine wpAnyH_take (i := 3) (v := .slice Ab bs.length cb) rfl (by kernel_rfl) (by kernel_rfl) (by kernel_rfl) (fun _ _ _ h => h) (Or.inl ⟨by rfl, ?hy3⟩) hHeld ?_
  case hy3 => intro w' hSw; go_simp
  simp only [List.getElem_toArray, List.getElem_cons_succ, List.getElem_cons_zero, Act.put, List.setIfInBounds_toArray, List.set_cons_zero, List.set_cons_succ]
  refine wpAnyH_ready (rs := [4]) (by kernel_rfl) (by simp) ?_
  refine AllReadyH.cons rfl (fun K hK => ?_) AllReadyH.nil
  simp only [List.getElem_toArray, List.getElem_cons_succ, List.getElem_cons_zero]
  rw [if_pos (by rfl)]
  go_simp
  refine (sign_z wd _ key (HK.out.below (below_step HBWD.out hHeld)) HKB.out HKL.out _ bs (Bs.bv (HB.out.below (below_step HBWD.out hHeld))) HBB.out HBL.out HS.out).mono ?_
  rintro e x1 ⟨rfl, hbx⟩
  refine hK.out _ _ (below_step hHeld hbx) (fun hHeld => ?_)
  clear hK K
  refine wpAnyH_take (i := 5) (v := .bool true) rfl (by kernel_rfl) (by kernel_rfl) (by kernel_rfl) (fun _ _ _ h => h) (Or.inl ⟨by rfl, ?hy5⟩) hHeld ?_
  case hy5 => intro w' hSw; have heq := HEQ.out; go_simp
  simp only [List.getElem_toArray, List.getElem_cons_succ, List.getElem_cons_zero, Act.put, List.setIfInBounds_toArray, List.set_cons_zero, List.set_cons_succ]
  refine wpAnyH_done (by kernel_rfl) ?_ _
  have HBX := Aside0.mk (below_step HBWD.out hHeld)
  have HHX := Aside0.mk hHeld
  clear hHeld hbx
  go_wp2_with fail
  go_ret
  exact ⟨rfl, HBX.out⟩
set_option maxRecDepth 20000 in
set_option maxHeartbeats 4000000 in
theorem near_other (w : World) (Ak : Option Addr) (ck : Nat) (key : List Int) (hK : Bv w (.slice Ak key.length ck) key) (hkb : ∀ x ∈ key, 0 ≤ x ∧ x < 256) (hkl : key.length ≤ 200) (Ab : Option Addr) (cb : Nat) (bs : List Int) (hB : Bs w (.slice Ab bs.length cb) bs) (hbb : ∀ x ∈ bs, 0 ≤ x ∧ x < 256) (hbl : bs.length ≤ 300) (at_ x : Int) (hat : 0 ≤ at_ ∧ at_ < 256) (hx : 0 ≤ x ∧ x < 256) (hG : Glob w) (hE : ErrG w) (zd : Array Value) (hsd : zd.size = 34) (had : zd.all (·.oneCell') = true) (heq : ∀ w, (Op.equalIn 10000 26 (.agg zd) (.agg zd)).run Tryd.prog w = .ok true w) (c n : Int) (hz : prsZ (prs bs) = .agg zd) (hc : prsC (prs bs) = c) (hn : prsN (prs bs) = n)
    (S s2 : ByteArray) (hS : signP key bs = S) (hsz : S.size = (8 * (bs.length + 32) + 5) / 6) (I : Nat) (hI : (I : Int) = (S.size : Int) - 2 - at_ % 40) (hs2 : s2 = strOfNums (((List.range S.size).map fun (j : Nat) => bt S j).set I (HBase.sign (x % 64)))) (hq : s2 ≠ S) (hvc : verP key s2 = .inl (12, (bs.length : Int))) :
    Calls Tryd.prog 6 #[.slice Ak key.length ck, .slice Ab bs.length cb, .int .u8 at_, .int .u8 x] w fun e w' => e = .returned (.bool true) ∧ Below w.heap.size w w' := by
  have HG := Aside0.mk hG
  have HE := Aside0.mk hE
  have HK := Aside0.mk hK
  have HKB := Aside0.mk hkb
  have HKL := Aside0.mk hkl
  have HB := Aside0.mk hB
  have HBB := Aside0.mk hbb
  have HBL := Aside0.mk hbl
  have HX := Aside0.mk hx
  have HAT := Aside0.mk hat
  have HAD := Aside0.mk had
  have HZ := Aside0.mk hz
  have HC := Aside0.mk hc
  have HN := Aside0.mk hn
  have HS := Aside0.mk hS
  have HSZ := Aside0.mk hsz
  have HI := Aside0.mk hI
  have HS2 := Aside0.mk hs2
  have HQ := Aside0.mk hq
  have HSS := Aside0.mk (show S.size ≤ 500 from by omega)
  have HSV := Aside0.mk (show verP key S = prs bs from by rw [← hS]; exact ver_sign key bs hbb)
  have d1 : decide (200 < key.length) = false := decide_eq_false (by omega)
  have d2 : decide ((200 : Int) < (key.length : Int)) = false := decide_eq_false (by omega)
  have d3 : decide (300 < bs.length) = false := decide_eq_false (by omega)
  have d4 : decide ((300 : Int) < (bs.length : Int)) = false := decide_eq_false (by omega)
  clear hG hE hK hkb hkl hB hbb hbl hx hat had hz hc hn hS hsz hI hs2 hq
  have HVC := Aside0.mk hvc
  clear hvc
  generalize hz0 : (#[.int .u8 0, .int .u64 0, .int .u8 0, .int .u8 0, .int .u8 0, .int .u8 0, .int .u8 0, .int .u8 0, .int .u8 0, .int .u8 0, .int .u8 0, .int .u8 0, .int .u8 0, .int .u8 0, .int .u8 0, .int .u8 0, .int .u8 0, .int .u8 0, .int .u8 0, .int .u8 0, .int .u8 0, .int .u8 0, .int .u8 0, .int .u8 0, .int .u8 0, .int .u8 0, .int .u8 0, .int .u8 0, .int .u8 0, .int .u8 0, .int .u8 0, .int .u8 0, .int .u8 0, .int .u8 0] : Array Value) = z0
  have HZ0 := Aside0.mk (show z0 = zkC 0 0 ZZ from hz0.symm.trans rfl)
  have hs0 : z0.size = 34 := by rw [HZ0.out]; rfl
  have HA0 := Aside0.mk (show z0.all (·.oneCell') = true from by rw [HZ0.out]; simp [nums, Value.oneCell'])
  go_enter Tryd.func6, Tryd.ntmps6
  go_wp2_with fail
  refine (awake_any w HG.out HE.out).mono ?_
  rintro e w1 ⟨rfl, hbw1⟩
  have HBw1 := Aside0.mk hbw1
  clear hbw1
  go_wp2_with fail
  refine (sign_z w1 _ key (HK.out.below HBw1.out) HKB.out HKL.out _ bs (Bs.bv (HB.out.below HBw1.out)) HBB.out HBL.out HS.out).mono ?_
  rintro e w2 ⟨rfl, hb2⟩
  have HBw2 := Aside0.mk (below_step HBw1.out hb2)
  clear hb2
  go_wp2_with fail
  refine (ver_z w2 _ S HSS.out key (HK.out.below HBw2.out) HKB.out HKL.out (glob_below HG.out HG.out.1 HBw2.out) (errg_step HE.out HBw2.out) (zd := zd) (c := c) (n := n) (by rw [HSV.out]; exact HZ.out) (by rw [HSV.out]; exact HC.out) (by rw [HSV.out]; exact HN.out)).mono ?_
  rintro e w3 ⟨rfl, hb3⟩
  have HBw3 := Aside0.mk (below_step HBw2.out hb3)
  clear hb3
  have hscq := zk_cells (blk_new w3 (.cells z0 26)) hs0 hsd HAD.out
  go_upto_region 4 with fail
  obtain ⟨WA, hWA⟩ : ∃ W, W = (w3.alloc (.cells z0 26)).setRow w3.heap.size zd := ⟨_, rfl⟩
  rw [← hWA]
  have HBWA := Aside0.mk (show Below w.heap.size w WA from by rw [hWA]; exact below_row (below_alloc HBw3.out _) (by have := HBw3.out.size; omega) _)
  have FWA := Aside0.mk (show WA.heap[w3.heap.size]? = some (.cells zd 26 (0, 0)) from by rw [hWA]; exact setRow_heap _ w3.heap.size _ _ _ (0, 0) (blk_new w3 _))
  clear hWA hscq
  go_wp2_with fail
  refine (refparse_z WA _ bs (HB.out.below HBWA.out) (by have := HBL.out; omega) HBB.out HZ.out HC.out HN.out).mono ?_
  rintro e w4 ⟨rfl, hb4⟩
  have HBw4 := Aside0.mk (below_step HBWA.out hb4)
  have F4 := Aside0.mk ((hb4.block w3.heap.size (blk_lt FWA.out)).trans FWA.out)
  clear hb4
  have hscq := zk_cells (blk_new w4 (.cells z0 26)) hs0 hsd HAD.out
  go_upto_region 5 with fail
  obtain ⟨WB, hWB⟩ : ∃ W, W = (w4.alloc (.cells z0 26)).setRow w4.heap.size zd := ⟨_, rfl⟩
  rw [← hWB]
  have HBWB := Aside0.mk (show Below w.heap.size w WB from by rw [hWB]; exact below_row (below_alloc HBw4.out _) (by have := HBw4.out.size; omega) _)
  have FWB := Aside0.mk (show WB.heap[w4.heap.size]? = some (.cells zd 26 (0, 0)) from by rw [hWB]; exact setRow_heap _ w4.heap.size _ _ _ (0, 0) (blk_new w4 _))
  have FA2 := Aside0.mk (show WB.heap[w3.heap.size]? = some (.cells zd 26 (0, 0)) from by rw [hWB]; exact ((below_row (below_alloc (B0 w4) _) (Nat.le_refl _) _).block w3.heap.size (blk_lt F4.out)).trans F4.out)
  clear hWB hscq
  have HLa := Aside0.mk (row_load FA2.out hsd)
  have HLb := Aside0.mk (row_load FWB.out hsd)
  go_wp2_with (first | (refine load_evg (t := 26) (p := .tmp 9) (by rfl) rfl HLa.out ?_) | (refine load_evg (t := 26) (p := .tmp 11) (by rfl) rfl HLb.out ?_))
  refine (told_any c n WB (errg_step HE.out HBWB.out)).mono ?_
  rintro e w5 ⟨rfl, hb5⟩
  have HBw5 := Aside0.mk (below_step HBWB.out hb5)
  clear hb5
  clear heq
  go_wp2_with fail
  refine (sign_z w5 _ key (HK.out.below HBw5.out) HKB.out HKL.out _ bs (Bs.bv (HB.out.below HBw5.out)) HBB.out HBL.out HS.out).mono ?_
  rintro e w6 ⟨rfl, hb6⟩
  have HBw6 := Aside0.mk (below_step HBw5.out hb6)
  clear hb6
  have hcv := Go.run_bytes_of_string (P := Tryd.prog) w6 9 22 5 S Tryd.underlying9 Tryd.underlying22 Tryd.underlying5
  obtain ⟨cap, hcap⟩ : ∃ k, k = grownCap w6 S.size 0 5 := ⟨_, rfl⟩
  rw [← hcap] at hcv
  have HCAP := Aside0.mk (show S.size ≤ cap from by rw [hcap]; exact grownCap_ge _ _ _ _)
  clear hcap
  obtain ⟨row, hrow⟩ : ∃ r, r = Go.bytesRow S cap := ⟨_, rfl⟩
  rw [← hrow] at hcv
  have HROW := Aside0.mk hrow
  clear hrow
  go_upto_region 8 with fail
  have hrs : row.size = cap := by rw [HROW.out]; simp [Go.bytesRow]; have := HCAP.out; have e : S.data.size = S.size := rfl; omega
  obtain ⟨WC, hWC⟩ : ∃ W, W = (w6.alloc (.cells row 5 (row.size, row.size + 1))).drew := ⟨_, rfl⟩
  rw [← hWC]
  have HBWC := Aside0.mk (show Below w.heap.size w WC from by rw [hWC]; exact below_drew (below_alloc HBw6.out _))
  have FWC := Aside0.mk (show WC.heap[w6.heap.size]? = some (.cells row 5 (row.size, row.size + 1)) from by rw [hWC]; exact blk_new w6 _)
  have HRS := Aside0.mk hrs
  clear hWC hcv hrs
  have HW1 := HSZ.out
  have HW2 := HSS.out
  have hat0 := HAT.out.1
  have hat1 := HAT.out.2
  have h43 : 43 ≤ S.size := by omega
  clear HW1
  go_upto_region 9 with fail
  rw [← HI.out]
  clear h43
  have HIB := Aside0.mk (show I + 2 ≤ S.size ∧ S.size ≤ I + 41 from by have := HI.out; omega)
  have hi1 : I < S.size := by have := HIB.out; omega
  have hi2 : (I : Int) < (S.size : Int) := by omega
  have hxa := HX.out.1
  have hxb := HX.out.2
  have hx0 : 0 ≤ x % 64 := by omega
  have hx1 : x % 64 < 64 := by omega
  obtain ⟨b0, hb0⟩ : ∃ b : Int, row[I]? = some (.int .u8 b) := ⟨_, by rw [HROW.out]; exact Go.bytesRow_at S cap I hi1⟩
  have hcx : WC.cell? ⟨w6.heap.size, I, none⟩ = some (.int .u8 b0) := row_cell FWC.out hb0
  have hfx : WC.frozen? ⟨w6.heap.size, I, none⟩ = false := row_frozen FWC.out (by have := HRS.out; have := HCAP.out; omega)
  clear hb0
  go_upto_region 10 with fail
  rw [bt_at _ (x % 64), bt_sign (x % 64) (h := by rfl)]
  obtain ⟨WD, hWD⟩ : ∃ W, W = WC.setCell ⟨w6.heap.size, I, none⟩ (.int .u8 (HBase.sign (x % 64))) := ⟨_, rfl⟩
  rw [← hWD]
  have HBWD := Aside0.mk (show Below w.heap.size w WD from by rw [hWD]; exact set_below HBWC.out (by have := HBw6.out.size; omega))
  have HCD := Aside0.mk (show (Kd.int .u8).C WD (some ⟨w6.heap.size, 0, none⟩) (((List.range S.size).map fun (j : Nat) => bt S j).set I (HBase.sign (x % 64))).length (((List.range S.size).map fun (j : Nat) => bt S j).set I (HBase.sign (x % 64))) from set_C (cap := cap) (by rw [hWD, ← HROW.out]; exact row_set FWC.out I _) (by have := HSS.out; omega))
  have HTC := Aside0.mk (show ∀ w', Below WD.heap.size WD w' → (convert 22 9 (.slice (some ⟨w6.heap.size, 0, none⟩) S.size cap)).run Tryd.prog w' = .ok (.string s2) w' from fun w' h => conv_C HCD.out h (by simp) HS2.out)
  have HEQ := Aside0.mk (show (s2.toList == S.toList) = false from (by rw [beq_eq_false_iff_ne, ByteArray.toList_eq, ByteArray.toList_eq]; exact fun h => HQ.out (ByteArray.ext (Array.toList_inj.mp h))))
  clear hWD hcx hfx hx0 hx1 hxa hxb hi1 hi2 hat0 hat1 HW2
  refine wp_region_held_drew (S := fun w' => Below WD.heap.size WD w') (by kernel_rfl) (below_drew1 (B0 WD)) (fun hHeld => ?_)
  generalize WD.drew = wd at hHeld ⊢
  refine wpAnyH_take (i := 0) (v := .slice (some ⟨w6.heap.size, 0, none⟩) S.size cap) rfl (by kernel_rfl) (by kernel_rfl) (by kernel_rfl) (fun _ _ _ h => h) (Or.inl ⟨by rfl, ?hy0⟩) hHeld ?_
  case hy0 => intro w' hSw; go_simp
  simp only [List.getElem_toArray, List.getElem_cons_succ, List.getElem_cons_zero, Act.put, List.setIfInBounds_toArray, List.set_cons_zero, List.set_cons_succ]
  refine wpAnyH_take (i := 1) (v := .string s2) rfl (by kernel_rfl) (by kernel_rfl) (by kernel_rfl) (fun _ _ _ h => h) (Or.inl ⟨by rfl, ?hy1⟩) hHeld ?_
  case hy1 => intro w' hSw; have hcv := HTC.out w' hSw; go_simp
  simp only [List.getElem_toArray, List.getElem_cons_succ, List.getElem_cons_zero, Act.put, List.setIfInBounds_toArray, List.set_cons_zero, List.set_cons_succ]
  refine wpAnyH_take (i := 2) (v := .slice Ak key.length ck) rfl (by kernel_rfl) (by kernel_rfl) (by kernel_rfl) (fun _ _ _ h => h) (Or.inl ⟨by rfl, ?hy2⟩) hHeld ?_
  case hy2 => intro w' hSw; go_simp
  simp only [List.getElem_toArray, List.getElem_cons_succ, List.getElem_cons_zero, Act.put, List.setIfInBounds_toArray, List.set_cons_zero, List.set_cons_succ]
  refine wpAnyH_take (i := 3) (v := .slice Ab bs.length cb) rfl (by kernel_rfl) (by kernel_rfl) (by kernel_rfl) (fun _ _ _ h => h) (Or.inl ⟨by rfl, ?hy3⟩) hHeld ?_
  case hy3 => intro w' hSw; go_simp
  simp only [List.getElem_toArray, List.getElem_cons_succ, List.getElem_cons_zero, Act.put, List.setIfInBounds_toArray, List.set_cons_zero, List.set_cons_succ]
  refine wpAnyH_ready (rs := [4]) (by kernel_rfl) (by simp) ?_
  refine AllReadyH.cons rfl (fun K hK => ?_) AllReadyH.nil
  simp only [List.getElem_toArray, List.getElem_cons_succ, List.getElem_cons_zero]
  rw [if_pos (by rfl)]
  go_simp
  refine (sign_z wd _ key (HK.out.below (below_step HBWD.out hHeld)) HKB.out HKL.out _ bs (Bs.bv (HB.out.below (below_step HBWD.out hHeld))) HBB.out HBL.out HS.out).mono ?_
  rintro e x1 ⟨rfl, hbx⟩
  refine hK.out _ _ (below_step hHeld hbx) (fun hHeld => ?_)
  clear hK K
  refine wpAnyH_take (i := 5) (v := .bool false) rfl (by kernel_rfl) (by kernel_rfl) (by kernel_rfl) (fun _ _ _ h => h) (Or.inl ⟨by rfl, ?hy5⟩) hHeld ?_
  case hy5 => intro w' hSw; have heq := HEQ.out; go_simp
  simp only [List.getElem_toArray, List.getElem_cons_succ, List.getElem_cons_zero, Act.put, List.setIfInBounds_toArray, List.set_cons_zero, List.set_cons_succ]
  refine wpAnyH_done (by kernel_rfl) ?_ _
  have HBX := Aside0.mk (below_step HBWD.out hHeld)
  have HHX := Aside0.mk hHeld
  clear hHeld hbx
  have hcv := HTC.out x1 HHX.out
  go_wp2_with fail
  clear hcv
  refine (ver_z x1 _ s2 (by rw [HS2.out, strOfNums_size]; have := HSS.out; simp; omega) key (HK.out.below HBX.out) HKB.out HKL.out (glob_below HG.out HG.out.1 HBX.out) (errg_step HE.out HBX.out) (zd := z0) (c := 12) (n := bs.length) (by rw [HVC.out, HZ0.out]; rfl) (by rw [HVC.out]; rfl) (by rw [HVC.out]; rfl)).mono ?_
  rintro e w7 ⟨rfl, hb7⟩
  have HBw7 := Aside0.mk (below_step HBX.out hb7)
  clear hb7
  have hscq := zk_cells (blk_new w7 (.cells z0 26)) hs0 hs0 HA0.out
  go_upto_region 13 with fail
  obtain ⟨WE, hWE⟩ : ∃ W, W = (w7.alloc (.cells z0 26)).setRow w7.heap.size z0 := ⟨_, rfl⟩
  rw [← hWE]
  have HBWE := Aside0.mk (show Below w.heap.size w WE from by rw [hWE]; exact below_row (below_alloc HBw7.out _) (by have := HBw7.out.size; omega) _)
  have FWE := Aside0.mk (show WE.heap[w7.heap.size]? = some (.cells z0 26 (0, 0)) from by rw [hWE]; exact setRow_heap _ w7.heap.size _ _ _ (0, 0) (blk_new w7 _))
  clear hWE hscq
  go_wp2_with fail
  refine (told_any 12 bs.length WE (errg_step HE.out HBWE.out)).mono ?_
  rintro e w8 ⟨rfl, hb8⟩
  have HBw8 := Aside0.mk (below_step HBWE.out hb8)
  have F8 := Aside0.mk ((hb8.block w7.heap.size (blk_lt FWE.out)).trans FWE.out)
  clear hb8
  have HL8 := Aside0.mk (row_load F8.out hs0)
  have heq := eq_z HZ0.out
  go_wp2_with (first | (refine load_evg (t := 26) (p := .tmp 16) (by rfl) rfl HL8.out ?_))
  go_ret
  exact ⟨rfl, HBw8.out⟩
theorem signed_walk (w : World) (Ak : Option Addr) (ck : Nat) (key : List Int) (hK : Bv w (.slice Ak key.length ck) key) (hkb : ∀ x ∈ key, 0 ≤ x ∧ x < 256) (Ab : Option Addr) (cb : Nat) (bs : List Int) (hB : Bs w (.slice Ab bs.length cb) bs) (hbb : ∀ x ∈ bs, 0 ≤ x ∧ x < 256) (at_ x : Int) (hat : 0 ≤ at_ ∧ at_ < 256) (hx : 0 ≤ x ∧ x < 256) (hG : Glob w) (hE : ErrG w) :
    Calls Tryd.prog 6 #[.slice Ak key.length ck, .slice Ab bs.length cb, .int .u8 at_, .int .u8 x] w fun e w' => e = .returned (.bool true) ∧ Below w.heap.size w w' := by
  by_cases hkl : 200 < key.length
  · exact far_k w Ak key.length ck Ab bs.length cb at_ x hkl hG hE
  · by_cases hbl : 300 < bs.length
    · exact far_b w Ak key.length ck Ab bs.length cb at_ x hkl hbl hG hE
    · have hsz : (signP key bs).size = (8 * (bs.length + 32) + 5) / 6 := by
        have := HBaseP.encS_size (bs ++ HMac.macP key bs) (fun y hy => (List.mem_append.1 hy).elim (hbb y) (macP_byte key bs y))
        rw [List.length_append, macP_len] at this
        exact this
      obtain ⟨I, hI⟩ : ∃ I : Nat, (I : Int) = ((signP key bs).size : Int) - 2 - at_ % 40 := ⟨(((signP key bs).size : Int) - 2 - at_ % 40).toNat, by omega⟩
      obtain ⟨zd, hz, hs, ha⟩ := HZookY.prsZ_agg (l := bs) hbb
      have heq : ∀ w, (Op.equalIn 10000 26 (.agg zd) (.agg zd)).run Tryd.prog w = .ok true w := by
        intro w
        rw [← hz]
        cases hp : prs bs with
        | inl p => exact eq_zk 0 0 ZZ zz_len w
        | inr p =>
          obtain ⟨y, d⟩ := p
          obtain ⟨r, rfl, hr, hd, _, _⟩ := pay_prs hbb hp
          exact eq_zk 1 r d hd w
      by_cases hq : strOfNums (((List.range (signP key bs).size).map fun (j : Nat) => bt (signP key bs) j).set I (HBase.sign (x % 64))) = signP key bs
      · exact near_same w Ak ck key hK hkb (by omega) Ab cb bs hB hbb (by omega) at_ x hat hx hG hE zd hs ha heq _ _ hz rfl rfl _ _ rfl hsz I hI rfl hq
      · exact near_other w Ak ck key hK hkb (by omega) Ab cb bs hB hbb (by omega) at_ x hat hx hG hE zd hs ha heq _ _ hz rfl rfl _ _ rfl hsz I hI rfl hq (changed key bs hbb I (x % 64) (by omega) (by omega) (by omega) _ rfl hq)
end Go.Proofs.YtogimlinfkbapaaDoor.HZookL4
/- The law ZookieSigned, as its row asks. -/
namespace Go.Proofs.YtogimlinfkbapaaDoor.HZookN4
open Go.RowKit Go.WideShapes Go.Proofs.YtogimlinfkbapaaDoorW.PrintWords Go.Proofs.YtogimlinfkbapaaDoor.HLib Go.Proofs.YtogimlinfkbapaaDoor.HSha Go.Proofs.YtogimlinfkbapaaDoor.HShaU Go.Proofs.YtogimlinfkbapaaDoor.HErr Go.Proofs.YtogimlinfkbapaaDoor.HZookO Go.Proofs.YtogimlinfkbapaaDoor.HZookB
set_option linter.unusedVariables false
set_option maxRecDepth 100000
theorem row_signed (v0 : Value) (a0 : List Int) (v1 : Value) (a1 : List Int) (at_ x : Int) (W : World) {base : Nat} (hv0 : Value.okWide Tryd.prog W .any base 22 v0) (k0 : KB W a0 v0.cells.toList) (ok0 : OKB a0)
    (hv1 : Value.okWide Tryd.prog W .any base 22 v1) (k1 : KB W a1 v1.cells.toList) (ok1 : OKB a1) (w2 : (Lit.int .u8 at_).wf = true) (w3 : (Lit.int .u8 x).wf = true) (hG : Glob W ∧ ErrG W) :
    Calls Tryd.prog 6 #[v0, v1, .int .u8 at_, .int .u8 x] W fun e w' => e = .returned (.bool true) ∧ Below W.heap.size W w' := by
  obtain ⟨A, c, rfl, hB⟩ := bs_of hv0 k0
  obtain ⟨B, d, rfl, hC⟩ := bs_of hv1 k1
  exact HZookL4.signed_walk W A c a0 (Bs.bv hB) (byte_wf ok0) B d a1 hC (byte_wf ok1) at_ x (HLib.wf_u8 w2) (HLib.wf_u8 w3) hG.1 hG.2
end Go.Proofs.YtogimlinfkbapaaDoor.HZookN4
