/- The law ZookieMatchesReference. -/
import Derived.Test.YtogimlinfkbapaaDoorUL
import Derived.Test.YtogimlinfkbapaaDoorUX
namespace Go.Proofs.YtogimlinfkbapaaDoor.HZookL1
open Go.RowKit Go.WideShapes Go.Proofs.YtogimlinfkbapaaDoorW.PrintWords Go.Proofs.YtogimlinfkbapaaDoor.HLib Go.Proofs.YtogimlinfkbapaaDoor.HSha Go.Proofs.YtogimlinfkbapaaDoor.HShaU Go.Proofs.YtogimlinfkbapaaDoor.HShaS Go.Proofs.YtogimlinfkbapaaDoor.HZook Go.Proofs.YtogimlinfkbapaaDoor.HZookE Go.Proofs.YtogimlinfkbapaaDoor.HZookP Go.Proofs.YtogimlinfkbapaaDoor.HZookR Go.Proofs.YtogimlinfkbapaaDoor.HZookF Go.Proofs.YtogimlinfkbapaaDoor.HZookM Go.Proofs.YtogimlinfkbapaaDoor.HErr Go.Proofs.YtogimlinfkbapaaDoor.HZookL Go.Proofs.YtogimlinfkbapaaDoor.HZookW Go.Proofs.YtogimlinfkbapaaDoor.HZookQ Go.Proofs.YtogimlinfkbapaaDoor.HZookN Go.Proofs.YtogimlinfkbapaaDoor.HZookA Go.Proofs.YtogimlinfkbapaaDoor.HZookL2 Go.Proofs.YtogimlinfkbapaaDoor.HZookL3
set_option linter.unusedVariables false
set_option linter.unusedSimpArgs false

set_option maxRecDepth 20000 in
theorem payload_zb {zd : Array Value} {v r c : Int} {d : List Int} (h : zd = zkC v r d) (hd : d.length = 32) (hc : chk v r = c) (h0 : c ≠ 0) (w : World) : Calls Tryd.prog 9 #[.agg zd] w fun e w' => e = .returned (.tuple #[.slice none 0 0, .bool false]) ∧ Below w.heap.size w w' := by
  subst h; exact payload_bad v r d hd (by rw [hc]; exact h0) w
set_option maxRecDepth 20000 in
theorem mint_zb {zd : Array Value} {v r c : Int} {d : List Int} (h : zd = zkC v r d) (hd : d.length = 32) (hc : chk v r = c) (h0 : c ≠ 0) (w : World) (vk : Value) : Calls Tryd.prog 10 #[vk, .agg zd] w fun e w' => e = .returned (.tuple #[.string ⟨#[]⟩, .iface 35 (.int .i64 c)]) ∧ Below w.heap.size w w' := by
  subst h; have := mint_bad w vk v r d hd (by rw [hc]; exact h0); rw [hc, codeV, if_neg h0] at this; exact this
set_option maxRecDepth 20000 in
theorem check_z {zd : Array Value} {v r c : Int} {d : List Int} (h : zd = zkC v r d) (hd : d.length = 32) (hc : chk v r = c) (w : World) : Calls Tryd.prog 11 #[.agg zd] w fun e w' => e = .returned (.int .i64 c) ∧ Below w.heap.size w w' := by
  subst h; subst hc; exact refcheck_any v r d hd w
set_option maxRecDepth 20000 in
theorem refpayload_z {zd : Array Value} {r : Nat} {d : List Int} (h : zd = zkC 1 r d) (hd : d.length = 32) (hr : r < 9223372036854775808) (w : World) : Calls Tryd.prog 15 #[.agg zd] w fun e w' => ∃ u, e = .returned u ∧ Bs w' u (payP r d) ∧ Below w.heap.size w w' := by
  subst h; exact refpayload_any 1 r d hd (by omega) w
set_option maxRecDepth 20000 in
theorem refmint_z {zd : Array Value} {r : Nat} {d : List Int} (h : zd = zkC 1 r d) (hd : d.length = 32) (hdb : ∀ x ∈ d, 0 ≤ x ∧ x < 256) (hr : r < 9223372036854775808) (w : World) (vk : Value) (key : List Int) (hvk : Bv w vk key) (hkb : ∀ x ∈ key, 0 ≤ x ∧ x < 256) (hkl : key.length ≤ 200) {s : ByteArray} (hs : signP key (payP r d) = s) :
    Calls Tryd.prog 16 #[vk, .agg zd] w fun e w' => e = .returned (.string s) ∧ Below w.heap.size w w' := by
  subst h; subst hs; exact HZookT.refmint_any w vk key hvk hkb (by omega) 1 r d hd hdb (by omega)

set_option maxRecDepth 20000 in
set_option maxHeartbeats 4000000 in
theorem far_walk (w : World) (A : Option Addr) (n c : Nat) (zd : Array Value) (h : 200 < n) (hG : Glob w) (hE : ErrG w) : Calls Tryd.prog 3 #[.slice A n c, .agg zd] w fun e w' => e = .returned (.bool true) ∧ Below w.heap.size w w' := by
  have HG := Aside0.mk hG
  have HE := Aside0.mk hE
  have d1 : decide (200 < n) = true := decide_eq_true h
  have d2 : decide ((200 : Int) < (n : Int)) = true := decide_eq_true (by omega)
  clear hG hE h
  have F0 := Aside0.mk (blk_new w (.cells zd 26))
  have HB0 := Aside0.mk (show Below w.heap.size w (w.alloc (.cells zd 26)) from below_alloc (B0 w) _)
  obtain ⟨w0, hw0⟩ : ∃ W, W = w.alloc (.cells zd 26) := ⟨_, rfl⟩
  rw [← hw0] at F0 HB0
  go_enter Tryd.func3, Tryd.ntmps3
  go_wp2_with fail
  rw [← hw0]
  clear hw0
  refine (awake_any w0 (glob_below HG.out HG.out.1 HB0.out) (errg_step HE.out HB0.out)).mono ?_
  rintro e w1 ⟨rfl, hbw1⟩
  have HBw1 := Aside0.mk (below_step HB0.out hbw1)
  clear hbw1
  go_wp2_with fail
  refine (awake_any w1 (glob_below HG.out HG.out.1 HBw1.out) (errg_step HE.out HBw1.out)).mono ?_
  rintro e w2 ⟨rfl, hbw2⟩
  have HBw2 := Aside0.mk (below_step HBw1.out hbw2)
  clear hbw2
  go_wp2
  go_ret
  exact ⟨rfl, HBw2.out⟩
set_option maxRecDepth 20000 in
set_option maxHeartbeats 4000000 in
theorem near_bad (w : World) (Ak : Option Addr) (ck : Nat) (key : List Int) (hK : Bv w (.slice Ak key.length ck) key) (hkb : ∀ x ∈ key, 0 ≤ x ∧ x < 256) (hkl : key.length ≤ 200) (hG : Glob w) (hE : ErrG w) (zd : Array Value) (hsd : zd.size = 34) (had : zd.all (·.oneCell') = true) (heq : ∀ w, (Op.equalIn 10000 26 (.agg zd) (.agg zd)).run Tryd.prog w = .ok true w) (v r c : Int) (d : List Int) (hd : d.length = 32) (hzc : zd = zkC v r d) (hc : chk v r = c) (hc0 : c ≠ 0) :
    Calls Tryd.prog 3 #[.slice Ak key.length ck, .agg zd] w fun e w' => e = .returned (.bool true) ∧ Below w.heap.size w w' := by
  have HG := Aside0.mk hG
  have HE := Aside0.mk hE
  have HK := Aside0.mk hK
  have HKB := Aside0.mk hkb
  have HKL := Aside0.mk hkl
  have HAD := Aside0.mk had
  have HZC := Aside0.mk hzc
  have HD := Aside0.mk hd
  have d1 : decide (200 < key.length) = false := decide_eq_false (by omega)
  have d2 : decide ((200 : Int) < (key.length : Int)) = false := decide_eq_false (by omega)
  have HC := Aside0.mk hc
  have HC0 := Aside0.mk hc0
  have c1 : (c == 0) = false := by simpa using hc0
  have c2 : (c != 0) = true := by simpa using hc0
  have heqc := eq_code c
  clear hc0 hc heq
  clear hG hE hK hkb hkl had hzc hd
  have F0 := Aside0.mk (blk_new w (.cells zd 26))
  have HB0 := Aside0.mk (show Below w.heap.size w (w.alloc (.cells zd 26)) from below_alloc (B0 w) _)
  obtain ⟨w0, hw0⟩ : ∃ W, W = w.alloc (.cells zd 26) := ⟨_, rfl⟩
  rw [← hw0] at F0 HB0
  go_enter Tryd.func3, Tryd.ntmps3
  go_wp2_with fail
  rw [← hw0]
  clear hw0
  refine (awake_any w0 (glob_below HG.out HG.out.1 HB0.out) (errg_step HE.out HB0.out)).mono ?_
  rintro e w1 ⟨rfl, hb1⟩
  have HBw1 := Aside0.mk (below_step HB0.out hb1)
  have F1 := Aside0.mk ((hb1.block w.heap.size (blk_lt F0.out)).trans F0.out)
  clear hb1
  have HL1 := Aside0.mk (row_load F1.out hsd)
  go_wp2_with (first | (refine load_evg (t := 26) (p := .tmp 3) (by rfl) rfl HL1.out ?_))
  refine (payload_zb HZC.out HD.out HC.out HC0.out w1).mono ?_
  rintro e w2 ⟨rfl, hb2⟩
  have HBw2 := Aside0.mk (below_step HBw1.out hb2)
  have F2 := Aside0.mk ((hb2.block w.heap.size (blk_lt F1.out)).trans F1.out)
  clear hb2
  have HL2 := Aside0.mk (row_load F2.out hsd)
  go_wp2_with (first | (refine load_evg (t := 26) (p := .tmp 3) (by rfl) rfl HL2.out ?_))
  refine (mint_zb HZC.out HD.out HC.out HC0.out w2 _).mono ?_
  rintro e w3 ⟨rfl, hb3⟩
  have HBw3 := Aside0.mk (below_step HBw2.out hb3)
  have F3 := Aside0.mk ((hb3.block w.heap.size (blk_lt F2.out)).trans F2.out)
  clear hb3
  have HL3 := Aside0.mk (row_load F3.out hsd)
  go_wp2_with (first | (refine load_evg (t := 26) (p := .tmp 3) (by rfl) rfl HL3.out ?_))
  refine (check_z HZC.out HD.out HC.out w3).mono ?_
  rintro e w4 ⟨rfl, hb4⟩
  have HBw4 := Aside0.mk (below_step HBw3.out hb4)
  have F4 := Aside0.mk ((hb4.block w.heap.size (blk_lt F3.out)).trans F3.out)
  clear hb4
  go_wp2_with fail
  go_ret
  exact ⟨rfl, HBw4.out⟩
set_option maxRecDepth 20000 in
set_option maxHeartbeats 4000000 in
theorem near_good (w : World) (Ak : Option Addr) (ck : Nat) (key : List Int) (hK : Bv w (.slice Ak key.length ck) key) (hkb : ∀ x ∈ key, 0 ≤ x ∧ x < 256) (hkl : key.length ≤ 200) (hG : Glob w) (hE : ErrG w) (zd : Array Value) (hsd : zd.size = 34) (had : zd.all (·.oneCell') = true) (heq : ∀ w, (Op.equalIn 10000 26 (.agg zd) (.agg zd)).run Tryd.prog w = .ok true w) (r : Nat) (d : List Int) (hd : d.length = 32) (hdb : ∀ x ∈ d, 0 ≤ x ∧ x < 256) (hr : r < 9223372036854775808) (hzc : zd = zkC 1 r d) :
    Calls Tryd.prog 3 #[.slice Ak key.length ck, .agg zd] w fun e w' => e = .returned (.bool true) ∧ Below w.heap.size w w' := by
  have HG := Aside0.mk hG
  have HE := Aside0.mk hE
  have HK := Aside0.mk hK
  have HKB := Aside0.mk hkb
  have HKL := Aside0.mk hkl
  have HAD := Aside0.mk had
  have HZC := Aside0.mk hzc
  have HD := Aside0.mk hd
  have d1 : decide (200 < key.length) = false := decide_eq_false (by omega)
  have d2 : decide ((200 : Int) < (key.length : Int)) = false := decide_eq_false (by omega)
  have HDB := Aside0.mk hdb
  have HR := Aside0.mk hr
  have HC := Aside0.mk (show chk 1 (r : Int) = 0 from by rw [chk, if_neg (by decide), if_neg (by omega)])
  obtain ⟨S, hS⟩ : ∃ S, S = signP key (payP r d) := ⟨_, rfl⟩
  have HS := Aside0.mk hS.symm
  have HSS := Aside0.mk (show S.size ≤ 500 from by rw [hS]; have := sign_size key r d hd (by omega) hdb; omega)
  have HPP := Aside0.mk (prs_pay r d hr hd)
  have HPV := Aside0.mk (show verP key S = .inr ((r : Int), d) from by rw [hS, ver_sign _ _ (pay_byte r d hdb), prs_pay r d hr hd])
  have HPB := Aside0.mk (pay_byte r d hdb)
  have HPL := Aside0.mk (show (payP r d).length ≤ 500 from by have := pay_len r d hd (by omega); omega)
  clear hdb hr hS
  clear hG hE hK hkb hkl had hzc hd
  have F0 := Aside0.mk (blk_new w (.cells zd 26))
  have HB0 := Aside0.mk (show Below w.heap.size w (w.alloc (.cells zd 26)) from below_alloc (B0 w) _)
  obtain ⟨w0, hw0⟩ : ∃ W, W = w.alloc (.cells zd 26) := ⟨_, rfl⟩
  rw [← hw0] at F0 HB0
  go_enter Tryd.func3, Tryd.ntmps3
  go_wp2_with fail
  rw [← hw0]
  clear hw0
  refine (awake_any w0 (glob_below HG.out HG.out.1 HB0.out) (errg_step HE.out HB0.out)).mono ?_
  rintro e w1 ⟨rfl, hb1⟩
  have HBw1 := Aside0.mk (below_step HB0.out hb1)
  have F1 := Aside0.mk ((hb1.block w.heap.size (blk_lt F0.out)).trans F0.out)
  clear hb1
  have HL1 := Aside0.mk (row_load F1.out hsd)
  go_wp2_with (first | (refine load_evg (t := 26) (p := .tmp 3) (by rfl) rfl HL1.out ?_))
  refine (payload_zd HZC.out HD.out HR.out w1).mono ?_
  rintro e w2 ⟨v5, rfl, hv5, hb2⟩
  have HV5 := Aside0.mk hv5
  clear hv5
  have HBw2 := Aside0.mk (below_step HBw1.out hb2)
  have F2 := Aside0.mk ((hb2.block w.heap.size (blk_lt F1.out)).trans F1.out)
  clear hb2
  have HL2 := Aside0.mk (row_load F2.out hsd)
  go_wp2_with (first | (refine load_evg (t := 26) (p := .tmp 3) (by rfl) rfl HL2.out ?_))
  refine (mint_zd HZC.out HD.out HDB.out HR.out w2 _ key (HK.out.below HBw2.out) HKB.out HKL.out (glob_below HG.out HG.out.1 HBw2.out) HS.out).mono ?_
  rintro e w3 ⟨rfl, hb3⟩
  have HV53 := Aside0.mk (HV5.out.below hb3)
  have HBw3 := Aside0.mk (below_step HBw2.out hb3)
  have F3 := Aside0.mk ((hb3.block w.heap.size (blk_lt F2.out)).trans F2.out)
  clear hb3
  have HL3 := Aside0.mk (row_load F3.out hsd)
  go_wp2_with (first | (refine load_evg (t := 26) (p := .tmp 3) (by rfl) rfl HL3.out ?_))
  refine (check_z HZC.out HD.out HC.out w3).mono ?_
  rintro e w4 ⟨rfl, hb4⟩
  have HV54 := Aside0.mk (HV53.out.below hb4)
  have HBw4 := Aside0.mk (below_step HBw3.out hb4)
  have F4 := Aside0.mk ((hb4.block w.heap.size (blk_lt F3.out)).trans F3.out)
  clear hb4
  generalize hz0 : (#[.int .u8 0, .int .u64 0, .int .u8 0, .int .u8 0, .int .u8 0, .int .u8 0, .int .u8 0, .int .u8 0, .int .u8 0, .int .u8 0, .int .u8 0, .int .u8 0, .int .u8 0, .int .u8 0, .int .u8 0, .int .u8 0, .int .u8 0, .int .u8 0, .int .u8 0, .int .u8 0, .int .u8 0, .int .u8 0, .int .u8 0, .int .u8 0, .int .u8 0, .int .u8 0, .int .u8 0, .int .u8 0, .int .u8 0, .int .u8 0, .int .u8 0, .int .u8 0, .int .u8 0, .int .u8 0] : Array Value) = z0
  have HZ0 := Aside0.mk (show z0 = zkC 0 0 ZZ from hz0.symm.trans rfl)
  have hs0 : z0.size = 34 := by rw [HZ0.out]; rfl
  have HA0 := Aside0.mk (show z0.all (·.oneCell') = true from by rw [HZ0.out]; simp [nums, Value.oneCell'])
  go_wp2_with fail
  refine (parse_z w4 v5 (payP r d) HV54.out HPL.out HPB.out (errg_step HE.out HBw4.out) (zd := zd) (c := 0) (n := 0) (by rw [HPP.out, HZC.out]; rfl) (by rw [HPP.out]; rfl) (by rw [HPP.out]; rfl)).mono ?_
  rintro e w5 ⟨rfl, hb5⟩
  rw [show errV 0 0 = .nilIface from rfl]
  have HV55 := Aside0.mk (HV54.out.below hb5)
  have HBw5 := Aside0.mk (below_step HBw4.out hb5)
  have F5 := Aside0.mk ((hb5.block w.heap.size (blk_lt F4.out)).trans F4.out)
  clear hb5
  have hscq := zk_cells (blk_new w5 (.cells z0 26)) hs0 hsd HAD.out
  go_upto_region 9 with fail
  obtain ⟨WA, hWA⟩ : ∃ W, W = (w5.alloc (.cells z0 26)).setRow w5.heap.size zd := ⟨_, rfl⟩
  rw [← hWA]
  have HBWA := Aside0.mk (show Below w.heap.size w WA from by rw [hWA]; exact below_row (below_alloc HBw5.out _) (by have := HBw5.out.size; omega) _)
  have FWA := Aside0.mk (show WA.heap[w5.heap.size]? = some (.cells zd 26 (0, 0)) from by rw [hWA]; exact setRow_heap _ w5.heap.size _ _ _ (0, 0) (blk_new w5 _))
  have FA0 := Aside0.mk (show WA.heap[w.heap.size]? = some (.cells zd 26 (0, 0)) from by rw [hWA]; exact ((below_row (below_alloc (B0 w5) _) (Nat.le_refl _) _).block w.heap.size (blk_lt F5.out)).trans F5.out)
  have HV5A := Aside0.mk (show Bs WA v5 (payP r d) from by rw [hWA]; exact HV55.out.below (below_row (below_alloc (B0 w5) _) (Nat.le_refl _) _))
  clear hWA hscq
  go_wp2_with fail
  refine (ver_z WA _ S HSS.out key (HK.out.below HBWA.out) HKB.out HKL.out (glob_below HG.out HG.out.1 HBWA.out) (errg_step HE.out HBWA.out) (zd := zd) (c := 0) (n := 0) (by rw [HPV.out, HZC.out]; rfl) (by rw [HPV.out]; rfl) (by rw [HPV.out]; rfl)).mono ?_
  rintro e w6 ⟨rfl, hb6⟩
  rw [show errV 0 0 = .nilIface from rfl]
  have HV56 := Aside0.mk (HV5A.out.below hb6)
  have HBw6 := Aside0.mk (below_step HBWA.out hb6)
  have F6 := Aside0.mk ((hb6.block w.heap.size (blk_lt FA0.out)).trans FA0.out)
  have F6x := Aside0.mk ((hb6.block w5.heap.size (blk_lt FWA.out)).trans FWA.out)
  clear hb6
  have hscq := zk_cells (blk_new w6 (.cells z0 26)) hs0 hsd HAD.out
  go_upto_region 10 with fail
  obtain ⟨WB, hWB⟩ : ∃ W, W = (w6.alloc (.cells z0 26)).setRow w6.heap.size zd := ⟨_, rfl⟩
  rw [← hWB]
  have HBWB := Aside0.mk (show Below w.heap.size w WB from by rw [hWB]; exact below_row (below_alloc HBw6.out _) (by have := HBw6.out.size; omega) _)
  have FWB := Aside0.mk (show WB.heap[w6.heap.size]? = some (.cells zd 26 (0, 0)) from by rw [hWB]; exact setRow_heap _ w6.heap.size _ _ _ (0, 0) (blk_new w6 _))
  have FB0 := Aside0.mk (show WB.heap[w.heap.size]? = some (.cells zd 26 (0, 0)) from by rw [hWB]; exact ((below_row (below_alloc (B0 w6) _) (Nat.le_refl _) _).block w.heap.size (blk_lt F6.out)).trans F6.out)
  have FBx := Aside0.mk (show WB.heap[w5.heap.size]? = some (.cells zd 26 (0, 0)) from by rw [hWB]; exact ((below_row (below_alloc (B0 w6) _) (Nat.le_refl _) _).block w5.heap.size (blk_lt F6x.out)).trans F6x.out)
  have HV5B := Aside0.mk (show Bs WB v5 (payP r d) from by rw [hWB]; exact HV56.out.below (below_row (below_alloc (B0 w6) _) (Nat.le_refl _) _))
  clear hWB hscq
  have HLB := Aside0.mk (row_load FB0.out hsd)
  go_wp2_with (first | (refine load_evg (t := 26) (p := .tmp 3) (by rfl) rfl HLB.out ?_))
  refine (refpayload_z HZC.out HD.out HR.out WB).mono ?_
  rintro e w7 ⟨u7, rfl, hu7, hb7⟩
  have HU7 := Aside0.mk hu7
  have HV57 := Aside0.mk (HV5B.out.below hb7)
  clear hu7
  have HBw7 := Aside0.mk (below_step HBWB.out hb7)
  have F7 := Aside0.mk ((hb7.block w.heap.size (blk_lt FB0.out)).trans FB0.out)
  have F7x := Aside0.mk ((hb7.block w5.heap.size (blk_lt FBx.out)).trans FBx.out)
  have F7y := Aside0.mk ((hb7.block w6.heap.size (blk_lt FWB.out)).trans FWB.out)
  clear hb7
  go_wp2_with fail
  refine (HSame.same_any w7 v5 u7 (payP r d) (payP r d) HV57.out HU7.out (by have := HPL.out; omega)).mono ?_
  rw [show decide (payP r d = payP r d) = true from decide_eq_true rfl]
  rintro e w8' ⟨rfl, ⟨m8, rfl⟩⟩
  have hb8 : Below w7.heap.size w7 (w7.drewN m8) := pw_below_drewN (B0 w7) m8
  generalize w7.drewN m8 = w8 at hb8 ⊢
  have HBw8 := Aside0.mk (below_step HBw7.out hb8)
  have F8 := Aside0.mk ((hb8.block w.heap.size (blk_lt F7.out)).trans F7.out)
  have F8x := Aside0.mk ((hb8.block w5.heap.size (blk_lt F7x.out)).trans F7x.out)
  have F8y := Aside0.mk ((hb8.block w6.heap.size (blk_lt F7y.out)).trans F7y.out)
  clear hb8
  have HL8 := Aside0.mk (row_load F8.out hsd)
  go_wp2_with (first | (refine load_evg (t := 26) (p := .tmp 3) (by rfl) rfl HL8.out ?_))
  refine (refmint_z HZC.out HD.out HDB.out HR.out w8 _ key (HK.out.below HBw8.out) HKB.out HKL.out HS.out).mono ?_
  rintro e w9 ⟨rfl, hb9⟩
  have HBw9 := Aside0.mk (below_step HBw8.out hb9)
  have F9 := Aside0.mk ((hb9.block w.heap.size (blk_lt F8.out)).trans F8.out)
  have F9x := Aside0.mk ((hb9.block w5.heap.size (blk_lt F8x.out)).trans F8x.out)
  have F9y := Aside0.mk ((hb9.block w6.heap.size (blk_lt F8y.out)).trans F8y.out)
  clear hb9
  have HL9 := Aside0.mk (row_load F9.out hsd)
  have HL9x := Aside0.mk (row_load F9x.out hsd)
  have HL9y := Aside0.mk (row_load F9y.out hsd)
  go_wp2_with (first | (refine load_evg (t := 26) (p := .tmp 3) (by rfl) rfl HL9.out ?_) | (refine load_evg (t := 26) (p := .tmp 10) (by rfl) rfl HL9x.out ?_) | (refine load_evg (t := 26) (p := .tmp 12) (by rfl) rfl HL9y.out ?_))
  go_ret
  exact ⟨rfl, HBw9.out⟩
theorem matches_walk (w : World) (Ak : Option Addr) (ck : Nat) (key : List Int) (hK : Bv w (.slice Ak key.length ck) key) (hkb : ∀ x ∈ key, 0 ≤ x ∧ x < 256) (v r : Int) (d : List Int) (hd : d.length = 32) (hdb : ∀ x ∈ d, 0 ≤ x ∧ x < 256) (hr0 : 0 ≤ r) (hG : Glob w) (hE : ErrG w) :
    Calls Tryd.prog 3 #[.slice Ak key.length ck, zk v r d] w fun e w' => e = .returned (.bool true) ∧ Below w.heap.size w w' := by
  by_cases hkl : 200 < key.length
  · exact far_walk w Ak key.length ck _ hkl hG hE
  · by_cases hc : chk v r = 0
    · have h1 : v = 1 := by
        by_cases h : v = 1
        · exact h
        · rw [chk, if_pos h] at hc; cases hc
      subst h1
      have h2 : ¬ 9223372036854775807 < r := by
        intro h
        rw [chk, if_neg (by decide), if_pos h] at hc; cases hc
      obtain ⟨q, rfl⟩ := Int.eq_ofNat_of_zero_le hr0
      exact near_good w Ak ck key hK hkb (by omega) hG hE (zkC 1 q d) (by simp [nums, hd]) (by simp [nums, Value.oneCell']) (fun w => eq_zk 1 q d hd w) q d hd hdb (by omega) rfl
    · exact near_bad w Ak ck key hK hkb (by omega) hG hE (zkC v r d) (by simp [nums, hd]) (by simp [nums, Value.oneCell']) (fun w => eq_zk v r d hd w) v r _ d hd rfl rfl hc
end Go.Proofs.YtogimlinfkbapaaDoor.HZookL1
/- The law ZookieMatchesReference, as its row asks. -/
namespace Go.Proofs.YtogimlinfkbapaaDoor.HZookN1
open Go.RowKit Go.WideShapes Go.Proofs.YtogimlinfkbapaaDoorW.PrintWords Go.Proofs.YtogimlinfkbapaaDoor.HLib Go.Proofs.YtogimlinfkbapaaDoor.HSha Go.Proofs.YtogimlinfkbapaaDoor.HShaU Go.Proofs.YtogimlinfkbapaaDoor.HErr Go.Proofs.YtogimlinfkbapaaDoor.HZookO Go.Proofs.YtogimlinfkbapaaDoor.HZookB
set_option linter.unusedVariables false
set_option maxRecDepth 100000
theorem row_matches (v0 : Value) (a0 : List Int) (v1 : Value) (a1 : Zk) (W : World) {base : Nat} (hv0 : Value.okWide Tryd.prog W .any base 22 v0) (k0 : KB W a0 v0.cells.toList) (ok0 : OKB a0)
    (hv1 : Value.okWide Tryd.prog W .any base 26 v1) (k1 : KZ W a1 v1.cells.toList) (ok1 : OK a1) (hG : Glob W ∧ ErrG W) :
    Calls Tryd.prog 3 #[v0, v1] W fun e w' => e = .returned (.bool true) ∧ Below W.heap.size W w' := by
  obtain ⟨A, c, rfl, hB⟩ := bs_of hv0 k0
  rw [zk_of hv1 k1]
  exact HZookL1.matches_walk W A c a0 (Bs.bv hB) (byte_wf ok0) _ _ _ k1.2 (fun x hx => HLib.wf_u8 (ok1.2.2 x hx)) (by obtain ⟨m, hm, _⟩ := HLib.wf_u64 ok1.2.1; omega) hG.1 hG.2
end Go.Proofs.YtogimlinfkbapaaDoor.HZookN1
