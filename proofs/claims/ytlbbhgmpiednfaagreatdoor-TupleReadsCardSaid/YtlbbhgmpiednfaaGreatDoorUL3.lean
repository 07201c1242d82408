/- The law TupleReads. -/
import Derived.Test.YtlbbhgmpiednfaaGreatDoorUU
import Derived.Test.YtlbbhgmpiednfaaGreatDoorURP
namespace Go.Proofs.YtlbbhgmpiednfaaGreatDoor.HTupL3
open Go.RowKit Go.Proofs.YtlbbhgmpiednfaaGreatDoorW.PrintWords Go.Proofs.YtlbbhgmpiednfaaGreatDoor.HLib Go.Proofs.YtlbbhgmpiednfaaGreatDoor.HGr Go.Proofs.YtlbbhgmpiednfaaGreatDoor.HErr Go.Proofs.YtlbbhgmpiednfaaGreatDoor.HNameP Go.Proofs.YtlbbhgmpiednfaaGreatDoor.HNameR Go.Proofs.YtlbbhgmpiednfaaGreatDoor.HName Go.Proofs.YtlbbhgmpiednfaaGreatDoor.HTupP Go.Proofs.YtlbbhgmpiednfaaGreatDoor.HTupR Go.Proofs.YtlbbhgmpiednfaaGreatDoor.HTupX Go.Proofs.YtlbbhgmpiednfaaGreatDoor.HTupG Go.Proofs.YtlbbhgmpiednfaaGreatDoor.HTupJ Go.Proofs.YtlbbhgmpiednfaaGreatDoor.HWireS Go.Proofs.YtlbbhgmpiednfaaGreatDoor.HWire Go.Proofs.YtlbbhgmpiednfaaGreatDoor.HPut Go.Proofs.YtlbbhgmpiednfaaGreatDoor.HCur Go.Proofs.YtlbbhgmpiednfaaGreatDoor.HTupI Go.Proofs.YtlbbhgmpiednfaaGreatDoor.HTupL Go.Proofs.YtlbbhgmpiednfaaGreatDoor.HTupM Go.Proofs.YtlbbhgmpiednfaaGreatDoor.HTupB Go.Proofs.YtlbbhgmpiednfaaGreatDoor.HTupN Go.Proofs.YtlbbhgmpiednfaaGreatDoor.HTupU Go.Proofs.YtlbbhgmpiednfaaGreatDoor.HTupH Go.Proofs.YtlbbhgmpiednfaaGreatDoor.HTupZ0 Go.Proofs.YtlbbhgmpiednfaaGreatDoor.HTupRr Go.Proofs.YtlbbhgmpiednfaaGreatDoor.HTupRp Go.Proofs.YtlbbhgmpiednfaaGreatDoor.HTupBk
set_option linter.unusedVariables false
set_option linter.unusedSimpArgs false
theorem told_f (e : Option Int) (a b : Int) (h : ∀ c, e = some c → c ≠ 0) (h2 : e = none ∨ b = a) (w : World) (hG : ErrG w) : Calls Tryz.prog 26 #[ferr e a, .int .i64 (ec e), .int .i64 b] w fun r w' => r = .returned (.bool true) ∧ Below w.heap.size w w' := by
  cases e with
  | none => exact HTup.told_any none 0 b w hG
  | some c =>
    obtain rfl : b = a := h2.resolve_left (by simp)
    refine (HTup.told_any (some (c, b)) c b w hG).mono ?_
    rintro r w' ⟨rfl, hb⟩
    refine ⟨?_, hb⟩
    rw [show toldP (some (c, b)) c b = true from by simp [toldP, h c rfl]]

set_option maxRecDepth 20000 in
set_option maxHeartbeats 8000000 in
theorem reads_far (w : World) (A : Option Addr) (cc : Nat) (l : List Int) (hv : Bs w (.slice A l.length cc) l) (hs : 1500 < l.length) (hm : l.length ≤ 9223372036854775807) (hb : ∀ x ∈ l, 0 ≤ x ∧ x < 256) (hG : GV w) : Calls Tryz.prog 7 #[.slice A l.length cc] w fun e w' => e = .returned (.bool true) ∧ Below w.heap.size w w' := by
  have HG := Aside0.mk hG
  have HB := Aside0.mk (B0 w)
  have HV := Aside0.mk hv
  have HBY := Aside0.mk hb
  clear hG hv hb
  have d1 : decide ((l.length : Int) > 1500) = true := decide_eq_true (by omega)
  have d2 : (1500 : Int) < (l.length : Int) := by omega
  go_enter Tryz.func7, Tryz.ntmps7
  go_wp2_with fail
  refine (awake_any w HG.out).mono ?_
  rintro e_ w1 ⟨rfl, hb⟩
  have HB' := Aside0.mk (below_step HB.out hb)
  have HG' := Aside0.mk (HG.out.below hb)
  have HV' := Aside0.mk (HV.out.below hb)
  clear HB HG HV hb
  have HB := HB'
  have HG := HG'
  have HV := HV'
  clear HB' HG' HV'
  go_wp2_with fail
  refine (awake_any w1 HG.out).mono ?_
  rintro e_ w2 ⟨rfl, hb⟩
  have HB' := Aside0.mk (below_step HB.out hb)
  have HG' := Aside0.mk (HG.out.below hb)
  have HV' := Aside0.mk (HV.out.below hb)
  clear HB HG HV hb
  have HB := HB'
  have HG := HG'
  have HV := HV'
  clear HB' HG' HV'
  go_wp2
  go_ret
  exact ⟨rfl, HB.out⟩
set_option maxRecDepth 20000 in
set_option maxHeartbeats 8000000 in
theorem reads_err (w : World) (A : Option Addr) (cc : Nat) (l : List Int) (hv : Bs w (.slice A l.length cc) l) (hs : l.length ≤ 1500) (t x : Tp) (c a a' : Int) (e' : Option Int) (HP : Aside0 (parseB l = (t, some c, a))) (HRK : Aside0 (readK l 6 0 0 Tp.nil = (x, e', a'))) (HCD : Aside0 (∀ c', some c = some c' → c' ≠ 0)) (HCE : Aside0 (∀ c', e' = some c' → c' ≠ 0)) (HR : Aside0 (rightP t = false)) (hb : ∀ x ∈ l, 0 ≤ x ∧ x < 256) (hG : GV w) : Calls Tryz.prog 7 #[.slice A l.length cc] w fun e w' => e = .returned (.bool true) ∧ Below w.heap.size w w' := by
  have HG := Aside0.mk hG
  have HB := Aside0.mk (B0 w)
  have HV := Aside0.mk hv
  have HBY := Aside0.mk hb
  clear hG hv hb
  have HS := Aside0.mk hs
  have HL := Aside0.mk (show l.length ≤ 1000000 from by omega)
  have HEQ := Aside0.mk (fun w => eq_self t w)
  have HEX := Aside0.mk (fun w => eq_self x w)
  go_enter Tryz.func7, Tryz.ntmps7
  go_wp2_with fail
  refine (awake_any w HG.out).mono ?_
  rintro e_ w1 ⟨rfl, hb⟩
  have HB' := Aside0.mk (below_step HB.out hb)
  have HG' := Aside0.mk (HG.out.below hb)
  have HV' := Aside0.mk (HV.out.below hb)
  clear HB HG HV hb
  have HB := HB'
  have HG := HG'
  have HV := HV'
  clear HB' HG' HV'
  go_wp2_with fail
  refine (parsebytes_any w1 (.slice A l.length cc) l HV.out HL.out HBY.out HG.out).mono ?_
  rintro e_ w2 ⟨rfl, hb⟩
  rw [HP.out]
  have HB' := Aside0.mk (below_step HB.out hb)
  have HG' := Aside0.mk (HG.out.below hb)
  have HV' := Aside0.mk (HV.out.below hb)
  clear HB HG HV hb
  have HB := HB'
  have HG := HG'
  have HV := HV'
  clear HB' HG' HV'
  clear hs
  obtain ⟨V2, hV2⟩ : ∃ V, V = w2.alloc (.cells (rowc t) 32) := ⟨_, rfl⟩
  have hb : Below w2.heap.size w2 V2 := by rw [hV2]; exact below_alloc (B0 w2) _
  have HT1 := Aside0.mk (show V2.heap[w2.heap.size]? = some (.cells (rowc t) 32 (0, 0)) from by rw [hV2]; exact blk_new w2 _)
  obtain ⟨gt, hgt⟩ : ∃ g, g = w2.heap.size := ⟨_, rfl⟩
  rw [← hgt] at HT1
  have HB' := Aside0.mk (below_step HB.out hb)
  have HG' := Aside0.mk (HG.out.below hb)
  have HV' := Aside0.mk (HV.out.below hb)
  clear HB HG HV hb
  have HB := HB'
  have HG := HG'
  have HV := HV'
  clear HB' HG' HV'
  go_upto_region 4 with fail
  rw [← hV2, ← hgt]
  clear hV2 hgt
  go_wp2_with fail
  refine (refparseB_any V2 (.slice A l.length cc) l HV.out HL.out HBY.out).mono ?_
  rintro e_ w3 ⟨rfl, hb⟩
  rw [HP.out]
  have HB' := Aside0.mk (below_step HB.out hb)
  have HG' := Aside0.mk (HG.out.below hb)
  have HV' := Aside0.mk (HV.out.below hb)
  have HT1' := Aside0.mk (blk_below HT1.out hb)
  clear HB HG HV HT1 hb
  have HB := HB'
  have HG := HG'
  have HV := HV'
  have HT1 := HT1'
  clear HB' HG' HV' HT1'
  obtain ⟨V3, hV3⟩ : ∃ V, V = w3.alloc (.cells (rowc t) 32) := ⟨_, rfl⟩
  have hb : Below w3.heap.size w3 V3 := by rw [hV3]; exact below_alloc (B0 w3) _
  have HW1 := Aside0.mk (show V3.heap[w3.heap.size]? = some (.cells (rowc t) 32 (0, 0)) from by rw [hV3]; exact blk_new w3 _)
  obtain ⟨gw, hgw⟩ : ∃ g, g = w3.heap.size := ⟨_, rfl⟩
  rw [← hgw] at HW1
  have HB' := Aside0.mk (below_step HB.out hb)
  have HG' := Aside0.mk (HG.out.below hb)
  have HV' := Aside0.mk (HV.out.below hb)
  have HT1' := Aside0.mk (blk_below HT1.out hb)
  clear HB HG HV HT1 hb
  have HB := HB'
  have HG := HG'
  have HV := HV'
  have HT1 := HT1'
  clear HB' HG' HV' HT1'
  go_upto_region 5 with fail
  rw [← hV3, ← hgw]
  clear hV3 hgw
  go_wp2_with fail
  refine (new_B V3 (.slice A l.length cc) l HV.out (by have := HL.out; omega)).mono ?_
  rintro e_ w4 ⟨g, rfl, hg, hCu, hb⟩
  have HGE := Aside0.mk hg
  have HCu := Aside0.mk hCu
  have BX := Aside0.mk hb
  clear hg hCu hb
  have gt0 : w4.cell? ⟨gt, 0, none⟩ = some (.string t.a) := (blk_cell (blk_below HT1.out BX.out) 0).trans rfl
  have gt1 : w4.cell? ⟨gt, 1, none⟩ = some (.string t.b) := (blk_cell (blk_below HT1.out BX.out) 1).trans rfl
  have gt2 : w4.cell? ⟨gt, 2, none⟩ = some (.string t.c) := (blk_cell (blk_below HT1.out BX.out) 2).trans rfl
  have gt3 : w4.cell? ⟨gt, 3, none⟩ = some (.string t.d) := (blk_cell (blk_below HT1.out BX.out) 3).trans rfl
  have gt4 : w4.cell? ⟨gt, 4, none⟩ = some (.string t.e) := (blk_cell (blk_below HT1.out BX.out) 4).trans rfl
  have gt5 : w4.cell? ⟨gt, 5, none⟩ = some (.string t.f) := (blk_cell (blk_below HT1.out BX.out) 5).trans rfl
  have gw0 : w4.cell? ⟨gw, 0, none⟩ = some (.string t.a) := (blk_cell (blk_below HW1.out BX.out) 0).trans rfl
  have gw1 : w4.cell? ⟨gw, 1, none⟩ = some (.string t.b) := (blk_cell (blk_below HW1.out BX.out) 1).trans rfl
  have gw2 : w4.cell? ⟨gw, 2, none⟩ = some (.string t.c) := (blk_cell (blk_below HW1.out BX.out) 2).trans rfl
  have gw3 : w4.cell? ⟨gw, 3, none⟩ = some (.string t.d) := (blk_cell (blk_below HW1.out BX.out) 3).trans rfl
  have gw4 : w4.cell? ⟨gw, 4, none⟩ = some (.string t.e) := (blk_cell (blk_below HW1.out BX.out) 4).trans rfl
  have gw5 : w4.cell? ⟨gw, 5, none⟩ = some (.string t.f) := (blk_cell (blk_below HW1.out BX.out) 5).trans rfl
  have heq := HEQ.out
  go_wp2_with fail
  refine (told_f (some c) a (rat (some c) a) HCD.out (by first | exact .inl rfl | exact .inr rfl) w4 (HG.out.below BX.out).2).mono ?_
  rintro e_ w5 ⟨rfl, hb⟩
  clear heq
  clear gt0 gt1 gt2 gt3 gt4 gt5
  clear gw0 gw1 gw2 gw3 gw4 gw5
  have HCu' := Aside0.mk (HCu.out.below hb)
  have BX' := Aside0.mk (below_step BX.out hb)
  clear HCu BX hb
  have HCu := HCu'
  have BX := BX'
  clear HCu' BX'
  go_wp2_with fail
  refine (read_any w5 g l 0 HCu.out (by omega) (by omega) HL.out HBY.out (HG.out.below BX.out) ⟨Nat.lt_of_lt_of_le HG.out.1.1 HGE.out, Nat.lt_of_lt_of_le HG.out.2.1 HGE.out⟩).mono ?_
  rintro e_ w6 ⟨rfl, hC, hb⟩
  rw [HRK.out] at hC ⊢
  dsimp only at hC
  have BX' := Aside0.mk (BX.out.trans (hb.mono HGE.out))
  clear HCu BX hb
  have BX := BX'
  clear BX'
  have HCu := Aside0.mk hC
  clear hC
  obtain ⟨V6, hV6⟩ : ∃ V, V = w6.alloc (.cells (rowc x) 32) := ⟨_, rfl⟩
  have hb : Below w6.heap.size w6 V6 := by rw [hV6]; exact below_alloc (B0 w6) _
  have HX1 := Aside0.mk (show V6.heap[w6.heap.size]? = some (.cells (rowc x) 32 (0, 0)) from by rw [hV6]; exact blk_new w6 _)
  obtain ⟨gx, hgx⟩ : ∃ g, g = w6.heap.size := ⟨_, rfl⟩
  rw [← hgx] at HX1
  have HCu' := Aside0.mk (HCu.out.below hb)
  have BX' := Aside0.mk (below_step BX.out hb)
  clear HCu BX hb
  have HCu := HCu'
  have BX := BX'
  clear HCu' BX'
  go_upto_region 9 with fail
  rw [← hV6, ← hgx]
  clear hV6 hgx
  have HVN := Aside0.mk (HV.out.below BX.out)
  go_wp2_with fail
  refine (rread_any V6 (.slice A l.length cc) l 0 HVN.out (by omega) (by omega) HL.out HBY.out).mono ?_
  rintro e_ w7 ⟨rfl, hb⟩
  rw [HRK.out]
  clear HVN
  have HCu' := Aside0.mk (HCu.out.below hb)
  have BX' := Aside0.mk (below_step BX.out hb)
  have HX1' := Aside0.mk (blk_below HX1.out hb)
  clear HCu BX HX1 hb
  have HCu := HCu'
  have BX := BX'
  have HX1 := HX1'
  clear HCu' BX' HX1'
  obtain ⟨V7, hV7⟩ : ∃ V, V = w7.alloc (.cells (rowc x) 32) := ⟨_, rfl⟩
  have hb : Below w7.heap.size w7 V7 := by rw [hV7]; exact below_alloc (B0 w7) _
  have HY1 := Aside0.mk (show V7.heap[w7.heap.size]? = some (.cells (rowc x) 32 (0, 0)) from by rw [hV7]; exact blk_new w7 _)
  obtain ⟨gy, hgy⟩ : ∃ g, g = w7.heap.size := ⟨_, rfl⟩
  rw [← hgy] at HY1
  have HCu' := Aside0.mk (HCu.out.below hb)
  have BX' := Aside0.mk (below_step BX.out hb)
  have HX1' := Aside0.mk (blk_below HX1.out hb)
  clear HCu BX HX1 hb
  have HCu := HCu'
  have BX := BX'
  have HX1 := HX1'
  clear HCu' BX' HX1'
  go_upto_region 10 with fail
  rw [← hV7, ← hgy]
  clear hV7 hgy
  have gx0 : V7.cell? ⟨gx, 0, none⟩ = some (.string x.a) := (blk_cell HX1.out 0).trans rfl
  have gx1 : V7.cell? ⟨gx, 1, none⟩ = some (.string x.b) := (blk_cell HX1.out 1).trans rfl
  have gx2 : V7.cell? ⟨gx, 2, none⟩ = some (.string x.c) := (blk_cell HX1.out 2).trans rfl
  have gx3 : V7.cell? ⟨gx, 3, none⟩ = some (.string x.d) := (blk_cell HX1.out 3).trans rfl
  have gx4 : V7.cell? ⟨gx, 4, none⟩ = some (.string x.e) := (blk_cell HX1.out 4).trans rfl
  have gx5 : V7.cell? ⟨gx, 5, none⟩ = some (.string x.f) := (blk_cell HX1.out 5).trans rfl
  have gy0 : V7.cell? ⟨gy, 0, none⟩ = some (.string x.a) := (blk_cell HY1.out 0).trans rfl
  have gy1 : V7.cell? ⟨gy, 1, none⟩ = some (.string x.b) := (blk_cell HY1.out 1).trans rfl
  have gy2 : V7.cell? ⟨gy, 2, none⟩ = some (.string x.c) := (blk_cell HY1.out 2).trans rfl
  have gy3 : V7.cell? ⟨gy, 3, none⟩ = some (.string x.d) := (blk_cell HY1.out 3).trans rfl
  have gy4 : V7.cell? ⟨gy, 4, none⟩ = some (.string x.e) := (blk_cell HY1.out 4).trans rfl
  have gy5 : V7.cell? ⟨gy, 5, none⟩ = some (.string x.f) := (blk_cell HY1.out 5).trans rfl
  have heq := HEX.out
  go_wp2_with fail
  refine (told_f e' a' a' HCE.out (.inr rfl) V7 (HG.out.below BX.out).2).mono ?_
  rintro e_ w8 ⟨rfl, hb⟩
  clear heq
  clear gx0 gx1 gx2 gx3 gx4 gx5
  clear gy0 gy1 gy2 gy3 gy4 gy5
  have HCu' := Aside0.mk (HCu.out.below hb)
  have BX' := Aside0.mk (below_step BX.out hb)
  have HX1' := Aside0.mk (blk_below HX1.out hb)
  have HY1' := Aside0.mk (blk_below HY1.out hb)
  clear HCu BX HX1 HY1 hb
  have HCu := HCu'
  have BX := BX'
  have HX1 := HX1'
  have HY1 := HY1'
  clear HCu' BX' HX1' HY1'
  go_wp2_with fail
  refine (at_at w8 g l a' HCu.out.cur).mono ?_
  rintro e_ w9 ⟨rfl, hd⟩
  have hb := drawn_b hd
  clear hd
  have HCu' := Aside0.mk (HCu.out.below hb)
  have BX' := Aside0.mk (below_step BX.out hb)
  have HX1' := Aside0.mk (blk_below HX1.out hb)
  have HY1' := Aside0.mk (blk_below HY1.out hb)
  clear HCu BX HX1 HY1 hb
  have HCu := HCu'
  have BX := BX'
  have HX1 := HX1'
  have HY1 := HY1'
  clear HCu' BX' HX1' HY1'
  have gt0 : w9.cell? ⟨gt, 0, none⟩ = some (.string t.a) := (blk_cell (blk_below HT1.out BX.out) 0).trans rfl
  have gt1 : w9.cell? ⟨gt, 1, none⟩ = some (.string t.b) := (blk_cell (blk_below HT1.out BX.out) 1).trans rfl
  have gt2 : w9.cell? ⟨gt, 2, none⟩ = some (.string t.c) := (blk_cell (blk_below HT1.out BX.out) 2).trans rfl
  have gt3 : w9.cell? ⟨gt, 3, none⟩ = some (.string t.d) := (blk_cell (blk_below HT1.out BX.out) 3).trans rfl
  have gt4 : w9.cell? ⟨gt, 4, none⟩ = some (.string t.e) := (blk_cell (blk_below HT1.out BX.out) 4).trans rfl
  have gt5 : w9.cell? ⟨gt, 5, none⟩ = some (.string t.f) := (blk_cell (blk_below HT1.out BX.out) 5).trans rfl
  go_wp2_with fail
  refine (put_wrong t w9 (HG.out.below BX.out).1 HR.out).mono ?_
  rintro e_ w10 ⟨rfl, hb⟩
  rw [show ec (some c) = c from rfl]
  clear gt0 gt1 gt2 gt3 gt4 gt5
  have HCu' := Aside0.mk (HCu.out.below hb)
  have BX' := Aside0.mk (below_step BX.out hb)
  have HX1' := Aside0.mk (blk_below HX1.out hb)
  have HY1' := Aside0.mk (blk_below HY1.out hb)
  clear HCu BX HX1 HY1 hb
  have HCu := HCu'
  have BX := BX'
  have HX1 := HX1'
  have HY1 := HY1'
  clear HCu' BX' HX1' HY1'
  have n1 : ¬ c = 0 := HCD.out c rfl
  have n0 : (c != 0) = true := by simpa using n1
  go_wp2
  go_ret
  exact ⟨rfl, below_step HB.out BX.out⟩
set_option maxRecDepth 20000 in
set_option maxHeartbeats 8000000 in
theorem reads_ok (w : World) (A : Option Addr) (cc : Nat) (l : List Int) (hv : Bs w (.slice A l.length cc) l) (hs : l.length ≤ 1500) (t x : Tp) (a a' : Int) (e' : Option Int) (HP : Aside0 (parseB l = (t, none, a))) (HRK : Aside0 (readK l 6 0 0 Tp.nil = (x, e', a'))) (HCD : Aside0 (∀ c', (none : Option Int) = some c' → c' ≠ 0)) (HCE : Aside0 (∀ c', e' = some c' → c' ≠ 0)) (HR : Aside0 (rightP t = true)) (HPT : Aside0 (putP t = l)) (hb : ∀ x ∈ l, 0 ≤ x ∧ x < 256) (hG : GV w) : Calls Tryz.prog 7 #[.slice A l.length cc] w fun e w' => e = .returned (.bool true) ∧ Below w.heap.size w w' := by
  have HG := Aside0.mk hG
  have HB := Aside0.mk (B0 w)
  have HV := Aside0.mk hv
  have HBY := Aside0.mk hb
  clear hG hv hb
  have HS := Aside0.mk hs
  have HL := Aside0.mk (show l.length ≤ 1000000 from by omega)
  have HEQ := Aside0.mk (fun w => eq_self t w)
  have HEX := Aside0.mk (fun w => eq_self x w)
  go_enter Tryz.func7, Tryz.ntmps7
  go_wp2_with fail
  refine (awake_any w HG.out).mono ?_
  rintro e_ w1 ⟨rfl, hb⟩
  have HB' := Aside0.mk (below_step HB.out hb)
  have HG' := Aside0.mk (HG.out.below hb)
  have HV' := Aside0.mk (HV.out.below hb)
  clear HB HG HV hb
  have HB := HB'
  have HG := HG'
  have HV := HV'
  clear HB' HG' HV'
  go_wp2_with fail
  refine (parsebytes_any w1 (.slice A l.length cc) l HV.out HL.out HBY.out HG.out).mono ?_
  rintro e_ w2 ⟨rfl, hb⟩
  rw [HP.out]
  have HB' := Aside0.mk (below_step HB.out hb)
  have HG' := Aside0.mk (HG.out.below hb)
  have HV' := Aside0.mk (HV.out.below hb)
  clear HB HG HV hb
  have HB := HB'
  have HG := HG'
  have HV := HV'
  clear HB' HG' HV'
  clear hs
  obtain ⟨V2, hV2⟩ : ∃ V, V = w2.alloc (.cells (rowc t) 32) := ⟨_, rfl⟩
  have hb : Below w2.heap.size w2 V2 := by rw [hV2]; exact below_alloc (B0 w2) _
  have HT1 := Aside0.mk (show V2.heap[w2.heap.size]? = some (.cells (rowc t) 32 (0, 0)) from by rw [hV2]; exact blk_new w2 _)
  obtain ⟨gt, hgt⟩ : ∃ g, g = w2.heap.size := ⟨_, rfl⟩
  rw [← hgt] at HT1
  have HB' := Aside0.mk (below_step HB.out hb)
  have HG' := Aside0.mk (HG.out.below hb)
  have HV' := Aside0.mk (HV.out.below hb)
  clear HB HG HV hb
  have HB := HB'
  have HG := HG'
  have HV := HV'
  clear HB' HG' HV'
  go_upto_region 4 with fail
  rw [← hV2, ← hgt]
  clear hV2 hgt
  go_wp2_with fail
  refine (refparseB_any V2 (.slice A l.length cc) l HV.out HL.out HBY.out).mono ?_
  rintro e_ w3 ⟨rfl, hb⟩
  rw [HP.out]
  have HB' := Aside0.mk (below_step HB.out hb)
  have HG' := Aside0.mk (HG.out.below hb)
  have HV' := Aside0.mk (HV.out.below hb)
  have HT1' := Aside0.mk (blk_below HT1.out hb)
  clear HB HG HV HT1 hb
  have HB := HB'
  have HG := HG'
  have HV := HV'
  have HT1 := HT1'
  clear HB' HG' HV' HT1'
  obtain ⟨V3, hV3⟩ : ∃ V, V = w3.alloc (.cells (rowc t) 32) := ⟨_, rfl⟩
  have hb : Below w3.heap.size w3 V3 := by rw [hV3]; exact below_alloc (B0 w3) _
  have HW1 := Aside0.mk (show V3.heap[w3.heap.size]? = some (.cells (rowc t) 32 (0, 0)) from by rw [hV3]; exact blk_new w3 _)
  obtain ⟨gw, hgw⟩ : ∃ g, g = w3.heap.size := ⟨_, rfl⟩
  rw [← hgw] at HW1
  have HB' := Aside0.mk (below_step HB.out hb)
  have HG' := Aside0.mk (HG.out.below hb)
  have HV' := Aside0.mk (HV.out.below hb)
  have HT1' := Aside0.mk (blk_below HT1.out hb)
  clear HB HG HV HT1 hb
  have HB := HB'
  have HG := HG'
  have HV := HV'
  have HT1 := HT1'
  clear HB' HG' HV' HT1'
  go_upto_region 5 with fail
  rw [← hV3, ← hgw]
  clear hV3 hgw
  go_wp2_with fail
  refine (new_B V3 (.slice A l.length cc) l HV.out (by have := HL.out; omega)).mono ?_
  rintro e_ w4 ⟨g, rfl, hg, hCu, hb⟩
  have HGE := Aside0.mk hg
  have HCu := Aside0.mk hCu
  have BX := Aside0.mk hb
  clear hg hCu hb
  have gt0 : w4.cell? ⟨gt, 0, none⟩ = some (.string t.a) := (blk_cell (blk_below HT1.out BX.out) 0).trans rfl
  have gt1 : w4.cell? ⟨gt, 1, none⟩ = some (.string t.b) := (blk_cell (blk_below HT1.out BX.out) 1).trans rfl
  have gt2 : w4.cell? ⟨gt, 2, none⟩ = some (.string t.c) := (blk_cell (blk_below HT1.out BX.out) 2).trans rfl
  have gt3 : w4.cell? ⟨gt, 3, none⟩ = some (.string t.d) := (blk_cell (blk_below HT1.out BX.out) 3).trans rfl
  have gt4 : w4.cell? ⟨gt, 4, none⟩ = some (.string t.e) := (blk_cell (blk_below HT1.out BX.out) 4).trans rfl
  have gt5 : w4.cell? ⟨gt, 5, none⟩ = some (.string t.f) := (blk_cell (blk_below HT1.out BX.out) 5).trans rfl
  have gw0 : w4.cell? ⟨gw, 0, none⟩ = some (.string t.a) := (blk_cell (blk_below HW1.out BX.out) 0).trans rfl
  have gw1 : w4.cell? ⟨gw, 1, none⟩ = some (.string t.b) := (blk_cell (blk_below HW1.out BX.out) 1).trans rfl
  have gw2 : w4.cell? ⟨gw, 2, none⟩ = some (.string t.c) := (blk_cell (blk_below HW1.out BX.out) 2).trans rfl
  have gw3 : w4.cell? ⟨gw, 3, none⟩ = some (.string t.d) := (blk_cell (blk_below HW1.out BX.out) 3).trans rfl
  have gw4 : w4.cell? ⟨gw, 4, none⟩ = some (.string t.e) := (blk_cell (blk_below HW1.out BX.out) 4).trans rfl
  have gw5 : w4.cell? ⟨gw, 5, none⟩ = some (.string t.f) := (blk_cell (blk_below HW1.out BX.out) 5).trans rfl
  have heq := HEQ.out
  go_wp2_with fail
  refine (told_f none a (rat none a) HCD.out (by first | exact .inl rfl | exact .inr rfl) w4 (HG.out.below BX.out).2).mono ?_
  rintro e_ w5 ⟨rfl, hb⟩
  clear heq
  clear gt0 gt1 gt2 gt3 gt4 gt5
  clear gw0 gw1 gw2 gw3 gw4 gw5
  have HCu' := Aside0.mk (HCu.out.below hb)
  have BX' := Aside0.mk (below_step BX.out hb)
  clear HCu BX hb
  have HCu := HCu'
  have BX := BX'
  clear HCu' BX'
  go_wp2_with fail
  refine (read_any w5 g l 0 HCu.out (by omega) (by omega) HL.out HBY.out (HG.out.below BX.out) ⟨Nat.lt_of_lt_of_le HG.out.1.1 HGE.out, Nat.lt_of_lt_of_le HG.out.2.1 HGE.out⟩).mono ?_
  rintro e_ w6 ⟨rfl, hC, hb⟩
  rw [HRK.out] at hC ⊢
  dsimp only at hC
  have BX' := Aside0.mk (BX.out.trans (hb.mono HGE.out))
  clear HCu BX hb
  have BX := BX'
  clear BX'
  have HCu := Aside0.mk hC
  clear hC
  obtain ⟨V6, hV6⟩ : ∃ V, V = w6.alloc (.cells (rowc x) 32) := ⟨_, rfl⟩
  have hb : Below w6.heap.size w6 V6 := by rw [hV6]; exact below_alloc (B0 w6) _
  have HX1 := Aside0.mk (show V6.heap[w6.heap.size]? = some (.cells (rowc x) 32 (0, 0)) from by rw [hV6]; exact blk_new w6 _)
  obtain ⟨gx, hgx⟩ : ∃ g, g = w6.heap.size := ⟨_, rfl⟩
  rw [← hgx] at HX1
  have HCu' := Aside0.mk (HCu.out.below hb)
  have BX' := Aside0.mk (below_step BX.out hb)
  clear HCu BX hb
  have HCu := HCu'
  have BX := BX'
  clear HCu' BX'
  go_upto_region 9 with fail
  rw [← hV6, ← hgx]
  clear hV6 hgx
  have HVN := Aside0.mk (HV.out.below BX.out)
  go_wp2_with fail
  refine (rread_any V6 (.slice A l.length cc) l 0 HVN.out (by omega) (by omega) HL.out HBY.out).mono ?_
  rintro e_ w7 ⟨rfl, hb⟩
  rw [HRK.out]
  clear HVN
  have HCu' := Aside0.mk (HCu.out.below hb)
  have BX' := Aside0.mk (below_step BX.out hb)
  have HX1' := Aside0.mk (blk_below HX1.out hb)
  clear HCu BX HX1 hb
  have HCu := HCu'
  have BX := BX'
  have HX1 := HX1'
  clear HCu' BX' HX1'
  obtain ⟨V7, hV7⟩ : ∃ V, V = w7.alloc (.cells (rowc x) 32) := ⟨_, rfl⟩
  have hb : Below w7.heap.size w7 V7 := by rw [hV7]; exact below_alloc (B0 w7) _
  have HY1 := Aside0.mk (show V7.heap[w7.heap.size]? = some (.cells (rowc x) 32 (0, 0)) from by rw [hV7]; exact blk_new w7 _)
  obtain ⟨gy, hgy⟩ : ∃ g, g = w7.heap.size := ⟨_, rfl⟩
  rw [← hgy] at HY1
  have HCu' := Aside0.mk (HCu.out.below hb)
  have BX' := Aside0.mk (below_step BX.out hb)
  have HX1' := Aside0.mk (blk_below HX1.out hb)
  clear HCu BX HX1 hb
  have HCu := HCu'
  have BX := BX'
  have HX1 := HX1'
  clear HCu' BX' HX1'
  go_upto_region 10 with fail
  rw [← hV7, ← hgy]
  clear hV7 hgy
  have gx0 : V7.cell? ⟨gx, 0, none⟩ = some (.string x.a) := (blk_cell HX1.out 0).trans rfl
  have gx1 : V7.cell? ⟨gx, 1, none⟩ = some (.string x.b) := (blk_cell HX1.out 1).trans rfl
  have gx2 : V7.cell? ⟨gx, 2, none⟩ = some (.string x.c) := (blk_cell HX1.out 2).trans rfl
  have gx3 : V7.cell? ⟨gx, 3, none⟩ = some (.string x.d) := (blk_cell HX1.out 3).trans rfl
  have gx4 : V7.cell? ⟨gx, 4, none⟩ = some (.string x.e) := (blk_cell HX1.out 4).trans rfl
  have gx5 : V7.cell? ⟨gx, 5, none⟩ = some (.string x.f) := (blk_cell HX1.out 5).trans rfl
  have gy0 : V7.cell? ⟨gy, 0, none⟩ = some (.string x.a) := (blk_cell HY1.out 0).trans rfl
  have gy1 : V7.cell? ⟨gy, 1, none⟩ = some (.string x.b) := (blk_cell HY1.out 1).trans rfl
  have gy2 : V7.cell? ⟨gy, 2, none⟩ = some (.string x.c) := (blk_cell HY1.out 2).trans rfl
  have gy3 : V7.cell? ⟨gy, 3, none⟩ = some (.string x.d) := (blk_cell HY1.out 3).trans rfl
  have gy4 : V7.cell? ⟨gy, 4, none⟩ = some (.string x.e) := (blk_cell HY1.out 4).trans rfl
  have gy5 : V7.cell? ⟨gy, 5, none⟩ = some (.string x.f) := (blk_cell HY1.out 5).trans rfl
  have heq := HEX.out
  go_wp2_with fail
  refine (told_f e' a' a' HCE.out (.inr rfl) V7 (HG.out.below BX.out).2).mono ?_
  rintro e_ w8 ⟨rfl, hb⟩
  clear heq
  clear gx0 gx1 gx2 gx3 gx4 gx5
  clear gy0 gy1 gy2 gy3 gy4 gy5
  have HCu' := Aside0.mk (HCu.out.below hb)
  have BX' := Aside0.mk (below_step BX.out hb)
  have HX1' := Aside0.mk (blk_below HX1.out hb)
  have HY1' := Aside0.mk (blk_below HY1.out hb)
  clear HCu BX HX1 HY1 hb
  have HCu := HCu'
  have BX := BX'
  have HX1 := HX1'
  have HY1 := HY1'
  clear HCu' BX' HX1' HY1'
  go_wp2_with fail
  refine (at_at w8 g l a' HCu.out.cur).mono ?_
  rintro e_ w9 ⟨rfl, hd⟩
  have hb := drawn_b hd
  clear hd
  have HCu' := Aside0.mk (HCu.out.below hb)
  have BX' := Aside0.mk (below_step BX.out hb)
  have HX1' := Aside0.mk (blk_below HX1.out hb)
  have HY1' := Aside0.mk (blk_below HY1.out hb)
  clear HCu BX HX1 HY1 hb
  have HCu := HCu'
  have BX := BX'
  have HX1 := HX1'
  have HY1 := HY1'
  clear HCu' BX' HX1' HY1'
  have gt0 : w9.cell? ⟨gt, 0, none⟩ = some (.string t.a) := (blk_cell (blk_below HT1.out BX.out) 0).trans rfl
  have gt1 : w9.cell? ⟨gt, 1, none⟩ = some (.string t.b) := (blk_cell (blk_below HT1.out BX.out) 1).trans rfl
  have gt2 : w9.cell? ⟨gt, 2, none⟩ = some (.string t.c) := (blk_cell (blk_below HT1.out BX.out) 2).trans rfl
  have gt3 : w9.cell? ⟨gt, 3, none⟩ = some (.string t.d) := (blk_cell (blk_below HT1.out BX.out) 3).trans rfl
  have gt4 : w9.cell? ⟨gt, 4, none⟩ = some (.string t.e) := (blk_cell (blk_below HT1.out BX.out) 4).trans rfl
  have gt5 : w9.cell? ⟨gt, 5, none⟩ = some (.string t.f) := (blk_cell (blk_below HT1.out BX.out) 5).trans rfl
  go_wp2_with fail
  refine (put_right t w9 (HG.out.below BX.out).1 HR.out).mono ?_
  rintro e_ w10 ⟨vp, rfl, hRp, hb⟩
  rw [HPT.out] at hRp
  have HVP := Aside0.mk (Bs.of_R hRp)
  clear hRp
  rw [show ec none = 0 from rfl]
  clear gt0 gt1 gt2 gt3 gt4 gt5
  have HCu' := Aside0.mk (HCu.out.below hb)
  have BX' := Aside0.mk (below_step BX.out hb)
  have HX1' := Aside0.mk (blk_below HX1.out hb)
  have HY1' := Aside0.mk (blk_below HY1.out hb)
  clear HCu BX HX1 HY1 hb
  have HCu := HCu'
  have BX := BX'
  have HX1 := HX1'
  have HY1 := HY1'
  clear HCu' BX' HX1' HY1'
  have HVN := Aside0.mk (HV.out.below BX.out)
  go_wp2_with fail
  refine (same_any w10 vp (.slice A l.length cc) l l HVP.out HVN.out (by have := HL.out; omega)).mono ?_
  rintro e_ w11 ⟨rfl, ⟨⟨m, hm⟩⟩⟩
  have hb : Below w10.heap.size w10 w11 := by rw [hm]; exact pw_below_drewN (B0 w10) m
  rw [show decide (l = l) = true from decide_eq_true rfl]
  clear hm
  have HCu' := Aside0.mk (HCu.out.below hb)
  have BX' := Aside0.mk (below_step BX.out hb)
  have HX1' := Aside0.mk (blk_below HX1.out hb)
  have HY1' := Aside0.mk (blk_below HY1.out hb)
  clear HCu BX HX1 HY1 hb
  have HCu := HCu'
  have BX := BX'
  have HX1 := HX1'
  have HY1 := HY1'
  clear HCu' BX' HX1' HY1'
  go_wp2
  go_ret
  exact ⟨rfl, below_step HB.out BX.out⟩
theorem parseB_nil (l : List Int) (t : Tp) (c a : Int) (h : parseB l = (t, some c, a)) : t = Tp.nil ∧ c ≠ 0 := by
  have hc := readK_code l 6 0 0 Tp.nil
  unfold parseB at h
  obtain ⟨x, e, i', hr⟩ : ∃ a b c, readK l 6 0 0 Tp.nil = (a, b, c) := ⟨_, _, _, rfl⟩
  rw [hr] at h hc
  cases e with
  | some c' => simp only at h; injection h with h1 h; injection h with h2 _; injection h2 with h2; exact ⟨h1.symm, by rw [← h2]; exact hc c' rfl⟩
  | none =>
    simp only at h
    split at h
    · injection h with h1 h; injection h with h2 _; injection h2 with h2; exact ⟨h1.symm, by omega⟩
    · injection h with _ h; injection h with h _; cases h
theorem nil_wrong : rightP Tp.nil = false := by decide +kernel
theorem row_reads (w : World) (v : Value) (l : List Int) (hv : Bs w v l) (hm : l.length ≤ 9223372036854775807) (hb : ∀ x ∈ l, 0 ≤ x ∧ x < 256) (hG : GV w) : Calls Tryz.prog 7 #[v] w fun e w' => e = .returned (.bool true) ∧ Below w.heap.size w w' := by
  obtain ⟨A, cc, rfl, _⟩ := id hv
  by_cases hs : l.length ≤ 1500
  · have hc := readK_code l 6 0 0 Tp.nil
    obtain ⟨x, e', a', hr⟩ : ∃ a b c, readK l 6 0 0 Tp.nil = (a, b, c) := ⟨_, _, _, rfl⟩
    rw [hr] at hc
    obtain ⟨t, eo, a, hP⟩ : ∃ a b c, parseB l = (a, b, c) := ⟨_, _, _, rfl⟩
    cases eo with
    | some c =>
      obtain ⟨h1, h2⟩ := parseB_nil l t c a hP
      exact reads_err w A cc l hv hs t x c a a' e' ⟨hP⟩ ⟨hr⟩ ⟨fun c' h => by injection h with h; rw [← h]; exact h2⟩ ⟨hc⟩ ⟨by rw [h1]; exact nil_wrong⟩ hb hG
    | none =>
      obtain ⟨h1, h2, _⟩ := parseB_back l hb t a hP
      exact reads_ok w A cc l hv hs t x a a' e' ⟨hP⟩ ⟨hr⟩ ⟨fun c' h => by cases h⟩ ⟨hc⟩ ⟨h1⟩ ⟨h2⟩ hb hG
  · exact reads_far w A cc l hv (by omega) hm hb hG
end Go.Proofs.YtlbbhgmpiednfaaGreatDoor.HTupL3
