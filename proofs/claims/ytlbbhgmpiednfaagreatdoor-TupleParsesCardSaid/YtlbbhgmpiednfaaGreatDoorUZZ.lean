/- The law TupleParses. -/
import Derived.Test.YtlbbhgmpiednfaaGreatDoorUU
import Derived.Test.YtlbbhgmpiednfaaGreatDoorUZ
namespace Go.Proofs.YtlbbhgmpiednfaaGreatDoor.HTupL2
open Go.RowKit Go.Proofs.YtlbbhgmpiednfaaGreatDoorW.PrintWords Go.Proofs.YtlbbhgmpiednfaaGreatDoor.HLib Go.Proofs.YtlbbhgmpiednfaaGreatDoor.HGr Go.Proofs.YtlbbhgmpiednfaaGreatDoor.HErr Go.Proofs.YtlbbhgmpiednfaaGreatDoor.HNameP Go.Proofs.YtlbbhgmpiednfaaGreatDoor.HNameR Go.Proofs.YtlbbhgmpiednfaaGreatDoor.HName Go.Proofs.YtlbbhgmpiednfaaGreatDoor.HTupP Go.Proofs.YtlbbhgmpiednfaaGreatDoor.HTupR Go.Proofs.YtlbbhgmpiednfaaGreatDoor.HTupX Go.Proofs.YtlbbhgmpiednfaaGreatDoor.HTupG Go.Proofs.YtlbbhgmpiednfaaGreatDoor.HTupJ Go.Proofs.YtlbbhgmpiednfaaGreatDoor.HTupU Go.Proofs.YtlbbhgmpiednfaaGreatDoor.HTupH Go.Proofs.YtlbbhgmpiednfaaGreatDoor.HTupZ
set_option linter.unusedVariables false
set_option linter.unusedSimpArgs false

set_option maxRecDepth 20000 in
set_option maxHeartbeats 8000000 in
theorem parses_far (s : ByteArray) (hs : 1000 < s.size) (hm : s.size ≤ 9223372036854775807) (w : World) (hG : GV w) : Calls Tryz.prog 6 #[.string s] w fun e w' => e = .returned (.bool true) ∧ Below w.heap.size w w' := by
  have HG := Aside0.mk hG
  have HB := Aside0.mk (B0 w)
  clear hG
  have d1 : decide ((s.size : Int) > 1000) = true := decide_eq_true (by omega)
  have d2 : (1000 : Int) < (s.size : Int) := by omega
  go_enter Tryz.func6, Tryz.ntmps6
  go_wp2_with fail
  refine (awake_any w HG.out).mono ?_
  rintro e_ w1 ⟨rfl, hb⟩
  have HB' := Aside0.mk (below_step HB.out hb)
  have HG' := Aside0.mk (HG.out.below hb)
  clear HB HG hb
  have HB := HB'
  have HG := HG'
  clear HB' HG'
  go_wp2_with fail
  refine (awake_any w1 HG.out).mono ?_
  rintro e_ w2 ⟨rfl, hb⟩
  have HB' := Aside0.mk (below_step HB.out hb)
  have HG' := Aside0.mk (HG.out.below hb)
  clear HB HG hb
  have HB := HB'
  have HG := HG'
  clear HB' HG'
  go_wp2
  go_ret
  exact ⟨rfl, HB.out⟩
set_option maxRecDepth 20000 in
set_option maxHeartbeats 8000000 in
theorem parses_err (s : ByteArray) (hs : s.size ≤ 1000) (t : Tp) (n m : Int) (HN : Aside0 (n ≠ 0)) (HP : Aside0 (parseT s = (t, some (n, m)))) (w : World) (hG : GV w) : Calls Tryz.prog 6 #[.string s] w fun e w' => e = .returned (.bool true) ∧ Below w.heap.size w w' := by
  have HG := Aside0.mk hG
  have HB := Aside0.mk (B0 w)
  clear hG
  have HS := Aside0.mk hs
  have HEQ := Aside0.mk (fun w => eq_self t w)
  go_enter Tryz.func6, Tryz.ntmps6
  go_wp2_with fail
  refine (awake_any w HG.out).mono ?_
  rintro e_ w1 ⟨rfl, hb⟩
  have HB' := Aside0.mk (below_step HB.out hb)
  have HG' := Aside0.mk (HG.out.below hb)
  clear HB HG hb
  have HB := HB'
  have HG := HG'
  clear HB' HG'
  go_wp2_with fail
  refine (parse_any s (by have := HS.out; omega) w1 HG.out).mono ?_
  rintro e_ w2 ⟨rfl, hb⟩
  rw [HP.out]
  dsimp only [errV]
  have HB' := Aside0.mk (below_step HB.out hb)
  have HG' := Aside0.mk (HG.out.below hb)
  clear HB HG hb
  have HB := HB'
  have HG := HG'
  clear HB' HG'
  clear hs
  obtain ⟨V2, hV2⟩ : ∃ V, V = w2.alloc (.cells (rowc t) 32) := ⟨_, rfl⟩
  have hb : Below w2.heap.size w2 V2 := by rw [hV2]; exact below_alloc (B0 w2) _
  have HT1 := Aside0.mk (show V2.heap[w2.heap.size]? = some (.cells (rowc t) 32 (0, 0)) from by rw [hV2]; exact blk_new w2 _)
  obtain ⟨gt, hgt⟩ : ∃ g, g = w2.heap.size := ⟨_, rfl⟩
  rw [← hgt] at HT1
  have HB' := Aside0.mk (below_step HB.out hb)
  have HG' := Aside0.mk (HG.out.below hb)
  clear HB HG hb
  have HB := HB'
  have HG := HG'
  clear HB' HG'
  go_upto_region 4 with fail
  rw [← hV2, ← hgt]
  clear hV2 hgt
  go_wp2_with fail
  refine (rparse_any s (by have := HS.out; omega) V2).mono ?_
  rintro e_ w3 ⟨rfl, hb⟩
  rw [HP.out]
  dsimp only [ecode, eat]
  have HB' := Aside0.mk (below_step HB.out hb)
  have HG' := Aside0.mk (HG.out.below hb)
  have HT1' := Aside0.mk (blk_below HT1.out hb)
  clear HB HG HT1 hb
  have HB := HB'
  have HG := HG'
  have HT1 := HT1'
  clear HB' HG' HT1'
  obtain ⟨V3, hV3⟩ : ∃ V, V = w3.alloc (.cells (rowc t) 32) := ⟨_, rfl⟩
  have hb : Below w3.heap.size w3 V3 := by rw [hV3]; exact below_alloc (B0 w3) _
  have HW1 := Aside0.mk (show V3.heap[w3.heap.size]? = some (.cells (rowc t) 32 (0, 0)) from by rw [hV3]; exact blk_new w3 _)
  obtain ⟨gw, hgw⟩ : ∃ g, g = w3.heap.size := ⟨_, rfl⟩
  rw [← hgw] at HW1
  have HB' := Aside0.mk (below_step HB.out hb)
  have HG' := Aside0.mk (HG.out.below hb)
  have HT1' := Aside0.mk (blk_below HT1.out hb)
  clear HB HG HT1 hb
  have HB := HB'
  have HG := HG'
  have HT1 := HT1'
  clear HB' HG' HT1'
  go_upto_region 5 with fail
  rw [← hV3, ← hgw]
  clear hV3 hgw
  have gt0 : V3.cell? ⟨gt, 0, none⟩ = some (.string t.a) := (blk_cell HT1.out 0).trans rfl
  have gt1 : V3.cell? ⟨gt, 1, none⟩ = some (.string t.b) := (blk_cell HT1.out 1).trans rfl
  have gt2 : V3.cell? ⟨gt, 2, none⟩ = some (.string t.c) := (blk_cell HT1.out 2).trans rfl
  have gt3 : V3.cell? ⟨gt, 3, none⟩ = some (.string t.d) := (blk_cell HT1.out 3).trans rfl
  have gt4 : V3.cell? ⟨gt, 4, none⟩ = some (.string t.e) := (blk_cell HT1.out 4).trans rfl
  have gt5 : V3.cell? ⟨gt, 5, none⟩ = some (.string t.f) := (blk_cell HT1.out 5).trans rfl
  have gw0 : V3.cell? ⟨gw, 0, none⟩ = some (.string t.a) := (blk_cell HW1.out 0).trans rfl
  have gw1 : V3.cell? ⟨gw, 1, none⟩ = some (.string t.b) := (blk_cell HW1.out 1).trans rfl
  have gw2 : V3.cell? ⟨gw, 2, none⟩ = some (.string t.c) := (blk_cell HW1.out 2).trans rfl
  have gw3 : V3.cell? ⟨gw, 3, none⟩ = some (.string t.d) := (blk_cell HW1.out 3).trans rfl
  have gw4 : V3.cell? ⟨gw, 4, none⟩ = some (.string t.e) := (blk_cell HW1.out 4).trans rfl
  have gw5 : V3.cell? ⟨gw, 5, none⟩ = some (.string t.f) := (blk_cell HW1.out 5).trans rfl
  have heq := HEQ.out
  go_wp2_with fail
  refine (HTup.told_any (some (n, m)) n m V3 HG.out.2).mono ?_
  rintro e_ w4 ⟨rfl, hb⟩
  rw [show toldP (some (n, m)) n m = true from told_self (some (n, m)) (fun a b h => by injection h with h; injection h with h _; rw [← h]; exact HN.out)]
  clear heq
  clear gt0 gt1 gt2 gt3 gt4 gt5
  clear gw0 gw1 gw2 gw3 gw4 gw5
  have HB' := Aside0.mk (below_step HB.out hb)
  have HG' := Aside0.mk (HG.out.below hb)
  have HT1' := Aside0.mk (blk_below HT1.out hb)
  have HW1' := Aside0.mk (blk_below HW1.out hb)
  clear HB HG HT1 HW1 hb
  have HB := HB'
  have HG := HG'
  have HT1 := HT1'
  have HW1 := HW1'
  clear HB' HG' HT1' HW1'
  have gt0 : w4.cell? ⟨gt, 0, none⟩ = some (.string t.a) := (blk_cell HT1.out 0).trans rfl
  have gt1 : w4.cell? ⟨gt, 1, none⟩ = some (.string t.b) := (blk_cell HT1.out 1).trans rfl
  have gt2 : w4.cell? ⟨gt, 2, none⟩ = some (.string t.c) := (blk_cell HT1.out 2).trans rfl
  have gt3 : w4.cell? ⟨gt, 3, none⟩ = some (.string t.d) := (blk_cell HT1.out 3).trans rfl
  have gt4 : w4.cell? ⟨gt, 4, none⟩ = some (.string t.e) := (blk_cell HT1.out 4).trans rfl
  have gt5 : w4.cell? ⟨gt, 5, none⟩ = some (.string t.f) := (blk_cell HT1.out 5).trans rfl
  go_wp2_with fail
  refine (text_any t w4 HG.out.1).mono ?_
  rintro e_ w5 ⟨rfl, hb⟩
  clear gt0 gt1 gt2 gt3 gt4 gt5
  have HB' := Aside0.mk (below_step HB.out hb)
  have HG' := Aside0.mk (HG.out.below hb)
  have HT1' := Aside0.mk (blk_below HT1.out hb)
  have HW1' := Aside0.mk (blk_below HW1.out hb)
  clear HB HG HT1 HW1 hb
  have HB := HB'
  have HG := HG'
  have HT1 := HT1'
  have HW1 := HW1'
  clear HB' HG' HT1' HW1'
  have n0 : (n != 0) = true := by have := HN.out; simpa using this
  have n1 : ¬ n = 0 := HN.out
  go_wp2
  go_ret
  exact ⟨rfl, HB.out⟩
set_option maxRecDepth 20000 in
set_option maxHeartbeats 8000000 in
theorem parses_ok (s : ByteArray) (hs : s.size ≤ 1000) (t : Tp) (HP : Aside0 (parseT s = (t, none))) (HR : Aside0 (rightP t = true)) (HX : Aside0 (textP t = s)) (w : World) (hG : GV w) : Calls Tryz.prog 6 #[.string s] w fun e w' => e = .returned (.bool true) ∧ Below w.heap.size w w' := by
  have HG := Aside0.mk hG
  have HB := Aside0.mk (B0 w)
  clear hG
  have HS := Aside0.mk hs
  have HEQ := Aside0.mk (fun w => eq_self t w)
  go_enter Tryz.func6, Tryz.ntmps6
  go_wp2_with fail
  refine (awake_any w HG.out).mono ?_
  rintro e_ w1 ⟨rfl, hb⟩
  have HB' := Aside0.mk (below_step HB.out hb)
  have HG' := Aside0.mk (HG.out.below hb)
  clear HB HG hb
  have HB := HB'
  have HG := HG'
  clear HB' HG'
  go_wp2_with fail
  refine (parse_any s (by have := HS.out; omega) w1 HG.out).mono ?_
  rintro e_ w2 ⟨rfl, hb⟩
  rw [HP.out]
  dsimp only [errV]
  have HB' := Aside0.mk (below_step HB.out hb)
  have HG' := Aside0.mk (HG.out.below hb)
  clear HB HG hb
  have HB := HB'
  have HG := HG'
  clear HB' HG'
  clear hs
  obtain ⟨V2, hV2⟩ : ∃ V, V = w2.alloc (.cells (rowc t) 32) := ⟨_, rfl⟩
  have hb : Below w2.heap.size w2 V2 := by rw [hV2]; exact below_alloc (B0 w2) _
  have HT1 := Aside0.mk (show V2.heap[w2.heap.size]? = some (.cells (rowc t) 32 (0, 0)) from by rw [hV2]; exact blk_new w2 _)
  obtain ⟨gt, hgt⟩ : ∃ g, g = w2.heap.size := ⟨_, rfl⟩
  rw [← hgt] at HT1
  have HB' := Aside0.mk (below_step HB.out hb)
  have HG' := Aside0.mk (HG.out.below hb)
  clear HB HG hb
  have HB := HB'
  have HG := HG'
  clear HB' HG'
  go_upto_region 4 with fail
  rw [← hV2, ← hgt]
  clear hV2 hgt
  go_wp2_with fail
  refine (rparse_any s (by have := HS.out; omega) V2).mono ?_
  rintro e_ w3 ⟨rfl, hb⟩
  rw [HP.out]
  dsimp only [ecode, eat]
  have HB' := Aside0.mk (below_step HB.out hb)
  have HG' := Aside0.mk (HG.out.below hb)
  have HT1' := Aside0.mk (blk_below HT1.out hb)
  clear HB HG HT1 hb
  have HB := HB'
  have HG := HG'
  have HT1 := HT1'
  clear HB' HG' HT1'
  obtain ⟨V3, hV3⟩ : ∃ V, V = w3.alloc (.cells (rowc t) 32) := ⟨_, rfl⟩
  have hb : Below w3.heap.size w3 V3 := by rw [hV3]; exact below_alloc (B0 w3) _
  have HW1 := Aside0.mk (show V3.heap[w3.heap.size]? = some (.cells (rowc t) 32 (0, 0)) from by rw [hV3]; exact blk_new w3 _)
  obtain ⟨gw, hgw⟩ : ∃ g, g = w3.heap.size := ⟨_, rfl⟩
  rw [← hgw] at HW1
  have HB' := Aside0.mk (below_step HB.out hb)
  have HG' := Aside0.mk (HG.out.below hb)
  have HT1' := Aside0.mk (blk_below HT1.out hb)
  clear HB HG HT1 hb
  have HB := HB'
  have HG := HG'
  have HT1 := HT1'
  clear HB' HG' HT1'
  go_upto_region 5 with fail
  rw [← hV3, ← hgw]
  clear hV3 hgw
  have gt0 : V3.cell? ⟨gt, 0, none⟩ = some (.string t.a) := (blk_cell HT1.out 0).trans rfl
  have gt1 : V3.cell? ⟨gt, 1, none⟩ = some (.string t.b) := (blk_cell HT1.out 1).trans rfl
  have gt2 : V3.cell? ⟨gt, 2, none⟩ = some (.string t.c) := (blk_cell HT1.out 2).trans rfl
  have gt3 : V3.cell? ⟨gt, 3, none⟩ = some (.string t.d) := (blk_cell HT1.out 3).trans rfl
  have gt4 : V3.cell? ⟨gt, 4, none⟩ = some (.string t.e) := (blk_cell HT1.out 4).trans rfl
  have gt5 : V3.cell? ⟨gt, 5, none⟩ = some (.string t.f) := (blk_cell HT1.out 5).trans rfl
  have gw0 : V3.cell? ⟨gw, 0, none⟩ = some (.string t.a) := (blk_cell HW1.out 0).trans rfl
  have gw1 : V3.cell? ⟨gw, 1, none⟩ = some (.string t.b) := (blk_cell HW1.out 1).trans rfl
  have gw2 : V3.cell? ⟨gw, 2, none⟩ = some (.string t.c) := (blk_cell HW1.out 2).trans rfl
  have gw3 : V3.cell? ⟨gw, 3, none⟩ = some (.string t.d) := (blk_cell HW1.out 3).trans rfl
  have gw4 : V3.cell? ⟨gw, 4, none⟩ = some (.string t.e) := (blk_cell HW1.out 4).trans rfl
  have gw5 : V3.cell? ⟨gw, 5, none⟩ = some (.string t.f) := (blk_cell HW1.out 5).trans rfl
  have heq := HEQ.out
  go_wp2_with fail
  refine (HTup.told_any none 0 0 V3 HG.out.2).mono ?_
  rintro e_ w4 ⟨rfl, hb⟩
  rw [show toldP none 0 0 = true from by decide]
  clear heq
  clear gt0 gt1 gt2 gt3 gt4 gt5
  clear gw0 gw1 gw2 gw3 gw4 gw5
  have HB' := Aside0.mk (below_step HB.out hb)
  have HG' := Aside0.mk (HG.out.below hb)
  have HT1' := Aside0.mk (blk_below HT1.out hb)
  have HW1' := Aside0.mk (blk_below HW1.out hb)
  clear HB HG HT1 HW1 hb
  have HB := HB'
  have HG := HG'
  have HT1 := HT1'
  have HW1 := HW1'
  clear HB' HG' HT1' HW1'
  have gt0 : w4.cell? ⟨gt, 0, none⟩ = some (.string t.a) := (blk_cell HT1.out 0).trans rfl
  have gt1 : w4.cell? ⟨gt, 1, none⟩ = some (.string t.b) := (blk_cell HT1.out 1).trans rfl
  have gt2 : w4.cell? ⟨gt, 2, none⟩ = some (.string t.c) := (blk_cell HT1.out 2).trans rfl
  have gt3 : w4.cell? ⟨gt, 3, none⟩ = some (.string t.d) := (blk_cell HT1.out 3).trans rfl
  have gt4 : w4.cell? ⟨gt, 4, none⟩ = some (.string t.e) := (blk_cell HT1.out 4).trans rfl
  have gt5 : w4.cell? ⟨gt, 5, none⟩ = some (.string t.f) := (blk_cell HT1.out 5).trans rfl
  go_wp2_with fail
  refine (text_right t w4 HG.out.1 HR.out).mono ?_
  rintro e_ w5 ⟨rfl, hb⟩
  rw [HX.out]
  clear gt0 gt1 gt2 gt3 gt4 gt5
  have HB' := Aside0.mk (below_step HB.out hb)
  have HG' := Aside0.mk (HG.out.below hb)
  have HT1' := Aside0.mk (blk_below HT1.out hb)
  have HW1' := Aside0.mk (blk_below HW1.out hb)
  clear HB HG HT1 HW1 hb
  have HB := HB'
  have HG := HG'
  have HT1 := HT1'
  have HW1 := HW1'
  clear HB' HG' HT1' HW1'
  have hss : (s.toList == s.toList) = true := by simp
  go_wp2
  go_ret
  exact ⟨rfl, HB.out⟩
theorem row_parses (s : ByteArray) (w : World) (hs : s.size ≤ maxLen) (hG : GV w) : Calls Tryz.prog 6 #[.string s] w fun e w' => e = .returned (.bool true) ∧ Below w.heap.size w w' := by
  by_cases h : s.size ≤ 1000
  · have h1 := parseT_code s
    have h2 := text_parse s
    obtain ⟨t, eo, ht⟩ : ∃ a b, parseT s = (a, b) := ⟨_, _, rfl⟩
    rw [ht] at h1 h2
    cases eo with
    | some e => exact parses_err s h t e.1 e.2 ⟨h1 e.1 e.2 rfl⟩ ⟨ht⟩ w hG
    | none => exact parses_ok s h t ⟨ht⟩ ⟨(h2 rfl).1⟩ ⟨(h2 rfl).2⟩ w hG
  · exact parses_far s (by omega) hs w hG
end Go.Proofs.YtlbbhgmpiednfaaGreatDoor.HTupL2
