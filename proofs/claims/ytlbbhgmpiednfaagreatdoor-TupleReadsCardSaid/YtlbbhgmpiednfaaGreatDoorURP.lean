/- The reference's ParseBytes. -/
import Derived.Test.YtlbbhgmpiednfaaGreatDoorURR
import Derived.Test.YtlbbhgmpiednfaaGreatDoorUBK
namespace Go.Proofs.YtlbbhgmpiednfaaGreatDoor.HTupRp
open Go.RowKit Go.Proofs.YtlbbhgmpiednfaaGreatDoorW.PrintWords Go.Proofs.YtlbbhgmpiednfaaGreatDoor.HLib Go.Proofs.YtlbbhgmpiednfaaGreatDoor.HErr Go.Proofs.YtlbbhgmpiednfaaGreatDoor.HNameP Go.Proofs.YtlbbhgmpiednfaaGreatDoor.HNameR Go.Proofs.YtlbbhgmpiednfaaGreatDoor.HName Go.Proofs.YtlbbhgmpiednfaaGreatDoor.HTupP Go.Proofs.YtlbbhgmpiednfaaGreatDoor.HTupR Go.Proofs.YtlbbhgmpiednfaaGreatDoor.HTupG Go.Proofs.YtlbbhgmpiednfaaGreatDoor.HTupX Go.Proofs.YtlbbhgmpiednfaaGreatDoor.HWireS Go.Proofs.YtlbbhgmpiednfaaGreatDoor.HWire Go.Proofs.YtlbbhgmpiednfaaGreatDoor.HCur Go.Proofs.YtlbbhgmpiednfaaGreatDoor.HRef01 Go.Proofs.YtlbbhgmpiednfaaGreatDoor.HTupI Go.Proofs.YtlbbhgmpiednfaaGreatDoor.HTupL Go.Proofs.YtlbbhgmpiednfaaGreatDoor.HTupM Go.Proofs.YtlbbhgmpiednfaaGreatDoor.HTupZ0 Go.Proofs.YtlbbhgmpiednfaaGreatDoor.HTupRr Go.Proofs.YtlbbhgmpiednfaaGreatDoor.HTupBk
set_option linter.unusedVariables false
set_option linter.unusedSimpArgs false

set_option maxRecDepth 20000 in
set_option maxHeartbeats 4000000 in
theorem rpb_err (w : World) (A : Option Addr) (cc : Nat) (l : List Int) (hv : Bs w (.slice A l.length cc) l) (hl : l.length ≤ 1000000) (hb : ∀ x ∈ l, 0 ≤ x ∧ x < 256) (t : Tp) (c i' : Int) (HI : Aside0 (0 ≤ i' ∧ i' ≤ l.length)) (HRK : Aside0 (readK l 6 0 0 Tp.nil = (t, some c, i'))) (HC : Aside0 (c ≠ 0)) :
    Calls Tryz.prog 27 #[.slice A l.length cc] w fun e w' => e = .returned (.tuple #[tvv (Tp.nil), .int .i64 (c), .int .i64 (i')]) ∧ Below w.heap.size w w' := by
  obtain ⟨W, hW⟩ : ∃ W, W = w.alloc (.cells zc 32) := ⟨_, rfl⟩
  have HB := Aside0.mk (show Below w.heap.size w W from by rw [hW]; exact below_alloc (B0 w) _)
  have HR := Aside0.mk (show W.heap[w.heap.size]? = some (.cells zc 32 (0, 0)) from by rw [hW]; exact blk_new w _)
  obtain ⟨g, hg⟩ : ∃ g, g = w.heap.size := ⟨_, rfl⟩
  rw [← hg] at HR
  have HGE := Aside0.mk (show w.heap.size ≤ g from by omega)
  have HV := Aside0.mk hv
  have HL := Aside0.mk hl
  have HBY := Aside0.mk hb
  clear hv hl hb
  go_enter Tryz.func27, Tryz.ntmps27
  go_upto_region 1 with fail
  rw [← hW, ← hg]
  clear hW hg
  go_wp2_with fail
  refine (rread_any W (.slice A l.length cc) l 0 (HV.out.below HB.out) (by omega) (by omega) HL.out HBY.out).mono ?_
  rintro e_ w1 ⟨rfl, hb⟩
  rw [HRK.out]
  dsimp only [ec, Option.getD]
  have HR1 := Aside0.mk (blk_below HR.out hb)
  have HB1 := Aside0.mk (below_step HB.out hb)
  clear HR HB hb
  obtain ⟨V1, hV1⟩ : ∃ V, V = w1.alloc (.cells (rowc t) 32) := ⟨_, rfl⟩
  have hb : Below w1.heap.size w1 V1 := by rw [hV1]; exact below_alloc (B0 w1) _
  have HT := Aside0.mk (show V1.heap[w1.heap.size]? = some (.cells (rowc t) 32 (0, 0)) from by rw [hV1]; exact blk_new w1 _)
  have HR := Aside0.mk (blk_below HR1.out hb)
  have HB := Aside0.mk (below_step HB1.out hb)
  clear HR1 HB1 hb
  obtain ⟨gt, hgt⟩ : ∃ g, g = w1.heap.size := ⟨_, rfl⟩
  rw [← hgt] at HT
  go_upto_region 2 with fail
  rw [← hV1, ← hgt]
  clear hV1 hgt
  have c1 : ¬ c = 0 := HC.out
  have c2 : (c == 0) = false := by simpa using c1
  have c3 : (c != 0) = true := by simpa using c1
  have c4 : decide (c = 0) = false := decide_eq_false c1
  have z0 : V1.cell? ⟨g, 0, none⟩ = some (.string ⟨#[]⟩) := (blk_cell HR.out 0).trans rfl
  have z1 : V1.cell? ⟨g, 1, none⟩ = some (.string ⟨#[]⟩) := (blk_cell HR.out 1).trans rfl
  have z2 : V1.cell? ⟨g, 2, none⟩ = some (.string ⟨#[]⟩) := (blk_cell HR.out 2).trans rfl
  have z3 : V1.cell? ⟨g, 3, none⟩ = some (.string ⟨#[]⟩) := (blk_cell HR.out 3).trans rfl
  have z4 : V1.cell? ⟨g, 4, none⟩ = some (.string ⟨#[]⟩) := (blk_cell HR.out 4).trans rfl
  have z5 : V1.cell? ⟨g, 5, none⟩ = some (.string ⟨#[]⟩) := (blk_cell HR.out 5).trans rfl
  have fz0 : V1.frozen? ⟨g, 0, none⟩ = false := blk_frozen HR.out 0
  have fz1 : V1.frozen? ⟨g, 1, none⟩ = false := blk_frozen HR.out 1
  have fz2 : V1.frozen? ⟨g, 2, none⟩ = false := blk_frozen HR.out 2
  have fz3 : V1.frozen? ⟨g, 3, none⟩ = false := blk_frozen HR.out 3
  have fz4 : V1.frozen? ⟨g, 4, none⟩ = false := blk_frozen HR.out 4
  have fz5 : V1.frozen? ⟨g, 5, none⟩ = false := blk_frozen HR.out 5
  have t0 : V1.cell? ⟨gt, 0, none⟩ = some (.string t.a) := (blk_cell HT.out 0).trans rfl
  have t1 : V1.cell? ⟨gt, 1, none⟩ = some (.string t.b) := (blk_cell HT.out 1).trans rfl
  have t2 : V1.cell? ⟨gt, 2, none⟩ = some (.string t.c) := (blk_cell HT.out 2).trans rfl
  have t3 : V1.cell? ⟨gt, 3, none⟩ = some (.string t.d) := (blk_cell HT.out 3).trans rfl
  have t4 : V1.cell? ⟨gt, 4, none⟩ = some (.string t.e) := (blk_cell HT.out 4).trans rfl
  have t5 : V1.cell? ⟨gt, 5, none⟩ = some (.string t.f) := (blk_cell HT.out 5).trans rfl
  go_wp2
  have hf := fin_row HR.out (Tp.nil)
  have hbf := fin_below HGE.out HB.out (Tp.nil)
  dsimp only [rowc, Tp.nil] at hf hbf
  generalize hW9 : ((((((V1.setCell ⟨g, 0, none⟩ (.string ⟨#[]⟩)).setCell ⟨g, 1, none⟩ (.string ⟨#[]⟩)).setCell ⟨g, 2, none⟩ (.string ⟨#[]⟩)).setCell ⟨g, 3, none⟩ (.string ⟨#[]⟩)).setCell ⟨g, 4, none⟩ (.string ⟨#[]⟩)).setCell ⟨g, 5, none⟩ (.string ⟨#[]⟩)) = W9 at hf hbf ⊢
  clear hW9
  have d0 := (blk_cell hf 0).trans rfl
  have d1 := (blk_cell hf 1).trans rfl
  have d2 := (blk_cell hf 2).trans rfl
  have d3 := (blk_cell hf 3).trans rfl
  have d4 := (blk_cell hf 4).trans rfl
  have d5 := (blk_cell hf 5).trans rfl
  refine bodyPost_ret (v := .tuple #[tvv (Tp.nil), .int .i64 (c), .int .i64 (i')]) (by simp [results, Tryz.results27, go_sem, d0, d1, d2, d3, d4, d5, Tp.nil]) rfl ⟨rfl, hbf⟩
set_option maxRecDepth 20000 in
set_option maxHeartbeats 4000000 in
theorem rpb_more (w : World) (A : Option Addr) (cc : Nat) (l : List Int) (hv : Bs w (.slice A l.length cc) l) (hl : l.length ≤ 1000000) (hb : ∀ x ∈ l, 0 ≤ x ∧ x < 256) (t : Tp) (c i' : Int) (HI : Aside0 (0 ≤ i' ∧ i' ≤ l.length)) (HRK : Aside0 (readK l 6 0 0 Tp.nil = (t, none, i'))) (HC : Aside0 (i' < l.length)) :
    Calls Tryz.prog 27 #[.slice A l.length cc] w fun e w' => e = .returned (.tuple #[tvv (Tp.nil), .int .i64 (16), .int .i64 (i')]) ∧ Below w.heap.size w w' := by
  obtain ⟨W, hW⟩ : ∃ W, W = w.alloc (.cells zc 32) := ⟨_, rfl⟩
  have HB := Aside0.mk (show Below w.heap.size w W from by rw [hW]; exact below_alloc (B0 w) _)
  have HR := Aside0.mk (show W.heap[w.heap.size]? = some (.cells zc 32 (0, 0)) from by rw [hW]; exact blk_new w _)
  obtain ⟨g, hg⟩ : ∃ g, g = w.heap.size := ⟨_, rfl⟩
  rw [← hg] at HR
  have HGE := Aside0.mk (show w.heap.size ≤ g from by omega)
  have HV := Aside0.mk hv
  have HL := Aside0.mk hl
  have HBY := Aside0.mk hb
  clear hv hl hb
  go_enter Tryz.func27, Tryz.ntmps27
  go_upto_region 1 with fail
  rw [← hW, ← hg]
  clear hW hg
  go_wp2_with fail
  refine (rread_any W (.slice A l.length cc) l 0 (HV.out.below HB.out) (by omega) (by omega) HL.out HBY.out).mono ?_
  rintro e_ w1 ⟨rfl, hb⟩
  rw [HRK.out]
  dsimp only [ec, Option.getD]
  have HR1 := Aside0.mk (blk_below HR.out hb)
  have HB1 := Aside0.mk (below_step HB.out hb)
  clear HR HB hb
  obtain ⟨V1, hV1⟩ : ∃ V, V = w1.alloc (.cells (rowc t) 32) := ⟨_, rfl⟩
  have hb : Below w1.heap.size w1 V1 := by rw [hV1]; exact below_alloc (B0 w1) _
  have HT := Aside0.mk (show V1.heap[w1.heap.size]? = some (.cells (rowc t) 32 (0, 0)) from by rw [hV1]; exact blk_new w1 _)
  have HR := Aside0.mk (blk_below HR1.out hb)
  have HB := Aside0.mk (below_step HB1.out hb)
  clear HR1 HB1 hb
  obtain ⟨gt, hgt⟩ : ∃ g, g = w1.heap.size := ⟨_, rfl⟩
  rw [← hgt] at HT
  go_upto_region 2 with fail
  rw [← hV1, ← hgt]
  clear hV1 hgt
  have c1 : i' < (l.length : Int) := HC.out
  have c2 : decide (i' < (l.length : Int)) = true := decide_eq_true c1
  have z0 : V1.cell? ⟨g, 0, none⟩ = some (.string ⟨#[]⟩) := (blk_cell HR.out 0).trans rfl
  have z1 : V1.cell? ⟨g, 1, none⟩ = some (.string ⟨#[]⟩) := (blk_cell HR.out 1).trans rfl
  have z2 : V1.cell? ⟨g, 2, none⟩ = some (.string ⟨#[]⟩) := (blk_cell HR.out 2).trans rfl
  have z3 : V1.cell? ⟨g, 3, none⟩ = some (.string ⟨#[]⟩) := (blk_cell HR.out 3).trans rfl
  have z4 : V1.cell? ⟨g, 4, none⟩ = some (.string ⟨#[]⟩) := (blk_cell HR.out 4).trans rfl
  have z5 : V1.cell? ⟨g, 5, none⟩ = some (.string ⟨#[]⟩) := (blk_cell HR.out 5).trans rfl
  have fz0 : V1.frozen? ⟨g, 0, none⟩ = false := blk_frozen HR.out 0
  have fz1 : V1.frozen? ⟨g, 1, none⟩ = false := blk_frozen HR.out 1
  have fz2 : V1.frozen? ⟨g, 2, none⟩ = false := blk_frozen HR.out 2
  have fz3 : V1.frozen? ⟨g, 3, none⟩ = false := blk_frozen HR.out 3
  have fz4 : V1.frozen? ⟨g, 4, none⟩ = false := blk_frozen HR.out 4
  have fz5 : V1.frozen? ⟨g, 5, none⟩ = false := blk_frozen HR.out 5
  have t0 : V1.cell? ⟨gt, 0, none⟩ = some (.string t.a) := (blk_cell HT.out 0).trans rfl
  have t1 : V1.cell? ⟨gt, 1, none⟩ = some (.string t.b) := (blk_cell HT.out 1).trans rfl
  have t2 : V1.cell? ⟨gt, 2, none⟩ = some (.string t.c) := (blk_cell HT.out 2).trans rfl
  have t3 : V1.cell? ⟨gt, 3, none⟩ = some (.string t.d) := (blk_cell HT.out 3).trans rfl
  have t4 : V1.cell? ⟨gt, 4, none⟩ = some (.string t.e) := (blk_cell HT.out 4).trans rfl
  have t5 : V1.cell? ⟨gt, 5, none⟩ = some (.string t.f) := (blk_cell HT.out 5).trans rfl
  go_wp2
  have hf := fin_row HR.out (Tp.nil)
  have hbf := fin_below HGE.out HB.out (Tp.nil)
  dsimp only [rowc, Tp.nil] at hf hbf
  generalize hW9 : ((((((V1.setCell ⟨g, 0, none⟩ (.string ⟨#[]⟩)).setCell ⟨g, 1, none⟩ (.string ⟨#[]⟩)).setCell ⟨g, 2, none⟩ (.string ⟨#[]⟩)).setCell ⟨g, 3, none⟩ (.string ⟨#[]⟩)).setCell ⟨g, 4, none⟩ (.string ⟨#[]⟩)).setCell ⟨g, 5, none⟩ (.string ⟨#[]⟩)) = W9 at hf hbf ⊢
  clear hW9
  have d0 := (blk_cell hf 0).trans rfl
  have d1 := (blk_cell hf 1).trans rfl
  have d2 := (blk_cell hf 2).trans rfl
  have d3 := (blk_cell hf 3).trans rfl
  have d4 := (blk_cell hf 4).trans rfl
  have d5 := (blk_cell hf 5).trans rfl
  refine bodyPost_ret (v := .tuple #[tvv (Tp.nil), .int .i64 (16), .int .i64 (i')]) (by simp [results, Tryz.results27, go_sem, d0, d1, d2, d3, d4, d5, Tp.nil]) rfl ⟨rfl, hbf⟩
set_option maxRecDepth 20000 in
set_option maxHeartbeats 4000000 in
theorem rpb_ok (w : World) (A : Option Addr) (cc : Nat) (l : List Int) (hv : Bs w (.slice A l.length cc) l) (hl : l.length ≤ 1000000) (hb : ∀ x ∈ l, 0 ≤ x ∧ x < 256) (t : Tp) (c i' : Int) (HI : Aside0 (0 ≤ i' ∧ i' ≤ l.length)) (HRK : Aside0 (readK l 6 0 0 Tp.nil = (t, none, i'))) (HC : Aside0 (¬ i' < l.length)) :
    Calls Tryz.prog 27 #[.slice A l.length cc] w fun e w' => e = .returned (.tuple #[tvv (t), .int .i64 (0), .int .i64 (0)]) ∧ Below w.heap.size w w' := by
  obtain ⟨W, hW⟩ : ∃ W, W = w.alloc (.cells zc 32) := ⟨_, rfl⟩
  have HB := Aside0.mk (show Below w.heap.size w W from by rw [hW]; exact below_alloc (B0 w) _)
  have HR := Aside0.mk (show W.heap[w.heap.size]? = some (.cells zc 32 (0, 0)) from by rw [hW]; exact blk_new w _)
  obtain ⟨g, hg⟩ : ∃ g, g = w.heap.size := ⟨_, rfl⟩
  rw [← hg] at HR
  have HGE := Aside0.mk (show w.heap.size ≤ g from by omega)
  have HV := Aside0.mk hv
  have HL := Aside0.mk hl
  have HBY := Aside0.mk hb
  clear hv hl hb
  go_enter Tryz.func27, Tryz.ntmps27
  go_upto_region 1 with fail
  rw [← hW, ← hg]
  clear hW hg
  go_wp2_with fail
  refine (rread_any W (.slice A l.length cc) l 0 (HV.out.below HB.out) (by omega) (by omega) HL.out HBY.out).mono ?_
  rintro e_ w1 ⟨rfl, hb⟩
  rw [HRK.out]
  dsimp only [ec, Option.getD]
  have HR1 := Aside0.mk (blk_below HR.out hb)
  have HB1 := Aside0.mk (below_step HB.out hb)
  clear HR HB hb
  obtain ⟨V1, hV1⟩ : ∃ V, V = w1.alloc (.cells (rowc t) 32) := ⟨_, rfl⟩
  have hb : Below w1.heap.size w1 V1 := by rw [hV1]; exact below_alloc (B0 w1) _
  have HT := Aside0.mk (show V1.heap[w1.heap.size]? = some (.cells (rowc t) 32 (0, 0)) from by rw [hV1]; exact blk_new w1 _)
  have HR := Aside0.mk (blk_below HR1.out hb)
  have HB := Aside0.mk (below_step HB1.out hb)
  clear HR1 HB1 hb
  obtain ⟨gt, hgt⟩ : ∃ g, g = w1.heap.size := ⟨_, rfl⟩
  rw [← hgt] at HT
  go_upto_region 2 with fail
  rw [← hV1, ← hgt]
  clear hV1 hgt
  have c1 : ¬ i' < (l.length : Int) := by have := HC.out; omega
  have c2 : decide (i' < (l.length : Int)) = false := decide_eq_false c1
  have c3 : (l.length : Int) ≤ i' := by omega
  have z0 : V1.cell? ⟨g, 0, none⟩ = some (.string ⟨#[]⟩) := (blk_cell HR.out 0).trans rfl
  have z1 : V1.cell? ⟨g, 1, none⟩ = some (.string ⟨#[]⟩) := (blk_cell HR.out 1).trans rfl
  have z2 : V1.cell? ⟨g, 2, none⟩ = some (.string ⟨#[]⟩) := (blk_cell HR.out 2).trans rfl
  have z3 : V1.cell? ⟨g, 3, none⟩ = some (.string ⟨#[]⟩) := (blk_cell HR.out 3).trans rfl
  have z4 : V1.cell? ⟨g, 4, none⟩ = some (.string ⟨#[]⟩) := (blk_cell HR.out 4).trans rfl
  have z5 : V1.cell? ⟨g, 5, none⟩ = some (.string ⟨#[]⟩) := (blk_cell HR.out 5).trans rfl
  have fz0 : V1.frozen? ⟨g, 0, none⟩ = false := blk_frozen HR.out 0
  have fz1 : V1.frozen? ⟨g, 1, none⟩ = false := blk_frozen HR.out 1
  have fz2 : V1.frozen? ⟨g, 2, none⟩ = false := blk_frozen HR.out 2
  have fz3 : V1.frozen? ⟨g, 3, none⟩ = false := blk_frozen HR.out 3
  have fz4 : V1.frozen? ⟨g, 4, none⟩ = false := blk_frozen HR.out 4
  have fz5 : V1.frozen? ⟨g, 5, none⟩ = false := blk_frozen HR.out 5
  have t0 : V1.cell? ⟨gt, 0, none⟩ = some (.string t.a) := (blk_cell HT.out 0).trans rfl
  have t1 : V1.cell? ⟨gt, 1, none⟩ = some (.string t.b) := (blk_cell HT.out 1).trans rfl
  have t2 : V1.cell? ⟨gt, 2, none⟩ = some (.string t.c) := (blk_cell HT.out 2).trans rfl
  have t3 : V1.cell? ⟨gt, 3, none⟩ = some (.string t.d) := (blk_cell HT.out 3).trans rfl
  have t4 : V1.cell? ⟨gt, 4, none⟩ = some (.string t.e) := (blk_cell HT.out 4).trans rfl
  have t5 : V1.cell? ⟨gt, 5, none⟩ = some (.string t.f) := (blk_cell HT.out 5).trans rfl
  go_wp2
  have hf := fin_row HR.out (t)
  have hbf := fin_below HGE.out HB.out (t)
  dsimp only [rowc, Tp.nil] at hf hbf
  generalize hW9 : ((((((V1.setCell ⟨g, 0, none⟩ (.string t.a)).setCell ⟨g, 1, none⟩ (.string t.b)).setCell ⟨g, 2, none⟩ (.string t.c)).setCell ⟨g, 3, none⟩ (.string t.d)).setCell ⟨g, 4, none⟩ (.string t.e)).setCell ⟨g, 5, none⟩ (.string t.f)) = W9 at hf hbf ⊢
  clear hW9
  have d0 := (blk_cell hf 0).trans rfl
  have d1 := (blk_cell hf 1).trans rfl
  have d2 := (blk_cell hf 2).trans rfl
  have d3 := (blk_cell hf 3).trans rfl
  have d4 := (blk_cell hf 4).trans rfl
  have d5 := (blk_cell hf 5).trans rfl
  refine bodyPost_ret (v := .tuple #[tvv (t), .int .i64 (0), .int .i64 (0)]) (by simp [results, Tryz.results27, go_sem, d0, d1, d2, d3, d4, d5, Tp.nil]) rfl ⟨rfl, hbf⟩
def rat (e : Option Int) (a : Int) : Int := match e with | none => 0 | some _ => a
theorem refparseB_any (w : World) (v : Value) (l : List Int) (hv : Bs w v l) (hl : l.length ≤ 1000000) (hb : ∀ x ∈ l, 0 ≤ x ∧ x < 256) :
    Calls Tryz.prog 27 #[v] w fun e w' => e = .returned (.tuple #[tvv (parseB l).1, .int .i64 (ec (parseB l).2.1), .int .i64 (rat (parseB l).2.1 (parseB l).2.2)]) ∧ Below w.heap.size w w' := by
  obtain ⟨A, cc, rfl, _⟩ := id hv
  have hc := readK_code l 6 0 0 Tp.nil
  have ho := readK_off l hb 6 0 0 Tp.nil ⟨by omega, by omega⟩
  obtain ⟨t, e, i', hr⟩ : ∃ a b c, readK l 6 0 0 Tp.nil = (a, b, c) := ⟨_, _, _, rfl⟩
  rw [hr] at hc ho
  have hP : parseB l = match (generalizing := false) e with
    | some c => (Tp.nil, some c, i')
    | none => if i' < l.length then (Tp.nil, some 16, i') else (t, none, i') := by
    unfold parseB
    simp only [hr]
    cases e <;> rfl
  rw [hP]
  cases e with
  | some c => exact rpb_err w A cc l hv hl hb t c i' ⟨ho⟩ ⟨hr⟩ ⟨hc c rfl⟩
  | none =>
    by_cases h : i' < l.length
    · simp only [if_pos h]
      exact rpb_more w A cc l hv hl hb t 0 i' ⟨ho⟩ ⟨hr⟩ ⟨h⟩
    · simp only [if_neg h]
      exact rpb_ok w A cc l hv hl hb t 0 i' ⟨ho⟩ ⟨hr⟩ ⟨h⟩
end Go.Proofs.YtlbbhgmpiednfaaGreatDoor.HTupRp
