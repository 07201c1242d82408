/- The reference's Parse. -/
import Derived.Test.YtlbbhgmpiednfaaGreatDoorUY
import Derived.Test.YtlbbhgmpiednfaaGreatDoorUU
namespace Go.Proofs.YtlbbhgmpiednfaaGreatDoor.HTupZ
open Go.RowKit Go.Proofs.YtlbbhgmpiednfaaGreatDoorW.PrintWords Go.Proofs.YtlbbhgmpiednfaaGreatDoor.HLib Go.Proofs.YtlbbhgmpiednfaaGreatDoor.HGr Go.Proofs.YtlbbhgmpiednfaaGreatDoor.HErr Go.Proofs.YtlbbhgmpiednfaaGreatDoor.HNameP Go.Proofs.YtlbbhgmpiednfaaGreatDoor.HNameR Go.Proofs.YtlbbhgmpiednfaaGreatDoor.HName Go.Proofs.YtlbbhgmpiednfaaGreatDoor.HTupP Go.Proofs.YtlbbhgmpiednfaaGreatDoor.HTupR Go.Proofs.YtlbbhgmpiednfaaGreatDoor.HTupG Go.Proofs.YtlbbhgmpiednfaaGreatDoor.HPr Go.Proofs.YtlbbhgmpiednfaaGreatDoor.PTupleSorts
set_option linter.unusedVariables false
set_option linter.unusedSimpArgs false
theorem below_dr {n : Nat} {w0 w w1 : World} (h : Below n w0 w) (hd : Drawn0 w w1) : Below n w0 w1 := by
  obtain ⟨⟨m, rfl⟩⟩ := hd
  exact pw_below_drewN h m
theorem drawn_b {w w1 : World} (hd : Drawn0 w w1) : Below w.heap.size w w1 := below_dr (B0 w) hd
theorem parseO_calls (s o1 o2 : ByteArray) (eo : Option (Int × Int)) (h : parseO s = (o1, o2, eo)) (hs : s.size ≤ 1099511627776) (w : World) :
    Calls Tryz.prog 54 #[.string s] w fun e w' => e = .returned (.tuple #[.agg #[.string o1, .string o2], .int .i64 (ecode eo), .int .i64 (eat eo)]) ∧ Below w.heap.size w w' :=
  vestryref08_ParseObject.calls (s.size + 100) s o1 o2 (ecode eo) (eat eo) w (by rw [parseO_eq s hs, h])
theorem find_calls (s : ByteArray) (c : Int) (w : World) (hc : 0 ≤ c ∧ c ≤ 255) (hs : s.size ≤ 1099511627776) : Calls Tryz.prog 53 #[.string s, .int .u8 c] w fun e w' => e = .returned (.int .i64 (findP s c)) ∧ Below w.heap.size w w' :=
  (reffind_any s c w hc hs).mono fun e w' r => ⟨r.1, drawn_b r.2⟩
theorem is_calls (s : ByteArray) (w : World) : Calls Tryz.prog 40 #[.string s] w fun e w' => e = .returned (.bool (isP s)) ∧ Below w.heap.size w w' :=
  (refis_any s w).mono fun e w' r => ⟨r.1, drawn_b r.2⟩

set_option maxRecDepth 20000 in
set_option maxHeartbeats 4000000 in
theorem rparse_A1 (s : ByteArray) (hs : s.size ≤ 1000000000) (HA : Aside0 (findP s 64 = -1)) (w : World) :
    Calls Tryz.prog 25 #[.string s] w fun e w' => e = .returned (.tuple #[tvv (Tp.nil), .int .i64 (6), .int .i64 ((s.size : Int))]) ∧ Below w.heap.size w w' := by
  have HS := Aside0.mk hs
  obtain ⟨W, hW⟩ : ∃ W, W = w.alloc (.cells zc 32) := ⟨_, rfl⟩
  have HB := Aside0.mk (show Below w.heap.size w W from by rw [hW]; exact below_alloc (B0 w) _)
  have HR := Aside0.mk (show W.heap[w.heap.size]? = some (.cells zc 32 (0, 0)) from by rw [hW]; exact blk_new w _)
  obtain ⟨g, hg⟩ : ∃ g, g = w.heap.size := ⟨_, rfl⟩
  rw [← hg] at HR
  have HGE := Aside0.mk (show w.heap.size ≤ g from by omega)
  clear hs
  go_enter Tryz.func25, Tryz.ntmps25
  go_upto_region 1 with fail
  rw [← hW, ← hg]
  clear hW hg
  go_wp2_with fail
  refine (find_calls s 64 W (by decide) (by have := HS.out; omega)).mono ?_
  rintro e_ w1 ⟨rfl, hb⟩
  rw [HA.out]
  have HB' := Aside0.mk (below_step HB.out hb)
  have HR' := Aside0.mk (blk_below HR.out hb)
  clear HB HR hb
  have HB := HB'
  have HR := HR'
  clear HB' HR'
  have z0 : w1.cell? ⟨g, 0, none⟩ = some (.string ⟨#[]⟩) := (blk_cell HR.out 0).trans rfl
  have z1 : w1.cell? ⟨g, 1, none⟩ = some (.string ⟨#[]⟩) := (blk_cell HR.out 1).trans rfl
  have z2 : w1.cell? ⟨g, 2, none⟩ = some (.string ⟨#[]⟩) := (blk_cell HR.out 2).trans rfl
  have z3 : w1.cell? ⟨g, 3, none⟩ = some (.string ⟨#[]⟩) := (blk_cell HR.out 3).trans rfl
  have z4 : w1.cell? ⟨g, 4, none⟩ = some (.string ⟨#[]⟩) := (blk_cell HR.out 4).trans rfl
  have z5 : w1.cell? ⟨g, 5, none⟩ = some (.string ⟨#[]⟩) := (blk_cell HR.out 5).trans rfl
  have fz0 : w1.frozen? ⟨g, 0, none⟩ = false := blk_frozen HR.out 0
  have fz1 : w1.frozen? ⟨g, 1, none⟩ = false := blk_frozen HR.out 1
  have fz2 : w1.frozen? ⟨g, 2, none⟩ = false := blk_frozen HR.out 2
  have fz3 : w1.frozen? ⟨g, 3, none⟩ = false := blk_frozen HR.out 3
  have fz4 : w1.frozen? ⟨g, 4, none⟩ = false := blk_frozen HR.out 4
  have fz5 : w1.frozen? ⟨g, 5, none⟩ = false := blk_frozen HR.out 5
  go_wp2
  have hf := fin_row HR.out (⟨⟨#[]⟩, ⟨#[]⟩, ⟨#[]⟩, ⟨#[]⟩, ⟨#[]⟩, ⟨#[]⟩⟩ : Tp)
  have hbf := fin_below HGE.out HB.out (⟨⟨#[]⟩, ⟨#[]⟩, ⟨#[]⟩, ⟨#[]⟩, ⟨#[]⟩, ⟨#[]⟩⟩ : Tp)
  dsimp only [rowc] at hf hbf
  generalize hW9 : ((((((w1.setCell ⟨g, 0, none⟩ (.string ⟨#[]⟩)).setCell ⟨g, 1, none⟩ (.string ⟨#[]⟩)).setCell ⟨g, 2, none⟩ (.string ⟨#[]⟩)).setCell ⟨g, 3, none⟩ (.string ⟨#[]⟩)).setCell ⟨g, 4, none⟩ (.string ⟨#[]⟩)).setCell ⟨g, 5, none⟩ (.string ⟨#[]⟩)) = W9 at hf hbf ⊢
  clear hW9
  have d0 := (blk_cell hf 0).trans rfl
  have d1 := (blk_cell hf 1).trans rfl
  have d2 := (blk_cell hf 2).trans rfl
  have d3 := (blk_cell hf 3).trans rfl
  have d4 := (blk_cell hf 4).trans rfl
  have d5 := (blk_cell hf 5).trans rfl
  refine bodyPost_ret (v := .tuple #[tvv (Tp.nil), .int .i64 (6), .int .i64 ((s.size : Int))]) (by simp [results, Tryz.results25, go_sem, d0, d1, d2, d3, d4, d5, Tp.nil]) rfl ⟨rfl, hbf⟩
set_option maxRecDepth 20000 in
set_option maxHeartbeats 4000000 in
theorem rparse_A2 (s : ByteArray) (hs : s.size ≤ 1000000000) (a : Nat) (front : ByteArray) (HA : Aside0 (findP s 64 = (a : Int))) (HFR : Aside0 (s.extract 0 a = front)) (HH : Aside0 (findP front 35 = -1)) (w : World) :
    Calls Tryz.prog 25 #[.string s] w fun e w' => e = .returned (.tuple #[tvv (Tp.nil), .int .i64 (6), .int .i64 ((s.size : Int))]) ∧ Below w.heap.size w w' := by
  have HS := Aside0.mk hs
  obtain ⟨W, hW⟩ : ∃ W, W = w.alloc (.cells zc 32) := ⟨_, rfl⟩
  have HB := Aside0.mk (show Below w.heap.size w W from by rw [hW]; exact below_alloc (B0 w) _)
  have HR := Aside0.mk (show W.heap[w.heap.size]? = some (.cells zc 32 (0, 0)) from by rw [hW]; exact blk_new w _)
  obtain ⟨g, hg⟩ : ∃ g, g = w.heap.size := ⟨_, rfl⟩
  rw [← hg] at HR
  have HGE := Aside0.mk (show w.heap.size ≤ g from by omega)
  clear hs
  have a1 : a ≤ s.size := by have := HA.out; have := find_lt (s := s) (c := 64) (by decide); omega
  have a2 : a + 1 ≤ s.size := by have := HA.out; have := find_lt (s := s) (c := 64) (by decide); omega
  have a3 : (a : Int) + 1 ≤ (s.size : Int) := by omega
  have a4 : ¬ ((a : Int) < 0) := by omega
  have a5 : decide ((a : Int) < 0) = false := decide_eq_false (by omega)
  have a6 : 0 ≤ (a : Int) + 1 := by omega
  have a7 : s.size ≤ 1000000000 := HS.out
  have FSZ := Aside0.mk (show front.size = a from by rw [← HFR.out, ByteArray.size_extract]; omega)
  have aw : IntKind.i64.wrap ((a : Int) + 1) = (a : Int) + 1 := by rw [IntKind.wrap_i64]; omega
  have at_ : ((a : Int) + 1).toNat = a + 1 := by omega
  go_enter Tryz.func25, Tryz.ntmps25
  go_upto_region 1 with fail
  rw [← hW, ← hg]
  clear hW hg
  go_wp2_with fail
  refine (find_calls s 64 W (by decide) (by have := HS.out; omega)).mono ?_
  rintro e_ w1 ⟨rfl, hb⟩
  rw [HA.out]
  have HB' := Aside0.mk (below_step HB.out hb)
  have HR' := Aside0.mk (blk_below HR.out hb)
  clear HB HR hb
  have HB := HB'
  have HR := HR'
  clear HB' HR'
  go_wp2_with fail
  rw [HFR.out]
  refine (find_calls front 35 w1 (by decide) (by have := FSZ.out; omega)).mono ?_
  rintro e_ w2 ⟨rfl, hb⟩
  rw [HH.out]
  have HB' := Aside0.mk (below_step HB.out hb)
  have HR' := Aside0.mk (blk_below HR.out hb)
  clear HB HR hb
  have HB := HB'
  have HR := HR'
  clear HB' HR'
  have z0 : w2.cell? ⟨g, 0, none⟩ = some (.string ⟨#[]⟩) := (blk_cell HR.out 0).trans rfl
  have z1 : w2.cell? ⟨g, 1, none⟩ = some (.string ⟨#[]⟩) := (blk_cell HR.out 1).trans rfl
  have z2 : w2.cell? ⟨g, 2, none⟩ = some (.string ⟨#[]⟩) := (blk_cell HR.out 2).trans rfl
  have z3 : w2.cell? ⟨g, 3, none⟩ = some (.string ⟨#[]⟩) := (blk_cell HR.out 3).trans rfl
  have z4 : w2.cell? ⟨g, 4, none⟩ = some (.string ⟨#[]⟩) := (blk_cell HR.out 4).trans rfl
  have z5 : w2.cell? ⟨g, 5, none⟩ = some (.string ⟨#[]⟩) := (blk_cell HR.out 5).trans rfl
  have fz0 : w2.frozen? ⟨g, 0, none⟩ = false := blk_frozen HR.out 0
  have fz1 : w2.frozen? ⟨g, 1, none⟩ = false := blk_frozen HR.out 1
  have fz2 : w2.frozen? ⟨g, 2, none⟩ = false := blk_frozen HR.out 2
  have fz3 : w2.frozen? ⟨g, 3, none⟩ = false := blk_frozen HR.out 3
  have fz4 : w2.frozen? ⟨g, 4, none⟩ = false := blk_frozen HR.out 4
  have fz5 : w2.frozen? ⟨g, 5, none⟩ = false := blk_frozen HR.out 5
  go_wp2
  have hf := fin_row HR.out (⟨⟨#[]⟩, ⟨#[]⟩, ⟨#[]⟩, ⟨#[]⟩, ⟨#[]⟩, ⟨#[]⟩⟩ : Tp)
  have hbf := fin_below HGE.out HB.out (⟨⟨#[]⟩, ⟨#[]⟩, ⟨#[]⟩, ⟨#[]⟩, ⟨#[]⟩, ⟨#[]⟩⟩ : Tp)
  dsimp only [rowc] at hf hbf
  generalize hW9 : ((((((w2.setCell ⟨g, 0, none⟩ (.string ⟨#[]⟩)).setCell ⟨g, 1, none⟩ (.string ⟨#[]⟩)).setCell ⟨g, 2, none⟩ (.string ⟨#[]⟩)).setCell ⟨g, 3, none⟩ (.string ⟨#[]⟩)).setCell ⟨g, 4, none⟩ (.string ⟨#[]⟩)).setCell ⟨g, 5, none⟩ (.string ⟨#[]⟩)) = W9 at hf hbf ⊢
  clear hW9
  have d0 := (blk_cell hf 0).trans rfl
  have d1 := (blk_cell hf 1).trans rfl
  have d2 := (blk_cell hf 2).trans rfl
  have d3 := (blk_cell hf 3).trans rfl
  have d4 := (blk_cell hf 4).trans rfl
  have d5 := (blk_cell hf 5).trans rfl
  refine bodyPost_ret (v := .tuple #[tvv (Tp.nil), .int .i64 (6), .int .i64 ((s.size : Int))]) (by simp [results, Tryz.results25, go_sem, d0, d1, d2, d3, d4, d5, Tp.nil]) rfl ⟨rfl, hbf⟩
set_option maxRecDepth 20000 in
set_option maxHeartbeats 4000000 in
theorem rparse_B (s : ByteArray) (hs : s.size ≤ 1000000000) (a : Nat) (front : ByteArray) (HA : Aside0 (findP s 64 = (a : Int))) (HFR : Aside0 (s.extract 0 a = front)) (h : Nat) (object relation o1 o2 : ByteArray) (HH : Aside0 (findP front 35 = (h : Int))) (HOB : Aside0 (s.extract 0 h = object)) (HRE : Aside0 (s.extract (h + 1) a = relation)) (n4 m4 : Int) (HN : Aside0 (n4 ≠ 0)) (HO : Aside0 (parseO object = (o1, o2, some (n4, m4)))) (w : World) :
    Calls Tryz.prog 25 #[.string s] w fun e w' => e = .returned (.tuple #[tvv (Tp.nil), .int .i64 (n4), .int .i64 (m4)]) ∧ Below w.heap.size w w' := by
  have HS := Aside0.mk hs
  obtain ⟨W, hW⟩ : ∃ W, W = w.alloc (.cells zc 32) := ⟨_, rfl⟩
  have HB := Aside0.mk (show Below w.heap.size w W from by rw [hW]; exact below_alloc (B0 w) _)
  have HR := Aside0.mk (show W.heap[w.heap.size]? = some (.cells zc 32 (0, 0)) from by rw [hW]; exact blk_new w _)
  obtain ⟨g, hg⟩ : ∃ g, g = w.heap.size := ⟨_, rfl⟩
  rw [← hg] at HR
  have HGE := Aside0.mk (show w.heap.size ≤ g from by omega)
  clear hs
  have a1 : a ≤ s.size := by have := HA.out; have := find_lt (s := s) (c := 64) (by decide); omega
  have a2 : a + 1 ≤ s.size := by have := HA.out; have := find_lt (s := s) (c := 64) (by decide); omega
  have a3 : (a : Int) + 1 ≤ (s.size : Int) := by omega
  have a4 : ¬ ((a : Int) < 0) := by omega
  have a5 : decide ((a : Int) < 0) = false := decide_eq_false (by omega)
  have a6 : 0 ≤ (a : Int) + 1 := by omega
  have a7 : s.size ≤ 1000000000 := HS.out
  have FSZ := Aside0.mk (show front.size = a from by rw [← HFR.out, ByteArray.size_extract]; omega)
  have aw : IntKind.i64.wrap ((a : Int) + 1) = (a : Int) + 1 := by rw [IntKind.wrap_i64]; omega
  have at_ : ((a : Int) + 1).toNat = a + 1 := by omega
  have h1 : h + 1 ≤ a := by have := HH.out; have := find_lt (s := front) (c := 35) (by decide); have := FSZ.out; omega
  have h2 : h ≤ s.size := by omega
  have h3 : (h : Int) + 1 ≤ (a : Int) := by omega
  have h5 : decide ((h : Int) < 0) = false := decide_eq_false (by omega)
  have h6 : 0 ≤ (h : Int) + 1 := by omega
  have hw : IntKind.i64.wrap ((h : Int) + 1) = (h : Int) + 1 := by rw [IntKind.wrap_i64]; omega
  have ht_ : ((h : Int) + 1).toNat = h + 1 := by omega
  go_enter Tryz.func25, Tryz.ntmps25
  go_upto_region 1 with fail
  rw [← hW, ← hg]
  clear hW hg
  go_wp2_with fail
  refine (find_calls s 64 W (by decide) (by have := HS.out; omega)).mono ?_
  rintro e_ w1 ⟨rfl, hb⟩
  rw [HA.out]
  have HB' := Aside0.mk (below_step HB.out hb)
  have HR' := Aside0.mk (blk_below HR.out hb)
  clear HB HR hb
  have HB := HB'
  have HR := HR'
  clear HB' HR'
  go_wp2_with fail
  rw [HFR.out]
  refine (find_calls front 35 w1 (by decide) (by have := FSZ.out; omega)).mono ?_
  rintro e_ w2 ⟨rfl, hb⟩
  rw [HH.out]
  have HB' := Aside0.mk (below_step HB.out hb)
  have HR' := Aside0.mk (blk_below HR.out hb)
  clear HB HR hb
  have HB := HB'
  have HR := HR'
  clear HB' HR'
  go_wp2_with fail
  rw [HOB.out]
  refine (parseO_calls object o1 o2 _ HO.out (by rw [← HOB.out, ByteArray.size_extract]; omega) w2).mono ?_
  rintro e_ w3 ⟨rfl, hb⟩
  dsimp only [ecode, eat]
  have HB' := Aside0.mk (below_step HB.out hb)
  have HR' := Aside0.mk (blk_below HR.out hb)
  clear HB HR hb
  have HB := HB'
  have HR := HR'
  clear HB' HR'
  obtain ⟨V3, hV3⟩ : ∃ V, V = w3.alloc (.cells #[.string o1, .string o2] 30) := ⟨_, rfl⟩
  have HO1 := Aside0.mk (show V3.heap[w3.heap.size]? = some (.cells #[.string o1, .string o2] 30 (0, 0)) from by rw [hV3]; exact blk_new w3 _)
  have hb : Below w3.heap.size w3 V3 := by rw [hV3]; exact below_alloc (B0 w3) _
  have HB' := Aside0.mk (below_step HB.out hb)
  have HR' := Aside0.mk (blk_below HR.out hb)
  clear HB HR hb
  have HB := HB'
  have HR := HR'
  clear HB' HR'
  obtain ⟨go, hgo⟩ : ∃ go, go = w3.heap.size := ⟨_, rfl⟩
  rw [← hgo] at HO1
  go_upto_region 8 with fail
  rw [← hV3, ← hgo]
  clear hV3 hgo
  have n0 : (n4 != 0) = true := by have := HN.out; simpa using this
  have n1 : ¬ n4 = 0 := HN.out
  have z0 : V3.cell? ⟨g, 0, none⟩ = some (.string ⟨#[]⟩) := (blk_cell HR.out 0).trans rfl
  have z1 : V3.cell? ⟨g, 1, none⟩ = some (.string ⟨#[]⟩) := (blk_cell HR.out 1).trans rfl
  have z2 : V3.cell? ⟨g, 2, none⟩ = some (.string ⟨#[]⟩) := (blk_cell HR.out 2).trans rfl
  have z3 : V3.cell? ⟨g, 3, none⟩ = some (.string ⟨#[]⟩) := (blk_cell HR.out 3).trans rfl
  have z4 : V3.cell? ⟨g, 4, none⟩ = some (.string ⟨#[]⟩) := (blk_cell HR.out 4).trans rfl
  have z5 : V3.cell? ⟨g, 5, none⟩ = some (.string ⟨#[]⟩) := (blk_cell HR.out 5).trans rfl
  have fz0 : V3.frozen? ⟨g, 0, none⟩ = false := blk_frozen HR.out 0
  have fz1 : V3.frozen? ⟨g, 1, none⟩ = false := blk_frozen HR.out 1
  have fz2 : V3.frozen? ⟨g, 2, none⟩ = false := blk_frozen HR.out 2
  have fz3 : V3.frozen? ⟨g, 3, none⟩ = false := blk_frozen HR.out 3
  have fz4 : V3.frozen? ⟨g, 4, none⟩ = false := blk_frozen HR.out 4
  have fz5 : V3.frozen? ⟨g, 5, none⟩ = false := blk_frozen HR.out 5
  go_wp2
  have hf := fin_row HR.out (⟨⟨#[]⟩, ⟨#[]⟩, ⟨#[]⟩, ⟨#[]⟩, ⟨#[]⟩, ⟨#[]⟩⟩ : Tp)
  have hbf := fin_below HGE.out HB.out (⟨⟨#[]⟩, ⟨#[]⟩, ⟨#[]⟩, ⟨#[]⟩, ⟨#[]⟩, ⟨#[]⟩⟩ : Tp)
  dsimp only [rowc] at hf hbf
  generalize hW9 : ((((((V3.setCell ⟨g, 0, none⟩ (.string ⟨#[]⟩)).setCell ⟨g, 1, none⟩ (.string ⟨#[]⟩)).setCell ⟨g, 2, none⟩ (.string ⟨#[]⟩)).setCell ⟨g, 3, none⟩ (.string ⟨#[]⟩)).setCell ⟨g, 4, none⟩ (.string ⟨#[]⟩)).setCell ⟨g, 5, none⟩ (.string ⟨#[]⟩)) = W9 at hf hbf ⊢
  clear hW9
  have d0 := (blk_cell hf 0).trans rfl
  have d1 := (blk_cell hf 1).trans rfl
  have d2 := (blk_cell hf 2).trans rfl
  have d3 := (blk_cell hf 3).trans rfl
  have d4 := (blk_cell hf 4).trans rfl
  have d5 := (blk_cell hf 5).trans rfl
  refine bodyPost_ret (v := .tuple #[tvv (Tp.nil), .int .i64 (n4), .int .i64 (m4)]) (by simp [results, Tryz.results25, go_sem, d0, d1, d2, d3, d4, d5, Tp.nil]) rfl ⟨rfl, hbf⟩
set_option maxRecDepth 20000 in
set_option maxHeartbeats 4000000 in
theorem rparse_C (s : ByteArray) (hs : s.size ≤ 1000000000) (a : Nat) (front : ByteArray) (HA : Aside0 (findP s 64 = (a : Int))) (HFR : Aside0 (s.extract 0 a = front)) (h : Nat) (object relation o1 o2 : ByteArray) (HH : Aside0 (findP front 35 = (h : Int))) (HOB : Aside0 (s.extract 0 h = object)) (HRE : Aside0 (s.extract (h + 1) a = relation)) (HO : Aside0 (parseO object = (o1, o2, none))) (HI : Aside0 (isP relation = false)) (w : World) :
    Calls Tryz.prog 25 #[.string s] w fun e w' => e = .returned (.tuple #[tvv (Tp.nil), .int .i64 (5), .int .i64 ((h : Int) + 1)]) ∧ Below w.heap.size w w' := by
  have HS := Aside0.mk hs
  obtain ⟨W, hW⟩ : ∃ W, W = w.alloc (.cells zc 32) := ⟨_, rfl⟩
  have HB := Aside0.mk (show Below w.heap.size w W from by rw [hW]; exact below_alloc (B0 w) _)
  have HR := Aside0.mk (show W.heap[w.heap.size]? = some (.cells zc 32 (0, 0)) from by rw [hW]; exact blk_new w _)
  obtain ⟨g, hg⟩ : ∃ g, g = w.heap.size := ⟨_, rfl⟩
  rw [← hg] at HR
  have HGE := Aside0.mk (show w.heap.size ≤ g from by omega)
  clear hs
  have a1 : a ≤ s.size := by have := HA.out; have := find_lt (s := s) (c := 64) (by decide); omega
  have a2 : a + 1 ≤ s.size := by have := HA.out; have := find_lt (s := s) (c := 64) (by decide); omega
  have a3 : (a : Int) + 1 ≤ (s.size : Int) := by omega
  have a4 : ¬ ((a : Int) < 0) := by omega
  have a5 : decide ((a : Int) < 0) = false := decide_eq_false (by omega)
  have a6 : 0 ≤ (a : Int) + 1 := by omega
  have a7 : s.size ≤ 1000000000 := HS.out
  have FSZ := Aside0.mk (show front.size = a from by rw [← HFR.out, ByteArray.size_extract]; omega)
  have aw : IntKind.i64.wrap ((a : Int) + 1) = (a : Int) + 1 := by rw [IntKind.wrap_i64]; omega
  have at_ : ((a : Int) + 1).toNat = a + 1 := by omega
  have h1 : h + 1 ≤ a := by have := HH.out; have := find_lt (s := front) (c := 35) (by decide); have := FSZ.out; omega
  have h2 : h ≤ s.size := by omega
  have h3 : (h : Int) + 1 ≤ (a : Int) := by omega
  have h5 : decide ((h : Int) < 0) = false := decide_eq_false (by omega)
  have h6 : 0 ≤ (h : Int) + 1 := by omega
  have hw : IntKind.i64.wrap ((h : Int) + 1) = (h : Int) + 1 := by rw [IntKind.wrap_i64]; omega
  have ht_ : ((h : Int) + 1).toNat = h + 1 := by omega
  go_enter Tryz.func25, Tryz.ntmps25
  go_upto_region 1 with fail
  rw [← hW, ← hg]
  clear hW hg
  go_wp2_with fail
  refine (find_calls s 64 W (by decide) (by have := HS.out; omega)).mono ?_
  rintro e_ w1 ⟨rfl, hb⟩
  rw [HA.out]
  have HB' := Aside0.mk (below_step HB.out hb)
  have HR' := Aside0.mk (blk_below HR.out hb)
  clear HB HR hb
  have HB := HB'
  have HR := HR'
  clear HB' HR'
  go_wp2_with fail
  rw [HFR.out]
  refine (find_calls front 35 w1 (by decide) (by have := FSZ.out; omega)).mono ?_
  rintro e_ w2 ⟨rfl, hb⟩
  rw [HH.out]
  have HB' := Aside0.mk (below_step HB.out hb)
  have HR' := Aside0.mk (blk_below HR.out hb)
  clear HB HR hb
  have HB := HB'
  have HR := HR'
  clear HB' HR'
  go_wp2_with fail
  rw [HOB.out]
  refine (parseO_calls object o1 o2 _ HO.out (by rw [← HOB.out, ByteArray.size_extract]; omega) w2).mono ?_
  rintro e_ w3 ⟨rfl, hb⟩
  dsimp only [ecode, eat]
  have HB' := Aside0.mk (below_step HB.out hb)
  have HR' := Aside0.mk (blk_below HR.out hb)
  clear HB HR hb
  have HB := HB'
  have HR := HR'
  clear HB' HR'
  obtain ⟨V3, hV3⟩ : ∃ V, V = w3.alloc (.cells #[.string o1, .string o2] 30) := ⟨_, rfl⟩
  have HO1 := Aside0.mk (show V3.heap[w3.heap.size]? = some (.cells #[.string o1, .string o2] 30 (0, 0)) from by rw [hV3]; exact blk_new w3 _)
  have hb : Below w3.heap.size w3 V3 := by rw [hV3]; exact below_alloc (B0 w3) _
  have HB' := Aside0.mk (below_step HB.out hb)
  have HR' := Aside0.mk (blk_below HR.out hb)
  clear HB HR hb
  have HB := HB'
  have HR := HR'
  clear HB' HR'
  obtain ⟨go, hgo⟩ : ∃ go, go = w3.heap.size := ⟨_, rfl⟩
  rw [← hgo] at HO1
  go_upto_region 8 with fail
  rw [← hV3, ← hgo]
  clear hV3 hgo
  go_wp2_with fail
  rw [HRE.out]
  refine (is_calls relation V3).mono ?_
  rintro e_ w4 ⟨rfl, hb⟩
  rw [HI.out]
  have HB' := Aside0.mk (below_step HB.out hb)
  have HR' := Aside0.mk (blk_below HR.out hb)
  have HO1' := Aside0.mk (blk_below HO1.out hb)
  clear HB HR HO1 hb
  have HB := HB'
  have HR := HR'
  have HO1 := HO1'
  clear HB' HR' HO1'
  have z0 : w4.cell? ⟨g, 0, none⟩ = some (.string ⟨#[]⟩) := (blk_cell HR.out 0).trans rfl
  have z1 : w4.cell? ⟨g, 1, none⟩ = some (.string ⟨#[]⟩) := (blk_cell HR.out 1).trans rfl
  have z2 : w4.cell? ⟨g, 2, none⟩ = some (.string ⟨#[]⟩) := (blk_cell HR.out 2).trans rfl
  have z3 : w4.cell? ⟨g, 3, none⟩ = some (.string ⟨#[]⟩) := (blk_cell HR.out 3).trans rfl
  have z4 : w4.cell? ⟨g, 4, none⟩ = some (.string ⟨#[]⟩) := (blk_cell HR.out 4).trans rfl
  have z5 : w4.cell? ⟨g, 5, none⟩ = some (.string ⟨#[]⟩) := (blk_cell HR.out 5).trans rfl
  have fz0 : w4.frozen? ⟨g, 0, none⟩ = false := blk_frozen HR.out 0
  have fz1 : w4.frozen? ⟨g, 1, none⟩ = false := blk_frozen HR.out 1
  have fz2 : w4.frozen? ⟨g, 2, none⟩ = false := blk_frozen HR.out 2
  have fz3 : w4.frozen? ⟨g, 3, none⟩ = false := blk_frozen HR.out 3
  have fz4 : w4.frozen? ⟨g, 4, none⟩ = false := blk_frozen HR.out 4
  have fz5 : w4.frozen? ⟨g, 5, none⟩ = false := blk_frozen HR.out 5
  go_wp2
  have hf := fin_row HR.out (⟨⟨#[]⟩, ⟨#[]⟩, ⟨#[]⟩, ⟨#[]⟩, ⟨#[]⟩, ⟨#[]⟩⟩ : Tp)
  have hbf := fin_below HGE.out HB.out (⟨⟨#[]⟩, ⟨#[]⟩, ⟨#[]⟩, ⟨#[]⟩, ⟨#[]⟩, ⟨#[]⟩⟩ : Tp)
  dsimp only [rowc] at hf hbf
  generalize hW9 : ((((((w4.setCell ⟨g, 0, none⟩ (.string ⟨#[]⟩)).setCell ⟨g, 1, none⟩ (.string ⟨#[]⟩)).setCell ⟨g, 2, none⟩ (.string ⟨#[]⟩)).setCell ⟨g, 3, none⟩ (.string ⟨#[]⟩)).setCell ⟨g, 4, none⟩ (.string ⟨#[]⟩)).setCell ⟨g, 5, none⟩ (.string ⟨#[]⟩)) = W9 at hf hbf ⊢
  clear hW9
  have d0 := (blk_cell hf 0).trans rfl
  have d1 := (blk_cell hf 1).trans rfl
  have d2 := (blk_cell hf 2).trans rfl
  have d3 := (blk_cell hf 3).trans rfl
  have d4 := (blk_cell hf 4).trans rfl
  have d5 := (blk_cell hf 5).trans rfl
  refine bodyPost_ret (v := .tuple #[tvv (Tp.nil), .int .i64 (5), .int .i64 ((h : Int) + 1)]) (by simp [results, Tryz.results25, go_sem, d0, d1, d2, d3, d4, d5, Tp.nil]) rfl ⟨rfl, hbf⟩
set_option maxRecDepth 20000 in
set_option maxHeartbeats 4000000 in
theorem rparse_Dn (s : ByteArray) (hs : s.size ≤ 1000000000) (a : Nat) (front : ByteArray) (HA : Aside0 (findP s 64 = (a : Int))) (HFR : Aside0 (s.extract 0 a = front)) (h : Nat) (object relation o1 o2 : ByteArray) (HH : Aside0 (findP front 35 = (h : Int))) (HOB : Aside0 (s.extract 0 h = object)) (HRE : Aside0 (s.extract (h + 1) a = relation)) (HO : Aside0 (parseO object = (o1, o2, none))) (HI : Aside0 (isP relation = true)) (rest : ByteArray) (HRS : Aside0 (s.extract (a + 1) s.size = rest)) (subject u1 u2 : ByteArray) (HK : Aside0 (findP rest 35 = -1)) (HSU : Aside0 (rest = subject)) (n6 m6 : Int) (HN : Aside0 (n6 ≠ 0)) (HE : Aside0 (-4611686018427387904 ≤ m6 ∧ m6 ≤ 4611686018427387903)) (HU : Aside0 (parseO subject = (u1, u2, some (n6, m6)))) (w : World) :
    Calls Tryz.prog 25 #[.string s] w fun e w' => e = .returned (.tuple #[tvv (Tp.nil), .int .i64 (n6), .int .i64 ((a : Int) + 1 + m6)]) ∧ Below w.heap.size w w' := by
  have HS := Aside0.mk hs
  obtain ⟨W, hW⟩ : ∃ W, W = w.alloc (.cells zc 32) := ⟨_, rfl⟩
  have HB := Aside0.mk (show Below w.heap.size w W from by rw [hW]; exact below_alloc (B0 w) _)
  have HR := Aside0.mk (show W.heap[w.heap.size]? = some (.cells zc 32 (0, 0)) from by rw [hW]; exact blk_new w _)
  obtain ⟨g, hg⟩ : ∃ g, g = w.heap.size := ⟨_, rfl⟩
  rw [← hg] at HR
  have HGE := Aside0.mk (show w.heap.size ≤ g from by omega)
  clear hs
  have a1 : a ≤ s.size := by have := HA.out; have := find_lt (s := s) (c := 64) (by decide); omega
  have a2 : a + 1 ≤ s.size := by have := HA.out; have := find_lt (s := s) (c := 64) (by decide); omega
  have a3 : (a : Int) + 1 ≤ (s.size : Int) := by omega
  have a4 : ¬ ((a : Int) < 0) := by omega
  have a5 : decide ((a : Int) < 0) = false := decide_eq_false (by omega)
  have a6 : 0 ≤ (a : Int) + 1 := by omega
  have a7 : s.size ≤ 1000000000 := HS.out
  have FSZ := Aside0.mk (show front.size = a from by rw [← HFR.out, ByteArray.size_extract]; omega)
  have aw : IntKind.i64.wrap ((a : Int) + 1) = (a : Int) + 1 := by rw [IntKind.wrap_i64]; omega
  have at_ : ((a : Int) + 1).toNat = a + 1 := by omega
  have h1 : h + 1 ≤ a := by have := HH.out; have := find_lt (s := front) (c := 35) (by decide); have := FSZ.out; omega
  have h2 : h ≤ s.size := by omega
  have h3 : (h : Int) + 1 ≤ (a : Int) := by omega
  have h5 : decide ((h : Int) < 0) = false := decide_eq_false (by omega)
  have h6 : 0 ≤ (h : Int) + 1 := by omega
  have hw : IntKind.i64.wrap ((h : Int) + 1) = (h : Int) + 1 := by rw [IntKind.wrap_i64]; omega
  have ht_ : ((h : Int) + 1).toNat = h + 1 := by omega
  go_enter Tryz.func25, Tryz.ntmps25
  go_upto_region 1 with fail
  rw [← hW, ← hg]
  clear hW hg
  go_wp2_with fail
  refine (find_calls s 64 W (by decide) (by have := HS.out; omega)).mono ?_
  rintro e_ w1 ⟨rfl, hb⟩
  rw [HA.out]
  have HB' := Aside0.mk (below_step HB.out hb)
  have HR' := Aside0.mk (blk_below HR.out hb)
  clear HB HR hb
  have HB := HB'
  have HR := HR'
  clear HB' HR'
  go_wp2_with fail
  rw [HFR.out]
  refine (find_calls front 35 w1 (by decide) (by have := FSZ.out; omega)).mono ?_
  rintro e_ w2 ⟨rfl, hb⟩
  rw [HH.out]
  have HB' := Aside0.mk (below_step HB.out hb)
  have HR' := Aside0.mk (blk_below HR.out hb)
  clear HB HR hb
  have HB := HB'
  have HR := HR'
  clear HB' HR'
  go_wp2_with fail
  rw [HOB.out]
  refine (parseO_calls object o1 o2 _ HO.out (by rw [← HOB.out, ByteArray.size_extract]; omega) w2).mono ?_
  rintro e_ w3 ⟨rfl, hb⟩
  dsimp only [ecode, eat]
  have HB' := Aside0.mk (below_step HB.out hb)
  have HR' := Aside0.mk (blk_below HR.out hb)
  clear HB HR hb
  have HB := HB'
  have HR := HR'
  clear HB' HR'
  obtain ⟨V3, hV3⟩ : ∃ V, V = w3.alloc (.cells #[.string o1, .string o2] 30) := ⟨_, rfl⟩
  have HO1 := Aside0.mk (show V3.heap[w3.heap.size]? = some (.cells #[.string o1, .string o2] 30 (0, 0)) from by rw [hV3]; exact blk_new w3 _)
  have hb : Below w3.heap.size w3 V3 := by rw [hV3]; exact below_alloc (B0 w3) _
  have HB' := Aside0.mk (below_step HB.out hb)
  have HR' := Aside0.mk (blk_below HR.out hb)
  clear HB HR hb
  have HB := HB'
  have HR := HR'
  clear HB' HR'
  obtain ⟨go, hgo⟩ : ∃ go, go = w3.heap.size := ⟨_, rfl⟩
  rw [← hgo] at HO1
  go_upto_region 8 with fail
  rw [← hV3, ← hgo]
  clear hV3 hgo
  go_wp2_with fail
  rw [HRE.out]
  refine (is_calls relation V3).mono ?_
  rintro e_ w4 ⟨rfl, hb⟩
  rw [HI.out]
  have HB' := Aside0.mk (below_step HB.out hb)
  have HR' := Aside0.mk (blk_below HR.out hb)
  have HO1' := Aside0.mk (blk_below HO1.out hb)
  clear HB HR HO1 hb
  have HB := HB'
  have HR := HR'
  have HO1 := HO1'
  clear HB' HR' HO1'
  have RSZ := Aside0.mk (show rest.size ≤ 1000000000 from by rw [← HRS.out, ByteArray.size_extract]; omega)
  go_wp2_with fail
  rw [HRS.out]
  refine (find_calls rest 35 w4 (by decide) (by have := RSZ.out; omega)).mono ?_
  rintro e_ w5 ⟨rfl, hb⟩
  rw [HK.out]
  have HB' := Aside0.mk (below_step HB.out hb)
  have HR' := Aside0.mk (blk_below HR.out hb)
  have HO1' := Aside0.mk (blk_below HO1.out hb)
  clear HB HR HO1 hb
  have HB := HB'
  have HR := HR'
  have HO1 := HO1'
  clear HB' HR' HO1'
  go_wp2_with fail
  rw [HSU.out]
  refine (parseO_calls subject u1 u2 _ HU.out (by rw [← HSU.out]; have := RSZ.out; omega) w5).mono ?_
  rintro e_ w6 ⟨rfl, hb⟩
  dsimp only [ecode, eat]
  have HB' := Aside0.mk (below_step HB.out hb)
  have HR' := Aside0.mk (blk_below HR.out hb)
  have HO1' := Aside0.mk (blk_below HO1.out hb)
  clear HB HR HO1 hb
  have HB := HB'
  have HR := HR'
  have HO1 := HO1'
  clear HB' HR' HO1'
  obtain ⟨V6, hV6⟩ : ∃ V, V = w6.alloc (.cells #[.string u1, .string u2] 30) := ⟨_, rfl⟩
  have HU1 := Aside0.mk (show V6.heap[w6.heap.size]? = some (.cells #[.string u1, .string u2] 30 (0, 0)) from by rw [hV6]; exact blk_new w6 _)
  have hb : Below w6.heap.size w6 V6 := by rw [hV6]; exact below_alloc (B0 w6) _
  have HB' := Aside0.mk (below_step HB.out hb)
  have HR' := Aside0.mk (blk_below HR.out hb)
  have HO1' := Aside0.mk (blk_below HO1.out hb)
  clear HB HR HO1 hb
  have HB := HB'
  have HR := HR'
  have HO1 := HO1'
  clear HB' HR' HO1'
  obtain ⟨gu, hgu⟩ : ∃ gu, gu = w6.heap.size := ⟨_, rfl⟩
  rw [← hgu] at HU1
  go_upto_region 18 with fail
  rw [← hV6, ← hgu]
  clear hV6 hgu
  have n0 : (n6 != 0) = true := by have := HN.out; simpa using this
  have n1 : ¬ n6 = 0 := HN.out
  have hmw : IntKind.i64.wrap ((a : Int) + 1 + m6) = (a : Int) + 1 + m6 := by rw [IntKind.wrap_i64]; have := HE.out; omega
  have z0 : V6.cell? ⟨g, 0, none⟩ = some (.string ⟨#[]⟩) := (blk_cell HR.out 0).trans rfl
  have z1 : V6.cell? ⟨g, 1, none⟩ = some (.string ⟨#[]⟩) := (blk_cell HR.out 1).trans rfl
  have z2 : V6.cell? ⟨g, 2, none⟩ = some (.string ⟨#[]⟩) := (blk_cell HR.out 2).trans rfl
  have z3 : V6.cell? ⟨g, 3, none⟩ = some (.string ⟨#[]⟩) := (blk_cell HR.out 3).trans rfl
  have z4 : V6.cell? ⟨g, 4, none⟩ = some (.string ⟨#[]⟩) := (blk_cell HR.out 4).trans rfl
  have z5 : V6.cell? ⟨g, 5, none⟩ = some (.string ⟨#[]⟩) := (blk_cell HR.out 5).trans rfl
  have fz0 : V6.frozen? ⟨g, 0, none⟩ = false := blk_frozen HR.out 0
  have fz1 : V6.frozen? ⟨g, 1, none⟩ = false := blk_frozen HR.out 1
  have fz2 : V6.frozen? ⟨g, 2, none⟩ = false := blk_frozen HR.out 2
  have fz3 : V6.frozen? ⟨g, 3, none⟩ = false := blk_frozen HR.out 3
  have fz4 : V6.frozen? ⟨g, 4, none⟩ = false := blk_frozen HR.out 4
  have fz5 : V6.frozen? ⟨g, 5, none⟩ = false := blk_frozen HR.out 5
  go_wp2
  have hf := fin_row HR.out (⟨⟨#[]⟩, ⟨#[]⟩, ⟨#[]⟩, ⟨#[]⟩, ⟨#[]⟩, ⟨#[]⟩⟩ : Tp)
  have hbf := fin_below HGE.out HB.out (⟨⟨#[]⟩, ⟨#[]⟩, ⟨#[]⟩, ⟨#[]⟩, ⟨#[]⟩, ⟨#[]⟩⟩ : Tp)
  dsimp only [rowc] at hf hbf
  generalize hW9 : ((((((V6.setCell ⟨g, 0, none⟩ (.string ⟨#[]⟩)).setCell ⟨g, 1, none⟩ (.string ⟨#[]⟩)).setCell ⟨g, 2, none⟩ (.string ⟨#[]⟩)).setCell ⟨g, 3, none⟩ (.string ⟨#[]⟩)).setCell ⟨g, 4, none⟩ (.string ⟨#[]⟩)).setCell ⟨g, 5, none⟩ (.string ⟨#[]⟩)) = W9 at hf hbf ⊢
  clear hW9
  have d0 := (blk_cell hf 0).trans rfl
  have d1 := (blk_cell hf 1).trans rfl
  have d2 := (blk_cell hf 2).trans rfl
  have d3 := (blk_cell hf 3).trans rfl
  have d4 := (blk_cell hf 4).trans rfl
  have d5 := (blk_cell hf 5).trans rfl
  refine bodyPost_ret (v := .tuple #[tvv (Tp.nil), .int .i64 (n6), .int .i64 ((a : Int) + 1 + m6)]) (by simp [results, Tryz.results25, go_sem, d0, d1, d2, d3, d4, d5, Tp.nil]) rfl ⟨rfl, hbf⟩
set_option maxRecDepth 20000 in
set_option maxHeartbeats 4000000 in
theorem rparse_Dk (s : ByteArray) (hs : s.size ≤ 1000000000) (a : Nat) (front : ByteArray) (HA : Aside0 (findP s 64 = (a : Int))) (HFR : Aside0 (s.extract 0 a = front)) (h : Nat) (object relation o1 o2 : ByteArray) (HH : Aside0 (findP front 35 = (h : Int))) (HOB : Aside0 (s.extract 0 h = object)) (HRE : Aside0 (s.extract (h + 1) a = relation)) (HO : Aside0 (parseO object = (o1, o2, none))) (HI : Aside0 (isP relation = true)) (rest : ByteArray) (HRS : Aside0 (s.extract (a + 1) s.size = rest)) (subject u1 u2 : ByteArray) (k : Nat) (userset : ByteArray) (HK : Aside0 (findP rest 35 = (k : Int))) (HSU : Aside0 (rest.extract 0 k = subject)) (HUS : Aside0 (rest.extract (k + 1) rest.size = userset)) (n6 m6 : Int) (HN : Aside0 (n6 ≠ 0)) (HE : Aside0 (-4611686018427387904 ≤ m6 ∧ m6 ≤ 4611686018427387903)) (HU : Aside0 (parseO subject = (u1, u2, some (n6, m6)))) (w : World) :
    Calls Tryz.prog 25 #[.string s] w fun e w' => e = .returned (.tuple #[tvv (Tp.nil), .int .i64 (n6), .int .i64 ((a : Int) + 1 + m6)]) ∧ Below w.heap.size w w' := by
  have HS := Aside0.mk hs
  obtain ⟨W, hW⟩ : ∃ W, W = w.alloc (.cells zc 32) := ⟨_, rfl⟩
  have HB := Aside0.mk (show Below w.heap.size w W from by rw [hW]; exact below_alloc (B0 w) _)
  have HR := Aside0.mk (show W.heap[w.heap.size]? = some (.cells zc 32 (0, 0)) from by rw [hW]; exact blk_new w _)
  obtain ⟨g, hg⟩ : ∃ g, g = w.heap.size := ⟨_, rfl⟩
  rw [← hg] at HR
  have HGE := Aside0.mk (show w.heap.size ≤ g from by omega)
  clear hs
  have a1 : a ≤ s.size := by have := HA.out; have := find_lt (s := s) (c := 64) (by decide); omega
  have a2 : a + 1 ≤ s.size := by have := HA.out; have := find_lt (s := s) (c := 64) (by decide); omega
  have a3 : (a : Int) + 1 ≤ (s.size : Int) := by omega
  have a4 : ¬ ((a : Int) < 0) := by omega
  have a5 : decide ((a : Int) < 0) = false := decide_eq_false (by omega)
  have a6 : 0 ≤ (a : Int) + 1 := by omega
  have a7 : s.size ≤ 1000000000 := HS.out
  have FSZ := Aside0.mk (show front.size = a from by rw [← HFR.out, ByteArray.size_extract]; omega)
  have aw : IntKind.i64.wrap ((a : Int) + 1) = (a : Int) + 1 := by rw [IntKind.wrap_i64]; omega
  have at_ : ((a : Int) + 1).toNat = a + 1 := by omega
  have h1 : h + 1 ≤ a := by have := HH.out; have := find_lt (s := front) (c := 35) (by decide); have := FSZ.out; omega
  have h2 : h ≤ s.size := by omega
  have h3 : (h : Int) + 1 ≤ (a : Int) := by omega
  have h5 : decide ((h : Int) < 0) = false := decide_eq_false (by omega)
  have h6 : 0 ≤ (h : Int) + 1 := by omega
  have hw : IntKind.i64.wrap ((h : Int) + 1) = (h : Int) + 1 := by rw [IntKind.wrap_i64]; omega
  have ht_ : ((h : Int) + 1).toNat = h + 1 := by omega
  go_enter Tryz.func25, Tryz.ntmps25
  go_upto_region 1 with fail
  rw [← hW, ← hg]
  clear hW hg
  go_wp2_with fail
  refine (find_calls s 64 W (by decide) (by have := HS.out; omega)).mono ?_
  rintro e_ w1 ⟨rfl, hb⟩
  rw [HA.out]
  have HB' := Aside0.mk (below_step HB.out hb)
  have HR' := Aside0.mk (blk_below HR.out hb)
  clear HB HR hb
  have HB := HB'
  have HR := HR'
  clear HB' HR'
  go_wp2_with fail
  rw [HFR.out]
  refine (find_calls front 35 w1 (by decide) (by have := FSZ.out; omega)).mono ?_
  rintro e_ w2 ⟨rfl, hb⟩
  rw [HH.out]
  have HB' := Aside0.mk (below_step HB.out hb)
  have HR' := Aside0.mk (blk_below HR.out hb)
  clear HB HR hb
  have HB := HB'
  have HR := HR'
  clear HB' HR'
  go_wp2_with fail
  rw [HOB.out]
  refine (parseO_calls object o1 o2 _ HO.out (by rw [← HOB.out, ByteArray.size_extract]; omega) w2).mono ?_
  rintro e_ w3 ⟨rfl, hb⟩
  dsimp only [ecode, eat]
  have HB' := Aside0.mk (below_step HB.out hb)
  have HR' := Aside0.mk (blk_below HR.out hb)
  clear HB HR hb
  have HB := HB'
  have HR := HR'
  clear HB' HR'
  obtain ⟨V3, hV3⟩ : ∃ V, V = w3.alloc (.cells #[.string o1, .string o2] 30) := ⟨_, rfl⟩
  have HO1 := Aside0.mk (show V3.heap[w3.heap.size]? = some (.cells #[.string o1, .string o2] 30 (0, 0)) from by rw [hV3]; exact blk_new w3 _)
  have hb : Below w3.heap.size w3 V3 := by rw [hV3]; exact below_alloc (B0 w3) _
  have HB' := Aside0.mk (below_step HB.out hb)
  have HR' := Aside0.mk (blk_below HR.out hb)
  clear HB HR hb
  have HB := HB'
  have HR := HR'
  clear HB' HR'
  obtain ⟨go, hgo⟩ : ∃ go, go = w3.heap.size := ⟨_, rfl⟩
  rw [← hgo] at HO1
  go_upto_region 8 with fail
  rw [← hV3, ← hgo]
  clear hV3 hgo
  go_wp2_with fail
  rw [HRE.out]
  refine (is_calls relation V3).mono ?_
  rintro e_ w4 ⟨rfl, hb⟩
  rw [HI.out]
  have HB' := Aside0.mk (below_step HB.out hb)
  have HR' := Aside0.mk (blk_below HR.out hb)
  have HO1' := Aside0.mk (blk_below HO1.out hb)
  clear HB HR HO1 hb
  have HB := HB'
  have HR := HR'
  have HO1 := HO1'
  clear HB' HR' HO1'
  have RSZ := Aside0.mk (show rest.size ≤ 1000000000 from by rw [← HRS.out, ByteArray.size_extract]; omega)
  go_wp2_with fail
  rw [HRS.out]
  refine (find_calls rest 35 w4 (by decide) (by have := RSZ.out; omega)).mono ?_
  rintro e_ w5 ⟨rfl, hb⟩
  rw [HK.out]
  have HB' := Aside0.mk (below_step HB.out hb)
  have HR' := Aside0.mk (blk_below HR.out hb)
  have HO1' := Aside0.mk (blk_below HO1.out hb)
  clear HB HR HO1 hb
  have HB := HB'
  have HR := HR'
  have HO1 := HO1'
  clear HB' HR' HO1'
  have k1 : k + 1 ≤ rest.size := by have := HK.out; have := find_lt (s := rest) (c := 35) (by decide); omega
  have k2 : k ≤ rest.size := by omega
  have k3 : (k : Int) + 1 ≤ (rest.size : Int) := by omega
  have k5 : decide ((k : Int) < 0) = false := decide_eq_false (by omega)
  have k6 : 0 ≤ (k : Int) + 1 := by omega
  have k7 : rest.size ≤ 1000000000 := RSZ.out
  have kw : IntKind.i64.wrap ((k : Int) + 1) = (k : Int) + 1 := by rw [IntKind.wrap_i64]; omega
  have kt_ : ((k : Int) + 1).toNat = k + 1 := by omega
  go_wp2_with fail
  rw [HSU.out]
  refine (parseO_calls subject u1 u2 _ HU.out (by rw [← HSU.out]; have := RSZ.out; rw [ByteArray.size_extract]; omega) w5).mono ?_
  rintro e_ w6 ⟨rfl, hb⟩
  dsimp only [ecode, eat]
  have HB' := Aside0.mk (below_step HB.out hb)
  have HR' := Aside0.mk (blk_below HR.out hb)
  have HO1' := Aside0.mk (blk_below HO1.out hb)
  clear HB HR HO1 hb
  have HB := HB'
  have HR := HR'
  have HO1 := HO1'
  clear HB' HR' HO1'
  obtain ⟨V6, hV6⟩ : ∃ V, V = w6.alloc (.cells #[.string u1, .string u2] 30) := ⟨_, rfl⟩
  have HU1 := Aside0.mk (show V6.heap[w6.heap.size]? = some (.cells #[.string u1, .string u2] 30 (0, 0)) from by rw [hV6]; exact blk_new w6 _)
  have hb : Below w6.heap.size w6 V6 := by rw [hV6]; exact below_alloc (B0 w6) _
  have HB' := Aside0.mk (below_step HB.out hb)
  have HR' := Aside0.mk (blk_below HR.out hb)
  have HO1' := Aside0.mk (blk_below HO1.out hb)
  clear HB HR HO1 hb
  have HB := HB'
  have HR := HR'
  have HO1 := HO1'
  clear HB' HR' HO1'
  obtain ⟨gu, hgu⟩ : ∃ gu, gu = w6.heap.size := ⟨_, rfl⟩
  rw [← hgu] at HU1
  go_upto_region 18 with fail
  rw [← hV6, ← hgu]
  clear hV6 hgu
  have n0 : (n6 != 0) = true := by have := HN.out; simpa using this
  have n1 : ¬ n6 = 0 := HN.out
  have hmw : IntKind.i64.wrap ((a : Int) + 1 + m6) = (a : Int) + 1 + m6 := by rw [IntKind.wrap_i64]; have := HE.out; omega
  have z0 : V6.cell? ⟨g, 0, none⟩ = some (.string ⟨#[]⟩) := (blk_cell HR.out 0).trans rfl
  have z1 : V6.cell? ⟨g, 1, none⟩ = some (.string ⟨#[]⟩) := (blk_cell HR.out 1).trans rfl
  have z2 : V6.cell? ⟨g, 2, none⟩ = some (.string ⟨#[]⟩) := (blk_cell HR.out 2).trans rfl
  have z3 : V6.cell? ⟨g, 3, none⟩ = some (.string ⟨#[]⟩) := (blk_cell HR.out 3).trans rfl
  have z4 : V6.cell? ⟨g, 4, none⟩ = some (.string ⟨#[]⟩) := (blk_cell HR.out 4).trans rfl
  have z5 : V6.cell? ⟨g, 5, none⟩ = some (.string ⟨#[]⟩) := (blk_cell HR.out 5).trans rfl
  have fz0 : V6.frozen? ⟨g, 0, none⟩ = false := blk_frozen HR.out 0
  have fz1 : V6.frozen? ⟨g, 1, none⟩ = false := blk_frozen HR.out 1
  have fz2 : V6.frozen? ⟨g, 2, none⟩ = false := blk_frozen HR.out 2
  have fz3 : V6.frozen? ⟨g, 3, none⟩ = false := blk_frozen HR.out 3
  have fz4 : V6.frozen? ⟨g, 4, none⟩ = false := blk_frozen HR.out 4
  have fz5 : V6.frozen? ⟨g, 5, none⟩ = false := blk_frozen HR.out 5
  go_wp2
  have hf := fin_row HR.out (⟨⟨#[]⟩, ⟨#[]⟩, ⟨#[]⟩, ⟨#[]⟩, ⟨#[]⟩, ⟨#[]⟩⟩ : Tp)
  have hbf := fin_below HGE.out HB.out (⟨⟨#[]⟩, ⟨#[]⟩, ⟨#[]⟩, ⟨#[]⟩, ⟨#[]⟩, ⟨#[]⟩⟩ : Tp)
  dsimp only [rowc] at hf hbf
  generalize hW9 : ((((((V6.setCell ⟨g, 0, none⟩ (.string ⟨#[]⟩)).setCell ⟨g, 1, none⟩ (.string ⟨#[]⟩)).setCell ⟨g, 2, none⟩ (.string ⟨#[]⟩)).setCell ⟨g, 3, none⟩ (.string ⟨#[]⟩)).setCell ⟨g, 4, none⟩ (.string ⟨#[]⟩)).setCell ⟨g, 5, none⟩ (.string ⟨#[]⟩)) = W9 at hf hbf ⊢
  clear hW9
  have d0 := (blk_cell hf 0).trans rfl
  have d1 := (blk_cell hf 1).trans rfl
  have d2 := (blk_cell hf 2).trans rfl
  have d3 := (blk_cell hf 3).trans rfl
  have d4 := (blk_cell hf 4).trans rfl
  have d5 := (blk_cell hf 5).trans rfl
  refine bodyPost_ret (v := .tuple #[tvv (Tp.nil), .int .i64 (n6), .int .i64 ((a : Int) + 1 + m6)]) (by simp [results, Tryz.results25, go_sem, d0, d1, d2, d3, d4, d5, Tp.nil]) rfl ⟨rfl, hbf⟩
set_option maxRecDepth 20000 in
set_option maxHeartbeats 4000000 in
theorem rparse_Fn (s : ByteArray) (hs : s.size ≤ 1000000000) (a : Nat) (front : ByteArray) (HA : Aside0 (findP s 64 = (a : Int))) (HFR : Aside0 (s.extract 0 a = front)) (h : Nat) (object relation o1 o2 : ByteArray) (HH : Aside0 (findP front 35 = (h : Int))) (HOB : Aside0 (s.extract 0 h = object)) (HRE : Aside0 (s.extract (h + 1) a = relation)) (HO : Aside0 (parseO object = (o1, o2, none))) (HI : Aside0 (isP relation = true)) (rest : ByteArray) (HRS : Aside0 (s.extract (a + 1) s.size = rest)) (subject u1 u2 : ByteArray) (HK : Aside0 (findP rest 35 = -1)) (HSU : Aside0 (rest = subject)) (HU : Aside0 (parseO subject = (u1, u2, none))) (w : World) :
    Calls Tryz.prog 25 #[.string s] w fun e w' => e = .returned (.tuple #[tvv (⟨o1, o2, relation, u1, u2, ⟨#[]⟩⟩), .int .i64 (0), .int .i64 (0)]) ∧ Below w.heap.size w w' := by
  have HS := Aside0.mk hs
  obtain ⟨W, hW⟩ : ∃ W, W = w.alloc (.cells zc 32) := ⟨_, rfl⟩
  have HB := Aside0.mk (show Below w.heap.size w W from by rw [hW]; exact below_alloc (B0 w) _)
  have HR := Aside0.mk (show W.heap[w.heap.size]? = some (.cells zc 32 (0, 0)) from by rw [hW]; exact blk_new w _)
  obtain ⟨g, hg⟩ : ∃ g, g = w.heap.size := ⟨_, rfl⟩
  rw [← hg] at HR
  have HGE := Aside0.mk (show w.heap.size ≤ g from by omega)
  clear hs
  have a1 : a ≤ s.size := by have := HA.out; have := find_lt (s := s) (c := 64) (by decide); omega
  have a2 : a + 1 ≤ s.size := by have := HA.out; have := find_lt (s := s) (c := 64) (by decide); omega
  have a3 : (a : Int) + 1 ≤ (s.size : Int) := by omega
  have a4 : ¬ ((a : Int) < 0) := by omega
  have a5 : decide ((a : Int) < 0) = false := decide_eq_false (by omega)
  have a6 : 0 ≤ (a : Int) + 1 := by omega
  have a7 : s.size ≤ 1000000000 := HS.out
  have FSZ := Aside0.mk (show front.size = a from by rw [← HFR.out, ByteArray.size_extract]; omega)
  have aw : IntKind.i64.wrap ((a : Int) + 1) = (a : Int) + 1 := by rw [IntKind.wrap_i64]; omega
  have at_ : ((a : Int) + 1).toNat = a + 1 := by omega
  have h1 : h + 1 ≤ a := by have := HH.out; have := find_lt (s := front) (c := 35) (by decide); have := FSZ.out; omega
  have h2 : h ≤ s.size := by omega
  have h3 : (h : Int) + 1 ≤ (a : Int) := by omega
  have h5 : decide ((h : Int) < 0) = false := decide_eq_false (by omega)
  have h6 : 0 ≤ (h : Int) + 1 := by omega
  have hw : IntKind.i64.wrap ((h : Int) + 1) = (h : Int) + 1 := by rw [IntKind.wrap_i64]; omega
  have ht_ : ((h : Int) + 1).toNat = h + 1 := by omega
  go_enter Tryz.func25, Tryz.ntmps25
  go_upto_region 1 with fail
  rw [← hW, ← hg]
  clear hW hg
  go_wp2_with fail
  refine (find_calls s 64 W (by decide) (by have := HS.out; omega)).mono ?_
  rintro e_ w1 ⟨rfl, hb⟩
  rw [HA.out]
  have HB' := Aside0.mk (below_step HB.out hb)
  have HR' := Aside0.mk (blk_below HR.out hb)
  clear HB HR hb
  have HB := HB'
  have HR := HR'
  clear HB' HR'
  go_wp2_with fail
  rw [HFR.out]
  refine (find_calls front 35 w1 (by decide) (by have := FSZ.out; omega)).mono ?_
  rintro e_ w2 ⟨rfl, hb⟩
  rw [HH.out]
  have HB' := Aside0.mk (below_step HB.out hb)
  have HR' := Aside0.mk (blk_below HR.out hb)
  clear HB HR hb
  have HB := HB'
  have HR := HR'
  clear HB' HR'
  go_wp2_with fail
  rw [HOB.out]
  refine (parseO_calls object o1 o2 _ HO.out (by rw [← HOB.out, ByteArray.size_extract]; omega) w2).mono ?_
  rintro e_ w3 ⟨rfl, hb⟩
  dsimp only [ecode, eat]
  have HB' := Aside0.mk (below_step HB.out hb)
  have HR' := Aside0.mk (blk_below HR.out hb)
  clear HB HR hb
  have HB := HB'
  have HR := HR'
  clear HB' HR'
  obtain ⟨V3, hV3⟩ : ∃ V, V = w3.alloc (.cells #[.string o1, .string o2] 30) := ⟨_, rfl⟩
  have HO1 := Aside0.mk (show V3.heap[w3.heap.size]? = some (.cells #[.string o1, .string o2] 30 (0, 0)) from by rw [hV3]; exact blk_new w3 _)
  have hb : Below w3.heap.size w3 V3 := by rw [hV3]; exact below_alloc (B0 w3) _
  have HB' := Aside0.mk (below_step HB.out hb)
  have HR' := Aside0.mk (blk_below HR.out hb)
  clear HB HR hb
  have HB := HB'
  have HR := HR'
  clear HB' HR'
  obtain ⟨go, hgo⟩ : ∃ go, go = w3.heap.size := ⟨_, rfl⟩
  rw [← hgo] at HO1
  go_upto_region 8 with fail
  rw [← hV3, ← hgo]
  clear hV3 hgo
  go_wp2_with fail
  rw [HRE.out]
  refine (is_calls relation V3).mono ?_
  rintro e_ w4 ⟨rfl, hb⟩
  rw [HI.out]
  have HB' := Aside0.mk (below_step HB.out hb)
  have HR' := Aside0.mk (blk_below HR.out hb)
  have HO1' := Aside0.mk (blk_below HO1.out hb)
  clear HB HR HO1 hb
  have HB := HB'
  have HR := HR'
  have HO1 := HO1'
  clear HB' HR' HO1'
  have RSZ := Aside0.mk (show rest.size ≤ 1000000000 from by rw [← HRS.out, ByteArray.size_extract]; omega)
  go_wp2_with fail
  rw [HRS.out]
  refine (find_calls rest 35 w4 (by decide) (by have := RSZ.out; omega)).mono ?_
  rintro e_ w5 ⟨rfl, hb⟩
  rw [HK.out]
  have HB' := Aside0.mk (below_step HB.out hb)
  have HR' := Aside0.mk (blk_below HR.out hb)
  have HO1' := Aside0.mk (blk_below HO1.out hb)
  clear HB HR HO1 hb
  have HB := HB'
  have HR := HR'
  have HO1 := HO1'
  clear HB' HR' HO1'
  go_wp2_with fail
  rw [HSU.out]
  refine (parseO_calls subject u1 u2 _ HU.out (by rw [← HSU.out]; have := RSZ.out; omega) w5).mono ?_
  rintro e_ w6 ⟨rfl, hb⟩
  dsimp only [ecode, eat]
  have HB' := Aside0.mk (below_step HB.out hb)
  have HR' := Aside0.mk (blk_below HR.out hb)
  have HO1' := Aside0.mk (blk_below HO1.out hb)
  clear HB HR HO1 hb
  have HB := HB'
  have HR := HR'
  have HO1 := HO1'
  clear HB' HR' HO1'
  obtain ⟨V6, hV6⟩ : ∃ V, V = w6.alloc (.cells #[.string u1, .string u2] 30) := ⟨_, rfl⟩
  have HU1 := Aside0.mk (show V6.heap[w6.heap.size]? = some (.cells #[.string u1, .string u2] 30 (0, 0)) from by rw [hV6]; exact blk_new w6 _)
  have hb : Below w6.heap.size w6 V6 := by rw [hV6]; exact below_alloc (B0 w6) _
  have HB' := Aside0.mk (below_step HB.out hb)
  have HR' := Aside0.mk (blk_below HR.out hb)
  have HO1' := Aside0.mk (blk_below HO1.out hb)
  clear HB HR HO1 hb
  have HB := HB'
  have HR := HR'
  have HO1 := HO1'
  clear HB' HR' HO1'
  obtain ⟨gu, hgu⟩ : ∃ gu, gu = w6.heap.size := ⟨_, rfl⟩
  rw [← hgu] at HU1
  go_upto_region 18 with fail
  rw [← hV6, ← hgu]
  clear hV6 hgu
  have q0 : V6.cell? ⟨go, 0, none⟩ = some (.string o1) := (blk_cell HO1.out 0).trans rfl
  have q1 : V6.cell? ⟨go, 1, none⟩ = some (.string o2) := (blk_cell HO1.out 1).trans rfl
  have q2 : V6.cell? ⟨gu, 0, none⟩ = some (.string u1) := (blk_cell HU1.out 0).trans rfl
  have q3 : V6.cell? ⟨gu, 1, none⟩ = some (.string u2) := (blk_cell HU1.out 1).trans rfl
  have HB0 := Aside0.mk HB.out.size
  have HR6 := Aside0.mk HR.out
  have lo : go < V6.heap.size := blk_lt HO1.out
  have lu : gu < V6.heap.size := blk_lt HU1.out
  have lo' : ¬ go = V6.heap.size := by omega
  have lu' : ¬ gu = V6.heap.size := by omega
  go_upto_region 20 with fail
  go_region
  rw [HRE.out]
  clear lo lu lo' lu' q0 q1 q2 q3
  obtain ⟨V7, hV7⟩ : ∃ V, V = (V6.alloc (.cells #[.string o1, .string o2, .string relation, .string u1, .string u2, .string ⟨#[]⟩] 32)).drew := ⟨_, rfl⟩
  have HT1 := Aside0.mk (show V7.heap[V6.heap.size]? = some (.cells #[.string o1, .string o2, .string relation, .string u1, .string u2, .string ⟨#[]⟩] 32 (0, 0)) from by rw [hV7]; exact blk_drew (blk_new V6 _))
  have hb : Below V6.heap.size V6 V7 := by rw [hV7]; exact below_drew1 (below_alloc (B0 V6) _)
  have HB' := Aside0.mk (below_step HB.out hb)
  have HR' := Aside0.mk (blk_below HR.out hb)
  have HO1' := Aside0.mk (blk_below HO1.out hb)
  have HU1' := Aside0.mk (blk_below HU1.out hb)
  clear HB HR HO1 HU1 hb
  have HB := HB'
  have HR := HR'
  have HO1 := HO1'
  have HU1 := HU1'
  clear HB' HR' HO1' HU1'
  obtain ⟨gt, hgt⟩ : ∃ x, x = V6.heap.size := ⟨_, rfl⟩
  rw [← hV7]
  rw [← hgt] at HT1 ⊢
  have HGT := Aside0.mk (show w.heap.size ≤ gt from by rw [hgt]; have := HB0.out; omega)
  have HNE := Aside0.mk (show ¬ gt = g from by rw [hgt]; have := blk_lt HR6.out; omega)
  clear hV7 hgt HB0 HR6
  have t0 : V7.cell? ⟨gt, 0, none⟩ = some (.string o1) := (blk_cell HT1.out 0).trans rfl
  have t1 : V7.cell? ⟨gt, 1, none⟩ = some (.string o2) := (blk_cell HT1.out 1).trans rfl
  have t2 : V7.cell? ⟨gt, 2, none⟩ = some (.string relation) := (blk_cell HT1.out 2).trans rfl
  have t3 : V7.cell? ⟨gt, 3, none⟩ = some (.string u1) := (blk_cell HT1.out 3).trans rfl
  have t4 : V7.cell? ⟨gt, 4, none⟩ = some (.string u2) := (blk_cell HT1.out 4).trans rfl
  have t5 : V7.cell? ⟨gt, 5, none⟩ = some (.string ⟨#[]⟩) := (blk_cell HT1.out 5).trans rfl
  have z0 : V7.cell? ⟨g, 0, none⟩ = some (.string ⟨#[]⟩) := (blk_cell HR.out 0).trans rfl
  have z1 : V7.cell? ⟨g, 1, none⟩ = some (.string ⟨#[]⟩) := (blk_cell HR.out 1).trans rfl
  have z2 : V7.cell? ⟨g, 2, none⟩ = some (.string ⟨#[]⟩) := (blk_cell HR.out 2).trans rfl
  have z3 : V7.cell? ⟨g, 3, none⟩ = some (.string ⟨#[]⟩) := (blk_cell HR.out 3).trans rfl
  have z4 : V7.cell? ⟨g, 4, none⟩ = some (.string ⟨#[]⟩) := (blk_cell HR.out 4).trans rfl
  have z5 : V7.cell? ⟨g, 5, none⟩ = some (.string ⟨#[]⟩) := (blk_cell HR.out 5).trans rfl
  have fz0 : V7.frozen? ⟨g, 0, none⟩ = false := blk_frozen HR.out 0
  have fz1 : V7.frozen? ⟨g, 1, none⟩ = false := blk_frozen HR.out 1
  have fz2 : V7.frozen? ⟨g, 2, none⟩ = false := blk_frozen HR.out 2
  have fz3 : V7.frozen? ⟨g, 3, none⟩ = false := blk_frozen HR.out 3
  have fz4 : V7.frozen? ⟨g, 4, none⟩ = false := blk_frozen HR.out 4
  have fz5 : V7.frozen? ⟨g, 5, none⟩ = false := blk_frozen HR.out 5
  go_wp2
  have hf := fin_row HR.out (⟨o1, o2, relation, u1, u2, ⟨#[]⟩⟩ : Tp)
  have hbf := fin_below HGE.out HB.out (⟨o1, o2, relation, u1, u2, ⟨#[]⟩⟩ : Tp)
  dsimp only [rowc] at hf hbf
  generalize hW9 : ((((((V7.setCell ⟨g, 0, none⟩ (.string o1)).setCell ⟨g, 1, none⟩ (.string o2)).setCell ⟨g, 2, none⟩ (.string relation)).setCell ⟨g, 3, none⟩ (.string u1)).setCell ⟨g, 4, none⟩ (.string u2)).setCell ⟨g, 5, none⟩ (.string ⟨#[]⟩)) = W9 at hf hbf ⊢
  clear hW9
  have d0 := (blk_cell hf 0).trans rfl
  have d1 := (blk_cell hf 1).trans rfl
  have d2 := (blk_cell hf 2).trans rfl
  have d3 := (blk_cell hf 3).trans rfl
  have d4 := (blk_cell hf 4).trans rfl
  have d5 := (blk_cell hf 5).trans rfl
  refine bodyPost_ret (v := .tuple #[tvv (⟨o1, o2, relation, u1, u2, ⟨#[]⟩⟩), .int .i64 (0), .int .i64 (0)]) (by simp [results, Tryz.results25, go_sem, d0, d1, d2, d3, d4, d5, Tp.nil]) rfl ⟨rfl, hbf⟩
set_option maxRecDepth 20000 in
set_option maxHeartbeats 4000000 in
theorem rparse_Ek (s : ByteArray) (hs : s.size ≤ 1000000000) (a : Nat) (front : ByteArray) (HA : Aside0 (findP s 64 = (a : Int))) (HFR : Aside0 (s.extract 0 a = front)) (h : Nat) (object relation o1 o2 : ByteArray) (HH : Aside0 (findP front 35 = (h : Int))) (HOB : Aside0 (s.extract 0 h = object)) (HRE : Aside0 (s.extract (h + 1) a = relation)) (HO : Aside0 (parseO object = (o1, o2, none))) (HI : Aside0 (isP relation = true)) (rest : ByteArray) (HRS : Aside0 (s.extract (a + 1) s.size = rest)) (subject u1 u2 : ByteArray) (k : Nat) (userset : ByteArray) (HK : Aside0 (findP rest 35 = (k : Int))) (HSU : Aside0 (rest.extract 0 k = subject)) (HUS : Aside0 (rest.extract (k + 1) rest.size = userset)) (HU : Aside0 (parseO subject = (u1, u2, none))) (HUI : Aside0 (isP userset = false)) (w : World) :
    Calls Tryz.prog 25 #[.string s] w fun e w' => e = .returned (.tuple #[tvv (Tp.nil), .int .i64 (5), .int .i64 ((a : Int) + 1 + (k : Int) + 1)]) ∧ Below w.heap.size w w' := by
  have HS := Aside0.mk hs
  obtain ⟨W, hW⟩ : ∃ W, W = w.alloc (.cells zc 32) := ⟨_, rfl⟩
  have HB := Aside0.mk (show Below w.heap.size w W from by rw [hW]; exact below_alloc (B0 w) _)
  have HR := Aside0.mk (show W.heap[w.heap.size]? = some (.cells zc 32 (0, 0)) from by rw [hW]; exact blk_new w _)
  obtain ⟨g, hg⟩ : ∃ g, g = w.heap.size := ⟨_, rfl⟩
  rw [← hg] at HR
  have HGE := Aside0.mk (show w.heap.size ≤ g from by omega)
  clear hs
  have a1 : a ≤ s.size := by have := HA.out; have := find_lt (s := s) (c := 64) (by decide); omega
  have a2 : a + 1 ≤ s.size := by have := HA.out; have := find_lt (s := s) (c := 64) (by decide); omega
  have a3 : (a : Int) + 1 ≤ (s.size : Int) := by omega
  have a4 : ¬ ((a : Int) < 0) := by omega
  have a5 : decide ((a : Int) < 0) = false := decide_eq_false (by omega)
  have a6 : 0 ≤ (a : Int) + 1 := by omega
  have a7 : s.size ≤ 1000000000 := HS.out
  have FSZ := Aside0.mk (show front.size = a from by rw [← HFR.out, ByteArray.size_extract]; omega)
  have aw : IntKind.i64.wrap ((a : Int) + 1) = (a : Int) + 1 := by rw [IntKind.wrap_i64]; omega
  have at_ : ((a : Int) + 1).toNat = a + 1 := by omega
  have h1 : h + 1 ≤ a := by have := HH.out; have := find_lt (s := front) (c := 35) (by decide); have := FSZ.out; omega
  have h2 : h ≤ s.size := by omega
  have h3 : (h : Int) + 1 ≤ (a : Int) := by omega
  have h5 : decide ((h : Int) < 0) = false := decide_eq_false (by omega)
  have h6 : 0 ≤ (h : Int) + 1 := by omega
  have hw : IntKind.i64.wrap ((h : Int) + 1) = (h : Int) + 1 := by rw [IntKind.wrap_i64]; omega
  have ht_ : ((h : Int) + 1).toNat = h + 1 := by omega
  go_enter Tryz.func25, Tryz.ntmps25
  go_upto_region 1 with fail
  rw [← hW, ← hg]
  clear hW hg
  go_wp2_with fail
  refine (find_calls s 64 W (by decide) (by have := HS.out; omega)).mono ?_
  rintro e_ w1 ⟨rfl, hb⟩
  rw [HA.out]
  have HB' := Aside0.mk (below_step HB.out hb)
  have HR' := Aside0.mk (blk_below HR.out hb)
  clear HB HR hb
  have HB := HB'
  have HR := HR'
  clear HB' HR'
  go_wp2_with fail
  rw [HFR.out]
  refine (find_calls front 35 w1 (by decide) (by have := FSZ.out; omega)).mono ?_
  rintro e_ w2 ⟨rfl, hb⟩
  rw [HH.out]
  have HB' := Aside0.mk (below_step HB.out hb)
  have HR' := Aside0.mk (blk_below HR.out hb)
  clear HB HR hb
  have HB := HB'
  have HR := HR'
  clear HB' HR'
  go_wp2_with fail
  rw [HOB.out]
  refine (parseO_calls object o1 o2 _ HO.out (by rw [← HOB.out, ByteArray.size_extract]; omega) w2).mono ?_
  rintro e_ w3 ⟨rfl, hb⟩
  dsimp only [ecode, eat]
  have HB' := Aside0.mk (below_step HB.out hb)
  have HR' := Aside0.mk (blk_below HR.out hb)
  clear HB HR hb
  have HB := HB'
  have HR := HR'
  clear HB' HR'
  obtain ⟨V3, hV3⟩ : ∃ V, V = w3.alloc (.cells #[.string o1, .string o2] 30) := ⟨_, rfl⟩
  have HO1 := Aside0.mk (show V3.heap[w3.heap.size]? = some (.cells #[.string o1, .string o2] 30 (0, 0)) from by rw [hV3]; exact blk_new w3 _)
  have hb : Below w3.heap.size w3 V3 := by rw [hV3]; exact below_alloc (B0 w3) _
  have HB' := Aside0.mk (below_step HB.out hb)
  have HR' := Aside0.mk (blk_below HR.out hb)
  clear HB HR hb
  have HB := HB'
  have HR := HR'
  clear HB' HR'
  obtain ⟨go, hgo⟩ : ∃ go, go = w3.heap.size := ⟨_, rfl⟩
  rw [← hgo] at HO1
  go_upto_region 8 with fail
  rw [← hV3, ← hgo]
  clear hV3 hgo
  go_wp2_with fail
  rw [HRE.out]
  refine (is_calls relation V3).mono ?_
  rintro e_ w4 ⟨rfl, hb⟩
  rw [HI.out]
  have HB' := Aside0.mk (below_step HB.out hb)
  have HR' := Aside0.mk (blk_below HR.out hb)
  have HO1' := Aside0.mk (blk_below HO1.out hb)
  clear HB HR HO1 hb
  have HB := HB'
  have HR := HR'
  have HO1 := HO1'
  clear HB' HR' HO1'
  have RSZ := Aside0.mk (show rest.size ≤ 1000000000 from by rw [← HRS.out, ByteArray.size_extract]; omega)
  go_wp2_with fail
  rw [HRS.out]
  refine (find_calls rest 35 w4 (by decide) (by have := RSZ.out; omega)).mono ?_
  rintro e_ w5 ⟨rfl, hb⟩
  rw [HK.out]
  have HB' := Aside0.mk (below_step HB.out hb)
  have HR' := Aside0.mk (blk_below HR.out hb)
  have HO1' := Aside0.mk (blk_below HO1.out hb)
  clear HB HR HO1 hb
  have HB := HB'
  have HR := HR'
  have HO1 := HO1'
  clear HB' HR' HO1'
  have k1 : k + 1 ≤ rest.size := by have := HK.out; have := find_lt (s := rest) (c := 35) (by decide); omega
  have k2 : k ≤ rest.size := by omega
  have k3 : (k : Int) + 1 ≤ (rest.size : Int) := by omega
  have k5 : decide ((k : Int) < 0) = false := decide_eq_false (by omega)
  have k6 : 0 ≤ (k : Int) + 1 := by omega
  have k7 : rest.size ≤ 1000000000 := RSZ.out
  have kw : IntKind.i64.wrap ((k : Int) + 1) = (k : Int) + 1 := by rw [IntKind.wrap_i64]; omega
  have kt_ : ((k : Int) + 1).toNat = k + 1 := by omega
  go_wp2_with fail
  rw [HSU.out]
  refine (parseO_calls subject u1 u2 _ HU.out (by rw [← HSU.out]; have := RSZ.out; rw [ByteArray.size_extract]; omega) w5).mono ?_
  rintro e_ w6 ⟨rfl, hb⟩
  dsimp only [ecode, eat]
  have HB' := Aside0.mk (below_step HB.out hb)
  have HR' := Aside0.mk (blk_below HR.out hb)
  have HO1' := Aside0.mk (blk_below HO1.out hb)
  clear HB HR HO1 hb
  have HB := HB'
  have HR := HR'
  have HO1 := HO1'
  clear HB' HR' HO1'
  obtain ⟨V6, hV6⟩ : ∃ V, V = w6.alloc (.cells #[.string u1, .string u2] 30) := ⟨_, rfl⟩
  have HU1 := Aside0.mk (show V6.heap[w6.heap.size]? = some (.cells #[.string u1, .string u2] 30 (0, 0)) from by rw [hV6]; exact blk_new w6 _)
  have hb : Below w6.heap.size w6 V6 := by rw [hV6]; exact below_alloc (B0 w6) _
  have HB' := Aside0.mk (below_step HB.out hb)
  have HR' := Aside0.mk (blk_below HR.out hb)
  have HO1' := Aside0.mk (blk_below HO1.out hb)
  clear HB HR HO1 hb
  have HB := HB'
  have HR := HR'
  have HO1 := HO1'
  clear HB' HR' HO1'
  obtain ⟨gu, hgu⟩ : ∃ gu, gu = w6.heap.size := ⟨_, rfl⟩
  rw [← hgu] at HU1
  go_upto_region 18 with fail
  rw [← hV6, ← hgu]
  clear hV6 hgu
  have q0 : V6.cell? ⟨go, 0, none⟩ = some (.string o1) := (blk_cell HO1.out 0).trans rfl
  have q1 : V6.cell? ⟨go, 1, none⟩ = some (.string o2) := (blk_cell HO1.out 1).trans rfl
  have q2 : V6.cell? ⟨gu, 0, none⟩ = some (.string u1) := (blk_cell HU1.out 0).trans rfl
  have q3 : V6.cell? ⟨gu, 1, none⟩ = some (.string u2) := (blk_cell HU1.out 1).trans rfl
  have HB0 := Aside0.mk HB.out.size
  have HR6 := Aside0.mk HR.out
  have lo : go < V6.heap.size := blk_lt HO1.out
  have lu : gu < V6.heap.size := blk_lt HU1.out
  have lo' : ¬ go = V6.heap.size := by omega
  have lu' : ¬ gu = V6.heap.size := by omega
  go_upto_region 20 with fail
  go_region
  rw [HRE.out]
  clear lo lu lo' lu' q0 q1 q2 q3
  obtain ⟨V7, hV7⟩ : ∃ V, V = (V6.alloc (.cells #[.string o1, .string o2, .string relation, .string u1, .string u2, .string ⟨#[]⟩] 32)).drew := ⟨_, rfl⟩
  have HT1 := Aside0.mk (show V7.heap[V6.heap.size]? = some (.cells #[.string o1, .string o2, .string relation, .string u1, .string u2, .string ⟨#[]⟩] 32 (0, 0)) from by rw [hV7]; exact blk_drew (blk_new V6 _))
  have hb : Below V6.heap.size V6 V7 := by rw [hV7]; exact below_drew1 (below_alloc (B0 V6) _)
  have HB' := Aside0.mk (below_step HB.out hb)
  have HR' := Aside0.mk (blk_below HR.out hb)
  have HO1' := Aside0.mk (blk_below HO1.out hb)
  have HU1' := Aside0.mk (blk_below HU1.out hb)
  clear HB HR HO1 HU1 hb
  have HB := HB'
  have HR := HR'
  have HO1 := HO1'
  have HU1 := HU1'
  clear HB' HR' HO1' HU1'
  obtain ⟨gt, hgt⟩ : ∃ x, x = V6.heap.size := ⟨_, rfl⟩
  rw [← hV7]
  rw [← hgt] at HT1 ⊢
  have HGT := Aside0.mk (show w.heap.size ≤ gt from by rw [hgt]; have := HB0.out; omega)
  have HNE := Aside0.mk (show ¬ gt = g from by rw [hgt]; have := blk_lt HR6.out; omega)
  clear hV7 hgt HB0 HR6
  have ft5 : V7.frozen? ⟨gt, 5, none⟩ = false := blk_frozen HT1.out 5
  have t5 : V7.cell? ⟨gt, 5, none⟩ = some (.string ⟨#[]⟩) := (blk_cell HT1.out 5).trans rfl
  have kz : decide ((k : Int) ≥ 0) = true := decide_eq_true (by omega)
  have kz2 : decide (0 ≤ (k : Int)) = true := decide_eq_true (by omega)
  go_upto_region 23 with fail
  rw [HUS.out]
  clear ft5 t5
  obtain ⟨V8, hV8⟩ : ∃ V, V = V7.setCell ⟨gt, 5, none⟩ (.string userset) := ⟨_, rfl⟩
  rw [← hV8]
  have HT8 := Aside0.mk (show V8.heap[gt]? = some (.cells #[.string o1, .string o2, .string relation, .string u1, .string u2, .string userset] 32 (0, 0)) from by rw [hV8]; exact blk_set HT1.out 5 _)
  have HR8 := Aside0.mk (show V8.heap[g]? = some (.cells zc 32 (0, 0)) from by rw [hV8]; exact blk_far HR.out (fun e => HNE.out e.symm) _)
  have HB8 := Aside0.mk (show Below w.heap.size w V8 from by rw [hV8]; exact HB.out.setCell (p := ⟨gt, 5, none⟩) HGT.out _)
  clear HT1 HR HB hV8
  have HT1 := HT8
  have HR := HR8
  have HB := HB8
  clear HT8 HR8 HB8 HO1 HU1
  have t5 : V8.cell? ⟨gt, 5, none⟩ = some (.string userset) := (blk_cell HT1.out 5).trans rfl
  go_wp2_with fail
  refine (is_calls userset V8).mono ?_
  rintro e_ w9 ⟨rfl, hb⟩
  rw [HUI.out]
  clear t5
  have HB' := Aside0.mk (below_step HB.out hb)
  have HR' := Aside0.mk (blk_below HR.out hb)
  have HT1' := Aside0.mk (blk_below HT1.out hb)
  clear HB HR HT1 hb
  have HB := HB'
  have HR := HR'
  have HT1 := HT1'
  clear HB' HR' HT1'
  have pw : IntKind.i64.wrap ((a : Int) + 1 + (k : Int)) = (a : Int) + 1 + (k : Int) := by rw [IntKind.wrap_i64]; omega
  have pw2 : IntKind.i64.wrap ((a : Int) + 1 + (k : Int) + 1) = (a : Int) + 1 + (k : Int) + 1 := by rw [IntKind.wrap_i64]; omega
  have z0 : w9.cell? ⟨g, 0, none⟩ = some (.string ⟨#[]⟩) := (blk_cell HR.out 0).trans rfl
  have z1 : w9.cell? ⟨g, 1, none⟩ = some (.string ⟨#[]⟩) := (blk_cell HR.out 1).trans rfl
  have z2 : w9.cell? ⟨g, 2, none⟩ = some (.string ⟨#[]⟩) := (blk_cell HR.out 2).trans rfl
  have z3 : w9.cell? ⟨g, 3, none⟩ = some (.string ⟨#[]⟩) := (blk_cell HR.out 3).trans rfl
  have z4 : w9.cell? ⟨g, 4, none⟩ = some (.string ⟨#[]⟩) := (blk_cell HR.out 4).trans rfl
  have z5 : w9.cell? ⟨g, 5, none⟩ = some (.string ⟨#[]⟩) := (blk_cell HR.out 5).trans rfl
  have fz0 : w9.frozen? ⟨g, 0, none⟩ = false := blk_frozen HR.out 0
  have fz1 : w9.frozen? ⟨g, 1, none⟩ = false := blk_frozen HR.out 1
  have fz2 : w9.frozen? ⟨g, 2, none⟩ = false := blk_frozen HR.out 2
  have fz3 : w9.frozen? ⟨g, 3, none⟩ = false := blk_frozen HR.out 3
  have fz4 : w9.frozen? ⟨g, 4, none⟩ = false := blk_frozen HR.out 4
  have fz5 : w9.frozen? ⟨g, 5, none⟩ = false := blk_frozen HR.out 5
  go_wp2
  have hf := fin_row HR.out (⟨⟨#[]⟩, ⟨#[]⟩, ⟨#[]⟩, ⟨#[]⟩, ⟨#[]⟩, ⟨#[]⟩⟩ : Tp)
  have hbf := fin_below HGE.out HB.out (⟨⟨#[]⟩, ⟨#[]⟩, ⟨#[]⟩, ⟨#[]⟩, ⟨#[]⟩, ⟨#[]⟩⟩ : Tp)
  dsimp only [rowc] at hf hbf
  generalize hW9 : ((((((w9.setCell ⟨g, 0, none⟩ (.string ⟨#[]⟩)).setCell ⟨g, 1, none⟩ (.string ⟨#[]⟩)).setCell ⟨g, 2, none⟩ (.string ⟨#[]⟩)).setCell ⟨g, 3, none⟩ (.string ⟨#[]⟩)).setCell ⟨g, 4, none⟩ (.string ⟨#[]⟩)).setCell ⟨g, 5, none⟩ (.string ⟨#[]⟩)) = W9 at hf hbf ⊢
  clear hW9
  have d0 := (blk_cell hf 0).trans rfl
  have d1 := (blk_cell hf 1).trans rfl
  have d2 := (blk_cell hf 2).trans rfl
  have d3 := (blk_cell hf 3).trans rfl
  have d4 := (blk_cell hf 4).trans rfl
  have d5 := (blk_cell hf 5).trans rfl
  refine bodyPost_ret (v := .tuple #[tvv (Tp.nil), .int .i64 (5), .int .i64 ((a : Int) + 1 + (k : Int) + 1)]) (by simp [results, Tryz.results25, go_sem, d0, d1, d2, d3, d4, d5, Tp.nil]) rfl ⟨rfl, hbf⟩
set_option maxRecDepth 20000 in
set_option maxHeartbeats 4000000 in
theorem rparse_Fk (s : ByteArray) (hs : s.size ≤ 1000000000) (a : Nat) (front : ByteArray) (HA : Aside0 (findP s 64 = (a : Int))) (HFR : Aside0 (s.extract 0 a = front)) (h : Nat) (object relation o1 o2 : ByteArray) (HH : Aside0 (findP front 35 = (h : Int))) (HOB : Aside0 (s.extract 0 h = object)) (HRE : Aside0 (s.extract (h + 1) a = relation)) (HO : Aside0 (parseO object = (o1, o2, none))) (HI : Aside0 (isP relation = true)) (rest : ByteArray) (HRS : Aside0 (s.extract (a + 1) s.size = rest)) (subject u1 u2 : ByteArray) (k : Nat) (userset : ByteArray) (HK : Aside0 (findP rest 35 = (k : Int))) (HSU : Aside0 (rest.extract 0 k = subject)) (HUS : Aside0 (rest.extract (k + 1) rest.size = userset)) (HU : Aside0 (parseO subject = (u1, u2, none))) (HUI : Aside0 (isP userset = true)) (w : World) :
    Calls Tryz.prog 25 #[.string s] w fun e w' => e = .returned (.tuple #[tvv (⟨o1, o2, relation, u1, u2, userset⟩), .int .i64 (0), .int .i64 (0)]) ∧ Below w.heap.size w w' := by
  have HS := Aside0.mk hs
  obtain ⟨W, hW⟩ : ∃ W, W = w.alloc (.cells zc 32) := ⟨_, rfl⟩
  have HB := Aside0.mk (show Below w.heap.size w W from by rw [hW]; exact below_alloc (B0 w) _)
  have HR := Aside0.mk (show W.heap[w.heap.size]? = some (.cells zc 32 (0, 0)) from by rw [hW]; exact blk_new w _)
  obtain ⟨g, hg⟩ : ∃ g, g = w.heap.size := ⟨_, rfl⟩
  rw [← hg] at HR
  have HGE := Aside0.mk (show w.heap.size ≤ g from by omega)
  clear hs
  have a1 : a ≤ s.size := by have := HA.out; have := find_lt (s := s) (c := 64) (by decide); omega
  have a2 : a + 1 ≤ s.size := by have := HA.out; have := find_lt (s := s) (c := 64) (by decide); omega
  have a3 : (a : Int) + 1 ≤ (s.size : Int) := by omega
  have a4 : ¬ ((a : Int) < 0) := by omega
  have a5 : decide ((a : Int) < 0) = false := decide_eq_false (by omega)
  have a6 : 0 ≤ (a : Int) + 1 := by omega
  have a7 : s.size ≤ 1000000000 := HS.out
  have FSZ := Aside0.mk (show front.size = a from by rw [← HFR.out, ByteArray.size_extract]; omega)
  have aw : IntKind.i64.wrap ((a : Int) + 1) = (a : Int) + 1 := by rw [IntKind.wrap_i64]; omega
  have at_ : ((a : Int) + 1).toNat = a + 1 := by omega
  have h1 : h + 1 ≤ a := by have := HH.out; have := find_lt (s := front) (c := 35) (by decide); have := FSZ.out; omega
  have h2 : h ≤ s.size := by omega
  have h3 : (h : Int) + 1 ≤ (a : Int) := by omega
  have h5 : decide ((h : Int) < 0) = false := decide_eq_false (by omega)
  have h6 : 0 ≤ (h : Int) + 1 := by omega
  have hw : IntKind.i64.wrap ((h : Int) + 1) = (h : Int) + 1 := by rw [IntKind.wrap_i64]; omega
  have ht_ : ((h : Int) + 1).toNat = h + 1 := by omega
  go_enter Tryz.func25, Tryz.ntmps25
  go_upto_region 1 with fail
  rw [← hW, ← hg]
  clear hW hg
  go_wp2_with fail
  refine (find_calls s 64 W (by decide) (by have := HS.out; omega)).mono ?_
  rintro e_ w1 ⟨rfl, hb⟩
  rw [HA.out]
  have HB' := Aside0.mk (below_step HB.out hb)
  have HR' := Aside0.mk (blk_below HR.out hb)
  clear HB HR hb
  have HB := HB'
  have HR := HR'
  clear HB' HR'
  go_wp2_with fail
  rw [HFR.out]
  refine (find_calls front 35 w1 (by decide) (by have := FSZ.out; omega)).mono ?_
  rintro e_ w2 ⟨rfl, hb⟩
  rw [HH.out]
  have HB' := Aside0.mk (below_step HB.out hb)
  have HR' := Aside0.mk (blk_below HR.out hb)
  clear HB HR hb
  have HB := HB'
  have HR := HR'
  clear HB' HR'
  go_wp2_with fail
  rw [HOB.out]
  refine (parseO_calls object o1 o2 _ HO.out (by rw [← HOB.out, ByteArray.size_extract]; omega) w2).mono ?_
  rintro e_ w3 ⟨rfl, hb⟩
  dsimp only [ecode, eat]
  have HB' := Aside0.mk (below_step HB.out hb)
  have HR' := Aside0.mk (blk_below HR.out hb)
  clear HB HR hb
  have HB := HB'
  have HR := HR'
  clear HB' HR'
  obtain ⟨V3, hV3⟩ : ∃ V, V = w3.alloc (.cells #[.string o1, .string o2] 30) := ⟨_, rfl⟩
  have HO1 := Aside0.mk (show V3.heap[w3.heap.size]? = some (.cells #[.string o1, .string o2] 30 (0, 0)) from by rw [hV3]; exact blk_new w3 _)
  have hb : Below w3.heap.size w3 V3 := by rw [hV3]; exact below_alloc (B0 w3) _
  have HB' := Aside0.mk (below_step HB.out hb)
  have HR' := Aside0.mk (blk_below HR.out hb)
  clear HB HR hb
  have HB := HB'
  have HR := HR'
  clear HB' HR'
  obtain ⟨go, hgo⟩ : ∃ go, go = w3.heap.size := ⟨_, rfl⟩
  rw [← hgo] at HO1
  go_upto_region 8 with fail
  rw [← hV3, ← hgo]
  clear hV3 hgo
  go_wp2_with fail
  rw [HRE.out]
  refine (is_calls relation V3).mono ?_
  rintro e_ w4 ⟨rfl, hb⟩
  rw [HI.out]
  have HB' := Aside0.mk (below_step HB.out hb)
  have HR' := Aside0.mk (blk_below HR.out hb)
  have HO1' := Aside0.mk (blk_below HO1.out hb)
  clear HB HR HO1 hb
  have HB := HB'
  have HR := HR'
  have HO1 := HO1'
  clear HB' HR' HO1'
  have RSZ := Aside0.mk (show rest.size ≤ 1000000000 from by rw [← HRS.out, ByteArray.size_extract]; omega)
  go_wp2_with fail
  rw [HRS.out]
  refine (find_calls rest 35 w4 (by decide) (by have := RSZ.out; omega)).mono ?_
  rintro e_ w5 ⟨rfl, hb⟩
  rw [HK.out]
  have HB' := Aside0.mk (below_step HB.out hb)
  have HR' := Aside0.mk (blk_below HR.out hb)
  have HO1' := Aside0.mk (blk_below HO1.out hb)
  clear HB HR HO1 hb
  have HB := HB'
  have HR := HR'
  have HO1 := HO1'
  clear HB' HR' HO1'
  have k1 : k + 1 ≤ rest.size := by have := HK.out; have := find_lt (s := rest) (c := 35) (by decide); omega
  have k2 : k ≤ rest.size := by omega
  have k3 : (k : Int) + 1 ≤ (rest.size : Int) := by omega
  have k5 : decide ((k : Int) < 0) = false := decide_eq_false (by omega)
  have k6 : 0 ≤ (k : Int) + 1 := by omega
  have k7 : rest.size ≤ 1000000000 := RSZ.out
  have kw : IntKind.i64.wrap ((k : Int) + 1) = (k : Int) + 1 := by rw [IntKind.wrap_i64]; omega
  have kt_ : ((k : Int) + 1).toNat = k + 1 := by omega
  go_wp2_with fail
  rw [HSU.out]
  refine (parseO_calls subject u1 u2 _ HU.out (by rw [← HSU.out]; have := RSZ.out; rw [ByteArray.size_extract]; omega) w5).mono ?_
  rintro e_ w6 ⟨rfl, hb⟩
  dsimp only [ecode, eat]
  have HB' := Aside0.mk (below_step HB.out hb)
  have HR' := Aside0.mk (blk_below HR.out hb)
  have HO1' := Aside0.mk (blk_below HO1.out hb)
  clear HB HR HO1 hb
  have HB := HB'
  have HR := HR'
  have HO1 := HO1'
  clear HB' HR' HO1'
  obtain ⟨V6, hV6⟩ : ∃ V, V = w6.alloc (.cells #[.string u1, .string u2] 30) := ⟨_, rfl⟩
  have HU1 := Aside0.mk (show V6.heap[w6.heap.size]? = some (.cells #[.string u1, .string u2] 30 (0, 0)) from by rw [hV6]; exact blk_new w6 _)
  have hb : Below w6.heap.size w6 V6 := by rw [hV6]; exact below_alloc (B0 w6) _
  have HB' := Aside0.mk (below_step HB.out hb)
  have HR' := Aside0.mk (blk_below HR.out hb)
  have HO1' := Aside0.mk (blk_below HO1.out hb)
  clear HB HR HO1 hb
  have HB := HB'
  have HR := HR'
  have HO1 := HO1'
  clear HB' HR' HO1'
  obtain ⟨gu, hgu⟩ : ∃ gu, gu = w6.heap.size := ⟨_, rfl⟩
  rw [← hgu] at HU1
  go_upto_region 18 with fail
  rw [← hV6, ← hgu]
  clear hV6 hgu
  have q0 : V6.cell? ⟨go, 0, none⟩ = some (.string o1) := (blk_cell HO1.out 0).trans rfl
  have q1 : V6.cell? ⟨go, 1, none⟩ = some (.string o2) := (blk_cell HO1.out 1).trans rfl
  have q2 : V6.cell? ⟨gu, 0, none⟩ = some (.string u1) := (blk_cell HU1.out 0).trans rfl
  have q3 : V6.cell? ⟨gu, 1, none⟩ = some (.string u2) := (blk_cell HU1.out 1).trans rfl
  have HB0 := Aside0.mk HB.out.size
  have HR6 := Aside0.mk HR.out
  have lo : go < V6.heap.size := blk_lt HO1.out
  have lu : gu < V6.heap.size := blk_lt HU1.out
  have lo' : ¬ go = V6.heap.size := by omega
  have lu' : ¬ gu = V6.heap.size := by omega
  go_upto_region 20 with fail
  go_region
  rw [HRE.out]
  clear lo lu lo' lu' q0 q1 q2 q3
  obtain ⟨V7, hV7⟩ : ∃ V, V = (V6.alloc (.cells #[.string o1, .string o2, .string relation, .string u1, .string u2, .string ⟨#[]⟩] 32)).drew := ⟨_, rfl⟩
  have HT1 := Aside0.mk (show V7.heap[V6.heap.size]? = some (.cells #[.string o1, .string o2, .string relation, .string u1, .string u2, .string ⟨#[]⟩] 32 (0, 0)) from by rw [hV7]; exact blk_drew (blk_new V6 _))
  have hb : Below V6.heap.size V6 V7 := by rw [hV7]; exact below_drew1 (below_alloc (B0 V6) _)
  have HB' := Aside0.mk (below_step HB.out hb)
  have HR' := Aside0.mk (blk_below HR.out hb)
  have HO1' := Aside0.mk (blk_below HO1.out hb)
  have HU1' := Aside0.mk (blk_below HU1.out hb)
  clear HB HR HO1 HU1 hb
  have HB := HB'
  have HR := HR'
  have HO1 := HO1'
  have HU1 := HU1'
  clear HB' HR' HO1' HU1'
  obtain ⟨gt, hgt⟩ : ∃ x, x = V6.heap.size := ⟨_, rfl⟩
  rw [← hV7]
  rw [← hgt] at HT1 ⊢
  have HGT := Aside0.mk (show w.heap.size ≤ gt from by rw [hgt]; have := HB0.out; omega)
  have HNE := Aside0.mk (show ¬ gt = g from by rw [hgt]; have := blk_lt HR6.out; omega)
  clear hV7 hgt HB0 HR6
  have ft5 : V7.frozen? ⟨gt, 5, none⟩ = false := blk_frozen HT1.out 5
  have t5 : V7.cell? ⟨gt, 5, none⟩ = some (.string ⟨#[]⟩) := (blk_cell HT1.out 5).trans rfl
  have kz : decide ((k : Int) ≥ 0) = true := decide_eq_true (by omega)
  have kz2 : decide (0 ≤ (k : Int)) = true := decide_eq_true (by omega)
  go_upto_region 23 with fail
  rw [HUS.out]
  clear ft5 t5
  obtain ⟨V8, hV8⟩ : ∃ V, V = V7.setCell ⟨gt, 5, none⟩ (.string userset) := ⟨_, rfl⟩
  rw [← hV8]
  have HT8 := Aside0.mk (show V8.heap[gt]? = some (.cells #[.string o1, .string o2, .string relation, .string u1, .string u2, .string userset] 32 (0, 0)) from by rw [hV8]; exact blk_set HT1.out 5 _)
  have HR8 := Aside0.mk (show V8.heap[g]? = some (.cells zc 32 (0, 0)) from by rw [hV8]; exact blk_far HR.out (fun e => HNE.out e.symm) _)
  have HB8 := Aside0.mk (show Below w.heap.size w V8 from by rw [hV8]; exact HB.out.setCell (p := ⟨gt, 5, none⟩) HGT.out _)
  clear HT1 HR HB hV8
  have HT1 := HT8
  have HR := HR8
  have HB := HB8
  clear HT8 HR8 HB8 HO1 HU1
  have t5 : V8.cell? ⟨gt, 5, none⟩ = some (.string userset) := (blk_cell HT1.out 5).trans rfl
  go_wp2_with fail
  refine (is_calls userset V8).mono ?_
  rintro e_ w9 ⟨rfl, hb⟩
  rw [HUI.out]
  clear t5
  have HB' := Aside0.mk (below_step HB.out hb)
  have HR' := Aside0.mk (blk_below HR.out hb)
  have HT1' := Aside0.mk (blk_below HT1.out hb)
  clear HB HR HT1 hb
  have HB := HB'
  have HR := HR'
  have HT1 := HT1'
  clear HB' HR' HT1'
  have t0 : w9.cell? ⟨gt, 0, none⟩ = some (.string o1) := (blk_cell HT1.out 0).trans rfl
  have t1 : w9.cell? ⟨gt, 1, none⟩ = some (.string o2) := (blk_cell HT1.out 1).trans rfl
  have t2 : w9.cell? ⟨gt, 2, none⟩ = some (.string relation) := (blk_cell HT1.out 2).trans rfl
  have t3 : w9.cell? ⟨gt, 3, none⟩ = some (.string u1) := (blk_cell HT1.out 3).trans rfl
  have t4 : w9.cell? ⟨gt, 4, none⟩ = some (.string u2) := (blk_cell HT1.out 4).trans rfl
  have t5 : w9.cell? ⟨gt, 5, none⟩ = some (.string userset) := (blk_cell HT1.out 5).trans rfl
  have z0 : w9.cell? ⟨g, 0, none⟩ = some (.string ⟨#[]⟩) := (blk_cell HR.out 0).trans rfl
  have z1 : w9.cell? ⟨g, 1, none⟩ = some (.string ⟨#[]⟩) := (blk_cell HR.out 1).trans rfl
  have z2 : w9.cell? ⟨g, 2, none⟩ = some (.string ⟨#[]⟩) := (blk_cell HR.out 2).trans rfl
  have z3 : w9.cell? ⟨g, 3, none⟩ = some (.string ⟨#[]⟩) := (blk_cell HR.out 3).trans rfl
  have z4 : w9.cell? ⟨g, 4, none⟩ = some (.string ⟨#[]⟩) := (blk_cell HR.out 4).trans rfl
  have z5 : w9.cell? ⟨g, 5, none⟩ = some (.string ⟨#[]⟩) := (blk_cell HR.out 5).trans rfl
  have fz0 : w9.frozen? ⟨g, 0, none⟩ = false := blk_frozen HR.out 0
  have fz1 : w9.frozen? ⟨g, 1, none⟩ = false := blk_frozen HR.out 1
  have fz2 : w9.frozen? ⟨g, 2, none⟩ = false := blk_frozen HR.out 2
  have fz3 : w9.frozen? ⟨g, 3, none⟩ = false := blk_frozen HR.out 3
  have fz4 : w9.frozen? ⟨g, 4, none⟩ = false := blk_frozen HR.out 4
  have fz5 : w9.frozen? ⟨g, 5, none⟩ = false := blk_frozen HR.out 5
  go_wp2
  have hf := fin_row HR.out (⟨o1, o2, relation, u1, u2, userset⟩ : Tp)
  have hbf := fin_below HGE.out HB.out (⟨o1, o2, relation, u1, u2, userset⟩ : Tp)
  dsimp only [rowc] at hf hbf
  generalize hW9 : ((((((w9.setCell ⟨g, 0, none⟩ (.string o1)).setCell ⟨g, 1, none⟩ (.string o2)).setCell ⟨g, 2, none⟩ (.string relation)).setCell ⟨g, 3, none⟩ (.string u1)).setCell ⟨g, 4, none⟩ (.string u2)).setCell ⟨g, 5, none⟩ (.string userset)) = W9 at hf hbf ⊢
  clear hW9
  have d0 := (blk_cell hf 0).trans rfl
  have d1 := (blk_cell hf 1).trans rfl
  have d2 := (blk_cell hf 2).trans rfl
  have d3 := (blk_cell hf 3).trans rfl
  have d4 := (blk_cell hf 4).trans rfl
  have d5 := (blk_cell hf 5).trans rfl
  refine bodyPost_ret (v := .tuple #[tvv (⟨o1, o2, relation, u1, u2, userset⟩), .int .i64 (0), .int .i64 (0)]) (by simp [results, Tryz.results25, go_sem, d0, d1, d2, d3, d4, d5, Tp.nil]) rfl ⟨rfl, hbf⟩
end Go.Proofs.YtlbbhgmpiednfaaGreatDoor.HTupZ
/- The reference's Parse, joined. -/
namespace Go.Proofs.YtlbbhgmpiednfaaGreatDoor.HTupZ
open Go.RowKit Go.Proofs.YtlbbhgmpiednfaaGreatDoorW.PrintWords Go.Proofs.YtlbbhgmpiednfaaGreatDoor.HLib Go.Proofs.YtlbbhgmpiednfaaGreatDoor.HErr Go.Proofs.YtlbbhgmpiednfaaGreatDoor.HNameP Go.Proofs.YtlbbhgmpiednfaaGreatDoor.HNameR Go.Proofs.YtlbbhgmpiednfaaGreatDoor.HName Go.Proofs.YtlbbhgmpiednfaaGreatDoor.HTupP Go.Proofs.YtlbbhgmpiednfaaGreatDoor.HTupR Go.Proofs.YtlbbhgmpiednfaaGreatDoor.HTupG Go.Proofs.YtlbbhgmpiednfaaGreatDoor.HTupH
set_option linter.unusedVariables false
set_option linter.unusedSimpArgs false
theorem toNat_one (n : Nat) : ((n : Int) + 1).toNat = n + 1 := by omega
theorem ext_all (s : ByteArray) : s.extract 0 s.size = s := by
  apply ByteArray.ext
  simp
theorem cut_some {s : ByteArray} {c : Int} {a : Nat} (h : findP s c = a) : cutP s c = (s.extract 0 a, s.extract (a + 1) s.size, true) := by
  unfold cutP
  rw [h, if_neg (by omega), toNat_one]
  rfl
theorem cut_no {s : ByteArray} {c : Int} (h : findP s c = -1) : cutP s c = (s, ⟨#[]⟩, false) := by
  unfold cutP
  rw [if_pos h]
theorem find_cases (s : ByteArray) (c : Int) : findP s c = -1 ∨ ∃ a : Nat, findP s c = a := by
  have := find_ge s c
  by_cases h : findP s c = -1
  · exact .inl h
  · exact .inr ⟨(findP s c).toNat, by omega⟩
theorem rparse_any (s : ByteArray) (hs : s.size ≤ 1000000000) (w : World) :
    Calls Tryz.prog 25 #[.string s] w fun e w' => e = .returned (.tuple #[tvv (parseT s).1, .int .i64 (ecode (parseT s).2), .int .i64 (eat (parseT s).2)]) ∧ Below w.heap.size w w' := by
  rcases find_cases s 64 with hA | ⟨a, hA⟩
  · have hP : parseT s = (Tp.nil, some (6, (s.size : Int))) := by
      unfold parseT
      simp only [cut_no hA]
      rw [if_pos (Or.inl trivial)]
    rw [hP]
    exact rparse_A1 s hs ⟨hA⟩ w
  · have ha := find_lt (s := s) (c := 64) (by decide)
    have haz : a + 1 ≤ s.size := by omega
    obtain ⟨front, hFR⟩ : ∃ x, s.extract 0 a = x := ⟨_, rfl⟩
    have hfz : front.size = a := by rw [← hFR, ByteArray.size_extract]; omega
    rcases find_cases front 35 with hH | ⟨h, hH⟩
    · have hP : parseT s = (Tp.nil, some (6, (s.size : Int))) := by
        unfold parseT
        simp only [cut_some hA, hFR, cut_no hH]
        rw [if_pos (Or.inr trivial)]
      rw [hP]
      exact rparse_A2 s hs a front ⟨hA⟩ ⟨hFR⟩ ⟨hH⟩ w
    · have hh := find_lt (s := front) (c := 35) (by decide)
      have hhz : h + 1 ≤ a := by omega
      obtain ⟨object, hOB⟩ : ∃ x, s.extract 0 h = x := ⟨_, rfl⟩
      obtain ⟨relation, hRE⟩ : ∃ x, s.extract (h + 1) a = x := ⟨_, rfl⟩
      have e1 : front.extract 0 h = object := by rw [← hFR, ByteArray.extract_extract, ← hOB]; congr 1; omega
      have e2 : front.extract (h + 1) a = relation := by rw [← hFR, ByteArray.extract_extract, ← hRE]; congr 1 <;> omega
      have hobz : object.size = h := by rw [← hOB, ByteArray.size_extract]; omega
      obtain ⟨rest, hRS⟩ : ∃ x, s.extract (a + 1) s.size = x := ⟨_, rfl⟩
      obtain ⟨subject, userset, set_, hz⟩ : ∃ p q r, cutP rest 35 = (p, q, r) := ⟨_, _, _, rfl⟩
      have hP : parseT s = (match (parseO object).2.2 with
          | some e => (Tp.nil, some e)
          | none => if isP relation = false then (Tp.nil, some (5, (h : Int) + 1)) else match (parseO subject).2.2 with
            | some e => (Tp.nil, some (e.1, e.2 + ((a : Int) + 1)))
            | none => if set_ = true ∧ isP userset = false then (Tp.nil, some (5, (a : Int) + 1 + (subject.size : Int) + 1)) else (⟨(parseO object).1, (parseO object).2.1, relation, (parseO subject).1, (parseO subject).2.1, userset⟩, none)) := by
        unfold parseT
        simp only [cut_some hA, hFR, cut_some hH, e1, e2, hRS, hz, hobz, hfz]
        rw [if_neg (by simp)]
        rfl
      rw [hP]
      clear hP
      obtain ⟨o1, o2, eo, ho⟩ : ∃ p q r, parseO object = (p, q, r) := ⟨_, _, _, rfl⟩
      have hoc := parseO_code object
      rw [ho] at hoc ⊢
      cases eo with
      | some e => exact rparse_B s hs a front ⟨hA⟩ ⟨hFR⟩ h object relation o1 o2 ⟨hH⟩ ⟨hOB⟩ ⟨hRE⟩ e.1 e.2 ⟨hoc e.1 e.2 rfl⟩ ⟨ho⟩ w
      | none =>
        dsimp only
        cases hi : isP relation with
        | false => rw [if_pos rfl]; exact rparse_C s hs a front ⟨hA⟩ ⟨hFR⟩ h object relation o1 o2 ⟨hH⟩ ⟨hOB⟩ ⟨hRE⟩ ⟨ho⟩ ⟨hi⟩ w
        | true =>
          rw [if_neg (by simp)]
          obtain ⟨u1, u2, eu, hu⟩ : ∃ p q r, parseO subject = (p, q, r) := ⟨_, _, _, rfl⟩
          have huc := parseO_code subject
          have huo := parseO_off subject
          have hrz : rest.size ≤ 1000000000 := by rw [← hRS, ByteArray.size_extract]; omega
          have hcz := cut_size rest 35
          rw [hz] at hcz
          dsimp only at hcz
          rw [hu] at huc huo ⊢
          rcases find_cases rest 35 with hK | ⟨k, hK⟩
          · rw [cut_no hK] at hz
            injection hz with hz1 hz2
            injection hz2 with hz2 hz3
            subst hz2 hz3
            cases eu with
            | some e =>
              obtain ⟨n6, m6⟩ := e
              have := huo n6 m6 rfl
              dsimp only
              rw [Int.add_comm m6]
              exact rparse_Dn s hs a front ⟨hA⟩ ⟨hFR⟩ h object relation o1 o2 ⟨hH⟩ ⟨hOB⟩ ⟨hRE⟩ ⟨ho⟩ ⟨hi⟩ rest ⟨hRS⟩ subject u1 u2 ⟨hK⟩ ⟨hz1⟩ n6 m6 ⟨huc n6 m6 rfl⟩ ⟨by omega⟩ ⟨hu⟩ w
            | none =>
              dsimp only
              rw [if_neg (by simp)]
              exact rparse_Fn s hs a front ⟨hA⟩ ⟨hFR⟩ h object relation o1 o2 ⟨hH⟩ ⟨hOB⟩ ⟨hRE⟩ ⟨ho⟩ ⟨hi⟩ rest ⟨hRS⟩ subject u1 u2 ⟨hK⟩ ⟨hz1⟩ ⟨hu⟩ w
          · have hk := find_lt (s := rest) (c := 35) (by decide)
            rw [cut_some hK] at hz
            injection hz with hz1 hz2
            injection hz2 with hz2 hz3
            subst hz3
            have hsz : subject.size = k := by rw [← hz1, ByteArray.size_extract]; omega
            cases eu with
            | some e =>
              obtain ⟨n6, m6⟩ := e
              have := huo n6 m6 rfl
              dsimp only
              rw [Int.add_comm m6]
              exact rparse_Dk s hs a front ⟨hA⟩ ⟨hFR⟩ h object relation o1 o2 ⟨hH⟩ ⟨hOB⟩ ⟨hRE⟩ ⟨ho⟩ ⟨hi⟩ rest ⟨hRS⟩ subject u1 u2 k userset ⟨hK⟩ ⟨hz1⟩ ⟨hz2⟩ n6 m6 ⟨huc n6 m6 rfl⟩ ⟨by omega⟩ ⟨hu⟩ w
            | none =>
              dsimp only
              cases hui : isP userset with
              | false => rw [if_pos ⟨rfl, rfl⟩, hsz]; exact rparse_Ek s hs a front ⟨hA⟩ ⟨hFR⟩ h object relation o1 o2 ⟨hH⟩ ⟨hOB⟩ ⟨hRE⟩ ⟨ho⟩ ⟨hi⟩ rest ⟨hRS⟩ subject u1 u2 k userset ⟨hK⟩ ⟨hz1⟩ ⟨hz2⟩ ⟨hu⟩ ⟨hui⟩ w
              | true => rw [if_neg (by simp)]; exact rparse_Fk s hs a front ⟨hA⟩ ⟨hFR⟩ h object relation o1 o2 ⟨hH⟩ ⟨hOB⟩ ⟨hRE⟩ ⟨ho⟩ ⟨hi⟩ rest ⟨hRS⟩ subject u1 u2 k userset ⟨hK⟩ ⟨hz1⟩ ⟨hz2⟩ ⟨hu⟩ ⟨hui⟩ w
theorem parseT_code (s : ByteArray) (n m : Int) (h : (parseT s).2 = some (n, m)) : n ≠ 0 := by
  unfold parseT at h
  dsimp only at h
  split at h
  · injection h with h; injection h with h _; omega
  · split at h
    · rename_i e he
      injection h with h
      subst h
      exact parseO_code _ _ _ he
    · split at h
      · injection h with h; injection h with h _; omega
      · split at h
        · rename_i e he
          injection h with h
          injection h with h _
          subst h
          exact parseO_code _ e.1 e.2 he
        · split at h
          · injection h with h; injection h with h _; omega
          · cases h
end Go.Proofs.YtlbbhgmpiednfaaGreatDoor.HTupZ
