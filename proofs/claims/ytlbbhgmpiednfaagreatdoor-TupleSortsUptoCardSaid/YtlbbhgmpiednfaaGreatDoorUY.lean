/- tuple.Parse. -/
import Derived.Test.YtlbbhgmpiednfaaGreatDoorUG
import Derived.Test.YtlbbhgmpiednfaaGreatDoorUN
namespace Go.Proofs.YtlbbhgmpiednfaaGreatDoor.HTupY
open Go.RowKit Go.Proofs.YtlbbhgmpiednfaaGreatDoorW.PrintWords Go.Proofs.YtlbbhgmpiednfaaGreatDoor.HLib Go.Proofs.YtlbbhgmpiednfaaGreatDoor.HGr Go.Proofs.YtlbbhgmpiednfaaGreatDoor.HErr Go.Proofs.YtlbbhgmpiednfaaGreatDoor.HNameP Go.Proofs.YtlbbhgmpiednfaaGreatDoor.HName Go.Proofs.YtlbbhgmpiednfaaGreatDoor.HTupP Go.Proofs.YtlbbhgmpiednfaaGreatDoor.HTupR Go.Proofs.YtlbbhgmpiednfaaGreatDoor.HTupG
set_option linter.unusedVariables false
set_option linter.unusedSimpArgs false

set_option maxRecDepth 20000 in
set_option maxHeartbeats 4000000 in
theorem parse_A1 (s front back object relation subject userset o1 o2 u1 u2 : ByteArray) (ok is_ set_ : Bool) (hs : s.size ≤ 1000000000)
    (hx : cutP s 64 = (front, back, false)) (hy : cutP front 35 = (object, relation, is_)) (hz : cutP back 35 = (subject, userset, set_)) (hl : front.size ≤ 1000000000 ∧ back.size ≤ 1000000000 ∧ object.size ≤ 1000000000 ∧ relation.size ≤ 1000000000 ∧ subject.size ≤ 1000000000)
    (w : World) (hG : GV w) : Calls Tryz.prog 21 #[.string s] w fun e w' => e = .returned (.tuple #[tvv (Tp.nil), errV (some (6, (s.size : Int)))]) ∧ Below w.heap.size w w' := by
  obtain ⟨hl1, hl2, hl3, hl4, hl5⟩ := hl
  have k1 : IntKind.i64.wrap ((object.size : Int) + 1) = (object.size : Int) + 1 := by rw [IntKind.wrap_i64]; omega
  have k2 : IntKind.i64.wrap ((front.size : Int) + 1) = (front.size : Int) + 1 := by rw [IntKind.wrap_i64]; omega
  have k3 : IntKind.i64.wrap ((front.size : Int) + 1 + (subject.size : Int)) = (front.size : Int) + 1 + (subject.size : Int) := by rw [IntKind.wrap_i64]; omega
  have k4 : IntKind.i64.wrap ((front.size : Int) + 1 + (subject.size : Int) + 1) = (front.size : Int) + 1 + (subject.size : Int) + 1 := by rw [IntKind.wrap_i64]; omega
  have HX := Aside0.mk hx
  have HY := Aside0.mk hy
  have HZ := Aside0.mk hz
  have HS := Aside0.mk hs
  have HL := Aside0.mk (show front.size ≤ 1000000000 ∧ back.size ≤ 1000000000 ∧ object.size ≤ 1000000000 ∧ relation.size ≤ 1000000000 ∧ subject.size ≤ 1000000000 from ⟨hl1, hl2, hl3, hl4, hl5⟩)
  obtain ⟨W, hW⟩ : ∃ W, W = w.alloc (.cells zc 32) := ⟨_, rfl⟩
  have HB := Aside0.mk (show Below w.heap.size w W from by rw [hW]; exact below_alloc (B0 w) _)
  have hr : W.heap[w.heap.size]? = some (.cells zc 32 (0, 0)) := by rw [hW]; exact blk_new w _
  have HG := Aside0.mk (hG.below HB.out)
  obtain ⟨g, hg⟩ : ∃ g, g = w.heap.size := ⟨_, rfl⟩
  rw [← hg] at hr
  have HR := Aside0.mk hr
  have HGE := Aside0.mk (show w.heap.size ≤ g from by omega)
  clear hx hy hz hs hl1 hl2 hl3 hl4 hl5 hG hr
  go_enter Tryz.func21, Tryz.ntmps21
  go_wp2_with fail
  rw [← hW, ← hg]
  clear hW hg
  refine (cut_any s 64 64 rfl (by decide) W (by have := HS.out; omega)).mono ?_
  rintro e_ w1 ⟨rfl, hb⟩
  rw [HX.out]
  have HR' := Aside0.mk (blk_below HR.out hb)
  have HG' := Aside0.mk (HG.out.below hb)
  have HB' := Aside0.mk (below_step HB.out hb)
  clear HR HG HB hb
  have HR := HR'
  have HG := HG'
  have HB := HB'
  clear HR' HG' HB'
  go_wp2_with fail
  refine (cut_any front 35 35 rfl (by decide) w1 (by have := HL.out; omega)).mono ?_
  rintro e_ w2 ⟨rfl, hb⟩
  rw [HY.out]
  have HR' := Aside0.mk (blk_below HR.out hb)
  have HG' := Aside0.mk (HG.out.below hb)
  have HB' := Aside0.mk (below_step HB.out hb)
  clear HR HG HB hb
  have HR := HR'
  have HG := HG'
  have HB := HB'
  clear HR' HG' HB'
  have z0 : w2.cell? ⟨g, 0, none⟩ = some (.string ⟨#[]⟩) := (blk_cell HR.out 0).trans rfl
  have z1 : w2.cell? ⟨g, 1, none⟩ = some (.string ⟨#[]⟩) := (blk_cell HR.out 1).trans rfl
  have z2 : w2.cell? ⟨g, 2, none⟩ = some (.string ⟨#[]⟩) := (blk_cell HR.out 2).trans rfl
  have z3 : w2.cell? ⟨g, 3, none⟩ = some (.string ⟨#[]⟩) := (blk_cell HR.out 3).trans rfl
  have z4 : w2.cell? ⟨g, 4, none⟩ = some (.string ⟨#[]⟩) := (blk_cell HR.out 4).trans rfl
  have z5 : w2.cell? ⟨g, 5, none⟩ = some (.string ⟨#[]⟩) := (blk_cell HR.out 5).trans rfl
  have fz0 : w2.frozen? ⟨g, 0, none⟩ = false := blk_frozen HR.out 0
  have fz1 : w2.frozen? ⟨g, 1, none⟩ = false := blk_frozen HR.out 1
  have fz2 : w2.frozen? ⟨g, 2, none⟩ = false := blk_frozen HR.out 2
  have fz3 : w2.frozen? ⟨g, 3, none⟩ = false := blk_frozen HR.out 3
  have fz4 : w2.frozen? ⟨g, 4, none⟩ = false := blk_frozen HR.out 4
  have fz5 : w2.frozen? ⟨g, 5, none⟩ = false := blk_frozen HR.out 5
  go_wp2_with fail
  refine (new_any _ _ _).mono ?_
  rintro e_ w3 ⟨rfl, rfl⟩
  go_wp2
  have hf := fin_row HR.out (⟨⟨#[]⟩, ⟨#[]⟩, ⟨#[]⟩, ⟨#[]⟩, ⟨#[]⟩, ⟨#[]⟩⟩ : Tp)
  have hbf := fin_below HGE.out HB.out (⟨⟨#[]⟩, ⟨#[]⟩, ⟨#[]⟩, ⟨#[]⟩, ⟨#[]⟩, ⟨#[]⟩⟩ : Tp)
  dsimp only [rowc] at hf hbf
  generalize hW9 : ((((((w2.setCell ⟨g, 0, none⟩ (.string ⟨#[]⟩)).setCell ⟨g, 1, none⟩ (.string ⟨#[]⟩)).setCell ⟨g, 2, none⟩ (.string ⟨#[]⟩)).setCell ⟨g, 3, none⟩ (.string ⟨#[]⟩)).setCell ⟨g, 4, none⟩ (.string ⟨#[]⟩)).setCell ⟨g, 5, none⟩ (.string ⟨#[]⟩)) = W9 at hf hbf ⊢
  clear hW9
  have d0 := (blk_cell hf 0).trans rfl
  have d1 := (blk_cell hf 1).trans rfl
  have d2 := (blk_cell hf 2).trans rfl
  have d3 := (blk_cell hf 3).trans rfl
  have d4 := (blk_cell hf 4).trans rfl
  have d5 := (blk_cell hf 5).trans rfl
  refine bodyPost_ret (v := .tuple #[tvv (Tp.nil), errV (some (6, (s.size : Int)))]) (by simp [results, Tryz.results21, go_sem, errV, d0, d1, d2, d3, d4, d5, Tp.nil]) rfl ⟨rfl, hbf⟩
set_option maxRecDepth 20000 in
set_option maxHeartbeats 4000000 in
theorem parse_A2 (s front back object relation subject userset o1 o2 u1 u2 : ByteArray) (ok is_ set_ : Bool) (hs : s.size ≤ 1000000000)
    (hx : cutP s 64 = (front, back, true)) (hy : cutP front 35 = (object, relation, false)) (hz : cutP back 35 = (subject, userset, set_)) (hl : front.size ≤ 1000000000 ∧ back.size ≤ 1000000000 ∧ object.size ≤ 1000000000 ∧ relation.size ≤ 1000000000 ∧ subject.size ≤ 1000000000)
    (w : World) (hG : GV w) : Calls Tryz.prog 21 #[.string s] w fun e w' => e = .returned (.tuple #[tvv (Tp.nil), errV (some (6, (s.size : Int)))]) ∧ Below w.heap.size w w' := by
  obtain ⟨hl1, hl2, hl3, hl4, hl5⟩ := hl
  have k1 : IntKind.i64.wrap ((object.size : Int) + 1) = (object.size : Int) + 1 := by rw [IntKind.wrap_i64]; omega
  have k2 : IntKind.i64.wrap ((front.size : Int) + 1) = (front.size : Int) + 1 := by rw [IntKind.wrap_i64]; omega
  have k3 : IntKind.i64.wrap ((front.size : Int) + 1 + (subject.size : Int)) = (front.size : Int) + 1 + (subject.size : Int) := by rw [IntKind.wrap_i64]; omega
  have k4 : IntKind.i64.wrap ((front.size : Int) + 1 + (subject.size : Int) + 1) = (front.size : Int) + 1 + (subject.size : Int) + 1 := by rw [IntKind.wrap_i64]; omega
  have HX := Aside0.mk hx
  have HY := Aside0.mk hy
  have HZ := Aside0.mk hz
  have HS := Aside0.mk hs
  have HL := Aside0.mk (show front.size ≤ 1000000000 ∧ back.size ≤ 1000000000 ∧ object.size ≤ 1000000000 ∧ relation.size ≤ 1000000000 ∧ subject.size ≤ 1000000000 from ⟨hl1, hl2, hl3, hl4, hl5⟩)
  obtain ⟨W, hW⟩ : ∃ W, W = w.alloc (.cells zc 32) := ⟨_, rfl⟩
  have HB := Aside0.mk (show Below w.heap.size w W from by rw [hW]; exact below_alloc (B0 w) _)
  have hr : W.heap[w.heap.size]? = some (.cells zc 32 (0, 0)) := by rw [hW]; exact blk_new w _
  have HG := Aside0.mk (hG.below HB.out)
  obtain ⟨g, hg⟩ : ∃ g, g = w.heap.size := ⟨_, rfl⟩
  rw [← hg] at hr
  have HR := Aside0.mk hr
  have HGE := Aside0.mk (show w.heap.size ≤ g from by omega)
  clear hx hy hz hs hl1 hl2 hl3 hl4 hl5 hG hr
  go_enter Tryz.func21, Tryz.ntmps21
  go_wp2_with fail
  rw [← hW, ← hg]
  clear hW hg
  refine (cut_any s 64 64 rfl (by decide) W (by have := HS.out; omega)).mono ?_
  rintro e_ w1 ⟨rfl, hb⟩
  rw [HX.out]
  have HR' := Aside0.mk (blk_below HR.out hb)
  have HG' := Aside0.mk (HG.out.below hb)
  have HB' := Aside0.mk (below_step HB.out hb)
  clear HR HG HB hb
  have HR := HR'
  have HG := HG'
  have HB := HB'
  clear HR' HG' HB'
  go_wp2_with fail
  refine (cut_any front 35 35 rfl (by decide) w1 (by have := HL.out; omega)).mono ?_
  rintro e_ w2 ⟨rfl, hb⟩
  rw [HY.out]
  have HR' := Aside0.mk (blk_below HR.out hb)
  have HG' := Aside0.mk (HG.out.below hb)
  have HB' := Aside0.mk (below_step HB.out hb)
  clear HR HG HB hb
  have HR := HR'
  have HG := HG'
  have HB := HB'
  clear HR' HG' HB'
  have z0 : w2.cell? ⟨g, 0, none⟩ = some (.string ⟨#[]⟩) := (blk_cell HR.out 0).trans rfl
  have z1 : w2.cell? ⟨g, 1, none⟩ = some (.string ⟨#[]⟩) := (blk_cell HR.out 1).trans rfl
  have z2 : w2.cell? ⟨g, 2, none⟩ = some (.string ⟨#[]⟩) := (blk_cell HR.out 2).trans rfl
  have z3 : w2.cell? ⟨g, 3, none⟩ = some (.string ⟨#[]⟩) := (blk_cell HR.out 3).trans rfl
  have z4 : w2.cell? ⟨g, 4, none⟩ = some (.string ⟨#[]⟩) := (blk_cell HR.out 4).trans rfl
  have z5 : w2.cell? ⟨g, 5, none⟩ = some (.string ⟨#[]⟩) := (blk_cell HR.out 5).trans rfl
  have fz0 : w2.frozen? ⟨g, 0, none⟩ = false := blk_frozen HR.out 0
  have fz1 : w2.frozen? ⟨g, 1, none⟩ = false := blk_frozen HR.out 1
  have fz2 : w2.frozen? ⟨g, 2, none⟩ = false := blk_frozen HR.out 2
  have fz3 : w2.frozen? ⟨g, 3, none⟩ = false := blk_frozen HR.out 3
  have fz4 : w2.frozen? ⟨g, 4, none⟩ = false := blk_frozen HR.out 4
  have fz5 : w2.frozen? ⟨g, 5, none⟩ = false := blk_frozen HR.out 5
  go_wp2_with fail
  refine (new_any _ _ _).mono ?_
  rintro e_ w3 ⟨rfl, rfl⟩
  go_wp2
  have hf := fin_row HR.out (⟨⟨#[]⟩, ⟨#[]⟩, ⟨#[]⟩, ⟨#[]⟩, ⟨#[]⟩, ⟨#[]⟩⟩ : Tp)
  have hbf := fin_below HGE.out HB.out (⟨⟨#[]⟩, ⟨#[]⟩, ⟨#[]⟩, ⟨#[]⟩, ⟨#[]⟩, ⟨#[]⟩⟩ : Tp)
  dsimp only [rowc] at hf hbf
  generalize hW9 : ((((((w2.setCell ⟨g, 0, none⟩ (.string ⟨#[]⟩)).setCell ⟨g, 1, none⟩ (.string ⟨#[]⟩)).setCell ⟨g, 2, none⟩ (.string ⟨#[]⟩)).setCell ⟨g, 3, none⟩ (.string ⟨#[]⟩)).setCell ⟨g, 4, none⟩ (.string ⟨#[]⟩)).setCell ⟨g, 5, none⟩ (.string ⟨#[]⟩)) = W9 at hf hbf ⊢
  clear hW9
  have d0 := (blk_cell hf 0).trans rfl
  have d1 := (blk_cell hf 1).trans rfl
  have d2 := (blk_cell hf 2).trans rfl
  have d3 := (blk_cell hf 3).trans rfl
  have d4 := (blk_cell hf 4).trans rfl
  have d5 := (blk_cell hf 5).trans rfl
  refine bodyPost_ret (v := .tuple #[tvv (Tp.nil), errV (some (6, (s.size : Int)))]) (by simp [results, Tryz.results21, go_sem, errV, d0, d1, d2, d3, d4, d5, Tp.nil]) rfl ⟨rfl, hbf⟩
set_option maxRecDepth 20000 in
set_option maxHeartbeats 4000000 in
theorem parse_B (s front back object relation subject userset o1 o2 u1 u2 : ByteArray) (ok is_ set_ : Bool) (hs : s.size ≤ 1000000000)
    (hx : cutP s 64 = (front, back, true)) (hy : cutP front 35 = (object, relation, true)) (hz : cutP back 35 = (subject, userset, set_)) (hl : front.size ≤ 1000000000 ∧ back.size ≤ 1000000000 ∧ object.size ≤ 1000000000 ∧ relation.size ≤ 1000000000 ∧ subject.size ≤ 1000000000) (n4 m4 : Int) (HO : Aside0 (parseO object = (o1, o2, some (n4, m4))))
    (w : World) (hG : GV w) : Calls Tryz.prog 21 #[.string s] w fun e w' => e = .returned (.tuple #[tvv (Tp.nil), errV (some (n4, m4))]) ∧ Below w.heap.size w w' := by
  obtain ⟨hl1, hl2, hl3, hl4, hl5⟩ := hl
  have k1 : IntKind.i64.wrap ((object.size : Int) + 1) = (object.size : Int) + 1 := by rw [IntKind.wrap_i64]; omega
  have k2 : IntKind.i64.wrap ((front.size : Int) + 1) = (front.size : Int) + 1 := by rw [IntKind.wrap_i64]; omega
  have k3 : IntKind.i64.wrap ((front.size : Int) + 1 + (subject.size : Int)) = (front.size : Int) + 1 + (subject.size : Int) := by rw [IntKind.wrap_i64]; omega
  have k4 : IntKind.i64.wrap ((front.size : Int) + 1 + (subject.size : Int) + 1) = (front.size : Int) + 1 + (subject.size : Int) + 1 := by rw [IntKind.wrap_i64]; omega
  have HX := Aside0.mk hx
  have HY := Aside0.mk hy
  have HZ := Aside0.mk hz
  have HS := Aside0.mk hs
  have HL := Aside0.mk (show front.size ≤ 1000000000 ∧ back.size ≤ 1000000000 ∧ object.size ≤ 1000000000 ∧ relation.size ≤ 1000000000 ∧ subject.size ≤ 1000000000 from ⟨hl1, hl2, hl3, hl4, hl5⟩)
  obtain ⟨W, hW⟩ : ∃ W, W = w.alloc (.cells zc 32) := ⟨_, rfl⟩
  have HB := Aside0.mk (show Below w.heap.size w W from by rw [hW]; exact below_alloc (B0 w) _)
  have hr : W.heap[w.heap.size]? = some (.cells zc 32 (0, 0)) := by rw [hW]; exact blk_new w _
  have HG := Aside0.mk (hG.below HB.out)
  obtain ⟨g, hg⟩ : ∃ g, g = w.heap.size := ⟨_, rfl⟩
  rw [← hg] at hr
  have HR := Aside0.mk hr
  have HGE := Aside0.mk (show w.heap.size ≤ g from by omega)
  clear hx hy hz hs hl1 hl2 hl3 hl4 hl5 hG hr
  go_enter Tryz.func21, Tryz.ntmps21
  go_wp2_with fail
  rw [← hW, ← hg]
  clear hW hg
  refine (cut_any s 64 64 rfl (by decide) W (by have := HS.out; omega)).mono ?_
  rintro e_ w1 ⟨rfl, hb⟩
  rw [HX.out]
  have HR' := Aside0.mk (blk_below HR.out hb)
  have HG' := Aside0.mk (HG.out.below hb)
  have HB' := Aside0.mk (below_step HB.out hb)
  clear HR HG HB hb
  have HR := HR'
  have HG := HG'
  have HB := HB'
  clear HR' HG' HB'
  go_wp2_with fail
  refine (cut_any front 35 35 rfl (by decide) w1 (by have := HL.out; omega)).mono ?_
  rintro e_ w2 ⟨rfl, hb⟩
  rw [HY.out]
  have HR' := Aside0.mk (blk_below HR.out hb)
  have HG' := Aside0.mk (HG.out.below hb)
  have HB' := Aside0.mk (below_step HB.out hb)
  clear HR HG HB hb
  have HR := HR'
  have HG := HG'
  have HB := HB'
  clear HR' HG' HB'
  go_wp2_with fail
  refine (cut_any back 35 35 rfl (by decide) w2 (by have := HL.out; omega)).mono ?_
  rintro e_ w3 ⟨rfl, hb⟩
  rw [HZ.out]
  have HR' := Aside0.mk (blk_below HR.out hb)
  have HG' := Aside0.mk (HG.out.below hb)
  have HB' := Aside0.mk (below_step HB.out hb)
  clear HR HG HB hb
  have HR := HR'
  have HG := HG'
  have HB := HB'
  clear HR' HG' HB'
  go_wp2_with fail
  refine (parseobject_any object w3 (by have := HL.out; omega) HG.out.1).mono ?_
  rintro e_ w4 ⟨rfl, hb⟩
  rw [HO.out]
  dsimp only [errV]
  have HR' := Aside0.mk (blk_below HR.out hb)
  have HG' := Aside0.mk (HG.out.below hb)
  have HB' := Aside0.mk (below_step HB.out hb)
  clear HR HG HB hb
  have HR := HR'
  have HG := HG'
  have HB := HB'
  clear HR' HG' HB'
  obtain ⟨V4, hV4⟩ : ∃ V, V = w4.alloc (.cells #[.string o1, .string o2] 30) := ⟨_, rfl⟩
  have hO4 : V4.heap[w4.heap.size]? = some (.cells #[.string o1, .string o2] 30 (0, 0)) := by rw [hV4]; exact blk_new w4 _
  have hb : Below w4.heap.size w4 V4 := by rw [hV4]; exact below_alloc (B0 w4) _
  have HR' := Aside0.mk (blk_below HR.out hb)
  have HG' := Aside0.mk (HG.out.below hb)
  have HB' := Aside0.mk (below_step HB.out hb)
  clear HR HG HB hb
  have HR := HR'
  have HG := HG'
  have HB := HB'
  clear HR' HG' HB'
  obtain ⟨go, hgo⟩ : ∃ go, go = w4.heap.size := ⟨_, rfl⟩
  rw [← hgo] at hO4
  have HOB := Aside0.mk hO4
  clear hO4
  have hV5 := Aside0.mk hV4
  have z0 : V4.cell? ⟨g, 0, none⟩ = some (.string ⟨#[]⟩) := (blk_cell HR.out 0).trans rfl
  have z1 : V4.cell? ⟨g, 1, none⟩ = some (.string ⟨#[]⟩) := (blk_cell HR.out 1).trans rfl
  have z2 : V4.cell? ⟨g, 2, none⟩ = some (.string ⟨#[]⟩) := (blk_cell HR.out 2).trans rfl
  have z3 : V4.cell? ⟨g, 3, none⟩ = some (.string ⟨#[]⟩) := (blk_cell HR.out 3).trans rfl
  have z4 : V4.cell? ⟨g, 4, none⟩ = some (.string ⟨#[]⟩) := (blk_cell HR.out 4).trans rfl
  have z5 : V4.cell? ⟨g, 5, none⟩ = some (.string ⟨#[]⟩) := (blk_cell HR.out 5).trans rfl
  have fz0 : V4.frozen? ⟨g, 0, none⟩ = false := blk_frozen HR.out 0
  have fz1 : V4.frozen? ⟨g, 1, none⟩ = false := blk_frozen HR.out 1
  have fz2 : V4.frozen? ⟨g, 2, none⟩ = false := blk_frozen HR.out 2
  have fz3 : V4.frozen? ⟨g, 3, none⟩ = false := blk_frozen HR.out 3
  have fz4 : V4.frozen? ⟨g, 4, none⟩ = false := blk_frozen HR.out 4
  have fz5 : V4.frozen? ⟨g, 5, none⟩ = false := blk_frozen HR.out 5
  go_upto_region 7 with fail
  rw [← hV4, ← hgo]
  clear hV4 hgo hV5
  go_wp2
  have hf := fin_row HR.out (⟨⟨#[]⟩, ⟨#[]⟩, ⟨#[]⟩, ⟨#[]⟩, ⟨#[]⟩, ⟨#[]⟩⟩ : Tp)
  have hbf := fin_below HGE.out HB.out (⟨⟨#[]⟩, ⟨#[]⟩, ⟨#[]⟩, ⟨#[]⟩, ⟨#[]⟩, ⟨#[]⟩⟩ : Tp)
  dsimp only [rowc] at hf hbf
  generalize hW9 : ((((((V4.setCell ⟨g, 0, none⟩ (.string ⟨#[]⟩)).setCell ⟨g, 1, none⟩ (.string ⟨#[]⟩)).setCell ⟨g, 2, none⟩ (.string ⟨#[]⟩)).setCell ⟨g, 3, none⟩ (.string ⟨#[]⟩)).setCell ⟨g, 4, none⟩ (.string ⟨#[]⟩)).setCell ⟨g, 5, none⟩ (.string ⟨#[]⟩)) = W9 at hf hbf ⊢
  clear hW9
  have d0 := (blk_cell hf 0).trans rfl
  have d1 := (blk_cell hf 1).trans rfl
  have d2 := (blk_cell hf 2).trans rfl
  have d3 := (blk_cell hf 3).trans rfl
  have d4 := (blk_cell hf 4).trans rfl
  have d5 := (blk_cell hf 5).trans rfl
  refine bodyPost_ret (v := .tuple #[tvv (Tp.nil), errV (some (n4, m4))]) (by simp [results, Tryz.results21, go_sem, errV, d0, d1, d2, d3, d4, d5, Tp.nil]) rfl ⟨rfl, hbf⟩
set_option maxRecDepth 20000 in
set_option maxHeartbeats 4000000 in
theorem parse_C (s front back object relation subject userset o1 o2 u1 u2 : ByteArray) (ok is_ set_ : Bool) (hs : s.size ≤ 1000000000)
    (hx : cutP s 64 = (front, back, true)) (hy : cutP front 35 = (object, relation, true)) (hz : cutP back 35 = (subject, userset, set_)) (hl : front.size ≤ 1000000000 ∧ back.size ≤ 1000000000 ∧ object.size ≤ 1000000000 ∧ relation.size ≤ 1000000000 ∧ subject.size ≤ 1000000000) (HO : Aside0 (parseO object = (o1, o2, none))) (HI : Aside0 (isP relation = false))
    (w : World) (hG : GV w) : Calls Tryz.prog 21 #[.string s] w fun e w' => e = .returned (.tuple #[tvv (Tp.nil), errV (some (5, (object.size : Int) + 1))]) ∧ Below w.heap.size w w' := by
  obtain ⟨hl1, hl2, hl3, hl4, hl5⟩ := hl
  have k1 : IntKind.i64.wrap ((object.size : Int) + 1) = (object.size : Int) + 1 := by rw [IntKind.wrap_i64]; omega
  have k2 : IntKind.i64.wrap ((front.size : Int) + 1) = (front.size : Int) + 1 := by rw [IntKind.wrap_i64]; omega
  have k3 : IntKind.i64.wrap ((front.size : Int) + 1 + (subject.size : Int)) = (front.size : Int) + 1 + (subject.size : Int) := by rw [IntKind.wrap_i64]; omega
  have k4 : IntKind.i64.wrap ((front.size : Int) + 1 + (subject.size : Int) + 1) = (front.size : Int) + 1 + (subject.size : Int) + 1 := by rw [IntKind.wrap_i64]; omega
  have HX := Aside0.mk hx
  have HY := Aside0.mk hy
  have HZ := Aside0.mk hz
  have HS := Aside0.mk hs
  have HL := Aside0.mk (show front.size ≤ 1000000000 ∧ back.size ≤ 1000000000 ∧ object.size ≤ 1000000000 ∧ relation.size ≤ 1000000000 ∧ subject.size ≤ 1000000000 from ⟨hl1, hl2, hl3, hl4, hl5⟩)
  obtain ⟨W, hW⟩ : ∃ W, W = w.alloc (.cells zc 32) := ⟨_, rfl⟩
  have HB := Aside0.mk (show Below w.heap.size w W from by rw [hW]; exact below_alloc (B0 w) _)
  have hr : W.heap[w.heap.size]? = some (.cells zc 32 (0, 0)) := by rw [hW]; exact blk_new w _
  have HG := Aside0.mk (hG.below HB.out)
  obtain ⟨g, hg⟩ : ∃ g, g = w.heap.size := ⟨_, rfl⟩
  rw [← hg] at hr
  have HR := Aside0.mk hr
  have HGE := Aside0.mk (show w.heap.size ≤ g from by omega)
  clear hx hy hz hs hl1 hl2 hl3 hl4 hl5 hG hr
  go_enter Tryz.func21, Tryz.ntmps21
  go_wp2_with fail
  rw [← hW, ← hg]
  clear hW hg
  refine (cut_any s 64 64 rfl (by decide) W (by have := HS.out; omega)).mono ?_
  rintro e_ w1 ⟨rfl, hb⟩
  rw [HX.out]
  have HR' := Aside0.mk (blk_below HR.out hb)
  have HG' := Aside0.mk (HG.out.below hb)
  have HB' := Aside0.mk (below_step HB.out hb)
  clear HR HG HB hb
  have HR := HR'
  have HG := HG'
  have HB := HB'
  clear HR' HG' HB'
  go_wp2_with fail
  refine (cut_any front 35 35 rfl (by decide) w1 (by have := HL.out; omega)).mono ?_
  rintro e_ w2 ⟨rfl, hb⟩
  rw [HY.out]
  have HR' := Aside0.mk (blk_below HR.out hb)
  have HG' := Aside0.mk (HG.out.below hb)
  have HB' := Aside0.mk (below_step HB.out hb)
  clear HR HG HB hb
  have HR := HR'
  have HG := HG'
  have HB := HB'
  clear HR' HG' HB'
  go_wp2_with fail
  refine (cut_any back 35 35 rfl (by decide) w2 (by have := HL.out; omega)).mono ?_
  rintro e_ w3 ⟨rfl, hb⟩
  rw [HZ.out]
  have HR' := Aside0.mk (blk_below HR.out hb)
  have HG' := Aside0.mk (HG.out.below hb)
  have HB' := Aside0.mk (below_step HB.out hb)
  clear HR HG HB hb
  have HR := HR'
  have HG := HG'
  have HB := HB'
  clear HR' HG' HB'
  go_wp2_with fail
  refine (parseobject_any object w3 (by have := HL.out; omega) HG.out.1).mono ?_
  rintro e_ w4 ⟨rfl, hb⟩
  rw [HO.out]
  dsimp only [errV]
  have HR' := Aside0.mk (blk_below HR.out hb)
  have HG' := Aside0.mk (HG.out.below hb)
  have HB' := Aside0.mk (below_step HB.out hb)
  clear HR HG HB hb
  have HR := HR'
  have HG := HG'
  have HB := HB'
  clear HR' HG' HB'
  obtain ⟨V4, hV4⟩ : ∃ V, V = w4.alloc (.cells #[.string o1, .string o2] 30) := ⟨_, rfl⟩
  have hO4 : V4.heap[w4.heap.size]? = some (.cells #[.string o1, .string o2] 30 (0, 0)) := by rw [hV4]; exact blk_new w4 _
  have hb : Below w4.heap.size w4 V4 := by rw [hV4]; exact below_alloc (B0 w4) _
  have HR' := Aside0.mk (blk_below HR.out hb)
  have HG' := Aside0.mk (HG.out.below hb)
  have HB' := Aside0.mk (below_step HB.out hb)
  clear HR HG HB hb
  have HR := HR'
  have HG := HG'
  have HB := HB'
  clear HR' HG' HB'
  obtain ⟨go, hgo⟩ : ∃ go, go = w4.heap.size := ⟨_, rfl⟩
  rw [← hgo] at hO4
  have HOB := Aside0.mk hO4
  clear hO4
  go_upto_region 7 with fail
  rw [← hV4, ← hgo]
  clear hV4 hgo
  go_wp2_with fail
  refine (is_any relation V4 HG.out.1).mono ?_
  rintro e_ w5 ⟨rfl, rfl⟩
  rw [HI.out]
  have z0 : V4.cell? ⟨g, 0, none⟩ = some (.string ⟨#[]⟩) := (blk_cell HR.out 0).trans rfl
  have z1 : V4.cell? ⟨g, 1, none⟩ = some (.string ⟨#[]⟩) := (blk_cell HR.out 1).trans rfl
  have z2 : V4.cell? ⟨g, 2, none⟩ = some (.string ⟨#[]⟩) := (blk_cell HR.out 2).trans rfl
  have z3 : V4.cell? ⟨g, 3, none⟩ = some (.string ⟨#[]⟩) := (blk_cell HR.out 3).trans rfl
  have z4 : V4.cell? ⟨g, 4, none⟩ = some (.string ⟨#[]⟩) := (blk_cell HR.out 4).trans rfl
  have z5 : V4.cell? ⟨g, 5, none⟩ = some (.string ⟨#[]⟩) := (blk_cell HR.out 5).trans rfl
  have fz0 : V4.frozen? ⟨g, 0, none⟩ = false := blk_frozen HR.out 0
  have fz1 : V4.frozen? ⟨g, 1, none⟩ = false := blk_frozen HR.out 1
  have fz2 : V4.frozen? ⟨g, 2, none⟩ = false := blk_frozen HR.out 2
  have fz3 : V4.frozen? ⟨g, 3, none⟩ = false := blk_frozen HR.out 3
  have fz4 : V4.frozen? ⟨g, 4, none⟩ = false := blk_frozen HR.out 4
  have fz5 : V4.frozen? ⟨g, 5, none⟩ = false := blk_frozen HR.out 5
  go_wp2_with fail
  refine (new_any _ _ _).mono ?_
  rintro e_ w6 ⟨rfl, rfl⟩
  go_wp2
  have hf := fin_row HR.out (⟨⟨#[]⟩, ⟨#[]⟩, ⟨#[]⟩, ⟨#[]⟩, ⟨#[]⟩, ⟨#[]⟩⟩ : Tp)
  have hbf := fin_below HGE.out HB.out (⟨⟨#[]⟩, ⟨#[]⟩, ⟨#[]⟩, ⟨#[]⟩, ⟨#[]⟩, ⟨#[]⟩⟩ : Tp)
  dsimp only [rowc] at hf hbf
  generalize hW9 : ((((((V4.setCell ⟨g, 0, none⟩ (.string ⟨#[]⟩)).setCell ⟨g, 1, none⟩ (.string ⟨#[]⟩)).setCell ⟨g, 2, none⟩ (.string ⟨#[]⟩)).setCell ⟨g, 3, none⟩ (.string ⟨#[]⟩)).setCell ⟨g, 4, none⟩ (.string ⟨#[]⟩)).setCell ⟨g, 5, none⟩ (.string ⟨#[]⟩)) = W9 at hf hbf ⊢
  clear hW9
  have d0 := (blk_cell hf 0).trans rfl
  have d1 := (blk_cell hf 1).trans rfl
  have d2 := (blk_cell hf 2).trans rfl
  have d3 := (blk_cell hf 3).trans rfl
  have d4 := (blk_cell hf 4).trans rfl
  have d5 := (blk_cell hf 5).trans rfl
  refine bodyPost_ret (v := .tuple #[tvv (Tp.nil), errV (some (5, (object.size : Int) + 1))]) (by simp [results, Tryz.results21, go_sem, errV, d0, d1, d2, d3, d4, d5, Tp.nil]) rfl ⟨rfl, hbf⟩
set_option maxRecDepth 20000 in
set_option maxHeartbeats 4000000 in
theorem parse_D (s front back object relation subject userset o1 o2 u1 u2 : ByteArray) (ok is_ set_ : Bool) (hs : s.size ≤ 1000000000)
    (hx : cutP s 64 = (front, back, true)) (hy : cutP front 35 = (object, relation, true)) (hz : cutP back 35 = (subject, userset, set_)) (hl : front.size ≤ 1000000000 ∧ back.size ≤ 1000000000 ∧ object.size ≤ 1000000000 ∧ relation.size ≤ 1000000000 ∧ subject.size ≤ 1000000000) (HO : Aside0 (parseO object = (o1, o2, none))) (HI : Aside0 (isP relation = true)) (n6 m6 : Int) (HE : Aside0 (-4611686018427387904 ≤ m6 ∧ m6 ≤ 4611686018427387903)) (HU : Aside0 (parseO subject = (u1, u2, some (n6, m6))))
    (w : World) (hG : GV w) : Calls Tryz.prog 21 #[.string s] w fun e w' => e = .returned (.tuple #[tvv (Tp.nil), errV (some (n6, m6 + ((front.size : Int) + 1)))]) ∧ Below w.heap.size w w' := by
  obtain ⟨hl1, hl2, hl3, hl4, hl5⟩ := hl
  have k1 : IntKind.i64.wrap ((object.size : Int) + 1) = (object.size : Int) + 1 := by rw [IntKind.wrap_i64]; omega
  have k2 : IntKind.i64.wrap ((front.size : Int) + 1) = (front.size : Int) + 1 := by rw [IntKind.wrap_i64]; omega
  have k3 : IntKind.i64.wrap ((front.size : Int) + 1 + (subject.size : Int)) = (front.size : Int) + 1 + (subject.size : Int) := by rw [IntKind.wrap_i64]; omega
  have k4 : IntKind.i64.wrap ((front.size : Int) + 1 + (subject.size : Int) + 1) = (front.size : Int) + 1 + (subject.size : Int) + 1 := by rw [IntKind.wrap_i64]; omega
  have HX := Aside0.mk hx
  have HY := Aside0.mk hy
  have HZ := Aside0.mk hz
  have HS := Aside0.mk hs
  have HL := Aside0.mk (show front.size ≤ 1000000000 ∧ back.size ≤ 1000000000 ∧ object.size ≤ 1000000000 ∧ relation.size ≤ 1000000000 ∧ subject.size ≤ 1000000000 from ⟨hl1, hl2, hl3, hl4, hl5⟩)
  obtain ⟨W, hW⟩ : ∃ W, W = w.alloc (.cells zc 32) := ⟨_, rfl⟩
  have HB := Aside0.mk (show Below w.heap.size w W from by rw [hW]; exact below_alloc (B0 w) _)
  have hr : W.heap[w.heap.size]? = some (.cells zc 32 (0, 0)) := by rw [hW]; exact blk_new w _
  have HG := Aside0.mk (hG.below HB.out)
  obtain ⟨g, hg⟩ : ∃ g, g = w.heap.size := ⟨_, rfl⟩
  rw [← hg] at hr
  have HR := Aside0.mk hr
  have HGE := Aside0.mk (show w.heap.size ≤ g from by omega)
  clear hx hy hz hs hl1 hl2 hl3 hl4 hl5 hG hr
  go_enter Tryz.func21, Tryz.ntmps21
  go_wp2_with fail
  rw [← hW, ← hg]
  clear hW hg
  refine (cut_any s 64 64 rfl (by decide) W (by have := HS.out; omega)).mono ?_
  rintro e_ w1 ⟨rfl, hb⟩
  rw [HX.out]
  have HR' := Aside0.mk (blk_below HR.out hb)
  have HG' := Aside0.mk (HG.out.below hb)
  have HB' := Aside0.mk (below_step HB.out hb)
  clear HR HG HB hb
  have HR := HR'
  have HG := HG'
  have HB := HB'
  clear HR' HG' HB'
  go_wp2_with fail
  refine (cut_any front 35 35 rfl (by decide) w1 (by have := HL.out; omega)).mono ?_
  rintro e_ w2 ⟨rfl, hb⟩
  rw [HY.out]
  have HR' := Aside0.mk (blk_below HR.out hb)
  have HG' := Aside0.mk (HG.out.below hb)
  have HB' := Aside0.mk (below_step HB.out hb)
  clear HR HG HB hb
  have HR := HR'
  have HG := HG'
  have HB := HB'
  clear HR' HG' HB'
  go_wp2_with fail
  refine (cut_any back 35 35 rfl (by decide) w2 (by have := HL.out; omega)).mono ?_
  rintro e_ w3 ⟨rfl, hb⟩
  rw [HZ.out]
  have HR' := Aside0.mk (blk_below HR.out hb)
  have HG' := Aside0.mk (HG.out.below hb)
  have HB' := Aside0.mk (below_step HB.out hb)
  clear HR HG HB hb
  have HR := HR'
  have HG := HG'
  have HB := HB'
  clear HR' HG' HB'
  go_wp2_with fail
  refine (parseobject_any object w3 (by have := HL.out; omega) HG.out.1).mono ?_
  rintro e_ w4 ⟨rfl, hb⟩
  rw [HO.out]
  dsimp only [errV]
  have HR' := Aside0.mk (blk_below HR.out hb)
  have HG' := Aside0.mk (HG.out.below hb)
  have HB' := Aside0.mk (below_step HB.out hb)
  clear HR HG HB hb
  have HR := HR'
  have HG := HG'
  have HB := HB'
  clear HR' HG' HB'
  obtain ⟨V4, hV4⟩ : ∃ V, V = w4.alloc (.cells #[.string o1, .string o2] 30) := ⟨_, rfl⟩
  have hO4 : V4.heap[w4.heap.size]? = some (.cells #[.string o1, .string o2] 30 (0, 0)) := by rw [hV4]; exact blk_new w4 _
  have hb : Below w4.heap.size w4 V4 := by rw [hV4]; exact below_alloc (B0 w4) _
  have HR' := Aside0.mk (blk_below HR.out hb)
  have HG' := Aside0.mk (HG.out.below hb)
  have HB' := Aside0.mk (below_step HB.out hb)
  clear HR HG HB hb
  have HR := HR'
  have HG := HG'
  have HB := HB'
  clear HR' HG' HB'
  obtain ⟨go, hgo⟩ : ∃ go, go = w4.heap.size := ⟨_, rfl⟩
  rw [← hgo] at hO4
  have HOB := Aside0.mk hO4
  clear hO4
  go_upto_region 7 with fail
  rw [← hV4, ← hgo]
  clear hV4 hgo
  go_wp2_with fail
  refine (is_any relation V4 HG.out.1).mono ?_
  rintro e_ w5 ⟨rfl, rfl⟩
  rw [HI.out]
  go_wp2_with fail
  refine (parseobject_any subject V4 (by have := HL.out; omega) HG.out.1).mono ?_
  rintro e_ w6 ⟨rfl, hb⟩
  rw [HU.out]
  dsimp only [errV]
  have HOB' := Aside0.mk (blk_below HOB.out hb)
  clear HOB
  have HOB := HOB'
  clear HOB'
  have HR' := Aside0.mk (blk_below HR.out hb)
  have HG' := Aside0.mk (HG.out.below hb)
  have HB' := Aside0.mk (below_step HB.out hb)
  clear HR HG HB hb
  have HR := HR'
  have HG := HG'
  have HB := HB'
  clear HR' HG' HB'
  obtain ⟨V6, hV6⟩ : ∃ V, V = w6.alloc (.cells #[.string u1, .string u2] 30) := ⟨_, rfl⟩
  have hO6 : V6.heap[w6.heap.size]? = some (.cells #[.string u1, .string u2] 30 (0, 0)) := by rw [hV6]; exact blk_new w6 _
  have hb : Below w6.heap.size w6 V6 := by rw [hV6]; exact below_alloc (B0 w6) _
  have HOB' := Aside0.mk (blk_below HOB.out hb)
  clear HOB
  have HOB := HOB'
  clear HOB'
  have HR' := Aside0.mk (blk_below HR.out hb)
  have HG' := Aside0.mk (HG.out.below hb)
  have HB' := Aside0.mk (below_step HB.out hb)
  clear HR HG HB hb
  have HR := HR'
  have HG := HG'
  have HB := HB'
  clear HR' HG' HB'
  obtain ⟨gu, hgu⟩ : ∃ gu, gu = w6.heap.size := ⟨_, rfl⟩
  rw [← hgu] at hO6
  have HUB := Aside0.mk hO6
  clear hO6
  go_upto_region 13 with fail
  rw [← hV6, ← hgu]
  clear hV6 hgu
  go_wp2_with fail
  refine (shift_F _ _ _ (by have := HE.out; have := HL.out; omega) V6 HG.out.2).mono ?_
  rintro e_ w7 ⟨rfl, hb⟩
  have HR' := Aside0.mk (blk_below HR.out hb)
  have HG' := Aside0.mk (HG.out.below hb)
  have HB' := Aside0.mk (below_step HB.out hb)
  clear HR HG HB hb
  have HR := HR'
  have HG := HG'
  have HB := HB'
  clear HR' HG' HB'
  have z0 : w7.cell? ⟨g, 0, none⟩ = some (.string ⟨#[]⟩) := (blk_cell HR.out 0).trans rfl
  have z1 : w7.cell? ⟨g, 1, none⟩ = some (.string ⟨#[]⟩) := (blk_cell HR.out 1).trans rfl
  have z2 : w7.cell? ⟨g, 2, none⟩ = some (.string ⟨#[]⟩) := (blk_cell HR.out 2).trans rfl
  have z3 : w7.cell? ⟨g, 3, none⟩ = some (.string ⟨#[]⟩) := (blk_cell HR.out 3).trans rfl
  have z4 : w7.cell? ⟨g, 4, none⟩ = some (.string ⟨#[]⟩) := (blk_cell HR.out 4).trans rfl
  have z5 : w7.cell? ⟨g, 5, none⟩ = some (.string ⟨#[]⟩) := (blk_cell HR.out 5).trans rfl
  have fz0 : w7.frozen? ⟨g, 0, none⟩ = false := blk_frozen HR.out 0
  have fz1 : w7.frozen? ⟨g, 1, none⟩ = false := blk_frozen HR.out 1
  have fz2 : w7.frozen? ⟨g, 2, none⟩ = false := blk_frozen HR.out 2
  have fz3 : w7.frozen? ⟨g, 3, none⟩ = false := blk_frozen HR.out 3
  have fz4 : w7.frozen? ⟨g, 4, none⟩ = false := blk_frozen HR.out 4
  have fz5 : w7.frozen? ⟨g, 5, none⟩ = false := blk_frozen HR.out 5
  go_wp2
  have hf := fin_row HR.out (⟨⟨#[]⟩, ⟨#[]⟩, ⟨#[]⟩, ⟨#[]⟩, ⟨#[]⟩, ⟨#[]⟩⟩ : Tp)
  have hbf := fin_below HGE.out HB.out (⟨⟨#[]⟩, ⟨#[]⟩, ⟨#[]⟩, ⟨#[]⟩, ⟨#[]⟩, ⟨#[]⟩⟩ : Tp)
  dsimp only [rowc] at hf hbf
  generalize hW9 : ((((((w7.setCell ⟨g, 0, none⟩ (.string ⟨#[]⟩)).setCell ⟨g, 1, none⟩ (.string ⟨#[]⟩)).setCell ⟨g, 2, none⟩ (.string ⟨#[]⟩)).setCell ⟨g, 3, none⟩ (.string ⟨#[]⟩)).setCell ⟨g, 4, none⟩ (.string ⟨#[]⟩)).setCell ⟨g, 5, none⟩ (.string ⟨#[]⟩)) = W9 at hf hbf ⊢
  clear hW9
  have d0 := (blk_cell hf 0).trans rfl
  have d1 := (blk_cell hf 1).trans rfl
  have d2 := (blk_cell hf 2).trans rfl
  have d3 := (blk_cell hf 3).trans rfl
  have d4 := (blk_cell hf 4).trans rfl
  have d5 := (blk_cell hf 5).trans rfl
  refine bodyPost_ret (v := .tuple #[tvv (Tp.nil), errV (some (n6, m6 + ((front.size : Int) + 1)))]) (by simp [results, Tryz.results21, go_sem, errV, d0, d1, d2, d3, d4, d5, Tp.nil]) rfl ⟨rfl, hbf⟩
set_option maxRecDepth 20000 in
set_option maxHeartbeats 4000000 in
theorem parse_E (s front back object relation subject userset o1 o2 u1 u2 : ByteArray) (ok is_ set_ : Bool) (hs : s.size ≤ 1000000000)
    (hx : cutP s 64 = (front, back, true)) (hy : cutP front 35 = (object, relation, true)) (hz : cutP back 35 = (subject, userset, true)) (hl : front.size ≤ 1000000000 ∧ back.size ≤ 1000000000 ∧ object.size ≤ 1000000000 ∧ relation.size ≤ 1000000000 ∧ subject.size ≤ 1000000000) (HO : Aside0 (parseO object = (o1, o2, none))) (HI : Aside0 (isP relation = true)) (HU : Aside0 (parseO subject = (u1, u2, none))) (HUI : Aside0 (isP userset = false))
    (w : World) (hG : GV w) : Calls Tryz.prog 21 #[.string s] w fun e w' => e = .returned (.tuple #[tvv (Tp.nil), errV (some (5, (front.size : Int) + 1 + (subject.size : Int) + 1))]) ∧ Below w.heap.size w w' := by
  obtain ⟨hl1, hl2, hl3, hl4, hl5⟩ := hl
  have k1 : IntKind.i64.wrap ((object.size : Int) + 1) = (object.size : Int) + 1 := by rw [IntKind.wrap_i64]; omega
  have k2 : IntKind.i64.wrap ((front.size : Int) + 1) = (front.size : Int) + 1 := by rw [IntKind.wrap_i64]; omega
  have k3 : IntKind.i64.wrap ((front.size : Int) + 1 + (subject.size : Int)) = (front.size : Int) + 1 + (subject.size : Int) := by rw [IntKind.wrap_i64]; omega
  have k4 : IntKind.i64.wrap ((front.size : Int) + 1 + (subject.size : Int) + 1) = (front.size : Int) + 1 + (subject.size : Int) + 1 := by rw [IntKind.wrap_i64]; omega
  have HX := Aside0.mk hx
  have HY := Aside0.mk hy
  have HZ := Aside0.mk hz
  have HS := Aside0.mk hs
  have HL := Aside0.mk (show front.size ≤ 1000000000 ∧ back.size ≤ 1000000000 ∧ object.size ≤ 1000000000 ∧ relation.size ≤ 1000000000 ∧ subject.size ≤ 1000000000 from ⟨hl1, hl2, hl3, hl4, hl5⟩)
  obtain ⟨W, hW⟩ : ∃ W, W = w.alloc (.cells zc 32) := ⟨_, rfl⟩
  have HB := Aside0.mk (show Below w.heap.size w W from by rw [hW]; exact below_alloc (B0 w) _)
  have hr : W.heap[w.heap.size]? = some (.cells zc 32 (0, 0)) := by rw [hW]; exact blk_new w _
  have HG := Aside0.mk (hG.below HB.out)
  obtain ⟨g, hg⟩ : ∃ g, g = w.heap.size := ⟨_, rfl⟩
  rw [← hg] at hr
  have HR := Aside0.mk hr
  have HGE := Aside0.mk (show w.heap.size ≤ g from by omega)
  clear hx hy hz hs hl1 hl2 hl3 hl4 hl5 hG hr
  go_enter Tryz.func21, Tryz.ntmps21
  go_wp2_with fail
  rw [← hW, ← hg]
  clear hW hg
  refine (cut_any s 64 64 rfl (by decide) W (by have := HS.out; omega)).mono ?_
  rintro e_ w1 ⟨rfl, hb⟩
  rw [HX.out]
  have HR' := Aside0.mk (blk_below HR.out hb)
  have HG' := Aside0.mk (HG.out.below hb)
  have HB' := Aside0.mk (below_step HB.out hb)
  clear HR HG HB hb
  have HR := HR'
  have HG := HG'
  have HB := HB'
  clear HR' HG' HB'
  go_wp2_with fail
  refine (cut_any front 35 35 rfl (by decide) w1 (by have := HL.out; omega)).mono ?_
  rintro e_ w2 ⟨rfl, hb⟩
  rw [HY.out]
  have HR' := Aside0.mk (blk_below HR.out hb)
  have HG' := Aside0.mk (HG.out.below hb)
  have HB' := Aside0.mk (below_step HB.out hb)
  clear HR HG HB hb
  have HR := HR'
  have HG := HG'
  have HB := HB'
  clear HR' HG' HB'
  go_wp2_with fail
  refine (cut_any back 35 35 rfl (by decide) w2 (by have := HL.out; omega)).mono ?_
  rintro e_ w3 ⟨rfl, hb⟩
  rw [HZ.out]
  have HR' := Aside0.mk (blk_below HR.out hb)
  have HG' := Aside0.mk (HG.out.below hb)
  have HB' := Aside0.mk (below_step HB.out hb)
  clear HR HG HB hb
  have HR := HR'
  have HG := HG'
  have HB := HB'
  clear HR' HG' HB'
  go_wp2_with fail
  refine (parseobject_any object w3 (by have := HL.out; omega) HG.out.1).mono ?_
  rintro e_ w4 ⟨rfl, hb⟩
  rw [HO.out]
  dsimp only [errV]
  have HR' := Aside0.mk (blk_below HR.out hb)
  have HG' := Aside0.mk (HG.out.below hb)
  have HB' := Aside0.mk (below_step HB.out hb)
  clear HR HG HB hb
  have HR := HR'
  have HG := HG'
  have HB := HB'
  clear HR' HG' HB'
  obtain ⟨V4, hV4⟩ : ∃ V, V = w4.alloc (.cells #[.string o1, .string o2] 30) := ⟨_, rfl⟩
  have hO4 : V4.heap[w4.heap.size]? = some (.cells #[.string o1, .string o2] 30 (0, 0)) := by rw [hV4]; exact blk_new w4 _
  have hb : Below w4.heap.size w4 V4 := by rw [hV4]; exact below_alloc (B0 w4) _
  have HR' := Aside0.mk (blk_below HR.out hb)
  have HG' := Aside0.mk (HG.out.below hb)
  have HB' := Aside0.mk (below_step HB.out hb)
  clear HR HG HB hb
  have HR := HR'
  have HG := HG'
  have HB := HB'
  clear HR' HG' HB'
  obtain ⟨go, hgo⟩ : ∃ go, go = w4.heap.size := ⟨_, rfl⟩
  rw [← hgo] at hO4
  have HOB := Aside0.mk hO4
  clear hO4
  go_upto_region 7 with fail
  rw [← hV4, ← hgo]
  clear hV4 hgo
  go_wp2_with fail
  refine (is_any relation V4 HG.out.1).mono ?_
  rintro e_ w5 ⟨rfl, rfl⟩
  rw [HI.out]
  go_wp2_with fail
  refine (parseobject_any subject V4 (by have := HL.out; omega) HG.out.1).mono ?_
  rintro e_ w6 ⟨rfl, hb⟩
  rw [HU.out]
  dsimp only [errV]
  have HOB' := Aside0.mk (blk_below HOB.out hb)
  clear HOB
  have HOB := HOB'
  clear HOB'
  have HR' := Aside0.mk (blk_below HR.out hb)
  have HG' := Aside0.mk (HG.out.below hb)
  have HB' := Aside0.mk (below_step HB.out hb)
  clear HR HG HB hb
  have HR := HR'
  have HG := HG'
  have HB := HB'
  clear HR' HG' HB'
  obtain ⟨V6, hV6⟩ : ∃ V, V = w6.alloc (.cells #[.string u1, .string u2] 30) := ⟨_, rfl⟩
  have hO6 : V6.heap[w6.heap.size]? = some (.cells #[.string u1, .string u2] 30 (0, 0)) := by rw [hV6]; exact blk_new w6 _
  have hb : Below w6.heap.size w6 V6 := by rw [hV6]; exact below_alloc (B0 w6) _
  have HOB' := Aside0.mk (blk_below HOB.out hb)
  clear HOB
  have HOB := HOB'
  clear HOB'
  have HR' := Aside0.mk (blk_below HR.out hb)
  have HG' := Aside0.mk (HG.out.below hb)
  have HB' := Aside0.mk (below_step HB.out hb)
  clear HR HG HB hb
  have HR := HR'
  have HG := HG'
  have HB := HB'
  clear HR' HG' HB'
  obtain ⟨gu, hgu⟩ : ∃ gu, gu = w6.heap.size := ⟨_, rfl⟩
  rw [← hgu] at hO6
  have HUB := Aside0.mk hO6
  clear hO6
  go_upto_region 13 with fail
  rw [← hV6, ← hgu]
  clear hV6 hgu
  go_wp2_with fail
  refine (is_any userset V6 HG.out.1).mono ?_
  rintro e_ w7 ⟨rfl, rfl⟩
  rw [HUI.out]
  have z0 : V6.cell? ⟨g, 0, none⟩ = some (.string ⟨#[]⟩) := (blk_cell HR.out 0).trans rfl
  have z1 : V6.cell? ⟨g, 1, none⟩ = some (.string ⟨#[]⟩) := (blk_cell HR.out 1).trans rfl
  have z2 : V6.cell? ⟨g, 2, none⟩ = some (.string ⟨#[]⟩) := (blk_cell HR.out 2).trans rfl
  have z3 : V6.cell? ⟨g, 3, none⟩ = some (.string ⟨#[]⟩) := (blk_cell HR.out 3).trans rfl
  have z4 : V6.cell? ⟨g, 4, none⟩ = some (.string ⟨#[]⟩) := (blk_cell HR.out 4).trans rfl
  have z5 : V6.cell? ⟨g, 5, none⟩ = some (.string ⟨#[]⟩) := (blk_cell HR.out 5).trans rfl
  have fz0 : V6.frozen? ⟨g, 0, none⟩ = false := blk_frozen HR.out 0
  have fz1 : V6.frozen? ⟨g, 1, none⟩ = false := blk_frozen HR.out 1
  have fz2 : V6.frozen? ⟨g, 2, none⟩ = false := blk_frozen HR.out 2
  have fz3 : V6.frozen? ⟨g, 3, none⟩ = false := blk_frozen HR.out 3
  have fz4 : V6.frozen? ⟨g, 4, none⟩ = false := blk_frozen HR.out 4
  have fz5 : V6.frozen? ⟨g, 5, none⟩ = false := blk_frozen HR.out 5
  go_wp2_with fail
  refine (new_any _ _ _).mono ?_
  rintro e_ w8 ⟨rfl, rfl⟩
  go_wp2
  have hf := fin_row HR.out (⟨⟨#[]⟩, ⟨#[]⟩, ⟨#[]⟩, ⟨#[]⟩, ⟨#[]⟩, ⟨#[]⟩⟩ : Tp)
  have hbf := fin_below HGE.out HB.out (⟨⟨#[]⟩, ⟨#[]⟩, ⟨#[]⟩, ⟨#[]⟩, ⟨#[]⟩, ⟨#[]⟩⟩ : Tp)
  dsimp only [rowc] at hf hbf
  generalize hW9 : ((((((V6.setCell ⟨g, 0, none⟩ (.string ⟨#[]⟩)).setCell ⟨g, 1, none⟩ (.string ⟨#[]⟩)).setCell ⟨g, 2, none⟩ (.string ⟨#[]⟩)).setCell ⟨g, 3, none⟩ (.string ⟨#[]⟩)).setCell ⟨g, 4, none⟩ (.string ⟨#[]⟩)).setCell ⟨g, 5, none⟩ (.string ⟨#[]⟩)) = W9 at hf hbf ⊢
  clear hW9
  have d0 := (blk_cell hf 0).trans rfl
  have d1 := (blk_cell hf 1).trans rfl
  have d2 := (blk_cell hf 2).trans rfl
  have d3 := (blk_cell hf 3).trans rfl
  have d4 := (blk_cell hf 4).trans rfl
  have d5 := (blk_cell hf 5).trans rfl
  refine bodyPost_ret (v := .tuple #[tvv (Tp.nil), errV (some (5, (front.size : Int) + 1 + (subject.size : Int) + 1))]) (by simp [results, Tryz.results21, go_sem, errV, d0, d1, d2, d3, d4, d5, Tp.nil]) rfl ⟨rfl, hbf⟩
set_option maxRecDepth 20000 in
set_option maxHeartbeats 4000000 in
theorem parse_F1 (s front back object relation subject userset o1 o2 u1 u2 : ByteArray) (ok is_ set_ : Bool) (hs : s.size ≤ 1000000000)
    (hx : cutP s 64 = (front, back, true)) (hy : cutP front 35 = (object, relation, true)) (hz : cutP back 35 = (subject, userset, false)) (hl : front.size ≤ 1000000000 ∧ back.size ≤ 1000000000 ∧ object.size ≤ 1000000000 ∧ relation.size ≤ 1000000000 ∧ subject.size ≤ 1000000000) (HO : Aside0 (parseO object = (o1, o2, none))) (HI : Aside0 (isP relation = true)) (HU : Aside0 (parseO subject = (u1, u2, none)))
    (w : World) (hG : GV w) : Calls Tryz.prog 21 #[.string s] w fun e w' => e = .returned (.tuple #[tvv (⟨o1, o2, relation, u1, u2, userset⟩), errV none]) ∧ Below w.heap.size w w' := by
  obtain ⟨hl1, hl2, hl3, hl4, hl5⟩ := hl
  have k1 : IntKind.i64.wrap ((object.size : Int) + 1) = (object.size : Int) + 1 := by rw [IntKind.wrap_i64]; omega
  have k2 : IntKind.i64.wrap ((front.size : Int) + 1) = (front.size : Int) + 1 := by rw [IntKind.wrap_i64]; omega
  have k3 : IntKind.i64.wrap ((front.size : Int) + 1 + (subject.size : Int)) = (front.size : Int) + 1 + (subject.size : Int) := by rw [IntKind.wrap_i64]; omega
  have k4 : IntKind.i64.wrap ((front.size : Int) + 1 + (subject.size : Int) + 1) = (front.size : Int) + 1 + (subject.size : Int) + 1 := by rw [IntKind.wrap_i64]; omega
  have HX := Aside0.mk hx
  have HY := Aside0.mk hy
  have HZ := Aside0.mk hz
  have HS := Aside0.mk hs
  have HL := Aside0.mk (show front.size ≤ 1000000000 ∧ back.size ≤ 1000000000 ∧ object.size ≤ 1000000000 ∧ relation.size ≤ 1000000000 ∧ subject.size ≤ 1000000000 from ⟨hl1, hl2, hl3, hl4, hl5⟩)
  obtain ⟨W, hW⟩ : ∃ W, W = w.alloc (.cells zc 32) := ⟨_, rfl⟩
  have HB := Aside0.mk (show Below w.heap.size w W from by rw [hW]; exact below_alloc (B0 w) _)
  have hr : W.heap[w.heap.size]? = some (.cells zc 32 (0, 0)) := by rw [hW]; exact blk_new w _
  have HG := Aside0.mk (hG.below HB.out)
  obtain ⟨g, hg⟩ : ∃ g, g = w.heap.size := ⟨_, rfl⟩
  rw [← hg] at hr
  have HR := Aside0.mk hr
  have HGE := Aside0.mk (show w.heap.size ≤ g from by omega)
  clear hx hy hz hs hl1 hl2 hl3 hl4 hl5 hG hr
  go_enter Tryz.func21, Tryz.ntmps21
  go_wp2_with fail
  rw [← hW, ← hg]
  clear hW hg
  refine (cut_any s 64 64 rfl (by decide) W (by have := HS.out; omega)).mono ?_
  rintro e_ w1 ⟨rfl, hb⟩
  rw [HX.out]
  have HR' := Aside0.mk (blk_below HR.out hb)
  have HG' := Aside0.mk (HG.out.below hb)
  have HB' := Aside0.mk (below_step HB.out hb)
  clear HR HG HB hb
  have HR := HR'
  have HG := HG'
  have HB := HB'
  clear HR' HG' HB'
  go_wp2_with fail
  refine (cut_any front 35 35 rfl (by decide) w1 (by have := HL.out; omega)).mono ?_
  rintro e_ w2 ⟨rfl, hb⟩
  rw [HY.out]
  have HR' := Aside0.mk (blk_below HR.out hb)
  have HG' := Aside0.mk (HG.out.below hb)
  have HB' := Aside0.mk (below_step HB.out hb)
  clear HR HG HB hb
  have HR := HR'
  have HG := HG'
  have HB := HB'
  clear HR' HG' HB'
  go_wp2_with fail
  refine (cut_any back 35 35 rfl (by decide) w2 (by have := HL.out; omega)).mono ?_
  rintro e_ w3 ⟨rfl, hb⟩
  rw [HZ.out]
  have HR' := Aside0.mk (blk_below HR.out hb)
  have HG' := Aside0.mk (HG.out.below hb)
  have HB' := Aside0.mk (below_step HB.out hb)
  clear HR HG HB hb
  have HR := HR'
  have HG := HG'
  have HB := HB'
  clear HR' HG' HB'
  go_wp2_with fail
  refine (parseobject_any object w3 (by have := HL.out; omega) HG.out.1).mono ?_
  rintro e_ w4 ⟨rfl, hb⟩
  rw [HO.out]
  dsimp only [errV]
  have HR' := Aside0.mk (blk_below HR.out hb)
  have HG' := Aside0.mk (HG.out.below hb)
  have HB' := Aside0.mk (below_step HB.out hb)
  clear HR HG HB hb
  have HR := HR'
  have HG := HG'
  have HB := HB'
  clear HR' HG' HB'
  obtain ⟨V4, hV4⟩ : ∃ V, V = w4.alloc (.cells #[.string o1, .string o2] 30) := ⟨_, rfl⟩
  have hO4 : V4.heap[w4.heap.size]? = some (.cells #[.string o1, .string o2] 30 (0, 0)) := by rw [hV4]; exact blk_new w4 _
  have hb : Below w4.heap.size w4 V4 := by rw [hV4]; exact below_alloc (B0 w4) _
  have HR' := Aside0.mk (blk_below HR.out hb)
  have HG' := Aside0.mk (HG.out.below hb)
  have HB' := Aside0.mk (below_step HB.out hb)
  clear HR HG HB hb
  have HR := HR'
  have HG := HG'
  have HB := HB'
  clear HR' HG' HB'
  obtain ⟨go, hgo⟩ : ∃ go, go = w4.heap.size := ⟨_, rfl⟩
  rw [← hgo] at hO4
  have HOB := Aside0.mk hO4
  clear hO4
  go_upto_region 7 with fail
  rw [← hV4, ← hgo]
  clear hV4 hgo
  go_wp2_with fail
  refine (is_any relation V4 HG.out.1).mono ?_
  rintro e_ w5 ⟨rfl, rfl⟩
  rw [HI.out]
  go_wp2_with fail
  refine (parseobject_any subject V4 (by have := HL.out; omega) HG.out.1).mono ?_
  rintro e_ w6 ⟨rfl, hb⟩
  rw [HU.out]
  dsimp only [errV]
  have HOB' := Aside0.mk (blk_below HOB.out hb)
  clear HOB
  have HOB := HOB'
  clear HOB'
  have HR' := Aside0.mk (blk_below HR.out hb)
  have HG' := Aside0.mk (HG.out.below hb)
  have HB' := Aside0.mk (below_step HB.out hb)
  clear HR HG HB hb
  have HR := HR'
  have HG := HG'
  have HB := HB'
  clear HR' HG' HB'
  obtain ⟨V6, hV6⟩ : ∃ V, V = w6.alloc (.cells #[.string u1, .string u2] 30) := ⟨_, rfl⟩
  have hO6 : V6.heap[w6.heap.size]? = some (.cells #[.string u1, .string u2] 30 (0, 0)) := by rw [hV6]; exact blk_new w6 _
  have hb : Below w6.heap.size w6 V6 := by rw [hV6]; exact below_alloc (B0 w6) _
  have HOB' := Aside0.mk (blk_below HOB.out hb)
  clear HOB
  have HOB := HOB'
  clear HOB'
  have HR' := Aside0.mk (blk_below HR.out hb)
  have HG' := Aside0.mk (HG.out.below hb)
  have HB' := Aside0.mk (below_step HB.out hb)
  clear HR HG HB hb
  have HR := HR'
  have HG := HG'
  have HB := HB'
  clear HR' HG' HB'
  obtain ⟨gu, hgu⟩ : ∃ gu, gu = w6.heap.size := ⟨_, rfl⟩
  rw [← hgu] at hO6
  have HUB := Aside0.mk hO6
  clear hO6
  go_upto_region 13 with fail
  rw [← hV6, ← hgu]
  clear hV6 hgu
  have z0 : V6.cell? ⟨g, 0, none⟩ = some (.string ⟨#[]⟩) := (blk_cell HR.out 0).trans rfl
  have z1 : V6.cell? ⟨g, 1, none⟩ = some (.string ⟨#[]⟩) := (blk_cell HR.out 1).trans rfl
  have z2 : V6.cell? ⟨g, 2, none⟩ = some (.string ⟨#[]⟩) := (blk_cell HR.out 2).trans rfl
  have z3 : V6.cell? ⟨g, 3, none⟩ = some (.string ⟨#[]⟩) := (blk_cell HR.out 3).trans rfl
  have z4 : V6.cell? ⟨g, 4, none⟩ = some (.string ⟨#[]⟩) := (blk_cell HR.out 4).trans rfl
  have z5 : V6.cell? ⟨g, 5, none⟩ = some (.string ⟨#[]⟩) := (blk_cell HR.out 5).trans rfl
  have fz0 : V6.frozen? ⟨g, 0, none⟩ = false := blk_frozen HR.out 0
  have fz1 : V6.frozen? ⟨g, 1, none⟩ = false := blk_frozen HR.out 1
  have fz2 : V6.frozen? ⟨g, 2, none⟩ = false := blk_frozen HR.out 2
  have fz3 : V6.frozen? ⟨g, 3, none⟩ = false := blk_frozen HR.out 3
  have fz4 : V6.frozen? ⟨g, 4, none⟩ = false := blk_frozen HR.out 4
  have fz5 : V6.frozen? ⟨g, 5, none⟩ = false := blk_frozen HR.out 5
  have o0 := (blk_cell HOB.out 0).trans rfl
  have o1' := (blk_cell HOB.out 1).trans rfl
  have u0 := (blk_cell HUB.out 0).trans rfl
  have u1' := (blk_cell HUB.out 1).trans rfl
  go_wp2
  have hf := fin_row HR.out (⟨o1, o2, relation, u1, u2, userset⟩ : Tp)
  have hbf := fin_below HGE.out HB.out (⟨o1, o2, relation, u1, u2, userset⟩ : Tp)
  dsimp only [rowc] at hf hbf
  generalize hW9 : ((((((V6.setCell ⟨g, 0, none⟩ (.string o1)).setCell ⟨g, 1, none⟩ (.string o2)).setCell ⟨g, 2, none⟩ (.string relation)).setCell ⟨g, 3, none⟩ (.string u1)).setCell ⟨g, 4, none⟩ (.string u2)).setCell ⟨g, 5, none⟩ (.string userset)) = W9 at hf hbf ⊢
  clear hW9
  have d0 := (blk_cell hf 0).trans rfl
  have d1 := (blk_cell hf 1).trans rfl
  have d2 := (blk_cell hf 2).trans rfl
  have d3 := (blk_cell hf 3).trans rfl
  have d4 := (blk_cell hf 4).trans rfl
  have d5 := (blk_cell hf 5).trans rfl
  refine bodyPost_ret (v := .tuple #[tvv (⟨o1, o2, relation, u1, u2, userset⟩), errV none]) (by simp [results, Tryz.results21, go_sem, errV, d0, d1, d2, d3, d4, d5, Tp.nil]) rfl ⟨rfl, hbf⟩
set_option maxRecDepth 20000 in
set_option maxHeartbeats 4000000 in
theorem parse_F2 (s front back object relation subject userset o1 o2 u1 u2 : ByteArray) (ok is_ set_ : Bool) (hs : s.size ≤ 1000000000)
    (hx : cutP s 64 = (front, back, true)) (hy : cutP front 35 = (object, relation, true)) (hz : cutP back 35 = (subject, userset, true)) (hl : front.size ≤ 1000000000 ∧ back.size ≤ 1000000000 ∧ object.size ≤ 1000000000 ∧ relation.size ≤ 1000000000 ∧ subject.size ≤ 1000000000) (HO : Aside0 (parseO object = (o1, o2, none))) (HI : Aside0 (isP relation = true)) (HU : Aside0 (parseO subject = (u1, u2, none))) (HUI : Aside0 (isP userset = true))
    (w : World) (hG : GV w) : Calls Tryz.prog 21 #[.string s] w fun e w' => e = .returned (.tuple #[tvv (⟨o1, o2, relation, u1, u2, userset⟩), errV none]) ∧ Below w.heap.size w w' := by
  obtain ⟨hl1, hl2, hl3, hl4, hl5⟩ := hl
  have k1 : IntKind.i64.wrap ((object.size : Int) + 1) = (object.size : Int) + 1 := by rw [IntKind.wrap_i64]; omega
  have k2 : IntKind.i64.wrap ((front.size : Int) + 1) = (front.size : Int) + 1 := by rw [IntKind.wrap_i64]; omega
  have k3 : IntKind.i64.wrap ((front.size : Int) + 1 + (subject.size : Int)) = (front.size : Int) + 1 + (subject.size : Int) := by rw [IntKind.wrap_i64]; omega
  have k4 : IntKind.i64.wrap ((front.size : Int) + 1 + (subject.size : Int) + 1) = (front.size : Int) + 1 + (subject.size : Int) + 1 := by rw [IntKind.wrap_i64]; omega
  have HX := Aside0.mk hx
  have HY := Aside0.mk hy
  have HZ := Aside0.mk hz
  have HS := Aside0.mk hs
  have HL := Aside0.mk (show front.size ≤ 1000000000 ∧ back.size ≤ 1000000000 ∧ object.size ≤ 1000000000 ∧ relation.size ≤ 1000000000 ∧ subject.size ≤ 1000000000 from ⟨hl1, hl2, hl3, hl4, hl5⟩)
  obtain ⟨W, hW⟩ : ∃ W, W = w.alloc (.cells zc 32) := ⟨_, rfl⟩
  have HB := Aside0.mk (show Below w.heap.size w W from by rw [hW]; exact below_alloc (B0 w) _)
  have hr : W.heap[w.heap.size]? = some (.cells zc 32 (0, 0)) := by rw [hW]; exact blk_new w _
  have HG := Aside0.mk (hG.below HB.out)
  obtain ⟨g, hg⟩ : ∃ g, g = w.heap.size := ⟨_, rfl⟩
  rw [← hg] at hr
  have HR := Aside0.mk hr
  have HGE := Aside0.mk (show w.heap.size ≤ g from by omega)
  clear hx hy hz hs hl1 hl2 hl3 hl4 hl5 hG hr
  go_enter Tryz.func21, Tryz.ntmps21
  go_wp2_with fail
  rw [← hW, ← hg]
  clear hW hg
  refine (cut_any s 64 64 rfl (by decide) W (by have := HS.out; omega)).mono ?_
  rintro e_ w1 ⟨rfl, hb⟩
  rw [HX.out]
  have HR' := Aside0.mk (blk_below HR.out hb)
  have HG' := Aside0.mk (HG.out.below hb)
  have HB' := Aside0.mk (below_step HB.out hb)
  clear HR HG HB hb
  have HR := HR'
  have HG := HG'
  have HB := HB'
  clear HR' HG' HB'
  go_wp2_with fail
  refine (cut_any front 35 35 rfl (by decide) w1 (by have := HL.out; omega)).mono ?_
  rintro e_ w2 ⟨rfl, hb⟩
  rw [HY.out]
  have HR' := Aside0.mk (blk_below HR.out hb)
  have HG' := Aside0.mk (HG.out.below hb)
  have HB' := Aside0.mk (below_step HB.out hb)
  clear HR HG HB hb
  have HR := HR'
  have HG := HG'
  have HB := HB'
  clear HR' HG' HB'
  go_wp2_with fail
  refine (cut_any back 35 35 rfl (by decide) w2 (by have := HL.out; omega)).mono ?_
  rintro e_ w3 ⟨rfl, hb⟩
  rw [HZ.out]
  have HR' := Aside0.mk (blk_below HR.out hb)
  have HG' := Aside0.mk (HG.out.below hb)
  have HB' := Aside0.mk (below_step HB.out hb)
  clear HR HG HB hb
  have HR := HR'
  have HG := HG'
  have HB := HB'
  clear HR' HG' HB'
  go_wp2_with fail
  refine (parseobject_any object w3 (by have := HL.out; omega) HG.out.1).mono ?_
  rintro e_ w4 ⟨rfl, hb⟩
  rw [HO.out]
  dsimp only [errV]
  have HR' := Aside0.mk (blk_below HR.out hb)
  have HG' := Aside0.mk (HG.out.below hb)
  have HB' := Aside0.mk (below_step HB.out hb)
  clear HR HG HB hb
  have HR := HR'
  have HG := HG'
  have HB := HB'
  clear HR' HG' HB'
  obtain ⟨V4, hV4⟩ : ∃ V, V = w4.alloc (.cells #[.string o1, .string o2] 30) := ⟨_, rfl⟩
  have hO4 : V4.heap[w4.heap.size]? = some (.cells #[.string o1, .string o2] 30 (0, 0)) := by rw [hV4]; exact blk_new w4 _
  have hb : Below w4.heap.size w4 V4 := by rw [hV4]; exact below_alloc (B0 w4) _
  have HR' := Aside0.mk (blk_below HR.out hb)
  have HG' := Aside0.mk (HG.out.below hb)
  have HB' := Aside0.mk (below_step HB.out hb)
  clear HR HG HB hb
  have HR := HR'
  have HG := HG'
  have HB := HB'
  clear HR' HG' HB'
  obtain ⟨go, hgo⟩ : ∃ go, go = w4.heap.size := ⟨_, rfl⟩
  rw [← hgo] at hO4
  have HOB := Aside0.mk hO4
  clear hO4
  go_upto_region 7 with fail
  rw [← hV4, ← hgo]
  clear hV4 hgo
  go_wp2_with fail
  refine (is_any relation V4 HG.out.1).mono ?_
  rintro e_ w5 ⟨rfl, rfl⟩
  rw [HI.out]
  go_wp2_with fail
  refine (parseobject_any subject V4 (by have := HL.out; omega) HG.out.1).mono ?_
  rintro e_ w6 ⟨rfl, hb⟩
  rw [HU.out]
  dsimp only [errV]
  have HOB' := Aside0.mk (blk_below HOB.out hb)
  clear HOB
  have HOB := HOB'
  clear HOB'
  have HR' := Aside0.mk (blk_below HR.out hb)
  have HG' := Aside0.mk (HG.out.below hb)
  have HB' := Aside0.mk (below_step HB.out hb)
  clear HR HG HB hb
  have HR := HR'
  have HG := HG'
  have HB := HB'
  clear HR' HG' HB'
  obtain ⟨V6, hV6⟩ : ∃ V, V = w6.alloc (.cells #[.string u1, .string u2] 30) := ⟨_, rfl⟩
  have hO6 : V6.heap[w6.heap.size]? = some (.cells #[.string u1, .string u2] 30 (0, 0)) := by rw [hV6]; exact blk_new w6 _
  have hb : Below w6.heap.size w6 V6 := by rw [hV6]; exact below_alloc (B0 w6) _
  have HOB' := Aside0.mk (blk_below HOB.out hb)
  clear HOB
  have HOB := HOB'
  clear HOB'
  have HR' := Aside0.mk (blk_below HR.out hb)
  have HG' := Aside0.mk (HG.out.below hb)
  have HB' := Aside0.mk (below_step HB.out hb)
  clear HR HG HB hb
  have HR := HR'
  have HG := HG'
  have HB := HB'
  clear HR' HG' HB'
  obtain ⟨gu, hgu⟩ : ∃ gu, gu = w6.heap.size := ⟨_, rfl⟩
  rw [← hgu] at hO6
  have HUB := Aside0.mk hO6
  clear hO6
  go_upto_region 13 with fail
  rw [← hV6, ← hgu]
  clear hV6 hgu
  go_wp2_with fail
  refine (is_any userset V6 HG.out.1).mono ?_
  rintro e_ w7 ⟨rfl, rfl⟩
  rw [HUI.out]
  have z0 : V6.cell? ⟨g, 0, none⟩ = some (.string ⟨#[]⟩) := (blk_cell HR.out 0).trans rfl
  have z1 : V6.cell? ⟨g, 1, none⟩ = some (.string ⟨#[]⟩) := (blk_cell HR.out 1).trans rfl
  have z2 : V6.cell? ⟨g, 2, none⟩ = some (.string ⟨#[]⟩) := (blk_cell HR.out 2).trans rfl
  have z3 : V6.cell? ⟨g, 3, none⟩ = some (.string ⟨#[]⟩) := (blk_cell HR.out 3).trans rfl
  have z4 : V6.cell? ⟨g, 4, none⟩ = some (.string ⟨#[]⟩) := (blk_cell HR.out 4).trans rfl
  have z5 : V6.cell? ⟨g, 5, none⟩ = some (.string ⟨#[]⟩) := (blk_cell HR.out 5).trans rfl
  have fz0 : V6.frozen? ⟨g, 0, none⟩ = false := blk_frozen HR.out 0
  have fz1 : V6.frozen? ⟨g, 1, none⟩ = false := blk_frozen HR.out 1
  have fz2 : V6.frozen? ⟨g, 2, none⟩ = false := blk_frozen HR.out 2
  have fz3 : V6.frozen? ⟨g, 3, none⟩ = false := blk_frozen HR.out 3
  have fz4 : V6.frozen? ⟨g, 4, none⟩ = false := blk_frozen HR.out 4
  have fz5 : V6.frozen? ⟨g, 5, none⟩ = false := blk_frozen HR.out 5
  have o0 := (blk_cell HOB.out 0).trans rfl
  have o1' := (blk_cell HOB.out 1).trans rfl
  have u0 := (blk_cell HUB.out 0).trans rfl
  have u1' := (blk_cell HUB.out 1).trans rfl
  go_wp2
  have hf := fin_row HR.out (⟨o1, o2, relation, u1, u2, userset⟩ : Tp)
  have hbf := fin_below HGE.out HB.out (⟨o1, o2, relation, u1, u2, userset⟩ : Tp)
  dsimp only [rowc] at hf hbf
  generalize hW9 : ((((((V6.setCell ⟨g, 0, none⟩ (.string o1)).setCell ⟨g, 1, none⟩ (.string o2)).setCell ⟨g, 2, none⟩ (.string relation)).setCell ⟨g, 3, none⟩ (.string u1)).setCell ⟨g, 4, none⟩ (.string u2)).setCell ⟨g, 5, none⟩ (.string userset)) = W9 at hf hbf ⊢
  clear hW9
  have d0 := (blk_cell hf 0).trans rfl
  have d1 := (blk_cell hf 1).trans rfl
  have d2 := (blk_cell hf 2).trans rfl
  have d3 := (blk_cell hf 3).trans rfl
  have d4 := (blk_cell hf 4).trans rfl
  have d5 := (blk_cell hf 5).trans rfl
  refine bodyPost_ret (v := .tuple #[tvv (⟨o1, o2, relation, u1, u2, userset⟩), errV none]) (by simp [results, Tryz.results21, go_sem, errV, d0, d1, d2, d3, d4, d5, Tp.nil]) rfl ⟨rfl, hbf⟩
end Go.Proofs.YtlbbhgmpiednfaaGreatDoor.HTupY
/- tuple.Parse, joined. -/
namespace Go.Proofs.YtlbbhgmpiednfaaGreatDoor.HTupH
open Go.RowKit Go.Proofs.YtlbbhgmpiednfaaGreatDoorW.PrintWords Go.Proofs.YtlbbhgmpiednfaaGreatDoor.HLib Go.Proofs.YtlbbhgmpiednfaaGreatDoor.HErr Go.Proofs.YtlbbhgmpiednfaaGreatDoor.HNameP Go.Proofs.YtlbbhgmpiednfaaGreatDoor.HName Go.Proofs.YtlbbhgmpiednfaaGreatDoor.HTupP Go.Proofs.YtlbbhgmpiednfaaGreatDoor.HTupR Go.Proofs.YtlbbhgmpiednfaaGreatDoor.HTupG Go.Proofs.YtlbbhgmpiednfaaGreatDoor.HTupY
set_option linter.unusedVariables false
set_option linter.unusedSimpArgs false
theorem cut_size (s : ByteArray) (c : Int) : (cutP s c).1.size ≤ s.size ∧ (cutP s c).2.1.size ≤ s.size := by
  unfold cutP
  split
  · exact ⟨Nat.le_refl _, by show 0 ≤ _; omega⟩
  · exact ⟨by rw [ByteArray.size_extract]; omega, by rw [ByteArray.size_extract]; omega⟩
theorem parseO_off (s : ByteArray) (n m : Int) (h : (parseO s).2.2 = some (n, m)) : 0 ≤ m ∧ m ≤ s.size := by
  unfold parseO at h
  have h1 := find_lt (s := s) (c := 58) (by decide)
  have h2 := find_ge s 58
  split at h
  · injection h with h; injection h with _ h; omega
  · split at h
    · injection h with h; injection h with _ h; omega
    · split at h
      · injection h with h; injection h with _ h; omega
      · cases h
theorem parse_any (s : ByteArray) (hs : s.size ≤ 1000000000) (w : World) (hG : GV w) : Calls Tryz.prog 21 #[.string s] w fun e w' => e = .returned (.tuple #[tvv (parseT s).1, errV (parseT s).2]) ∧ Below w.heap.size w w' := by
  obtain ⟨front, back, ok, hx⟩ : ∃ a b c, cutP s 64 = (a, b, c) := ⟨_, _, _, rfl⟩
  obtain ⟨object, relation, is_, hy⟩ : ∃ a b c, cutP front 35 = (a, b, c) := ⟨_, _, _, rfl⟩
  obtain ⟨subject, userset, set_, hz⟩ : ∃ a b c, cutP back 35 = (a, b, c) := ⟨_, _, _, rfl⟩
  have l1 := cut_size s 64
  have l2 := cut_size front 35
  have l3 := cut_size back 35
  rw [hx] at l1
  rw [hy] at l2
  rw [hz] at l3
  dsimp only at l1 l2 l3
  have hl : front.size ≤ 1000000000 ∧ back.size ≤ 1000000000 ∧ object.size ≤ 1000000000 ∧ relation.size ≤ 1000000000 ∧ subject.size ≤ 1000000000 := by omega
  have hP : parseT s = (if ok = false ∨ is_ = false then (Tp.nil, some (6, (s.size : Int))) else match (parseO object).2.2 with
      | some e => (Tp.nil, some e)
      | none => if isP relation = false then (Tp.nil, some (5, (object.size : Int) + 1)) else match (parseO subject).2.2 with
        | some e => (Tp.nil, some (e.1, e.2 + ((front.size : Int) + 1)))
        | none => if set_ = true ∧ isP userset = false then (Tp.nil, some (5, (front.size : Int) + 1 + (subject.size : Int) + 1)) else (⟨(parseO object).1, (parseO object).2.1, relation, (parseO subject).1, (parseO subject).2.1, userset⟩, none)) := by
    unfold parseT
    simp only [hx, hy, hz]
    rfl
  rw [hP]
  cases ok with
  | false => rw [if_pos (Or.inl rfl)]; exact parse_A1 s front back object relation subject userset ⟨#[]⟩ ⟨#[]⟩ ⟨#[]⟩ ⟨#[]⟩ false is_ set_ hs hx hy hz hl w hG
  | true =>
    cases is_ with
    | false => rw [if_pos (Or.inr rfl)]; exact parse_A2 s front back object relation subject userset ⟨#[]⟩ ⟨#[]⟩ ⟨#[]⟩ ⟨#[]⟩ true false set_ hs hx hy hz hl w hG
    | true =>
      rw [if_neg (by simp)]
      obtain ⟨o1, o2, e1, ho⟩ : ∃ a b c, parseO object = (a, b, c) := ⟨_, _, _, rfl⟩
      rw [ho]
      cases e1 with
      | some e => exact parse_B s front back object relation subject userset o1 o2 ⟨#[]⟩ ⟨#[]⟩ true true set_ hs hx hy hz hl e.1 e.2 ⟨ho⟩ w hG
      | none =>
        dsimp only
        cases hi : isP relation with
        | false => rw [if_pos rfl]; exact parse_C s front back object relation subject userset o1 o2 ⟨#[]⟩ ⟨#[]⟩ true true set_ hs hx hy hz hl ⟨ho⟩ ⟨hi⟩ w hG
        | true =>
          rw [if_neg (by simp)]
          obtain ⟨u1, u2, e2, hu⟩ : ∃ a b c, parseO subject = (a, b, c) := ⟨_, _, _, rfl⟩
          have hoff := parseO_off subject
          rw [hu] at hoff ⊢
          cases e2 with
          | some e =>
            obtain ⟨n6, m6⟩ := e
            have := hoff n6 m6 rfl
            exact parse_D s front back object relation subject userset o1 o2 u1 u2 true true set_ hs hx hy hz hl ⟨ho⟩ ⟨hi⟩ n6 m6 ⟨by omega⟩ ⟨hu⟩ w hG
          | none =>
            dsimp only
            cases set_ with
            | false => rw [if_neg (by simp)]; exact parse_F1 s front back object relation subject userset o1 o2 u1 u2 true true false hs hx hy hz hl ⟨ho⟩ ⟨hi⟩ ⟨hu⟩ w hG
            | true =>
              cases hui : isP userset with
              | false => rw [if_pos ⟨rfl, rfl⟩]; exact parse_E s front back object relation subject userset o1 o2 u1 u2 true true true hs hx hy hz hl ⟨ho⟩ ⟨hi⟩ ⟨hu⟩ ⟨hui⟩ w hG
              | true => rw [if_neg (by simp)]; exact parse_F2 s front back object relation subject userset o1 o2 u1 u2 true true true hs hx hy hz hl ⟨ho⟩ ⟨hi⟩ ⟨hu⟩ ⟨hui⟩ w hG
end Go.Proofs.YtlbbhgmpiednfaaGreatDoor.HTupH
/- Tuples, plain: texts lead back. -/
namespace Go.Proofs.YtlbbhgmpiednfaaGreatDoor.HTupJ
open Go.RowKit Go.Proofs.YtlbbhgmpiednfaaGreatDoorW.PrintWords Go.Proofs.YtlbbhgmpiednfaaGreatDoor.HNameP Go.Proofs.YtlbbhgmpiednfaaGreatDoor.HNameR Go.Proofs.YtlbbhgmpiednfaaGreatDoor.HName Go.Proofs.YtlbbhgmpiednfaaGreatDoor.HNameJ Go.Proofs.YtlbbhgmpiednfaaGreatDoor.HTupP
set_option linter.unusedVariables false
set_option linter.unusedSimpArgs false

/-- A byte does not occur. -/
def No (c : Int) (s : ByteArray) : Prop := ∀ i : Nat, i < s.size → bt s i ≠ c
theorem No.app {c : Int} {a b : ByteArray} (ha : No c a) (hb : No c b) : No c (a ++ b) := by
  intro i hi
  rw [ByteArray.size_append] at hi
  by_cases h : i < a.size
  · rw [bt_left a b i h]; exact ha i h
  · have := bt_right a b (i - a.size) (by omega)
    rw [show a.size + (i - a.size) = i from by omega] at this
    rw [this]
    exact hb _ (by omega)
theorem No.one {c : Int} {k : UInt8} (h : (k.toNat : Int) ≠ c) : No c ⟨#[k]⟩ := by
  intro i hi
  have : i = 0 := by
    have h1 : (⟨#[k]⟩ : ByteArray).size = 1 := rfl
    omega
  subst this
  exact h
theorem No.nil {c : Int} : No c ⟨#[]⟩ := fun i hi => by
  have h1 : (⟨#[]⟩ : ByteArray).size = 0 := rfl
  omega
theorem No.name {c : Int} {t : ByteArray} (hn : nameC c = false) (h : isP t = true) : No c t := name_no t c hn h
theorem No.id {c : Int} {t : ByteArray} (hn : idC c = false) (h : idP t = true) : No c t := by
  intro i hi e
  simp only [idP, Bool.and_eq_true] at h
  have := List.all_eq_true.1 h.2.2 i (List.mem_range.2 hi)
  rw [e, hn] at this
  cases this
theorem cut_join (x y : ByteArray) (c : UInt8) (h : No c.toNat x) : cutP (x ++ ⟨#[c]⟩ ++ y) c.toNat = (x, y, true) := by
  have hf : findP (x ++ ⟨#[c]⟩ ++ y) c.toNat = x.size := join_find x y c h
  unfold cutP
  rw [hf, if_neg (by omega), show ((x.size : Nat) : Int).toNat = x.size from by omega, show ((x.size : Int) + 1).toNat = x.size + 1 from by omega, join_left, join_right]
theorem cut_none (x : ByteArray) (c : Int) (hc : 0 ≤ c ∧ c ≤ 255) (h : No c x) : cutP x c = (x, ⟨#[]⟩, false) := by
  unfold cutP
  rw [find_miss hc h, if_pos rfl]
theorem ext_one (s : ByteArray) (o : Nat) (h : o < s.size) (c : UInt8) (hb : bt s o = c.toNat) : s.extract o (o + 1) = ⟨#[c]⟩ := by
  have h1 : bt s o = (s[o].toNat : Int) := by
    have := bt_at s o (by omega)
    rw [← this]
    simp
  have hc : s[o] = c := by
    apply UInt8.toNat_inj.1
    omega
  apply ByteArray.ext_getElem
  · rw [ByteArray.size_extract]
    show min (o + 1) s.size - o = 1
    omega
  · intro i h2 h3
    have : i = 0 := by
      have h1 : (⟨#[c]⟩ : ByteArray).size = 1 := rfl
      omega
    subst this
    rw [ByteArray.getElem_extract]
    exact hc
theorem cut_back {s : ByteArray} (c : UInt8) (h : (cutP s c.toNat).2.2 = true) : s = (cutP s c.toNat).1 ++ ⟨#[c]⟩ ++ (cutP s c.toNat).2.1 := by
  have hc := c.toNat_lt
  by_cases hf : findP s c.toNat = -1
  · unfold cutP at h
    rw [if_pos hf] at h
    cases h
  · have hge := find_ge s (c.toNat : Int)
    obtain ⟨o, ho⟩ : ∃ o : Nat, findP s c.toNat = o := ⟨(findP s c.toNat).toNat, by omega⟩
    obtain ⟨h1, h2, _⟩ := find_some (by omega) ho
    unfold cutP
    rw [if_neg hf, ho, show ((o : Nat) : Int).toNat = o from by omega, show ((o : Int) + 1).toNat = o + 1 from by omega]
    show s = s.extract 0 o ++ ⟨#[c]⟩ ++ s.extract (o + 1) s.size
    rw [← ext_one s o h1 c h2]
    have e1 : s.extract 0 o ++ s.extract o (o + 1) = s.extract 0 (o + 1) := by
      rw [ByteArray.extract_append_extract, Nat.min_eq_left (by omega), Nat.max_eq_right (by omega)]
    have e2 : s.extract 0 (o + 1) ++ s.extract (o + 1) s.size = s := by
      rw [ByteArray.extract_append_extract, Nat.min_eq_left (by omega), Nat.max_eq_right (by omega)]
      exact ByteArray.extract_zero_size
    rw [e1, e2]
theorem cut_second {s : ByteArray} {c : Int} (h : (cutP s c).2.2 = false) : (cutP s c).1 = s ∧ (cutP s c).2.1 = ⟨#[]⟩ := by
  unfold cutP at h ⊢
  by_cases hf : findP s c = -1
  · rw [if_pos hf]; exact ⟨rfl, rfl⟩
  · rw [if_neg hf] at h; cases h
theorem parseO_back {s : ByteArray} (h : (parseO s).2.2 = none) : s = (parseO s).1 ++ ⟨#[58]⟩ ++ (parseO s).2.1 ∧ isP (parseO s).1 = true ∧ idP (parseO s).2.1 = true := by
  have hc : cutP s ((58 : UInt8).toNat : Int) = ((cutP s 58)) := rfl
  unfold parseO at h ⊢
  by_cases h0 : findP s 58 = -1
  · rw [if_pos h0] at h; cases h
  · rw [if_neg h0] at h ⊢
    by_cases h1 : isP (s.extract 0 (findP s 58).toNat) = false
    · rw [if_pos h1] at h; cases h
    · rw [if_neg h1] at h ⊢
      by_cases h2 : idP (s.extract (findP s 58 + 1).toNat s.size) = false
      · rw [if_pos h2] at h; cases h
      · rw [if_neg h2]
        have hb := cut_back (s := s) 58 (by show (cutP s 58).2.2 = true; unfold cutP; rw [if_neg h0])
        rw [hc] at hb
        unfold cutP at hb
        rw [if_neg h0] at hb
        exact ⟨hb, by simpa using h1, by simpa using h2⟩

theorem front_split (t : Tp) : frontP t = (t.a ++ ⟨#[58]⟩ ++ t.b ++ ⟨#[35]⟩ ++ t.c) ++ ⟨#[64]⟩ ++ (t.d ++ ⟨#[58]⟩ ++ t.e) := rfl
def backP (t : Tp) : ByteArray := if t.f.size = 0 then t.d ++ ⟨#[58]⟩ ++ t.e else t.d ++ ⟨#[58]⟩ ++ t.e ++ ⟨#[35]⟩ ++ t.f
theorem text_split (t : Tp) : textP t = (t.a ++ ⟨#[58]⟩ ++ t.b ++ ⟨#[35]⟩ ++ t.c) ++ ⟨#[64]⟩ ++ backP t := by
  unfold textP backP
  by_cases h : t.f.size = 0
  · rw [if_pos h, if_pos h]; rfl
  · rw [if_neg h, if_neg h]
    unfold frontP
    simp only [ByteArray.append_assoc]
theorem rightP_iff (t : Tp) : rightP t = true ↔ isP t.a = true ∧ idP t.b = true ∧ isP t.c = true ∧ isP t.d = true ∧ idP t.e = true ∧ (t.f.size = 0 ∨ isP t.f = true) := by
  simp [rightP, optP]
theorem parse_text (t : Tp) (h : rightP t = true) : parseT (textP t) = (t, none) := by
  obtain ⟨ha, hb, hc, hd, he, hf⟩ := (rightP_iff t).1 h
  have n64a : No 64 t.a := .name (by decide) ha
  have n64b : No 64 t.b := .id (by decide) hb
  have n64c : No 64 t.c := .name (by decide) hc
  have n35a : No 35 t.a := .name (by decide) ha
  have n35b : No 35 t.b := .id (by decide) hb
  have n35d : No 35 t.d := .name (by decide) hd
  have n35e : No 35 t.e := .id (by decide) he
  have hx : cutP (textP t) 64 = (t.a ++ ⟨#[58]⟩ ++ t.b ++ ⟨#[35]⟩ ++ t.c, backP t, true) := by
    rw [text_split]
    exact cut_join _ _ 64 ((((n64a.app (.one (by decide))).app n64b).app (.one (by decide))).app n64c)
  have hy : cutP (t.a ++ ⟨#[58]⟩ ++ t.b ++ ⟨#[35]⟩ ++ t.c) 35 = (t.a ++ ⟨#[58]⟩ ++ t.b, t.c, true) :=
    cut_join _ _ 35 ((n35a.app (.one (by decide))).app n35b)
  have hde : No 35 (t.d ++ ⟨#[58]⟩ ++ t.e) := (n35d.app (.one (by decide))).app n35e
  have hp1 := parseO_join t.a t.b ha hb
  have hp2 := parseO_join t.d t.e hd he
  rcases hf with hf | hf
  · have hz : cutP (backP t) 35 = (t.d ++ ⟨#[58]⟩ ++ t.e, ⟨#[]⟩, false) := by
      unfold backP
      rw [if_pos hf]
      exact cut_none _ _ (by decide) hde
    unfold parseT
    simp only [hx, hy, hz, hp1, hp2, hc]
    have : t.f = ⟨#[]⟩ := empty_of_size hf
    simp [← this]
  · have hs := isP_size hf
    have hz : cutP (backP t) 35 = (t.d ++ ⟨#[58]⟩ ++ t.e, t.f, true) := by
      unfold backP
      rw [if_neg (by omega)]
      exact cut_join _ _ 35 hde
    unfold parseT
    simp only [hx, hy, hz, hp1, hp2, hc, hf]
    simp
theorem text_parse (s : ByteArray) (h : (parseT s).2 = none) : rightP (parseT s).1 = true ∧ textP (parseT s).1 = s := by
  unfold parseT at h ⊢
  dsimp only at h ⊢
  by_cases h0 : (cutP s 64).2.2 = false ∨ (cutP (cutP s 64).1 35).2.2 = false
  · rw [if_pos h0] at h; cases h
  · rw [if_neg h0] at h ⊢
    have hx := cut_back (s := s) 64 (by show (cutP s 64).2.2 = true; cases hq : (cutP s 64).2.2 with | true => rfl | false => exact absurd (Or.inl hq) h0)
    have hy := cut_back (s := (cutP s 64).1) 35 (by show (cutP (cutP s 64).1 35).2.2 = true; cases hq : (cutP (cutP s 64).1 35).2.2 with | true => rfl | false => exact absurd (Or.inr hq) h0)
    rw [show (((64 : UInt8).toNat : Nat) : Int) = 64 from rfl] at hx
    rw [show (((35 : UInt8).toNat : Nat) : Int) = 35 from rfl] at hy
    generalize cutP s 64 = x at h h0 hx hy ⊢
    generalize cutP x.1 35 = y at h h0 hy ⊢
    cases h1 : (parseO y.1).2.2 with
    | some e => rw [h1] at h; cases h
    | none =>
      obtain ⟨o1, o2, o3⟩ := parseO_back h1
      rw [h1] at h
      dsimp only at h ⊢
      by_cases h2 : isP y.2.1 = false
      · rw [if_pos h2] at h; cases h
      · rw [if_neg h2] at h ⊢
        cases h3 : (parseO (cutP x.2.1 35).1).2.2 with
        | some e => rw [h3] at h; cases h
        | none =>
          obtain ⟨u1, u2, u3⟩ := parseO_back h3
          rw [h3] at h
          dsimp only at h ⊢
          by_cases h4 : (cutP x.2.1 35).2.2 = true ∧ isP (cutP x.2.1 35).2.1 = false
          · rw [if_pos h4] at h; cases h
          · rw [if_neg h4]
            have hrel : isP y.2.1 = true := by simpa using h2
            cases h5 : (cutP x.2.1 35).2.2 with
            | false =>
              obtain ⟨z1, z2⟩ := cut_second h5
              refine ⟨(rightP_iff _).2 ⟨o2, o3, hrel, u2, u3, Or.inl (by rw [z2]; rfl)⟩, ?_⟩
              rw [text_split]
              unfold backP
              dsimp only
              rw [if_pos (by rw [z2]; rfl), ← o1, ← u1, z1, ← hy, ← hx]
            | true =>
              have hz := cut_back (s := x.2.1) 35 h5
              rw [show (((35 : UInt8).toNat : Nat) : Int) = 35 from rfl] at hz
              have hus : isP (cutP x.2.1 35).2.1 = true := by
                cases hq : isP (cutP x.2.1 35).2.1 with
                | true => rfl
                | false => exact absurd ⟨h5, hq⟩ h4
              have hs := isP_size hus
              refine ⟨(rightP_iff _).2 ⟨o2, o3, hrel, u2, u3, Or.inr hus⟩, ?_⟩
              rw [text_split]
              unfold backP
              dsimp only
              rw [if_neg (by omega), ← o1, ← u1, ← hy, ← hz, ← hx]
end Go.Proofs.YtlbbhgmpiednfaaGreatDoor.HTupJ
