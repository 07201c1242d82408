/- The law TupleApart. -/
import Derived.Test.YtlbbhgmpiednfaaGreatDoorUU
import Derived.Test.YtlbbhgmpiednfaaGreatDoorUS
namespace Go.Proofs.YtlbbhgmpiednfaaGreatDoor.HTupL5
open Go.RowKit Go.Proofs.YtlbbhgmpiednfaaGreatDoorW.PrintWords Go.Proofs.YtlbbhgmpiednfaaGreatDoor.HLib Go.Proofs.YtlbbhgmpiednfaaGreatDoor.HGr Go.Proofs.YtlbbhgmpiednfaaGreatDoor.HErr Go.Proofs.YtlbbhgmpiednfaaGreatDoor.HNameP Go.Proofs.YtlbbhgmpiednfaaGreatDoor.HName Go.Proofs.YtlbbhgmpiednfaaGreatDoor.HTupP Go.Proofs.YtlbbhgmpiednfaaGreatDoor.HTupR Go.Proofs.YtlbbhgmpiednfaaGreatDoor.HTupX Go.Proofs.YtlbbhgmpiednfaaGreatDoor.HTupG Go.Proofs.YtlbbhgmpiednfaaGreatDoor.HTupJ Go.Proofs.YtlbbhgmpiednfaaGreatDoor.HTupM Go.Proofs.YtlbbhgmpiednfaaGreatDoor.HTupB Go.Proofs.YtlbbhgmpiednfaaGreatDoor.HTupN Go.Proofs.YtlbbhgmpiednfaaGreatDoor.HTupU Go.Proofs.YtlbbhgmpiednfaaGreatDoor.HTupRf Go.Proofs.YtlbbhgmpiednfaaGreatDoor.HPut Go.Proofs.YtlbbhgmpiednfaaGreatDoor.PTupleSorts
set_option linter.unusedVariables false
set_option linter.unusedSimpArgs false
theorem text_inj {a b : Tp} (ha : rightP a = true) (hb : rightP b = true) : textP a = textP b ↔ a = b :=
  ⟨fun h => by have h1 := parse_text a ha; rw [h, parse_text b hb] at h1; injection h1 with h1 _; exact h1.symm, fun h => by rw [h]⟩
theorem put_inj {a b : Tp} (ha : rightP a = true) (hb : rightP b = true) : putP a = putP b ↔ a = b :=
  ⟨fun h => by have h1 := parseB_put a ha; rw [h, parseB_put b hb] at h1; injection h1 with h1 _; exact h1.symm, fun h => by rw [h]⟩
noncomputable instance : DecidableEq Tp := fun x y => Classical.propDecidable _
theorem s32_inj (x y : Tp) : s32 x = s32 y ↔ x = y := by
  constructor
  · intro h
    obtain ⟨a, b, c, d, e, f⟩ := x
    obtain ⟨a', b', c', d', e', f'⟩ := y
    injection h with h1 h2 h3 h4
    injection h1 with h5 h6
    injection h3 with h7 h8
    subst h2 h4 h5 h6 h7 h8
    rfl
  · intro e; rw [e]
theorem eqv_T (x y : Tp) (w : World) : (binOp .eql 32 (tvv x) (tvv y)).run Tryz.prog w = .ok (.bool (decide (x = y))) w := by
  have h := HTupE.eq_T (s32 x) (s32 y) w
  rw [show decide (s32 x = s32 y) = decide (x = y) from decide_eq_decide.2 (s32_inj x y)] at h
  exact h
theorem load_tv {W : World} {g : Nat} {t : Tp} (h : W.heap[g]? = some (.cells (rowc t) 32 (0, 0))) : (Instr.loadAt 32 (.pointer (some ⟨g, 0, none⟩))).run Tryz.prog W = .ok (tvv t) W :=
  HTupE.load_T (x := s32 t) ((blk_cell h 0).trans rfl) ((blk_cell h 1).trans rfl) ((blk_cell h 2).trans rfl) ((blk_cell h 3).trans rfl) ((blk_cell h 4).trans rfl) ((blk_cell h 5).trans rfl)

set_option maxRecDepth 20000 in
set_option maxHeartbeats 8000000 in
theorem apart_0 (a b : Tp) (ha : sumP a ≤ 1048576) (hb : sumP b ≤ 1048576) (hsa : shortP a = false) (w : World) (hG : GV w) : Calls Tryz.prog 4 #[tvv a, tvv b] w fun e w' => e = .returned (.bool true) ∧ Below w.heap.size w w' := by
  obtain ⟨W, hW⟩ : ∃ W, W = (w.alloc (.cells (rowc a) 32)).alloc (.cells (rowc b) 32) := ⟨_, rfl⟩
  have hbW : Below w.heap.size w W := by rw [hW]; exact below_alloc (below_alloc (B0 w) _) _
  have HRA := Aside0.mk (show W.heap[w.heap.size]? = some (.cells (rowc a) 32 (0, 0)) from by rw [hW]; exact blk_alloc (blk_new w _) _)
  have HRB := Aside0.mk (show W.heap[w.heap.size + 1]? = some (.cells (rowc b) 32 (0, 0)) from by rw [hW]; have h := blk_new (w.alloc (.cells (rowc a) 32)) (.cells (rowc b) 32); rw [World.size_alloc] at h; exact h)
  have HB := Aside0.mk hbW
  have HG := Aside0.mk (hG.below hbW)
  have HA1 := Aside0.mk ha
  have HB1 := Aside0.mk hb
  obtain ⟨ga, hga⟩ : ∃ g, g = w.heap.size := ⟨_, rfl⟩
  rw [← hga] at HRA HRB
  obtain ⟨gb, hgb⟩ : ∃ g, g = ga + 1 := ⟨_, rfl⟩
  rw [← hgb] at HRB
  clear hG hbW ha hb
  go_enter Tryz.func4, Tryz.ntmps4
  go_upto_region 1 with fail
  rw [← hW, ← hga, ← hgb]
  clear hW hga hgb
  have KSA := Aside0.mk hsa
  clear hsa
  go_wp2_with fail
  refine (awake_any W HG.out).mono ?_
  rintro e_ w1 ⟨rfl, hb⟩
  have HRA' := Aside0.mk (blk_below HRA.out hb)
  have HRB' := Aside0.mk (blk_below HRB.out hb)
  have HB' := Aside0.mk (below_step HB.out hb)
  have HG' := Aside0.mk (HG.out.below hb)
  clear HRA HRB HB HG hb
  have HRA := HRA'
  have HRB := HRB'
  have HB := HB'
  have HG := HG'
  clear HRA' HRB' HB' HG'
  have ga0 : w1.cell? ⟨ga, 0, none⟩ = some (.string a.a) := (blk_cell HRA.out 0).trans rfl
  have ga1 : w1.cell? ⟨ga, 1, none⟩ = some (.string a.b) := (blk_cell HRA.out 1).trans rfl
  have ga2 : w1.cell? ⟨ga, 2, none⟩ = some (.string a.c) := (blk_cell HRA.out 2).trans rfl
  have ga3 : w1.cell? ⟨ga, 3, none⟩ = some (.string a.d) := (blk_cell HRA.out 3).trans rfl
  have ga4 : w1.cell? ⟨ga, 4, none⟩ = some (.string a.e) := (blk_cell HRA.out 4).trans rfl
  have ga5 : w1.cell? ⟨ga, 5, none⟩ = some (.string a.f) := (blk_cell HRA.out 5).trans rfl
  go_wp2_with fail
  refine (short_any a (by have := HA1.out; omega) w1).mono ?_
  rintro e_ v0 ⟨rfl, hb⟩
  rw [KSA.out]
  clear ga0 ga1 ga2 ga3 ga4 ga5
  have HRA' := Aside0.mk (blk_below HRA.out hb)
  have HRB' := Aside0.mk (blk_below HRB.out hb)
  have HB' := Aside0.mk (below_step HB.out hb)
  have HG' := Aside0.mk (HG.out.below hb)
  clear HRA HRB HB HG hb
  have HRA := HRA'
  have HRB := HRB'
  have HB := HB'
  have HG := HG'
  clear HRA' HRB' HB' HG'
  go_wp2_with fail
  refine (awake_any v0 HG.out).mono ?_
  rintro e_ w9 ⟨rfl, hb⟩
  have HRA' := Aside0.mk (blk_below HRA.out hb)
  have HRB' := Aside0.mk (blk_below HRB.out hb)
  have HB' := Aside0.mk (below_step HB.out hb)
  have HG' := Aside0.mk (HG.out.below hb)
  clear HRA HRB HB HG hb
  have HRA := HRA'
  have HRB := HRB'
  have HB := HB'
  have HG := HG'
  clear HRA' HRB' HB' HG'
  go_wp2
  go_ret
  exact ⟨rfl, HB.out⟩
set_option maxRecDepth 20000 in
set_option maxHeartbeats 8000000 in
theorem apart_1 (a b : Tp) (ha : sumP a ≤ 1048576) (hb : sumP b ≤ 1048576) (hsa : shortP a = true) (hsb : shortP b = false) (w : World) (hG : GV w) : Calls Tryz.prog 4 #[tvv a, tvv b] w fun e w' => e = .returned (.bool true) ∧ Below w.heap.size w w' := by
  obtain ⟨W, hW⟩ : ∃ W, W = (w.alloc (.cells (rowc a) 32)).alloc (.cells (rowc b) 32) := ⟨_, rfl⟩
  have hbW : Below w.heap.size w W := by rw [hW]; exact below_alloc (below_alloc (B0 w) _) _
  have HRA := Aside0.mk (show W.heap[w.heap.size]? = some (.cells (rowc a) 32 (0, 0)) from by rw [hW]; exact blk_alloc (blk_new w _) _)
  have HRB := Aside0.mk (show W.heap[w.heap.size + 1]? = some (.cells (rowc b) 32 (0, 0)) from by rw [hW]; have h := blk_new (w.alloc (.cells (rowc a) 32)) (.cells (rowc b) 32); rw [World.size_alloc] at h; exact h)
  have HB := Aside0.mk hbW
  have HG := Aside0.mk (hG.below hbW)
  have HA1 := Aside0.mk ha
  have HB1 := Aside0.mk hb
  obtain ⟨ga, hga⟩ : ∃ g, g = w.heap.size := ⟨_, rfl⟩
  rw [← hga] at HRA HRB
  obtain ⟨gb, hgb⟩ : ∃ g, g = ga + 1 := ⟨_, rfl⟩
  rw [← hgb] at HRB
  clear hG hbW ha hb
  go_enter Tryz.func4, Tryz.ntmps4
  go_upto_region 1 with fail
  rw [← hW, ← hga, ← hgb]
  clear hW hga hgb
  have HSA := Aside0.mk (show sumP a ≤ 1500 from by simpa [shortP] using hsa)
  have KSA := Aside0.mk hsa
  clear hsa
  have KSB := Aside0.mk hsb
  clear hsb
  go_wp2_with fail
  refine (awake_any W HG.out).mono ?_
  rintro e_ w1 ⟨rfl, hb⟩
  have HRA' := Aside0.mk (blk_below HRA.out hb)
  have HRB' := Aside0.mk (blk_below HRB.out hb)
  have HB' := Aside0.mk (below_step HB.out hb)
  have HG' := Aside0.mk (HG.out.below hb)
  clear HRA HRB HB HG hb
  have HRA := HRA'
  have HRB := HRB'
  have HB := HB'
  have HG := HG'
  clear HRA' HRB' HB' HG'
  have ga0 : w1.cell? ⟨ga, 0, none⟩ = some (.string a.a) := (blk_cell HRA.out 0).trans rfl
  have ga1 : w1.cell? ⟨ga, 1, none⟩ = some (.string a.b) := (blk_cell HRA.out 1).trans rfl
  have ga2 : w1.cell? ⟨ga, 2, none⟩ = some (.string a.c) := (blk_cell HRA.out 2).trans rfl
  have ga3 : w1.cell? ⟨ga, 3, none⟩ = some (.string a.d) := (blk_cell HRA.out 3).trans rfl
  have ga4 : w1.cell? ⟨ga, 4, none⟩ = some (.string a.e) := (blk_cell HRA.out 4).trans rfl
  have ga5 : w1.cell? ⟨ga, 5, none⟩ = some (.string a.f) := (blk_cell HRA.out 5).trans rfl
  go_wp2_with fail
  refine (short_any a (by have := HA1.out; omega) w1).mono ?_
  rintro e_ v0 ⟨rfl, hb⟩
  rw [KSA.out]
  clear ga0 ga1 ga2 ga3 ga4 ga5
  have HRA' := Aside0.mk (blk_below HRA.out hb)
  have HRB' := Aside0.mk (blk_below HRB.out hb)
  have HB' := Aside0.mk (below_step HB.out hb)
  have HG' := Aside0.mk (HG.out.below hb)
  clear HRA HRB HB HG hb
  have HRA := HRA'
  have HRB := HRB'
  have HB := HB'
  have HG := HG'
  clear HRA' HRB' HB' HG'
  have gb0 : v0.cell? ⟨gb, 0, none⟩ = some (.string b.a) := (blk_cell HRB.out 0).trans rfl
  have gb1 : v0.cell? ⟨gb, 1, none⟩ = some (.string b.b) := (blk_cell HRB.out 1).trans rfl
  have gb2 : v0.cell? ⟨gb, 2, none⟩ = some (.string b.c) := (blk_cell HRB.out 2).trans rfl
  have gb3 : v0.cell? ⟨gb, 3, none⟩ = some (.string b.d) := (blk_cell HRB.out 3).trans rfl
  have gb4 : v0.cell? ⟨gb, 4, none⟩ = some (.string b.e) := (blk_cell HRB.out 4).trans rfl
  have gb5 : v0.cell? ⟨gb, 5, none⟩ = some (.string b.f) := (blk_cell HRB.out 5).trans rfl
  go_wp2_with fail
  refine (short_any b (by have := HB1.out; omega) v0).mono ?_
  rintro e_ v1 ⟨rfl, hb⟩
  rw [KSB.out]
  clear gb0 gb1 gb2 gb3 gb4 gb5
  have HRA' := Aside0.mk (blk_below HRA.out hb)
  have HRB' := Aside0.mk (blk_below HRB.out hb)
  have HB' := Aside0.mk (below_step HB.out hb)
  have HG' := Aside0.mk (HG.out.below hb)
  clear HRA HRB HB HG hb
  have HRA := HRA'
  have HRB := HRB'
  have HB := HB'
  have HG := HG'
  clear HRA' HRB' HB' HG'
  go_wp2_with fail
  refine (awake_any v1 HG.out).mono ?_
  rintro e_ w9 ⟨rfl, hb⟩
  have HRA' := Aside0.mk (blk_below HRA.out hb)
  have HRB' := Aside0.mk (blk_below HRB.out hb)
  have HB' := Aside0.mk (below_step HB.out hb)
  have HG' := Aside0.mk (HG.out.below hb)
  clear HRA HRB HB HG hb
  have HRA := HRA'
  have HRB := HRB'
  have HB := HB'
  have HG := HG'
  clear HRA' HRB' HB' HG'
  go_wp2
  go_ret
  exact ⟨rfl, HB.out⟩
set_option maxRecDepth 20000 in
set_option maxHeartbeats 8000000 in
theorem apart_2 (a b : Tp) (ha : sumP a ≤ 1048576) (hb : sumP b ≤ 1048576) (hsa : shortP a = true) (hsb : shortP b = true) (hra : rightP a = false) (w : World) (hG : GV w) : Calls Tryz.prog 4 #[tvv a, tvv b] w fun e w' => e = .returned (.bool true) ∧ Below w.heap.size w w' := by
  obtain ⟨W, hW⟩ : ∃ W, W = (w.alloc (.cells (rowc a) 32)).alloc (.cells (rowc b) 32) := ⟨_, rfl⟩
  have hbW : Below w.heap.size w W := by rw [hW]; exact below_alloc (below_alloc (B0 w) _) _
  have HRA := Aside0.mk (show W.heap[w.heap.size]? = some (.cells (rowc a) 32 (0, 0)) from by rw [hW]; exact blk_alloc (blk_new w _) _)
  have HRB := Aside0.mk (show W.heap[w.heap.size + 1]? = some (.cells (rowc b) 32 (0, 0)) from by rw [hW]; have h := blk_new (w.alloc (.cells (rowc a) 32)) (.cells (rowc b) 32); rw [World.size_alloc] at h; exact h)
  have HB := Aside0.mk hbW
  have HG := Aside0.mk (hG.below hbW)
  have HA1 := Aside0.mk ha
  have HB1 := Aside0.mk hb
  obtain ⟨ga, hga⟩ : ∃ g, g = w.heap.size := ⟨_, rfl⟩
  rw [← hga] at HRA HRB
  obtain ⟨gb, hgb⟩ : ∃ g, g = ga + 1 := ⟨_, rfl⟩
  rw [← hgb] at HRB
  clear hG hbW ha hb
  go_enter Tryz.func4, Tryz.ntmps4
  go_upto_region 1 with fail
  rw [← hW, ← hga, ← hgb]
  clear hW hga hgb
  have HSA := Aside0.mk (show sumP a ≤ 1500 from by simpa [shortP] using hsa)
  have HSB := Aside0.mk (show sumP b ≤ 1500 from by simpa [shortP] using hsb)
  have KSA := Aside0.mk hsa
  clear hsa
  have KSB := Aside0.mk hsb
  clear hsb
  have HRTA := Aside0.mk hra
  clear hra
  go_wp2_with fail
  refine (awake_any W HG.out).mono ?_
  rintro e_ w1 ⟨rfl, hb⟩
  have HRA' := Aside0.mk (blk_below HRA.out hb)
  have HRB' := Aside0.mk (blk_below HRB.out hb)
  have HB' := Aside0.mk (below_step HB.out hb)
  have HG' := Aside0.mk (HG.out.below hb)
  clear HRA HRB HB HG hb
  have HRA := HRA'
  have HRB := HRB'
  have HB := HB'
  have HG := HG'
  clear HRA' HRB' HB' HG'
  have ga0 : w1.cell? ⟨ga, 0, none⟩ = some (.string a.a) := (blk_cell HRA.out 0).trans rfl
  have ga1 : w1.cell? ⟨ga, 1, none⟩ = some (.string a.b) := (blk_cell HRA.out 1).trans rfl
  have ga2 : w1.cell? ⟨ga, 2, none⟩ = some (.string a.c) := (blk_cell HRA.out 2).trans rfl
  have ga3 : w1.cell? ⟨ga, 3, none⟩ = some (.string a.d) := (blk_cell HRA.out 3).trans rfl
  have ga4 : w1.cell? ⟨ga, 4, none⟩ = some (.string a.e) := (blk_cell HRA.out 4).trans rfl
  have ga5 : w1.cell? ⟨ga, 5, none⟩ = some (.string a.f) := (blk_cell HRA.out 5).trans rfl
  go_wp2_with fail
  refine (short_any a (by have := HA1.out; omega) w1).mono ?_
  rintro e_ v0 ⟨rfl, hb⟩
  rw [KSA.out]
  clear ga0 ga1 ga2 ga3 ga4 ga5
  have HRA' := Aside0.mk (blk_below HRA.out hb)
  have HRB' := Aside0.mk (blk_below HRB.out hb)
  have HB' := Aside0.mk (below_step HB.out hb)
  have HG' := Aside0.mk (HG.out.below hb)
  clear HRA HRB HB HG hb
  have HRA := HRA'
  have HRB := HRB'
  have HB := HB'
  have HG := HG'
  clear HRA' HRB' HB' HG'
  have gb0 : v0.cell? ⟨gb, 0, none⟩ = some (.string b.a) := (blk_cell HRB.out 0).trans rfl
  have gb1 : v0.cell? ⟨gb, 1, none⟩ = some (.string b.b) := (blk_cell HRB.out 1).trans rfl
  have gb2 : v0.cell? ⟨gb, 2, none⟩ = some (.string b.c) := (blk_cell HRB.out 2).trans rfl
  have gb3 : v0.cell? ⟨gb, 3, none⟩ = some (.string b.d) := (blk_cell HRB.out 3).trans rfl
  have gb4 : v0.cell? ⟨gb, 4, none⟩ = some (.string b.e) := (blk_cell HRB.out 4).trans rfl
  have gb5 : v0.cell? ⟨gb, 5, none⟩ = some (.string b.f) := (blk_cell HRB.out 5).trans rfl
  go_wp2_with fail
  refine (short_any b (by have := HB1.out; omega) v0).mono ?_
  rintro e_ v1 ⟨rfl, hb⟩
  rw [KSB.out]
  clear gb0 gb1 gb2 gb3 gb4 gb5
  have HRA' := Aside0.mk (blk_below HRA.out hb)
  have HRB' := Aside0.mk (blk_below HRB.out hb)
  have HB' := Aside0.mk (below_step HB.out hb)
  have HG' := Aside0.mk (HG.out.below hb)
  clear HRA HRB HB HG hb
  have HRA := HRA'
  have HRB := HRB'
  have HB := HB'
  have HG := HG'
  clear HRA' HRB' HB' HG'
  have ga0 : v1.cell? ⟨ga, 0, none⟩ = some (.string a.a) := (blk_cell HRA.out 0).trans rfl
  have ga1 : v1.cell? ⟨ga, 1, none⟩ = some (.string a.b) := (blk_cell HRA.out 1).trans rfl
  have ga2 : v1.cell? ⟨ga, 2, none⟩ = some (.string a.c) := (blk_cell HRA.out 2).trans rfl
  have ga3 : v1.cell? ⟨ga, 3, none⟩ = some (.string a.d) := (blk_cell HRA.out 3).trans rfl
  have ga4 : v1.cell? ⟨ga, 4, none⟩ = some (.string a.e) := (blk_cell HRA.out 4).trans rfl
  have ga5 : v1.cell? ⟨ga, 5, none⟩ = some (.string a.f) := (blk_cell HRA.out 5).trans rfl
  go_wp2_with fail
  refine (refright_any a (by have := HSA.out; omega) v1).mono ?_
  rintro e_ v2 ⟨rfl, hb⟩
  rw [HRTA.out]
  clear ga0 ga1 ga2 ga3 ga4 ga5
  have HRA' := Aside0.mk (blk_below HRA.out hb)
  have HRB' := Aside0.mk (blk_below HRB.out hb)
  have HB' := Aside0.mk (below_step HB.out hb)
  have HG' := Aside0.mk (HG.out.below hb)
  clear HRA HRB HB HG hb
  have HRA := HRA'
  have HRB := HRB'
  have HB := HB'
  have HG := HG'
  clear HRA' HRB' HB' HG'
  go_wp2_with fail
  refine (awake_any v2 HG.out).mono ?_
  rintro e_ w9 ⟨rfl, hb⟩
  have HRA' := Aside0.mk (blk_below HRA.out hb)
  have HRB' := Aside0.mk (blk_below HRB.out hb)
  have HB' := Aside0.mk (below_step HB.out hb)
  have HG' := Aside0.mk (HG.out.below hb)
  clear HRA HRB HB HG hb
  have HRA := HRA'
  have HRB := HRB'
  have HB := HB'
  have HG := HG'
  clear HRA' HRB' HB' HG'
  go_wp2
  go_ret
  exact ⟨rfl, HB.out⟩
set_option maxRecDepth 20000 in
set_option maxHeartbeats 8000000 in
theorem apart_3 (a b : Tp) (ha : sumP a ≤ 1048576) (hb : sumP b ≤ 1048576) (hsa : shortP a = true) (hsb : shortP b = true) (hra : rightP a = true) (hrb : rightP b = false) (w : World) (hG : GV w) : Calls Tryz.prog 4 #[tvv a, tvv b] w fun e w' => e = .returned (.bool true) ∧ Below w.heap.size w w' := by
  obtain ⟨W, hW⟩ : ∃ W, W = (w.alloc (.cells (rowc a) 32)).alloc (.cells (rowc b) 32) := ⟨_, rfl⟩
  have hbW : Below w.heap.size w W := by rw [hW]; exact below_alloc (below_alloc (B0 w) _) _
  have HRA := Aside0.mk (show W.heap[w.heap.size]? = some (.cells (rowc a) 32 (0, 0)) from by rw [hW]; exact blk_alloc (blk_new w _) _)
  have HRB := Aside0.mk (show W.heap[w.heap.size + 1]? = some (.cells (rowc b) 32 (0, 0)) from by rw [hW]; have h := blk_new (w.alloc (.cells (rowc a) 32)) (.cells (rowc b) 32); rw [World.size_alloc] at h; exact h)
  have HB := Aside0.mk hbW
  have HG := Aside0.mk (hG.below hbW)
  have HA1 := Aside0.mk ha
  have HB1 := Aside0.mk hb
  obtain ⟨ga, hga⟩ : ∃ g, g = w.heap.size := ⟨_, rfl⟩
  rw [← hga] at HRA HRB
  obtain ⟨gb, hgb⟩ : ∃ g, g = ga + 1 := ⟨_, rfl⟩
  rw [← hgb] at HRB
  clear hG hbW ha hb
  go_enter Tryz.func4, Tryz.ntmps4
  go_upto_region 1 with fail
  rw [← hW, ← hga, ← hgb]
  clear hW hga hgb
  have HSA := Aside0.mk (show sumP a ≤ 1500 from by simpa [shortP] using hsa)
  have HSB := Aside0.mk (show sumP b ≤ 1500 from by simpa [shortP] using hsb)
  have KSA := Aside0.mk hsa
  clear hsa
  have KSB := Aside0.mk hsb
  clear hsb
  have HRTA := Aside0.mk hra
  clear hra
  have HRTB := Aside0.mk hrb
  clear hrb
  go_wp2_with fail
  refine (awake_any W HG.out).mono ?_
  rintro e_ w1 ⟨rfl, hb⟩
  have HRA' := Aside0.mk (blk_below HRA.out hb)
  have HRB' := Aside0.mk (blk_below HRB.out hb)
  have HB' := Aside0.mk (below_step HB.out hb)
  have HG' := Aside0.mk (HG.out.below hb)
  clear HRA HRB HB HG hb
  have HRA := HRA'
  have HRB := HRB'
  have HB := HB'
  have HG := HG'
  clear HRA' HRB' HB' HG'
  have ga0 : w1.cell? ⟨ga, 0, none⟩ = some (.string a.a) := (blk_cell HRA.out 0).trans rfl
  have ga1 : w1.cell? ⟨ga, 1, none⟩ = some (.string a.b) := (blk_cell HRA.out 1).trans rfl
  have ga2 : w1.cell? ⟨ga, 2, none⟩ = some (.string a.c) := (blk_cell HRA.out 2).trans rfl
  have ga3 : w1.cell? ⟨ga, 3, none⟩ = some (.string a.d) := (blk_cell HRA.out 3).trans rfl
  have ga4 : w1.cell? ⟨ga, 4, none⟩ = some (.string a.e) := (blk_cell HRA.out 4).trans rfl
  have ga5 : w1.cell? ⟨ga, 5, none⟩ = some (.string a.f) := (blk_cell HRA.out 5).trans rfl
  go_wp2_with fail
  refine (short_any a (by have := HA1.out; omega) w1).mono ?_
  rintro e_ v0 ⟨rfl, hb⟩
  rw [KSA.out]
  clear ga0 ga1 ga2 ga3 ga4 ga5
  have HRA' := Aside0.mk (blk_below HRA.out hb)
  have HRB' := Aside0.mk (blk_below HRB.out hb)
  have HB' := Aside0.mk (below_step HB.out hb)
  have HG' := Aside0.mk (HG.out.below hb)
  clear HRA HRB HB HG hb
  have HRA := HRA'
  have HRB := HRB'
  have HB := HB'
  have HG := HG'
  clear HRA' HRB' HB' HG'
  have gb0 : v0.cell? ⟨gb, 0, none⟩ = some (.string b.a) := (blk_cell HRB.out 0).trans rfl
  have gb1 : v0.cell? ⟨gb, 1, none⟩ = some (.string b.b) := (blk_cell HRB.out 1).trans rfl
  have gb2 : v0.cell? ⟨gb, 2, none⟩ = some (.string b.c) := (blk_cell HRB.out 2).trans rfl
  have gb3 : v0.cell? ⟨gb, 3, none⟩ = some (.string b.d) := (blk_cell HRB.out 3).trans rfl
  have gb4 : v0.cell? ⟨gb, 4, none⟩ = some (.string b.e) := (blk_cell HRB.out 4).trans rfl
  have gb5 : v0.cell? ⟨gb, 5, none⟩ = some (.string b.f) := (blk_cell HRB.out 5).trans rfl
  go_wp2_with fail
  refine (short_any b (by have := HB1.out; omega) v0).mono ?_
  rintro e_ v1 ⟨rfl, hb⟩
  rw [KSB.out]
  clear gb0 gb1 gb2 gb3 gb4 gb5
  have HRA' := Aside0.mk (blk_below HRA.out hb)
  have HRB' := Aside0.mk (blk_below HRB.out hb)
  have HB' := Aside0.mk (below_step HB.out hb)
  have HG' := Aside0.mk (HG.out.below hb)
  clear HRA HRB HB HG hb
  have HRA := HRA'
  have HRB := HRB'
  have HB := HB'
  have HG := HG'
  clear HRA' HRB' HB' HG'
  have ga0 : v1.cell? ⟨ga, 0, none⟩ = some (.string a.a) := (blk_cell HRA.out 0).trans rfl
  have ga1 : v1.cell? ⟨ga, 1, none⟩ = some (.string a.b) := (blk_cell HRA.out 1).trans rfl
  have ga2 : v1.cell? ⟨ga, 2, none⟩ = some (.string a.c) := (blk_cell HRA.out 2).trans rfl
  have ga3 : v1.cell? ⟨ga, 3, none⟩ = some (.string a.d) := (blk_cell HRA.out 3).trans rfl
  have ga4 : v1.cell? ⟨ga, 4, none⟩ = some (.string a.e) := (blk_cell HRA.out 4).trans rfl
  have ga5 : v1.cell? ⟨ga, 5, none⟩ = some (.string a.f) := (blk_cell HRA.out 5).trans rfl
  go_wp2_with fail
  refine (refright_any a (by have := HSA.out; omega) v1).mono ?_
  rintro e_ v2 ⟨rfl, hb⟩
  rw [HRTA.out]
  clear ga0 ga1 ga2 ga3 ga4 ga5
  have HRA' := Aside0.mk (blk_below HRA.out hb)
  have HRB' := Aside0.mk (blk_below HRB.out hb)
  have HB' := Aside0.mk (below_step HB.out hb)
  have HG' := Aside0.mk (HG.out.below hb)
  clear HRA HRB HB HG hb
  have HRA := HRA'
  have HRB := HRB'
  have HB := HB'
  have HG := HG'
  clear HRA' HRB' HB' HG'
  have gb0 : v2.cell? ⟨gb, 0, none⟩ = some (.string b.a) := (blk_cell HRB.out 0).trans rfl
  have gb1 : v2.cell? ⟨gb, 1, none⟩ = some (.string b.b) := (blk_cell HRB.out 1).trans rfl
  have gb2 : v2.cell? ⟨gb, 2, none⟩ = some (.string b.c) := (blk_cell HRB.out 2).trans rfl
  have gb3 : v2.cell? ⟨gb, 3, none⟩ = some (.string b.d) := (blk_cell HRB.out 3).trans rfl
  have gb4 : v2.cell? ⟨gb, 4, none⟩ = some (.string b.e) := (blk_cell HRB.out 4).trans rfl
  have gb5 : v2.cell? ⟨gb, 5, none⟩ = some (.string b.f) := (blk_cell HRB.out 5).trans rfl
  go_wp2_with fail
  refine (refright_any b (by have := HSB.out; omega) v2).mono ?_
  rintro e_ v3 ⟨rfl, hb⟩
  rw [HRTB.out]
  clear gb0 gb1 gb2 gb3 gb4 gb5
  have HRA' := Aside0.mk (blk_below HRA.out hb)
  have HRB' := Aside0.mk (blk_below HRB.out hb)
  have HB' := Aside0.mk (below_step HB.out hb)
  have HG' := Aside0.mk (HG.out.below hb)
  clear HRA HRB HB HG hb
  have HRA := HRA'
  have HRB := HRB'
  have HB := HB'
  have HG := HG'
  clear HRA' HRB' HB' HG'
  go_wp2_with fail
  refine (awake_any v3 HG.out).mono ?_
  rintro e_ w9 ⟨rfl, hb⟩
  have HRA' := Aside0.mk (blk_below HRA.out hb)
  have HRB' := Aside0.mk (blk_below HRB.out hb)
  have HB' := Aside0.mk (below_step HB.out hb)
  have HG' := Aside0.mk (HG.out.below hb)
  clear HRA HRB HB HG hb
  have HRA := HRA'
  have HRB := HRB'
  have HB := HB'
  have HG := HG'
  clear HRA' HRB' HB' HG'
  go_wp2
  go_ret
  exact ⟨rfl, HB.out⟩
set_option maxRecDepth 20000 in
set_option maxHeartbeats 8000000 in
theorem apart_near (a b : Tp) (ha : sumP a ≤ 1048576) (hb : sumP b ≤ 1048576) (hsa : shortP a = true) (hsb : shortP b = true) (hra : rightP a = true) (hrb : rightP b = true) (w : World) (hG : GV w) : Calls Tryz.prog 4 #[tvv a, tvv b] w fun e w' => e = .returned (.bool true) ∧ Below w.heap.size w w' := by
  obtain ⟨W, hW⟩ : ∃ W, W = (w.alloc (.cells (rowc a) 32)).alloc (.cells (rowc b) 32) := ⟨_, rfl⟩
  have hbW : Below w.heap.size w W := by rw [hW]; exact below_alloc (below_alloc (B0 w) _) _
  have HRA := Aside0.mk (show W.heap[w.heap.size]? = some (.cells (rowc a) 32 (0, 0)) from by rw [hW]; exact blk_alloc (blk_new w _) _)
  have HRB := Aside0.mk (show W.heap[w.heap.size + 1]? = some (.cells (rowc b) 32 (0, 0)) from by rw [hW]; have h := blk_new (w.alloc (.cells (rowc a) 32)) (.cells (rowc b) 32); rw [World.size_alloc] at h; exact h)
  have HB := Aside0.mk hbW
  have HG := Aside0.mk (hG.below hbW)
  have HA1 := Aside0.mk ha
  have HB1 := Aside0.mk hb
  obtain ⟨ga, hga⟩ : ∃ g, g = w.heap.size := ⟨_, rfl⟩
  rw [← hga] at HRA HRB
  obtain ⟨gb, hgb⟩ : ∃ g, g = ga + 1 := ⟨_, rfl⟩
  rw [← hgb] at HRB
  clear hG hbW ha hb
  go_enter Tryz.func4, Tryz.ntmps4
  go_upto_region 1 with fail
  rw [← hW, ← hga, ← hgb]
  clear hW hga hgb
  have HSA := Aside0.mk (show sumP a ≤ 1500 from by simpa [shortP] using hsa)
  have HSB := Aside0.mk (show sumP b ≤ 1500 from by simpa [shortP] using hsb)
  have TI := text_inj hra hrb
  have PI := put_inj hra hrb
  obtain ⟨p, hp⟩ : ∃ p, p = decide (a = b) := ⟨_, rfl⟩
  have HX := Aside0.mk (show ((textP a).toList == (textP b).toList) = p from by rw [HTupE.str_eq, hp]; exact decide_eq_decide.2 TI)
  have HPB := Aside0.mk (show decide (putP a = putP b) = p from by rw [hp]; exact decide_eq_decide.2 PI)
  have HEQ := Aside0.mk (fun w => eqv_T a b w)
  rw [← hp] at HEQ
  clear hp TI PI
  have KSA := Aside0.mk hsa
  clear hsa
  have KSB := Aside0.mk hsb
  clear hsb
  have HRTA := Aside0.mk hra
  clear hra
  have HRTB := Aside0.mk hrb
  clear hrb
  go_wp2_with fail
  refine (awake_any W HG.out).mono ?_
  rintro e_ w1 ⟨rfl, hb⟩
  have HRA' := Aside0.mk (blk_below HRA.out hb)
  have HRB' := Aside0.mk (blk_below HRB.out hb)
  have HB' := Aside0.mk (below_step HB.out hb)
  have HG' := Aside0.mk (HG.out.below hb)
  clear HRA HRB HB HG hb
  have HRA := HRA'
  have HRB := HRB'
  have HB := HB'
  have HG := HG'
  clear HRA' HRB' HB' HG'
  have ga0 : w1.cell? ⟨ga, 0, none⟩ = some (.string a.a) := (blk_cell HRA.out 0).trans rfl
  have ga1 : w1.cell? ⟨ga, 1, none⟩ = some (.string a.b) := (blk_cell HRA.out 1).trans rfl
  have ga2 : w1.cell? ⟨ga, 2, none⟩ = some (.string a.c) := (blk_cell HRA.out 2).trans rfl
  have ga3 : w1.cell? ⟨ga, 3, none⟩ = some (.string a.d) := (blk_cell HRA.out 3).trans rfl
  have ga4 : w1.cell? ⟨ga, 4, none⟩ = some (.string a.e) := (blk_cell HRA.out 4).trans rfl
  have ga5 : w1.cell? ⟨ga, 5, none⟩ = some (.string a.f) := (blk_cell HRA.out 5).trans rfl
  go_wp2_with fail
  refine (short_any a (by have := HA1.out; omega) w1).mono ?_
  rintro e_ v0 ⟨rfl, hb⟩
  rw [KSA.out]
  clear ga0 ga1 ga2 ga3 ga4 ga5
  have HRA' := Aside0.mk (blk_below HRA.out hb)
  have HRB' := Aside0.mk (blk_below HRB.out hb)
  have HB' := Aside0.mk (below_step HB.out hb)
  have HG' := Aside0.mk (HG.out.below hb)
  clear HRA HRB HB HG hb
  have HRA := HRA'
  have HRB := HRB'
  have HB := HB'
  have HG := HG'
  clear HRA' HRB' HB' HG'
  have gb0 : v0.cell? ⟨gb, 0, none⟩ = some (.string b.a) := (blk_cell HRB.out 0).trans rfl
  have gb1 : v0.cell? ⟨gb, 1, none⟩ = some (.string b.b) := (blk_cell HRB.out 1).trans rfl
  have gb2 : v0.cell? ⟨gb, 2, none⟩ = some (.string b.c) := (blk_cell HRB.out 2).trans rfl
  have gb3 : v0.cell? ⟨gb, 3, none⟩ = some (.string b.d) := (blk_cell HRB.out 3).trans rfl
  have gb4 : v0.cell? ⟨gb, 4, none⟩ = some (.string b.e) := (blk_cell HRB.out 4).trans rfl
  have gb5 : v0.cell? ⟨gb, 5, none⟩ = some (.string b.f) := (blk_cell HRB.out 5).trans rfl
  go_wp2_with fail
  refine (short_any b (by have := HB1.out; omega) v0).mono ?_
  rintro e_ v1 ⟨rfl, hb⟩
  rw [KSB.out]
  clear gb0 gb1 gb2 gb3 gb4 gb5
  have HRA' := Aside0.mk (blk_below HRA.out hb)
  have HRB' := Aside0.mk (blk_below HRB.out hb)
  have HB' := Aside0.mk (below_step HB.out hb)
  have HG' := Aside0.mk (HG.out.below hb)
  clear HRA HRB HB HG hb
  have HRA := HRA'
  have HRB := HRB'
  have HB := HB'
  have HG := HG'
  clear HRA' HRB' HB' HG'
  have ga0 : v1.cell? ⟨ga, 0, none⟩ = some (.string a.a) := (blk_cell HRA.out 0).trans rfl
  have ga1 : v1.cell? ⟨ga, 1, none⟩ = some (.string a.b) := (blk_cell HRA.out 1).trans rfl
  have ga2 : v1.cell? ⟨ga, 2, none⟩ = some (.string a.c) := (blk_cell HRA.out 2).trans rfl
  have ga3 : v1.cell? ⟨ga, 3, none⟩ = some (.string a.d) := (blk_cell HRA.out 3).trans rfl
  have ga4 : v1.cell? ⟨ga, 4, none⟩ = some (.string a.e) := (blk_cell HRA.out 4).trans rfl
  have ga5 : v1.cell? ⟨ga, 5, none⟩ = some (.string a.f) := (blk_cell HRA.out 5).trans rfl
  go_wp2_with fail
  refine (refright_any a (by have := HSA.out; omega) v1).mono ?_
  rintro e_ v2 ⟨rfl, hb⟩
  rw [HRTA.out]
  clear ga0 ga1 ga2 ga3 ga4 ga5
  have HRA' := Aside0.mk (blk_below HRA.out hb)
  have HRB' := Aside0.mk (blk_below HRB.out hb)
  have HB' := Aside0.mk (below_step HB.out hb)
  have HG' := Aside0.mk (HG.out.below hb)
  clear HRA HRB HB HG hb
  have HRA := HRA'
  have HRB := HRB'
  have HB := HB'
  have HG := HG'
  clear HRA' HRB' HB' HG'
  have gb0 : v2.cell? ⟨gb, 0, none⟩ = some (.string b.a) := (blk_cell HRB.out 0).trans rfl
  have gb1 : v2.cell? ⟨gb, 1, none⟩ = some (.string b.b) := (blk_cell HRB.out 1).trans rfl
  have gb2 : v2.cell? ⟨gb, 2, none⟩ = some (.string b.c) := (blk_cell HRB.out 2).trans rfl
  have gb3 : v2.cell? ⟨gb, 3, none⟩ = some (.string b.d) := (blk_cell HRB.out 3).trans rfl
  have gb4 : v2.cell? ⟨gb, 4, none⟩ = some (.string b.e) := (blk_cell HRB.out 4).trans rfl
  have gb5 : v2.cell? ⟨gb, 5, none⟩ = some (.string b.f) := (blk_cell HRB.out 5).trans rfl
  go_wp2_with fail
  refine (refright_any b (by have := HSB.out; omega) v2).mono ?_
  rintro e_ v3 ⟨rfl, hb⟩
  rw [HRTB.out]
  clear gb0 gb1 gb2 gb3 gb4 gb5
  have HRA' := Aside0.mk (blk_below HRA.out hb)
  have HRB' := Aside0.mk (blk_below HRB.out hb)
  have HB' := Aside0.mk (below_step HB.out hb)
  have HG' := Aside0.mk (HG.out.below hb)
  clear HRA HRB HB HG hb
  have HRA := HRA'
  have HRB := HRB'
  have HB := HB'
  have HG := HG'
  clear HRA' HRB' HB' HG'
  have ga0 : v3.cell? ⟨ga, 0, none⟩ = some (.string a.a) := (blk_cell HRA.out 0).trans rfl
  have ga1 : v3.cell? ⟨ga, 1, none⟩ = some (.string a.b) := (blk_cell HRA.out 1).trans rfl
  have ga2 : v3.cell? ⟨ga, 2, none⟩ = some (.string a.c) := (blk_cell HRA.out 2).trans rfl
  have ga3 : v3.cell? ⟨ga, 3, none⟩ = some (.string a.d) := (blk_cell HRA.out 3).trans rfl
  have ga4 : v3.cell? ⟨ga, 4, none⟩ = some (.string a.e) := (blk_cell HRA.out 4).trans rfl
  have ga5 : v3.cell? ⟨ga, 5, none⟩ = some (.string a.f) := (blk_cell HRA.out 5).trans rfl
  go_wp2_with fail
  refine (text_right a v3 HG.out.1 HRTA.out).mono ?_
  rintro e_ x0 ⟨rfl, hb⟩
  clear ga0 ga1 ga2 ga3 ga4 ga5
  have HRA' := Aside0.mk (blk_below HRA.out hb)
  have HRB' := Aside0.mk (blk_below HRB.out hb)
  have HB' := Aside0.mk (below_step HB.out hb)
  have HG' := Aside0.mk (HG.out.below hb)
  clear HRA HRB HB HG hb
  have HRA := HRA'
  have HRB := HRB'
  have HB := HB'
  have HG := HG'
  clear HRA' HRB' HB' HG'
  have gb0 : x0.cell? ⟨gb, 0, none⟩ = some (.string b.a) := (blk_cell HRB.out 0).trans rfl
  have gb1 : x0.cell? ⟨gb, 1, none⟩ = some (.string b.b) := (blk_cell HRB.out 1).trans rfl
  have gb2 : x0.cell? ⟨gb, 2, none⟩ = some (.string b.c) := (blk_cell HRB.out 2).trans rfl
  have gb3 : x0.cell? ⟨gb, 3, none⟩ = some (.string b.d) := (blk_cell HRB.out 3).trans rfl
  have gb4 : x0.cell? ⟨gb, 4, none⟩ = some (.string b.e) := (blk_cell HRB.out 4).trans rfl
  have gb5 : x0.cell? ⟨gb, 5, none⟩ = some (.string b.f) := (blk_cell HRB.out 5).trans rfl
  go_wp2_with fail
  refine (text_right b x0 HG.out.1 HRTB.out).mono ?_
  rintro e_ x1 ⟨rfl, hb⟩
  clear gb0 gb1 gb2 gb3 gb4 gb5
  have HRA' := Aside0.mk (blk_below HRA.out hb)
  have HRB' := Aside0.mk (blk_below HRB.out hb)
  have HB' := Aside0.mk (below_step HB.out hb)
  have HG' := Aside0.mk (HG.out.below hb)
  clear HRA HRB HB HG hb
  have HRA := HRA'
  have HRB := HRB'
  have HB := HB'
  have HG := HG'
  clear HRA' HRB' HB' HG'
  have ga0 : x1.cell? ⟨ga, 0, none⟩ = some (.string a.a) := (blk_cell HRA.out 0).trans rfl
  have ga1 : x1.cell? ⟨ga, 1, none⟩ = some (.string a.b) := (blk_cell HRA.out 1).trans rfl
  have ga2 : x1.cell? ⟨ga, 2, none⟩ = some (.string a.c) := (blk_cell HRA.out 2).trans rfl
  have ga3 : x1.cell? ⟨ga, 3, none⟩ = some (.string a.d) := (blk_cell HRA.out 3).trans rfl
  have ga4 : x1.cell? ⟨ga, 4, none⟩ = some (.string a.e) := (blk_cell HRA.out 4).trans rfl
  have ga5 : x1.cell? ⟨ga, 5, none⟩ = some (.string a.f) := (blk_cell HRA.out 5).trans rfl
  go_wp2_with fail
  refine (put_right a x1 HG.out.1 HRTA.out).mono ?_
  rintro e_ x2 ⟨va, rfl, hRa, hb⟩
  have HVA := Aside0.mk (Bs.of_R hRa)
  clear hRa
  clear ga0 ga1 ga2 ga3 ga4 ga5
  have HRA' := Aside0.mk (blk_below HRA.out hb)
  have HRB' := Aside0.mk (blk_below HRB.out hb)
  have HB' := Aside0.mk (below_step HB.out hb)
  have HG' := Aside0.mk (HG.out.below hb)
  clear HRA HRB HB HG hb
  have HRA := HRA'
  have HRB := HRB'
  have HB := HB'
  have HG := HG'
  clear HRA' HRB' HB' HG'
  have gb0 : x2.cell? ⟨gb, 0, none⟩ = some (.string b.a) := (blk_cell HRB.out 0).trans rfl
  have gb1 : x2.cell? ⟨gb, 1, none⟩ = some (.string b.b) := (blk_cell HRB.out 1).trans rfl
  have gb2 : x2.cell? ⟨gb, 2, none⟩ = some (.string b.c) := (blk_cell HRB.out 2).trans rfl
  have gb3 : x2.cell? ⟨gb, 3, none⟩ = some (.string b.d) := (blk_cell HRB.out 3).trans rfl
  have gb4 : x2.cell? ⟨gb, 4, none⟩ = some (.string b.e) := (blk_cell HRB.out 4).trans rfl
  have gb5 : x2.cell? ⟨gb, 5, none⟩ = some (.string b.f) := (blk_cell HRB.out 5).trans rfl
  go_wp2_with fail
  refine (put_right b x2 HG.out.1 HRTB.out).mono ?_
  rintro e_ x3 ⟨vb, rfl, hRb, hb⟩
  have HVB := Aside0.mk (Bs.of_R hRb)
  have HVA' := Aside0.mk (HVA.out.below hb)
  clear HVA hRb
  have HVA := HVA'
  clear HVA'
  clear gb0 gb1 gb2 gb3 gb4 gb5
  have HRA' := Aside0.mk (blk_below HRA.out hb)
  have HRB' := Aside0.mk (blk_below HRB.out hb)
  have HB' := Aside0.mk (below_step HB.out hb)
  have HG' := Aside0.mk (HG.out.below hb)
  clear HRA HRB HB HG hb
  have HRA := HRA'
  have HRB := HRB'
  have HB := HB'
  have HG := HG'
  clear HRA' HRB' HB' HG'
  obtain ⟨xa, hxa⟩ : ∃ x, x = textP a := ⟨_, rfl⟩
  obtain ⟨xb, hxb⟩ : ∃ x, x = textP b := ⟨_, rfl⟩
  rw [← hxa, ← hxb] at HX
  rw [← hxa, ← hxb]
  clear hxa hxb
  obtain ⟨va', hva⟩ : ∃ v, v = tvv a := ⟨_, rfl⟩
  obtain ⟨vb', hvb⟩ : ∃ v, v = tvv b := ⟨_, rfl⟩
  have heq : ∀ w : World, (binOp .eql 32 va' vb').run Tryz.prog w = .ok (.bool p) w := fun w => by rw [hva, hvb]; exact HEQ.out w
  have hgd : ∀ (op : BinOp) (x y : Operand) (w' : World), (eqGuard op 32 x y va' vb').run Tryz.prog w' = .ok () w' := fun op x y w' => by rw [hva, hvb]; exact run_eqGuard_agg w' op _ x y _ _ (by kernel_rfl)
  have HLA := Aside0.mk (show ∀ q, (Instr.loadAt 32 (.pointer (some ⟨ga, 0, none⟩))).run Tryz.prog (x3.drewN q) = .ok va' (x3.drewN q) from fun q => by rw [hva]; exact load_tv (blk_drewN HRA.out q))
  have HLB := Aside0.mk (show ∀ q, (Instr.loadAt 32 (.pointer (some ⟨gb, 0, none⟩))).run Tryz.prog (x3.drewN q) = .ok vb' (x3.drewN q) from fun q => by rw [hvb]; exact load_tv (blk_drewN HRB.out q))
  clear hva hvb HEQ
  have hpp : (p == p) = true := by cases p <;> rfl
  have hxx := HX.out
  go_upto_region 7 with fail
  refine wp_region_held_drew (S := fun w' => ∃ q, w' = x3.drewN q) (by kernel_rfl) ⟨1, rfl⟩ (fun hHeld => ?_)
  refine wpAnyH_take (i := 0) (v := .string xa) rfl (by kernel_rfl) (by kernel_rfl) (by kernel_rfl) (fun _ _ _ h => h) (Or.inl ⟨by rfl, ?hy0⟩) hHeld ?_
  case hy0 => intro w' hSw; go_simp
  simp only [List.getElem_toArray, List.getElem_cons_succ, List.getElem_cons_zero, Act.put, List.setIfInBounds_toArray, List.set_cons_zero, List.set_cons_succ]
  refine wpAnyH_take (i := 1) (v := .string xb) rfl (by kernel_rfl) (by kernel_rfl) (by kernel_rfl) (fun _ _ _ h => h) (Or.inl ⟨by rfl, ?hy1⟩) hHeld ?_
  case hy1 => intro w' hSw; go_simp
  simp only [List.getElem_toArray, List.getElem_cons_succ, List.getElem_cons_zero, Act.put, List.setIfInBounds_toArray, List.set_cons_zero, List.set_cons_succ]
  refine wpAnyH_take (i := 2) (v := .bool p) rfl (by kernel_rfl) (by kernel_rfl) (by kernel_rfl) (fun _ _ _ h => h) (Or.inl ⟨by rfl, ?hy2⟩) hHeld ?_
  case hy2 => intro w' hSw; go_simp
  simp only [List.getElem_toArray, List.getElem_cons_succ, List.getElem_cons_zero, Act.put, List.setIfInBounds_toArray, List.set_cons_zero, List.set_cons_succ]
  refine wpAnyH_take (i := 3) (v := va') rfl (by kernel_rfl) (by kernel_rfl) (by kernel_rfl) (fun _ _ _ h => h) (yieldsIf_load (by rfl) 32 (.tmp 2) rfl va' (fun w' h => by obtain ⟨q, rfl⟩ := h; exact HLA.out q)) hHeld ?_
  simp only [List.getElem_toArray, List.getElem_cons_succ, List.getElem_cons_zero, Act.put, List.setIfInBounds_toArray, List.set_cons_zero, List.set_cons_succ]
  refine wpAnyH_take (i := 4) (v := vb') rfl (by kernel_rfl) (by kernel_rfl) (by kernel_rfl) (fun _ _ _ h => h) (yieldsIf_load (by rfl) 32 (.tmp 3) rfl vb' (fun w' h => by obtain ⟨q, rfl⟩ := h; exact HLB.out q)) hHeld ?_
  simp only [List.getElem_toArray, List.getElem_cons_succ, List.getElem_cons_zero, Act.put, List.setIfInBounds_toArray, List.set_cons_zero, List.set_cons_succ]
  refine wpAnyH_take (i := 5) (v := .bool p) rfl (by kernel_rfl) (by kernel_rfl) (by kernel_rfl) (fun _ _ _ h => h) (Or.inl ⟨by rfl, ?hy5⟩) hHeld ?_
  case hy5 => intro w' hSw; go_simp
  simp only [List.getElem_toArray, List.getElem_cons_succ, List.getElem_cons_zero, Act.put, List.setIfInBounds_toArray, List.set_cons_zero, List.set_cons_succ]
  refine wpAnyH_take (i := 6) (v := .bool true) rfl (by kernel_rfl) (by kernel_rfl) (by kernel_rfl) (fun _ _ _ h => h) (Or.inl ⟨by rfl, ?hy6⟩) hHeld ?_
  case hy6 => intro w' hSw; go_simp
  simp only [List.getElem_toArray, List.getElem_cons_succ, List.getElem_cons_zero, Act.put, List.setIfInBounds_toArray, List.set_cons_zero, List.set_cons_succ]
  refine wpAnyH_take (i := 7) (v := .bool true) rfl (by kernel_rfl) (by kernel_rfl) (by kernel_rfl) (fun _ _ _ h => h) (Or.inl ⟨by rfl, ?hy7⟩) hHeld ?_
  case hy7 => intro w' hSw; go_simp
  simp only [List.getElem_toArray, List.getElem_cons_succ, List.getElem_cons_zero, Act.put, List.setIfInBounds_toArray, List.set_cons_zero, List.set_cons_succ]
  refine wpAnyH_take (i := 8) (v := va) rfl (by kernel_rfl) (by kernel_rfl) (by kernel_rfl) (fun _ _ _ h => h) (Or.inl ⟨by rfl, ?hy8⟩) hHeld ?_
  case hy8 => intro w' hSw; go_simp
  simp only [List.getElem_toArray, List.getElem_cons_succ, List.getElem_cons_zero, Act.put, List.setIfInBounds_toArray, List.set_cons_zero, List.set_cons_succ]
  refine wpAnyH_take (i := 9) (v := vb) rfl (by kernel_rfl) (by kernel_rfl) (by kernel_rfl) (fun _ _ _ h => h) (Or.inl ⟨by rfl, ?hy9⟩) hHeld ?_
  case hy9 => intro w' hSw; go_simp
  simp only [List.getElem_toArray, List.getElem_cons_succ, List.getElem_cons_zero, Act.put, List.setIfInBounds_toArray, List.set_cons_zero, List.set_cons_succ]
  refine wpAnyH_take (i := 11) (v := va') rfl (by kernel_rfl) (by kernel_rfl) (by kernel_rfl) (fun _ _ _ h => h) (yieldsIf_load (by rfl) 32 (.tmp 2) rfl va' (fun w' h => by obtain ⟨q, rfl⟩ := h; exact HLA.out q)) hHeld ?_
  simp only [List.getElem_toArray, List.getElem_cons_succ, List.getElem_cons_zero, Act.put, List.setIfInBounds_toArray, List.set_cons_zero, List.set_cons_succ]
  refine wpAnyH_take (i := 12) (v := vb') rfl (by kernel_rfl) (by kernel_rfl) (by kernel_rfl) (fun _ _ _ h => h) (yieldsIf_load (by rfl) 32 (.tmp 3) rfl vb' (fun w' h => by obtain ⟨q, rfl⟩ := h; exact HLB.out q)) hHeld ?_
  simp only [List.getElem_toArray, List.getElem_cons_succ, List.getElem_cons_zero, Act.put, List.setIfInBounds_toArray, List.set_cons_zero, List.set_cons_succ]
  refine wpAnyH_take (i := 13) (v := .bool p) rfl (by kernel_rfl) (by kernel_rfl) (by kernel_rfl) (fun _ _ _ h => h) (Or.inl ⟨by rfl, ?hy13⟩) hHeld ?_
  case hy13 => intro w' hSw; go_simp
  simp only [List.getElem_toArray, List.getElem_cons_succ, List.getElem_cons_zero, Act.put, List.setIfInBounds_toArray, List.set_cons_zero, List.set_cons_succ]
  refine wpAnyH_ready (rs := [10]) (by kernel_rfl) (by simp) ?_
  refine AllReadyH.cons rfl (fun K hK => ?_) AllReadyH.nil
  simp only [List.getElem_toArray, List.getElem_cons_succ, List.getElem_cons_zero]
  rw [if_pos (by rfl)]
  go_simp
  obtain ⟨q, hq⟩ := hHeld
  refine (same_any _ va vb (putP a) (putP b) (by exact HVA.out.drewN _) (by exact HVB.out.drewN _) (by have := put_len a HRTA.out; omega)).mono ?_
  rintro e_ y ⟨rfl, ⟨⟨m, rfl⟩⟩⟩
  rw [HPB.out]
  refine hK.out _ _ (⟨_, World.drewN_drewN ..⟩) (fun hHeld => ?_)
  clear hK K
  refine wpAnyH_take (i := 14) (v := .bool true) rfl (by kernel_rfl) (by kernel_rfl) (by kernel_rfl) (fun _ _ _ h => h) (Or.inl ⟨by rfl, ?hy14⟩) hHeld ?_
  case hy14 => intro w' hSw; go_simp
  simp only [List.getElem_toArray, List.getElem_cons_succ, List.getElem_cons_zero, Act.put, List.setIfInBounds_toArray, List.set_cons_zero, List.set_cons_succ]
  refine wpAnyH_take (i := 15) (v := .bool true) rfl (by kernel_rfl) (by kernel_rfl) (by kernel_rfl) (fun _ _ _ h => h) (Or.inl ⟨by rfl, ?hy15⟩) hHeld ?_
  case hy15 => intro w' hSw; go_simp
  simp only [List.getElem_toArray, List.getElem_cons_succ, List.getElem_cons_zero, Act.put, List.setIfInBounds_toArray, List.set_cons_zero, List.set_cons_succ]
  refine wpAnyH_take (i := 16) (v := .bool true) rfl (by kernel_rfl) (by kernel_rfl) (by kernel_rfl) (fun _ _ _ h => h) (Or.inl ⟨by rfl, ?hy16⟩) hHeld ?_
  case hy16 => intro w' hSw; go_simp
  simp only [List.getElem_toArray, List.getElem_cons_succ, List.getElem_cons_zero, Act.put, List.setIfInBounds_toArray, List.set_cons_zero, List.set_cons_succ]
  refine wpAnyH_done (by kernel_rfl) ?_ _
  obtain ⟨q, hq⟩ := hHeld
  rw [hq]
  go_wp2
  go_ret
  exact ⟨rfl, pw_below_drewN HB.out _⟩
end Go.Proofs.YtlbbhgmpiednfaaGreatDoor.HTupL5
