/- The law TupleMatchesReference. -/
import Derived.Test.YtlbbhgmpiednfaaGreatDoorUA
import Derived.Test.YtlbbhgmpiednfaaGreatDoorUR
namespace Go.Proofs.YtlbbhgmpiednfaaGreatDoor.HTupL1
open Go.RowKit Go.Proofs.YtlbbhgmpiednfaaGreatDoorW.PrintWords Go.Proofs.YtlbbhgmpiednfaaGreatDoor.HTupI Go.Proofs.YtlbbhgmpiednfaaGreatDoor.HTupL Go.Proofs.YtlbbhgmpiednfaaGreatDoor.HWireS Go.Proofs.YtlbbhgmpiednfaaGreatDoor.HWire Go.Proofs.YtlbbhgmpiednfaaGreatDoor.HCur Go.Proofs.YtlbbhgmpiednfaaGreatDoor.HLib Go.Proofs.YtlbbhgmpiednfaaGreatDoor.HGr Go.Proofs.YtlbbhgmpiednfaaGreatDoor.HErr Go.Proofs.YtlbbhgmpiednfaaGreatDoor.HNameP Go.Proofs.YtlbbhgmpiednfaaGreatDoor.HName Go.Proofs.YtlbbhgmpiednfaaGreatDoor.HTupP Go.Proofs.YtlbbhgmpiednfaaGreatDoor.HTupR Go.Proofs.YtlbbhgmpiednfaaGreatDoor.HTupX Go.Proofs.YtlbbhgmpiednfaaGreatDoor.HTupG Go.Proofs.YtlbbhgmpiednfaaGreatDoor.HTupJ Go.Proofs.YtlbbhgmpiednfaaGreatDoor.HTupM Go.Proofs.YtlbbhgmpiednfaaGreatDoor.HTupB Go.Proofs.YtlbbhgmpiednfaaGreatDoor.HTupN Go.Proofs.YtlbbhgmpiednfaaGreatDoor.HTupH Go.Proofs.YtlbbhgmpiednfaaGreatDoor.HTupU Go.Proofs.YtlbbhgmpiednfaaGreatDoor.HTupRf Go.Proofs.YtlbbhgmpiednfaaGreatDoor.HTupRt Go.Proofs.YtlbbhgmpiednfaaGreatDoor.HTupL5 Go.Proofs.YtlbbhgmpiednfaaGreatDoor.HPut Go.Proofs.YtlbbhgmpiednfaaGreatDoor.PTupleSorts
set_option linter.unusedVariables false
set_option linter.unusedSimpArgs false
theorem text_sz (t : Tp) (h : ∀ j, (str t j).size ≤ 128) : (textP t).size ≤ 1000 := by
  obtain ⟨a, b, c, d, e, f⟩ := t
  have z0 : a.size ≤ 128 := h 0
  have z1 : b.size ≤ 128 := h 1
  have z2 : c.size ≤ 128 := h 2
  have z3 : d.size ≤ 128 := h 3
  have z4 : e.size ≤ 128 := h 4
  have z5 : f.size ≤ 128 := h 5
  have s1 : (⟨#[58]⟩ : ByteArray).size = 1 := rfl
  have s2 : (⟨#[35]⟩ : ByteArray).size = 1 := rfl
  have s3 : (⟨#[64]⟩ : ByteArray).size = 1 := rfl
  rw [text_assoc]
  split <;> simp only [ByteArray.size_append, s1, s2, s3] <;> omega
theorem eqIn (t : Tp) (w : World) : (Op.equalIn 10000 32 (tvv t) (tvv t)).run Tryz.prog w = .ok true w := eq_self t w

set_option maxRecDepth 20000 in
set_option maxHeartbeats 8000000 in
theorem match_0 (t : Tp) (ha : sumP t ≤ 1048576) (hs : shortP t = false) (w : World) (hG : GV w) : Calls Tryz.prog 5 #[tvv t] w fun e w' => e = .returned (.bool true) ∧ Below w.heap.size w w' := by
  obtain ⟨W, hW⟩ : ∃ W, W = w.alloc (.cells (rowc t) 32) := ⟨_, rfl⟩
  have hbW : Below w.heap.size w W := by rw [hW]; exact below_alloc (B0 w) _
  have HR0 := Aside0.mk (show W.heap[w.heap.size]? = some (.cells (rowc t) 32 (0, 0)) from by rw [hW]; exact blk_new w _)
  have HB := Aside0.mk hbW
  have HG := Aside0.mk (hG.below hbW)
  have HA1 := Aside0.mk ha
  obtain ⟨ga, hga⟩ : ∃ g, g = w.heap.size := ⟨_, rfl⟩
  rw [← hga] at HR0
  clear hG hbW ha
  go_enter Tryz.func5, Tryz.ntmps5
  go_upto_region 1 with fail
  rw [← hW, ← hga]
  clear hW hga
  have KS := Aside0.mk hs
  clear hs
  go_wp2_with fail
  refine (awake_any W HG.out).mono ?_
  rintro e_ w1 ⟨rfl, hb⟩
  have HR0' := Aside0.mk (blk_below HR0.out hb)
  have HB' := Aside0.mk (below_step HB.out hb)
  have HG' := Aside0.mk (HG.out.below hb)
  clear HR0 HB HG hb
  have HR0 := HR0'
  have HB := HB'
  have HG := HG'
  clear HR0' HB' HG'
  have ga0 : w1.cell? ⟨ga, 0, none⟩ = some (.string t.a) := (blk_cell HR0.out 0).trans rfl
  have ga1 : w1.cell? ⟨ga, 1, none⟩ = some (.string t.b) := (blk_cell HR0.out 1).trans rfl
  have ga2 : w1.cell? ⟨ga, 2, none⟩ = some (.string t.c) := (blk_cell HR0.out 2).trans rfl
  have ga3 : w1.cell? ⟨ga, 3, none⟩ = some (.string t.d) := (blk_cell HR0.out 3).trans rfl
  have ga4 : w1.cell? ⟨ga, 4, none⟩ = some (.string t.e) := (blk_cell HR0.out 4).trans rfl
  have ga5 : w1.cell? ⟨ga, 5, none⟩ = some (.string t.f) := (blk_cell HR0.out 5).trans rfl
  go_wp2_with fail
  refine (short_any t (by have := HA1.out; omega) w1).mono ?_
  rintro e_ v0 ⟨rfl, hb⟩
  rw [KS.out]
  clear ga0 ga1 ga2 ga3 ga4 ga5
  have HR0' := Aside0.mk (blk_below HR0.out hb)
  have HB' := Aside0.mk (below_step HB.out hb)
  have HG' := Aside0.mk (HG.out.below hb)
  clear HR0 HB HG hb
  have HR0 := HR0'
  have HB := HB'
  have HG := HG'
  clear HR0' HB' HG'
  go_wp2_with fail
  refine (awake_any v0 HG.out).mono ?_
  rintro e_ w9 ⟨rfl, hb⟩
  have HR0' := Aside0.mk (blk_below HR0.out hb)
  have HB' := Aside0.mk (below_step HB.out hb)
  have HG' := Aside0.mk (HG.out.below hb)
  clear HR0 HB HG hb
  have HR0 := HR0'
  have HB := HB'
  have HG := HG'
  clear HR0' HB' HG'
  go_wp2
  go_ret
  exact ⟨rfl, HB.out⟩
set_option maxRecDepth 20000 in
set_option maxHeartbeats 8000000 in
theorem match_wrong (t : Tp) (ha : sumP t ≤ 1048576) (hs : shortP t = true) (hr : rightP t = false) (w : World) (hG : GV w) : Calls Tryz.prog 5 #[tvv t] w fun e w' => e = .returned (.bool true) ∧ Below w.heap.size w w' := by
  obtain ⟨W, hW⟩ : ∃ W, W = w.alloc (.cells (rowc t) 32) := ⟨_, rfl⟩
  have hbW : Below w.heap.size w W := by rw [hW]; exact below_alloc (B0 w) _
  have HR0 := Aside0.mk (show W.heap[w.heap.size]? = some (.cells (rowc t) 32 (0, 0)) from by rw [hW]; exact blk_new w _)
  have HB := Aside0.mk hbW
  have HG := Aside0.mk (hG.below hbW)
  have HA1 := Aside0.mk ha
  obtain ⟨ga, hga⟩ : ∃ g, g = w.heap.size := ⟨_, rfl⟩
  rw [← hga] at HR0
  clear hG hbW ha
  go_enter Tryz.func5, Tryz.ntmps5
  go_upto_region 1 with fail
  rw [← hW, ← hga]
  clear hW hga
  have HSA := Aside0.mk (show sumP t ≤ 1500 from by simpa [shortP] using hs)
  have KS := Aside0.mk hs
  clear hs
  have HRT := Aside0.mk hr
  clear hr
  go_wp2_with fail
  refine (awake_any W HG.out).mono ?_
  rintro e_ w1 ⟨rfl, hb⟩
  have HR0' := Aside0.mk (blk_below HR0.out hb)
  have HB' := Aside0.mk (below_step HB.out hb)
  have HG' := Aside0.mk (HG.out.below hb)
  clear HR0 HB HG hb
  have HR0 := HR0'
  have HB := HB'
  have HG := HG'
  clear HR0' HB' HG'
  have ga0 : w1.cell? ⟨ga, 0, none⟩ = some (.string t.a) := (blk_cell HR0.out 0).trans rfl
  have ga1 : w1.cell? ⟨ga, 1, none⟩ = some (.string t.b) := (blk_cell HR0.out 1).trans rfl
  have ga2 : w1.cell? ⟨ga, 2, none⟩ = some (.string t.c) := (blk_cell HR0.out 2).trans rfl
  have ga3 : w1.cell? ⟨ga, 3, none⟩ = some (.string t.d) := (blk_cell HR0.out 3).trans rfl
  have ga4 : w1.cell? ⟨ga, 4, none⟩ = some (.string t.e) := (blk_cell HR0.out 4).trans rfl
  have ga5 : w1.cell? ⟨ga, 5, none⟩ = some (.string t.f) := (blk_cell HR0.out 5).trans rfl
  go_wp2_with fail
  refine (short_any t (by have := HA1.out; omega) w1).mono ?_
  rintro e_ v0 ⟨rfl, hb⟩
  rw [KS.out]
  clear ga0 ga1 ga2 ga3 ga4 ga5
  have HR0' := Aside0.mk (blk_below HR0.out hb)
  have HB' := Aside0.mk (below_step HB.out hb)
  have HG' := Aside0.mk (HG.out.below hb)
  clear HR0 HB HG hb
  have HR0 := HR0'
  have HB := HB'
  have HG := HG'
  clear HR0' HB' HG'
  have ga0 : v0.cell? ⟨ga, 0, none⟩ = some (.string t.a) := (blk_cell HR0.out 0).trans rfl
  have ga1 : v0.cell? ⟨ga, 1, none⟩ = some (.string t.b) := (blk_cell HR0.out 1).trans rfl
  have ga2 : v0.cell? ⟨ga, 2, none⟩ = some (.string t.c) := (blk_cell HR0.out 2).trans rfl
  have ga3 : v0.cell? ⟨ga, 3, none⟩ = some (.string t.d) := (blk_cell HR0.out 3).trans rfl
  have ga4 : v0.cell? ⟨ga, 4, none⟩ = some (.string t.e) := (blk_cell HR0.out 4).trans rfl
  have ga5 : v0.cell? ⟨ga, 5, none⟩ = some (.string t.f) := (blk_cell HR0.out 5).trans rfl
  go_wp2_with fail
  refine (text_wrong t v0 HG.out.1 HRT.out).mono ?_
  rintro e_ x0 ⟨rfl, hb⟩
  clear ga0 ga1 ga2 ga3 ga4 ga5
  have HR0' := Aside0.mk (blk_below HR0.out hb)
  have HB' := Aside0.mk (below_step HB.out hb)
  have HG' := Aside0.mk (HG.out.below hb)
  clear HR0 HB HG hb
  have HR0 := HR0'
  have HB := HB'
  have HG := HG'
  clear HR0' HB' HG'
  have ga0 : x0.cell? ⟨ga, 0, none⟩ = some (.string t.a) := (blk_cell HR0.out 0).trans rfl
  have ga1 : x0.cell? ⟨ga, 1, none⟩ = some (.string t.b) := (blk_cell HR0.out 1).trans rfl
  have ga2 : x0.cell? ⟨ga, 2, none⟩ = some (.string t.c) := (blk_cell HR0.out 2).trans rfl
  have ga3 : x0.cell? ⟨ga, 3, none⟩ = some (.string t.d) := (blk_cell HR0.out 3).trans rfl
  have ga4 : x0.cell? ⟨ga, 4, none⟩ = some (.string t.e) := (blk_cell HR0.out 4).trans rfl
  have ga5 : x0.cell? ⟨ga, 5, none⟩ = some (.string t.f) := (blk_cell HR0.out 5).trans rfl
  go_wp2_with fail
  refine (put_wrong t x0 HG.out.1 HRT.out).mono ?_
  rintro e_ x1 ⟨rfl, hb⟩
  clear ga0 ga1 ga2 ga3 ga4 ga5
  have HR0' := Aside0.mk (blk_below HR0.out hb)
  have HB' := Aside0.mk (below_step HB.out hb)
  have HG' := Aside0.mk (HG.out.below hb)
  clear HR0 HB HG hb
  have HR0 := HR0'
  have HB := HB'
  have HG := HG'
  clear HR0' HB' HG'
  obtain ⟨va, hva⟩ : ∃ v, v = tvv t := ⟨_, rfl⟩
  have HLA := Aside0.mk (show ∀ x, Below x1.heap.size x1 x → (Instr.loadAt 32 (.pointer (some ⟨ga, 0, none⟩))).run Tryz.prog x = .ok va x from fun x h => by rw [hva]; exact load_tv (blk_below HR0.out h))
  have HC1 := Aside0.mk (show ∀ x, Below x1.heap.size x1 x → Calls Tryz.prog 20 #[va] x fun e x' => e = .returned (.bool false) ∧ Below x.heap.size x x' from fun x h => by rw [hva, ← HRT.out]; exact (right_any t x (HG.out.below h).1).mono fun e x' r => ⟨r.1, r.2.below⟩)
  have HC2 := Aside0.mk (show ∀ x, Below x1.heap.size x1 x → Calls Tryz.prog 16 #[va] x fun e x' => e = .returned (.bool false) ∧ Below x.heap.size x x' from fun x h => by rw [hva, ← HRT.out]; exact refright_any t (by have := HSA.out; omega) x)
  clear hva
  go_upto_region 5 with fail
  refine wp_region_held_drew (S := fun w' => Below x1.heap.size x1 w') (by kernel_rfl) (pw_below_drewN (B0 x1) 1) (fun hHeld => ?_)
  refine wpAnyH_take (i := 0) (v := va) rfl (by kernel_rfl) (by kernel_rfl) (by kernel_rfl) (fun _ _ _ h => h) (yieldsIf_load (by rfl) 32 (.tmp 1) rfl va (fun w' h => HLA.out w' h)) hHeld ?_
  simp only [List.getElem_toArray, List.getElem_cons_succ, List.getElem_cons_zero, Act.put, List.setIfInBounds_toArray, List.set_cons_zero, List.set_cons_succ]
  refine wpAnyH_take (i := 2) (v := va) rfl (by kernel_rfl) (by kernel_rfl) (by kernel_rfl) (fun _ _ _ h => h) (yieldsIf_load (by rfl) 32 (.tmp 1) rfl va (fun w' h => HLA.out w' h)) hHeld ?_
  simp only [List.getElem_toArray, List.getElem_cons_succ, List.getElem_cons_zero, Act.put, List.setIfInBounds_toArray, List.set_cons_zero, List.set_cons_succ]
  refine wpAnyH_ready (rs := [1]) (by kernel_rfl) (by simp) ?_
  refine AllReadyH.cons rfl (fun K hK => ?_) AllReadyH.nil
  simp only [List.getElem_toArray, List.getElem_cons_succ, List.getElem_cons_zero]
  rw [if_pos (by rfl)]
  go_simp
  refine (HC1.out _ hHeld).mono ?_
  rintro e_ y1 ⟨rfl, hb⟩
  refine hK.out _ _ (below_step hHeld hb) (fun hHeld => ?_)
  clear hK K
  refine wpAnyH_ready (rs := [3]) (by kernel_rfl) (by simp) ?_
  refine AllReadyH.cons rfl (fun K hK => ?_) AllReadyH.nil
  simp only [List.getElem_toArray, List.getElem_cons_succ, List.getElem_cons_zero]
  rw [if_pos (by rfl)]
  go_simp
  clear hb
  refine (HC2.out _ hHeld).mono ?_
  rintro e_ y2 ⟨rfl, hb⟩
  refine hK.out _ _ (below_step hHeld hb) (fun hHeld => ?_)
  clear hK K
  refine wpAnyH_take (i := 4) (v := .bool false) rfl (by kernel_rfl) (by kernel_rfl) (by kernel_rfl) (fun _ _ _ h => h) (Or.inl ⟨by rfl, ?hy4⟩) hHeld ?_
  case hy4 => intro w' hSw; go_simp
  simp only [List.getElem_toArray, List.getElem_cons_succ, List.getElem_cons_zero, Act.put, List.setIfInBounds_toArray, List.set_cons_zero, List.set_cons_succ]
  refine wpAnyH_done (by kernel_rfl) ?_ _
  clear hb
  have hb := hHeld
  clear HLA HC1 HC2 hHeld
  have HR0' := Aside0.mk (blk_below HR0.out hb)
  have HB' := Aside0.mk (below_step HB.out hb)
  have HG' := Aside0.mk (HG.out.below hb)
  clear HR0 HB HG hb
  have HR0 := HR0'
  have HB := HB'
  have HG := HG'
  clear HR0' HB' HG'
  have ga0 : y2.cell? ⟨ga, 0, none⟩ = some (.string t.a) := (blk_cell HR0.out 0).trans rfl
  have ga1 : y2.cell? ⟨ga, 1, none⟩ = some (.string t.b) := (blk_cell HR0.out 1).trans rfl
  have ga2 : y2.cell? ⟨ga, 2, none⟩ = some (.string t.c) := (blk_cell HR0.out 2).trans rfl
  have ga3 : y2.cell? ⟨ga, 3, none⟩ = some (.string t.d) := (blk_cell HR0.out 3).trans rfl
  have ga4 : y2.cell? ⟨ga, 4, none⟩ = some (.string t.e) := (blk_cell HR0.out 4).trans rfl
  have ga5 : y2.cell? ⟨ga, 5, none⟩ = some (.string t.f) := (blk_cell HR0.out 5).trans rfl
  go_wp2_with fail
  refine (refright_any t (by have := HSA.out; omega) y2).mono ?_
  rintro e_ x2 ⟨rfl, hb⟩
  rw [HRT.out]
  clear ga0 ga1 ga2 ga3 ga4 ga5
  have HR0' := Aside0.mk (blk_below HR0.out hb)
  have HB' := Aside0.mk (below_step HB.out hb)
  have HG' := Aside0.mk (HG.out.below hb)
  clear HR0 HB HG hb
  have HR0 := HR0'
  have HB := HB'
  have HG := HG'
  clear HR0' HB' HG'
  go_wp2
  go_ret
  exact ⟨rfl, HB.out⟩
set_option maxRecDepth 20000 in
set_option maxHeartbeats 8000000 in
theorem match_right (t : Tp) (ha : sumP t ≤ 1048576) (hs : shortP t = true) (hr : rightP t = true) (w : World) (hG : GV w) : Calls Tryz.prog 5 #[tvv t] w fun e w' => e = .returned (.bool true) ∧ Below w.heap.size w w' := by
  obtain ⟨W, hW⟩ : ∃ W, W = w.alloc (.cells (rowc t) 32) := ⟨_, rfl⟩
  have hbW : Below w.heap.size w W := by rw [hW]; exact below_alloc (B0 w) _
  have HR0 := Aside0.mk (show W.heap[w.heap.size]? = some (.cells (rowc t) 32 (0, 0)) from by rw [hW]; exact blk_new w _)
  have HB := Aside0.mk hbW
  have HG := Aside0.mk (hG.below hbW)
  have HA1 := Aside0.mk ha
  obtain ⟨ga, hga⟩ : ∃ g, g = w.heap.size := ⟨_, rfl⟩
  rw [← hga] at HR0
  clear hG hbW ha
  go_enter Tryz.func5, Tryz.ntmps5
  go_upto_region 1 with fail
  rw [← hW, ← hga]
  clear hW hga
  have HSA := Aside0.mk (show sumP t ≤ 1500 from by simpa [shortP] using hs)
  have KS := Aside0.mk hs
  clear hs
  have HRT := Aside0.mk hr
  clear hr
  go_wp2_with fail
  refine (awake_any W HG.out).mono ?_
  rintro e_ w1 ⟨rfl, hb⟩
  have HR0' := Aside0.mk (blk_below HR0.out hb)
  have HB' := Aside0.mk (below_step HB.out hb)
  have HG' := Aside0.mk (HG.out.below hb)
  clear HR0 HB HG hb
  have HR0 := HR0'
  have HB := HB'
  have HG := HG'
  clear HR0' HB' HG'
  have ga0 : w1.cell? ⟨ga, 0, none⟩ = some (.string t.a) := (blk_cell HR0.out 0).trans rfl
  have ga1 : w1.cell? ⟨ga, 1, none⟩ = some (.string t.b) := (blk_cell HR0.out 1).trans rfl
  have ga2 : w1.cell? ⟨ga, 2, none⟩ = some (.string t.c) := (blk_cell HR0.out 2).trans rfl
  have ga3 : w1.cell? ⟨ga, 3, none⟩ = some (.string t.d) := (blk_cell HR0.out 3).trans rfl
  have ga4 : w1.cell? ⟨ga, 4, none⟩ = some (.string t.e) := (blk_cell HR0.out 4).trans rfl
  have ga5 : w1.cell? ⟨ga, 5, none⟩ = some (.string t.f) := (blk_cell HR0.out 5).trans rfl
  go_wp2_with fail
  refine (short_any t (by have := HA1.out; omega) w1).mono ?_
  rintro e_ v0 ⟨rfl, hb⟩
  rw [KS.out]
  clear ga0 ga1 ga2 ga3 ga4 ga5
  have HR0' := Aside0.mk (blk_below HR0.out hb)
  have HB' := Aside0.mk (below_step HB.out hb)
  have HG' := Aside0.mk (HG.out.below hb)
  clear HR0 HB HG hb
  have HR0 := HR0'
  have HB := HB'
  have HG := HG'
  clear HR0' HB' HG'
  have HJ := Aside0.mk (fun j => chk_size t j (right_chk HRT.out j))
  have HLN := Aside0.mk (put_len t HRT.out)
  have HPT := Aside0.mk (parse_text t HRT.out)
  have HPB := Aside0.mk (parseB_put t HRT.out)
  have HBY := Aside0.mk (put_byte t)
  have ga0 : v0.cell? ⟨ga, 0, none⟩ = some (.string t.a) := (blk_cell HR0.out 0).trans rfl
  have ga1 : v0.cell? ⟨ga, 1, none⟩ = some (.string t.b) := (blk_cell HR0.out 1).trans rfl
  have ga2 : v0.cell? ⟨ga, 2, none⟩ = some (.string t.c) := (blk_cell HR0.out 2).trans rfl
  have ga3 : v0.cell? ⟨ga, 3, none⟩ = some (.string t.d) := (blk_cell HR0.out 3).trans rfl
  have ga4 : v0.cell? ⟨ga, 4, none⟩ = some (.string t.e) := (blk_cell HR0.out 4).trans rfl
  have ga5 : v0.cell? ⟨ga, 5, none⟩ = some (.string t.f) := (blk_cell HR0.out 5).trans rfl
  go_wp2_with fail
  refine (text_right t v0 HG.out.1 HRT.out).mono ?_
  rintro e_ x0 ⟨rfl, hb⟩
  clear ga0 ga1 ga2 ga3 ga4 ga5
  have HR0' := Aside0.mk (blk_below HR0.out hb)
  have HB' := Aside0.mk (below_step HB.out hb)
  have HG' := Aside0.mk (HG.out.below hb)
  clear HR0 HB HG hb
  have HR0 := HR0'
  have HB := HB'
  have HG := HG'
  clear HR0' HB' HG'
  have ga0 : x0.cell? ⟨ga, 0, none⟩ = some (.string t.a) := (blk_cell HR0.out 0).trans rfl
  have ga1 : x0.cell? ⟨ga, 1, none⟩ = some (.string t.b) := (blk_cell HR0.out 1).trans rfl
  have ga2 : x0.cell? ⟨ga, 2, none⟩ = some (.string t.c) := (blk_cell HR0.out 2).trans rfl
  have ga3 : x0.cell? ⟨ga, 3, none⟩ = some (.string t.d) := (blk_cell HR0.out 3).trans rfl
  have ga4 : x0.cell? ⟨ga, 4, none⟩ = some (.string t.e) := (blk_cell HR0.out 4).trans rfl
  have ga5 : x0.cell? ⟨ga, 5, none⟩ = some (.string t.f) := (blk_cell HR0.out 5).trans rfl
  go_wp2_with fail
  refine (put_right t x0 HG.out.1 HRT.out).mono ?_
  rintro e_ x1 ⟨vb, rfl, hRb, hb⟩
  have HVB := Aside0.mk (Bs.of_R hRb)
  clear hRb
  clear ga0 ga1 ga2 ga3 ga4 ga5
  have HR0' := Aside0.mk (blk_below HR0.out hb)
  have HB' := Aside0.mk (below_step HB.out hb)
  have HG' := Aside0.mk (HG.out.below hb)
  clear HR0 HB HG hb
  have HR0 := HR0'
  have HB := HB'
  have HG := HG'
  clear HR0' HB' HG'
--R5
  have HVB1 := Aside0.mk (show ∀ x, Below x1.heap.size x1 x → Bs x vb (putP t) from fun x h => HVB.out.below h)
  clear HVB
  have HZ1 := Aside0.mk (B0 x1)
  obtain ⟨va, hva⟩ : ∃ v, v = tvv t := ⟨_, rfl⟩
  have HLA := Aside0.mk (show ∀ x, Below x1.heap.size x1 x → (Instr.loadAt 32 (.pointer (some ⟨ga, 0, none⟩))).run Tryz.prog x = .ok va x from fun x h => by rw [hva]; exact load_tv (blk_below HR0.out h))
  have HC1 := Aside0.mk (show ∀ x, Below x1.heap.size x1 x → Calls Tryz.prog 20 #[va] x fun e x' => e = .returned (.bool true) ∧ Below x.heap.size x x' from fun x h => by rw [hva, ← HRT.out]; exact (right_any t x (HG.out.below h).1).mono fun e x' r => ⟨r.1, r.2.below⟩)
  have HC2 := Aside0.mk (show ∀ x, Below x1.heap.size x1 x → Calls Tryz.prog 16 #[va] x fun e x' => e = .returned (.bool true) ∧ Below x.heap.size x x' from fun x h => by rw [hva, ← HRT.out]; exact refright_any t (by have := HSA.out; omega) x)
  clear hva
  go_upto_region 5 with fail
  refine wp_region_held_drew (S := fun w' => Below x1.heap.size x1 w') (by kernel_rfl) (pw_below_drewN (B0 x1) 1) (fun hHeld => ?_)
  refine wpAnyH_take (i := 0) (v := va) rfl (by kernel_rfl) (by kernel_rfl) (by kernel_rfl) (fun _ _ _ h => h) (yieldsIf_load (by rfl) 32 (.tmp 1) rfl va (fun w' h => HLA.out w' h)) hHeld ?_
  simp only [List.getElem_toArray, List.getElem_cons_succ, List.getElem_cons_zero, Act.put, List.setIfInBounds_toArray, List.set_cons_zero, List.set_cons_succ]
  refine wpAnyH_take (i := 2) (v := va) rfl (by kernel_rfl) (by kernel_rfl) (by kernel_rfl) (fun _ _ _ h => h) (yieldsIf_load (by rfl) 32 (.tmp 1) rfl va (fun w' h => HLA.out w' h)) hHeld ?_
  simp only [List.getElem_toArray, List.getElem_cons_succ, List.getElem_cons_zero, Act.put, List.setIfInBounds_toArray, List.set_cons_zero, List.set_cons_succ]
  refine wpAnyH_ready (rs := [1]) (by kernel_rfl) (by simp) ?_
  refine AllReadyH.cons rfl (fun K hK => ?_) AllReadyH.nil
  simp only [List.getElem_toArray, List.getElem_cons_succ, List.getElem_cons_zero]
  rw [if_pos (by rfl)]
  go_simp
  refine (HC1.out _ hHeld).mono ?_
  rintro e_ y1 ⟨rfl, hb⟩
  refine hK.out _ _ (below_step hHeld hb) (fun hHeld => ?_)
  clear hK K
  refine wpAnyH_ready (rs := [3]) (by kernel_rfl) (by simp) ?_
  refine AllReadyH.cons rfl (fun K hK => ?_) AllReadyH.nil
  simp only [List.getElem_toArray, List.getElem_cons_succ, List.getElem_cons_zero]
  rw [if_pos (by rfl)]
  go_simp
  clear hb
  refine (HC2.out _ hHeld).mono ?_
  rintro e_ y2 ⟨rfl, hb⟩
  refine hK.out _ _ (below_step hHeld hb) (fun hHeld => ?_)
  clear hK K
  refine wpAnyH_take (i := 4) (v := .bool false) rfl (by kernel_rfl) (by kernel_rfl) (by kernel_rfl) (fun _ _ _ h => h) (Or.inl ⟨by rfl, ?hy4⟩) hHeld ?_
  case hy4 => intro w' hSw; go_simp
  simp only [List.getElem_toArray, List.getElem_cons_succ, List.getElem_cons_zero, Act.put, List.setIfInBounds_toArray, List.set_cons_zero, List.set_cons_succ]
  refine wpAnyH_done (by kernel_rfl) ?_ _
  clear hb
  have hb := hHeld
  clear HLA HC1 HC2 hHeld
  have HZ1' := Aside0.mk (below_step HZ1.out hb)
  clear HZ1
  have HZ1 := HZ1'
  clear HZ1'
  have HR0' := Aside0.mk (blk_below HR0.out hb)
  have HB' := Aside0.mk (below_step HB.out hb)
  have HG' := Aside0.mk (HG.out.below hb)
  clear HR0 HB HG hb
  have HR0 := HR0'
  have HB := HB'
  have HG := HG'
  clear HR0' HB' HG'
  have ga0 : y2.cell? ⟨ga, 0, none⟩ = some (.string t.a) := (blk_cell HR0.out 0).trans rfl
  have ga1 : y2.cell? ⟨ga, 1, none⟩ = some (.string t.b) := (blk_cell HR0.out 1).trans rfl
  have ga2 : y2.cell? ⟨ga, 2, none⟩ = some (.string t.c) := (blk_cell HR0.out 2).trans rfl
  have ga3 : y2.cell? ⟨ga, 3, none⟩ = some (.string t.d) := (blk_cell HR0.out 3).trans rfl
  have ga4 : y2.cell? ⟨ga, 4, none⟩ = some (.string t.e) := (blk_cell HR0.out 4).trans rfl
  have ga5 : y2.cell? ⟨ga, 5, none⟩ = some (.string t.f) := (blk_cell HR0.out 5).trans rfl
  go_wp2_with fail
  refine (refright_any t (by have := HSA.out; omega) y2).mono ?_
  rintro e_ x2 ⟨rfl, hb⟩
  rw [HRT.out]
  clear ga0 ga1 ga2 ga3 ga4 ga5
  have HZ1' := Aside0.mk (below_step HZ1.out hb)
  clear HZ1
  have HZ1 := HZ1'
  clear HZ1'
  have HR0' := Aside0.mk (blk_below HR0.out hb)
  have HB' := Aside0.mk (below_step HB.out hb)
  have HG' := Aside0.mk (HG.out.below hb)
  clear HR0 HB HG hb
  have HR0 := HR0'
  have HB := HB'
  have HG := HG'
  clear HR0' HB' HG'
  go_wp2_with fail
  refine (parse_any (textP t) (by have := text_sz t HJ.out; omega) x2 HG.out).mono ?_
  rintro e_ x3 ⟨rfl, hb⟩
  rw [HPT.out]
  dsimp only [errV]
  have HZ1' := Aside0.mk (below_step HZ1.out hb)
  clear HZ1
  have HZ1 := HZ1'
  clear HZ1'
  have HR0' := Aside0.mk (blk_below HR0.out hb)
  have HB' := Aside0.mk (below_step HB.out hb)
  have HG' := Aside0.mk (HG.out.below hb)
  clear HR0 HB HG hb
  have HR0 := HR0'
  have HB := HB'
  have HG := HG'
  clear HR0' HB' HG'
  obtain ⟨x4, hx4⟩ : ∃ V, V = x3.alloc (.cells (rowc t) 32) := ⟨_, rfl⟩
  have hb : Below x3.heap.size x3 x4 := by rw [hx4]; exact below_alloc (B0 x3) _
  have HX0 := Aside0.mk (show x4.heap[x3.heap.size]? = some (.cells (rowc t) 32 (0, 0)) from by rw [hx4]; exact blk_new x3 _)
  obtain ⟨gx, hgx⟩ : ∃ g, g = x3.heap.size := ⟨_, rfl⟩
  rw [← hgx] at HX0
  have HZ1' := Aside0.mk (below_step HZ1.out hb)
  clear HZ1
  have HZ1 := HZ1'
  clear HZ1'
  have HR0' := Aside0.mk (blk_below HR0.out hb)
  have HB' := Aside0.mk (below_step HB.out hb)
  have HG' := Aside0.mk (HG.out.below hb)
  clear HR0 HB HG hb
  have HR0 := HR0'
  have HB := HB'
  have HG := HG'
  clear HR0' HB' HG'
  go_upto_region 10 with fail
  rw [← hx4, ← hgx]
  clear hx4 hgx
  go_wp2_with fail
  refine (parsebytes_any x4 vb (putP t) (HVB1.out _ HZ1.out) (by have := HLN.out; omega) HBY.out HG.out).mono ?_
  rintro e_ x5 ⟨rfl, hb⟩
  rw [HPB.out]
  dsimp only [ferr]
  have HZ1' := Aside0.mk (below_step HZ1.out hb)
  clear HZ1
  have HZ1 := HZ1'
  clear HZ1'
  have HR0' := Aside0.mk (blk_below HR0.out hb)
  have HX0' := Aside0.mk (blk_below HX0.out hb)
  have HB' := Aside0.mk (below_step HB.out hb)
  have HG' := Aside0.mk (HG.out.below hb)
  clear HR0 HX0 HB HG hb
  have HR0 := HR0'
  have HX0 := HX0'
  have HB := HB'
  have HG := HG'
  clear HR0' HX0' HB' HG'
  obtain ⟨x6, hx6⟩ : ∃ V, V = x5.alloc (.cells (rowc t) 32) := ⟨_, rfl⟩
  have hb : Below x5.heap.size x5 x6 := by rw [hx6]; exact below_alloc (B0 x5) _
  have HY0 := Aside0.mk (show x6.heap[x5.heap.size]? = some (.cells (rowc t) 32 (0, 0)) from by rw [hx6]; exact blk_new x5 _)
  obtain ⟨gy, hgy⟩ : ∃ g, g = x5.heap.size := ⟨_, rfl⟩
  rw [← hgy] at HY0
  have HZ1' := Aside0.mk (below_step HZ1.out hb)
  clear HZ1
  have HZ1 := HZ1'
  clear HZ1'
  have HR0' := Aside0.mk (blk_below HR0.out hb)
  have HX0' := Aside0.mk (blk_below HX0.out hb)
  have HB' := Aside0.mk (below_step HB.out hb)
  have HG' := Aside0.mk (HG.out.below hb)
  clear HR0 HX0 HB HG hb
  have HR0 := HR0'
  have HX0 := HX0'
  have HB := HB'
  have HG := HG'
  clear HR0' HX0' HB' HG'
  go_upto_region 11 with fail
  rw [← hx6, ← hgy]
  clear hx6 hgy
  have hxx : ((textP t).toList == (textP t).toList) = true := by simp
  obtain ⟨xa, hxa⟩ : ∃ x, x = textP t := ⟨_, rfl⟩
  rw [← hxa] at hxx
  rw [← hxa]
  have ga0 : x6.cell? ⟨ga, 0, none⟩ = some (.string t.a) := (blk_cell HR0.out 0).trans rfl
  have ga1 : x6.cell? ⟨ga, 1, none⟩ = some (.string t.b) := (blk_cell HR0.out 1).trans rfl
  have ga2 : x6.cell? ⟨ga, 2, none⟩ = some (.string t.c) := (blk_cell HR0.out 2).trans rfl
  have ga3 : x6.cell? ⟨ga, 3, none⟩ = some (.string t.d) := (blk_cell HR0.out 3).trans rfl
  have ga4 : x6.cell? ⟨ga, 4, none⟩ = some (.string t.e) := (blk_cell HR0.out 4).trans rfl
  have ga5 : x6.cell? ⟨ga, 5, none⟩ = some (.string t.f) := (blk_cell HR0.out 5).trans rfl
  go_wp2_with fail
  refine (reftext_any t (fun j => by have := HJ.out j; omega) x6).mono ?_
  rintro e_ x7 ⟨rfl, hb⟩
  rw [← hxa]
  clear hxa
  clear ga0 ga1 ga2 ga3 ga4 ga5
  have HZ1' := Aside0.mk (below_step HZ1.out hb)
  clear HZ1
  have HZ1 := HZ1'
  clear HZ1'
  have HR0' := Aside0.mk (blk_below HR0.out hb)
  have HX0' := Aside0.mk (blk_below HX0.out hb)
  have HY0' := Aside0.mk (blk_below HY0.out hb)
  have HB' := Aside0.mk (below_step HB.out hb)
  have HG' := Aside0.mk (HG.out.below hb)
  clear HR0 HX0 HY0 HB HG hb
  have HR0 := HR0'
  have HX0 := HX0'
  have HY0 := HY0'
  have HB := HB'
  have HG := HG'
  clear HR0' HX0' HY0' HB' HG'
  have ga0 : x7.cell? ⟨ga, 0, none⟩ = some (.string t.a) := (blk_cell HR0.out 0).trans rfl
  have ga1 : x7.cell? ⟨ga, 1, none⟩ = some (.string t.b) := (blk_cell HR0.out 1).trans rfl
  have ga2 : x7.cell? ⟨ga, 2, none⟩ = some (.string t.c) := (blk_cell HR0.out 2).trans rfl
  have ga3 : x7.cell? ⟨ga, 3, none⟩ = some (.string t.d) := (blk_cell HR0.out 3).trans rfl
  have ga4 : x7.cell? ⟨ga, 4, none⟩ = some (.string t.e) := (blk_cell HR0.out 4).trans rfl
  have ga5 : x7.cell? ⟨ga, 5, none⟩ = some (.string t.f) := (blk_cell HR0.out 5).trans rfl
  go_wp2_with fail
  refine (refput_any t HJ.out x7).mono ?_
  rintro e_ x8 ⟨vc, rfl, hRc, hb⟩
  have HVC := Aside0.mk (Bs.of_R hRc)
  clear hRc
  clear ga0 ga1 ga2 ga3 ga4 ga5
  have HZ1' := Aside0.mk (below_step HZ1.out hb)
  clear HZ1
  have HZ1 := HZ1'
  clear HZ1'
  have HR0' := Aside0.mk (blk_below HR0.out hb)
  have HX0' := Aside0.mk (blk_below HX0.out hb)
  have HY0' := Aside0.mk (blk_below HY0.out hb)
  have HB' := Aside0.mk (below_step HB.out hb)
  have HG' := Aside0.mk (HG.out.below hb)
  clear HR0 HX0 HY0 HB HG hb
  have HR0 := HR0'
  have HX0 := HX0'
  have HY0 := HY0'
  have HB := HB'
  have HG := HG'
  clear HR0' HX0' HY0' HB' HG'
  go_wp2_with fail
  refine (same_any x8 vb vc (putP t) (putP t) (HVB1.out _ HZ1.out) HVC.out (by have := HLN.out; omega)).mono ?_
  rintro e_ x9 ⟨rfl, ⟨⟨m, hm⟩⟩⟩
  have hb : Below x8.heap.size x8 x9 := by rw [hm]; exact pw_below_drewN (B0 x8) m
  rw [show decide (putP t = putP t) = true from decide_eq_true rfl]
  clear hm
  have HZ1' := Aside0.mk (below_step HZ1.out hb)
  clear HZ1
  have HZ1 := HZ1'
  clear HZ1'
  have HR0' := Aside0.mk (blk_below HR0.out hb)
  have HX0' := Aside0.mk (blk_below HX0.out hb)
  have HY0' := Aside0.mk (blk_below HY0.out hb)
  have HB' := Aside0.mk (below_step HB.out hb)
  have HG' := Aside0.mk (HG.out.below hb)
  clear HR0 HX0 HY0 HB HG hb
  have HR0 := HR0'
  have HX0 := HX0'
  have HY0 := HY0'
  have HB := HB'
  have HG := HG'
  clear HR0' HX0' HY0' HB' HG'
  have ga0 : x9.cell? ⟨ga, 0, none⟩ = some (.string t.a) := (blk_cell HR0.out 0).trans rfl
  have ga1 : x9.cell? ⟨ga, 1, none⟩ = some (.string t.b) := (blk_cell HR0.out 1).trans rfl
  have ga2 : x9.cell? ⟨ga, 2, none⟩ = some (.string t.c) := (blk_cell HR0.out 2).trans rfl
  have ga3 : x9.cell? ⟨ga, 3, none⟩ = some (.string t.d) := (blk_cell HR0.out 3).trans rfl
  have ga4 : x9.cell? ⟨ga, 4, none⟩ = some (.string t.e) := (blk_cell HR0.out 4).trans rfl
  have ga5 : x9.cell? ⟨ga, 5, none⟩ = some (.string t.f) := (blk_cell HR0.out 5).trans rfl
  have gx0 : x9.cell? ⟨gx, 0, none⟩ = some (.string t.a) := (blk_cell HX0.out 0).trans rfl
  have gx1 : x9.cell? ⟨gx, 1, none⟩ = some (.string t.b) := (blk_cell HX0.out 1).trans rfl
  have gx2 : x9.cell? ⟨gx, 2, none⟩ = some (.string t.c) := (blk_cell HX0.out 2).trans rfl
  have gx3 : x9.cell? ⟨gx, 3, none⟩ = some (.string t.d) := (blk_cell HX0.out 3).trans rfl
  have gx4 : x9.cell? ⟨gx, 4, none⟩ = some (.string t.e) := (blk_cell HX0.out 4).trans rfl
  have gx5 : x9.cell? ⟨gx, 5, none⟩ = some (.string t.f) := (blk_cell HX0.out 5).trans rfl
  have gy0 : x9.cell? ⟨gy, 0, none⟩ = some (.string t.a) := (blk_cell HY0.out 0).trans rfl
  have gy1 : x9.cell? ⟨gy, 1, none⟩ = some (.string t.b) := (blk_cell HY0.out 1).trans rfl
  have gy2 : x9.cell? ⟨gy, 2, none⟩ = some (.string t.c) := (blk_cell HY0.out 2).trans rfl
  have gy3 : x9.cell? ⟨gy, 3, none⟩ = some (.string t.d) := (blk_cell HY0.out 3).trans rfl
  have gy4 : x9.cell? ⟨gy, 4, none⟩ = some (.string t.e) := (blk_cell HY0.out 4).trans rfl
  have gy5 : x9.cell? ⟨gy, 5, none⟩ = some (.string t.f) := (blk_cell HY0.out 5).trans rfl
  have heq := eqIn t
  go_wp2
  go_ret
  exact ⟨rfl, HB.out⟩
end Go.Proofs.YtlbbhgmpiednfaaGreatDoor.HTupL1
