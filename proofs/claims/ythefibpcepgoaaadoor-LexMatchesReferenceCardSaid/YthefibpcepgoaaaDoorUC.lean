/- The law LexMatchesReference. -/
import Derived.Test.YthefibpcepgoaaaDoorUB
import Derived.Deep.Cut
namespace Go.Proofs.YthefibpcepgoaaaDoor.HLexL1
open Go.RowKit Go.Proofs.YthefibpcepgoaaaDoorW.PrintWords Go.Proofs.YthefibpcepgoaaaDoor.HLib Go.Proofs.YthefibpcepgoaaaDoor.HErr Go.Proofs.YthefibpcepgoaaaDoor.HLexP Go.Proofs.YthefibpcepgoaaaDoor.HLexJ Go.Proofs.YthefibpcepgoaaaDoor.HLexS Go.Proofs.YthefibpcepgoaaaDoor.HLexT Go.Proofs.YthefibpcepgoaaaDoor.HLexM Go.Proofs.YthefibpcepgoaaaDoor.HLexK Go.Proofs.YthefibpcepgoaaaDoor.HLexQ Go.Proofs.YthefibpcepgoaaaDoor.HLexV Go.Proofs.YthefibpcepgoaaaDoor.HLexB Go.Proofs.YthefibpcepgoaaaDoor.HLexC Go.Proofs.YthefibpcepgoaaaDoor.HLexF Go.Proofs.YthefibpcepgoaaaDoor.HLexE Go.Proofs.YthefibpcepgoaaaDoor.HLexW Go.Proofs.YthefibpcepgoaaaDoor.HName Go.Proofs.YthefibpcepgoaaaDoor.PLexJoins
set_option linter.unusedVariables false
set_option linter.unusedSimpArgs false

set_option maxRecDepth 100000 in
set_option maxHeartbeats 4000000 in
theorem matches_far (s : ByteArray) (hs : 2000 < s.size) (w : World) (hG : GV w) : Calls Tryd.prog 3 #[.string s] w fun e w' => e = .returned (.bool true) ∧ Below w.heap.size w w' := by
  have HG := Aside0.mk hG
  clear hG
  have d1 : decide (2000 < s.size) = true := decide_eq_true hs
  have d2 : decide ((2000 : Int) < (s.size : Int)) = true := decide_eq_true (by omega)
  clear hs
  go_enter Tryd.func3, Tryd.ntmps3
  go_wp2_with fail
  refine (awake_any w HG.out).mono ?_
  rintro e w1 ⟨rfl, hb1⟩
  have HB1 := Aside0.mk hb1
  clear hb1
  go_wp2_with fail
  refine (awake_any w1 (HG.out.below HB1.out)).mono ?_
  rintro e w2 ⟨rfl, hb2⟩
  have HB2 := Aside0.mk (below_step HB1.out hb2)
  clear hb2
  go_wp2
  go_ret
  exact ⟨rfl, HB2.out⟩
set_option maxRecDepth 100000 in
set_option maxHeartbeats 4000000 in
theorem matches_near (s : ByteArray) (hs : s.size ≤ 2000) (X : List S36) (Y : List S37) (k n : Int) (V : Value) (hV : V = errV k n)
    (hT : ∀ w, ResG w → Calls Tryd.prog 9 #[.string s] w fun e w' => ∃ A c, e = .returned (.tuple #[.slice A X.length c, V]) ∧ Sl w' w.heap.size A c X ∧ Below w.heap.size w w')
    (hR : ∀ w, Calls Tryd.prog 10 #[.string s] w fun e w' => ∃ A c, e = .returned (.agg #[.slice A Y.length c, .int .i64 k, .int .i64 n]) ∧ Sr w' A c Y ∧ Below w.heap.size w w')
    (hXY : X.map to37 = Y) (hXl : X.length ≤ 2001) (w : World) (hG : GV w) : Calls Tryd.prog 3 #[.string s] w fun e w' => e = .returned (.bool true) ∧ Below w.heap.size w w' := by
  have HG := Aside0.mk hG
  have HT := Aside0.mk hT
  have HR := Aside0.mk hR
  have hYl : Y.length = X.length := by rw [← hXY, List.length_map]
  have HXY := Aside0.mk hXY
  have HBX := Aside0.mk (fun (w : World) (B : Nat) A c (h : Sl w B A c X) => back_S h (by omega))
  rw [hXY] at HBX
  have HRS := Aside0.mk (fun (w : World) A c A' c' (h : Sr w A c Y) (h' : Sr w A' c' Y) => refsame_any w A c Y h.cells h.cap A' c' Y h'.cells h'.cap (by omega))
  rw [decide_eq_true (show Y.map kr = Y.map kr from rfl)] at HRS
  have HXL := Aside0.mk hXl
  have HYL := Aside0.mk hYl
  have HTO := Aside0.mk (fun w hG => told_any k n w hG)
  rw [← hV] at HTO
  clear hG hT hR hXY hXl hYl hV
  have d1 : decide (2000 < s.size) = false := decide_eq_false (by omega)
  have d2 : decide ((2000 : Int) < (s.size : Int)) = false := decide_eq_false (by omega)
  clear hs
  go_enter Tryd.func3, Tryd.ntmps3
  go_wp2_with fail
  refine (awake_any w HG.out).mono ?_
  rintro e w1 ⟨rfl, hb1⟩
  have HB1 := Aside0.mk hb1
  clear hb1
  go_wp2_with fail
  refine (HT.out w1 (HG.out.below HB1.out).1).mono ?_
  rintro e w2 ⟨A, c, rfl, hS, hb2⟩
  have HB2 := Aside0.mk (below_step HB1.out hb2)
  have HX2 := Aside0.mk hS
  clear hb2 hS
  go_wp2_with fail
  refine (HR.out w2).mono ?_
  rintro e w3 ⟨A', c', rfl, hS, hb3⟩
  have HB3 := Aside0.mk (below_step HB2.out hb3)
  have HX3 := Aside0.mk (HX2.out.below hb3)
  have HY3 := Aside0.mk hS
  clear hb3 hS
  go_wp2_with fail
  obtain ⟨W4, hW4⟩ : ∃ W, W = w3.alloc (.cells #[.slice A' Y.length c', .int .i64 k, .int .i64 n] 30) := ⟨_, rfl⟩
  rw [← hW4]
  have hb4 : Below w3.heap.size w3 W4 := by rw [hW4]; exact below_alloc (B0 w3) _
  have HB4 := Aside0.mk (below_step HB3.out hb4)
  have HX4 := Aside0.mk (HX3.out.below hb4)
  have HY4 := Aside0.mk (HY3.out.below hb4)
  have HG4 := Aside0.mk (HG.out.below HB4.out)
  have F4 := Aside0.mk (show W4.heap[w3.heap.size]? = some (.cells #[.slice A' Y.length c', .int .i64 k, .int .i64 n] 30 (0, 0)) from by rw [hW4]; exact blk_new w3 _)
  clear hb4 hW4
  refine wp_region_held_drew (S := fun w' => Below W4.heap.size W4 w') (by kernel_rfl) (below_drew1 (B0 W4)) (fun hHeld => ?_)
  generalize W4.drew = Wd at hHeld ⊢
  refine wpAnyH_take (i := 0) (v := V) rfl (by kernel_rfl) (by kernel_rfl) (by kernel_rfl) (fun _ _ _ h => h) (Or.inl ⟨by rfl, ?hy0⟩) hHeld ?_
  case hy0 => intro w' hSw; go_simp
  simp only [List.getElem_toArray, List.getElem_cons_succ, List.getElem_cons_zero, Act.put, List.setIfInBounds_toArray, List.set_cons_zero, List.set_cons_succ]
  refine wpAnyH_take (i := 1) (v := .pointer (some ⟨w3.heap.size, 1, none⟩)) rfl (by kernel_rfl) (by kernel_rfl) (by kernel_rfl) (fun _ _ _ h => h) (Or.inl ⟨by rfl, ?hy1⟩) hHeld ?_
  case hy1 => intro w' hSw; go_simp
  simp only [List.getElem_toArray, List.getElem_cons_succ, List.getElem_cons_zero, Act.put, List.setIfInBounds_toArray, List.set_cons_zero, List.set_cons_succ]
  refine wpAnyH_take (i := 2) (v := .int .i64 k) rfl (by kernel_rfl) (by kernel_rfl) (by kernel_rfl) (fun _ _ _ h => h) (Or.inl ⟨by rfl, ?hy2⟩) hHeld ?_
  case hy2 => intro w' hSw; have cc : w'.cell? ⟨w3.heap.size, 1, none⟩ = some (.int .i64 k) := (blk_cell (blk_below F4.out hSw) 1).trans (show _ = some _ from rfl); go_simp
  simp only [List.getElem_toArray, List.getElem_cons_succ, List.getElem_cons_zero, Act.put, List.setIfInBounds_toArray, List.set_cons_zero, List.set_cons_succ]
  refine wpAnyH_take (i := 3) (v := .pointer (some ⟨w3.heap.size, 2, none⟩)) rfl (by kernel_rfl) (by kernel_rfl) (by kernel_rfl) (fun _ _ _ h => h) (Or.inl ⟨by rfl, ?hy3⟩) hHeld ?_
  case hy3 => intro w' hSw; go_simp
  simp only [List.getElem_toArray, List.getElem_cons_succ, List.getElem_cons_zero, Act.put, List.setIfInBounds_toArray, List.set_cons_zero, List.set_cons_succ]
  refine wpAnyH_take (i := 4) (v := .int .i64 n) rfl (by kernel_rfl) (by kernel_rfl) (by kernel_rfl) (fun _ _ _ h => h) (Or.inl ⟨by rfl, ?hy4⟩) hHeld ?_
  case hy4 => intro w' hSw; have cc : w'.cell? ⟨w3.heap.size, 2, none⟩ = some (.int .i64 n) := (blk_cell (blk_below F4.out hSw) 2).trans (show _ = some _ from rfl); go_simp
  simp only [List.getElem_toArray, List.getElem_cons_succ, List.getElem_cons_zero, Act.put, List.setIfInBounds_toArray, List.set_cons_zero, List.set_cons_succ]
  refine wpAnyH_ready (rs := [5]) (by kernel_rfl) (by simp) ?_
  refine AllReadyH.cons rfl (fun K hK => ?_) AllReadyH.nil
  simp only [List.getElem_toArray, List.getElem_cons_succ, List.getElem_cons_zero]
  rw [if_pos (by rfl)]
  go_simp
  refine (HTO.out _ (HG4.out.below hHeld).2).mono ?_
  rintro e x1 ⟨rfl, hb⟩
  refine hK.out _ _ (below_step hHeld hb) (fun hHeld => ?_)
  clear hK K
  refine wpAnyH_take (i := 6) (v := .bool false) rfl (by kernel_rfl) (by kernel_rfl) (by kernel_rfl) (fun _ _ _ h => h) (Or.inl ⟨by rfl, ?hy6⟩) hHeld ?_
  case hy6 => intro w' hSw; go_simp
  simp only [List.getElem_toArray, List.getElem_cons_succ, List.getElem_cons_zero, Act.put, List.setIfInBounds_toArray, List.set_cons_zero, List.set_cons_succ]
  refine wpAnyH_take (i := 7) (v := .bool false) rfl (by kernel_rfl) (by kernel_rfl) (by kernel_rfl) (fun _ _ _ h => h) (Or.inl ⟨by rfl, ?hy7⟩) hHeld ?_
  case hy7 => intro w' hSw; go_simp
  simp only [List.getElem_toArray, List.getElem_cons_succ, List.getElem_cons_zero, Act.put, List.setIfInBounds_toArray, List.set_cons_zero, List.set_cons_succ]
  refine wpAnyH_take (i := 8) (v := .slice A X.length c) rfl (by kernel_rfl) (by kernel_rfl) (by kernel_rfl) (fun _ _ _ h => h) (Or.inl ⟨by rfl, ?hy8⟩) hHeld ?_
  case hy8 => intro w' hSw; go_simp
  simp only [List.getElem_toArray, List.getElem_cons_succ, List.getElem_cons_zero, Act.put, List.setIfInBounds_toArray, List.set_cons_zero, List.set_cons_succ]
  refine wpAnyH_take (i := 10) (v := .pointer (some ⟨w3.heap.size, 0, none⟩)) rfl (by kernel_rfl) (by kernel_rfl) (by kernel_rfl) (fun _ _ _ h => h) (Or.inl ⟨by rfl, ?hy10⟩) hHeld ?_
  case hy10 => intro w' hSw; go_simp
  simp only [List.getElem_toArray, List.getElem_cons_succ, List.getElem_cons_zero, Act.put, List.setIfInBounds_toArray, List.set_cons_zero, List.set_cons_succ]
  refine wpAnyH_take (i := 11) (v := .slice A' Y.length c') rfl (by kernel_rfl) (by kernel_rfl) (by kernel_rfl) (fun _ _ _ h => h) (Or.inl ⟨by rfl, ?hy11⟩) hHeld ?_
  case hy11 => intro w' hSw; have cc : w'.cell? ⟨w3.heap.size, 0, none⟩ = some (.slice A' Y.length c') := (blk_cell (blk_below F4.out hSw) 0).trans (show _ = some _ from rfl); go_simp
  simp only [List.getElem_toArray, List.getElem_cons_succ, List.getElem_cons_zero, Act.put, List.setIfInBounds_toArray, List.set_cons_zero, List.set_cons_succ]
  refine wpAnyH_ready (rs := [9]) (by kernel_rfl) (by simp) ?_
  refine AllReadyH.cons rfl (fun K hK => ?_) AllReadyH.nil
  simp only [List.getElem_toArray, List.getElem_cons_succ, List.getElem_cons_zero]
  rw [if_pos (by rfl)]
  go_simp
  refine (HBX.out _ _ A c (HX4.out.below hHeld)).mono ?_
  rintro e x2 ⟨A7, c7, rfl, hS, hb⟩
  have HS7 := Aside0.mk hS
  clear hS
  refine hK.out _ _ (below_step hHeld hb) (fun hHeld => ?_)
  clear hK K
  refine wpAnyH_ready (rs := [12]) (by kernel_rfl) (by simp) ?_
  refine AllReadyH.cons rfl (fun K hK => ?_) AllReadyH.nil
  simp only [List.getElem_toArray, List.getElem_cons_succ, List.getElem_cons_zero]
  rw [if_pos (by rfl)]
  go_simp
  refine (HRS.out _ A7 c7 A' c' HS7.out (HY4.out.below hHeld)).mono ?_
  rintro e x3 ⟨rfl, ⟨⟨m, rfl⟩⟩⟩
  refine hK.out _ _ (pw_below_drewN hHeld m) (fun hHeld => ?_)
  clear hK K
  refine wpAnyH_take (i := 13) (v := .bool false) rfl (by kernel_rfl) (by kernel_rfl) (by kernel_rfl) (fun _ _ _ h => h) (Or.inl ⟨by rfl, ?hy13⟩) hHeld ?_
  case hy13 => intro w' hSw; go_simp
  simp only [List.getElem_toArray, List.getElem_cons_succ, List.getElem_cons_zero, Act.put, List.setIfInBounds_toArray, List.set_cons_zero, List.set_cons_succ]
  refine wpAnyH_take (i := 14) (v := .bool false) rfl (by kernel_rfl) (by kernel_rfl) (by kernel_rfl) (fun _ _ _ h => h) (Or.inl ⟨by rfl, ?hy14⟩) hHeld ?_
  case hy14 => intro w' hSw; go_simp
  simp only [List.getElem_toArray, List.getElem_cons_succ, List.getElem_cons_zero, Act.put, List.setIfInBounds_toArray, List.set_cons_zero, List.set_cons_succ]
  refine wpAnyH_done (by kernel_rfl) ?_ _
  generalize x2.drewN m = W5 at hHeld ⊢
  have HB5 := Aside0.mk (below_step HB4.out hHeld)
  have HX5 := Aside0.mk (HX4.out.below hHeld)
  have HY5 := Aside0.mk (HY4.out.below hHeld)
  have F5 := Aside0.mk (blk_below F4.out hHeld)
  clear hHeld
  go_wp2
  go_loopg [6] X.length (fun kq v6 w' => ∃ (j : Nat), v6 = .int .i64 j ∧ Aside0 (kq + j = X.length) ∧ Aside0 (Below W5.heap.size W5 w'))
  case atStart => exact ⟨0, rfl, ⟨by omega⟩, ⟨B0 W5⟩⟩
  case round =>
    obtain ⟨j, rfl, HJ, HW⟩ := hrel
    by_cases cj : j < X.length
    · have d4 : decide (j < X.length) = true := decide_eq_true cj
      have d5 : decide ((j : Int) < (X.length : Int)) = true := decide_eq_true (by omega)
      have d6 : (j : Int) < (X.length : Int) := by omega
      have d7 : (j : Int) ≤ 1000000 := by have := HXL.out; omega
      have cy : j < Y.length := by rw [HYL.out]; exact cj
      have d8 : (j : Int) < (Y.length : Int) := by omega
      obtain ⟨ad, hAd, _, _, _⟩ := at_T36 (HX5.out.below HW.out).cells j (by omega) (by omega)
      obtain ⟨ad', hAd', _, _, _⟩ := at_T37 (HY5.out.below HW.out).cells j (by omega) (by omega)
      subst hAd
      subst hAd'
      have hzz : (rd_T37 Y j).f2 = (rd_T36 X j).f2 := by
        rw [← HXY.out]
        unfold rd_T37 rd_T36
        rw [Int.toNat_natCast, List.getD_eq_getElem?_getD, List.getD_eq_getElem?_getD, List.getElem?_map, List.getElem?_eq_getElem cj]
        rfl
      have HBR := Aside0.mk (below_step HB5.out HW.out)
      have FR := Aside0.mk (blk_below F5.out HW.out)
      have HA := Aside0.mk (show ∀ w', Below wr.heap.size wr w' → w'.cell? ⟨(ad.add (j * 3)).block, (ad.add (j * 3)).off + 2, none⟩ = some (.int .i64 (rd_T36 X j).f2) from fun w' h => by
        obtain ⟨a2, e2, _, _, q⟩ := at_T36 ((HX5.out.below HW.out).below h).cells j (by omega) (by omega)
        injection e2 with e2
        subst e2
        exact q)
      have HA' := Aside0.mk (show ∀ w', Below wr.heap.size wr w' → w'.cell? ⟨(ad'.add (j * 3)).block, (ad'.add (j * 3)).off + 2, none⟩ = some (.int .i64 (rd_T36 X j).f2) from fun w' h => by
        obtain ⟨a2, e2, _, _, q⟩ := at_T37 ((HY5.out.below HW.out).below h).cells j (by omega) (by omega)
        injection e2 with e2
        subst e2
        rw [← hzz]
        exact q)
      obtain ⟨z, hz⟩ : ∃ z, z = (rd_T36 X j).f2 := ⟨_, rfl⟩
      rw [← hz] at HA HA'
      clear hz hzz
      go_upto_region 10 with fail
      refine wp_region_held_drew (S := fun w' => Below wr.heap.size wr w') (by kernel_rfl) (below_drew1 (B0 wr)) (fun hHeld => ?_)
      generalize wr.drew = Wz at hHeld ⊢
      refine wpAnyH_take (i := 0) (v := .slice (some ad) X.length c) rfl (by kernel_rfl) (by kernel_rfl) (by kernel_rfl) (fun _ _ _ h => h) (Or.inl ⟨by rfl, ?hy0⟩) hHeld ?_
      case hy0 => intro w' hSw; go_simp
      simp only [List.getElem_toArray, List.getElem_cons_succ, List.getElem_cons_zero, Act.put, List.setIfInBounds_toArray, List.set_cons_zero, List.set_cons_succ]
      refine wpAnyH_take (i := 1) (v := .int .i64 j) rfl (by kernel_rfl) (by kernel_rfl) (by kernel_rfl) (fun _ _ _ h => h) (Or.inl ⟨by rfl, ?hy1⟩) hHeld ?_
      case hy1 => intro w' hSw; go_simp
      simp only [List.getElem_toArray, List.getElem_cons_succ, List.getElem_cons_zero, Act.put, List.setIfInBounds_toArray, List.set_cons_zero, List.set_cons_succ]
      refine wpAnyH_take (i := 2) (v := .pointer (some (ad.add (j * 3)))) rfl (by kernel_rfl) (by kernel_rfl) (by kernel_rfl) (fun _ _ _ h => h) (Or.inl ⟨by rfl, ?hy2⟩) hHeld ?_
      case hy2 => intro w' hSw; go_simp
      simp only [List.getElem_toArray, List.getElem_cons_succ, List.getElem_cons_zero, Act.put, List.setIfInBounds_toArray, List.set_cons_zero, List.set_cons_succ]
      refine wpAnyH_take (i := 3) (v := .pointer (some ⟨(ad.add (j * 3)).block, (ad.add (j * 3)).off + 2, none⟩)) rfl (by kernel_rfl) (by kernel_rfl) (by kernel_rfl) (fun _ _ _ h => h) (Or.inl ⟨by rfl, ?hy3⟩) hHeld ?_
      case hy3 => intro w' hSw; go_simp
      simp only [List.getElem_toArray, List.getElem_cons_succ, List.getElem_cons_zero, Act.put, List.setIfInBounds_toArray, List.set_cons_zero, List.set_cons_succ]
      refine wpAnyH_take (i := 4) (v := .int .i64 z) rfl (by kernel_rfl) (by kernel_rfl) (by kernel_rfl) (fun _ _ _ h => h) (Or.inl ⟨by rfl, ?hy4⟩) hHeld ?_
      case hy4 => intro w' hSw; have cc := HA.out w' hSw; go_simp
      simp only [List.getElem_toArray, List.getElem_cons_succ, List.getElem_cons_zero, Act.put, List.setIfInBounds_toArray, List.set_cons_zero, List.set_cons_succ]
      refine wpAnyH_take (i := 5) (v := .pointer (some ⟨w3.heap.size, 0, none⟩)) rfl (by kernel_rfl) (by kernel_rfl) (by kernel_rfl) (fun _ _ _ h => h) (Or.inl ⟨by rfl, ?hy5⟩) hHeld ?_
      case hy5 => intro w' hSw; go_simp
      simp only [List.getElem_toArray, List.getElem_cons_succ, List.getElem_cons_zero, Act.put, List.setIfInBounds_toArray, List.set_cons_zero, List.set_cons_succ]
      refine wpAnyH_take (i := 6) (v := .slice (some ad') Y.length c') rfl (by kernel_rfl) (by kernel_rfl) (by kernel_rfl) (fun _ _ _ h => h) (Or.inl ⟨by rfl, ?hy6⟩) hHeld ?_
      case hy6 => intro w' hSw; have cc : w'.cell? ⟨w3.heap.size, 0, none⟩ = some (.slice (some ad') Y.length c') := (blk_cell (blk_below FR.out hSw) 0).trans (show _ = some _ from rfl); go_simp
      simp only [List.getElem_toArray, List.getElem_cons_succ, List.getElem_cons_zero, Act.put, List.setIfInBounds_toArray, List.set_cons_zero, List.set_cons_succ]
      refine wpAnyH_take (i := 7) (v := .int .i64 j) rfl (by kernel_rfl) (by kernel_rfl) (by kernel_rfl) (fun _ _ _ h => h) (Or.inl ⟨by rfl, ?hy7⟩) hHeld ?_
      case hy7 => intro w' hSw; go_simp
      simp only [List.getElem_toArray, List.getElem_cons_succ, List.getElem_cons_zero, Act.put, List.setIfInBounds_toArray, List.set_cons_zero, List.set_cons_succ]
      refine wpAnyH_take (i := 8) (v := .pointer (some (ad'.add (j * 3)))) rfl (by kernel_rfl) (by kernel_rfl) (by kernel_rfl) (fun _ _ _ h => h) (Or.inl ⟨by rfl, ?hy8⟩) hHeld ?_
      case hy8 => intro w' hSw; go_simp
      simp only [List.getElem_toArray, List.getElem_cons_succ, List.getElem_cons_zero, Act.put, List.setIfInBounds_toArray, List.set_cons_zero, List.set_cons_succ]
      refine wpAnyH_take (i := 9) (v := .pointer (some ⟨(ad'.add (j * 3)).block, (ad'.add (j * 3)).off + 2, none⟩)) rfl (by kernel_rfl) (by kernel_rfl) (by kernel_rfl) (fun _ _ _ h => h) (Or.inl ⟨by rfl, ?hy9⟩) hHeld ?_
      case hy9 => intro w' hSw; go_simp
      simp only [List.getElem_toArray, List.getElem_cons_succ, List.getElem_cons_zero, Act.put, List.setIfInBounds_toArray, List.set_cons_zero, List.set_cons_succ]
      refine wpAnyH_take (i := 10) (v := .int .i64 z) rfl (by kernel_rfl) (by kernel_rfl) (by kernel_rfl) (fun _ _ _ h => h) (Or.inl ⟨by rfl, ?hy10⟩) hHeld ?_
      case hy10 => intro w' hSw; have cc := HA'.out w' hSw; go_simp
      simp only [List.getElem_toArray, List.getElem_cons_succ, List.getElem_cons_zero, Act.put, List.setIfInBounds_toArray, List.set_cons_zero, List.set_cons_succ]
      refine wpAnyH_take (i := 11) (v := .bool false) rfl (by kernel_rfl) (by kernel_rfl) (by kernel_rfl) (fun _ _ _ h => h) (Or.inl ⟨by rfl, ?hy11⟩) hHeld ?_
      case hy11 => intro w' hSw; go_simp
      simp only [List.getElem_toArray, List.getElem_cons_succ, List.getElem_cons_zero, Act.put, List.setIfInBounds_toArray, List.set_cons_zero, List.set_cons_succ]
      refine wpAnyH_done (by kernel_rfl) ?_ _
      have HBZ := Aside0.mk (Below.trans HW.out (hHeld.mono HW.out.size))
      clear hHeld
      go_wp2
      go_roundg (X.length - (j + 1))
      case measure => have := HJ.out; omega
      case rel => exact ⟨j + 1, rfl, ⟨by have := HJ.out; omega⟩, ⟨HBZ.out⟩⟩
    · have d4 : decide (j < X.length) = false := decide_eq_false cj
      have d5 : decide ((j : Int) < (X.length : Int)) = false := decide_eq_false (by omega)
      have HBR := Aside0.mk (below_step HB5.out HW.out)
      go_wp2
      go_ret
      exact ⟨rfl, HBR.out⟩
theorem row_matches (s : ByteArray) (W : World) (hs : s.size ≤ maxLen) (hG : GV W) : Calls Tryd.prog 3 #[.string s] W fun e w' => e = .returned (.bool true) ∧ Below W.heap.size W w' := by
  by_cases h : 2000 < s.size
  · exact matches_far s h W hG
  · have hle : s.size ≤ 2000 := by omega
    cases hl : lexP s with
    | inl p =>
      obtain ⟨c, n⟩ := p
      have hc := lexP_err (by omega) hl
      have hc0 : c ≠ 0 := by rcases hc with h | h <;> rw [h] <;> decide
      exact matches_near s hle [] [] c n (fltV c n) (by rw [errV, if_neg hc0]) (fun w hG => (tokens_L s (by omega) hl w hG).mono fun e w' ⟨he, hb⟩ => ⟨none, 0, he, ⟨Nat.le_refl _, (Kd.R_reads' (Kd.R_nil k36 0 w' 0 (fun _ => True))).2.2⟩, hb⟩) (fun w => ref_L0 s (by omega) hl w) rfl (by decide) W hG
    | inr l =>
      have hf := lexP_facts (by omega) hl
      exact matches_near s hle (l.map tk36) (l.map tk37) 0 0 .nilIface rfl (fun w hG => tokens_R s (by omega) hl w hG) (fun w => ref_R s (by omega) hl w) (to37_tk l) (by rw [List.length_map]; omega) W hG
end Go.Proofs.YthefibpcepgoaaaDoor.HLexL1
