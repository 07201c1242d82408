/- The law ShaConstants. -/
import Derived.Test.YtndadfhmdkkokaaDoorHShaA
import Derived.Test.YtndadfhmdkkokaaDoorHShaK
namespace Go.Proofs.YtndadfhmdkkokaaDoor.HShaL2
open Go.RowKit Go.Proofs.YtndadfhmdkkokaaDoorW.PrintWords Go.Proofs.YtndadfhmdkkokaaDoor.HLib Go.Proofs.YtndadfhmdkkokaaDoor.HSha Go.Proofs.YtndadfhmdkkokaaDoor.HShaS Go.Proofs.YtndadfhmdkkokaaDoor.HShaP Go.Proofs.YtndadfhmdkkokaaDoor.HShaU Go.Proofs.YtndadfhmdkkokaaDoor.HShaV Go.Proofs.YtndadfhmdkkokaaDoor.HShaW Go.Proofs.YtndadfhmdkkokaaDoor.HShaA Go.Proofs.YtndadfhmdkkokaaDoor.HShaK Go.Proofs.YtndadfhmdkkokaaDoor.PShaConstants
set_option linter.unusedVariables false
set_option linter.unusedSimpArgs false

theorem prime_any (i : Int) (w : World) (h0 : 0 ≤ i) (h1 : i < 64) : Calls Tryd.prog 18 #[.int .i64 i] w fun e w' => e = .returned (.int .i64 (PR.getD i.toNat 0)) ∧ Below w.heap.size w w' := by
  have h := pr_all ⟨i.toNat, by omega⟩
  rw [show ((i.toNat : Nat) : Int) = i from by omega] at h
  refine (vestryref06_Prime.calls 5000 i _ w h).mono ?_
  rintro e w' ⟨he, ⟨m, rfl⟩⟩
  exact ⟨he, pw_below_drewN (B0 w) m⟩
theorem root3_any (i : Int) (w : World) (h0 : 0 ≤ i) (h1 : i < 64) : Calls Tryd.prog 17 #[.int .i64 (PR.getD i.toNat 0), .int .i64 3] w fun e w' => e = .returned (.int .u32 (KT.getD i.toNat 0)) ∧ Below w.heap.size w w' :=
  vestryref06_Root.calls 300 _ 3 _ w (rt3_all i.toNat (by omega))
theorem root2_any (i : Int) (w : World) (h0 : 0 ≤ i) (h1 : i < 8) : Calls Tryd.prog 17 #[.int .i64 (PR.getD i.toNat 0), .int .i64 2] w fun e w' => e = .returned (.int .u32 (ST.getD i.toNat 0)) ∧ Below w.heap.size w w' :=
  vestryref06_Root.calls 300 _ 2 _ w (rt2_all i.toNat (by omega))
theorem const_in (i : Int) (w : World) (hG : Glob w) (h0 : 0 ≤ i) (h1 : i < 64) : Calls Tryd.prog 16 #[.int .i64 i] w fun e w' => e = .returned (.tuple #[.int .u32 (KT.getD i.toNat 0), .bool true]) ∧ w' = w :=
  (constant_any i w hG).mono (fun e w' h => ⟨by rw [h.1, if_pos ⟨h0, h1⟩, decide_eq_true (show 0 ≤ i ∧ i < 64 from ⟨h0, h1⟩)], h.2⟩)
theorem const_out (i : Int) (w : World) (hG : Glob w) (h : ¬ (0 ≤ i ∧ i < 64)) : Calls Tryd.prog 16 #[.int .i64 i] w fun e w' => e = .returned (.tuple #[.int .u32 0, .bool false]) ∧ w' = w :=
  (constant_any i w hG).mono (fun e w' h' => ⟨by rw [h'.1, if_neg h, decide_eq_false h], h'.2⟩)

set_option maxHeartbeats 4000000 in
theorem out_walk (i : Int) (w : World) (hG : Glob w) (h : ¬ (0 ≤ i ∧ i < 64)) : Calls Tryd.prog 5 #[.int .i64 i] w fun e w' => e = .returned (.bool true) ∧ Below w.heap.size w w' := by
  have HG := Aside0.mk hG
  have HH := Aside0.mk h
  by_cases c : i < 0
  · have d : decide (i < 0) = true := decide_eq_true c
    clear hG h c
    go_enter Tryd.func5, Tryd.ntmps5
    go_wp2_with fail
    refine (awake_any w HG.out).mono ?_
    rintro e w1 ⟨rfl, hb1⟩
    have HB1 := Aside0.mk hb1
    clear hb1
    go_wp2_with fail
    refine (const_out i w1 (glob_below HG.out HG.out.1 HB1.out) HH.out).mono ?_
    rintro e w2 ⟨rfl, rfl⟩
    go_wp2
    go_ret
    exact ⟨rfl, HB1.out⟩
  · have d : decide (i < 0) = false := decide_eq_false c
    have d2 : decide (63 < i) = true := decide_eq_true (by omega)
    clear hG h c
    go_enter Tryd.func5, Tryd.ntmps5
    go_wp2_with fail
    refine (awake_any w HG.out).mono ?_
    rintro e w1 ⟨rfl, hb1⟩
    have HB1 := Aside0.mk hb1
    clear hb1
    go_wp2_with fail
    refine (const_out i w1 (glob_below HG.out HG.out.1 HB1.out) HH.out).mono ?_
    rintro e w2 ⟨rfl, rfl⟩
    go_wp2
    go_ret
    exact ⟨rfl, HB1.out⟩

set_option maxHeartbeats 8000000 in
theorem in_walk (i : Int) (w : World) (hG : Glob w) (h0 : 0 ≤ i) (h1 : i < 64) : Calls Tryd.prog 5 #[.int .i64 i] w fun e w' => e = .returned (.bool true) ∧ Below w.heap.size w w' := by
  have HG := Aside0.mk hG
  have hq : 0 ≤ Int.tmod i 8 ∧ Int.tmod i 8 < 8 := by rw [Int.tmod_eq_emod_of_nonneg h0]; omega
  have d : decide (i < 0) = false := decide_eq_false (by omega)
  have d2 : decide (63 < i) = false := decide_eq_false (by omega)
  have HC : ∀ w, Glob w → Calls Tryd.prog 16 #[.int .i64 i] w fun e w' => e = .returned (.tuple #[.int .u32 (KT.getD i.toNat 0), .bool true]) ∧ w' = w := fun w hg => const_in i w hg h0 h1
  have HP1 : ∀ w, Calls Tryd.prog 18 #[.int .i64 i] w fun e w' => e = .returned (.int .i64 (PR.getD i.toNat 0)) ∧ Below w.heap.size w w' := fun w => prime_any i w h0 h1
  have HR1 : ∀ w, Calls Tryd.prog 17 #[.int .i64 (PR.getD i.toNat 0), .int .i64 3] w fun e w' => e = .returned (.int .u32 (KT.getD i.toNat 0)) ∧ Below w.heap.size w w' := fun w => root3_any i w h0 h1
  have HP2 : ∀ w, Calls Tryd.prog 18 #[.int .i64 (Int.tmod i 8)] w fun e w' => e = .returned (.int .i64 (PR.getD (Int.tmod i 8).toNat 0)) ∧ Below w.heap.size w w' := fun w => prime_any (Int.tmod i 8) w (by omega) (by omega)
  have HR2 : ∀ w, Calls Tryd.prog 17 #[.int .i64 (PR.getD (Int.tmod i 8).toNat 0), .int .i64 2] w fun e w' => e = .returned (.int .u32 (ST.getD (Int.tmod i 8).toNat 0)) ∧ Below w.heap.size w w' := fun w => root2_any (Int.tmod i 8) w (by omega) (by omega)
  have hix : ∀ w, (Instr.index 32 (.agg (nums .u32 ST).toArray) (.int .i64 (Int.tmod i 8))).run Tryd.prog w = .ok (.int .u32 (ST.getD (Int.tmod i 8).toNat 0)) w := fun w => arr_index Tryd.underlying32 .u32 Tryd.underlying31 info_u32 ST (Int.tmod i 8) (by omega) (by have : (ST.length : Int) = 8 := rfl; omega) rfl w
  generalize KT.getD i.toNat 0 = k at HC HR1
  generalize PR.getD i.toNat 0 = p at HP1 HR1
  generalize PR.getD (Int.tmod i 8).toNat 0 = p2 at HP2 HR2
  generalize ST.getD (Int.tmod i 8).toNat 0 = s2 at HR2 hix
  have AHC := Aside0.mk HC
  have AHP1 := Aside0.mk HP1
  have AHP2 := Aside0.mk HP2
  have AHR1 := Aside0.mk HR1
  have AHR2 := Aside0.mk HR2
  obtain ⟨hq0, hq1⟩ := hq
  clear hG HC HP1 HP2 HR1 HR2
  go_enter Tryd.func5, Tryd.ntmps5
  go_wp2_with fail
  refine (awake_any w HG.out).mono ?_
  rintro e w1 ⟨rfl, hb1⟩
  have HB1 := Aside0.mk hb1
  clear hb1
  go_wp2_with fail
  refine (AHC.out w1 (glob_below HG.out HG.out.1 HB1.out)).mono ?_
  rintro e w2 ⟨rfl, rfl⟩
  go_wp2
  refine wp_region_held_drew (S := fun w' => Below w.heap.size w w') (by kernel_rfl) (below_drew1 HB1.out) (fun hHeld => ?_)
  refine wpAnyH_take (i := 0) (v := .bool true) rfl (by kernel_rfl) (by kernel_rfl) (by kernel_rfl) (fun _ _ _ h => h) (Or.inl ⟨by rfl, ?hy0⟩) hHeld ?_
  case hy0 => intro w' _; go_simp
  simp only [List.getElem_toArray, List.getElem_cons_succ, List.getElem_cons_zero, Act.put, List.setIfInBounds_toArray, List.set_cons_zero, List.set_cons_succ]
  refine wpAnyH_take (i := 1) (v := .bool true) rfl (by kernel_rfl) (by kernel_rfl) (by kernel_rfl) (fun _ _ _ h => h) (Or.inl ⟨by rfl, ?hy1⟩) hHeld ?_
  case hy1 => intro w' _; go_simp
  simp only [List.getElem_toArray, List.getElem_cons_succ, List.getElem_cons_zero, Act.put, List.setIfInBounds_toArray, List.set_cons_zero, List.set_cons_succ]
  refine wpAnyH_take (i := 2) (v := .int .u32 k) rfl (by kernel_rfl) (by kernel_rfl) (by kernel_rfl) (fun _ _ _ h => h) (Or.inl ⟨by rfl, ?hy2⟩) hHeld ?_
  case hy2 => intro w' _; go_simp
  simp only [List.getElem_toArray, List.getElem_cons_succ, List.getElem_cons_zero, Act.put, List.setIfInBounds_toArray, List.set_cons_zero, List.set_cons_succ]
  refine wpAnyH_take (i := 3) (v := .int .i64 i) rfl (by kernel_rfl) (by kernel_rfl) (by kernel_rfl) (fun _ _ _ h => h) (Or.inl ⟨by rfl, ?hy3⟩) hHeld ?_
  case hy3 => intro w' _; go_simp
  simp only [List.getElem_toArray, List.getElem_cons_succ, List.getElem_cons_zero, Act.put, List.setIfInBounds_toArray, List.set_cons_zero, List.set_cons_succ]
  refine wpAnyH_ready (rs := [4]) (by kernel_rfl) (by simp) ?_
  refine AllReadyH.cons rfl (fun K hK => ?_) AllReadyH.nil
  simp only [List.getElem_toArray, List.getElem_cons_succ, List.getElem_cons_zero]
  rw [if_pos (by rfl)]
  go_simp
  refine (AHP1.out _).mono ?_
  rintro e w4 ⟨rfl, hbb⟩
  refine hK.out _ _ (below_step hHeld hbb) (fun hHeld => ?_)
  clear hK K
  refine wpAnyH_ready (rs := [5]) (by kernel_rfl) (by simp) ?_
  refine AllReadyH.cons rfl (fun K hK => ?_) AllReadyH.nil
  simp only [List.getElem_toArray, List.getElem_cons_succ, List.getElem_cons_zero]
  rw [if_pos (by rfl)]
  go_simp
  refine (AHR1.out _).mono ?_
  rintro e w5 ⟨rfl, hbb⟩
  refine hK.out _ _ (below_step hHeld hbb) (fun hHeld => ?_)
  clear hK K
  refine wpAnyH_take (i := 6) (v := .bool true) rfl (by kernel_rfl) (by kernel_rfl) (by kernel_rfl) (fun _ _ _ h => h) (Or.inl ⟨by rfl, ?hy6⟩) hHeld ?_
  case hy6 => intro w' _; go_simp
  simp only [List.getElem_toArray, List.getElem_cons_succ, List.getElem_cons_zero, Act.put, List.setIfInBounds_toArray, List.set_cons_zero, List.set_cons_succ]
  refine wpAnyH_take (i := 7) (v := .bool true) rfl (by kernel_rfl) (by kernel_rfl) (by kernel_rfl) (fun _ _ _ h => h) (Or.inl ⟨by rfl, ?hy7⟩) hHeld ?_
  case hy7 => intro w' _; go_simp
  simp only [List.getElem_toArray, List.getElem_cons_succ, List.getElem_cons_zero, Act.put, List.setIfInBounds_toArray, List.set_cons_zero, List.set_cons_succ]
  refine wpAnyH_take (i := 8) (v := .bool true) rfl (by kernel_rfl) (by kernel_rfl) (by kernel_rfl) (fun _ _ _ h => h) (Or.inl ⟨by rfl, ?hy8⟩) hHeld ?_
  case hy8 => intro w' _; go_simp
  simp only [List.getElem_toArray, List.getElem_cons_succ, List.getElem_cons_zero, Act.put, List.setIfInBounds_toArray, List.set_cons_zero, List.set_cons_succ]
  refine wpAnyH_take (i := 10) (v := .int .i64 i) rfl (by kernel_rfl) (by kernel_rfl) (by kernel_rfl) (fun _ _ _ h => h) (Or.inl ⟨by rfl, ?hy10⟩) hHeld ?_
  case hy10 => intro w' _; go_simp
  simp only [List.getElem_toArray, List.getElem_cons_succ, List.getElem_cons_zero, Act.put, List.setIfInBounds_toArray, List.set_cons_zero, List.set_cons_succ]
  refine wpAnyH_take (i := 11) (v := .int .i64 (Int.tmod i 8)) rfl (by kernel_rfl) (by kernel_rfl) (by kernel_rfl) (fun _ _ _ h => h) (Or.inl ⟨by rfl, ?hy11⟩) hHeld ?_
  case hy11 => intro w' _; go_simp
  simp only [List.getElem_toArray, List.getElem_cons_succ, List.getElem_cons_zero, Act.put, List.setIfInBounds_toArray, List.set_cons_zero, List.set_cons_succ]
  refine wpAnyH_take (i := 13) (v := .int .i64 i) rfl (by kernel_rfl) (by kernel_rfl) (by kernel_rfl) (fun _ _ _ h => h) (Or.inl ⟨by rfl, ?hy13⟩) hHeld ?_
  case hy13 => intro w' _; go_simp
  simp only [List.getElem_toArray, List.getElem_cons_succ, List.getElem_cons_zero, Act.put, List.setIfInBounds_toArray, List.set_cons_zero, List.set_cons_succ]
  refine wpAnyH_take (i := 14) (v := .int .i64 (Int.tmod i 8)) rfl (by kernel_rfl) (by kernel_rfl) (by kernel_rfl) (fun _ _ _ h => h) (Or.inl ⟨by rfl, ?hy14⟩) hHeld ?_
  case hy14 => intro w' _; go_simp
  simp only [List.getElem_toArray, List.getElem_cons_succ, List.getElem_cons_zero, Act.put, List.setIfInBounds_toArray, List.set_cons_zero, List.set_cons_succ]
  refine wpAnyH_ready (rs := [9]) (by kernel_rfl) (by simp) ?_
  refine AllReadyH.cons rfl (fun K hK => ?_) AllReadyH.nil
  simp only [List.getElem_toArray, List.getElem_cons_succ, List.getElem_cons_zero]
  rw [if_pos (by rfl)]
  go_simp
  refine (start_any _).mono ?_
  rintro e w6 ⟨rfl, hbb⟩
  refine hK.out _ _ (below_step hHeld hbb) (fun hHeld => ?_)
  clear hK K
  refine wpAnyH_take (i := 12) (v := .int .u32 s2) rfl (by kernel_rfl) (by kernel_rfl) (by kernel_rfl) (fun _ _ _ h => h) (Or.inl ⟨by rfl, ?hy12⟩) hHeld ?_
  case hy12 => intro w' _; go_simp
  simp only [List.getElem_toArray, List.getElem_cons_succ, List.getElem_cons_zero, Act.put, List.setIfInBounds_toArray, List.set_cons_zero, List.set_cons_succ]
  refine wpAnyH_ready (rs := [15]) (by kernel_rfl) (by simp) ?_
  refine AllReadyH.cons rfl (fun K hK => ?_) AllReadyH.nil
  simp only [List.getElem_toArray, List.getElem_cons_succ, List.getElem_cons_zero]
  rw [if_pos (by rfl)]
  go_simp
  refine (AHP2.out _).mono ?_
  rintro e w7 ⟨rfl, hbb⟩
  refine hK.out _ _ (below_step hHeld hbb) (fun hHeld => ?_)
  clear hK K
  refine wpAnyH_ready (rs := [16]) (by kernel_rfl) (by simp) ?_
  refine AllReadyH.cons rfl (fun K hK => ?_) AllReadyH.nil
  simp only [List.getElem_toArray, List.getElem_cons_succ, List.getElem_cons_zero]
  rw [if_pos (by rfl)]
  go_simp
  refine (AHR2.out _).mono ?_
  rintro e w8 ⟨rfl, hbb⟩
  refine hK.out _ _ (below_step hHeld hbb) (fun hHeld => ?_)
  clear hK K
  refine wpAnyH_take (i := 17) (v := .bool true) rfl (by kernel_rfl) (by kernel_rfl) (by kernel_rfl) (fun _ _ _ h => h) (Or.inl ⟨by rfl, ?hy17⟩) hHeld ?_
  case hy17 => intro w' _; go_simp
  simp only [List.getElem_toArray, List.getElem_cons_succ, List.getElem_cons_zero, Act.put, List.setIfInBounds_toArray, List.set_cons_zero, List.set_cons_succ]
  refine wpAnyH_take (i := 18) (v := .bool true) rfl (by kernel_rfl) (by kernel_rfl) (by kernel_rfl) (fun _ _ _ h => h) (Or.inl ⟨by rfl, ?hy18⟩) hHeld ?_
  case hy18 => intro w' _; go_simp
  simp only [List.getElem_toArray, List.getElem_cons_succ, List.getElem_cons_zero, Act.put, List.setIfInBounds_toArray, List.set_cons_zero, List.set_cons_succ]
  refine wpAnyH_take (i := 19) (v := .bool true) rfl (by kernel_rfl) (by kernel_rfl) (by kernel_rfl) (fun _ _ _ h => h) (Or.inl ⟨by rfl, ?hy19⟩) hHeld ?_
  case hy19 => intro w' _; go_simp
  simp only [List.getElem_toArray, List.getElem_cons_succ, List.getElem_cons_zero, Act.put, List.setIfInBounds_toArray, List.set_cons_zero, List.set_cons_succ]
  refine wpAnyH_done (by kernel_rfl) ?_ _
  have HBF := Aside0.mk hHeld
  clear hHeld
  go_wp2
  go_ret
  exact ⟨rfl, HBF.out⟩

theorem row_constants (i : Int) (W : World) (w0 : (Lit.int .i64 i).wf = true) (hG : Glob W) : Calls Tryd.prog 5 #[.int .i64 i] W fun e w' => e = .returned (.bool true) ∧ Below W.heap.size W w' := by
  by_cases h : 0 ≤ i ∧ i < 64
  · exact in_walk i W hG h.1 h.2
  · exact out_walk i W hG h

end Go.Proofs.YtndadfhmdkkokaaDoor.HShaL2
