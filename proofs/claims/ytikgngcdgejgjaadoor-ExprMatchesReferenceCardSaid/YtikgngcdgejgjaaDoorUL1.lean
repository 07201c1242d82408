/- The law ExprMatchesReference. -/
import Derived.Test.YtikgngcdgejgjaaDoorUED
import Derived.Test.YtikgngcdgejgjaaDoorUO
namespace Go.Proofs.YtikgngcdgejgjaaDoor.HExL1
open Go.RowKit Go.Proofs.YtikgngcdgejgjaaDoorW.PrintWords Go.Proofs.YtikgngcdgejgjaaDoor.HLib Go.Proofs.YtikgngcdgejgjaaDoor.HGr Go.Proofs.YtikgngcdgejgjaaDoor.HNameP Go.Proofs.YtikgngcdgejgjaaDoor.HName Go.Proofs.YtikgngcdgejgjaaDoor.HExP Go.Proofs.YtikgngcdgejgjaaDoor.HExR Go.Proofs.YtikgngcdgejgjaaDoor.HExL Go.Proofs.YtikgngcdgejgjaaDoor.HExF Go.Proofs.YtikgngcdgejgjaaDoor.HExT Go.Proofs.YtikgngcdgejgjaaDoor.HExX Go.Proofs.YtikgngcdgejgjaaDoor.HExC Go.Proofs.YtikgngcdgejgjaaDoor.HExN Go.Proofs.YtikgngcdgejgjaaDoor.HExRt Go.Proofs.YtikgngcdgejgjaaDoor.HExK Go.Proofs.YtikgngcdgejgjaaDoor.HExLc Go.Proofs.YtikgngcdgejgjaaDoor.HExOp
open Go.Proofs.YtikgngcdgejgjaaDoor.PExprMatchesReference
set_option linter.unusedVariables false
set_option linter.unusedSimpArgs false
set_option maxRecDepth 100000 in
set_option maxHeartbeats 8000000 in
theorem match_any (x : Ex) (A : Option Addr) (c : Nat) (hs : strE maxLen x) (w : World) (hG : ResG w) (hR : Rd w A c x) : Calls Tryd.prog 3 #[.agg #[.int .i64 x.f0, .string x.f1, .string x.f2, .slice A x.f3.length c]] w fun e w' => e = .returned (.bool true) ∧ Below w.heap.size w w' := by
  obtain ⟨W, hW⟩ : ∃ W, W = w.alloc (.cells #[.int .i64 x.f0, .string x.f1, .string x.f2, .slice A x.f3.length c] 24) := ⟨_, rfl⟩
  have hb : Below w.heap.size w W := by rw [hW]; exact below_alloc (B0 w) _
  have hk : W.heap[w.heap.size]? = some (.cells #[.int .i64 x.f0, .string x.f1, .string x.f2, .slice A x.f3.length c] 24 (0, 0)) := by rw [hW]; exact blk_new w _
  obtain ⟨gb, hgb⟩ : ∃ g, g = w.heap.size := ⟨_, rfl⟩
  rw [← hgb] at hk
  have HBW := Aside0.mk hb
  have hg : ∀ W', Below W.heap.size W W' → ResG W' := fun W' h => hG.below (below_then hb hb.size h) hG.1
  have hr : ∀ W', Below W.heap.size W W' → Rd W' A c x := fun W' h => hR.below (below_then hb hb.size h)
  have H0 := Aside0.mk (B0 W)
  have HA := Aside0.mk (show ∀ W1, Below W.heap.size W W1 → Calls Tryd.prog 8 #[] W1 fun e W2 => e = .returned (.bool true) ∧ Below W.heap.size W W2 ∧ W2.cell? ⟨gb, 0, none⟩ = some (.int .i64 x.f0) ∧ W2.cell? ⟨gb, 1, none⟩ = some (.string x.f1) ∧ W2.cell? ⟨gb, 2, none⟩ = some (.string x.f2) ∧ W2.cell? ⟨gb, 3, none⟩ = some (.slice A x.f3.length c) from fun W1 h =>
    (awake_any W1 (hg W1 h)).mono fun e W2 ⟨h1, h2⟩ => ⟨h1, below_then h h.size h2, cells4 (blk_below hk (below_then h h.size h2))⟩)
  have HF := Aside0.mk (show ∀ W1, Below W.heap.size W W1 → Calls Tryd.prog 9 #[.agg #[.int .i64 x.f0, .string x.f1, .string x.f2, .slice A x.f3.length c]] W1 fun e W2 => e = .returned (.bool (fewE x)) ∧ Below W.heap.size W W2 ∧ W2.cell? ⟨gb, 0, none⟩ = some (.int .i64 x.f0) ∧ W2.cell? ⟨gb, 1, none⟩ = some (.string x.f1) ∧ W2.cell? ⟨gb, 2, none⟩ = some (.string x.f2) ∧ W2.cell? ⟨gb, 3, none⟩ = some (.slice A x.f3.length c) from fun W1 h =>
    (few_any x A c W1 hs (hr W1 h)).mono fun e W2 ⟨h1, h2⟩ => ⟨h1, below_then h h.size h2, cells4 (blk_below hk (below_then h h.size h2))⟩)
  obtain ⟨q0, q1, q2, q3⟩ := cells4 hk
  by_cases cf : fewE x = true
  · have hS := small_of_few hs cf
    have hx := small_nod hS
    rw [cf] at HF
    have HRR := Aside0.mk (show ∀ W1, Below W.heap.size W W1 → Calls Tryd.prog 10 #[.agg #[.int .i64 x.f0, .string x.f1, .string x.f2, .slice A x.f3.length c]] W1 fun e W2 => e = .returned (.bool (rightE x)) ∧ Below W1.heap.size W1 W2 from fun W1 h => rright_any x A c W1 hx (hr W1 h))
    have HRD := Aside0.mk (show ∀ W1, Below W.heap.size W W1 → Calls Tryd.prog 14 #[.agg #[.int .i64 x.f0, .string x.f1, .string x.f2, .slice A x.f3.length c]] W1 fun e W2 => e = .returned (.int .i64 (depE x)) ∧ Below W1.heap.size W1 W2 from fun W1 h => rdepth_any x A c W1 hx (hr W1 h))
    have HER := Aside0.mk (show ∀ W1, Below W.heap.size W W1 → Calls Tryd.prog 12 #[.agg #[.int .i64 x.f0, .string x.f1, .string x.f2, .slice A x.f3.length c]] W1 fun e W2 => e = .returned (.bool (rightE x)) ∧ Below W1.heap.size W1 W2 from fun W1 h => right_any x A c W1 hx (hg W1 h) (hr W1 h))
    have HED := Aside0.mk (show ∀ W1, Below W.heap.size W W1 → Calls Tryd.prog 13 #[.agg #[.int .i64 x.f0, .string x.f1, .string x.f2, .slice A x.f3.length c]] W1 fun e W2 => e = .returned (.int .i64 (depE x)) ∧ Below W1.heap.size W1 W2 from fun W1 h => depth_any x A c W1 hx (hr W1 h))
    have HET := Aside0.mk (show ∀ W1, Below W.heap.size W W1 → Calls Tryd.prog 15 #[.agg #[.int .i64 x.f0, .string x.f1, .string x.f2, .slice A x.f3.length c]] W1 fun e W2 => e = .returned (.string (bs (textE x))) ∧ Below W1.heap.size W1 W2 from fun W1 h => Text_any x A c W1 hx (hg W1 h) (hr W1 h))
    have HRT := Aside0.mk (show rightE x = true → ∀ W1, Below W.heap.size W W1 → Calls Tryd.prog 11 #[.agg #[.int .i64 x.f0, .string x.f1, .string x.f2, .slice A x.f3.length c]] W1 fun e W2 => e = .returned (.string (bs (textE x))) ∧ Below W1.heap.size W1 W2 from fun h0 W1 h => by
      rw [show textE x = txE x from if_pos h0]
      exact rtext_any 1000000 x hx (Nat.le_refl _) (right_frm h0) A c W1 (hr W1 h))
    have HNT := Aside0.mk (show rightE x = false → bs (textE x) = ⟨#[]⟩ from fun h0 => by unfold textE; rw [h0]; rfl)
    have HLD := Aside0.mk (fun W' h => box_read hk W' h)
    have HK := Aside0.mk hk
    obtain ⟨b, hbb⟩ : ∃ b, b = rightE x := ⟨_, rfl⟩
    obtain ⟨D, hD⟩ : ∃ b, b = depE x := ⟨_, rfl⟩
    obtain ⟨T, hT⟩ : ∃ b, b = bs (textE x) := ⟨_, rfl⟩
    rw [← hbb] at HRR
    rw [← hbb] at HER
    rw [← hbb, ← hT] at HRT
    rw [← hbb, ← hT] at HNT
    rw [← hD] at HRD
    rw [← hD] at HED
    rw [← hT] at HET
    obtain ⟨n, hn⟩ : ∃ n, n = x.f3.length := ⟨_, rfl⟩
    rw [← hn] at HRR HRD hW q3 HK
    rw [← hn] at HER
    rw [← hn] at HED
    rw [← hn] at HET
    rw [← hn] at HRT
    rw [← hn] at HA
    rw [← hn] at HF
    rw [← hn] at HLD
    rw [← hn]
    have beqb : ∀ q : Bool, (q == q) = true := fun q => by cases q <;> rfl
    have beqD : (D == D) = true := by simp
    have beqT : (T.toList == T.toList) = true := beq_self_eq_true _
    clear hbb hD hT hn hr hg hb hk hS hx cf hs hG hR
    cases b with
    | true =>
      go_enter Tryd.func3, Tryd.ntmps3
      go_upto_region 1 with fail
      rw [← hW, ← hgb]
      clear hW hgb
      go_upto_region 6 with (first | (go_at_call 9; refine (HF.out _ H1.out).mono ?_; rintro e W2 ⟨rfl, h2, z0, z1, z2, z3⟩; have H2 := Aside0.mk h2; clear h2) | (go_at_call 8; refine (HA.out _ H0.out).mono ?_; rintro e W1 ⟨rfl, h1, z0, z1, z2, z3⟩; have H1 := Aside0.mk h1; clear h1) | (go_at_call 10; refine (HRR.out _ H2.out).mono ?_; rintro e W3 ⟨rfl, h3⟩; have H3 := Aside0.mk (below_then H2.out H2.out.size h3); obtain ⟨z0, z1, z2, z3⟩ := cells4 (blk_below HK.out H3.out); clear h3) | (go_at_call 11; refine (HRT.out (by first | rfl | trivial) _ H3.out).mono ?_; rintro e W4 ⟨rfl, h4⟩; have H4 := Aside0.mk (below_then H3.out H3.out.size h4); clear h4))
      have HH := H4
      clear HA HF q0 q1 q2 q3 z0 z1 z2 z3
      refine wp_region_held_drew (S := fun w' => Below W.heap.size W w') (by kernel_rfl) (pw_below_drewN HH.out 1) (fun hHeld => ?_)
      refine wpAnyH_take (i := 0) (v := .agg #[.int .i64 x.f0, .string x.f1, .string x.f2, .slice A n c]) rfl (by kernel_rfl) (by kernel_rfl) (by kernel_rfl) (fun _ _ _ h => h) (yieldsIf_load (by rfl) 24 (.tmp 1) rfl (.agg #[.int .i64 x.f0, .string x.f1, .string x.f2, .slice A n c]) (fun w' h => HLD.out w' h)) hHeld ?_
      simp only [List.getElem_toArray, List.getElem_cons_succ, List.getElem_cons_zero, Act.put, List.setIfInBounds_toArray, List.set_cons_zero, List.set_cons_succ]
      refine wpAnyH_take (i := 2) (v := .agg #[.int .i64 x.f0, .string x.f1, .string x.f2, .slice A n c]) rfl (by kernel_rfl) (by kernel_rfl) (by kernel_rfl) (fun _ _ _ h => h) (yieldsIf_load (by rfl) 24 (.tmp 1) rfl (.agg #[.int .i64 x.f0, .string x.f1, .string x.f2, .slice A n c]) (fun w' h => HLD.out w' h)) hHeld ?_
      simp only [List.getElem_toArray, List.getElem_cons_succ, List.getElem_cons_zero, Act.put, List.setIfInBounds_toArray, List.set_cons_zero, List.set_cons_succ]
      refine wpAnyH_ready (rs := [1]) (by kernel_rfl) (by simp) ?_
      refine AllReadyH.cons rfl (fun K hK => ?_) AllReadyH.nil
      simp only [List.getElem_toArray, List.getElem_cons_succ, List.getElem_cons_zero]
      rw [if_pos (by rfl)]
      go_simp
      refine (HER.out _ hHeld).mono ?_
      rintro e_ y1 ⟨rfl, hb⟩
      refine hK.out _ _ (below_step hHeld hb) (fun hHeld => ?_)
      clear hK K
      refine wpAnyH_ready (rs := [3]) (by kernel_rfl) (by simp) ?_
      refine AllReadyH.cons rfl (fun K hK => ?_) AllReadyH.nil
      simp only [List.getElem_toArray, List.getElem_cons_succ, List.getElem_cons_zero]
      rw [if_pos (by rfl)]
      go_simp
      refine (HRR.out _ hHeld).mono ?_
      rintro e_ y2 ⟨rfl, hb⟩
      refine hK.out _ _ (below_step hHeld hb) (fun hHeld => ?_)
      clear hK K
      refine wpAnyH_take (i := 4) (v := .bool true) rfl (by kernel_rfl) (by kernel_rfl) (by kernel_rfl) (fun _ _ _ h => h) (Or.inl ⟨by rfl, ?hy4⟩) hHeld ?_
      case hy4 => intro w' hSw; go_simp
      simp only [List.getElem_toArray, List.getElem_cons_succ, List.getElem_cons_zero, Act.put, List.setIfInBounds_toArray, List.set_cons_zero, List.set_cons_succ]
      refine wpAnyH_take (i := 5) (v := .bool true) rfl (by kernel_rfl) (by kernel_rfl) (by kernel_rfl) (fun _ _ _ h => h) (Or.inl ⟨by rfl, ?hy5⟩) hHeld ?_
      case hy5 => intro w' hSw; go_simp
      simp only [List.getElem_toArray, List.getElem_cons_succ, List.getElem_cons_zero, Act.put, List.setIfInBounds_toArray, List.set_cons_zero, List.set_cons_succ]
      refine wpAnyH_take (i := 6) (v := .agg #[.int .i64 x.f0, .string x.f1, .string x.f2, .slice A n c]) rfl (by kernel_rfl) (by kernel_rfl) (by kernel_rfl) (fun _ _ _ h => h) (yieldsIf_load (by rfl) 24 (.tmp 1) rfl (.agg #[.int .i64 x.f0, .string x.f1, .string x.f2, .slice A n c]) (fun w' h => HLD.out w' h)) hHeld ?_
      simp only [List.getElem_toArray, List.getElem_cons_succ, List.getElem_cons_zero, Act.put, List.setIfInBounds_toArray, List.set_cons_zero, List.set_cons_succ]
      refine wpAnyH_take (i := 8) (v := .agg #[.int .i64 x.f0, .string x.f1, .string x.f2, .slice A n c]) rfl (by kernel_rfl) (by kernel_rfl) (by kernel_rfl) (fun _ _ _ h => h) (yieldsIf_load (by rfl) 24 (.tmp 1) rfl (.agg #[.int .i64 x.f0, .string x.f1, .string x.f2, .slice A n c]) (fun w' h => HLD.out w' h)) hHeld ?_
      simp only [List.getElem_toArray, List.getElem_cons_succ, List.getElem_cons_zero, Act.put, List.setIfInBounds_toArray, List.set_cons_zero, List.set_cons_succ]
      refine wpAnyH_ready (rs := [7]) (by kernel_rfl) (by simp) ?_
      refine AllReadyH.cons rfl (fun K hK => ?_) AllReadyH.nil
      simp only [List.getElem_toArray, List.getElem_cons_succ, List.getElem_cons_zero]
      rw [if_pos (by rfl)]
      go_simp
      refine (HED.out _ hHeld).mono ?_
      rintro e_ y3 ⟨rfl, hb⟩
      refine hK.out _ _ (below_step hHeld hb) (fun hHeld => ?_)
      clear hK K
      refine wpAnyH_ready (rs := [9]) (by kernel_rfl) (by simp) ?_
      refine AllReadyH.cons rfl (fun K hK => ?_) AllReadyH.nil
      simp only [List.getElem_toArray, List.getElem_cons_succ, List.getElem_cons_zero]
      rw [if_pos (by rfl)]
      go_simp
      refine (HRD.out _ hHeld).mono ?_
      rintro e_ y4 ⟨rfl, hb⟩
      refine hK.out _ _ (below_step hHeld hb) (fun hHeld => ?_)
      clear hK K
      refine wpAnyH_take (i := 10) (v := .bool true) rfl (by kernel_rfl) (by kernel_rfl) (by kernel_rfl) (fun _ _ _ h => h) (Or.inl ⟨by rfl, ?hy10⟩) hHeld ?_
      case hy10 => intro w' hSw; go_simp
      simp only [List.getElem_toArray, List.getElem_cons_succ, List.getElem_cons_zero, Act.put, List.setIfInBounds_toArray, List.set_cons_zero, List.set_cons_succ]
      refine wpAnyH_take (i := 11) (v := .bool true) rfl (by kernel_rfl) (by kernel_rfl) (by kernel_rfl) (fun _ _ _ h => h) (Or.inl ⟨by rfl, ?hy11⟩) hHeld ?_
      case hy11 => intro w' hSw; go_simp
      simp only [List.getElem_toArray, List.getElem_cons_succ, List.getElem_cons_zero, Act.put, List.setIfInBounds_toArray, List.set_cons_zero, List.set_cons_succ]
      refine wpAnyH_take (i := 12) (v := .bool true) rfl (by kernel_rfl) (by kernel_rfl) (by kernel_rfl) (fun _ _ _ h => h) (Or.inl ⟨by rfl, ?hy12⟩) hHeld ?_
      case hy12 => intro w' hSw; go_simp
      simp only [List.getElem_toArray, List.getElem_cons_succ, List.getElem_cons_zero, Act.put, List.setIfInBounds_toArray, List.set_cons_zero, List.set_cons_succ]
      refine wpAnyH_take (i := 13) (v := .agg #[.int .i64 x.f0, .string x.f1, .string x.f2, .slice A n c]) rfl (by kernel_rfl) (by kernel_rfl) (by kernel_rfl) (fun _ _ _ h => h) (yieldsIf_load (by rfl) 24 (.tmp 1) rfl (.agg #[.int .i64 x.f0, .string x.f1, .string x.f2, .slice A n c]) (fun w' h => HLD.out w' h)) hHeld ?_
      simp only [List.getElem_toArray, List.getElem_cons_succ, List.getElem_cons_zero, Act.put, List.setIfInBounds_toArray, List.set_cons_zero, List.set_cons_succ]
      refine wpAnyH_take (i := 15) (v := .string T) rfl (by kernel_rfl) (by kernel_rfl) (by kernel_rfl) (fun _ _ _ h => h) (Or.inl ⟨by rfl, ?hy15⟩) hHeld ?_
      case hy15 => intro w' hSw; go_simp
      simp only [List.getElem_toArray, List.getElem_cons_succ, List.getElem_cons_zero, Act.put, List.setIfInBounds_toArray, List.set_cons_zero, List.set_cons_succ]
      refine wpAnyH_ready (rs := [14]) (by kernel_rfl) (by simp) ?_
      refine AllReadyH.cons rfl (fun K hK => ?_) AllReadyH.nil
      simp only [List.getElem_toArray, List.getElem_cons_succ, List.getElem_cons_zero]
      rw [if_pos (by rfl)]
      go_simp
      refine (HET.out _ hHeld).mono ?_
      rintro e_ y5 ⟨rfl, hb⟩
      refine hK.out _ _ (below_step hHeld hb) (fun hHeld => ?_)
      clear hK K
      refine wpAnyH_take (i := 16) (v := .bool true) rfl (by kernel_rfl) (by kernel_rfl) (by kernel_rfl) (fun _ _ _ h => h) (Or.inl ⟨by rfl, ?hy16⟩) hHeld ?_
      case hy16 => intro w' hSw; go_simp
      simp only [List.getElem_toArray, List.getElem_cons_succ, List.getElem_cons_zero, Act.put, List.setIfInBounds_toArray, List.set_cons_zero, List.set_cons_succ]
      refine wpAnyH_take (i := 17) (v := .bool true) rfl (by kernel_rfl) (by kernel_rfl) (by kernel_rfl) (fun _ _ _ h => h) (Or.inl ⟨by rfl, ?hy17⟩) hHeld ?_
      case hy17 => intro w' hSw; go_simp
      simp only [List.getElem_toArray, List.getElem_cons_succ, List.getElem_cons_zero, Act.put, List.setIfInBounds_toArray, List.set_cons_zero, List.set_cons_succ]
      refine wpAnyH_take (i := 18) (v := .bool true) rfl (by kernel_rfl) (by kernel_rfl) (by kernel_rfl) (fun _ _ _ h => h) (Or.inl ⟨by rfl, ?hy18⟩) hHeld ?_
      case hy18 => intro w' hSw; go_simp
      simp only [List.getElem_toArray, List.getElem_cons_succ, List.getElem_cons_zero, Act.put, List.setIfInBounds_toArray, List.set_cons_zero, List.set_cons_succ]
      refine wpAnyH_done (by kernel_rfl) ?_ _
      go_wp2
      go_ret
      exact ⟨rfl, below_step HBW.out hHeld⟩
    | false =>
      go_enter Tryd.func3, Tryd.ntmps3
      go_upto_region 1 with fail
      rw [← hW, ← hgb]
      clear hW hgb
      have HTE := Aside0.mk (HNT.out rfl)
      go_upto_region 6 with (first | (go_at_call 9; refine (HF.out _ H1.out).mono ?_; rintro e W2 ⟨rfl, h2, z0, z1, z2, z3⟩; have H2 := Aside0.mk h2; clear h2) | (go_at_call 8; refine (HA.out _ H0.out).mono ?_; rintro e W1 ⟨rfl, h1, z0, z1, z2, z3⟩; have H1 := Aside0.mk h1; clear h1) | (go_at_call 10; refine (HRR.out _ H2.out).mono ?_; rintro e W3 ⟨rfl, h3⟩; have H3 := Aside0.mk (below_then H2.out H2.out.size h3); obtain ⟨z0, z1, z2, z3⟩ := cells4 (blk_below HK.out H3.out); clear h3))
      rw [← HTE.out]
      have HH := H3
      clear HA HF q0 q1 q2 q3 z0 z1 z2 z3
      refine wp_region_held_drew (S := fun w' => Below W.heap.size W w') (by kernel_rfl) (pw_below_drewN HH.out 1) (fun hHeld => ?_)
      refine wpAnyH_take (i := 0) (v := .agg #[.int .i64 x.f0, .string x.f1, .string x.f2, .slice A n c]) rfl (by kernel_rfl) (by kernel_rfl) (by kernel_rfl) (fun _ _ _ h => h) (yieldsIf_load (by rfl) 24 (.tmp 1) rfl (.agg #[.int .i64 x.f0, .string x.f1, .string x.f2, .slice A n c]) (fun w' h => HLD.out w' h)) hHeld ?_
      simp only [List.getElem_toArray, List.getElem_cons_succ, List.getElem_cons_zero, Act.put, List.setIfInBounds_toArray, List.set_cons_zero, List.set_cons_succ]
      refine wpAnyH_take (i := 2) (v := .agg #[.int .i64 x.f0, .string x.f1, .string x.f2, .slice A n c]) rfl (by kernel_rfl) (by kernel_rfl) (by kernel_rfl) (fun _ _ _ h => h) (yieldsIf_load (by rfl) 24 (.tmp 1) rfl (.agg #[.int .i64 x.f0, .string x.f1, .string x.f2, .slice A n c]) (fun w' h => HLD.out w' h)) hHeld ?_
      simp only [List.getElem_toArray, List.getElem_cons_succ, List.getElem_cons_zero, Act.put, List.setIfInBounds_toArray, List.set_cons_zero, List.set_cons_succ]
      refine wpAnyH_ready (rs := [1]) (by kernel_rfl) (by simp) ?_
      refine AllReadyH.cons rfl (fun K hK => ?_) AllReadyH.nil
      simp only [List.getElem_toArray, List.getElem_cons_succ, List.getElem_cons_zero]
      rw [if_pos (by rfl)]
      go_simp
      refine (HER.out _ hHeld).mono ?_
      rintro e_ y1 ⟨rfl, hb⟩
      refine hK.out _ _ (below_step hHeld hb) (fun hHeld => ?_)
      clear hK K
      refine wpAnyH_ready (rs := [3]) (by kernel_rfl) (by simp) ?_
      refine AllReadyH.cons rfl (fun K hK => ?_) AllReadyH.nil
      simp only [List.getElem_toArray, List.getElem_cons_succ, List.getElem_cons_zero]
      rw [if_pos (by rfl)]
      go_simp
      refine (HRR.out _ hHeld).mono ?_
      rintro e_ y2 ⟨rfl, hb⟩
      refine hK.out _ _ (below_step hHeld hb) (fun hHeld => ?_)
      clear hK K
      refine wpAnyH_take (i := 4) (v := .bool true) rfl (by kernel_rfl) (by kernel_rfl) (by kernel_rfl) (fun _ _ _ h => h) (Or.inl ⟨by rfl, ?hy4⟩) hHeld ?_
      case hy4 => intro w' hSw; go_simp
      simp only [List.getElem_toArray, List.getElem_cons_succ, List.getElem_cons_zero, Act.put, List.setIfInBounds_toArray, List.set_cons_zero, List.set_cons_succ]
      refine wpAnyH_take (i := 5) (v := .bool true) rfl (by kernel_rfl) (by kernel_rfl) (by kernel_rfl) (fun _ _ _ h => h) (Or.inl ⟨by rfl, ?hy5⟩) hHeld ?_
      case hy5 => intro w' hSw; go_simp
      simp only [List.getElem_toArray, List.getElem_cons_succ, List.getElem_cons_zero, Act.put, List.setIfInBounds_toArray, List.set_cons_zero, List.set_cons_succ]
      refine wpAnyH_take (i := 6) (v := .agg #[.int .i64 x.f0, .string x.f1, .string x.f2, .slice A n c]) rfl (by kernel_rfl) (by kernel_rfl) (by kernel_rfl) (fun _ _ _ h => h) (yieldsIf_load (by rfl) 24 (.tmp 1) rfl (.agg #[.int .i64 x.f0, .string x.f1, .string x.f2, .slice A n c]) (fun w' h => HLD.out w' h)) hHeld ?_
      simp only [List.getElem_toArray, List.getElem_cons_succ, List.getElem_cons_zero, Act.put, List.setIfInBounds_toArray, List.set_cons_zero, List.set_cons_succ]
      refine wpAnyH_take (i := 8) (v := .agg #[.int .i64 x.f0, .string x.f1, .string x.f2, .slice A n c]) rfl (by kernel_rfl) (by kernel_rfl) (by kernel_rfl) (fun _ _ _ h => h) (yieldsIf_load (by rfl) 24 (.tmp 1) rfl (.agg #[.int .i64 x.f0, .string x.f1, .string x.f2, .slice A n c]) (fun w' h => HLD.out w' h)) hHeld ?_
      simp only [List.getElem_toArray, List.getElem_cons_succ, List.getElem_cons_zero, Act.put, List.setIfInBounds_toArray, List.set_cons_zero, List.set_cons_succ]
      refine wpAnyH_ready (rs := [7]) (by kernel_rfl) (by simp) ?_
      refine AllReadyH.cons rfl (fun K hK => ?_) AllReadyH.nil
      simp only [List.getElem_toArray, List.getElem_cons_succ, List.getElem_cons_zero]
      rw [if_pos (by rfl)]
      go_simp
      refine (HED.out _ hHeld).mono ?_
      rintro e_ y3 ⟨rfl, hb⟩
      refine hK.out _ _ (below_step hHeld hb) (fun hHeld => ?_)
      clear hK K
      refine wpAnyH_ready (rs := [9]) (by kernel_rfl) (by simp) ?_
      refine AllReadyH.cons rfl (fun K hK => ?_) AllReadyH.nil
      simp only [List.getElem_toArray, List.getElem_cons_succ, List.getElem_cons_zero]
      rw [if_pos (by rfl)]
      go_simp
      refine (HRD.out _ hHeld).mono ?_
      rintro e_ y4 ⟨rfl, hb⟩
      refine hK.out _ _ (below_step hHeld hb) (fun hHeld => ?_)
      clear hK K
      refine wpAnyH_take (i := 10) (v := .bool true) rfl (by kernel_rfl) (by kernel_rfl) (by kernel_rfl) (fun _ _ _ h => h) (Or.inl ⟨by rfl, ?hy10⟩) hHeld ?_
      case hy10 => intro w' hSw; go_simp
      simp only [List.getElem_toArray, List.getElem_cons_succ, List.getElem_cons_zero, Act.put, List.setIfInBounds_toArray, List.set_cons_zero, List.set_cons_succ]
      refine wpAnyH_take (i := 11) (v := .bool true) rfl (by kernel_rfl) (by kernel_rfl) (by kernel_rfl) (fun _ _ _ h => h) (Or.inl ⟨by rfl, ?hy11⟩) hHeld ?_
      case hy11 => intro w' hSw; go_simp
      simp only [List.getElem_toArray, List.getElem_cons_succ, List.getElem_cons_zero, Act.put, List.setIfInBounds_toArray, List.set_cons_zero, List.set_cons_succ]
      refine wpAnyH_take (i := 12) (v := .bool true) rfl (by kernel_rfl) (by kernel_rfl) (by kernel_rfl) (fun _ _ _ h => h) (Or.inl ⟨by rfl, ?hy12⟩) hHeld ?_
      case hy12 => intro w' hSw; go_simp
      simp only [List.getElem_toArray, List.getElem_cons_succ, List.getElem_cons_zero, Act.put, List.setIfInBounds_toArray, List.set_cons_zero, List.set_cons_succ]
      refine wpAnyH_take (i := 13) (v := .agg #[.int .i64 x.f0, .string x.f1, .string x.f2, .slice A n c]) rfl (by kernel_rfl) (by kernel_rfl) (by kernel_rfl) (fun _ _ _ h => h) (yieldsIf_load (by rfl) 24 (.tmp 1) rfl (.agg #[.int .i64 x.f0, .string x.f1, .string x.f2, .slice A n c]) (fun w' h => HLD.out w' h)) hHeld ?_
      simp only [List.getElem_toArray, List.getElem_cons_succ, List.getElem_cons_zero, Act.put, List.setIfInBounds_toArray, List.set_cons_zero, List.set_cons_succ]
      refine wpAnyH_take (i := 15) (v := .string T) rfl (by kernel_rfl) (by kernel_rfl) (by kernel_rfl) (fun _ _ _ h => h) (Or.inl ⟨by rfl, ?hy15⟩) hHeld ?_
      case hy15 => intro w' hSw; go_simp
      simp only [List.getElem_toArray, List.getElem_cons_succ, List.getElem_cons_zero, Act.put, List.setIfInBounds_toArray, List.set_cons_zero, List.set_cons_succ]
      refine wpAnyH_ready (rs := [14]) (by kernel_rfl) (by simp) ?_
      refine AllReadyH.cons rfl (fun K hK => ?_) AllReadyH.nil
      simp only [List.getElem_toArray, List.getElem_cons_succ, List.getElem_cons_zero]
      rw [if_pos (by rfl)]
      go_simp
      refine (HET.out _ hHeld).mono ?_
      rintro e_ y5 ⟨rfl, hb⟩
      refine hK.out _ _ (below_step hHeld hb) (fun hHeld => ?_)
      clear hK K
      refine wpAnyH_take (i := 16) (v := .bool true) rfl (by kernel_rfl) (by kernel_rfl) (by kernel_rfl) (fun _ _ _ h => h) (Or.inl ⟨by rfl, ?hy16⟩) hHeld ?_
      case hy16 => intro w' hSw; go_simp
      simp only [List.getElem_toArray, List.getElem_cons_succ, List.getElem_cons_zero, Act.put, List.setIfInBounds_toArray, List.set_cons_zero, List.set_cons_succ]
      refine wpAnyH_take (i := 17) (v := .bool true) rfl (by kernel_rfl) (by kernel_rfl) (by kernel_rfl) (fun _ _ _ h => h) (Or.inl ⟨by rfl, ?hy17⟩) hHeld ?_
      case hy17 => intro w' hSw; go_simp
      simp only [List.getElem_toArray, List.getElem_cons_succ, List.getElem_cons_zero, Act.put, List.setIfInBounds_toArray, List.set_cons_zero, List.set_cons_succ]
      refine wpAnyH_take (i := 18) (v := .bool true) rfl (by kernel_rfl) (by kernel_rfl) (by kernel_rfl) (fun _ _ _ h => h) (Or.inl ⟨by rfl, ?hy18⟩) hHeld ?_
      case hy18 => intro w' hSw; go_simp
      simp only [List.getElem_toArray, List.getElem_cons_succ, List.getElem_cons_zero, Act.put, List.setIfInBounds_toArray, List.set_cons_zero, List.set_cons_succ]
      refine wpAnyH_done (by kernel_rfl) ?_ _
      go_wp2
      go_ret
      exact ⟨rfl, below_step HBW.out hHeld⟩
  · have cf2 : fewE x = false := by simpa using cf
    rw [cf2] at HF
    obtain ⟨n, hn⟩ : ∃ n, n = x.f3.length := ⟨_, rfl⟩
    rw [← hn] at hW q3
    rw [← hn] at HA
    rw [← hn] at HF
    rw [← hn]
    clear hn cf cf2 hr hg hb hk hs hG hR
    go_enter Tryd.func3, Tryd.ntmps3
    go_upto_region 1 with fail
    rw [← hW, ← hgb]
    clear hW hgb
    go_wp2_with (first | (go_at_call 9; refine (HF.out _ H1.out).mono ?_; rintro e W2 ⟨rfl, h2, z0, z1, z2, z3⟩; have H2 := Aside0.mk h2; clear h2) | (go_at_call 8; refine (HA.out _ H2.out).mono ?_; rintro e W3 ⟨rfl, h3, z0, z1, z2, z3⟩; have H3 := Aside0.mk h3; clear h3) | (go_at_call 8; refine (HA.out _ H0.out).mono ?_; rintro e W1 ⟨rfl, h1, z0, z1, z2, z3⟩; have H1 := Aside0.mk h1; clear h1))
    go_ret
    exact ⟨rfl, below_then HBW.out HBW.out.size H3.out⟩
theorem row_match (v0 : Value) (a0 : Ex) (W : World) {base : Nat} (hv0 : Value.okWide Tryd.prog W .any base 24 v0) (k0 : kE.K W a0 v0.cells.toList) (ok0 : strE maxLen a0) (hG : ResG W) :
    Calls Tryd.prog 3 #[v0] W fun e w' => e = .returned (.bool true) ∧ Below W.heap.size W w' := by
  obtain ⟨A, c, rfl, hR⟩ := expr_of hv0 k0
  exact match_any a0 A c ok0 W hG hR
end Go.Proofs.YtikgngcdgejgjaaDoor.HExL1
