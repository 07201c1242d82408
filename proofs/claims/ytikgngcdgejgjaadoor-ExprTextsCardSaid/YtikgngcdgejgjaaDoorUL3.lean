/- The law ExprTexts. -/
import Derived.Test.YtikgngcdgejgjaaDoorUED
import Derived.Test.YtikgngcdgejgjaaDoorUO
import Derived.Test.YtikgngcdgejgjaaDoorUOO
namespace Go.Proofs.YtikgngcdgejgjaaDoor.HExL3
open Go.RowKit Go.Proofs.YtikgngcdgejgjaaDoorW.PrintWords Go.Proofs.YtikgngcdgejgjaaDoor.HLib Go.Proofs.YtikgngcdgejgjaaDoor.HGr Go.Proofs.YtikgngcdgejgjaaDoor.HNameP Go.Proofs.YtikgngcdgejgjaaDoor.HName Go.Proofs.YtikgngcdgejgjaaDoor.HExP Go.Proofs.YtikgngcdgejgjaaDoor.HExR Go.Proofs.YtikgngcdgejgjaaDoor.HExL Go.Proofs.YtikgngcdgejgjaaDoor.HExF Go.Proofs.YtikgngcdgejgjaaDoor.HExT Go.Proofs.YtikgngcdgejgjaaDoor.HExX Go.Proofs.YtikgngcdgejgjaaDoor.HExC Go.Proofs.YtikgngcdgejgjaaDoor.HExN Go.Proofs.YtikgngcdgejgjaaDoor.HExRt Go.Proofs.YtikgngcdgejgjaaDoor.HExK Go.Proofs.YtikgngcdgejgjaaDoor.HExLc Go.Proofs.YtikgngcdgejgjaaDoor.HExOp Go.Proofs.YtikgngcdgejgjaaDoor.HExO
open Go.Proofs.YtikgngcdgejgjaaDoor.PExprMatchesReference
set_option linter.unusedVariables false
set_option linter.unusedSimpArgs false
theorem list_beq (s t : ByteArray) : (s.toList == t.toList) = decide (s = t) := by
  by_cases h : s = t
  · rw [h, decide_eq_true rfl]; exact beq_self_eq_true _
  · rw [decide_eq_false h, beq_eq_false_iff_ne, ByteArray.toList_eq, ByteArray.toList_eq]
    exact fun e => h (ByteArray.ext (Array.toList_inj.mp e))
theorem texts_eq {a b : Ex} (ha : rightE a = true) (hb : rightE b = true) : decide (bs (textE a) = bs (textE b)) = decide (cmpE a b = 0) := by
  rw [decide_eq_decide, zero_iff, show textE a = txE a from if_pos ha, show textE b = txE b from if_pos hb]
  constructor
  · intro h
    have h2 := congrArg (fun s : ByteArray => s.data.toList) h
    simp only [bs_list] at h2
    exact tx_inj (right_frm ha) (right_frm hb) h2
  · rintro rfl; rfl
set_option maxRecDepth 100000 in
set_option maxHeartbeats 16000000 in
theorem texts_any (a : Ex) (b : Ex) (Aa Ab : Option Addr) (ca cb : Nat) (hsa : strE maxLen a) (hsb : strE maxLen b) (w : World) (hG : ResG w) (hRa : Rd w Aa ca a) (hRb : Rd w Ab cb b) :
    Calls Tryd.prog 5 #[.agg #[.int .i64 a.f0, .string a.f1, .string a.f2, .slice Aa a.f3.length ca], .agg #[.int .i64 b.f0, .string b.f1, .string b.f2, .slice Ab b.f3.length cb]] w fun e w' => e = .returned (.bool true) ∧ Below w.heap.size w w' := by
  obtain ⟨W, hW, hgw, hsz, hka, hkb⟩ := two_blocks w (.int .i64 a.f0) (.string a.f1) (.string a.f2) (.slice Aa a.f3.length ca) 24 (.int .i64 b.f0) (.string b.f1) (.string b.f2) (.slice Ab b.f3.length cb)
  have hb := hgw.below
  have HBW := Aside0.mk hb
  obtain ⟨g, hgb⟩ : ∃ g, g = w.heap.size := ⟨_, rfl⟩
  rw [← hgb] at hka hkb
  have hg : ∀ W', Below W.heap.size W W' → ResG W' := fun W' h => hG.below (below_then hb hb.size h) hG.1
  have hra : ∀ W', Below W.heap.size W W' → Rd W' Aa ca a := fun W' h => hRa.below (below_then hb hb.size h)
  have hrb : ∀ W', Below W.heap.size W W' → Rd W' Ab cb b := fun W' h => hRb.below (below_then hb hb.size h)
  have HZ := Aside0.mk (show ∀ W', Below W.heap.size W W' → (W'.cell? ⟨g, 0, none⟩ = some (.int .i64 a.f0) ∧ W'.cell? ⟨g, 1, none⟩ = some (.string a.f1) ∧ W'.cell? ⟨g, 2, none⟩ = some (.string a.f2) ∧ W'.cell? ⟨g, 3, none⟩ = some (.slice Aa a.f3.length ca)) ∧ (W'.cell? ⟨g + 1, 0, none⟩ = some (.int .i64 b.f0) ∧ W'.cell? ⟨g + 1, 1, none⟩ = some (.string b.f1) ∧ W'.cell? ⟨g + 1, 2, none⟩ = some (.string b.f2) ∧ W'.cell? ⟨g + 1, 3, none⟩ = some (.slice Ab b.f3.length cb)) from fun W' h => ⟨cells4 (blk_below hka h), cells4 (blk_below hkb h)⟩)
  have HLDa := Aside0.mk (fun W' h => box_read hka W' h)
  have HLDb := Aside0.mk (fun W' h => box_read hkb W' h)
  have HX := Aside0.mk (B0 W)
  have HA := Aside0.mk (show ∀ W1, Below W.heap.size W W1 → Calls Tryd.prog 8 #[] W1 fun e W2 => e = .returned (.bool true) ∧ Below W.heap.size W W2 from fun W1 h => (awake_any W1 (hg W1 h)).mono fun e W2 ⟨h1, h2⟩ => ⟨h1, below_then h h.size h2⟩)
  have HFa := Aside0.mk (show ∀ W1, Below W.heap.size W W1 → Calls Tryd.prog 9 #[.agg #[.int .i64 a.f0, .string a.f1, .string a.f2, .slice Aa a.f3.length ca]] W1 fun e W2 => e = .returned (.bool (fewE a)) ∧ Below W.heap.size W W2 from fun W1 h => (few_any a Aa ca W1 hsa (hra W1 h)).mono fun e W2 ⟨h1, h2⟩ => ⟨h1, below_then h h.size h2⟩)
  have HFb := Aside0.mk (show ∀ W1, Below W.heap.size W W1 → Calls Tryd.prog 9 #[.agg #[.int .i64 b.f0, .string b.f1, .string b.f2, .slice Ab b.f3.length cb]] W1 fun e W2 => e = .returned (.bool (fewE b)) ∧ Below W.heap.size W W2 from fun W1 h => (few_any b Ab cb W1 hsb (hrb W1 h)).mono fun e W2 ⟨h1, h2⟩ => ⟨h1, below_then h h.size h2⟩)
  obtain ⟨⟨qa0, qa1, qa2, qa3⟩, ⟨qb0, qb1, qb2, qb3⟩⟩ := HZ.out W HX.out
  by_cases cfa : fewE a = true
  · rw [cfa] at HFa
    have hSa := small_of_few hsa cfa
    have HRa := Aside0.mk (show ∀ W1, Below W.heap.size W W1 → Calls Tryd.prog 10 #[.agg #[.int .i64 a.f0, .string a.f1, .string a.f2, .slice Aa a.f3.length ca]] W1 fun e W2 => e = .returned (.bool (rightE a)) ∧ Below W.heap.size W W2 from fun W1 h => (rright_any a Aa ca W1 (small_nod hSa) (hra W1 h)).mono fun e W2 ⟨h1, h2⟩ => ⟨h1, below_then h h.size h2⟩)
    by_cases cfb : fewE b = true
    · rw [cfb] at HFb
      have hSb := small_of_few hsb cfb
      have HRb := Aside0.mk (show ∀ W1, Below W.heap.size W W1 → Calls Tryd.prog 10 #[.agg #[.int .i64 b.f0, .string b.f1, .string b.f2, .slice Ab b.f3.length cb]] W1 fun e W2 => e = .returned (.bool (rightE b)) ∧ Below W.heap.size W W2 from fun W1 h => (rright_any b Ab cb W1 (small_nod hSb) (hrb W1 h)).mono fun e W2 ⟨h1, h2⟩ => ⟨h1, below_then h h.size h2⟩)
      by_cases cra : rightE a = true
      · rw [cra] at HRa
        by_cases crb : rightE b = true
        · rw [crb] at HRb
          have HTa := Aside0.mk (show ∀ W1, Below W.heap.size W W1 → Calls Tryd.prog 15 #[.agg #[.int .i64 a.f0, .string a.f1, .string a.f2, .slice Aa a.f3.length ca]] W1 fun e W2 => e = .returned (.string (bs (textE a))) ∧ Below W1.heap.size W1 W2 from fun W1 h => Text_any a Aa ca W1 (small_nod hSa) (hg W1 h) (hra W1 h))
          have HTb := Aside0.mk (show ∀ W1, Below W.heap.size W W1 → Calls Tryd.prog 15 #[.agg #[.int .i64 b.f0, .string b.f1, .string b.f2, .slice Ab b.f3.length cb]] W1 fun e W2 => e = .returned (.string (bs (textE b))) ∧ Below W1.heap.size W1 W2 from fun W1 h => Text_any b Ab cb W1 (small_nod hSb) (hg W1 h) (hrb W1 h))
          have HC := Aside0.mk (show ∀ W1, Below W.heap.size W W1 → Calls Tryd.prog 17 #[.agg #[.int .i64 a.f0, .string a.f1, .string a.f2, .slice Aa a.f3.length ca], .agg #[.int .i64 b.f0, .string b.f1, .string b.f2, .slice Ab b.f3.length cb]] W1 fun e W2 => e = .returned (.int .i64 (cmpE a b)) ∧ Below W1.heap.size W1 W2 from fun W1 h => rcompare_any a b Aa Ab ca cb W1 (small_nod hSa) (small_str hSa) (small_nod hSb) (small_str hSb) (hra W1 h) (hrb W1 h))
          have hte := texts_eq cra crb
          obtain ⟨v, hv⟩ : ∃ v, v = cmpE a b := ⟨_, rfl⟩
          obtain ⟨S, hS⟩ : ∃ v, v = bs (textE a) := ⟨_, rfl⟩
          obtain ⟨T, hT⟩ : ∃ v, v = bs (textE b) := ⟨_, rfl⟩
          rw [← hv] at HC
          rw [← hS] at HTa
          rw [← hT] at HTb
          rw [← hS, ← hT, ← hv] at hte
          obtain ⟨bq, hbq⟩ : ∃ q, q = decide (v = 0) := ⟨_, rfl⟩
          rw [← hbq] at hte
          have be1 : (S.toList == T.toList) = bq := by rw [list_beq]; exact hte
          have be2 : (v == 0) = bq := by rw [hbq, Bool.eq_iff_iff, beq_iff_eq, decide_eq_true_eq]
          have be3 : (bq == bq) = true := by cases bq <;> rfl
          clear hte hbq hv hS hT
          obtain ⟨na, hna⟩ : ∃ n, n = a.f3.length := ⟨_, rfl⟩
          obtain ⟨nb, hnb⟩ : ∃ n, n = b.f3.length := ⟨_, rfl⟩
          clear hna hnb na nb
          clear hra hRa hsa hSa cfa cra hka hrb hRb hsb hSb cfb crb hkb hg hG hb hgw hsz
          go_enter Tryd.func5, Tryd.ntmps5
          go_upto_region 1 with fail
          rw [← hW, ← hgb]
          clear hW hgb
          go_upto_region 3 with (first | (go_at_call 8; with_reducible refine (HA.out _ HX.out).mono ?_; rintro e W' ⟨rfl, h'⟩; replace HX := Aside0.mk h'; clear h' qa0 qa1 qa2 qa3 qb0 qb1 qb2 qb3; obtain ⟨⟨qa0, qa1, qa2, qa3⟩, ⟨qb0, qb1, qb2, qb3⟩⟩ := HZ.out W' HX.out) | (go_at_call 9; with_reducible refine (HFa.out _ HX.out).mono ?_; rintro e W' ⟨rfl, h'⟩; replace HX := Aside0.mk h'; clear h' qa0 qa1 qa2 qa3 qb0 qb1 qb2 qb3; obtain ⟨⟨qa0, qa1, qa2, qa3⟩, ⟨qb0, qb1, qb2, qb3⟩⟩ := HZ.out W' HX.out) | (go_at_call 9; with_reducible refine (HFb.out _ HX.out).mono ?_; rintro e W' ⟨rfl, h'⟩; replace HX := Aside0.mk h'; clear h' qa0 qa1 qa2 qa3 qb0 qb1 qb2 qb3; obtain ⟨⟨qa0, qa1, qa2, qa3⟩, ⟨qb0, qb1, qb2, qb3⟩⟩ := HZ.out W' HX.out) | (go_at_call 10; with_reducible refine (HRa.out _ HX.out).mono ?_; rintro e W' ⟨rfl, h'⟩; replace HX := Aside0.mk h'; clear h' qa0 qa1 qa2 qa3 qb0 qb1 qb2 qb3; obtain ⟨⟨qa0, qa1, qa2, qa3⟩, ⟨qb0, qb1, qb2, qb3⟩⟩ := HZ.out W' HX.out) | (go_at_call 10; with_reducible refine (HRb.out _ HX.out).mono ?_; rintro e W' ⟨rfl, h'⟩; replace HX := Aside0.mk h'; clear h' qa0 qa1 qa2 qa3 qb0 qb1 qb2 qb3; obtain ⟨⟨qa0, qa1, qa2, qa3⟩, ⟨qb0, qb1, qb2, qb3⟩⟩ := HZ.out W' HX.out))
          have HH := HX
          clear HX HA HFa HFb HRa HRb qa0 qa1 qa2 qa3 qb0 qb1 qb2 qb3
          refine wp_region_held_drew (S := fun w' => Below W.heap.size W w') (by kernel_rfl) (pw_below_drewN HH.out 1) (fun hHeld => ?_)
          refine wpAnyH_take (i := 0) (v := .agg #[.int .i64 a.f0, .string a.f1, .string a.f2, .slice Aa a.f3.length ca]) rfl (by kernel_rfl) (by kernel_rfl) (by kernel_rfl) (fun _ _ _ h => h) (yieldsIf_load (by rfl) 24 (.tmp 2) rfl (.agg #[.int .i64 a.f0, .string a.f1, .string a.f2, .slice Aa a.f3.length ca]) (fun w' h => HLDa.out w' h)) hHeld ?_
          simp only [List.getElem_toArray, List.getElem_cons_succ, List.getElem_cons_zero, Act.put, List.setIfInBounds_toArray, List.set_cons_zero, List.set_cons_succ]
          refine wpAnyH_take (i := 2) (v := .agg #[.int .i64 b.f0, .string b.f1, .string b.f2, .slice Ab b.f3.length cb]) rfl (by kernel_rfl) (by kernel_rfl) (by kernel_rfl) (fun _ _ _ h => h) (yieldsIf_load (by rfl) 24 (.tmp 3) rfl (.agg #[.int .i64 b.f0, .string b.f1, .string b.f2, .slice Ab b.f3.length cb]) (fun w' h => HLDb.out w' h)) hHeld ?_
          simp only [List.getElem_toArray, List.getElem_cons_succ, List.getElem_cons_zero, Act.put, List.setIfInBounds_toArray, List.set_cons_zero, List.set_cons_succ]
          refine wpAnyH_take (i := 5) (v := .agg #[.int .i64 a.f0, .string a.f1, .string a.f2, .slice Aa a.f3.length ca]) rfl (by kernel_rfl) (by kernel_rfl) (by kernel_rfl) (fun _ _ _ h => h) (yieldsIf_load (by rfl) 24 (.tmp 2) rfl (.agg #[.int .i64 a.f0, .string a.f1, .string a.f2, .slice Aa a.f3.length ca]) (fun w' h => HLDa.out w' h)) hHeld ?_
          simp only [List.getElem_toArray, List.getElem_cons_succ, List.getElem_cons_zero, Act.put, List.setIfInBounds_toArray, List.set_cons_zero, List.set_cons_succ]
          refine wpAnyH_take (i := 6) (v := .agg #[.int .i64 b.f0, .string b.f1, .string b.f2, .slice Ab b.f3.length cb]) rfl (by kernel_rfl) (by kernel_rfl) (by kernel_rfl) (fun _ _ _ h => h) (yieldsIf_load (by rfl) 24 (.tmp 3) rfl (.agg #[.int .i64 b.f0, .string b.f1, .string b.f2, .slice Ab b.f3.length cb]) (fun w' h => HLDb.out w' h)) hHeld ?_
          simp only [List.getElem_toArray, List.getElem_cons_succ, List.getElem_cons_zero, Act.put, List.setIfInBounds_toArray, List.set_cons_zero, List.set_cons_succ]
          refine wpAnyH_ready (rs := [1]) (by kernel_rfl) (by simp) ?_
          refine AllReadyH.cons rfl (fun K hK => ?_) AllReadyH.nil
          simp only [List.getElem_toArray, List.getElem_cons_succ, List.getElem_cons_zero]
          rw [if_pos (by rfl)]
          go_simp
          refine (HTa.out _ hHeld).mono ?_
          rintro e_ y1 ⟨rfl, hb⟩
          refine hK.out _ _ (below_step hHeld hb) (fun hHeld => ?_)
          clear hK K
          refine wpAnyH_ready (rs := [3]) (by kernel_rfl) (by simp) ?_
          refine AllReadyH.cons rfl (fun K hK => ?_) AllReadyH.nil
          simp only [List.getElem_toArray, List.getElem_cons_succ, List.getElem_cons_zero]
          rw [if_pos (by rfl)]
          go_simp
          refine (HTb.out _ hHeld).mono ?_
          rintro e_ y2 ⟨rfl, hb⟩
          refine hK.out _ _ (below_step hHeld hb) (fun hHeld => ?_)
          clear hK K
          refine wpAnyH_take (i := 4) (v := .bool bq) rfl (by kernel_rfl) (by kernel_rfl) (by kernel_rfl) (fun _ _ _ h => h) (Or.inl ⟨by rfl, ?hy4⟩) hHeld ?_
          case hy4 => intro w' hSw; go_simp
          simp only [List.getElem_toArray, List.getElem_cons_succ, List.getElem_cons_zero, Act.put, List.setIfInBounds_toArray, List.set_cons_zero, List.set_cons_succ]
          refine wpAnyH_ready (rs := [7]) (by kernel_rfl) (by simp) ?_
          refine AllReadyH.cons rfl (fun K hK => ?_) AllReadyH.nil
          simp only [List.getElem_toArray, List.getElem_cons_succ, List.getElem_cons_zero]
          rw [if_pos (by rfl)]
          go_simp
          refine (HC.out _ hHeld).mono ?_
          rintro e_ y3 ⟨rfl, hb⟩
          refine hK.out _ _ (below_step hHeld hb) (fun hHeld => ?_)
          clear hK K
          refine wpAnyH_take (i := 8) (v := .bool bq) rfl (by kernel_rfl) (by kernel_rfl) (by kernel_rfl) (fun _ _ _ h => h) (Or.inl ⟨by rfl, ?hy8⟩) hHeld ?_
          case hy8 => intro w' hSw; go_simp
          simp only [List.getElem_toArray, List.getElem_cons_succ, List.getElem_cons_zero, Act.put, List.setIfInBounds_toArray, List.set_cons_zero, List.set_cons_succ]
          refine wpAnyH_take (i := 9) (v := .bool true) rfl (by kernel_rfl) (by kernel_rfl) (by kernel_rfl) (fun _ _ _ h => h) (Or.inl ⟨by rfl, ?hy9⟩) hHeld ?_
          case hy9 => intro w' hSw; go_simp
          simp only [List.getElem_toArray, List.getElem_cons_succ, List.getElem_cons_zero, Act.put, List.setIfInBounds_toArray, List.set_cons_zero, List.set_cons_succ]
          refine wpAnyH_take (i := 10) (v := .bool true) rfl (by kernel_rfl) (by kernel_rfl) (by kernel_rfl) (fun _ _ _ h => h) (Or.inl ⟨by rfl, ?hy10⟩) hHeld ?_
          case hy10 => intro w' hSw; go_simp
          simp only [List.getElem_toArray, List.getElem_cons_succ, List.getElem_cons_zero, Act.put, List.setIfInBounds_toArray, List.set_cons_zero, List.set_cons_succ]
          refine wpAnyH_done (by kernel_rfl) ?_ _
          go_wp2
          go_ret
          exact ⟨rfl, below_step HBW.out hHeld⟩
        · have cg : rightE b = false := by simpa using crb
          rw [cg] at HRb
          clear cg crb
          go_enter Tryd.func5, Tryd.ntmps5
          go_upto_region 1 with fail
          rw [← hW, ← hgb]
          clear hW hgb
          go_wp2_with (first | (go_at_call 8; with_reducible refine (HA.out _ HX.out).mono ?_; rintro e W' ⟨rfl, h'⟩; replace HX := Aside0.mk h'; clear h' qa0 qa1 qa2 qa3 qb0 qb1 qb2 qb3; obtain ⟨⟨qa0, qa1, qa2, qa3⟩, ⟨qb0, qb1, qb2, qb3⟩⟩ := HZ.out W' HX.out) | (go_at_call 9; with_reducible refine (HFa.out _ HX.out).mono ?_; rintro e W' ⟨rfl, h'⟩; replace HX := Aside0.mk h'; clear h' qa0 qa1 qa2 qa3 qb0 qb1 qb2 qb3; obtain ⟨⟨qa0, qa1, qa2, qa3⟩, ⟨qb0, qb1, qb2, qb3⟩⟩ := HZ.out W' HX.out) | (go_at_call 9; with_reducible refine (HFb.out _ HX.out).mono ?_; rintro e W' ⟨rfl, h'⟩; replace HX := Aside0.mk h'; clear h' qa0 qa1 qa2 qa3 qb0 qb1 qb2 qb3; obtain ⟨⟨qa0, qa1, qa2, qa3⟩, ⟨qb0, qb1, qb2, qb3⟩⟩ := HZ.out W' HX.out) | (go_at_call 10; with_reducible refine (HRa.out _ HX.out).mono ?_; rintro e W' ⟨rfl, h'⟩; replace HX := Aside0.mk h'; clear h' qa0 qa1 qa2 qa3 qb0 qb1 qb2 qb3; obtain ⟨⟨qa0, qa1, qa2, qa3⟩, ⟨qb0, qb1, qb2, qb3⟩⟩ := HZ.out W' HX.out) | (go_at_call 10; with_reducible refine (HRb.out _ HX.out).mono ?_; rintro e W' ⟨rfl, h'⟩; replace HX := Aside0.mk h'; clear h' qa0 qa1 qa2 qa3 qb0 qb1 qb2 qb3; obtain ⟨⟨qa0, qa1, qa2, qa3⟩, ⟨qb0, qb1, qb2, qb3⟩⟩ := HZ.out W' HX.out))
          go_ret
          exact ⟨rfl, below_then HBW.out HBW.out.size HX.out⟩
      · have cg : rightE a = false := by simpa using cra
        rw [cg] at HRa
        clear cg cra
        go_enter Tryd.func5, Tryd.ntmps5
        go_upto_region 1 with fail
        rw [← hW, ← hgb]
        clear hW hgb
        go_wp2_with (first | (go_at_call 8; with_reducible refine (HA.out _ HX.out).mono ?_; rintro e W' ⟨rfl, h'⟩; replace HX := Aside0.mk h'; clear h' qa0 qa1 qa2 qa3 qb0 qb1 qb2 qb3; obtain ⟨⟨qa0, qa1, qa2, qa3⟩, ⟨qb0, qb1, qb2, qb3⟩⟩ := HZ.out W' HX.out) | (go_at_call 9; with_reducible refine (HFa.out _ HX.out).mono ?_; rintro e W' ⟨rfl, h'⟩; replace HX := Aside0.mk h'; clear h' qa0 qa1 qa2 qa3 qb0 qb1 qb2 qb3; obtain ⟨⟨qa0, qa1, qa2, qa3⟩, ⟨qb0, qb1, qb2, qb3⟩⟩ := HZ.out W' HX.out) | (go_at_call 9; with_reducible refine (HFb.out _ HX.out).mono ?_; rintro e W' ⟨rfl, h'⟩; replace HX := Aside0.mk h'; clear h' qa0 qa1 qa2 qa3 qb0 qb1 qb2 qb3; obtain ⟨⟨qa0, qa1, qa2, qa3⟩, ⟨qb0, qb1, qb2, qb3⟩⟩ := HZ.out W' HX.out) | (go_at_call 10; with_reducible refine (HRa.out _ HX.out).mono ?_; rintro e W' ⟨rfl, h'⟩; replace HX := Aside0.mk h'; clear h' qa0 qa1 qa2 qa3 qb0 qb1 qb2 qb3; obtain ⟨⟨qa0, qa1, qa2, qa3⟩, ⟨qb0, qb1, qb2, qb3⟩⟩ := HZ.out W' HX.out))
        go_ret
        exact ⟨rfl, below_then HBW.out HBW.out.size HX.out⟩
    · have cg : fewE b = false := by simpa using cfb
      rw [cg] at HFb
      clear cg cfb
      go_enter Tryd.func5, Tryd.ntmps5
      go_upto_region 1 with fail
      rw [← hW, ← hgb]
      clear hW hgb
      go_wp2_with (first | (go_at_call 8; with_reducible refine (HA.out _ HX.out).mono ?_; rintro e W' ⟨rfl, h'⟩; replace HX := Aside0.mk h'; clear h' qa0 qa1 qa2 qa3 qb0 qb1 qb2 qb3; obtain ⟨⟨qa0, qa1, qa2, qa3⟩, ⟨qb0, qb1, qb2, qb3⟩⟩ := HZ.out W' HX.out) | (go_at_call 9; with_reducible refine (HFa.out _ HX.out).mono ?_; rintro e W' ⟨rfl, h'⟩; replace HX := Aside0.mk h'; clear h' qa0 qa1 qa2 qa3 qb0 qb1 qb2 qb3; obtain ⟨⟨qa0, qa1, qa2, qa3⟩, ⟨qb0, qb1, qb2, qb3⟩⟩ := HZ.out W' HX.out) | (go_at_call 9; with_reducible refine (HFb.out _ HX.out).mono ?_; rintro e W' ⟨rfl, h'⟩; replace HX := Aside0.mk h'; clear h' qa0 qa1 qa2 qa3 qb0 qb1 qb2 qb3; obtain ⟨⟨qa0, qa1, qa2, qa3⟩, ⟨qb0, qb1, qb2, qb3⟩⟩ := HZ.out W' HX.out))
      go_ret
      exact ⟨rfl, below_then HBW.out HBW.out.size HX.out⟩
  · have cg : fewE a = false := by simpa using cfa
    rw [cg] at HFa
    clear cg cfa
    go_enter Tryd.func5, Tryd.ntmps5
    go_upto_region 1 with fail
    rw [← hW, ← hgb]
    clear hW hgb
    go_wp2_with (first | (go_at_call 8; with_reducible refine (HA.out _ HX.out).mono ?_; rintro e W' ⟨rfl, h'⟩; replace HX := Aside0.mk h'; clear h' qa0 qa1 qa2 qa3 qb0 qb1 qb2 qb3; obtain ⟨⟨qa0, qa1, qa2, qa3⟩, ⟨qb0, qb1, qb2, qb3⟩⟩ := HZ.out W' HX.out) | (go_at_call 9; with_reducible refine (HFa.out _ HX.out).mono ?_; rintro e W' ⟨rfl, h'⟩; replace HX := Aside0.mk h'; clear h' qa0 qa1 qa2 qa3 qb0 qb1 qb2 qb3; obtain ⟨⟨qa0, qa1, qa2, qa3⟩, ⟨qb0, qb1, qb2, qb3⟩⟩ := HZ.out W' HX.out))
    go_ret
    exact ⟨rfl, below_then HBW.out HBW.out.size HX.out⟩
theorem row_texts (v0 : Value) (a0 : Ex) (v1 : Value) (a1 : Ex) (W : World) {base : Nat} (hv0 : Value.okWide Tryd.prog W .any base 24 v0) (k0 : kE.K W a0 v0.cells.toList) (ok0 : strE maxLen a0) (hv1 : Value.okWide Tryd.prog W .any base 24 v1) (k1 : kE.K W a1 v1.cells.toList) (ok1 : strE maxLen a1) (hG : ResG W) :
    Calls Tryd.prog 5 #[v0, v1] W fun e w' => e = .returned (.bool true) ∧ Below W.heap.size W w' := by
  obtain ⟨A0, c0, rfl, hR0⟩ := expr_of hv0 k0
  obtain ⟨A1, c1, rfl, hR1⟩ := expr_of hv1 k1
  exact texts_any a0 a1 A0 A1 c0 c1 ok0 ok1 W hG hR0 hR1
end Go.Proofs.YtikgngcdgejgjaaDoor.HExL3
