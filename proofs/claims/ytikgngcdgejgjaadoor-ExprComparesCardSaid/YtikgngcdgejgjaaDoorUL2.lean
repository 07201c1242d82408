/- The law ExprCompares. -/
import Derived.Test.YtikgngcdgejgjaaDoorUED
import Derived.Test.YtikgngcdgejgjaaDoorUO
import Derived.Test.YtikgngcdgejgjaaDoorUOO
namespace Go.Proofs.YtikgngcdgejgjaaDoor.HExL2
open Go.RowKit Go.Proofs.YtikgngcdgejgjaaDoorW.PrintWords Go.Proofs.YtikgngcdgejgjaaDoor.HLib Go.Proofs.YtikgngcdgejgjaaDoor.HGr Go.Proofs.YtikgngcdgejgjaaDoor.HNameP Go.Proofs.YtikgngcdgejgjaaDoor.HName Go.Proofs.YtikgngcdgejgjaaDoor.HExP Go.Proofs.YtikgngcdgejgjaaDoor.HExR Go.Proofs.YtikgngcdgejgjaaDoor.HExL Go.Proofs.YtikgngcdgejgjaaDoor.HExF Go.Proofs.YtikgngcdgejgjaaDoor.HExT Go.Proofs.YtikgngcdgejgjaaDoor.HExX Go.Proofs.YtikgngcdgejgjaaDoor.HExC Go.Proofs.YtikgngcdgejgjaaDoor.HExN Go.Proofs.YtikgngcdgejgjaaDoor.HExRt Go.Proofs.YtikgngcdgejgjaaDoor.HExK Go.Proofs.YtikgngcdgejgjaaDoor.HExLc Go.Proofs.YtikgngcdgejgjaaDoor.HExOp Go.Proofs.YtikgngcdgejgjaaDoor.HExO
open Go.Proofs.YtikgngcdgejgjaaDoor.PExprMatchesReference
set_option linter.unusedVariables false
set_option linter.unusedSimpArgs false
theorem or_range {a b : Int} (h : a = -1 ∨ a = 0 ∨ a = 1) (k : b = -1 ∨ b = 0 ∨ b = 1) : orI a b = -1 ∨ orI a b = 0 ∨ orI a b = 1 := by
  unfold orI
  split
  · exact k
  · exact h
theorem cmpI_range (a b : Int) : cmpI a b = -1 ∨ cmpI a b = 0 ∨ cmpI a b = 1 := by unfold cmpI; (repeat' split) <;> simp
theorem range_E : (∀ x y : Ex, cmpE x y = -1 ∨ cmpE x y = 0 ∨ cmpE x y = 1) ∧ ∀ xs ys : List Ex, cmpX xs ys = -1 ∨ cmpX xs ys = 0 ∨ cmpX xs ys = 1 := by
  refine ex_ind (p := fun x => ∀ y : Ex, cmpE x y = -1 ∨ cmpE x y = 0 ∨ cmpE x y = 1) (q := fun xs => ∀ ys : List Ex, cmpX xs ys = -1 ∨ cmpX xs ys = 0 ∨ cmpX xs ys = 1) ?_ ?_ ?_
  · intro ys
    cases ys with
    | nil => rw [cmpX]; simp
    | cons y ys => rw [cmpX]; simp
  · intro x xs h1 h2 ys
    cases ys with
    | nil => rw [cmpX]; simp
    | cons y ys => rw [cmpX]; exact or_range (h1 y) (h2 ys)
  · intro x ih y
    rw [cmp_eq]
    exact or_range (cmpI_range _ _) (or_range (HCmp.cmpS_range _ _) (or_range (HCmp.cmpS_range _ _) (ih y.f3)))
theorem three_blocks (w : World) (a b c d : Value) (t : TypeId) (a' b' c' d' : Value) (a2 b2 c2 d2 : Value) :
    ∃ W, W = ((w.alloc (.cells #[a, b, c, d] t)).alloc (.cells #[a', b', c', d'] t)).alloc (.cells #[a2, b2, c2, d2] t) ∧ Gr w W ∧ W.heap.size = w.heap.size + 3 ∧ W.heap[w.heap.size]? = some (.cells #[a, b, c, d] t (0, 0)) ∧ W.heap[w.heap.size + 1]? = some (.cells #[a', b', c', d'] t (0, 0)) ∧ W.heap[w.heap.size + 2]? = some (.cells #[a2, b2, c2, d2] t (0, 0)) := by
  obtain ⟨W1, h1, h2, h3, h4, h5⟩ := two_blocks w a b c d t a' b' c' d'
  refine ⟨_, rfl, ?_, ?_, ?_, ?_, ?_⟩
  · rw [← h1]; exact h2.alloc _
  · rw [← h1, World.size_alloc, h3]
  · rw [← h1]; exact blk_alloc h4 _
  · rw [← h1]; exact blk_alloc h5 _
  · rw [← h1, ← h3]; exact blk_new W1 _
set_option maxRecDepth 100000 in
set_option maxHeartbeats 16000000 in
theorem compares_any (a : Ex) (b : Ex) (c : Ex) (Aa Ab Ac : Option Addr) (ca cb cc : Nat) (hsa : strE maxLen a) (hsb : strE maxLen b) (hsc : strE maxLen c) (w : World) (hG : ResG w) (hRa : Rd w Aa ca a) (hRb : Rd w Ab cb b) (hRc : Rd w Ac cc c) :
    Calls Tryd.prog 4 #[.agg #[.int .i64 a.f0, .string a.f1, .string a.f2, .slice Aa a.f3.length ca], .agg #[.int .i64 b.f0, .string b.f1, .string b.f2, .slice Ab b.f3.length cb], .agg #[.int .i64 c.f0, .string c.f1, .string c.f2, .slice Ac c.f3.length cc]] w fun e w' => e = .returned (.bool true) ∧ Below w.heap.size w w' := by
  obtain ⟨W, hW, hgw, hsz, hka, hkb, hkc⟩ := three_blocks w (.int .i64 a.f0) (.string a.f1) (.string a.f2) (.slice Aa a.f3.length ca) 24 (.int .i64 b.f0) (.string b.f1) (.string b.f2) (.slice Ab b.f3.length cb) (.int .i64 c.f0) (.string c.f1) (.string c.f2) (.slice Ac c.f3.length cc)
  have hb := hgw.below
  have HBW := Aside0.mk hb
  obtain ⟨g, hgb⟩ : ∃ g, g = w.heap.size := ⟨_, rfl⟩
  rw [← hgb] at hka hkb hkc
  have hg : ∀ W', Below W.heap.size W W' → ResG W' := fun W' h => hG.below (below_then hb hb.size h) hG.1
  have hra : ∀ W', Below W.heap.size W W' → Rd W' Aa ca a := fun W' h => hRa.below (below_then hb hb.size h)
  have hrb : ∀ W', Below W.heap.size W W' → Rd W' Ab cb b := fun W' h => hRb.below (below_then hb hb.size h)
  have hrc : ∀ W', Below W.heap.size W W' → Rd W' Ac cc c := fun W' h => hRc.below (below_then hb hb.size h)
  have HZ := Aside0.mk (show ∀ W', Below W.heap.size W W' → (W'.cell? ⟨g, 0, none⟩ = some (.int .i64 a.f0) ∧ W'.cell? ⟨g, 1, none⟩ = some (.string a.f1) ∧ W'.cell? ⟨g, 2, none⟩ = some (.string a.f2) ∧ W'.cell? ⟨g, 3, none⟩ = some (.slice Aa a.f3.length ca)) ∧ (W'.cell? ⟨g + 1, 0, none⟩ = some (.int .i64 b.f0) ∧ W'.cell? ⟨g + 1, 1, none⟩ = some (.string b.f1) ∧ W'.cell? ⟨g + 1, 2, none⟩ = some (.string b.f2) ∧ W'.cell? ⟨g + 1, 3, none⟩ = some (.slice Ab b.f3.length cb)) ∧ (W'.cell? ⟨g + 2, 0, none⟩ = some (.int .i64 c.f0) ∧ W'.cell? ⟨g + 2, 1, none⟩ = some (.string c.f1) ∧ W'.cell? ⟨g + 2, 2, none⟩ = some (.string c.f2) ∧ W'.cell? ⟨g + 2, 3, none⟩ = some (.slice Ac c.f3.length cc)) from fun W' h => ⟨cells4 (blk_below hka h), cells4 (blk_below hkb h), cells4 (blk_below hkc h)⟩)
  have HX := Aside0.mk (B0 W)
  have HA := Aside0.mk (show ∀ W1, Below W.heap.size W W1 → Calls Tryd.prog 8 #[] W1 fun e W2 => e = .returned (.bool true) ∧ Below W.heap.size W W2 from fun W1 h => (awake_any W1 (hg W1 h)).mono fun e W2 ⟨h1, h2⟩ => ⟨h1, below_then h h.size h2⟩)
  have HFa := Aside0.mk (show ∀ W1, Below W.heap.size W W1 → Calls Tryd.prog 9 #[.agg #[.int .i64 a.f0, .string a.f1, .string a.f2, .slice Aa a.f3.length ca]] W1 fun e W2 => e = .returned (.bool (fewE a)) ∧ Below W.heap.size W W2 from fun W1 h => (few_any a Aa ca W1 hsa (hra W1 h)).mono fun e W2 ⟨h1, h2⟩ => ⟨h1, below_then h h.size h2⟩)
  have HFb := Aside0.mk (show ∀ W1, Below W.heap.size W W1 → Calls Tryd.prog 9 #[.agg #[.int .i64 b.f0, .string b.f1, .string b.f2, .slice Ab b.f3.length cb]] W1 fun e W2 => e = .returned (.bool (fewE b)) ∧ Below W.heap.size W W2 from fun W1 h => (few_any b Ab cb W1 hsb (hrb W1 h)).mono fun e W2 ⟨h1, h2⟩ => ⟨h1, below_then h h.size h2⟩)
  have HFc := Aside0.mk (show ∀ W1, Below W.heap.size W W1 → Calls Tryd.prog 9 #[.agg #[.int .i64 c.f0, .string c.f1, .string c.f2, .slice Ac c.f3.length cc]] W1 fun e W2 => e = .returned (.bool (fewE c)) ∧ Below W.heap.size W W2 from fun W1 h => (few_any c Ac cc W1 hsc (hrc W1 h)).mono fun e W2 ⟨h1, h2⟩ => ⟨h1, below_then h h.size h2⟩)
  obtain ⟨⟨qa0, qa1, qa2, qa3⟩, ⟨qb0, qb1, qb2, qb3⟩, ⟨qc0, qc1, qc2, qc3⟩⟩ := HZ.out W HX.out
  by_cases cfa : fewE a = true
  · rw [cfa] at HFa
    by_cases cfb : fewE b = true
    · rw [cfb] at HFb
      by_cases cfc : fewE c = true
      · rw [cfc] at HFc
        have hSa := small_of_few hsa cfa
        have hSb := small_of_few hsb cfb
        have hSc := small_of_few hsc cfc
        have kv := range_E.1 a b
        have hv2 : cmpE b a = - cmpE a b := swap_E.1 a b
        have hv3 : cmpE a a = 0 := self_E a
        have htr : cmpE a b ≤ 0 → cmpE b c ≤ 0 → cmpE a c ≤ 0 := fun h k => trans_E h k
        have HCab := Aside0.mk (show ∀ W1, Below W.heap.size W W1 → Calls Tryd.prog 16 #[.agg #[.int .i64 a.f0, .string a.f1, .string a.f2, .slice Aa a.f3.length ca], .agg #[.int .i64 b.f0, .string b.f1, .string b.f2, .slice Ab b.f3.length cb]] W1 fun e W2 => e = .returned (.int .i64 (cmpE a b)) ∧ Below W.heap.size W W2 from fun W1 h => (compare_any 1000000 a (small_nod hSa) (Nat.le_refl _) b (small_nod hSb) Aa Ab ca cb W1 (hra W1 h) (hrb W1 h)).mono fun e W2 ⟨h1, h2⟩ => ⟨h1, below_then h h.size h2⟩)
        have HCba := Aside0.mk (show ∀ W1, Below W.heap.size W W1 → Calls Tryd.prog 16 #[.agg #[.int .i64 b.f0, .string b.f1, .string b.f2, .slice Ab b.f3.length cb], .agg #[.int .i64 a.f0, .string a.f1, .string a.f2, .slice Aa a.f3.length ca]] W1 fun e W2 => e = .returned (.int .i64 (cmpE b a)) ∧ Below W.heap.size W W2 from fun W1 h => (compare_any 1000000 b (small_nod hSb) (Nat.le_refl _) a (small_nod hSa) Ab Aa cb ca W1 (hrb W1 h) (hra W1 h)).mono fun e W2 ⟨h1, h2⟩ => ⟨h1, below_then h h.size h2⟩)
        have HCbc := Aside0.mk (show ∀ W1, Below W.heap.size W W1 → Calls Tryd.prog 16 #[.agg #[.int .i64 b.f0, .string b.f1, .string b.f2, .slice Ab b.f3.length cb], .agg #[.int .i64 c.f0, .string c.f1, .string c.f2, .slice Ac c.f3.length cc]] W1 fun e W2 => e = .returned (.int .i64 (cmpE b c)) ∧ Below W.heap.size W W2 from fun W1 h => (compare_any 1000000 b (small_nod hSb) (Nat.le_refl _) c (small_nod hSc) Ab Ac cb cc W1 (hrb W1 h) (hrc W1 h)).mono fun e W2 ⟨h1, h2⟩ => ⟨h1, below_then h h.size h2⟩)
        have HCac := Aside0.mk (show ∀ W1, Below W.heap.size W W1 → Calls Tryd.prog 16 #[.agg #[.int .i64 a.f0, .string a.f1, .string a.f2, .slice Aa a.f3.length ca], .agg #[.int .i64 c.f0, .string c.f1, .string c.f2, .slice Ac c.f3.length cc]] W1 fun e W2 => e = .returned (.int .i64 (cmpE a c)) ∧ Below W.heap.size W W2 from fun W1 h => (compare_any 1000000 a (small_nod hSa) (Nat.le_refl _) c (small_nod hSc) Aa Ac ca cc W1 (hra W1 h) (hrc W1 h)).mono fun e W2 ⟨h1, h2⟩ => ⟨h1, below_then h h.size h2⟩)
        have HRab := Aside0.mk (show ∀ W1, Below W.heap.size W W1 → Calls Tryd.prog 17 #[.agg #[.int .i64 a.f0, .string a.f1, .string a.f2, .slice Aa a.f3.length ca], .agg #[.int .i64 b.f0, .string b.f1, .string b.f2, .slice Ab b.f3.length cb]] W1 fun e W2 => e = .returned (.int .i64 (cmpE a b)) ∧ Below W.heap.size W W2 from fun W1 h => (rcompare_any a b Aa Ab ca cb W1 (small_nod hSa) (small_str hSa) (small_nod hSb) (small_str hSb) (hra W1 h) (hrb W1 h)).mono fun e W2 ⟨h1, h2⟩ => ⟨h1, below_then h h.size h2⟩)
        have HSab := Aside0.mk (show ∀ W1, Below W.heap.size W W1 → Calls Tryd.prog 18 #[.agg #[.int .i64 a.f0, .string a.f1, .string a.f2, .slice Aa a.f3.length ca], .agg #[.int .i64 b.f0, .string b.f1, .string b.f2, .slice Ab b.f3.length cb]] W1 fun e W2 => e = .returned (.bool (decide (cmpE a b = 0))) ∧ Below W.heap.size W W2 from fun W1 h => (same_any a b Aa Ab ca cb W1 (small_nod hSa) (small_nod hSb) (hra W1 h) (hrb W1 h)).mono fun e W2 ⟨h1, h2⟩ => ⟨h1, below_then h h.size h2⟩)
        have HSaa := Aside0.mk (show ∀ W1, Below W.heap.size W W1 → Calls Tryd.prog 18 #[.agg #[.int .i64 a.f0, .string a.f1, .string a.f2, .slice Aa a.f3.length ca], .agg #[.int .i64 a.f0, .string a.f1, .string a.f2, .slice Aa a.f3.length ca]] W1 fun e W2 => e = .returned (.bool (decide (cmpE a a = 0))) ∧ Below W.heap.size W W2 from fun W1 h => (same_any a a Aa Aa ca ca W1 (small_nod hSa) (small_nod hSa) (hra W1 h) (hra W1 h)).mono fun e W2 ⟨h1, h2⟩ => ⟨h1, below_then h h.size h2⟩)
        rw [hv3] at HSaa
        rw [hv2] at HCba
        obtain ⟨v, hv⟩ : ∃ v, v = cmpE a b := ⟨_, rfl⟩
        obtain ⟨u, hu⟩ : ∃ v, v = cmpE b c := ⟨_, rfl⟩
        obtain ⟨t, ht⟩ : ∃ v, v = cmpE a c := ⟨_, rfl⟩
        rw [← hv] at HCab
        rw [← hv] at HCba
        rw [← hv] at HRab
        rw [← hv] at HSab
        rw [← hu] at HCbc
        rw [← ht] at HCac
        rw [← hv, ← hu, ← ht] at htr
        rw [← hv] at kv
        clear hra hRa hsa hSa cfa hka hrb hRb hsb hSb cfb hkb hrc hRc hsc hSc cfc hkc hg hG hb hgw hsz hv hu ht hv2 hv3
        rcases kv with rfl | rfl | rfl
        · by_cases cu : 0 < u
          · have d1 : decide (0 < u) = true := decide_eq_true cu
            go_enter Tryd.func4, Tryd.ntmps4
            go_upto_region 1 with fail
            rw [← hW, ← hgb]
            clear hW hgb
            go_wp2_with (first | (go_at_call 8; with_reducible refine (HA.out _ HX.out).mono ?_; rintro e W' ⟨rfl, h'⟩; replace HX := Aside0.mk h'; clear h' qa0 qa1 qa2 qa3 qb0 qb1 qb2 qb3 qc0 qc1 qc2 qc3; obtain ⟨⟨qa0, qa1, qa2, qa3⟩, ⟨qb0, qb1, qb2, qb3⟩, ⟨qc0, qc1, qc2, qc3⟩⟩ := HZ.out W' HX.out) | (go_at_call 9; with_reducible refine (HFa.out _ HX.out).mono ?_; rintro e W' ⟨rfl, h'⟩; replace HX := Aside0.mk h'; clear h' qa0 qa1 qa2 qa3 qb0 qb1 qb2 qb3 qc0 qc1 qc2 qc3; obtain ⟨⟨qa0, qa1, qa2, qa3⟩, ⟨qb0, qb1, qb2, qb3⟩, ⟨qc0, qc1, qc2, qc3⟩⟩ := HZ.out W' HX.out) | (go_at_call 9; with_reducible refine (HFb.out _ HX.out).mono ?_; rintro e W' ⟨rfl, h'⟩; replace HX := Aside0.mk h'; clear h' qa0 qa1 qa2 qa3 qb0 qb1 qb2 qb3 qc0 qc1 qc2 qc3; obtain ⟨⟨qa0, qa1, qa2, qa3⟩, ⟨qb0, qb1, qb2, qb3⟩, ⟨qc0, qc1, qc2, qc3⟩⟩ := HZ.out W' HX.out) | (go_at_call 9; with_reducible refine (HFc.out _ HX.out).mono ?_; rintro e W' ⟨rfl, h'⟩; replace HX := Aside0.mk h'; clear h' qa0 qa1 qa2 qa3 qb0 qb1 qb2 qb3 qc0 qc1 qc2 qc3; obtain ⟨⟨qa0, qa1, qa2, qa3⟩, ⟨qb0, qb1, qb2, qb3⟩, ⟨qc0, qc1, qc2, qc3⟩⟩ := HZ.out W' HX.out) | (go_at_call 16; with_reducible refine (HCab.out _ HX.out).mono ?_; rintro e W' ⟨rfl, h'⟩; replace HX := Aside0.mk h'; clear h' qa0 qa1 qa2 qa3 qb0 qb1 qb2 qb3 qc0 qc1 qc2 qc3; obtain ⟨⟨qa0, qa1, qa2, qa3⟩, ⟨qb0, qb1, qb2, qb3⟩, ⟨qc0, qc1, qc2, qc3⟩⟩ := HZ.out W' HX.out) | (go_at_call 16; with_reducible refine (HCba.out _ HX.out).mono ?_; rintro e W' ⟨rfl, h'⟩; replace HX := Aside0.mk h'; clear h' qa0 qa1 qa2 qa3 qb0 qb1 qb2 qb3 qc0 qc1 qc2 qc3; obtain ⟨⟨qa0, qa1, qa2, qa3⟩, ⟨qb0, qb1, qb2, qb3⟩, ⟨qc0, qc1, qc2, qc3⟩⟩ := HZ.out W' HX.out) | (go_at_call 16; with_reducible refine (HCbc.out _ HX.out).mono ?_; rintro e W' ⟨rfl, h'⟩; replace HX := Aside0.mk h'; clear h' qa0 qa1 qa2 qa3 qb0 qb1 qb2 qb3 qc0 qc1 qc2 qc3; obtain ⟨⟨qa0, qa1, qa2, qa3⟩, ⟨qb0, qb1, qb2, qb3⟩, ⟨qc0, qc1, qc2, qc3⟩⟩ := HZ.out W' HX.out) | (go_at_call 16; with_reducible refine (HCac.out _ HX.out).mono ?_; rintro e W' ⟨rfl, h'⟩; replace HX := Aside0.mk h'; clear h' qa0 qa1 qa2 qa3 qb0 qb1 qb2 qb3 qc0 qc1 qc2 qc3; obtain ⟨⟨qa0, qa1, qa2, qa3⟩, ⟨qb0, qb1, qb2, qb3⟩, ⟨qc0, qc1, qc2, qc3⟩⟩ := HZ.out W' HX.out) | (go_at_call 17; with_reducible refine (HRab.out _ HX.out).mono ?_; rintro e W' ⟨rfl, h'⟩; replace HX := Aside0.mk h'; clear h' qa0 qa1 qa2 qa3 qb0 qb1 qb2 qb3 qc0 qc1 qc2 qc3; obtain ⟨⟨qa0, qa1, qa2, qa3⟩, ⟨qb0, qb1, qb2, qb3⟩, ⟨qc0, qc1, qc2, qc3⟩⟩ := HZ.out W' HX.out) | (go_at_call 18; with_reducible refine (HSab.out _ HX.out).mono ?_; rintro e W' ⟨rfl, h'⟩; replace HX := Aside0.mk h'; clear h' qa0 qa1 qa2 qa3 qb0 qb1 qb2 qb3 qc0 qc1 qc2 qc3; obtain ⟨⟨qa0, qa1, qa2, qa3⟩, ⟨qb0, qb1, qb2, qb3⟩, ⟨qc0, qc1, qc2, qc3⟩⟩ := HZ.out W' HX.out) | (go_at_call 18; with_reducible refine (HSaa.out _ HX.out).mono ?_; rintro e W' ⟨rfl, h'⟩; replace HX := Aside0.mk h'; clear h' qa0 qa1 qa2 qa3 qb0 qb1 qb2 qb3 qc0 qc1 qc2 qc3; obtain ⟨⟨qa0, qa1, qa2, qa3⟩, ⟨qb0, qb1, qb2, qb3⟩, ⟨qc0, qc1, qc2, qc3⟩⟩ := HZ.out W' HX.out))
            go_ret
            exact ⟨rfl, below_then HBW.out HBW.out.size HX.out⟩
          · have d1 : decide (0 < u) = false := decide_eq_false cu
            have c2 : t ≤ 0 := htr (by decide) (by omega)
            have d2 : decide (t ≤ 0) = true := decide_eq_true c2
            go_enter Tryd.func4, Tryd.ntmps4
            go_upto_region 1 with fail
            rw [← hW, ← hgb]
            clear hW hgb
            go_wp2_with (first | (go_at_call 8; with_reducible refine (HA.out _ HX.out).mono ?_; rintro e W' ⟨rfl, h'⟩; replace HX := Aside0.mk h'; clear h' qa0 qa1 qa2 qa3 qb0 qb1 qb2 qb3 qc0 qc1 qc2 qc3; obtain ⟨⟨qa0, qa1, qa2, qa3⟩, ⟨qb0, qb1, qb2, qb3⟩, ⟨qc0, qc1, qc2, qc3⟩⟩ := HZ.out W' HX.out) | (go_at_call 9; with_reducible refine (HFa.out _ HX.out).mono ?_; rintro e W' ⟨rfl, h'⟩; replace HX := Aside0.mk h'; clear h' qa0 qa1 qa2 qa3 qb0 qb1 qb2 qb3 qc0 qc1 qc2 qc3; obtain ⟨⟨qa0, qa1, qa2, qa3⟩, ⟨qb0, qb1, qb2, qb3⟩, ⟨qc0, qc1, qc2, qc3⟩⟩ := HZ.out W' HX.out) | (go_at_call 9; with_reducible refine (HFb.out _ HX.out).mono ?_; rintro e W' ⟨rfl, h'⟩; replace HX := Aside0.mk h'; clear h' qa0 qa1 qa2 qa3 qb0 qb1 qb2 qb3 qc0 qc1 qc2 qc3; obtain ⟨⟨qa0, qa1, qa2, qa3⟩, ⟨qb0, qb1, qb2, qb3⟩, ⟨qc0, qc1, qc2, qc3⟩⟩ := HZ.out W' HX.out) | (go_at_call 9; with_reducible refine (HFc.out _ HX.out).mono ?_; rintro e W' ⟨rfl, h'⟩; replace HX := Aside0.mk h'; clear h' qa0 qa1 qa2 qa3 qb0 qb1 qb2 qb3 qc0 qc1 qc2 qc3; obtain ⟨⟨qa0, qa1, qa2, qa3⟩, ⟨qb0, qb1, qb2, qb3⟩, ⟨qc0, qc1, qc2, qc3⟩⟩ := HZ.out W' HX.out) | (go_at_call 16; with_reducible refine (HCab.out _ HX.out).mono ?_; rintro e W' ⟨rfl, h'⟩; replace HX := Aside0.mk h'; clear h' qa0 qa1 qa2 qa3 qb0 qb1 qb2 qb3 qc0 qc1 qc2 qc3; obtain ⟨⟨qa0, qa1, qa2, qa3⟩, ⟨qb0, qb1, qb2, qb3⟩, ⟨qc0, qc1, qc2, qc3⟩⟩ := HZ.out W' HX.out) | (go_at_call 16; with_reducible refine (HCba.out _ HX.out).mono ?_; rintro e W' ⟨rfl, h'⟩; replace HX := Aside0.mk h'; clear h' qa0 qa1 qa2 qa3 qb0 qb1 qb2 qb3 qc0 qc1 qc2 qc3; obtain ⟨⟨qa0, qa1, qa2, qa3⟩, ⟨qb0, qb1, qb2, qb3⟩, ⟨qc0, qc1, qc2, qc3⟩⟩ := HZ.out W' HX.out) | (go_at_call 16; with_reducible refine (HCbc.out _ HX.out).mono ?_; rintro e W' ⟨rfl, h'⟩; replace HX := Aside0.mk h'; clear h' qa0 qa1 qa2 qa3 qb0 qb1 qb2 qb3 qc0 qc1 qc2 qc3; obtain ⟨⟨qa0, qa1, qa2, qa3⟩, ⟨qb0, qb1, qb2, qb3⟩, ⟨qc0, qc1, qc2, qc3⟩⟩ := HZ.out W' HX.out) | (go_at_call 16; with_reducible refine (HCac.out _ HX.out).mono ?_; rintro e W' ⟨rfl, h'⟩; replace HX := Aside0.mk h'; clear h' qa0 qa1 qa2 qa3 qb0 qb1 qb2 qb3 qc0 qc1 qc2 qc3; obtain ⟨⟨qa0, qa1, qa2, qa3⟩, ⟨qb0, qb1, qb2, qb3⟩, ⟨qc0, qc1, qc2, qc3⟩⟩ := HZ.out W' HX.out) | (go_at_call 17; with_reducible refine (HRab.out _ HX.out).mono ?_; rintro e W' ⟨rfl, h'⟩; replace HX := Aside0.mk h'; clear h' qa0 qa1 qa2 qa3 qb0 qb1 qb2 qb3 qc0 qc1 qc2 qc3; obtain ⟨⟨qa0, qa1, qa2, qa3⟩, ⟨qb0, qb1, qb2, qb3⟩, ⟨qc0, qc1, qc2, qc3⟩⟩ := HZ.out W' HX.out) | (go_at_call 18; with_reducible refine (HSab.out _ HX.out).mono ?_; rintro e W' ⟨rfl, h'⟩; replace HX := Aside0.mk h'; clear h' qa0 qa1 qa2 qa3 qb0 qb1 qb2 qb3 qc0 qc1 qc2 qc3; obtain ⟨⟨qa0, qa1, qa2, qa3⟩, ⟨qb0, qb1, qb2, qb3⟩, ⟨qc0, qc1, qc2, qc3⟩⟩ := HZ.out W' HX.out) | (go_at_call 18; with_reducible refine (HSaa.out _ HX.out).mono ?_; rintro e W' ⟨rfl, h'⟩; replace HX := Aside0.mk h'; clear h' qa0 qa1 qa2 qa3 qb0 qb1 qb2 qb3 qc0 qc1 qc2 qc3; obtain ⟨⟨qa0, qa1, qa2, qa3⟩, ⟨qb0, qb1, qb2, qb3⟩, ⟨qc0, qc1, qc2, qc3⟩⟩ := HZ.out W' HX.out))
            go_ret
            exact ⟨rfl, below_then HBW.out HBW.out.size HX.out⟩
        · by_cases cu : 0 < u
          · have d1 : decide (0 < u) = true := decide_eq_true cu
            go_enter Tryd.func4, Tryd.ntmps4
            go_upto_region 1 with fail
            rw [← hW, ← hgb]
            clear hW hgb
            go_wp2_with (first | (go_at_call 8; with_reducible refine (HA.out _ HX.out).mono ?_; rintro e W' ⟨rfl, h'⟩; replace HX := Aside0.mk h'; clear h' qa0 qa1 qa2 qa3 qb0 qb1 qb2 qb3 qc0 qc1 qc2 qc3; obtain ⟨⟨qa0, qa1, qa2, qa3⟩, ⟨qb0, qb1, qb2, qb3⟩, ⟨qc0, qc1, qc2, qc3⟩⟩ := HZ.out W' HX.out) | (go_at_call 9; with_reducible refine (HFa.out _ HX.out).mono ?_; rintro e W' ⟨rfl, h'⟩; replace HX := Aside0.mk h'; clear h' qa0 qa1 qa2 qa3 qb0 qb1 qb2 qb3 qc0 qc1 qc2 qc3; obtain ⟨⟨qa0, qa1, qa2, qa3⟩, ⟨qb0, qb1, qb2, qb3⟩, ⟨qc0, qc1, qc2, qc3⟩⟩ := HZ.out W' HX.out) | (go_at_call 9; with_reducible refine (HFb.out _ HX.out).mono ?_; rintro e W' ⟨rfl, h'⟩; replace HX := Aside0.mk h'; clear h' qa0 qa1 qa2 qa3 qb0 qb1 qb2 qb3 qc0 qc1 qc2 qc3; obtain ⟨⟨qa0, qa1, qa2, qa3⟩, ⟨qb0, qb1, qb2, qb3⟩, ⟨qc0, qc1, qc2, qc3⟩⟩ := HZ.out W' HX.out) | (go_at_call 9; with_reducible refine (HFc.out _ HX.out).mono ?_; rintro e W' ⟨rfl, h'⟩; replace HX := Aside0.mk h'; clear h' qa0 qa1 qa2 qa3 qb0 qb1 qb2 qb3 qc0 qc1 qc2 qc3; obtain ⟨⟨qa0, qa1, qa2, qa3⟩, ⟨qb0, qb1, qb2, qb3⟩, ⟨qc0, qc1, qc2, qc3⟩⟩ := HZ.out W' HX.out) | (go_at_call 16; with_reducible refine (HCab.out _ HX.out).mono ?_; rintro e W' ⟨rfl, h'⟩; replace HX := Aside0.mk h'; clear h' qa0 qa1 qa2 qa3 qb0 qb1 qb2 qb3 qc0 qc1 qc2 qc3; obtain ⟨⟨qa0, qa1, qa2, qa3⟩, ⟨qb0, qb1, qb2, qb3⟩, ⟨qc0, qc1, qc2, qc3⟩⟩ := HZ.out W' HX.out) | (go_at_call 16; with_reducible refine (HCba.out _ HX.out).mono ?_; rintro e W' ⟨rfl, h'⟩; replace HX := Aside0.mk h'; clear h' qa0 qa1 qa2 qa3 qb0 qb1 qb2 qb3 qc0 qc1 qc2 qc3; obtain ⟨⟨qa0, qa1, qa2, qa3⟩, ⟨qb0, qb1, qb2, qb3⟩, ⟨qc0, qc1, qc2, qc3⟩⟩ := HZ.out W' HX.out) | (go_at_call 16; with_reducible refine (HCbc.out _ HX.out).mono ?_; rintro e W' ⟨rfl, h'⟩; replace HX := Aside0.mk h'; clear h' qa0 qa1 qa2 qa3 qb0 qb1 qb2 qb3 qc0 qc1 qc2 qc3; obtain ⟨⟨qa0, qa1, qa2, qa3⟩, ⟨qb0, qb1, qb2, qb3⟩, ⟨qc0, qc1, qc2, qc3⟩⟩ := HZ.out W' HX.out) | (go_at_call 16; with_reducible refine (HCac.out _ HX.out).mono ?_; rintro e W' ⟨rfl, h'⟩; replace HX := Aside0.mk h'; clear h' qa0 qa1 qa2 qa3 qb0 qb1 qb2 qb3 qc0 qc1 qc2 qc3; obtain ⟨⟨qa0, qa1, qa2, qa3⟩, ⟨qb0, qb1, qb2, qb3⟩, ⟨qc0, qc1, qc2, qc3⟩⟩ := HZ.out W' HX.out) | (go_at_call 17; with_reducible refine (HRab.out _ HX.out).mono ?_; rintro e W' ⟨rfl, h'⟩; replace HX := Aside0.mk h'; clear h' qa0 qa1 qa2 qa3 qb0 qb1 qb2 qb3 qc0 qc1 qc2 qc3; obtain ⟨⟨qa0, qa1, qa2, qa3⟩, ⟨qb0, qb1, qb2, qb3⟩, ⟨qc0, qc1, qc2, qc3⟩⟩ := HZ.out W' HX.out) | (go_at_call 18; with_reducible refine (HSab.out _ HX.out).mono ?_; rintro e W' ⟨rfl, h'⟩; replace HX := Aside0.mk h'; clear h' qa0 qa1 qa2 qa3 qb0 qb1 qb2 qb3 qc0 qc1 qc2 qc3; obtain ⟨⟨qa0, qa1, qa2, qa3⟩, ⟨qb0, qb1, qb2, qb3⟩, ⟨qc0, qc1, qc2, qc3⟩⟩ := HZ.out W' HX.out) | (go_at_call 18; with_reducible refine (HSaa.out _ HX.out).mono ?_; rintro e W' ⟨rfl, h'⟩; replace HX := Aside0.mk h'; clear h' qa0 qa1 qa2 qa3 qb0 qb1 qb2 qb3 qc0 qc1 qc2 qc3; obtain ⟨⟨qa0, qa1, qa2, qa3⟩, ⟨qb0, qb1, qb2, qb3⟩, ⟨qc0, qc1, qc2, qc3⟩⟩ := HZ.out W' HX.out))
            go_ret
            exact ⟨rfl, below_then HBW.out HBW.out.size HX.out⟩
          · have d1 : decide (0 < u) = false := decide_eq_false cu
            have c2 : t ≤ 0 := htr (by decide) (by omega)
            have d2 : decide (t ≤ 0) = true := decide_eq_true c2
            go_enter Tryd.func4, Tryd.ntmps4
            go_upto_region 1 with fail
            rw [← hW, ← hgb]
            clear hW hgb
            go_wp2_with (first | (go_at_call 8; with_reducible refine (HA.out _ HX.out).mono ?_; rintro e W' ⟨rfl, h'⟩; replace HX := Aside0.mk h'; clear h' qa0 qa1 qa2 qa3 qb0 qb1 qb2 qb3 qc0 qc1 qc2 qc3; obtain ⟨⟨qa0, qa1, qa2, qa3⟩, ⟨qb0, qb1, qb2, qb3⟩, ⟨qc0, qc1, qc2, qc3⟩⟩ := HZ.out W' HX.out) | (go_at_call 9; with_reducible refine (HFa.out _ HX.out).mono ?_; rintro e W' ⟨rfl, h'⟩; replace HX := Aside0.mk h'; clear h' qa0 qa1 qa2 qa3 qb0 qb1 qb2 qb3 qc0 qc1 qc2 qc3; obtain ⟨⟨qa0, qa1, qa2, qa3⟩, ⟨qb0, qb1, qb2, qb3⟩, ⟨qc0, qc1, qc2, qc3⟩⟩ := HZ.out W' HX.out) | (go_at_call 9; with_reducible refine (HFb.out _ HX.out).mono ?_; rintro e W' ⟨rfl, h'⟩; replace HX := Aside0.mk h'; clear h' qa0 qa1 qa2 qa3 qb0 qb1 qb2 qb3 qc0 qc1 qc2 qc3; obtain ⟨⟨qa0, qa1, qa2, qa3⟩, ⟨qb0, qb1, qb2, qb3⟩, ⟨qc0, qc1, qc2, qc3⟩⟩ := HZ.out W' HX.out) | (go_at_call 9; with_reducible refine (HFc.out _ HX.out).mono ?_; rintro e W' ⟨rfl, h'⟩; replace HX := Aside0.mk h'; clear h' qa0 qa1 qa2 qa3 qb0 qb1 qb2 qb3 qc0 qc1 qc2 qc3; obtain ⟨⟨qa0, qa1, qa2, qa3⟩, ⟨qb0, qb1, qb2, qb3⟩, ⟨qc0, qc1, qc2, qc3⟩⟩ := HZ.out W' HX.out) | (go_at_call 16; with_reducible refine (HCab.out _ HX.out).mono ?_; rintro e W' ⟨rfl, h'⟩; replace HX := Aside0.mk h'; clear h' qa0 qa1 qa2 qa3 qb0 qb1 qb2 qb3 qc0 qc1 qc2 qc3; obtain ⟨⟨qa0, qa1, qa2, qa3⟩, ⟨qb0, qb1, qb2, qb3⟩, ⟨qc0, qc1, qc2, qc3⟩⟩ := HZ.out W' HX.out) | (go_at_call 16; with_reducible refine (HCba.out _ HX.out).mono ?_; rintro e W' ⟨rfl, h'⟩; replace HX := Aside0.mk h'; clear h' qa0 qa1 qa2 qa3 qb0 qb1 qb2 qb3 qc0 qc1 qc2 qc3; obtain ⟨⟨qa0, qa1, qa2, qa3⟩, ⟨qb0, qb1, qb2, qb3⟩, ⟨qc0, qc1, qc2, qc3⟩⟩ := HZ.out W' HX.out) | (go_at_call 16; with_reducible refine (HCbc.out _ HX.out).mono ?_; rintro e W' ⟨rfl, h'⟩; replace HX := Aside0.mk h'; clear h' qa0 qa1 qa2 qa3 qb0 qb1 qb2 qb3 qc0 qc1 qc2 qc3; obtain ⟨⟨qa0, qa1, qa2, qa3⟩, ⟨qb0, qb1, qb2, qb3⟩, ⟨qc0, qc1, qc2, qc3⟩⟩ := HZ.out W' HX.out) | (go_at_call 16; with_reducible refine (HCac.out _ HX.out).mono ?_; rintro e W' ⟨rfl, h'⟩; replace HX := Aside0.mk h'; clear h' qa0 qa1 qa2 qa3 qb0 qb1 qb2 qb3 qc0 qc1 qc2 qc3; obtain ⟨⟨qa0, qa1, qa2, qa3⟩, ⟨qb0, qb1, qb2, qb3⟩, ⟨qc0, qc1, qc2, qc3⟩⟩ := HZ.out W' HX.out) | (go_at_call 17; with_reducible refine (HRab.out _ HX.out).mono ?_; rintro e W' ⟨rfl, h'⟩; replace HX := Aside0.mk h'; clear h' qa0 qa1 qa2 qa3 qb0 qb1 qb2 qb3 qc0 qc1 qc2 qc3; obtain ⟨⟨qa0, qa1, qa2, qa3⟩, ⟨qb0, qb1, qb2, qb3⟩, ⟨qc0, qc1, qc2, qc3⟩⟩ := HZ.out W' HX.out) | (go_at_call 18; with_reducible refine (HSab.out _ HX.out).mono ?_; rintro e W' ⟨rfl, h'⟩; replace HX := Aside0.mk h'; clear h' qa0 qa1 qa2 qa3 qb0 qb1 qb2 qb3 qc0 qc1 qc2 qc3; obtain ⟨⟨qa0, qa1, qa2, qa3⟩, ⟨qb0, qb1, qb2, qb3⟩, ⟨qc0, qc1, qc2, qc3⟩⟩ := HZ.out W' HX.out) | (go_at_call 18; with_reducible refine (HSaa.out _ HX.out).mono ?_; rintro e W' ⟨rfl, h'⟩; replace HX := Aside0.mk h'; clear h' qa0 qa1 qa2 qa3 qb0 qb1 qb2 qb3 qc0 qc1 qc2 qc3; obtain ⟨⟨qa0, qa1, qa2, qa3⟩, ⟨qb0, qb1, qb2, qb3⟩, ⟨qc0, qc1, qc2, qc3⟩⟩ := HZ.out W' HX.out))
            go_ret
            exact ⟨rfl, below_then HBW.out HBW.out.size HX.out⟩
        · clear htr
          go_enter Tryd.func4, Tryd.ntmps4
          go_upto_region 1 with fail
          rw [← hW, ← hgb]
          clear hW hgb
          go_wp2_with (first | (go_at_call 8; with_reducible refine (HA.out _ HX.out).mono ?_; rintro e W' ⟨rfl, h'⟩; replace HX := Aside0.mk h'; clear h' qa0 qa1 qa2 qa3 qb0 qb1 qb2 qb3 qc0 qc1 qc2 qc3; obtain ⟨⟨qa0, qa1, qa2, qa3⟩, ⟨qb0, qb1, qb2, qb3⟩, ⟨qc0, qc1, qc2, qc3⟩⟩ := HZ.out W' HX.out) | (go_at_call 9; with_reducible refine (HFa.out _ HX.out).mono ?_; rintro e W' ⟨rfl, h'⟩; replace HX := Aside0.mk h'; clear h' qa0 qa1 qa2 qa3 qb0 qb1 qb2 qb3 qc0 qc1 qc2 qc3; obtain ⟨⟨qa0, qa1, qa2, qa3⟩, ⟨qb0, qb1, qb2, qb3⟩, ⟨qc0, qc1, qc2, qc3⟩⟩ := HZ.out W' HX.out) | (go_at_call 9; with_reducible refine (HFb.out _ HX.out).mono ?_; rintro e W' ⟨rfl, h'⟩; replace HX := Aside0.mk h'; clear h' qa0 qa1 qa2 qa3 qb0 qb1 qb2 qb3 qc0 qc1 qc2 qc3; obtain ⟨⟨qa0, qa1, qa2, qa3⟩, ⟨qb0, qb1, qb2, qb3⟩, ⟨qc0, qc1, qc2, qc3⟩⟩ := HZ.out W' HX.out) | (go_at_call 9; with_reducible refine (HFc.out _ HX.out).mono ?_; rintro e W' ⟨rfl, h'⟩; replace HX := Aside0.mk h'; clear h' qa0 qa1 qa2 qa3 qb0 qb1 qb2 qb3 qc0 qc1 qc2 qc3; obtain ⟨⟨qa0, qa1, qa2, qa3⟩, ⟨qb0, qb1, qb2, qb3⟩, ⟨qc0, qc1, qc2, qc3⟩⟩ := HZ.out W' HX.out) | (go_at_call 16; with_reducible refine (HCab.out _ HX.out).mono ?_; rintro e W' ⟨rfl, h'⟩; replace HX := Aside0.mk h'; clear h' qa0 qa1 qa2 qa3 qb0 qb1 qb2 qb3 qc0 qc1 qc2 qc3; obtain ⟨⟨qa0, qa1, qa2, qa3⟩, ⟨qb0, qb1, qb2, qb3⟩, ⟨qc0, qc1, qc2, qc3⟩⟩ := HZ.out W' HX.out) | (go_at_call 16; with_reducible refine (HCba.out _ HX.out).mono ?_; rintro e W' ⟨rfl, h'⟩; replace HX := Aside0.mk h'; clear h' qa0 qa1 qa2 qa3 qb0 qb1 qb2 qb3 qc0 qc1 qc2 qc3; obtain ⟨⟨qa0, qa1, qa2, qa3⟩, ⟨qb0, qb1, qb2, qb3⟩, ⟨qc0, qc1, qc2, qc3⟩⟩ := HZ.out W' HX.out) | (go_at_call 16; with_reducible refine (HCbc.out _ HX.out).mono ?_; rintro e W' ⟨rfl, h'⟩; replace HX := Aside0.mk h'; clear h' qa0 qa1 qa2 qa3 qb0 qb1 qb2 qb3 qc0 qc1 qc2 qc3; obtain ⟨⟨qa0, qa1, qa2, qa3⟩, ⟨qb0, qb1, qb2, qb3⟩, ⟨qc0, qc1, qc2, qc3⟩⟩ := HZ.out W' HX.out) | (go_at_call 16; with_reducible refine (HCac.out _ HX.out).mono ?_; rintro e W' ⟨rfl, h'⟩; replace HX := Aside0.mk h'; clear h' qa0 qa1 qa2 qa3 qb0 qb1 qb2 qb3 qc0 qc1 qc2 qc3; obtain ⟨⟨qa0, qa1, qa2, qa3⟩, ⟨qb0, qb1, qb2, qb3⟩, ⟨qc0, qc1, qc2, qc3⟩⟩ := HZ.out W' HX.out) | (go_at_call 17; with_reducible refine (HRab.out _ HX.out).mono ?_; rintro e W' ⟨rfl, h'⟩; replace HX := Aside0.mk h'; clear h' qa0 qa1 qa2 qa3 qb0 qb1 qb2 qb3 qc0 qc1 qc2 qc3; obtain ⟨⟨qa0, qa1, qa2, qa3⟩, ⟨qb0, qb1, qb2, qb3⟩, ⟨qc0, qc1, qc2, qc3⟩⟩ := HZ.out W' HX.out) | (go_at_call 18; with_reducible refine (HSab.out _ HX.out).mono ?_; rintro e W' ⟨rfl, h'⟩; replace HX := Aside0.mk h'; clear h' qa0 qa1 qa2 qa3 qb0 qb1 qb2 qb3 qc0 qc1 qc2 qc3; obtain ⟨⟨qa0, qa1, qa2, qa3⟩, ⟨qb0, qb1, qb2, qb3⟩, ⟨qc0, qc1, qc2, qc3⟩⟩ := HZ.out W' HX.out) | (go_at_call 18; with_reducible refine (HSaa.out _ HX.out).mono ?_; rintro e W' ⟨rfl, h'⟩; replace HX := Aside0.mk h'; clear h' qa0 qa1 qa2 qa3 qb0 qb1 qb2 qb3 qc0 qc1 qc2 qc3; obtain ⟨⟨qa0, qa1, qa2, qa3⟩, ⟨qb0, qb1, qb2, qb3⟩, ⟨qc0, qc1, qc2, qc3⟩⟩ := HZ.out W' HX.out))
          go_ret
          exact ⟨rfl, below_then HBW.out HBW.out.size HX.out⟩
      · have cg : fewE c = false := by simpa using cfc
        rw [cg] at HFc
        clear cg cfc
        clear hra hRa hsa hka hrb hRb hsb hkb hrc hRc hsc hkc hg hG hb hgw hsz
        go_enter Tryd.func4, Tryd.ntmps4
        go_upto_region 1 with fail
        rw [← hW, ← hgb]
        clear hW hgb
        go_wp2_with (first | (go_at_call 8; with_reducible refine (HA.out _ HX.out).mono ?_; rintro e W' ⟨rfl, h'⟩; replace HX := Aside0.mk h'; clear h' qa0 qa1 qa2 qa3 qb0 qb1 qb2 qb3 qc0 qc1 qc2 qc3; obtain ⟨⟨qa0, qa1, qa2, qa3⟩, ⟨qb0, qb1, qb2, qb3⟩, ⟨qc0, qc1, qc2, qc3⟩⟩ := HZ.out W' HX.out) | (go_at_call 9; with_reducible refine (HFa.out _ HX.out).mono ?_; rintro e W' ⟨rfl, h'⟩; replace HX := Aside0.mk h'; clear h' qa0 qa1 qa2 qa3 qb0 qb1 qb2 qb3 qc0 qc1 qc2 qc3; obtain ⟨⟨qa0, qa1, qa2, qa3⟩, ⟨qb0, qb1, qb2, qb3⟩, ⟨qc0, qc1, qc2, qc3⟩⟩ := HZ.out W' HX.out) | (go_at_call 9; with_reducible refine (HFb.out _ HX.out).mono ?_; rintro e W' ⟨rfl, h'⟩; replace HX := Aside0.mk h'; clear h' qa0 qa1 qa2 qa3 qb0 qb1 qb2 qb3 qc0 qc1 qc2 qc3; obtain ⟨⟨qa0, qa1, qa2, qa3⟩, ⟨qb0, qb1, qb2, qb3⟩, ⟨qc0, qc1, qc2, qc3⟩⟩ := HZ.out W' HX.out) | (go_at_call 9; with_reducible refine (HFc.out _ HX.out).mono ?_; rintro e W' ⟨rfl, h'⟩; replace HX := Aside0.mk h'; clear h' qa0 qa1 qa2 qa3 qb0 qb1 qb2 qb3 qc0 qc1 qc2 qc3; obtain ⟨⟨qa0, qa1, qa2, qa3⟩, ⟨qb0, qb1, qb2, qb3⟩, ⟨qc0, qc1, qc2, qc3⟩⟩ := HZ.out W' HX.out))
        go_ret
        exact ⟨rfl, below_then HBW.out HBW.out.size HX.out⟩
    · have cg : fewE b = false := by simpa using cfb
      rw [cg] at HFb
      clear cg cfb
      clear hra hRa hsa hka hrb hRb hsb hkb hrc hRc hsc hkc hg hG hb hgw hsz
      go_enter Tryd.func4, Tryd.ntmps4
      go_upto_region 1 with fail
      rw [← hW, ← hgb]
      clear hW hgb
      go_wp2_with (first | (go_at_call 8; with_reducible refine (HA.out _ HX.out).mono ?_; rintro e W' ⟨rfl, h'⟩; replace HX := Aside0.mk h'; clear h' qa0 qa1 qa2 qa3 qb0 qb1 qb2 qb3 qc0 qc1 qc2 qc3; obtain ⟨⟨qa0, qa1, qa2, qa3⟩, ⟨qb0, qb1, qb2, qb3⟩, ⟨qc0, qc1, qc2, qc3⟩⟩ := HZ.out W' HX.out) | (go_at_call 9; with_reducible refine (HFa.out _ HX.out).mono ?_; rintro e W' ⟨rfl, h'⟩; replace HX := Aside0.mk h'; clear h' qa0 qa1 qa2 qa3 qb0 qb1 qb2 qb3 qc0 qc1 qc2 qc3; obtain ⟨⟨qa0, qa1, qa2, qa3⟩, ⟨qb0, qb1, qb2, qb3⟩, ⟨qc0, qc1, qc2, qc3⟩⟩ := HZ.out W' HX.out) | (go_at_call 9; with_reducible refine (HFb.out _ HX.out).mono ?_; rintro e W' ⟨rfl, h'⟩; replace HX := Aside0.mk h'; clear h' qa0 qa1 qa2 qa3 qb0 qb1 qb2 qb3 qc0 qc1 qc2 qc3; obtain ⟨⟨qa0, qa1, qa2, qa3⟩, ⟨qb0, qb1, qb2, qb3⟩, ⟨qc0, qc1, qc2, qc3⟩⟩ := HZ.out W' HX.out))
      go_ret
      exact ⟨rfl, below_then HBW.out HBW.out.size HX.out⟩
  · have cg : fewE a = false := by simpa using cfa
    rw [cg] at HFa
    clear cg cfa
    clear hra hRa hsa hka hrb hRb hsb hkb hrc hRc hsc hkc hg hG hb hgw hsz
    go_enter Tryd.func4, Tryd.ntmps4
    go_upto_region 1 with fail
    rw [← hW, ← hgb]
    clear hW hgb
    go_wp2_with (first | (go_at_call 8; with_reducible refine (HA.out _ HX.out).mono ?_; rintro e W' ⟨rfl, h'⟩; replace HX := Aside0.mk h'; clear h' qa0 qa1 qa2 qa3 qb0 qb1 qb2 qb3 qc0 qc1 qc2 qc3; obtain ⟨⟨qa0, qa1, qa2, qa3⟩, ⟨qb0, qb1, qb2, qb3⟩, ⟨qc0, qc1, qc2, qc3⟩⟩ := HZ.out W' HX.out) | (go_at_call 9; with_reducible refine (HFa.out _ HX.out).mono ?_; rintro e W' ⟨rfl, h'⟩; replace HX := Aside0.mk h'; clear h' qa0 qa1 qa2 qa3 qb0 qb1 qb2 qb3 qc0 qc1 qc2 qc3; obtain ⟨⟨qa0, qa1, qa2, qa3⟩, ⟨qb0, qb1, qb2, qb3⟩, ⟨qc0, qc1, qc2, qc3⟩⟩ := HZ.out W' HX.out))
    go_ret
    exact ⟨rfl, below_then HBW.out HBW.out.size HX.out⟩
theorem row_compares (v0 : Value) (a0 : Ex) (v1 : Value) (a1 : Ex) (v2 : Value) (a2 : Ex) (W : World) {base : Nat} (hv0 : Value.okWide Tryd.prog W .any base 24 v0) (k0 : kE.K W a0 v0.cells.toList) (ok0 : strE maxLen a0) (hv1 : Value.okWide Tryd.prog W .any base 24 v1) (k1 : kE.K W a1 v1.cells.toList) (ok1 : strE maxLen a1) (hv2 : Value.okWide Tryd.prog W .any base 24 v2) (k2 : kE.K W a2 v2.cells.toList) (ok2 : strE maxLen a2) (hG : ResG W) :
    Calls Tryd.prog 4 #[v0, v1, v2] W fun e w' => e = .returned (.bool true) ∧ Below W.heap.size W w' := by
  obtain ⟨A0, c0, rfl, hR0⟩ := expr_of hv0 k0
  obtain ⟨A1, c1, rfl, hR1⟩ := expr_of hv1 k1
  obtain ⟨A2, c2, rfl, hR2⟩ := expr_of hv2 k2
  exact compares_any a0 a1 a2 A0 A1 A2 c0 c1 c2 ok0 ok1 ok2 W hG hR0 hR1 hR2
end Go.Proofs.YtikgngcdgejgjaaDoor.HExL2
