/- schema.Clone at awake's schema. -/
import Derived.Test.YtohimcpfmkgefaaDoorUSB
import Derived.Test.YtohimcpfmkgefaaDoorUSA
import Derived.Deep.RegionWith
namespace Go.Proofs.YtohimcpfmkgefaaDoor.HSc8
open Go.RowKit Go.Proofs.YtohimcpfmkgefaaDoorW.PrintWords Go.Proofs.YtohimcpfmkgefaaDoorW.PrintMore Go.Proofs.YtohimcpfmkgefaaDoor.HLib Go.Proofs.YtohimcpfmkgefaaDoor.HGr Go.Proofs.YtohimcpfmkgefaaDoor.HNameP Go.Proofs.YtohimcpfmkgefaaDoor.HName Go.Proofs.YtohimcpfmkgefaaDoor.HExP Go.Proofs.YtohimcpfmkgefaaDoor.HExL Go.Proofs.YtohimcpfmkgefaaDoor.HExF Go.Proofs.YtohimcpfmkgefaaDoor.HExM Go.Proofs.YtohimcpfmkgefaaDoor.HExN Go.Proofs.YtohimcpfmkgefaaDoor.HSc1 Go.Proofs.YtohimcpfmkgefaaDoor.HSc2 Go.Proofs.YtohimcpfmkgefaaDoor.HSc7
open Go.Proofs.YtohimcpfmkgefaaDoor.PSchemaAllows
set_option linter.unusedVariables false
set_option linter.unusedSimpArgs false
abbrev Sd := S34
abbrev kD : Kd Sd := k34
def al : Al := ⟨⟨#[117, 115, 101, 114]⟩, ⟨#[]⟩⟩
def mV : Sm := ⟨⟨#[97]⟩, 1, [al], X0⟩
def dV : Sd := ⟨⟨#[100]⟩, [mV]⟩
theorem three1 (w : World) (a b c : Value) (t t2 t3 : TypeId) :
    ∃ W, W = ((w.alloc (.cells #[a] t)).alloc (.cells #[b] t2)).alloc (.cells #[c] t3) ∧ Below w.heap.size w W ∧ W.heap.size = w.heap.size + 3 ∧ W.heap[w.heap.size]? = some (.cells #[a] t (0, 0)) ∧ W.heap[w.heap.size + 1]? = some (.cells #[b] t2 (0, 0)) ∧ W.heap[w.heap.size + 1 + 1]? = some (.cells #[c] t3 (0, 0)) := by
  have h1 : (w.alloc (.cells #[a] t)).heap.size = w.heap.size + 1 := World.size_alloc _ _
  have h2 : ((w.alloc (.cells #[a] t)).alloc (.cells #[b] t2)).heap.size = w.heap.size + 2 := by rw [World.size_alloc, h1]
  refine ⟨_, rfl, below_alloc (below_alloc (below_alloc (B0 w) _) _) _, by rw [World.size_alloc, h2], blk_alloc (blk_alloc (blk_new w _) _) _, ?_, ?_⟩
  · have h := blk_new (w.alloc (.cells #[a] t)) (.cells #[b] t2)
    rw [h1] at h
    exact blk_alloc h _
  · have h := blk_new ((w.alloc (.cells #[a] t)).alloc (.cells #[b] t2)) (.cells #[c] t3)
    rw [h2] at h
    exact h
theorem three227 (w : World) (a b c d e1 e2 e3 e4 e5 e6 e7 : Value) (t t2 : TypeId) :
    ∃ W, W = ((w.alloc (.cells #[a, b] t)).alloc (.cells #[c, d] t)).alloc (.cells #[e1, e2, e3, e4, e5, e6, e7] t2) ∧ Below w.heap.size w W ∧ W.heap.size = w.heap.size + 3 ∧ W.heap[w.heap.size]? = some (.cells #[a, b] t (0, 0)) ∧ W.heap[w.heap.size + 1]? = some (.cells #[c, d] t (0, 0)) ∧ W.heap[w.heap.size + 1 + 1]? = some (.cells #[e1, e2, e3, e4, e5, e6, e7] t2 (0, 0)) := by
  have h1 : (w.alloc (.cells #[a, b] t)).heap.size = w.heap.size + 1 := World.size_alloc _ _
  have h2 : ((w.alloc (.cells #[a, b] t)).alloc (.cells #[c, d] t)).heap.size = w.heap.size + 2 := by rw [World.size_alloc, h1]
  refine ⟨_, rfl, below_alloc (below_alloc (below_alloc (B0 w) _) _) _, by rw [World.size_alloc, h2], blk_alloc (blk_alloc (blk_new w _) _) _, ?_, ?_⟩
  · have h := blk_new (w.alloc (.cells #[a, b] t)) (.cells #[c, d] t)
    rw [h1] at h
    exact blk_alloc h _
  · have h := blk_new ((w.alloc (.cells #[a, b] t)).alloc (.cells #[c, d] t)) (.cells #[e1, e2, e3, e4, e5, e6, e7] t2)
    rw [h2] at h
    exact h
theorem region_post {P : Program} {ops : Array Oper} {Q : Exit → Act → World → Prop} {id : Nat} {b : Bool} {a : Act} {w : World} (S : Act → World → Prop) (h : ∀ Q' : Exit → Act → World → Prop, (∀ a2 W2, S a2 W2 → Q' .normal a2 W2) → (Code.region id ops b).wp P Q' a w) (hfin : ∀ a2 W2, S a2 W2 → Q .normal a2 W2) :
    (Code.region id ops b).wp P Q a w := h Q hfin
theorem info_me : (Tryd.prog.info? 27).map (fun i => (i.zero, i.size, i.bytes)) = some (some (.agg #[.string ⟨#[]⟩, .int .i64 0, .slice none 0 0, .int .i64 0, .string ⟨#[]⟩, .string ⟨#[]⟩, .slice none 0 0]), 7, 112) := by kernel_rfl
theorem info_de : (Tryd.prog.info? 34).map (fun i => (i.zero, i.size, i.bytes)) = some (some (.agg #[.string ⟨#[]⟩, .slice none 0 0]), 2, 40) := by kernel_rfl
set_option maxRecDepth 100000 in
set_option maxHeartbeats 8000000 in
theorem clone_s (gd gm gt : Nat) (w : World) (hS : Sc w gd gm (.slice (some ⟨gt, 0, none⟩) 1 1)) (hT : Kd.C kA w (some ⟨gt, 0, none⟩) 1 [al]) :
    Calls Tryd.prog 11 #[.agg #[.slice (some ⟨gd, 0, none⟩) 1 1]] w fun e w' => ∃ v, e = .returned (.agg #[v]) ∧ Kd.R kD 34 w' w.heap.size (fun _ => True) v [dV] ∧ Below w.heap.size w w' := by
  obtain ⟨W0, hW0, hb0, hsz0, hk0, hk1, hk2⟩ := three1 w (.slice (some ⟨gd, 0, none⟩) 1 1) (.slice none 0 0) (.slice none 0 0) 37 37 37
  obtain ⟨g, hg⟩ : ∃ g, g = w.heap.size := ⟨_, rfl⟩
  rw [← hg] at hk0 hk1 hk2
  obtain ⟨W1, hW1, hb1, hsz1, hj0, hj1, hj2⟩ := three227 W0 (.string ⟨#[100]⟩) (.slice (some ⟨gm, 0, none⟩) 1 1) (.string ⟨#[100]⟩) (.slice none 0 0) (.string ⟨#[97]⟩) (.int .i64 1) (.slice (some ⟨gt, 0, none⟩) 1 1) (.int .i64 0) (.string ⟨#[]⟩) (.string ⟨#[]⟩) (.slice none 0 0) 34 27
  obtain ⟨gl, hgl⟩ : ∃ g, g = W0.heap.size := ⟨_, rfl⟩
  rw [← hgl] at hj0 hj1 hj2
  have hbw : Below w.heap.size w W1 := below_then hb0 hb0.size hb1
  have HB := Aside0.mk (And.intro hbw (And.intro hg (And.intro hgl (And.intro hsz0 hsz1))))
  have HJ := Aside0.mk (And.intro hj0 (And.intro hj1 hj2))
  have HK := Aside0.mk (And.intro (blk_below hk0 hb1) (And.intro (blk_below hk1 hb1) (blk_below hk2 hb1)))
  have HCT := Aside0.mk (show ∀ X, Below W1.heap.size W1 X → Calls Tryd.prog 24 #[.slice (some ⟨gt, 0, none⟩) 1 1] X fun e w' => ∃ v, e = .returned v ∧ Kd.R kA 29 w' X.heap.size (fun _ => True) v [al] ∧ Below X.heap.size X w' from fun X hX => cloneal_any [al] ⟨gt, 0, none⟩ 1 X (by decide) (Kd.C_below hT (below_then hbw hbw.size hX)))
  obtain ⟨d0, d1, m0, m1, m2, m3, m4, m5, m6⟩ := hS.below hb0
  have k0 := (blk_cell hk0 0).trans rfl
  dsimp at k0
  have ltd := cell_lt d0
  have ltm := cell_lt m0
  dsimp only at ltd ltm
  have ltm1 : gm < W0.heap.size + 1 := by omega
  have ltm2 : gm < W0.heap.size + 1 + 1 := by omega
  clear hS hT hb0 hsz0 hk0 hk1 hk2 hb1 hsz1 hj0 hj1 hj2 hbw
  go_enter Tryd.func11, Tryd.ntmps11
  go_wp2
  rw [← hW0, ← hg]
  clear hW0 hg
  refine wp_loop_rounds 2 ?_
  rw [rounds_succ]
  go_wp2
  refine wp_loop_rounds 2 ?_
  rw [rounds_succ]
  go_wp2
  rw [← hW1, ← hgl]
  clear hW1 hgl d0 d1 m0 m1 m2 m3 m4 m5 m6 k0 ltd ltm ltm1 ltm2
  have HB0 := Aside0.mk (B0 W1)
  obtain ⟨x0, x1, x2, x3, x4, x5, x6⟩ := cells7 HJ.out.2.2
  have y2 := blk_frozen HJ.out.2.2 2
  have y3 := blk_frozen HJ.out.2.2 3
  have y4 := blk_frozen HJ.out.2.2 4
  have y5 := blk_frozen HJ.out.2.2 5
  have y6 := blk_frozen HJ.out.2.2 6
  go_region_with (first
    | (go_at_call 24; refine (HCT.out _ (show Below W1.heap.size W1 _ from by repeat (first | exact HB0.out | apply pw_below_drewN | apply below_drew1))).mono ?_; rintro e W2 ⟨v7, rfl, hr7, h2⟩; obtain ⟨A7, c7, e7⟩ := Kd.R_slice hr7; subst e7; have HX2 := Aside0.mk (below_step (show Below W1.heap.size W1 _ from by repeat (first | exact HB0.out | apply pw_below_drewN | apply below_drew1)) h2); have HR7 := Aside0.mk (Kd.R_lower hr7 (show W1.heap.size ≤ _ from Nat.le_refl _)); clear h2 hr7 x0 x1 x2 x3 x4 x5 x6 y2 y3 y4 y5 y6; obtain ⟨x0, x1, x2, x3, x4, x5, x6⟩ := cells7 (blk_below HJ.out.2.2 HX2.out); have y2 := blk_frozen (blk_below HJ.out.2.2 HX2.out) 2; have y3 := blk_frozen (blk_below HJ.out.2.2 HX2.out) 3; have y4 := blk_frozen (blk_below HJ.out.2.2 HX2.out) 4; have y5 := blk_frozen (blk_below HJ.out.2.2 HX2.out) 5; have y6 := blk_frozen (blk_below HJ.out.2.2 HX2.out) 6)
    | (go_at_call 25; refine (clone_x0R _).mono ?_; rintro e W3 ⟨B, d, rfl, hr6, h3⟩; have HX3 := Aside0.mk (below_step (show Below W1.heap.size W1 _ from by repeat (first | exact HX2.out | apply pw_below_drewN | apply below_drew1)) h3); have HR6 := Aside0.mk hr6; have HR73 := Aside0.mk (Kd.R_below (show Kd.R kA 29 _ W1.heap.size (fun _ => True) _ [al] from HR7.out) h3); clear h3 hr6 x0 x1 x2 x3 x4 x5 x6 y2 y3 y4 y5 y6; obtain ⟨x0, x1, x2, x3, x4, x5, x6⟩ := cells7 (blk_below HJ.out.2.2 HX3.out); have y2 := blk_frozen (blk_below HJ.out.2.2 HX3.out) 2; have y3 := blk_frozen (blk_below HJ.out.2.2 HX3.out) 3; have y4 := blk_frozen (blk_below HJ.out.2.2 HX3.out) 4; have y5 := blk_frozen (blk_below HJ.out.2.2 HX3.out) 5; have y6 := blk_frozen (blk_below HJ.out.2.2 HX3.out) 6))
  all_goals
    obtain ⟨W4, hW4⟩ : ∃ X, X = (((((W3.setCell ⟨gl + 1 + 1, 2, none⟩ (.slice A7 1 c7)).setCell ⟨gl + 1 + 1, 3, none⟩ (.int .i64 0)).setCell ⟨gl + 1 + 1, 4, none⟩ (.string ⟨#[]⟩)).setCell ⟨gl + 1 + 1, 5, none⟩ (.string ⟨#[]⟩)).setCell ⟨gl + 1 + 1, 6, none⟩ (.slice B 0 d)) := ⟨_, rfl⟩
    have hb := HB.out
    have h8 : W4.heap[gl + 1 + 1]? = some (.cells #[.string ⟨#[97]⟩, .int .i64 1, .slice A7 1 c7, .int .i64 0, .string ⟨#[]⟩, .string ⟨#[]⟩, .slice B 0 d] 27 (0, 0)) := by
      rw [hW4]
      refine blk_put (cs := #[.string ⟨#[97]⟩, .int .i64 1, .slice A7 1 c7, .int .i64 0, .string ⟨#[]⟩, .string ⟨#[]⟩, .slice none 0 0]) ?_ 6 _ rfl
      refine blk_put (cs := #[.string ⟨#[97]⟩, .int .i64 1, .slice A7 1 c7, .int .i64 0, .string ⟨#[]⟩, .string ⟨#[]⟩, .slice none 0 0]) ?_ 5 _ rfl
      refine blk_put (cs := #[.string ⟨#[97]⟩, .int .i64 1, .slice A7 1 c7, .int .i64 0, .string ⟨#[]⟩, .string ⟨#[]⟩, .slice none 0 0]) ?_ 4 _ rfl
      refine blk_put (cs := #[.string ⟨#[97]⟩, .int .i64 1, .slice A7 1 c7, .int .i64 0, .string ⟨#[]⟩, .string ⟨#[]⟩, .slice none 0 0]) ?_ 3 _ rfl
      refine blk_put (cs := #[.string ⟨#[97]⟩, .int .i64 1, .slice (some ⟨gt, 0, none⟩) 1 1, .int .i64 0, .string ⟨#[]⟩, .string ⟨#[]⟩, .slice none 0 0]) ?_ 2 _ rfl
      exact blk_below HJ.out.2.2 HX3.out
    have far : ∀ (k : Nat) (o : Obj), k ≠ gl + 1 + 1 → W1.heap[k]? = some o → W4.heap[k]? = some o := fun k o hk ho => by
      have h := blk_below ho HX3.out
      rw [hW4]
      exact (Below.heap_setCell _ ⟨gl + 1 + 1, 6, none⟩ _ k hk).trans ((Below.heap_setCell _ ⟨gl + 1 + 1, 5, none⟩ _ k hk).trans ((Below.heap_setCell _ ⟨gl + 1 + 1, 4, none⟩ _ k hk).trans ((Below.heap_setCell _ ⟨gl + 1 + 1, 3, none⟩ _ k hk).trans ((Below.heap_setCell _ ⟨gl + 1 + 1, 2, none⟩ _ k hk).trans h))))
    have n1 : gl + 1 ≠ gl + 1 + 1 := by omega
    have hsz01 : W0.heap.size = gl := hb.2.2.1.symm
    have h6 := far (gl + 1) _ n1 HJ.out.2.1
    have hg2 := far (g + 1 + 1) _ (by have := hb.2.1; have := hb.2.2.2.1; omega) HK.out.2.2
    have hg1 := far (g + 1) _ (by have := hb.2.1; have := hb.2.2.2.1; omega) HK.out.2.1
    have hnb : ∀ k, W1.heap.size ≤ k → k ≠ gl + 1 + 1 := fun k hk => by have := hb.2.2.2.2; omega
    have hrA : Kd.R kA 29 W4 W1.heap.size (fun k => W1.heap.size ≤ k) (.slice A7 1 c7) [al] := by
      have h := Kd.R_mono (Kd.R_bound HR73.out) (ok' := fun k => W1.heap.size ≤ k) (fun k hk => hk.2.1)
      rw [hW4]
      exact Kd.R_far (p := ⟨gl + 1 + 1, 6, none⟩) (Kd.R_far (p := ⟨gl + 1 + 1, 5, none⟩) (Kd.R_far (p := ⟨gl + 1 + 1, 4, none⟩) (Kd.R_far (p := ⟨gl + 1 + 1, 3, none⟩) (Kd.R_far (p := ⟨gl + 1 + 1, 2, none⟩) h hnb _) hnb _) hnb _) hnb _) hnb _
    have hrE : Kd.R kE 25 W4 W1.heap.size (fun k => W1.heap.size ≤ k) (.slice B 0 d) [] := by
      have h := Kd.R_mono (Kd.R_bound (Kd.R_lower HR6.out HX2.out.size)) (ok' := fun k => W1.heap.size ≤ k) (fun k hk => hk.2.1)
      rw [hW4]
      exact Kd.R_far (p := ⟨gl + 1 + 1, 6, none⟩) (Kd.R_far (p := ⟨gl + 1 + 1, 5, none⟩) (Kd.R_far (p := ⟨gl + 1 + 1, 4, none⟩) (Kd.R_far (p := ⟨gl + 1 + 1, 3, none⟩) (Kd.R_far (p := ⟨gl + 1 + 1, 2, none⟩) h hnb _) hnb _) hnb _) hnb _) hnb _
    have HM := Aside0.mk (show kM.M W4 W1.heap.size (fun k => W1.heap.size ≤ k) mV [.string ⟨#[97]⟩, .int .i64 1, .slice A7 1 c7, .int .i64 0, .string ⟨#[]⟩, .string ⟨#[]⟩, .slice B 0 d] from k27_mkM W4 W1.heap.size _ mV hrA hrE)
    have hs4 : W1.heap.size ≤ W4.heap.size := by rw [hW4]; simp only [World.size_setCell]; exact HX3.out.size
    have hw4 : Below w.heap.size w W4 := by
      have h := below_then hb.1 hb.1.size HX3.out
      have hl : w.heap.size ≤ gl + 1 + 1 := by have := hb.2.2.2.1; omega
      rw [hW4]
      exact (((((h.setCell (p := ⟨gl + 1 + 1, 2, none⟩) hl _).setCell (p := ⟨gl + 1 + 1, 3, none⟩) hl _).setCell (p := ⟨gl + 1 + 1, 4, none⟩) hl _).setCell (p := ⟨gl + 1 + 1, 5, none⟩) hl _).setCell (p := ⟨gl + 1 + 1, 6, none⟩) hl _)
    have H4 := Aside0.mk (And.intro hs4 hw4)
    have HB4 := Aside0.mk (And.intro h6 (And.intro hg1 hg2))
    clear x0 x1 x2 x3 x4 x5 x6 y2 y3 y4 y5 y6
    obtain ⟨x0, x1, x2, x3, x4, x5, x6⟩ := cells7 h8
    obtain ⟨z0, z1⟩ := cells2 h6
    have zf := blk_frozen h6 1
    rw [← hW4]
    clear hW4 far hb hrA hrE hs4 hw4 h8 h6 hg1 hg2 hnb n1 hsz01 HX2 HX3 HR7 HR73 HR6 HB0 HCT
    obtain ⟨u5, hu5⟩ : ∃ u, u = Value.slice none 0 0 := ⟨_, rfl⟩
    rw [← hu5] at z1
    have HU := Aside0.mk hu5
    clear hu5
    go_wp2_with (at_builtin; refine Kd.R_append kM (w0 := W4) W1.heap.size rfl (.tmp 35) (.tmp 37) 32 27 (.agg #[.string ⟨#[]⟩, .int .i64 0, .slice none 0 0, .int .i64 0, .string ⟨#[]⟩, .string ⟨#[]⟩, .slice none 0 0]) 112 rfl Tryd.underlying32 info_me rfl (by decide) (by omega) u5 [] mV [.string ⟨#[97]⟩, .int .i64 1, .slice A7 1 c7, .int .i64 0, .string ⟨#[]⟩, .string ⟨#[]⟩, .slice B 0 d] (fun _ => True) (fun k => W1.heap.size ≤ k) rfl rfl HM.out (fun k _ => ⟨trivial, fun h => by rw [HU.out] at h; cases h⟩) (fun _ _ => trivial) (by rw [HU.out]; exact Kd.R_nil kM _ _ _ _) (Below.refl _ _) H4.out.1 (by decide) ?_; intro v1 w1 ho hb hg hat; have HO1 := Aside0.mk (show Kd.R kM 27 w1 W1.heap.size (fun _ => True) v1 [mV] from ho); obtain ⟨A1, c1, e1⟩ := Kd.R_slice HO1.out; subst e1; have HB5 := Aside0.mk hb; clear ho hb hg hat x0 x1 x2 x3 x4 x5 x6 z0 z1 zf; have lg := HB.out; obtain ⟨z0, z1⟩ := cells2 ((HB5.out.block (gl + 1) (by omega)).trans HB4.out.1); have zf := blk_frozen ((HB5.out.block (gl + 1) (by omega)).trans HB4.out.1) 1; clear lg)
    obtain ⟨W5, hW5⟩ : ∃ X, X = w1.setCell ⟨gl + 1, 1, none⟩ (.slice A1 1 c1) := ⟨_, rfl⟩
    have hb := HB.out
    have k6 : W5.heap[gl + 1]? = some (.cells #[.string ⟨#[100]⟩, .slice A1 1 c1] 34 (0, 0)) := by
      rw [hW5]
      exact blk_put ((HB5.out.block (gl + 1) (by omega)).trans HB4.out.1) 1 _ rfl
    have far5 : ∀ (k : Nat) (o : Obj), k ≠ gl + 1 → k < W1.heap.size → W4.heap[k]? = some o → W5.heap[k]? = some o := fun k o hk hl ho => by
      rw [hW5]
      exact (Below.heap_setCell _ ⟨gl + 1, 1, none⟩ _ k hk).trans ((HB5.out.block k hl).trans ho)
    have hg2 := far5 (g + 1 + 1) _ (by omega) (by omega) HB4.out.2.2
    have hg1 := far5 (g + 1) _ (by omega) (by omega) HB4.out.2.1
    have hnb : ∀ k, W1.heap.size ≤ k → k ≠ gl + 1 := fun k hk => by omega
    have hrM : Kd.R kM 27 W5 W1.heap.size (fun k => W1.heap.size ≤ k) (.slice A1 1 c1) [mV] := by
      rw [hW5]
      exact Kd.R_far (p := ⟨gl + 1, 1, none⟩) (Kd.R_mono (Kd.R_bound HO1.out) (ok' := fun k => W1.heap.size ≤ k) (fun k hk => hk.2.1)) hnb _
    have HD := Aside0.mk (show kD.M W5 W1.heap.size (fun k => W1.heap.size ≤ k) dV [.string ⟨#[100]⟩, .slice A1 1 c1] from k34_mkM W5 W1.heap.size _ dV hrM)
    have hs5 : W1.heap.size ≤ W5.heap.size := by rw [hW5]; simp only [World.size_setCell]; exact Nat.le_trans H4.out.1 HB5.out.size
    have hw5 : Below w.heap.size w W5 := by
      have hl : w.heap.size ≤ gl + 1 := by omega
      rw [hW5]
      exact (H4.out.2.trans (HB5.out.mono hb.1.size)).setCell (p := ⟨gl + 1, 1, none⟩) hl _
    have H5 := Aside0.mk (And.intro hs5 hw5)
    have HG5 := Aside0.mk (And.intro hg1 hg2)
    rw [← hW5]
    clear hW5 hs5 hw5 hrM hnb far5 HB5 HO1 HM H4 HB4 HU z0 z1 zf hb
    obtain ⟨z0, z1⟩ := cells2 k6
    have o1 := (blk_cell hg2 0).trans rfl
    dsimp at o1
    have of := blk_frozen hg2 0
    obtain ⟨u6, hu6⟩ : ∃ u, u = Value.slice none 0 0 := ⟨_, rfl⟩
    rw [← hu6] at o1
    have HU := Aside0.mk hu6
    clear hu6 hg1 hg2 k6
    go_wp2
    rw [rounds_succ]
    go_wp2_with (at_builtin; refine Kd.R_append kD (w0 := W5) W1.heap.size rfl (.tmp 42) (.tmp 44) 35 34 (.agg #[.string ⟨#[]⟩, .slice none 0 0]) 40 rfl Tryd.underlying35 info_de rfl (by decide) (by omega) u6 [] dV [.string ⟨#[100]⟩, .slice A1 1 c1] (fun _ => True) (fun k => W1.heap.size ≤ k) rfl rfl HD.out (fun k _ => ⟨trivial, fun h => by rw [HU.out] at h; cases h⟩) (fun _ _ => trivial) (by rw [HU.out]; exact Kd.R_nil kD _ _ _ _) (Below.refl _ _) H5.out.1 (by decide) ?_; intro v2 w2 ho hb hg hat; have HO2 := Aside0.mk (show Kd.R kD 34 w2 W1.heap.size (fun _ => True) v2 [dV] from ho); obtain ⟨A2, c2, e2⟩ := Kd.R_slice HO2.out; subst e2; have HB6 := Aside0.mk hb; clear ho hb hg hat z0 z1 o1 of; have lg := HB.out; have o1 := (blk_cell ((HB6.out.block (g + 1 + 1) (by omega)).trans HG5.out.2) 0).trans rfl; dsimp at o1; have of := blk_frozen ((HB6.out.block (g + 1 + 1) (by omega)).trans HG5.out.2) 0; clear lg)
    have hb := HB.out
    have g2 : w2.heap[g + 1 + 1]? = some (.cells #[.slice none 0 0] 37 (0, 0)) := (HB6.out.block (g + 1 + 1) (by omega)).trans HG5.out.2
    have g1 : w2.heap[g + 1]? = some (.cells #[.slice none 0 0] 37 (0, 0)) := (HB6.out.block (g + 1) (by omega)).trans HG5.out.1
    obtain ⟨W6, hW6⟩ : ∃ X, X = w2.setCell ⟨g + 1 + 1, 0, none⟩ (.slice A2 1 c2) := ⟨_, rfl⟩
    have g26 : W6.heap[g + 1 + 1]? = some (.cells #[.slice A2 1 c2] 37 (0, 0)) := by rw [hW6]; exact blk_put g2 0 _ rfl
    have g16 : W6.heap[g + 1]? = some (.cells #[.slice none 0 0] 37 (0, 0)) := by rw [hW6]; exact (Below.heap_setCell _ ⟨g + 1 + 1, 0, none⟩ _ (g + 1) (by show g + 1 ≠ g + 1 + 1; omega)).trans g1
    have hnb : ∀ k, W1.heap.size ≤ k → k ≠ g + 1 + 1 := fun k hk => by omega
    have hnc : ∀ k, W1.heap.size ≤ k → k ≠ g + 1 := fun k hk => by omega
    have HO6 := Aside0.mk (show Kd.R kD 34 W6 W1.heap.size (fun k => W1.heap.size ≤ k) (.slice A2 1 c2) [dV] from by
      rw [hW6]
      exact Kd.R_far (p := ⟨g + 1 + 1, 0, none⟩) (Kd.R_mono (Kd.R_bound HO2.out) (ok' := fun k => W1.heap.size ≤ k) (fun k hk => hk.2.1)) hnb _)
    have HB7 := Aside0.mk (show Below w.heap.size w W6 from by
      rw [hW6]
      exact (H5.out.2.trans (HB6.out.mono hb.1.size)).setCell (p := ⟨g + 1 + 1, 0, none⟩) (by show w.heap.size ≤ g + 1 + 1; omega) _)
    have HG6 := Aside0.mk (And.intro g16 (And.intro hnc trivial))
    have o2 := (blk_cell g26 0).trans rfl
    have o3 := (blk_cell g16 0).trans rfl
    dsimp at o2 o3
    have of3 := blk_frozen g16 0
    rw [← hW6]
    clear hW6 g26 g16 g1 g2 hnb hnc hb o1 of HO2 HB6 H5 HG5 HD
    go_wp2
    rw [rounds_succ]
    go_wp2
    refine bodyPost_ret (results_cell_row rfl _ _ (g + 1) 37 #[.slice A2 1 c2] (0, 0) _ rfl ?blk Tryd.underlying37 rfl (by kernel_rfl)) rfl ?_
    case blk => exact blk_put (cs := #[.slice none 0 0]) HG6.out.1 0 _ rfl
    have hb := HB.out
    refine ⟨_, rfl, ?_, ?_⟩
    · exact Kd.R_lower (Kd.R_mono (Kd.R_far (p := ⟨g + 1, 0, none⟩) HO6.out HG6.out.2.1 _) (fun _ _ => trivial)) hb.1.size
    · exact HB7.out.setCell (p := ⟨g + 1, 0, none⟩) (by show w.heap.size ≤ g + 1; omega) _
end Go.Proofs.YtohimcpfmkgefaaDoor.HSc8
/- schema.Same at awake's schema and its clone. -/
namespace Go.Proofs.YtohimcpfmkgefaaDoor.HSc9
open Go.RowKit Go.Proofs.YtohimcpfmkgefaaDoorW.PrintWords Go.Proofs.YtohimcpfmkgefaaDoorW.PrintMore Go.Proofs.YtohimcpfmkgefaaDoor.HLib Go.Proofs.YtohimcpfmkgefaaDoor.HGr Go.Proofs.YtohimcpfmkgefaaDoor.HNameP Go.Proofs.YtohimcpfmkgefaaDoor.HName Go.Proofs.YtohimcpfmkgefaaDoor.HExP Go.Proofs.YtohimcpfmkgefaaDoor.HExL Go.Proofs.YtohimcpfmkgefaaDoor.HExF Go.Proofs.YtohimcpfmkgefaaDoor.HExM Go.Proofs.YtohimcpfmkgefaaDoor.HExN Go.Proofs.YtohimcpfmkgefaaDoor.HSc1 Go.Proofs.YtohimcpfmkgefaaDoor.HSc2 Go.Proofs.YtohimcpfmkgefaaDoor.HSc7 Go.Proofs.YtohimcpfmkgefaaDoor.HSc8
open Go.Proofs.YtohimcpfmkgefaaDoor.PSchemaAllows
set_option linter.unusedVariables false
set_option linter.unusedSimpArgs false
set_option maxRecDepth 100000 in
set_option maxHeartbeats 8000000 in
theorem equal_g (A : Option Addr) (c gs : Nat) (w : World) (h : Kd.C kA w A 1 [al]) (k : Ty w gs) :
    Calls Tryd.prog 19 #[.slice A 1 c, .slice (some ⟨gs, 0, none⟩) 1 1] w fun e w' => e = .returned (.bool true) ∧ Below w.heap.size w w' := by
  obtain ⟨ad, rfl, hc⟩ := al_cells (ks := [al]) h 0 (by decide)
  obtain ⟨t0, t1⟩ := hc w (B0 w)
  obtain ⟨s0, s1⟩ := k
  simp only [al, List.getElem_cons_zero] at t0 t1
  have a0 : ad.add 0 = ad := rfl
  have t0 : w.cell? ad = _ := t0
  have t1 : w.cell? ⟨ad.block, ad.off + 1, none⟩ = _ := t1
  clear hc h
  go_enter Tryd.func19, Tryd.ntmps19
  go_wp2
  refine wp_loop_rounds 2 ?_
  rw [rounds_succ]
  go_wp2
  go_quiet (fail)
  go_wp2
  rw [rounds_succ]
  go_wp2
  go_ret
  exact ⟨rfl, by repeat (first | exact B0 w | apply pw_below_drewN | apply below_drew1)⟩
set_option maxRecDepth 100000 in
set_option maxHeartbeats 8000000 in
theorem same_g (A : Option Addr) (c gs : Nat) (B : Option Addr) (d : Nat) (w : World) (h : Kd.C kA w A 1 [al]) (k : Ty w gs) (hR : Rd w B d X0) :
    Calls Tryd.prog 9 #[.agg #[.string ⟨#[97]⟩, .int .i64 1, .slice A 1 c, .int .i64 0, .string ⟨#[]⟩, .string ⟨#[]⟩, .slice B 0 d], .agg #[.string ⟨#[97]⟩, .int .i64 1, .slice (some ⟨gs, 0, none⟩) 1 1, .int .i64 0, .string ⟨#[]⟩, .string ⟨#[]⟩, .slice none 0 0]] w fun e w' => e = .returned (.bool true) ∧ Below w.heap.size w w' := by
  have HEQ := Aside0.mk (show ∀ W', Below w.heap.size w W' → Calls Tryd.prog 19 #[.slice A 1 c, .slice (some ⟨gs, 0, none⟩) 1 1] W' fun e w' => e = .returned (.bool true) ∧ Below W'.heap.size W' w' from fun W' hb => equal_g A c gs W' (Kd.C_below h hb) (k.below hb))
  have HSX := Aside0.mk (show ∀ W', Below w.heap.size w W' → Calls Tryd.prog 20 #[.agg #[.int .i64 0, .string ⟨#[]⟩, .string ⟨#[]⟩, .slice B 0 d], .agg #[.int .i64 0, .string ⟨#[]⟩, .string ⟨#[]⟩, .slice none 0 0]] W' fun e w' => e = .returned (.bool true) ∧ Below W'.heap.size W' w' from fun W' hb => same_x0 B d W' (hR.below hb))
  obtain ⟨W, hW, hgw, hsz, hx, hz⟩ := two_blocks7 w (.string ⟨#[97]⟩) (.int .i64 1) (.slice A 1 c) (.int .i64 0) (.string ⟨#[]⟩) (.string ⟨#[]⟩) (.slice B 0 d) 27 (.string ⟨#[97]⟩) (.int .i64 1) (.slice (some ⟨gs, 0, none⟩) 1 1) (.int .i64 0) (.string ⟨#[]⟩) (.string ⟨#[]⟩) (.slice none 0 0)
  have HB0 := Aside0.mk hgw.below
  have HX := Aside0.mk hx
  have HZ := Aside0.mk hz
  obtain ⟨gb, hgb⟩ : ∃ g, g = w.heap.size := ⟨_, rfl⟩
  rw [← hgb] at HX HZ
  obtain ⟨x0, x1, x2, x3, x4, x5, x6⟩ := cells7 HX.out
  obtain ⟨z0, z1, z2, z3, z4, z5, z6⟩ := cells7 HZ.out
  clear h k hR hgw hsz hx hz
  go_enter Tryd.func9, Tryd.ntmps9
  go_upto_region 1 with fail
  rw [← hW, ← hgb]
  clear hW hgb
  go_wp2_with (first
    | (go_at_call 19; refine (HEQ.out _ HB0.out).mono ?_; rintro e W1 ⟨rfl, h1⟩; have HB1 := Aside0.mk (below_then HB0.out HB0.out.size h1); obtain ⟨x0, x1, x2, x3, x4, x5, x6⟩ := cells7 (blk_below HX.out h1); obtain ⟨z0, z1, z2, z3, z4, z5, z6⟩ := cells7 (blk_below HZ.out h1); clear h1)
    | (go_at_call 20; refine (HSX.out _ HB1.out).mono ?_; rintro e W2 ⟨rfl, h1⟩; have HB2 := Aside0.mk (below_then HB1.out HB1.out.size h1); clear h1))
  go_ret
  exact ⟨rfl, HB2.out⟩
theorem one7 (w : World) (a b c d e f h : Value) (t : TypeId) (a' b' c' d' e' f' h' : Value) :
    ∃ W, W = (w.alloc (.cells #[a, b, c, d, e, f, h] t)).alloc (.cells #[a', b', c', d', e', f', h'] t) ∧ Below w.heap.size w W ∧ W.heap.size = w.heap.size + 2 ∧ W.heap[w.heap.size]? = some (.cells #[a, b, c, d, e, f, h] t (0, 0)) ∧ W.heap[w.heap.size + 1]? = some (.cells #[a', b', c', d', e', f', h'] t (0, 0)) := by
  obtain ⟨W, h1, h2, h3, h4, h5⟩ := two_blocks7 w a b c d e f h t a' b' c' d' e' f' h'
  exact ⟨W, h1, h2.below, h3, h4, h5⟩
set_option maxRecDepth 100000 in
set_option maxHeartbeats 8000000 in
theorem eqm_g (A : Option Addr) (c gm gt : Nat) (w : World) (h : Kd.C kM w A 1 [mV]) (m0 : w.cell? ⟨gm, 0, none⟩ = some (.string ⟨#[97]⟩)) (m1 : w.cell? ⟨gm, 1, none⟩ = some (.int .i64 1)) (m2 : w.cell? ⟨gm, 2, none⟩ = some (.slice (some ⟨gt, 0, none⟩) 1 1)) (m3 : w.cell? ⟨gm, 3, none⟩ = some (.int .i64 0)) (m4 : w.cell? ⟨gm, 4, none⟩ = some (.string ⟨#[]⟩)) (m5 : w.cell? ⟨gm, 5, none⟩ = some (.string ⟨#[]⟩)) (m6 : w.cell? ⟨gm, 6, none⟩ = some (.slice none 0 0)) (k : Ty w gt) :
    Calls Tryd.prog 23 #[.slice A 1 c, .slice (some ⟨gm, 0, none⟩) 1 1, .func (.func 9) #[] #[]] w fun e w' => e = .returned (.bool true) ∧ Below w.heap.size w w' := by
  obtain ⟨ad, A2, c2, A6, c6, rfl, b0, b1, b2, b3, b4, b5, b6, l2, g2, l6, g6⟩ := at_T27 h 0 (by decide) (by decide)
  have HSM := Aside0.mk (show ∀ W', Below w.heap.size w W' → Calls Tryd.prog 9 #[.agg #[.string ⟨#[97]⟩, .int .i64 1, .slice A2 1 c2, .int .i64 0, .string ⟨#[]⟩, .string ⟨#[]⟩, .slice A6 0 c6], .agg #[.string ⟨#[97]⟩, .int .i64 1, .slice (some ⟨gt, 0, none⟩) 1 1, .int .i64 0, .string ⟨#[]⟩, .string ⟨#[]⟩, .slice none 0 0]] W' fun e w' => e = .returned (.bool true) ∧ Below W'.heap.size W' w' from fun W' hb => same_g A2 c2 gt A6 c6 W' (Kd.C_below g2 hb) (k.below hb) (⟨Kd.C_below g6 hb, l6⟩ : Rd W' A6 c6 X0))
  have b0 : w.cell? ad = some (.string ⟨#[97]⟩) := b0
  have b1 : w.cell? ⟨ad.block, ad.off + 1, none⟩ = some (.int .i64 1) := b1
  have b2 : w.cell? ⟨ad.block, ad.off + 2, none⟩ = some (.slice A2 1 c2) := b2
  have b3 : w.cell? ⟨ad.block, ad.off + 3, none⟩ = some (.int .i64 0) := b3
  have b4 : w.cell? ⟨ad.block, ad.off + 4, none⟩ = some (.string ⟨#[]⟩) := b4
  have b5 : w.cell? ⟨ad.block, ad.off + 5, none⟩ = some (.string ⟨#[]⟩) := b5
  have b6 : w.cell? ⟨ad.block, ad.off + 6, none⟩ = some (.slice A6 0 c6) := b6
  have lt := cell_lt b0
  have ltm := cell_lt m0
  dsimp only at lt ltm
  have ltm1 : gm < w.heap.size + 1 := by omega
  obtain ⟨W, hW, hb, hsz, hx, hz⟩ := one7 w (.string ⟨#[97]⟩) (.int .i64 1) (.slice A2 1 c2) (.int .i64 0) (.string ⟨#[]⟩) (.string ⟨#[]⟩) (.slice A6 0 c6) 27 (.string ⟨#[97]⟩) (.int .i64 1) (.slice (some ⟨gt, 0, none⟩) 1 1) (.int .i64 0) (.string ⟨#[]⟩) (.string ⟨#[]⟩) (.slice none 0 0)
  have HB0 := Aside0.mk hb
  obtain ⟨gb, hgb⟩ : ∃ g, g = w.heap.size := ⟨_, rfl⟩
  rw [← hgb] at hx hz
  obtain ⟨x0, x1, x2, x3, x4, x5, x6⟩ := cells7 hx
  obtain ⟨z0, z1, z2, z3, z4, z5, z6⟩ := cells7 hz
  clear h k l2 g2 l6 g6 hb hsz hx hz
  go_enter Tryd.func23, Tryd.ntmps23
  go_wp2
  refine wp_loop_rounds 2 ?_
  rw [rounds_succ]
  go_upto_region 7 with fail
  rw [← hW, ← hgb]
  clear hW hgb b0 b1 b2 b3 b4 b5 b6 m0 m1 m2 m3 m4 m5 m6
  go_wp2_with (refine (HSM.out _ HB0.out).mono ?_; rintro e W1 ⟨rfl, h1⟩; have HB1 := Aside0.mk (below_then HB0.out HB0.out.size h1); clear h1 x0 x1 x2 x3 x4 x5 x6 z0 z1 z2 z3 z4 z5 z6)
  rw [rounds_succ]
  go_wp2
  go_ret
  exact ⟨rfl, HB1.out⟩
theorem two2 (w : World) (a b a' b' : Value) (t : TypeId) :
    ∃ W, W = (w.alloc (.cells #[a, b] t)).alloc (.cells #[a', b'] t) ∧ Below w.heap.size w W ∧ W.heap.size = w.heap.size + 2 ∧ W.heap[w.heap.size]? = some (.cells #[a, b] t (0, 0)) ∧ W.heap[w.heap.size + 1]? = some (.cells #[a', b'] t (0, 0)) := by
  refine ⟨_, rfl, below_alloc (below_alloc (B0 w) _) _, by rw [World.size_alloc, World.size_alloc], blk_alloc (blk_new w _) _, ?_⟩
  have k := blk_new (w.alloc (.cells #[a, b] t)) (.cells #[a', b'] t)
  rw [World.size_alloc] at k
  exact k
set_option maxRecDepth 100000 in
set_option maxHeartbeats 8000000 in
theorem same1_g (A : Option Addr) (c gm : Nat) (w : World) (hM : ∀ W', Below w.heap.size w W' → Calls Tryd.prog 23 #[.slice A 1 c, .slice (some ⟨gm, 0, none⟩) 1 1, .func (.func 9) #[] #[]] W' fun e w' => e = .returned (.bool true) ∧ Below W'.heap.size W' w') :
    Calls Tryd.prog 22 #[.agg #[.string ⟨#[100]⟩, .slice A 1 c], .agg #[.string ⟨#[100]⟩, .slice (some ⟨gm, 0, none⟩) 1 1]] w fun e w' => e = .returned (.bool true) ∧ Below w.heap.size w w' := by
  obtain ⟨W, hW, hb, hsz, hx, hz⟩ := two2 w (.string ⟨#[100]⟩) (.slice A 1 c) (.string ⟨#[100]⟩) (.slice (some ⟨gm, 0, none⟩) 1 1) 34
  have HB0 := Aside0.mk hb
  have HM := Aside0.mk hM
  obtain ⟨gb, hgb⟩ : ∃ g, g = w.heap.size := ⟨_, rfl⟩
  rw [← hgb] at hx hz
  obtain ⟨x0, x1⟩ := cells2 hx
  obtain ⟨z0, z1⟩ := cells2 hz
  clear hM hb hsz hx hz
  go_enter Tryd.func22, Tryd.ntmps22
  go_upto_region 1 with fail
  rw [← hW, ← hgb]
  clear hW hgb
  go_wp2_with (refine (HM.out _ HB0.out).mono ?_; rintro e W1 ⟨rfl, h1⟩; have HB1 := Aside0.mk (below_then HB0.out HB0.out.size h1); clear h1 x0 x1 z0 z1)
  go_ret
  exact ⟨rfl, HB1.out⟩
set_option maxRecDepth 100000 in
set_option maxHeartbeats 8000000 in
theorem eqd_g (A : Option Addr) (c gd gm gt : Nat) (w : World) (h : Kd.C kD w A 1 [dV]) (hS : Sc w gd gm (.slice (some ⟨gt, 0, none⟩) 1 1)) (hT : Ty w gt) :
    Calls Tryd.prog 21 #[.slice A 1 c, .slice (some ⟨gd, 0, none⟩) 1 1, .func (.func 22) #[] #[]] w fun e w' => e = .returned (.bool true) ∧ Below w.heap.size w w' := by
  obtain ⟨ad, A1, c1, rfl, b0, b1, l1, g1⟩ := at_T34 h 0 (by decide) (by decide)
  have HSM := Aside0.mk (show ∀ W', Below w.heap.size w W' → Calls Tryd.prog 22 #[.agg #[.string ⟨#[100]⟩, .slice A1 1 c1], .agg #[.string ⟨#[100]⟩, .slice (some ⟨gm, 0, none⟩) 1 1]] W' fun e w' => e = .returned (.bool true) ∧ Below W'.heap.size W' w' from fun W' hb => same1_g A1 c1 gm W' (fun W2 h2 => eqm_g A1 c1 gm gt W2 (Kd.C_below (Kd.C_below g1 hb) h2) ((hS.below hb).below h2).m0 ((hS.below hb).below h2).m1 ((hS.below hb).below h2).m2 ((hS.below hb).below h2).m3 ((hS.below hb).below h2).m4 ((hS.below hb).below h2).m5 ((hS.below hb).below h2).m6 ((hT.below hb).below h2)))
  have b0 : w.cell? ad = some (.string ⟨#[100]⟩) := b0
  have b1 : w.cell? ⟨ad.block, ad.off + 1, none⟩ = some (.slice A1 1 c1) := b1
  obtain ⟨d0, d1, -, -, -, -, -, -, -⟩ := hS
  have lt := cell_lt b0
  have ltm := cell_lt d0
  dsimp only at lt ltm
  have ltm1 : gd < w.heap.size + 1 := by omega
  obtain ⟨W, hW, hb, hsz, hx, hz⟩ := two2 w (.string ⟨#[100]⟩) (.slice A1 1 c1) (.string ⟨#[100]⟩) (.slice (some ⟨gm, 0, none⟩) 1 1) 34
  have HB0 := Aside0.mk hb
  obtain ⟨gb, hgb⟩ : ∃ g, g = w.heap.size := ⟨_, rfl⟩
  rw [← hgb] at hx hz
  obtain ⟨x0, x1⟩ := cells2 hx
  obtain ⟨z0, z1⟩ := cells2 hz
  clear h hT l1 g1 hb hsz hx hz
  go_enter Tryd.func21, Tryd.ntmps21
  go_wp2
  refine wp_loop_rounds 2 ?_
  rw [rounds_succ]
  go_upto_region 7 with fail
  rw [← hW, ← hgb]
  clear hW hgb b0 b1 d0 d1
  go_wp2_with (refine (HSM.out _ HB0.out).mono ?_; rintro e W1 ⟨rfl, h1⟩; have HB1 := Aside0.mk (below_then HB0.out HB0.out.size h1); clear h1 x0 x1 z0 z1)
  rw [rounds_succ]
  go_wp2
  go_ret
  exact ⟨rfl, HB1.out⟩
theorem two1 (w : World) (a b : Value) (t : TypeId) :
    ∃ W, W = (w.alloc (.cells #[a] t)).alloc (.cells #[b] t) ∧ Below w.heap.size w W ∧ W.heap.size = w.heap.size + 2 ∧ W.heap[w.heap.size]? = some (.cells #[a] t (0, 0)) ∧ W.heap[w.heap.size + 1]? = some (.cells #[b] t (0, 0)) := by
  refine ⟨_, rfl, below_alloc (below_alloc (B0 w) _) _, by rw [World.size_alloc, World.size_alloc], blk_alloc (blk_new w _) _, ?_⟩
  have k := blk_new (w.alloc (.cells #[a] t)) (.cells #[b] t)
  rw [World.size_alloc] at k
  exact k
set_option maxRecDepth 100000 in
set_option maxHeartbeats 8000000 in
theorem same_s (A : Option Addr) (c gd gm gt : Nat) (w : World) (h : Kd.C kD w A 1 [dV]) (hS : Sc w gd gm (.slice (some ⟨gt, 0, none⟩) 1 1)) (hT : Ty w gt) :
    Calls Tryd.prog 10 #[.agg #[.slice A 1 c], .agg #[.slice (some ⟨gd, 0, none⟩) 1 1]] w fun e w' => e = .returned (.bool true) ∧ Below w.heap.size w w' := by
  obtain ⟨W, hW, hb, hsz, hx, hz⟩ := two1 w (.slice A 1 c) (.slice (some ⟨gd, 0, none⟩) 1 1) 37
  have HB0 := Aside0.mk hb
  have HEQ := Aside0.mk (eqd_g A c gd gm gt W (Kd.C_below h hb) (hS.below hb) (hT.below hb))
  obtain ⟨gb, hgb⟩ : ∃ g, g = w.heap.size := ⟨_, rfl⟩
  rw [← hgb] at hx hz
  have x0 := (blk_cell hx 0).trans rfl
  have z0 := (blk_cell hz 0).trans rfl
  dsimp at x0 z0
  clear h hS hT hb hsz hx hz
  go_enter Tryd.func10, Tryd.ntmps10
  go_upto_region 1 with fail
  rw [← hW, ← hgb]
  clear hW hgb
  go_wp2_with (refine (HEQ.out).mono ?_; rintro e W1 ⟨rfl, h1⟩; have HB1 := Aside0.mk (below_then HB0.out HB0.out.size h1); clear h1 x0 z0)
  go_ret
  exact ⟨rfl, HB1.out⟩
end Go.Proofs.YtohimcpfmkgefaaDoor.HSc9
