/- schema.Form, schema.Count at awake's schemas. -/
import Derived.Test.YtohimcpfmkgefaaDoorUSA
import Derived.BigRegionIn
namespace Go.Proofs.YtohimcpfmkgefaaDoor.HSc5
open Go.RowKit Go.Shelf Go.Proofs.YtohimcpfmkgefaaDoorW.PrintWords Go.Proofs.YtohimcpfmkgefaaDoor.HLib Go.Proofs.YtohimcpfmkgefaaDoor.HGr Go.Proofs.YtohimcpfmkgefaaDoor.HNameP Go.Proofs.YtohimcpfmkgefaaDoor.HName Go.Proofs.YtohimcpfmkgefaaDoor.HExP Go.Proofs.YtohimcpfmkgefaaDoor.HExL Go.Proofs.YtohimcpfmkgefaaDoor.HExF Go.Proofs.YtohimcpfmkgefaaDoor.HExI Go.Proofs.YtohimcpfmkgefaaDoor.HExN Go.Proofs.YtohimcpfmkgefaaDoor.HSc1 Go.Proofs.YtohimcpfmkgefaaDoor.HSc2 Go.Proofs.YtohimcpfmkgefaaDoor.HSc3 Go.Proofs.YtohimcpfmkgefaaDoor.HSc4
open Go.Proofs.YtohimcpfmkgefaaDoor.PSchemaAllows
set_option linter.unusedVariables false
set_option linter.unusedSimpArgs false
attribute [local go_sem] Oper.semAt_some
theorem results_bool {P : Program} {fn : Func} {p : Tmp} {ty : TypeId} (h : fn.results = #[.cell p ty]) (tmps : Array Value) (w : World) (g : Nat) (b : Bool) (hp : tmps.getD p undef = .pointer (some ⟨g, 0, none⟩)) (hc : w.cell? ⟨g, 0, none⟩ = some (.bool b)) (hu : P.underlying ty = some .bool) :
    (results fn tmps).run P w = .ok (.bool b) w := by
  have hp' : tmps[p]?.getD undef = .pointer (some ⟨g, 0, none⟩) := by simpa using hp
  simp [results, h, hp', asAddr, isAgg, loadVar, run_underlying hu, Result.andThen, run_load, hc]
theorem two_cells (w : World) (a : Value) (t : TypeId) (b : Value) (t2 : TypeId) :
    ∃ W, W = (w.alloc (.cells #[a] t)).alloc (.cells #[b] t2) ∧ Below w.heap.size w W ∧ W.heap.size = w.heap.size + 2 ∧ W.heap[w.heap.size]? = some (.cells #[a] t (0, 0)) ∧ W.heap[w.heap.size + 1]? = some (.cells #[b] t2 (0, 0)) := by
  have h1 : (w.alloc (.cells #[a] t)).heap.size = w.heap.size + 1 := World.size_alloc _ _
  refine ⟨_, rfl, below_alloc (below_alloc (B0 w) _) _, by rw [World.size_alloc, h1], blk_alloc (blk_new w _) _, ?_⟩
  have h := blk_new (w.alloc (.cells #[a] t)) (.cells #[b] t2)
  rw [h1] at h
  exact h
set_option maxRecDepth 100000 in
set_option maxHeartbeats 8000000 in
theorem form_any (gd gm : Nat) (A : Option Addr) (nt ct : Nat) (b : Bool) (w : World) (hG : ResG w) (hS : Sc w gd gm (.slice A nt ct))
    (hM : ∀ W1, Below w.heap.size w W1 → Calls Tryd.prog 18 #[.agg #[.string ⟨#[97]⟩, .int .i64 1, .slice A nt ct, .int .i64 0, .string ⟨#[]⟩, .string ⟨#[]⟩, .slice none 0 0]] W1 fun e w' => e = .returned (.bool b) ∧ Below W1.heap.size W1 w') :
    Calls Tryd.prog 8 #[.agg #[.slice (some ⟨gd, 0, none⟩) 1 1]] w fun e w' => e = .returned (.bool b) ∧ Below w.heap.size w w' := by
  obtain ⟨W, hW, hb, hsz, hk, hkr⟩ := two_cells w (.slice (some ⟨gd, 0, none⟩) 1 1) 37 (.bool false) 4
  obtain ⟨g, hgb⟩ : ∃ g, g = w.heap.size := ⟨_, rfl⟩
  rw [← hgb] at hk hkr
  obtain ⟨W1, hW1, hb1, hsz1, hk1⟩ := one_blk2 W (.string ⟨#[100]⟩) (.slice (some ⟨gm, 0, none⟩) 1 1) 34
  have hS0 := hS.below hb
  have hS1 := hS0.below hb1
  have hG1 : ResG W1 := hG.below (below_then hb hb.size hb1) hG.1
  have HIS := Aside0.mk (show CallsIn Fence.wide 2 Tryd.prog 17 #[.string ⟨#[100]⟩] W1 fun e w' => e = .returned (.bool true) ∧ W1 = w' from callsIn_wide.2 (is_d W1 hG1))
  have HMB := Aside0.mk (show CallsIn Fence.wide 2 Tryd.prog 12 #[.agg #[.slice (some ⟨gd, 0, none⟩) 1 1]] W1 fun e w' => e = .returned (.func (.func 26) #[] #[.pointer (some ⟨W1.heap.size, 0, none⟩)]) ∧ w' = W1.alloc (.cells #[.slice (some ⟨gd, 0, none⟩) 1 1] 37) from callsIn_wide.2 (members_any gd W1))
  have k0 := (blk_cell hk 0).trans rfl
  have k1 := (blk_cell (blk_below hk hb1) 0).trans rfl
  dsimp at k0 k1
  obtain ⟨d0, d1, m0, m1, m2, m3, m4, m5, m6⟩ := hS0
  have HS1 := Aside0.mk hS1
  obtain ⟨p0, p1⟩ := cells2 hk1
  obtain ⟨gl, hgl⟩ : ∃ g, g = W.heap.size := ⟨_, rfl⟩
  rw [← hgl] at p0 p1
  have HB1 := Aside0.mk (And.intro hb (And.intro hb1 (And.intro hgb (And.intro hgl (And.intro hsz hsz1)))))
  have HR := Aside0.mk (blk_below hkr hb1)
  have HM := Aside0.mk hM
  clear hS hS1 hG hG1 hb hsz hk hkr hb1 hsz1 hk1 hM
  refine (callsIn_wide (n := 3)).1 ?_
  refine callsIn_of_wp_marks Tryd.func8 rfl trivial ?_ rfl
  simp only [Tryd.ntmps8, List.size_toArray, List.length_cons, List.length_nil, Nat.reduceAdd, Nat.reduceSub, Array.replicate_succ, Array.replicate_zero, List.push_toArray, List.append_toArray, List.nil_append, List.cons_append]
  gi_wp2
  rw [← hW, ← hgb]
  clear hW hgb
  refine wpIn_loop_rounds 2 ?_
  rw [roundsIn_succ]
  gi_wp2
  rw [← hW1, ← hgl]
  clear hW1 hgl
  refine ⟨trivial, (HIS.out).mono ?_⟩
  clear HIS
  rintro e W' ⟨rfl, rfl⟩
  clear k0 d0 d1 m0 m1 m2 m3 m4 m5 m6
  gi_wp2
  rw [roundsIn_succ]
  gi_wp2
  refine ⟨trivial, (HMB.out).mono ?_⟩
  clear HMB
  rintro e W2 ⟨rfl, hW2⟩
  have hb2 : Below W1.heap.size W1 W2 := by rw [hW2]; exact below_alloc (B0 W1) _
  have hk2 : W2.heap[W1.heap.size]? = some (.cells #[.slice (some ⟨gd, 0, none⟩) 1 1] 37 (0, 0)) := by rw [hW2]; exact blk_new W1 _
  have hbw : Below w.heap.size w W2 := below_then HB1.out.1 HB1.out.1.size (below_then HB1.out.2.1 HB1.out.2.1.size hb2)
  have HST := Aside0.mk (members_stops gd gm W1.heap.size (3 - 1) A nt ct W2 (HS1.out.below hb2) hk2)
  have HRR := Aside0.mk (show W2.cell? ⟨g + 1, 0, none⟩ = some (.bool false) ∧ W2.frozen? ⟨g + 1, 0, none⟩ = false from by
    have h := blk_below HR.out hb2
    exact ⟨(blk_cell h 0).trans rfl, blk_frozen h 0⟩)
  have HBW := Aside0.mk hbw
  obtain ⟨gE, hgE⟩ : ∃ q, q = W1.heap.size := ⟨_, rfl⟩
  rw [← hgE] at HST ⊢
  clear hb2 hk2 hbw hW2 hgE p0 p1 k1 HS1
  gi_wp2
  refine wpIn_rangeFunc_ownH (F := Fence.wide) (n := 3) rfl (by decide) (gf := 26) (lb := #[.pointer (some ⟨gE, 0, none⟩)]) rfl trivial (enters_of Tryd.func26 (by kernel_rfl) rfl)
    HST.out (fun _ _ => trivial) (fun _ _ _ _ _ _ _ _ => trivial) (Below.refl _ _) (fun _ => rfl)
    (fun pre W' => ((W'.cell? ⟨g + 1, 0, none⟩ = some (.bool false) ∧ W'.frozen? ⟨g + 1, 0, none⟩ = false) ∧ Below w.heap.size w W') ∧ (pre.length = 0 ∨ b = true))
    (fun cc pre W' => cc = .ret ∧ b = false ∧ (W'.cell? ⟨g + 1, 0, none⟩ = some (.bool false) ∧ Below w.heap.size w W'))
    (OwnFrom.and (OwnFrom.and (Own.from (fun us X Y row hs hg hr => ⟨cell_kept hs.1 hg hr, (frozen_kept hs.1 hg hr).trans hs.2⟩) _) (ownFrom_below (Nat.le_refl _) HBW.out.size)) (ownFrom_pure _ (fun pre : List Unit => pre.length = 0 ∨ b = true)))
    (fun cc us X Y row hs hg hr => ⟨hs.1, hs.2.1, cell_kept hs.2.2.1 hg (fun r e => (hr r e).2), (ownFrom_below (β := Unit) (Nat.le_refl _) HBW.out.size) () X Y row hs.2.2.2 hg hr⟩)
    ⟨⟨HRR.out, HBW.out⟩, .inl rfl⟩
    (fun y a' W' => ∃ Bx, W'.heap[Bx]? = some (.cells #[.string ⟨#[97]⟩, .int .i64 1, .slice A nt ct, .int .i64 0, .string ⟨#[]⟩, .string ⟨#[]⟩, .slice none 0 0] 27 (0, 0)) ∧ a' = { tmps := #[.agg #[.slice (some ⟨gd, 0, none⟩) 1 1], .pointer (some ⟨g, 0, none⟩), .pointer (some ⟨g + 1, 0, none⟩), undef, .pointer (some ⟨gl, 0, none⟩), undef, .pointer (some ⟨Bx, 0, none⟩), .pointer (some ⟨g, 0, none⟩), .slice (some ⟨gd, 0, none⟩) 1 1, .int .i64 1, .bool false, .pointer (some ⟨g, 0, none⟩), .slice (some ⟨gd, 0, none⟩) 1 1, .int .i64 1, .int .i64 1, .bool false, .pointer (some ⟨gd, 0, none⟩), .agg #[.string ⟨#[100]⟩, .slice (some ⟨gm, 0, none⟩) 1 1], .pointer (some ⟨gl, 0, none⟩), .string ⟨#[100]⟩, .bool true, .bool false, .bool false, .pointer (some ⟨gl, 1, none⟩), .slice (some ⟨gm, 0, none⟩) 1 1, .int .i64 1, .bool false, .bool false, .int .i64 1, .agg #[.slice (some ⟨gd, 0, none⟩) 1 1], .func (.func 26) #[] #[.pointer (some ⟨gE, 0, none⟩)], .string ⟨#[100]⟩, .agg #[.string ⟨#[97]⟩, .int .i64 1, .slice A nt ct, .int .i64 0, .string ⟨#[]⟩, .string ⟨#[]⟩, .slice none 0 0], undef, undef, undef], defers := [] })
    (fun y a' _ X Y row hs hg hr => by
      obtain ⟨Bx, h2, h3⟩ := hs
      refine ⟨Bx, (hg.block Bx (Array.getElem?_eq_some_iff.1 h2).1 (fun e' => ?_)).trans h2, h3⟩
      obtain ⟨_, o, ho, hc⟩ := hr Bx e'.symm
      rw [h2] at ho; cases ho; cases hc)
    ?assign ?body ?done ?stop
  case assign =>
    rintro l pre y W' K ⟨⟨⟨h1, h2⟩, hB⟩, hp⟩ hK
    have hbA : Below W'.heap.size W' (W'.alloc (.cells #[.string ⟨#[97]⟩, .int .i64 1, .slice A nt ct, .int .i64 0, .string ⟨#[]⟩, .string ⟨#[]⟩, .slice none 0 0] 27)) := below_alloc (B0 W') _
    have hlt := cell_lt h1
    have HAS := Aside0.mk (hK _ _ ((KeepsOthers.alloc _ _).from _) trivial ⟨⟨⟨(hbA.cell (p := ⟨g + 1, 0, none⟩) hlt).trans h1, (hbA.frozen (p := ⟨g + 1, 0, none⟩) hlt).trans h2⟩, below_then hB hB.size hbA⟩, hp⟩ ⟨W'.heap.size, World.alloc_heap_new W' _, rfl⟩)
    unfold encM
    clear hbA hlt
    gi_wp2
    exact HAS.out
  case body =>
    rintro l pre y a' W' hl ⟨rr, hrr⟩ ⟨⟨⟨h1, h2⟩, hB⟩, hp⟩ ⟨Bx, bX, rfl⟩ hlt
    obtain ⟨x0, x1, x2, x3, x4, x5, x6⟩ := cells7 bX
    have HMW := Aside0.mk (CallsIn.inRound (n := 0) l (callsIn_wide.2 (HM.out W' hB)))
    have HB := Aside0.mk (And.intro hB (And.intro h1 h2))
    clear hlt hrr hl bX hB h1 h2 hp
    gi_wp2
    refine ⟨trivial, (HMW.out).mono ?_⟩
    clear HMW
    rintro e W3 ⟨rfl, h3⟩
    obtain ⟨hB, h1, h2⟩ := HB.out
    have h4 := (h3.cell (p := ⟨g + 1, 0, none⟩) (cell_lt h1)).trans h1
    have h5 := (h3.frozen (p := ⟨g + 1, 0, none⟩) (cell_lt h1)).trans h2
    have hko : KeepsOthers W' W3 := ⟨h3.size, fun k o hk ho => (h3.block k (Array.getElem?_eq_some_iff.1 hk).1).trans hk⟩
    have HB3 := Aside0.mk (below_then hB hB.size h3)
    have HKO := Aside0.mk hko
    have H45 := Aside0.mk (And.intro h4 h5)
    clear hB h1 h2 h3 hko x0 x1 x2 x3 x4 x5 x6
    cases b with
    | true =>
      clear h4 h5
      gi_wp2
      exact ⟨HKO.out.from _, trivial, H45.out, HB3.out⟩
    | false =>
      gi_wp2
      exact ⟨(HKO.out.trans (KeepsOthers.setCell W3 ⟨g + 1, 0, none⟩ _)).from _, rfl, World.cell?_setCell_same' _ _ _ (by rw [H45.out.1]; rfl), HB3.out.setCell (p := ⟨g + 1, 0, none⟩) (by show w.heap.size ≤ g + 1; have := HB1.out.2.2.1; omega) _⟩
  case done =>
    rintro D ys W' hD hok ⟨⟨⟨h1, h2⟩, hB⟩, hp⟩ hK
    obtain rfl : b = true := by rcases hp with hp | hp; (rw [hok] at hp; cases hp); exact hp
    have hgD : g + 1 ≠ D := by have := HB1.out; have h3 := cell_lt HRR.out.1; dsimp only at h3; omega
    have HEND := Aside0.mk (show ((W'.setCell ⟨g + 1, 0, none⟩ (.bool true)).heap[D]? = some (.deferred (some []))) ∧ ((W'.setCell ⟨g + 1, 0, none⟩ (.bool true)).putObj D (.deferred none)).cell? ⟨g + 1, 0, none⟩ = some (.bool true) ∧ Below w.heap.size w ((W'.setCell ⟨g + 1, 0, none⟩ (.bool true)).putObj D (.deferred none)) from by
      have q1 : (W'.setCell ⟨g + 1, 0, none⟩ (.bool true)).heap[D]? = some (.deferred (some [])) := (Below.heap_setCell W' ⟨g + 1, 0, none⟩ (.bool true) D hgD.symm).trans hK
      refine ⟨q1, ?_, ?_⟩
      · rw [World.cell?_of_block (World.putObj_heap_other hgD)]
        exact World.cell?_setCell_same' _ _ _ (by rw [h1]; rfl)
      · have b2 : Below w.heap.size w (W'.setCell ⟨g + 1, 0, none⟩ (.bool true)) := hB.setCell (p := ⟨g + 1, 0, none⟩) (by show w.heap.size ≤ g + 1; have := HB1.out.2.2.1; omega) _
        exact b2.trans (belowK_b (w := w) (Nat.le_refl _) _ D _ _ (Nat.le_trans HBW.out.size hD) q1 rfl rfl))
    gi_wp2
    refine ⟨by simp, .inl ⟨_, _, rfl, run_takeDeferred HEND.out.1, ?_⟩⟩
    exact ⟨_, results_bool rfl _ _ (g + 1) true rfl HEND.out.2.1 Tryd.underlying4, rfl, HEND.out.2.2⟩
  case stop =>
    rintro D cc pre W' hD hok ⟨rfl, rfl, h1, hB⟩ hK
    have hgD : g + 1 ≠ D := by have := HB1.out; have h3 := cell_lt HRR.out.1; dsimp only at h3; omega
    have HEND := Aside0.mk (show (W'.putObj D (.deferred none)).cell? ⟨g + 1, 0, none⟩ = some (.bool false) ∧ Below w.heap.size w (W'.putObj D (.deferred none)) from by
      refine ⟨?_, ?_⟩
      · rw [World.cell?_of_block (World.putObj_heap_other hgD)]
        exact h1
      · exact hB.trans (belowK_b (w := w) (Nat.le_refl _) _ D _ _ (Nat.le_trans HBW.out.size hD) hK rfl rfl))
    gi_wp2
    refine ⟨by simp, .inl ⟨_, _, rfl, run_takeDeferred hK, ?_⟩⟩
    exact ⟨_, results_bool rfl _ _ (g + 1) false rfl HEND.out.1 Tryd.underlying4, rfl, HEND.out.2⟩
end Go.Proofs.YtohimcpfmkgefaaDoor.HSc5
/- schema.Count at awake's schema. -/
namespace Go.Proofs.YtohimcpfmkgefaaDoor.HSc6
open Go.RowKit Go.Shelf Go.Proofs.YtohimcpfmkgefaaDoorW.PrintWords Go.Proofs.YtohimcpfmkgefaaDoor.HLib Go.Proofs.YtohimcpfmkgefaaDoor.HGr Go.Proofs.YtohimcpfmkgefaaDoor.HNameP Go.Proofs.YtohimcpfmkgefaaDoor.HName Go.Proofs.YtohimcpfmkgefaaDoor.HExP Go.Proofs.YtohimcpfmkgefaaDoor.HExL Go.Proofs.YtohimcpfmkgefaaDoor.HExF Go.Proofs.YtohimcpfmkgefaaDoor.HExI Go.Proofs.YtohimcpfmkgefaaDoor.HExN Go.Proofs.YtohimcpfmkgefaaDoor.HSc1 Go.Proofs.YtohimcpfmkgefaaDoor.HSc2 Go.Proofs.YtohimcpfmkgefaaDoor.HSc3 Go.Proofs.YtohimcpfmkgefaaDoor.HSc4 Go.Proofs.YtohimcpfmkgefaaDoor.HSc5
open Go.Proofs.YtohimcpfmkgefaaDoor.PSchemaAllows
set_option linter.unusedVariables false
set_option linter.unusedSimpArgs false
attribute [local go_sem] Oper.semAt_some
theorem results_tii {P : Program} {fn : Func} {p q u : Tmp} {ty : TypeId} (h : fn.results = #[.tmp u, .cell p ty, .cell q ty]) (tmps : Array Value) (w : World) (g g2 : Nat) (k : IntKind) (a b : Int) (hp : tmps.getD p undef = .pointer (some ⟨g, 0, none⟩)) (hq : tmps.getD q undef = .pointer (some ⟨g2, 0, none⟩)) (hc : w.cell? ⟨g, 0, none⟩ = some (.int k a)) (hc2 : w.cell? ⟨g2, 0, none⟩ = some (.int k b)) (hu : P.underlying ty = some (.int k)) :
    (results fn tmps).run P w = .ok (.tuple #[tmps.getD u undef, .int k a, .int k b]) w := by
  have hp' : tmps[p]?.getD undef = .pointer (some ⟨g, 0, none⟩) := by simpa using hp
  have hq' : tmps[q]?.getD undef = .pointer (some ⟨g2, 0, none⟩) := by simpa using hq
  simp [results, h, hp', hq', asAddr, isAgg, loadVar, run_underlying hu, Result.andThen, run_load, hc, hc2]
theorem three_cells (w : World) (a : Value) (t : TypeId) (b : Value) (t2 : TypeId) (c : Value) (t3 : TypeId) :
    ∃ W, W = ((w.alloc (.cells #[a] t)).alloc (.cells #[b] t2)).alloc (.cells #[c] t3) ∧ Below w.heap.size w W ∧ W.heap.size = w.heap.size + 3 ∧ W.heap[w.heap.size]? = some (.cells #[a] t (0, 0)) ∧ W.heap[w.heap.size + 1]? = some (.cells #[b] t2 (0, 0)) ∧ W.heap[w.heap.size + 1 + 1]? = some (.cells #[c] t3 (0, 0)) := by
  obtain ⟨W1, hW1, hb, hs, h1, h2⟩ := two_cells w a t b t2
  refine ⟨_, rfl, ?_, ?_, ?_, ?_, ?_⟩
  · rw [← hW1]; exact below_then hb hb.size (below_alloc (B0 W1) _)
  · rw [← hW1, World.size_alloc, hs]
  · rw [← hW1]; exact blk_alloc h1 _
  · rw [← hW1]; exact blk_alloc h2 _
  · rw [← hW1]
    have h := blk_new W1 (.cells #[c] t3)
    rw [hs] at h
    exact h
theorem region_fin {F : Fence} {n : Nat} {P : Program} {ops : Array Oper} {Q : Exit → Act → World → Prop} {id : Nat} {a : Act} {w : World} (fin : Act) (S : World → Prop) (h : ∀ Q' : Exit → Act → World → Prop, (∀ W2, S W2 → Q' .normal fin W2) → (Code.region id ops true).wpIn F n P Q' a w) (hfin : ∀ W2, S W2 → Q .normal fin W2) :
    (Code.region id ops true).wpIn F n P Q a w := h Q hfin
set_option maxRecDepth 100000 in
set_option maxHeartbeats 8000000 in
theorem count_any (gd gm : Nat) (A : Option Addr) (nt ct : Nat) (w : World) (hS : Sc w gd gm (.slice A nt ct)) :
    Calls Tryd.prog 7 #[.agg #[.slice (some ⟨gd, 0, none⟩) 1 1]] w fun e w' => e = .returned (.tuple #[.int .i64 1, .int .i64 1, .int .i64 0]) ∧ Below w.heap.size w w' := by
  obtain ⟨W, hW, hb, hsz, hk, hkr, hkp⟩ := three_cells w (.slice (some ⟨gd, 0, none⟩) 1 1) 37 (.int .i64 0) 3 (.int .i64 0) 3
  obtain ⟨g, hgb⟩ : ∃ g, g = w.heap.size := ⟨_, rfl⟩
  rw [← hgb] at hk hkr hkp
  have HMB := Aside0.mk (show CallsIn Fence.wide 2 Tryd.prog 12 #[.agg #[.slice (some ⟨gd, 0, none⟩) 1 1]] W fun e w' => e = .returned (.func (.func 26) #[] #[.pointer (some ⟨W.heap.size, 0, none⟩)]) ∧ w' = W.alloc (.cells #[.slice (some ⟨gd, 0, none⟩) 1 1] 37) from callsIn_wide.2 (members_any gd W))
  have k0 := (blk_cell hk 0).trans rfl
  dsimp at k0
  have HS := Aside0.mk (hS.below hb)
  have HB1 := Aside0.mk (And.intro hb (And.intro hgb hsz))
  have HR := Aside0.mk (And.intro hk (And.intro hkr hkp))
  clear hS hb hsz hk hkr hkp
  refine (callsIn_wide (n := 3)).1 ?_
  refine callsIn_of_wp_marks Tryd.func7 rfl trivial ?_ rfl
  simp only [Tryd.ntmps7, List.size_toArray, List.length_cons, List.length_nil, Nat.reduceAdd, Nat.reduceSub, Array.replicate_succ, Array.replicate_zero, List.push_toArray, List.append_toArray, List.nil_append, List.cons_append]
  gi_wp2
  rw [← hW, ← hgb]
  clear hW hgb
  refine ⟨trivial, (HMB.out).mono ?_⟩
  clear HMB
  rintro e W2 ⟨rfl, hW2⟩
  have hb2 : Below W.heap.size W W2 := by rw [hW2]; exact below_alloc (B0 W) _
  have hk2 : W2.heap[W.heap.size]? = some (.cells #[.slice (some ⟨gd, 0, none⟩) 1 1] 37 (0, 0)) := by rw [hW2]; exact blk_new W _
  have hbw : Below w.heap.size w W2 := below_then HB1.out.1 HB1.out.1.size hb2
  have HST := Aside0.mk (members_stops gd gm W.heap.size (3 - 1) A nt ct W2 (HS.out.below hb2) hk2)
  have HRR := Aside0.mk (show ((W2.cell? ⟨g + 1, 0, none⟩ = some (.int .i64 (([] : List Unit).length : Nat)) ∧ W2.frozen? ⟨g + 1, 0, none⟩ = false) ∧ (W2.cell? ⟨g + 1 + 1, 0, none⟩ = some (.int .i64 0) ∧ W2.frozen? ⟨g + 1 + 1, 0, none⟩ = false)) ∧ W2.cell? ⟨g, 0, none⟩ = some (.slice (some ⟨gd, 0, none⟩) 1 1) from by
    have h0 := blk_below HR.out.1 hb2
    have h := blk_below HR.out.2.1 hb2
    have h3 := blk_below HR.out.2.2 hb2
    exact ⟨⟨⟨(blk_cell h 0).trans rfl, blk_frozen h 0⟩, ⟨(blk_cell h3 0).trans rfl, blk_frozen h3 0⟩⟩, (blk_cell h0 0).trans rfl⟩)
  have HBW := Aside0.mk hbw
  obtain ⟨gE, hgE⟩ : ∃ q, q = W.heap.size := ⟨_, rfl⟩
  rw [← hgE] at HST ⊢
  clear hb2 hk2 hbw hW2 hgE k0 HS
  gi_wp2
  refine wpIn_rangeFunc_ownH (F := Fence.wide) (n := 3) rfl (by decide) (gf := 26) (lb := #[.pointer (some ⟨gE, 0, none⟩)]) rfl trivial (enters_of Tryd.func26 (by kernel_rfl) rfl)
    HST.out (fun _ _ => trivial) (fun _ _ _ _ _ _ _ _ => trivial) (Below.refl _ _) (fun _ => rfl)
    (fun pre W' => (((W'.cell? ⟨g + 1, 0, none⟩ = some (.int .i64 (pre.length : Nat)) ∧ W'.frozen? ⟨g + 1, 0, none⟩ = false) ∧ (W'.cell? ⟨g + 1 + 1, 0, none⟩ = some (.int .i64 0) ∧ W'.frozen? ⟨g + 1 + 1, 0, none⟩ = false)) ∧ W'.cell? ⟨g, 0, none⟩ = some (.slice (some ⟨gd, 0, none⟩) 1 1)) ∧ Below w.heap.size w W')
    (fun cc pre W' => False)
    (OwnFrom.and (Own.from (fun us X Y row hs hg hr => ⟨⟨⟨cell_kept hs.1.1.1 hg hr, (frozen_kept hs.1.1.1 hg hr).trans hs.1.1.2⟩, ⟨cell_kept hs.1.2.1 hg hr, (frozen_kept hs.1.2.1 hg hr).trans hs.1.2.2⟩⟩, cell_kept hs.2 hg hr⟩) _) (ownFrom_below (Nat.le_refl _) HBW.out.size))
    (fun cc us X Y row hs hg hr => hs.elim)
    ⟨HRR.out, HBW.out⟩
    (fun y a' W' => ∃ Bx, g + 1 + 1 < Bx ∧ W'.heap[Bx]? = some (.cells #[.string ⟨#[97]⟩, .int .i64 1, .slice A nt ct, .int .i64 0, .string ⟨#[]⟩, .string ⟨#[]⟩, .slice none 0 0] 27 (0, 0)) ∧ a' = { tmps := #[.agg #[.slice (some ⟨gd, 0, none⟩) 1 1], .pointer (some ⟨g, 0, none⟩), .int .i64 0, .pointer (some ⟨g + 1, 0, none⟩), .pointer (some ⟨g + 1 + 1, 0, none⟩), undef, .pointer (some ⟨Bx, 0, none⟩), .agg #[.slice (some ⟨gd, 0, none⟩) 1 1], .func (.func 26) #[] #[.pointer (some ⟨gE, 0, none⟩)], .string ⟨#[100]⟩, .agg #[.string ⟨#[97]⟩, .int .i64 1, .slice A nt ct, .int .i64 0, .string ⟨#[]⟩, .string ⟨#[]⟩, .slice none 0 0], undef, undef, undef, undef, undef, undef, undef, undef, undef, undef, undef, undef, undef], defers := [] })
    (fun y a' _ X Y row hs hg hr => by
      obtain ⟨Bx, h1, h2, h3⟩ := hs
      refine ⟨Bx, h1, (hg.block Bx (Array.getElem?_eq_some_iff.1 h2).1 (fun e' => ?_)).trans h2, h3⟩
      obtain ⟨_, o, ho, hc⟩ := hr Bx e'.symm
      rw [h2] at ho; cases ho; cases hc)
    ?assign ?body ?done ?stop
  case assign =>
    rintro l pre y W' K ⟨⟨⟨⟨h1, h2⟩, h3, h4⟩, h0⟩, hB⟩ hK
    have hbA : Below W'.heap.size W' (W'.alloc (.cells #[.string ⟨#[97]⟩, .int .i64 1, .slice A nt ct, .int .i64 0, .string ⟨#[]⟩, .string ⟨#[]⟩, .slice none 0 0] 27)) := below_alloc (B0 W') _
    have hlt := cell_lt h1
    have hlt3 := cell_lt h3
    have hlt0 := cell_lt h0
    have HAS := Aside0.mk (hK _ _ ((KeepsOthers.alloc _ _).from _) trivial ⟨⟨⟨⟨(hbA.cell (p := ⟨g + 1, 0, none⟩) hlt).trans h1, (hbA.frozen (p := ⟨g + 1, 0, none⟩) hlt).trans h2⟩, (hbA.cell (p := ⟨g + 1 + 1, 0, none⟩) hlt3).trans h3, (hbA.frozen (p := ⟨g + 1 + 1, 0, none⟩) hlt3).trans h4⟩, (hbA.cell (p := ⟨g, 0, none⟩) hlt0).trans h0⟩, below_then hB hB.size hbA⟩ ⟨W'.heap.size, hlt3, World.alloc_heap_new W' _, rfl⟩)
    unfold encM
    clear hbA hlt hlt3 hlt0
    gi_wp2
    exact HAS.out
  case body =>
    rintro l pre y a' W' hl ⟨rr, hrr⟩ ⟨⟨⟨⟨h1, h2⟩, h3, h4⟩, h0⟩, hB⟩ ⟨Bx, hBx, bX, rfl⟩ hlt
    obtain ⟨x0, x1, x2, x3, x4, x5, x6⟩ := cells7 bX
    have e1 : IntKind.i64.wrap ((pre.length : Int) + 1) = (pre.length : Int) + 1 := by rw [IntKind.wrap_i64]; omega
    have ne1 : g + 1 ≠ g + 1 + 1 := by omega
    have ne0 : g + 1 ≠ g := by omega
    have HEND := Aside0.mk (show KeepsOthers W' (W'.setCell ⟨g + 1, 0, none⟩ (.int .i64 ((pre.length : Int) + 1))) ∧ ((((W'.setCell ⟨g + 1, 0, none⟩ (.int .i64 ((pre.length : Int) + 1))).cell? ⟨g + 1, 0, none⟩ = some (.int .i64 ((pre ++ [y]).length : Nat)) ∧ (W'.setCell ⟨g + 1, 0, none⟩ (.int .i64 ((pre.length : Int) + 1))).frozen? ⟨g + 1, 0, none⟩ = false) ∧ ((W'.setCell ⟨g + 1, 0, none⟩ (.int .i64 ((pre.length : Int) + 1))).cell? ⟨g + 1 + 1, 0, none⟩ = some (.int .i64 0) ∧ (W'.setCell ⟨g + 1, 0, none⟩ (.int .i64 ((pre.length : Int) + 1))).frozen? ⟨g + 1 + 1, 0, none⟩ = false)) ∧ (W'.setCell ⟨g + 1, 0, none⟩ (.int .i64 ((pre.length : Int) + 1))).cell? ⟨g, 0, none⟩ = some (.slice (some ⟨gd, 0, none⟩) 1 1)) ∧ Below w.heap.size w (W'.setCell ⟨g + 1, 0, none⟩ (.int .i64 ((pre.length : Int) + 1))) from
      ⟨KeepsOthers.setCell _ _ _, ⟨⟨⟨by rw [List.length_append, List.length_singleton]; exact World.cell?_setCell_same' _ _ _ (by rw [h1]; rfl), by rw [World.frozen?_setCell]; exact h2⟩, (World.cell?_setCell_far _ _ _ _ ne1).trans h3, by rw [World.frozen?_setCell]; exact h4⟩, (World.cell?_setCell_far _ _ _ _ ne0).trans h0⟩, hB.setCell (p := ⟨g + 1, 0, none⟩) (by show w.heap.size ≤ g + 1; have := HB1.out.2.1; omega) _⟩)
    clear hrr hl hB hlt bX ne1 ne0
    gi_wp2
    exact ⟨HEND.out.1.from _, trivial, HEND.out.2⟩
  case done =>
    rintro D ys W' hD hok ⟨⟨⟨⟨h1, h2⟩, h3, h4⟩, h0⟩, hB⟩ hK
    rw [hok] at h1
    have hd1 : g + 1 ≠ D := by have := cell_lt HRR.out.1.1.1; dsimp only at this; omega
    have hd2 : g + 1 + 1 ≠ D := by have := cell_lt HRR.out.1.2.1; dsimp only at this; omega
    have ne1 : g + 1 ≠ g + 1 + 1 := by omega
    have n1 : ((1 : Nat) : Int) = 1 := rfl
    rw [n1] at h1
    have HEND := Aside0.mk (show ∀ X, Below W'.heap.size W' X → ((X.setCell ⟨g + 1, 0, none⟩ (.int .i64 1)).setCell ⟨g + 1 + 1, 0, none⟩ (.int .i64 0)).heap[D]? = some (.deferred (some [])) ∧ ((X.setCell ⟨g + 1, 0, none⟩ (.int .i64 1)).setCell ⟨g + 1 + 1, 0, none⟩ (.int .i64 0)).cell? ⟨g + 1, 0, none⟩ = some (.int .i64 1) ∧ ((X.setCell ⟨g + 1, 0, none⟩ (.int .i64 1)).setCell ⟨g + 1 + 1, 0, none⟩ (.int .i64 0)).cell? ⟨g + 1 + 1, 0, none⟩ = some (.int .i64 0) ∧ Below w.heap.size w ((X.setCell ⟨g + 1, 0, none⟩ (.int .i64 1)).setCell ⟨g + 1 + 1, 0, none⟩ (.int .i64 0)) from fun X hX => by
      have x1 := (hX.cell (p := ⟨g + 1, 0, none⟩) (cell_lt h1)).trans h1
      have x3 := (hX.cell (p := ⟨g + 1 + 1, 0, none⟩) (cell_lt h3)).trans h3
      have xD := (hX.block D (Array.getElem?_eq_some_iff.1 hK).1).trans hK
      refine ⟨?_, ?_, ?_, ?_⟩
      · exact (Below.heap_setCell _ ⟨g + 1 + 1, 0, none⟩ _ D hd2.symm).trans ((Below.heap_setCell X ⟨g + 1, 0, none⟩ _ D hd1.symm).trans xD)
      · exact (World.cell?_setCell_far _ _ _ _ ne1.symm).trans (World.cell?_setCell_same' _ _ _ (by rw [x1]; rfl))
      · exact World.cell?_setCell_same' _ _ _ (by rw [World.cell?_setCell_far _ _ _ _ ne1, x3]; rfl)
      · exact ((below_then hB hB.size hX).setCell (p := ⟨g + 1, 0, none⟩) (by show w.heap.size ≤ g + 1; have := HB1.out.2.1; omega) _).setCell (p := ⟨g + 1 + 1, 0, none⟩) (by show w.heap.size ≤ g + 1 + 1; have := HB1.out.2.1; omega) _)
    have HDD := Aside0.mk (And.intro hd1 (And.intro hd2 (And.intro hD (And.intro HBW.out.size trivial))))
    clear hd1 hd2 hK hB hok
    gi_wp2
    refine region_fin { tmps := #[.agg #[.slice (some ⟨gd, 0, none⟩) 1 1], .pointer (some ⟨g, 0, none⟩), .int .i64 1, .pointer (some ⟨g + 1, 0, none⟩), .pointer (some ⟨g + 1 + 1, 0, none⟩), undef, undef, .agg #[.slice (some ⟨gd, 0, none⟩) 1 1], .func (.func 26) #[] #[.pointer (some ⟨gE, 0, none⟩)], undef, undef, undef, undef, undef, undef, undef, undef, undef, undef, .pointer (some ⟨g, 0, none⟩), .slice (some ⟨gd, 0, none⟩) 1 1, .int .i64 1, .int .i64 1, .int .i64 0], defers := [{ target := .collected D, args := #[] }] } (fun W3 => W3.heap[D]? = some (.deferred (some [])) ∧ W3.cell? ⟨g + 1, 0, none⟩ = some (.int .i64 1) ∧ W3.cell? ⟨g + 1 + 1, 0, none⟩ = some (.int .i64 0) ∧ Below w.heap.size w W3) (fun Q' hq => ?_) (fun W3 hw3 => ?_)
    · gi_region
      all_goals (have hh := HEND.out W' (B0 _); refine hq _ ⟨hh.1, hh.2.1, hh.2.2.1, ?_⟩; repeat (first | exact hh.2.2.2 | apply pw_below_drewN | apply below_drew1))
    · obtain ⟨z1, z2, z3, z4⟩ := hw3
      have HZ := Aside0.mk (And.intro z1 (And.intro z2 (And.intro z3 z4)))
      clear z1 z2 z3 z4 h0 h1 h2 h3 h4
      gi_wp2
      refine ⟨by simp, .inl ⟨_, _, rfl, run_takeDeferred HZ.out.1, ?_⟩⟩
      refine ⟨_, results_tii rfl _ _ (g + 1) (g + 1 + 1) .i64 1 0 rfl rfl ?_ ?_ Tryd.underlying3, rfl, ?_⟩
      · rw [World.cell?_of_block (World.putObj_heap_other HDD.out.1)]; exact HZ.out.2.1
      · rw [World.cell?_of_block (World.putObj_heap_other HDD.out.2.1)]; exact HZ.out.2.2.1
      · exact HZ.out.2.2.2.trans (belowK_b (w := w) (Nat.le_refl _) _ D _ _ (Nat.le_trans HDD.out.2.2.2.1 HDD.out.2.2.1) HZ.out.1 rfl rfl)
  case stop =>
    rintro D cc pre W' hD hok h hK
    exact h.elim
end Go.Proofs.YtohimcpfmkgefaaDoor.HSc6
/- slices.Clone at allowed types. -/
namespace Go.Proofs.YtohimcpfmkgefaaDoor.HSc7
open Go.RowKit Go.Proofs.YtohimcpfmkgefaaDoorW.PrintWords Go.Proofs.YtohimcpfmkgefaaDoorW.PrintMore Go.Proofs.YtohimcpfmkgefaaDoor.HLib Go.Proofs.YtohimcpfmkgefaaDoor.HGr Go.Proofs.YtohimcpfmkgefaaDoor.HNameP Go.Proofs.YtohimcpfmkgefaaDoor.HName Go.Proofs.YtohimcpfmkgefaaDoor.HExP Go.Proofs.YtohimcpfmkgefaaDoor.HExL Go.Proofs.YtohimcpfmkgefaaDoor.HExF Go.Proofs.YtohimcpfmkgefaaDoor.HExM Go.Proofs.YtohimcpfmkgefaaDoor.HExN Go.Proofs.YtohimcpfmkgefaaDoor.HSc1 Go.Proofs.YtohimcpfmkgefaaDoor.HSc2
open Go.Proofs.YtohimcpfmkgefaaDoor.PSchemaAllows
set_option linter.unusedVariables false
set_option linter.unusedSimpArgs false
theorem kA_M {w : World} {base : Nat} {ok : Nat → Prop} {x : Al} {cs : List Value} (h : kA.K w x cs) {w' : World} : kA.M w' base ok x cs := by
  rw [k29_open h]
  exact k29_mkM w' base ok x
theorem info_al : (Tryd.prog.info? 29).map (fun i => (i.zero, i.size, i.bytes)) = some (some (.agg #[(.string ⟨#[]⟩), (.string ⟨#[]⟩)]), 2, 32) := by kernel_rfl
theorem empty_row (w : World) (base : Nat) (hb : base ≤ w.heap.size) : Kd.R kA 29 (w.alloc (.cells #[] 29)) base (fun _ => True) (.slice (some ⟨w.heap.size, 0, none⟩) 0 0) [] :=
  ⟨fun _ _ => trivial, [], ⟨rfl, .inr ⟨w.heap.size, 0, #[], rfl, hb, blk_new w _, Nat.le_refl _, Nat.zero_le _, by simp, rfl⟩⟩, Reps.none _ _⟩
set_option maxRecDepth 20000 in
set_option maxHeartbeats 8000000 in
theorem cloneal_any (ks : List Al) (ad : Addr) (c : Nat) (w : World) (hl : ks.length ≤ 1000000) (hC : Kd.C kA w (some ad) ks.length ks) :
    Calls Tryd.prog 24 #[.slice (some ad) ks.length c] w fun e w' => ∃ v, e = .returned v ∧ Kd.R kA 29 w' w.heap.size (fun _ => True) v ks ∧ Below w.heap.size w w' := by
  have HC := Aside0.mk hC
  have HL := Aside0.mk hl
  obtain ⟨n, hn⟩ : ∃ n, n = ks.length := ⟨_, rfl⟩
  have HN := Aside0.mk hn
  rw [← hn] at HC ⊢
  have hnn := fun w' => Lib.run_eql_slice_nil (P := Tryd.prog) w' 22 29 (some ad) n c 0 0 Tryd.underlying22
  clear hC hl hn
  go_enter Tryd.func24, Tryd.ntmps24
  go_wp2_with (at_builtin; refine Kd.R_append_rows kA (Rr := kA.K w) (w0 := w) w.heap.size rfl (.tmp 5) (.tmp 6) 22 29 (.agg #[(.string ⟨#[]⟩), (.string ⟨#[]⟩)]) 32 rfl Tryd.underlying22 info_al rfl (by decide) (by omega) (.slice (some ⟨w.heap.size, 0, none⟩) 0 0) [] ks (some ad) n c (fun _ => True) (fun _ => False) rfl rfl (empty_row w w.heap.size (Nat.le_refl _)) ?aR (fun x cs h => kA_M h) (fun _ hk => hk.elim) (fun _ _ => trivial) (below_alloc (B0 w) _) (below_alloc (B0 w) _).size ?aL ?_; (case aR => exact Kd.C_below HC.out (below_alloc (B0 w) _)); (case aL => have := HL.out; have := HN.out; simp; omega); intro v1 w1 ho hb hg hat; have HO := Aside0.mk ho; have HB := Aside0.mk hb; clear ho hb hg hat)
  go_ret
  exact ⟨_, rfl, by have h := HO.out; rw [List.nil_append] at h; exact h, HB.out⟩
theorem clone_x0R (w : World) : Calls Tryd.prog 25 #[.agg #[.int .i64 0, .string ⟨#[]⟩, .string ⟨#[]⟩, .slice none 0 0]] w fun e w' => ∃ B d, e = .returned (.agg #[.int .i64 0, .string ⟨#[]⟩, .string ⟨#[]⟩, .slice B 0 d]) ∧ Kd.R kE 25 w' w.heap.size (fun _ => True) (.slice B 0 d) [] ∧ Below w.heap.size w w' := by
  refine (clone_any X0 none 0 w (by decide) (by unfold X0; rw [strE, strL]; exact ⟨⟨by decide, by decide⟩, trivial⟩) (x0_rd w)).mono ?_
  rintro e w' ⟨B, d, rfl, hr, hb⟩
  exact ⟨B, d, rfl, hr, hb⟩
end Go.Proofs.YtohimcpfmkgefaaDoor.HSc7
