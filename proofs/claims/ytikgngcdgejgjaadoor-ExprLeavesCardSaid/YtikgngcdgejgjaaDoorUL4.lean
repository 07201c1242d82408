/- The law ExprLeaves. -/
import Derived.Test.YtikgngcdgejgjaaDoorUOO
import Derived.Test.YtikgngcdgejgjaaDoorUO
import Derived.Stop.RegionWithIn
namespace Go.Proofs.YtikgngcdgejgjaaDoor.HExL4
open Go.RowKit Go.Shelf Go.Proofs.YtikgngcdgejgjaaDoorW.PrintWords Go.Proofs.YtikgngcdgejgjaaDoor.HLib Go.Proofs.YtikgngcdgejgjaaDoor.HGr Go.Proofs.YtikgngcdgejgjaaDoor.HNameP Go.Proofs.YtikgngcdgejgjaaDoor.HName Go.Proofs.YtikgngcdgejgjaaDoor.HExP Go.Proofs.YtikgngcdgejgjaaDoor.HExR Go.Proofs.YtikgngcdgejgjaaDoor.HExQ Go.Proofs.YtikgngcdgejgjaaDoor.HExL Go.Proofs.YtikgngcdgejgjaaDoor.HExF Go.Proofs.YtikgngcdgejgjaaDoor.HExW Go.Proofs.YtikgngcdgejgjaaDoor.HExI Go.Proofs.YtikgngcdgejgjaaDoor.HExT Go.Proofs.YtikgngcdgejgjaaDoor.HExX Go.Proofs.YtikgngcdgejgjaaDoor.HExC Go.Proofs.YtikgngcdgejgjaaDoor.HExN Go.Proofs.YtikgngcdgejgjaaDoor.HExRt Go.Proofs.YtikgngcdgejgjaaDoor.HExK Go.Proofs.YtikgngcdgejgjaaDoor.HExLc Go.Proofs.YtikgngcdgejgjaaDoor.HExOp Go.Proofs.YtikgngcdgejgjaaDoor.HExO Go.Proofs.YtikgngcdgejgjaaDoor.HExLv
open Go.Proofs.YtikgngcdgejgjaaDoor.PExprMatchesReference
set_option linter.unusedVariables false
set_option linter.unusedSimpArgs false
attribute [local go_sem] Oper.semAt_some
theorem results_bool {P : Program} {fn : Func} {p : Tmp} {ty : TypeId} (h : fn.results = #[.cell p ty]) (tmps : Array Value) (w : World) (g : Nat) (b : Bool) (hp : tmps.getD p undef = .pointer (some ⟨g, 0, none⟩)) (hc : w.cell? ⟨g, 0, none⟩ = some (.bool b)) (hu : P.underlying ty = some .bool) :
    (results fn tmps).run P w = .ok (.bool b) w := by
  have hp' : tmps[p]?.getD undef = .pointer (some ⟨g, 0, none⟩) := by simpa using hp
  simp [results, h, hp', asAddr, loadVar, isAgg, run_underlying hu, Result.andThen, run_load, hc]
theorem str_lv {m : Nat} : (∀ x : Ex, strE m x → ∀ y ∈ lvE x, strE m y) ∧ ∀ ks : List Ex, strL m ks → ∀ y ∈ lvL ks, strE m y := by
  refine ex_ind (p := fun x => strE m x → ∀ y ∈ lvE x, strE m y) (q := fun ks => strL m ks → ∀ y ∈ lvL ks, strE m y) ?_ ?_ ?_
  · intro _ y hy; rw [lvL] at hy; cases hy
  · intro x xs h1 h2 hs y hy
    rw [strL] at hs
    rw [lvL] at hy
    rcases List.mem_append.1 hy with hy | hy
    · exact h1 hs.1 y hy
    · exact h2 hs.2 y hy
  · intro x ih hs y hy
    rw [lv_eq] at hy
    split at hy
    · rw [List.mem_singleton.1 hy]; exact hs
    · rw [str_eq] at hs
      exact ih hs.2 y hy
theorem nod_lv : (∀ x : Ex, ∀ y ∈ lvE x, nodE y ≤ nodE x) ∧ ∀ ks : List Ex, ∀ y ∈ lvL ks, nodE y ≤ nodL ks := by
  refine ex_ind (p := fun x => ∀ y ∈ lvE x, nodE y ≤ nodE x) (q := fun ks => ∀ y ∈ lvL ks, nodE y ≤ nodL ks) ?_ ?_ ?_
  · intro y hy; rw [lvL] at hy; cases hy
  · intro x xs h1 h2 y hy
    rw [lvL] at hy
    rw [nodL]
    rcases List.mem_append.1 hy with hy | hy
    · have := h1 y hy; omega
    · have := h2 y hy; omega
  · intro x ih y hy
    rw [lv_eq] at hy
    split at hy
    · rw [List.mem_singleton.1 hy]; exact Nat.le_refl _
    · have := ih y hy
      rw [nod_eq x]
      omega
/-- What every leaf that comes is known to be. -/
def Sub (z : Ex) : Prop := nodE z ≤ 1000000 ∧ strE 100000 z
def Gd (w0 : World) (y : Lf) : Prop := Sub y.1 ∧ Rd w0 y.2.1 y.2.2 y.1
theorem good_sub (w0 : World) : GoodL w0 Sub (Gd w0) where
  kids z hz k hk := by
    obtain ⟨h1, h2⟩ := hz
    rw [str_eq] at h2
    rw [nod_eq] at h1
    exact ⟨by have := nod_mem hk; omega, str_mem h2.2 hk⟩
  good z B d hz hR := ⟨hz, hR⟩
theorem four_cells (w : World) (a b c d : Value) (t : TypeId) (e : Value) (t2 : TypeId) (f : Value) (t3 : TypeId) :
    ∃ W, W = ((w.alloc (.cells #[a, b, c, d] t)).alloc (.cells #[e] t2)).alloc (.cells #[f] t3) ∧ Gr w W ∧ W.heap.size = w.heap.size + 3 ∧ W.heap[w.heap.size]? = some (.cells #[a, b, c, d] t (0, 0)) ∧ W.heap[w.heap.size + 1]? = some (.cells #[e] t2 (0, 0)) ∧ W.heap[w.heap.size + 2]? = some (.cells #[f] t3 (0, 0)) := by
  have h1 : (w.alloc (.cells #[a, b, c, d] t)).heap.size = w.heap.size + 1 := World.size_alloc _ _
  have h2 : ((w.alloc (.cells #[a, b, c, d] t)).alloc (.cells #[e] t2)).heap.size = w.heap.size + 2 := by rw [World.size_alloc, h1]
  refine ⟨_, rfl, (((Gr.refl w).alloc _).alloc _).alloc _, by rw [World.size_alloc, h2], blk_alloc (blk_alloc (blk_new w _) _) _, ?_, ?_⟩
  · have h := blk_new (w.alloc (.cells #[a, b, c, d] t)) (.cells #[e] t2)
    rw [h1] at h
    exact blk_alloc h _
  · have h := blk_new ((w.alloc (.cells #[a, b, c, d] t)).alloc (.cells #[e] t2)) (.cells #[f] t3)
    rw [h2] at h
    exact h
theorem eql_func {P : Program} {t : TypeId} {ps rs : Array TypeId} {vr : Bool} (ht : P.underlying t = some (.func ps rs vr)) (f : Fn) (lb : Array Value) (w : World) : (binOp .eql t (.func f #[] lb) .nilFunc).run P w = .ok (.bool false) w := by
  have h := eqIn_func ht 9999 f lb w
  simp only [binOp]
  simp [Op.equal, Op.maxDepth, h, Result.andThen]
/-- A drawn region whose end is shown once. -/
theorem region_fin {F : Fence} {n : Nat} {P : Program} {ops : Array Oper} {Q : Exit → Act → World → Prop} {id : Nat} {a : Act} {w : World} (fin : Act) (S : World → Prop) (h : ∀ Q' : Exit → Act → World → Prop, (∀ W2, S W2 → Q' .normal fin W2) → (Code.region id ops true).wpIn F n P Q' a w) (hfin : ∀ W2, S W2 → Q .normal fin W2) :
    (Code.region id ops true).wpIn F n P Q a w := h Q hfin
set_option maxRecDepth 100000 in
set_option maxHeartbeats 16000000 in
theorem leaves_few (x : Ex) (A : Option Addr) (c : Nat) (s : Int) (hs0 : 0 ≤ s) (hs1 : s ≤ 255) (hs : strE maxLen x) (cf : fewE x = true) (w : World) (hG : ResG w) (hR : Rd w A c x) :
    Calls Tryd.prog 6 #[.agg #[.int .i64 x.f0, .string x.f1, .string x.f2, .slice A x.f3.length c], .int .u8 s] w fun e w' => e = .returned (.bool true) ∧ Below w.heap.size w w' := by
  obtain ⟨W, hW, hgw, hsz, hk, hks, hkr⟩ := four_cells w (.int .i64 x.f0) (.string x.f1) (.string x.f2) (.slice A x.f3.length c) 24 (.int .u8 s) 5 (.bool false) 4
  have hb := hgw.below
  have hS := small_of_few hs cf
  obtain ⟨g, hgb⟩ : ∃ g, g = w.heap.size := ⟨_, rfl⟩
  rw [← hgb] at hk hks hkr
  have hg : ∀ W', Below W.heap.size W W' → ResG W' := fun W' h => hG.below (below_then hb hb.size h) hG.1
  have hr : ∀ W', Below W.heap.size W W' → Rd W' A c x := fun W' h => hR.below (below_then hb hb.size h)
  have HX := Aside0.mk (B0 W)
  have HZ := Aside0.mk (show ∀ W', Below W.heap.size W W' → (W'.cell? ⟨g, 0, none⟩ = some (.int .i64 x.f0) ∧ W'.cell? ⟨g, 1, none⟩ = some (.string x.f1) ∧ W'.cell? ⟨g, 2, none⟩ = some (.string x.f2) ∧ W'.cell? ⟨g, 3, none⟩ = some (.slice A x.f3.length c)) ∧ W'.cell? ⟨g + 1, 0, none⟩ = some (.int .u8 s) ∧ W'.cell? ⟨g + 1 + 1, 0, none⟩ = some (.bool false) ∧ W'.frozen? ⟨g + 1 + 1, 0, none⟩ = false from
    fun W' h => ⟨cells4 (blk_below hk h), (blk_cell (blk_below hks h) 0).trans rfl, (blk_cell (blk_below hkr h) 0).trans rfl, blk_frozen (blk_below hkr h) 0⟩)
  have HA := Aside0.mk (show ∀ W1, Below W.heap.size W W1 → CallsIn Fence.wide 2 Tryd.prog 8 #[] W1 fun e W2 => e = .returned (.bool true) ∧ Below W.heap.size W W2 from fun W1 h => callsIn_wide.2 ((awake_any W1 (hg W1 h)).mono fun e W2 ⟨h1, h2⟩ => ⟨h1, below_then h h.size h2⟩))
  have HF := Aside0.mk (show ∀ W1, Below W.heap.size W W1 → CallsIn Fence.wide 2 Tryd.prog 9 #[.agg #[.int .i64 x.f0, .string x.f1, .string x.f2, .slice A x.f3.length c]] W1 fun e W2 => e = .returned (.bool true) ∧ Below W.heap.size W W2 from fun W1 h => callsIn_wide.2 ((few_any x A c W1 hs (hr W1 h)).mono fun e W2 ⟨h1, h2⟩ => ⟨by rw [h1, cf], below_then h h.size h2⟩))
  have HRL := Aside0.mk (show ∀ W1, Below W.heap.size W W1 → CallsIn Fence.wide 2 Tryd.prog 19 #[.agg #[.int .i64 x.f0, .string x.f1, .string x.f2, .slice A x.f3.length c]] W1 fun e W2 => ∃ A' c', e = .returned (.slice A' (lvE x).length c') ∧ (lvE x).length ≤ c' ∧ Kd.C kE W2 A' (lvE x).length (lvE x) ∧ Below W.heap.size W W2 from fun W1 h => callsIn_wide.2 ((rleaves_any x A c W1 (small_nod hS) (hr W1 h)).mono fun e W2 ⟨A', c', h1, h2, h3, h4⟩ => ⟨A', c', h1, h2, h3, below_then h h.size h4⟩))
  have HEL := Aside0.mk (show ∀ W1, CallsIn Fence.wide 2 Tryd.prog 20 #[.agg #[.int .i64 x.f0, .string x.f1, .string x.f2, .slice A x.f3.length c]] W1 fun e w' => e = .returned (.func (.func 38) #[] #[.pointer (some ⟨W1.heap.size, 0, none⟩)]) ∧ w' = W1.alloc (.cells #[.int .i64 x.f0, .string x.f1, .string x.f2, .slice A x.f3.length c] 24) from fun W1 => callsIn_wide.2 (leaves_any x A c W1))
  obtain ⟨⟨q0, q1, q2, q3⟩, q4, q5, q6⟩ := HZ.out W HX.out
  have HN := Aside0.mk (show (lvE x).length ≤ 1000000 from Nat.le_trans (lv_bound.1 x) (small_nod hS))
  have HLG := Aside0.mk (show ∀ (j : Nat) (hj : j < (lvE x).length), Sub (lvE x)[j] from fun j hj => ⟨Nat.le_trans (nod_lv.1 x _ (List.getElem_mem hj)) (small_nod hS), str_lv.1 x (small_str hS) _ (List.getElem_mem hj)⟩)
  have HSS := Aside0.mk (And.intro hS (And.intro hs0 hs1))
  have HRR := Aside0.mk hr
  have HGB := Aside0.mk (And.intro hgb hsz)
  have HBW := Aside0.mk hb
  clear hS hs0 hs1 hr hg hs cf hR hG hgw hb hsz
  refine (callsIn_wide (n := 3)).1 ?_
  refine callsIn_of_wp_marks Tryd.func6 rfl trivial ?_ rfl
  simp only [Tryd.ntmps6, List.size_toArray, List.length_cons, List.length_nil, Nat.reduceAdd, Nat.reduceSub, Array.replicate_succ, Array.replicate_zero, List.push_toArray, List.append_toArray, List.nil_append, List.cons_append]
  gi_wp2
  rw [← hW, ← hgb]
  clear hW hgb
  refine ⟨trivial, (HA.out _ HX.out).mono ?_⟩
  rintro e W1 ⟨rfl, h1⟩
  replace HX := Aside0.mk h1
  clear h1 q0 q1 q2 q3 q4 q5 q6
  obtain ⟨⟨q0, q1, q2, q3⟩, q4, q5, q6⟩ := HZ.out W1 HX.out
  gi_wp2
  refine ⟨trivial, (HF.out _ HX.out).mono ?_⟩
  rintro e W2 ⟨rfl, h1⟩
  replace HX := Aside0.mk h1
  clear h1 q0 q1 q2 q3 q4 q5 q6
  obtain ⟨⟨q0, q1, q2, q3⟩, q4, q5, q6⟩ := HZ.out W2 HX.out
  gi_wp2
  refine ⟨trivial, (HRL.out _ HX.out).mono ?_⟩
  rintro e W3 ⟨A', c', rfl, hlc, hC3, h1⟩
  replace HX := Aside0.mk h1
  clear h1 q0 q1 q2 q3 q4 q5 q6
  obtain ⟨nl, hnl⟩ : ∃ n, n = (lvE x).length := ⟨_, rfl⟩
  rw [← hnl] at hlc hC3 ⊢
  have HNL := Aside0.mk hnl
  obtain ⟨W4, hW4⟩ : ∃ W4, W4 = W3.alloc (.cells #[.slice A' nl c'] 22) := ⟨_, rfl⟩
  have hb4 : Below W3.heap.size W3 W4 := by rw [hW4]; exact below_alloc (B0 W3) _
  have hk4 : W4.heap[W3.heap.size]? = some (.cells #[.slice A' nl c'] 22 (0, 0)) := by rw [hW4]; exact blk_new W3 _
  have hs4 : W4.heap.size = W3.heap.size + 1 := by rw [hW4]; exact World.size_alloc _ _
  have hx4 := below_then HX.out HX.out.size hb4
  have hz4 := HZ.out W4 hx4
  rw [hW4] at hz4
  obtain ⟨⟨q0, q1, q2, q3⟩, q4, q5, q6⟩ := hz4
  have HW4 := Aside0.mk (And.intro hW4 (And.intro hs4 (And.intro hb4 (And.intro hx4 (And.intro hk4 (And.intro hC3 hlc))))))
  clear hnl hW4 hs4 hb4 hx4 hk4 hC3 hlc
  gi_wp2
  rw [← HW4.out.1]
  refine ⟨trivial, (HEL.out _).mono ?_⟩
  rintro e W5 ⟨rfl, hW5⟩
  clear q0 q1 q2 q3 q4 q5 q6
  have heq := fun w' => eql_func (P := Tryd.prog) Tryd.underlying34 (.func 38) #[.pointer (some ⟨W4.heap.size, 0, none⟩)] w'
  have HW5 := Aside0.mk hW5
  have HB45 := Aside0.mk (show Below W4.heap.size W4 W5 from by rw [hW5]; exact below_alloc (B0 W4) _)
  have HE5 := Aside0.mk (show W5.heap[W4.heap.size]? = some (.cells #[.int .i64 x.f0, .string x.f1, .string x.f2, .slice A x.f3.length c] 24 (0, 0)) from by rw [hW5]; exact blk_new W4 _)
  have HS5 := Aside0.mk (show W5.heap.size = W4.heap.size + 1 from by rw [hW5]; exact World.size_alloc _ _)
  clear hW5
  gi_wp2
  obtain ⟨W6, hW6⟩ : ∃ W6, W6 = W5.alloc (.cells #[.int .i64 0] 3) := ⟨_, rfl⟩
  rw [← hW6]
  have hb56 : Below W5.heap.size W5 W6 := by rw [hW6]; exact below_alloc (B0 W5) _
  have hs6 : W6.heap.size = W5.heap.size + 1 := by rw [hW6]; exact World.size_alloc _ _
  have hk6 : W6.heap[W5.heap.size]? = some (.cells #[.int .i64 0] 3 (0, 0)) := by rw [hW6]; exact blk_new W5 _
  have hb3 := HW4.out.2.2.1
  have hxw5 : Below W.heap.size W W5 := below_then HW4.out.2.2.2.1 HW4.out.2.2.2.1.size HB45.out
  have hR5 : Rd W5 A c x := HRR.out W5 hxw5
  have hS := HSS.out.1
  have hst := leaves_stopsG W5 Sub (Gd W5) (good_sub W5) W6.heap.size W4.heap.size (3 - 1) x ⟨small_nod hS, small_str hS⟩ A c (small_nod hS) hR5 W6 hb56 (Nat.le_refl _) (blk_below HE5.out hb56)
  have hcn : W6.cell? ⟨W5.heap.size, 0, none⟩ = some (.int .i64 0) ∧ W6.frozen? ⟨W5.heap.size, 0, none⟩ = false := ⟨(blk_cell hk6 0).trans rfl, blk_frozen hk6 0⟩
  have HST := Aside0.mk hst
  have H56 := Aside0.mk (And.intro hb56 hs6)
  have HX5 := Aside0.mk hxw5
  have HC5 := Aside0.mk (show Kd.C kE W5 A' nl (lvE x) from Kd.C_below HW4.out.2.2.2.2.2.1 (below_then hb3 hb3.size HB45.out))
  have HK5 := Aside0.mk (show W5.heap[W3.heap.size]? = some (.cells #[.slice A' nl c'] 22 (0, 0)) from blk_below HW4.out.2.2.2.2.1 HB45.out)
  obtain ⟨gw, hgw⟩ : ∃ q, q = W3.heap.size := ⟨_, rfl⟩
  obtain ⟨gE, hgE⟩ : ∃ q, q = W4.heap.size := ⟨_, rfl⟩
  obtain ⟨gn, hgn⟩ : ∃ q, q = W5.heap.size := ⟨_, rfl⟩
  rw [← hgw] at HK5 ⊢
  rw [← hgE] at HST ⊢
  rw [← hgn] at hcn ⊢
  have HGN := Aside0.mk hgn
  rw [← HNL.out] at HST
  clear hst hgw hgE hgn hW6 hb56 hs6 hk6 hb3 hxw5 hR5 hS heq HW5 HE5 HB45 HS5
  refine wpIn_rangeFunc_ownH (F := Fence.wide) (n := 3) rfl (by decide) (gf := 38) (lb := #[.pointer (some ⟨gE, 0, none⟩)]) rfl trivial (enters_of Tryd.func38 (by kernel_rfl) rfl)
    HST.out kc_t (kc_b H56.out.1.size) (Below.refl _ _) (fun _ => rfl)
    (fun pre W' => ((W'.cell? ⟨gn, 0, none⟩ = some (.int .i64 (pre.length : Nat)) ∧ W'.frozen? ⟨gn, 0, none⟩ = false) ∧ Below W5.heap.size W5 W') ∧ (pre.length : Int) ≤ s)
    (fun cc pre W' => (cc = .exit 0 ∧ ((W'.cell? ⟨gn, 0, none⟩ = some (.int .i64 (pre.length : Nat)) ∧ W'.frozen? ⟨gn, 0, none⟩ = false) ∧ Below W5.heap.size W5 W') ∧ (pre.length : Int) = s + 1) ∨ (cc = .ret ∧ ∃ (p : List { y : Lf // Gd W5 y }) (y : { y : Lf // Gd W5 y }), pre = p ++ [y] ∧ (lvE x)[p.length]? ≠ some y.1.1))
    (OwnFrom.and (OwnFrom.and (Own.from (fun us X Y row hs hg hr => ⟨cell_kept hs.1 hg hr, (frozen_kept hs.1 hg hr).trans hs.2⟩) _) (ownFrom_below (Nat.le_refl _) H56.out.1.size)) (ownFrom_pure _ (fun pre : List { y : Lf // Gd W5 y } => (pre.length : Int) ≤ s)))
    (fun cc us X Y row hs hg hr => by
      rcases hs with ⟨h1, ⟨⟨h2, h3⟩, h4⟩, h5⟩ | h
      · exact .inl ⟨h1, ⟨⟨cell_kept h2 hg (fun r e => (hr r e).2), (frozen_kept h2 hg (fun r e => (hr r e).2)).trans h3⟩, (ownFrom_below (β := Unit) (Nat.le_refl _) H56.out.1.size) () X Y row h4 hg hr⟩, h5⟩
      · exact .inr h)
    ⟨⟨hcn, H56.out.1⟩, by have := HSS.out.2.1; simpa using this⟩
    (fun y a' W' => ∃ Bx, W5.heap.size < Bx ∧ W'.heap[Bx]? = some (.cells #[.int .i64 y.1.1.f0, .string y.1.1.f1, .string y.1.1.f2, .slice y.1.2.1 y.1.1.f3.length y.1.2.2] 24 (0, 0)) ∧ a' = { tmps := #[.agg #[.int .i64 x.f0, .string x.f1, .string x.f2, .slice A x.f3.length c], .int .u8 s, .pointer (some ⟨g, 0, none⟩), .pointer (some ⟨g + 1, 0, none⟩), .pointer (some ⟨g + 1 + 1, 0, none⟩), .pointer (some ⟨gw, 0, none⟩), .func (.func 38) #[] #[.pointer (some ⟨gE, 0, none⟩)], .pointer (some ⟨gn, 0, none⟩), .pointer (some ⟨Bx, 0, none⟩), .bool true, .bool false, .bool false, .agg #[.int .i64 x.f0, .string x.f1, .string x.f2, .slice A x.f3.length c], .bool true, .bool false, .bool false, undef, .agg #[.int .i64 x.f0, .string x.f1, .string x.f2, .slice A x.f3.length c], .slice A' nl c', .agg #[.int .i64 x.f0, .string x.f1, .string x.f2, .slice A x.f3.length c], .func (.func 38) #[] #[.pointer (some ⟨gE, 0, none⟩)], .func (.func 38) #[] #[.pointer (some ⟨gE, 0, none⟩)], .bool false, .func (.func 38) #[] #[.pointer (some ⟨gE, 0, none⟩)], .agg #[.int .i64 y.1.1.f0, .string y.1.1.f1, .string y.1.1.f2, .slice y.1.2.1 y.1.1.f3.length y.1.2.2], undef, undef, undef, undef, undef, undef, undef, undef, undef, undef, undef, undef, undef, undef, undef, undef, undef, undef, undef, undef, undef, undef, undef, undef, undef, undef, undef], defers := [] })
    (fun y a' _ X Y row hs hg hr => by
      obtain ⟨Bx, h1, h2, h3⟩ := hs
      refine ⟨Bx, h1, (hg.block Bx (Array.getElem?_eq_some_iff.1 h2).1 (fun e' => ?_)).trans h2, h3⟩
      obtain ⟨_, o, ho, hc⟩ := hr Bx e'.symm
      rw [h2] at ho; cases ho; cases hc)
    ?assign ?body ?done ?stop
  case assign =>
    rintro l pre y W' K ⟨⟨⟨h1, h2⟩, hB⟩, h3⟩ hK
    have hbA : Below W'.heap.size W' (W'.alloc (.cells #[.int .i64 y.1.1.f0, .string y.1.1.f1, .string y.1.1.f2, .slice y.1.2.1 y.1.1.f3.length y.1.2.2] 24)) := below_alloc (B0 W') _
    have hlt : gn < W'.heap.size := World.block_lt_of_cell? W' _ h1
    have HAS := Aside0.mk (hK _ _ ((KeepsOthers.alloc _ _).from _) (KC.of_below hbA hB.size) ⟨⟨⟨(hbA.cell (p := ⟨gn, 0, none⟩) hlt).trans h1, (hbA.frozen (p := ⟨gn, 0, none⟩) hlt).trans h2⟩, below_then hB hB.size hbA⟩, h3⟩ ⟨W'.heap.size, by have := HGN.out; omega, World.alloc_heap_new W' _, rfl⟩)
    unfold encL
    gi_wp2
    exact HAS.out
  case body =>
    rintro l pre y a' W' hl ⟨rr, hrr⟩ ⟨⟨⟨h1, h2⟩, hB⟩, h3⟩ ⟨Bx, hBx, bX, rfl⟩ hlt
    have hltn : pre.length < nl := hlt
    have hj : pre.length < (lvE x).length := by rw [← HNL.out]; exact hlt
    have hC : Kd.C kE W5 A' (lvE x).length (lvE x) := by rw [← HNL.out]; exact HC5.out
    obtain ⟨ad, B2, d2, hA2, hR2, hcs2⟩ := kid_cells hC pre.length hj
    subst hA2
    obtain ⟨b1, b2, b3, b4⟩ := hcs2 W' hB
    obtain ⟨x0, x1, x2, x3⟩ := cells4 bX
    have hw4 : W'.cell? ⟨gw, 0, none⟩ = some (.slice (some ad) nl c') := (blk_cell (blk_below HK5.out hB) 0).trans rfl
    obtain ⟨z, hz⟩ : ∃ z, z = (lvE x)[pre.length] := ⟨_, rfl⟩
    have hzs : Sub z := by rw [hz]; exact HLG.out pre.length hj
    have hz? : (lvE x)[pre.length]? = some z := by rw [hz]; exact List.getElem?_eq_getElem hj
    have hcall : ∀ WX, Below W'.heap.size W' WX → CallsIn (Fence.wide.inRound l) 0 Tryd.prog 17 #[.agg #[.int .i64 y.1.1.f0, .string y.1.1.f1, .string y.1.1.f2, .slice y.1.2.1 y.1.1.f3.length y.1.2.2], .agg #[.int .i64 z.f0, .string z.f1, .string z.f2, .slice B2 z.f3.length d2]] WX fun e W2 => e = .returned (.int .i64 (cmpE y.1.1 z)) ∧ Below W'.heap.size W' W2 := fun WX hWX =>
      CallsIn.inRound l (callsIn_wide.2 ((rcompare_any y.1.1 z y.1.2.1 B2 y.1.2.2 d2 WX y.2.1.1 y.2.1.2 hzs.1 hzs.2 (y.2.2.below (below_then hB hB.size hWX)) (by rw [hz]; exact hR2.below (below_then hB hB.size hWX))).mono fun e W2 ⟨h1, h2⟩ => ⟨h1, below_then hWX hWX.size h2⟩))
    rw [← hz] at b1 b2 b3 b4
    have f5 : (0 : Int) ≤ (pre.length : Int) := by omega
    have f3 : ¬ (nl : Int) ≤ (pre.length : Int) := by omega
    have f4 : (pre.length : Int) < (nl : Int) := by omega
    have f1 : decide ((nl : Int) ≤ (pre.length : Int)) = false := decide_eq_false f3
    have HCALL := Aside0.mk hcall
    have HP := Aside0.mk (And.intro hz? (And.intro h3 (And.intro hB (And.intro hBx hl))))
    obtain ⟨v, hv⟩ : ∃ v, v = cmpE y.1.1 z := ⟨_, rfl⟩
    rw [← hv] at HCALL
    obtain ⟨b, hbv⟩ : ∃ b, (v != 0) = b := ⟨_, rfl⟩
    have f6 : ¬ nl ≤ pre.length := by omega
    have f7 : decide (nl ≤ pre.length) = false := decide_eq_false f6
    have HV := Aside0.mk (And.intro hv (And.intro hbv ((zero_iff y.1.1 z))))
    have HCN := Aside0.mk (And.intro h1 h2)
    clear hv hcall hz? hz hzs hj hC hcs2 hR2 hltn hlt h3 hB hBx hl
    gi_wp2
    refine region_fin { tmps := #[.agg #[.int .i64 x.f0, .string x.f1, .string x.f2, .slice A x.f3.length c], .int .u8 s, .pointer (some ⟨g, 0, none⟩), .pointer (some ⟨g + 1, 0, none⟩), .pointer (some ⟨g + 1 + 1, 0, none⟩), .pointer (some ⟨gw, 0, none⟩), .func (.func 38) #[] #[.pointer (some ⟨gE, 0, none⟩)], .pointer (some ⟨gn, 0, none⟩), .pointer (some ⟨Bx, 0, none⟩), .bool true, .bool false, .bool false, .agg #[.int .i64 x.f0, .string x.f1, .string x.f2, .slice A x.f3.length c], .bool true, .bool false, .bool false, undef, .agg #[.int .i64 x.f0, .string x.f1, .string x.f2, .slice A x.f3.length c], .slice (some ad) nl c', .agg #[.int .i64 x.f0, .string x.f1, .string x.f2, .slice A x.f3.length c], .func (.func 38) #[] #[.pointer (some ⟨gE, 0, none⟩)], .func (.func 38) #[] #[.pointer (some ⟨gE, 0, none⟩)], .bool false, .func (.func 38) #[] #[.pointer (some ⟨gE, 0, none⟩)], .agg #[.int .i64 y.1.1.f0, .string y.1.1.f1, .string y.1.1.f2, .slice y.1.2.1 y.1.1.f3.length y.1.2.2], .int .i64 (pre.length : Nat), .slice (some ad) nl c', .int .i64 (nl : Nat), .bool false, .bool false, .agg #[.int .i64 y.1.1.f0, .string y.1.1.f1, .string y.1.1.f2, .slice y.1.2.1 y.1.1.f3.length y.1.2.2], .slice (some ad) nl c', .int .i64 (pre.length : Nat), .pointer (some (ad.add (pre.length * 4))), .agg #[.int .i64 z.f0, .string z.f1, .string z.f2, .slice B2 z.f3.length d2], .int .i64 v, .bool b, .bool b, undef, undef, undef, undef, undef, undef, undef, undef, undef, undef, undef, undef, undef, undef], defers := [] } (fun W2 => Below W'.heap.size W' W2) (fun Q' hq => ?_) (fun W2 hw2 => ?_)
    · gi_region_with (refine ⟨trivial, (HCALL.out _ (pw_below_drewN (B0 W') 1)).mono ?_⟩; rintro e W2 ⟨rfl, hw2⟩)
      all_goals exact hq _ hw2
    · dsimp only
      obtain ⟨g1, g2⟩ := HCN.out
      have hgl : gn < W'.heap.size := World.block_lt_of_cell? W' _ g1
      have hB := HP.out.2.2.1
      have hB2 : Below W5.heap.size W5 W2 := below_then hB hB.size hw2
      have hXW : Below W.heap.size W W2 := below_then HX5.out HX5.out.size hB2
      have n1 : W2.cell? ⟨gn, 0, none⟩ = some (.int .i64 (pre.length : Nat)) := (hw2.cell (p := ⟨gn, 0, none⟩) hgl).trans g1
      have n2 : W2.frozen? ⟨gn, 0, none⟩ = false := (hw2.frozen (p := ⟨gn, 0, none⟩) hgl).trans g2
      obtain ⟨_, s1, r1, r2⟩ := HZ.out W2 hXW
      have hgn1 : g + 1 < gn := by have := HGB.out; have := HX5.out.size; have := HGN.out; omega
      have hne : g + 1 ≠ gn := by omega
      have hko : KeepsOthers W' W2 := ⟨hw2.size, fun k o hk ho => (hw2.block k (Array.getElem?_eq_some_iff.1 hk).1).trans hk⟩
      have HFIN := Aside0.mk (And.intro hB2 (And.intro hko (And.intro hw2 hB)))
      clear hgl hB hB2 hXW hgn1 hko hw2 g1 g2 h1 h2 x0 x1 x2 x3 b1 b2 b3 b4 hw4 hcn bX hk hks hkr
      by_cases cv : v = 0
      · obtain rfl : b = false := by rw [← HV.out.2.1, cv]; rfl
        clear cv
        have hs := HSS.out.2
        have e1 : IntKind.i64.wrap ((pre.length : Int) + 1) = (pre.length : Int) + 1 := by rw [IntKind.wrap_i64]; have := HP.out.2.1; omega
        have e2 : IntKind.i64.wrap s = s := by rw [IntKind.wrap_i64]; omega
        have hle := HP.out.2.1
        have k1 : KC W5.heap.size W6.heap.size W2 (W2.setCell ⟨gn, 0, none⟩ (.int .i64 ((pre.length : Int) + 1))) := ⟨(Below.refl W5.heap.size W2).setCell (p := ⟨gn, 0, none⟩) (by have := HGN.out; show W5.heap.size ≤ gn; omega) _, fun k cs t f hk hc2 => blk_far' hc2 (by have := HGN.out; have := H56.out.2; show k ≠ gn; omega) _⟩
        have HKC := Aside0.mk ((KC.of_below (n₁ := W6.heap.size) HFIN.out.2.2.1 HFIN.out.2.2.2.size).trans k1)
        have HKF := Aside0.mk ((HFIN.out.2.1.trans (KeepsOthers.setCell W2 ⟨gn, 0, none⟩ (.int .i64 ((pre.length : Int) + 1)))).from W6.heap.size)
        have HCL := Aside0.mk (show (W2.setCell ⟨gn, 0, none⟩ (.int .i64 ((pre.length : Int) + 1))).cell? ⟨gn, 0, none⟩ = some (.int .i64 ((pre.length : Int) + 1)) from World.cell?_setCell_same' _ _ _ (by rw [n1]; rfl))
        have HFL := Aside0.mk (show (W2.setCell ⟨gn, 0, none⟩ (.int .i64 ((pre.length : Int) + 1))).frozen? ⟨gn, 0, none⟩ = false from by rw [World.frozen?_setCell]; exact n2)
        have HBL := Aside0.mk (show Below W5.heap.size W5 (W2.setCell ⟨gn, 0, none⟩ (.int .i64 ((pre.length : Int) + 1))) from HFIN.out.1.trans k1.below)
        have sx : (W2.setCell ⟨gn, 0, none⟩ (.int .i64 ((pre.length : Int) + 1))).cell? ⟨g + 1, 0, none⟩ = some (.int .u8 s) := (World.cell?_setCell_far W2 ⟨gn, 0, none⟩ ⟨g + 1, 0, none⟩ _ (fun e => hne e.symm)).trans s1
        have nx := HCL.out
        clear k1
        by_cases cs : (pre.length : Int) = s
        · have c1 : s < (pre.length : Int) + 1 := by omega
          have c2 : decide (s < (pre.length : Int) + 1) = true := decide_eq_true c1
          have HLE := Aside0.mk cs
          clear cs hle hs
          gi_wp2
          exact ⟨HKF.out, .inl ⟨rfl, ⟨⟨by rw [List.length_append, List.length_singleton]; exact HCL.out, HFL.out⟩, HBL.out⟩, by rw [List.length_append, List.length_singleton]; have := HLE.out; omega⟩⟩
        · have c1 : ¬ s < (pre.length : Int) + 1 := by clear e1 e2; omega
          have c2 : decide (s < (pre.length : Int) + 1) = false := decide_eq_false c1
          have HLE := Aside0.mk (And.intro cs hle)
          clear cs hle hs
          gi_wp2
          exact ⟨HKF.out, HKC.out, ⟨⟨by rw [List.length_append, List.length_singleton]; exact HCL.out, HFL.out⟩, HBL.out⟩, by rw [List.length_append, List.length_singleton]; have := HLE.out; omega⟩
      · obtain rfl : b = true := by rw [← HV.out.2.1]; simpa using cv
        have HNE := Aside0.mk (show (lvE x)[pre.length]? ≠ some y.1.1 from by
          rw [HP.out.1]
          intro e
          injection e with e
          exact cv (by rw [HV.out.1]; exact HV.out.2.2.2 e.symm))
        clear cv
        gi_wp2
        exact ⟨(HFIN.out.2.1.trans (KeepsOthers.setCell _ _ _)).from _, .inr ⟨rfl, pre, y, rfl, HNE.out⟩⟩
  case done =>
    rintro D ys W' hD hok ⟨⟨⟨h1, h2⟩, hB⟩, h3⟩ hK
    have hyl : ys.length = nl := by
      have h := ok_len hok
      rw [List.length_map] at h
      exact h.trans HNL.out.symm
    rw [hyl] at h1 h3
    have e3 : min (nl : Int) (s + 1) = nl := by omega
    obtain ⟨_, s1, r1, r2⟩ := HZ.out W' (below_then HX5.out HX5.out.size hB)
    have sw := (blk_cell (blk_below HK5.out hB) 0).trans rfl
    dsimp at sw
    have e1 : IntKind.i64.wrap s = s := by have := HSS.out.2; rw [IntKind.wrap_i64]; omega
    have e2 : IntKind.i64.wrap (s + 1) = s + 1 := by have := HSS.out.2; rw [IntKind.wrap_i64]; omega
    have hgD : g + 1 + 1 ≠ D := by have := HGB.out; have := HX5.out.size; have := H56.out; omega
    have HEND := Aside0.mk (show ((W'.setCell ⟨g + 1 + 1, 0, none⟩ (.bool true)).heap[D]? = some (.deferred (some []))) ∧ ((W'.setCell ⟨g + 1 + 1, 0, none⟩ (.bool true)).putObj D (.deferred none)).cell? ⟨g + 1 + 1, 0, none⟩ = some (.bool true) ∧ Below w.heap.size w ((W'.setCell ⟨g + 1 + 1, 0, none⟩ (.bool true)).putObj D (.deferred none)) from by
      have q1 : (W'.setCell ⟨g + 1 + 1, 0, none⟩ (.bool true)).heap[D]? = some (.deferred (some [])) := (Below.heap_setCell W' ⟨g + 1 + 1, 0, none⟩ (.bool true) D hgD.symm).trans hK
      refine ⟨q1, ?_, ?_⟩
      · rw [World.cell?_of_block (World.putObj_heap_other hgD)]
        exact World.cell?_setCell_same' _ _ _ (by rw [r1]; rfl)
      · have b1 : Below w.heap.size w W' := below_then HBW.out HBW.out.size (below_then HX5.out HX5.out.size hB)
        have b2 : Below w.heap.size w (W'.setCell ⟨g + 1 + 1, 0, none⟩ (.bool true)) := b1.setCell (p := ⟨g + 1 + 1, 0, none⟩) (by show w.heap.size ≤ g + 1 + 1; have := HGB.out; omega) _
        exact b2.trans (belowK_b (w := w) (Nat.le_refl _) _ D _ _ (by have := HGB.out; have := HX5.out.size; have := H56.out; omega) q1 rfl rfl))
    refine (‹∀ (a : Act) (w : World), Code.wpIn Fence.wide 3 _ _ _ a w → _› _ _ ?_)
    gi_wp2
    refine ⟨by simp, .inl ⟨_, _, rfl, run_takeDeferred HEND.out.1, ?_⟩⟩
    exact ⟨_, results_bool rfl _ _ (g + 1 + 1) true rfl HEND.out.2.1 Tryd.underlying4, rfl, HEND.out.2.2⟩
  case stop =>
    rintro D cc pre W' hD hok h hK
    rcases h with ⟨rfl, ⟨⟨h1, h2⟩, hB⟩, h3⟩ | ⟨rfl, p, y, rfl, hne⟩
    · have hyl : pre.length ≤ nl := by
        have h := hok.1.length_le
        rw [List.length_map, List.length_map] at h
        rw [HNL.out]
        exact h
      rw [h3] at h1
      have e3 : min (nl : Int) (s + 1) = s + 1 := by omega
      obtain ⟨_, s1, r1, r2⟩ := HZ.out W' (below_then HX5.out HX5.out.size hB)
      have sw := (blk_cell (blk_below HK5.out hB) 0).trans rfl
      dsimp at sw
      have e1 : IntKind.i64.wrap s = s := by have := HSS.out.2; rw [IntKind.wrap_i64]; omega
      have e2 : IntKind.i64.wrap (s + 1) = s + 1 := by have := HSS.out.2; rw [IntKind.wrap_i64]; omega
      have hgD : g + 1 + 1 ≠ D := by have := HGB.out; have := HX5.out.size; have := H56.out; omega
      have HEND := Aside0.mk (show ((W'.setCell ⟨g + 1 + 1, 0, none⟩ (.bool true)).heap[D]? = some (.deferred (some []))) ∧ ((W'.setCell ⟨g + 1 + 1, 0, none⟩ (.bool true)).putObj D (.deferred none)).cell? ⟨g + 1 + 1, 0, none⟩ = some (.bool true) ∧ Below w.heap.size w ((W'.setCell ⟨g + 1 + 1, 0, none⟩ (.bool true)).putObj D (.deferred none)) from by
        have q1 : (W'.setCell ⟨g + 1 + 1, 0, none⟩ (.bool true)).heap[D]? = some (.deferred (some [])) := (Below.heap_setCell W' ⟨g + 1 + 1, 0, none⟩ (.bool true) D hgD.symm).trans hK
        refine ⟨q1, ?_, ?_⟩
        · rw [World.cell?_of_block (World.putObj_heap_other hgD)]
          exact World.cell?_setCell_same' _ _ _ (by rw [r1]; rfl)
        · have b1 : Below w.heap.size w W' := below_then HBW.out HBW.out.size (below_then HX5.out HX5.out.size hB)
          have b2 : Below w.heap.size w (W'.setCell ⟨g + 1 + 1, 0, none⟩ (.bool true)) := b1.setCell (p := ⟨g + 1 + 1, 0, none⟩) (by show w.heap.size ≤ g + 1 + 1; have := HGB.out; omega) _
          exact b2.trans (belowK_b (w := w) (Nat.le_refl _) _ D _ _ (by have := HGB.out; have := HX5.out.size; have := H56.out; omega) q1 rfl rfl))
      gi_wp2
      refine ⟨by simp, .inl ⟨_, _, rfl, run_takeDeferred HEND.out.1, ?_⟩⟩
      exact ⟨_, results_bool rfl _ _ (g + 1 + 1) true rfl HEND.out.2.1 Tryd.underlying4, rfl, HEND.out.2.2⟩
    · exfalso
      apply hne
      obtain ⟨t, ht⟩ := hok.1
      rw [← ht, List.getElem?_append_left (by simp), List.getElem?_map]
      simp
set_option maxRecDepth 100000 in
set_option maxHeartbeats 8000000 in
theorem leaves_not_few (x : Ex) (A : Option Addr) (c : Nat) (s : Int) (hs : strE maxLen x) (cf : fewE x = false) (w : World) (hG : ResG w) (hR : Rd w A c x) :
    Calls Tryd.prog 6 #[.agg #[.int .i64 x.f0, .string x.f1, .string x.f2, .slice A x.f3.length c], .int .u8 s] w fun e w' => e = .returned (.bool true) ∧ Below w.heap.size w w' := by
  obtain ⟨W, hW, hgw, hsz, hk, hks, hkr⟩ := four_cells w (.int .i64 x.f0) (.string x.f1) (.string x.f2) (.slice A x.f3.length c) 24 (.int .u8 s) 5 (.bool false) 4
  have hb := hgw.below
  obtain ⟨g, hgb⟩ : ∃ g, g = w.heap.size := ⟨_, rfl⟩
  rw [← hgb] at hk hks hkr
  have hg : ∀ W', Below W.heap.size W W' → ResG W' := fun W' h => hG.below (below_then hb hb.size h) hG.1
  have hr : ∀ W', Below W.heap.size W W' → Rd W' A c x := fun W' h => hR.below (below_then hb hb.size h)
  have HX := Aside0.mk (B0 W)
  have HZ := Aside0.mk (show ∀ W', Below W.heap.size W W' → (W'.cell? ⟨g, 0, none⟩ = some (.int .i64 x.f0) ∧ W'.cell? ⟨g, 1, none⟩ = some (.string x.f1) ∧ W'.cell? ⟨g, 2, none⟩ = some (.string x.f2) ∧ W'.cell? ⟨g, 3, none⟩ = some (.slice A x.f3.length c)) ∧ W'.cell? ⟨g + 1, 0, none⟩ = some (.int .u8 s) ∧ W'.cell? ⟨g + 1 + 1, 0, none⟩ = some (.bool false) ∧ W'.frozen? ⟨g + 1 + 1, 0, none⟩ = false from
    fun W' h => ⟨cells4 (blk_below hk h), (blk_cell (blk_below hks h) 0).trans rfl, (blk_cell (blk_below hkr h) 0).trans rfl, blk_frozen (blk_below hkr h) 0⟩)
  have HA := Aside0.mk (show ∀ W1, Below W.heap.size W W1 → CallsIn Fence.wide 2 Tryd.prog 8 #[] W1 fun e W2 => e = .returned (.bool true) ∧ Below W.heap.size W W2 from fun W1 h => callsIn_wide.2 ((awake_any W1 (hg W1 h)).mono fun e W2 ⟨h1, h2⟩ => ⟨h1, below_then h h.size h2⟩))
  have HF := Aside0.mk (show ∀ W1, Below W.heap.size W W1 → CallsIn Fence.wide 2 Tryd.prog 9 #[.agg #[.int .i64 x.f0, .string x.f1, .string x.f2, .slice A x.f3.length c]] W1 fun e W2 => e = .returned (.bool false) ∧ Below W.heap.size W W2 from fun W1 h => callsIn_wide.2 ((few_any x A c W1 hs (hr W1 h)).mono fun e W2 ⟨h1, h2⟩ => ⟨by rw [h1, cf], below_then h h.size h2⟩))
  obtain ⟨⟨q0, q1, q2, q3⟩, q4, q5, q6⟩ := HZ.out W HX.out
  have HGB := Aside0.mk (And.intro hgb hsz)
  have HBW := Aside0.mk hb
  clear hr hg hs cf hR hG hgw hb hsz
  refine (callsIn_wide (n := 3)).1 ?_
  refine callsIn_of_wp_marks Tryd.func6 rfl trivial ?_ rfl
  simp only [Tryd.ntmps6, List.size_toArray, List.length_cons, List.length_nil, Nat.reduceAdd, Nat.reduceSub, Array.replicate_succ, Array.replicate_zero, List.push_toArray, List.append_toArray, List.nil_append, List.cons_append]
  gi_wp2
  rw [← hW, ← hgb]
  clear hW hgb
  refine ⟨trivial, (HA.out _ HX.out).mono ?_⟩
  rintro e W1 ⟨rfl, h1⟩
  replace HX := Aside0.mk h1
  clear h1 q0 q1 q2 q3 q4 q5 q6
  obtain ⟨⟨q0, q1, q2, q3⟩, q4, q5, q6⟩ := HZ.out W1 HX.out
  gi_wp2
  refine ⟨trivial, (HF.out _ HX.out).mono ?_⟩
  rintro e W2 ⟨rfl, h1⟩
  replace HX := Aside0.mk h1
  clear h1 q0 q1 q2 q3 q4 q5 q6
  obtain ⟨⟨q0, q1, q2, q3⟩, q4, q5, q6⟩ := HZ.out W2 HX.out
  gi_wp2
  refine ⟨trivial, (HA.out _ HX.out).mono ?_⟩
  rintro e W3 ⟨rfl, h1⟩
  replace HX := Aside0.mk h1
  clear h1 q0 q1 q2 q3 q4 q5 q6
  obtain ⟨⟨q0, q1, q2, q3⟩, q4, q5, q6⟩ := HZ.out W3 HX.out
  have HEND := Aside0.mk (show (W3.setCell ⟨g + 1 + 1, 0, none⟩ (.bool true)).cell? ⟨g + 1 + 1, 0, none⟩ = some (.bool true) ∧ Below w.heap.size w (W3.setCell ⟨g + 1 + 1, 0, none⟩ (.bool true)) from
    ⟨World.cell?_setCell_same' _ _ _ (by rw [q5]; rfl), (below_then HBW.out HBW.out.size HX.out).setCell (p := ⟨g + 1 + 1, 0, none⟩) (by show w.heap.size ≤ g + 1 + 1; have := HGB.out; omega) _⟩)
  gi_wp2
  exact ⟨_, results_bool rfl _ _ (g + 1 + 1) true rfl HEND.out.1 Tryd.underlying4, rfl, HEND.out.2⟩
theorem row_leaves (v0 : Value) (a0 : Ex) (a1 : Int) (W : World) {base : Nat} (hv0 : Value.okWide Tryd.prog W .any base 24 v0) (k0 : kE.K W a0 v0.cells.toList) (ok0 : strE maxLen a0) (w1 : (Lit.int .u8 a1).wf = true) (hG : ResG W) :
    Calls Tryd.prog 6 #[v0, .int .u8 a1] W fun e w' => e = .returned (.bool true) ∧ Below W.heap.size W w' := by
  obtain ⟨A, c, rfl, hR⟩ := expr_of hv0 k0
  obtain ⟨h0, h1⟩ := wf_u8 w1
  by_cases cf : fewE a0 = true
  · exact leaves_few a0 A c a1 h0 (by omega) ok0 cf W hG hR
  · exact leaves_not_few a0 A c a1 ok0 (by simpa using cf) W hG hR
end Go.Proofs.YtikgngcdgejgjaaDoor.HExL4
