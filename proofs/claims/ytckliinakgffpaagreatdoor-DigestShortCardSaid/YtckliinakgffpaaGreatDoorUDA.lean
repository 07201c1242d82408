/- The empty schema: form, clone, same, canonical. -/
import Derived.Test.YtckliinakgffpaaGreatDoorUN
import Derived.Test.YtckliinakgffpaaGreatDoorUV
import Derived.RangeFuncNested
import Derived.RangeFuncBound
import Derived.RangeFuncCalls
import Derived.RangeFuncLeaves
import Derived.RangeFuncBox
import Derived.Shelf.Abstract
import Derived.Shelf.RegionOpen
import Derived.WalkKit
import Derived.OwnWalkIn
import Derived.TacticsInMore
import Derived.LoopNIn
import Derived.LoopIn
import Derived.Handy
import Derived.Carry
import Derived.Laws.EntriesVeiled
import Derived.Test.YtckliinakgffpaaGreatDoorUP
import Derived.Test.YtckliinakgffpaaGreatDoorShelf
namespace Go.Proofs.YtckliinakgffpaaGreatDoor.HDg1
open Go.RowKit Go.Shelf Go.Proofs.YtckliinakgffpaaGreatDoorW.PrintWords Go.Proofs.YtckliinakgffpaaGreatDoor.HLib Go.Proofs.YtckliinakgffpaaGreatDoor.HGr Go.Proofs.YtckliinakgffpaaGreatDoor.HNameP Go.Proofs.YtckliinakgffpaaGreatDoor.HName
open Go.Proofs.YtckliinakgffpaaGreatDoor.PDigestShort
set_option linter.unusedVariables false
set_option linter.unusedSimpArgs false
attribute [local go_sem] Oper.semAt_some
theorem is_nil (w : World) (hG : ResG w) : Calls Tryz.prog 47 #[.string ⟨#[]⟩] w fun e w' => e = .returned (.bool false) ∧ w = w' := by
  have h := is_any ⟨#[]⟩ w hG
  rw [show isP ⟨#[]⟩ = false from by decide +kernel] at h
  exact h
theorem clone_nil (w : World) : Calls Tryz.prog 39 #[.agg #[.slice none 0 0]] w fun e w' => e = .returned (.agg #[.slice none 0 0]) ∧ Below w.heap.size w w' := by
  go_enter Tryz.func39, Tryz.ntmps39
  go_wp2
  refine wp_loop_rounds 1 ?_
  rw [rounds_succ]
  go_wp2
  go_returns
  exact ⟨rfl, by (repeat apply below_alloc); exact B0 w⟩
theorem same_nil (w : World) : Calls Tryz.prog 17 #[.agg #[.slice none 0 0], .agg #[.slice none 0 0]] w fun e w' => e = .returned (.bool true) ∧ Below w.heap.size w w' := by
  go_enter Tryz.func17, Tryz.ntmps17
  go_wp2_with (go_at_call 35; go_enter Tryz.func35, Tryz.ntmps35)
  refine wp_loop_rounds 1 ?_
  rw [rounds_succ]
  go_wp2
  go_ret
  exact ⟨rfl, by (repeat apply below_alloc); exact B0 w⟩
theorem sort_nil (w : World) (g : Fn) (b1 b2 : Array Value) : Calls Tryz.prog 45 #[.slice none 0 0, .func g b1 b2] w fun e w' => e = .returned (.tuple #[]) ∧ w = w' := by
  go_enter Tryz.func45, Tryz.ntmps45
  go_wp2_with (first | (go_at_call 74; go_enter Tryz.func74, Tryz.ntmps74) | (go_at_call 100; go_enter Tryz.func100, Tryz.ntmps100))
  refine wp_loop_rounds 1 ?_
  rw [rounds_succ]
  go_wp2_with (go_at_call 100; go_enter Tryz.func100, Tryz.ntmps100)
  refine wp_loop_rounds 1 ?_
  rw [rounds_succ]
  go_wp2
  refine wp_loop_rounds 1 ?_
  rw [rounds_succ]
  go_wp2
  go_end0
  exact ⟨rfl, rfl⟩
theorem two_cells (w : World) (a : Value) (t : TypeId) (b : Value) (t2 : TypeId) :
    ∃ W, W = (w.alloc (.cells #[a] t)).alloc (.cells #[b] t2) ∧ Below w.heap.size w W ∧ W.heap.size = w.heap.size + 2 ∧ W.heap[w.heap.size]? = some (.cells #[a] t (0, 0)) ∧ W.heap[w.heap.size + 1]? = some (.cells #[b] t2 (0, 0)) := by
  have h1 : (w.alloc (.cells #[a] t)).heap.size = w.heap.size + 1 := World.size_alloc _ _
  refine ⟨_, rfl, below_alloc (below_alloc (B0 w) _) _, by rw [World.size_alloc, h1], blk_alloc (blk_new w _) _, ?_⟩
  have h := blk_new (w.alloc (.cells #[a] t)) (.cells #[b] t2)
  rw [h1] at h
  exact h
theorem cell_lt {W : World} {a : Addr} {v : Value} (h : W.cell? a = some v) : a.block < W.heap.size := World.block_lt_of_cell? W _ h
set_option maxRecDepth 100000 in
theorem canon_nil (w : World) : Calls Tryz.prog 18 #[.agg #[.slice none 0 0]] w fun e w' => e = .returned (.agg #[.slice none 0 0]) ∧ Below w.heap.size w w' := by
  have HCL := Aside0.mk clone_nil
  have HSO := Aside0.mk sort_nil
  obtain ⟨W, hW, hb, hsz, k0, k1⟩ := two_cells w (.slice none 0 0) 32 (.slice none 0 0) 32
  obtain ⟨g, hg⟩ : ∃ g, g = w.heap.size := ⟨_, rfl⟩
  rw [← hg] at k0 k1
  have HK := Aside0.mk k1
  have HB := Aside0.mk (And.intro hb hg)
  have c0 := (blk_cell k0 0).trans rfl
  dsimp at c0
  clear k0 k1 hb hsz
  go_enter Tryz.func18, Tryz.ntmps18
  go_upto_region 1 with fail
  rw [← hW, ← hg]
  clear hW hg
  go_upto_region 2 with (go_at_call 39; refine (HCL.out _).mono ?_; rintro e W1 ⟨rfl, h1⟩; have HB1 := Aside0.mk h1; clear h1 c0)
  obtain ⟨W2, hW2⟩ : ∃ X, X = W1.alloc (.cells #[.slice none 0 0] 32) := ⟨_, rfl⟩
  have hB2 : Below W.heap.size W W2 := by rw [hW2]; exact HB1.out.alloc HB1.out.size _
  have hK2 := blk_below HK.out hB2
  have c2 : W2.cell? ⟨W1.heap.size, 0, none⟩ = some (.slice none 0 0) := by rw [hW2]; exact (blk_cell (blk_new W1 _) 0).trans rfl
  have c1 := (blk_cell hK2 0).trans rfl
  dsimp at c1
  have f1 := blk_frozen hK2 0
  have HB2 := Aside0.mk hB2
  rw [← hW2]
  clear hW2 hB2 hK2 HB1
  go_wp2
  refine wp_loop_rounds 1 ?_
  rw [rounds_succ]
  go_wp2_with (go_at_call 45; refine (HSO.out _ _ _ _).mono ?_; rintro e W3 ⟨rfl, rfl⟩)
  refine bodyPost_ret (results_cell_row rfl _ _ (g + 1) 32 #[.slice none 0 0] (0, 0) _ rfl ?blk Tryz.underlying32 rfl (by kernel_rfl)) rfl ?_
  case blk => exact blk_put (cs := #[.slice none 0 0]) (blk_below HK.out HB2.out) 0 _ rfl
  exact ⟨rfl, (below_then HB.out.1 HB.out.1.size HB2.out).setCell (p := ⟨g + 1, 0, none⟩) (by show w.heap.size ≤ g + 1; have := HB.out.2; omega) _⟩
theorem members_nil (w : World) : Calls Tryz.prog 48 #[.agg #[.slice none 0 0]] w fun e w' => e = .returned (.func (.func 77) #[] #[.pointer (some ⟨w.heap.size, 0, none⟩)]) ∧ w' = w.alloc (.cells #[.slice none 0 0] 32) := by
  go_enter Tryz.func48, Tryz.ntmps48
  go_wp2
  go_ret
  exact ⟨rfl, rfl⟩
theorem form_bad (gd : Nat) (w : World) (hG : ResG w) (d0 : w.cell? ⟨gd, 0, none⟩ = some (.string ⟨#[]⟩)) (d1 : w.cell? ⟨gd, 1, none⟩ = some (.slice none 0 0)) :
    Calls Tryz.prog 19 #[.agg #[.slice (some ⟨gd, 0, none⟩) 1 1]] w fun e w' => e = .returned (.bool false) ∧ Below w.heap.size w w' := by
  have HIS := Aside0.mk (show ∀ W', Below w.heap.size w W' → _ from fun W' h => is_nil W' (hG.below h hG.1))
  have HB := Aside0.mk (B0 w)
  have lt := cell_lt d0
  dsimp only at lt
  have lt1 : gd < w.heap.size + 1 := by omega
  have lt2 : gd < w.heap.size + 1 + 1 := by omega
  clear hG
  go_enter Tryz.func19, Tryz.ntmps19
  go_wp2
  refine wp_loop_rounds 1 ?_
  rw [rounds_succ]
  go_wp2_with (go_at_call 47; refine (HIS.out _ (by (repeat apply below_alloc); exact HB.out)).mono ?_; rintro e W3 ⟨rfl, rfl⟩)
  go_returns
  exact ⟨rfl, by (repeat apply below_alloc); exact HB.out⟩
theorem results_bool {P : Program} {fn : Func} {p : Tmp} {ty : TypeId} (h : fn.results = #[.cell p ty]) (tmps : Array Value) (w : World) (g : Nat) (b : Bool) (hp : tmps.getD p undef = .pointer (some ⟨g, 0, none⟩)) (hc : w.cell? ⟨g, 0, none⟩ = some (.bool b)) (hu : P.underlying ty = some .bool) :
    (results fn tmps).run P w = .ok (.bool b) w := by
  have hp' : tmps[p]?.getD undef = .pointer (some ⟨g, 0, none⟩) := by simpa using hp
  simp [results, h, hp', asAddr, isAgg, loadVar, run_underlying hu, Result.andThen, run_load, hc]
def encM : Empty → Array Value := fun x => x.elim
set_option maxRecDepth 100000 in
set_option maxHeartbeats 4000000 in
theorem members_stops (Be n : Nat) (w : World) (hc : w.heap[Be]? = some (.cells #[.slice none 0 0] 32 (0, 0))) :
    SeqStopsK Fence.wide n Tryz.prog 77 #[.pointer (some ⟨Be, 0, none⟩)] encM (fun _ _ => True) (fun _ => True) (fun pre => False) 0 w := by
  intro l J Jx W hW hJ hJx hY h0
  have HJ := Aside0.mk (And.intro hJ h0)
  have cb := (blk_cell (blk_below hc hW) 0).trans rfl
  dsimp at cb
  clear hY hJx hJ hW hc h0
  refine callsIn_of_wp Tryz.func77 rfl trivial ?_ rfl
  simp only [Tryz.ntmps77, List.size_toArray, List.length_cons, List.length_nil, Nat.reduceAdd, Nat.reduceSub, Array.replicate_succ, Array.replicate_zero, List.push_toArray, List.append_toArray, List.nil_append, List.cons_append]
  gi_wp2
  refine wpIn_loop_rounds 1 ?_
  rw [roundsIn_succ]
  gi_wp2
  go_end0
  exact ⟨⟨_, rfl⟩, .inl ⟨[], trivial, HJ.out.2⟩⟩
set_option maxRecDepth 100000 in
set_option maxHeartbeats 8000000 in
theorem form_nil (w : World) : Calls Tryz.prog 19 #[.agg #[.slice none 0 0]] w fun e w' => e = .returned (.bool true) ∧ Below w.heap.size w w' := by
  obtain ⟨W, hW, hb, hsz, hk, hkr⟩ := two_cells w (.slice none 0 0) 32 (.bool false) 4
  obtain ⟨g, hgb⟩ : ∃ g, g = w.heap.size := ⟨_, rfl⟩
  rw [← hgb] at hk hkr
  have HMB := Aside0.mk (show CallsIn Fence.wide 2 Tryz.prog 48 #[.agg #[.slice none 0 0]] W fun e w' => e = .returned (.func (.func 77) #[] #[.pointer (some ⟨W.heap.size, 0, none⟩)]) ∧ w' = W.alloc (.cells #[.slice none 0 0] 32) from callsIn_wide.2 (members_nil W))
  have k0 := (blk_cell hk 0).trans rfl
  dsimp at k0
  have HB1 := Aside0.mk (And.intro hb (And.intro hgb hsz))
  have HR := Aside0.mk hkr
  clear hb hsz hk hkr
  refine (callsIn_wide (n := 3)).1 ?_
  refine callsIn_of_wp_marks Tryz.func19 rfl trivial ?_ rfl
  simp only [Tryz.ntmps19, List.size_toArray, List.length_cons, List.length_nil, Nat.reduceAdd, Nat.reduceSub, Array.replicate_succ, Array.replicate_zero, List.push_toArray, List.append_toArray, List.nil_append, List.cons_append]
  gi_wp2
  rw [← hW, ← hgb]
  clear hW hgb
  refine wpIn_loop_rounds 1 ?_
  rw [roundsIn_succ]
  gi_wp2
  refine ⟨trivial, (HMB.out).mono ?_⟩
  clear HMB
  rintro e W2 ⟨rfl, hW2⟩
  have hb2 : Below W.heap.size W W2 := by rw [hW2]; exact below_alloc (B0 W) _
  have hk2 : W2.heap[W.heap.size]? = some (.cells #[.slice none 0 0] 32 (0, 0)) := by rw [hW2]; exact blk_new W _
  have hbw : Below w.heap.size w W2 := below_then HB1.out.1 HB1.out.1.size hb2
  have HST := Aside0.mk (members_stops W.heap.size (3 - 1) W2 hk2)
  have HRR := Aside0.mk (show W2.cell? ⟨g + 1, 0, none⟩ = some (.bool false) ∧ W2.frozen? ⟨g + 1, 0, none⟩ = false from by
    have h := blk_below HR.out hb2
    exact ⟨(blk_cell h 0).trans rfl, blk_frozen h 0⟩)
  have HBW := Aside0.mk hbw
  obtain ⟨gE, hgE⟩ : ∃ q, q = W.heap.size := ⟨_, rfl⟩
  rw [← hgE] at HST ⊢
  clear hb2 hk2 hbw hW2 hgE k0
  gi_wp2
  refine wpIn_rangeFunc_ownH (F := Fence.wide) (n := 3) rfl (by decide) (gf := 77) (lb := #[.pointer (some ⟨gE, 0, none⟩)]) rfl trivial (enters_of Tryz.func77 (by kernel_rfl) rfl)
    HST.out (fun _ _ => trivial) (fun _ _ _ _ _ _ _ _ => trivial) (Below.refl _ _) (fun x => x.elim)
    (fun pre W' => (W'.cell? ⟨g + 1, 0, none⟩ = some (.bool false) ∧ W'.frozen? ⟨g + 1, 0, none⟩ = false) ∧ Below w.heap.size w W')
    (fun cc pre W' => False)
    (OwnFrom.and (Own.from (fun us X Y row hs hg hr => ⟨cell_kept hs.1 hg hr, (frozen_kept hs.1 hg hr).trans hs.2⟩) _) (ownFrom_below (Nat.le_refl _) HBW.out.size))
    (fun cc us X Y row hs hg hr => hs.elim)
    ⟨HRR.out, HBW.out⟩
    (fun y a' W' => False)
    (fun y a' _ X Y row hs hg hr => hs.elim)
    ?assign ?body ?done ?stop
  case assign =>
    rintro l pre y W' K hI hK
    exact y.elim
  case body =>
    rintro l pre y
    exact y.elim
  case done =>
    rintro D ys W' hD hok ⟨⟨h1, h2⟩, hB⟩ hK
    have hgD : g + 1 ≠ D := by have := HB1.out; have h3 := cell_lt HRR.out.1; dsimp only at h3; omega
    have HEND := Aside0.mk (show ((W'.setCell ⟨g + 1, 0, none⟩ (.bool true)).heap[D]? = some (.deferred (some []))) ∧ ((W'.setCell ⟨g + 1, 0, none⟩ (.bool true)).putObj D (.deferred none)).cell? ⟨g + 1, 0, none⟩ = some (.bool true) ∧ Below w.heap.size w ((W'.setCell ⟨g + 1, 0, none⟩ (.bool true)).putObj D (.deferred none)) from by
      have q1 : (W'.setCell ⟨g + 1, 0, none⟩ (.bool true)).heap[D]? = some (.deferred (some [])) := (Below.heap_setCell W' ⟨g + 1, 0, none⟩ (.bool true) D hgD.symm).trans hK
      refine ⟨q1, ?_, ?_⟩
      · rw [World.cell?_of_block (World.putObj_heap_other hgD)]
        exact World.cell?_setCell_same' _ _ _ (by rw [h1]; rfl)
      · have b2 : Below w.heap.size w (W'.setCell ⟨g + 1, 0, none⟩ (.bool true)) := hB.setCell (p := ⟨g + 1, 0, none⟩) (by show w.heap.size ≤ g + 1; have := HB1.out.2.1; omega) _
        exact b2.trans (belowK_b (w := w) (Nat.le_refl _) _ D _ _ (Nat.le_trans HBW.out.size hD) q1 rfl rfl))
    gi_wp2
    refine ⟨by simp, .inl ⟨_, _, rfl, run_takeDeferred HEND.out.1, ?_⟩⟩
    exact ⟨_, results_bool rfl _ _ (g + 1) true rfl HEND.out.2.1 Tryz.underlying4, rfl, HEND.out.2.2⟩
  case stop =>
    rintro D cc pre W' hD hok h hK
    exact h.elim
end Go.Proofs.YtckliinakgffpaaGreatDoor.HDg1
/- The empty schema is right; one without a name is not. -/
namespace Go.Proofs.YtckliinakgffpaaGreatDoor.HDg2
open Go.RowKit Go.Shelf Go.Proofs.YtckliinakgffpaaGreatDoorW.PrintWords Go.Proofs.YtckliinakgffpaaGreatDoor.HLib Go.Proofs.YtckliinakgffpaaGreatDoor.HGr Go.Proofs.YtckliinakgffpaaGreatDoor.HNameP Go.Proofs.YtckliinakgffpaaGreatDoor.HName Go.Proofs.YtckliinakgffpaaGreatDoor.HDg1
open Go.Proofs.YtckliinakgffpaaGreatDoor.PDigestShort
set_option linter.unusedVariables false
set_option linter.unusedSimpArgs false
theorem results_iface {P : Program} {fn : Func} {p : Tmp} {ty : TypeId} {td : TypeDesc} (h : fn.results = #[.cell p ty]) (tmps : Array Value) (w : World) (g : Nat) (v : Value) (hp : tmps.getD p undef = .pointer (some ⟨g, 0, none⟩)) (hc : w.cell? ⟨g, 0, none⟩ = some v) (hu : P.underlying ty = some td) (hs : (match td with | .struct _ => true | .array _ _ => true | _ => false) = false) :
    (results fn tmps).run P w = .ok v w := by
  have hp' : tmps[p]?.getD undef = .pointer (some ⟨g, 0, none⟩) := by simpa using hp
  cases td <;> simp_all [results, asAddr, isAgg, loadVar, run_underlying hu, Result.andThen, run_load]
set_option maxRecDepth 100000 in
set_option maxHeartbeats 8000000 in
theorem check_nil (w : World) : Calls Tryz.prog 34 #[.agg #[.slice none 0 0]] w fun e w' => e = .returned .nilIface ∧ Below w.heap.size w w' := by
  obtain ⟨W, hW, hb, hsz, k0, k1⟩ := two_cells w (.slice none 0 0) 32 .nilIface 75
  obtain ⟨g, hg⟩ : ∃ g, g = w.heap.size := ⟨_, rfl⟩
  rw [← hg] at k0 k1
  have HF := Aside0.mk form_nil
  have HK := Aside0.mk (And.intro k0 k1)
  have HB := Aside0.mk (And.intro hb (And.intro hg hsz))
  have c0 := (blk_cell k0 0).trans rfl
  dsimp at c0
  clear k0 k1 hb hsz
  go_enter Tryz.func34, Tryz.ntmps34
  go_upto_region 1 with fail
  rw [← hW, ← hg]
  clear hW hg
  go_upto_region 3 with (go_at_call 19; refine (HF.out _).mono ?_; rintro e W1 ⟨rfl, h1⟩; have HB1 := Aside0.mk h1; clear h1 c0)
  have c0 := (blk_cell (blk_below HK.out.1 HB1.out) 0).trans rfl
  have c1 := (blk_cell (blk_below HK.out.2 HB1.out) 0).trans rfl
  have f1 := blk_frozen (blk_below HK.out.2 HB1.out) 0
  dsimp at c0 c1
  have lt := cell_lt c0
  have lt1 := cell_lt c1
  dsimp only at lt lt1
  have lt2 : g < W1.heap.size + 1 := by omega
  have lt3 : g < W1.heap.size + 1 + 1 := by omega
  have lt4 : g + 1 < W1.heap.size + 1 := by omega
  have lt5 : g + 1 < W1.heap.size + 1 + 1 := by omega
  have mk := fun w' => run_makeMap (P := Tryz.prog) 111 w'
  go_wp2
  refine wp_loop_rounds 1 ?_
  rw [rounds_succ]
  go_wp2
  have hk := HK.out.2
  have hb1 := HB1.out
  have h2 := HB.out
  clear HF HK HB HB1 mk
  refine bodyPost_ret (results_iface rfl _ _ (g + 1) .nilIface rfl ?cel Tryz.underlying75 rfl) rfl ⟨rfl, ?_⟩
  case cel => exact (blk_cell (blk_alloc (blk_alloc (blk_alloc (blk_put (cs := #[.nilIface]) (blk_below hk hb1) 0 _ rfl) _) _) _) 0).trans rfl
  have hq := (below_then h2.1 h2.1.size hb1).setCell (p := ⟨g + 1, 0, none⟩) (by show w.heap.size ≤ g + 1; omega) .nilIface
  exact ((hq.alloc hq.size _).alloc (hq.alloc hq.size _).size _).alloc ((hq.alloc hq.size _).alloc (hq.alloc hq.size _).size _).size _
set_option maxRecDepth 100000 in
set_option maxHeartbeats 8000000 in
theorem check_bad (gd : Nat) (w : World) (hG : ResG w) (d0 : w.cell? ⟨gd, 0, none⟩ = some (.string ⟨#[]⟩)) (d1 : w.cell? ⟨gd, 1, none⟩ = some (.slice none 0 0)) :
    Calls Tryz.prog 34 #[.agg #[.slice (some ⟨gd, 0, none⟩) 1 1]] w fun e w' => (∃ v, e = .returned v ∧ v ≠ .nilIface ∧ ∃ t u, v = .iface t u) ∧ Below w.heap.size w w' := by
  obtain ⟨W, hW, hb, hsz, k0, k1⟩ := two_cells w (.slice (some ⟨gd, 0, none⟩) 1 1) 32 .nilIface 75
  obtain ⟨g, hg⟩ : ∃ g, g = w.heap.size := ⟨_, rfl⟩
  rw [← hg] at k0 k1
  have HF := Aside0.mk (form_bad gd W (hG.below hb hG.1) ((hb.cell (p := ⟨gd, 0, none⟩) (cell_lt d0)).trans d0) ((hb.cell (p := ⟨gd, 1, none⟩) (cell_lt d1)).trans d1))
  have HK := Aside0.mk (And.intro k0 k1)
  have HB := Aside0.mk (And.intro hb (And.intro hg hsz))
  have c0 := (blk_cell k0 0).trans rfl
  dsimp at c0
  clear k0 k1 hb hsz hG d0 d1
  go_enter Tryz.func34, Tryz.ntmps34
  go_upto_region 1 with fail
  rw [← hW, ← hg]
  clear hW hg
  go_upto_region 2 with (go_at_call 19; refine (HF.out).mono ?_; rintro e W1 ⟨rfl, h1⟩; have HB1 := Aside0.mk h1; clear h1 c0)
  have c1 := (blk_cell (blk_below HK.out.2 HB1.out) 0).trans rfl
  have f1 := blk_frozen (blk_below HK.out.2 HB1.out) 0
  dsimp at c1
  go_wp2
  have hk := HK.out.2
  have hb1 := HB1.out
  have h2 := HB.out
  clear HF HK HB HB1
  refine bodyPost_ret (results_iface rfl _ _ (g + 1) (.iface 110 (.int .i64 6)) rfl ?cel Tryz.underlying75 rfl) rfl ⟨⟨_, rfl, by simp, _, _, rfl⟩, ?_⟩
  case cel => exact (blk_cell (blk_put (cs := #[.nilIface]) (blk_below hk hb1) 0 _ rfl) 0).trans rfl
  exact (below_then h2.1 h2.1.size hb1).setCell (p := ⟨g + 1, 0, none⟩) (by show w.heap.size ≤ g + 1; omega) _
set_option maxRecDepth 100000 in
set_option maxHeartbeats 8000000 in
theorem right_nil (w : World) : Calls Tryz.prog 16 #[.agg #[.slice none 0 0]] w fun e w' => e = .returned (.bool true) ∧ Below w.heap.size w w' := by
  have HC := Aside0.mk check_nil
  go_enter Tryz.func16, Tryz.ntmps16
  go_wp2_with (go_at_call 34; refine (HC.out _).mono ?_; rintro e W1 ⟨rfl, h1⟩; have HB1 := Aside0.mk h1; clear h1)
  go_ret
  exact ⟨rfl, below_then (below_alloc (B0 w) _) (below_alloc (B0 w) _).size HB1.out⟩
set_option maxRecDepth 100000 in
set_option maxHeartbeats 8000000 in
theorem right_bad (gd : Nat) (w : World) (hG : ResG w) (d0 : w.cell? ⟨gd, 0, none⟩ = some (.string ⟨#[]⟩)) (d1 : w.cell? ⟨gd, 1, none⟩ = some (.slice none 0 0)) :
    Calls Tryz.prog 16 #[.agg #[.slice (some ⟨gd, 0, none⟩) 1 1]] w fun e w' => e = .returned (.bool false) ∧ Below w.heap.size w w' := by
  have HC := Aside0.mk (show ∀ W', Below w.heap.size w W' → _ from fun W' h => check_bad gd W' (hG.below h hG.1) ((h.cell (p := ⟨gd, 0, none⟩) (cell_lt d0)).trans d0) ((h.cell (p := ⟨gd, 1, none⟩) (cell_lt d1)).trans d1))
  have HB := Aside0.mk (B0 w)
  clear hG d0 d1
  go_enter Tryz.func16, Tryz.ntmps16
  go_wp2_with (go_at_call 34; refine (HC.out _ (by (repeat apply below_alloc); exact HB.out)).mono ?_; rintro e W1 ⟨⟨v, rfl, hv, t, u, rfl⟩, h1⟩; have HB1 := Aside0.mk h1; clear h1)
  go_ret
  exact ⟨rfl, below_then (below_alloc (B0 w) _) (below_alloc (B0 w) _).size HB1.out⟩
end Go.Proofs.YtckliinakgffpaaGreatDoor.HDg2
/- The empty schema: its bytes, its text. -/
namespace Go.Proofs.YtckliinakgffpaaGreatDoor.HDg3
open Go.RowKit Go.Shelf Go.Proofs.YtckliinakgffpaaGreatDoorW.PrintWords Go.Proofs.YtckliinakgffpaaGreatDoor.HLib Go.Proofs.YtckliinakgffpaaGreatDoor.HGr Go.Proofs.YtckliinakgffpaaGreatDoor.HNameP Go.Proofs.YtckliinakgffpaaGreatDoor.HName Go.Proofs.YtckliinakgffpaaGreatDoor.HPr Go.Proofs.YtckliinakgffpaaGreatDoor.HDg1 Go.Proofs.YtckliinakgffpaaGreatDoor.HDg2
open Go.Proofs.YtckliinakgffpaaGreatDoor.PDigestShort
set_option linter.unusedVariables false
set_option linter.unusedSimpArgs false
set_option maxRecDepth 100000 in
set_option maxHeartbeats 8000000 in
theorem list_nil (w : World) (g : Fn) (b1 b2 : Array Value) : Calls Tryz.prog 20 #[.slice none 0 0, .func g b1 b2] w fun e w' => (∃ v, e = .returned v ∧ Bs w' v [0]) ∧ Below w.heap.size w w' := by
  have HP := Aside0.mk (fun w' => wire_Put.calls 10 0 [0] w' (by decide +kernel))
  go_enter Tryz.func20, Tryz.ntmps20
  go_wp2_with (go_at_call 50; refine (HP.out _).mono ?_; rintro e W1 ⟨v, rfl, hr, h1⟩; obtain ⟨A, c, rfl⟩ := Kd.R_slice hr; have HR := Aside0.mk hr; have HB1 := Aside0.mk h1; clear h1 hr)
  refine wp_loop_rounds 1 ?_
  rw [rounds_succ]
  go_wp2
  go_ret
  exact ⟨⟨_, rfl, Bs.of_R HR.out⟩, HB1.out⟩
set_option maxRecDepth 100000 in
set_option maxHeartbeats 8000000 in
theorem put_nil (w : World) : Calls Tryz.prog 11 #[.agg #[.slice none 0 0]] w fun e w' => (∃ v, e = .returned (.tuple #[v, .bool true]) ∧ Bs w' v [0]) ∧ Below w.heap.size w w' := by
  obtain ⟨W, hW, hb, hsz, hk⟩ : ∃ W, W = w.alloc (.cells #[.slice none 0 0] 32) ∧ Below w.heap.size w W ∧ W.heap.size = w.heap.size + 1 ∧ W.heap[w.heap.size]? = some (.cells #[.slice none 0 0] 32 (0, 0)) := ⟨_, rfl, below_alloc (B0 w) _, World.size_alloc _ _, blk_new w _⟩
  obtain ⟨g, hg⟩ : ∃ g, g = w.heap.size := ⟨_, rfl⟩
  rw [← hg] at hk
  have HF := Aside0.mk form_nil
  have HL := Aside0.mk list_nil
  have HK := Aside0.mk hk
  have HB := Aside0.mk hb
  have c0 := (blk_cell hk 0).trans rfl
  dsimp at c0
  clear hk hb hsz
  go_enter Tryz.func11, Tryz.ntmps11
  go_upto_region 1 with fail
  rw [← hW, ← hg]
  clear hW hg
  go_upto_region 3 with (go_at_call 19; refine (HF.out _).mono ?_; rintro e W1 ⟨rfl, h1⟩; have HB1 := Aside0.mk h1; clear h1 c0)
  have c0 := (blk_cell (blk_below HK.out HB1.out) 0).trans rfl
  dsimp at c0
  go_wp2_with (go_at_call 20; refine (HL.out _ _ _ _).mono ?_; rintro e W2 ⟨⟨v, rfl, hv⟩, h1⟩; have HB2 := Aside0.mk h1; have HV := Aside0.mk hv; clear h1 hv c0)
  go_returns
  exact ⟨⟨_, rfl, HV.out⟩, below_then HB.out HB.out.size (below_then HB1.out HB1.out.size HB2.out)⟩
set_option maxRecDepth 100000 in
set_option maxHeartbeats 8000000 in
theorem print_nil (w : World) : Calls Tryz.prog 14 #[.agg #[.slice none 0 0]] w fun e w' => e = .returned (.tuple #[.string ⟨#[]⟩, .bool true]) ∧ Below w.heap.size w w' := by
  obtain ⟨W, hW, hb, hsz, hk⟩ : ∃ W, W = w.alloc (.cells #[.slice none 0 0] 32) ∧ Below w.heap.size w W ∧ W.heap.size = w.heap.size + 1 ∧ W.heap[w.heap.size]? = some (.cells #[.slice none 0 0] 32 (0, 0)) := ⟨_, rfl, below_alloc (B0 w) _, World.size_alloc _ _, blk_new w _⟩
  obtain ⟨g, hg⟩ : ∃ g, g = w.heap.size := ⟨_, rfl⟩
  rw [← hg] at hk
  have HF := Aside0.mk form_nil
  have HK := Aside0.mk hk
  have HB := Aside0.mk (And.intro hb (And.intro hg hsz))
  have c0 := (blk_cell hk 0).trans rfl
  dsimp at c0
  clear hk hb hsz
  go_enter Tryz.func14, Tryz.ntmps14
  go_upto_region 1 with fail
  rw [← hW, ← hg]
  clear hW hg
  go_upto_region 3 with (go_at_call 19; refine (HF.out _).mono ?_; rintro e W1 ⟨rfl, h1⟩; have HB1 := Aside0.mk h1; clear h1 c0)
  have c0 := (blk_cell (blk_below HK.out HB1.out) 0).trans rfl
  dsimp at c0
  have lt := cell_lt c0
  dsimp only at lt
  have lt2 : g < W1.heap.size + 1 := by omega
  have lt3 : g < W1.heap.size + 1 + 1 := by omega
  go_upto_region 7 with fail
  obtain ⟨W2, hW2⟩ : ∃ X, X = (W1.alloc (.cells #[.pointer none, .slice none 0 0] 71)).alloc (.cells #[.func (.func 30) #[.pointer (some ⟨W1.heap.size, 0, none⟩)] #[]] 72) := ⟨_, rfl⟩
  have hib := (Lib.IsBuilderF.of (Lib.fresh_isBuilder 71 5 W1)).alloc (.cells #[.func (.func 30) #[.pointer (some ⟨W1.heap.size, 0, none⟩)] #[]] 72)
  have hb2 : Below W.heap.size W W2 := by rw [hW2]; exact (HB1.out.alloc HB1.out.size _).alloc (HB1.out.alloc HB1.out.size _).size _
  rw [← hW2] at hib ⊢
  have HIB := Aside0.mk (And.intro hib (And.intro hb2 (show W1.heap.size ≤ W2.heap.size from by rw [hW2]; simp only [World.size_alloc]; omega)))
  obtain ⟨gB, hgB⟩ : ∃ q, q = W1.heap.size := ⟨_, rfl⟩
  rw [← hgB] at HIB ⊢
  have hle : W.heap.size ≤ gB := by rw [hgB]; exact HB1.out.size
  have HLE := Aside0.mk hle
  clear hib hb2 hW2 lt lt2 lt3 c0 hgB hle
  refine wp_loop_rounds 1 ?_
  rw [rounds_succ]
  go_wp2_with (go_at_call 33; refine (Tryz.Builder_String_empty_f gB gB W2 HIB.out.1 HIB.out.2.2).mono ?_; rintro e W3 ⟨rfl, h3, h4⟩; have HB3 := Aside0.mk h4; clear h3 h4)
  go_returns
  have hle := HLE.out
  exact ⟨rfl, HB.out.1.trans ((HIB.out.2.1.trans (HB3.out.mono hle)).mono HB.out.1.size)⟩
end Go.Proofs.YtckliinakgffpaaGreatDoor.HDg3
