/- slices.Values at tuples. -/
import Derived.Test.YtlbbhgmpiednfaaGreatDoorUV
import Derived.Test.YtlbbhgmpiednfaaGreatDoorUG
import Derived.RangeFuncNested
import Derived.RangeFuncBound
import Derived.RangeFuncCalls
import Derived.RangeFuncLeaves
import Derived.RangeFuncBox
import Derived.Shelf.Abstract
import Derived.Shelf.RegionOpen
import Derived.WalkKit
import Derived.OwnWalkIn
import Derived.TacticsInMore
import Derived.LoopNIn
import Derived.LoopIn
import Derived.Maps.AppendAt
import Derived.Test.YtlbbhgmpiednfaaGreatDoorSrt
import Derived.Lib.SliceRun
namespace Go.Proofs.YtlbbhgmpiednfaaGreatDoor.HTupV
open Go.RowKit Go.Shelf Go.Proofs.YtlbbhgmpiednfaaGreatDoorW.PrintWords Go.Proofs.YtlbbhgmpiednfaaGreatDoor.HLib Go.Proofs.YtlbbhgmpiednfaaGreatDoor.HGr Go.Proofs.YtlbbhgmpiednfaaGreatDoor.PTupleSorts
set_option linter.unusedVariables false
set_option linter.unusedSimpArgs false
attribute [local go_sem] Oper.semAt_some

/-- A tuple's value. -/
abbrev tc (x : S32) : List Value := [.string x.f0.f0, .string x.f0.f1, .string x.f1, .string x.f2.f0, .string x.f2.f1, .string x.f3]
abbrev tv (x : S32) : Value := .agg #[.string x.f0.f0, .string x.f0.f1, .string x.f1, .string x.f2.f0, .string x.f2.f1, .string x.f3]

set_option maxRecDepth 100000 in
set_option maxHeartbeats 2000000 in
theorem values1_in (F : Fence) (n : Nat) (h7 : F.fn 63) (hro : F.round = none) (hn : 1 ≤ n) (l Bs n₀ cap : Nat) (A : Option Addr) (xs : List S32) (hl : xs.length ≤ 1000000) (hb : 0 < xs.length → ∀ a, A = some a → a.block < n₀) (J Jx : List S32 → World → Prop)
    (hY : ∀ pre x W, J pre W → pre.length < xs.length → YieldAt F (n - 1) Tryz.prog l #[tv x] W fun e W' => (e = .returned (.bool true) ∧ J (pre ++ [x]) W' ∧ Below n₀ W W') ∨ (e = .returned (.bool false) ∧ Jx (pre ++ [x]) W'))
    (W : World) (hn0 : n₀ ≤ W.heap.size) (hJ : AbidesFrom W.heap.size J) (hBs : W.cell? ⟨Bs, 0, none⟩ = some (.slice A xs.length cap)) (hc : Kd.C k32 W A xs.length xs) (h0 : J [] W) :
    CallsIn F n Tryz.prog 63 #[.func (.yield l) #[] #[], .pointer (some ⟨Bs, 0, none⟩)] W fun e W' => (∃ v, e = .returned v) ∧ ((∃ ys, ys = xs ∧ J ys W') ∨ (∃ pre, pre <+: xs ∧ Jx pre W')) := by
  refine callsIn_of_wp Tryz.func63 rfl h7 ?_ hro
  simp only [Tryz.ntmps63, List.size_toArray, List.length_cons, List.length_nil, Nat.reduceAdd, Nat.reduceSub, Array.replicate_succ, Array.replicate_zero, List.push_toArray, List.append_toArray, List.nil_append, List.cons_append]
  gi_wp2
  gi_loopw [7] (fun i wr => ∃ k : Nat, k ≤ xs.length ∧ i = .int .i64 k ∧ J (xs.take k) wr ∧ Below n₀ W wr ∧ W.heap.size ≤ wr.heap.size)
    (fun i _ => xs.length - (intOf i).toNat)
  case atStart => exact ⟨0, Nat.zero_le _, rfl, h0, Below.refl _ _, Nat.le_refl _⟩
  case round =>
    obtain ⟨k, hk, rfl, hJs, hnx, hsz⟩ := hrel
    by_cases hlt : k < xs.length
    · obtain ⟨ad, hAd, b1, b2, b3, b4, b5, b6⟩ := at_T32 hc k (by omega) (by omega)
      subst hAd
      have hbl : (ad.add (k * 6)).block < n₀ := by unfold Addr.add; split <;> exact hb (by omega) ad rfl
      rw [Int.toNat_natCast] at b1 b2 b3 b4 b5 b6
      have a1 := (hnx.cell (p := ad.add (k * 6)) hbl).trans b1
      have a2 := (hnx.cell (p := ⟨(ad.add (k * 6)).block, _, none⟩) hbl).trans b2
      have a3 := (hnx.cell (p := ⟨(ad.add (k * 6)).block, _, none⟩) hbl).trans b3
      have a4 := (hnx.cell (p := ⟨(ad.add (k * 6)).block, _, none⟩) hbl).trans b4
      have a5 := (hnx.cell (p := ⟨(ad.add (k * 6)).block, _, none⟩) hbl).trans b5
      have a6 := (hnx.cell (p := ⟨(ad.add (k * 6)).block, _, none⟩) hbl).trans b6
      clear b1 b2 b3 b4 b5 b6
      have HT := Aside0.mk (show xs.take (k + 1) = xs.take k ++ [rd_T32 xs k] from by
        rw [List.take_succ_eq_append_getElem hlt]
        congr 2
        unfold rd_T32
        rw [List.getD_eq_getElem?_getD, Int.toNat_natCast, List.getElem?_eq_getElem hlt, Option.getD_some])
      generalize rd_T32 xs k = x at a1 a2 a3 a4 a5 a6 HT
      have hJ2 : J (xs.take k) (wr.alloc (.cells (tc x).toArray 32)) := hJ _ wr _ none hJs (World.grownBy_alloc _ _ none) (fun r e => by cases e)
      have HBA := Aside0.mk (show Below n₀ W (wr.alloc (.cells (tc x).toArray 32)) from hnx.alloc (Nat.le_trans hn0 hsz) _)
      have HSZ := Aside0.mk (show W.heap.size ≤ (wr.alloc (.cells (tc x).toArray 32)).heap.size from by rw [World.size_alloc]; omega)
      obtain ⟨fn, tmps, assign, body, hy, hR⟩ := hY _ x _ hJ2 (by rw [List.length_take]; omega)
      gi_wp2
      refine hR.mono ?_
      rintro e W3 (⟨rfl, hJ3, hk3⟩ | ⟨rfl, hJx3⟩)
      · gi_wp2
        go_roundw
        case rel => exact ⟨k + 1, by omega, by simp, by rw [HT.out]; exact hJ3, HBA.out.trans hk3, Nat.le_trans HSZ.out hk3.size⟩
        case measure => simp [intOf]; omega
      · gi_wp2
        refine bodyPost_ret (results_none rfl _ _ _) rfl ?_
        exact ⟨⟨_, rfl⟩, .inr ⟨_, by rw [← HT.out]; exact List.take_prefix _ _, hJx3⟩⟩
    · obtain rfl : k = xs.length := by omega
      gi_wp2
      go_end0
      rw [List.take_length] at hJs
      exact ⟨⟨_, rfl⟩, .inl ⟨_, rfl, hJs⟩⟩

set_option maxHeartbeats 1000000 in
/-- slices.Values: the slice value is boxed; the function value captures the box. -/
theorem values_in (F : Fence) (n : Nat) (h5 : F.fn 34) (hro : F.round = none) (a : Option Addr) (len cap : Nat) (w : World) :
    CallsIn F n Tryz.prog 34 #[.slice a len cap] w fun e w' => e = .returned (.func (.func 63) #[] #[.pointer (some ⟨w.heap.size, 0, none⟩)]) ∧ w' = w.alloc (.cells #[.slice a len cap] 22) := by
  refine callsIn_of_wp Tryz.func34 rfl h5 ?_ hro
  simp only [Tryz.ntmps34, List.size_toArray, List.length_cons, List.length_nil, Nat.reduceAdd, Nat.reduceSub, Array.replicate_succ, Array.replicate_zero, List.push_toArray, List.append_toArray, List.nil_append, List.cons_append]
  gi_wp2
  go_ret
  exact ⟨rfl, rfl⟩
/-- slices.Values hands back an iterator over the tuples in order. -/
theorem values_stops (F : Fence) (n : Nat) (h7 : F.fn 63) (hro : F.round = none) (hn : 1 ≤ n) (Bs n₀ cap : Nat) (A : Option Addr) (xs : List S32) (hl : xs.length ≤ 1000000) (hb : 0 < xs.length → ∀ a, A = some a → a.block < n₀) (w : World) (hBs : Bs < w.heap.size) (hn₀ : n₀ ≤ w.heap.size)
    (hcell : w.cell? ⟨Bs, 0, none⟩ = some (.slice A xs.length cap)) (hc : Kd.C k32 w A xs.length xs) :
    SeqStopsK F n Tryz.prog 63 #[.pointer (some ⟨Bs, 0, none⟩)] (fun x : S32 => #[tv x]) (Below n₀) (fun ys => ys = xs) (fun pre => pre <+: xs) xs.length w := fun l J Jx W hW hJ _ hY h0 =>
  values1_in F n h7 hro hn l Bs n₀ cap A xs hl hb J Jx hY W (Nat.le_trans hn₀ hW.size) hJ ((hW.cell (p := ⟨Bs, 0, none⟩) hBs).trans hcell) (Kd.C_below hc hW) h0
end Go.Proofs.YtlbbhgmpiednfaaGreatDoor.HTupV
/- slices.AppendSeq, slices.Collect at tuples. -/
namespace Go.Proofs.YtlbbhgmpiednfaaGreatDoor.HTupQ
open Go.RowKit Go.Shelf Go.Proofs.YtlbbhgmpiednfaaGreatDoorW.PrintWords Go.Proofs.YtlbbhgmpiednfaaGreatDoor.HLib Go.Proofs.YtlbbhgmpiednfaaGreatDoor.HGr Go.Proofs.YtlbbhgmpiednfaaGreatDoor.PTupleSorts Go.Proofs.YtlbbhgmpiednfaaGreatDoor.HTupV
set_option linter.unusedVariables false
set_option linter.unusedSimpArgs false
attribute [local go_sem] Oper.semAt_some

theorem infoT : (Tryz.prog.info? 32).map (fun i => (i.zero, i.size, i.bytes)) = some (some (.agg #[.string ⟨#[]⟩, .string ⟨#[]⟩, .string ⟨#[]⟩, .string ⟨#[]⟩, .string ⟨#[]⟩, .string ⟨#[]⟩]), 6, 96) := by kernel_rfl
theorem cells_new (w : World) (cs : List Value) (t : TypeId) : ∀ (j : Nat) (u : Value), cs[j]? = some u → (w.alloc (.cells cs.toArray t)).cell? ((⟨w.heap.size, 0, none⟩ : Addr).add j) = some u := by
  intro j u hj
  have hb := blk_new w (.cells cs.toArray t)
  rw [show ((⟨w.heap.size, 0, none⟩ : Addr).add j) = ⟨w.heap.size, j, none⟩ from by simp [Addr.add]; omega]
  exact (blk_cell hb j).trans (by simpa using hj)
/-- A tuple's box. -/
def Box6 (W : World) (B : Nat) (x : S32) : Prop := W.heap[B]? = some (.cells (tc x).toArray 32 (0, 0))
theorem Box6.own (B : Nat) (x : S32) : Own (fun (_ : Unit) W => Box6 W B x) := by
  rintro s X Y row hv hg hrow
  refine (hg.block B (Array.getElem?_eq_some_iff.1 hv).1 (fun e' => ?_)).trans hv
  obtain ⟨o, ho, hc⟩ := hrow B e'.symm
  rw [show X.heap[B]? = _ from hv] at ho; cases ho; cases hc
set_option maxRecDepth 100000 in
set_option maxHeartbeats 2000000 in
theorem append_in (F : Fence) (n : Nat) (h81 : F.fn 81) (hV : F.fn 63) (hro : F.round = none) (hn : 3 ≤ n) (Bs cap : Nat) (A : Option Addr) (xs : List S32) (hl : xs.length ≤ 1000000) (w : World)
    (hBs : Bs < w.heap.size) (hb : 0 < xs.length → ∀ a, A = some a → a.block < w.heap.size) (hcell : w.cell? ⟨Bs, 0, none⟩ = some (.slice A xs.length cap)) (hc : Kd.C k32 w A xs.length xs) :
    CallsIn F n Tryz.prog 81 #[.slice none 0 0, .func (.func 63) #[] #[.pointer (some ⟨Bs, 0, none⟩)]] w fun e W' =>
      ∃ v, e = .returned v ∧ W'.ownsRow w.heap.size 32 6 v xs.length (xs.flatMap tc) ∧ (v = .slice none 0 0 ↔ xs = []) ∧ Below w.heap.size w W' := by
  have h1 : 1 ≤ n := by omega
  obtain ⟨i0, hi, hz0, hz1, hz2⟩ := info_parts infoT
  refine callsIn_of_wp_marks Tryz.func81 rfl h81 ?_ hro
  simp only [Tryz.ntmps81, List.size_toArray, List.length_cons, List.length_nil, Nat.reduceAdd, Nat.reduceSub, Array.replicate_succ, Array.replicate_zero, List.push_toArray, List.append_toArray, List.nil_append, List.cons_append]
  have bO := Boxed.new w 22 (.slice none 0 0)
  have hB0 : Below w.heap.size w (w.alloc (.cells #[.slice none 0 0] 22)) := (Below.refl _ w).alloc (Nat.le_refl _) _
  have hsz : (w.alloc (.cells #[.slice none 0 0] 22)).heap.size = w.heap.size + 1 := World.size_alloc _ _
  have hC0 := Kd.C_below hc hB0
  have hcell0 := (hB0.cell (p := ⟨Bs, 0, none⟩) hBs).trans hcell
  gi_wp2
  obtain ⟨W0, hW0⟩ : ∃ W0, w.alloc (.cells #[.slice none 0 0] 22) = W0 := ⟨_, rfl⟩
  rw [hW0] at bO hB0 hsz hC0 hcell0 ⊢
  clear hW0
  refine wpIn_rangeFunc_ownH hro h1 (gf := 63) (lb := #[.pointer (some ⟨Bs, 0, none⟩)]) rfl hV (enters_of Tryz.func63 (by kernel_rfl) rfl)
    (values_stops F (n - 1) hV hro (by omega) Bs w.heap.size cap A xs hl hb W0 (by omega) (by omega) hcell0 hC0) belowK_t (belowK_b (by omega)) (Below.refl _ _) (fun _ => rfl)
    (fun pre W => (∃ v, Boxed W w.heap.size 22 v ∧ W.ownsRow w.heap.size 32 6 v pre.length (pre.flatMap tc) ∧ (v = .slice none 0 0 ↔ pre = [])) ∧ Below w.heap.size w W)
    (fun _ _ _ => False)
    (OwnFrom.and (Own.from (holdsRow_own w.heap.size w.heap.size 22 32 6 (fun pre : List S32 => pre.length) (fun pre : List S32 => pre.flatMap tc) (fun pre v => v = .slice none 0 0 ↔ pre = [])) _) (ownFrom_below (Nat.le_refl _) (by omega)))
    (fun _ _ _ _ _ hs _ _ => hs)
    ⟨⟨_, bO, World.ownsRow_nil _ _ _ _, by simp⟩, hB0⟩
    (fun x a' W => ∃ Bx, w.heap.size < Bx ∧ Box6 W Bx x ∧ a' = { tmps := #[.slice none 0 0, .func (.func 63) #[] #[.pointer (some ⟨Bs, 0, none⟩)], .pointer (some ⟨w.heap.size, 0, none⟩), undef, .slice none 0 0, .pointer (some ⟨Bx, 0, none⟩), .func (.func 63) #[] #[.pointer (some ⟨Bs, 0, none⟩)], tv x, undef, undef, undef, undef, undef], defers := [] })
    (fun x a' _ X Y row hs hg hr => by obtain ⟨Bx, h1, h2, h3⟩ := hs; exact ⟨Bx, h1, Box6.own Bx x () X Y row h2 hg (fun r e => (hr r e).2), h3⟩)
    ?assign ?body ?done ?stop
  case assign =>
    rintro l pre x W K ⟨⟨v, hv, hrow, hnil⟩, hB⟩ hK
    gi_wp2
    exact hK _ _ ((KeepsOthers.alloc _ _).from _) ((Below.refl _ W).alloc hB.size _) ⟨⟨v, hv.alloc _, hrow.alloc _, hnil⟩, hB.alloc hB.size _⟩ ⟨W.heap.size, hv.lt, World.alloc_heap_new W _, rfl⟩
  case body =>
    rintro l pre x a' W hl0 ⟨r, hr⟩ ⟨⟨v, hv, hrow, hnil⟩, hB⟩ ⟨Bx, hBx, bX, rfl⟩ hlt
    have hc := hv.cell
    have c1 : W.cell? ⟨Bx, 0, none⟩ = some (.string x.f0.f0) := (blk_cell bX 0).trans rfl
    have c2 : W.cell? ⟨Bx, 1, none⟩ = some (.string x.f0.f1) := (blk_cell bX 1).trans rfl
    have c3 : W.cell? ⟨Bx, 2, none⟩ = some (.string x.f1) := (blk_cell bX 2).trans rfl
    have c4 : W.cell? ⟨Bx, 3, none⟩ = some (.string x.f2.f0) := (blk_cell bX 3).trans rfl
    have c5 : W.cell? ⟨Bx, 4, none⟩ = some (.string x.f2.f1) := (blk_cell bX 4).trans rfl
    have c6 : W.cell? ⟨Bx, 5, none⟩ = some (.string x.f3) := (blk_cell bX 5).trans rfl
    gi_wp2_with (gi_at_builtin; refine wpListIn_append_own _ rfl _ _ 22 rfl w.heap.size 32 i0 (.agg #[.string ⟨#[]⟩, .string ⟨#[]⟩, .string ⟨#[]⟩, .string ⟨#[]⟩, .string ⟨#[]⟩, .string ⟨#[]⟩]) 6 96 Tryz.underlying22 hi hz0 hz1 hz2 rfl (by decide) _ _ _ rfl (hrow.alloc _) ⟨W.heap.size, 0, none⟩ 1 1 (tc x) rfl rfl (cells_new _ _ _) (by simp [Value.oneCell']) (by unfold maxLen; omega) (by omega) (by have := hB.size; simp; omega) ?_; intro v' w1 hown' hgrow _; obtain ⟨g', cap', rfl⟩ := ownsRow_succ hown'; obtain ⟨hv1, hv2, hr2, hk2, hb2⟩ := hv.appended (by decide) hrow hB.size (Nat.le_refl _) hown' hgrow; have hc1 := hv1.cell; have hf1 := hv1.frozen)
    exact ⟨hk2.from _, hb2, ⟨_, hv2, by simpa using hr2, by simp⟩, hB.trans hb2⟩
  case done =>
    rintro D ys W hD rfl ⟨⟨v, hv, hrow, hnil⟩, hB⟩ hK
    have hc := hv.cell
    gi_wp2
    refine ⟨by simp, .inl ⟨_, _, rfl, run_takeDeferred hK, ?_⟩⟩
    exact ⟨_, results_tmp rfl _ _ _, v, rfl, ownsRow_putObj hrow _ hK rfl, hnil, hB.trans (belowK_b (w := w) (Nat.le_refl _) W D _ _ (by omega) hK rfl rfl)⟩
  case stop =>
    rintro D c pre W _ _ h _
    exact h.elim
end Go.Proofs.YtlbbhgmpiednfaaGreatDoor.HTupQ
/- Tuples loaded and compared. -/
namespace Go.Proofs.YtlbbhgmpiednfaaGreatDoor.HTupE
open Go.RowKit Go.Proofs.YtlbbhgmpiednfaaGreatDoorW.PrintWords Go.Proofs.YtlbbhgmpiednfaaGreatDoor.HLib Go.Proofs.YtlbbhgmpiednfaaGreatDoor.HGr Go.Proofs.YtlbbhgmpiednfaaGreatDoor.PTupleSorts Go.Proofs.YtlbbhgmpiednfaaGreatDoor.HTupV
set_option linter.unusedVariables false
set_option linter.unusedSimpArgs false
noncomputable instance : DecidableEq S32 := fun x y => Classical.propDecidable _
theorem str_eq (a b : ByteArray) : (a.toList == b.toList) = decide (a = b) := by
  by_cases h : a = b
  · rw [h, decide_eq_true rfl]; exact beq_self_eq_true _
  · rw [decide_eq_false h, beq_eq_false_iff_ne, ByteArray.toList_eq, ByteArray.toList_eq]
    exact fun e => h (ByteArray.ext (Array.toList_inj.mp e))
theorem eqb (x y : S32) : ((x.f0.f0.toList == y.f0.f0.toList && (x.f0.f1.toList == y.f0.f1.toList)) && (x.f1.toList == y.f1.toList && ((x.f2.f0.toList == y.f2.f0.toList && (x.f2.f1.toList == y.f2.f1.toList)) && (x.f3.toList == y.f3.toList)))) = decide (x = y) := by
  simp only [str_eq]
  obtain ⟨⟨a, b⟩, c, ⟨d, e⟩, f⟩ := x
  obtain ⟨⟨a', b'⟩, c', ⟨d', e'⟩, f'⟩ := y
  rw [Bool.eq_iff_iff]
  simp [and_assoc]
theorem eq_T (x y : S32) (w : World) : (binOp .eql 32 (tv x) (tv y)).run Tryz.prog w = .ok (.bool (decide (x = y))) w := by
  rw [run_eql_struct, show (10000 : Nat) = 9997 + 3 from rfl, eqA32, ← eqb]
  rfl
theorem ne_T (x y : S32) (w : World) : (binOp .neq 32 (tv x) (tv y)).run Tryz.prog w = .ok (.bool (!decide (x = y))) w := by
  rw [run_neq_struct, show (10000 : Nat) = 9997 + 3 from rfl, eqA32, ← eqb]
  rfl
theorem load_T {W : World} {ad : Addr} {x : S32} (a1 : W.cell? ad = some (.string x.f0.f0)) (a2 : W.cell? ⟨ad.block, ad.off + 1, none⟩ = some (.string x.f0.f1)) (a3 : W.cell? ⟨ad.block, ad.off + 2, none⟩ = some (.string x.f1)) (a4 : W.cell? ⟨ad.block, ad.off + 3, none⟩ = some (.string x.f2.f0))
    (a5 : W.cell? ⟨ad.block, ad.off + 4, none⟩ = some (.string x.f2.f1)) (a6 : W.cell? ⟨ad.block, ad.off + 5, none⟩ = some (.string x.f3)) : (Instr.loadAt 32 (.pointer (some ad))).run Tryz.prog W = .ok (tv x) W := by
  go_simp
end Go.Proofs.YtlbbhgmpiednfaaGreatDoor.HTupE
/- slices.Collect, slices.SortFunc at tuples. -/
namespace Go.Proofs.YtlbbhgmpiednfaaGreatDoor.HTupS
open Go.RowKit Go.Shelf Go.Sort Go.Proofs.YtlbbhgmpiednfaaGreatDoorW.PrintWords Go.Proofs.YtlbbhgmpiednfaaGreatDoor.HLib Go.Proofs.YtlbbhgmpiednfaaGreatDoor.HGr Go.Proofs.YtlbbhgmpiednfaaGreatDoor.PTupleSorts Go.Proofs.YtlbbhgmpiednfaaGreatDoor.HTupV Go.Proofs.YtlbbhgmpiednfaaGreatDoor.HTupQ Go.Proofs.YtlbbhgmpiednfaaGreatDoor.HTupC Go.Proofs.YtlbbhgmpiednfaaGreatDoor.HTupO
set_option linter.unusedVariables false
set_option linter.unusedSimpArgs false

instance : Inhabited S32 := ⟨z32⟩
theorem append_any (Bs cap : Nat) (A : Option Addr) (xs : List S32) (hl : xs.length ≤ 1000000) (w : World)
    (hBs : Bs < w.heap.size) (hb : 0 < xs.length → ∀ a, A = some a → a.block < w.heap.size) (hcell : w.cell? ⟨Bs, 0, none⟩ = some (.slice A xs.length cap)) (hc : Kd.C k32 w A xs.length xs) :
    Calls Tryz.prog 81 #[.slice none 0 0, .func (.func 63) #[] #[.pointer (some ⟨Bs, 0, none⟩)]] w fun e W' =>
      ∃ v, e = .returned v ∧ W'.ownsRow w.heap.size 32 6 v xs.length (xs.flatMap tc) ∧ (v = .slice none 0 0 ↔ xs = []) ∧ Below w.heap.size w W' :=
  (callsIn_wide (n := 3)).1 (append_in Fence.wide 3 trivial trivial rfl (by omega) Bs cap A xs hl w hBs hb hcell hc)
theorem values_any (a : Option Addr) (len cap : Nat) (w : World) :
    Calls Tryz.prog 34 #[.slice a len cap] w fun e w' => e = .returned (.func (.func 63) #[] #[.pointer (some ⟨w.heap.size, 0, none⟩)]) ∧ w' = w.alloc (.cells #[.slice a len cap] 22) :=
  (callsIn_wide (n := 3)).1 (values_in Fence.wide 3 trivial rfl a len cap w)
theorem collect_any (Bs cap : Nat) (A : Option Addr) (xs : List S32) (hl : xs.length ≤ 1000000) (w : World)
    (hBs : Bs < w.heap.size) (hb : 0 < xs.length → ∀ a, A = some a → a.block < w.heap.size) (hcell : w.cell? ⟨Bs, 0, none⟩ = some (.slice A xs.length cap)) (hc : Kd.C k32 w A xs.length xs) :
    Calls Tryz.prog 61 #[.func (.func 63) #[] #[.pointer (some ⟨Bs, 0, none⟩)]] w fun e W' =>
      ∃ v, e = .returned v ∧ W'.ownsRow w.heap.size 32 6 v xs.length (xs.flatMap tc) ∧ (v = .slice none 0 0 ↔ xs = []) ∧ Below w.heap.size w W' := by
  have HA := Aside0.mk (append_any Bs cap A xs hl w hBs hb hcell hc)
  clear hl hBs hb hcell hc
  go_enter Tryz.func61, Tryz.ntmps61
  go_wp2_with fail
  refine HA.out.mono ?_
  rintro e w1 ⟨v, rfl, h1, h2, h3⟩
  have HX := Aside0.mk (show w1.ownsRow w.heap.size 32 6 v xs.length (xs.flatMap tc) ∧ (v = .slice none 0 0 ↔ xs = []) ∧ Below w.heap.size w w1 from ⟨h1, h2, h3⟩)
  clear h1 h2 h3 HA
  go_wp2
  go_ret
  exact ⟨v, rfl, HX.out⟩
theorem flat_get : ∀ (xs : List S32) (i c : Nat), c < 6 → (xs.flatMap tc)[i * 6 + c]? = (xs[i]?).bind fun x => (tc x)[c]?
  | [], i, c, _ => by simp
  | x :: xs, 0, c, h => by
    rw [List.flatMap_cons, List.getElem?_append_left (by show 0 * 6 + c < 6; omega)]
    simp
  | x :: xs, i + 1, c, h => by
    rw [List.flatMap_cons, List.getElem?_append_right (by show 6 ≤ (i + 1) * 6 + c; omega), show (i + 1) * 6 + c - (tc x).length = i * 6 + c from by show (i + 1) * 6 + c - 6 = _; omega, flat_get xs i c h]
    simp
theorem flatK_eq (xs : List S32) : (flatK tc 6 xs.toArray).toList = xs.flatMap tc := by
  apply List.ext_getElem?
  intro t
  by_cases h : t < xs.length * 6
  · have e : t = t / 6 * 6 + t % 6 := by omega
    have hi : t / 6 < xs.length := by omega
    have hc : t % 6 < 6 := Nat.mod_lt _ (by decide)
    rw [Array.getElem?_toList]
    conv => rhs; rw [e]
    rw [flat_get xs _ _ hc, List.getElem?_eq_getElem hi, Option.bind_some]
    unfold flatK
    simp only [List.size_toArray, Array.getElem?_map, Array.getElem?_range, h, if_true, Option.map_some]
    have hx : xs.toArray[t / 6]! = xs[t / 6] := by simp [hi]
    rw [hx]
    have hl : t % 6 < (tc xs[t / 6]).length := hc
    rw [List.getElem?_eq_getElem hl, List.getElem!_eq_getElem?_getD, List.getElem?_eq_getElem hl]
    rfl
  · have h2 : xs.length * 6 ≤ t := by omega
    have hl : (xs.flatMap tc).length = xs.length * 6 := by
      induction xs with
      | nil => rfl
      | cons x xs ih => rw [List.flatMap_cons, List.length_append, ih (by simp at h; omega) (by simp at h2; omega)]; simp; omega
    rw [List.getElem?_eq_none (by rw [Array.length_toList, size_flatK, List.size_toArray]; exact h2), List.getElem?_eq_none (by rw [hl]; exact h2)]
theorem holds_of_own {w : World} {n₀ g cap : Nat} {xs : List S32} (h : w.ownsRow n₀ 32 6 (.slice (some ⟨g, 0, none⟩) xs.length cap) xs.length (xs.flatMap tc)) : HoldsK tc 6 w g 0 xs.toArray ∧ n₀ ≤ g ∧ g < w.heap.size ∧ xs.length ≤ cap := by
  obtain ⟨hl, ⟨h1, _⟩ | ⟨g', cap', cur, h1, hb, hg, hn, hm, hsz, htk⟩⟩ := h
  · cases h1
  · injection h1 with e1 e2 e3
    injection e1 with e1
    injection e1 with e1
    subst e1 e3
    refine ⟨fun j hj => ?_, hb, (Array.getElem?_eq_some_iff.1 hg).1, hn⟩
    rw [size_flatK, List.size_toArray] at hj
    have hjc : j < cur.size := by rw [hsz]; exact Nat.lt_of_lt_of_le hj (Nat.mul_le_mul_right 6 hn)
    refine ⟨?_, blk_frozen hg _⟩
    rw [Nat.zero_add]
    refine (blk_cell hg j).trans ?_
    have e : (flatK tc 6 xs.toArray)[j]? = cur[j]? := by
      rw [← Array.getElem?_toList, flatK_eq, ← htk, List.getElem?_take_of_lt hj, Array.getElem?_toList]
    rw [← e, getElem!_pos _ j (by rw [size_flatK, List.size_toArray]; exact hj), Array.getElem?_eq_getElem (by rw [size_flatK, List.size_toArray]; exact hj)]
    rfl
/-- A row of tuples in block g. -/
def RowT (w : World) (g : Nat) (xs : List S32) : Prop := HoldsK tc 6 w g 0 xs.toArray
theorem sort_any (w : World) (g cap : Nat) (xs : List S32) (hH : RowT w g xs) (hg : g < w.heap.size) (hl : xs.length ≤ 1000000) :
    Calls Tryz.prog 62 #[.slice (some ⟨g, 0, none⟩) xs.length cap, .func (.func 13) #[] #[]] w fun e w' => e = .returned (.tuple #[]) ∧ RowT w' g (xs.mergeSort fun x y => !(ltOf cmpT) y x) ∧ (∀ B, B ≤ g → Below B w w') := by
  have h := AnyQ.slices_SortFunc_total Tryz.sortT 6 Tryz.isAgg32 Tryz.sizeOf32 tc (fun _ => rfl) (fun x v hv => by simp at hv; rcases hv with rfl | rfl | rfl | rfl | rfl | rfl <;> rfl) cmpT swoT 13 #[] g 0 cap xs.toArray w
    (enters_of Tryz.func13 (by kernel_rfl) rfl) (fun m os dk hs x y => compare_gr _ _ _ _ _ _ _ _ _ _ _ _ _) hH hg (by rw [List.size_toArray]; omega) partT
  rw [List.size_toArray] at h
  refine h.mono ?_
  rintro e w' ⟨rfl, n, os, rfl⟩
  have hsz : (putRowK tc 6 (Sort.ahead w n) g 0 (xs.mergeSort fun x y => !(ltOf cmpT) y x).toArray).heap.size = w.heap.size := by simp [putRowK, putRow, mapBlock]
  refine ⟨rfl, holdsK_sortWorldK_c tc 6 w g 0 xs.toArray _ n os hH hg (by simp), fun B hB => ?_⟩
  refine ⟨rfl, rfl, rfl, ?_, fun k hk => ?_⟩
  · unfold sortWorldK
    rw [size_grow, hsz]
    exact Nat.le_add_right _ _
  · unfold sortWorldK
    rw [heap_grow_old _ _ (by rw [hsz]; omega)]
    have hne : g ≠ k := by omega
    simp [putRowK, putRow, mapBlock, Array.getElem?_modify, hne]
end Go.Proofs.YtlbbhgmpiednfaaGreatDoor.HTupS
/- slices.Compact at tuples. -/
namespace Go.Proofs.YtlbbhgmpiednfaaGreatDoor.HTupD
open Go.RowKit Go.Shelf Go.Sort Go.Proofs.YtlbbhgmpiednfaaGreatDoorW.PrintWords Go.Proofs.YtlbbhgmpiednfaaGreatDoor.HLib Go.Proofs.YtlbbhgmpiednfaaGreatDoor.HGr Go.Proofs.YtlbbhgmpiednfaaGreatDoor.PTupleSorts Go.Proofs.YtlbbhgmpiednfaaGreatDoor.HTupV Go.Proofs.YtlbbhgmpiednfaaGreatDoor.HTupE Go.Proofs.YtlbbhgmpiednfaaGreatDoor.HTupS
set_option linter.unusedVariables false
set_option linter.unusedSimpArgs false

theorem row_at {w : World} {g : Nat} {m : List S32} (h : RowT w g m) (i : Nat) (hi : i < m.length) : w.cell? ⟨g, i * 6, none⟩ = some (.string m[i].f0.f0) ∧ w.cell? ⟨g, i * 6 + 1, none⟩ = some (.string m[i].f0.f1) ∧ w.cell? ⟨g, i * 6 + 2, none⟩ = some (.string m[i].f1) ∧
    w.cell? ⟨g, i * 6 + 3, none⟩ = some (.string m[i].f2.f0) ∧ w.cell? ⟨g, i * 6 + 4, none⟩ = some (.string m[i].f2.f1) ∧ w.cell? ⟨g, i * 6 + 5, none⟩ = some (.string m[i].f3) := by
  have h2 := fun c hc => (HoldsK.cell h (i := i) (c := c) (by simpa using hi) hc).1
  have e : m.toArray[i]! = m[i] := by simp [hi]
  simp only [e, Nat.zero_add] at h2
  exact ⟨h2 0 (by decide), h2 1 (by decide), h2 2 (by decide), h2 3 (by decide), h2 4 (by decide), h2 5 (by decide)⟩
theorem row_fr {w : World} {g : Nat} {m : List S32} (h : RowT w g m) (i c : Nat) (hi : i < m.length) (hc : c < 6) : w.frozen? ⟨g, i * 6 + c, none⟩ = false := by
  have h2 := (HoldsK.cell h (i := i) (c := c) (by simpa using hi) hc).2
  simpa using h2
theorem set_flat (m : List S32) (k : Nat) (y : S32) (hk : k < m.length) : setMany (flatK tc 6 m.toArray) (k * 6) (tc y) = flatK tc 6 (m.set k y).toArray := by
  refine ext_get! (by simp) fun t ht => ?_
  have ht' : t < m.toArray.size * 6 := by simpa using ht
  rw [get_setMany _ _ _ t (by simpa using ht'), get_flatK _ _ _ t ht', get_flatK _ _ _ t (by simpa using ht')]
  have hq : t / 6 < m.length := by have : t < m.length * 6 := by simpa using ht'
                                   omega
  by_cases a : t / 6 = k
  · subst a
    rw [if_pos (by show _ ∧ t < t / 6 * 6 + 6; omega), show t - t / 6 * 6 = t % 6 from by omega]
    simp [hq]
  · rw [if_neg (by show ¬ (_ ∧ t < k * 6 + 6); omega)]
    simp [hq, Ne.symm a]
theorem row_set {w : World} {g : Nat} {m : List S32} (h : RowT w g m) (k : Nat) (y : S32) (hk : k < m.length) : RowT (w.setCells g (k * 6) (tc y)) g (m.set k y) := by
  have h1 := putRowK_self tc 6 w g 0 m.toArray h
  have h2 := setCells_putRow w g 0 (tc y) (k * 6) (flatK tc 6 m.toArray) (by rw [size_flatK, List.size_toArray]; show k * 6 + 6 ≤ _; omega)
  rw [Nat.zero_add, set_flat m k y hk] at h2
  unfold putRowK at h1
  rw [h1] at h2
  rw [h2]
  exact holdsK_putRowK tc 6 w g 0 m.toArray _ h (by simp)
theorem below_cells (B : Nat) : ∀ (vs : List Value) (w : World) (g o : Nat), B ≤ g → Below B w (w.setCells g o vs)
  | [], w, g, o, _ => Below.refl _ _
  | v :: vs, w, g, o, h => ((Below.refl B w).setCell (p := ⟨g, o, none⟩) h v).trans (below_cells B vs _ g (o + 1) h)
theorem take_set (m : List S32) (k : Nat) (x : S32) (hk : k < m.length) : (m.set k x).take (k + 1) = m.take k ++ [x] := by
  rw [List.take_succ_eq_append_getElem (by rw [List.length_set]; exact hk), List.getElem_set_self, List.take_set_of_le (Nat.le_refl _)]
theorem row_take {w : World} {g : Nat} {m : List S32} (h : RowT w g m) (k : Nat) : RowT w g (m.take k) := by
  intro j hj
  rw [size_flatK, List.size_toArray] at hj
  have hl : (m.take k).length ≤ m.length := List.length_take_le' _ _
  have h1 := h j (by rw [size_flatK, List.size_toArray]; omega)
  refine ⟨?_, h1.2⟩
  rw [h1.1, get_flatK _ _ _ _ (by rw [List.size_toArray]; omega), get_flatK _ _ _ _ (by rw [List.size_toArray]; exact hj)]
  have hq : j / 6 < (m.take k).length := by omega
  have hq2 : j / 6 < m.length := by omega
  have e : (m.take k).toArray[j / 6]! = m.toArray[j / 6]! := by
    rw [List.getElem!_toArray, List.getElem!_toArray, getElem!_pos (m.take k) (j / 6) hq, getElem!_pos m (j / 6) hq2, List.getElem_take]
  rw [e]
theorem cells_lt (g : Nat) : ∀ (vs : List Value) (w : World) (o j : Nat), j < o → (w.setCells g o vs).cell? ⟨g, j, none⟩ = w.cell? ⟨g, j, none⟩ ∧ (w.setCells g o vs).frozen? ⟨g, j, none⟩ = w.frozen? ⟨g, j, none⟩
  | [], w, o, j, _ => ⟨rfl, rfl⟩
  | v :: vs, w, o, j, h => by
    obtain ⟨h1, h2⟩ := cells_lt g vs (w.setCell ⟨g, o, none⟩ v) (o + 1) j (by omega)
    refine ⟨h1.trans ?_, h2.trans ?_⟩
    · exact World.cell?_setCell_other _ _ _ _ (by intro e; injection e with _ e _; omega)
    · exact World.frozen?_setCell _ _ _ _
theorem row_cut {w : World} {g : Nat} {m : List S32} (h : RowT w g m) (zs : List Value) (o : Nat) (ho : m.length * 6 ≤ o) : RowT (w.setCells g o zs) g m := by
  intro j hj
  have hj2 := hj
  rw [size_flatK, List.size_toArray] at hj2
  obtain ⟨h1, h2⟩ := cells_lt g zs w o (0 + j) (by omega)
  exact ⟨h1.trans (h j hj).1, h2.trans (h j hj).2⟩
theorem clear_T (w : World) (g o n c : Nat) (hn : 0 < n) (hc : ∀ j, j < n * 6 → (w.cell? ⟨g, o + j, none⟩).isSome = true ∧ w.frozen? ⟨g, o + j, none⟩ = false) :
    ∃ zs, ∀ ty, (Builtin.clear_ #[22] ty #[.slice (some ⟨g, o, none⟩) n c]).run Tryz.prog w = .ok (.tuple #[]) (w.setCells g o zs) := by
  obtain ⟨m, rfl⟩ : ∃ m, n = m + 1 := ⟨n - 1, by omega⟩
  let z : Value := .agg #[.string ⟨#[]⟩, .string ⟨#[]⟩, .string ⟨#[]⟩, .string ⟨#[]⟩, .string ⟨#[]⟩, .string ⟨#[]⟩]
  have hv : ∀ w, (zeroValue 32).run Tryz.prog w = .ok z w := Tryz.zeroValue32
  have hl : (Builtin.zeroCells z.cells (m + 1)).toList.length = (m + 1) * 6 := by simp [Builtin.zeroCells, z, Value.cells]
  have h1 : ∀ v ∈ (Builtin.zeroCells z.cells (m + 1)).toList, v.oneCell' = true := by
    intro v hv
    simp only [Builtin.zeroCells, Array.toList_map, List.mem_map] at hv
    obtain ⟨i, _, rfl⟩ := hv
    have : i % 6 < 6 := Nat.mod_lt _ (by decide)
    show (z.cells[i % 6]!).oneCell' = true
    generalize i % 6 = q at this
    match q, this with
    | 0, _ | 1, _ | 2, _ | 3, _ | 4, _ | 5, _ => rfl
  have hst := run_storeCells_cells (P := Tryz.prog) g o (Builtin.zeroCells z.cells (m + 1)).toList 0 w (fun j hj => by rw [Nat.add_zero]; exact (hc j (by rw [← hl]; exact hj)).1) (fun j hj => by rw [Nat.add_zero]; exact (hc j (by rw [← hl]; exact hj)).2) h1
  rw [Nat.add_zero] at hst
  exact ⟨(Builtin.zeroCells z.cells (m + 1)).toList, fun ty => by simp [Builtin.clear_, run_underlying Tryz.underlying22, hv, hst]⟩
/-- Each run of equals once. -/
noncomputable def ddF (p : S32) : List S32 → List S32
  | [] => []
  | y :: l => if y = p then ddF p l else y :: ddF y l
noncomputable def dd : List S32 → List S32
  | [] => []
  | x :: l => x :: ddF x l
theorem ddF_snoc (y : S32) : ∀ (l : List S32) (p : S32), ddF p (l ++ [y]) = if y = l.getLastD p then ddF p l else ddF p l ++ [y]
  | [], p => by
    show (if y = p then ddF p [] else y :: ddF y []) = if y = p then [] else [] ++ [y]
    rfl
  | z :: l, p => by
    show (if z = p then ddF p (l ++ [y]) else z :: ddF z (l ++ [y])) = if y = (z :: l).getLastD p then (if z = p then ddF p l else z :: ddF z l) else (if z = p then ddF p l else z :: ddF z l) ++ [y]
    rw [ddF_snoc y l p, ddF_snoc y l z, List.getLastD_cons]
    by_cases h : z = p
    · subst h
      simp only [if_true]
    · simp only [if_neg h]
      by_cases h2 : y = l.getLastD z
      · simp only [if_pos h2]
      · simp only [if_neg h2, List.cons_append]
theorem dd_snoc (y : S32) (l : List S32) (p : S32) (h : l.getLast? = some p) : dd (l ++ [y]) = if y = p then dd l else dd l ++ [y] := by
  cases l with
  | nil => cases h
  | cons x l =>
    have e : l.getLastD x = p := by
      rw [List.getLast?_cons] at h
      simpa using h
    show x :: ddF x (l ++ [y]) = if y = p then x :: ddF x l else x :: ddF x l ++ [y]
    rw [ddF_snoc, e]
    split <;> rfl
theorem dd_step (xs : List S32) (k : Nat) (h1 : 1 ≤ k) (hk : k < xs.length) : dd (xs.take (k + 1)) = if xs[k] = xs[k - 1] then dd (xs.take k) else dd (xs.take k) ++ [xs[k]] := by
  rw [List.take_succ_eq_append_getElem hk]
  exact dd_snoc _ _ _ (by rw [List.getLast?_take, if_neg (by omega), List.getElem?_eq_getElem (by omega)]; rfl)
theorem ddF_len : ∀ (l : List S32) (p : S32), (ddF p l).length ≤ l.length
  | [], _ => Nat.le_refl _
  | y :: l, p => by
    show (if y = p then ddF p l else y :: ddF y l).length ≤ _
    split
    · exact Nat.le_succ_of_le (ddF_len l p)
    · exact Nat.succ_le_succ (ddF_len l y)
theorem dd_len (l : List S32) : (dd l).length ≤ l.length := by
  cases l with
  | nil => exact Nat.le_refl _
  | cons x l => exact Nat.succ_le_succ (ddF_len l x)
end Go.Proofs.YtlbbhgmpiednfaaGreatDoor.HTupD
/- slices.Compact at tuples: the walk. -/
namespace Go.Proofs.YtlbbhgmpiednfaaGreatDoor.HTupK
open Go.RowKit Go.Shelf Go.Sort Go.Proofs.YtlbbhgmpiednfaaGreatDoorW.PrintWords Go.Proofs.YtlbbhgmpiednfaaGreatDoor.HLib Go.Proofs.YtlbbhgmpiednfaaGreatDoor.HGr Go.Proofs.YtlbbhgmpiednfaaGreatDoor.PTupleSorts Go.Proofs.YtlbbhgmpiednfaaGreatDoor.HTupV Go.Proofs.YtlbbhgmpiednfaaGreatDoor.HTupE Go.Proofs.YtlbbhgmpiednfaaGreatDoor.HTupS Go.Proofs.YtlbbhgmpiednfaaGreatDoor.HTupD
set_option linter.unusedVariables false
set_option linter.unusedSimpArgs false

theorem small_any (A : Option Addr) (n cap : Nat) (hn : n < 2) (w : World) : Calls Tryz.prog 32 #[.slice A n cap] w fun e w' => e = .returned (.slice A n cap) ∧ w' = w := by
  have d1 : decide (n < 2) = true := decide_eq_true hn
  have d2 : decide ((n : Int) < 2) = true := decide_eq_true (by omega)
  clear hn
  go_enter Tryz.func32, Tryz.ntmps32
  go_wp2
  go_ret
  exact ⟨rfl, rfl⟩
def Res (w w' : World) (g cap : Nat) (xs : List S32) (e : Ending) : Prop := e = .returned (.slice (some ⟨g, 0, none⟩) (dd xs).length cap) ∧ RowT w' g (dd xs) ∧ ∀ B, B ≤ g → Below B w w'
set_option maxRecDepth 20000 in
set_option maxHeartbeats 4000000 in
theorem compact_row (g cap : Nat) (xs : List S32) (h2 : 2 ≤ xs.length) (hl : xs.length ≤ 1000000) (hcap : xs.length ≤ cap) (w : World) (hR : RowT w g xs) : Calls Tryz.prog 32 #[.slice (some ⟨g, 0, none⟩) xs.length cap] w fun e w' => Res w w' g cap xs e := by
  have d1 : decide (xs.length < 2) = false := decide_eq_false (by omega)
  have d2 : decide ((xs.length : Int) < 2) = false := decide_eq_false (by omega)
  have HL := Aside0.mk hl
  have H2 := Aside0.mk h2
  have HC := Aside0.mk hcap
  have HR := Aside0.mk hR
  clear hl h2 hcap hR
  go_enter Tryz.func32, Tryz.ntmps32
  go_wp2
  go_loopg [3] (xs.length - 1) (fun kq v3 w' => ∃ (k m : Nat), v3 = .int .i64 k ∧ w' = w.drewN m ∧ Aside0 (kq + k = xs.length) ∧ Aside0 (1 ≤ k) ∧ Aside0 (dd (xs.take k) = xs.take k))
  case atStart => exact ⟨1, 0, rfl, rfl, ⟨by have := H2.out; omega⟩, ⟨Nat.le_refl _⟩, ⟨by have := H2.out; match xs, this with | x :: y :: l, _ => rfl⟩⟩
  case round =>
    obtain ⟨k, m, rfl, rfl, HK, H1, HD⟩ := hrel
    by_cases ck : k < xs.length
    · have f1 : decide (k < xs.length) = true := decide_eq_true ck
      have f2 : decide ((k : Int) < (xs.length : Int)) = true := decide_eq_true (by omega)
      have f3 : (k : Int) < (xs.length : Int) := by omega
      have f4 : (0 : Int) ≤ (k : Int) - 1 := by have := H1.out; omega
      have f5 : (k : Int) - 1 < (xs.length : Int) := by omega
      have f6 : IntKind.i64.wrap ((k : Int) - 1) = (k : Int) - 1 := by rw [IntKind.wrap_i64]; have := HL.out; have := H1.out; omega
      have f7 : ((k : Int) - 1).toNat = k - 1 := by have := H1.out; omega
      have hX := row_at HR.out k ck
      have hY := row_at HR.out (k - 1) (by omega)
      obtain ⟨vx, hvx⟩ : ∃ v, v = tv xs[k] := ⟨_, rfl⟩
      obtain ⟨vy, hvy⟩ : ∃ v, v = tv xs[k - 1] := ⟨_, rfl⟩
      obtain ⟨b, hb⟩ : ∃ b, b = decide (xs[k] = xs[k - 1]) := ⟨_, rfl⟩
      have HX := Aside0.mk (show ∀ q, (Instr.loadAt 32 (.pointer (some ⟨g, k * 6, none⟩))).run Tryz.prog (w.drewN q) = .ok vx (w.drewN q) from fun q => by rw [hvx]; exact load_T hX.1 hX.2.1 hX.2.2.1 hX.2.2.2.1 hX.2.2.2.2.1 hX.2.2.2.2.2)
      have HY := Aside0.mk (show ∀ q, (Instr.loadAt 32 (.pointer (some ⟨g, (k - 1) * 6, none⟩))).run Tryz.prog (w.drewN q) = .ok vy (w.drewN q) from fun q => by rw [hvy]; exact load_T hY.1 hY.2.1 hY.2.2.1 hY.2.2.2.1 hY.2.2.2.2.1 hY.2.2.2.2.2)
      have heq : ∀ w' : World, (binOp .eql 32 vx vy).run Tryz.prog w' = .ok (.bool b) w' := fun w' => by rw [hvx, hvy, hb]; exact eq_T _ _ _
      have hgd : ∀ (op : BinOp) (x y : Operand) (w' : World), (eqGuard op 32 x y vx vy).run Tryz.prog w' = .ok () w' := fun op x y w' => by rw [hvx, hvy]; exact run_eqGuard_agg w' op _ x y _ _ (by kernel_rfl)
      have HB := Aside0.mk hb
      clear hX hY hvx hvy hb
      have HST := Aside0.mk (dd_step xs k H1.out ck)
      go_upto_region 6 with fail

      refine wp_region_held_drew (S := fun w' => ∃ q, w' = w.drewN q) (by kernel_rfl) ⟨m + 1, by rw [← World.drewN_drewN]; rfl⟩ (fun hHeld => ?_)
      refine wpAnyH_take (i := 0) (v := .slice (some ⟨g, 0, none⟩) xs.length cap) rfl (by kernel_rfl) (by kernel_rfl) (by kernel_rfl) (fun _ _ _ h => h) (Or.inl ⟨by rfl, ?hy0⟩) hHeld ?_
      case hy0 => intro w' hSw; go_simp
      simp only [List.getElem_toArray, List.getElem_cons_succ, List.getElem_cons_zero, Act.put, List.setIfInBounds_toArray, List.set_cons_zero, List.set_cons_succ]
      refine wpAnyH_take (i := 1) (v := .int .i64 (k : Int)) rfl (by kernel_rfl) (by kernel_rfl) (by kernel_rfl) (fun _ _ _ h => h) (Or.inl ⟨by rfl, ?hy1⟩) hHeld ?_
      case hy1 => intro w' hSw; go_simp
      simp only [List.getElem_toArray, List.getElem_cons_succ, List.getElem_cons_zero, Act.put, List.setIfInBounds_toArray, List.set_cons_zero, List.set_cons_succ]
      refine wpAnyH_take (i := 2) (v := .pointer (some ⟨g, k * 6, none⟩)) rfl (by kernel_rfl) (by kernel_rfl) (by kernel_rfl) (fun _ _ _ h => h) (Or.inl ⟨by rfl, ?hy2⟩) hHeld ?_
      case hy2 => intro w' hSw; go_simp
      simp only [List.getElem_toArray, List.getElem_cons_succ, List.getElem_cons_zero, Act.put, List.setIfInBounds_toArray, List.set_cons_zero, List.set_cons_succ]
      refine wpAnyH_take (i := 3) (v := vx) rfl (by kernel_rfl) (by kernel_rfl) (by kernel_rfl) (fun _ _ _ h => h) (yieldsIf_load (by rfl) 32 (.tmp 18) rfl vx (fun w' h => by obtain ⟨q, rfl⟩ := h; exact HX.out q)) hHeld ?_
      simp only [List.getElem_toArray, List.getElem_cons_succ, List.getElem_cons_zero, Act.put, List.setIfInBounds_toArray, List.set_cons_zero, List.set_cons_succ]
      refine wpAnyH_take (i := 4) (v := .slice (some ⟨g, 0, none⟩) xs.length cap) rfl (by kernel_rfl) (by kernel_rfl) (by kernel_rfl) (fun _ _ _ h => h) (Or.inl ⟨by rfl, ?hy4⟩) hHeld ?_
      case hy4 => intro w' hSw; go_simp
      simp only [List.getElem_toArray, List.getElem_cons_succ, List.getElem_cons_zero, Act.put, List.setIfInBounds_toArray, List.set_cons_zero, List.set_cons_succ]
      refine wpAnyH_take (i := 5) (v := .int .i64 (k : Int)) rfl (by kernel_rfl) (by kernel_rfl) (by kernel_rfl) (fun _ _ _ h => h) (Or.inl ⟨by rfl, ?hy5⟩) hHeld ?_
      case hy5 => intro w' hSw; go_simp
      simp only [List.getElem_toArray, List.getElem_cons_succ, List.getElem_cons_zero, Act.put, List.setIfInBounds_toArray, List.set_cons_zero, List.set_cons_succ]
      refine wpAnyH_take (i := 6) (v := .int .i64 ((k : Int) - 1)) rfl (by kernel_rfl) (by kernel_rfl) (by kernel_rfl) (fun _ _ _ h => h) (Or.inl ⟨by rfl, ?hy6⟩) hHeld ?_
      case hy6 => intro w' hSw; go_simp
      simp only [List.getElem_toArray, List.getElem_cons_succ, List.getElem_cons_zero, Act.put, List.setIfInBounds_toArray, List.set_cons_zero, List.set_cons_succ]
      refine wpAnyH_take (i := 7) (v := .pointer (some ⟨g, (k - 1) * 6, none⟩)) rfl (by kernel_rfl) (by kernel_rfl) (by kernel_rfl) (fun _ _ _ h => h) (Or.inl ⟨by rfl, ?hy7⟩) hHeld ?_
      case hy7 => intro w' hSw; (go_simp; intro h; exact absurd h (by have := H1.out; omega))
      simp only [List.getElem_toArray, List.getElem_cons_succ, List.getElem_cons_zero, Act.put, List.setIfInBounds_toArray, List.set_cons_zero, List.set_cons_succ]
      refine wpAnyH_take (i := 8) (v := vy) rfl (by kernel_rfl) (by kernel_rfl) (by kernel_rfl) (fun _ _ _ h => h) (yieldsIf_load (by rfl) 32 (.tmp 23) rfl vy (fun w' h => by obtain ⟨q, rfl⟩ := h; exact HY.out q)) hHeld ?_
      simp only [List.getElem_toArray, List.getElem_cons_succ, List.getElem_cons_zero, Act.put, List.setIfInBounds_toArray, List.set_cons_zero, List.set_cons_succ]
      refine wpAnyH_take (i := 9) (v := .bool b) rfl (by kernel_rfl) (by kernel_rfl) (by kernel_rfl) (fun _ _ _ h => h) (Or.inl ⟨by rfl, ?hy9⟩) hHeld ?_
      case hy9 => intro w' hSw; go_simp
      simp only [List.getElem_toArray, List.getElem_cons_succ, List.getElem_cons_zero, Act.put, List.setIfInBounds_toArray, List.set_cons_zero, List.set_cons_succ]
      refine wpAnyH_done (by kernel_rfl) ?_ _

      obtain ⟨q, hq⟩ := hHeld
      rw [hq]
      clear hq heq hgd
      cases b with
      | false =>
        have hne : ¬ xs[k] = xs[k - 1] := of_decide_eq_false HB.out.symm
        have HD2 := Aside0.mk (show dd (xs.take (k + 1)) = xs.take (k + 1) from by rw [HST.out, if_neg hne, HD.out, List.take_succ_eq_append_getElem ck])
        have f8 : IntKind.i64.wrap ((k : Int) + 1) = (k : Int) + 1 := by rw [IntKind.wrap_i64]; have := HL.out; omega
        clear hne
        go_wp2
        go_roundg (xs.length - (k + 1))
        case measure => have := HK.out; omega
        case rel => exact ⟨k + 1, q, rfl, rfl, ⟨by have := HK.out; omega⟩, ⟨by omega⟩, HD2⟩
      | true =>
        have heq : xs[k] = xs[k - 1] := of_decide_eq_true HB.out.symm
        have HD2 := Aside0.mk (show dd (xs.take (k + 1)) = xs.take k from by rw [HST.out, if_pos heq, HD.out])
        clear heq
        go_wp2
        · exfalso; have := HC.out; omega
        · clear HX HY HST HB HK HD f1 f2 f3 f4 f5 f6 f7
          obtain ⟨n, hn⟩ : ∃ n, n = xs.length - k := ⟨_, rfl⟩
          have HN := Aside0.mk hn
          rw [← hn]
          clear hn
          have hn1 : 1 ≤ n := by have := HN.out; omega
          go_loopg [3, 5] (n - 1) (fun kq v3 v5 w' => ∃ (k' j : Nat) (m : List S32), v3 = .int .i64 k' ∧ v5 = .int .i64 j ∧ Aside0 (kq + j = n) ∧ Aside0 (1 ≤ j ∧ k' ≤ k + j - 1 ∧ m.length = xs.length) ∧ Aside0 (m.take k' = dd (xs.take (k + j))) ∧ Aside0 (∀ i, k + j - 1 ≤ i → m[i]? = xs[i]?) ∧ Aside0 (RowT w' g m) ∧ Aside0 (∀ B, B ≤ g → Below B w w'))
          case atStart => exact ⟨k, 1, xs, rfl, rfl, ⟨by omega⟩, ⟨Nat.le_refl _, by omega, rfl⟩, ⟨by rw [HD2.out]⟩, ⟨fun _ _ => rfl⟩, HR, ⟨fun B _ => pw_below_drewN (Below.refl _ _) _⟩⟩
          case round =>
            obtain ⟨k', j, m, rfl, rfl, HJ, HI, HT, HS, HRW, HBW⟩ := hrel
            by_cases cj : j < n
            · have f1 : decide (j < n) = true := decide_eq_true cj
              have f2 : decide ((j : Int) < (n : Int)) = true := decide_eq_true (by omega)
              have f3 : (j : Int) < (n : Int) := by omega
              have f4 : (0 : Int) ≤ (j : Int) - 1 := by have := HI.out.1; omega
              have f5 : (j : Int) - 1 < (n : Int) := by omega
              have f6 : IntKind.i64.wrap ((j : Int) - 1) = (j : Int) - 1 := by rw [IntKind.wrap_i64]; have := HL.out; have := HN.out; omega
              have f7 : ((j : Int) - 1).toNat = j - 1 := by have := HI.out.1; omega
              have hm1 : k + j < m.length := by have := HI.out.2.2; have := HN.out; omega
              have hm2 : k + (j - 1) < m.length := by omega
              have hX := row_at HRW.out (k + j) hm1
              have hY := row_at HRW.out (k + (j - 1)) hm2
              rw [Nat.add_mul] at hX hY
              have hx1 : k + j < xs.length := by have := HI.out.2.2; omega
              have hx2 : m[k + j] = xs[k + j] := by
                have := HS.out (k + j) (by omega)
                rw [List.getElem?_eq_getElem hm1, List.getElem?_eq_getElem hx1] at this
                exact Option.some.inj this
              have hx3 : m[k + (j - 1)] = xs[k + j - 1] := by
                have h1 := HI.out.1
                have := HS.out (k + (j - 1)) (by omega)
                rw [List.getElem?_eq_getElem hm2, List.getElem?_eq_getElem (by omega)] at this
                have e : k + (j - 1) = k + j - 1 := by omega
                rw [Option.some.inj this]
                simp only [e]
              rw [hx2] at hX
              rw [hx3] at hY
              obtain ⟨vx, hvx⟩ : ∃ v, v = tv xs[k + j] := ⟨_, rfl⟩
              obtain ⟨vy, hvy⟩ : ∃ v, v = tv xs[k + j - 1] := ⟨_, rfl⟩
              obtain ⟨b, hb⟩ : ∃ b, b = !decide (xs[k + j] = xs[k + j - 1]) := ⟨_, rfl⟩
              have HX := Aside0.mk (show ∀ q, (Instr.loadAt 32 (.pointer (some ⟨g, k * 6 + j * 6, none⟩))).run Tryz.prog (wr.drewN q) = .ok vx (wr.drewN q) from fun q => by rw [hvx]; exact load_T hX.1 hX.2.1 hX.2.2.1 hX.2.2.2.1 hX.2.2.2.2.1 hX.2.2.2.2.2)
              have HY := Aside0.mk (show ∀ q, (Instr.loadAt 32 (.pointer (some ⟨g, k * 6 + (j - 1) * 6, none⟩))).run Tryz.prog (wr.drewN q) = .ok vy (wr.drewN q) from fun q => by rw [hvy]; exact load_T hY.1 hY.2.1 hY.2.2.1 hY.2.2.2.1 hY.2.2.2.2.1 hY.2.2.2.2.2)
              have heq : ∀ w' : World, (binOp .neq 32 vx vy).run Tryz.prog w' = .ok (.bool b) w' := fun w' => by rw [hvx, hvy, hb]; exact ne_T _ _ _
              have hgd : ∀ (op : BinOp) (x y : Operand) (w' : World), (eqGuard op 32 x y vx vy).run Tryz.prog w' = .ok () w' := fun op x y w' => by rw [hvx, hvy]; exact run_eqGuard_agg w' op _ x y _ _ (by kernel_rfl)
              have HB := Aside0.mk hb
              have HST := Aside0.mk (dd_step xs (k + j) (by omega) hx1)
              have HCX := Aside0.mk hX
              clear hX hY hvx hvy hb hx2 hx3
              go_upto_region 11 with fail

              refine wp_region_held_drew (S := fun w' => ∃ q, w' = wr.drewN q) (by kernel_rfl) ⟨1, rfl⟩ (fun hHeld => ?_)
              refine wpAnyH_take (i := 0) (v := .slice (some ⟨g, k * 6, none⟩) n (cap - k)) rfl (by kernel_rfl) (by kernel_rfl) (by kernel_rfl) (fun _ _ _ h => h) (Or.inl ⟨by rfl, ?hy0⟩) hHeld ?_
              case hy0 => intro w' hSw; go_simp
              simp only [List.getElem_toArray, List.getElem_cons_succ, List.getElem_cons_zero, Act.put, List.setIfInBounds_toArray, List.set_cons_zero, List.set_cons_succ]
              refine wpAnyH_take (i := 1) (v := .int .i64 (j : Int)) rfl (by kernel_rfl) (by kernel_rfl) (by kernel_rfl) (fun _ _ _ h => h) (Or.inl ⟨by rfl, ?hy1⟩) hHeld ?_
              case hy1 => intro w' hSw; go_simp
              simp only [List.getElem_toArray, List.getElem_cons_succ, List.getElem_cons_zero, Act.put, List.setIfInBounds_toArray, List.set_cons_zero, List.set_cons_succ]
              refine wpAnyH_take (i := 2) (v := .pointer (some ⟨g, k * 6 + j * 6, none⟩)) rfl (by kernel_rfl) (by kernel_rfl) (by kernel_rfl) (fun _ _ _ h => h) (Or.inl ⟨by rfl, ?hy2⟩) hHeld ?_
              case hy2 => intro w' hSw; go_simp
              simp only [List.getElem_toArray, List.getElem_cons_succ, List.getElem_cons_zero, Act.put, List.setIfInBounds_toArray, List.set_cons_zero, List.set_cons_succ]
              refine wpAnyH_take (i := 3) (v := vx) rfl (by kernel_rfl) (by kernel_rfl) (by kernel_rfl) (fun _ _ _ h => h) (yieldsIf_load (by rfl) 32 (.tmp 37) rfl vx (fun w' h => by obtain ⟨q, rfl⟩ := h; exact HX.out q)) hHeld ?_
              simp only [List.getElem_toArray, List.getElem_cons_succ, List.getElem_cons_zero, Act.put, List.setIfInBounds_toArray, List.set_cons_zero, List.set_cons_succ]
              refine wpAnyH_take (i := 4) (v := .slice (some ⟨g, k * 6, none⟩) n (cap - k)) rfl (by kernel_rfl) (by kernel_rfl) (by kernel_rfl) (fun _ _ _ h => h) (Or.inl ⟨by rfl, ?hy4⟩) hHeld ?_
              case hy4 => intro w' hSw; go_simp
              simp only [List.getElem_toArray, List.getElem_cons_succ, List.getElem_cons_zero, Act.put, List.setIfInBounds_toArray, List.set_cons_zero, List.set_cons_succ]
              refine wpAnyH_take (i := 5) (v := .int .i64 (j : Int)) rfl (by kernel_rfl) (by kernel_rfl) (by kernel_rfl) (fun _ _ _ h => h) (Or.inl ⟨by rfl, ?hy5⟩) hHeld ?_
              case hy5 => intro w' hSw; go_simp
              simp only [List.getElem_toArray, List.getElem_cons_succ, List.getElem_cons_zero, Act.put, List.setIfInBounds_toArray, List.set_cons_zero, List.set_cons_succ]
              refine wpAnyH_take (i := 6) (v := .int .i64 ((j : Int) - 1)) rfl (by kernel_rfl) (by kernel_rfl) (by kernel_rfl) (fun _ _ _ h => h) (Or.inl ⟨by rfl, ?hy6⟩) hHeld ?_
              case hy6 => intro w' hSw; go_simp
              simp only [List.getElem_toArray, List.getElem_cons_succ, List.getElem_cons_zero, Act.put, List.setIfInBounds_toArray, List.set_cons_zero, List.set_cons_succ]
              refine wpAnyH_take (i := 7) (v := .pointer (some ⟨g, k * 6 + (j - 1) * 6, none⟩)) rfl (by kernel_rfl) (by kernel_rfl) (by kernel_rfl) (fun _ _ _ h => h) (Or.inl ⟨by rfl, ?hy7⟩) hHeld ?_
              case hy7 => intro w' hSw; (go_simp; intro h; exact absurd h (by have := HI.out.1; omega))
              simp only [List.getElem_toArray, List.getElem_cons_succ, List.getElem_cons_zero, Act.put, List.setIfInBounds_toArray, List.set_cons_zero, List.set_cons_succ]
              refine wpAnyH_take (i := 8) (v := vy) rfl (by kernel_rfl) (by kernel_rfl) (by kernel_rfl) (fun _ _ _ h => h) (yieldsIf_load (by rfl) 32 (.tmp 42) rfl vy (fun w' h => by obtain ⟨q, rfl⟩ := h; exact HY.out q)) hHeld ?_
              simp only [List.getElem_toArray, List.getElem_cons_succ, List.getElem_cons_zero, Act.put, List.setIfInBounds_toArray, List.set_cons_zero, List.set_cons_succ]
              refine wpAnyH_take (i := 9) (v := .bool b) rfl (by kernel_rfl) (by kernel_rfl) (by kernel_rfl) (fun _ _ _ h => h) (Or.inl ⟨by rfl, ?hy9⟩) hHeld ?_
              case hy9 => intro w' hSw; go_simp
              simp only [List.getElem_toArray, List.getElem_cons_succ, List.getElem_cons_zero, Act.put, List.setIfInBounds_toArray, List.set_cons_zero, List.set_cons_succ]
              refine wpAnyH_done (by kernel_rfl) ?_ _

              obtain ⟨q, hq⟩ := hHeld
              rw [hq]
              clear hq heq hgd
              cases b with
              | false =>
                have heq : xs[k + j] = xs[k + j - 1] := by have := HB.out; simpa using this
                have HT2 := Aside0.mk (show m.take k' = dd (xs.take (k + (j + 1))) from by rw [show k + (j + 1) = k + j + 1 from by omega, HST.out, if_pos heq]; exact HT.out)
                have f8 : IntKind.i64.wrap ((j : Int) + 1) = (j : Int) + 1 := by rw [IntKind.wrap_i64]; have := HL.out; have := HN.out; omega
                clear heq
                go_wp2
                go_roundg (n - (j + 1))
                case measure => have := HJ.out; have := HN.out; omega
                case rel => exact ⟨k', j + 1, m, rfl, rfl, ⟨by have := HJ.out; have := HN.out; omega⟩, ⟨by omega, by have := HI.out; omega, HI.out.2.2⟩, HT2, ⟨fun i hi => HS.out i (by omega)⟩, HRW, ⟨fun B hB => pw_below_drewN (HBW.out B hB) _⟩⟩
              | true =>
                have hne : ¬ xs[k + j] = xs[k + j - 1] := by have := HB.out; simpa using this
                have HT2 := Aside0.mk (show dd (xs.take (k + (j + 1))) = m.take k' ++ [xs[k + j]] from by rw [show k + (j + 1) = k + j + 1 from by omega, HST.out, if_neg hne, HT.out])
                have f8 : IntKind.i64.wrap ((j : Int) + 1) = (j : Int) + 1 := by rw [IntKind.wrap_i64]; have := HL.out; have := HN.out; omega
                have f9 : IntKind.i64.wrap ((k' : Int) + 1) = (k' : Int) + 1 := by rw [IntKind.wrap_i64]; have := HL.out; have := HI.out; have := HN.out; omega
                have hk' : k' < m.length := by have := HI.out; omega
                have f10 : (k' : Int) < (xs.length : Int) := by have := HI.out; omega
                have f11 : decide ((k' : Int) < (xs.length : Int)) = true := decide_eq_true f10
                obtain ⟨W2, hW2⟩ : ∃ W2, W2 = wr.drewN q := ⟨_, rfl⟩
                have HR2 := Aside0.mk (show RowT W2 g m from by rw [hW2]; exact HRW.out)
                have HB2 := Aside0.mk (show ∀ B, B ≤ g → Below B w W2 from by rw [hW2]; exact fun B hB => pw_below_drewN (HBW.out B hB) _)
                have hcx : W2.cell? ⟨g, k * 6 + j * 6, none⟩ = some (.string xs[k + j].f0.f0) ∧ W2.cell? ⟨g, k * 6 + j * 6 + 1, none⟩ = some (.string xs[k + j].f0.f1) ∧ W2.cell? ⟨g, k * 6 + j * 6 + 2, none⟩ = some (.string xs[k + j].f1) ∧ W2.cell? ⟨g, k * 6 + j * 6 + 3, none⟩ = some (.string xs[k + j].f2.f0) ∧ W2.cell? ⟨g, k * 6 + j * 6 + 4, none⟩ = some (.string xs[k + j].f2.f1) ∧ W2.cell? ⟨g, k * 6 + j * 6 + 5, none⟩ = some (.string xs[k + j].f3) := by rw [hW2]; exact HCX.out
                rw [← hW2]
                clear hW2 hne HB HST HCX HX HY HRW HBW
                generalize xs[k + j] = x at hcx HT2
                obtain ⟨c1, c2, c3, c4, c5, c6⟩ := hcx
                obtain ⟨e1, e2, e3, e4, e5, e6⟩ := row_at HR2.out k' hk'
                have z1 := row_fr HR2.out k' 0 hk' (by decide)
                have z2 := row_fr HR2.out k' 1 hk' (by decide)
                have z3 := row_fr HR2.out k' 2 hk' (by decide)
                have z4 := row_fr HR2.out k' 3 hk' (by decide)
                have z5 := row_fr HR2.out k' 4 hk' (by decide)
                have z6 := row_fr HR2.out k' 5 hk' (by decide)
                rw [Nat.add_zero] at z1
                go_wp2
                go_roundg (n - (j + 1))
                case measure => have := HJ.out; have := HN.out; omega
                case rel => exact ⟨k' + 1, j + 1, m.set k' x, rfl, rfl, ⟨by have := HJ.out; omega⟩, ⟨by omega, by have := HI.out; omega, by rw [List.length_set]; exact HI.out.2.2⟩, ⟨by rw [HT2.out, take_set m k' x hk']⟩, ⟨fun i hi => by rw [List.getElem?_set_ne (by have := HI.out; omega)]; exact HS.out i (by omega)⟩, ⟨row_set HR2.out k' x hk'⟩, ⟨fun B hB => (HB2.out B hB).trans (below_cells B (tc x) W2 g (k' * 6) hB)⟩⟩
            · obtain rfl : j = n := by have := HJ.out; omega
              have f1 : decide (j < j) = false := decide_eq_false (by omega)
              have f2 : decide ((j : Int) < (j : Int)) = false := decide_eq_false (by omega)
              have hall : k + j = xs.length := by have := HN.out; omega
              have hk' : k' < xs.length := by have := HI.out; omega
              have HTX := Aside0.mk (show m.take k' = dd xs from by rw [HT.out, hall, List.take_length])
              have HLX := Aside0.mk (show (dd xs).length = k' from by rw [← HTX.out, List.length_take]; have := HI.out; omega)
              have f9 : (k' : Int) < (xs.length : Int) := by omega
              have f10 : (k' : Int) ≤ (xs.length : Int) := by omega
              have f11 : k' ≤ xs.length := by omega
              have f12 : k' ≤ cap := by have := HC.out; omega
              have f13 : k' < cap := by have := HC.out; omega
              obtain ⟨zs, hzs⟩ := clear_T wr g (k' * 6) (xs.length - k') (cap - k') (by omega) (fun i hi => by
                have h := HoldsK.cell HRW.out (i := k' + i / 6) (c := i % 6) (by rw [List.size_toArray, HI.out.2.2]; omega) (Nat.mod_lt _ (by decide))
                rw [show 0 + (k' + i / 6) * 6 + i % 6 = k' * 6 + i from by omega] at h
                exact ⟨by rw [h.1]; rfl, h.2⟩)
              have HZ := Aside0.mk (show RowT (wr.setCells g (k' * 6) zs) g (dd xs) from row_cut (by rw [← HTX.out]; exact row_take HRW.out k') zs (k' * 6) (by rw [HLX.out]; exact Nat.le_refl _))
              have HBZ := Aside0.mk (show ∀ B, B ≤ g → Below B w (wr.setCells g (k' * 6) zs) from fun B hB => (HBW.out B hB).trans (below_cells B zs wr g (k' * 6) hB))
              clear HRW HBW HT HTX HS HD2 hk' hall
              go_wp2
              go_ret
              exact ⟨by rw [HLX.out]; rfl, HZ.out, HBZ.out⟩
    · obtain rfl : k = xs.length := by have := HK.out; omega
      have f1 : decide (xs.length < xs.length) = false := decide_eq_false (by omega)
      have f2 : decide ((xs.length : Int) < (xs.length : Int)) = false := decide_eq_false (by omega)
      have HDX := Aside0.mk (show dd xs = xs from by have := HD.out; rwa [List.take_length] at this)
      go_wp2
      go_ret
      refine ⟨by rw [HDX.out]; rfl, by rw [HDX.out]; exact HR.out, fun B _ => pw_below_drewN (Below.refl _ _) _⟩

end Go.Proofs.YtlbbhgmpiednfaaGreatDoor.HTupK
/- tuple.Sorted. -/
namespace Go.Proofs.YtlbbhgmpiednfaaGreatDoor.HTupW
open Go.RowKit Go.Shelf Go.Sort Go.Proofs.YtlbbhgmpiednfaaGreatDoorW.PrintWords Go.Proofs.YtlbbhgmpiednfaaGreatDoor.HLib Go.Proofs.YtlbbhgmpiednfaaGreatDoor.HGr Go.Proofs.YtlbbhgmpiednfaaGreatDoor.PTupleSorts Go.Proofs.YtlbbhgmpiednfaaGreatDoor.HTupV Go.Proofs.YtlbbhgmpiednfaaGreatDoor.HTupE Go.Proofs.YtlbbhgmpiednfaaGreatDoor.HTupO Go.Proofs.YtlbbhgmpiednfaaGreatDoor.HTupS Go.Proofs.YtlbbhgmpiednfaaGreatDoor.HTupD Go.Proofs.YtlbbhgmpiednfaaGreatDoor.HTupK
set_option linter.unusedVariables false
set_option linter.unusedSimpArgs false

theorem cell_lt {w : World} {a : Addr} {v : Value} (h : w.cell? a = some v) : a.block < w.heap.size := by
  rcases Nat.lt_or_ge a.block w.heap.size with h' | h'
  · exact h'
  · simp [World.cell?, Array.getElem?_eq_none h'] at h
theorem blk_of_C {w : World} {A : Option Addr} {xs : List S32} (h : Kd.C k32 w A xs.length xs) (h0 : 0 < xs.length) (a : Addr) (ha : A = some a) : a.block < w.heap.size := by
  obtain ⟨ad, hAd, a1, _⟩ := at_T32 h 0 (by omega) (by omega)
  rw [ha] at hAd
  injection hAd with hAd
  subst hAd
  have := cell_lt a1
  rwa [add_block] at this
theorem C_of_row {w : World} {g : Nat} {m : List S32} (h : RowT w g m) (hl : m.length ≤ 1000000) : Kd.C k32 w (some ⟨g, 0, none⟩) m.length m := by
  refine ⟨rfl, by omega, fun hp => ⟨_, rfl, fun j p hj => ⟨tc p, rfl, k32_mk w p, fun i u hu => ?_⟩⟩⟩
  have hjl : j < m.length := (List.getElem?_eq_some_iff.1 hj).1
  have hjp : m[j] = p := (List.getElem?_eq_some_iff.1 hj).2
  obtain ⟨e1, e2, e3, e4, e5, e6⟩ := row_at h j hjl
  rw [hjp] at e1 e2 e3 e4 e5 e6
  rw [show ((⟨g, 0, none⟩ : Addr).add (j * k32.sz + i)) = ⟨g, j * 6 + i, none⟩ from by show (⟨g, 0, none⟩ : Addr).add (j * 6 + i) = _; simp [Addr.add]; omega]
  match i, hu with
  | 0, hu => rw [← hu]; exact e1
  | 1, hu => rw [← hu]; exact e2
  | 2, hu => rw [← hu]; exact e3
  | 3, hu => rw [← hu]; exact e4
  | 4, hu => rw [← hu]; exact e5
  | 5, hu => rw [← hu]; exact e6
noncomputable def srt (xs : List S32) : List S32 := xs.mergeSort fun x y => !(ltOf cmpT) y x
theorem srt_len (xs : List S32) : (srt xs).length = xs.length := List.length_mergeSort _
theorem sortnone_any (w : World) : Calls Tryz.prog 62 #[.slice none 0 0, .func (.func 13) #[] #[]] w fun e w' => e = .returned (.tuple #[]) ∧ w' = w :=
  AnyF.slices_SortFunc_none Tryz.sortT none 0 _ w
/-- What slices.SortedFunc gives. -/
def Gives (w w' : World) (xs : List S32) (v : Value) : Prop := ((xs = [] ∧ v = .slice none 0 0) ∨ ∃ g cap, v = .slice (some ⟨g, 0, none⟩) xs.length cap ∧ w.heap.size ≤ g ∧ RowT w' g (srt xs) ∧ xs.length ≤ cap) ∧ Below w.heap.size w w'
set_option maxHeartbeats 1000000 in
theorem sortedfunc_any (Bs cap : Nat) (A : Option Addr) (xs : List S32) (hl : xs.length ≤ 1000000) (w : World) (hBs : Bs < w.heap.size) (hcell : w.cell? ⟨Bs, 0, none⟩ = some (.slice A xs.length cap)) (hc : Kd.C k32 w A xs.length xs) :
    Calls Tryz.prog 33 #[.func (.func 63) #[] #[.pointer (some ⟨Bs, 0, none⟩)], .func (.func 13) #[] #[]] w fun e w' => ∃ v, e = .returned v ∧ Gives w w' xs v := by
  have HA := Aside0.mk (collect_any Bs cap A xs hl w hBs (blk_of_C hc) hcell hc)
  have HL := Aside0.mk hl
  clear hl hBs hcell hc
  go_enter Tryz.func33, Tryz.ntmps33
  go_wp2_with fail
  refine HA.out.mono ?_
  rintro e w1 ⟨v, rfl, h1, h2, h3⟩
  have HB := Aside0.mk h3
  clear h3 HA
  by_cases hx : xs = []
  · obtain rfl := h2.2 hx
    have HX := Aside0.mk hx
    clear h1 h2 hx
    go_wp2_with fail
    refine (sortnone_any w1).mono ?_
    rintro e w2 ⟨rfl, rfl⟩
    go_wp2
    go_ret
    exact ⟨_, rfl, Or.inl ⟨HX.out, rfl⟩, HB.out⟩
  · have h4 : ∃ g cap, v = .slice (some ⟨g, 0, none⟩) xs.length cap := by
      obtain ⟨_, ⟨h5, h6⟩ | ⟨g, cap', cur, h5, _⟩⟩ := h1
      · exact absurd (h2.1 h5) hx
      · exact ⟨g, cap', h5⟩
    obtain ⟨g, cap', rfl⟩ := h4
    obtain ⟨h5, h6, h7, h8⟩ := holds_of_own h1
    have HS := Aside0.mk (sort_any w1 g cap' xs h5 h7 HL.out)
    have HC := Aside0.mk (And.intro h6 h8)
    clear h1 h2 h5 h6 h7 h8 hx
    go_wp2_with fail
    refine HS.out.mono ?_
    rintro e w2 ⟨rfl, hr, hb⟩
    have HR := Aside0.mk (And.intro hr (HB.out.trans (hb _ HC.out.1)))
    clear hr hb
    go_wp2
    go_ret
    exact ⟨_, rfl, Or.inr ⟨g, cap', rfl, HC.out.1, HR.out.1, HC.out.2⟩, HR.out.2⟩
/-- Sorted, each one once. -/
noncomputable def srd (xs : List S32) : List S32 := dd (srt xs)
theorem srd_len (xs : List S32) : (srd xs).length ≤ xs.length := by
  have := dd_len (srt xs)
  rw [srt_len] at this
  exact this
structure St (w' : World) (A : Option Addr) (c : Nat) (X : List S32) : Prop where
  cap : X.length ≤ c
  cells : Kd.C k32 w' A X.length X
theorem St.below {w w1 : World} {A c X} (h : St w A c X) (hb : Below w.heap.size w w1) : St w1 A c X := ⟨h.cap, Kd.C_below h.cells hb⟩
set_option maxHeartbeats 1000000 in
theorem sorted_any (A : Option Addr) (cap : Nat) (xs : List S32) (hl : xs.length ≤ 1000000) (w : World) (hc : Kd.C k32 w A xs.length xs) :
    Calls Tryz.prog 10 #[.slice A xs.length cap] w fun e w' => ∃ A' c', e = .returned (.slice A' (srd xs).length c') ∧ St w' A' c' (srd xs) ∧ Below w.heap.size w w' := by
  have HL := Aside0.mk hl
  obtain ⟨w1, hw1⟩ : ∃ w1, w1 = w.alloc (.cells #[.slice A xs.length cap] 22) := ⟨_, rfl⟩
  have HB := Aside0.mk (show Below w.heap.size w w1 from by rw [hw1]; exact below_alloc (B0 w) _)
  have hblk : w1.heap[w.heap.size]? = some (.cells #[.slice A xs.length cap] 22 (0, 0)) := by rw [hw1]; exact blk_new w _
  have HS := Aside0.mk (sortedfunc_any w.heap.size cap A xs hl w1 (blk_lt hblk) ((blk_cell hblk 0).trans rfl) (Kd.C_below hc HB.out))
  have HV := Aside0.mk (values_any A xs.length cap w)
  clear hl hc hblk
  go_enter Tryz.func10, Tryz.ntmps10
  go_wp2_with fail
  refine HV.out.mono ?_
  rintro e w2 ⟨rfl, rfl⟩
  rw [← hw1]
  clear hw1 HV
  go_wp2_with fail
  refine HS.out.mono ?_
  rintro e w2 ⟨v, rfl, hg, hb⟩
  have HB2 := Aside0.mk (below_step HB.out hb)
  have HSZ := Aside0.mk HB.out.size
  clear hb HS
  rcases hg with ⟨rfl, rfl⟩ | ⟨g, cap', rfl, hg1, hg2, hg3⟩
  · go_wp2_with fail
    refine (small_any none 0 0 (by decide) w2).mono ?_
    rintro e w3 ⟨rfl, rfl⟩
    go_wp2
    go_ret
    have e : srd [] = [] := by simp [srd, srt, dd]
    rw [e]
    exact ⟨none, 0, rfl, ⟨Nat.le_refl _, Kd.C_nil _ _⟩, HB2.out⟩
  · by_cases h2 : xs.length < 2
    · have HE := Aside0.mk (show srd xs = srt xs from by
        have hl := srt_len xs
        unfold srd
        match h : srt xs, hl with
        | [], _ => rfl
        | [x], _ => rfl
        | x :: y :: l, hl => simp at hl; omega)
      have HR := Aside0.mk (And.intro hg2 hg3)
      have HM := Aside0.mk (small_any (some ⟨g, 0, none⟩) xs.length cap' h2 w2)
      clear hg1 hg2 hg3 h2
      go_wp2_with fail
      refine HM.out.mono ?_
      rintro e w3 ⟨rfl, rfl⟩
      go_wp2
      go_ret
      rw [HE.out]
      exact ⟨some ⟨g, 0, none⟩, cap', by rw [srt_len]; rfl, ⟨by rw [srt_len]; exact HR.out.2, C_of_row HR.out.1 (by rw [srt_len]; exact HL.out)⟩, HB2.out⟩
    · have HM := Aside0.mk (compact_row g cap' (srt xs) (by rw [srt_len]; omega) (by rw [srt_len]; exact HL.out) (by rw [srt_len]; exact hg3) w2 hg2)
      rw [srt_len] at HM
      have HG := Aside0.mk (show w.heap.size ≤ g from Nat.le_trans HSZ.out hg1)
      have HCP := Aside0.mk (show (srd xs).length ≤ cap' from Nat.le_trans (srd_len xs) hg3)
      clear hg1 hg2 hg3 h2
      go_wp2_with fail
      refine HM.out.mono ?_
      rintro e w3 ⟨rfl, hr, hb⟩
      have HR := Aside0.mk (And.intro hr (HB2.out.trans (hb _ HG.out)))
      clear hr hb HM
      go_wp2
      go_ret
      exact ⟨some ⟨g, 0, none⟩, cap', rfl, ⟨HCP.out, C_of_row HR.out.1 (Nat.le_trans (srd_len xs) HL.out)⟩, HR.out.2⟩
end Go.Proofs.YtlbbhgmpiednfaaGreatDoor.HTupW
