/- The iterator over the leaves: visited kids. -/
import Derived.Test.YtikgngcdgejgjaaDoorUEA
import Derived.RangeFuncNested
import Derived.RangeFuncBound
import Derived.RangeFuncCalls
import Derived.RangeFuncLeaves
import Derived.RangeFuncBox
import Derived.Shelf.Abstract
import Derived.Shelf.RegionOpen
import Derived.WalkKit
import Derived.OwnWalkIn
import Derived.TacticsInMore
import Derived.LoopNIn
import Derived.LoopIn
import Derived.Test.YtikgngcdgejgjaaDoorShelf
namespace Go.Proofs.YtikgngcdgejgjaaDoor.HExV
open Go.RowKit Go.Shelf Go.Proofs.YtikgngcdgejgjaaDoorW.PrintWords Go.Proofs.YtikgngcdgejgjaaDoor.HLib Go.Proofs.YtikgngcdgejgjaaDoor.HGr Go.Proofs.YtikgngcdgejgjaaDoor.HNameP Go.Proofs.YtikgngcdgejgjaaDoor.HName Go.Proofs.YtikgngcdgejgjaaDoor.HExP Go.Proofs.YtikgngcdgejgjaaDoor.HExR Go.Proofs.YtikgngcdgejgjaaDoor.HExQ Go.Proofs.YtikgngcdgejgjaaDoor.HExL Go.Proofs.YtikgngcdgejgjaaDoor.HExA Go.Proofs.YtikgngcdgejgjaaDoor.HExF
open Go.Proofs.YtikgngcdgejgjaaDoor.PExprMatchesReference
set_option linter.unusedVariables false
set_option linter.unusedSimpArgs false
/-- An argument of a call that visits x. -/
def xa (x : Ex) (B : Option Addr) (d : Nat) : Value := .agg #[.int .i64 x.f0, .string x.f1, .string x.f2, .slice B x.f3.length d]
set_option maxRecDepth 20000 in
set_option maxHeartbeats 8000000 in
/-- slices.IndexFunc with a predicate that goes from state to state, until it answers true. -/
theorem indexfunc_st (g : Nat) (lb : Array Value) (eg : ∀ args w, (callFunc g args).run Tryd.prog w = .ok (.enter g args) w) (ks : List Ex) (A : Option Addr) (c : Nat) (w0 : World) (hl : ks.length ≤ 1000000) (hC : Kd.C kE w0 A ks.length ks) (St : Nat → World → Prop) (Sx : World → Prop) (hSt : ∀ j W, St j W → Below w0.heap.size w0 W)
    (hp : ∀ (j : Nat) (h : j < ks.length) (B : Option Addr) (d : Nat) (W : World), St j W → Rd w0 B d ks[j] → Calls Tryd.prog g (#[.agg #[.int .i64 ks[j].f0, .string ks[j].f1, .string ks[j].f2, .slice B ks[j].f3.length d]] ++ lb) W fun e w' => (e = .returned (.bool false) ∧ St (j + 1) w') ∨ (e = .returned (.bool true) ∧ Sx w')) (w : World) (h0 : St 0 w) :
    Calls Tryd.prog 52 #[.slice A ks.length c, .func (.func g) #[] lb] w fun e w' => ∃ r : Int, e = .returned (.int .i64 r) ∧ ((decide (0 ≤ r) = false ∧ St ks.length w') ∨ (decide (0 ≤ r) = true ∧ Sx w')) := by
  have HC := Aside0.mk hC
  have HP := Aside0.mk hp
  have HL := Aside0.mk hl
  have HST := Aside0.mk hSt
  have H0 := Aside0.mk h0
  obtain ⟨n, hn⟩ : ∃ n, n = ks.length := ⟨_, rfl⟩
  have HN := Aside0.mk hn
  rw [← hn]
  clear hC hp hl hn hSt h0
  go_enter Tryd.func52, Tryd.ntmps52
  go_wp2
  go_loopg [5, 8] n (fun gg _ s8 wr => ∃ kk : Nat, s8 = .int .i64 kk ∧ Aside0 (gg + kk = n) ∧ Aside0 (St kk wr))
  case atStart => exact ⟨0, rfl, ⟨by omega⟩, H0⟩
  case round =>
    obtain ⟨kk, rfl, HG, HS⟩ := hrel
    by_cases hlt : kk < n
    · have f3 : (kk : Int) < (n : Int) := by omega
      have f1 : decide ((kk : Int) < (n : Int)) = true := decide_eq_true f3
      have f5 : (0 : Int) ≤ (kk : Int) := by omega
      have f4 : IntKind.i64.wrap ((kk : Int) + 1) = (kk : Int) + 1 := by rw [IntKind.wrap_i64]; have := HL.out; have := HN.out; omega
      have hj : kk < ks.length := by have := HN.out; omega
      obtain ⟨ad, B, d, hA, hR, hcs⟩ := kid_cells HC.out kk hj
      have hcall := HP.out kk hj B d wr HS.out hR
      obtain ⟨a1, a2, a3, a4⟩ := hcs wr (HST.out _ _ HS.out)
      obtain ⟨x, hx⟩ : ∃ x, x = ks[kk] := ⟨_, rfl⟩
      rw [← hx] at a1 a2 a3 a4 hcall
      subst hA
      clear hx hR hcs hj
      have HCALL := Aside0.mk hcall
      clear hcall
      go_wp2_with (go_at_fn g; refine (HCALL.out).mono ?_; rintro e w' (⟨rfl, hb'⟩ | ⟨rfl, hb'⟩))
      · go_roundg (n - (kk + 1))
        case measure => have := HG.out; omega
        case rel => exact ⟨kk + 1, by first | rfl | go_num, ⟨by have := HG.out; omega⟩, ⟨hb'⟩⟩
      · go_ret
        exact ⟨_, rfl, .inr ⟨by rw [decide_eq_true]; omega, hb'⟩⟩
    · obtain rfl : kk = n := by have := HG.out; omega
      have f3 : ¬ (kk : Int) < (kk : Int) := by omega
      go_wp2
      go_ret
      exact ⟨_, rfl, .inl ⟨by decide, HS.out⟩⟩
set_option maxRecDepth 20000 in
set_option maxHeartbeats 8000000 in
theorem containsfunc_st (g : Nat) (lb : Array Value) (eg : ∀ args w, (callFunc g args).run Tryd.prog w = .ok (.enter g args) w) (ks : List Ex) (A : Option Addr) (c : Nat) (w0 : World) (hl : ks.length ≤ 1000000) (hC : Kd.C kE w0 A ks.length ks) (St : Nat → World → Prop) (Sx : World → Prop) (hSt : ∀ j W, St j W → Below w0.heap.size w0 W)
    (hp : ∀ (j : Nat) (h : j < ks.length) (B : Option Addr) (d : Nat) (W : World), St j W → Rd w0 B d ks[j] → Calls Tryd.prog g (#[.agg #[.int .i64 ks[j].f0, .string ks[j].f1, .string ks[j].f2, .slice B ks[j].f3.length d]] ++ lb) W fun e w' => (e = .returned (.bool false) ∧ St (j + 1) w') ∨ (e = .returned (.bool true) ∧ Sx w')) (w : World) (h0 : St 0 w) :
    Calls Tryd.prog 41 #[.slice A ks.length c, .func (.func g) #[] lb] w fun e w' => (e = .returned (.bool false) ∧ St ks.length w') ∨ (e = .returned (.bool true) ∧ Sx w') := by
  have HI := Aside0.mk (indexfunc_st g lb eg ks A c w0 hl hC St Sx hSt hp w h0)
  obtain ⟨n, hn⟩ : ∃ n, n = ks.length := ⟨_, rfl⟩
  rw [← hn] at HI ⊢
  clear hC hp hl hn h0 hSt
  go_enter Tryd.func41, Tryd.ntmps41
  go_wp2_with (refine (HI.out).mono ?_; rintro e w' ⟨r, rfl, ⟨hr, hs⟩ | ⟨hr, hs⟩⟩)
  · go_ret
    exact .inl ⟨rfl, hs⟩
  · go_ret
    exact .inr ⟨rfl, hs⟩
end Go.Proofs.YtikgngcdgejgjaaDoor.HExV
/- The iterator over the leaves: visit. -/
namespace Go.Proofs.YtikgngcdgejgjaaDoor.HExW
open Go.RowKit Go.Shelf Go.Proofs.YtikgngcdgejgjaaDoorW.PrintWords Go.Proofs.YtikgngcdgejgjaaDoor.HLib Go.Proofs.YtikgngcdgejgjaaDoor.HGr Go.Proofs.YtikgngcdgejgjaaDoor.HNameP Go.Proofs.YtikgngcdgejgjaaDoor.HName Go.Proofs.YtikgngcdgejgjaaDoor.HPe Go.Proofs.YtikgngcdgejgjaaDoor.HPf Go.Proofs.YtikgngcdgejgjaaDoor.HExP Go.Proofs.YtikgngcdgejgjaaDoor.HExR Go.Proofs.YtikgngcdgejgjaaDoor.HExQ Go.Proofs.YtikgngcdgejgjaaDoor.HExL Go.Proofs.YtikgngcdgejgjaaDoor.HExA Go.Proofs.YtikgngcdgejgjaaDoor.HExF Go.Proofs.YtikgngcdgejgjaaDoor.HExV
open Go.Proofs.YtikgngcdgejgjaaDoor.PExprMatchesReference
set_option linter.unusedVariables false
set_option linter.unusedSimpArgs false
attribute [local go_sem] Oper.semAt_some
/-- What a round keeps: all that lay below n₀, and all cells from n₁ on. -/
structure KC (n₀ n₁ : Nat) (W W' : World) : Prop where
  below : Below n₀ W W'
  keep : ∀ (k : Nat) (cs : Array Value) (t : TypeId) (f : Nat × Nat), n₁ ≤ k → W.heap[k]? = some (.cells cs t f) → W'.heap[k]? = some (.cells cs t f)
theorem KC.refl (n₀ n₁ : Nat) (W : World) : KC n₀ n₁ W W := ⟨Below.refl _ _, fun _ _ _ _ _ h => h⟩
theorem KC.trans {n₀ n₁ : Nat} {A B C : World} (h : KC n₀ n₁ A B) (k : KC n₀ n₁ B C) : KC n₀ n₁ A C := ⟨h.below.trans k.below, fun i cs t f hi hc => k.keep i cs t f hi (h.keep i cs t f hi hc)⟩
theorem KC.of_below {n₀ n₁ : Nat} {A B : World} (h : Below A.heap.size A B) (hn : n₀ ≤ A.heap.size) : KC n₀ n₁ A B :=
  ⟨h.mono hn, fun k cs t f _ hc => (h.block k (Array.getElem?_eq_some_iff.1 hc).1).trans hc⟩
/-- A leaf, with where its kids lie. -/
abbrev Lf := Ex × Option Addr × Nat
def encL (y : Lf) : Array Value := #[.agg #[.int .i64 y.1.f0, .string y.1.f1, .string y.1.f2, .slice y.2.1 y.1.f3.length y.2.2]]
def Ok (w0 : World) (ls : List Lf) (xs : List Ex) : Prop := ls.map (·.1) = xs ∧ ∀ y ∈ ls, Rd w0 y.2.1 y.2.2 y.1
def OkP (w0 : World) (ls : List Lf) (xs : List Ex) : Prop := ls.map (·.1) <+: xs ∧ ∀ y ∈ ls, Rd w0 y.2.1 y.2.2 y.1
theorem Ok.append {w0 : World} {ls ms : List Lf} {xs ys : List Ex} (h : Ok w0 ls xs) (k : Ok w0 ms ys) : Ok w0 (ls ++ ms) (xs ++ ys) :=
  ⟨by rw [List.map_append, h.1, k.1], fun y hy => (List.mem_append.1 hy).elim (h.2 y) (k.2 y)⟩
theorem Ok.then {w0 : World} {ls ms : List Lf} {xs ys : List Ex} (h : Ok w0 ls xs) (k : OkP w0 ms ys) : OkP w0 (ls ++ ms) (xs ++ ys) :=
  ⟨by rw [List.map_append, h.1]; exact (List.prefix_append_right_inj xs).2 k.1, fun y hy => (List.mem_append.1 hy).elim (h.2 y) (k.2 y)⟩
theorem OkP.more {w0 : World} {ls : List Lf} {xs ys : List Ex} (h : OkP w0 ls xs) : OkP w0 ls (xs ++ ys) := ⟨h.1.trans (List.prefix_append _ _), h.2⟩
theorem Ok.one {w0 : World} {x : Ex} {B : Option Addr} {d : Nat} (h : Rd w0 B d x) : Ok w0 [(x, B, d)] [x] := ⟨rfl, fun y hy => by rw [List.mem_singleton.1 hy]; exact h⟩
theorem Ok.nil (w0 : World) : Ok w0 [] [] := ⟨rfl, fun y hy => by cases hy⟩
theorem Ok.pre {w0 : World} {ls : List Lf} {xs : List Ex} (h : Ok w0 ls xs) : OkP w0 ls xs := ⟨by rw [h.1]; exact List.prefix_refl _, h.2⟩
/-- The boxes of yield and of visit. -/
structure VW (w0 : World) (n₁ By Bv l : Nat) (W : World) : Prop where
  hb : Below w0.heap.size w0 W
  ny : n₁ ≤ By
  nv : n₁ ≤ Bv
  hy : W.heap[By]? = some (.cells #[.func (.yield l) #[] #[]] 26 (0, 0))
  hv : W.heap[Bv]? = some (.cells #[.func (.func 39) #[] #[.pointer (some ⟨By, 0, none⟩), .pointer (some ⟨Bv, 0, none⟩)]] 26 (0, 0))
theorem VW.step {w0 : World} {n₁ By Bv l : Nat} {W W' : World} (h : VW w0 n₁ By Bv l W) (k : KC w0.heap.size n₁ W W') : VW w0 n₁ By Bv l W' :=
  ⟨h.hb.trans k.below, h.ny, h.nv, k.keep _ _ _ _ h.ny h.hy, k.keep _ _ _ _ h.nv h.hv⟩
theorem lv_take (ks : List Ex) (j : Nat) (h : j < ks.length) : lvL (ks.take (j + 1)) = lvL (ks.take j) ++ lvE ks[j] := by
  have hap : ∀ (us : List Ex) (b : Ex), lvL (us ++ [b]) = lvL us ++ lvE b := by
    intro us b
    induction us with
    | nil => rw [List.nil_append, lvL, lvL, lvL, List.append_nil, List.nil_append]
    | cons a us ih => rw [List.cons_append, lvL, lvL, ih, List.append_assoc]
  rw [List.take_succ_eq_append_getElem h, hap]
theorem lv_split (ks : List Ex) (j : Nat) : lvL ks = lvL (ks.take j) ++ lvL (ks.drop j) := by
  have hap : ∀ (us bs : List Ex), lvL (us ++ bs) = lvL us ++ lvL bs := by
    intro us bs
    induction us with
    | nil => rw [List.nil_append, lvL, List.nil_append]
    | cons a us ih => rw [List.cons_append, lvL, lvL, ih, List.append_assoc]
  rw [← hap, List.take_append_drop]
theorem lv_drop (ks : List Ex) (j : Nat) (h : j < ks.length) : lvL (ks.drop j) = lvE ks[j] ++ lvL (ks.drop (j + 1)) := by
  rw [List.drop_eq_getElem_cons h, lvL]
def Vpost (w0 : World) (n₁ : Nat) (J Jx : List Lf → World → Prop) (pre : List Lf) (xs : List Ex) (W : World) (e : Ending) (W' : World) : Prop :=
  (e = .returned (.bool true) ∧ ∃ ls, Ok w0 ls xs ∧ J (pre ++ ls) W' ∧ KC w0.heap.size n₁ W W') ∨ (e = .returned (.bool false) ∧ ∃ ls, OkP w0 ls xs ∧ Jx (pre ++ ls) W')
/-- What the leaves handed on are known to be. -/
structure GoodL (w0 : World) (Sub : Ex → Prop) (Gd : Lf → Prop) : Prop where
  kids : ∀ z, Sub z → ∀ k ∈ z.f3, Sub k
  good : ∀ z B d, Sub z → Rd w0 B d z → Gd (z, B, d)
def RoundE (Gd : Lf → Prop) (w0 : World) (n₁ N l : Nat) (J Jx : List Lf → World → Prop) : Prop :=
  ∀ m pre y W, Gd y → J pre W → pre.length < N → YieldAt Fence.wide m Tryd.prog l (encL y) W fun e W' =>
      (e = .returned (.bool true) ∧ J (pre ++ [y]) W' ∧ KC w0.heap.size n₁ W W') ∨ (e = .returned (.bool false) ∧ Jx (pre ++ [y]) W')

set_option maxRecDepth 100000 in
set_option maxHeartbeats 8000000 in
theorem leaf_any (x : Ex) (A : Option Addr) (c : Nat) (w : World) (hR : Rd w A c x) : Calls Tryd.prog 40 #[.agg #[.int .i64 x.f0, .string x.f1, .string x.f2, .slice A x.f3.length c]] w fun e w' => e = .returned (.bool (leafK x.f0)) ∧ Below w.heap.size w w' :=
  expr_part_leaf.calls x.f0 x.f1 x.f2 A c x.f3 (leafK x.f0) w hR.1 hR.2 (pleaf_eq x)

set_option maxRecDepth 100000 in
set_option maxHeartbeats 8000000 in
theorem visit_any (w0 : World) (Sub : Ex → Prop) (Gd : Lf → Prop) (hGd : GoodL w0 Sub Gd) (n₁ By Bv l N : Nat) (J Jx : List Lf → World → Prop) (hJ : ∀ pre W W', J pre W → W.grownBy W' none → J pre W') (hY : RoundE Gd w0 n₁ N l J Jx) :
    ∀ (m : Nat) (x : Ex), nodE x ≤ m → m ≤ 1000000 → Sub x → ∀ (B : Option Addr) (d : Nat) (pre : List Lf) (W : World), Rd w0 B d x → VW w0 n₁ By Bv l W → J pre W → pre.length + (lvE x).length ≤ N →
      Calls Tryd.prog 39 #[.agg #[.int .i64 x.f0, .string x.f1, .string x.f2, .slice B x.f3.length d], .pointer (some ⟨By, 0, none⟩), .pointer (some ⟨Bv, 0, none⟩)] W (Vpost w0 n₁ J Jx pre (lvE x) W) := by
  intro m
  induction m with
  | zero => intro x h; rw [nod_eq] at h; omega
  | succ m ih =>
    intro x hm hm2 hsub B d pre W hR hV hJ0 hN
    have hlen : x.f3.length ≤ 1000000 := by have := len_nod x.f3; rw [nod_eq] at hm; omega
    obtain ⟨W1, hW1⟩ : ∃ W1, W1 = W.alloc (.cells #[.int .i64 x.f0, .string x.f1, .string x.f2, .slice B x.f3.length d] 24) := ⟨_, rfl⟩
    have hb1 : Below W.heap.size W W1 := by rw [hW1]; exact below_alloc (B0 W) _
    have hk1 : W1.heap[W.heap.size]? = some (.cells #[.int .i64 x.f0, .string x.f1, .string x.f2, .slice B x.f3.length d] 24 (0, 0)) := by rw [hW1]; exact blk_new W _
    have hn0 : w0.heap.size ≤ W.heap.size := hV.hb.size
    have kc1 : KC w0.heap.size n₁ W W1 := KC.of_below hb1 hn0
    obtain ⟨gb, hgb⟩ : ∃ g, g = W.heap.size := ⟨_, rfl⟩
    rw [← hgb] at hk1
    refine (callsIn_wide (n := 3)).1 ?_
    by_cases cl : leafK x.f0 = true
    · -- a leaf: it is yielded
      have HLF := Aside0.mk (show CallsIn Fence.wide 2 Tryd.prog 40 #[.agg #[.int .i64 x.f0, .string x.f1, .string x.f2, .slice B x.f3.length d]] W1 fun e W2 => e = .returned (.bool true) ∧ W2.cell? ⟨By, 0, none⟩ = some (.func (.yield l) #[] #[]) ∧
          (W2.cell? ⟨gb, 0, none⟩ = some (.int .i64 x.f0) ∧ W2.cell? ⟨gb, 1, none⟩ = some (.string x.f1) ∧ W2.cell? ⟨gb, 2, none⟩ = some (.string x.f2) ∧ W2.cell? ⟨gb, 3, none⟩ = some (.slice B x.f3.length d)) ∧
          YieldAt Fence.wide 2 Tryd.prog l #[.agg #[.int .i64 x.f0, .string x.f1, .string x.f2, .slice B x.f3.length d]] W2 (Vpost w0 n₁ J Jx pre (lvE x) W) from by
        have hR1 : Rd W1 B d x := hR.below (below_then hV.hb hV.hb.size hb1)
        have h1 := leaf_any x B d W1 hR1
        rw [cl] at h1
        refine (callsIn_wide).2 (h1.mono ?_)
        rintro e W2 ⟨rfl, hb2⟩
        have kc2 : KC w0.heap.size n₁ W W2 := kc1.trans (KC.of_below hb2 (Nat.le_trans hn0 hb1.size))
        have hV2 := hV.step kc2
        refine ⟨rfl, (blk_cell hV2.hy 0).trans rfl, cells4 (blk_below hk1 hb2), YieldAt.mono (hY 2 pre (x, B, d) W2 (hGd.good x B d hsub hR) (hJ _ _ _ (hJ _ _ _ hJ0 (grown_of_below hb1 none)) (grown_of_below hb2 none)) (by rw [lv_eq, if_pos cl] at hN; simp at hN; omega)) ?_⟩
        rintro e W3 (⟨rfl, h3, h4⟩ | ⟨rfl, h3⟩)
        · exact .inl ⟨rfl, [(x, B, d)], by rw [lv_eq, if_pos cl]; exact Ok.one hR, h3, kc2.trans h4⟩
        · exact .inr ⟨rfl, [(x, B, d)], by rw [lv_eq, if_pos cl]; exact (Ok.one hR).pre, h3⟩)
      obtain ⟨nk, hnk⟩ : ∃ n, n = x.f3.length := ⟨_, rfl⟩
      obtain ⟨x0, hx0⟩ : ∃ n, n = x.f0 := ⟨_, rfl⟩
      obtain ⟨x1, hx1⟩ : ∃ n, n = x.f1 := ⟨_, rfl⟩
      obtain ⟨x2, hx2⟩ : ∃ n, n = x.f2 := ⟨_, rfl⟩
      rw [← hnk, ← hx0, ← hx1, ← hx2] at HLF hW1 ⊢
      clear ih hR hV hJ0 hN hm hm2 hlen hb1 hk1 hn0 kc1 hnk hx0 hx1 hx2 cl
      refine callsIn_of_wp Tryd.func39 rfl trivial ?_ rfl
      simp only [Tryd.ntmps39, List.size_toArray, List.length_cons, List.length_nil, Nat.reduceAdd, Nat.reduceSub, Array.replicate_succ, Array.replicate_zero, List.push_toArray, List.append_toArray, List.nil_append, List.cons_append]
      gi_wp2
      rw [← hW1, ← hgb]
      clear hW1 hgb
      refine ⟨trivial, (HLF.out).mono ?_⟩
      rintro e W2 ⟨rfl, cy, ⟨c0, c1, c2, c3⟩, fn, tmps, assign, body, hy, hRd⟩
      clear HLF
      gi_wp2
      refine hRd.mono ?_
      clear hRd
      intro e W3 hv
      rcases hv with ⟨rfl, h3⟩ | ⟨rfl, h3⟩
      · gi_wp2
        go_ret
        exact .inl ⟨rfl, h3⟩
      · gi_wp2
        go_ret
        exact .inr ⟨rfl, h3⟩
    · -- its kids are visited
      have eg := enters_of Tryd.func42 (by kernel_rfl) rfl
      have kcb : ∀ W2, Below W1.heap.size W1 W2 → KC w0.heap.size n₁ W W2 := fun W2 hb2 => kc1.trans (KC.of_below hb2 (Nat.le_trans hn0 hb1.size))
      have hfalse : leafK x.f0 = false := by simpa using cl
      have hlv : lvE x = lvL x.f3 := by rw [lv_eq, if_neg cl]
      rw [hlv] at hN
      have HCF := Aside0.mk (show ∀ W2, Below W1.heap.size W1 W2 → CallsIn Fence.wide 2 Tryd.prog 41 #[.slice B x.f3.length d, .func (.func 42) #[] #[.pointer (some ⟨Bv, 0, none⟩)]] W2 fun e W3 =>
          (e = .returned (.bool false) ∧ ∃ ls, Ok w0 ls (lvE x) ∧ J (pre ++ ls) W3 ∧ KC w0.heap.size n₁ W W3) ∨ (e = .returned (.bool true) ∧ ∃ ls, OkP w0 ls (lvE x) ∧ Jx (pre ++ ls) W3) from fun W2 hb2 => by
        rw [hlv]
        refine callsIn_wide.2 ((containsfunc_st 42 #[.pointer (some ⟨Bv, 0, none⟩)] eg x.f3 B d w0 hlen hR.1
          (fun j W' => VW w0 n₁ By Bv l W' ∧ KC w0.heap.size n₁ W W' ∧ ∃ ls, Ok w0 ls (lvL (x.f3.take j)) ∧ J (pre ++ ls) W') (fun W' => ∃ ls, OkP w0 ls (lvL x.f3) ∧ Jx (pre ++ ls) W')
          (fun j W' h => h.1.hb) ?hp W2 ?h0).mono ?hm)
        case h0 =>
          refine ⟨hV.step (kcb W2 hb2), kcb W2 hb2, [], by rw [List.take_zero, lvL]; exact Ok.nil w0, ?_⟩
          rw [List.append_nil]
          exact hJ _ _ _ (hJ _ _ _ hJ0 (grown_of_below hb1 none)) (grown_of_below hb2 none)
        case hm =>
          rintro e W3 (⟨rfl, h3, h4, ls, h5, h6⟩ | ⟨rfl, h3⟩)
          · rw [List.take_length] at h5
            exact .inl ⟨rfl, ls, h5, h6, h4⟩
          · exact .inr ⟨rfl, h3⟩
        case hp =>
          rintro j hj B' d' W3 ⟨hV3, hK3, ls, ho, hj3⟩ hR3
          obtain ⟨y, hy⟩ : ∃ y, y = x.f3[j] := ⟨_, rfl⟩
          have hny : nodE y ≤ m := by have := nod_mem (List.getElem_mem hj); rw [← hy] at this; rw [nod_eq] at hm; omega
          obtain ⟨W4, hW4⟩ : ∃ W4, W4 = W3.alloc (.cells #[.int .i64 y.f0, .string y.f1, .string y.f2, .slice B' y.f3.length d'] 24) := ⟨_, rfl⟩
          have hb4 : Below W3.heap.size W3 W4 := by rw [hW4]; exact below_alloc (B0 W3) _
          have kc4 : KC w0.heap.size n₁ W3 W4 := KC.of_below hb4 hV3.hb.size
          have hV4 := hV3.step kc4
          have cv : W4.cell? ⟨Bv, 0, none⟩ = some (.func (.func 39) #[] #[.pointer (some ⟨By, 0, none⟩), .pointer (some ⟨Bv, 0, none⟩)]) := (blk_cell hV4.hv 0).trans rfl
          have hsp := lv_split x.f3 j
          have hdr := lv_drop x.f3 j hj
          have hls := congrArg List.length ho.1
          rw [List.length_map] at hls
          have hIH := ih y hny (by omega) (by rw [hy]; exact hGd.kids x hsub _ (List.getElem_mem hj)) B' d' (pre ++ ls) W4 (by rw [hy]; exact hR3) hV4 (hJ _ _ _ hj3 (grown_of_below hb4 none)) (by
            rw [hsp, hdr, List.length_append, List.length_append] at hN
            rw [List.length_append, hy]
            omega)
          have HIH := Aside0.mk (show Calls Tryd.prog 39 #[.agg #[.int .i64 y.f0, .string y.f1, .string y.f2, .slice B' y.f3.length d'], .pointer (some ⟨By, 0, none⟩), .pointer (some ⟨Bv, 0, none⟩)] W4 fun e W5 =>
              (e = .returned (.bool true) ∧ (VW w0 n₁ By Bv l W5 ∧ KC w0.heap.size n₁ W W5 ∧ ∃ ls, Ok w0 ls (lvL (x.f3.take (j + 1))) ∧ J (pre ++ ls) W5)) ∨ (e = .returned (.bool false) ∧ ∃ ls, OkP w0 ls (lvL x.f3) ∧ Jx (pre ++ ls) W5) from hIH.mono (by
            rintro e W5 (⟨rfl, ms, h5, h6, h7⟩ | ⟨rfl, ms, h5, h6⟩)
            · refine .inl ⟨rfl, hV4.step h7, (hK3.trans kc4).trans h7, ls ++ ms, ?_, by rw [← List.append_assoc]; exact h6⟩
              rw [lv_take _ _ hj, ← hy]
              exact ho.append h5
            · refine .inr ⟨rfl, ls ++ ms, ?_, by rw [← List.append_assoc]; exact h6⟩
              rw [hsp, hdr, ← hy]
              exact ho.then h5.more))
          rw [← hy]
          obtain ⟨nk, hnk⟩ : ∃ n, n = y.f3.length := ⟨_, rfl⟩
          rw [← hnk] at HIH hW4 ⊢
          show Calls _ _ #[.agg #[.int .i64 y.f0, .string y.f1, .string y.f2, .slice B' nk d'], .pointer (some ⟨Bv, 0, none⟩)] W3 _
          have hk4 : W4.heap[W3.heap.size]? = some (.cells #[.int .i64 y.f0, .string y.f1, .string y.f2, .slice B' nk d'] 24 (0, 0)) := by rw [hW4]; exact blk_new W3 _
          obtain ⟨gk, hgk⟩ : ∃ g, g = W3.heap.size := ⟨_, rfl⟩
          rw [← hgk] at hk4
          obtain ⟨e0, e1, e2, e3⟩ := cells4 hk4
          clear hIH hsp hdr hls hV4 kc4 hb4 hny hy hR3 hV3 hK3 ho hj3 ih kcb hN hlv hfalse hb1 hk1 hn0 kc1 hb2 eg hlen hR hV hJ0 hm hm2 cl hnk hk4
          go_enter Tryd.func42, Tryd.ntmps42
          go_upto_region 1 with fail
          rw [← hW4, ← hgk]
          clear hW4 hgk
          go_wp2_with (refine (HIH.out).mono ?_; clear HIH; rintro e W5 (⟨rfl, h5⟩ | ⟨rfl, h5⟩))
          · go_ret
            exact .inl ⟨rfl, h5⟩
          · go_ret
            exact .inr ⟨rfl, h5⟩)
      have HLF := Aside0.mk (show CallsIn Fence.wide 2 Tryd.prog 40 #[.agg #[.int .i64 x.f0, .string x.f1, .string x.f2, .slice B x.f3.length d]] W1 fun e W2 => e = .returned (.bool false) ∧
          (W2.cell? ⟨gb, 0, none⟩ = some (.int .i64 x.f0) ∧ W2.cell? ⟨gb, 1, none⟩ = some (.string x.f1) ∧ W2.cell? ⟨gb, 2, none⟩ = some (.string x.f2) ∧ W2.cell? ⟨gb, 3, none⟩ = some (.slice B x.f3.length d)) ∧ Below W1.heap.size W1 W2 from by
        have hR1 : Rd W1 B d x := hR.below (below_then hV.hb hV.hb.size hb1)
        have h1 := leaf_any x B d W1 hR1
        rw [hfalse] at h1
        refine (callsIn_wide).2 (h1.mono ?_)
        rintro e W2 ⟨rfl, hb2⟩
        exact ⟨rfl, cells4 (blk_below hk1 hb2), hb2⟩)
      obtain ⟨nk, hnk⟩ : ∃ n, n = x.f3.length := ⟨_, rfl⟩
      obtain ⟨x0, hx0⟩ : ∃ n, n = x.f0 := ⟨_, rfl⟩
      obtain ⟨x1, hx1⟩ : ∃ n, n = x.f1 := ⟨_, rfl⟩
      obtain ⟨x2, hx2⟩ : ∃ n, n = x.f2 := ⟨_, rfl⟩
      rw [← hnk, ← hx0, ← hx1, ← hx2] at HLF
      rw [← hnk] at HCF
      rw [← hnk, ← hx0, ← hx1, ← hx2] at hW1 ⊢
      clear ih hR hV hJ0 hN hm hm2 hlen hb1 hk1 hn0 kc1 hnk hx0 hx1 hx2 cl eg kcb hfalse hlv
      refine callsIn_of_wp Tryd.func39 rfl trivial ?_ rfl
      simp only [Tryd.ntmps39, List.size_toArray, List.length_cons, List.length_nil, Nat.reduceAdd, Nat.reduceSub, Array.replicate_succ, Array.replicate_zero, List.push_toArray, List.append_toArray, List.nil_append, List.cons_append]
      gi_wp2
      rw [← hW1, ← hgb]
      clear hW1 hgb
      refine ⟨trivial, (HLF.out).mono ?_⟩
      rintro e W2 ⟨rfl, ⟨c0, c1, c2, c3⟩, hb2⟩
      have HC2 := Aside0.mk (HCF.out W2 hb2)
      clear HLF HCF hb2
      gi_wp2_with ((try refine ⟨trivial, ?_⟩); refine (HC2.out).mono ?_; clear HC2; rintro e W3 (⟨rfl, h3⟩ | ⟨rfl, h3⟩))
      · go_ret
        exact .inl ⟨rfl, h3⟩
      · go_ret
        exact .inr ⟨rfl, h3⟩
end Go.Proofs.YtikgngcdgejgjaaDoor.HExW
/- Leaves: its iterator's contract; few. -/
namespace Go.Proofs.YtikgngcdgejgjaaDoor.HExI
open Go.RowKit Go.Shelf Go.Proofs.YtikgngcdgejgjaaDoorW.PrintWords Go.Proofs.YtikgngcdgejgjaaDoor.HLib Go.Proofs.YtikgngcdgejgjaaDoor.HGr Go.Proofs.YtikgngcdgejgjaaDoor.HNameP Go.Proofs.YtikgngcdgejgjaaDoor.HName Go.Proofs.YtikgngcdgejgjaaDoor.HPe Go.Proofs.YtikgngcdgejgjaaDoor.HPf Go.Proofs.YtikgngcdgejgjaaDoor.HExP Go.Proofs.YtikgngcdgejgjaaDoor.HExR Go.Proofs.YtikgngcdgejgjaaDoor.HExQ Go.Proofs.YtikgngcdgejgjaaDoor.HExL Go.Proofs.YtikgngcdgejgjaaDoor.HExA Go.Proofs.YtikgngcdgejgjaaDoor.HExF Go.Proofs.YtikgngcdgejgjaaDoor.HExV Go.Proofs.YtikgngcdgejgjaaDoor.HExW
open Go.Proofs.YtikgngcdgejgjaaDoor.PExprMatchesReference
set_option linter.unusedVariables false
set_option linter.unusedSimpArgs false
attribute [local go_sem] Oper.semAt_some
theorem room_wide_ (k : Nat) : Fence.wide.room k := fun d h => by cases h
theorem roundIn_any {m m' : Nat} {P : Program} {l : Nat} {f : FuncId} {tmps : Array Value} {assign body : Code} {w : World} {R : Ending → World → Prop} (h : RoundIn Fence.wide m P l f tmps assign body w R) : RoundIn Fence.wide m' P l f tmps assign body w R := ⟨h.1, fun c cs _ => h.2 c cs (room_wide_ _)⟩
theorem yieldAt_any {m : Nat} (m' : Nat) {P : Program} {l : Nat} {args : Array Value} {W : World} {R : Ending → World → Prop} (h : YieldAt Fence.wide m P l args W R) : YieldAt Fence.wide m' P l args W R := by
  obtain ⟨fn, tmps, assign, body, hy, hR⟩ := h
  exact ⟨fn, tmps, assign, body, hy, roundIn_any hR⟩
theorem kc_t {n₀ n₁ : Nat} {A B C : World} (h : KC n₀ n₁ A B) (k : KC n₀ n₁ B C) : KC n₀ n₁ A C := h.trans k
theorem kc_b {n₀ n₁ : Nat} {w : World} (hn : n₀ ≤ w.heap.size) (W : World) (l : Nat) (o o' : Obj) (hl : w.heap.size ≤ l) (h : W.heap[l]? = some o) (hc : o.isCells = false) (hw : o.isWalk = false) : KC n₀ n₁ W (W.putObj l o') :=
  ⟨belowK_b hn W l o o' hl h hc hw, fun k cs t f _ hk => by
    by_cases e : k = l
    · subst e; rw [h] at hk; cases hk; cases hc
    · exact (World.putObj_heap_other e).trans hk⟩
set_option maxRecDepth 100000 in
set_option maxHeartbeats 4000000 in
/-- The iterator's own text. -/
theorem leaves1_any (w0 : World) (Sub : Ex → Prop) (Gd : Lf → Prop) (hGd : GoodL w0 Sub Gd) (n₁ Be l : Nat) (J Jx : List Lf → World → Prop) (x : Ex) (hsub : Sub x) (B : Option Addr) (d : Nat) (hx : nodE x ≤ 1000000) (hR : Rd w0 B d x) (W : World) (hb : Below w0.heap.size w0 W) (hn₁ : n₁ ≤ W.heap.size) (hJ : AbidesFrom W.heap.size J) (hY : RoundE Gd w0 n₁ (lvE x).length l J Jx)
    (hc : W.heap[Be]? = some (.cells #[.int .i64 x.f0, .string x.f1, .string x.f2, .slice B x.f3.length d] 24 (0, 0))) (h0 : J [] W) :
    Calls Tryd.prog 38 #[.func (.yield l) #[] #[], .pointer (some ⟨Be, 0, none⟩)] W fun e W' => (∃ v, e = .returned v) ∧ ((∃ xs, Ok w0 xs (lvE x) ∧ J xs W') ∨ (∃ pre, OkP w0 pre (lvE x) ∧ Jx pre W')) := by
  have hJ' : ∀ pre A C, J pre A → A.grownBy C none → J pre C := fun pre A C h hg => hJ pre A C none h hg (fun r e => by cases e)
  obtain ⟨W1, hW1⟩ : ∃ W1, W1 = W.alloc (.cells #[.func (.yield l) #[] #[]] 26) := ⟨_, rfl⟩
  obtain ⟨W3, hW3⟩ : ∃ W3, W3 = (W.alloc (.cells #[.func (.yield l) #[] #[]] 26)).alloc (.cells #[.func (.func 39) #[] #[.pointer (some ⟨W.heap.size, 0, none⟩), .pointer (some ⟨W.heap.size + 1, 0, none⟩)]] 26) := ⟨_, rfl⟩
  have s1 : W1.heap.size = W.heap.size + 1 := by rw [hW1]; exact World.size_alloc _ _
  have b1 : Below W.heap.size W W1 := by rw [hW1]; exact below_alloc (B0 W) _
  have b2 : Below W1.heap.size W1 W3 := by rw [hW3, ← hW1]; exact below_alloc (B0 W1) _
  have b3 : Below W.heap.size W W3 := below_then b1 b1.size b2
  have ky1 : W1.heap[W.heap.size]? = some (.cells #[.func (.yield l) #[] #[]] 26 (0, 0)) := by rw [hW1]; exact blk_new W _
  have ky3 : W3.heap[W.heap.size]? = some (.cells #[.func (.yield l) #[] #[]] 26 (0, 0)) := blk_below ky1 b2
  have kv3 : W3.heap[W1.heap.size]? = some (.cells #[.func (.func 39) #[] #[.pointer (some ⟨W.heap.size, 0, none⟩), .pointer (some ⟨W1.heap.size, 0, none⟩)]] 26 (0, 0)) := by
    rw [hW3, ← hW1, ← s1]
    exact blk_new W1 _
  have hV : VW w0 n₁ W.heap.size W1.heap.size l W3 := ⟨below_then hb hb.size b3, hn₁, by omega, ky3, kv3⟩
  have hg3 : W.grownBy W3 none := grown_of_below b3 none
  have hv := visit_any w0 Sub Gd hGd n₁ W.heap.size W1.heap.size l (lvE x).length J Jx hJ' hY (nodE x) x (Nat.le_refl _) hx hsub B d [] W3 hR hV (hJ' _ _ _ h0 hg3) (by simp)
  have HV := Aside0.mk (hv.mono (R' := fun e W' => (e = .returned (.bool true) ∧ ∃ xs, Ok w0 xs (lvE x) ∧ J xs W') ∨ (e = .returned (.bool false) ∧ ∃ pre, OkP w0 pre (lvE x) ∧ Jx pre W')) (by
    rintro e W' (⟨rfl, ls, h1, h2, _⟩ | ⟨rfl, ls, h1, h2⟩)
    · exact .inl ⟨rfl, ls, h1, h2⟩
    · exact .inr ⟨rfl, ls, h1, h2⟩))
  have cv : W3.cell? ⟨W1.heap.size, 0, none⟩ = some (.func (.func 39) #[] #[.pointer (some ⟨W.heap.size, 0, none⟩), .pointer (some ⟨W1.heap.size, 0, none⟩)]) := (blk_cell kv3 0).trans rfl
  have k3 := blk_below hc b3
  obtain ⟨c0, c1, c2, c3⟩ := cells4 k3
  obtain ⟨gy, hgy⟩ : ∃ g, g = W.heap.size := ⟨_, rfl⟩
  have hgv' : W1.heap.size = gy + 1 := by rw [s1, hgy]
  obtain ⟨gv, hgv⟩ : ∃ g, g = W1.heap.size := ⟨_, rfl⟩
  rw [← hgy, ← hgv] at HV cv
  rw [← hgv] at hgv'
  have HW3 := Aside0.mk (And.intro hW3 (And.intro hgy hgv'))
  obtain ⟨nk, hnk⟩ : ∃ n, n = x.f3.length := ⟨_, rfl⟩
  rw [← hnk] at HV c3
  clear hv hV hg3 ky3 kv3 ky1 b1 b2 b3 s1 k3 hc h0 hJ hJ' hY hb hn₁ hR hx hnk hW1 hW3 hgy hgv'
  go_enter Tryd.func38, Tryd.ntmps38
  go_upto_region 3 with fail
  rw [← HW3.out.1, ← HW3.out.2.1, ← HW3.out.2.2] 
  clear HW3 hgv
  go_wp2_with (refine (HV.out).mono ?_; clear HV; rintro e W' (⟨rfl, h3⟩ | ⟨rfl, h3⟩))
  · go_end0
    exact ⟨⟨_, rfl⟩, .inl h3⟩
  · go_end0
    exact ⟨⟨_, rfl⟩, .inr h3⟩
/-- Leaves hands back an iterator that has captured its box. -/
theorem leaves_any (x : Ex) (B : Option Addr) (d : Nat) (w : World) :
    Calls Tryd.prog 20 #[.agg #[.int .i64 x.f0, .string x.f1, .string x.f2, .slice B x.f3.length d]] w fun e w' => e = .returned (.func (.func 38) #[] #[.pointer (some ⟨w.heap.size, 0, none⟩)]) ∧ w' = w.alloc (.cells #[.int .i64 x.f0, .string x.f1, .string x.f2, .slice B x.f3.length d] 24) := by
  obtain ⟨nk, hnk⟩ : ∃ n, n = x.f3.length := ⟨_, rfl⟩
  rw [← hnk]
  clear hnk
  go_enter Tryd.func20, Tryd.ntmps20
  go_wp2
  go_ret
  exact ⟨rfl, rfl⟩
theorem leaves_stops (w0 : World) (n₁ Be n : Nat) (x : Ex) (B : Option Addr) (d : Nat) (hx : nodE x ≤ 1000000) (hR : Rd w0 B d x) (w : World) (hb : Below w0.heap.size w0 w) (hn₁ : n₁ ≤ w.heap.size)
    (hc : w.heap[Be]? = some (.cells #[.int .i64 x.f0, .string x.f1, .string x.f2, .slice B x.f3.length d] 24 (0, 0))) :
    SeqStopsK Fence.wide n Tryd.prog 38 #[.pointer (some ⟨Be, 0, none⟩)] encL (KC w0.heap.size n₁) (fun ys => Ok w0 ys (lvE x)) (fun pre => OkP w0 pre (lvE x)) (lvE x).length w := by
  intro l J Jx W hW hJ _ hY h0
  exact callsIn_wide.2 (leaves1_any w0 (fun _ => True) (fun _ => True) ⟨fun _ _ _ _ => trivial, fun _ _ _ _ _ => trivial⟩ n₁ Be l J Jx x trivial B d hx hR W (below_then hb hb.size hW) (Nat.le_trans hn₁ hW.size) hJ (fun m pre y W1 _ hj hl => yieldAt_any m (hY pre y W1 hj hl)) (blk_below hc hW) h0)
theorem blk_far' {w : World} {g : Nat} {cs : Array Value} {t : TypeId} {f : Nat × Nat} (h : w.heap[g]? = some (.cells cs t f)) {p : Addr} (hp : g ≠ p.block) (u : Value) : (w.setCell p u).heap[g]? = some (.cells cs t f) := (Below.heap_setCell w p u g hp).trans h
/-- The same, over leaves that are known to be good. -/
theorem leaves_stopsG (w0 : World) (Sub : Ex → Prop) (Gd : Lf → Prop) (hGd : GoodL w0 Sub Gd) (n₁ Be n : Nat) (x : Ex) (hsub : Sub x) (B : Option Addr) (d : Nat) (hx : nodE x ≤ 1000000) (hR : Rd w0 B d x) (w : World) (hb : Below w0.heap.size w0 w) (hn₁ : n₁ ≤ w.heap.size)
    (hc : w.heap[Be]? = some (.cells #[.int .i64 x.f0, .string x.f1, .string x.f2, .slice B x.f3.length d] 24 (0, 0))) :
    SeqStopsK Fence.wide n Tryd.prog 38 #[.pointer (some ⟨Be, 0, none⟩)] (fun y : { y : Lf // Gd y } => encL y.1) (KC w0.heap.size n₁) (fun ys => Ok w0 (ys.map (·.1)) (lvE x)) (fun pre => OkP w0 (pre.map (·.1)) (lvE x)) (lvE x).length w := by
  intro l J Jx W hW hJ _ hY h0
  have h := leaves1_any w0 Sub Gd hGd n₁ Be l (fun ls W => ∃ us : List { y : Lf // Gd y }, us.map (·.1) = ls ∧ J us W) (fun ls W => ∃ us : List { y : Lf // Gd y }, us.map (·.1) = ls ∧ Jx us W) x hsub B d hx hR W (below_then hb hb.size hW) (Nat.le_trans hn₁ hW.size)
    (fun ls A C row ⟨us, h1, h2⟩ hg hr => ⟨us, h1, hJ us A C row h2 hg hr⟩)
    (fun m pre y W1 hy hj hl => by
      obtain ⟨us, h1, h2⟩ := hj
      refine yieldAt_any m ((hY us ⟨y, hy⟩ W1 h2 (by rw [← h1, List.length_map] at hl; exact hl)).mono ?_)
      rintro e W2 (⟨he, h3, h4⟩ | ⟨he, h3⟩)
      · exact .inl ⟨he, ⟨us ++ [⟨y, hy⟩], by rw [List.map_append, h1]; rfl, h3⟩, h4⟩
      · exact .inr ⟨he, ⟨us ++ [⟨y, hy⟩], by rw [List.map_append, h1]; rfl, h3⟩⟩)
    (blk_below hc hW) ⟨[], rfl, h0⟩
  refine callsIn_wide.2 (h.mono ?_)
  rintro e W2 ⟨he, ⟨xs, h1, us, h2, h3⟩ | ⟨pre, h1, us, h2, h3⟩⟩
  · exact ⟨he, .inl ⟨us, by show Ok w0 (us.map (·.1)) (lvE x); rw [h2]; exact h1, h3⟩⟩
  · exact ⟨he, .inr ⟨us, by show OkP w0 (us.map (·.1)) (lvE x); rw [h2]; exact h1, h3⟩⟩
theorem ok_len {w0 : World} {ys : List Lf} {xs : List Ex} (h : Ok w0 ys xs) : ys.length = xs.length := by rw [← h.1, List.length_map]
set_option maxRecDepth 100000 in
set_option maxHeartbeats 4000000 in
theorem fewl_any (x : Ex) (B : Option Addr) (d : Nat) (hx : nodE x ≤ 1000000) (w : World) (hR : Rd w B d x) :
    Calls Tryd.prog 31 #[.agg #[.int .i64 x.f0, .string x.f1, .string x.f2, .slice B x.f3.length d]] w fun e w' => e = .returned (.bool (decide ((lvE x).length ≤ 32))) ∧ Below w.heap.size w w' := by
  obtain ⟨W1, hW1⟩ : ∃ W1, W1 = w.alloc (.cells #[.int .i64 x.f0, .string x.f1, .string x.f2, .slice B x.f3.length d] 24) := ⟨_, rfl⟩
  obtain ⟨W2, hW2⟩ : ∃ W2, W2 = W1.alloc (.cells #[.int .i64 0] 3) := ⟨_, rfl⟩
  obtain ⟨W3, hW3⟩ : ∃ W3, W3 = W2.alloc (.cells #[.int .i64 x.f0, .string x.f1, .string x.f2, .slice B x.f3.length d] 24) := ⟨_, rfl⟩
  have s1 : W1.heap.size = w.heap.size + 1 := by rw [hW1]; exact World.size_alloc _ _
  have s2 : W2.heap.size = W1.heap.size + 1 := by rw [hW2]; exact World.size_alloc _ _
  have s3 : W3.heap.size = W2.heap.size + 1 := by rw [hW3]; exact World.size_alloc _ _
  have b1 : Below w.heap.size w W1 := by rw [hW1]; exact below_alloc (B0 w) _
  have b2 : Below W1.heap.size W1 W2 := by rw [hW2]; exact below_alloc (B0 W1) _
  have b3 : Below W2.heap.size W2 W3 := by rw [hW3]; exact below_alloc (B0 W2) _
  have b13 : Below W1.heap.size W1 W3 := below_then b2 b2.size b3
  have b03 : Below w.heap.size w W3 := below_then b1 b1.size b13
  have k1 : W1.heap[w.heap.size]? = some (.cells #[.int .i64 x.f0, .string x.f1, .string x.f2, .slice B x.f3.length d] 24 (0, 0)) := by rw [hW1]; exact blk_new w _
  have kn : W2.heap[W1.heap.size]? = some (.cells #[.int .i64 0] 3 (0, 0)) := by rw [hW2]; exact blk_new W1 _
  have k3 : W3.heap[W2.heap.size]? = some (.cells #[.int .i64 x.f0, .string x.f1, .string x.f2, .slice B x.f3.length d] 24 (0, 0)) := by rw [hW3]; exact blk_new W2 _
  have kn3 := blk_below kn b3
  have hst := leaves_stops w W2.heap.size W2.heap.size (3 - 1) x B d hx hR W3 b03 (by omega) k3
  have HL := Aside0.mk (show CallsIn Fence.wide 2 Tryd.prog 20 #[.agg #[.int .i64 x.f0, .string x.f1, .string x.f2, .slice B x.f3.length d]] W2 fun e w' => e = .returned (.func (.func 38) #[] #[.pointer (some ⟨W2.heap.size, 0, none⟩)]) ∧ w' = W3 from
    callsIn_wide.2 ((leaves_any x B d W2).mono fun _ _ ⟨a, b⟩ => ⟨a, by rw [b, hW3]⟩))
  obtain ⟨c0, c1, c2, c3⟩ := cells4 (blk_below k1 b2)
  have hlen : (lvE x).length ≤ 1000000 := Nat.le_trans (lv_bound.1 x) hx
  obtain ⟨nl, hnl⟩ : ∃ n, n = (lvE x).length := ⟨_, rfl⟩
  rw [← hnl] at hlen
  obtain ⟨gb, hgb⟩ : ∃ g, g = w.heap.size := ⟨_, rfl⟩
  obtain ⟨gn, hgn⟩ : ∃ g, g = W1.heap.size := ⟨_, rfl⟩
  have hgn' : gn = gb + 1 := by rw [hgn, s1, hgb]
  refine (callsIn_wide (n := 3)).1 ?_
  refine callsIn_of_wp_marks Tryd.func31 rfl trivial ?_ rfl
  simp only [Tryd.ntmps31, List.size_toArray, List.length_cons, List.length_nil, Nat.reduceAdd, Nat.reduceSub, Array.replicate_succ, Array.replicate_zero, List.push_toArray, List.append_toArray, List.nil_append, List.cons_append]
  gi_wp2
  rw [← hW1, ← hW2]
  refine ⟨trivial, (HL.out).mono ?_⟩
  rintro e w' ⟨rfl, hw⟩
  rw [hw]
  clear HL hw w'
  have hs2 : W3.cell? ⟨W1.heap.size, 0, none⟩ = some (.int .i64 0) ∧ W3.frozen? ⟨W1.heap.size, 0, none⟩ = false := ⟨(blk_cell kn3 0).trans rfl, blk_frozen kn3 0⟩
  rw [← hgn] at hs2
  have hgs : gn < W2.heap.size := by omega
  have hgw : w.heap.size ≤ gn := by omega
  have hws : w.heap.size ≤ W3.heap.size := by omega
  rw [← hnl] at hst
  have HX := Aside0.mk (And.intro hgs (And.intro hgw (And.intro hlen hnl)))
  have HB3 := Aside0.mk b03
  have HST := Aside0.mk hst
  have HWS := Aside0.mk hws
  rw [← hgb, ← hgn']
  clear hst hlen hnl hx hW1 hW2 hW3 s1 s2 s3 b1 b2 b3 b13 b03 k1 kn k3 kn3 c0 c1 c2 c3 hgb hgn hgn' hgs hgw hws
  gi_wp2
  refine wpIn_rangeFunc_ownF (F := Fence.wide) (n := 3) rfl (by decide) (gf := 38) (lb := #[.pointer (some ⟨W2.heap.size, 0, none⟩)]) rfl trivial (enters_of Tryd.func38 (by kernel_rfl) rfl)
    HST.out kc_t (kc_b HWS.out) (Below.refl _ _) (fun _ => rfl)
    (fun pre W => (W.cell? ⟨gn, 0, none⟩ = some (.int .i64 (pre.length : Nat)) ∧ W.frozen? ⟨gn, 0, none⟩ = false) ∧ Below w.heap.size w W)
    (fun _ _ _ => False)
    (OwnFrom.and (Own.from (fun s A B row hs hg hr => ⟨cell_kept hs.1 hg hr, (frozen_kept hs.1 hg hr).trans hs.2⟩) _) (ownFrom_below (Nat.le_refl _) HWS.out))
    (fun _ _ _ _ _ hs _ _ => hs)
    ⟨hs2, HB3.out⟩
    (fun y => { tmps := #[.agg #[.int .i64 x.f0, .string x.f1, .string x.f2, .slice B x.f3.length d], .pointer (some ⟨gb, 0, none⟩), .bool false, .pointer (some ⟨gn, 0, none⟩), .agg #[.int .i64 x.f0, .string x.f1, .string x.f2, .slice B x.f3.length d], .func (.func 38) #[] #[.pointer (some ⟨W2.heap.size, 0, none⟩)], .agg #[.int .i64 y.1.f0, .string y.1.f1, .string y.1.f2, .slice y.2.1 y.1.f3.length y.2.2], undef, undef, undef, undef], defers := [] }) ?assign ?body ?done ?stop
  case assign =>
    intro l y W K hK
    unfold encL
    gi_wp2
    simp
    exact hK
  case body =>
    rintro l pre y W ⟨⟨hc, hf⟩, hB⟩ hlt
    have e1 : IntKind.i64.wrap ((pre.length : Int) + 1) = ((pre ++ [y]).length : Int) := by
      rw [IntKind.wrap_i64, List.length_append, List.length_singleton]
      have := HX.out.2.2.1
      omega
    have HE := Aside0.mk e1
    gi_wp2
    refine ⟨KeepsOthers.setCell _ _ _, ⟨(Below.refl w.heap.size W).setCell (p := ⟨gn, 0, none⟩) HX.out.2.1 _, fun k cs t f hk hc2 => ?_⟩, ⟨?_, by rw [World.frozen?_setCell]; exact hf⟩, hB.setCell (p := ⟨gn, 0, none⟩) HX.out.2.1 _⟩
    · exact blk_far' hc2 (by have := HX.out.1; show k ≠ gn; omega) _
    · refine (World.cell?_setCell_same' _ _ _ (by rw [hc]; rfl)).trans ?_
      simp
  case done =>
    rintro D ys W hD hok ⟨⟨hc, _⟩, hB⟩ hK
    have hl : ys.length = nl := by rw [HX.out.2.2.2]; exact ok_len hok
    rw [hl] at hc
    have HQ := Aside0.mk (show decide ((nl : Int) ≤ 32) = decide ((lvE x).length ≤ 32) from by rw [← HX.out.2.2.2, decide_eq_decide]; omega)
    clear hl hok
    by_cases c32 : (nl : Int) ≤ 32
    · have d32 : decide ((nl : Int) ≤ 32) = true := decide_eq_true c32
      gi_wp2
      refine ⟨by simp, .inl ⟨_, _, rfl, run_takeDeferred hK, ?_⟩⟩
      exact ⟨_, results_tmp rfl _ _ _, by rw [← HQ.out, d32]; rfl, hB.trans (belowK_b (w := w) (Nat.le_refl _) W D _ _ (Nat.le_trans HWS.out hD) hK rfl rfl)⟩
    · have d32 : decide ((nl : Int) ≤ 32) = false := decide_eq_false c32
      gi_wp2
      refine ⟨by simp, .inl ⟨_, _, rfl, run_takeDeferred hK, ?_⟩⟩
      exact ⟨_, results_tmp rfl _ _ _, by rw [← HQ.out, d32]; rfl, hB.trans (belowK_b (w := w) (Nat.le_refl _) W D _ _ (Nat.le_trans HWS.out hD) hK rfl rfl)⟩
  case stop =>
    rintro D c pre W _ _ h _
    exact h.elim
end Go.Proofs.YtikgngcdgejgjaaDoor.HExI
/- Right; the text of an expression. -/
namespace Go.Proofs.YtikgngcdgejgjaaDoor.HExT
open Go.RowKit Go.Proofs.YtikgngcdgejgjaaDoorW.PrintWords Go.Proofs.YtikgngcdgejgjaaDoor.HLib Go.Proofs.YtikgngcdgejgjaaDoor.HGr Go.Proofs.YtikgngcdgejgjaaDoor.HNameP Go.Proofs.YtikgngcdgejgjaaDoor.HName Go.Proofs.YtikgngcdgejgjaaDoor.HPe Go.Proofs.YtikgngcdgejgjaaDoor.HPf Go.Proofs.YtikgngcdgejgjaaDoor.HExP Go.Proofs.YtikgngcdgejgjaaDoor.HExR Go.Proofs.YtikgngcdgejgjaaDoor.HExQ Go.Proofs.YtikgngcdgejgjaaDoor.HExL Go.Proofs.YtikgngcdgejgjaaDoor.HExA Go.Proofs.YtikgngcdgejgjaaDoor.HExF Go.Proofs.YtikgngcdgejgjaaDoor.HExW Go.Proofs.YtikgngcdgejgjaaDoor.HExI
open Go.Proofs.YtikgngcdgejgjaaDoor.PExprMatchesReference
set_option linter.unusedVariables false
set_option linter.unusedSimpArgs false
set_option maxRecDepth 20000 in
set_option maxHeartbeats 4000000 in
theorem depth_any (x : Ex) (A : Option Addr) (c : Nat) (w : World) (hx : nodE x ≤ 1000000) (hR : Rd w A c x) : Calls Tryd.prog 13 #[.agg #[.int .i64 x.f0, .string x.f1, .string x.f2, .slice A x.f3.length c]] w fun e w' => e = .returned (.int .i64 (depE x)) ∧ Below w.heap.size w w' := by
  obtain ⟨k, hk⟩ := (depth_ev.1 x hx).rounds
  exact expr_Depth.calls k x.f0 x.f1 x.f2 A c x.f3 (depE x) w hR.1 hR.2 hk
set_option maxRecDepth 20000 in
set_option maxHeartbeats 8000000 in
theorem right_any (x : Ex) (A : Option Addr) (c : Nat) (w : World) (hx : nodE x ≤ 1000000) (hG : ResG w) (hR : Rd w A c x) : Calls Tryd.prog 12 #[.agg #[.int .i64 x.f0, .string x.f1, .string x.f2, .slice A x.f3.length c]] w fun e w' => e = .returned (.bool (rightE x)) ∧ Below w.heap.size w w' := by
  obtain ⟨W, hW⟩ : ∃ W, W = w.alloc (.cells #[.int .i64 x.f0, .string x.f1, .string x.f2, .slice A x.f3.length c] 24) := ⟨_, rfl⟩
  have hb : Below w.heap.size w W := by rw [hW]; exact below_alloc (B0 w) _
  have HBW := Aside0.mk hb
  have HK := Aside0.mk (show W.heap[w.heap.size]? = some (.cells #[.int .i64 x.f0, .string x.f1, .string x.f2, .slice A x.f3.length c] 24 (0, 0)) from by rw [hW]; exact blk_new w _)
  obtain ⟨gb, hgb⟩ : ∃ g, g = w.heap.size := ⟨_, rfl⟩
  rw [← hgb] at HK
  have hz : ∀ W', Below W.heap.size W W' → W'.cell? ⟨gb, 0, none⟩ = some (.int .i64 x.f0) ∧ W'.cell? ⟨gb, 1, none⟩ = some (.string x.f1) ∧ W'.cell? ⟨gb, 2, none⟩ = some (.string x.f2) ∧ W'.cell? ⟨gb, 3, none⟩ = some (.slice A x.f3.length c) := fun W' h => cells4 (blk_below HK.out h)
  have HD := Aside0.mk ((depth_any x A c W hx (hR.below hb)).mono (R' := fun e W' => e = .returned (.int .i64 (depE x)) ∧ Below W.heap.size W W' ∧ W'.cell? ⟨gb, 0, none⟩ = some (.int .i64 x.f0) ∧ W'.cell? ⟨gb, 1, none⟩ = some (.string x.f1) ∧ W'.cell? ⟨gb, 2, none⟩ = some (.string x.f2) ∧ W'.cell? ⟨gb, 3, none⟩ = some (.slice A x.f3.length c)) fun e W' ⟨h1, h2⟩ => ⟨h1, h2, hz W' h2⟩)
  have HF := Aside0.mk (show ∀ W1, Below W.heap.size W W1 → Calls Tryd.prog 30 #[.agg #[.int .i64 x.f0, .string x.f1, .string x.f2, .slice A x.f3.length c]] W1 fun e W' => e = .returned (.bool (frmE x)) ∧ Below W.heap.size W W' ∧ W'.cell? ⟨gb, 0, none⟩ = some (.int .i64 x.f0) ∧ W'.cell? ⟨gb, 1, none⟩ = some (.string x.f1) ∧ W'.cell? ⟨gb, 2, none⟩ = some (.string x.f2) ∧ W'.cell? ⟨gb, 3, none⟩ = some (.slice A x.f3.length c) from fun W1 h1 => by
    have hb1 := below_then hb hb.size h1
    exact (form_any 1000000 x hx (Nat.le_refl _) A c W1 (hG.below hb1 hG.1) (hR.below hb1)).mono fun e W' ⟨h2, h3⟩ => ⟨h2, below_then h1 h1.size h3, hz W' (below_then h1 h1.size h3)⟩)
  have HW := Aside0.mk (show ∀ W1, Below W.heap.size W W1 → Calls Tryd.prog 31 #[.agg #[.int .i64 x.f0, .string x.f1, .string x.f2, .slice A x.f3.length c]] W1 fun e W' => e = .returned (.bool (decide ((lvE x).length ≤ 32))) ∧ Below W.heap.size W W' from fun W1 h1 => by
    have hb1 := below_then hb hb.size h1
    exact (fewl_any x A c hx W1 (hR.below hb1)).mono fun e W' ⟨h2, h3⟩ => ⟨h2, below_then h1 h1.size h3⟩)
  unfold rightE
  obtain ⟨q0, q1, q2, q3⟩ := hz W (B0 W)
  obtain ⟨dp, hdp⟩ : ∃ n, n = depE x := ⟨_, rfl⟩
  obtain ⟨bf, hbf⟩ : ∃ n, n = frmE x := ⟨_, rfl⟩
  obtain ⟨bl, hbl⟩ : ∃ n, n = decide ((lvE x).length ≤ 32) := ⟨_, rfl⟩
  obtain ⟨nk, hnk⟩ : ∃ n, n = x.f3.length := ⟨_, rfl⟩
  rw [← hdp, ← hnk] at HD
  rw [← hbf, ← hnk] at HF
  rw [← hbl, ← hnk] at HW
  rw [← hnk] at hW q3
  rw [← hdp, ← hbf, ← hbl, ← hnk]
  clear hz HK hdp hbf hbl hnk hG hR hb hx
  by_cases c16 : dp ≤ 16
  · have d16 : decide (dp ≤ 16) = true := decide_eq_true c16
    cases bf with
    | true =>
      go_enter Tryd.func12, Tryd.ntmps12
      go_upto_region 1 with fail
      rw [← hW, ← hgb]
      clear hW hgb
      go_wp2_with (first | (refine (HD.out).mono ?_; clear HD; rintro e W1 ⟨rfl, h1, z0, z1, z2, z3⟩; have H1 := Aside0.mk h1; clear h1) | (refine (HF.out _ H1.out).mono ?_; clear HF; rintro e W2 ⟨rfl, h2, z0, z1, z2, z3⟩; have H2 := Aside0.mk h2; clear h2) | (refine (HW.out _ H2.out).mono ?_; clear HW; rintro e W3 ⟨rfl, h3⟩; have H3 := Aside0.mk h3; clear h3))
      go_ret
      exact ⟨by rw [d16]; simp, below_then HBW.out HBW.out.size H3.out⟩
    | false =>
      go_enter Tryd.func12, Tryd.ntmps12
      go_upto_region 1 with fail
      rw [← hW, ← hgb]
      clear hW hgb
      go_wp2_with (first | (refine (HD.out).mono ?_; clear HD; rintro e W1 ⟨rfl, h1, z0, z1, z2, z3⟩; have H1 := Aside0.mk h1; clear h1) | (refine (HF.out _ H1.out).mono ?_; clear HF; rintro e W2 ⟨rfl, h2, z0, z1, z2, z3⟩; have H2 := Aside0.mk h2; clear h2))
      go_ret
      exact ⟨by rw [d16]; simp, below_then HBW.out HBW.out.size H2.out⟩
  · have d16 : decide (dp ≤ 16) = false := decide_eq_false c16
    go_enter Tryd.func12, Tryd.ntmps12
    go_upto_region 1 with fail
    rw [← hW, ← hgb]
    clear hW hgb
    go_wp2_with (refine (HD.out).mono ?_; clear HD; rintro e W1 ⟨rfl, h1, z0, z1, z2, z3⟩; have H1 := Aside0.mk h1; clear h1)
    go_ret
    exact ⟨by rw [d16]; simp, below_then HBW.out HBW.out.size H1.out⟩
end Go.Proofs.YtikgngcdgejgjaaDoor.HExT
/- The text of an expression. -/
namespace Go.Proofs.YtikgngcdgejgjaaDoor.HExX
open Go.RowKit Go.Proofs.YtikgngcdgejgjaaDoorW.PrintWords Go.Proofs.YtikgngcdgejgjaaDoor.HLib Go.Proofs.YtikgngcdgejgjaaDoor.HGr Go.Proofs.YtikgngcdgejgjaaDoor.HNameP Go.Proofs.YtikgngcdgejgjaaDoor.HName Go.Proofs.YtikgngcdgejgjaaDoor.HPe Go.Proofs.YtikgngcdgejgjaaDoor.HPf Go.Proofs.YtikgngcdgejgjaaDoor.HExP Go.Proofs.YtikgngcdgejgjaaDoor.HExR Go.Proofs.YtikgngcdgejgjaaDoor.HExQ Go.Proofs.YtikgngcdgejgjaaDoor.HExL Go.Proofs.YtikgngcdgejgjaaDoor.HExA Go.Proofs.YtikgngcdgejgjaaDoor.HExF Go.Proofs.YtikgngcdgejgjaaDoor.HExW Go.Proofs.YtikgngcdgejgjaaDoor.HExI Go.Proofs.YtikgngcdgejgjaaDoor.HExT
open Go.Proofs.YtikgngcdgejgjaaDoor.PExprMatchesReference
set_option linter.unusedVariables false
set_option linter.unusedSimpArgs false
def bs (l : List UInt8) : ByteArray := ⟨l.toArray⟩
theorem bs_size (l : List UInt8) : (bs l).size = l.length := by simp [bs, ByteArray.size]
theorem bs_list (l : List UInt8) : (bs l).data.toList = l := by simp [bs]
theorem bs_of (s : ByteArray) : bs s.data.toList = s := by cases s; simp [bs]
theorem bs_append (a b : List UInt8) : bs (a ++ b) = bs a ++ bs b := by
  apply ByteArray.ext
  simp [bs, ByteArray.data_append]
theorem join_len (sep : List UInt8) : ∀ xs : List (List UInt8), (Lib.join xs sep).length ≤ (xs.map fun x => x.length + sep.length).sum
  | [] => by simp [Lib.join]
  | [x] => by simp [Lib.join]
  | x :: y :: xs => by
    have ih := join_len sep (y :: xs)
    have e : Lib.join (x :: y :: xs) sep = x ++ sep ++ Lib.join (y :: xs) sep := by simp [Lib.join, List.intercalate, List.append_assoc]
    rw [e, List.map_cons, List.sum_cons, List.length_append, List.length_append]
    omega
theorem name_size {s : ByteArray} (h : isP s = true) : 1 ≤ s.size ∧ s.size ≤ 64 := by
  simp only [isP, Bool.and_eq_true, decide_eq_true_eq] at h
  exact ⟨h.1, h.2.1⟩
theorem tx_bound : (∀ x : Ex, frmE x = true → (txE x).length + 100 ≤ 300 * nodE x) ∧ ∀ ks : List Ex, frmL ks = true → ((opL ks).map fun x => x.length + 3).sum ≤ 300 * nodL ks := by
  refine ex_ind (p := fun x => frmE x = true → (txE x).length + 100 ≤ 300 * nodE x) (q := fun ks => frmL ks = true → ((opL ks).map fun x => x.length + 3).sum ≤ 300 * nodL ks) ?_ ?_ ?_
  · intro _
    rw [opL, nodL]
    simp
  · intro x xs h1 h2 h
    rw [frmL, Bool.and_eq_true] at h
    rw [op_cons, nodL, List.map_cons, List.sum_cons]
    have h3 := h1 h.1
    have h4 := h2 h.2
    have : (opE x).length ≤ (txE x).length + 2 := by
      unfold opE
      split
      · omega
      · simp
    omega
  · intro x ih h
    rw [frm_eq, Bool.and_eq_true, Bool.and_eq_true] at h
    rw [tx_eq, nod_eq]
    have hn := h.1
    unfold namesK at hn
    by_cases c1 : x.f0 = 1
    · rw [if_pos c1] at hn ⊢
      rw [Bool.and_eq_true] at hn
      have := (name_size hn.2).2
      rw [data_length]
      omega
    · rw [if_neg c1] at hn ⊢
      by_cases c2 : x.f0 = 2
      · rw [if_pos c2] at hn ⊢
        rw [Bool.and_eq_true] at hn
        have := (name_size hn.1).2
        have := (name_size hn.2).2
        simp only [List.length_append, data_length, List.length_cons, List.length_nil]
        omega
      · rw [if_neg c2]
        have h5 := ih h.2.2
        have h6 := join_len (sgnK x.f0) (opL x.f3)
        rw [show (sgnK x.f0).length = 3 from rfl] at h6
        omega
theorem kind_range {x : Ex} (h : frmE x = true) : x.f0 = 1 ∨ x.f0 = 2 ∨ ((x.f0 = 3 ∨ x.f0 = 4 ∨ x.f0 = 5) ∧ 2 ≤ x.f3.length) := by
  rw [frm_eq, Bool.and_eq_true, Bool.and_eq_true] at h
  have hk := h.2.1
  unfold kidsK at hk
  by_cases c : x.f0 = 1 ∨ x.f0 = 2
  · rcases c with c | c
    · exact .inl c
    · exact .inr (.inl c)
  · rw [if_neg c] at hk
    by_cases c3 : x.f0 = 3 ∨ x.f0 = 4
    · rw [if_pos c3, decide_eq_true_eq] at hk
      exact .inr (.inr ⟨by omega, hk⟩)
    · rw [if_neg c3, Bool.and_eq_true, decide_eq_true_eq, decide_eq_true_eq] at hk
      exact .inr (.inr ⟨by omega, by omega⟩)
theorem frm_mem : ∀ {ks : List Ex} {x : Ex}, frmL ks = true → x ∈ ks → frmE x = true
  | y :: ys, x, hs, h => by
    rw [frmL, Bool.and_eq_true] at hs
    rcases List.mem_cons.1 h with rfl | h
    · exact hs.1
    · exact frm_mem hs.2 h
theorem op_map : ∀ ks : List Ex, opL ks = ks.map opE
  | [] => by rw [opL]; rfl
  | x :: xs => by rw [op_cons, op_map xs]; rfl
def opB (x : Ex) : ByteArray := bs (opE x)
theorem op_data (ks : List Ex) : (ks.map opB).map (·.data.toList) = opL ks := by
  rw [op_map, List.map_map]
  congr 1
theorem paren_eq (s : List UInt8) : (⟨#[40]⟩ ++ bs s) ++ ⟨#[41]⟩ = bs (40 :: (s ++ [41])) := by
  apply ByteArray.ext
  simp [bs, ByteArray.data_append]
theorem info_st : (Tryd.prog.info? 9).map (fun i => (i.zero, i.size, i.bytes)) = some (some (.string ⟨#[]⟩), 1, 16) := by kernel_rfl
set_option maxRecDepth 100000 in
set_option maxHeartbeats 8000000 in
theorem text_any : ∀ (m : Nat) (x : Ex), nodE x ≤ m → m ≤ 1000000 → frmE x = true → ∀ (A : Option Addr) (c : Nat) (w : World), Rd w A c x →
    Calls Tryd.prog 32 #[.agg #[.int .i64 x.f0, .string x.f1, .string x.f2, .slice A x.f3.length c]] w fun e w' => e = .returned (.string (bs (txE x))) ∧ Below w.heap.size w w' := by
  intro m
  induction m with
  | zero => intro x h; rw [nod_eq] at h; omega
  | succ m ih =>
    intro x hm hm2 hf A c w hR
    have hlen : x.f3.length ≤ 1000000 := by have := len_nod x.f3; rw [nod_eq] at hm; omega
    obtain ⟨W, hW⟩ : ∃ W, W = w.alloc (.cells #[.int .i64 x.f0, .string x.f1, .string x.f2, .slice A x.f3.length c] 24) := ⟨_, rfl⟩
    have hb : Below w.heap.size w W := by rw [hW]; exact below_alloc (B0 w) _
    have HBW := Aside0.mk hb
    have HK := Aside0.mk (show W.heap[w.heap.size]? = some (.cells #[.int .i64 x.f0, .string x.f1, .string x.f2, .slice A x.f3.length c] 24 (0, 0)) from by rw [hW]; exact blk_new w _)
    obtain ⟨gb, hgb⟩ : ∃ g, g = w.heap.size := ⟨_, rfl⟩
    rw [← hgb] at HK
    obtain ⟨q0, q1, q2, q3⟩ := cells4 HK.out
    have hkr := kind_range hf
    have hn : namesK x.f0 x.f1 x.f2 = true := by rw [frm_eq, Bool.and_eq_true] at hf; exact hf.1
    have htx := tx_eq x
    by_cases c1 : x.f0 = 1
    · rw [if_pos c1] at htx
      rw [htx, bs_of]
      rw [c1] at hW q0 ⊢
      clear ih hR hlen htx hkr hn hf hm hm2 hb HK c1
      obtain ⟨nk, hnk⟩ : ∃ n, n = x.f3.length := ⟨_, rfl⟩
      rw [← hnk] at hW q3 ⊢
      clear hnk
      go_enter Tryd.func32, Tryd.ntmps32
      go_upto_region 1 with fail
      rw [← hW, ← hgb]
      clear hW hgb
      go_wp2
      go_ret
      exact ⟨rfl, HBW.out⟩
    · by_cases c2 : x.f0 = 2
      · rw [if_neg c1, if_pos c2] at htx
        have hn2 : isP x.f1 = true ∧ isP x.f2 = true := by
          unfold namesK at hn
          rw [if_neg c1, if_pos c2, Bool.and_eq_true] at hn
          exact hn
        have z1 := (name_size hn2.1).2
        have z2 := (name_size hn2.2).2
        have HE := Aside0.mk (show bs (txE x) = (x.f1 ++ ⟨#[45, 62]⟩) ++ x.f2 from by
          rw [htx]
          apply ByteArray.ext
          simp [bs, ByteArray.data_append])
        rw [HE.out]
        rw [c2] at hW q0 ⊢
        obtain ⟨nk, hnk⟩ : ∃ n, n = x.f3.length := ⟨_, rfl⟩
        obtain ⟨s1, hs1⟩ : ∃ n, n = x.f1 := ⟨_, rfl⟩
        obtain ⟨s2, hs2⟩ : ∃ n, n = x.f2 := ⟨_, rfl⟩
        rw [← hnk, ← hs1, ← hs2] at hW
        rw [← hnk] at q3
        rw [← hs1] at q1 z1
        rw [← hs2] at q2 z2
        rw [← hnk, ← hs1, ← hs2]
        have g1 : ¬ 9223372036854775807 < s1.size + 2 := by omega
        have g2 : ¬ 9223372036854775807 < s1.size + 2 + s2.size := by omega
        clear ih hR hlen htx hkr hn hf hm hm2 hb HK c1 hn2 z1 z2 hnk hs1 hs2 HE c2
        go_enter Tryd.func32, Tryd.ntmps32
        go_upto_region 1 with fail
        rw [← hW, ← hgb]
        clear hW hgb
        go_wp2
        go_ret
        exact ⟨rfl, HBW.out⟩
      · have hk3 : (x.f0 = 3 ∨ x.f0 = 4 ∨ x.f0 = 5) ∧ 2 ≤ x.f3.length := by
          rcases hkr with h | h | h
          · exact absurd h c1
          · exact absurd h c2
          · exact h
        rw [if_neg c1, if_neg c2] at htx
        have e1 : (x.f0 == 1) = false := by simpa using c1
        have e2 : (x.f0 == 2) = false := by simpa using c2
        have hfl : frmL x.f3 = true := by rw [frm_eq, Bool.and_eq_true, Bool.and_eq_true] at hf; exact hf.2.2
        have hbd := tx_bound.1 x hf
        have HSG := Aside0.mk (show ∀ W', Below W.heap.size W W' → Calls Tryd.prog 49 #[.agg #[.int .i64 x.f0, .string x.f1, .string x.f2, .slice A x.f3.length c]] W' fun e w' => e = .returned (.string ⟨(sgnK x.f0).toArray⟩) ∧ Below W'.heap.size W' w' from fun W' _ => sign_any x A c W' hk3.1)
        have HKID := Aside0.mk (show ∀ (j : Nat) (hj : j < x.f3.length) (B : Option Addr) (d : Nat) (W' : World), Rd W' B d x.f3[j] → Calls Tryd.prog 32 #[.agg #[.int .i64 x.f3[j].f0, .string x.f3[j].f1, .string x.f3[j].f2, .slice B x.f3[j].f3.length d]] W' fun e w' => e = .returned (.string (bs (txE x.f3[j]))) ∧ Below W'.heap.size W' w' from fun j hj B d W' hR' => by
          have hny : nodE x.f3[j] ≤ m := by have := nod_mem (List.getElem_mem hj); rw [nod_eq] at hm; omega
          exact ih _ hny (by omega) (frm_mem hfl (List.getElem_mem hj)) B d W' hR')
        have HTB := Aside0.mk (show ∀ (j : Nat) (hj : j < x.f3.length), (txE x.f3[j]).length ≤ 300000000 from fun j hj => by
          have hny : nodE x.f3[j] ≤ m := by have := nod_mem (List.getElem_mem hj); rw [nod_eq] at hm; omega
          have := tx_bound.1 _ (frm_mem hfl (List.getElem_mem hj))
          omega)
        have HC := Aside0.mk (show Kd.C kE W A x.f3.length x.f3 from (hR.below hb).1)
        have HL := Aside0.mk hlen
        have HJ := Aside0.mk (show bs (txE x) = ⟨(Lib.join ((x.f3.map opB).map (·.data.toList)) (⟨(sgnK x.f0).toArray⟩ : ByteArray).data.toList).toArray⟩ from by rw [htx, op_data]; rfl)
        have HJB := Aside0.mk (show (Lib.join ((x.f3.map opB).map (·.data.toList)) (⟨(sgnK x.f0).toArray⟩ : ByteArray).data.toList).length ≤ 1000000000 from by
          have h1 := HJ.out
          have h2 := congrArg ByteArray.size h1
          rw [bs_size] at h2
          have h3 : (⟨(Lib.join ((x.f3.map opB).map (·.data.toList)) (⟨(sgnK x.f0).toArray⟩ : ByteArray).data.toList).toArray⟩ : ByteArray).size = (Lib.join ((x.f3.map opB).map (·.data.toList)) (⟨(sgnK x.f0).toArray⟩ : ByteArray).data.toList).length := bs_size _
          omega)
        have H2 := Aside0.mk hk3.2
        rw [HJ.out]
        clear ih hR htx hkr hn hf hm hm2 hb hfl hbd hk3 hlen HJ
        obtain ⟨ks, hks⟩ : ∃ n, n = x.f3 := ⟨_, rfl⟩
        obtain ⟨sg, hsg⟩ : ∃ n : ByteArray, n = ⟨(sgnK x.f0).toArray⟩ := ⟨_, rfl⟩
        rw [← hks] at HTB HC HL H2 hW q3
        rw [← hks] at HKID
        rw [← hsg, ← hks] at HJB
        rw [← hsg, ← hks] at HSG
        rw [← hks] at HK
        rw [← hsg, ← hks]
        obtain ⟨s0, hs0⟩ : ∃ n, n = x.f0 := ⟨_, rfl⟩
        obtain ⟨s1, hs1⟩ : ∃ n, n = x.f1 := ⟨_, rfl⟩
        obtain ⟨s2, hs2⟩ : ∃ n, n = x.f2 := ⟨_, rfl⟩
        rw [← hs0, ← hs1, ← hs2] at HSG
        rw [← hs0, ← hs1, ← hs2] at HK hW
        rw [← hs0] at q0 c1 c2 e1 e2
        rw [← hs1] at q1
        rw [← hs2] at q2
        rw [← hs0, ← hs1, ← hs2]
        clear hks hsg hs0 hs1 hs2
        obtain ⟨n, hnn⟩ : ∃ n, n = ks.length := ⟨_, rfl⟩
        have HN := Aside0.mk hnn
        rw [← hnn] at HC HL H2 hW q3 HK
        rw [← hnn] at HSG
        rw [← hnn]
        clear hnn
        go_enter Tryd.func32, Tryd.ntmps32
        go_upto_region 1 with fail
        rw [← hW, ← hgb]
        clear hW hgb
        go_wp2
        go_loopg [3, 24] n (fun kq v3 v24 w' => ∃ (j : Nat), v24 = .int .i64 j ∧ Aside0 (kq + j = n) ∧ Aside0 (Kd.R Kd.string 9 w' W.heap.size (fun _ => True) v3 ((ks.take j).map opB)) ∧ Aside0 (Below W.heap.size W w'))
        case atStart => exact ⟨0, rfl, ⟨by omega⟩, ⟨Kd.R_nil _ _ _ _ _⟩, ⟨B0 W⟩⟩
        case round =>
          obtain ⟨j, rfl, HJ, HR, HX⟩ := hrel
          by_cases cj : j < n
          · have f3 : (j : Int) < (n : Int) := by omega
            have f1 : decide ((j : Int) < (n : Int)) = true := decide_eq_true f3
            have f5 : (0 : Int) ≤ (j : Int) := by omega
            have f4 : IntKind.i64.wrap ((j : Int) + 1) = (j : Int) + 1 := by rw [IntKind.wrap_i64]; have := HL.out; omega
            have hj : j < ks.length := by have := HN.out; omega
            have hC : Kd.C kE W A ks.length ks := by rw [← HN.out]; exact HC.out
            obtain ⟨ad, B, d, hA, hRk, hcs⟩ := kid_cells hC j hj
            obtain ⟨a1, a2, a3, a4⟩ := hcs wr HX.out
            obtain ⟨W1, hW1⟩ : ∃ W1, W1 = wr.alloc (.cells #[.int .i64 ks[j].f0, .string ks[j].f1, .string ks[j].f2, .slice B ks[j].f3.length d] 24) := ⟨_, rfl⟩
            have hb1 : Below wr.heap.size wr W1 := by rw [hW1]; exact below_alloc (B0 wr) _
            have hk1 : W1.heap[wr.heap.size]? = some (.cells #[.int .i64 ks[j].f0, .string ks[j].f1, .string ks[j].f2, .slice B ks[j].f3.length d] 24 (0, 0)) := by rw [hW1]; exact blk_new wr _
            have hx1 : Below W.heap.size W W1 := below_then HX.out HX.out.size hb1
            have hRk1 : Rd W1 B d ks[j] := hRk.below hx1
            have hz : ∀ W', Below W1.heap.size W1 W' → W'.cell? ⟨wr.heap.size, 0, none⟩ = some (.int .i64 ks[j].f0) ∧ W'.cell? ⟨wr.heap.size, 1, none⟩ = some (.string ks[j].f1) ∧ W'.cell? ⟨wr.heap.size, 2, none⟩ = some (.string ks[j].f2) ∧ W'.cell? ⟨wr.heap.size, 3, none⟩ = some (.slice B ks[j].f3.length d) := fun W' h => cells4 (blk_below hk1 h)
            obtain ⟨gk, hgk⟩ : ∃ g, g = wr.heap.size := ⟨_, rfl⟩
            rw [← hgk] at hz
            have htx := HKID.out j hj B d W1 hRk1
            have htb := HTB.out j hj
            have htk : (ks.take (j + 1)).map opB = (ks.take j).map opB ++ [opB ks[j]] := by rw [List.take_succ_eq_append_getElem hj, List.map_append]; rfl
            have hlv : ∀ W2, Below W1.heap.size W1 W2 → Calls Tryd.prog 40 #[.agg #[.int .i64 ks[j].f0, .string ks[j].f1, .string ks[j].f2, .slice B ks[j].f3.length d]] W2 fun e w' => e = .returned (.bool (leafK ks[j].f0)) ∧ Below W2.heap.size W2 w' := fun W2 h => leaf_any ks[j] B d W2 (hRk1.below h)
            obtain ⟨y, hy⟩ : ∃ y, y = ks[j] := ⟨_, rfl⟩
            rw [← hy] at a1 a2 a3 a4 hW1 hz htx htb htk hlv
            obtain ⟨y0, y1, y2, y3⟩ := hz W1 (B0 W1)
            obtain ⟨T, hT⟩ : ∃ T, T = txE y := ⟨_, rfl⟩
            rw [← hT] at htx htb
            have HTY := Aside0.mk hT.symm
            have HTL := Aside0.mk htb
            have HTK := Aside0.mk htk
            have HX1 := Aside0.mk hx1
            have HR1 := Aside0.mk (Kd.R_below HR.out hb1)
            have HTX := Aside0.mk (htx.mono (R' := fun e W2 => e = .returned (.string (bs T)) ∧ Below W1.heap.size W1 W2 ∧ W2.cell? ⟨gk, 0, none⟩ = some (.int .i64 y.f0) ∧ W2.cell? ⟨gk, 1, none⟩ = some (.string y.f1) ∧ W2.cell? ⟨gk, 2, none⟩ = some (.string y.f2) ∧ W2.cell? ⟨gk, 3, none⟩ = some (.slice B y.f3.length d)) fun e W2 ⟨h1, h2⟩ => ⟨h1, h2, hz W2 h2⟩)
            have HLF := Aside0.mk hlv
            obtain ⟨nk, hnk⟩ : ∃ n, n = y.f3.length := ⟨_, rfl⟩
            rw [← hnk] at HTX HLF hW1 a4 y3
            have HTJ := Aside0.mk (show ((ks.take j).map opB).length ≤ 1000000 from by rw [List.length_map, List.length_take]; have := HL.out; omega)
            obtain ⟨ws, hws⟩ : ∃ ws, ws = (ks.take j).map opB := ⟨_, rfl⟩
            rw [← hws] at HTJ HR1 HTK
            subst hA
            clear hws hnk hT hy hz htx htb htk hlv hx1 hb1 hk1 hRk1 hRk hcs hC hj HR
            by_cases cl : leafK y.f0 = true
            · have HOP := Aside0.mk (show opB y = (bs T) from by rw [← HTY.out]; unfold opB opE; rw [if_pos cl])
              have hlf : leafK y.f0 = true := by simpa using cl
              rw [hlf] at HLF
              clear cl hlf
              have g1 : ¬ 9223372036854775807 < 1 + (bs T).size := by rw [bs_size]; have := HTL.out; omega
              have g2 : ¬ 9223372036854775807 < 1 + (bs T).size + 1 := by rw [bs_size]; have := HTL.out; omega
              go_upto_region 10 with fail
              rw [← hW1, ← hgk]
              clear hW1 hgk a1 a2 a3 a4
              go_wp2_with (first
                | (go_at_call 32; refine (HTX.out).mono ?_; clear HTX; rintro e W2 ⟨rfl, h2, z0, z1, z2, z3⟩; have HB2 := Aside0.mk h2; clear h2 y0 y1 y2 y3)
                | (go_at_call 40; refine (HLF.out _ HB2.out).mono ?_; clear HLF; rintro e W3 ⟨rfl, h3⟩; have HB3 := Aside0.mk (below_then HB2.out HB2.out.size h3); clear h3; have HX3 := Aside0.mk (below_then HX1.out HX1.out.size HB3.out); have HR3 := Aside0.mk (Kd.R_below HR1.out HB3.out))
                | (at_builtin; refine Kd.R_append Kd.string (w0 := W) W.heap.size rfl (.tmp 36) (.tmp 38) 42 9 (.string ⟨#[]⟩) 16 rfl Tryd.underlying42 info_st rfl (by decide) (by omega) u3 ws (bs T) [.string (bs T)] (fun _ => True) (fun _ => False) rfl rfl ?aP (fun _ hk => hk.elim) (fun _ _ => trivial) HR3.out HX3.out HX3.out.size ?aL ?_; (case aP => exact rfl); (case aL => (have := HTJ.out; omega)); intro v1 w1 ho hb hg hat; have HO1 := Aside0.mk ho; have HB4 := Aside0.mk hb; clear ho hb hg hat))
              go_roundg (n - (j + 1))
              case measure => have := HJ.out; omega
              case rel => exact ⟨j + 1, by first | rfl | go_num, ⟨by have := HJ.out; omega⟩, ⟨by rw [HTK.out, HOP.out]; exact HO1.out⟩, ⟨HB4.out⟩⟩
            · have HOP := Aside0.mk (show opB y = ((⟨#[40]⟩ : ByteArray) ++ bs T ++ (⟨#[41]⟩ : ByteArray)) from by rw [← HTY.out]; unfold opB opE; rw [if_neg cl, paren_eq])
              have hlf : leafK y.f0 = false := by simpa using cl
              rw [hlf] at HLF
              clear cl hlf
              have g1 : ¬ 9223372036854775807 < 1 + (bs T).size := by rw [bs_size]; have := HTL.out; omega
              have g2 : ¬ 9223372036854775807 < 1 + (bs T).size + 1 := by rw [bs_size]; have := HTL.out; omega
              go_upto_region 10 with fail
              rw [← hW1, ← hgk]
              clear hW1 hgk a1 a2 a3 a4
              go_wp2_with (first
                | (go_at_call 32; refine (HTX.out).mono ?_; clear HTX; rintro e W2 ⟨rfl, h2, z0, z1, z2, z3⟩; have HB2 := Aside0.mk h2; clear h2 y0 y1 y2 y3)
                | (go_at_call 40; refine (HLF.out _ HB2.out).mono ?_; clear HLF; rintro e W3 ⟨rfl, h3⟩; have HB3 := Aside0.mk (below_then HB2.out HB2.out.size h3); clear h3; have HX3 := Aside0.mk (below_then HX1.out HX1.out.size HB3.out); have HR3 := Aside0.mk (Kd.R_below HR1.out HB3.out))
                | (at_builtin; refine Kd.R_append Kd.string (w0 := W) W.heap.size rfl (.tmp 36) (.tmp 38) 42 9 (.string ⟨#[]⟩) 16 rfl Tryd.underlying42 info_st rfl (by decide) (by omega) u3 ws ((⟨#[40]⟩ : ByteArray) ++ bs T ++ (⟨#[41]⟩ : ByteArray)) [.string ((⟨#[40]⟩ : ByteArray) ++ bs T ++ (⟨#[41]⟩ : ByteArray))] (fun _ => True) (fun _ => False) rfl rfl ?aP (fun _ hk => hk.elim) (fun _ _ => trivial) HR3.out HX3.out HX3.out.size ?aL ?_; (case aP => exact rfl); (case aL => (have := HTJ.out; omega)); intro v1 w1 ho hb hg hat; have HO1 := Aside0.mk ho; have HB4 := Aside0.mk hb; clear ho hb hg hat))
              go_roundg (n - (j + 1))
              case measure => have := HJ.out; omega
              case rel => exact ⟨j + 1, by first | rfl | go_num, ⟨by have := HJ.out; omega⟩, ⟨by rw [HTK.out, HOP.out]; exact HO1.out⟩, ⟨HB4.out⟩⟩
          · obtain rfl : j = n := by have := HJ.out; omega
            have f3 : ¬ (j : Int) < (j : Int) := by omega
            have hall : (ks.take j).map opB = ks.map opB := by rw [HN.out, List.take_length]
            rw [hall] at HR
            obtain ⟨z0, z1, z2, z3⟩ := cells4 (blk_below HK.out HX.out)
            have hk0 : 0 < (ks.map opB).length := by rw [List.length_map, ← HN.out]; have := H2.out; omega
            obtain ⟨g, cp, hv, hg, hlt, _⟩ := Kd.R_form HR.out hk0
            subst hv
            have hrd := Kd.R_reads' HR.out
            have HJN := Aside0.mk (show ∀ W3, Below wr.heap.size wr W3 → Calls Tryd.prog 48 #[.slice (some ⟨g, 0, none⟩) (ks.map opB).length cp, .string sg] W3 fun e w' => e = .returned (.string ⟨(Lib.join ((ks.map opB).map (·.data.toList)) sg.data.toList).toArray⟩) ∧ Below W3.heap.size W3 w' from fun W3 h3 => Tryd.strings_Join g 0 cp (ks.map opB) sg W3 (fun q z hz => by
              have hzl : q < (ks.map opB).length := (List.getElem?_eq_some_iff.1 hz).1
              obtain ⟨ad, cc, e1, _, hK, hc0⟩ := Kd.C_get (Kd.C_below hrd.2.2 h3) ByteArray.empty q (by omega) (by omega)
              injection e1 with e1
              subst e1
              have hzz : ((ks.map opB).getD (q : Int).toNat ByteArray.empty) = z := by rw [Int.toNat_natCast, List.getD_eq_getElem?_getD, hz]; rfl
              rw [hzz] at hK
              have hk2 : cc = [.string z] := hK
              subst hk2
              have h3 := hc0 0 (.string z) rfl
              rw [Int.toNat_natCast, show (Kd.string).sz = 1 from rfl, Nat.mul_one, Nat.add_zero, Go.Proofs.YtikgngcdgejgjaaDoorW.PrintWords.add_plain] at h3
              rw [Nat.zero_add]
              exact h3) (by have := h3.size; omega) (by rw [List.length_map, ← HN.out]; have := HL.out; omega) hrd.2.1 (by have := HJB.out; omega))
            obtain ⟨nj, hnj⟩ : ∃ n, n = (ks.map opB).length := ⟨_, rfl⟩
            obtain ⟨Q, hQ⟩ : ∃ Q : ByteArray, Q = ⟨(Lib.join ((ks.map opB).map (·.data.toList)) sg.data.toList).toArray⟩ := ⟨_, rfl⟩
            rw [← hnj, ← hQ] at HJN
            rw [← hnj]
            have HQ := Aside0.mk hQ
            clear hnj hQ hrd hk0 hall HR HJB HKID HTB hg hlt
            go_wp2_with (first
              | (go_at_call 49; refine (HSG.out _ HX.out).mono ?_; clear HSG; rintro e W3 ⟨rfl, h3⟩; have HB3 := Aside0.mk h3; clear h3)
              | (refine (HJN.out _ HB3.out).mono ?_; clear HJN; rintro e W4 ⟨rfl, h4⟩; have HB4 := Aside0.mk h4; clear h4))
            go_ret
            exact ⟨by rw [← HQ.out]; rfl, below_then HBW.out HBW.out.size (below_then HX.out HX.out.size (below_then HB3.out HB3.out.size HB4.out))⟩
end Go.Proofs.YtikgngcdgejgjaaDoor.HExX
