/- The iterator over the leaves: visited kids. -/
import Derived.Test.YtohimcpfmkgefaaDoorUEA
import Derived.RangeFuncNested
import Derived.RangeFuncBound
import Derived.RangeFuncCalls
import Derived.RangeFuncLeaves
import Derived.RangeFuncBox
import Derived.Shelf.Abstract
import Derived.Shelf.RegionOpen
import Derived.WalkKit
import Derived.OwnWalkIn
import Derived.TacticsInMore
import Derived.LoopNIn
import Derived.LoopIn
import Derived.Test.YtohimcpfmkgefaaDoorShelf
namespace Go.Proofs.YtohimcpfmkgefaaDoor.HExV
open Go.RowKit Go.Shelf Go.Proofs.YtohimcpfmkgefaaDoorW.PrintWords Go.Proofs.YtohimcpfmkgefaaDoor.HLib Go.Proofs.YtohimcpfmkgefaaDoor.HGr Go.Proofs.YtohimcpfmkgefaaDoor.HNameP Go.Proofs.YtohimcpfmkgefaaDoor.HName Go.Proofs.YtohimcpfmkgefaaDoor.HExP Go.Proofs.YtohimcpfmkgefaaDoor.HExR Go.Proofs.YtohimcpfmkgefaaDoor.HExQ Go.Proofs.YtohimcpfmkgefaaDoor.HExL Go.Proofs.YtohimcpfmkgefaaDoor.HExA Go.Proofs.YtohimcpfmkgefaaDoor.HExF
open Go.Proofs.YtohimcpfmkgefaaDoor.PSchemaAllows
set_option linter.unusedVariables false
set_option linter.unusedSimpArgs false
/-- An argument of a call that visits x. -/
def xa (x : Ex) (B : Option Addr) (d : Nat) : Value := .agg #[.int .i64 x.f0, .string x.f1, .string x.f2, .slice B x.f3.length d]
set_option maxRecDepth 20000 in
set_option maxHeartbeats 8000000 in
/-- slices.IndexFunc with a predicate that goes from state to state, until it answers true. -/
theorem indexfunc_st (g : Nat) (lb : Array Value) (eg : ∀ args w, (callFunc g args).run Tryd.prog w = .ok (.enter g args) w) (ks : List Ex) (A : Option Addr) (c : Nat) (w0 : World) (hl : ks.length ≤ 1000000) (hC : Kd.C kE w0 A ks.length ks) (St : Nat → World → Prop) (Sx : World → Prop) (hSt : ∀ j W, St j W → Below w0.heap.size w0 W)
    (hp : ∀ (j : Nat) (h : j < ks.length) (B : Option Addr) (d : Nat) (W : World), St j W → Rd w0 B d ks[j] → Calls Tryd.prog g (#[.agg #[.int .i64 ks[j].f0, .string ks[j].f1, .string ks[j].f2, .slice B ks[j].f3.length d]] ++ lb) W fun e w' => (e = .returned (.bool false) ∧ St (j + 1) w') ∨ (e = .returned (.bool true) ∧ Sx w')) (w : World) (h0 : St 0 w) :
    Calls Tryd.prog 62 #[.slice A ks.length c, .func (.func g) #[] lb] w fun e w' => ∃ r : Int, e = .returned (.int .i64 r) ∧ ((decide (0 ≤ r) = false ∧ St ks.length w') ∨ (decide (0 ≤ r) = true ∧ Sx w')) := by
  have HC := Aside0.mk hC
  have HP := Aside0.mk hp
  have HL := Aside0.mk hl
  have HST := Aside0.mk hSt
  have H0 := Aside0.mk h0
  obtain ⟨n, hn⟩ : ∃ n, n = ks.length := ⟨_, rfl⟩
  have HN := Aside0.mk hn
  rw [← hn]
  clear hC hp hl hn hSt h0
  go_enter Tryd.func62, Tryd.ntmps62
  go_wp2
  go_loopg [5, 8] n (fun gg _ s8 wr => ∃ kk : Nat, s8 = .int .i64 kk ∧ Aside0 (gg + kk = n) ∧ Aside0 (St kk wr))
  case atStart => exact ⟨0, rfl, ⟨by omega⟩, H0⟩
  case round =>
    obtain ⟨kk, rfl, HG, HS⟩ := hrel
    by_cases hlt : kk < n
    · have f3 : (kk : Int) < (n : Int) := by omega
      have f1 : decide ((kk : Int) < (n : Int)) = true := decide_eq_true f3
      have f5 : (0 : Int) ≤ (kk : Int) := by omega
      have f4 : IntKind.i64.wrap ((kk : Int) + 1) = (kk : Int) + 1 := by rw [IntKind.wrap_i64]; have := HL.out; have := HN.out; omega
      have hj : kk < ks.length := by have := HN.out; omega
      obtain ⟨ad, B, d, hA, hR, hcs⟩ := kid_cells HC.out kk hj
      have hcall := HP.out kk hj B d wr HS.out hR
      obtain ⟨a1, a2, a3, a4⟩ := hcs wr (HST.out _ _ HS.out)
      obtain ⟨x, hx⟩ : ∃ x, x = ks[kk] := ⟨_, rfl⟩
      rw [← hx] at a1 a2 a3 a4 hcall
      subst hA
      clear hx hR hcs hj
      have HCALL := Aside0.mk hcall
      clear hcall
      go_wp2_with (go_at_fn g; refine (HCALL.out).mono ?_; rintro e w' (⟨rfl, hb'⟩ | ⟨rfl, hb'⟩))
      · go_roundg (n - (kk + 1))
        case measure => have := HG.out; omega
        case rel => exact ⟨kk + 1, by first | rfl | go_num, ⟨by have := HG.out; omega⟩, ⟨hb'⟩⟩
      · go_ret
        exact ⟨_, rfl, .inr ⟨by rw [decide_eq_true]; omega, hb'⟩⟩
    · obtain rfl : kk = n := by have := HG.out; omega
      have f3 : ¬ (kk : Int) < (kk : Int) := by omega
      go_wp2
      go_ret
      exact ⟨_, rfl, .inl ⟨by decide, HS.out⟩⟩
set_option maxRecDepth 20000 in
set_option maxHeartbeats 8000000 in
theorem containsfunc_st (g : Nat) (lb : Array Value) (eg : ∀ args w, (callFunc g args).run Tryd.prog w = .ok (.enter g args) w) (ks : List Ex) (A : Option Addr) (c : Nat) (w0 : World) (hl : ks.length ≤ 1000000) (hC : Kd.C kE w0 A ks.length ks) (St : Nat → World → Prop) (Sx : World → Prop) (hSt : ∀ j W, St j W → Below w0.heap.size w0 W)
    (hp : ∀ (j : Nat) (h : j < ks.length) (B : Option Addr) (d : Nat) (W : World), St j W → Rd w0 B d ks[j] → Calls Tryd.prog g (#[.agg #[.int .i64 ks[j].f0, .string ks[j].f1, .string ks[j].f2, .slice B ks[j].f3.length d]] ++ lb) W fun e w' => (e = .returned (.bool false) ∧ St (j + 1) w') ∨ (e = .returned (.bool true) ∧ Sx w')) (w : World) (h0 : St 0 w) :
    Calls Tryd.prog 56 #[.slice A ks.length c, .func (.func g) #[] lb] w fun e w' => (e = .returned (.bool false) ∧ St ks.length w') ∨ (e = .returned (.bool true) ∧ Sx w') := by
  have HI := Aside0.mk (indexfunc_st g lb eg ks A c w0 hl hC St Sx hSt hp w h0)
  obtain ⟨n, hn⟩ : ∃ n, n = ks.length := ⟨_, rfl⟩
  rw [← hn] at HI ⊢
  clear hC hp hl hn h0 hSt
  go_enter Tryd.func56, Tryd.ntmps56
  go_wp2_with (refine (HI.out).mono ?_; rintro e w' ⟨r, rfl, ⟨hr, hs⟩ | ⟨hr, hs⟩⟩)
  · go_ret
    exact .inl ⟨rfl, hs⟩
  · go_ret
    exact .inr ⟨rfl, hs⟩
end Go.Proofs.YtohimcpfmkgefaaDoor.HExV
/- The iterator over the leaves: visit. -/
namespace Go.Proofs.YtohimcpfmkgefaaDoor.HExW
open Go.RowKit Go.Shelf Go.Proofs.YtohimcpfmkgefaaDoorW.PrintWords Go.Proofs.YtohimcpfmkgefaaDoor.HLib Go.Proofs.YtohimcpfmkgefaaDoor.HGr Go.Proofs.YtohimcpfmkgefaaDoor.HNameP Go.Proofs.YtohimcpfmkgefaaDoor.HName Go.Proofs.YtohimcpfmkgefaaDoor.HPe Go.Proofs.YtohimcpfmkgefaaDoor.HExP Go.Proofs.YtohimcpfmkgefaaDoor.HExR Go.Proofs.YtohimcpfmkgefaaDoor.HExQ Go.Proofs.YtohimcpfmkgefaaDoor.HExL Go.Proofs.YtohimcpfmkgefaaDoor.HExA Go.Proofs.YtohimcpfmkgefaaDoor.HExF Go.Proofs.YtohimcpfmkgefaaDoor.HExV
open Go.Proofs.YtohimcpfmkgefaaDoor.PSchemaAllows
set_option linter.unusedVariables false
set_option linter.unusedSimpArgs false
attribute [local go_sem] Oper.semAt_some
/-- What a round keeps: all that lay below n₀, and all cells from n₁ on. -/
structure KC (n₀ n₁ : Nat) (W W' : World) : Prop where
  below : Below n₀ W W'
  keep : ∀ (k : Nat) (cs : Array Value) (t : TypeId) (f : Nat × Nat), n₁ ≤ k → W.heap[k]? = some (.cells cs t f) → W'.heap[k]? = some (.cells cs t f)
theorem KC.refl (n₀ n₁ : Nat) (W : World) : KC n₀ n₁ W W := ⟨Below.refl _ _, fun _ _ _ _ _ h => h⟩
theorem KC.trans {n₀ n₁ : Nat} {A B C : World} (h : KC n₀ n₁ A B) (k : KC n₀ n₁ B C) : KC n₀ n₁ A C := ⟨h.below.trans k.below, fun i cs t f hi hc => k.keep i cs t f hi (h.keep i cs t f hi hc)⟩
theorem KC.of_below {n₀ n₁ : Nat} {A B : World} (h : Below A.heap.size A B) (hn : n₀ ≤ A.heap.size) : KC n₀ n₁ A B :=
  ⟨h.mono hn, fun k cs t f _ hc => (h.block k (Array.getElem?_eq_some_iff.1 hc).1).trans hc⟩
/-- A leaf, with where its kids lie. -/
abbrev Lf := Ex × Option Addr × Nat
def encL (y : Lf) : Array Value := #[.agg #[.int .i64 y.1.f0, .string y.1.f1, .string y.1.f2, .slice y.2.1 y.1.f3.length y.2.2]]
def Ok (w0 : World) (ls : List Lf) (xs : List Ex) : Prop := ls.map (·.1) = xs ∧ ∀ y ∈ ls, Rd w0 y.2.1 y.2.2 y.1
def OkP (w0 : World) (ls : List Lf) (xs : List Ex) : Prop := ls.map (·.1) <+: xs ∧ ∀ y ∈ ls, Rd w0 y.2.1 y.2.2 y.1
theorem Ok.append {w0 : World} {ls ms : List Lf} {xs ys : List Ex} (h : Ok w0 ls xs) (k : Ok w0 ms ys) : Ok w0 (ls ++ ms) (xs ++ ys) :=
  ⟨by rw [List.map_append, h.1, k.1], fun y hy => (List.mem_append.1 hy).elim (h.2 y) (k.2 y)⟩
theorem Ok.then {w0 : World} {ls ms : List Lf} {xs ys : List Ex} (h : Ok w0 ls xs) (k : OkP w0 ms ys) : OkP w0 (ls ++ ms) (xs ++ ys) :=
  ⟨by rw [List.map_append, h.1]; exact (List.prefix_append_right_inj xs).2 k.1, fun y hy => (List.mem_append.1 hy).elim (h.2 y) (k.2 y)⟩
theorem OkP.more {w0 : World} {ls : List Lf} {xs ys : List Ex} (h : OkP w0 ls xs) : OkP w0 ls (xs ++ ys) := ⟨h.1.trans (List.prefix_append _ _), h.2⟩
theorem Ok.one {w0 : World} {x : Ex} {B : Option Addr} {d : Nat} (h : Rd w0 B d x) : Ok w0 [(x, B, d)] [x] := ⟨rfl, fun y hy => by rw [List.mem_singleton.1 hy]; exact h⟩
theorem Ok.nil (w0 : World) : Ok w0 [] [] := ⟨rfl, fun y hy => by cases hy⟩
theorem Ok.pre {w0 : World} {ls : List Lf} {xs : List Ex} (h : Ok w0 ls xs) : OkP w0 ls xs := ⟨by rw [h.1]; exact List.prefix_refl _, h.2⟩
/-- The boxes of yield and of visit. -/
structure VW (w0 : World) (n₁ By Bv l : Nat) (W : World) : Prop where
  hb : Below w0.heap.size w0 W
  ny : n₁ ≤ By
  nv : n₁ ≤ Bv
  hy : W.heap[By]? = some (.cells #[.func (.yield l) #[] #[]] 70 (0, 0))
  hv : W.heap[Bv]? = some (.cells #[.func (.func 64) #[] #[.pointer (some ⟨By, 0, none⟩), .pointer (some ⟨Bv, 0, none⟩)]] 70 (0, 0))
theorem VW.step {w0 : World} {n₁ By Bv l : Nat} {W W' : World} (h : VW w0 n₁ By Bv l W) (k : KC w0.heap.size n₁ W W') : VW w0 n₁ By Bv l W' :=
  ⟨h.hb.trans k.below, h.ny, h.nv, k.keep _ _ _ _ h.ny h.hy, k.keep _ _ _ _ h.nv h.hv⟩
theorem lv_take (ks : List Ex) (j : Nat) (h : j < ks.length) : lvL (ks.take (j + 1)) = lvL (ks.take j) ++ lvE ks[j] := by
  have hap : ∀ (us : List Ex) (b : Ex), lvL (us ++ [b]) = lvL us ++ lvE b := by
    intro us b
    induction us with
    | nil => rw [List.nil_append, lvL, lvL, lvL, List.append_nil, List.nil_append]
    | cons a us ih => rw [List.cons_append, lvL, lvL, ih, List.append_assoc]
  rw [List.take_succ_eq_append_getElem h, hap]
theorem lv_split (ks : List Ex) (j : Nat) : lvL ks = lvL (ks.take j) ++ lvL (ks.drop j) := by
  have hap : ∀ (us bs : List Ex), lvL (us ++ bs) = lvL us ++ lvL bs := by
    intro us bs
    induction us with
    | nil => rw [List.nil_append, lvL, List.nil_append]
    | cons a us ih => rw [List.cons_append, lvL, lvL, ih, List.append_assoc]
  rw [← hap, List.take_append_drop]
theorem lv_drop (ks : List Ex) (j : Nat) (h : j < ks.length) : lvL (ks.drop j) = lvE ks[j] ++ lvL (ks.drop (j + 1)) := by
  rw [List.drop_eq_getElem_cons h, lvL]
def Vpost (w0 : World) (n₁ : Nat) (J Jx : List Lf → World → Prop) (pre : List Lf) (xs : List Ex) (W : World) (e : Ending) (W' : World) : Prop :=
  (e = .returned (.bool true) ∧ ∃ ls, Ok w0 ls xs ∧ J (pre ++ ls) W' ∧ KC w0.heap.size n₁ W W') ∨ (e = .returned (.bool false) ∧ ∃ ls, OkP w0 ls xs ∧ Jx (pre ++ ls) W')
/-- What the leaves handed on are known to be. -/
structure GoodL (w0 : World) (Sub : Ex → Prop) (Gd : Lf → Prop) : Prop where
  kids : ∀ z, Sub z → ∀ k ∈ z.f3, Sub k
  good : ∀ z B d, Sub z → Rd w0 B d z → Gd (z, B, d)
def RoundE (Gd : Lf → Prop) (w0 : World) (n₁ N l : Nat) (J Jx : List Lf → World → Prop) : Prop :=
  ∀ m pre y W, Gd y → J pre W → pre.length < N → YieldAt Fence.wide m Tryd.prog l (encL y) W fun e W' =>
      (e = .returned (.bool true) ∧ J (pre ++ [y]) W' ∧ KC w0.heap.size n₁ W W') ∨ (e = .returned (.bool false) ∧ Jx (pre ++ [y]) W')

end Go.Proofs.YtohimcpfmkgefaaDoor.HExW
/- Leaves: its iterator's contract; few. -/
namespace Go.Proofs.YtohimcpfmkgefaaDoor.HExI
open Go.RowKit Go.Shelf Go.Proofs.YtohimcpfmkgefaaDoorW.PrintWords Go.Proofs.YtohimcpfmkgefaaDoor.HLib Go.Proofs.YtohimcpfmkgefaaDoor.HGr Go.Proofs.YtohimcpfmkgefaaDoor.HNameP Go.Proofs.YtohimcpfmkgefaaDoor.HName Go.Proofs.YtohimcpfmkgefaaDoor.HPe Go.Proofs.YtohimcpfmkgefaaDoor.HExP Go.Proofs.YtohimcpfmkgefaaDoor.HExR Go.Proofs.YtohimcpfmkgefaaDoor.HExQ Go.Proofs.YtohimcpfmkgefaaDoor.HExL Go.Proofs.YtohimcpfmkgefaaDoor.HExA Go.Proofs.YtohimcpfmkgefaaDoor.HExF Go.Proofs.YtohimcpfmkgefaaDoor.HExV Go.Proofs.YtohimcpfmkgefaaDoor.HExW
open Go.Proofs.YtohimcpfmkgefaaDoor.PSchemaAllows
set_option linter.unusedVariables false
set_option linter.unusedSimpArgs false
attribute [local go_sem] Oper.semAt_some
theorem room_wide_ (k : Nat) : Fence.wide.room k := fun d h => by cases h
theorem roundIn_any {m m' : Nat} {P : Program} {l : Nat} {f : FuncId} {tmps : Array Value} {assign body : Code} {w : World} {R : Ending → World → Prop} (h : RoundIn Fence.wide m P l f tmps assign body w R) : RoundIn Fence.wide m' P l f tmps assign body w R := ⟨h.1, fun c cs _ => h.2 c cs (room_wide_ _)⟩
theorem yieldAt_any {m : Nat} (m' : Nat) {P : Program} {l : Nat} {args : Array Value} {W : World} {R : Ending → World → Prop} (h : YieldAt Fence.wide m P l args W R) : YieldAt Fence.wide m' P l args W R := by
  obtain ⟨fn, tmps, assign, body, hy, hR⟩ := h
  exact ⟨fn, tmps, assign, body, hy, roundIn_any hR⟩
theorem kc_t {n₀ n₁ : Nat} {A B C : World} (h : KC n₀ n₁ A B) (k : KC n₀ n₁ B C) : KC n₀ n₁ A C := h.trans k
theorem kc_b {n₀ n₁ : Nat} {w : World} (hn : n₀ ≤ w.heap.size) (W : World) (l : Nat) (o o' : Obj) (hl : w.heap.size ≤ l) (h : W.heap[l]? = some o) (hc : o.isCells = false) (hw : o.isWalk = false) : KC n₀ n₁ W (W.putObj l o') :=
  ⟨belowK_b hn W l o o' hl h hc hw, fun k cs t f _ hk => by
    by_cases e : k = l
    · subst e; rw [h] at hk; cases hk; cases hc
    · exact (World.putObj_heap_other e).trans hk⟩
/-- Leaves hands back an iterator that has captured its box. -/
theorem leaves_any (x : Ex) (B : Option Addr) (d : Nat) (w : World) :
    Calls Tryd.prog 58 #[.agg #[.int .i64 x.f0, .string x.f1, .string x.f2, .slice B x.f3.length d]] w fun e w' => e = .returned (.func (.func 63) #[] #[.pointer (some ⟨w.heap.size, 0, none⟩)]) ∧ w' = w.alloc (.cells #[.int .i64 x.f0, .string x.f1, .string x.f2, .slice B x.f3.length d] 25) := by
  obtain ⟨nk, hnk⟩ : ∃ n, n = x.f3.length := ⟨_, rfl⟩
  rw [← hnk]
  clear hnk
  go_enter Tryd.func58, Tryd.ntmps58
  go_wp2
  go_ret
  exact ⟨rfl, rfl⟩
theorem blk_far' {w : World} {g : Nat} {cs : Array Value} {t : TypeId} {f : Nat × Nat} (h : w.heap[g]? = some (.cells cs t f)) {p : Addr} (hp : g ≠ p.block) (u : Value) : (w.setCell p u).heap[g]? = some (.cells cs t f) := (Below.heap_setCell w p u g hp).trans h
theorem ok_len {w0 : World} {ys : List Lf} {xs : List Ex} (h : Ok w0 ys xs) : ys.length = xs.length := by rw [← h.1, List.length_map]
end Go.Proofs.YtohimcpfmkgefaaDoor.HExI
/- Right; the text of an expression. -/
namespace Go.Proofs.YtohimcpfmkgefaaDoor.HExT
open Go.RowKit Go.Proofs.YtohimcpfmkgefaaDoorW.PrintWords Go.Proofs.YtohimcpfmkgefaaDoor.HLib Go.Proofs.YtohimcpfmkgefaaDoor.HGr Go.Proofs.YtohimcpfmkgefaaDoor.HNameP Go.Proofs.YtohimcpfmkgefaaDoor.HName Go.Proofs.YtohimcpfmkgefaaDoor.HPe Go.Proofs.YtohimcpfmkgefaaDoor.HExP Go.Proofs.YtohimcpfmkgefaaDoor.HExR Go.Proofs.YtohimcpfmkgefaaDoor.HExQ Go.Proofs.YtohimcpfmkgefaaDoor.HExL Go.Proofs.YtohimcpfmkgefaaDoor.HExA Go.Proofs.YtohimcpfmkgefaaDoor.HExF Go.Proofs.YtohimcpfmkgefaaDoor.HExW Go.Proofs.YtohimcpfmkgefaaDoor.HExI
open Go.Proofs.YtohimcpfmkgefaaDoor.PSchemaAllows
set_option linter.unusedVariables false
set_option linter.unusedSimpArgs false
set_option maxRecDepth 20000 in
set_option maxHeartbeats 4000000 in
theorem depth_any (x : Ex) (A : Option Addr) (c : Nat) (w : World) (hx : nodE x ≤ 1000000) (hR : Rd w A c x) : Calls Tryd.prog 45 #[.agg #[.int .i64 x.f0, .string x.f1, .string x.f2, .slice A x.f3.length c]] w fun e w' => e = .returned (.int .i64 (depE x)) ∧ Below w.heap.size w w' := by
  obtain ⟨k, hk⟩ := (depth_ev.1 x hx).rounds
  exact expr_Depth.calls k x.f0 x.f1 x.f2 A c x.f3 (depE x) w hR.1 hR.2 hk
end Go.Proofs.YtohimcpfmkgefaaDoor.HExT
/- The text of an expression. -/
namespace Go.Proofs.YtohimcpfmkgefaaDoor.HExX
open Go.RowKit Go.Proofs.YtohimcpfmkgefaaDoorW.PrintWords Go.Proofs.YtohimcpfmkgefaaDoor.HLib Go.Proofs.YtohimcpfmkgefaaDoor.HGr Go.Proofs.YtohimcpfmkgefaaDoor.HNameP Go.Proofs.YtohimcpfmkgefaaDoor.HName Go.Proofs.YtohimcpfmkgefaaDoor.HPe Go.Proofs.YtohimcpfmkgefaaDoor.HExP Go.Proofs.YtohimcpfmkgefaaDoor.HExR Go.Proofs.YtohimcpfmkgefaaDoor.HExQ Go.Proofs.YtohimcpfmkgefaaDoor.HExL Go.Proofs.YtohimcpfmkgefaaDoor.HExA Go.Proofs.YtohimcpfmkgefaaDoor.HExF Go.Proofs.YtohimcpfmkgefaaDoor.HExW Go.Proofs.YtohimcpfmkgefaaDoor.HExI Go.Proofs.YtohimcpfmkgefaaDoor.HExT
open Go.Proofs.YtohimcpfmkgefaaDoor.PSchemaAllows
set_option linter.unusedVariables false
set_option linter.unusedSimpArgs false
def bs (l : List UInt8) : ByteArray := ⟨l.toArray⟩
theorem bs_size (l : List UInt8) : (bs l).size = l.length := by simp [bs, ByteArray.size]
theorem bs_list (l : List UInt8) : (bs l).data.toList = l := by simp [bs]
theorem bs_of (s : ByteArray) : bs s.data.toList = s := by cases s; simp [bs]
theorem bs_append (a b : List UInt8) : bs (a ++ b) = bs a ++ bs b := by
  apply ByteArray.ext
  simp [bs, ByteArray.data_append]
theorem join_len (sep : List UInt8) : ∀ xs : List (List UInt8), (Lib.join xs sep).length ≤ (xs.map fun x => x.length + sep.length).sum
  | [] => by simp [Lib.join]
  | [x] => by simp [Lib.join]
  | x :: y :: xs => by
    have ih := join_len sep (y :: xs)
    have e : Lib.join (x :: y :: xs) sep = x ++ sep ++ Lib.join (y :: xs) sep := by simp [Lib.join, List.intercalate, List.append_assoc]
    rw [e, List.map_cons, List.sum_cons, List.length_append, List.length_append]
    omega
theorem name_size {s : ByteArray} (h : isP s = true) : 1 ≤ s.size ∧ s.size ≤ 64 := by
  simp only [isP, Bool.and_eq_true, decide_eq_true_eq] at h
  exact ⟨h.1, h.2.1⟩
theorem tx_bound : (∀ x : Ex, frmE x = true → (txE x).length + 100 ≤ 300 * nodE x) ∧ ∀ ks : List Ex, frmL ks = true → ((opL ks).map fun x => x.length + 3).sum ≤ 300 * nodL ks := by
  refine ex_ind (p := fun x => frmE x = true → (txE x).length + 100 ≤ 300 * nodE x) (q := fun ks => frmL ks = true → ((opL ks).map fun x => x.length + 3).sum ≤ 300 * nodL ks) ?_ ?_ ?_
  · intro _
    rw [opL, nodL]
    simp
  · intro x xs h1 h2 h
    rw [frmL, Bool.and_eq_true] at h
    rw [op_cons, nodL, List.map_cons, List.sum_cons]
    have h3 := h1 h.1
    have h4 := h2 h.2
    have : (opE x).length ≤ (txE x).length + 2 := by
      unfold opE
      split
      · omega
      · simp
    omega
  · intro x ih h
    rw [frm_eq, Bool.and_eq_true, Bool.and_eq_true] at h
    rw [tx_eq, nod_eq]
    have hn := h.1
    unfold namesK at hn
    by_cases c1 : x.f0 = 1
    · rw [if_pos c1] at hn ⊢
      rw [Bool.and_eq_true] at hn
      have := (name_size hn.2).2
      rw [data_length]
      omega
    · rw [if_neg c1] at hn ⊢
      by_cases c2 : x.f0 = 2
      · rw [if_pos c2] at hn ⊢
        rw [Bool.and_eq_true] at hn
        have := (name_size hn.1).2
        have := (name_size hn.2).2
        simp only [List.length_append, data_length, List.length_cons, List.length_nil]
        omega
      · rw [if_neg c2]
        have h5 := ih h.2.2
        have h6 := join_len (sgnK x.f0) (opL x.f3)
        rw [show (sgnK x.f0).length = 3 from rfl] at h6
        omega
theorem kind_range {x : Ex} (h : frmE x = true) : x.f0 = 1 ∨ x.f0 = 2 ∨ ((x.f0 = 3 ∨ x.f0 = 4 ∨ x.f0 = 5) ∧ 2 ≤ x.f3.length) := by
  rw [frm_eq, Bool.and_eq_true, Bool.and_eq_true] at h
  have hk := h.2.1
  unfold kidsK at hk
  by_cases c : x.f0 = 1 ∨ x.f0 = 2
  · rcases c with c | c
    · exact .inl c
    · exact .inr (.inl c)
  · rw [if_neg c] at hk
    by_cases c3 : x.f0 = 3 ∨ x.f0 = 4
    · rw [if_pos c3, decide_eq_true_eq] at hk
      exact .inr (.inr ⟨by omega, hk⟩)
    · rw [if_neg c3, Bool.and_eq_true, decide_eq_true_eq, decide_eq_true_eq] at hk
      exact .inr (.inr ⟨by omega, by omega⟩)
theorem frm_mem : ∀ {ks : List Ex} {x : Ex}, frmL ks = true → x ∈ ks → frmE x = true
  | y :: ys, x, hs, h => by
    rw [frmL, Bool.and_eq_true] at hs
    rcases List.mem_cons.1 h with rfl | h
    · exact hs.1
    · exact frm_mem hs.2 h
theorem op_map : ∀ ks : List Ex, opL ks = ks.map opE
  | [] => by rw [opL]; rfl
  | x :: xs => by rw [op_cons, op_map xs]; rfl
def opB (x : Ex) : ByteArray := bs (opE x)
theorem op_data (ks : List Ex) : (ks.map opB).map (·.data.toList) = opL ks := by
  rw [op_map, List.map_map]
  congr 1
theorem paren_eq (s : List UInt8) : (⟨#[40]⟩ ++ bs s) ++ ⟨#[41]⟩ = bs (40 :: (s ++ [41])) := by
  apply ByteArray.ext
  simp [bs, ByteArray.data_append]
theorem info_st : (Tryd.prog.info? 9).map (fun i => (i.zero, i.size, i.bytes)) = some (some (.string ⟨#[]⟩), 1, 16) := by kernel_rfl
end Go.Proofs.YtohimcpfmkgefaaDoor.HExX
