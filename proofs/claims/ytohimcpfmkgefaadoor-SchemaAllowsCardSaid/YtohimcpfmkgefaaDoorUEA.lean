/- Worlds that have but grown and drawn. -/
import Derived.Test.YtohimcpfmkgefaaDoorUT
import Derived.Sort.Grow
import Derived.Shelf.SlSortCmp.QuietGrown
import Derived.Lib.Join
import Derived.Test.YtohimcpfmkgefaaDoorUV
import Derived.Test.YtohimcpfmkgefaaDoorUN
import Derived.Test.YtohimcpfmkgefaaDoorUP
import Derived.Laws.EntriesVeiled
namespace Go.Proofs.YtohimcpfmkgefaaDoor.HGr
open Go.RowKit Go.Sort Go.Proofs.YtohimcpfmkgefaaDoorW.PrintWords Go.Proofs.YtohimcpfmkgefaaDoor.HLib
set_option linter.unusedVariables false
set_option linter.unusedSimpArgs false
/-- w' is w, orders having been drawn and blocks laid behind. -/
def Gr (w w' : World) : Prop := ∃ q os, w' = grow (w.drewN q) os
theorem Gr.refl (w : World) : Gr w w := ⟨0, #[], by rw [grow_empty]; rfl⟩
theorem Gr.alloc {w w' : World} (h : Gr w w') (o : Obj) : Gr w (w'.alloc o) := by
  obtain ⟨q, os, rfl⟩ := h
  exact ⟨q, os ++ #[o], by rw [alloc_eq_grow, grow_grow]⟩
theorem Gr.drewN {w w' : World} (h : Gr w w') (n : Nat) : Gr w (w'.drewN n) := by
  obtain ⟨q, os, rfl⟩ := h
  refine ⟨q + n, os, ?_⟩
  rw [← World.drewN_drewN]
  rfl
theorem Gr.drew {w w' : World} (h : Gr w w') : Gr w w'.drew := h.drewN 1
theorem Gr.trans {w w1 w2 : World} (h : Gr w w1) (k : Gr w1 w2) : Gr w w2 := by
  obtain ⟨q, os, rfl⟩ := h
  obtain ⟨q2, os2, rfl⟩ := k
  refine ⟨q + q2, os ++ os2, ?_⟩
  rw [← grow_grow, ← World.drewN_drewN]
  rfl
theorem Gr.cell {w w' : World} (h : Gr w w') {a : Addr} {v : Value} (hb : a.block < w.heap.size) (hc : w.cell? a = some v) : w'.cell? a = some v := by
  obtain ⟨q, os, rfl⟩ := h
  exact cell_grown hb hc q os
theorem Gr.size {w w' : World} (h : Gr w w') : w.heap.size ≤ w'.heap.size := by
  obtain ⟨q, os, rfl⟩ := h
  rw [size_grow]
  exact Nat.le_add_right _ _
theorem Gr.below {w w' : World} (h : Gr w w') : Below w.heap.size w w' := by
  obtain ⟨q, os, rfl⟩ := h
  refine ⟨rfl, rfl, rfl, ?_, fun k hk => ?_⟩
  · rw [size_grow]; exact Nat.le_add_right _ _
  · exact heap_grow_old (w.drewN q) os hk
theorem Gr.drawn0 {w w' : World} (h : Drawn0 w w') : Gr w w' := by
  obtain ⟨n, rfl⟩ := h
  exact (Gr.refl w).drewN n
theorem load_str {P : Program} {W : World} {a : Addr} {x : ByteArray} {ty : TypeId} (hu : P.underlying ty = some .string) (h : W.cell? a = some (.string x)) :
    (Instr.loadAt ty (.pointer (some a))).run P W = .ok (.string x) W := by
  simp [Instr.loadAt, Instr.sureAddr, loadVar, isAgg, run_underlying hu, Result.andThen, run_load, h]
theorem yieldsIf_load {P : Program} {ops : Array Oper} {S : World → Prop} {op : Oper} {a : Act} (hw : Region.wanted op (yielded ops a.tmps) = true) (ty : TypeId) (x : Operand) (ho : op.op = .load ty x) (v : Value)
    (h : ∀ w, S w → (Instr.loadAt ty (a.eval x)).run P w = .ok v w) : YieldsIf P ops S op v a :=
  .inl ⟨hw, fun w hS => by simp [execOp, ho, h w hS, Result.andThen]⟩
end Go.Proofs.YtohimcpfmkgefaaDoor.HGr
/- Expressions, plain: depth, form, leaves, text, order. -/
namespace Go.Proofs.YtohimcpfmkgefaaDoor.HExP
open Go.RowKit Go.Proofs.YtohimcpfmkgefaaDoorW.PrintWords Go.Proofs.YtohimcpfmkgefaaDoor.HNameP Go.Proofs.YtohimcpfmkgefaaDoor.HCmp
open Go.Proofs.YtohimcpfmkgefaaDoor.PSchemaAllows
set_option linter.unusedVariables false
set_option linter.unusedSimpArgs false
abbrev Ex := S25
abbrev kE : Kd Ex := k25
mutual
def depE : Ex → Int
  | ⟨_, _, _, ks⟩ => depL ks + 1
def depL : List Ex → Int
  | [] => 0
  | k :: ks => max (depE k) (depL ks)
end
mutual
def nodE : Ex → Nat
  | ⟨_, _, _, ks⟩ => nodL ks + 1
def nodL : List Ex → Nat
  | [] => 0
  | k :: ks => nodE k + nodL ks
end
mutual
/-- No text in it is longer than m. -/
def strE (m : Nat) : Ex → Prop
  | ⟨_, v, n, ks⟩ => (v.size ≤ m ∧ n.size ≤ m) ∧ strL m ks
def strL (m : Nat) : List Ex → Prop
  | [] => True
  | k :: ks => strE m k ∧ strL m ks
end
def leafK (k : Int) : Bool := !(decide (k = 3) || (decide (k = 4) || decide (k = 5)))
mutual
def lvE : Ex → List Ex
  | ⟨k, v, n, ks⟩ => if leafK k = true then [⟨k, v, n, ks⟩] else lvL ks
def lvL : List Ex → List Ex
  | [] => []
  | k :: ks => lvE k ++ lvL ks
end
def E0 : ByteArray := ⟨#[]⟩
def namesK (k : Int) (v n : ByteArray) : Bool := if k = 1 then decide (v.size = 0) && isP n else if k = 2 then isP v && isP n else decide (v.size = 0) && decide (n.size = 0)
def kidsK (k : Int) (n : Nat) : Bool := if k = 1 ∨ k = 2 then decide (n = 0) else if k = 3 ∨ k = 4 then decide (2 ≤ n) else decide (k = 5) && decide (n = 2)
mutual
def frmE : Ex → Bool
  | ⟨k, v, n, ks⟩ => namesK k v n && (kidsK k ks.length && frmL ks)
def frmL : List Ex → Bool
  | [] => true
  | k :: ks => frmE k && frmL ks
end
def rightE (x : Ex) : Bool := decide (depE x ≤ 16) && (frmE x && decide ((lvE x).length ≤ 32))
def sgnK (k : Int) : List UInt8 := [32, if k = 3 then 43 else if k = 4 then 38 else 45, 32]
mutual
def txE : Ex → List UInt8
  | ⟨k, v, n, ks⟩ => if k = 1 then n.data.toList else if k = 2 then v.data.toList ++ ([45, 62] ++ n.data.toList) else Lib.join (opL ks) (sgnK k)
def opL : List Ex → List (List UInt8)
  | [] => []
  | ⟨k, v, n, ks⟩ :: xs => (if leafK k = true then txE ⟨k, v, n, ks⟩ else 40 :: (txE ⟨k, v, n, ks⟩ ++ [41])) :: opL xs
end
def cmpI (a b : Int) : Int := if a < b then -1 else if b < a then 1 else 0
def orI (a b : Int) : Int := if a = 0 then b else a
mutual
def cmpE : Ex → Ex → Int
  | ⟨k, v, n, ks⟩, y => orI (cmpI k y.f0) (orI (cmpS v y.f1) (orI (cmpS n y.f2) (cmpX ks y.f3)))
def cmpX : List Ex → List Ex → Int
  | [], [] => 0
  | [], _ :: _ => -1
  | _ :: _, [] => 1
  | x :: xs, y :: ys => orI (cmpE x y) (cmpX xs ys)
end
mutual
def cntE : Ex → Int → Int
  | ⟨_, v, n, ks⟩, d => if d > 30 then 500 else cntL ks (d + 1) (1 + (v.size : Int) / 200 + (n.size : Int) / 200)
def cntL : List Ex → Int → Int → Int
  | [], _, n => n
  | k :: ks, d, n => if n < 500 then cntL ks d (n + cntE k d) else n
end
def fewE (x : Ex) : Bool := decide (cntE x 0 ≤ 150)
theorem dep_eq (x : Ex) : depE x = depL x.f3 + 1 := by obtain ⟨k, v, n, ks⟩ := x; rw [depE]
theorem frm_eq (x : Ex) : frmE x = (namesK x.f0 x.f1 x.f2 && (kidsK x.f0 x.f3.length && frmL x.f3)) := by obtain ⟨k, v, n, ks⟩ := x; rw [frmE]
theorem lv_eq (x : Ex) : lvE x = if leafK x.f0 = true then [x] else lvL x.f3 := by obtain ⟨k, v, n, ks⟩ := x; rw [lvE]
theorem tx_eq (x : Ex) : txE x = if x.f0 = 1 then x.f2.data.toList else if x.f0 = 2 then x.f1.data.toList ++ ([45, 62] ++ x.f2.data.toList) else Lib.join (opL x.f3) (sgnK x.f0) := by obtain ⟨k, v, n, ks⟩ := x; rw [txE]
def opE (x : Ex) : List UInt8 := if leafK x.f0 = true then txE x else 40 :: (txE x ++ [41])
theorem op_cons (x : Ex) (xs : List Ex) : opL (x :: xs) = opE x :: opL xs := by obtain ⟨k, v, n, ks⟩ := x; rw [opL, opE]
theorem cmp_eq (x y : Ex) : cmpE x y = orI (cmpI x.f0 y.f0) (orI (cmpS x.f1 y.f1) (orI (cmpS x.f2 y.f2) (cmpX x.f3 y.f3))) := by obtain ⟨k, v, n, ks⟩ := x; rw [cmpE]
theorem cnt_eq (x : Ex) (d : Int) : cntE x d = if d > 30 then 500 else cntL x.f3 (d + 1) (1 + (x.f1.size : Int) / 200 + (x.f2.size : Int) / 200) := by obtain ⟨k, v, n, ks⟩ := x; rw [cntE]
theorem nod_eq (x : Ex) : nodE x = nodL x.f3 + 1 := by obtain ⟨k, v, n, ks⟩ := x; rw [nodE]
theorem str_eq (m : Nat) (x : Ex) : strE m x = ((x.f1.size ≤ m ∧ x.f2.size ≤ m) ∧ strL m x.f3) := by obtain ⟨k, v, n, ks⟩ := x; rw [strE]
/-- Induction over expressions. -/
theorem ex_ind {p : Ex → Prop} {q : List Ex → Prop} (h0 : q []) (h1 : ∀ x xs, p x → q xs → q (x :: xs)) (h2 : ∀ x, q x.f3 → p x) : (∀ x, p x) ∧ ∀ xs, q xs := by
  have hp : ∀ n, (∀ x, nodE x ≤ n → p x) ∧ ∀ xs, nodL xs ≤ n → q xs := by
    intro n
    induction n with
    | zero =>
      refine ⟨fun x hx => by rw [nod_eq] at hx; omega, fun xs hx => ?_⟩
      cases xs with
      | nil => exact h0
      | cons x xs => rw [nodL, nod_eq] at hx; omega
    | succ n ih =>
      have hx1 : ∀ x, nodE x ≤ n + 1 → p x := fun x hx => h2 x (ih.2 _ (by rw [nod_eq] at hx; omega))
      refine ⟨hx1, fun xs => ?_⟩
      induction xs with
      | nil => exact fun _ => h0
      | cons x xs ih2 =>
        intro hx
        rw [nodL] at hx
        exact h1 x xs (hx1 x (by omega)) (ih2 (by omega))
  exact ⟨fun x => (hp (nodE x)).1 x (Nat.le_refl _), fun xs => (hp (nodL xs)).2 xs (Nat.le_refl _)⟩
end Go.Proofs.YtohimcpfmkgefaaDoor.HExP
/- The reference's expressions: the printed functions are the plain ones. -/
namespace Go.Proofs.YtohimcpfmkgefaaDoor.HExR
open Go.RowKit Go.Proofs.YtohimcpfmkgefaaDoorW.PrintWords Go.Proofs.YtohimcpfmkgefaaDoorW.PrintMore Go.Proofs.YtohimcpfmkgefaaDoor.HNameP Go.Proofs.YtohimcpfmkgefaaDoor.HNameR Go.Proofs.YtohimcpfmkgefaaDoor.HCmp Go.Proofs.YtohimcpfmkgefaaDoor.HPr Go.Proofs.YtohimcpfmkgefaaDoor.HPe Go.Proofs.YtohimcpfmkgefaaDoor.HExP
open Go.Proofs.YtohimcpfmkgefaaDoor.PSchemaAllows
set_option linter.unusedVariables false
set_option linter.unusedSimpArgs false
theorem rd_app (pre : List Ex) (x : Ex) (xs : List Ex) : rd_T25 (pre ++ x :: xs) (pre.length : Int) = x := by
  unfold rd_T25
  rw [Int.toNat_natCast, List.getD_eq_getElem?_getD, List.getElem?_append_right (Nat.le_refl _), Nat.sub_self]
  rfl
theorem len_app (pre : List Ex) (x : Ex) (xs : List Ex) : (pre ++ x :: xs).length = pre.length + 1 + xs.length := by
  rw [List.length_append, List.length_cons]; omega
theorem app_next (pre : List Ex) (x : Ex) (xs : List Ex) : pre ++ x :: xs = (pre ++ [x]) ++ xs := by rw [List.append_assoc]; rfl
theorem evAt {α : Type} {g f : Nat → Option α} {r : α} (hg : Ev g r) (h : ∀ k, f (k + 1) = g k) : Ev f r := Ev.step h hg
def CM (d : Int) : Int := 92233720368548260 + 500 * ((31 - d).toNat : Int)
theorem cnt_bound : (∀ x : Ex, strE maxLen x → ∀ d : Int, 0 ≤ d → 1 ≤ cntE x d ∧ cntE x d ≤ CM d - 500) ∧
    ∀ ks : List Ex, strL maxLen ks → ∀ d n : Int, 0 ≤ d → 1 ≤ n → n ≤ CM d → 1 ≤ cntL ks d n ∧ cntL ks d n ≤ CM d := by
  refine ex_ind (p := fun x => strE maxLen x → ∀ d : Int, 0 ≤ d → 1 ≤ cntE x d ∧ cntE x d ≤ CM d - 500) (q := fun ks => strL maxLen ks → ∀ d n : Int, 0 ≤ d → 1 ≤ n → n ≤ CM d → 1 ≤ cntL ks d n ∧ cntL ks d n ≤ CM d) ?_ ?_ ?_
  · intro _ d n h0 h1 h2
    rw [cntL]
    exact ⟨h1, h2⟩
  · intro x xs ihx ihs hs d n h0 h1 h2
    rw [strL] at hs
    rw [cntL]
    have h3 := ihx hs.1 d h0
    by_cases c : n < 500
    · rw [if_pos c]
      exact ihs hs.2 d _ h0 (by omega) (by omega)
    · rw [if_neg c]
      exact ⟨h1, h2⟩
  · intro x ih hs d h0
    rw [str_eq] at hs
    rw [cnt_eq]
    have hm : maxLen = 9223372036854775807 := rfl
    by_cases c : d > 30
    · rw [if_pos c]
      unfold CM
      omega
    · rw [if_neg c]
      have h3 := ih hs.2 (d + 1) (1 + (x.f1.size : Int) / 200 + (x.f2.size : Int) / 200) (by omega) (by omega) (by unfold CM; omega)
      unfold CM at h3 ⊢
      omega
theorem wrap_in {z : Int} (h1 : -9223372036854775808 ≤ z) (h2 : z ≤ 9223372036854775807) : wrap64 z = z := by unfold wrap64; omega
/-- Few parts: no part is passed over. -/
theorem few_small : (∀ x : Ex, ∀ d : Int, strE maxLen x → 0 ≤ d → cntE x d < 500 → (nodE x : Int) ≤ cntE x d ∧ ∀ m : Nat, cntE x d ≤ m → strE (200 * m + 199) x) ∧
    ∀ ks : List Ex, ∀ d n : Int, strL maxLen ks → 0 ≤ d → 1 ≤ n → cntL ks d n < 500 → n + (nodL ks : Int) ≤ cntL ks d n ∧ ∀ m : Nat, cntL ks d n ≤ m → strL (200 * m + 199) ks := by
  refine ex_ind (p := fun x => ∀ d : Int, strE maxLen x → 0 ≤ d → cntE x d < 500 → (nodE x : Int) ≤ cntE x d ∧ ∀ m : Nat, cntE x d ≤ m → strE (200 * m + 199) x)
    (q := fun ks => ∀ d n : Int, strL maxLen ks → 0 ≤ d → 1 ≤ n → cntL ks d n < 500 → n + (nodL ks : Int) ≤ cntL ks d n ∧ ∀ m : Nat, cntL ks d n ≤ m → strL (200 * m + 199) ks) ?_ ?_ ?_
  · intro d n _ h0 h1 h2
    rw [cntL] at h2 ⊢
    rw [nodL]
    exact ⟨by omega, fun m hm => by rw [strL]; trivial⟩
  · intro x xs ihx ihs d n hs h0 h1 h2
    rw [strL] at hs
    rw [cntL] at h2 ⊢
    have hb := (cnt_bound.1 x hs.1 d h0).1
    by_cases c : n < 500
    · rw [if_pos c] at h2 ⊢
      have h3 := ihs d (n + cntE x d) hs.2 h0 (by omega) h2
      have h4 : cntE x d < 500 := by
        have := h3.1
        omega
      have h5 := ihx d hs.1 h0 h4
      rw [nodL]
      refine ⟨?_, fun m hm => ?_⟩
      · have := h3.1
        have := h5.1
        omega
      · rw [strL]
        have := h3.1
        exact ⟨h5.2 m (by omega), h3.2 m hm⟩
    · rw [if_neg c] at h2
      omega
  · intro x ih d hs h0 h1
    rw [str_eq] at hs
    rw [cnt_eq] at h1 ⊢
    by_cases c : d > 30
    · rw [if_pos c] at h1
      omega
    · rw [if_neg c] at h1 ⊢
      have h3 := ih (d + 1) _ hs.2 (by omega) (by omega) h1
      rw [nod_eq]
      refine ⟨?_, fun m hm => ?_⟩
      · have := h3.1
        omega
      · rw [str_eq]
        refine ⟨⟨?_, ?_⟩, h3.2 m hm⟩
        · have := h3.1
          omega
        · have := h3.1
          omega
/-- What Few lets in. -/
def Small (x : Ex) : Prop := nodE x ≤ 150 ∧ strE 30199 x
theorem small_of_few {x : Ex} (hs : strE maxLen x) (h : fewE x = true) : Small x := by
  have h1 : cntE x 0 ≤ 150 := by simpa [fewE] using h
  have h2 := few_small.1 x 0 hs (by omega) (by omega)
  exact ⟨by have := h2.1; omega, h2.2 150 h1⟩
theorem nod_pos (x : Ex) : 1 ≤ nodE x := by rw [nod_eq]; omega
theorem len_nod : ∀ ks : List Ex, ks.length ≤ nodL ks
  | [] => Nat.zero_le _
  | x :: xs => by
    rw [nodL, List.length_cons]
    have := len_nod xs
    have := nod_pos x
    omega
theorem nod_mem : ∀ {ks : List Ex} {x : Ex}, x ∈ ks → nodE x ≤ nodL ks
  | y :: ys, x, h => by
    rw [nodL]
    rcases List.mem_cons.1 h with rfl | h
    · omega
    · have := nod_mem h
      omega
theorem str_mem {m : Nat} : ∀ {ks : List Ex} {x : Ex}, strL m ks → x ∈ ks → strE m x
  | y :: ys, x, hs, h => by
    rw [strL] at hs
    rcases List.mem_cons.1 h with rfl | h
    · exact hs.1
    · exact str_mem hs.2 h
theorem dep_bound : (∀ x : Ex, 1 ≤ depE x ∧ depE x ≤ nodE x) ∧ ∀ ks : List Ex, 0 ≤ depL ks ∧ depL ks ≤ nodL ks := by
  refine ex_ind (p := fun x => 1 ≤ depE x ∧ depE x ≤ nodE x) (q := fun ks => 0 ≤ depL ks ∧ depL ks ≤ nodL ks) ?_ ?_ ?_
  · rw [depL, nodL]; omega
  · intro x xs h1 h2
    rw [depL, nodL]
    omega
  · intro x h
    rw [dep_eq, nod_eq]
    omega
theorem mx_max (a b : Int) : mx a b = max a b := by unfold mx; omega
theorem depth_ev : (∀ x : Ex, nodE x ≤ 1000000 → Ev (fun k => expr_Depth.f k x.f0 x.f1 x.f2 x.f3) (depE x)) ∧
    ∀ ks : List Ex, ∀ (acc : Int) (pre : List Ex), pre.length + nodL ks ≤ 1000000 → 0 ≤ acc → acc ≤ 1000000 → Ev (fun k => expr_Depth.l0 k acc (pre ++ ks) ((pre ++ ks).length : Int) pre.length) (max acc (depL ks) + 1) := by
  refine ex_ind (p := fun x => nodE x ≤ 1000000 → Ev (fun k => expr_Depth.f k x.f0 x.f1 x.f2 x.f3) (depE x))
    (q := fun ks => ∀ (acc : Int) (pre : List Ex), pre.length + nodL ks ≤ 1000000 → 0 ≤ acc → acc ≤ 1000000 → Ev (fun k => expr_Depth.l0 k acc (pre ++ ks) ((pre ++ ks).length : Int) pre.length) (max acc (depL ks) + 1)) ?_ ?_ ?_
  · intro acc pre h1 h2 h3
    rw [depL]
    refine evAt (Ev.now _) fun k => ?_
    rw [expr_Depth.l0, List.append_nil, if_neg (by omega), wrap_in (by omega) (by omega)]
    congr 1
    omega
  · intro x xs ihx ihs acc pre h1 h2 h3
    rw [nodL] at h1
    have hn := nod_pos x
    have hb := dep_bound.1 x
    have h5 := ihs (max acc (depE x)) (pre ++ [x]) (by rw [List.length_append, List.length_singleton]; omega) (by omega) (by omega)
    rw [← app_next, List.length_append (bs := [x]), List.length_singleton] at h5
    rw [depL]
    have e3 : wrap64 ((pre.length : Int) + 1) = ((pre.length + 1 : Nat) : Int) := by rw [wrap_in (by omega) (by omega)]; omega
    refine evAt (Ev.bind (ihx (by omega)) (f := fun k t => expr_Depth.l0 k (mx acc t) (pre ++ x :: xs) ((pre ++ x :: xs).length : Int) (wrap64 ((pre.length : Int) + 1))) ?_) fun k => ?_
    · rw [mx_max, e3, show max acc (max (depE x) (depL xs)) + 1 = max (max acc (depE x)) (depL xs) + 1 from by omega]
      exact h5
    · rw [expr_Depth.l0, if_pos (by rw [len_app]; omega), if_pos (by omega), if_pos (by rw [len_app]; omega), rd_app]
  · intro x ih h
    rw [nod_eq] at h
    have h2 := ih 0 [] (by simp; omega) (by omega) (by omega)
    rw [dep_eq]
    have hb := dep_bound.2 x.f3
    rw [show max (0 : Int) (depL x.f3) + 1 = depL x.f3 + 1 from by omega] at h2
    exact evAt h2 fun k => by rw [expr_Depth.f]; rfl
end Go.Proofs.YtohimcpfmkgefaaDoor.HExR
/- The reference's expressions, on: Leaves, Right, Compare, Clone. -/
namespace Go.Proofs.YtohimcpfmkgefaaDoor.HExQ
open Go.RowKit Go.Proofs.YtohimcpfmkgefaaDoorW.PrintWords Go.Proofs.YtohimcpfmkgefaaDoorW.PrintMore Go.Proofs.YtohimcpfmkgefaaDoor.HNameP Go.Proofs.YtohimcpfmkgefaaDoor.HNameR Go.Proofs.YtohimcpfmkgefaaDoor.HCmp Go.Proofs.YtohimcpfmkgefaaDoor.HPr Go.Proofs.YtohimcpfmkgefaaDoor.HPe Go.Proofs.YtohimcpfmkgefaaDoor.HExP Go.Proofs.YtohimcpfmkgefaaDoor.HExR
open Go.Proofs.YtohimcpfmkgefaaDoor.PSchemaAllows
set_option linter.unusedVariables false
set_option linter.unusedSimpArgs false
theorem mk_eta (x : Ex) : (⟨x.f0, x.f1, x.f2, x.f3⟩ : Ex) = x := by cases x; rfl
theorem next_ {pre : List Ex} (h : pre.length ≤ 1000000) : wrap64 ((pre.length : Int) + 1) = ((pre.length + 1 : Nat) : Int) := by rw [wrap_in (by omega) (by omega)]; omega
theorem lv_bound : (∀ x : Ex, (lvE x).length ≤ nodE x) ∧ ∀ ks : List Ex, (lvL ks).length ≤ nodL ks := by
  refine ex_ind (p := fun x => (lvE x).length ≤ nodE x) (q := fun ks => (lvL ks).length ≤ nodL ks) ?_ ?_ ?_
  · rw [lvL, nodL]; exact Nat.le_refl _
  · intro x xs h1 h2
    rw [lvL, nodL, List.length_append]
    omega
  · intro x h
    rw [lv_eq, nod_eq]
    split
    · simp
    · omega
theorem nil_iff (s : ByteArray) : (s.toList = ([] : List UInt8)) ↔ s.size = 0 := by
  constructor
  · intro h
    rcases Nat.eq_zero_or_pos s.size with h0 | h0
    · exact h0
    · exact absurd h (ne_of_size h0)
  · exact nil_of_size
theorem dep_le (d : Int) (x : Ex) : decide (depE x ≤ d) = decide (depL x.f3 ≤ d - 1) := by rw [dep_eq]; congr 1; rw [eq_iff_iff]; omega
theorem cmpI_cases (a b : Int) : (a < b ∧ cmpI a b = -1) ∨ (a > b ∧ cmpI a b = 1) ∨ (a = b ∧ cmpI a b = 0) := by
  unfold cmpI
  by_cases h : a < b
  · exact .inl ⟨h, if_pos h⟩
  · by_cases h2 : b < a
    · exact .inr (.inl ⟨h2, by rw [if_neg h, if_pos h2]⟩)
    · exact .inr (.inr ⟨by omega, by rw [if_neg h, if_neg h2]⟩)
end Go.Proofs.YtohimcpfmkgefaaDoor.HExQ
/- Expressions in memory: read, loaded. -/
namespace Go.Proofs.YtohimcpfmkgefaaDoor.HExL
open Go.RowKit Go.Proofs.YtohimcpfmkgefaaDoorW.PrintWords Go.Proofs.YtohimcpfmkgefaaDoor.HLib Go.Proofs.YtohimcpfmkgefaaDoor.HGr Go.Proofs.YtohimcpfmkgefaaDoor.HExP
open Go.Proofs.YtohimcpfmkgefaaDoor.PSchemaAllows
set_option linter.unusedVariables false
set_option linter.unusedSimpArgs false
/-- An expression as a value: its kids lie at A. -/
def xv (x : Ex) (A : Option Addr) (c : Nat) : Value := .agg #[.int .i64 x.f0, .string x.f1, .string x.f2, .slice A x.f3.length c]
def xc (x : Ex) (A : Option Addr) (c : Nat) : List Value := [.int .i64 x.f0, .string x.f1, .string x.f2, .slice A x.f3.length c]
/-- Its kids are read. -/
def Rd (w : World) (A : Option Addr) (c : Nat) (x : Ex) : Prop := Kd.C kE w A x.f3.length x.f3 ∧ x.f3.length ≤ c
theorem Rd.below {w w1 : World} {A : Option Addr} {c : Nat} {x : Ex} (h : Rd w A c x) (hb : Below w.heap.size w w1) : Rd w1 A c x := ⟨Kd.C_below h.1 hb, h.2⟩
theorem load_E {W : World} {ad : Addr} {x : Ex} {A : Option Addr} {c : Nat} (a1 : W.cell? ad = some (.int .i64 x.f0)) (a2 : W.cell? ⟨ad.block, ad.off + 1, none⟩ = some (.string x.f1)) (a3 : W.cell? ⟨ad.block, ad.off + 2, none⟩ = some (.string x.f2)) (a4 : W.cell? ⟨ad.block, ad.off + 3, none⟩ = some (.slice A x.f3.length c)) :
    (Instr.loadAt 25 (.pointer (some ad))).run Tryd.prog W = .ok (xv x A c) W := by
  unfold xv
  go_simp
theorem cell_lt {W : World} {a : Addr} {v : Value} (h : W.cell? a = some v) : a.block < W.heap.size := World.block_lt_of_cell? W _ h
/-- A kid, loaded. -/
theorem kid {w : World} {A : Option Addr} {ks : List Ex} (hc : Kd.C kE w A ks.length ks) (j : Nat) (hj : j < ks.length) :
    ∃ ad B d, A = some ad ∧ Rd w B d ks[j] ∧ ∀ w', Below w.heap.size w w' → (Instr.loadAt 25 (.pointer (some (ad.add (j * 4))))).run Tryd.prog w' = .ok (xv ks[j] B d) w' := by
  obtain ⟨ad, B, d, hA, b1, b2, b3, b4, h5, h6⟩ := at_T25 hc (j : Int) (by omega) (by omega)
  rw [Int.toNat_natCast] at b1 b2 b3 b4
  have hx : rd_T25 ks (j : Int) = ks[j] := by
    unfold rd_T25
    rw [List.getD_eq_getElem?_getD, Int.toNat_natCast, List.getElem?_eq_getElem hj, Option.getD_some]
  rw [hx] at b1 b2 b3 b4 h5 h6
  refine ⟨ad, B, d, hA, ⟨h6, h5⟩, fun w' hb => ?_⟩
  have hl := cell_lt b1
  exact load_E ((hb.cell (p := ad.add (j * 4)) hl).trans b1) ((hb.cell (p := ⟨(ad.add (j * 4)).block, _, none⟩) hl).trans b2) ((hb.cell (p := ⟨(ad.add (j * 4)).block, _, none⟩) hl).trans b3) ((hb.cell (p := ⟨(ad.add (j * 4)).block, _, none⟩) hl).trans b4)
end Go.Proofs.YtohimcpfmkgefaaDoor.HExL
/- Parts: names, kids, sign. -/
namespace Go.Proofs.YtohimcpfmkgefaaDoor.HExA
open Go.RowKit Go.Proofs.YtohimcpfmkgefaaDoorW.PrintWords Go.Proofs.YtohimcpfmkgefaaDoor.HLib Go.Proofs.YtohimcpfmkgefaaDoor.HGr Go.Proofs.YtohimcpfmkgefaaDoor.HNameP Go.Proofs.YtohimcpfmkgefaaDoor.HName Go.Proofs.YtohimcpfmkgefaaDoor.HExP Go.Proofs.YtohimcpfmkgefaaDoor.HExR Go.Proofs.YtohimcpfmkgefaaDoor.HExQ Go.Proofs.YtohimcpfmkgefaaDoor.HExL
open Go.Proofs.YtohimcpfmkgefaaDoor.PSchemaAllows
set_option linter.unusedVariables false
set_option linter.unusedSimpArgs false

set_option maxRecDepth 20000 in
set_option maxHeartbeats 8000000 in
theorem kids_any (x : Ex) (A : Option Addr) (c : Nat) (w : World) (hl : x.f3.length ≤ 1000000) :
    Calls Tryd.prog 55 #[xv x A c] w fun e w' => e = .returned (.bool (kidsK x.f0 x.f3.length)) ∧ Below w.heap.size w w' := by
  obtain ⟨k, v, n, ks⟩ := x
  unfold xv
  dsimp only at hl ⊢
  obtain ⟨m, hm⟩ : ∃ m, m = ks.length := ⟨_, rfl⟩
  rw [← hm] at hl ⊢
  clear hm
  have HB := Aside0.mk (below_alloc (B0 w) (.cells #[.int .i64 k, .string v, .string n, .slice A m c] 88))
  have HL := Aside0.mk hl
  clear hl
  obtain ⟨b, hb⟩ : ∃ b, b = kidsK k m := ⟨_, rfl⟩
  rw [← hb]
  by_cases c1 : k = 1
  · subst c1
    by_cases c2 : m = 0
    · subst c2
      obtain rfl : b = true := hb
      go_enter Tryd.func55, Tryd.ntmps55
      go_wp2
      go_ret
      exact ⟨rfl, HB.out⟩
    · have f1 : ((m : Int) == 0) = false := by simp; omega
      have f2 : ¬ (m : Int) = 0 := by omega
      obtain rfl : b = false := by rw [hb]; simp [kidsK, c2]
      clear hb
      go_enter Tryd.func55, Tryd.ntmps55
      go_wp2
      go_ret
      exact ⟨rfl, HB.out⟩
  · have k1 : (k == 1) = false := by simpa using c1
    by_cases c3 : k = 2
    · subst c3
      by_cases c2 : m = 0
      · subst c2
        obtain rfl : b = true := hb
        go_enter Tryd.func55, Tryd.ntmps55
        go_wp2
        go_ret
        exact ⟨rfl, HB.out⟩
      · have f1 : ((m : Int) == 0) = false := by simp; omega
        have f2 : ¬ (m : Int) = 0 := by omega
        obtain rfl : b = false := by rw [hb]; simp [kidsK, c2]
        clear hb
        go_enter Tryd.func55, Tryd.ntmps55
        go_wp2
        go_ret
        exact ⟨rfl, HB.out⟩
    · have k2 : (k == 2) = false := by simpa using c3
      by_cases c4 : k = 3
      · subst c4
        by_cases c2 : 2 ≤ m
        · have f1 : (2 : Int) ≤ (m : Int) := by omega
          have f2 : decide ((2 : Int) ≤ (m : Int)) = true := decide_eq_true f1
          obtain rfl : b = true := by rw [hb]; simp [kidsK, c2]
          clear hb
          go_enter Tryd.func55, Tryd.ntmps55
          go_wp2
          go_ret
          exact ⟨rfl, HB.out⟩
        · have f1 : ¬ (2 : Int) ≤ (m : Int) := by omega
          have f2 : decide ((2 : Int) ≤ (m : Int)) = false := decide_eq_false f1
          obtain rfl : b = false := by rw [hb]; simp [kidsK]; omega
          clear hb
          go_enter Tryd.func55, Tryd.ntmps55
          go_wp2
          go_ret
          exact ⟨rfl, HB.out⟩
      · have k3 : (k == 3) = false := by simpa using c4
        by_cases c5 : k = 4
        · subst c5
          by_cases c2 : 2 ≤ m
          · have f1 : (2 : Int) ≤ (m : Int) := by omega
            have f2 : decide ((2 : Int) ≤ (m : Int)) = true := decide_eq_true f1
            obtain rfl : b = true := by rw [hb]; simp [kidsK, c2]
            clear hb
            go_enter Tryd.func55, Tryd.ntmps55
            go_wp2
            go_ret
            exact ⟨rfl, HB.out⟩
          · have f1 : ¬ (2 : Int) ≤ (m : Int) := by omega
            have f2 : decide ((2 : Int) ≤ (m : Int)) = false := decide_eq_false f1
            obtain rfl : b = false := by rw [hb]; simp [kidsK]; omega
            clear hb
            go_enter Tryd.func55, Tryd.ntmps55
            go_wp2
            go_ret
            exact ⟨rfl, HB.out⟩
        · have k4 : (k == 4) = false := by simpa using c5
          by_cases c6 : k = 5
          · subst c6
            by_cases c2 : m = 2
            · subst c2
              obtain rfl : b = true := hb
              go_enter Tryd.func55, Tryd.ntmps55
              go_wp2
              go_ret
              exact ⟨rfl, HB.out⟩
            · have f1 : ((m : Int) == 2) = false := by simp; omega
              have f2 : ¬ (m : Int) = 2 := by omega
              obtain rfl : b = false := by rw [hb]; simp [kidsK, c2]
              clear hb
              go_enter Tryd.func55, Tryd.ntmps55
              go_wp2
              go_ret
              exact ⟨rfl, HB.out⟩
          · have k5 : (k == 5) = false := by simpa using c6
            obtain rfl : b = false := by rw [hb]; simp [kidsK, c1, c3, c4, c5, c6]
            clear hb
            go_enter Tryd.func55, Tryd.ntmps55
            go_wp2
            go_ret
            exact ⟨rfl, HB.out⟩

theorem nil_b {s : ByteArray} (h : s.size = 0) : s.toList = [] := nil_of_size h
theorem isEmpty_b {s : ByteArray} (h : 1 ≤ s.size) : s.toList.isEmpty = false := by
  have := ne_of_size h
  cases e : s.toList with
  | nil => exact absurd e this
  | cons a b => rfl
theorem beq_b {s : ByteArray} (h : 1 ≤ s.size) : (s.toList == ([] : List UInt8)) = false := by
  rw [beq_eq_false_iff_ne]; exact ne_of_size h

set_option maxRecDepth 20000 in
set_option maxHeartbeats 8000000 in
theorem names_any (x : Ex) (A : Option Addr) (c : Nat) (w : World) (hG : ResG w) :
    Calls Tryd.prog 54 #[xv x A c] w fun e w' => e = .returned (.bool (namesK x.f0 x.f1 x.f2)) ∧ Below w.heap.size w w' := by
  obtain ⟨k, v, n, ks⟩ := x
  unfold xv
  dsimp only
  obtain ⟨m, hm⟩ : ∃ m, m = ks.length := ⟨_, rfl⟩
  rw [← hm]
  clear hm
  have HB := Aside0.mk (below_alloc (B0 w) (.cells #[.int .i64 k, .string v, .string n, .slice A m c] 88))
  have HG := Aside0.mk (hG.below HB.out hG.1)
  clear hG
  obtain ⟨b, hb⟩ : ∃ b, b = namesK k v n := ⟨_, rfl⟩
  rw [← hb]
  obtain ⟨bn, hbn⟩ : ∃ b, b = isP n := ⟨_, rfl⟩
  obtain ⟨bv, hbv⟩ : ∃ b, b = isP v := ⟨_, rfl⟩
  have HN := Aside0.mk (show ∀ W, ResG W → Calls Tryd.prog 17 #[.string n] W fun e w' => e = .returned (.bool bn) ∧ W = w' from fun W h => by rw [hbn]; exact is_any n W h)
  have HV := Aside0.mk (show ∀ W, ResG W → Calls Tryd.prog 17 #[.string v] W fun e w' => e = .returned (.bool bv) ∧ W = w' from fun W h => by rw [hbv]; exact is_any v W h)
  have HBB := Aside0.mk hb
  have HBN := Aside0.mk hbn
  have HBV := Aside0.mk hbv
  clear hb hbn hbv
  by_cases c1 : k = 1
  · subst c1
    by_cases c2 : v.size = 0
    · have l1 : v.toList = [] := nil_b c2
      have l2 : v.toList.isEmpty = true := by rw [l1]; rfl
      have l3 : (v.toList == ([] : List UInt8)) = true := by rw [l1]; rfl
      obtain rfl : b = bn := by rw [HBB.out, HBN.out]; simp [namesK, c2]
      clear c2
      go_enter Tryd.func54, Tryd.ntmps54
      go_wp2_with (refine (HN.out _ HG.out).mono ?_; rintro e w1 ⟨rfl, hw⟩; subst hw)
      go_ret
      exact ⟨rfl, HB.out⟩
    · have l0 : 1 ≤ v.size := by omega
      have l1 : ¬ v.toList = [] := ne_of_size l0
      have l2 : v.toList.isEmpty = false := isEmpty_b l0
      have l3 : (v.toList == ([] : List UInt8)) = false := beq_b l0
      obtain rfl : b = false := by rw [HBB.out]; simp [namesK, c2]
      clear c2 l0
      go_enter Tryd.func54, Tryd.ntmps54
      go_wp2
      go_ret
      exact ⟨rfl, HB.out⟩
  · have k1 : (k == 1) = false := by simpa using c1
    by_cases c3 : k = 2
    · subst c3
      cases bv with
      | true =>
        obtain rfl : b = bn := by rw [HBB.out, HBN.out]; simp [namesK, ← HBV.out]
        go_enter Tryd.func54, Tryd.ntmps54
        go_wp2_with (first | (refine (HV.out _ HG.out).mono ?_; rintro e w1 ⟨rfl, hw⟩; subst hw; clear HV) | (refine (HN.out _ HG.out).mono ?_; rintro e w1 ⟨rfl, hw⟩; subst hw))
        go_ret
        exact ⟨rfl, HB.out⟩
      | false =>
        obtain rfl : b = false := by rw [HBB.out]; simp [namesK, ← HBV.out]
        go_enter Tryd.func54, Tryd.ntmps54
        go_wp2_with (refine (HV.out _ HG.out).mono ?_; rintro e w1 ⟨rfl, hw⟩; subst hw; clear HV)
        go_ret
        exact ⟨rfl, HB.out⟩
    · have k2 : (k == 2) = false := by simpa using c3
      by_cases c2 : v.size = 0
      · have l1 : v.toList = [] := nil_b c2
        have l2 : v.toList.isEmpty = true := by rw [l1]; rfl
        have l3 : (v.toList == ([] : List UInt8)) = true := by rw [l1]; rfl
        by_cases c4 : n.size = 0
        · have m1 : n.toList = [] := nil_b c4
          have m2 : n.toList.isEmpty = true := by rw [m1]; rfl
          have m3 : (n.toList == ([] : List UInt8)) = true := by rw [m1]; rfl
          obtain rfl : b = true := by rw [HBB.out]; simp [namesK, c1, c3, c2, c4]
          clear c2 c4
          go_enter Tryd.func54, Tryd.ntmps54
          go_wp2
          go_ret
          exact ⟨rfl, HB.out⟩
        · have m0 : 1 ≤ n.size := by omega
          have m1 : ¬ n.toList = [] := ne_of_size m0
          have m2 : n.toList.isEmpty = false := isEmpty_b m0
          have m3 : (n.toList == ([] : List UInt8)) = false := beq_b m0
          obtain rfl : b = false := by rw [HBB.out]; simp [namesK, c1, c3, c2, c4]
          clear c2 c4 m0
          go_enter Tryd.func54, Tryd.ntmps54
          go_wp2
          go_ret
          exact ⟨rfl, HB.out⟩
      · have l0 : 1 ≤ v.size := by omega
        have l1 : ¬ v.toList = [] := ne_of_size l0
        have l2 : v.toList.isEmpty = false := isEmpty_b l0
        have l3 : (v.toList == ([] : List UInt8)) = false := beq_b l0
        obtain rfl : b = false := by rw [HBB.out]; simp [namesK, c1, c3, c2]
        clear c2 l0
        go_enter Tryd.func54, Tryd.ntmps54
        go_wp2
        go_ret
        exact ⟨rfl, HB.out⟩

theorem str_index {P : Program} {t e : TypeId} {n : Nat} (ht : P.underlying t = some (.array n e)) (he : P.underlying e = some .string) (hz : (P.info? e).map (·.size) = some 1) (cs : List Value) (i : Int) (s : ByteArray) (h0 : 0 ≤ i) (hi : i < n) (hc : cs[i.toNat]? = some (.string s)) (w : World) :
    (Instr.index t (.agg cs.toArray) (.int .i64 i)).run P w = .ok (.string s) w := by
  have hc2 : (0 ≤ i ∧ i < (n : Int)) := ⟨h0, hi⟩
  cases hq : P.info? e with
  | none => simp [hq] at hz
  | some inf =>
    have hs : inf.size = 1 := by simpa [hq] using hz
    have hsz : (Go.sizeOf e).run P w = .ok 1 w := by simp [Go.sizeOf, typeInfo, hq, hs]
    simp [Instr.index, asIntOf, run_underlying ht, hc2, hsz, part, isAgg, run_underlying he, Result.andThen, hc]
theorem info_str : (Tryd.prog.info? 9).map (·.size) = some 1 := by kernel_rfl

end Go.Proofs.YtohimcpfmkgefaaDoor.HExA
/- The form of expressions: slices.IndexFunc, form. -/
namespace Go.Proofs.YtohimcpfmkgefaaDoor.HExF
open Go.RowKit Go.Proofs.YtohimcpfmkgefaaDoorW.PrintWords Go.Proofs.YtohimcpfmkgefaaDoor.HLib Go.Proofs.YtohimcpfmkgefaaDoor.HGr Go.Proofs.YtohimcpfmkgefaaDoor.HNameP Go.Proofs.YtohimcpfmkgefaaDoor.HName Go.Proofs.YtohimcpfmkgefaaDoor.HExP Go.Proofs.YtohimcpfmkgefaaDoor.HExR Go.Proofs.YtohimcpfmkgefaaDoor.HExQ Go.Proofs.YtohimcpfmkgefaaDoor.HExL Go.Proofs.YtohimcpfmkgefaaDoor.HExA
open Go.Proofs.YtohimcpfmkgefaaDoor.PSchemaAllows
set_option linter.unusedVariables false
set_option linter.unusedSimpArgs false
/-- The cells of a kid. -/
theorem kid_cells {w : World} {A : Option Addr} {ks : List Ex} (hc : Kd.C kE w A ks.length ks) (j : Nat) (hj : j < ks.length) :
    ∃ ad B d, A = some ad ∧ Rd w B d ks[j] ∧ ∀ w', Below w.heap.size w w' → w'.cell? (ad.add (j * 4)) = some (.int .i64 ks[j].f0) ∧ w'.cell? ⟨(ad.add (j * 4)).block, (ad.add (j * 4)).off + 1, none⟩ = some (.string ks[j].f1) ∧ w'.cell? ⟨(ad.add (j * 4)).block, (ad.add (j * 4)).off + 2, none⟩ = some (.string ks[j].f2) ∧ w'.cell? ⟨(ad.add (j * 4)).block, (ad.add (j * 4)).off + 3, none⟩ = some (.slice B ks[j].f3.length d) := by
  obtain ⟨ad, B, d, hA, b1, b2, b3, b4, h5, h6⟩ := at_T25 hc (j : Int) (by omega) (by omega)
  rw [Int.toNat_natCast] at b1 b2 b3 b4
  have hx : rd_T25 ks (j : Int) = ks[j] := by
    unfold rd_T25
    rw [List.getD_eq_getElem?_getD, Int.toNat_natCast, List.getElem?_eq_getElem hj, Option.getD_some]
  rw [hx] at b1 b2 b3 b4 h5 h6
  refine ⟨ad, B, d, hA, ⟨h6, h5⟩, fun w' hb => ?_⟩
  have hl := cell_lt b1
  exact ⟨(hb.cell (p := ad.add (j * 4)) hl).trans b1, (hb.cell (p := ⟨(ad.add (j * 4)).block, _, none⟩) hl).trans b2, (hb.cell (p := ⟨(ad.add (j * 4)).block, _, none⟩) hl).trans b3, (hb.cell (p := ⟨(ad.add (j * 4)).block, _, none⟩) hl).trans b4⟩
/-- What a predicate handed to IndexFunc answers. -/
def PredE (g : Nat) (lb : Array Value) (pb : Ex → Bool) (ks : List Ex) (w : World) : Prop :=
  ∀ x ∈ ks, ∀ (B : Option Addr) (d : Nat) (W : World), Below w.heap.size w W → Rd W B d x → Calls Tryd.prog g (#[.agg #[.int .i64 x.f0, .string x.f1, .string x.f2, .slice B x.f3.length d]] ++ lb) W fun e w' => e = .returned (.bool (pb x)) ∧ Below W.heap.size W w'
set_option maxRecDepth 20000 in
set_option maxHeartbeats 8000000 in
theorem indexfunc_any (g : Nat) (lb : Array Value) (eg : ∀ args w, (callFunc g args).run Tryd.prog w = .ok (.enter g args) w) (pb : Ex → Bool) (ks : List Ex) (A : Option Addr) (c : Nat) (w : World) (hl : ks.length ≤ 1000000) (hC : Kd.C kE w A ks.length ks) (hp : PredE g lb pb ks w) :
    Calls Tryd.prog 62 #[.slice A ks.length c, .func (.func g) #[] lb] w fun e w' => ∃ r : Int, e = .returned (.int .i64 r) ∧ decide (0 ≤ r) = ks.any pb ∧ Below w.heap.size w w' := by
  have HC := Aside0.mk hC
  have HP := Aside0.mk hp
  have HL := Aside0.mk hl
  obtain ⟨n, hn⟩ : ∃ n, n = ks.length := ⟨_, rfl⟩
  have HN := Aside0.mk hn
  rw [← hn]
  clear hC hp hl hn
  go_enter Tryd.func62, Tryd.ntmps62
  go_wp2
  go_loopg [5, 8] n (fun gg _ s8 wr => ∃ kk : Nat, s8 = .int .i64 kk ∧ Aside0 (gg + kk = n) ∧ Aside0 (Below w.heap.size w wr) ∧ Aside0 ((ks.take kk).any pb = false))
  case atStart => exact ⟨0, rfl, ⟨by omega⟩, ⟨B0 w⟩, ⟨by simp⟩⟩
  case round =>
    obtain ⟨kk, rfl, HG, BW, HA⟩ := hrel
    by_cases hlt : kk < n
    · have f3 : (kk : Int) < (n : Int) := by omega
      have f1 : decide ((kk : Int) < (n : Int)) = true := decide_eq_true f3
      have f5 : (0 : Int) ≤ (kk : Int) := by omega
      have f4 : IntKind.i64.wrap ((kk : Int) + 1) = (kk : Int) + 1 := by rw [IntKind.wrap_i64]; have := HL.out; have := HN.out; omega
      have hj : kk < ks.length := by have := HN.out; omega
      obtain ⟨ad, B, d, hA, hR, hcs⟩ := kid_cells HC.out kk hj
      have hcall := HP.out ks[kk] (List.getElem_mem hj) B d wr BW.out (hR.below BW.out)
      obtain ⟨a1, a2, a3, a4⟩ := hcs wr BW.out
      obtain ⟨x, hx⟩ : ∃ x, x = ks[kk] := ⟨_, rfl⟩
      rw [← hx] at a1 a2 a3 a4 hcall
      have HX := Aside0.mk (show ∀ h : kk < ks.length, x = ks[kk] from fun _ => hx)
      subst hA
      clear hx hR hcs hj
      have HCALL := Aside0.mk hcall
      clear hcall
      cases hq : pb x with
      | true =>
        have HQ := Aside0.mk hq
        rw [hq] at HCALL
        clear hq
        go_wp2_with (go_at_fn g; refine (HCALL.out).mono ?_; rintro e w' ⟨rfl, hb'⟩)
        have HB2 := Aside0.mk (below_then BW.out BW.out.size hb')
        go_ret
        refine ⟨_, rfl, ?_, HB2.out⟩
        have hj : kk < ks.length := by have := HN.out; omega
        rw [decide_eq_true (by omega)]
        symm
        rw [List.any_eq_true]
        exact ⟨ks[kk], List.getElem_mem hj, by rw [← HX.out hj]; exact HQ.out⟩
      | false =>
        have HQ := Aside0.mk hq
        rw [hq] at HCALL
        clear hq
        go_wp2_with (go_at_fn g; refine (HCALL.out).mono ?_; rintro e w' ⟨rfl, hb'⟩)
        have HB2 := Aside0.mk (below_then BW.out BW.out.size hb')
        go_roundg (n - (kk + 1))
        case measure => have := HG.out; omega
        case rel =>
          refine ⟨kk + 1, by first | rfl | go_num, ⟨by have := HG.out; omega⟩, HB2, ⟨?_⟩⟩
          have hj : kk < ks.length := by have := HN.out; omega
          rw [List.take_succ_eq_append_getElem hj, List.any_append, HA.out, List.any_cons, List.any_nil, ← HX.out hj, HQ.out]
          rfl
    · obtain rfl : kk = n := by have := HG.out; omega
      have f3 : ¬ (kk : Int) < (kk : Int) := by omega
      have HE := Aside0.mk (show ks.any pb = false from by have h := HA.out; rw [HN.out, List.take_length] at h; exact h)
      go_wp2
      go_ret
      exact ⟨_, rfl, by rw [HE.out]; rfl, BW.out⟩
set_option maxRecDepth 20000 in
set_option maxHeartbeats 8000000 in
theorem containsfunc_any (g : Nat) (lb : Array Value) (eg : ∀ args w, (callFunc g args).run Tryd.prog w = .ok (.enter g args) w) (pb : Ex → Bool) (ks : List Ex) (A : Option Addr) (c : Nat) (w : World) (hl : ks.length ≤ 1000000) (hC : Kd.C kE w A ks.length ks) (hp : PredE g lb pb ks w) :
    Calls Tryd.prog 56 #[.slice A ks.length c, .func (.func g) #[] lb] w fun e w' => e = .returned (.bool (ks.any pb)) ∧ Below w.heap.size w w' := by
  have HI := Aside0.mk (indexfunc_any g lb eg pb ks A c w hl hC hp)
  obtain ⟨n, hn⟩ : ∃ n, n = ks.length := ⟨_, rfl⟩
  rw [← hn] at HI ⊢
  clear hC hp hl hn
  obtain ⟨b, hb⟩ : ∃ b, b = ks.any pb := ⟨_, rfl⟩
  rw [← hb] at HI ⊢
  clear hb
  go_enter Tryd.func56, Tryd.ntmps56
  go_wp2_with (refine (HI.out).mono ?_; rintro e w' ⟨r, rfl, hr, hB⟩)
  go_ret
  exact ⟨rfl, hB⟩
theorem func_index {P : Program} {t e : TypeId} {n : Nat} {ps rs : Array TypeId} {vr : Bool} (ht : P.underlying t = some (.array n e)) (he : P.underlying e = some (.func ps rs vr)) (hz : (P.info? e).map (·.size) = some 1) (cs : List Value) (i : Int) (u : Value) (h0 : 0 ≤ i) (hi : i < n) (hc : cs[i.toNat]? = some u) (w : World) :
    (Instr.index t (.agg cs.toArray) (.int .i64 i)).run P w = .ok u w := by
  have hc2 : (0 ≤ i ∧ i < (n : Int)) := ⟨h0, hi⟩
  cases hq : P.info? e with
  | none => simp [hq] at hz
  | some inf =>
    have hs : inf.size = 1 := by simpa [hq] using hz
    have hsz : (Go.sizeOf e).run P w = .ok 1 w := by simp [Go.sizeOf, typeInfo, hq, hs]
    simp [Instr.index, asIntOf, run_underlying ht, hc2, hsz, part, isAgg, run_underlying he, Result.andThen, hc]
theorem info_chk : (Tryd.prog.info? 87).map (·.size) = some 1 := by kernel_rfl
theorem cells4 {W : World} {g : Nat} {a b c d : Value} {t : TypeId} (h : W.heap[g]? = some (.cells #[a, b, c, d] t (0, 0))) : W.cell? ⟨g, 0, none⟩ = some a ∧ W.cell? ⟨g, 1, none⟩ = some b ∧ W.cell? ⟨g, 2, none⟩ = some c ∧ W.cell? ⟨g, 3, none⟩ = some d :=
  ⟨(blk_cell h 0).trans rfl, (blk_cell h 1).trans rfl, (blk_cell h 2).trans rfl, (blk_cell h 3).trans rfl⟩

def notForm (x : Ex) : Bool := !frmE x
theorem any_form : ∀ ks : List Ex, ks.any notForm = !frmL ks
  | [] => rfl
  | x :: xs => by rw [List.any_cons, any_form xs, frmL, notForm, Bool.not_and]
set_option maxRecDepth 20000 in
set_option maxHeartbeats 8000000 in
theorem form_any : ∀ (m : Nat) (x : Ex), nodE x ≤ m → m ≤ 1000000 → ∀ (A : Option Addr) (c : Nat) (w : World), ResG w → Rd w A c x →
    Calls Tryd.prog 46 #[.agg #[.int .i64 x.f0, .string x.f1, .string x.f2, .slice A x.f3.length c]] w fun e w' => e = .returned (.bool (frmE x)) ∧ Below w.heap.size w w' := by
  intro m
  induction m with
  | zero => intro x h; rw [nod_eq] at h; omega
  | succ m ih =>
    intro x hm hm2 A c w hG hR
    have hlen : x.f3.length ≤ 1000000 := by have := len_nod x.f3; rw [nod_eq] at hm; omega
    -- the closure that asks for a kid's form
    have HP := Aside0.mk (show ∀ W, Below w.heap.size w W → PredE 57 #[] notForm x.f3 W from fun W hbW y hy B d W2 hb2 hR2 => by
      have hny : nodE y ≤ m := by have := nod_mem hy; rw [nod_eq] at hm; omega
      have hb3 : Below w.heap.size w W2 := below_then hbW hbW.size hb2
      have HG2 := Aside0.mk (hG.below hb3 hG.1)
      have HBA := Aside0.mk (below_alloc (B0 W2) (.cells #[.int .i64 y.f0, .string y.f1, .string y.f2, .slice B y.f3.length d] 25))
      have HC := Aside0.mk (ih y hny (by omega) B d (W2.alloc (.cells #[.int .i64 y.f0, .string y.f1, .string y.f2, .slice B y.f3.length d] 25)) (HG2.out.below HBA.out HG2.out.1) (hR2.below HBA.out))
      obtain ⟨b, hb⟩ : ∃ b, b = frmE y := ⟨_, rfl⟩
      rw [← hb] at HC
      rw [show notForm y = !b from by rw [notForm, hb]]
      clear hb hR2 hb2 hb3 hbW hR hG ih
      simp only [Array.append_empty]
      go_enter Tryd.func57, Tryd.ntmps57
      go_wp2_with (refine (HC.out).mono ?_; rintro e w' ⟨rfl, hB⟩)
      go_ret
      exact ⟨rfl, below_then HBA.out HBA.out.size hB⟩)
    have HG := Aside0.mk hG
    have HR := Aside0.mk hR
    have HL := Aside0.mk hlen
    rw [frm_eq]
    have eg := enters_of Tryd.func57 (by kernel_rfl) rfl
    clear ih hG hR hm hlen
    obtain ⟨k, v, n, ks⟩ := x
    dsimp only at *
    obtain ⟨W, hW⟩ : ∃ W, W = w.alloc (.cells #[.int .i64 k, .string v, .string n, .slice A ks.length c] 25) := ⟨_, rfl⟩
    have HBW := Aside0.mk (show Below w.heap.size w W from by rw [hW]; exact below_alloc (B0 w) _)
    have HK := Aside0.mk (show W.heap[w.heap.size]? = some (.cells #[.int .i64 k, .string v, .string n, .slice A ks.length c] 25 (0, 0)) from by rw [hW]; exact blk_new w _)
    obtain ⟨gb, hgb⟩ : ∃ g, g = w.heap.size := ⟨_, rfl⟩
    rw [← hgb] at HK
    have HN := Aside0.mk (show ∀ W', Below W.heap.size W W' → Calls Tryd.prog 54 #[.agg #[.int .i64 k, .string v, .string n, .slice A ks.length c]] W' fun e w' => e = .returned (.bool (namesK k v n)) ∧ Below W'.heap.size W' w' from fun W' hb =>
      names_any ⟨k, v, n, ks⟩ A c W' (HG.out.below (below_then HBW.out HBW.out.size hb) HG.out.1))
    have HKD := Aside0.mk (show ∀ W', Calls Tryd.prog 55 #[.agg #[.int .i64 k, .string v, .string n, .slice A ks.length c]] W' fun e w' => e = .returned (.bool (kidsK k ks.length)) ∧ Below W'.heap.size W' w' from fun W' =>
      kids_any ⟨k, v, n, ks⟩ A c W' HL.out)
    have HCF := Aside0.mk (show ∀ W', Below W.heap.size W W' → Calls Tryd.prog 56 #[.slice A ks.length c, .func (.func 57) #[] #[]] W' fun e w' => e = .returned (.bool (!frmL ks)) ∧ Below W'.heap.size W' w' from fun W' hb => by
      have hb2 := below_then HBW.out HBW.out.size hb
      have := containsfunc_any 57 #[] eg notForm ks A c W' HL.out (HR.out.below hb2).1 (HP.out W' hb2)
      rw [any_form] at this
      exact this)
    obtain ⟨b1, hb1⟩ : ∃ b, b = namesK k v n := ⟨_, rfl⟩
    obtain ⟨b2, hb2⟩ : ∃ b, b = kidsK k ks.length := ⟨_, rfl⟩
    obtain ⟨b3, hb3⟩ : ∃ b, b = frmL ks := ⟨_, rfl⟩
    rw [← hb1] at HN ⊢
    rw [← hb2] at HKD ⊢
    rw [← hb3] at HCF ⊢
    obtain ⟨nk, hnk⟩ : ∃ n, n = ks.length := ⟨_, rfl⟩
    rw [← hnk] at HN HKD HCF HK hW ⊢
    clear hb1 hb2 hb3 hnk HP HR HL eg
    go_enter Tryd.func46, Tryd.ntmps46
    go_upto_region 1 with fail
    rw [← hW, ← hgb]
    clear hW hgb
    have hi0 : ∀ W : World, (Instr.index 89 (Value.agg #[.func (.func 54) #[] #[], .func (.func 55) #[] #[]]) (.int .i64 0)).run Tryd.prog W = .ok (.func (.func 54) #[] #[]) W := fun W => func_index Tryd.underlying89 Tryd.underlying87 info_chk _ _ _ (by decide) (by decide) rfl W
    have hi1 : ∀ W : World, (Instr.index 89 (Value.agg #[.func (.func 54) #[] #[], .func (.func 55) #[] #[]]) (.int .i64 1)).run Tryd.prog W = .ok (.func (.func 55) #[] #[]) W := fun W => func_index Tryd.underlying89 Tryd.underlying87 info_chk _ _ _ (by decide) (by decide) rfl W
    go_wp2
    go_loopg [4, 6] 2 (fun kq _ v6 w' => ∃ (j : Nat), v6 = .int .i64 j ∧ Aside0 (kq + j = 2) ∧ Aside0 (Below W.heap.size W w') ∧ Aside0 (j = 0 ∨ (j = 1 ∧ b1 = true) ∨ (j = 2 ∧ b1 = true ∧ b2 = true)))
    case atStart => exact ⟨0, rfl, ⟨rfl⟩, ⟨B0 W⟩, ⟨.inl rfl⟩⟩
    case round =>
      obtain ⟨j, rfl, HJ, HX, HD⟩ := hrel
      obtain ⟨c0, c1, c2, c3⟩ := cells4 (blk_below HK.out HX.out)
      rcases HD.out with rfl | ⟨rfl, rfl⟩ | ⟨rfl, rfl, rfl⟩
      · cases b1 with
        | true =>
          go_wp2_with (refine (HN.out _ HX.out).mono ?_; rintro e w' ⟨rfl, hB⟩)
          have HX2 := Aside0.mk (below_then HX.out HX.out.size hB)
          go_roundg 1
          case measure => have := HJ.out; omega
          case rel => exact ⟨1, rfl, ⟨rfl⟩, HX2, ⟨by simp⟩⟩
        | false =>
          go_wp2_with (refine (HN.out _ HX.out).mono ?_; rintro e w' ⟨rfl, hB⟩)
          have HX2 := Aside0.mk (below_then HX.out HX.out.size hB)
          go_ret
          exact ⟨rfl, below_then HBW.out HBW.out.size HX2.out⟩
      · cases b2 with
        | true =>
          go_wp2_with (refine (HKD.out _).mono ?_; rintro e w' ⟨rfl, hB⟩)
          have HX2 := Aside0.mk (below_then HX.out HX.out.size hB)
          go_roundg 0
          case measure => have := HJ.out; omega
          case rel => exact ⟨2, rfl, ⟨rfl⟩, HX2, ⟨by simp⟩⟩
        | false =>
          go_wp2_with (refine (HKD.out _).mono ?_; rintro e w' ⟨rfl, hB⟩)
          have HX2 := Aside0.mk (below_then HX.out HX.out.size hB)
          go_ret
          exact ⟨rfl, below_then HBW.out HBW.out.size HX2.out⟩
      · go_wp2_with (refine (HCF.out _ HX.out).mono ?_; rintro e w' ⟨rfl, hB⟩)
        have HX2 := Aside0.mk (below_then HX.out HX.out.size hB)
        go_ret
        exact ⟨by simp, below_then HBW.out HBW.out.size HX2.out⟩
end Go.Proofs.YtohimcpfmkgefaaDoor.HExF
