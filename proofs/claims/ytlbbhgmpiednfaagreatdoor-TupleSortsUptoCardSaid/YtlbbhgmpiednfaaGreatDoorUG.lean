/- Worlds that have but grown and drawn. -/
import Derived.Test.YtlbbhgmpiednfaaGreatDoorUT
import Derived.Sort.Grow
import Derived.Shelf.SlSortCmp.QuietGrown
import Derived.Test.YtlbbhgmpiednfaaGreatDoorUI
import Derived.Test.YtlbbhgmpiednfaaGreatDoorUV
import Derived.Shelf.SlSortCmp.NoneTotal
import Derived.Test.YtlbbhgmpiednfaaGreatDoorUN
namespace Go.Proofs.YtlbbhgmpiednfaaGreatDoor.HGr
open Go.RowKit Go.Sort Go.Proofs.YtlbbhgmpiednfaaGreatDoorW.PrintWords Go.Proofs.YtlbbhgmpiednfaaGreatDoor.HLib
set_option linter.unusedVariables false
set_option linter.unusedSimpArgs false
/-- w' is w, orders having been drawn and blocks laid behind. -/
def Gr (w w' : World) : Prop := ∃ q os, w' = grow (w.drewN q) os
theorem Gr.refl (w : World) : Gr w w := ⟨0, #[], by rw [grow_empty]; rfl⟩
theorem Gr.alloc {w w' : World} (h : Gr w w') (o : Obj) : Gr w (w'.alloc o) := by
  obtain ⟨q, os, rfl⟩ := h
  exact ⟨q, os ++ #[o], by rw [alloc_eq_grow, grow_grow]⟩
theorem Gr.drewN {w w' : World} (h : Gr w w') (n : Nat) : Gr w (w'.drewN n) := by
  obtain ⟨q, os, rfl⟩ := h
  refine ⟨q + n, os, ?_⟩
  rw [← World.drewN_drewN]
  rfl
theorem Gr.drew {w w' : World} (h : Gr w w') : Gr w w'.drew := h.drewN 1
theorem Gr.trans {w w1 w2 : World} (h : Gr w w1) (k : Gr w1 w2) : Gr w w2 := by
  obtain ⟨q, os, rfl⟩ := h
  obtain ⟨q2, os2, rfl⟩ := k
  refine ⟨q + q2, os ++ os2, ?_⟩
  rw [← grow_grow, ← World.drewN_drewN]
  rfl
theorem Gr.cell {w w' : World} (h : Gr w w') {a : Addr} {v : Value} (hb : a.block < w.heap.size) (hc : w.cell? a = some v) : w'.cell? a = some v := by
  obtain ⟨q, os, rfl⟩ := h
  exact cell_grown hb hc q os
theorem Gr.size {w w' : World} (h : Gr w w') : w.heap.size ≤ w'.heap.size := by
  obtain ⟨q, os, rfl⟩ := h
  rw [size_grow]
  exact Nat.le_add_right _ _
theorem Gr.below {w w' : World} (h : Gr w w') : Below w.heap.size w w' := by
  obtain ⟨q, os, rfl⟩ := h
  refine ⟨rfl, rfl, rfl, ?_, fun k hk => ?_⟩
  · rw [size_grow]; exact Nat.le_add_right _ _
  · exact heap_grow_old (w.drewN q) os hk
theorem Gr.drawn0 {w w' : World} (h : Drawn0 w w') : Gr w w' := by
  obtain ⟨n, rfl⟩ := h
  exact (Gr.refl w).drewN n
theorem load_str {P : Program} {W : World} {a : Addr} {x : ByteArray} {ty : TypeId} (hu : P.underlying ty = some .string) (h : W.cell? a = some (.string x)) :
    (Instr.loadAt ty (.pointer (some a))).run P W = .ok (.string x) W := by
  simp [Instr.loadAt, Instr.sureAddr, loadVar, isAgg, run_underlying hu, Result.andThen, run_load, h]
theorem yieldsIf_load {P : Program} {ops : Array Oper} {S : World → Prop} {op : Oper} {a : Act} (hw : Region.wanted op (yielded ops a.tmps) = true) (ty : TypeId) (x : Operand) (ho : op.op = .load ty x) (v : Value)
    (h : ∀ w, S w → (Instr.loadAt ty (a.eval x)).run P w = .ok v w) : YieldsIf P ops S op v a :=
  .inl ⟨hw, fun w hS => by simp [execOp, ho, h w hS, Result.andThen]⟩
end Go.Proofs.YtlbbhgmpiednfaaGreatDoor.HGr
/- Tuples in plain words. -/
namespace Go.Proofs.YtlbbhgmpiednfaaGreatDoor.HTupP
open Go.RowKit Go.Proofs.YtlbbhgmpiednfaaGreatDoorW.PrintWords Go.Proofs.YtlbbhgmpiednfaaGreatDoor.HLib Go.Proofs.YtlbbhgmpiednfaaGreatDoor.HNameP Go.Proofs.YtlbbhgmpiednfaaGreatDoor.HPut
set_option linter.unusedVariables false

/-- A tuple: the object's type and identifier, the relation, the subject's type and identifier, the userset. -/
structure Tp where
  a : ByteArray
  b : ByteArray
  c : ByteArray
  d : ByteArray
  e : ByteArray
  f : ByteArray
def Tp.nil : Tp := ⟨⟨#[]⟩, ⟨#[]⟩, ⟨#[]⟩, ⟨#[]⟩, ⟨#[]⟩, ⟨#[]⟩⟩
def optP (s : ByteArray) : Bool := decide (s.size = 0) || isP s
def rightP (t : Tp) : Bool := isP t.a && (idP t.b && (isP t.c && (isP t.d && (idP t.e && optP t.f))))
def frontP (t : Tp) : ByteArray := t.a ++ ⟨#[58]⟩ ++ t.b ++ ⟨#[35]⟩ ++ t.c ++ ⟨#[64]⟩ ++ (t.d ++ ⟨#[58]⟩ ++ t.e)
def textP (t : Tp) : ByteArray := if t.f.size = 0 then frontP t else frontP t ++ (⟨#[35]⟩ ++ t.f)
def putP (t : Tp) : List Int := encText t.a ++ encText t.b ++ encText t.c ++ encText t.d ++ encText t.e ++ encText t.f
def parseT (s : ByteArray) : Tp × Option (Int × Int) :=
  let x := cutP s 64
  let y := cutP x.1 35
  let z := cutP x.2.1 35
  if x.2.2 = false ∨ y.2.2 = false then (Tp.nil, some (6, s.size))
  else match (parseO y.1).2.2 with
  | some e => (Tp.nil, some e)
  | none =>
    if isP y.2.1 = false then (Tp.nil, some (5, y.1.size + 1))
    else match (parseO z.1).2.2 with
    | some e => (Tp.nil, some (e.1, e.2 + (x.1.size + 1)))
    | none =>
      if z.2.2 = true ∧ isP z.2.1 = false then (Tp.nil, some (5, x.1.size + 1 + z.1.size + 1))
      else (⟨(parseO y.1).1, (parseO y.1).2.1, y.2.1, (parseO z.1).1, (parseO z.1).2.1, z.2.1⟩, none)
end Go.Proofs.YtlbbhgmpiednfaaGreatDoor.HTupP
/- tuple.Compare. -/
namespace Go.Proofs.YtlbbhgmpiednfaaGreatDoor.HTupC
open Go.RowKit Go.Proofs.YtlbbhgmpiednfaaGreatDoorW.PrintWords Go.Proofs.YtlbbhgmpiednfaaGreatDoor.HLib Go.Proofs.YtlbbhgmpiednfaaGreatDoor.HGr Go.Proofs.YtlbbhgmpiednfaaGreatDoor.HPr
set_option linter.unusedVariables false
set_option linter.unusedSimpArgs false

/-- The first that is not zero. -/
def orL : List Int → Int
  | [] => 0
  | x :: l => if x = 0 then orL l else x
theorem or_l0 (l : List Int) (hl : l.length ≤ 1000) : ∀ (d j k : Nat), l.length - j = d → d < k → j ≤ l.length → cmp_Or_int.l0 k 0 l (l.length : Int) j = some (orL (l.drop j)) := by
  intro d
  induction d with
  | zero =>
    intro j k hd hk hj
    obtain ⟨k, rfl⟩ : ∃ k', k = k' + 1 := ⟨k - 1, by omega⟩
    rw [cmp_Or_int.l0, if_neg (by omega), List.drop_of_length_le (by omega)]
    rfl
  | succ d ih =>
    intro j k hd hk hj
    obtain ⟨k, rfl⟩ : ∃ k', k = k' + 1 := ⟨k - 1, by omega⟩
    have hjl : j < l.length := by omega
    have hr : rd l (j : Int) = l[j] := by simp [rd, hjl]
    have hw : wrap64 ((j : Int) + 1) = ((j + 1 : Nat) : Int) := by rw [IntWalk.wrap64_in _ (by omega)]; omega
    rw [cmp_Or_int.l0, if_pos (by omega), if_pos (by omega), if_pos (by omega), hr, hw, List.drop_eq_getElem_cons hjl, orL, ih (j + 1) k (by omega) (by omega) (by omega)]
    split <;> rfl
theorem or_eq (l : List Int) (hl : l.length ≤ 1000) : cmp_Or_int.f 1001 l = some (orL l) := or_l0 l hl _ 0 1001 rfl (by omega) (by omega)
theorem or_any (A : Option Addr) (c : Nat) (l : List Int) (w : World) (h : Kd.C (Kd.int .i64) w A l.length l) (hc : l.length ≤ c) (hl : l.length ≤ 1000) : Calls Tryz.prog 36 #[.slice A l.length c] w fun e w' => e = .returned (.int .i64 (orL l)) ∧ Gr w w' :=
  (cmp_Or_int.calls 1001 A c l _ w h hc (or_eq l hl)).mono fun e w' ⟨he, hw⟩ => ⟨he, Gr.drawn0 hw⟩
theorem lit_C (w : World) (xs : List Int) (hl : xs.length ≤ 1000) : Kd.C (Kd.int .i64) (w.alloc (.cells (nums .i64 xs).toArray 3)) (some ⟨w.heap.size, 0, none⟩) xs.length xs :=
  (Kd.R_reads' (Kd.R_of_own (h1 := fun _ => rfl) (ok := fun _ => True) (own_lit w 0 3 .i64 xs (Nat.zero_le _) (by omega)) (fun _ _ => trivial))).2.2
set_option maxRecDepth 20000 in
set_option maxHeartbeats 4000000 in
theorem compare_gr (a b c d e f a' b' c' d' e' f' : ByteArray) (w : World) : Calls Tryz.prog 13 #[.agg #[.string a, .string b, .string c, .string d, .string e, .string f], .agg #[.string a', .string b', .string c', .string d', .string e', .string f']] w fun e_ w' =>
    e_ = .returned (.int .i64 (orL [HCmp.cmpS a a', HCmp.cmpS b b', HCmp.cmpS c c', HCmp.cmpS d d', HCmp.cmpS e e', HCmp.cmpS f f'])) ∧ Gr w w' := by
  obtain ⟨W, hW⟩ : ∃ W, W = (w.alloc (.cells #[.string a, .string b, .string c, .string d, .string e, .string f] 32)).alloc (.cells #[.string a', .string b', .string c', .string d', .string e', .string f'] 32) := ⟨_, rfl⟩
  have HGW := Aside0.mk (show Gr w W from by rw [hW]; exact ((Gr.refl w).alloc _).alloc _)
  have HSZ := Aside0.mk (show W.heap.size = w.heap.size + 2 from by rw [hW, World.size_alloc, World.size_alloc])
  have HX := Aside0.mk (show W.heap[w.heap.size]? = some (.cells #[.string a, .string b, .string c, .string d, .string e, .string f] 32 (0, 0)) from by rw [hW]; exact blk_alloc (blk_new w _) _)
  have HY := Aside0.mk (show W.heap[w.heap.size + 1]? = some (.cells #[.string a', .string b', .string c', .string d', .string e', .string f'] 32 (0, 0)) from by rw [hW]; have h := blk_new (w.alloc (.cells #[.string a, .string b, .string c, .string d, .string e, .string f] 32)) (.cells #[.string a', .string b', .string c', .string d', .string e', .string f'] 32); rw [World.size_alloc] at h; exact h)
  obtain ⟨g, hg⟩ : ∃ g, g = w.heap.size := ⟨_, rfl⟩
  go_enter Tryz.func13, Tryz.ntmps13
  go_upto_region 1 with fail
  rw [← hW]
  rw [← hg] at HSZ HX HY ⊢
  clear hW hg
  refine wp_region_held_drew (S := fun w' => Gr W w') (by kernel_rfl) (Gr.refl W).drew (fun hHeld => ?_)
  refine wpAnyH_take (i := 0) (v := .pointer (some ⟨g, 0, none⟩)) rfl (by kernel_rfl) (by kernel_rfl) (by kernel_rfl) (fun _ _ _ h => h) (Or.inl ⟨by rfl, ?hy0⟩) hHeld ?_
  case hy0 => intro w' hSw; go_simp
  simp only [List.getElem_toArray, List.getElem_cons_succ, List.getElem_cons_zero, Act.put, List.setIfInBounds_toArray, List.set_cons_zero, List.set_cons_succ]
  refine wpAnyH_take (i := 1) (v := .pointer (some ⟨g, 0, none⟩)) rfl (by kernel_rfl) (by kernel_rfl) (by kernel_rfl) (fun _ _ _ h => h) (Or.inl ⟨by rfl, ?hy1⟩) hHeld ?_
  case hy1 => intro w' hSw; go_simp
  simp only [List.getElem_toArray, List.getElem_cons_succ, List.getElem_cons_zero, Act.put, List.setIfInBounds_toArray, List.set_cons_zero, List.set_cons_succ]
  refine wpAnyH_take (i := 2) (v := .string a) rfl (by kernel_rfl) (by kernel_rfl) (by kernel_rfl) (fun _ _ _ h => h) (yieldsIf_load (by rfl) 9 (.tmp 6) rfl (.string a) (fun w' h => load_str Tryz.underlying9 (h.cell (by show g < W.heap.size; rw [HSZ.out]; omega) ((blk_cell HX.out 0).trans rfl)))) hHeld ?_
  simp only [List.getElem_toArray, List.getElem_cons_succ, List.getElem_cons_zero, Act.put, List.setIfInBounds_toArray, List.set_cons_zero, List.set_cons_succ]
  refine wpAnyH_take (i := 3) (v := .pointer (some ⟨g + 1, 0, none⟩)) rfl (by kernel_rfl) (by kernel_rfl) (by kernel_rfl) (fun _ _ _ h => h) (Or.inl ⟨by rfl, ?hy3⟩) hHeld ?_
  case hy3 => intro w' hSw; go_simp
  simp only [List.getElem_toArray, List.getElem_cons_succ, List.getElem_cons_zero, Act.put, List.setIfInBounds_toArray, List.set_cons_zero, List.set_cons_succ]
  refine wpAnyH_take (i := 4) (v := .pointer (some ⟨g + 1, 0, none⟩)) rfl (by kernel_rfl) (by kernel_rfl) (by kernel_rfl) (fun _ _ _ h => h) (Or.inl ⟨by rfl, ?hy4⟩) hHeld ?_
  case hy4 => intro w' hSw; go_simp
  simp only [List.getElem_toArray, List.getElem_cons_succ, List.getElem_cons_zero, Act.put, List.setIfInBounds_toArray, List.set_cons_zero, List.set_cons_succ]
  refine wpAnyH_take (i := 5) (v := .string a') rfl (by kernel_rfl) (by kernel_rfl) (by kernel_rfl) (fun _ _ _ h => h) (yieldsIf_load (by rfl) 9 (.tmp 9) rfl (.string a') (fun w' h => load_str Tryz.underlying9 (h.cell (by show g + 1 < W.heap.size; rw [HSZ.out]; omega) ((blk_cell HY.out 0).trans rfl)))) hHeld ?_
  simp only [List.getElem_toArray, List.getElem_cons_succ, List.getElem_cons_zero, Act.put, List.setIfInBounds_toArray, List.set_cons_zero, List.set_cons_succ]
  refine wpAnyH_take (i := 7) (v := .pointer (some ⟨g, 0, none⟩)) rfl (by kernel_rfl) (by kernel_rfl) (by kernel_rfl) (fun _ _ _ h => h) (Or.inl ⟨by rfl, ?hy7⟩) hHeld ?_
  case hy7 => intro w' hSw; go_simp
  simp only [List.getElem_toArray, List.getElem_cons_succ, List.getElem_cons_zero, Act.put, List.setIfInBounds_toArray, List.set_cons_zero, List.set_cons_succ]
  refine wpAnyH_take (i := 8) (v := .pointer (some ⟨g, 1, none⟩)) rfl (by kernel_rfl) (by kernel_rfl) (by kernel_rfl) (fun _ _ _ h => h) (Or.inl ⟨by rfl, ?hy8⟩) hHeld ?_
  case hy8 => intro w' hSw; go_simp
  simp only [List.getElem_toArray, List.getElem_cons_succ, List.getElem_cons_zero, Act.put, List.setIfInBounds_toArray, List.set_cons_zero, List.set_cons_succ]
  refine wpAnyH_take (i := 9) (v := .string b) rfl (by kernel_rfl) (by kernel_rfl) (by kernel_rfl) (fun _ _ _ h => h) (yieldsIf_load (by rfl) 9 (.tmp 13) rfl (.string b) (fun w' h => load_str Tryz.underlying9 (h.cell (by show g < W.heap.size; rw [HSZ.out]; omega) ((blk_cell HX.out 1).trans rfl)))) hHeld ?_
  simp only [List.getElem_toArray, List.getElem_cons_succ, List.getElem_cons_zero, Act.put, List.setIfInBounds_toArray, List.set_cons_zero, List.set_cons_succ]
  refine wpAnyH_take (i := 10) (v := .pointer (some ⟨g + 1, 0, none⟩)) rfl (by kernel_rfl) (by kernel_rfl) (by kernel_rfl) (fun _ _ _ h => h) (Or.inl ⟨by rfl, ?hy10⟩) hHeld ?_
  case hy10 => intro w' hSw; go_simp
  simp only [List.getElem_toArray, List.getElem_cons_succ, List.getElem_cons_zero, Act.put, List.setIfInBounds_toArray, List.set_cons_zero, List.set_cons_succ]
  refine wpAnyH_take (i := 11) (v := .pointer (some ⟨g + 1, 1, none⟩)) rfl (by kernel_rfl) (by kernel_rfl) (by kernel_rfl) (fun _ _ _ h => h) (Or.inl ⟨by rfl, ?hy11⟩) hHeld ?_
  case hy11 => intro w' hSw; go_simp
  simp only [List.getElem_toArray, List.getElem_cons_succ, List.getElem_cons_zero, Act.put, List.setIfInBounds_toArray, List.set_cons_zero, List.set_cons_succ]
  refine wpAnyH_take (i := 12) (v := .string b') rfl (by kernel_rfl) (by kernel_rfl) (by kernel_rfl) (fun _ _ _ h => h) (yieldsIf_load (by rfl) 9 (.tmp 16) rfl (.string b') (fun w' h => load_str Tryz.underlying9 (h.cell (by show g + 1 < W.heap.size; rw [HSZ.out]; omega) ((blk_cell HY.out 1).trans rfl)))) hHeld ?_
  simp only [List.getElem_toArray, List.getElem_cons_succ, List.getElem_cons_zero, Act.put, List.setIfInBounds_toArray, List.set_cons_zero, List.set_cons_succ]
  refine wpAnyH_take (i := 14) (v := .pointer (some ⟨g, 2, none⟩)) rfl (by kernel_rfl) (by kernel_rfl) (by kernel_rfl) (fun _ _ _ h => h) (Or.inl ⟨by rfl, ?hy14⟩) hHeld ?_
  case hy14 => intro w' hSw; go_simp
  simp only [List.getElem_toArray, List.getElem_cons_succ, List.getElem_cons_zero, Act.put, List.setIfInBounds_toArray, List.set_cons_zero, List.set_cons_succ]
  refine wpAnyH_take (i := 15) (v := .string c) rfl (by kernel_rfl) (by kernel_rfl) (by kernel_rfl) (fun _ _ _ h => h) (yieldsIf_load (by rfl) 9 (.tmp 19) rfl (.string c) (fun w' h => load_str Tryz.underlying9 (h.cell (by show g < W.heap.size; rw [HSZ.out]; omega) ((blk_cell HX.out 2).trans rfl)))) hHeld ?_
  simp only [List.getElem_toArray, List.getElem_cons_succ, List.getElem_cons_zero, Act.put, List.setIfInBounds_toArray, List.set_cons_zero, List.set_cons_succ]
  refine wpAnyH_take (i := 16) (v := .pointer (some ⟨g + 1, 2, none⟩)) rfl (by kernel_rfl) (by kernel_rfl) (by kernel_rfl) (fun _ _ _ h => h) (Or.inl ⟨by rfl, ?hy16⟩) hHeld ?_
  case hy16 => intro w' hSw; go_simp
  simp only [List.getElem_toArray, List.getElem_cons_succ, List.getElem_cons_zero, Act.put, List.setIfInBounds_toArray, List.set_cons_zero, List.set_cons_succ]
  refine wpAnyH_take (i := 17) (v := .string c') rfl (by kernel_rfl) (by kernel_rfl) (by kernel_rfl) (fun _ _ _ h => h) (yieldsIf_load (by rfl) 9 (.tmp 21) rfl (.string c') (fun w' h => load_str Tryz.underlying9 (h.cell (by show g + 1 < W.heap.size; rw [HSZ.out]; omega) ((blk_cell HY.out 2).trans rfl)))) hHeld ?_
  simp only [List.getElem_toArray, List.getElem_cons_succ, List.getElem_cons_zero, Act.put, List.setIfInBounds_toArray, List.set_cons_zero, List.set_cons_succ]
  refine wpAnyH_take (i := 19) (v := .pointer (some ⟨g, 3, none⟩)) rfl (by kernel_rfl) (by kernel_rfl) (by kernel_rfl) (fun _ _ _ h => h) (Or.inl ⟨by rfl, ?hy19⟩) hHeld ?_
  case hy19 => intro w' hSw; go_simp
  simp only [List.getElem_toArray, List.getElem_cons_succ, List.getElem_cons_zero, Act.put, List.setIfInBounds_toArray, List.set_cons_zero, List.set_cons_succ]
  refine wpAnyH_take (i := 20) (v := .pointer (some ⟨g, 3, none⟩)) rfl (by kernel_rfl) (by kernel_rfl) (by kernel_rfl) (fun _ _ _ h => h) (Or.inl ⟨by rfl, ?hy20⟩) hHeld ?_
  case hy20 => intro w' hSw; go_simp
  simp only [List.getElem_toArray, List.getElem_cons_succ, List.getElem_cons_zero, Act.put, List.setIfInBounds_toArray, List.set_cons_zero, List.set_cons_succ]
  refine wpAnyH_take (i := 21) (v := .string d) rfl (by kernel_rfl) (by kernel_rfl) (by kernel_rfl) (fun _ _ _ h => h) (yieldsIf_load (by rfl) 9 (.tmp 25) rfl (.string d) (fun w' h => load_str Tryz.underlying9 (h.cell (by show g < W.heap.size; rw [HSZ.out]; omega) ((blk_cell HX.out 3).trans rfl)))) hHeld ?_
  simp only [List.getElem_toArray, List.getElem_cons_succ, List.getElem_cons_zero, Act.put, List.setIfInBounds_toArray, List.set_cons_zero, List.set_cons_succ]
  refine wpAnyH_take (i := 22) (v := .pointer (some ⟨g + 1, 3, none⟩)) rfl (by kernel_rfl) (by kernel_rfl) (by kernel_rfl) (fun _ _ _ h => h) (Or.inl ⟨by rfl, ?hy22⟩) hHeld ?_
  case hy22 => intro w' hSw; go_simp
  simp only [List.getElem_toArray, List.getElem_cons_succ, List.getElem_cons_zero, Act.put, List.setIfInBounds_toArray, List.set_cons_zero, List.set_cons_succ]
  refine wpAnyH_take (i := 23) (v := .pointer (some ⟨g + 1, 3, none⟩)) rfl (by kernel_rfl) (by kernel_rfl) (by kernel_rfl) (fun _ _ _ h => h) (Or.inl ⟨by rfl, ?hy23⟩) hHeld ?_
  case hy23 => intro w' hSw; go_simp
  simp only [List.getElem_toArray, List.getElem_cons_succ, List.getElem_cons_zero, Act.put, List.setIfInBounds_toArray, List.set_cons_zero, List.set_cons_succ]
  refine wpAnyH_take (i := 24) (v := .string d') rfl (by kernel_rfl) (by kernel_rfl) (by kernel_rfl) (fun _ _ _ h => h) (yieldsIf_load (by rfl) 9 (.tmp 28) rfl (.string d') (fun w' h => load_str Tryz.underlying9 (h.cell (by show g + 1 < W.heap.size; rw [HSZ.out]; omega) ((blk_cell HY.out 3).trans rfl)))) hHeld ?_
  simp only [List.getElem_toArray, List.getElem_cons_succ, List.getElem_cons_zero, Act.put, List.setIfInBounds_toArray, List.set_cons_zero, List.set_cons_succ]
  refine wpAnyH_take (i := 26) (v := .pointer (some ⟨g, 3, none⟩)) rfl (by kernel_rfl) (by kernel_rfl) (by kernel_rfl) (fun _ _ _ h => h) (Or.inl ⟨by rfl, ?hy26⟩) hHeld ?_
  case hy26 => intro w' hSw; go_simp
  simp only [List.getElem_toArray, List.getElem_cons_succ, List.getElem_cons_zero, Act.put, List.setIfInBounds_toArray, List.set_cons_zero, List.set_cons_succ]
  refine wpAnyH_take (i := 27) (v := .pointer (some ⟨g, 4, none⟩)) rfl (by kernel_rfl) (by kernel_rfl) (by kernel_rfl) (fun _ _ _ h => h) (Or.inl ⟨by rfl, ?hy27⟩) hHeld ?_
  case hy27 => intro w' hSw; go_simp
  simp only [List.getElem_toArray, List.getElem_cons_succ, List.getElem_cons_zero, Act.put, List.setIfInBounds_toArray, List.set_cons_zero, List.set_cons_succ]
  refine wpAnyH_take (i := 28) (v := .string e) rfl (by kernel_rfl) (by kernel_rfl) (by kernel_rfl) (fun _ _ _ h => h) (yieldsIf_load (by rfl) 9 (.tmp 32) rfl (.string e) (fun w' h => load_str Tryz.underlying9 (h.cell (by show g < W.heap.size; rw [HSZ.out]; omega) ((blk_cell HX.out 4).trans rfl)))) hHeld ?_
  simp only [List.getElem_toArray, List.getElem_cons_succ, List.getElem_cons_zero, Act.put, List.setIfInBounds_toArray, List.set_cons_zero, List.set_cons_succ]
  refine wpAnyH_take (i := 29) (v := .pointer (some ⟨g + 1, 3, none⟩)) rfl (by kernel_rfl) (by kernel_rfl) (by kernel_rfl) (fun _ _ _ h => h) (Or.inl ⟨by rfl, ?hy29⟩) hHeld ?_
  case hy29 => intro w' hSw; go_simp
  simp only [List.getElem_toArray, List.getElem_cons_succ, List.getElem_cons_zero, Act.put, List.setIfInBounds_toArray, List.set_cons_zero, List.set_cons_succ]
  refine wpAnyH_take (i := 30) (v := .pointer (some ⟨g + 1, 4, none⟩)) rfl (by kernel_rfl) (by kernel_rfl) (by kernel_rfl) (fun _ _ _ h => h) (Or.inl ⟨by rfl, ?hy30⟩) hHeld ?_
  case hy30 => intro w' hSw; go_simp
  simp only [List.getElem_toArray, List.getElem_cons_succ, List.getElem_cons_zero, Act.put, List.setIfInBounds_toArray, List.set_cons_zero, List.set_cons_succ]
  refine wpAnyH_take (i := 31) (v := .string e') rfl (by kernel_rfl) (by kernel_rfl) (by kernel_rfl) (fun _ _ _ h => h) (yieldsIf_load (by rfl) 9 (.tmp 35) rfl (.string e') (fun w' h => load_str Tryz.underlying9 (h.cell (by show g + 1 < W.heap.size; rw [HSZ.out]; omega) ((blk_cell HY.out 4).trans rfl)))) hHeld ?_
  simp only [List.getElem_toArray, List.getElem_cons_succ, List.getElem_cons_zero, Act.put, List.setIfInBounds_toArray, List.set_cons_zero, List.set_cons_succ]
  refine wpAnyH_take (i := 33) (v := .pointer (some ⟨g, 5, none⟩)) rfl (by kernel_rfl) (by kernel_rfl) (by kernel_rfl) (fun _ _ _ h => h) (Or.inl ⟨by rfl, ?hy33⟩) hHeld ?_
  case hy33 => intro w' hSw; go_simp
  simp only [List.getElem_toArray, List.getElem_cons_succ, List.getElem_cons_zero, Act.put, List.setIfInBounds_toArray, List.set_cons_zero, List.set_cons_succ]
  refine wpAnyH_take (i := 34) (v := .string f) rfl (by kernel_rfl) (by kernel_rfl) (by kernel_rfl) (fun _ _ _ h => h) (yieldsIf_load (by rfl) 9 (.tmp 38) rfl (.string f) (fun w' h => load_str Tryz.underlying9 (h.cell (by show g < W.heap.size; rw [HSZ.out]; omega) ((blk_cell HX.out 5).trans rfl)))) hHeld ?_
  simp only [List.getElem_toArray, List.getElem_cons_succ, List.getElem_cons_zero, Act.put, List.setIfInBounds_toArray, List.set_cons_zero, List.set_cons_succ]
  refine wpAnyH_take (i := 35) (v := .pointer (some ⟨g + 1, 5, none⟩)) rfl (by kernel_rfl) (by kernel_rfl) (by kernel_rfl) (fun _ _ _ h => h) (Or.inl ⟨by rfl, ?hy35⟩) hHeld ?_
  case hy35 => intro w' hSw; go_simp
  simp only [List.getElem_toArray, List.getElem_cons_succ, List.getElem_cons_zero, Act.put, List.setIfInBounds_toArray, List.set_cons_zero, List.set_cons_succ]
  refine wpAnyH_take (i := 36) (v := .string f') rfl (by kernel_rfl) (by kernel_rfl) (by kernel_rfl) (fun _ _ _ h => h) (yieldsIf_load (by rfl) 9 (.tmp 40) rfl (.string f') (fun w' h => load_str Tryz.underlying9 (h.cell (by show g + 1 < W.heap.size; rw [HSZ.out]; omega) ((blk_cell HY.out 5).trans rfl)))) hHeld ?_
  simp only [List.getElem_toArray, List.getElem_cons_succ, List.getElem_cons_zero, Act.put, List.setIfInBounds_toArray, List.set_cons_zero, List.set_cons_succ]
  refine wpAnyH_ready (rs := [6]) (by kernel_rfl) (by simp) ?_
  refine AllReadyH.cons rfl (fun K hK => ?_) AllReadyH.nil
  simp only [List.getElem_toArray, List.getElem_cons_succ, List.getElem_cons_zero]
  rw [if_pos (by rfl)]
  go_simp
  refine (HCmp.cmp_any a a' _).mono ?_
  rintro e_ x ⟨rfl, rfl⟩
  refine hK.out _ _ (hHeld) (fun hHeld => ?_)
  clear hK K
  refine wpAnyH_ready (rs := [13]) (by kernel_rfl) (by simp) ?_
  refine AllReadyH.cons rfl (fun K hK => ?_) AllReadyH.nil
  simp only [List.getElem_toArray, List.getElem_cons_succ, List.getElem_cons_zero]
  rw [if_pos (by rfl)]
  go_simp
  refine (HCmp.cmp_any b b' _).mono ?_
  rintro e_ x ⟨rfl, rfl⟩
  refine hK.out _ _ (hHeld) (fun hHeld => ?_)
  clear hK K
  refine wpAnyH_ready (rs := [18]) (by kernel_rfl) (by simp) ?_
  refine AllReadyH.cons rfl (fun K hK => ?_) AllReadyH.nil
  simp only [List.getElem_toArray, List.getElem_cons_succ, List.getElem_cons_zero]
  rw [if_pos (by rfl)]
  go_simp
  refine (HCmp.cmp_any c c' _).mono ?_
  rintro e_ x ⟨rfl, rfl⟩
  refine hK.out _ _ (hHeld) (fun hHeld => ?_)
  clear hK K
  refine wpAnyH_ready (rs := [25]) (by kernel_rfl) (by simp) ?_
  refine AllReadyH.cons rfl (fun K hK => ?_) AllReadyH.nil
  simp only [List.getElem_toArray, List.getElem_cons_succ, List.getElem_cons_zero]
  rw [if_pos (by rfl)]
  go_simp
  refine (HCmp.cmp_any d d' _).mono ?_
  rintro e_ x ⟨rfl, rfl⟩
  refine hK.out _ _ (hHeld) (fun hHeld => ?_)
  clear hK K
  refine wpAnyH_ready (rs := [32]) (by kernel_rfl) (by simp) ?_
  refine AllReadyH.cons rfl (fun K hK => ?_) AllReadyH.nil
  simp only [List.getElem_toArray, List.getElem_cons_succ, List.getElem_cons_zero]
  rw [if_pos (by rfl)]
  go_simp
  refine (HCmp.cmp_any e e' _).mono ?_
  rintro e_ x ⟨rfl, rfl⟩
  refine hK.out _ _ (hHeld) (fun hHeld => ?_)
  clear hK K
  refine wpAnyH_ready (rs := [37]) (by kernel_rfl) (by simp) ?_
  refine AllReadyH.cons rfl (fun K hK => ?_) AllReadyH.nil
  simp only [List.getElem_toArray, List.getElem_cons_succ, List.getElem_cons_zero]
  rw [if_pos (by rfl)]
  go_simp
  refine (HCmp.cmp_any f f' _).mono ?_
  rintro e_ x ⟨rfl, rfl⟩
  refine hK.out _ _ (hHeld) (fun hHeld => ?_)
  clear hK K
  refine wpAnyH_ready (rs := [38]) (by kernel_rfl) (by simp) ?_
  refine AllReadyH.cons rfl (fun K hK => ?_) AllReadyH.nil
  simp only [List.getElem_toArray, List.getElem_cons_succ, List.getElem_cons_zero]
  rw [if_pos (by rfl)]
  go_simp
  refine hK.out _ _ (((Gr.refl W).alloc _).drew) (fun hHeld => ?_)
  clear hK K
  refine wpAnyH_ready (rs := [39]) (by kernel_rfl) (by simp) ?_
  refine AllReadyH.cons rfl (fun K hK => ?_) AllReadyH.nil
  simp only [List.getElem_toArray, List.getElem_cons_succ, List.getElem_cons_zero]
  rw [if_pos (by rfl)]
  go_simp
  refine (or_any _ 6 [HCmp.cmpS a a', HCmp.cmpS b b', HCmp.cmpS c c', HCmp.cmpS d d', HCmp.cmpS e e', HCmp.cmpS f f'] _ (Kd.C_drew (lit_C W [HCmp.cmpS a a', HCmp.cmpS b b', HCmp.cmpS c c', HCmp.cmpS d d', HCmp.cmpS e e', HCmp.cmpS f f'] (show (6 : Nat) ≤ 1000 by decide))) (show (6 : Nat) ≤ 6 by decide) (show (6 : Nat) ≤ 1000 by decide)).mono ?_
  rintro e_ x ⟨rfl, hx⟩
  refine hK.out _ _ (hHeld.trans hx) (fun hHeld => ?_)
  clear hK K
  refine wpAnyH_take (i := 40) (v := .int .i64 (orL [HCmp.cmpS a a', HCmp.cmpS b b', HCmp.cmpS c c', HCmp.cmpS d d', HCmp.cmpS e e', HCmp.cmpS f f'])) rfl (by kernel_rfl) (by kernel_rfl) (by kernel_rfl) (fun _ _ _ h => h) (Or.inl ⟨by rfl, ?hy40⟩) hHeld ?_
  case hy40 => intro w' hSw; go_simp
  simp only [List.getElem_toArray, List.getElem_cons_succ, List.getElem_cons_zero, Act.put, List.setIfInBounds_toArray, List.set_cons_zero, List.set_cons_succ]
  refine wpAnyH_done (by kernel_rfl) ?_ _

  go_wp2
  go_ret
  exact ⟨rfl, HGW.out.trans hHeld⟩
end Go.Proofs.YtlbbhgmpiednfaaGreatDoor.HTupC
/- The order of tuples. -/
namespace Go.Proofs.YtlbbhgmpiednfaaGreatDoor.HTupO
open Go.RowKit Go.Sort Go.Proofs.YtlbbhgmpiednfaaGreatDoorW.PrintWords Go.Proofs.YtlbbhgmpiednfaaGreatDoor.HLib Go.Proofs.YtlbbhgmpiednfaaGreatDoor.HGr Go.Proofs.YtlbbhgmpiednfaaGreatDoor.PTupleSorts Go.Proofs.YtlbbhgmpiednfaaGreatDoor.HTupC Go.Proofs.YtlbbhgmpiednfaaGreatDoor.HCmp
set_option linter.unusedVariables false
set_option linter.unusedSimpArgs false

def cmpB (a b : List ByteArray) : Int := orL (List.zipWith cmpS a b)
theorem cmpB_cons (x y : ByteArray) (a b : List ByteArray) : cmpB (x :: a) (y :: b) = if cmpS x y = 0 then cmpB a b else cmpS x y := rfl
theorem cmpB_self (a : List ByteArray) : cmpB a a = 0 := by
  induction a with
  | nil => rfl
  | cons x a ih => rw [cmpB_cons, if_pos (cmpS_self x), ih]
theorem cmpB_swap : ∀ (a b : List ByteArray), cmpB b a = - cmpB a b
  | [], [] => rfl
  | [], _ :: _ => rfl
  | _ :: _, [] => rfl
  | x :: a, y :: b => by
    rw [cmpB_cons, cmpB_cons, cmpS_swap x y, cmpB_swap a b]
    by_cases h : cmpS x y = 0
    · rw [if_pos h, if_pos (by omega)]
    · rw [if_neg h, if_neg (by omega)]
theorem cmpB_zero : ∀ (a b : List ByteArray), a.length = b.length → cmpB a b = 0 → a = b
  | [], [], _, _ => rfl
  | x :: a, y :: b, hl, h => by
    rw [cmpB_cons] at h
    by_cases h0 : cmpS x y = 0
    · rw [if_pos h0] at h
      rw [cmpS_zero h0, cmpB_zero a b (by simpa using hl) h]
    · rw [if_neg h0] at h; exact absurd h h0
theorem cmpB_trans : ∀ (a b c : List ByteArray), a.length = b.length → b.length = c.length → cmpB a b ≤ 0 → cmpB b c ≤ 0 → cmpB a c ≤ 0
  | [], [], [], _, _, _, _ => Int.le_refl _
  | x :: a, y :: b, z :: c, h1, h2, h3, h4 => by
    rw [cmpB_cons] at h3 h4 ⊢
    by_cases e1 : cmpS x y = 0
    · rw [if_pos e1] at h3
      obtain rfl := cmpS_zero e1
      by_cases e2 : cmpS x z = 0
      · rw [if_pos e2] at h4 ⊢
        exact cmpB_trans a b c (by simpa using h1) (by simpa using h2) h3 h4
      · rw [if_neg e2] at h4 ⊢; exact h4
    · rw [if_neg e1] at h3
      by_cases e2 : cmpS y z = 0
      · obtain rfl := cmpS_zero e2
        rw [if_neg e1]; exact h3
      · rw [if_neg e2] at h4
        have h5 := cmpL_trans _ _ _ h3 h4
        by_cases e3 : cmpS x z = 0
        · obtain rfl := cmpS_zero e3
          have := cmpS_swap x y
          omega
        · rw [if_neg e3]; exact h5
theorem cmpB_range : ∀ (a b : List ByteArray), cmpB a b = -1 ∨ cmpB a b = 0 ∨ cmpB a b = 1
  | [], [] => Or.inr (Or.inl rfl)
  | [], _ :: _ => Or.inr (Or.inl rfl)
  | _ :: _, [] => Or.inr (Or.inl rfl)
  | x :: a, y :: b => by
    rw [cmpB_cons]
    by_cases h : cmpS x y = 0
    · rw [if_pos h]; exact cmpB_range a b
    · rw [if_neg h]; exact cmpS_range x y
/-- A tuple's strings in order. -/
abbrev tl (x : S32) : List ByteArray := [x.f0.f0, x.f0.f1, x.f1, x.f2.f0, x.f2.f1, x.f3]
theorem tl_inj {x y : S32} (h : tl x = tl y) : x = y := by
  obtain ⟨⟨a, b⟩, c, ⟨d, e⟩, f⟩ := x
  obtain ⟨⟨a', b'⟩, c', ⟨d', e'⟩, f'⟩ := y
  simp only [tl, List.cons.injEq, and_true] at h
  obtain ⟨rfl, rfl, rfl, rfl, rfl, rfl⟩ := h
  rfl
def cmpT (x y : S32) : Int := cmpB (tl x) (tl y)
theorem cmpT_self (x : S32) : cmpT x x = 0 := cmpB_self _
theorem cmpT_swap (x y : S32) : cmpT y x = - cmpT x y := cmpB_swap _ _
theorem cmpT_zero {x y : S32} (h : cmpT x y = 0) : x = y := tl_inj (cmpB_zero _ _ rfl h)
theorem cmpT_trans {x y z : S32} (h : cmpT x y ≤ 0) (k : cmpT y z ≤ 0) : cmpT x z ≤ 0 := cmpB_trans (tl x) (tl y) (tl z) rfl rfl h k
theorem cmpT_range (x y : S32) : cmpT x y = -1 ∨ cmpT x y = 0 ∨ cmpT x y = 1 := cmpB_range _ _
theorem swoT : SWO (ltOf cmpT) where
  irrefl x := by simp [ltOf, cmpT_self]
  trans x y z h1 h2 := by
    simp only [ltOf, decide_eq_true_eq] at h1 h2 ⊢
    have h3 := cmpT_trans (Int.le_of_lt h1) (Int.le_of_lt h2)
    rcases Int.lt_or_eq_of_le h3 with h | h
    · exact h
    · obtain rfl := cmpT_zero h
      have := cmpT_swap x y
      omega
  ntrans x y z h1 h2 := by
    simp only [ltOf, decide_eq_false_iff_not] at h1 h2 ⊢
    have e1 := cmpT_swap x y
    have e2 := cmpT_swap y z
    have e3 := cmpT_swap x z
    have := cmpT_trans (x := z) (y := y) (z := x) (by omega) (by omega)
    omega
theorem partT (x y : S32) (h1 : ltOf cmpT x y = false) (h2 : ltOf cmpT y x = false) : x = y := by
  simp only [ltOf, decide_eq_false_iff_not] at h1 h2
  have e1 := cmpT_swap x y
  exact cmpT_zero (by omega)
end Go.Proofs.YtlbbhgmpiednfaaGreatDoor.HTupO
/- tuple.parts, tuple.Right. -/
namespace Go.Proofs.YtlbbhgmpiednfaaGreatDoor.HTupR
open Go.RowKit Go.Proofs.YtlbbhgmpiednfaaGreatDoorW.PrintWords Go.Proofs.YtlbbhgmpiednfaaGreatDoor.HLib Go.Proofs.YtlbbhgmpiednfaaGreatDoor.HGr Go.Proofs.YtlbbhgmpiednfaaGreatDoor.HNameP Go.Proofs.YtlbbhgmpiednfaaGreatDoor.HName Go.Proofs.YtlbbhgmpiednfaaGreatDoor.HTupP
set_option linter.unusedVariables false
set_option linter.unusedSimpArgs false

theorem cell_lt {w : World} {a : Addr} {v : Value} (h : w.cell? a = some v) : a.block < w.heap.size := by
  rcases Nat.lt_or_ge a.block w.heap.size with h' | h'
  · exact h'
  · simp [World.cell?, Array.getElem?_eq_none h'] at h
abbrev tvv (t : Tp) : Value := .agg #[.string t.a, .string t.b, .string t.c, .string t.d, .string t.e, .string t.f]
theorem opt_any (s : ByteArray) (w : World) (hG : ResG w) : Calls Tryz.prog 69 #[.string s] w fun e w' => e = .returned (.bool (optP s)) ∧ w = w' := by
  have HI := Aside0.mk (is_any s w hG)
  clear hG
  by_cases h : s.size = 0
  · obtain rfl : s = ⟨#[]⟩ := ByteArray.ext (Array.eq_empty_of_size_eq_zero h)
    have HO := Aside0.mk (show optP ⟨#[]⟩ = true from rfl)
    clear h HI
    go_enter Tryz.func69, Tryz.ntmps69
    go_wp2
    go_ret
    exact ⟨by rw [HO.out]; rfl, rfl⟩
  · have hs : (s.toList == (#[] : Array UInt8).toList) = false := by
      cases hb : s.toList == (#[] : Array UInt8).toList with
      | false => rfl
      | true =>
        exfalso
        have h1 := beq_iff_eq.1 hb
        rw [ByteArray.toList_eq] at h1
        apply h
        have := congrArg List.length h1
        simpa using this
    have HO := Aside0.mk (show optP s = isP s from by simp [optP, h])
    clear h
    go_enter Tryz.func69, Tryz.ntmps69
    go_wp2_with fail
    refine HI.out.mono ?_
    rintro e w1 ⟨rfl, rfl⟩
    go_wp2
    go_ret
    exact ⟨by rw [HO.out]; rfl, rfl⟩
def FN : List Nat := [49, 68, 49, 49, 68, 69]
def MO : List Int := [64, 128, 64, 64, 128, 64]
/-- Part i's value. -/
abbrev pv (g i : Nat) : Value := .agg #[.pointer (some ⟨g, i, none⟩), .int .i64 (MO[i]!), .func (.func (FN[i]!)) #[] #[]]

abbrev pc (g : Nat) : Array Value := #[.pointer (some ⟨g, 0, none⟩), .int .i64 64, .func (.func 49) #[] #[], .pointer (some ⟨g, 1, none⟩), .int .i64 128, .func (.func 68) #[] #[], .pointer (some ⟨g, 2, none⟩), .int .i64 64, .func (.func 49) #[] #[], .pointer (some ⟨g, 3, none⟩), .int .i64 64, .func (.func 49) #[] #[], .pointer (some ⟨g, 4, none⟩), .int .i64 128, .func (.func 68) #[] #[], .pointer (some ⟨g, 5, none⟩), .int .i64 64, .func (.func 69) #[] #[]]
set_option maxRecDepth 20000 in
set_option maxHeartbeats 4000000 in
theorem parts_any (g : Nat) (w : World) : Calls Tryz.prog 42 #[.pointer (some ⟨g, 0, none⟩)] w fun e w' => ∃ B, e = .returned (.slice (some ⟨B, 0, none⟩) 6 6) ∧ w.heap.size ≤ B ∧ w'.heap[B]? = some (.cells (pc g) 74 (0, 0)) ∧ Gr w w' := by
  go_enter Tryz.func42, Tryz.ntmps42
  go_upto_region 1 with fail
  refine wp_region_held_drew (S := fun w' => Gr w w') (by kernel_rfl) (Gr.refl w).drew (fun hHeld => ?_)
  refine wpAnyH_take (i := 0) (v := .pointer (some ⟨g, 0, none⟩)) rfl (by kernel_rfl) (by kernel_rfl) (by kernel_rfl) (fun _ _ _ h => h) (Or.inl ⟨by rfl, ?hy0⟩) hHeld ?_
  case hy0 => intro w' hSw; go_simp
  simp only [List.getElem_toArray, List.getElem_cons_succ, List.getElem_cons_zero, Act.put, List.setIfInBounds_toArray, List.set_cons_zero, List.set_cons_succ]
  refine wpAnyH_take (i := 1) (v := .pointer (some ⟨g, 0, none⟩)) rfl (by kernel_rfl) (by kernel_rfl) (by kernel_rfl) (fun _ _ _ h => h) (Or.inl ⟨by rfl, ?hy1⟩) hHeld ?_
  case hy1 => intro w' hSw; go_simp
  simp only [List.getElem_toArray, List.getElem_cons_succ, List.getElem_cons_zero, Act.put, List.setIfInBounds_toArray, List.set_cons_zero, List.set_cons_succ]
  refine wpAnyH_take (i := 2) (v := .pointer (some ⟨g, 0, none⟩)) rfl (by kernel_rfl) (by kernel_rfl) (by kernel_rfl) (fun _ _ _ h => h) (Or.inl ⟨by rfl, ?hy2⟩) hHeld ?_
  case hy2 => intro w' hSw; go_simp
  simp only [List.getElem_toArray, List.getElem_cons_succ, List.getElem_cons_zero, Act.put, List.setIfInBounds_toArray, List.set_cons_zero, List.set_cons_succ]
  refine wpAnyH_take (i := 3) (v := .pointer (some ⟨g, 0, none⟩)) rfl (by kernel_rfl) (by kernel_rfl) (by kernel_rfl) (fun _ _ _ h => h) (Or.inl ⟨by rfl, ?hy3⟩) hHeld ?_
  case hy3 => intro w' hSw; go_simp
  simp only [List.getElem_toArray, List.getElem_cons_succ, List.getElem_cons_zero, Act.put, List.setIfInBounds_toArray, List.set_cons_zero, List.set_cons_succ]
  refine wpAnyH_take (i := 4) (v := .agg #[.pointer (some ⟨g, 0, none⟩), .int .i64 64, .func (.func 49) #[] #[]]) rfl (by kernel_rfl) (by kernel_rfl) (by kernel_rfl) (fun _ _ _ h => h) (Or.inl ⟨by rfl, ?hy4⟩) hHeld ?_
  case hy4 => intro w' hSw; go_simp
  simp only [List.getElem_toArray, List.getElem_cons_succ, List.getElem_cons_zero, Act.put, List.setIfInBounds_toArray, List.set_cons_zero, List.set_cons_succ]
  refine wpAnyH_take (i := 5) (v := .pointer (some ⟨g, 0, none⟩)) rfl (by kernel_rfl) (by kernel_rfl) (by kernel_rfl) (fun _ _ _ h => h) (Or.inl ⟨by rfl, ?hy5⟩) hHeld ?_
  case hy5 => intro w' hSw; go_simp
  simp only [List.getElem_toArray, List.getElem_cons_succ, List.getElem_cons_zero, Act.put, List.setIfInBounds_toArray, List.set_cons_zero, List.set_cons_succ]
  refine wpAnyH_take (i := 6) (v := .pointer (some ⟨g, 0, none⟩)) rfl (by kernel_rfl) (by kernel_rfl) (by kernel_rfl) (fun _ _ _ h => h) (Or.inl ⟨by rfl, ?hy6⟩) hHeld ?_
  case hy6 => intro w' hSw; go_simp
  simp only [List.getElem_toArray, List.getElem_cons_succ, List.getElem_cons_zero, Act.put, List.setIfInBounds_toArray, List.set_cons_zero, List.set_cons_succ]
  refine wpAnyH_take (i := 7) (v := .pointer (some ⟨g, 0, none⟩)) rfl (by kernel_rfl) (by kernel_rfl) (by kernel_rfl) (fun _ _ _ h => h) (Or.inl ⟨by rfl, ?hy7⟩) hHeld ?_
  case hy7 => intro w' hSw; go_simp
  simp only [List.getElem_toArray, List.getElem_cons_succ, List.getElem_cons_zero, Act.put, List.setIfInBounds_toArray, List.set_cons_zero, List.set_cons_succ]
  refine wpAnyH_take (i := 8) (v := .pointer (some ⟨g, 1, none⟩)) rfl (by kernel_rfl) (by kernel_rfl) (by kernel_rfl) (fun _ _ _ h => h) (Or.inl ⟨by rfl, ?hy8⟩) hHeld ?_
  case hy8 => intro w' hSw; go_simp
  simp only [List.getElem_toArray, List.getElem_cons_succ, List.getElem_cons_zero, Act.put, List.setIfInBounds_toArray, List.set_cons_zero, List.set_cons_succ]
  refine wpAnyH_take (i := 9) (v := .agg #[.pointer (some ⟨g, 1, none⟩), .int .i64 128, .func (.func 68) #[] #[]]) rfl (by kernel_rfl) (by kernel_rfl) (by kernel_rfl) (fun _ _ _ h => h) (Or.inl ⟨by rfl, ?hy9⟩) hHeld ?_
  case hy9 => intro w' hSw; go_simp
  simp only [List.getElem_toArray, List.getElem_cons_succ, List.getElem_cons_zero, Act.put, List.setIfInBounds_toArray, List.set_cons_zero, List.set_cons_succ]
  refine wpAnyH_take (i := 10) (v := .pointer (some ⟨g, 0, none⟩)) rfl (by kernel_rfl) (by kernel_rfl) (by kernel_rfl) (fun _ _ _ h => h) (Or.inl ⟨by rfl, ?hy10⟩) hHeld ?_
  case hy10 => intro w' hSw; go_simp
  simp only [List.getElem_toArray, List.getElem_cons_succ, List.getElem_cons_zero, Act.put, List.setIfInBounds_toArray, List.set_cons_zero, List.set_cons_succ]
  refine wpAnyH_take (i := 11) (v := .pointer (some ⟨g, 0, none⟩)) rfl (by kernel_rfl) (by kernel_rfl) (by kernel_rfl) (fun _ _ _ h => h) (Or.inl ⟨by rfl, ?hy11⟩) hHeld ?_
  case hy11 => intro w' hSw; go_simp
  simp only [List.getElem_toArray, List.getElem_cons_succ, List.getElem_cons_zero, Act.put, List.setIfInBounds_toArray, List.set_cons_zero, List.set_cons_succ]
  refine wpAnyH_take (i := 12) (v := .pointer (some ⟨g, 2, none⟩)) rfl (by kernel_rfl) (by kernel_rfl) (by kernel_rfl) (fun _ _ _ h => h) (Or.inl ⟨by rfl, ?hy12⟩) hHeld ?_
  case hy12 => intro w' hSw; go_simp
  simp only [List.getElem_toArray, List.getElem_cons_succ, List.getElem_cons_zero, Act.put, List.setIfInBounds_toArray, List.set_cons_zero, List.set_cons_succ]
  refine wpAnyH_take (i := 13) (v := .agg #[.pointer (some ⟨g, 2, none⟩), .int .i64 64, .func (.func 49) #[] #[]]) rfl (by kernel_rfl) (by kernel_rfl) (by kernel_rfl) (fun _ _ _ h => h) (Or.inl ⟨by rfl, ?hy13⟩) hHeld ?_
  case hy13 => intro w' hSw; go_simp
  simp only [List.getElem_toArray, List.getElem_cons_succ, List.getElem_cons_zero, Act.put, List.setIfInBounds_toArray, List.set_cons_zero, List.set_cons_succ]
  refine wpAnyH_take (i := 14) (v := .pointer (some ⟨g, 0, none⟩)) rfl (by kernel_rfl) (by kernel_rfl) (by kernel_rfl) (fun _ _ _ h => h) (Or.inl ⟨by rfl, ?hy14⟩) hHeld ?_
  case hy14 => intro w' hSw; go_simp
  simp only [List.getElem_toArray, List.getElem_cons_succ, List.getElem_cons_zero, Act.put, List.setIfInBounds_toArray, List.set_cons_zero, List.set_cons_succ]
  refine wpAnyH_take (i := 15) (v := .pointer (some ⟨g, 0, none⟩)) rfl (by kernel_rfl) (by kernel_rfl) (by kernel_rfl) (fun _ _ _ h => h) (Or.inl ⟨by rfl, ?hy15⟩) hHeld ?_
  case hy15 => intro w' hSw; go_simp
  simp only [List.getElem_toArray, List.getElem_cons_succ, List.getElem_cons_zero, Act.put, List.setIfInBounds_toArray, List.set_cons_zero, List.set_cons_succ]
  refine wpAnyH_take (i := 16) (v := .pointer (some ⟨g, 3, none⟩)) rfl (by kernel_rfl) (by kernel_rfl) (by kernel_rfl) (fun _ _ _ h => h) (Or.inl ⟨by rfl, ?hy16⟩) hHeld ?_
  case hy16 => intro w' hSw; go_simp
  simp only [List.getElem_toArray, List.getElem_cons_succ, List.getElem_cons_zero, Act.put, List.setIfInBounds_toArray, List.set_cons_zero, List.set_cons_succ]
  refine wpAnyH_take (i := 17) (v := .pointer (some ⟨g, 3, none⟩)) rfl (by kernel_rfl) (by kernel_rfl) (by kernel_rfl) (fun _ _ _ h => h) (Or.inl ⟨by rfl, ?hy17⟩) hHeld ?_
  case hy17 => intro w' hSw; go_simp
  simp only [List.getElem_toArray, List.getElem_cons_succ, List.getElem_cons_zero, Act.put, List.setIfInBounds_toArray, List.set_cons_zero, List.set_cons_succ]
  refine wpAnyH_take (i := 18) (v := .agg #[.pointer (some ⟨g, 3, none⟩), .int .i64 64, .func (.func 49) #[] #[]]) rfl (by kernel_rfl) (by kernel_rfl) (by kernel_rfl) (fun _ _ _ h => h) (Or.inl ⟨by rfl, ?hy18⟩) hHeld ?_
  case hy18 => intro w' hSw; go_simp
  simp only [List.getElem_toArray, List.getElem_cons_succ, List.getElem_cons_zero, Act.put, List.setIfInBounds_toArray, List.set_cons_zero, List.set_cons_succ]
  refine wpAnyH_take (i := 19) (v := .pointer (some ⟨g, 0, none⟩)) rfl (by kernel_rfl) (by kernel_rfl) (by kernel_rfl) (fun _ _ _ h => h) (Or.inl ⟨by rfl, ?hy19⟩) hHeld ?_
  case hy19 => intro w' hSw; go_simp
  simp only [List.getElem_toArray, List.getElem_cons_succ, List.getElem_cons_zero, Act.put, List.setIfInBounds_toArray, List.set_cons_zero, List.set_cons_succ]
  refine wpAnyH_take (i := 20) (v := .pointer (some ⟨g, 0, none⟩)) rfl (by kernel_rfl) (by kernel_rfl) (by kernel_rfl) (fun _ _ _ h => h) (Or.inl ⟨by rfl, ?hy20⟩) hHeld ?_
  case hy20 => intro w' hSw; go_simp
  simp only [List.getElem_toArray, List.getElem_cons_succ, List.getElem_cons_zero, Act.put, List.setIfInBounds_toArray, List.set_cons_zero, List.set_cons_succ]
  refine wpAnyH_take (i := 21) (v := .pointer (some ⟨g, 3, none⟩)) rfl (by kernel_rfl) (by kernel_rfl) (by kernel_rfl) (fun _ _ _ h => h) (Or.inl ⟨by rfl, ?hy21⟩) hHeld ?_
  case hy21 => intro w' hSw; go_simp
  simp only [List.getElem_toArray, List.getElem_cons_succ, List.getElem_cons_zero, Act.put, List.setIfInBounds_toArray, List.set_cons_zero, List.set_cons_succ]
  refine wpAnyH_take (i := 22) (v := .pointer (some ⟨g, 4, none⟩)) rfl (by kernel_rfl) (by kernel_rfl) (by kernel_rfl) (fun _ _ _ h => h) (Or.inl ⟨by rfl, ?hy22⟩) hHeld ?_
  case hy22 => intro w' hSw; go_simp
  simp only [List.getElem_toArray, List.getElem_cons_succ, List.getElem_cons_zero, Act.put, List.setIfInBounds_toArray, List.set_cons_zero, List.set_cons_succ]
  refine wpAnyH_take (i := 23) (v := .agg #[.pointer (some ⟨g, 4, none⟩), .int .i64 128, .func (.func 68) #[] #[]]) rfl (by kernel_rfl) (by kernel_rfl) (by kernel_rfl) (fun _ _ _ h => h) (Or.inl ⟨by rfl, ?hy23⟩) hHeld ?_
  case hy23 => intro w' hSw; go_simp
  simp only [List.getElem_toArray, List.getElem_cons_succ, List.getElem_cons_zero, Act.put, List.setIfInBounds_toArray, List.set_cons_zero, List.set_cons_succ]
  refine wpAnyH_take (i := 24) (v := .pointer (some ⟨g, 0, none⟩)) rfl (by kernel_rfl) (by kernel_rfl) (by kernel_rfl) (fun _ _ _ h => h) (Or.inl ⟨by rfl, ?hy24⟩) hHeld ?_
  case hy24 => intro w' hSw; go_simp
  simp only [List.getElem_toArray, List.getElem_cons_succ, List.getElem_cons_zero, Act.put, List.setIfInBounds_toArray, List.set_cons_zero, List.set_cons_succ]
  refine wpAnyH_take (i := 25) (v := .pointer (some ⟨g, 0, none⟩)) rfl (by kernel_rfl) (by kernel_rfl) (by kernel_rfl) (fun _ _ _ h => h) (Or.inl ⟨by rfl, ?hy25⟩) hHeld ?_
  case hy25 => intro w' hSw; go_simp
  simp only [List.getElem_toArray, List.getElem_cons_succ, List.getElem_cons_zero, Act.put, List.setIfInBounds_toArray, List.set_cons_zero, List.set_cons_succ]
  refine wpAnyH_take (i := 26) (v := .pointer (some ⟨g, 5, none⟩)) rfl (by kernel_rfl) (by kernel_rfl) (by kernel_rfl) (fun _ _ _ h => h) (Or.inl ⟨by rfl, ?hy26⟩) hHeld ?_
  case hy26 => intro w' hSw; go_simp
  simp only [List.getElem_toArray, List.getElem_cons_succ, List.getElem_cons_zero, Act.put, List.setIfInBounds_toArray, List.set_cons_zero, List.set_cons_succ]
  refine wpAnyH_take (i := 27) (v := .agg #[.pointer (some ⟨g, 5, none⟩), .int .i64 64, .func (.func 69) #[] #[]]) rfl (by kernel_rfl) (by kernel_rfl) (by kernel_rfl) (fun _ _ _ h => h) (Or.inl ⟨by rfl, ?hy27⟩) hHeld ?_
  case hy27 => intro w' hSw; go_simp
  simp only [List.getElem_toArray, List.getElem_cons_succ, List.getElem_cons_zero, Act.put, List.setIfInBounds_toArray, List.set_cons_zero, List.set_cons_succ]
  refine wpAnyH_ready (rs := [28]) (by kernel_rfl) (by simp) ?_
  refine AllReadyH.cons rfl (fun K hK => ?_) AllReadyH.nil
  simp only [List.getElem_toArray, List.getElem_cons_succ, List.getElem_cons_zero]
  rw [if_pos (by rfl)]
  go_simp
  refine hK.out _ _ (hHeld.alloc _) (fun hHeld => ?_)
  clear hK K
  refine wpAnyH_take (i := 29) (v := .slice (some ⟨w.heap.size, 0, none⟩) 6 6) rfl (by kernel_rfl) (by kernel_rfl) (by kernel_rfl) (fun _ _ _ h => h) (Or.inl ⟨by rfl, ?hy29⟩) hHeld ?_
  case hy29 => intro w' hSw; go_simp
  simp only [List.getElem_toArray, List.getElem_cons_succ, List.getElem_cons_zero, Act.put, List.setIfInBounds_toArray, List.set_cons_zero, List.set_cons_succ]
  refine wpAnyH_done (by kernel_rfl) ?_ _
  go_wp2
  go_ret
  exact ⟨w.heap.size, rfl, Nat.le_refl _, blk_drew (blk_new w _), hHeld⟩
theorem cell_get {w : World} {a : Addr} {v : Value} {ty : TypeId} (hu : (isAgg ty).run Tryz.prog w = .ok false w) (h : w.cell? a = some v) : (Instr.loadAt ty (.pointer (some a))).run Tryz.prog w = .ok v w := by
  simp [Instr.loadAt, Instr.sureAddr, loadVar, hu, Result.andThen, run_load, h]
set_option maxRecDepth 20000 in
set_option maxHeartbeats 4000000 in
theorem cl_is (g i : Nat) (mo : Int) (s : ByteArray) (w : World) (hs : w.cell? ⟨g, i, none⟩ = some (.string s)) (hG : ResG w) : Calls Tryz.prog 45 #[.agg #[.pointer (some ⟨g, i, none⟩), .int .i64 mo, .func (.func 49) #[] #[]]] w fun e w' => e = .returned (.bool (!isP s)) ∧ Gr w w' := by
  obtain ⟨W, hW⟩ : ∃ W, W = w.alloc (.cells #[.pointer (some ⟨g, i, none⟩), .int .i64 mo, .func (.func 49) #[] #[]] 74) := ⟨_, rfl⟩
  have HGW := Aside0.mk (show Gr w W from by rw [hW]; exact (Gr.refl w).alloc _)
  have HBX := Aside0.mk (show W.heap[w.heap.size]? = some (.cells #[.pointer (some ⟨g, i, none⟩), .int .i64 mo, .func (.func 49) #[] #[]] 74 (0, 0)) from by rw [hW]; exact blk_new w _)
  have HS := Aside0.mk (show W.cell? ⟨g, i, none⟩ = some (.string s) from HGW.out.cell (cell_lt hs) hs)
  have HG := Aside0.mk (show ResG W from hG.below HGW.out.below hG.1)
  have HLT := Aside0.mk (show w.heap.size < W.heap.size from blk_lt HBX.out)
  have HLG := Aside0.mk (show g < W.heap.size from cell_lt HS.out)
  obtain ⟨B, hB⟩ : ∃ B, B = w.heap.size := ⟨_, rfl⟩
  clear hs hG
  go_enter Tryz.func45, Tryz.ntmps45
  go_upto_region 1 with fail
  rw [← hW]
  rw [← hB] at HBX HLT ⊢
  clear hW hB
  refine wp_region_held_drew (S := fun w' => Gr W w') (by kernel_rfl) (Gr.refl W).drew (fun hHeld => ?_)
  refine wpAnyH_take (i := 0) (v := .pointer (some ⟨B, 2, none⟩)) rfl (by kernel_rfl) (by kernel_rfl) (by kernel_rfl) (fun _ _ _ h => h) (Or.inl ⟨by rfl, ?hy0⟩) hHeld ?_
  case hy0 => intro w' hSw; go_simp
  simp only [List.getElem_toArray, List.getElem_cons_succ, List.getElem_cons_zero, Act.put, List.setIfInBounds_toArray, List.set_cons_zero, List.set_cons_succ]
  refine wpAnyH_take (i := 1) (v := (.func (.func 49) #[] #[])) rfl (by kernel_rfl) (by kernel_rfl) (by kernel_rfl) (fun _ _ _ h => h) (yieldsIf_load (by rfl) 51 (.tmp 3) rfl (.func (.func 49) #[] #[]) (fun w' h => cell_get (Tryz.isAgg51 _) (h.cell HLT.out ((blk_cell HBX.out 2).trans rfl)))) hHeld ?_
  simp only [List.getElem_toArray, List.getElem_cons_succ, List.getElem_cons_zero, Act.put, List.setIfInBounds_toArray, List.set_cons_zero, List.set_cons_succ]
  refine wpAnyH_take (i := 2) (v := .pointer (some ⟨B, 0, none⟩)) rfl (by kernel_rfl) (by kernel_rfl) (by kernel_rfl) (fun _ _ _ h => h) (Or.inl ⟨by rfl, ?hy2⟩) hHeld ?_
  case hy2 => intro w' hSw; go_simp
  simp only [List.getElem_toArray, List.getElem_cons_succ, List.getElem_cons_zero, Act.put, List.setIfInBounds_toArray, List.set_cons_zero, List.set_cons_succ]
  refine wpAnyH_take (i := 3) (v := (.pointer (some ⟨g, i, none⟩))) rfl (by kernel_rfl) (by kernel_rfl) (by kernel_rfl) (fun _ _ _ h => h) (yieldsIf_load (by rfl) 72 (.tmp 5) rfl (.pointer (some ⟨g, i, none⟩)) (fun w' h => cell_get (Tryz.isAgg72 _) (h.cell HLT.out ((blk_cell HBX.out 0).trans rfl)))) hHeld ?_
  simp only [List.getElem_toArray, List.getElem_cons_succ, List.getElem_cons_zero, Act.put, List.setIfInBounds_toArray, List.set_cons_zero, List.set_cons_succ]
  refine wpAnyH_take (i := 4) (v := (.pointer (some ⟨g, i, none⟩))) rfl (by kernel_rfl) (by kernel_rfl) (by kernel_rfl) (fun _ _ _ h => h) (Or.inl ⟨by rfl, ?hy4⟩) hHeld ?_
  case hy4 => intro w' hSw; go_simp
  simp only [List.getElem_toArray, List.getElem_cons_succ, List.getElem_cons_zero, Act.put, List.setIfInBounds_toArray, List.set_cons_zero, List.set_cons_succ]
  refine wpAnyH_take (i := 5) (v := (.string s)) rfl (by kernel_rfl) (by kernel_rfl) (by kernel_rfl) (fun _ _ _ h => h) (yieldsIf_load (by rfl) 9 (.tmp 7) rfl (.string s) (fun w' h => load_str Tryz.underlying9 (h.cell HLG.out HS.out))) hHeld ?_
  simp only [List.getElem_toArray, List.getElem_cons_succ, List.getElem_cons_zero, Act.put, List.setIfInBounds_toArray, List.set_cons_zero, List.set_cons_succ]
  refine wpAnyH_ready (rs := [6]) (by kernel_rfl) (by simp) ?_
  refine AllReadyH.cons rfl (fun K hK => ?_) AllReadyH.nil
  simp only [List.getElem_toArray, List.getElem_cons_succ, List.getElem_cons_zero]
  rw [if_pos (by rfl)]
  go_simp
  refine (is_any s _ (HG.out.below hHeld.below (Nat.lt_of_lt_of_le HG.out.1 (Nat.le_refl _)))).mono ?_
  rintro e x ⟨rfl, rfl⟩
  refine hK.out _ _ (hHeld) (fun hHeld => ?_)
  clear hK K
  refine wpAnyH_take (i := 7) (v := .bool (!isP s)) rfl (by kernel_rfl) (by kernel_rfl) (by kernel_rfl) (fun _ _ _ h => h) (Or.inl ⟨by rfl, ?hy7⟩) hHeld ?_
  case hy7 => intro w' hSw; go_simp
  simp only [List.getElem_toArray, List.getElem_cons_succ, List.getElem_cons_zero, Act.put, List.setIfInBounds_toArray, List.set_cons_zero, List.set_cons_succ]
  refine wpAnyH_take (i := 8) (v := .bool (!isP s)) rfl (by kernel_rfl) (by kernel_rfl) (by kernel_rfl) (fun _ _ _ h => h) (Or.inl ⟨by rfl, ?hy8⟩) hHeld ?_
  case hy8 => intro w' hSw; go_simp
  simp only [List.getElem_toArray, List.getElem_cons_succ, List.getElem_cons_zero, Act.put, List.setIfInBounds_toArray, List.set_cons_zero, List.set_cons_succ]
  refine wpAnyH_done (by kernel_rfl) ?_ _
  go_wp2
  go_ret
  exact ⟨rfl, HGW.out.trans hHeld⟩
set_option maxRecDepth 20000 in
set_option maxHeartbeats 4000000 in
theorem cl_id (g i : Nat) (mo : Int) (s : ByteArray) (w : World) (hs : w.cell? ⟨g, i, none⟩ = some (.string s)) (hG : ResG w) : Calls Tryz.prog 45 #[.agg #[.pointer (some ⟨g, i, none⟩), .int .i64 mo, .func (.func 68) #[] #[]]] w fun e w' => e = .returned (.bool (!idP s)) ∧ Gr w w' := by
  obtain ⟨W, hW⟩ : ∃ W, W = w.alloc (.cells #[.pointer (some ⟨g, i, none⟩), .int .i64 mo, .func (.func 68) #[] #[]] 74) := ⟨_, rfl⟩
  have HGW := Aside0.mk (show Gr w W from by rw [hW]; exact (Gr.refl w).alloc _)
  have HBX := Aside0.mk (show W.heap[w.heap.size]? = some (.cells #[.pointer (some ⟨g, i, none⟩), .int .i64 mo, .func (.func 68) #[] #[]] 74 (0, 0)) from by rw [hW]; exact blk_new w _)
  have HS := Aside0.mk (show W.cell? ⟨g, i, none⟩ = some (.string s) from HGW.out.cell (cell_lt hs) hs)
  have HG := Aside0.mk (show ResG W from hG.below HGW.out.below hG.1)
  have HLT := Aside0.mk (show w.heap.size < W.heap.size from blk_lt HBX.out)
  have HLG := Aside0.mk (show g < W.heap.size from cell_lt HS.out)
  obtain ⟨B, hB⟩ : ∃ B, B = w.heap.size := ⟨_, rfl⟩
  clear hs hG
  go_enter Tryz.func45, Tryz.ntmps45
  go_upto_region 1 with fail
  rw [← hW]
  rw [← hB] at HBX HLT ⊢
  clear hW hB
  refine wp_region_held_drew (S := fun w' => Gr W w') (by kernel_rfl) (Gr.refl W).drew (fun hHeld => ?_)
  refine wpAnyH_take (i := 0) (v := .pointer (some ⟨B, 2, none⟩)) rfl (by kernel_rfl) (by kernel_rfl) (by kernel_rfl) (fun _ _ _ h => h) (Or.inl ⟨by rfl, ?hy0⟩) hHeld ?_
  case hy0 => intro w' hSw; go_simp
  simp only [List.getElem_toArray, List.getElem_cons_succ, List.getElem_cons_zero, Act.put, List.setIfInBounds_toArray, List.set_cons_zero, List.set_cons_succ]
  refine wpAnyH_take (i := 1) (v := (.func (.func 68) #[] #[])) rfl (by kernel_rfl) (by kernel_rfl) (by kernel_rfl) (fun _ _ _ h => h) (yieldsIf_load (by rfl) 51 (.tmp 3) rfl (.func (.func 68) #[] #[]) (fun w' h => cell_get (Tryz.isAgg51 _) (h.cell HLT.out ((blk_cell HBX.out 2).trans rfl)))) hHeld ?_
  simp only [List.getElem_toArray, List.getElem_cons_succ, List.getElem_cons_zero, Act.put, List.setIfInBounds_toArray, List.set_cons_zero, List.set_cons_succ]
  refine wpAnyH_take (i := 2) (v := .pointer (some ⟨B, 0, none⟩)) rfl (by kernel_rfl) (by kernel_rfl) (by kernel_rfl) (fun _ _ _ h => h) (Or.inl ⟨by rfl, ?hy2⟩) hHeld ?_
  case hy2 => intro w' hSw; go_simp
  simp only [List.getElem_toArray, List.getElem_cons_succ, List.getElem_cons_zero, Act.put, List.setIfInBounds_toArray, List.set_cons_zero, List.set_cons_succ]
  refine wpAnyH_take (i := 3) (v := (.pointer (some ⟨g, i, none⟩))) rfl (by kernel_rfl) (by kernel_rfl) (by kernel_rfl) (fun _ _ _ h => h) (yieldsIf_load (by rfl) 72 (.tmp 5) rfl (.pointer (some ⟨g, i, none⟩)) (fun w' h => cell_get (Tryz.isAgg72 _) (h.cell HLT.out ((blk_cell HBX.out 0).trans rfl)))) hHeld ?_
  simp only [List.getElem_toArray, List.getElem_cons_succ, List.getElem_cons_zero, Act.put, List.setIfInBounds_toArray, List.set_cons_zero, List.set_cons_succ]
  refine wpAnyH_take (i := 4) (v := (.pointer (some ⟨g, i, none⟩))) rfl (by kernel_rfl) (by kernel_rfl) (by kernel_rfl) (fun _ _ _ h => h) (Or.inl ⟨by rfl, ?hy4⟩) hHeld ?_
  case hy4 => intro w' hSw; go_simp
  simp only [List.getElem_toArray, List.getElem_cons_succ, List.getElem_cons_zero, Act.put, List.setIfInBounds_toArray, List.set_cons_zero, List.set_cons_succ]
  refine wpAnyH_take (i := 5) (v := (.string s)) rfl (by kernel_rfl) (by kernel_rfl) (by kernel_rfl) (fun _ _ _ h => h) (yieldsIf_load (by rfl) 9 (.tmp 7) rfl (.string s) (fun w' h => load_str Tryz.underlying9 (h.cell HLG.out HS.out))) hHeld ?_
  simp only [List.getElem_toArray, List.getElem_cons_succ, List.getElem_cons_zero, Act.put, List.setIfInBounds_toArray, List.set_cons_zero, List.set_cons_succ]
  refine wpAnyH_ready (rs := [6]) (by kernel_rfl) (by simp) ?_
  refine AllReadyH.cons rfl (fun K hK => ?_) AllReadyH.nil
  simp only [List.getElem_toArray, List.getElem_cons_succ, List.getElem_cons_zero]
  rw [if_pos (by rfl)]
  go_simp
  refine (isid_any s _).mono ?_
  rintro e x ⟨rfl, rfl⟩
  refine hK.out _ _ (hHeld) (fun hHeld => ?_)
  clear hK K
  refine wpAnyH_take (i := 7) (v := .bool (!idP s)) rfl (by kernel_rfl) (by kernel_rfl) (by kernel_rfl) (fun _ _ _ h => h) (Or.inl ⟨by rfl, ?hy7⟩) hHeld ?_
  case hy7 => intro w' hSw; go_simp
  simp only [List.getElem_toArray, List.getElem_cons_succ, List.getElem_cons_zero, Act.put, List.setIfInBounds_toArray, List.set_cons_zero, List.set_cons_succ]
  refine wpAnyH_take (i := 8) (v := .bool (!idP s)) rfl (by kernel_rfl) (by kernel_rfl) (by kernel_rfl) (fun _ _ _ h => h) (Or.inl ⟨by rfl, ?hy8⟩) hHeld ?_
  case hy8 => intro w' hSw; go_simp
  simp only [List.getElem_toArray, List.getElem_cons_succ, List.getElem_cons_zero, Act.put, List.setIfInBounds_toArray, List.set_cons_zero, List.set_cons_succ]
  refine wpAnyH_done (by kernel_rfl) ?_ _
  go_wp2
  go_ret
  exact ⟨rfl, HGW.out.trans hHeld⟩
set_option maxRecDepth 20000 in
set_option maxHeartbeats 4000000 in
theorem cl_opt (g i : Nat) (mo : Int) (s : ByteArray) (w : World) (hs : w.cell? ⟨g, i, none⟩ = some (.string s)) (hG : ResG w) : Calls Tryz.prog 45 #[.agg #[.pointer (some ⟨g, i, none⟩), .int .i64 mo, .func (.func 69) #[] #[]]] w fun e w' => e = .returned (.bool (!optP s)) ∧ Gr w w' := by
  obtain ⟨W, hW⟩ : ∃ W, W = w.alloc (.cells #[.pointer (some ⟨g, i, none⟩), .int .i64 mo, .func (.func 69) #[] #[]] 74) := ⟨_, rfl⟩
  have HGW := Aside0.mk (show Gr w W from by rw [hW]; exact (Gr.refl w).alloc _)
  have HBX := Aside0.mk (show W.heap[w.heap.size]? = some (.cells #[.pointer (some ⟨g, i, none⟩), .int .i64 mo, .func (.func 69) #[] #[]] 74 (0, 0)) from by rw [hW]; exact blk_new w _)
  have HS := Aside0.mk (show W.cell? ⟨g, i, none⟩ = some (.string s) from HGW.out.cell (cell_lt hs) hs)
  have HG := Aside0.mk (show ResG W from hG.below HGW.out.below hG.1)
  have HLT := Aside0.mk (show w.heap.size < W.heap.size from blk_lt HBX.out)
  have HLG := Aside0.mk (show g < W.heap.size from cell_lt HS.out)
  obtain ⟨B, hB⟩ : ∃ B, B = w.heap.size := ⟨_, rfl⟩
  clear hs hG
  go_enter Tryz.func45, Tryz.ntmps45
  go_upto_region 1 with fail
  rw [← hW]
  rw [← hB] at HBX HLT ⊢
  clear hW hB
  refine wp_region_held_drew (S := fun w' => Gr W w') (by kernel_rfl) (Gr.refl W).drew (fun hHeld => ?_)
  refine wpAnyH_take (i := 0) (v := .pointer (some ⟨B, 2, none⟩)) rfl (by kernel_rfl) (by kernel_rfl) (by kernel_rfl) (fun _ _ _ h => h) (Or.inl ⟨by rfl, ?hy0⟩) hHeld ?_
  case hy0 => intro w' hSw; go_simp
  simp only [List.getElem_toArray, List.getElem_cons_succ, List.getElem_cons_zero, Act.put, List.setIfInBounds_toArray, List.set_cons_zero, List.set_cons_succ]
  refine wpAnyH_take (i := 1) (v := (.func (.func 69) #[] #[])) rfl (by kernel_rfl) (by kernel_rfl) (by kernel_rfl) (fun _ _ _ h => h) (yieldsIf_load (by rfl) 51 (.tmp 3) rfl (.func (.func 69) #[] #[]) (fun w' h => cell_get (Tryz.isAgg51 _) (h.cell HLT.out ((blk_cell HBX.out 2).trans rfl)))) hHeld ?_
  simp only [List.getElem_toArray, List.getElem_cons_succ, List.getElem_cons_zero, Act.put, List.setIfInBounds_toArray, List.set_cons_zero, List.set_cons_succ]
  refine wpAnyH_take (i := 2) (v := .pointer (some ⟨B, 0, none⟩)) rfl (by kernel_rfl) (by kernel_rfl) (by kernel_rfl) (fun _ _ _ h => h) (Or.inl ⟨by rfl, ?hy2⟩) hHeld ?_
  case hy2 => intro w' hSw; go_simp
  simp only [List.getElem_toArray, List.getElem_cons_succ, List.getElem_cons_zero, Act.put, List.setIfInBounds_toArray, List.set_cons_zero, List.set_cons_succ]
  refine wpAnyH_take (i := 3) (v := (.pointer (some ⟨g, i, none⟩))) rfl (by kernel_rfl) (by kernel_rfl) (by kernel_rfl) (fun _ _ _ h => h) (yieldsIf_load (by rfl) 72 (.tmp 5) rfl (.pointer (some ⟨g, i, none⟩)) (fun w' h => cell_get (Tryz.isAgg72 _) (h.cell HLT.out ((blk_cell HBX.out 0).trans rfl)))) hHeld ?_
  simp only [List.getElem_toArray, List.getElem_cons_succ, List.getElem_cons_zero, Act.put, List.setIfInBounds_toArray, List.set_cons_zero, List.set_cons_succ]
  refine wpAnyH_take (i := 4) (v := (.pointer (some ⟨g, i, none⟩))) rfl (by kernel_rfl) (by kernel_rfl) (by kernel_rfl) (fun _ _ _ h => h) (Or.inl ⟨by rfl, ?hy4⟩) hHeld ?_
  case hy4 => intro w' hSw; go_simp
  simp only [List.getElem_toArray, List.getElem_cons_succ, List.getElem_cons_zero, Act.put, List.setIfInBounds_toArray, List.set_cons_zero, List.set_cons_succ]
  refine wpAnyH_take (i := 5) (v := (.string s)) rfl (by kernel_rfl) (by kernel_rfl) (by kernel_rfl) (fun _ _ _ h => h) (yieldsIf_load (by rfl) 9 (.tmp 7) rfl (.string s) (fun w' h => load_str Tryz.underlying9 (h.cell HLG.out HS.out))) hHeld ?_
  simp only [List.getElem_toArray, List.getElem_cons_succ, List.getElem_cons_zero, Act.put, List.setIfInBounds_toArray, List.set_cons_zero, List.set_cons_succ]
  refine wpAnyH_ready (rs := [6]) (by kernel_rfl) (by simp) ?_
  refine AllReadyH.cons rfl (fun K hK => ?_) AllReadyH.nil
  simp only [List.getElem_toArray, List.getElem_cons_succ, List.getElem_cons_zero]
  rw [if_pos (by rfl)]
  go_simp
  refine (opt_any s _ (HG.out.below hHeld.below (Nat.lt_of_lt_of_le HG.out.1 (Nat.le_refl _)))).mono ?_
  rintro e x ⟨rfl, rfl⟩
  refine hK.out _ _ (hHeld) (fun hHeld => ?_)
  clear hK K
  refine wpAnyH_take (i := 7) (v := .bool (!optP s)) rfl (by kernel_rfl) (by kernel_rfl) (by kernel_rfl) (fun _ _ _ h => h) (Or.inl ⟨by rfl, ?hy7⟩) hHeld ?_
  case hy7 => intro w' hSw; go_simp
  simp only [List.getElem_toArray, List.getElem_cons_succ, List.getElem_cons_zero, Act.put, List.setIfInBounds_toArray, List.set_cons_zero, List.set_cons_succ]
  refine wpAnyH_take (i := 8) (v := .bool (!optP s)) rfl (by kernel_rfl) (by kernel_rfl) (by kernel_rfl) (fun _ _ _ h => h) (Or.inl ⟨by rfl, ?hy8⟩) hHeld ?_
  case hy8 => intro w' hSw; go_simp
  simp only [List.getElem_toArray, List.getElem_cons_succ, List.getElem_cons_zero, Act.put, List.setIfInBounds_toArray, List.set_cons_zero, List.set_cons_succ]
  refine wpAnyH_done (by kernel_rfl) ?_ _
  go_wp2
  go_ret
  exact ⟨rfl, HGW.out.trans hHeld⟩
end Go.Proofs.YtlbbhgmpiednfaaGreatDoor.HTupR
/- tuple.Right. -/
namespace Go.Proofs.YtlbbhgmpiednfaaGreatDoor.HTupR
open Go.RowKit Go.Proofs.YtlbbhgmpiednfaaGreatDoorW.PrintWords Go.Proofs.YtlbbhgmpiednfaaGreatDoor.HLib Go.Proofs.YtlbbhgmpiednfaaGreatDoor.HGr Go.Proofs.YtlbbhgmpiednfaaGreatDoor.HNameP Go.Proofs.YtlbbhgmpiednfaaGreatDoor.HName Go.Proofs.YtlbbhgmpiednfaaGreatDoor.HTupP
set_option linter.unusedVariables false
set_option linter.unusedSimpArgs false

def chk (t : Tp) (j : Nat) : Bool := match j with | 0 => isP t.a | 1 => idP t.b | 2 => isP t.c | 3 => isP t.d | 4 => idP t.e | _ => optP t.f
def str (t : Tp) (j : Nat) : ByteArray := match j with | 0 => t.a | 1 => t.b | 2 => t.c | 3 => t.d | 4 => t.e | _ => t.f
/-- A tuple lies in block g. -/
def TupAt (w : World) (g : Nat) (t : Tp) : Prop := ∀ j, j < 6 → w.cell? ⟨g, j, none⟩ = some (.string (str t j))
theorem TupAt.gr {w w1 : World} {g : Nat} {t : Tp} (h : TupAt w g t) (hg : Gr w w1) : TupAt w1 g t := fun j hj => hg.cell (cell_lt (h j hj)) (h j hj)
theorem TupAt.below {w w1 : World} {g : Nat} {t : Tp} (h : TupAt w g t) (hg : Below w.heap.size w w1) : TupAt w1 g t := fun j hj => (hg.cell (p := ⟨g, j, none⟩) (cell_lt (h j hj))).trans (h j hj)
def fnv (j : Nat) : Nat := match j with | 0 => 49 | 1 => 68 | 2 => 49 | 3 => 49 | 4 => 68 | _ => 69
def mov (j : Nat) : Int := match j with | 0 => 64 | 1 => 128 | 2 => 64 | 3 => 64 | 4 => 128 | _ => 64
theorem cl_any (t : Tp) (g j : Nat) (hj : j < 6) (w : World) (hT : TupAt w g t) (hG : ResG w) : Calls Tryz.prog 45 #[.agg #[.pointer (some ⟨g, j, none⟩), .int .i64 (mov j), .func (.func (fnv j)) #[] #[]]] w fun e w' => e = .returned (.bool (!chk t j)) ∧ Gr w w' := by
  match j, hj with
  | 0, hj => exact cl_is g 0 64 t.a w (hT 0 hj) hG
  | 1, hj => exact cl_id g 1 128 t.b w (hT 1 hj) hG
  | 2, hj => exact cl_is g 2 64 t.c w (hT 2 hj) hG
  | 3, hj => exact cl_is g 3 64 t.d w (hT 3 hj) hG
  | 4, hj => exact cl_id g 4 128 t.e w (hT 4 hj) hG
  | 5, hj => exact cl_opt g 5 64 t.f w (hT 5 hj) hG
theorem parts_at {w : World} {g B : Nat} (h : w.heap[B]? = some (.cells (pc g) 74 (0, 0))) (j : Nat) (hj : j < 6) : w.cell? ⟨B, j * 3, none⟩ = some (.pointer (some ⟨g, j, none⟩)) ∧ w.cell? ⟨B, j * 3 + 1, none⟩ = some (.int .i64 (mov j)) ∧ w.cell? ⟨B, j * 3 + 2, none⟩ = some (.func (.func (fnv j)) #[] #[]) := by
  match j, hj with
  | 0, _ => exact ⟨(blk_cell h 0).trans rfl, (blk_cell h 1).trans rfl, (blk_cell h 2).trans rfl⟩
  | 1, _ => exact ⟨(blk_cell h 3).trans rfl, (blk_cell h 4).trans rfl, (blk_cell h 5).trans rfl⟩
  | 2, _ => exact ⟨(blk_cell h 6).trans rfl, (blk_cell h 7).trans rfl, (blk_cell h 8).trans rfl⟩
  | 3, _ => exact ⟨(blk_cell h 9).trans rfl, (blk_cell h 10).trans rfl, (blk_cell h 11).trans rfl⟩
  | 4, _ => exact ⟨(blk_cell h 12).trans rfl, (blk_cell h 13).trans rfl, (blk_cell h 14).trans rfl⟩
  | 5, _ => exact ⟨(blk_cell h 15).trans rfl, (blk_cell h 16).trans rfl, (blk_cell h 17).trans rfl⟩
def upto (t : Tp) (j : Nat) : Prop := ∀ i, i < j → chk t i = true
theorem upto_right {t : Tp} (h : upto t 6) : rightP t = true := (rightP_iff' t).2 ⟨h 0 (by decide), h 1 (by decide), h 2 (by decide), h 3 (by decide), h 4 (by decide), h 5 (by decide)⟩
where rightP_iff' (t : Tp) : rightP t = true ↔ isP t.a = true ∧ idP t.b = true ∧ isP t.c = true ∧ isP t.d = true ∧ idP t.e = true ∧ optP t.f = true := by simp [rightP]
theorem not_right {t : Tp} (j : Nat) (hj : j < 6) (h : chk t j = false) : rightP t = false := by
  cases hr : rightP t with
  | false => rfl
  | true =>
    obtain ⟨h0, h1, h2, h3, h4, h5⟩ := (upto_right.rightP_iff' t).1 hr
    match j, hj with
    | 0, _ => exact absurd (h.symm.trans h0) (by decide)
    | 1, _ => exact absurd (h.symm.trans h1) (by decide)
    | 2, _ => exact absurd (h.symm.trans h2) (by decide)
    | 3, _ => exact absurd (h.symm.trans h3) (by decide)
    | 4, _ => exact absurd (h.symm.trans h4) (by decide)
    | 5, _ => exact absurd (h.symm.trans h5) (by decide)
set_option maxRecDepth 20000 in
set_option maxHeartbeats 4000000 in
theorem index_any (t : Tp) (g B : Nat) (w : World) (hP : w.heap[B]? = some (.cells (pc g) 74 (0, 0))) (hT : TupAt w g t) (hG : ResG w) :
    Calls Tryz.prog 71 #[.slice (some ⟨B, 0, none⟩) 6 6, .func (.func 45) #[] #[]] w fun e w' => ∃ n : Int, e = .returned (.int .i64 n) ∧ decide (0 ≤ n) = (!rightP t) ∧ Gr w w' := by
  have HCL := Aside0.mk (fun (j : Nat) (hj : j < 6) (w' : World) (h : Gr w w') => cl_any t g j hj w' (hT.gr h) (hG.below h.below hG.1))
  have HPA := Aside0.mk (fun (j : Nat) (hj : j < 6) (w' : World) (h : Gr w w') => parts_at (h.below.block B (blk_lt hP) |>.trans hP) j hj)
  clear hP hT hG
  go_enter Tryz.func71, Tryz.ntmps71
  go_wp2
  go_loopg [5, 8] 6 (fun kq v5 v8 w' => ∃ j : Nat, v8 = .int .i64 j ∧ Aside0 (kq + j = 6) ∧ Aside0 (upto t j) ∧ Aside0 (Gr w w'))
  case atStart => exact ⟨0, rfl, ⟨rfl⟩, ⟨fun i hi => absurd hi (Nat.not_lt_zero _)⟩, ⟨Gr.refl w⟩⟩
  case round =>
    obtain ⟨j, rfl, HJ, HU, HW⟩ := hrel
    by_cases cj : j < 6
    · have f1 : decide (j < 6) = true := decide_eq_true cj
      have f2 : decide ((j : Int) < 6) = true := decide_eq_true (by omega)
      have f3 : (j : Int) < 6 := by omega
      have f4 : IntKind.i64.wrap ((j : Int) + 1) = (j : Int) + 1 := by rw [IntKind.wrap_i64]; omega
      obtain ⟨c1, c2, c3⟩ := HPA.out j cj wr HW.out
      have HC := Aside0.mk (HCL.out j cj wr HW.out)
      generalize mov j = mo at c2 HC
      generalize fnv j = fn at c3 HC
      cases hb : chk t j with
      | true =>
        rw [hb] at HC
        have HU2 := Aside0.mk (show upto t (j + 1) from fun i hi => by
          rcases Nat.lt_or_ge i j with h | h
          · exact HU.out i h
          · rw [show i = j from by omega]; exact hb)
        clear hb
        go_wp2_with fail
        refine HC.out.mono ?_
        rintro e w1 ⟨rfl, hg⟩
        have HG1 := Aside0.mk (HW.out.trans hg)
        clear hg c1 c2 c3 HC
        go_wp2
        go_roundg (6 - (j + 1))
        case measure => have := HJ.out; omega
        case rel => exact ⟨j + 1, rfl, ⟨by have := HJ.out; omega⟩, HU2, HG1⟩
      | false =>
        rw [hb] at HC
        have HN := Aside0.mk (not_right j cj hb)
        clear hb
        go_wp2_with fail
        refine HC.out.mono ?_
        rintro e w1 ⟨rfl, hg⟩
        have HG1 := Aside0.mk (HW.out.trans hg)
        clear hg c1 c2 c3 HC
        go_wp2
        go_ret
        exact ⟨j, rfl, by rw [HN.out]; exact decide_eq_true (by omega), HG1.out⟩
    · obtain rfl : j = 6 := by have := HJ.out; omega
      have HN := Aside0.mk (upto_right HU.out)
      go_wp2
      go_ret
      exact ⟨-1, rfl, by rw [HN.out]; rfl, HW.out⟩
theorem contains_any (t : Tp) (g B : Nat) (w : World) (hP : w.heap[B]? = some (.cells (pc g) 74 (0, 0))) (hT : TupAt w g t) (hG : ResG w) :
    Calls Tryz.prog 44 #[.slice (some ⟨B, 0, none⟩) 6 6, .func (.func 45) #[] #[]] w fun e w' => e = .returned (.bool (!rightP t)) ∧ Gr w w' := by
  have HI := Aside0.mk (index_any t g B w hP hT hG)
  clear hP hT hG
  go_enter Tryz.func44, Tryz.ntmps44
  go_wp2_with fail
  refine HI.out.mono ?_
  rintro e w1 ⟨n, rfl, hn, hg⟩
  have HG := Aside0.mk hg
  clear hg
  go_wp2
  go_ret
  exact ⟨rfl, HG.out⟩
theorem right_any (t : Tp) (w : World) (hG : ResG w) : Calls Tryz.prog 20 #[tvv t] w fun e w' => e = .returned (.bool (rightP t)) ∧ Gr w w' := by
  obtain ⟨W, hW⟩ : ∃ W, W = w.alloc (.cells #[.string t.a, .string t.b, .string t.c, .string t.d, .string t.e, .string t.f] 32) := ⟨_, rfl⟩
  have HGW := Aside0.mk (show Gr w W from by rw [hW]; exact (Gr.refl w).alloc _)
  have hbx : W.heap[w.heap.size]? = some (.cells #[.string t.a, .string t.b, .string t.c, .string t.d, .string t.e, .string t.f] 32 (0, 0)) := by rw [hW]; exact blk_new w _
  have HT := Aside0.mk (show TupAt W w.heap.size t from fun j hj => by
    match j, hj with
    | 0, _ => exact (blk_cell hbx 0).trans rfl
    | 1, _ => exact (blk_cell hbx 1).trans rfl
    | 2, _ => exact (blk_cell hbx 2).trans rfl
    | 3, _ => exact (blk_cell hbx 3).trans rfl
    | 4, _ => exact (blk_cell hbx 4).trans rfl
    | 5, _ => exact (blk_cell hbx 5).trans rfl)
  have HG := Aside0.mk (show ResG W from hG.below HGW.out.below hG.1)
  clear hbx hG
  go_enter Tryz.func20, Tryz.ntmps20
  go_wp2_with fail
  rw [← hW]
  clear hW
  refine (parts_any w.heap.size W).mono ?_
  rintro e w1 ⟨B, rfl, hB, hP, hg⟩
  have HC := Aside0.mk (contains_any t w.heap.size B w1 hP (HT.out.gr hg) (HG.out.below hg.below HG.out.1))
  have HG1 := Aside0.mk (HGW.out.trans hg)
  clear hB hP hg
  go_wp2_with fail
  refine HC.out.mono ?_
  rintro e w2 ⟨rfl, hg⟩
  have HG2 := Aside0.mk (HG1.out.trans hg)
  clear hg
  go_wp2
  go_ret
  exact ⟨by simp, HG2.out⟩
end Go.Proofs.YtlbbhgmpiednfaaGreatDoor.HTupR
/- tuple.Text. -/
namespace Go.Proofs.YtlbbhgmpiednfaaGreatDoor.HTupX
open Go.RowKit Go.Proofs.YtlbbhgmpiednfaaGreatDoorW.PrintWords Go.Proofs.YtlbbhgmpiednfaaGreatDoor.HLib Go.Proofs.YtlbbhgmpiednfaaGreatDoor.HGr Go.Proofs.YtlbbhgmpiednfaaGreatDoor.HNameP Go.Proofs.YtlbbhgmpiednfaaGreatDoor.HName Go.Proofs.YtlbbhgmpiednfaaGreatDoor.HTupP Go.Proofs.YtlbbhgmpiednfaaGreatDoor.HTupR
set_option linter.unusedVariables false
set_option linter.unusedSimpArgs false

theorem tup_new (w : World) (t : Tp) : TupAt (w.alloc (.cells #[.string t.a, .string t.b, .string t.c, .string t.d, .string t.e, .string t.f] 32)) w.heap.size t := fun j hj => by
  have hbx := blk_new w (.cells #[.string t.a, .string t.b, .string t.c, .string t.d, .string t.e, .string t.f] 32)
  match j, hj with
  | 0, _ => exact (blk_cell hbx 0).trans rfl
  | 1, _ => exact (blk_cell hbx 1).trans rfl
  | 2, _ => exact (blk_cell hbx 2).trans rfl
  | 3, _ => exact (blk_cell hbx 3).trans rfl
  | 4, _ => exact (blk_cell hbx 4).trans rfl
  | 5, _ => exact (blk_cell hbx 5).trans rfl
theorem opt_size {s : ByteArray} (h : optP s = true) : s.size ≤ 64 := by
  simp only [optP, Bool.or_eq_true, decide_eq_true_eq] at h
  rcases h with h | h
  · omega
  · exact (isP_size h).2
def textR (t : Tp) : ByteArray := if rightP t then textP t else ⟨#[]⟩
set_option maxRecDepth 20000 in
set_option maxHeartbeats 4000000 in
theorem text_wrong (t : Tp) (w : World) (hG : ResG w) (hr : rightP t = false) : Calls Tryz.prog 17 #[tvv t] w fun e w' => e = .returned (.tuple #[.string ⟨#[]⟩, .bool false]) ∧ Below w.heap.size w w' := by
  obtain ⟨W, hW⟩ : ∃ W, W = w.alloc (.cells #[.string t.a, .string t.b, .string t.c, .string t.d, .string t.e, .string t.f] 32) := ⟨_, rfl⟩
  have HB := Aside0.mk (show Below w.heap.size w W from by rw [hW]; exact below_alloc (B0 w) _)
  have hT : TupAt W w.heap.size t := by rw [hW]; exact tup_new w t
  have HR := Aside0.mk (right_any t W (hG.below HB.out hG.1))
  rw [hr] at HR
  clear hG hr
  obtain ⟨B, hB⟩ : ∃ B, B = w.heap.size := ⟨_, rfl⟩
  rw [← hB] at hT
  obtain ⟨a, b, c, d, e, f⟩ := t
  have c0 : W.cell? ⟨B, 0, none⟩ = some (.string a) := hT 0 (by decide)
  have c1 : W.cell? ⟨B, 1, none⟩ = some (.string b) := hT 1 (by decide)
  have c2 : W.cell? ⟨B, 2, none⟩ = some (.string c) := hT 2 (by decide)
  have c3 : W.cell? ⟨B, 3, none⟩ = some (.string d) := hT 3 (by decide)
  have c4 : W.cell? ⟨B, 4, none⟩ = some (.string e) := hT 4 (by decide)
  have c5 : W.cell? ⟨B, 5, none⟩ = some (.string f) := hT 5 (by decide)
  clear hT
  go_enter Tryz.func17, Tryz.ntmps17
  go_upto_region 1 with fail
  rw [← hW, ← hB]
  clear hW hB
  go_wp2_with fail
  refine HR.out.mono ?_
  rintro e w1 ⟨rfl, hg⟩
  have HG1 := Aside0.mk (below_step HB.out hg.below)
  clear hg c0 c1 c2 c3 c4 c5
  go_wp2
  go_ret2
  exact ⟨rfl, HG1.out⟩
set_option maxRecDepth 20000 in
set_option maxHeartbeats 4000000 in
theorem text_right (t : Tp) (w : World) (hG : ResG w) (hr : rightP t = true) : Calls Tryz.prog 17 #[tvv t] w fun e w' => e = .returned (.tuple #[.string (textP t), .bool true]) ∧ Below w.heap.size w w' := by
  obtain ⟨W, hW⟩ : ∃ W, W = w.alloc (.cells #[.string t.a, .string t.b, .string t.c, .string t.d, .string t.e, .string t.f] 32) := ⟨_, rfl⟩
  have HB := Aside0.mk (show Below w.heap.size w W from by rw [hW]; exact below_alloc (B0 w) _)
  have hT : TupAt W w.heap.size t := by rw [hW]; exact tup_new w t
  have HG := Aside0.mk (show ResG W from hG.below HB.out hG.1)
  have HR := Aside0.mk (right_any t W HG.out)
  rw [hr] at HR
  obtain ⟨r1, r2, r3, r4, r5, r6⟩ := (upto_right.rightP_iff' t).1 hr
  clear hG hr
  obtain ⟨B, hB⟩ : ∃ B, B = w.heap.size := ⟨_, rfl⟩
  rw [← hB] at hT
  have HT := Aside0.mk hT
  obtain ⟨a, b, c, d, e, f⟩ := t
  have e1 : objS a b = a ++ ⟨#[58]⟩ ++ b := by unfold objS objP; rw [r1, r2]; rfl
  have e2 : objS d e = d ++ ⟨#[58]⟩ ++ e := by unfold objS objP; rw [r4, r5]; rfl
  have z1 := isP_size r1
  have z2 := idP_size r2
  have z3 := isP_size r3
  have z4 := isP_size r4
  have z5 := idP_size r5
  have z6 := opt_size r6
  dsimp only at z1 z2 z3 z4 z5 z6
  obtain ⟨O, hO⟩ : ∃ O, O = objS a b := ⟨_, rfl⟩
  obtain ⟨S, hS⟩ : ∃ S, S = objS d e := ⟨_, rfl⟩
  have so : O.size ≤ 200 := by rw [hO, e1, ByteArray.size_append, ByteArray.size_append]; have : (⟨#[58]⟩ : ByteArray).size = 1 := rfl; omega
  have ss : S.size ≤ 200 := by rw [hS, e2, ByteArray.size_append, ByteArray.size_append]; have : (⟨#[58]⟩ : ByteArray).size = 1 := rfl; omega
  have HO := Aside0.mk (fun (w : World) (hG : ResG w) => object_any a b w hG)
  have HS := Aside0.mk (fun (w : World) (hG : ResG w) => object_any d e w hG)
  rw [← hO] at HO
  rw [← hS] at HS
  have s1 : (⟨#[35]⟩ : ByteArray).size = 1 := rfl
  have s2 : (⟨#[64]⟩ : ByteArray).size = 1 := rfl
  have y1 : O.size + 1 ≤ 9223372036854775807 := by omega
  have y2 : (O ++ (⟨#[35]⟩ : ByteArray)).size + c.size ≤ 9223372036854775807 := by rw [ByteArray.size_append]; omega
  have y3 : (O ++ (⟨#[35]⟩ : ByteArray) ++ c).size + 1 ≤ 9223372036854775807 := by rw [ByteArray.size_append, ByteArray.size_append]; omega
  have y4 : (O ++ (⟨#[35]⟩ : ByteArray) ++ c ++ (⟨#[64]⟩ : ByteArray)).size + S.size ≤ 9223372036854775807 := by rw [ByteArray.size_append, ByteArray.size_append, ByteArray.size_append]; omega
  have y7 : O.size + 1 + c.size + 1 ≤ 9223372036854775807 := by omega
  have y8 : O.size + 1 + c.size + 1 + S.size ≤ 9223372036854775807 := by omega
  have y9 : O.size + 1 + c.size + 1 + S.size + (1 + f.size) ≤ 9223372036854775807 := by omega
  have y5 : 1 + f.size ≤ 9223372036854775807 := by omega
  have y6 : (O ++ (⟨#[35]⟩ : ByteArray) ++ c ++ (⟨#[64]⟩ : ByteArray) ++ S).size + ((⟨#[35]⟩ : ByteArray) ++ f).size ≤ 9223372036854775807 := by rw [ByteArray.size_append, ByteArray.size_append, ByteArray.size_append, ByteArray.size_append, ByteArray.size_append]; omega
  have HTX := Aside0.mk (show textP ⟨a, b, c, d, e, f⟩ = if f.size = 0 then O ++ ⟨#[35]⟩ ++ c ++ ⟨#[64]⟩ ++ S else O ++ ⟨#[35]⟩ ++ c ++ ⟨#[64]⟩ ++ S ++ (⟨#[35]⟩ ++ f) from by rw [hO, hS, e1, e2]; rfl)
  have HF := Aside0.mk (show f.size = 0 ∧ (f.toList == (#[] : Array UInt8).toList) = true ∨ ¬ f.size = 0 ∧ (f.toList == (#[] : Array UInt8).toList) = false from by
    by_cases h : f.size = 0
    · left
      obtain rfl : f = ⟨#[]⟩ := ByteArray.ext (Array.eq_empty_of_size_eq_zero h)
      exact ⟨h, by rw [ByteArray.toList_eq]; rfl⟩
    · right
      refine ⟨h, ?_⟩
      cases hb : f.toList == (#[] : Array UInt8).toList with
      | false => rfl
      | true =>
        exfalso
        have h1 := beq_iff_eq.1 hb
        rw [ByteArray.toList_eq] at h1
        apply h
        have := congrArg List.length h1
        simpa using this)
  clear hO hS e1 e2 z1 z2 z3 z4 z5 z6 so ss s1 s2 r1 r2 r3 r4 r5 r6
  have c0 : W.cell? ⟨B, 0, none⟩ = some (.string a) := hT 0 (by decide)
  have c1 : W.cell? ⟨B, 1, none⟩ = some (.string b) := hT 1 (by decide)
  have c2 : W.cell? ⟨B, 2, none⟩ = some (.string c) := hT 2 (by decide)
  have c3 : W.cell? ⟨B, 3, none⟩ = some (.string d) := hT 3 (by decide)
  have c4 : W.cell? ⟨B, 4, none⟩ = some (.string e) := hT 4 (by decide)
  have c5 : W.cell? ⟨B, 5, none⟩ = some (.string f) := hT 5 (by decide)
  clear hT
  go_enter Tryz.func17, Tryz.ntmps17
  go_upto_region 1 with fail
  rw [← hW, ← hB]
  clear hW hB
  go_wp2_with fail
  refine HR.out.mono ?_
  rintro e_ w1 ⟨rfl, hg⟩
  have HG1 := Aside0.mk (below_step HB.out hg.below)
  have HGA := Aside0.mk (HG.out.below hg.below HG.out.1)
  have HT1 := Aside0.mk (HT.out.gr hg)
  clear hg c0 c1 c2 c3 c4 c5 HR
  have c0 : w1.cell? ⟨B, 0, none⟩ = some (.string a) := HT1.out 0 (by decide)
  have c1 : w1.cell? ⟨B, 1, none⟩ = some (.string b) := HT1.out 1 (by decide)
  go_wp2_with fail
  refine (HO.out w1 HGA.out).mono ?_
  rintro e_ w2 ⟨rfl, hg⟩
  have HG2 := Aside0.mk (below_step HG1.out hg)
  have HGB := Aside0.mk (HGA.out.below hg HGA.out.1)
  have HT2 := Aside0.mk (HT1.out.below hg)
  clear hg c0 c1 HO
  have c3 : w2.cell? ⟨B, 3, none⟩ = some (.string d) := HT2.out 3 (by decide)
  have c4 : w2.cell? ⟨B, 4, none⟩ = some (.string e) := HT2.out 4 (by decide)
  go_wp2_with fail
  refine (HS.out w2 HGB.out).mono ?_
  rintro e_ w3 ⟨rfl, hg⟩
  have HG3 := Aside0.mk (below_step HG2.out hg)
  have HT3 := Aside0.mk (HT2.out.below hg)
  clear hg c3 c4 HS
  have c2 : w3.cell? ⟨B, 2, none⟩ = some (.string c) := HT3.out 2 (by decide)
  have c5 : w3.cell? ⟨B, 5, none⟩ = some (.string f) := HT3.out 5 (by decide)
  rcases HF.out with ⟨hf, hf2⟩ | ⟨hf, hf2⟩
  · have HFF := Aside0.mk hf
    clear hf
    go_wp2
    go_ret2
    rw [HTX.out, if_pos HFF.out]
    exact ⟨rfl, HG3.out⟩
  · have HFF := Aside0.mk hf
    clear hf
    go_wp2
    go_ret2
    rw [HTX.out, if_neg HFF.out]
    exact ⟨rfl, HG3.out⟩
theorem text_any (t : Tp) (w : World) (hG : ResG w) : Calls Tryz.prog 17 #[tvv t] w fun e w' => e = .returned (.tuple #[.string (textR t), .bool (rightP t)]) ∧ Below w.heap.size w w' := by
  cases hr : rightP t with
  | true => unfold textR; rw [hr]; exact text_right t w hG hr
  | false => unfold textR; rw [hr]; exact text_wrong t w hG hr
end Go.Proofs.YtlbbhgmpiednfaaGreatDoor.HTupX
/- fault.Shift; the result's cells. -/
namespace Go.Proofs.YtlbbhgmpiednfaaGreatDoor.HTupG
open Go.RowKit Go.Proofs.YtlbbhgmpiednfaaGreatDoorW.PrintWords Go.Proofs.YtlbbhgmpiednfaaGreatDoor.HLib Go.Proofs.YtlbbhgmpiednfaaGreatDoor.HGr Go.Proofs.YtlbbhgmpiednfaaGreatDoor.HErr Go.Proofs.YtlbbhgmpiednfaaGreatDoor.HNameP Go.Proofs.YtlbbhgmpiednfaaGreatDoor.HName Go.Proofs.YtlbbhgmpiednfaaGreatDoor.HTupP Go.Proofs.YtlbbhgmpiednfaaGreatDoor.HTupR
set_option linter.unusedVariables false
set_option linter.unusedSimpArgs false
def GV (w : World) : Prop := ResG w ∧ ErrG w
theorem GV.below {w w1 : World} (h : GV w) (hb : Below w.heap.size w w1) : GV w1 := ⟨h.1.below hb h.1.1, h.2.below hb h.2.1⟩
abbrev fltV (c n : Int) : Value := .iface 108 (.agg #[.int .i64 c, .int .i64 n])
theorem errg_step {w w1 : World} (h : ErrG w) (hb : Below w.heap.size w w1) : ErrG w1 := h.below hb h.1
theorem shift_C (c n : Int) (hn : 0 ≤ n ∧ n ≤ 9223372036854775807) (w : World) (hG : ErrG w) : Calls Tryz.prog 50 #[.iface 81 (.int .i64 c), .int .i64 n] w fun e w' => e = .returned (fltV c n) ∧ Below w.heap.size w w' := by
  have HG := Aside0.mk hG
  clear hG
  have HW := Aside0.mk (show IntKind.i64.wrap (0 + n) = n from by rw [IntKind.wrap_i64]; omega)
  have HW2 := Aside0.mk (show wrap64 n = n from IntWalk.wrap64_in _ (by omega))
  clear hn
  go_enter Tryz.func50, Tryz.ntmps50
  go_wp2_with fail
  refine (code_C c _ HG.out).mono ?_
  rintro e w1 ⟨rfl, hb⟩
  have HG1 := Aside0.mk (errg_step HG.out hb)
  have HB := Aside0.mk hb
  clear hb
  go_wp2_with fail
  refine (at_C c _ HG1.out).mono ?_
  rintro e w2 ⟨rfl, hb⟩
  have HB2 := Aside0.mk (below_step HB.out hb)
  clear hb
  go_wp2_with fail
  refine (new_any c _ _).mono ?_
  rintro e w3 ⟨rfl, rfl⟩
  go_wp2
  go_ret
  exact ⟨by first | rfl | simp [HW2.out], HB2.out⟩
theorem shift_F (c m n : Int) (hn : -4611686018427387904 ≤ m ∧ m ≤ 4611686018427387903 ∧ 0 ≤ n ∧ n ≤ 4611686018427387903) (w : World) (hG : ErrG w) : Calls Tryz.prog 50 #[fltV c m, .int .i64 n] w fun e w' => e = .returned (fltV c (m + n)) ∧ Below w.heap.size w w' := by
  have HG := Aside0.mk hG
  clear hG
  have hw : IntKind.i64.wrap (m + n) = m + n := by rw [IntKind.wrap_i64]; omega
  clear hn
  go_enter Tryz.func50, Tryz.ntmps50
  go_wp2_with fail
  refine (code_F c m _ HG.out).mono ?_
  rintro e w1 ⟨rfl, hb⟩
  have HG1 := Aside0.mk (errg_step HG.out hb)
  have HB := Aside0.mk hb
  clear hb
  go_wp2_with fail
  refine (at_F c m _ HG1.out).mono ?_
  rintro e w2 ⟨rfl, hb⟩
  have HB2 := Aside0.mk (below_step HB.out hb)
  clear hb
  go_wp2_with fail
  refine (new_any c _ _).mono ?_
  rintro e w3 ⟨rfl, rfl⟩
  go_wp2
  go_ret
  exact ⟨rfl, HB2.out⟩
abbrev zc : Array Value := #[.string ⟨#[]⟩, .string ⟨#[]⟩, .string ⟨#[]⟩, .string ⟨#[]⟩, .string ⟨#[]⟩, .string ⟨#[]⟩]
abbrev rowc (x : Tp) : Array Value := #[.string x.a, .string x.b, .string x.c, .string x.d, .string x.e, .string x.f]
/-- The result's block behind the store. -/
theorem fin_row {w : World} {g : Nat} (h : w.heap[g]? = some (.cells zc 32 (0, 0))) (x : Tp) :
    ((((((w.setCell ⟨g, 0, none⟩ (.string x.a)).setCell ⟨g, 1, none⟩ (.string x.b)).setCell ⟨g, 2, none⟩ (.string x.c)).setCell ⟨g, 3, none⟩ (.string x.d)).setCell ⟨g, 4, none⟩ (.string x.e)).setCell ⟨g, 5, none⟩ (.string x.f)).heap[g]? = some (.cells (rowc x) 32 (0, 0)) :=
  blk_set (blk_set (blk_set (blk_set (blk_set (blk_set h 0 _) 1 _) 2 _) 3 _) 4 _) 5 _
theorem fin_below {w0 w : World} {g B : Nat} (hB : B ≤ g) (h : Below B w0 w) (x : Tp) :
    Below B w0 ((((((w.setCell ⟨g, 0, none⟩ (.string x.a)).setCell ⟨g, 1, none⟩ (.string x.b)).setCell ⟨g, 2, none⟩ (.string x.c)).setCell ⟨g, 3, none⟩ (.string x.d)).setCell ⟨g, 4, none⟩ (.string x.e)).setCell ⟨g, 5, none⟩ (.string x.f)) :=
  (((((h.setCell (p := ⟨g, 0, none⟩) hB _).setCell (p := ⟨g, 1, none⟩) hB _).setCell (p := ⟨g, 2, none⟩) hB _).setCell (p := ⟨g, 3, none⟩) hB _).setCell (p := ⟨g, 4, none⟩) hB _).setCell (p := ⟨g, 5, none⟩) hB _
end Go.Proofs.YtlbbhgmpiednfaaGreatDoor.HTupG
