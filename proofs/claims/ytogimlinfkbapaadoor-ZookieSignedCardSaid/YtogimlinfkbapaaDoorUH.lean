/- The zookie's value; check, the reference's Check. -/
import Derived.Test.YtogimlinfkbapaaDoorUB
import Derived.Test.YtogimlinfkbapaaDoorUD
import Derived.Test.YtogimlinfkbapaaDoorUF
import Derived.Test.YtogimlinfkbapaaDoorUE
import Derived.Deep.Cut
namespace Go.Proofs.YtogimlinfkbapaaDoor.HZook
open Go.RowKit Go.Proofs.YtogimlinfkbapaaDoorW.PrintWords Go.Proofs.YtogimlinfkbapaaDoor.HLib Go.Proofs.YtogimlinfkbapaaDoor.HSha Go.Proofs.YtogimlinfkbapaaDoor.HShaU
set_option linter.unusedVariables false
set_option linter.unusedSimpArgs false

abbrev zkC (v r : Int) (d : List Int) : Array Value := (.int .u8 v :: .int .u64 r :: nums .u8 d).toArray
abbrev zk (v r : Int) (d : List Int) : Value := .agg (zkC v r d)
theorem size_zk : (Tryd.prog.info? 26).map (·.size) = some 34 := by kernel_rfl
theorem zk_load {w : World} {g : Nat} {v r : Int} {d : List Int} (h : w.heap[g]? = some (.cells (zkC v r d) 26 (0, 0))) (hd : d.length = 32) :
    (Instr.loadAt 26 (.pointer (some ⟨g, 0, none⟩))).run Tryd.prog w = .ok (zk v r d) w := by
  simp only [Instr.loadAt, Instr.sureAddr, Sem.run_bind, Sem.run_pure, Result.andThen_ok]
  exact run_loadVar_row w g 26 26 _ (0, 0) _ h Tryd.underlying26 rfl (by rw [size_zk]; simp [nums, hd])
theorem zk_store {w : World} {g : Nat} {c0 : Array Value} {v r : Int} {d : List Int} (h : w.heap[g]? = some (.cells c0 26 (0, 0))) (h0 : c0.size = 34) (hd : d.length = 32) :
    (Instr.storeAt 26 (.pointer (some ⟨g, 0, none⟩)) (zk v r d)).run Tryd.prog w = .ok () (w.setRow g (zkC v r d)) := by
  simp only [Instr.storeAt, Instr.sureAddr, Sem.run_bind, Sem.run_pure, Result.andThen_ok]
  exact run_storeVar_row w g 26 26 _ _ h (by rw [size_zk]; simp [nums, hd]) (by simp [nums, hd, h0]) (by simp [nums, Value.oneCell'])
theorem zk_row {w : World} {g : Nat} {c0 : Array Value} (h : w.heap[g]? = some (.cells c0 26 (0, 0))) (v r : Int) (d : List Int) : (w.setRow g (zkC v r d)).heap[g]? = some (.cells (zkC v r d) 26 (0, 0)) := setRow_heap w g _ _ 26 (0, 0) h
theorem results_c2 {fn : Func} {p q : Tmp} (h : fn.results = #[.cell p 26, .tmp q]) (tmps : Array Value) (w : World) (g : Nat) (cs : Array Value)
    (hp : tmps.getD p undef = .pointer (some ⟨g, 0, none⟩)) (hg : w.heap[g]? = some (.cells cs 26 (0, 0))) (hs : cs.size = 34) :
    (results fn tmps).run Tryd.prog w = .ok (.tuple #[.agg cs, tmps.getD q undef]) w := by
  have hp' : tmps[p]?.getD undef = .pointer (some ⟨g, 0, none⟩) := by simpa using hp
  simp [results, h, hp', asAddr, run_loadVar_row w g 26 26 cs (0, 0) _ hg Tryd.underlying26 rfl (by rw [size_zk, hs])]
theorem results_c3 {fn : Func} {p q s : Tmp} (h : fn.results = #[.cell p 26, .tmp q, .tmp s]) (tmps : Array Value) (w : World) (g : Nat) (cs : Array Value)
    (hp : tmps.getD p undef = .pointer (some ⟨g, 0, none⟩)) (hg : w.heap[g]? = some (.cells cs 26 (0, 0))) (hs : cs.size = 34) :
    (results fn tmps).run Tryd.prog w = .ok (.tuple #[.agg cs, tmps.getD q undef, tmps.getD s undef]) w := by
  have hp' : tmps[p]?.getD undef = .pointer (some ⟨g, 0, none⟩) := by simpa using hp
  simp [results, h, hp', asAddr, run_loadVar_row w g 26 26 cs (0, 0) _ hg Tryd.underlying26 rfl (by rw [size_zk, hs])]
def chk (v r : Int) : Int := if v ≠ 1 then 13 else if 9223372036854775807 < r then 15 else 0
def codeV (c : Int) : Value := if c = 0 then .nilIface else .iface 35 (.int .i64 c)

theorem check_any (v r : Int) (d : List Int) (hd : d.length = 32) (w : World) : Calls Tryd.prog 22 #[zk v r d] w fun e w' => e = .returned (codeV (chk v r)) ∧ Below w.heap.size w w' := by
  have HD := Aside0.mk hd
  clear hd
  by_cases c1 : v = 1
  · subst c1
    by_cases c2 : 9223372036854775807 < r
    · have d2 : decide (9223372036854775807 < r) = true := decide_eq_true c2
      go_enter Tryd.func22, Tryd.ntmps22
      go_wp2
      go_ret
      exact ⟨by simp [codeV, chk, c2], below_alloc (B0 w) _⟩
    · have d2 : decide (9223372036854775807 < r) = false := decide_eq_false c2
      go_enter Tryd.func22, Tryd.ntmps22
      go_wp2
      go_ret
      exact ⟨by simp [codeV, chk, c2], below_alloc (B0 w) _⟩
  · have d1 : (v == 1) = false := by simpa using c1
    go_enter Tryd.func22, Tryd.ntmps22
    go_wp2
    go_ret
    exact ⟨by simp [codeV, chk, c1], below_alloc (B0 w) _⟩
theorem refcheck_any (v r : Int) (d : List Int) (hd : d.length = 32) (w : World) : Calls Tryd.prog 11 #[zk v r d] w fun e w' => e = .returned (.int .i64 (chk v r)) ∧ Below w.heap.size w w' := by
  have HD := Aside0.mk hd
  clear hd
  by_cases c1 : v = 1
  · subst c1
    by_cases c2 : 9223372036854775807 < r
    · have d2 : decide (9223372036854775808 ≤ r) = true := decide_eq_true (by omega)
      go_enter Tryd.func11, Tryd.ntmps11
      go_wp2
      go_ret
      exact ⟨by simp [chk, c2], below_alloc (B0 w) _⟩
    · have d2 : decide (9223372036854775808 ≤ r) = false := decide_eq_false (by omega)
      go_enter Tryd.func11, Tryd.ntmps11
      go_wp2
      go_ret
      exact ⟨by simp [chk, c2], below_alloc (B0 w) _⟩
  · have d1 : (v == 1) = false := by simpa using c1
    go_enter Tryd.func11, Tryd.ntmps11
    go_wp2
    go_ret
    exact ⟨by simp [chk, c1], below_alloc (B0 w) _⟩
end Go.Proofs.YtogimlinfkbapaaDoor.HZook
/- Errors of a zookie: Shift of a code, the closure of Parse, told. -/
namespace Go.Proofs.YtogimlinfkbapaaDoor.HZookE
open Go.RowKit Go.Proofs.YtogimlinfkbapaaDoorW.PrintWords Go.Proofs.YtogimlinfkbapaaDoor.HLib Go.Proofs.YtogimlinfkbapaaDoor.HSha Go.Proofs.YtogimlinfkbapaaDoor.HShaU Go.Proofs.YtogimlinfkbapaaDoor.HShaS Go.Proofs.YtogimlinfkbapaaDoor.HZook Go.Proofs.YtogimlinfkbapaaDoor.HErr
set_option linter.unusedVariables false
set_option linter.unusedSimpArgs false

abbrev fltV (c n : Int) : Value := .iface 96 (.agg #[.int .i64 c, .int .i64 n])
def errV (c n : Int) : Value := if c = 0 then .nilIface else fltV c n
theorem errg_step {w w1 : World} (h : ErrG w) (hb : Below w.heap.size w w1) : ErrG w1 := h.below hb h.1
theorem shift_C (c n : Int) (hn : 0 ≤ n ∧ n ≤ 9223372036854775807) (w : World) (hG : ErrG w) : Calls Tryd.prog 29 #[.iface 35 (.int .i64 c), .int .i64 n] w fun e w' => e = .returned (fltV c n) ∧ Below w.heap.size w w' := by
  have HG := Aside0.mk hG
  clear hG
  have HW := Aside0.mk (show IntKind.i64.wrap (0 + n) = n from by rw [IntKind.wrap_i64]; omega)
  have HW2 := Aside0.mk (show wrap64 n = n from IntWalk.wrap64_in _ (by omega))
  clear hn
  go_enter Tryd.func29, Tryd.ntmps29
  go_wp2_with fail
  refine (code_C c _ HG.out).mono ?_
  rintro e w1 ⟨rfl, hb⟩
  have HG1 := Aside0.mk (errg_step HG.out hb)
  have HB := Aside0.mk hb
  clear hb
  go_wp2_with fail
  refine (at_C c _ HG1.out).mono ?_
  rintro e w2 ⟨rfl, hb⟩
  have HB2 := Aside0.mk (below_step HB.out hb)
  clear hb
  go_wp2_with fail
  refine (new_any c _ _).mono ?_
  rintro e w3 ⟨rfl, rfl⟩
  go_wp2
  go_ret
  exact ⟨by first | rfl | simp [HW2.out], HB2.out⟩
theorem told_nil (n : Int) (w : World) : Calls Tryd.prog 18 #[.nilIface, .int .i64 0, .int .i64 n] w fun e w' => e = .returned (.bool true) ∧ Below w.heap.size w w' := by
  go_enter Tryd.func18, Tryd.ntmps18
  go_wp2
  go_ret
  exact ⟨rfl, B0 w⟩
theorem told_F (c n : Int) (hc : c ≠ 0) (w : World) (hG : ErrG w) : Calls Tryd.prog 18 #[fltV c n, .int .i64 c, .int .i64 n] w fun e w' => e = .returned (.bool true) ∧ Below w.heap.size w w' := by
  have HG := Aside0.mk hG
  clear hG
  have c1 : (c == 0) = false := by simpa using hc
  clear hc
  go_enter Tryd.func18, Tryd.ntmps18
  go_wp2_with fail
  refine (code_F c n _ HG.out).mono ?_
  rintro e w1 ⟨rfl, hb⟩
  have HG1 := Aside0.mk (errg_step HG.out hb)
  have HB := Aside0.mk hb
  clear hb
  go_wp2_with fail
  refine (at_F c n _ HG1.out).mono ?_
  rintro e w2 ⟨rfl, hb⟩
  have HB2 := Aside0.mk (below_step HB.out hb)
  clear hb
  go_wp2
  go_ret
  exact ⟨by simp, HB2.out⟩
theorem told_any (c n : Int) (w : World) (hG : ErrG w) : Calls Tryd.prog 18 #[errV c n, .int .i64 c, .int .i64 n] w fun e w' => e = .returned (.bool true) ∧ Below w.heap.size w w' := by
  by_cases h : c = 0
  · subst h; exact told_nil n w
  · rw [errV, if_neg h]; exact told_F c n h w hG
abbrev Z0 : Value := zk 0 0 (List.replicate 32 0)
abbrev Z0C : Array Value := zkC 0 0 (List.replicate 32 0)
set_option maxRecDepth 20000 in
theorem fail_C (c n : Int) (hn : 0 ≤ n ∧ n ≤ 9223372036854775807) (w : World) (hG : ErrG w) : Calls Tryd.prog 28 #[.iface 35 (.int .i64 c), .int .i64 n] w fun e w' => e = .returned (.tuple #[Z0, fltV c n]) ∧ Below w.heap.size w w' := by
  have HN := Aside0.mk hn
  have HB := Aside0.mk (show Below w.heap.size w (w.alloc (.cells Z0C 26)) from below_alloc (B0 w) _)
  have F := Aside0.mk (show (w.alloc (.cells Z0C 26)).heap[w.heap.size]? = some (.cells Z0C 26 (0, 0)) from blk_new w _)
  have HG := Aside0.mk (errg_step hG HB.out)
  clear hn hG
  go_enter Tryd.func28, Tryd.ntmps28
  go_wp2_with fail
  generalize hz : (#[.int .u8 0, .int .u64 0, .int .u8 0, .int .u8 0, .int .u8 0, .int .u8 0, .int .u8 0, .int .u8 0, .int .u8 0, .int .u8 0, .int .u8 0, .int .u8 0, .int .u8 0, .int .u8 0, .int .u8 0, .int .u8 0, .int .u8 0, .int .u8 0, .int .u8 0, .int .u8 0, .int .u8 0, .int .u8 0, .int .u8 0, .int .u8 0, .int .u8 0, .int .u8 0, .int .u8 0, .int .u8 0, .int .u8 0, .int .u8 0, .int .u8 0, .int .u8 0, .int .u8 0, .int .u8 0] : Array Value) = zc
  have HZ := Aside0.mk (show zc = Z0C from hz.symm.trans rfl)
  clear hz
  rw [← HZ.out] at HB F HG
  refine (shift_C c n HN.out _ HG.out).mono ?_
  rintro e w1 ⟨rfl, hb⟩
  have HB1 := Aside0.mk (below_step HB.out hb)
  have F1 := Aside0.mk ((hb.block w.heap.size (by simp)).trans F.out)
  have HST := Aside0.mk (show (Instr.storeAt 26 (.pointer (some ⟨w.heap.size, 0, none⟩)) (.agg zc)).run Tryd.prog w1 = .ok () (w1.setRow w.heap.size zc) from by rw [HZ.out]; exact zk_store (v := 0) (r := 0) (d := List.replicate 32 0) F1.out (by rw [HZ.out]; rfl) rfl)
  have HRW := Aside0.mk (show (w1.setRow w.heap.size zc).heap[w.heap.size]? = some (.cells zc 26 (0, 0)) from by rw [HZ.out]; exact zk_row F1.out 0 0 _)
  clear hb F HG HB
  rename_i _ _ _ _ hK
  refine hK _ _ ?_
  clear hK
  refine store_event rfl (t := 26) (p := 4) (v := .tmp 6) rfl rfl (w1 := w1.setRow w.heap.size zc) ?hr ?_
  case hr => exact run_store_of rfl HST.out
  intro w5 hw5
  subst hw5
  go_wp2
  refine bodyPost_ret (v := .tuple #[.agg zc, fltV c n]) ?_ ?_ ?_
  · exact results_c2 (p := 4) (q := 5) rfl _ _ w.heap.size zc rfl HRW.out (by rw [HZ.out]; rfl)
  · rfl
  · exact ⟨by rw [HZ.out], below_row HB1.out (Nat.le_refl _) _⟩
end Go.Proofs.YtogimlinfkbapaaDoor.HZookE
/- zookie.Payload. -/
namespace Go.Proofs.YtogimlinfkbapaaDoor.HZookP
open Go.RowKit Go.Proofs.YtogimlinfkbapaaDoorW.PrintWords Go.Proofs.YtogimlinfkbapaaDoor.HLib Go.Proofs.YtogimlinfkbapaaDoor.HSha Go.Proofs.YtogimlinfkbapaaDoor.HZook Go.Proofs.YtogimlinfkbapaaDoor.HWire Go.Proofs.YtogimlinfkbapaaDoor.HWireS Go.Proofs.YtogimlinfkbapaaDoor.HPut Go.Proofs.YtogimlinfkbapaaDoor.HJoin Go.Proofs.YtogimlinfkbapaaDoor.HShaU Go.Proofs.YtogimlinfkbapaaDoor.HShaB
set_option linter.unusedVariables false
set_option linter.unusedSimpArgs false

def payP (r : Nat) (d : List Int) : List Int := 1 :: (enc r ++ d)
theorem payP_cat (r : Nat) (d : List Int) : cat [[1], enc r, d] = payP r d := by simp [cat, payP]
theorem enc_len : ∀ (k x : Nat), x < 128 ^ (k + 1) → (enc x).length ≤ k + 1 := by
  intro k
  induction k with
  | zero =>
    intro x h
    rw [enc, if_pos (by simpa using h)]
    simp
  | succ k ih =>
    intro x h
    rw [enc]
    split
    · simp
    · rw [List.length_cons]
      have := ih (x / 128) (by rw [Nat.pow_succ] at h; omega)
      omega
theorem enc_byte : ∀ (x : Nat), ∀ b ∈ enc x, 0 ≤ b ∧ b < 256 := by
  intro x
  induction x using Nat.strongRecOn with
  | ind x ih =>
    intro b hb
    rw [enc] at hb
    split at hb
    · rw [List.mem_singleton.1 hb]; omega
    · rcases List.mem_cons.1 hb with h | h
      · rw [h]; omega
      · exact ih _ (by omega) b h
theorem pay_len (r : Nat) (d : List Int) (hd : d.length = 32) (hr : r < 18446744073709551616) : (payP r d).length ≤ 43 := by
  have := enc_len 9 r (by omega)
  simp only [payP, List.length_cons, List.length_append]
  omega
theorem dig_C {w : World} {g : Nat} {v r : Int} {d : List Int} (h : w.heap[g]? = some (.cells (zkC v r d) 26 (0, 0))) (hd : d.length = 32) : (Kd.int .u8).C w (some ⟨g, 2, none⟩) d.length d := by
  refine Kd.C_of_reads (d := (0 : Int)) (readsInt_of.1 ⟨rfl, by omega, fun _ => ⟨_, rfl, fun j hj => ?_⟩⟩)
  have e : (⟨g, 2, none⟩ : Addr).add j = ⟨g, 2 + j, none⟩ := by unfold Addr.add; split <;> simp_all
  rw [e]
  have hs : (zkC v r d).toList[2 + j]? = some (.int .u8 (d.getD j 0)) := by
    rw [show 2 + j = j + 1 + 1 from by omega]
    simp [zkC, nums, List.getElem?_eq_getElem hj, List.getD_eq_getElem?_getD]
  simp only [World.cell?, h]
  rw [← Array.getElem?_toList]
  exact hs
set_option maxRecDepth 20000 in
theorem payload_bad (v r : Int) (d : List Int) (hd : d.length = 32) (hc : chk v r ≠ 0) (w : World) : Calls Tryd.prog 9 #[zk v r d] w fun e w' => e = .returned (.tuple #[.slice none 0 0, .bool false]) ∧ Below w.heap.size w w' := by
  have HD := Aside0.mk hd
  have HC := Aside0.mk hc
  clear hd hc
  have HL := Aside0.mk (zk_load (blk_new w _) HD.out : (Instr.loadAt 26 (.pointer (some ⟨w.heap.size, 0, none⟩))).run Tryd.prog (w.alloc (.cells (zkC v r d) 26)) = _)
  go_enter Tryd.func9, Tryd.ntmps9
  go_wp2_with (refine load_ev (t := 26) (p := .tmp 1) rfl rfl HL.out ?_)
  refine (check_any v r d HD.out _).mono ?_
  rintro e w1 ⟨rfl, hb⟩
  have HB := Aside0.mk (below_step (below_alloc (B0 w) _) hb)
  rw [codeV, if_neg HC.out]
  clear hb HL
  go_wp2
  go_ret2
  exact ⟨rfl, HB.out⟩
set_option maxRecDepth 20000 in
set_option maxHeartbeats 4000000 in
theorem payload_good (r : Nat) (d : List Int) (hd : d.length = 32) (hr : r < 9223372036854775808) (w : World) : Calls Tryd.prog 9 #[zk 1 r d] w fun e w' => ∃ v, e = .returned (.tuple #[v, .bool true]) ∧ Bs w' v (payP r d) ∧ Below w.heap.size w w' := by
  have HD := Aside0.mk hd
  have HR := Aside0.mk hr
  clear hd hr
  have HL := Aside0.mk (zk_load (blk_new w _) HD.out : (Instr.loadAt 26 (.pointer (some ⟨w.heap.size, 0, none⟩))).run Tryd.prog (w.alloc (.cells (zkC 1 r d) 26)) = _)
  go_enter Tryd.func9, Tryd.ntmps9
  go_wp2_with (refine load_ev (t := 26) (p := .tmp 1) rfl rfl HL.out ?_)
  refine (check_any 1 r d HD.out _).mono ?_
  rintro e w1 ⟨rfl, hb⟩
  have HB := Aside0.mk (below_step (below_alloc (B0 w) _) hb)
  have F := Aside0.mk ((hb.block w.heap.size (by simp)).trans (blk_new w _))
  rw [codeV, if_pos (by rw [chk, if_neg (by decide), if_neg (by have := HR.out; omega)])]
  clear hb HL
  go_wp2
  refine wp_region_held_drew (S := fun w' => Below w1.heap.size w1 w') (by kernel_rfl) (below_drew1 (B0 w1)) (fun hHeld => ?_)
  generalize w1.drew = wd at hHeld ⊢
  refine wpAnyH_take (i := 0) (v := .pointer (some ⟨w.heap.size, 0, none⟩)) rfl (by kernel_rfl) (by kernel_rfl) (by kernel_rfl) (fun _ _ _ h => h) (Or.inl ⟨by rfl, ?hy0⟩) hHeld ?_
  case hy0 => intro w' hSw; go_simp
  simp only [List.getElem_toArray, List.getElem_cons_succ, List.getElem_cons_zero, Act.put, List.setIfInBounds_toArray, List.set_cons_zero, List.set_cons_succ]
  refine wpAnyH_take (i := 1) (v := .int .u8 1) rfl (by kernel_rfl) (by kernel_rfl) (by kernel_rfl) (fun _ _ _ h => h) (Or.inl ⟨by rfl, ?hy1⟩) hHeld ?_
  case hy1 => intro w' hSw; have cc : w'.cell? ⟨w.heap.size, 0, none⟩ = some (.int .u8 1) := (blk_cell (blk_below F.out hSw) 0).trans (show _ = some _ from rfl); go_simp
  simp only [List.getElem_toArray, List.getElem_cons_succ, List.getElem_cons_zero, Act.put, List.setIfInBounds_toArray, List.set_cons_zero, List.set_cons_succ]
  refine wpAnyH_take (i := 3) (v := .pointer (some ⟨w.heap.size, 1, none⟩)) rfl (by kernel_rfl) (by kernel_rfl) (by kernel_rfl) (fun _ _ _ h => h) (Or.inl ⟨by rfl, ?hy3⟩) hHeld ?_
  case hy3 => intro w' hSw; go_simp
  simp only [List.getElem_toArray, List.getElem_cons_succ, List.getElem_cons_zero, Act.put, List.setIfInBounds_toArray, List.set_cons_zero, List.set_cons_succ]
  refine wpAnyH_take (i := 4) (v := .int .u64 r) rfl (by kernel_rfl) (by kernel_rfl) (by kernel_rfl) (fun _ _ _ h => h) (Or.inl ⟨by rfl, ?hy4⟩) hHeld ?_
  case hy4 => intro w' hSw; have cc : w'.cell? ⟨w.heap.size, 1, none⟩ = some (.int .u64 r) := (blk_cell (blk_below F.out hSw) 1).trans (show _ = some _ from rfl); go_simp
  simp only [List.getElem_toArray, List.getElem_cons_succ, List.getElem_cons_zero, Act.put, List.setIfInBounds_toArray, List.set_cons_zero, List.set_cons_succ]
  refine wpAnyH_take (i := 6) (v := .pointer (some ⟨w.heap.size, 2, none⟩)) rfl (by kernel_rfl) (by kernel_rfl) (by kernel_rfl) (fun _ _ _ h => h) (Or.inl ⟨by rfl, ?hy6⟩) hHeld ?_
  case hy6 => intro w' hSw; go_simp
  simp only [List.getElem_toArray, List.getElem_cons_succ, List.getElem_cons_zero, Act.put, List.setIfInBounds_toArray, List.set_cons_zero, List.set_cons_succ]
  refine wpAnyH_take (i := 7) (v := .slice (some ⟨w.heap.size, 2, none⟩) 32 32) rfl (by kernel_rfl) (by kernel_rfl) (by kernel_rfl) (fun _ _ _ h => h) (Or.inl ⟨by rfl, ?hy7⟩) hHeld ?_
  case hy7 => intro w' hSw; go_simp
  simp only [List.getElem_toArray, List.getElem_cons_succ, List.getElem_cons_zero, Act.put, List.setIfInBounds_toArray, List.set_cons_zero, List.set_cons_succ]
  refine wpAnyH_ready (rs := [2, 5]) (by kernel_rfl) (by simp) ?_
  refine AllReadyH.cons rfl (fun K hK => ?_) (AllReadyH.cons rfl (fun K hK => ?_) AllReadyH.nil)
  · simp only [List.getElem_toArray, List.getElem_cons_succ, List.getElem_cons_zero]
    rw [if_pos (by rfl)]
    go_simp
    obtain ⟨x1, hx⟩ : ∃ u, u = wd.alloc (.cells #[.int .u8 1] 5) := ⟨_, rfl⟩
    rw [← hx]
    have hbx : Below wd.heap.size wd x1 := by rw [hx]; exact below_alloc (B0 wd) _
    have hl : x1.heap[wd.heap.size]? = some (.cells (nums .u8 [1]).toArray 5 (0, 0)) := by rw [hx]; exact blk_new wd _
    have hlc := bytes_C hl (by decide)
    clear hx hl
    refine hK.out _ _ (hHeld.trans (hbx.mono hHeld.size)) (fun hHeld => ?_)
    clear hK K
    clear hbx
    refine wpAnyH_ready (rs := [5]) (by kernel_rfl) (by simp) ?_
    refine AllReadyH.cons rfl (fun K hK => ?_) AllReadyH.nil
    simp only [List.getElem_toArray, List.getElem_cons_succ, List.getElem_cons_zero]
    rw [if_pos (by rfl)]
    go_simp
    refine (put_any x1 r (by have := HR.out; omega)).mono ?_
    rintro e x2 ⟨v2, rfl, hR2, hbx⟩
    obtain ⟨A2, c2, rfl, hl2, hp, hn2⟩ := Bs.of_R hR2
    clear hR2 hn2
    refine hK.out _ _ (hHeld.trans (hbx.mono hHeld.size)) (fun hHeld => ?_)
    clear hK K
    have hlc := Kd.C_below hlc hbx
    clear hbx
    refine wpAnyH_ready (rs := [8]) (by kernel_rfl) (by simp) ?_
    refine AllReadyH.cons rfl (fun K hK => ?_) AllReadyH.nil
    simp only [List.getElem_toArray, List.getElem_cons_succ, List.getElem_cons_zero]
    rw [if_pos (by rfl)]
    go_simp
    obtain ⟨x3, hx⟩ : ∃ u, u = x2.alloc (.cells #[.slice (some ⟨wd.heap.size, 0, none⟩) 1 1, .slice A2 (enc r).length c2, .slice (some ⟨w.heap.size, 2, none⟩) 32 32] 22) := ⟨_, rfl⟩
    rw [← hx]
    have hbx : Below x2.heap.size x2 x3 := by rw [hx]; exact below_alloc (B0 x2) _
    have hf : x3.heap[x2.heap.size]? = some (.cells ([.slice (some ⟨wd.heap.size, 0, none⟩) 1 1, .slice A2 (enc r).length c2, .slice (some ⟨w.heap.size, 2, none⟩) 32 32] : List Value).toArray 22 (0, 0)) := by rw [hx]; exact blk_new x2 _
    have hlc := Kd.C_below hlc hbx
    have hp := Kd.C_below hp hbx
    have hfar := hHeld.trans (hbx.mono hHeld.size)
    have hdc := dig_C (blk_below F.out hfar) HD.out
    clear hx
    have hkb : KB.C x3 (some ⟨x2.heap.size, 0, none⟩) [[1], enc r, d].length [[1], enc r, d] := by
      refine KB_list hf rfl (by simp) ?_
      intro i v xs h1 h2
      rcases i with _ | _ | _ | i
      · simp at h1 h2; subst h1 h2; exact ⟨_, _, rfl, Nat.le_refl _, hlc⟩
      · simp at h1 h2; subst h1 h2; exact ⟨A2, c2, rfl, hl2, hp⟩
      · simp at h1 h2; subst h1 h2; exact ⟨_, 32, by rw [HD.out], by rw [HD.out]; exact Nat.le_refl _, hdc⟩
      · simp at h1
    refine hK.out _ _ hfar (fun hHeld => ?_)
    clear hK K hlc hp hdc hf hfar hbx
    refine wpAnyH_ready (rs := [9]) (by kernel_rfl) (by simp) ?_
    refine AllReadyH.cons rfl (fun K hK => ?_) AllReadyH.nil
    simp only [List.getElem_toArray, List.getElem_cons_succ, List.getElem_cons_zero]
    rw [if_pos (by rfl)]
    go_simp
    have hpl := pay_len r d HD.out (by have := HR.out; omega)
    refine (join_any x3 _ 3 [[1], enc r, d] hkb (by rw [payP_cat]; omega) (by simp)).mono ?_
    rintro e x4 ⟨v4, rfl, hR4, hbx⟩
    rw [payP_cat] at hR4
    have HB4 := Aside0.mk (Bs.of_R hR4)
    clear hR4 hkb hpl
    refine hK.out _ _ (hHeld.trans (hbx.mono hHeld.size)) (fun hHeld => ?_)
    clear hK K hbx
    refine wpAnyH_take (i := 10) (v := v4) rfl (by kernel_rfl) (by kernel_rfl) (by kernel_rfl) (fun _ _ _ h => h) (Or.inl ⟨by rfl, ?hy10⟩) hHeld ?_
    case hy10 => intro w' hSw; go_simp
    simp only [List.getElem_toArray, List.getElem_cons_succ, List.getElem_cons_zero, Act.put, List.setIfInBounds_toArray, List.set_cons_zero, List.set_cons_succ]
    refine wpAnyH_take (i := 11) (v := .bool true) rfl (by kernel_rfl) (by kernel_rfl) (by kernel_rfl) (fun _ _ _ h => h) (Or.inl ⟨by rfl, ?hy11⟩) hHeld ?_
    case hy11 => intro w' hSw; go_simp
    simp only [List.getElem_toArray, List.getElem_cons_succ, List.getElem_cons_zero, Act.put, List.setIfInBounds_toArray, List.set_cons_zero, List.set_cons_succ]
    refine wpAnyH_done (by kernel_rfl) ?_ _
    have HBF := Aside0.mk (below_step HB.out hHeld)
    clear hHeld
    go_wp2
    go_ret2
    exact ⟨v4, rfl, HB4.out, HBF.out⟩
  · simp only [List.getElem_toArray, List.getElem_cons_succ, List.getElem_cons_zero]
    rw [if_pos (by rfl)]
    go_simp
    refine (put_any wd r (by have := HR.out; omega)).mono ?_
    rintro e x1 ⟨v2, rfl, hR2, hbx⟩
    obtain ⟨A2, c2, rfl, hl2, hp, hn2⟩ := Bs.of_R hR2
    clear hR2 hn2
    refine hK.out _ _ (hHeld.trans (hbx.mono hHeld.size)) (fun hHeld => ?_)
    clear hK K
    clear hbx
    refine wpAnyH_ready (rs := [2]) (by kernel_rfl) (by simp) ?_
    refine AllReadyH.cons rfl (fun K hK => ?_) AllReadyH.nil
    simp only [List.getElem_toArray, List.getElem_cons_succ, List.getElem_cons_zero]
    rw [if_pos (by rfl)]
    go_simp
    obtain ⟨x2, hx⟩ : ∃ u, u = x1.alloc (.cells #[.int .u8 1] 5) := ⟨_, rfl⟩
    rw [← hx]
    have hbx : Below x1.heap.size x1 x2 := by rw [hx]; exact below_alloc (B0 x1) _
    have hl : x2.heap[x1.heap.size]? = some (.cells (nums .u8 [1]).toArray 5 (0, 0)) := by rw [hx]; exact blk_new x1 _
    have hlc := bytes_C hl (by decide)
    clear hx hl
    refine hK.out _ _ (hHeld.trans (hbx.mono hHeld.size)) (fun hHeld => ?_)
    clear hK K
    have hp := Kd.C_below hp hbx
    clear hbx
    refine wpAnyH_ready (rs := [8]) (by kernel_rfl) (by simp) ?_
    refine AllReadyH.cons rfl (fun K hK => ?_) AllReadyH.nil
    simp only [List.getElem_toArray, List.getElem_cons_succ, List.getElem_cons_zero]
    rw [if_pos (by rfl)]
    go_simp
    obtain ⟨x3, hx⟩ : ∃ u, u = x2.alloc (.cells #[.slice (some ⟨x1.heap.size, 0, none⟩) 1 1, .slice A2 (enc r).length c2, .slice (some ⟨w.heap.size, 2, none⟩) 32 32] 22) := ⟨_, rfl⟩
    rw [← hx]
    have hbx : Below x2.heap.size x2 x3 := by rw [hx]; exact below_alloc (B0 x2) _
    have hf : x3.heap[x2.heap.size]? = some (.cells ([.slice (some ⟨x1.heap.size, 0, none⟩) 1 1, .slice A2 (enc r).length c2, .slice (some ⟨w.heap.size, 2, none⟩) 32 32] : List Value).toArray 22 (0, 0)) := by rw [hx]; exact blk_new x2 _
    have hlc := Kd.C_below hlc hbx
    have hp := Kd.C_below hp hbx
    have hfar := hHeld.trans (hbx.mono hHeld.size)
    have hdc := dig_C (blk_below F.out hfar) HD.out
    clear hx
    have hkb : KB.C x3 (some ⟨x2.heap.size, 0, none⟩) [[1], enc r, d].length [[1], enc r, d] := by
      refine KB_list hf rfl (by simp) ?_
      intro i v xs h1 h2
      rcases i with _ | _ | _ | i
      · simp at h1 h2; subst h1 h2; exact ⟨_, _, rfl, Nat.le_refl _, hlc⟩
      · simp at h1 h2; subst h1 h2; exact ⟨A2, c2, rfl, hl2, hp⟩
      · simp at h1 h2; subst h1 h2; exact ⟨_, 32, by rw [HD.out], by rw [HD.out]; exact Nat.le_refl _, hdc⟩
      · simp at h1
    refine hK.out _ _ hfar (fun hHeld => ?_)
    clear hK K hlc hp hdc hf hfar hbx
    refine wpAnyH_ready (rs := [9]) (by kernel_rfl) (by simp) ?_
    refine AllReadyH.cons rfl (fun K hK => ?_) AllReadyH.nil
    simp only [List.getElem_toArray, List.getElem_cons_succ, List.getElem_cons_zero]
    rw [if_pos (by rfl)]
    go_simp
    have hpl := pay_len r d HD.out (by have := HR.out; omega)
    refine (join_any x3 _ 3 [[1], enc r, d] hkb (by rw [payP_cat]; omega) (by simp)).mono ?_
    rintro e x4 ⟨v4, rfl, hR4, hbx⟩
    rw [payP_cat] at hR4
    have HB4 := Aside0.mk (Bs.of_R hR4)
    clear hR4 hkb hpl
    refine hK.out _ _ (hHeld.trans (hbx.mono hHeld.size)) (fun hHeld => ?_)
    clear hK K hbx
    refine wpAnyH_take (i := 10) (v := v4) rfl (by kernel_rfl) (by kernel_rfl) (by kernel_rfl) (fun _ _ _ h => h) (Or.inl ⟨by rfl, ?hy10⟩) hHeld ?_
    case hy10 => intro w' hSw; go_simp
    simp only [List.getElem_toArray, List.getElem_cons_succ, List.getElem_cons_zero, Act.put, List.setIfInBounds_toArray, List.set_cons_zero, List.set_cons_succ]
    refine wpAnyH_take (i := 11) (v := .bool true) rfl (by kernel_rfl) (by kernel_rfl) (by kernel_rfl) (fun _ _ _ h => h) (Or.inl ⟨by rfl, ?hy11⟩) hHeld ?_
    case hy11 => intro w' hSw; go_simp
    simp only [List.getElem_toArray, List.getElem_cons_succ, List.getElem_cons_zero, Act.put, List.setIfInBounds_toArray, List.set_cons_zero, List.set_cons_succ]
    refine wpAnyH_done (by kernel_rfl) ?_ _
    have HBF := Aside0.mk (below_step HB.out hHeld)
    clear hHeld
    go_wp2
    go_ret2
    exact ⟨v4, rfl, HB4.out, HBF.out⟩
theorem step_if {P : Program} {ops : Array Oper} {o : Oper} {a : Act} {tm : Array Value} {W : World} {Kc : Act → World → Prop} {Q : Exit → Act → World → Prop} (ha : tm = a.tmps) (h : if Region.wanted o (yielded ops a.tmps) = true then Oper.wp P o a W Kc Q else Kc (a.put o.dst undef) W) : if Region.wanted o (yielded ops tm) = true then Oper.wp P o a W Kc Q else Kc (a.put o.dst undef) W := by subst ha; exact h
set_option maxRecDepth 20000 in
set_option maxHeartbeats 4000000 in
theorem refpayload_any (v : Int) (r : Nat) (d : List Int) (hd : d.length = 32) (hr : r < 18446744073709551616) (w : World) : Calls Tryd.prog 15 #[zk v r d] w fun e w' => ∃ u, e = .returned u ∧ Bs w' u (payP r d) ∧ Below w.heap.size w w' := by
  have HD := Aside0.mk hd
  have HR := Aside0.mk hr
  clear hd hr
  obtain ⟨w1, hW⟩ : ∃ u, u = w.alloc (.cells (zkC v r d) 26) := ⟨_, rfl⟩
  have HB := Aside0.mk (show Below w.heap.size w w1 from by rw [hW]; exact below_alloc (B0 w) _)
  have F := Aside0.mk (show w1.heap[w.heap.size]? = some (.cells (zkC v r d) 26 (0, 0)) from by rw [hW]; exact blk_new w _)
  go_enter Tryd.func15, Tryd.ntmps15
  go_wp2
  rw [← hW]
  clear hW
  refine wp_region_held_drew (S := fun w' => Below w1.heap.size w1 w') (by kernel_rfl) (below_drew1 (B0 w1)) (fun hHeld => ?_)
  generalize w1.drew = wd at hHeld ⊢
  refine wpAnyH_take (i := 1) (v := .pointer (some ⟨w.heap.size, 1, none⟩)) rfl (by kernel_rfl) (by kernel_rfl) (by kernel_rfl) (fun _ _ _ h => h) (Or.inl ⟨by rfl, ?hy1⟩) hHeld ?_
  case hy1 => intro w' hSw; go_simp
  simp only [List.getElem_toArray, List.getElem_cons_succ, List.getElem_cons_zero, Act.put, List.setIfInBounds_toArray, List.set_cons_zero, List.set_cons_succ]
  refine wpAnyH_take (i := 2) (v := .int .u64 r) rfl (by kernel_rfl) (by kernel_rfl) (by kernel_rfl) (fun _ _ _ h => h) (Or.inl ⟨by rfl, ?hy2⟩) hHeld ?_
  case hy2 => intro w' hSw; have cc : w'.cell? ⟨w.heap.size, 1, none⟩ = some (.int .u64 r) := (blk_cell (blk_below F.out hSw) 1).trans (show _ = some _ from rfl); go_simp
  simp only [List.getElem_toArray, List.getElem_cons_succ, List.getElem_cons_zero, Act.put, List.setIfInBounds_toArray, List.set_cons_zero, List.set_cons_succ]
  refine wpAnyH_take (i := 5) (v := .pointer (some ⟨w.heap.size, 2, none⟩)) rfl (by kernel_rfl) (by kernel_rfl) (by kernel_rfl) (fun _ _ _ h => h) (Or.inl ⟨by rfl, ?hy5⟩) hHeld ?_
  case hy5 => intro w' hSw; go_simp
  simp only [List.getElem_toArray, List.getElem_cons_succ, List.getElem_cons_zero, Act.put, List.setIfInBounds_toArray, List.set_cons_zero, List.set_cons_succ]
  refine wpAnyH_take (i := 6) (v := .slice (some ⟨w.heap.size, 2, none⟩) 32 32) rfl (by kernel_rfl) (by kernel_rfl) (by kernel_rfl) (fun _ _ _ h => h) (Or.inl ⟨by rfl, ?hy6⟩) hHeld ?_
  case hy6 => intro w' hSw; go_simp
  simp only [List.getElem_toArray, List.getElem_cons_succ, List.getElem_cons_zero, Act.put, List.setIfInBounds_toArray, List.set_cons_zero, List.set_cons_succ]
  refine wpAnyH_ready (rs := [0, 3]) (by kernel_rfl) (by simp) ?_
  refine AllReadyH.cons rfl (fun K hK => ?_) (AllReadyH.cons rfl (fun K hK => ?_) AllReadyH.nil)
  · simp only [List.getElem_toArray, List.getElem_cons_succ, List.getElem_cons_zero]
    rw [if_pos (by rfl)]
    go_simp
    obtain ⟨x1, hx⟩ : ∃ u, u = wd.alloc (.cells #[.int .u8 1] 5) := ⟨_, rfl⟩
    rw [← hx]
    have hbx : Below wd.heap.size wd x1 := by rw [hx]; exact below_alloc (B0 wd) _
    have rr := (show Kd.R (Kd.int .u8) 5 x1 w1.heap.size (fun _ => True) (.slice (some ⟨wd.heap.size, 0, none⟩) 1 1) [1] from by rw [hx]; exact Kd.R_of_own (enc := Value.int .u8) (h1 := fun _ => rfl) (own_lit wd w1.heap.size 5 .u8 [1] hHeld.size (by decide)) (fun _ _ => trivial))
    clear hx
    refine hK.out _ _ (hHeld.trans (hbx.mono hHeld.size)) (fun hHeld => ?_)
    clear hK K
    clear hbx
    refine wpAnyH_ready (rs := [3]) (by kernel_rfl) (by simp) ?_
    refine AllReadyH.cons rfl (fun K hK => ?_) AllReadyH.nil
    simp only [List.getElem_toArray, List.getElem_cons_succ, List.getElem_cons_zero]
    rw [if_pos (by rfl)]
    go_simp
    refine (refput_any x1 r (by have := HR.out; omega)).mono ?_
    rintro e x2 ⟨v2, rfl, hR2, hbx⟩
    obtain ⟨A2, c2, rfl, hl2, hp, hn2⟩ := Bs.of_R hR2
    clear hR2 hn2
    refine hK.out _ _ (hHeld.trans (hbx.mono hHeld.size)) (fun hHeld => ?_)
    clear hK K
    have rr := Kd.R_below rr hbx
    clear hbx
    refine wpAnyH_ready (rs := [4]) (by kernel_rfl) (by simp) ?_
    refine AllReadyH.cons rfl (fun K hK => ?_) AllReadyH.nil
    simp only [List.getElem_toArray, List.getElem_cons_succ, List.getElem_cons_zero]
    have hel : (enc r).length ≤ 10 := enc_len 9 r (by have := HR.out; omega)
    refine step_if (by rfl) (Kd.R_append_rows_step (Kd.int .u8) (w0 := w1) w1.heap.size (by rfl) (.tmp 3) (.tmp 6) 22 5 (.int .u8 0) 1 (by rfl) Tryd.underlying22 info_u8 rfl (by decide) (by decide) (.slice (some ⟨wd.heap.size, 0, none⟩) 1 1) ([1]) (enc r) (A2) _ c2 (fun _ => True) (fun _ => False) (by rfl) (by rfl) rr hp (fun _ _ h => h) (fun _ h => h.elim) (fun _ _ => trivial) hHeld hHeld.size (by simp; omega) ?_)
    intro v3 x3 ho hb hg hat
    have rr := ho
    refine hK.out _ _ hb (fun hHeld => ?_)
    clear hK K ho hb hg hat hp
    refine wpAnyH_ready (rs := [7]) (by kernel_rfl) (by simp) ?_
    refine AllReadyH.cons rfl (fun K hK => ?_) AllReadyH.nil
    simp only [List.getElem_toArray, List.getElem_cons_succ, List.getElem_cons_zero]
    have hdc := dig_C (blk_below F.out hHeld) HD.out
    rw [HD.out] at hdc
    refine step_if (by rfl) (Kd.R_append_rows_step (Kd.int .u8) (w0 := w1) w1.heap.size (by rfl) (.tmp 7) (.tmp 9) 22 5 (.int .u8 0) 1 (by rfl) Tryd.underlying22 info_u8 rfl (by decide) (by decide) (v3) ([1] ++ enc r) (d) (some ⟨w.heap.size, 2, none⟩) 32 32 (fun _ => True) (fun _ => False) (by rfl) (by rfl) rr hdc (fun _ _ h => h) (fun _ h => h.elim) (fun _ _ => trivial) hHeld hHeld.size (by simp; omega) ?_)
    intro v4 x4 ho hb hg hat
    have HB4 := Aside0.mk (show Bs x4 v4 (payP r d) from Bs.of_R ho)
    refine hK.out _ _ hb (fun hHeld => ?_)
    clear hK K ho hb hg hat hdc rr hel
    refine wpAnyH_take (i := 8) (v := v4) rfl (by kernel_rfl) (by kernel_rfl) (by kernel_rfl) (fun _ _ _ h => h) (Or.inl ⟨by rfl, ?hy8⟩) hHeld ?_
    case hy8 => intro w' hSw; go_simp
    simp only [List.getElem_toArray, List.getElem_cons_succ, List.getElem_cons_zero, Act.put, List.setIfInBounds_toArray, List.set_cons_zero, List.set_cons_succ]
    refine wpAnyH_done (by kernel_rfl) ?_ _
    have HBF := Aside0.mk (below_step HB.out hHeld)
    clear hHeld
    go_wp2
    go_ret
    exact ⟨v4, rfl, HB4.out, HBF.out⟩
  · simp only [List.getElem_toArray, List.getElem_cons_succ, List.getElem_cons_zero]
    rw [if_pos (by rfl)]
    go_simp
    refine (refput_any wd r (by have := HR.out; omega)).mono ?_
    rintro e x1 ⟨v2, rfl, hR2, hbx⟩
    obtain ⟨A2, c2, rfl, hl2, hp, hn2⟩ := Bs.of_R hR2
    clear hR2 hn2
    refine hK.out _ _ (hHeld.trans (hbx.mono hHeld.size)) (fun hHeld => ?_)
    clear hK K
    clear hbx
    refine wpAnyH_ready (rs := [0]) (by kernel_rfl) (by simp) ?_
    refine AllReadyH.cons rfl (fun K hK => ?_) AllReadyH.nil
    simp only [List.getElem_toArray, List.getElem_cons_succ, List.getElem_cons_zero]
    rw [if_pos (by rfl)]
    go_simp
    obtain ⟨x2, hx⟩ : ∃ u, u = x1.alloc (.cells #[.int .u8 1] 5) := ⟨_, rfl⟩
    rw [← hx]
    have hbx : Below x1.heap.size x1 x2 := by rw [hx]; exact below_alloc (B0 x1) _
    have rr := (show Kd.R (Kd.int .u8) 5 x2 w1.heap.size (fun _ => True) (.slice (some ⟨x1.heap.size, 0, none⟩) 1 1) [1] from by rw [hx]; exact Kd.R_of_own (enc := Value.int .u8) (h1 := fun _ => rfl) (own_lit x1 w1.heap.size 5 .u8 [1] hHeld.size (by decide)) (fun _ _ => trivial))
    clear hx
    refine hK.out _ _ (hHeld.trans (hbx.mono hHeld.size)) (fun hHeld => ?_)
    clear hK K
    have hp := Kd.C_below hp hbx
    clear hbx
    refine wpAnyH_ready (rs := [4]) (by kernel_rfl) (by simp) ?_
    refine AllReadyH.cons rfl (fun K hK => ?_) AllReadyH.nil
    simp only [List.getElem_toArray, List.getElem_cons_succ, List.getElem_cons_zero]
    have hel : (enc r).length ≤ 10 := enc_len 9 r (by have := HR.out; omega)
    refine step_if (by rfl) (Kd.R_append_rows_step (Kd.int .u8) (w0 := w1) w1.heap.size (by rfl) (.tmp 3) (.tmp 6) 22 5 (.int .u8 0) 1 (by rfl) Tryd.underlying22 info_u8 rfl (by decide) (by decide) (.slice (some ⟨x1.heap.size, 0, none⟩) 1 1) ([1]) (enc r) (A2) _ c2 (fun _ => True) (fun _ => False) (by rfl) (by rfl) rr hp (fun _ _ h => h) (fun _ h => h.elim) (fun _ _ => trivial) hHeld hHeld.size (by simp; omega) ?_)
    intro v3 x3 ho hb hg hat
    have rr := ho
    refine hK.out _ _ hb (fun hHeld => ?_)
    clear hK K ho hb hg hat hp
    refine wpAnyH_ready (rs := [7]) (by kernel_rfl) (by simp) ?_
    refine AllReadyH.cons rfl (fun K hK => ?_) AllReadyH.nil
    simp only [List.getElem_toArray, List.getElem_cons_succ, List.getElem_cons_zero]
    have hdc := dig_C (blk_below F.out hHeld) HD.out
    rw [HD.out] at hdc
    refine step_if (by rfl) (Kd.R_append_rows_step (Kd.int .u8) (w0 := w1) w1.heap.size (by rfl) (.tmp 7) (.tmp 9) 22 5 (.int .u8 0) 1 (by rfl) Tryd.underlying22 info_u8 rfl (by decide) (by decide) (v3) ([1] ++ enc r) (d) (some ⟨w.heap.size, 2, none⟩) 32 32 (fun _ => True) (fun _ => False) (by rfl) (by rfl) rr hdc (fun _ _ h => h) (fun _ h => h.elim) (fun _ _ => trivial) hHeld hHeld.size (by simp; omega) ?_)
    intro v4 x4 ho hb hg hat
    have HB4 := Aside0.mk (show Bs x4 v4 (payP r d) from Bs.of_R ho)
    refine hK.out _ _ hb (fun hHeld => ?_)
    clear hK K ho hb hg hat hdc rr hel
    refine wpAnyH_take (i := 8) (v := v4) rfl (by kernel_rfl) (by kernel_rfl) (by kernel_rfl) (fun _ _ _ h => h) (Or.inl ⟨by rfl, ?hy8⟩) hHeld ?_
    case hy8 => intro w' hSw; go_simp
    simp only [List.getElem_toArray, List.getElem_cons_succ, List.getElem_cons_zero, Act.put, List.setIfInBounds_toArray, List.set_cons_zero, List.set_cons_succ]
    refine wpAnyH_done (by kernel_rfl) ?_ _
    have HBF := Aside0.mk (below_step HB.out hHeld)
    clear hHeld
    go_wp2
    go_ret
    exact ⟨v4, rfl, HB4.out, HBF.out⟩
end Go.Proofs.YtogimlinfkbapaaDoor.HZookP
/- zookie.Parse. -/
namespace Go.Proofs.YtogimlinfkbapaaDoor.HZookR
open Go.RowKit Go.Proofs.YtogimlinfkbapaaDoorW.PrintWords Go.Proofs.YtogimlinfkbapaaDoor.HLib Go.Proofs.YtogimlinfkbapaaDoor.HSha Go.Proofs.YtogimlinfkbapaaDoor.HShaU Go.Proofs.YtogimlinfkbapaaDoor.HShaS Go.Proofs.YtogimlinfkbapaaDoor.HZook Go.Proofs.YtogimlinfkbapaaDoor.HErr Go.Proofs.YtogimlinfkbapaaDoor.HZookE Go.Proofs.YtogimlinfkbapaaDoor.HZookP Go.Proofs.YtogimlinfkbapaaDoor.HWire Go.Proofs.YtogimlinfkbapaaDoor.HWireS Go.Proofs.YtogimlinfkbapaaDoor.HCur
set_option linter.unusedVariables false
set_option linter.unusedSimpArgs false

def prs (l : List Int) : (Int × Int) ⊕ (Int × List Int) :=
  if l = [] then .inl (1, 0) else if l.getD 0 0 ≠ 1 then .inl (13, 0) else
  match num (l.drop 1) with
  | .inl e => .inl (e, 1)
  | .inr (x, n) => if 9223372036854775807 < x then .inl (15, 1) else if l.length < 1 + n + 32 then .inl (1, 1 + (n : Int)) else if 1 + n + 32 < l.length then .inl (16, 1 + (n : Int) + 32) else .inr (x, l.drop (1 + n))
def prsZ : (Int × Int) ⊕ (Int × List Int) → Value
  | .inl _ => Z0
  | .inr (x, d) => zk 1 x d
def prsC : (Int × Int) ⊕ (Int × List Int) → Int
  | .inl (c, _) => c
  | .inr _ => 0
def prsN : (Int × Int) ⊕ (Int × List Int) → Int
  | .inl (_, n) => n
  | .inr _ => 0
theorem zk_cells {w : World} {g : Nat} {c0 c1 : Array Value} (h : w.heap[g]? = some (.cells c0 26 (0, 0))) (h0 : c0.size = 34) (h1 : c1.size = 34) (h2 : c1.all (·.oneCell') = true) :
    (storeCells ⟨g, 0, none⟩ c1.toList).run Tryd.prog w = .ok () (w.setRow g c1) := by
  have := run_storeCells_from (P := Tryd.prog) g 26 c1.toList 0 c0 w h (by simp; omega) (fun v hv => (Array.all_eq_true_iff_forall_mem.1 h2) v (by simpa using hv))
  simpa using this
theorem fail_z {zc : Array Value} (hz : zc = Z0C) (c n : Int) (hn : 0 ≤ n ∧ n ≤ 9223372036854775807) (w : World) (hG : ErrG w) : Calls Tryd.prog 28 #[.iface 35 (.int .i64 c), .int .i64 n] w fun e w' => e = .returned (.tuple #[.agg zc, fltV c n]) ∧ Below w.heap.size w w' := by
  subst hz; exact fail_C c n hn w hG
theorem own_bytes {w : World} {base : Nat} {v : Value} {xs : List Int} (h : Kd.R (Kd.int .u8) 5 w base (fun _ => True) v xs) (hp : 0 < xs.length) : ∃ k c, v = .slice (some ⟨k, 0, none⟩) xs.length c ∧ xs.length ≤ c ∧ w.rangeAt k 0 (nums .u8 xs) := by
  obtain ⟨inner, hown⟩ := Kd.R_own h
  obtain ⟨A', c', e', hc', hC'⟩ := Kd.R_reads h
  have hl : (Kd.int .u8).C w A' xs.length xs := hC'
  obtain ⟨ad, hA, hcell⟩ := HMacS.C_cells hl hp
  rcases hown.2 with ⟨h1, h2⟩ | ⟨g, cap, cur, h1, _⟩
  · rw [h1] at e'; injection e' with q1 _ _; rw [hA] at q1; cases q1
  · rw [h1] at e'
    injection e' with q1 q2 q3
    rw [hA] at q1
    injection q1 with q1
    refine ⟨g, c', by rw [h1, q2, q3], hc', fun j v hj => ?_⟩
    have := hcell j v hj
    rw [← q1] at this
    have e : (⟨g, 0, none⟩ : Addr).add j = ⟨g, 0 + j, none⟩ := by unfold Addr.add; split <;> simp_all
    rw [← e]; exact this

set_option maxRecDepth 20000 in
set_option maxHeartbeats 4000000 in
theorem parse_nil (w : World) (v : Value) (l : List Int) (hv : Bs w v l) (hl : l.length ≤ 140737488355000) (hby : ∀ x ∈ l, 0 ≤ x ∧ x < 256) (hG : ErrG w) (h0 : l = []) :
    Calls Tryd.prog 12 #[v] w fun e w' => e = .returned (.tuple #[Z0, fltV 1 0]) ∧ Below w.heap.size w w' := by
  have HV := Aside0.mk hv
  have HL := Aside0.mk hl
  have HBY := Aside0.mk hby
  have HG := Aside0.mk hG
  have H0 := Aside0.mk h0
  clear hv hl hby hG h0
  go_enter Tryd.func12, Tryd.ntmps12
  go_wp2_with fail
  generalize hz : (#[.int .u8 0, .int .u64 0, .int .u8 0, .int .u8 0, .int .u8 0, .int .u8 0, .int .u8 0, .int .u8 0, .int .u8 0, .int .u8 0, .int .u8 0, .int .u8 0, .int .u8 0, .int .u8 0, .int .u8 0, .int .u8 0, .int .u8 0, .int .u8 0, .int .u8 0, .int .u8 0, .int .u8 0, .int .u8 0, .int .u8 0, .int .u8 0, .int .u8 0, .int .u8 0, .int .u8 0, .int .u8 0, .int .u8 0, .int .u8 0, .int .u8 0, .int .u8 0, .int .u8 0, .int .u8 0] : Array Value) = zc
  have HZ := Aside0.mk (show zc = Z0C from hz.symm.trans rfl)
  have HZS := Aside0.mk (show zc.size = 34 from by rw [HZ.out]; rfl)
  have HZA := Aside0.mk (show zc.all (·.oneCell') = true from by rw [HZ.out]; simp [nums, Value.oneCell'])
  clear hz
  have HB := Aside0.mk (show Below w.heap.size w (w.alloc (.cells zc 26)) from below_alloc (B0 w) _)
  have F := Aside0.mk (show (w.alloc (.cells zc 26)).heap[w.heap.size]? = some (.cells zc 26 (0, 0)) from blk_new w _)
  refine (new_any _ v l (HV.out.below HB.out) (by have := HL.out; omega)).mono ?_
  rintro e w1 ⟨g, rfl, hg, hcur, hb⟩
  have HB1 := Aside0.mk (below_step HB.out hb)
  have F1 := Aside0.mk ((hb.block w.heap.size (by simp)).trans F.out)
  have HGL := Aside0.mk (show w.heap.size < g from by have := hg; simp at this; omega)
  have HC1 := Aside0.mk hcur
  clear hb hcur hg HB F
  go_wp2_with fail
  refine (take_bad w1 g l 0 1 HC1.out (by omega) (by omega) (by have := HL.out; omega) (by rw [H0.out]; right; decide)).mono ?_
  rintro e w2 ⟨rfl, ⟨⟨m, rfl⟩⟩⟩
  rw [show errW (some 1) = .iface 35 (.int .i64 1) from rfl]
  go_wp2_with fail
  have HB2 := Aside0.mk (below_step HB1.out (pw_below_drewN (B0 w1) m))
  have F2 := Aside0.mk (show (w1.drewN m).heap[w.heap.size]? = some (.cells zc 26 (0, 0)) from F1.out)
  refine (fail_z HZ.out (1) (0) (by decide) _ (errg_step HG.out HB2.out)).mono ?_
  rintro e wF ⟨rfl, hb⟩
  have HBF := Aside0.mk (below_step HB2.out hb)
  have FF := Aside0.mk ((hb.block w.heap.size (blk_lt F2.out)).trans F2.out)
  have hsz := HZS.out
  have hsc := zk_cells FF.out hsz hsz HZA.out
  have HRW := Aside0.mk (setRow_heap wF w.heap.size zc zc 26 (0, 0) FF.out)
  clear hb
  go_wp2
  refine bodyPost_ret (v := .tuple #[.agg zc, fltV (1) (0)]) ?_ ?_ ?_
  · exact results_c2 (p := 2) (q := 3) rfl _ _ w.heap.size zc rfl HRW.out HZS.out
  · rfl
  · exact ⟨by rw [HZ.out], below_row HBF.out (Nat.le_refl _) _⟩
set_option maxRecDepth 20000 in
set_option maxHeartbeats 4000000 in
theorem parse_ver (w : World) (v : Value) (x0 : Int) (l : List Int) (hv : Bs w v (x0 :: l)) (hl : (x0 :: l).length ≤ 140737488355000) (hby : ∀ x ∈ x0 :: l, 0 ≤ x ∧ x < 256) (hG : ErrG w) (h0 : x0 ≠ 1) :
    Calls Tryd.prog 12 #[v] w fun e w' => e = .returned (.tuple #[Z0, fltV 13 0]) ∧ Below w.heap.size w w' := by
  have hl2 : l.length + 1 ≤ 140737488355000 := hl
  have HV := Aside0.mk hv
  have HL2 := Aside0.mk hl2
  have HL := Aside0.mk hl
  have HBY := Aside0.mk hby
  have HG := Aside0.mk hG
  have d0 : (x0 == 1) = false := by simpa using h0
  clear hl2 hv hl hby hG h0
  go_enter Tryd.func12, Tryd.ntmps12
  go_wp2_with fail
  generalize hz : (#[.int .u8 0, .int .u64 0, .int .u8 0, .int .u8 0, .int .u8 0, .int .u8 0, .int .u8 0, .int .u8 0, .int .u8 0, .int .u8 0, .int .u8 0, .int .u8 0, .int .u8 0, .int .u8 0, .int .u8 0, .int .u8 0, .int .u8 0, .int .u8 0, .int .u8 0, .int .u8 0, .int .u8 0, .int .u8 0, .int .u8 0, .int .u8 0, .int .u8 0, .int .u8 0, .int .u8 0, .int .u8 0, .int .u8 0, .int .u8 0, .int .u8 0, .int .u8 0, .int .u8 0, .int .u8 0] : Array Value) = zc
  have HZ := Aside0.mk (show zc = Z0C from hz.symm.trans rfl)
  have HZS := Aside0.mk (show zc.size = 34 from by rw [HZ.out]; rfl)
  have HZA := Aside0.mk (show zc.all (·.oneCell') = true from by rw [HZ.out]; simp [nums, Value.oneCell'])
  clear hz
  have HB := Aside0.mk (show Below w.heap.size w (w.alloc (.cells zc 26)) from below_alloc (B0 w) _)
  have F := Aside0.mk (show (w.alloc (.cells zc 26)).heap[w.heap.size]? = some (.cells zc 26 (0, 0)) from blk_new w _)
  refine (HWire.new_any _ v (x0 :: l) (HV.out.below HB.out) (by have := HL.out; omega)).mono ?_
  rintro e w1 ⟨g, rfl, hg, hcur, hb⟩
  have HB1 := Aside0.mk (below_step HB.out hb)
  have F1 := Aside0.mk ((hb.block w.heap.size (by simp)).trans F.out)
  have HGL := Aside0.mk (show w.heap.size < g from by have := hg; simp at this; omega)
  have HC1 := Aside0.mk hcur
  clear hb hcur hg HB F
  go_wp2_with fail
  refine (take_good w1 g (x0 :: l) 0 1 HC1.out (by omega) (by omega) (by have := HL.out; omega) (by decide) (by have := HL2.out; simp; omega)).mono ?_
  rintro e w2 ⟨v1, rfl, hR, hcur, hk, hb⟩
  rw [show errW none = .nilIface from rfl]
  rw [show List.take (1 : Int).toNat (List.drop (0 : Int).toNat (x0 :: l)) = [x0] from rfl] at hR
  have HB2 := Aside0.mk (HB1.out.trans (hb.mono (Nat.le_of_lt HGL.out)))
  have F2 := Aside0.mk ((hb.block _ HGL.out).trans F1.out)
  have HC2 := Aside0.mk (show IsCur w2 g (x0 :: l) 1 from hcur)
  obtain ⟨k, c, rfl, hkc, hrg⟩ := own_bytes hR (by simp)
  rw [show ([x0] : List Int).length = 1 from rfl] at *
  have hx : w2.cell? ⟨k, 0, none⟩ = some (.int .u8 x0) := hrg 0 _ rfl
  clear hR hcur hk hb hrg F1 HB1 HC1
  go_wp2_with fail
  refine (fail_z HZ.out (13) (0) (by decide) _ (errg_step HG.out HB2.out)).mono ?_
  rintro e wF ⟨rfl, hb⟩
  have HBF := Aside0.mk (below_step HB2.out hb)
  have FF := Aside0.mk ((hb.block w.heap.size (blk_lt F2.out)).trans F2.out)
  have hsz := HZS.out
  have hsc := zk_cells FF.out hsz hsz HZA.out
  have HRW := Aside0.mk (setRow_heap wF w.heap.size zc zc 26 (0, 0) FF.out)
  clear hb
  go_wp2
  refine bodyPost_ret (v := .tuple #[.agg zc, fltV (13) (0)]) ?_ ?_ ?_
  · exact results_c2 (p := 2) (q := 3) rfl _ _ w.heap.size zc rfl HRW.out HZS.out
  · rfl
  · exact ⟨by rw [HZ.out], below_row HBF.out (Nat.le_refl _) _⟩
set_option maxRecDepth 20000 in
set_option maxHeartbeats 4000000 in
theorem parse_num (w : World) (v : Value) (x0 : Int) (l : List Int) (hv : Bs w v (x0 :: l)) (hl : (x0 :: l).length ≤ 140737488355000) (hby : ∀ x ∈ x0 :: l, 0 ≤ x ∧ x < 256) (hG : ErrG w) (c1 : Int) (hn : num l = .inl c1) (h0 : x0 = 1) :
    Calls Tryd.prog 12 #[v] w fun e w' => e = .returned (.tuple #[Z0, fltV c1 1]) ∧ Below w.heap.size w w' := by
  have hl2 : l.length + 1 ≤ 140737488355000 := hl
  have HV := Aside0.mk hv
  have HL2 := Aside0.mk hl2
  have HL := Aside0.mk hl
  have HBY := Aside0.mk hby
  have HG := Aside0.mk hG
  have HN := Aside0.mk hn
  subst h0
  clear hl2 hv hl hby hG hn
  go_enter Tryd.func12, Tryd.ntmps12
  go_wp2_with fail
  generalize hz : (#[.int .u8 0, .int .u64 0, .int .u8 0, .int .u8 0, .int .u8 0, .int .u8 0, .int .u8 0, .int .u8 0, .int .u8 0, .int .u8 0, .int .u8 0, .int .u8 0, .int .u8 0, .int .u8 0, .int .u8 0, .int .u8 0, .int .u8 0, .int .u8 0, .int .u8 0, .int .u8 0, .int .u8 0, .int .u8 0, .int .u8 0, .int .u8 0, .int .u8 0, .int .u8 0, .int .u8 0, .int .u8 0, .int .u8 0, .int .u8 0, .int .u8 0, .int .u8 0, .int .u8 0, .int .u8 0] : Array Value) = zc
  have HZ := Aside0.mk (show zc = Z0C from hz.symm.trans rfl)
  have HZS := Aside0.mk (show zc.size = 34 from by rw [HZ.out]; rfl)
  have HZA := Aside0.mk (show zc.all (·.oneCell') = true from by rw [HZ.out]; simp [nums, Value.oneCell'])
  clear hz
  have HB := Aside0.mk (show Below w.heap.size w (w.alloc (.cells zc 26)) from below_alloc (B0 w) _)
  have F := Aside0.mk (show (w.alloc (.cells zc 26)).heap[w.heap.size]? = some (.cells zc 26 (0, 0)) from blk_new w _)
  refine (HWire.new_any _ v (1 :: l) (HV.out.below HB.out) (by have := HL.out; omega)).mono ?_
  rintro e w1 ⟨g, rfl, hg, hcur, hb⟩
  have HB1 := Aside0.mk (below_step HB.out hb)
  have F1 := Aside0.mk ((hb.block w.heap.size (by simp)).trans F.out)
  have HGL := Aside0.mk (show w.heap.size < g from by have := hg; simp at this; omega)
  have HC1 := Aside0.mk hcur
  clear hb hcur hg HB F
  go_wp2_with fail
  refine (take_good w1 g (1 :: l) 0 1 HC1.out (by omega) (by omega) (by have := HL.out; omega) (by decide) (by have := HL2.out; simp; omega)).mono ?_
  rintro e w2 ⟨v1, rfl, hR, hcur, hk, hb⟩
  rw [show errW none = .nilIface from rfl]
  rw [show List.take (1 : Int).toNat (List.drop (0 : Int).toNat (1 :: l)) = [1] from rfl] at hR
  have HB2 := Aside0.mk (HB1.out.trans (hb.mono (Nat.le_of_lt HGL.out)))
  have F2 := Aside0.mk ((hb.block _ HGL.out).trans F1.out)
  have HC2 := Aside0.mk (show IsCur w2 g (1 :: l) 1 from hcur)
  obtain ⟨k, c, rfl, hkc, hrg⟩ := own_bytes hR (by simp)
  rw [show ([1] : List Int).length = 1 from rfl] at *
  have hx : w2.cell? ⟨k, 0, none⟩ = some (.int .u8 1) := hrg 0 _ rfl
  clear hR hcur hk hb hrg F1 HB1 HC1
  go_wp2_with fail
  refine (number_at w2 g (1 :: l) 1 HC2.out (by omega) (by simp; omega) (by have := HL.out; omega) HBY.out).mono ?_
  rintro e w3 ⟨he, hcur, hk, hb⟩
  rw [show num (List.drop (1 : Int).toNat (1 :: l)) = .inl c1 from HN.out] at he hcur
  subst he
  rw [show numE (.inl c1) = .tuple #[.int .u64 0, .iface 35 (.int .i64 c1)] from rfl]
  have HB3 := Aside0.mk (HB2.out.trans (hb.mono (Nat.le_of_lt HGL.out)))
  have F3 := Aside0.mk ((hb.block _ HGL.out).trans F2.out)
  have HC3 := Aside0.mk hcur
  clear hcur hk hb hx F2 HB2 HC2
  go_wp2_with fail
  refine (fail_z HZ.out (c1) (1) (by decide) _ (errg_step HG.out HB3.out)).mono ?_
  rintro e wF ⟨rfl, hb⟩
  have HBF := Aside0.mk (below_step HB3.out hb)
  have FF := Aside0.mk ((hb.block w.heap.size (blk_lt F3.out)).trans F3.out)
  have hsz := HZS.out
  have hsc := zk_cells FF.out hsz hsz HZA.out
  have HRW := Aside0.mk (setRow_heap wF w.heap.size zc zc 26 (0, 0) FF.out)
  clear hb
  go_wp2
  refine bodyPost_ret (v := .tuple #[.agg zc, fltV (c1) (1)]) ?_ ?_ ?_
  · exact results_c2 (p := 2) (q := 3) rfl _ _ w.heap.size zc rfl HRW.out HZS.out
  · rfl
  · exact ⟨by rw [HZ.out], below_row HBF.out (Nat.le_refl _) _⟩
set_option maxRecDepth 20000 in
set_option maxHeartbeats 4000000 in
theorem parse_big (w : World) (v : Value) (x0 : Int) (l : List Int) (hv : Bs w v (x0 :: l)) (hl : (x0 :: l).length ≤ 140737488355000) (hby : ∀ x ∈ x0 :: l, 0 ≤ x ∧ x < 256) (hG : ErrG w) (x : Int) (n : Nat) (hn : num l = .inr (x, n)) (hx0 : 9223372036854775807 < x) (h0 : x0 = 1) :
    Calls Tryd.prog 12 #[v] w fun e w' => e = .returned (.tuple #[Z0, fltV 15 1]) ∧ Below w.heap.size w w' := by
  have hl2 : l.length + 1 ≤ 140737488355000 := hl
  have HV := Aside0.mk hv
  have HL2 := Aside0.mk hl2
  have HL := Aside0.mk hl
  have HBY := Aside0.mk hby
  have HG := Aside0.mk hG
  have HN := Aside0.mk hn
  have d1 : decide (9223372036854775807 < x) = true := decide_eq_true hx0
  subst h0
  clear hl2 hv hl hby hG hn hx0
  go_enter Tryd.func12, Tryd.ntmps12
  go_wp2_with fail
  generalize hz : (#[.int .u8 0, .int .u64 0, .int .u8 0, .int .u8 0, .int .u8 0, .int .u8 0, .int .u8 0, .int .u8 0, .int .u8 0, .int .u8 0, .int .u8 0, .int .u8 0, .int .u8 0, .int .u8 0, .int .u8 0, .int .u8 0, .int .u8 0, .int .u8 0, .int .u8 0, .int .u8 0, .int .u8 0, .int .u8 0, .int .u8 0, .int .u8 0, .int .u8 0, .int .u8 0, .int .u8 0, .int .u8 0, .int .u8 0, .int .u8 0, .int .u8 0, .int .u8 0, .int .u8 0, .int .u8 0] : Array Value) = zc
  have HZ := Aside0.mk (show zc = Z0C from hz.symm.trans rfl)
  have HZS := Aside0.mk (show zc.size = 34 from by rw [HZ.out]; rfl)
  have HZA := Aside0.mk (show zc.all (·.oneCell') = true from by rw [HZ.out]; simp [nums, Value.oneCell'])
  clear hz
  have HB := Aside0.mk (show Below w.heap.size w (w.alloc (.cells zc 26)) from below_alloc (B0 w) _)
  have F := Aside0.mk (show (w.alloc (.cells zc 26)).heap[w.heap.size]? = some (.cells zc 26 (0, 0)) from blk_new w _)
  refine (HWire.new_any _ v (1 :: l) (HV.out.below HB.out) (by have := HL.out; omega)).mono ?_
  rintro e w1 ⟨g, rfl, hg, hcur, hb⟩
  have HB1 := Aside0.mk (below_step HB.out hb)
  have F1 := Aside0.mk ((hb.block w.heap.size (by simp)).trans F.out)
  have HGL := Aside0.mk (show w.heap.size < g from by have := hg; simp at this; omega)
  have HC1 := Aside0.mk hcur
  clear hb hcur hg HB F
  go_wp2_with fail
  refine (take_good w1 g (1 :: l) 0 1 HC1.out (by omega) (by omega) (by have := HL.out; omega) (by decide) (by have := HL2.out; simp; omega)).mono ?_
  rintro e w2 ⟨v1, rfl, hR, hcur, hk, hb⟩
  rw [show errW none = .nilIface from rfl]
  rw [show List.take (1 : Int).toNat (List.drop (0 : Int).toNat (1 :: l)) = [1] from rfl] at hR
  have HB2 := Aside0.mk (HB1.out.trans (hb.mono (Nat.le_of_lt HGL.out)))
  have F2 := Aside0.mk ((hb.block _ HGL.out).trans F1.out)
  have HC2 := Aside0.mk (show IsCur w2 g (1 :: l) 1 from hcur)
  obtain ⟨k, c, rfl, hkc, hrg⟩ := own_bytes hR (by simp)
  rw [show ([1] : List Int).length = 1 from rfl] at *
  have hx : w2.cell? ⟨k, 0, none⟩ = some (.int .u8 1) := hrg 0 _ rfl
  clear hR hcur hk hb hrg F1 HB1 HC1
  go_wp2_with fail
  refine (number_at w2 g (1 :: l) 1 HC2.out (by omega) (by simp; omega) (by have := HL.out; omega) HBY.out).mono ?_
  rintro e w3 ⟨he, hcur, hk, hb⟩
  rw [show num (List.drop (1 : Int).toNat (1 :: l)) = .inr (x, n) from HN.out] at he hcur
  subst he
  rw [show numE (.inr (x, n)) = .tuple #[.int .u64 x, .nilIface] from rfl]
  have HB3 := Aside0.mk (HB2.out.trans (hb.mono (Nat.le_of_lt HGL.out)))
  have F3 := Aside0.mk ((hb.block _ HGL.out).trans F2.out)
  have HC3 := Aside0.mk hcur
  clear hcur hk hb hx F2 HB2 HC2
  go_wp2_with fail
  refine (fail_z HZ.out (15) (1) (by decide) _ (errg_step HG.out HB3.out)).mono ?_
  rintro e wF ⟨rfl, hb⟩
  have HBF := Aside0.mk (below_step HB3.out hb)
  have FF := Aside0.mk ((hb.block w.heap.size (blk_lt F3.out)).trans F3.out)
  have hsz := HZS.out
  have hsc := zk_cells FF.out hsz hsz HZA.out
  have HRW := Aside0.mk (setRow_heap wF w.heap.size zc zc 26 (0, 0) FF.out)
  clear hb
  go_wp2
  refine bodyPost_ret (v := .tuple #[.agg zc, fltV (15) (1)]) ?_ ?_ ?_
  · exact results_c2 (p := 2) (q := 3) rfl _ _ w.heap.size zc rfl HRW.out HZS.out
  · rfl
  · exact ⟨by rw [HZ.out], below_row HBF.out (Nat.le_refl _) _⟩
set_option maxRecDepth 20000 in
set_option maxHeartbeats 4000000 in
theorem parse_short (w : World) (v : Value) (x0 : Int) (l : List Int) (hv : Bs w v (x0 :: l)) (hl : (x0 :: l).length ≤ 140737488355000) (hby : ∀ x ∈ x0 :: l, 0 ≤ x ∧ x < 256) (hG : ErrG w) (x : Int) (n : Nat) (hn : num l = .inr (x, n)) (hx0 : ¬ 9223372036854775807 < x) (h5 : l.length < n + 32) (h0 : x0 = 1) :
    Calls Tryd.prog 12 #[v] w fun e w' => e = .returned (.tuple #[Z0, fltV 1 (1 + (n : Int))]) ∧ Below w.heap.size w w' := by
  have hl2 : l.length + 1 ≤ 140737488355000 := hl
  have HV := Aside0.mk hv
  have HL2 := Aside0.mk hl2
  have HL := Aside0.mk hl
  have HBY := Aside0.mk hby
  have HG := Aside0.mk hG
  have HN := Aside0.mk hn
  have HNK := Aside0.mk (num_ok (fun z hz => hby z (List.mem_cons_of_mem _ hz)) hn)
  have d1 : decide (9223372036854775807 < x) = false := decide_eq_false hx0
  have H5 := Aside0.mk h5
  subst h0
  clear hl2 hv hl hby hG hn hx0 h5
  go_enter Tryd.func12, Tryd.ntmps12
  go_wp2_with fail
  generalize hz : (#[.int .u8 0, .int .u64 0, .int .u8 0, .int .u8 0, .int .u8 0, .int .u8 0, .int .u8 0, .int .u8 0, .int .u8 0, .int .u8 0, .int .u8 0, .int .u8 0, .int .u8 0, .int .u8 0, .int .u8 0, .int .u8 0, .int .u8 0, .int .u8 0, .int .u8 0, .int .u8 0, .int .u8 0, .int .u8 0, .int .u8 0, .int .u8 0, .int .u8 0, .int .u8 0, .int .u8 0, .int .u8 0, .int .u8 0, .int .u8 0, .int .u8 0, .int .u8 0, .int .u8 0, .int .u8 0] : Array Value) = zc
  have HZ := Aside0.mk (show zc = Z0C from hz.symm.trans rfl)
  have HZS := Aside0.mk (show zc.size = 34 from by rw [HZ.out]; rfl)
  have HZA := Aside0.mk (show zc.all (·.oneCell') = true from by rw [HZ.out]; simp [nums, Value.oneCell'])
  clear hz
  have HB := Aside0.mk (show Below w.heap.size w (w.alloc (.cells zc 26)) from below_alloc (B0 w) _)
  have F := Aside0.mk (show (w.alloc (.cells zc 26)).heap[w.heap.size]? = some (.cells zc 26 (0, 0)) from blk_new w _)
  refine (HWire.new_any _ v (1 :: l) (HV.out.below HB.out) (by have := HL.out; omega)).mono ?_
  rintro e w1 ⟨g, rfl, hg, hcur, hb⟩
  have HB1 := Aside0.mk (below_step HB.out hb)
  have F1 := Aside0.mk ((hb.block w.heap.size (by simp)).trans F.out)
  have HGL := Aside0.mk (show w.heap.size < g from by have := hg; simp at this; omega)
  have HC1 := Aside0.mk hcur
  clear hb hcur hg HB F
  go_wp2_with fail
  refine (take_good w1 g (1 :: l) 0 1 HC1.out (by omega) (by omega) (by have := HL.out; omega) (by decide) (by have := HL2.out; simp; omega)).mono ?_
  rintro e w2 ⟨v1, rfl, hR, hcur, hk, hb⟩
  rw [show errW none = .nilIface from rfl]
  rw [show List.take (1 : Int).toNat (List.drop (0 : Int).toNat (1 :: l)) = [1] from rfl] at hR
  have HB2 := Aside0.mk (HB1.out.trans (hb.mono (Nat.le_of_lt HGL.out)))
  have F2 := Aside0.mk ((hb.block _ HGL.out).trans F1.out)
  have HC2 := Aside0.mk (show IsCur w2 g (1 :: l) 1 from hcur)
  obtain ⟨k, c, rfl, hkc, hrg⟩ := own_bytes hR (by simp)
  rw [show ([1] : List Int).length = 1 from rfl] at *
  have hx : w2.cell? ⟨k, 0, none⟩ = some (.int .u8 1) := hrg 0 _ rfl
  clear hR hcur hk hb hrg F1 HB1 HC1
  go_wp2_with fail
  refine (number_at w2 g (1 :: l) 1 HC2.out (by omega) (by simp; omega) (by have := HL.out; omega) HBY.out).mono ?_
  rintro e w3 ⟨he, hcur, hk, hb⟩
  rw [show num (List.drop (1 : Int).toNat (1 :: l)) = .inr (x, n) from HN.out] at he hcur
  subst he
  rw [show numE (.inr (x, n)) = .tuple #[.int .u64 x, .nilIface] from rfl]
  have HB3 := Aside0.mk (HB2.out.trans (hb.mono (Nat.le_of_lt HGL.out)))
  have F3 := Aside0.mk ((hb.block _ HGL.out).trans F2.out)
  have HC3 := Aside0.mk hcur
  clear hcur hk hb hx F2 HB2 HC2
  go_wp2_with fail
  refine (at_at w3 g (1 :: l) _ HC3.out).mono ?_
  rintro e w4 ⟨rfl, ⟨⟨m, rfl⟩⟩⟩
  rw [show numAt 1 (.inr (x, n)) = 1 + (n : Int) from rfl]
  have HB4 := Aside0.mk (below_step HB3.out (pw_below_drewN (B0 w3) m))
  have F4 := Aside0.mk (show (w3.drewN m).heap[w.heap.size]? = some (.cells zc 26 (0, 0)) from F3.out)
  have HC4 := Aside0.mk (show IsCur (w3.drewN m) g (1 :: l) (1 + (n : Int)) from IsCur.drewN HC3.out m)
  generalize w3.drewN m = w4 at *
  clear HB3 F3 HC3
  go_wp2_with fail
  refine (take_bad w4 g (1 :: l) (1 + (n : Int)) 32 HC4.out (by omega) (by have := HNK.out.2.2.2.1; simp; omega) (by have := HL.out; omega) (by right; have := H5.out; simp; omega)).mono ?_
  rintro e w5 ⟨rfl, ⟨⟨m5, rfl⟩⟩⟩
  rw [show errW (some 1) = .iface 35 (.int .i64 1) from rfl]
  have HB5 := Aside0.mk (below_step HB4.out (pw_below_drewN (B0 w4) m5))
  have F5 := Aside0.mk (show (w4.drewN m5).heap[w.heap.size]? = some (.cells zc 26 (0, 0)) from F4.out)
  go_wp2_with fail
  refine (fail_z HZ.out (1) (1 + (n : Int)) (by have := HNK.out; omega) _ (errg_step HG.out HB5.out)).mono ?_
  rintro e wF ⟨rfl, hb⟩
  have HBF := Aside0.mk (below_step HB5.out hb)
  have FF := Aside0.mk ((hb.block w.heap.size (blk_lt F5.out)).trans F5.out)
  have hsz := HZS.out
  have hsc := zk_cells FF.out hsz hsz HZA.out
  have HRW := Aside0.mk (setRow_heap wF w.heap.size zc zc 26 (0, 0) FF.out)
  clear hb
  go_wp2
  refine bodyPost_ret (v := .tuple #[.agg zc, fltV (1) (1 + (n : Int))]) ?_ ?_ ?_
  · exact results_c2 (p := 2) (q := 3) rfl _ _ w.heap.size zc rfl HRW.out HZS.out
  · rfl
  · exact ⟨by rw [HZ.out], below_row HBF.out (Nat.le_refl _) _⟩
set_option maxRecDepth 20000 in
set_option maxHeartbeats 4000000 in
theorem parse_long (w : World) (v : Value) (x0 : Int) (l : List Int) (hv : Bs w v (x0 :: l)) (hl : (x0 :: l).length ≤ 140737488355000) (hby : ∀ x ∈ x0 :: l, 0 ≤ x ∧ x < 256) (hG : ErrG w) (x : Int) (n : Nat) (hn : num l = .inr (x, n)) (hx0 : ¬ 9223372036854775807 < x) (h5 : n + 32 < l.length) (h0 : x0 = 1) :
    Calls Tryd.prog 12 #[v] w fun e w' => e = .returned (.tuple #[Z0, fltV 16 (1 + (n : Int) + 32)]) ∧ Below w.heap.size w w' := by
  have hl2 : l.length + 1 ≤ 140737488355000 := hl
  have HV := Aside0.mk hv
  have HL2 := Aside0.mk hl2
  have HL := Aside0.mk hl
  have HBY := Aside0.mk hby
  have HG := Aside0.mk hG
  have HN := Aside0.mk hn
  have HNK := Aside0.mk (num_ok (fun z hz => hby z (List.mem_cons_of_mem _ hz)) hn)
  have d1 : decide (9223372036854775807 < x) = false := decide_eq_false hx0
  have H5 := Aside0.mk h5
  subst h0
  clear hl2 hv hl hby hG hn hx0 h5
  go_enter Tryd.func12, Tryd.ntmps12
  go_wp2_with fail
  generalize hz : (#[.int .u8 0, .int .u64 0, .int .u8 0, .int .u8 0, .int .u8 0, .int .u8 0, .int .u8 0, .int .u8 0, .int .u8 0, .int .u8 0, .int .u8 0, .int .u8 0, .int .u8 0, .int .u8 0, .int .u8 0, .int .u8 0, .int .u8 0, .int .u8 0, .int .u8 0, .int .u8 0, .int .u8 0, .int .u8 0, .int .u8 0, .int .u8 0, .int .u8 0, .int .u8 0, .int .u8 0, .int .u8 0, .int .u8 0, .int .u8 0, .int .u8 0, .int .u8 0, .int .u8 0, .int .u8 0] : Array Value) = zc
  have HZ := Aside0.mk (show zc = Z0C from hz.symm.trans rfl)
  have HZS := Aside0.mk (show zc.size = 34 from by rw [HZ.out]; rfl)
  have HZA := Aside0.mk (show zc.all (·.oneCell') = true from by rw [HZ.out]; simp [nums, Value.oneCell'])
  clear hz
  have HB := Aside0.mk (show Below w.heap.size w (w.alloc (.cells zc 26)) from below_alloc (B0 w) _)
  have F := Aside0.mk (show (w.alloc (.cells zc 26)).heap[w.heap.size]? = some (.cells zc 26 (0, 0)) from blk_new w _)
  refine (HWire.new_any _ v (1 :: l) (HV.out.below HB.out) (by have := HL.out; omega)).mono ?_
  rintro e w1 ⟨g, rfl, hg, hcur, hb⟩
  have HB1 := Aside0.mk (below_step HB.out hb)
  have F1 := Aside0.mk ((hb.block w.heap.size (by simp)).trans F.out)
  have HGL := Aside0.mk (show w.heap.size < g from by have := hg; simp at this; omega)
  have HC1 := Aside0.mk hcur
  clear hb hcur hg HB F
  go_wp2_with fail
  refine (take_good w1 g (1 :: l) 0 1 HC1.out (by omega) (by omega) (by have := HL.out; omega) (by decide) (by have := HL2.out; simp; omega)).mono ?_
  rintro e w2 ⟨v1, rfl, hR, hcur, hk, hb⟩
  rw [show errW none = .nilIface from rfl]
  rw [show List.take (1 : Int).toNat (List.drop (0 : Int).toNat (1 :: l)) = [1] from rfl] at hR
  have HB2 := Aside0.mk (HB1.out.trans (hb.mono (Nat.le_of_lt HGL.out)))
  have F2 := Aside0.mk ((hb.block _ HGL.out).trans F1.out)
  have HC2 := Aside0.mk (show IsCur w2 g (1 :: l) 1 from hcur)
  obtain ⟨k, c, rfl, hkc, hrg⟩ := own_bytes hR (by simp)
  rw [show ([1] : List Int).length = 1 from rfl] at *
  have hx : w2.cell? ⟨k, 0, none⟩ = some (.int .u8 1) := hrg 0 _ rfl
  clear hR hcur hk hb hrg F1 HB1 HC1
  go_wp2_with fail
  refine (number_at w2 g (1 :: l) 1 HC2.out (by omega) (by simp; omega) (by have := HL.out; omega) HBY.out).mono ?_
  rintro e w3 ⟨he, hcur, hk, hb⟩
  rw [show num (List.drop (1 : Int).toNat (1 :: l)) = .inr (x, n) from HN.out] at he hcur
  subst he
  rw [show numE (.inr (x, n)) = .tuple #[.int .u64 x, .nilIface] from rfl]
  have HB3 := Aside0.mk (HB2.out.trans (hb.mono (Nat.le_of_lt HGL.out)))
  have F3 := Aside0.mk ((hb.block _ HGL.out).trans F2.out)
  have HC3 := Aside0.mk hcur
  clear hcur hk hb hx F2 HB2 HC2
  go_wp2_with fail
  refine (at_at w3 g (1 :: l) _ HC3.out).mono ?_
  rintro e w4 ⟨rfl, ⟨⟨m, rfl⟩⟩⟩
  rw [show numAt 1 (.inr (x, n)) = 1 + (n : Int) from rfl]
  have HB4 := Aside0.mk (below_step HB3.out (pw_below_drewN (B0 w3) m))
  have F4 := Aside0.mk (show (w3.drewN m).heap[w.heap.size]? = some (.cells zc 26 (0, 0)) from F3.out)
  have HC4 := Aside0.mk (show IsCur (w3.drewN m) g (1 :: l) (1 + (n : Int)) from IsCur.drewN HC3.out m)
  generalize w3.drewN m = w4 at *
  clear HB3 F3 HC3
  go_wp2_with fail
  refine (take_good w4 g (1 :: l) (1 + (n : Int)) 32 HC4.out (by omega) (by have := HNK.out.2.2.2.1; simp; omega) (by have := HL.out; omega) (by decide) (by have := H5.out; simp; omega)).mono ?_
  rintro e w5 ⟨v5, rfl, hR, hcur, hk, hb⟩
  rw [show errW none = .nilIface from rfl]
  have HB5 := Aside0.mk (HB4.out.trans (hb.mono (Nat.le_of_lt HGL.out)))
  have F5 := Aside0.mk ((hb.block _ HGL.out).trans F4.out)
  have HC5 := Aside0.mk hcur
  have HR5 := Aside0.mk hR
  clear hR hcur hk hb F4 HB4 HC4
  go_wp2_with fail
  refine (end_at w5 g (1 :: l) (1 + (n : Int) + 32) HC5.out (by omega) (by have := H5.out; simp; omega) (by have := HL.out; omega)).mono ?_
  rintro e w6 ⟨he, ⟨⟨m6, rfl⟩⟩⟩
  rw [if_pos (by have := H5.out; simp; omega)] at he
  subst he
  rw [show errW (some 16) = .iface 35 (.int .i64 16) from rfl]
  have HB6 := Aside0.mk (below_step HB5.out (pw_below_drewN (B0 w5) m6))
  have F6 := Aside0.mk (show (w5.drewN m6).heap[w.heap.size]? = some (.cells zc 26 (0, 0)) from F5.out)
  have HC6 := Aside0.mk (IsCur.drewN HC5.out m6)
  generalize w5.drewN m6 = w6 at *
  clear HB5 F5 HC5 HR5
  go_wp2_with fail
  refine (at_at w6 g (1 :: l) _ HC6.out).mono ?_
  rintro e w7 ⟨rfl, ⟨⟨m7, rfl⟩⟩⟩
  have HB7 := Aside0.mk (below_step HB6.out (pw_below_drewN (B0 w6) m7))
  have F7 := Aside0.mk (show (w6.drewN m7).heap[w.heap.size]? = some (.cells zc 26 (0, 0)) from F6.out)
  go_wp2_with fail
  refine (fail_z HZ.out (16) (1 + (n : Int) + 32) (by have := HNK.out; omega) _ (errg_step HG.out HB7.out)).mono ?_
  rintro e wF ⟨rfl, hb⟩
  have HBF := Aside0.mk (below_step HB7.out hb)
  have FF := Aside0.mk ((hb.block w.heap.size (blk_lt F7.out)).trans F7.out)
  have hsz := HZS.out
  have hsc := zk_cells FF.out hsz hsz HZA.out
  have HRW := Aside0.mk (setRow_heap wF w.heap.size zc zc 26 (0, 0) FF.out)
  clear hb
  go_wp2
  refine bodyPost_ret (v := .tuple #[.agg zc, fltV (16) (1 + (n : Int) + 32)]) ?_ ?_ ?_
  · exact results_c2 (p := 2) (q := 3) rfl _ _ w.heap.size zc rfl HRW.out HZS.out
  · rfl
  · exact ⟨by rw [HZ.out], below_row HBF.out (Nat.le_refl _) _⟩
theorem fold_set (o : Nat) (vs : List Value) : ∀ (k : Nat) (cs : List Value), o + k + vs.length ≤ cs.length →
    (vs.zipIdx k).foldl (fun (cs : Array Value) (x : Value × Nat) => cs.setIfInBounds (o + x.2) x.1) cs.toArray = (cs.take (o + k) ++ vs ++ cs.drop (o + k + vs.length)).toArray := by
  induction vs with
  | nil => intro k cs h; simp
  | cons v vs ih =>
    intro k cs h
    rw [List.length_cons] at h
    rw [List.zipIdx_cons, List.foldl_cons]
    dsimp only
    rw [List.setIfInBounds_toArray, ih (k + 1) (cs.set (o + k) v) (by rw [List.length_set]; omega)]
    congr 1
    have e : cs.set (o + k) v = cs.take (o + k) ++ v :: cs.drop (o + k + 1) := by rw [List.set_eq_take_append_cons_drop, if_pos (by omega)]
    have hl : (cs.take (o + k)).length = o + k := by rw [List.length_take]; omega
    rw [e, List.take_append, List.drop_append, hl, show o + (k + 1) - (o + k) = 1 from by omega, show o + (k + 1) + vs.length - (o + k) = vs.length + 1 from by omega, List.take_of_length_le (show (cs.take (o + k)).length ≤ o + (k + 1) by omega), List.drop_of_length_le (show (cs.take (o + k)).length ≤ o + (k + 1) + vs.length by omega)]
    simp [List.drop_drop]
    congr 1
    omega
theorem run_at32 {P : Program} {t e : TypeId} (ht : P.underlying t = some (.array 32 e)) (a : Addr) (c : Nat) (W : World) : (Instr.arrayAt t (.slice (some a) 32 c)).run P W = .ok (.pointer (some a)) W := by
  simp [Instr.arrayAt, run_underlying ht, Result.andThen]
theorem size_dg : (Tryd.prog.info? 24).map (·.size) = some 32 := by kernel_rfl
theorem fold_zk (x : Int) (D : List Int) (h : D.length = 32) : List.foldl (fun (cs : Array Value) (x : Value × Nat) => cs.setIfInBounds (2 + x.2) x.1) #[.int .u8 1, .int .u64 x, .int .u8 0, .int .u8 0, .int .u8 0, .int .u8 0, .int .u8 0, .int .u8 0, .int .u8 0, .int .u8 0, .int .u8 0, .int .u8 0, .int .u8 0, .int .u8 0, .int .u8 0, .int .u8 0, .int .u8 0, .int .u8 0, .int .u8 0, .int .u8 0, .int .u8 0, .int .u8 0, .int .u8 0, .int .u8 0, .int .u8 0, .int .u8 0, .int .u8 0, .int .u8 0, .int .u8 0, .int .u8 0, .int .u8 0, .int .u8 0, .int .u8 0, .int .u8 0] (nums .u8 D).zipIdx = zkC 1 x D := by
  have := fold_set 2 (nums .u8 D) 0 [.int .u8 1, .int .u64 x, .int .u8 0, .int .u8 0, .int .u8 0, .int .u8 0, .int .u8 0, .int .u8 0, .int .u8 0, .int .u8 0, .int .u8 0, .int .u8 0, .int .u8 0, .int .u8 0, .int .u8 0, .int .u8 0, .int .u8 0, .int .u8 0, .int .u8 0, .int .u8 0, .int .u8 0, .int .u8 0, .int .u8 0, .int .u8 0, .int .u8 0, .int .u8 0, .int .u8 0, .int .u8 0, .int .u8 0, .int .u8 0, .int .u8 0, .int .u8 0, .int .u8 0, .int .u8 0] (by simp [nums, h])
  rw [this]
  simp [nums, h]
set_option maxRecDepth 20000 in
set_option maxHeartbeats 4000000 in
theorem parse_good (w : World) (v : Value) (x0 : Int) (l : List Int) (hv : Bs w v (x0 :: l)) (hl : (x0 :: l).length ≤ 140737488355000) (hby : ∀ x ∈ x0 :: l, 0 ≤ x ∧ x < 256) (hG : ErrG w) (x : Int) (n : Nat) (hn : num l = .inr (x, n)) (hx0 : ¬ 9223372036854775807 < x) (h5 : l.length = n + 32) (h0 : x0 = 1) :
    Calls Tryd.prog 12 #[v] w fun e w' => e = .returned (.tuple #[zk 1 x (l.drop n), .nilIface]) ∧ Below w.heap.size w w' := by
  have hl2 : l.length + 1 ≤ 140737488355000 := hl
  have HV := Aside0.mk hv
  have HL2 := Aside0.mk hl2
  have HL := Aside0.mk hl
  have HBY := Aside0.mk hby
  have HG := Aside0.mk hG
  have HN := Aside0.mk hn
  have HNK := Aside0.mk (num_ok (fun z hz => hby z (List.mem_cons_of_mem _ hz)) hn)
  have d1 : decide (9223372036854775807 < x) = false := decide_eq_false hx0
  have H5 := Aside0.mk h5
  subst h0
  clear hl2 hv hl hby hG hn hx0 h5
  go_enter Tryd.func12, Tryd.ntmps12
  go_wp2_with fail
  generalize hz : (#[.int .u8 0, .int .u64 0, .int .u8 0, .int .u8 0, .int .u8 0, .int .u8 0, .int .u8 0, .int .u8 0, .int .u8 0, .int .u8 0, .int .u8 0, .int .u8 0, .int .u8 0, .int .u8 0, .int .u8 0, .int .u8 0, .int .u8 0, .int .u8 0, .int .u8 0, .int .u8 0, .int .u8 0, .int .u8 0, .int .u8 0, .int .u8 0, .int .u8 0, .int .u8 0, .int .u8 0, .int .u8 0, .int .u8 0, .int .u8 0, .int .u8 0, .int .u8 0, .int .u8 0, .int .u8 0] : Array Value) = zc
  have HZ := Aside0.mk (show zc = Z0C from hz.symm.trans rfl)
  have HZS := Aside0.mk (show zc.size = 34 from by rw [HZ.out]; rfl)
  have HZA := Aside0.mk (show zc.all (·.oneCell') = true from by rw [HZ.out]; simp [nums, Value.oneCell'])
  clear hz
  have HB := Aside0.mk (show Below w.heap.size w (w.alloc (.cells zc 26)) from below_alloc (B0 w) _)
  have F := Aside0.mk (show (w.alloc (.cells zc 26)).heap[w.heap.size]? = some (.cells zc 26 (0, 0)) from blk_new w _)
  refine (HWire.new_any _ v (1 :: l) (HV.out.below HB.out) (by have := HL.out; omega)).mono ?_
  rintro e w1 ⟨g, rfl, hg, hcur, hb⟩
  have HB1 := Aside0.mk (below_step HB.out hb)
  have F1 := Aside0.mk ((hb.block w.heap.size (by simp)).trans F.out)
  have HGL := Aside0.mk (show w.heap.size < g from by have := hg; simp at this; omega)
  have HC1 := Aside0.mk hcur
  clear hb hcur hg HB F
  go_wp2_with fail
  refine (take_good w1 g (1 :: l) 0 1 HC1.out (by omega) (by omega) (by have := HL.out; omega) (by decide) (by have := HL2.out; simp; omega)).mono ?_
  rintro e w2 ⟨v1, rfl, hR, hcur, hk, hb⟩
  rw [show errW none = .nilIface from rfl]
  rw [show List.take (1 : Int).toNat (List.drop (0 : Int).toNat (1 :: l)) = [1] from rfl] at hR
  have HB2 := Aside0.mk (HB1.out.trans (hb.mono (Nat.le_of_lt HGL.out)))
  have F2 := Aside0.mk ((hb.block _ HGL.out).trans F1.out)
  have HC2 := Aside0.mk (show IsCur w2 g (1 :: l) 1 from hcur)
  obtain ⟨k, c, rfl, hkc, hrg⟩ := own_bytes hR (by simp)
  rw [show ([1] : List Int).length = 1 from rfl] at *
  have hx : w2.cell? ⟨k, 0, none⟩ = some (.int .u8 1) := hrg 0 _ rfl
  clear hR hcur hk hb hrg F1 HB1 HC1
  go_wp2_with fail
  refine (number_at w2 g (1 :: l) 1 HC2.out (by omega) (by simp; omega) (by have := HL.out; omega) HBY.out).mono ?_
  rintro e w3 ⟨he, hcur, hk, hb⟩
  rw [show num (List.drop (1 : Int).toNat (1 :: l)) = .inr (x, n) from HN.out] at he hcur
  subst he
  rw [show numE (.inr (x, n)) = .tuple #[.int .u64 x, .nilIface] from rfl]
  have HB3 := Aside0.mk (HB2.out.trans (hb.mono (Nat.le_of_lt HGL.out)))
  have F3 := Aside0.mk ((hb.block _ HGL.out).trans F2.out)
  have HC3 := Aside0.mk hcur
  clear hcur hk hb hx F2 HB2 HC2
  go_wp2_with fail
  refine (at_at w3 g (1 :: l) _ HC3.out).mono ?_
  rintro e w4 ⟨rfl, ⟨⟨m, rfl⟩⟩⟩
  rw [show numAt 1 (.inr (x, n)) = 1 + (n : Int) from rfl]
  have HB4 := Aside0.mk (below_step HB3.out (pw_below_drewN (B0 w3) m))
  have F4 := Aside0.mk (show (w3.drewN m).heap[w.heap.size]? = some (.cells zc 26 (0, 0)) from F3.out)
  have HC4 := Aside0.mk (show IsCur (w3.drewN m) g (1 :: l) (1 + (n : Int)) from IsCur.drewN HC3.out m)
  generalize w3.drewN m = w4 at *
  clear HB3 F3 HC3
  go_wp2_with fail
  refine (take_good w4 g (1 :: l) (1 + (n : Int)) 32 HC4.out (by omega) (by have := HNK.out.2.2.2.1; simp; omega) (by have := HL.out; omega) (by decide) (by have := H5.out; simp; omega)).mono ?_
  rintro e w5 ⟨v5, rfl, hR, hcur, hk, hb⟩
  rw [show errW none = .nilIface from rfl]
  have HB5 := Aside0.mk (HB4.out.trans (hb.mono (Nat.le_of_lt HGL.out)))
  have F5 := Aside0.mk ((hb.block _ HGL.out).trans F4.out)
  have HC5 := Aside0.mk hcur
  have HR5 := Aside0.mk hR
  clear hR hcur hk hb F4 HB4 HC4
  go_wp2_with fail
  refine (end_at w5 g (1 :: l) (1 + (n : Int) + 32) HC5.out (by omega) (by have := H5.out; simp; omega) (by have := HL.out; omega)).mono ?_
  rintro e w6 ⟨he, ⟨⟨m6, rfl⟩⟩⟩
  rw [if_neg (by have := H5.out; simp; omega)] at he
  subst he
  rw [show errW none = .nilIface from rfl]
  have hds : List.take (32 : Int).toNat (List.drop (1 + (n : Int)).toNat (1 :: l)) = l.drop n := by
    rw [show (1 + (n : Int)).toNat = n + 1 from by omega, List.drop_succ_cons]
    exact List.take_of_length_le (by have := H5.out; simp; omega)
  have hR := HR5.out
  rw [hds] at hR
  have hdl : (l.drop n).length = 32 := by have := H5.out; simp; omega
  obtain ⟨k5, c5, rfl, hkc5, hrg5⟩ := own_bytes hR (by omega)
  obtain ⟨D, hD⟩ : ∃ D, D = l.drop n := ⟨_, rfl⟩
  rw [← hD] at hdl hrg5 hkc5 ⊢
  have HD := Aside0.mk hD
  rw [hdl] at hkc5 ⊢
  have HB6 := Aside0.mk (below_step HB5.out (pw_below_drewN (B0 w5) m6))
  have F6 := Aside0.mk (show (w5.drewN m6).heap[w.heap.size]? = some (.cells zc 26 (0, 0)) from F5.out)
  have hrg6 : (w5.drewN m6).rangeAt k5 0 (nums .u8 D) := hrg5
  generalize w5.drewN m6 = w6 at *
  have hsp := run_at32 (P := Tryd.prog) Tryd.underlying24 ⟨k5, 0, none⟩ c5
  have HLB := Aside0.mk (run_loadAt_mid (P := Tryd.prog) w6 k5 0 24 (nums .u8 D) _ hrg6 Tryd.underlying24 rfl (by rw [size_dg]; simp [nums, hdl]))
  have HDL := Aside0.mk hdl
  clear hD hds hR HR5 hrg5 hrg6 hkc5 HB5 F5 HC5 hdl
  obtain ⟨zr, hzr⟩ : ∃ z, z = zkC 1 x D := ⟨_, rfl⟩
  have hfold := fold_zk x D HDL.out
  rw [← hzr] at hfold
  have hnl : (nums .u8 D).length = 32 := by simp [nums, HDL.out]
  have hzs : zr.size = 34 := by rw [hzr]; simp [nums, HDL.out]
  have HZR := Aside0.mk hzr
  have HZRS := Aside0.mk hzs
  have hsc := zk_cells F6.out HZS.out hzs (by rw [hzr]; simp [nums, Value.oneCell'])
  have HRW := Aside0.mk (setRow_heap w6 w.heap.size zc zr 26 (0, 0) F6.out)
  clear hzr
  go_wp2_with (refine load_ev (t := 24) (p := .tmp 86) rfl rfl HLB.out ?_)
  refine bodyPost_ret (v := .tuple #[.agg zr, .nilIface]) ?_ ?_ ?_
  · exact results_c2 (p := 2) (q := 3) rfl _ _ w.heap.size zr rfl HRW.out HZRS.out
  · rfl
  · exact ⟨by rw [HZR.out, HD.out], below_row HB6.out (Nat.le_refl _) _⟩
theorem num_err {l : List Int} {c : Int} (h : num l = .inl c) : c ≠ 0 := by
  rcases txt_err (txt_inl (limit := 0) h) with h | h | h | h <;> omega
theorem parse_any (w : World) (v : Value) (l : List Int) (hv : Bs w v l) (hl : l.length ≤ 140737488355000) (hby : ∀ x ∈ l, 0 ≤ x ∧ x < 256) (hG : ErrG w) :
    Calls Tryd.prog 12 #[v] w fun e w' => e = .returned (.tuple #[prsZ (prs l), errV (prsC (prs l)) (prsN (prs l))]) ∧ Below w.heap.size w w' := by
  have hfl : ∀ c n : Int, c ≠ 0 → errV c n = fltV c n := fun c n h => by rw [errV, if_neg h]
  cases l with
  | nil => exact parse_nil w v [] hv hl hby hG rfl
  | cons x0 l =>
    by_cases h0 : x0 = 1
    · subst h0
      cases hn : num l with
      | inl c =>
        have hp : prs (1 :: l) = .inl (c, 1) := by simp [prs, hn]
        rw [hp, prsZ, prsC, prsN, hfl c 1 (num_err hn)]
        exact parse_num w v 1 l hv hl hby hG c hn rfl
      | inr xn =>
        obtain ⟨x, n⟩ := xn
        have hk := num_ok (fun z hz => hby z (List.mem_cons_of_mem _ hz)) hn
        by_cases hx : 9223372036854775807 < x
        · have hp : prs (1 :: l) = .inl (15, 1) := by simp [prs, hn, hx]
          rw [hp]
          exact parse_big w v 1 l hv hl hby hG x n hn hx rfl
        · by_cases h5 : l.length < n + 32
          · have hp : prs (1 :: l) = .inl (1, 1 + (n : Int)) := by simp only [prs, List.cons_ne_nil, if_false, List.getD_cons_zero, List.drop_succ_cons, List.drop_zero, hn, hx, List.length_cons]; rw [if_neg (by simp), if_pos (by omega)]
            rw [hp]
            exact parse_short w v 1 l hv hl hby hG x n hn hx h5 rfl
          · by_cases h6 : n + 32 < l.length
            · have hp : prs (1 :: l) = .inl (16, 1 + (n : Int) + 32) := by simp only [prs, List.cons_ne_nil, if_false, List.getD_cons_zero, List.drop_succ_cons, List.drop_zero, hn, hx, List.length_cons]; rw [if_neg (by simp), if_neg (by omega), if_pos (by omega)]
              rw [hp]
              exact parse_long w v 1 l hv hl hby hG x n hn hx h6 rfl
            · have hp : prs (1 :: l) = .inr (x, l.drop n) := by simp only [prs, List.cons_ne_nil, if_false, List.getD_cons_zero, List.drop_succ_cons, List.drop_zero, hn, hx, List.length_cons]; rw [if_neg (by simp), if_neg (by omega), if_neg (by omega), show 1 + n = n + 1 from by omega, List.drop_succ_cons]
              rw [hp]
              exact parse_good w v 1 l hv hl hby hG x n hn hx (by omega) rfl
    · have hp : prs (x0 :: l) = .inl (13, 0) := by simp [prs, h0]
      rw [hp]
      exact parse_ver w v x0 l hv hl hby hG h0
end Go.Proofs.YtogimlinfkbapaaDoor.HZookR
/- The reference's Parse of a zookie. -/
namespace Go.Proofs.YtogimlinfkbapaaDoor.HZookF
open Go.RowKit Go.Proofs.YtogimlinfkbapaaDoorW.PrintWords Go.Proofs.YtogimlinfkbapaaDoor.HLib Go.Proofs.YtogimlinfkbapaaDoor.HSha Go.Proofs.YtogimlinfkbapaaDoor.HShaU Go.Proofs.YtogimlinfkbapaaDoor.HShaS Go.Proofs.YtogimlinfkbapaaDoor.HZook Go.Proofs.YtogimlinfkbapaaDoor.HErr Go.Proofs.YtogimlinfkbapaaDoor.HZookE Go.Proofs.YtogimlinfkbapaaDoor.HZookP Go.Proofs.YtogimlinfkbapaaDoor.HZookR Go.Proofs.YtogimlinfkbapaaDoor.HWire Go.Proofs.YtogimlinfkbapaaDoor.HWireS Go.Proofs.YtogimlinfkbapaaDoor.HCur Go.Proofs.YtogimlinfkbapaaDoor.HRef01
set_option linter.unusedVariables false
set_option linter.unusedSimpArgs false

theorem load_addr {P : Program} (w : World) (a : Addr) (ty : TypeId) (cs : List Value) (d : TypeDesc) (hc : ∀ j v, cs[j]? = some v → w.cell? (a.add j) = some v)
    (hu : P.underlying ty = some d) (hd : (match d with | .struct _ | .array _ _ => true | _ => false) = true) (hi : (P.info? ty).map (·.size) = some cs.length) :
    (Instr.loadAt ty (.pointer (some a))).run P w = .ok (.agg cs.toArray) w := by
  have hl := run_loadCells_list (P := P) (w := w) a cs hc
  obtain ⟨i, hq, hs⟩ := Option.map_eq_some_iff.1 hi
  simp only [Instr.loadAt, Instr.sureAddr, Sem.run_bind, Sem.run_pure, Result.andThen_ok]
  have hl2 : (loadCells a i.size).run P w = .ok cs.toArray w := by rw [hs]; exact hl
  cases d <;> first | (simp at hd; done) | simp [loadVar, sizeOf, typeInfo, isAgg, run_underlying hu, hq, hl2, Result.andThen]
theorem add_add (a : Addr) (m j : Nat) : (a.add m).add j = a.add (m + j) := by
  unfold Addr.add
  by_cases h1 : m = 0
  · subst h1; simp
  · by_cases h2 : j = 0
    · subst h2; simp [h1]
    · simp [h1, h2, Nat.add_assoc]

set_option maxRecDepth 20000 in
set_option maxHeartbeats 4000000 in
theorem ref_nil (w : World) (v : Value) (hv : Bs w v (([] : List Int))) (hl : (([] : List Int)).length ≤ 140737488355000) (hby : ∀ x ∈ ([] : List Int), 0 ≤ x ∧ x < 256) :
    Calls Tryd.prog 17 #[v] w fun e w' => e = .returned (.tuple #[Z0, .int .i64 1, .int .i64 0]) ∧ Below w.heap.size w w' := by
  have HV := Aside0.mk hv
  have HL := Aside0.mk hl
  have HBY := Aside0.mk hby
  obtain ⟨A, c, rfl, hcc, hC, hnn⟩ := hv
  have HCC := Aside0.mk hcc
  generalize hz : (#[.int .u8 0, .int .u64 0, .int .u8 0, .int .u8 0, .int .u8 0, .int .u8 0, .int .u8 0, .int .u8 0, .int .u8 0, .int .u8 0, .int .u8 0, .int .u8 0, .int .u8 0, .int .u8 0, .int .u8 0, .int .u8 0, .int .u8 0, .int .u8 0, .int .u8 0, .int .u8 0, .int .u8 0, .int .u8 0, .int .u8 0, .int .u8 0, .int .u8 0, .int .u8 0, .int .u8 0, .int .u8 0, .int .u8 0, .int .u8 0, .int .u8 0, .int .u8 0, .int .u8 0, .int .u8 0] : Array Value) = zc
  have HZ := Aside0.mk (show zc = Z0C from hz.symm.trans rfl)
  have HZS := Aside0.mk (show zc.size = 34 from by rw [HZ.out]; rfl)
  have HZA := Aside0.mk (show zc.all (·.oneCell') = true from by rw [HZ.out]; simp [nums, Value.oneCell'])
  have HB := Aside0.mk (show Below w.heap.size w (w.alloc (.cells zc 26)) from below_alloc (B0 w) _)
  have F := Aside0.mk (show (w.alloc (.cells zc 26)).heap[w.heap.size]? = some (.cells zc 26 (0, 0)) from blk_new w _)
  have HC := Aside0.mk (Kd.C_below hC HB.out)
  have hsz := HZS.out
  have hsc := zk_cells F.out hsz hsz HZA.out
  have HRW := Aside0.mk (setRow_heap (w.alloc (.cells zc 26)) w.heap.size zc zc 26 (0, 0) F.out)

  go_enter Tryd.func17, Tryd.ntmps17
  go_wp2_with fail
  refine bodyPost_ret (v := .tuple #[.agg zc, .int .i64 1, .int .i64 0]) ?_ ?_ ?_
  · exact results_c3 (p := 2) (q := 3) (s := 4) rfl _ _ w.heap.size zc rfl HRW.out HZS.out
  · rfl
  · exact ⟨by rw [HZ.out], below_row HB.out (Nat.le_refl _) _⟩
set_option maxRecDepth 20000 in
set_option maxHeartbeats 4000000 in
theorem ref_ver (w : World) (v : Value) (x0 : Int) (l : List Int) (hv : Bs w v (x0 :: l)) (hl : (x0 :: l).length ≤ 140737488355000) (hby : ∀ x ∈ x0 :: l, 0 ≤ x ∧ x < 256) (h0 : x0 ≠ 1) :
    Calls Tryd.prog 17 #[v] w fun e w' => e = .returned (.tuple #[Z0, .int .i64 13, .int .i64 0]) ∧ Below w.heap.size w w' := by
  have d0 : (x0 == 1) = false := by simpa using h0
  have HV := Aside0.mk hv
  have HL := Aside0.mk hl
  have HBY := Aside0.mk hby
  obtain ⟨A, c, rfl, hcc, hC, hnn⟩ := hv
  have HCC := Aside0.mk hcc
  generalize hz : (#[.int .u8 0, .int .u64 0, .int .u8 0, .int .u8 0, .int .u8 0, .int .u8 0, .int .u8 0, .int .u8 0, .int .u8 0, .int .u8 0, .int .u8 0, .int .u8 0, .int .u8 0, .int .u8 0, .int .u8 0, .int .u8 0, .int .u8 0, .int .u8 0, .int .u8 0, .int .u8 0, .int .u8 0, .int .u8 0, .int .u8 0, .int .u8 0, .int .u8 0, .int .u8 0, .int .u8 0, .int .u8 0, .int .u8 0, .int .u8 0, .int .u8 0, .int .u8 0, .int .u8 0, .int .u8 0] : Array Value) = zc
  have HZ := Aside0.mk (show zc = Z0C from hz.symm.trans rfl)
  have HZS := Aside0.mk (show zc.size = 34 from by rw [HZ.out]; rfl)
  have HZA := Aside0.mk (show zc.all (·.oneCell') = true from by rw [HZ.out]; simp [nums, Value.oneCell'])
  have HB := Aside0.mk (show Below w.heap.size w (w.alloc (.cells zc 26)) from below_alloc (B0 w) _)
  have F := Aside0.mk (show (w.alloc (.cells zc 26)).heap[w.heap.size]? = some (.cells zc 26 (0, 0)) from blk_new w _)
  have HC := Aside0.mk (Kd.C_below hC HB.out)
  obtain ⟨ad, hA, hcell⟩ := HMacS.C_cells HC.out (by simp)
  have hx : (w.alloc (.cells zc 26)).cell? ad = some (.int .u8 x0) := hcell 0 _ rfl
  have HCELL := Aside0.mk hcell
  subst hA
  rw [show (x0 :: l).length = l.length + 1 from rfl] at *
  have hsz := HZS.out
  have hsc := zk_cells F.out hsz hsz HZA.out
  have HRW := Aside0.mk (setRow_heap (w.alloc (.cells zc 26)) w.heap.size zc zc 26 (0, 0) F.out)

  go_enter Tryd.func17, Tryd.ntmps17
  go_wp2_with fail
  refine bodyPost_ret (v := .tuple #[.agg zc, .int .i64 (13), .int .i64 (0)]) ?_ ?_ ?_
  · exact results_c3 (p := 2) (q := 3) (s := 4) rfl _ _ w.heap.size zc rfl HRW.out HZS.out
  · rfl
  · exact ⟨by rw [HZ.out], below_row HB.out (Nat.le_refl _) _⟩
set_option maxRecDepth 20000 in
set_option maxHeartbeats 4000000 in
theorem ref_num (w : World) (v : Value) (l : List Int) (hv : Bs w v (1 :: l)) (hl : (1 :: l).length ≤ 140737488355000) (hby : ∀ x ∈ 1 :: l, 0 ≤ x ∧ x < 256) (c1 : Int) (hn : num l = .inl c1) :
    Calls Tryd.prog 17 #[v] w fun e w' => e = .returned (.tuple #[Z0, .int .i64 c1, .int .i64 1]) ∧ Below w.heap.size w w' := by
  have HN := Aside0.mk hn
  have d1 : (c1 == 0) = false := by simpa using HZookR.num_err hn
  have HV := Aside0.mk hv
  have HL := Aside0.mk hl
  have HBY := Aside0.mk hby
  obtain ⟨A, c, rfl, hcc, hC, hnn⟩ := hv
  have HCC := Aside0.mk hcc
  generalize hz : (#[.int .u8 0, .int .u64 0, .int .u8 0, .int .u8 0, .int .u8 0, .int .u8 0, .int .u8 0, .int .u8 0, .int .u8 0, .int .u8 0, .int .u8 0, .int .u8 0, .int .u8 0, .int .u8 0, .int .u8 0, .int .u8 0, .int .u8 0, .int .u8 0, .int .u8 0, .int .u8 0, .int .u8 0, .int .u8 0, .int .u8 0, .int .u8 0, .int .u8 0, .int .u8 0, .int .u8 0, .int .u8 0, .int .u8 0, .int .u8 0, .int .u8 0, .int .u8 0, .int .u8 0, .int .u8 0] : Array Value) = zc
  have HZ := Aside0.mk (show zc = Z0C from hz.symm.trans rfl)
  have HZS := Aside0.mk (show zc.size = 34 from by rw [HZ.out]; rfl)
  have HZA := Aside0.mk (show zc.all (·.oneCell') = true from by rw [HZ.out]; simp [nums, Value.oneCell'])
  have HB := Aside0.mk (show Below w.heap.size w (w.alloc (.cells zc 26)) from below_alloc (B0 w) _)
  have F := Aside0.mk (show (w.alloc (.cells zc 26)).heap[w.heap.size]? = some (.cells zc 26 (0, 0)) from blk_new w _)
  have HC := Aside0.mk (Kd.C_below hC HB.out)
  obtain ⟨ad, hA, hcell⟩ := HMacS.C_cells HC.out (by simp)
  have hx : (w.alloc (.cells zc 26)).cell? ad = some (.int .u8 1) := hcell 0 _ rfl
  have HCELL := Aside0.mk hcell
  subst hA
  rw [show (1 :: l).length = l.length + 1 from rfl] at *
  have hsz := HZS.out
  have hsc := zk_cells F.out hsz hsz HZA.out
  have HRW := Aside0.mk (setRow_heap (w.alloc (.cells zc 26)) w.heap.size zc zc 26 (0, 0) F.out)

  go_enter Tryd.func17, Tryd.ntmps17
  clear hsc HRW
  go_wp2_with fail
  refine (refnumber_any _ _ (1 :: l) 1 (HV.out.below HB.out) (by omega) (by omega) (by have := HL.out; simp at this ⊢; omega) HBY.out).mono ?_
  rintro e w1 ⟨he, ⟨⟨m, rfl⟩⟩⟩
  rw [show num (List.drop (1 : Int).toNat (1 :: l)) = .inl c1 from HN.out] at he
  subst he
  rw [show refE 1 (.inl c1) = .tuple #[.int .u64 0, .int .i64 1, .int .i64 c1] from rfl]
  have F1 : ((w.alloc (.cells zc 26)).drewN m).heap[w.heap.size]? = some (.cells zc 26 (0, 0)) := F.out
  have HB1 := Aside0.mk (below_step HB.out (pw_below_drewN (B0 (w.alloc (.cells zc 26))) m))
  have hsc := zk_cells F1 hsz hsz HZA.out
  have HRW := Aside0.mk (setRow_heap ((w.alloc (.cells zc 26)).drewN m) w.heap.size zc zc 26 (0, 0) F1)
  go_wp2_with fail
  refine bodyPost_ret (v := .tuple #[.agg zc, .int .i64 (c1), .int .i64 (1)]) ?_ ?_ ?_
  · exact results_c3 (p := 2) (q := 3) (s := 4) rfl _ _ w.heap.size zc rfl HRW.out HZS.out
  · rfl
  · exact ⟨by rw [HZ.out], below_row HB1.out (Nat.le_refl _) _⟩
set_option maxRecDepth 20000 in
set_option maxHeartbeats 4000000 in
theorem ref_big (w : World) (v : Value) (l : List Int) (hv : Bs w v (1 :: l)) (hl : (1 :: l).length ≤ 140737488355000) (hby : ∀ x ∈ 1 :: l, 0 ≤ x ∧ x < 256) (x : Int) (n : Nat) (hn : num l = .inr (x, n)) (hx0 : 9223372036854775807 < x) :
    Calls Tryd.prog 17 #[v] w fun e w' => e = .returned (.tuple #[Z0, .int .i64 15, .int .i64 1]) ∧ Below w.heap.size w w' := by
  have HN := Aside0.mk hn
  have d1 : decide (9223372036854775808 ≤ x) = true := decide_eq_true (by omega)
  have HV := Aside0.mk hv
  have HL := Aside0.mk hl
  have HBY := Aside0.mk hby
  obtain ⟨A, c, rfl, hcc, hC, hnn⟩ := hv
  have HCC := Aside0.mk hcc
  generalize hz : (#[.int .u8 0, .int .u64 0, .int .u8 0, .int .u8 0, .int .u8 0, .int .u8 0, .int .u8 0, .int .u8 0, .int .u8 0, .int .u8 0, .int .u8 0, .int .u8 0, .int .u8 0, .int .u8 0, .int .u8 0, .int .u8 0, .int .u8 0, .int .u8 0, .int .u8 0, .int .u8 0, .int .u8 0, .int .u8 0, .int .u8 0, .int .u8 0, .int .u8 0, .int .u8 0, .int .u8 0, .int .u8 0, .int .u8 0, .int .u8 0, .int .u8 0, .int .u8 0, .int .u8 0, .int .u8 0] : Array Value) = zc
  have HZ := Aside0.mk (show zc = Z0C from hz.symm.trans rfl)
  have HZS := Aside0.mk (show zc.size = 34 from by rw [HZ.out]; rfl)
  have HZA := Aside0.mk (show zc.all (·.oneCell') = true from by rw [HZ.out]; simp [nums, Value.oneCell'])
  have HB := Aside0.mk (show Below w.heap.size w (w.alloc (.cells zc 26)) from below_alloc (B0 w) _)
  have F := Aside0.mk (show (w.alloc (.cells zc 26)).heap[w.heap.size]? = some (.cells zc 26 (0, 0)) from blk_new w _)
  have HC := Aside0.mk (Kd.C_below hC HB.out)
  obtain ⟨ad, hA, hcell⟩ := HMacS.C_cells HC.out (by simp)
  have hx : (w.alloc (.cells zc 26)).cell? ad = some (.int .u8 1) := hcell 0 _ rfl
  have HCELL := Aside0.mk hcell
  subst hA
  rw [show (1 :: l).length = l.length + 1 from rfl] at *
  have hsz := HZS.out
  have hsc := zk_cells F.out hsz hsz HZA.out
  have HRW := Aside0.mk (setRow_heap (w.alloc (.cells zc 26)) w.heap.size zc zc 26 (0, 0) F.out)

  go_enter Tryd.func17, Tryd.ntmps17
  clear hsc HRW
  go_wp2_with fail
  refine (refnumber_any _ _ (1 :: l) 1 (HV.out.below HB.out) (by omega) (by omega) (by have := HL.out; simp at this ⊢; omega) HBY.out).mono ?_
  rintro e w1 ⟨he, ⟨⟨m, rfl⟩⟩⟩
  rw [show num (List.drop (1 : Int).toNat (1 :: l)) = .inr (x, n) from HN.out] at he
  subst he
  rw [show refE 1 (.inr (x, n)) = .tuple #[.int .u64 x, .int .i64 (1 + (n : Int)), .int .i64 0] from rfl]
  have F1 : ((w.alloc (.cells zc 26)).drewN m).heap[w.heap.size]? = some (.cells zc 26 (0, 0)) := F.out
  have HB1 := Aside0.mk (below_step HB.out (pw_below_drewN (B0 (w.alloc (.cells zc 26))) m))
  have hsc := zk_cells F1 hsz hsz HZA.out
  have HRW := Aside0.mk (setRow_heap ((w.alloc (.cells zc 26)).drewN m) w.heap.size zc zc 26 (0, 0) F1)
  go_wp2_with fail
  refine bodyPost_ret (v := .tuple #[.agg zc, .int .i64 (15), .int .i64 (1)]) ?_ ?_ ?_
  · exact results_c3 (p := 2) (q := 3) (s := 4) rfl _ _ w.heap.size zc rfl HRW.out HZS.out
  · rfl
  · exact ⟨by rw [HZ.out], below_row HB1.out (Nat.le_refl _) _⟩
set_option maxRecDepth 20000 in
set_option maxHeartbeats 4000000 in
theorem ref_short (w : World) (v : Value) (l : List Int) (hv : Bs w v (1 :: l)) (hl : (1 :: l).length ≤ 140737488355000) (hby : ∀ x ∈ 1 :: l, 0 ≤ x ∧ x < 256) (x : Int) (n : Nat) (hn : num l = .inr (x, n)) (hx0 : ¬ 9223372036854775807 < x) (h5 : l.length < n + 32) :
    Calls Tryd.prog 17 #[v] w fun e w' => e = .returned (.tuple #[Z0, .int .i64 1, .int .i64 (1 + (n : Int))]) ∧ Below w.heap.size w w' := by
  have HN := Aside0.mk hn
  have hnk := num_ok (fun z hz => hby z (List.mem_cons_of_mem _ hz)) hn
  have HNK := Aside0.mk hnk
  have d1 : decide (9223372036854775808 ≤ x) = false := decide_eq_false (by omega)
  have H5 := Aside0.mk h5
  have hl2 : l.length + 1 ≤ 140737488355000 := hl
  have hw1 : wrap64 ((l.length : Int) + 1 - (1 + (n : Int))) = (l.length : Int) - n := by rw [IntWalk.wrap64_in _ (by omega)]; omega
  have d2 : decide ((l.length : Int) - n < 32) = true := decide_eq_true (by omega)
  have HV := Aside0.mk hv
  have HL := Aside0.mk hl
  have HBY := Aside0.mk hby
  obtain ⟨A, c, rfl, hcc, hC, hnn⟩ := hv
  have HCC := Aside0.mk hcc
  generalize hz : (#[.int .u8 0, .int .u64 0, .int .u8 0, .int .u8 0, .int .u8 0, .int .u8 0, .int .u8 0, .int .u8 0, .int .u8 0, .int .u8 0, .int .u8 0, .int .u8 0, .int .u8 0, .int .u8 0, .int .u8 0, .int .u8 0, .int .u8 0, .int .u8 0, .int .u8 0, .int .u8 0, .int .u8 0, .int .u8 0, .int .u8 0, .int .u8 0, .int .u8 0, .int .u8 0, .int .u8 0, .int .u8 0, .int .u8 0, .int .u8 0, .int .u8 0, .int .u8 0, .int .u8 0, .int .u8 0] : Array Value) = zc
  have HZ := Aside0.mk (show zc = Z0C from hz.symm.trans rfl)
  have HZS := Aside0.mk (show zc.size = 34 from by rw [HZ.out]; rfl)
  have HZA := Aside0.mk (show zc.all (·.oneCell') = true from by rw [HZ.out]; simp [nums, Value.oneCell'])
  have HB := Aside0.mk (show Below w.heap.size w (w.alloc (.cells zc 26)) from below_alloc (B0 w) _)
  have F := Aside0.mk (show (w.alloc (.cells zc 26)).heap[w.heap.size]? = some (.cells zc 26 (0, 0)) from blk_new w _)
  have HC := Aside0.mk (Kd.C_below hC HB.out)
  obtain ⟨ad, hA, hcell⟩ := HMacS.C_cells HC.out (by simp)
  have hx : (w.alloc (.cells zc 26)).cell? ad = some (.int .u8 1) := hcell 0 _ rfl
  have HCELL := Aside0.mk hcell
  subst hA
  rw [show (1 :: l).length = l.length + 1 from rfl] at *
  have hsz := HZS.out
  have hsc := zk_cells F.out hsz hsz HZA.out
  have HRW := Aside0.mk (setRow_heap (w.alloc (.cells zc 26)) w.heap.size zc zc 26 (0, 0) F.out)

  go_enter Tryd.func17, Tryd.ntmps17
  clear hsc HRW
  go_wp2_with fail
  refine (refnumber_any _ _ (1 :: l) 1 (HV.out.below HB.out) (by omega) (by omega) (by have := HL.out; simp at this ⊢; omega) HBY.out).mono ?_
  rintro e w1 ⟨he, ⟨⟨m, rfl⟩⟩⟩
  rw [show num (List.drop (1 : Int).toNat (1 :: l)) = .inr (x, n) from HN.out] at he
  subst he
  rw [show refE 1 (.inr (x, n)) = .tuple #[.int .u64 x, .int .i64 (1 + (n : Int)), .int .i64 0] from rfl]
  have F1 : ((w.alloc (.cells zc 26)).drewN m).heap[w.heap.size]? = some (.cells zc 26 (0, 0)) := F.out
  have HB1 := Aside0.mk (below_step HB.out (pw_below_drewN (B0 (w.alloc (.cells zc 26))) m))
  have hsc := zk_cells F1 hsz hsz HZA.out
  have HRW := Aside0.mk (setRow_heap ((w.alloc (.cells zc 26)).drewN m) w.heap.size zc zc 26 (0, 0) F1)
  go_wp2_with fail
  refine bodyPost_ret (v := .tuple #[.agg zc, .int .i64 (1), .int .i64 (1 + (n : Int))]) ?_ ?_ ?_
  · exact results_c3 (p := 2) (q := 3) (s := 4) rfl _ _ w.heap.size zc rfl HRW.out HZS.out
  · rfl
  · exact ⟨by rw [HZ.out], below_row HB1.out (Nat.le_refl _) _⟩
set_option maxRecDepth 20000 in
set_option maxHeartbeats 4000000 in
theorem ref_long (w : World) (v : Value) (l : List Int) (hv : Bs w v (1 :: l)) (hl : (1 :: l).length ≤ 140737488355000) (hby : ∀ x ∈ 1 :: l, 0 ≤ x ∧ x < 256) (x : Int) (n : Nat) (hn : num l = .inr (x, n)) (hx0 : ¬ 9223372036854775807 < x) (h5 : n + 32 < l.length) :
    Calls Tryd.prog 17 #[v] w fun e w' => e = .returned (.tuple #[Z0, .int .i64 16, .int .i64 (1 + (n : Int) + 32)]) ∧ Below w.heap.size w w' := by
  have HN := Aside0.mk hn
  have hnk := num_ok (fun z hz => hby z (List.mem_cons_of_mem _ hz)) hn
  have HNK := Aside0.mk hnk
  have d1 : decide (9223372036854775808 ≤ x) = false := decide_eq_false (by omega)
  have H5 := Aside0.mk h5
  have hl2 : l.length + 1 ≤ 140737488355000 := hl
  have hw1 : wrap64 ((l.length : Int) + 1 - (1 + (n : Int))) = (l.length : Int) - n := by rw [IntWalk.wrap64_in _ (by omega)]; omega
  have d2 : decide ((l.length : Int) + 1 - (1 + (n : Int)) < 32) = false := decide_eq_false (by omega)
  have d3 : decide (32 < (l.length : Int) + 1 - (1 + (n : Int))) = true := decide_eq_true (by omega)
  have HV := Aside0.mk hv
  have HL := Aside0.mk hl
  have HBY := Aside0.mk hby
  obtain ⟨A, c, rfl, hcc, hC, hnn⟩ := hv
  have HCC := Aside0.mk hcc
  generalize hz : (#[.int .u8 0, .int .u64 0, .int .u8 0, .int .u8 0, .int .u8 0, .int .u8 0, .int .u8 0, .int .u8 0, .int .u8 0, .int .u8 0, .int .u8 0, .int .u8 0, .int .u8 0, .int .u8 0, .int .u8 0, .int .u8 0, .int .u8 0, .int .u8 0, .int .u8 0, .int .u8 0, .int .u8 0, .int .u8 0, .int .u8 0, .int .u8 0, .int .u8 0, .int .u8 0, .int .u8 0, .int .u8 0, .int .u8 0, .int .u8 0, .int .u8 0, .int .u8 0, .int .u8 0, .int .u8 0] : Array Value) = zc
  have HZ := Aside0.mk (show zc = Z0C from hz.symm.trans rfl)
  have HZS := Aside0.mk (show zc.size = 34 from by rw [HZ.out]; rfl)
  have HZA := Aside0.mk (show zc.all (·.oneCell') = true from by rw [HZ.out]; simp [nums, Value.oneCell'])
  have HB := Aside0.mk (show Below w.heap.size w (w.alloc (.cells zc 26)) from below_alloc (B0 w) _)
  have F := Aside0.mk (show (w.alloc (.cells zc 26)).heap[w.heap.size]? = some (.cells zc 26 (0, 0)) from blk_new w _)
  have HC := Aside0.mk (Kd.C_below hC HB.out)
  obtain ⟨ad, hA, hcell⟩ := HMacS.C_cells HC.out (by simp)
  have hx : (w.alloc (.cells zc 26)).cell? ad = some (.int .u8 1) := hcell 0 _ rfl
  have HCELL := Aside0.mk hcell
  subst hA
  rw [show (1 :: l).length = l.length + 1 from rfl] at *
  have hsz := HZS.out
  have hsc := zk_cells F.out hsz hsz HZA.out
  have HRW := Aside0.mk (setRow_heap (w.alloc (.cells zc 26)) w.heap.size zc zc 26 (0, 0) F.out)

  go_enter Tryd.func17, Tryd.ntmps17
  clear hsc HRW
  go_wp2_with fail
  refine (refnumber_any _ _ (1 :: l) 1 (HV.out.below HB.out) (by omega) (by omega) (by have := HL.out; simp at this ⊢; omega) HBY.out).mono ?_
  rintro e w1 ⟨he, ⟨⟨m, rfl⟩⟩⟩
  rw [show num (List.drop (1 : Int).toNat (1 :: l)) = .inr (x, n) from HN.out] at he
  subst he
  rw [show refE 1 (.inr (x, n)) = .tuple #[.int .u64 x, .int .i64 (1 + (n : Int)), .int .i64 0] from rfl]
  have F1 : ((w.alloc (.cells zc 26)).drewN m).heap[w.heap.size]? = some (.cells zc 26 (0, 0)) := F.out
  have HB1 := Aside0.mk (below_step HB.out (pw_below_drewN (B0 (w.alloc (.cells zc 26))) m))
  have hsc := zk_cells F1 hsz hsz HZA.out
  have HRW := Aside0.mk (setRow_heap ((w.alloc (.cells zc 26)).drewN m) w.heap.size zc zc 26 (0, 0) F1)
  go_wp2_with fail
  refine bodyPost_ret (v := .tuple #[.agg zc, .int .i64 (16), .int .i64 (1 + (n : Int) + 32)]) ?_ ?_ ?_
  · exact results_c3 (p := 2) (q := 3) (s := 4) rfl _ _ w.heap.size zc rfl HRW.out HZS.out
  · rfl
  · exact ⟨by rw [HZ.out], below_row HB1.out (Nat.le_refl _) _⟩
set_option maxRecDepth 20000 in
set_option maxHeartbeats 4000000 in
theorem ref_good (w : World) (v : Value) (l : List Int) (hv : Bs w v (1 :: l)) (hl : (1 :: l).length ≤ 140737488355000) (hby : ∀ x ∈ 1 :: l, 0 ≤ x ∧ x < 256) (x : Int) (n : Nat) (hn : num l = .inr (x, n)) (hx0 : ¬ 9223372036854775807 < x) (h5 : l.length = n + 32) :
    Calls Tryd.prog 17 #[v] w fun e w' => e = .returned (.tuple #[zk 1 x (l.drop n), .int .i64 0, .int .i64 0]) ∧ Below w.heap.size w w' := by
  have HN := Aside0.mk hn
  have hnk := num_ok (fun z hz => hby z (List.mem_cons_of_mem _ hz)) hn
  have HNK := Aside0.mk hnk
  have d1 : decide (9223372036854775808 ≤ x) = false := decide_eq_false (by omega)
  have H5 := Aside0.mk h5
  have hl2 : l.length + 1 ≤ 140737488355000 := hl
  have hw1 : wrap64 ((l.length : Int) + 1 - (1 + (n : Int))) = (l.length : Int) - n := by rw [IntWalk.wrap64_in _ (by omega)]; omega
  have d2 : decide ((l.length : Int) + 1 - (1 + (n : Int)) < 32) = false := decide_eq_false (by omega)
  have d3 : decide (32 < (l.length : Int) + 1 - (1 + (n : Int))) = false := decide_eq_false (by omega)
  clear h5
  have HV := Aside0.mk hv
  have HL := Aside0.mk hl
  have HBY := Aside0.mk hby
  obtain ⟨A, c, rfl, hcc, hC, hnn⟩ := hv
  have HCC := Aside0.mk hcc
  generalize hz : (#[.int .u8 0, .int .u64 0, .int .u8 0, .int .u8 0, .int .u8 0, .int .u8 0, .int .u8 0, .int .u8 0, .int .u8 0, .int .u8 0, .int .u8 0, .int .u8 0, .int .u8 0, .int .u8 0, .int .u8 0, .int .u8 0, .int .u8 0, .int .u8 0, .int .u8 0, .int .u8 0, .int .u8 0, .int .u8 0, .int .u8 0, .int .u8 0, .int .u8 0, .int .u8 0, .int .u8 0, .int .u8 0, .int .u8 0, .int .u8 0, .int .u8 0, .int .u8 0, .int .u8 0, .int .u8 0] : Array Value) = zc
  have HZ := Aside0.mk (show zc = Z0C from hz.symm.trans rfl)
  have HZS := Aside0.mk (show zc.size = 34 from by rw [HZ.out]; rfl)
  have HZA := Aside0.mk (show zc.all (·.oneCell') = true from by rw [HZ.out]; simp [nums, Value.oneCell'])
  have HB := Aside0.mk (show Below w.heap.size w (w.alloc (.cells zc 26)) from below_alloc (B0 w) _)
  have F := Aside0.mk (show (w.alloc (.cells zc 26)).heap[w.heap.size]? = some (.cells zc 26 (0, 0)) from blk_new w _)
  have HC := Aside0.mk (Kd.C_below hC HB.out)
  obtain ⟨ad, hA, hcell⟩ := HMacS.C_cells HC.out (by simp)
  have hx : (w.alloc (.cells zc 26)).cell? ad = some (.int .u8 1) := hcell 0 _ rfl
  have HCELL := Aside0.mk hcell
  subst hA
  rw [show (1 :: l).length = l.length + 1 from rfl] at *
  have hsz := HZS.out
  have hsc := zk_cells F.out hsz hsz HZA.out
  have HRW := Aside0.mk (setRow_heap (w.alloc (.cells zc 26)) w.heap.size zc zc 26 (0, 0) F.out)

  go_enter Tryd.func17, Tryd.ntmps17
  clear hsc HRW
  go_wp2_with fail
  refine (refnumber_any _ _ (1 :: l) 1 (HV.out.below HB.out) (by omega) (by omega) (by have := HL.out; simp at this ⊢; omega) HBY.out).mono ?_
  rintro e w1 ⟨he, ⟨⟨m, rfl⟩⟩⟩
  rw [show num (List.drop (1 : Int).toNat (1 :: l)) = .inr (x, n) from HN.out] at he
  subst he
  rw [show refE 1 (.inr (x, n)) = .tuple #[.int .u64 x, .int .i64 (1 + (n : Int)), .int .i64 0] from rfl]
  have F1 : ((w.alloc (.cells zc 26)).drewN m).heap[w.heap.size]? = some (.cells zc 26 (0, 0)) := F.out
  have HB1 := Aside0.mk (below_step HB.out (pw_below_drewN (B0 (w.alloc (.cells zc 26))) m))
  have hsc := zk_cells F1 hsz hsz HZA.out
  have HRW := Aside0.mk (setRow_heap ((w.alloc (.cells zc 26)).drewN m) w.heap.size zc zc 26 (0, 0) F1)
  go_upto_region 14 with fail
  rw [show l.length + 1 = n + 33 from by have := H5.out; omega]
  have hq : n + 33 ≤ c := by have := HCC.out; have := H5.out; omega
  clear hz hl2 hnk hw1 hn hx0 d2 d3 hx hsc HRW
  have hsp : (Instr.arrayAt 24 (.slice (some (ad.add (1 + n))) (n + 33 - (1 + n)) (c - (1 + n)))).run Tryd.prog ((w.alloc (.cells zc 26)).drewN m) = .ok (.pointer (some (ad.add (1 + n)))) ((w.alloc (.cells zc 26)).drewN m) := by rw [show n + 33 - (1 + n) = 32 from by omega]; exact run_at32 Tryd.underlying24 _ _ _
  obtain ⟨D, hD⟩ : ∃ D, D = l.drop n := ⟨_, rfl⟩
  have HD := Aside0.mk hD
  have HDL := Aside0.mk (show D.length = 32 from by rw [hD, List.length_drop]; have := H5.out; omega)
  have HLB := Aside0.mk (load_addr (P := Tryd.prog) ((w.alloc (.cells zc 26)).drewN m) (ad.add (1 + n)) 24 (nums .u8 D) _ (fun j v hj => by
    rw [add_add]; refine HCELL.out (1 + n + j) v ?_; rw [hD] at hj; rw [← hj, show 1 + n + j = (n + j) + 1 from by omega]; simp [nums, List.getElem?_drop]) Tryd.underlying24 rfl (by rw [size_dg]; simp [nums, HDL.out]))
  obtain ⟨zr, hzr⟩ : ∃ z, z = zkC 1 x D := ⟨_, rfl⟩
  have hfold := fold_zk x D HDL.out
  rw [← hzr] at hfold
  have hnl : (nums .u8 D).length = 32 := by simp [nums, HDL.out]
  have hzs : zr.size = 34 := by rw [hzr]; simp [nums, HDL.out]
  have HZR := Aside0.mk hzr
  have HZRS := Aside0.mk hzs
  have hsc := zk_cells F1 HZS.out hzs (by rw [hzr]; simp [nums, Value.oneCell'])
  have HRW := Aside0.mk (setRow_heap ((w.alloc (.cells zc 26)).drewN m) w.heap.size zc zr 26 (0, 0) F1)
  clear hzr hD
  go_wp2_with (refine load_ev (t := 24) (p := .tmp 52) rfl rfl HLB.out ?_)
  refine bodyPost_ret (v := .tuple #[.agg zr, .int .i64 0, .int .i64 0]) ?_ ?_ ?_
  · exact results_c3 (p := 2) (q := 3) (s := 4) rfl _ _ w.heap.size zr rfl HRW.out HZRS.out
  · rfl
  · exact ⟨by rw [HZR.out, HD.out], below_row HB1.out (Nat.le_refl _) _⟩
theorem refparse_any (w : World) (v : Value) (l : List Int) (hv : Bs w v l) (hl : l.length ≤ 140737488355000) (hby : ∀ x ∈ l, 0 ≤ x ∧ x < 256) :
    Calls Tryd.prog 17 #[v] w fun e w' => e = .returned (.tuple #[prsZ (prs l), .int .i64 (prsC (prs l)), .int .i64 (prsN (prs l))]) ∧ Below w.heap.size w w' := by
  cases l with
  | nil => exact ref_nil w v hv hl hby
  | cons x0 l =>
    by_cases h0 : x0 = 1
    · subst h0
      cases hn : num l with
      | inl c =>
        have hp : prs (1 :: l) = .inl (c, 1) := by simp [prs, hn]
        rw [hp]
        exact ref_num w v l hv hl hby c hn
      | inr xn =>
        obtain ⟨x, n⟩ := xn
        by_cases hx : 9223372036854775807 < x
        · have hp : prs (1 :: l) = .inl (15, 1) := by simp [prs, hn, hx]
          rw [hp]
          exact ref_big w v l hv hl hby x n hn hx
        · by_cases h5 : l.length < n + 32
          · have hp : prs (1 :: l) = .inl (1, 1 + (n : Int)) := by simp only [prs, List.cons_ne_nil, if_false, List.getD_cons_zero, List.drop_succ_cons, List.drop_zero, hn, hx, List.length_cons]; rw [if_neg (by simp), if_pos (by omega)]
            rw [hp]
            exact ref_short w v l hv hl hby x n hn hx h5
          · by_cases h6 : n + 32 < l.length
            · have hp : prs (1 :: l) = .inl (16, 1 + (n : Int) + 32) := by simp only [prs, List.cons_ne_nil, if_false, List.getD_cons_zero, List.drop_succ_cons, List.drop_zero, hn, hx, List.length_cons]; rw [if_neg (by simp), if_neg (by omega), if_pos (by omega)]
              rw [hp]
              exact ref_long w v l hv hl hby x n hn hx h6
            · have hp : prs (1 :: l) = .inr (x, l.drop n) := by simp only [prs, List.cons_ne_nil, if_false, List.getD_cons_zero, List.drop_succ_cons, List.drop_zero, hn, hx, List.length_cons]; rw [if_neg (by simp), if_neg (by omega), if_neg (by omega), show 1 + n = n + 1 from by omega, List.drop_succ_cons]
              rw [hp]
              exact ref_good w v l hv hl hby x n hn hx (by omega)
    · have hp : prs (x0 :: l) = .inl (13, 0) := by simp [prs, h0]
      rw [hp]
      exact ref_ver w v x0 l hv hl hby h0
end Go.Proofs.YtogimlinfkbapaaDoor.HZookF
