/- The law ShaLimits. -/
import Derived.Test.YtndadfhmdkkokaaDoorHShaX
import Derived.Test.YtndadfhmdkkokaaDoorHShaA
import Derived.Test.YtndadfhmdkkokaaDoorHEqA
import Derived.Laws.AppendOwn
import Derived.ArgAppend
namespace Go.Proofs.YtndadfhmdkkokaaDoor.HShaL5
open Go.RowKit Go.Proofs.YtndadfhmdkkokaaDoorW.PrintWords Go.Proofs.YtndadfhmdkkokaaDoor.HLib Go.Proofs.YtndadfhmdkkokaaDoor.HSha Go.Proofs.YtndadfhmdkkokaaDoor.HShaR Go.Proofs.YtndadfhmdkkokaaDoor.HShaS Go.Proofs.YtndadfhmdkkokaaDoor.HShaP Go.Proofs.YtndadfhmdkkokaaDoor.HShaU Go.Proofs.YtndadfhmdkkokaaDoor.HShaV Go.Proofs.YtndadfhmdkkokaaDoor.HShaW Go.Proofs.YtndadfhmdkkokaaDoor.HShaB Go.Proofs.YtndadfhmdkkokaaDoor.HShaA Go.Proofs.YtndadfhmdkkokaaDoor.HShaX
set_option linter.unusedVariables false
set_option linter.unusedSimpArgs false

theorem range_arr {w : World} {g : Nat} {k : IntKind} {t : TypeId} {xs : List Int} (h : IsArr w g k t xs) : w.rangeAt g 0 (nums k xs) := fun j v hj => by
  refine (blk_cell h (0 + j)).trans ?_
  rw [Nat.zero_add]
  simpa using hj
/-- What the last statement leaves as it was. -/
def SL (w : World) (g g8 cb : Nat) (c : Int) (bl : List Int) (w' : World) : Prop :=
  w'.rangeAt g8 0 (nums .u8 (sumP bl)) ∧ g8 < w'.heap.size ∧ Glob w' ∧ Below w.heap.size w w' ∧ g8 ≠ g ∧ w.heap.size ≤ g ∧ (∀ j, j < bl.length → w'.cell? ⟨g, j, none⟩ = some (.int .u8 (bl.getD j 0))) ∧ ∃ cur : Array Value, w'.heap[g]? = some (.cells cur 5 (0, 0)) ∧ cur.size = cb
theorem SL.step {w : World} {g g8 cb : Nat} {c : Int} {bl : List Int} {w1 w2 : World} (h : SL w g g8 cb c bl w1) (hb : Below w1.heap.size w1 w2) : SL w g g8 cb c bl w2 := by
  obtain ⟨h1, h2, h3, h4, h5, h6, h7, cur, h8, h9⟩ := h
  exact ⟨fun j v hj => (hb.cell (p := ⟨g8, 0 + j, none⟩) h2).trans (h1 j v hj), Nat.lt_of_lt_of_le h2 hb.size, h3.below hb, below_step h4 hb, h5, h6, fun j hj => (hb.cell (p := ⟨g, j, none⟩) (blk_lt h8)).trans (h7 j hj), cur, (hb.block g (blk_lt h8)).trans h8, h9⟩
theorem SL.glob {w : World} {g g8 cb : Nat} {c : Int} {bl : List Int} {w1 : World} (h : SL w g g8 cb c bl w1) : Glob w1 := h.2.2.1
theorem SL.below {w : World} {g g8 cb : Nat} {c : Int} {bl : List Int} {w1 : World} (h : SL w g g8 cb c bl w1) : Below w.heap.size w w1 := h.2.2.2.1
theorem SL.row_at {w : World} {g g8 cb : Nat} {c : Int} {bl : List Int} {w1 : World} (h : SL w g g8 cb c bl w1) : ∃ cur : Array Value, w1.heap[g]? = some (.cells cur 5 (0, 0)) ∧ cur.size = cb := h.2.2.2.2.2.2.2
theorem C_of_cells {w : World} {g : Nat} {xs : List Int} (hl : xs.length ≤ 4294967296) (h : ∀ j, j < xs.length → w.cell? ⟨g, j, none⟩ = some (.int .u8 (xs.getD j 0))) : (Kd.int .u8).C w (some ⟨g, 0, none⟩) xs.length xs := by
  refine Kd.C_of_reads (d := (0 : Int)) (readsInt_of.1 ⟨rfl, by omega, fun _ => ⟨_, rfl, fun j hj => ?_⟩⟩)
  have e : (⟨g, 0, none⟩ : Addr).add j = ⟨g, j, none⟩ := by unfold Addr.add; split <;> simp_all
  rw [e]
  exact h j hj
theorem SL.C {w : World} {g g8 cb : Nat} {c : Int} {bl : List Int} {w1 : World} (h : SL w g g8 cb c bl w1) (hl : bl.length ≤ 4294967296) : (Kd.int .u8).C w1 (some ⟨g, 0, none⟩) bl.length bl := C_of_cells hl h.2.2.2.2.2.2.1
theorem wp_append_run {P : Program} {o : Oper} {a : Act} {w : World} {K : Act → World → Prop} {Q : Exit → Act → World → Prop} (s x : Operand) (t : TypeId) {v1 : Value} {w1 : World} {vs vx : Value}
    (ho : o.op = Op.call { callee := Callee.builtin Builtin.append, args := #[s, x], argTypes := #[t, t] }) (hs : a.eval s = vs) (hx : a.eval x = vx)
    (hr : (Builtin.append_ #[t, t] o.type #[vs, vx]).run P w = .ok v1 w1) (h : K (a.put o.dst v1) w1) : Oper.wp P o a w K Q := by
  unfold Oper.wp
  simp [execOp, ho, resolve, invoke, builtin, hs, hx, hr, Result.andThen]
  exact h
theorem room_run {P : Program} {w : World} {g g2 n cap : Nat} {c : Int} {cur : Array Value} (t ty e : TypeId) {i : TypeInfo} (ht : P.underlying t = some (.slice e)) (hi : P.info? e = some i) (hsz : i.size = 1)
    (hg : w.heap[g]? = some (.cells cur e (0, 0))) (h2 : IsArr w g2 .u8 e [c]) (hroom : n + 1 ≤ cap) (hc : cap ≤ cur.size) :
    (Builtin.append_ #[t, t] ty #[.slice (some ⟨g, 0, none⟩) n cap, .slice (some ⟨g2, 0, none⟩) 1 1]).run P w = .ok (.slice (some ⟨g, 0, none⟩) (n + 1) cap) (w.setRow g (cur.toList.take n ++ [Value.int .u8 c] ++ cur.toList.drop (n + 1)).toArray) := by
  have h := run_append_room (P := P) w t ty e i ht hi g n cap cur hg ⟨g2, 0, none⟩ 1 1 [.int .u8 c] (by rw [hsz]; rfl) (fun j u hj => by
    cases j with
    | succ j => simp at hj
    | zero =>
      obtain rfl : Value.int .u8 c = u := by simpa using hj
      exact h2.cell 0 (by decide) (by simp)) (fun u hu => by rw [List.mem_singleton.1 hu]; rfl) hroom (by rw [hsz]; simp; omega)
  rw [hsz, Nat.mul_one] at h
  exact h
theorem room_facts {w : World} {g g8 cb : Nat} {c : Int} {bl : List Int} {w1 : World} {cur : Array Value} (h : SL w g g8 cb c bl w1) (hcur : w1.heap[g]? = some (.cells cur 5 (0, 0))) (hcs : cur.size = cb) (hroom : bl.length + 1 ≤ cb) (h0 : 0 < w.heap.size) (hl : bl.length ≤ 300) :
    SL w g g8 cb c bl (w1.setRow g (cur.toList.take bl.length ++ [Value.int .u8 c] ++ cur.toList.drop (bl.length + 1)).toArray) ∧ Bs (w1.setRow g (cur.toList.take bl.length ++ [Value.int .u8 c] ++ cur.toList.drop (bl.length + 1)).toArray) (.slice (some ⟨g, 0, none⟩) (bl.length + 1) cb) (bl ++ [c]) := by
  obtain ⟨h1, h2, h3, h4, h5, h6, h7, _, _, _⟩ := h
  have hrow := setRow_heap w1 g cur (cur.toList.take bl.length ++ [Value.int .u8 c] ++ cur.toList.drop (bl.length + 1)).toArray 5 (0, 0) hcur
  have hlen : (cur.toList.take bl.length).length = bl.length := by
    have hq : cur.toList.length = cb := by rw [← hcs]; simp
    rw [List.length_take]
    omega
  have hpre : ∀ j, j < bl.length → (w1.setRow g (cur.toList.take bl.length ++ [Value.int .u8 c] ++ cur.toList.drop (bl.length + 1)).toArray).cell? ⟨g, j, none⟩ = some (.int .u8 (bl.getD j 0)) := fun j hj => by
    refine (blk_cell hrow j).trans ?_
    have h := h7 j hj
    rw [blk_cell hcur j] at h
    rw [← h]
    simp only [List.getElem?_toArray]
    rw [List.append_assoc, List.getElem?_append_left (by omega), List.getElem?_take_of_lt hj, Array.getElem?_toList]
  refine ⟨⟨fun j v hj => ?_, by rw [setRow_size]; exact h2, glob_below h3 h0 (below_row (Below.refl _ _) h6 _), below_row h4 h6 _, h5, h6, hpre, _, hrow, ?_⟩, ?_⟩
  · exact (cell_setRow_other w1 g _ ⟨g8, 0 + j, none⟩ h5).trans (h1 j v hj)
  · simp; omega
  · have e : (bl ++ [c]).length = bl.length + 1 := by simp
    refine ⟨some ⟨g, 0, none⟩, cb, by rw [e], by rw [e]; exact hroom, C_of_cells (by rw [e]; omega) (fun j hj => ?_), fun h => by cases h⟩
    rw [e] at hj
    by_cases hjl : j < bl.length
    · rw [hpre j hjl, List.getD_eq_getElem?_getD, List.getD_eq_getElem?_getD, List.getElem?_append_left hjl]
    · obtain rfl : j = bl.length := by omega
      refine (blk_cell hrow _).trans ?_
      simp only [List.getElem?_toArray]
      rw [List.append_assoc, List.getElem?_append_right (by omega), hlen, Nat.sub_self]
      simp
theorem grow_run {P : Program} (w : World) {g g2 cap : Nat} {c : Int} {bl : List Int} (t ty e : TypeId) {i : TypeInfo} (ht : P.underlying t = some (.slice e)) (hi : P.info? e = some i) (hz : i.zero = some (.int .u8 0)) (hsz : i.size = 1) (hby : i.bytes = 1)
    (hC : (Kd.int .u8).C w (some ⟨g, 0, none⟩) bl.length bl) (h2 : IsArr w g2 .u8 e [c]) (hfull : cap < bl.length + 1) (hl : bl.length ≤ 300) (hp : 0 < bl.length) :
    ∃ v1 w1, (Builtin.append_ #[t, t] ty #[.slice (some ⟨g, 0, none⟩) bl.length cap, .slice (some ⟨g2, 0, none⟩) 1 1]).run P w = .ok v1 w1 ∧ w1.ownsRow w.heap.size e 1 v1 (bl ++ [c]).length (nums .u8 (bl ++ [c])) ∧ w.grownBy w1 none := by
  obtain ⟨v1, w1, hr, hown, hg⟩ := run_append_arg_grows (P := P) w t ty e i (.int .u8 0) 1 1 ht hi hz hsz hby rfl (by decide) ⟨g, 0, none⟩ bl.length cap (nums .u8 bl) (by simp [nums]) (fun j u hj => by
    have hjl : j < bl.length := by
      have := (List.getElem?_eq_some_iff.1 hj).1
      simpa [nums] using this
    obtain ⟨_, _, h3⟩ := (readsInt_of.2 (Kd.reads_of_C (d := (0 : Int)) hC) : ReadsInt w .u8 (some ⟨g, 0, none⟩) bl.length bl)
    obtain ⟨ad, e1, hc⟩ := h3 hp
    injection e1 with e1
    subst e1
    rw [hc j hjl]
    simpa [nums, List.getElem?_eq_getElem hjl, List.getD_eq_getElem?_getD] using hj) ⟨g2, 0, none⟩ 1 1 [.int .u8 c] rfl (fun j u hj => by
    cases j with
    | succ j => simp at hj
    | zero =>
      obtain rfl : Value.int .u8 c = u := by simpa using hj
      exact h2.cell 0 (by decide) (by simp)) hfull (by unfold maxLen; omega) (by omega)
  refine ⟨v1, w1, hr, ?_, hg⟩
  have e : (bl ++ [c]).length = bl.length + 1 := by simp
  rw [e, show nums .u8 (bl ++ [c]) = nums .u8 bl ++ [Value.int .u8 c] from by simp [nums]]
  exact hown

set_option maxRecDepth 100000 in
set_option maxHeartbeats 8000000 in
theorem walk_limits (n c : Int) (w : World) (hn0 : 0 ≤ n) (hn1 : n < 256) (hc0 : 0 ≤ c) (hc1 : c < 256) (hG : Glob w) : Calls Tryd.prog 7 #[.int .u8 n, .int .u8 c] w fun e w' => e = .returned (.bool true) ∧ Below w.heap.size w w' := by
  have HG := Aside0.mk hG
  clear hG
  have hm0 : 0 ≤ n % 76 := by omega
  have hm1 : n % 76 < 76 := by omega
  obtain ⟨k, hk⟩ : ∃ k, k = 54 + n % 76 := ⟨_, rfl⟩
  have hk0 : 54 ≤ k := by omega
  have hk1 : k < 130 := by omega
  go_enter Tryd.func7, Tryd.ntmps7
  go_wp2_with fail
  refine (awake_any w HG.out).mono ?_
  rintro e w1 ⟨rfl, hb1⟩
  have HB1 := Aside0.mk hb1
  clear hb1
  go_wp2
  rw [← hk]
  clear hk hm0 hm1
  have HCB := Aside0.mk (And.intro hc0 hc1)
  go_loopg [6, 7] k.toNat (fun kq v6 v7 w' => ∃ (i : Int), v7 = .int .i64 i ∧ Aside0 (0 ≤ i ∧ (kq : Int) + i = k) ∧ Aside0 (Kd.R (Kd.int .u8) 5 w' w1.heap.size (fun _ => True) v6 (List.replicate i.toNat c)) ∧ Aside0 (Below w1.heap.size w1 w'))
  case atStart => exact ⟨0, rfl, ⟨⟨by omega, by omega⟩⟩, ⟨Kd.R_nil _ _ _ _ _⟩, ⟨B0 w1⟩⟩
  case round =>
    obtain ⟨i, rfl, HA, HO, HB⟩ := hrel
    have hi0 : 0 ≤ i := HA.out.1
    have him : i ≤ k := by have := HA.out; omega
    by_cases c1 : i < k
    · have d1 : decide (i < k) = true := decide_eq_true c1
      have HLN := Aside0.mk (show (List.replicate i.toNat c).length ≤ 200 from by rw [List.length_replicate]; omega)
      go_wp2_with (at_builtin; refine Kd.R_append (Kd.int .u8) (w0 := w1) w1.heap.size rfl (.tmp 20) (.tmp 22) 24 5 (.int .u8 0) 1 rfl Tryd.underlying24 info_u8 rfl (by decide) (by omega) u6 (List.replicate i.toNat c) c [.int .u8 c] (fun _ => True) (fun _ => False) rfl rfl ?aP (fun _ hk => hk.elim) (fun _ _ => trivial) ?aO ?aB ?aS ?aL ?_; (case aP => exact rfl); (case aB => exact HB.out); (case aO => exact HO.out); (case aS => exact HB.out.size); (case aL => (have := HLN.out; omega)); intro v2 w2 ho hb hg hat; have HO2 := Aside0.mk ho; have HB2 := Aside0.mk hb; clear ho hb hg hat)
      go_roundg (k.toNat - (i + 1).toNat)
      case measure => have := HA.out; omega
      case rel =>
        refine ⟨i + 1, rfl, ⟨⟨by omega, by omega⟩⟩, ⟨?_⟩, HB2⟩
        have h := HO2.out
        rw [show List.replicate i.toNat c ++ [c] = List.replicate (i + 1).toNat c from by rw [show (i + 1).toNat = i.toNat + 1 from by omega, List.replicate_succ']] at h
        exact h
    · have d1 : decide (i < k) = false := decide_eq_false c1
      obtain ⟨bl, hbl⟩ : ∃ bl, bl = List.replicate i.toNat c := ⟨_, rfl⟩
      have HO' := HO.out
      rw [← hbl] at HO'
      have HL := Aside0.mk (show (bl.length : Int) = k from by rw [hbl, List.length_replicate]; omega)
      have HBC := Aside0.mk (show ∀ j, j < bl.length → bl.getD j 0 = c from fun j hj => by
        rw [hbl, List.length_replicate] at hj
        rw [hbl, List.getD_eq_getElem?_getD, List.getElem?_eq_getElem (by rw [List.length_replicate]; exact hj)]
        simp)
      have HBY := Aside0.mk (show ∀ x ∈ bl, 0 ≤ x ∧ x < 256 from fun x hx => by rw [hbl] at hx; rw [List.eq_of_mem_replicate hx]; exact HCB.out)
      obtain ⟨inner, hown⟩ := Kd.R_own HO'
      obtain ⟨g, cb, rfl⟩ := Joins.ownsRow_form hown (show 0 < bl.length by have := HL.out; omega)
      have hgb : w1.heap.size ≤ g := own_base hown g rfl
      have hglt : g < wr.heap.size := own_lt hown g rfl
      have HO2 := Aside0.mk (Kd.own_of_R HO')
      have HGB := Aside0.mk (And.intro hgb hglt)
      obtain ⟨A', c', e', hc', hC'⟩ := Kd.R_reads HO'
      injection e' with e1 _ e3
      subst e3
      rw [← e1] at hC'
      have HC := Aside0.mk hC'
      have HCC := Aside0.mk hc'
      have HBW := Aside0.mk (below_step HB1.out HB.out)
      clear hbl HO' HO hown inner e1 hC' hc' hgb hglt
      obtain ⟨wE, rfl⟩ : ∃ x, x = wr := ⟨_, rfl⟩
      go_wp2_with fail
      have hW2 : (wE.alloc (.cells #[.slice (some ⟨g, 0, none⟩) bl.length cb] 24)).heap[wE.heap.size]? = some (.cells #[.slice (some ⟨g, 0, none⟩) bl.length cb] 24 (0, 0)) := blk_new wE _
      have hb2 := below_alloc (B0 wE) (.cells #[.slice (some ⟨g, 0, none⟩) bl.length cb] 24)
      refine (sum_any _ (some ⟨wE.heap.size, 0, none⟩) 1 [bl] (KB_one (xs := bl) (blk_cell hW2 0) HCC.out (Kd.C_below HC.out hb2)) (by simpa [cat] using HBY.out) (by have := HL.out; simp [cat]; omega) (show 1 ≤ 4294967296 by decide) (show 1 ≤ 1 by decide) (glob_below HG.out HG.out.1 (below_step HBW.out hb2))).mono ?_
      rintro e w3 ⟨rfl, hb3⟩
      rw [show cat [bl] = bl from by simp [cat]]
      have HB3 := Aside0.mk (below_step hb2 hb3)
      have HST := Aside0.mk (run_storeAt_new (P := Tryd.prog) w3 26 (nums .u8 (List.replicate 32 0)).toArray (nums .u8 (sumP bl)).toArray (by rw [size_out]; simp [nums, sumP_len]) (by simp [nums, sumP_len]) (by simp [nums, Value.oneCell']))
      clear hW2 hb2 hb3
      go_wp2_with (refine store_event rfl (t := 26) (p := 8) (v := .tmp 26) rfl rfl (w1 := w3.alloc (.cells (nums .u8 (sumP bl)).toArray 26)) ?hr ?_; (case hr => exact run_store_of rfl HST.out); intro w4 hw4; subst hw4)
      have hS : SL w g w3.heap.size cb c bl (w3.alloc (.cells (nums .u8 (sumP bl)).toArray 26)).drew := by
        have hb4 := below_alloc HB3.out (.cells (nums .u8 (sumP bl)).toArray 26)
        have hcur : ∃ cur : Array Value, wE.heap[g]? = some (.cells cur 5 (0, 0)) ∧ cur.size = cb := by
          rcases HO2.out.2 with ⟨h, _⟩ | ⟨g', cap, cur, h, _, h3, _, _, h5, _⟩
          · cases h
          · injection h with h1 _ h4
            injection h1 with h1
            injection h1 with h1
            subst h1 h4
            exact ⟨cur, h3, by simpa using h5⟩
        obtain ⟨cur, h1, h2⟩ := hcur
        have hlt := HGB.out.2
        refine SL.step ⟨range_arr (t := 26) (blk_new w3 _), by rw [World.size_alloc]; exact Nat.lt_succ_self _, glob_below HG.out HG.out.1 (below_step HBW.out hb4), below_step HBW.out hb4, by have := HB3.out.size; omega, by have := HB1.out.size; have := HGB.out.1; omega, fun j hj => ?_, cur, (hb4.block g hlt).trans h1, h2⟩ (below_drew1 (B0 _))
        refine (hb4.cell (p := ⟨g, j, none⟩) hlt).trans ?_
        obtain ⟨_, _, h3⟩ := (readsInt_of.2 (Kd.reads_of_C (d := (0 : Int)) HC.out) : ReadsInt wE .u8 (some ⟨g, 0, none⟩) bl.length bl)
        obtain ⟨ad, ea, hc⟩ := h3 (by omega)
        injection ea with ea
        subst ea
        have e : (⟨g, 0, none⟩ : Addr).add j = ⟨g, j, none⟩ := by unfold Addr.add; split <;> simp_all
        have := hc j hj
        rwa [e] at this
      have HSL := Aside0.mk hS
      have HAL := Aside0.mk (show bl.length ≤ 300 ∧ 0 < bl.length from by have := HL.out; omega)
      have HAB := Aside0.mk (show ∀ x ∈ bl ++ [c], 0 ≤ x ∧ x < 256 from fun x hx => by
        rcases List.mem_append.1 hx with h | h
        · exact HBY.out x h
        · rw [List.mem_singleton.1 h]; exact HCB.out)
      have HAC := Aside0.mk (show (bl ++ [c]).length ≤ 4294967296 from by rw [List.length_append]; have := HAL.out; simp only [List.length_cons, List.length_nil]; omega)
      have hcat2 : cat [bl, [c]] = bl ++ [c] := by simp [cat]
      have hcat3 : cat [[], bl, []] = bl := by simp [cat]
      have heq := HEqA.eq_arr (P := Tryd.prog) Tryd.underlying26 Tryd.underlying5 (show Tryd.prog.info? 5 = some _ from rfl) (by kernel_rfl) (sumP bl) (sumP_len _)
      have heq2 := HEqA.eq_arr (P := Tryd.prog) Tryd.underlying26 Tryd.underlying5 (show Tryd.prog.info? 5 = some _ from rfl) (by kernel_rfl) (sumP (bl ++ [c])) (sumP_len _)
      clear hS
--REGION10
      by_cases hroom : bl.length + 1 ≤ cb
      · refine wp_region_held_drew (S := SL w g w3.heap.size cb c bl) (by kernel_rfl) HSL.out (fun hHeld => ?_)
        refine wpAnyH_take (i := 0) (v := .agg (nums .u8 (sumP bl)).toArray) rfl (by kernel_rfl) (by kernel_rfl) (by kernel_rfl) (fun _ _ _ h => h) (yieldsIf_load_mid (by rfl) 26 (.tmp 8) rfl w3.heap.size 0 rfl (nums .u8 (sumP bl)) _ (fun w' h => h.1) Tryd.underlying26 rfl (by rw [size_out]; simp [nums, sumP_len])) hHeld ?_
        simp only [List.getElem_toArray, List.getElem_cons_succ, List.getElem_cons_zero, Act.put, List.setIfInBounds_toArray, List.set_cons_zero, List.set_cons_succ]
        refine wpAnyH_take (i := 1) (v := .slice (some ⟨g, 0, none⟩) bl.length cb) rfl (by kernel_rfl) (by kernel_rfl) (by kernel_rfl) (fun _ _ _ h => h) (Or.inl ⟨by rfl, ?hy1⟩) hHeld ?_
        case hy1 => intro w' _; go_simp
        simp only [List.getElem_toArray, List.getElem_cons_succ, List.getElem_cons_zero, Act.put, List.setIfInBounds_toArray, List.set_cons_zero, List.set_cons_succ]
        refine wpAnyH_ready (rs := [2]) (by kernel_rfl) (by simp) ?_
        refine AllReadyH.cons rfl (fun K hK => ?_) AllReadyH.nil
        simp only [List.getElem_toArray, List.getElem_cons_succ, List.getElem_cons_zero]
        rw [if_pos (by rfl)]
        go_simp
        refine (refsum_any _ _ bl ⟨_, _, rfl, HCC.out, SL.C hHeld (by have := HAL.out; omega), fun h => by cases h⟩ HBY.out (by have := HAL.out; omega)).mono ?_
        rintro e w4 ⟨rfl, hb4⟩
        refine hK.out _ _ (SL.step hHeld hb4) (fun hHeld => ?_)
        clear hK K hb4
        refine wpAnyH_take (i := 3) (v := .bool true) rfl (by kernel_rfl) (by kernel_rfl) (by kernel_rfl) (fun _ _ _ h => h) (Or.inl ⟨by rfl, ?hy3⟩) hHeld ?_
        case hy3 => intro w' _; go_simp
        simp only [List.getElem_toArray, List.getElem_cons_succ, List.getElem_cons_zero, Act.put, List.setIfInBounds_toArray, List.set_cons_zero, List.set_cons_succ]
        refine wpAnyH_take (i := 4) (v := .bool true) rfl (by kernel_rfl) (by kernel_rfl) (by kernel_rfl) (fun _ _ _ h => h) (Or.inl ⟨by rfl, ?hy4⟩) hHeld ?_
        case hy4 => intro w' _; go_simp
        simp only [List.getElem_toArray, List.getElem_cons_succ, List.getElem_cons_zero, Act.put, List.setIfInBounds_toArray, List.set_cons_zero, List.set_cons_succ]
        refine wpAnyH_take (i := 5) (v := .slice (some ⟨g, 0, none⟩) bl.length cb) rfl (by kernel_rfl) (by kernel_rfl) (by kernel_rfl) (fun _ _ _ h => h) (Or.inl ⟨by rfl, ?hy5⟩) hHeld ?_
        case hy5 => intro w' _; go_simp
        simp only [List.getElem_toArray, List.getElem_cons_succ, List.getElem_cons_zero, Act.put, List.setIfInBounds_toArray, List.set_cons_zero, List.set_cons_succ]
        refine wpAnyH_take (i := 6) (v := .int .u8 c) rfl (by kernel_rfl) (by kernel_rfl) (by kernel_rfl) (fun _ _ _ h => h) (Or.inl ⟨by rfl, ?hy6⟩) hHeld ?_
        case hy6 => intro w' _; go_simp
        simp only [List.getElem_toArray, List.getElem_cons_succ, List.getElem_cons_zero, Act.put, List.setIfInBounds_toArray, List.set_cons_zero, List.set_cons_succ]
        refine wpAnyH_take (i := 10) (v := .slice (some ⟨g, 0, none⟩) bl.length cb) rfl (by kernel_rfl) (by kernel_rfl) (by kernel_rfl) (fun _ _ _ h => h) (Or.inl ⟨by rfl, ?hy10⟩) hHeld ?_
        case hy10 => intro w' _; go_simp
        simp only [List.getElem_toArray, List.getElem_cons_succ, List.getElem_cons_zero, Act.put, List.setIfInBounds_toArray, List.set_cons_zero, List.set_cons_succ]
        refine wpAnyH_take (i := 11) (v := .int .u8 c) rfl (by kernel_rfl) (by kernel_rfl) (by kernel_rfl) (fun _ _ _ h => h) (Or.inl ⟨by rfl, ?hy11⟩) hHeld ?_
        case hy11 => intro w' _; go_simp
        simp only [List.getElem_toArray, List.getElem_cons_succ, List.getElem_cons_zero, Act.put, List.setIfInBounds_toArray, List.set_cons_zero, List.set_cons_succ]
        refine wpAnyH_ready (rs := [7, 12]) (by kernel_rfl) (by simp) ?_
        refine AllReadyH.cons rfl (fun K hK => ?_) (AllReadyH.cons rfl (fun K hK => ?_) AllReadyH.nil)
        · simp only [List.getElem_toArray, List.getElem_cons_succ, List.getElem_cons_zero]
          rw [if_pos (by rfl)]
          go_simp
          obtain ⟨u1, hu1⟩ : ∃ W, W = w4.alloc (.cells #[.int .u8 c] 5) := ⟨_, rfl⟩
          have hb1 : Below w4.heap.size w4 u1 := by rw [hu1]; exact below_alloc (B0 _) _
          have f7 : IsArr u1 w4.heap.size .u8 5 [c] := by rw [hu1]; exact blk_new w4 _
          rw [← hu1]
          refine hK.out _ _ (SL.step hHeld hb1) (fun hHeld => ?_)
          clear hK K hu1 hb1
          refine wpAnyH_ready (rs := [8, 12]) (by kernel_rfl) (by simp) ?_
          refine AllReadyH.cons rfl (fun K hK => ?_) (AllReadyH.cons rfl (fun K hK => ?_) AllReadyH.nil)
          · simp only [List.getElem_toArray, List.getElem_cons_succ, List.getElem_cons_zero]
            rw [if_pos (by rfl)]
            go_simp
            obtain ⟨u2, hu2⟩ : ∃ W, W = u1.alloc (.cells #[.slice (some ⟨g, 0, none⟩) bl.length cb, .slice (some ⟨w4.heap.size, 0, none⟩) 1 1] 24) := ⟨_, rfl⟩
            have hb2 : Below u1.heap.size u1 u2 := by rw [hu2]; exact below_alloc (B0 _) _
            have f7 := f7.below hb2 (arr_lt f7)
            have f8 : u2.heap[u1.heap.size]? = some (.cells [.slice (some ⟨g, 0, none⟩) bl.length cb, .slice (some ⟨w4.heap.size, 0, none⟩) 1 1].toArray 24 (0, 0)) := by rw [hu2]; exact blk_new u1 _
            rw [← hu2]
            refine hK.out _ _ (SL.step hHeld hb2) (fun hHeld => ?_)
            clear hK K hu2 hb2
            refine wpAnyH_ready (rs := [9, 12]) (by kernel_rfl) (by simp) ?_
            refine AllReadyH.cons rfl (fun K hK => ?_) (AllReadyH.cons rfl (fun K hK => ?_) AllReadyH.nil)
            · simp only [List.getElem_toArray, List.getElem_cons_succ, List.getElem_cons_zero]
              rw [if_pos (by rfl)]
              go_simp
              have hkb := KB_list (xss := [bl, [c]]) f8 rfl (by simp) (fun i v xs h1 h2 => by
                match i, h1, h2 with
                | 0, h1, h2 =>
                  simp at h1 h2
                  subst h1 h2
                  exact ⟨_, _, rfl, HCC.out, SL.C hHeld (by have := HAL.out; omega)⟩
                | 1, h1, h2 =>
                  simp at h1 h2
                  subst h1 h2
                  exact ⟨_, _, rfl, Nat.le_refl _, bytes_C f7 (by simp)⟩
                | q + 2, h1, h2 => simp at h1)
              refine (sum_any u2 _ 2 [bl, [c]] hkb (by rw [hcat2]; exact HAB.out) (by rw [hcat2]; exact HAC.out) (show 2 ≤ 4294967296 by decide) (show 2 ≤ 2 by decide) (SL.glob hHeld)).mono ?_
              rintro e u3 ⟨rfl, hb3⟩
              rw [hcat2]
              have f7 := f7.below hb3 (arr_lt f7)
              have f8 := (hb3.block _ (blk_lt f8)).trans f8
              refine hK.out _ _ (SL.step hHeld hb3) (fun hHeld => ?_)
              clear hK K hb3 hkb
              refine wpAnyH_ready (rs := [12]) (by kernel_rfl) (by simp) ?_
              refine AllReadyH.cons rfl (fun K hK => ?_) AllReadyH.nil
              simp only [List.getElem_toArray, List.getElem_cons_succ, List.getElem_cons_zero]
              rw [if_pos (by rfl)]
              go_simp
              obtain ⟨u4, hu4⟩ : ∃ W, W = u3.alloc (.cells #[.int .u8 c] 5) := ⟨_, rfl⟩
              have hb4 : Below u3.heap.size u3 u4 := by rw [hu4]; exact below_alloc (B0 _) _
              have f7 := f7.below hb4 (arr_lt f7)
              have f8 := (hb4.block _ (blk_lt f8)).trans f8
              have f12 : IsArr u4 u3.heap.size .u8 5 [c] := by rw [hu4]; exact blk_new u3 _
              rw [← hu4]
              refine hK.out _ _ (SL.step hHeld hb4) (fun hHeld => ?_)
              clear hK K hu4 hb4
              refine wpAnyH_ready (rs := [13]) (by kernel_rfl) (by simp) ?_
              refine AllReadyH.cons rfl (fun K hK => ?_) AllReadyH.nil
              simp only [List.getElem_toArray, List.getElem_cons_succ, List.getElem_cons_zero]
              rw [if_pos (by rfl)]
              obtain ⟨cur, hcur, hcs⟩ := SL.row_at hHeld
              have hrun := room_run (P := Tryd.prog) 24 24 5 Tryd.underlying24 (show Tryd.prog.info? 5 = some _ from rfl) rfl hcur f12 (show bl.length + 1 ≤ cb by omega) (by omega)
              refine wp_append_run (.tmp 37) (.tmp 39) 24 rfl rfl rfl hrun ?_
              simp only [Act.put, List.setIfInBounds_toArray, List.set_cons_zero, List.set_cons_succ]
              have hx := room_facts hHeld hcur hcs (show bl.length + 1 ≤ cb by omega) HG.out.1 HAL.out.1
              obtain ⟨wR, hwR⟩ : ∃ W, W = u4.setRow g (cur.toList.take bl.length ++ [Value.int .u8 c] ++ cur.toList.drop (bl.length + 1)).toArray := ⟨_, rfl⟩
              rw [← hwR] at hx ⊢
              obtain ⟨hsl, hbv⟩ := hx
              refine hK.out _ _ hsl (fun hHeld => ?_)
              clear hK K hrun hsl hwR hcur hcs
              refine wpAnyH_ready (rs := [14]) (by kernel_rfl) (by simp) ?_
              refine AllReadyH.cons rfl (fun K hK => ?_) AllReadyH.nil
              simp only [List.getElem_toArray, List.getElem_cons_succ, List.getElem_cons_zero]
              rw [if_pos (by rfl)]
              go_simp
              refine (refsum_any wR _ (bl ++ [c]) hbv HAB.out HAC.out).mono ?_
              rintro e wS ⟨rfl, hbS⟩
              refine hK.out _ _ (SL.step hHeld hbS) (fun hHeld => ?_)
              clear hK K hbS hbv
              refine wpAnyH_take (i := 15) (v := .bool true) rfl (by kernel_rfl) (by kernel_rfl) (by kernel_rfl) (fun _ _ _ h => h) (Or.inl ⟨by rfl, ?hy15⟩) hHeld ?_
              case hy15 => intro w' _; go_simp
              simp only [List.getElem_toArray, List.getElem_cons_succ, List.getElem_cons_zero, Act.put, List.setIfInBounds_toArray, List.set_cons_zero, List.set_cons_succ]
              refine wpAnyH_take (i := 16) (v := .bool true) rfl (by kernel_rfl) (by kernel_rfl) (by kernel_rfl) (fun _ _ _ h => h) (Or.inl ⟨by rfl, ?hy16⟩) hHeld ?_
              case hy16 => intro w' _; go_simp
              simp only [List.getElem_toArray, List.getElem_cons_succ, List.getElem_cons_zero, Act.put, List.setIfInBounds_toArray, List.set_cons_zero, List.set_cons_succ]
              refine wpAnyH_take (i := 17) (v := .bool true) rfl (by kernel_rfl) (by kernel_rfl) (by kernel_rfl) (fun _ _ _ h => h) (Or.inl ⟨by rfl, ?hy17⟩) hHeld ?_
              case hy17 => intro w' _; go_simp
              simp only [List.getElem_toArray, List.getElem_cons_succ, List.getElem_cons_zero, Act.put, List.setIfInBounds_toArray, List.set_cons_zero, List.set_cons_succ]
              refine wpAnyH_take (i := 18) (v := .slice (some ⟨g, 0, none⟩) bl.length cb) rfl (by kernel_rfl) (by kernel_rfl) (by kernel_rfl) (fun _ _ _ h => h) (Or.inl ⟨by rfl, ?hy18⟩) hHeld ?_
              case hy18 => intro w' _; go_simp
              simp only [List.getElem_toArray, List.getElem_cons_succ, List.getElem_cons_zero, Act.put, List.setIfInBounds_toArray, List.set_cons_zero, List.set_cons_succ]
              refine wpAnyH_take (i := 21) (v := .agg (nums .u8 (sumP bl)).toArray) rfl (by kernel_rfl) (by kernel_rfl) (by kernel_rfl) (fun _ _ _ h => h) (yieldsIf_load_mid (by rfl) 26 (.tmp 8) rfl w3.heap.size 0 rfl (nums .u8 (sumP bl)) _ (fun w' h => h.1) Tryd.underlying26 rfl (by rw [size_out]; simp [nums, sumP_len])) hHeld ?_
              simp only [List.getElem_toArray, List.getElem_cons_succ, List.getElem_cons_zero, Act.put, List.setIfInBounds_toArray, List.set_cons_zero, List.set_cons_succ]
              refine wpAnyH_ready (rs := [19]) (by kernel_rfl) (by simp) ?_
              refine AllReadyH.cons rfl (fun K hK => ?_) AllReadyH.nil
              simp only [List.getElem_toArray, List.getElem_cons_succ, List.getElem_cons_zero]
              rw [if_pos (by rfl)]
              go_simp
              obtain ⟨wT, hwT⟩ : ∃ W, W = wS.alloc (.cells #[.slice none 0 0, .slice (some ⟨g, 0, none⟩) bl.length cb, .slice none 0 0] 24) := ⟨_, rfl⟩
              have hbT : Below wS.heap.size wS wT := by rw [hwT]; exact below_alloc (B0 _) _
              have f19 : wT.heap[wS.heap.size]? = some (.cells ([.slice none 0 0, .slice (some ⟨g, 0, none⟩) bl.length cb, .slice none 0 0] : List Value).toArray 24 (0, 0)) := by rw [hwT]; exact blk_new wS _
              rw [← hwT]
              refine hK.out _ _ (SL.step hHeld hbT) (fun hHeld => ?_)
              clear hK K hwT hbT
              refine wpAnyH_ready (rs := [20]) (by kernel_rfl) (by simp) ?_
              refine AllReadyH.cons rfl (fun K hK => ?_) AllReadyH.nil
              simp only [List.getElem_toArray, List.getElem_cons_succ, List.getElem_cons_zero]
              rw [if_pos (by rfl)]
              go_simp
              have hkb := KB_list (xss := [[], bl, []]) f19 rfl (by simp) (fun i v xs h1 h2 => by
                match i, h1, h2 with
                | 0, h1, h2 =>
                  simp at h1 h2
                  subst h1 h2
                  exact ⟨_, _, rfl, Nat.le_refl _, Kd.C_nil _ _⟩
                | 1, h1, h2 =>
                  simp at h1 h2
                  subst h1 h2
                  exact ⟨_, _, rfl, HCC.out, SL.C hHeld (by have := HAL.out; omega)⟩
                | 2, h1, h2 =>
                  simp at h1 h2
                  subst h1 h2
                  exact ⟨_, _, rfl, Nat.le_refl _, Kd.C_nil _ _⟩
                | q + 3, h1, h2 => simp at h1)
              refine (sum_any wT _ 3 [[], bl, []] hkb (by rw [hcat3]; exact HBY.out) (by rw [hcat3]; have := HAL.out; omega) (show 3 ≤ 4294967296 by decide) (show 3 ≤ 3 by decide) (SL.glob hHeld)).mono ?_
              rintro e wU ⟨rfl, hbU⟩
              rw [hcat3]
              refine hK.out _ _ (SL.step hHeld hbU) (fun hHeld => ?_)
              clear hK K hbU hkb
              refine wpAnyH_take (i := 22) (v := .bool true) rfl (by kernel_rfl) (by kernel_rfl) (by kernel_rfl) (fun _ _ _ h => h) (Or.inl ⟨by rfl, ?hy22⟩) hHeld ?_
              case hy22 => intro w' _; go_simp
              simp only [List.getElem_toArray, List.getElem_cons_succ, List.getElem_cons_zero, Act.put, List.setIfInBounds_toArray, List.set_cons_zero, List.set_cons_succ]
              refine wpAnyH_take (i := 23) (v := .bool true) rfl (by kernel_rfl) (by kernel_rfl) (by kernel_rfl) (fun _ _ _ h => h) (Or.inl ⟨by rfl, ?hy23⟩) hHeld ?_
              case hy23 => intro w' _; go_simp
              simp only [List.getElem_toArray, List.getElem_cons_succ, List.getElem_cons_zero, Act.put, List.setIfInBounds_toArray, List.set_cons_zero, List.set_cons_succ]
              refine wpAnyH_take (i := 24) (v := .bool true) rfl (by kernel_rfl) (by kernel_rfl) (by kernel_rfl) (fun _ _ _ h => h) (Or.inl ⟨by rfl, ?hy24⟩) hHeld ?_
              case hy24 => intro w' _; go_simp
              simp only [List.getElem_toArray, List.getElem_cons_succ, List.getElem_cons_zero, Act.put, List.setIfInBounds_toArray, List.set_cons_zero, List.set_cons_succ]
              refine wpAnyH_done (by kernel_rfl) ?_ _
              have HBF := Aside0.mk (SL.below hHeld)
              clear hHeld heq heq2
              go_wp2
              go_ret
              exact ⟨rfl, HBF.out⟩
            · simp only [List.getElem_toArray, List.getElem_cons_succ, List.getElem_cons_zero]
              rw [if_pos (by rfl)]
              go_simp
              obtain ⟨u3, hu3⟩ : ∃ W, W = u2.alloc (.cells #[.int .u8 c] 5) := ⟨_, rfl⟩
              have hb3 : Below u2.heap.size u2 u3 := by rw [hu3]; exact below_alloc (B0 _) _
              have f7 := f7.below hb3 (arr_lt f7)
              have f8 := (hb3.block _ (blk_lt f8)).trans f8
              have f12 : IsArr u3 u2.heap.size .u8 5 [c] := by rw [hu3]; exact blk_new u2 _
              rw [← hu3]
              refine hK.out _ _ (SL.step hHeld hb3) (fun hHeld => ?_)
              clear hK K hu3 hb3
              refine wpAnyH_ready (rs := [9]) (by kernel_rfl) (by simp) ?_
              refine AllReadyH.cons rfl (fun K hK => ?_) AllReadyH.nil
              simp only [List.getElem_toArray, List.getElem_cons_succ, List.getElem_cons_zero]
              rw [if_pos (by rfl)]
              go_simp
              have hkb := KB_list (xss := [bl, [c]]) f8 rfl (by simp) (fun i v xs h1 h2 => by
                match i, h1, h2 with
                | 0, h1, h2 =>
                  simp at h1 h2
                  subst h1 h2
                  exact ⟨_, _, rfl, HCC.out, SL.C hHeld (by have := HAL.out; omega)⟩
                | 1, h1, h2 =>
                  simp at h1 h2
                  subst h1 h2
                  exact ⟨_, _, rfl, Nat.le_refl _, bytes_C f7 (by simp)⟩
                | q + 2, h1, h2 => simp at h1)
              refine (sum_any u3 _ 2 [bl, [c]] hkb (by rw [hcat2]; exact HAB.out) (by rw [hcat2]; exact HAC.out) (show 2 ≤ 4294967296 by decide) (show 2 ≤ 2 by decide) (SL.glob hHeld)).mono ?_
              rintro e u4 ⟨rfl, hb4⟩
              rw [hcat2]
              have f7 := f7.below hb4 (arr_lt f7)
              have f8 := (hb4.block _ (blk_lt f8)).trans f8
              have f12 := f12.below hb4 (arr_lt f12)
              refine hK.out _ _ (SL.step hHeld hb4) (fun hHeld => ?_)
              clear hK K hb4 hkb
              refine wpAnyH_ready (rs := [13]) (by kernel_rfl) (by simp) ?_
              refine AllReadyH.cons rfl (fun K hK => ?_) AllReadyH.nil
              simp only [List.getElem_toArray, List.getElem_cons_succ, List.getElem_cons_zero]
              rw [if_pos (by rfl)]
              obtain ⟨cur, hcur, hcs⟩ := SL.row_at hHeld
              have hrun := room_run (P := Tryd.prog) 24 24 5 Tryd.underlying24 (show Tryd.prog.info? 5 = some _ from rfl) rfl hcur f12 (show bl.length + 1 ≤ cb by omega) (by omega)
              refine wp_append_run (.tmp 37) (.tmp 39) 24 rfl rfl rfl hrun ?_
              simp only [Act.put, List.setIfInBounds_toArray, List.set_cons_zero, List.set_cons_succ]
              have hx := room_facts hHeld hcur hcs (show bl.length + 1 ≤ cb by omega) HG.out.1 HAL.out.1
              obtain ⟨wR, hwR⟩ : ∃ W, W = u4.setRow g (cur.toList.take bl.length ++ [Value.int .u8 c] ++ cur.toList.drop (bl.length + 1)).toArray := ⟨_, rfl⟩
              rw [← hwR] at hx ⊢
              obtain ⟨hsl, hbv⟩ := hx
              refine hK.out _ _ hsl (fun hHeld => ?_)
              clear hK K hrun hsl hwR hcur hcs
              refine wpAnyH_ready (rs := [14]) (by kernel_rfl) (by simp) ?_
              refine AllReadyH.cons rfl (fun K hK => ?_) AllReadyH.nil
              simp only [List.getElem_toArray, List.getElem_cons_succ, List.getElem_cons_zero]
              rw [if_pos (by rfl)]
              go_simp
              refine (refsum_any wR _ (bl ++ [c]) hbv HAB.out HAC.out).mono ?_
              rintro e wS ⟨rfl, hbS⟩
              refine hK.out _ _ (SL.step hHeld hbS) (fun hHeld => ?_)
              clear hK K hbS hbv
              refine wpAnyH_take (i := 15) (v := .bool true) rfl (by kernel_rfl) (by kernel_rfl) (by kernel_rfl) (fun _ _ _ h => h) (Or.inl ⟨by rfl, ?hy15⟩) hHeld ?_
              case hy15 => intro w' _; go_simp
              simp only [List.getElem_toArray, List.getElem_cons_succ, List.getElem_cons_zero, Act.put, List.setIfInBounds_toArray, List.set_cons_zero, List.set_cons_succ]
              refine wpAnyH_take (i := 16) (v := .bool true) rfl (by kernel_rfl) (by kernel_rfl) (by kernel_rfl) (fun _ _ _ h => h) (Or.inl ⟨by rfl, ?hy16⟩) hHeld ?_
              case hy16 => intro w' _; go_simp
              simp only [List.getElem_toArray, List.getElem_cons_succ, List.getElem_cons_zero, Act.put, List.setIfInBounds_toArray, List.set_cons_zero, List.set_cons_succ]
              refine wpAnyH_take (i := 17) (v := .bool true) rfl (by kernel_rfl) (by kernel_rfl) (by kernel_rfl) (fun _ _ _ h => h) (Or.inl ⟨by rfl, ?hy17⟩) hHeld ?_
              case hy17 => intro w' _; go_simp
              simp only [List.getElem_toArray, List.getElem_cons_succ, List.getElem_cons_zero, Act.put, List.setIfInBounds_toArray, List.set_cons_zero, List.set_cons_succ]
              refine wpAnyH_take (i := 18) (v := .slice (some ⟨g, 0, none⟩) bl.length cb) rfl (by kernel_rfl) (by kernel_rfl) (by kernel_rfl) (fun _ _ _ h => h) (Or.inl ⟨by rfl, ?hy18⟩) hHeld ?_
              case hy18 => intro w' _; go_simp
              simp only [List.getElem_toArray, List.getElem_cons_succ, List.getElem_cons_zero, Act.put, List.setIfInBounds_toArray, List.set_cons_zero, List.set_cons_succ]
              refine wpAnyH_take (i := 21) (v := .agg (nums .u8 (sumP bl)).toArray) rfl (by kernel_rfl) (by kernel_rfl) (by kernel_rfl) (fun _ _ _ h => h) (yieldsIf_load_mid (by rfl) 26 (.tmp 8) rfl w3.heap.size 0 rfl (nums .u8 (sumP bl)) _ (fun w' h => h.1) Tryd.underlying26 rfl (by rw [size_out]; simp [nums, sumP_len])) hHeld ?_
              simp only [List.getElem_toArray, List.getElem_cons_succ, List.getElem_cons_zero, Act.put, List.setIfInBounds_toArray, List.set_cons_zero, List.set_cons_succ]
              refine wpAnyH_ready (rs := [19]) (by kernel_rfl) (by simp) ?_
              refine AllReadyH.cons rfl (fun K hK => ?_) AllReadyH.nil
              simp only [List.getElem_toArray, List.getElem_cons_succ, List.getElem_cons_zero]
              rw [if_pos (by rfl)]
              go_simp
              obtain ⟨wT, hwT⟩ : ∃ W, W = wS.alloc (.cells #[.slice none 0 0, .slice (some ⟨g, 0, none⟩) bl.length cb, .slice none 0 0] 24) := ⟨_, rfl⟩
              have hbT : Below wS.heap.size wS wT := by rw [hwT]; exact below_alloc (B0 _) _
              have f19 : wT.heap[wS.heap.size]? = some (.cells ([.slice none 0 0, .slice (some ⟨g, 0, none⟩) bl.length cb, .slice none 0 0] : List Value).toArray 24 (0, 0)) := by rw [hwT]; exact blk_new wS _
              rw [← hwT]
              refine hK.out _ _ (SL.step hHeld hbT) (fun hHeld => ?_)
              clear hK K hwT hbT
              refine wpAnyH_ready (rs := [20]) (by kernel_rfl) (by simp) ?_
              refine AllReadyH.cons rfl (fun K hK => ?_) AllReadyH.nil
              simp only [List.getElem_toArray, List.getElem_cons_succ, List.getElem_cons_zero]
              rw [if_pos (by rfl)]
              go_simp
              have hkb := KB_list (xss := [[], bl, []]) f19 rfl (by simp) (fun i v xs h1 h2 => by
                match i, h1, h2 with
                | 0, h1, h2 =>
                  simp at h1 h2
                  subst h1 h2
                  exact ⟨_, _, rfl, Nat.le_refl _, Kd.C_nil _ _⟩
                | 1, h1, h2 =>
                  simp at h1 h2
                  subst h1 h2
                  exact ⟨_, _, rfl, HCC.out, SL.C hHeld (by have := HAL.out; omega)⟩
                | 2, h1, h2 =>
                  simp at h1 h2
                  subst h1 h2
                  exact ⟨_, _, rfl, Nat.le_refl _, Kd.C_nil _ _⟩
                | q + 3, h1, h2 => simp at h1)
              refine (sum_any wT _ 3 [[], bl, []] hkb (by rw [hcat3]; exact HBY.out) (by rw [hcat3]; have := HAL.out; omega) (show 3 ≤ 4294967296 by decide) (show 3 ≤ 3 by decide) (SL.glob hHeld)).mono ?_
              rintro e wU ⟨rfl, hbU⟩
              rw [hcat3]
              refine hK.out _ _ (SL.step hHeld hbU) (fun hHeld => ?_)
              clear hK K hbU hkb
              refine wpAnyH_take (i := 22) (v := .bool true) rfl (by kernel_rfl) (by kernel_rfl) (by kernel_rfl) (fun _ _ _ h => h) (Or.inl ⟨by rfl, ?hy22⟩) hHeld ?_
              case hy22 => intro w' _; go_simp
              simp only [List.getElem_toArray, List.getElem_cons_succ, List.getElem_cons_zero, Act.put, List.setIfInBounds_toArray, List.set_cons_zero, List.set_cons_succ]
              refine wpAnyH_take (i := 23) (v := .bool true) rfl (by kernel_rfl) (by kernel_rfl) (by kernel_rfl) (fun _ _ _ h => h) (Or.inl ⟨by rfl, ?hy23⟩) hHeld ?_
              case hy23 => intro w' _; go_simp
              simp only [List.getElem_toArray, List.getElem_cons_succ, List.getElem_cons_zero, Act.put, List.setIfInBounds_toArray, List.set_cons_zero, List.set_cons_succ]
              refine wpAnyH_take (i := 24) (v := .bool true) rfl (by kernel_rfl) (by kernel_rfl) (by kernel_rfl) (fun _ _ _ h => h) (Or.inl ⟨by rfl, ?hy24⟩) hHeld ?_
              case hy24 => intro w' _; go_simp
              simp only [List.getElem_toArray, List.getElem_cons_succ, List.getElem_cons_zero, Act.put, List.setIfInBounds_toArray, List.set_cons_zero, List.set_cons_succ]
              refine wpAnyH_done (by kernel_rfl) ?_ _
              have HBF := Aside0.mk (SL.below hHeld)
              clear hHeld heq heq2
              go_wp2
              go_ret
              exact ⟨rfl, HBF.out⟩
          · simp only [List.getElem_toArray, List.getElem_cons_succ, List.getElem_cons_zero]
            rw [if_pos (by rfl)]
            go_simp
            obtain ⟨u2, hu2⟩ : ∃ W, W = u1.alloc (.cells #[.int .u8 c] 5) := ⟨_, rfl⟩
            have hb2 : Below u1.heap.size u1 u2 := by rw [hu2]; exact below_alloc (B0 _) _
            have f7 := f7.below hb2 (arr_lt f7)
            have f12 : IsArr u2 u1.heap.size .u8 5 [c] := by rw [hu2]; exact blk_new u1 _
            rw [← hu2]
            refine hK.out _ _ (SL.step hHeld hb2) (fun hHeld => ?_)
            clear hK K hu2 hb2
            refine wpAnyH_ready (rs := [8]) (by kernel_rfl) (by simp) ?_
            refine AllReadyH.cons rfl (fun K hK => ?_) AllReadyH.nil
            simp only [List.getElem_toArray, List.getElem_cons_succ, List.getElem_cons_zero]
            rw [if_pos (by rfl)]
            go_simp
            obtain ⟨u3, hu3⟩ : ∃ W, W = u2.alloc (.cells #[.slice (some ⟨g, 0, none⟩) bl.length cb, .slice (some ⟨w4.heap.size, 0, none⟩) 1 1] 24) := ⟨_, rfl⟩
            have hb3 : Below u2.heap.size u2 u3 := by rw [hu3]; exact below_alloc (B0 _) _
            have f7 := f7.below hb3 (arr_lt f7)
            have f12 := f12.below hb3 (arr_lt f12)
            have f8 : u3.heap[u2.heap.size]? = some (.cells [.slice (some ⟨g, 0, none⟩) bl.length cb, .slice (some ⟨w4.heap.size, 0, none⟩) 1 1].toArray 24 (0, 0)) := by rw [hu3]; exact blk_new u2 _
            rw [← hu3]
            refine hK.out _ _ (SL.step hHeld hb3) (fun hHeld => ?_)
            clear hK K hu3 hb3
            refine wpAnyH_ready (rs := [9]) (by kernel_rfl) (by simp) ?_
            refine AllReadyH.cons rfl (fun K hK => ?_) AllReadyH.nil
            simp only [List.getElem_toArray, List.getElem_cons_succ, List.getElem_cons_zero]
            rw [if_pos (by rfl)]
            go_simp
            have hkb := KB_list (xss := [bl, [c]]) f8 rfl (by simp) (fun i v xs h1 h2 => by
              match i, h1, h2 with
              | 0, h1, h2 =>
                simp at h1 h2
                subst h1 h2
                exact ⟨_, _, rfl, HCC.out, SL.C hHeld (by have := HAL.out; omega)⟩
              | 1, h1, h2 =>
                simp at h1 h2
                subst h1 h2
                exact ⟨_, _, rfl, Nat.le_refl _, bytes_C f7 (by simp)⟩
              | q + 2, h1, h2 => simp at h1)
            refine (sum_any u3 _ 2 [bl, [c]] hkb (by rw [hcat2]; exact HAB.out) (by rw [hcat2]; exact HAC.out) (show 2 ≤ 4294967296 by decide) (show 2 ≤ 2 by decide) (SL.glob hHeld)).mono ?_
            rintro e u4 ⟨rfl, hb4⟩
            rw [hcat2]
            have f7 := f7.below hb4 (arr_lt f7)
            have f12 := f12.below hb4 (arr_lt f12)
            have f8 := (hb4.block _ (blk_lt f8)).trans f8
            refine hK.out _ _ (SL.step hHeld hb4) (fun hHeld => ?_)
            clear hK K hb4 hkb
            refine wpAnyH_ready (rs := [13]) (by kernel_rfl) (by simp) ?_
            refine AllReadyH.cons rfl (fun K hK => ?_) AllReadyH.nil
            simp only [List.getElem_toArray, List.getElem_cons_succ, List.getElem_cons_zero]
            rw [if_pos (by rfl)]
            obtain ⟨cur, hcur, hcs⟩ := SL.row_at hHeld
            have hrun := room_run (P := Tryd.prog) 24 24 5 Tryd.underlying24 (show Tryd.prog.info? 5 = some _ from rfl) rfl hcur f12 (show bl.length + 1 ≤ cb by omega) (by omega)
            refine wp_append_run (.tmp 37) (.tmp 39) 24 rfl rfl rfl hrun ?_
            simp only [Act.put, List.setIfInBounds_toArray, List.set_cons_zero, List.set_cons_succ]
            have hx := room_facts hHeld hcur hcs (show bl.length + 1 ≤ cb by omega) HG.out.1 HAL.out.1
            obtain ⟨wR, hwR⟩ : ∃ W, W = u4.setRow g (cur.toList.take bl.length ++ [Value.int .u8 c] ++ cur.toList.drop (bl.length + 1)).toArray := ⟨_, rfl⟩
            rw [← hwR] at hx ⊢
            obtain ⟨hsl, hbv⟩ := hx
            refine hK.out _ _ hsl (fun hHeld => ?_)
            clear hK K hrun hsl hwR hcur hcs
            refine wpAnyH_ready (rs := [14]) (by kernel_rfl) (by simp) ?_
            refine AllReadyH.cons rfl (fun K hK => ?_) AllReadyH.nil
            simp only [List.getElem_toArray, List.getElem_cons_succ, List.getElem_cons_zero]
            rw [if_pos (by rfl)]
            go_simp
            refine (refsum_any wR _ (bl ++ [c]) hbv HAB.out HAC.out).mono ?_
            rintro e wS ⟨rfl, hbS⟩
            refine hK.out _ _ (SL.step hHeld hbS) (fun hHeld => ?_)
            clear hK K hbS hbv
            refine wpAnyH_take (i := 15) (v := .bool true) rfl (by kernel_rfl) (by kernel_rfl) (by kernel_rfl) (fun _ _ _ h => h) (Or.inl ⟨by rfl, ?hy15⟩) hHeld ?_
            case hy15 => intro w' _; go_simp
            simp only [List.getElem_toArray, List.getElem_cons_succ, List.getElem_cons_zero, Act.put, List.setIfInBounds_toArray, List.set_cons_zero, List.set_cons_succ]
            refine wpAnyH_take (i := 16) (v := .bool true) rfl (by kernel_rfl) (by kernel_rfl) (by kernel_rfl) (fun _ _ _ h => h) (Or.inl ⟨by rfl, ?hy16⟩) hHeld ?_
            case hy16 => intro w' _; go_simp
            simp only [List.getElem_toArray, List.getElem_cons_succ, List.getElem_cons_zero, Act.put, List.setIfInBounds_toArray, List.set_cons_zero, List.set_cons_succ]
            refine wpAnyH_take (i := 17) (v := .bool true) rfl (by kernel_rfl) (by kernel_rfl) (by kernel_rfl) (fun _ _ _ h => h) (Or.inl ⟨by rfl, ?hy17⟩) hHeld ?_
            case hy17 => intro w' _; go_simp
            simp only [List.getElem_toArray, List.getElem_cons_succ, List.getElem_cons_zero, Act.put, List.setIfInBounds_toArray, List.set_cons_zero, List.set_cons_succ]
            refine wpAnyH_take (i := 18) (v := .slice (some ⟨g, 0, none⟩) bl.length cb) rfl (by kernel_rfl) (by kernel_rfl) (by kernel_rfl) (fun _ _ _ h => h) (Or.inl ⟨by rfl, ?hy18⟩) hHeld ?_
            case hy18 => intro w' _; go_simp
            simp only [List.getElem_toArray, List.getElem_cons_succ, List.getElem_cons_zero, Act.put, List.setIfInBounds_toArray, List.set_cons_zero, List.set_cons_succ]
            refine wpAnyH_take (i := 21) (v := .agg (nums .u8 (sumP bl)).toArray) rfl (by kernel_rfl) (by kernel_rfl) (by kernel_rfl) (fun _ _ _ h => h) (yieldsIf_load_mid (by rfl) 26 (.tmp 8) rfl w3.heap.size 0 rfl (nums .u8 (sumP bl)) _ (fun w' h => h.1) Tryd.underlying26 rfl (by rw [size_out]; simp [nums, sumP_len])) hHeld ?_
            simp only [List.getElem_toArray, List.getElem_cons_succ, List.getElem_cons_zero, Act.put, List.setIfInBounds_toArray, List.set_cons_zero, List.set_cons_succ]
            refine wpAnyH_ready (rs := [19]) (by kernel_rfl) (by simp) ?_
            refine AllReadyH.cons rfl (fun K hK => ?_) AllReadyH.nil
            simp only [List.getElem_toArray, List.getElem_cons_succ, List.getElem_cons_zero]
            rw [if_pos (by rfl)]
            go_simp
            obtain ⟨wT, hwT⟩ : ∃ W, W = wS.alloc (.cells #[.slice none 0 0, .slice (some ⟨g, 0, none⟩) bl.length cb, .slice none 0 0] 24) := ⟨_, rfl⟩
            have hbT : Below wS.heap.size wS wT := by rw [hwT]; exact below_alloc (B0 _) _
            have f19 : wT.heap[wS.heap.size]? = some (.cells ([.slice none 0 0, .slice (some ⟨g, 0, none⟩) bl.length cb, .slice none 0 0] : List Value).toArray 24 (0, 0)) := by rw [hwT]; exact blk_new wS _
            rw [← hwT]
            refine hK.out _ _ (SL.step hHeld hbT) (fun hHeld => ?_)
            clear hK K hwT hbT
            refine wpAnyH_ready (rs := [20]) (by kernel_rfl) (by simp) ?_
            refine AllReadyH.cons rfl (fun K hK => ?_) AllReadyH.nil
            simp only [List.getElem_toArray, List.getElem_cons_succ, List.getElem_cons_zero]
            rw [if_pos (by rfl)]
            go_simp
            have hkb := KB_list (xss := [[], bl, []]) f19 rfl (by simp) (fun i v xs h1 h2 => by
              match i, h1, h2 with
              | 0, h1, h2 =>
                simp at h1 h2
                subst h1 h2
                exact ⟨_, _, rfl, Nat.le_refl _, Kd.C_nil _ _⟩
              | 1, h1, h2 =>
                simp at h1 h2
                subst h1 h2
                exact ⟨_, _, rfl, HCC.out, SL.C hHeld (by have := HAL.out; omega)⟩
              | 2, h1, h2 =>
                simp at h1 h2
                subst h1 h2
                exact ⟨_, _, rfl, Nat.le_refl _, Kd.C_nil _ _⟩
              | q + 3, h1, h2 => simp at h1)
            refine (sum_any wT _ 3 [[], bl, []] hkb (by rw [hcat3]; exact HBY.out) (by rw [hcat3]; have := HAL.out; omega) (show 3 ≤ 4294967296 by decide) (show 3 ≤ 3 by decide) (SL.glob hHeld)).mono ?_
            rintro e wU ⟨rfl, hbU⟩
            rw [hcat3]
            refine hK.out _ _ (SL.step hHeld hbU) (fun hHeld => ?_)
            clear hK K hbU hkb
            refine wpAnyH_take (i := 22) (v := .bool true) rfl (by kernel_rfl) (by kernel_rfl) (by kernel_rfl) (fun _ _ _ h => h) (Or.inl ⟨by rfl, ?hy22⟩) hHeld ?_
            case hy22 => intro w' _; go_simp
            simp only [List.getElem_toArray, List.getElem_cons_succ, List.getElem_cons_zero, Act.put, List.setIfInBounds_toArray, List.set_cons_zero, List.set_cons_succ]
            refine wpAnyH_take (i := 23) (v := .bool true) rfl (by kernel_rfl) (by kernel_rfl) (by kernel_rfl) (fun _ _ _ h => h) (Or.inl ⟨by rfl, ?hy23⟩) hHeld ?_
            case hy23 => intro w' _; go_simp
            simp only [List.getElem_toArray, List.getElem_cons_succ, List.getElem_cons_zero, Act.put, List.setIfInBounds_toArray, List.set_cons_zero, List.set_cons_succ]
            refine wpAnyH_take (i := 24) (v := .bool true) rfl (by kernel_rfl) (by kernel_rfl) (by kernel_rfl) (fun _ _ _ h => h) (Or.inl ⟨by rfl, ?hy24⟩) hHeld ?_
            case hy24 => intro w' _; go_simp
            simp only [List.getElem_toArray, List.getElem_cons_succ, List.getElem_cons_zero, Act.put, List.setIfInBounds_toArray, List.set_cons_zero, List.set_cons_succ]
            refine wpAnyH_done (by kernel_rfl) ?_ _
            have HBF := Aside0.mk (SL.below hHeld)
            clear hHeld heq heq2
            go_wp2
            go_ret
            exact ⟨rfl, HBF.out⟩
        · simp only [List.getElem_toArray, List.getElem_cons_succ, List.getElem_cons_zero]
          rw [if_pos (by rfl)]
          go_simp
          obtain ⟨u1, hu1⟩ : ∃ W, W = w4.alloc (.cells #[.int .u8 c] 5) := ⟨_, rfl⟩
          have hb1 : Below w4.heap.size w4 u1 := by rw [hu1]; exact below_alloc (B0 _) _
          have f12 : IsArr u1 w4.heap.size .u8 5 [c] := by rw [hu1]; exact blk_new w4 _
          rw [← hu1]
          refine hK.out _ _ (SL.step hHeld hb1) (fun hHeld => ?_)
          clear hK K hu1 hb1
          refine wpAnyH_ready (rs := [7]) (by kernel_rfl) (by simp) ?_
          refine AllReadyH.cons rfl (fun K hK => ?_) AllReadyH.nil
          simp only [List.getElem_toArray, List.getElem_cons_succ, List.getElem_cons_zero]
          rw [if_pos (by rfl)]
          go_simp
          obtain ⟨u2, hu2⟩ : ∃ W, W = u1.alloc (.cells #[.int .u8 c] 5) := ⟨_, rfl⟩
          have hb2 : Below u1.heap.size u1 u2 := by rw [hu2]; exact below_alloc (B0 _) _
          have f12 := f12.below hb2 (arr_lt f12)
          have f7 : IsArr u2 u1.heap.size .u8 5 [c] := by rw [hu2]; exact blk_new u1 _
          rw [← hu2]
          refine hK.out _ _ (SL.step hHeld hb2) (fun hHeld => ?_)
          clear hK K hu2 hb2
          refine wpAnyH_ready (rs := [8]) (by kernel_rfl) (by simp) ?_
          refine AllReadyH.cons rfl (fun K hK => ?_) AllReadyH.nil
          simp only [List.getElem_toArray, List.getElem_cons_succ, List.getElem_cons_zero]
          rw [if_pos (by rfl)]
          go_simp
          obtain ⟨u3, hu3⟩ : ∃ W, W = u2.alloc (.cells #[.slice (some ⟨g, 0, none⟩) bl.length cb, .slice (some ⟨u1.heap.size, 0, none⟩) 1 1] 24) := ⟨_, rfl⟩
          have hb3 : Below u2.heap.size u2 u3 := by rw [hu3]; exact below_alloc (B0 _) _
          have f12 := f12.below hb3 (arr_lt f12)
          have f7 := f7.below hb3 (arr_lt f7)
          have f8 : u3.heap[u2.heap.size]? = some (.cells [.slice (some ⟨g, 0, none⟩) bl.length cb, .slice (some ⟨u1.heap.size, 0, none⟩) 1 1].toArray 24 (0, 0)) := by rw [hu3]; exact blk_new u2 _
          rw [← hu3]
          refine hK.out _ _ (SL.step hHeld hb3) (fun hHeld => ?_)
          clear hK K hu3 hb3
          refine wpAnyH_ready (rs := [9]) (by kernel_rfl) (by simp) ?_
          refine AllReadyH.cons rfl (fun K hK => ?_) AllReadyH.nil
          simp only [List.getElem_toArray, List.getElem_cons_succ, List.getElem_cons_zero]
          rw [if_pos (by rfl)]
          go_simp
          have hkb := KB_list (xss := [bl, [c]]) f8 rfl (by simp) (fun i v xs h1 h2 => by
            match i, h1, h2 with
            | 0, h1, h2 =>
              simp at h1 h2
              subst h1 h2
              exact ⟨_, _, rfl, HCC.out, SL.C hHeld (by have := HAL.out; omega)⟩
            | 1, h1, h2 =>
              simp at h1 h2
              subst h1 h2
              exact ⟨_, _, rfl, Nat.le_refl _, bytes_C f7 (by simp)⟩
            | q + 2, h1, h2 => simp at h1)
          refine (sum_any u3 _ 2 [bl, [c]] hkb (by rw [hcat2]; exact HAB.out) (by rw [hcat2]; exact HAC.out) (show 2 ≤ 4294967296 by decide) (show 2 ≤ 2 by decide) (SL.glob hHeld)).mono ?_
          rintro e u4 ⟨rfl, hb4⟩
          rw [hcat2]
          have f12 := f12.below hb4 (arr_lt f12)
          have f7 := f7.below hb4 (arr_lt f7)
          have f8 := (hb4.block _ (blk_lt f8)).trans f8
          refine hK.out _ _ (SL.step hHeld hb4) (fun hHeld => ?_)
          clear hK K hb4 hkb
          refine wpAnyH_ready (rs := [13]) (by kernel_rfl) (by simp) ?_
          refine AllReadyH.cons rfl (fun K hK => ?_) AllReadyH.nil
          simp only [List.getElem_toArray, List.getElem_cons_succ, List.getElem_cons_zero]
          rw [if_pos (by rfl)]
          obtain ⟨cur, hcur, hcs⟩ := SL.row_at hHeld
          have hrun := room_run (P := Tryd.prog) 24 24 5 Tryd.underlying24 (show Tryd.prog.info? 5 = some _ from rfl) rfl hcur f12 (show bl.length + 1 ≤ cb by omega) (by omega)
          refine wp_append_run (.tmp 37) (.tmp 39) 24 rfl rfl rfl hrun ?_
          simp only [Act.put, List.setIfInBounds_toArray, List.set_cons_zero, List.set_cons_succ]
          have hx := room_facts hHeld hcur hcs (show bl.length + 1 ≤ cb by omega) HG.out.1 HAL.out.1
          obtain ⟨wR, hwR⟩ : ∃ W, W = u4.setRow g (cur.toList.take bl.length ++ [Value.int .u8 c] ++ cur.toList.drop (bl.length + 1)).toArray := ⟨_, rfl⟩
          rw [← hwR] at hx ⊢
          obtain ⟨hsl, hbv⟩ := hx
          refine hK.out _ _ hsl (fun hHeld => ?_)
          clear hK K hrun hsl hwR hcur hcs
          refine wpAnyH_ready (rs := [14]) (by kernel_rfl) (by simp) ?_
          refine AllReadyH.cons rfl (fun K hK => ?_) AllReadyH.nil
          simp only [List.getElem_toArray, List.getElem_cons_succ, List.getElem_cons_zero]
          rw [if_pos (by rfl)]
          go_simp
          refine (refsum_any wR _ (bl ++ [c]) hbv HAB.out HAC.out).mono ?_
          rintro e wS ⟨rfl, hbS⟩
          refine hK.out _ _ (SL.step hHeld hbS) (fun hHeld => ?_)
          clear hK K hbS hbv
          refine wpAnyH_take (i := 15) (v := .bool true) rfl (by kernel_rfl) (by kernel_rfl) (by kernel_rfl) (fun _ _ _ h => h) (Or.inl ⟨by rfl, ?hy15⟩) hHeld ?_
          case hy15 => intro w' _; go_simp
          simp only [List.getElem_toArray, List.getElem_cons_succ, List.getElem_cons_zero, Act.put, List.setIfInBounds_toArray, List.set_cons_zero, List.set_cons_succ]
          refine wpAnyH_take (i := 16) (v := .bool true) rfl (by kernel_rfl) (by kernel_rfl) (by kernel_rfl) (fun _ _ _ h => h) (Or.inl ⟨by rfl, ?hy16⟩) hHeld ?_
          case hy16 => intro w' _; go_simp
          simp only [List.getElem_toArray, List.getElem_cons_succ, List.getElem_cons_zero, Act.put, List.setIfInBounds_toArray, List.set_cons_zero, List.set_cons_succ]
          refine wpAnyH_take (i := 17) (v := .bool true) rfl (by kernel_rfl) (by kernel_rfl) (by kernel_rfl) (fun _ _ _ h => h) (Or.inl ⟨by rfl, ?hy17⟩) hHeld ?_
          case hy17 => intro w' _; go_simp
          simp only [List.getElem_toArray, List.getElem_cons_succ, List.getElem_cons_zero, Act.put, List.setIfInBounds_toArray, List.set_cons_zero, List.set_cons_succ]
          refine wpAnyH_take (i := 18) (v := .slice (some ⟨g, 0, none⟩) bl.length cb) rfl (by kernel_rfl) (by kernel_rfl) (by kernel_rfl) (fun _ _ _ h => h) (Or.inl ⟨by rfl, ?hy18⟩) hHeld ?_
          case hy18 => intro w' _; go_simp
          simp only [List.getElem_toArray, List.getElem_cons_succ, List.getElem_cons_zero, Act.put, List.setIfInBounds_toArray, List.set_cons_zero, List.set_cons_succ]
          refine wpAnyH_take (i := 21) (v := .agg (nums .u8 (sumP bl)).toArray) rfl (by kernel_rfl) (by kernel_rfl) (by kernel_rfl) (fun _ _ _ h => h) (yieldsIf_load_mid (by rfl) 26 (.tmp 8) rfl w3.heap.size 0 rfl (nums .u8 (sumP bl)) _ (fun w' h => h.1) Tryd.underlying26 rfl (by rw [size_out]; simp [nums, sumP_len])) hHeld ?_
          simp only [List.getElem_toArray, List.getElem_cons_succ, List.getElem_cons_zero, Act.put, List.setIfInBounds_toArray, List.set_cons_zero, List.set_cons_succ]
          refine wpAnyH_ready (rs := [19]) (by kernel_rfl) (by simp) ?_
          refine AllReadyH.cons rfl (fun K hK => ?_) AllReadyH.nil
          simp only [List.getElem_toArray, List.getElem_cons_succ, List.getElem_cons_zero]
          rw [if_pos (by rfl)]
          go_simp
          obtain ⟨wT, hwT⟩ : ∃ W, W = wS.alloc (.cells #[.slice none 0 0, .slice (some ⟨g, 0, none⟩) bl.length cb, .slice none 0 0] 24) := ⟨_, rfl⟩
          have hbT : Below wS.heap.size wS wT := by rw [hwT]; exact below_alloc (B0 _) _
          have f19 : wT.heap[wS.heap.size]? = some (.cells ([.slice none 0 0, .slice (some ⟨g, 0, none⟩) bl.length cb, .slice none 0 0] : List Value).toArray 24 (0, 0)) := by rw [hwT]; exact blk_new wS _
          rw [← hwT]
          refine hK.out _ _ (SL.step hHeld hbT) (fun hHeld => ?_)
          clear hK K hwT hbT
          refine wpAnyH_ready (rs := [20]) (by kernel_rfl) (by simp) ?_
          refine AllReadyH.cons rfl (fun K hK => ?_) AllReadyH.nil
          simp only [List.getElem_toArray, List.getElem_cons_succ, List.getElem_cons_zero]
          rw [if_pos (by rfl)]
          go_simp
          have hkb := KB_list (xss := [[], bl, []]) f19 rfl (by simp) (fun i v xs h1 h2 => by
            match i, h1, h2 with
            | 0, h1, h2 =>
              simp at h1 h2
              subst h1 h2
              exact ⟨_, _, rfl, Nat.le_refl _, Kd.C_nil _ _⟩
            | 1, h1, h2 =>
              simp at h1 h2
              subst h1 h2
              exact ⟨_, _, rfl, HCC.out, SL.C hHeld (by have := HAL.out; omega)⟩
            | 2, h1, h2 =>
              simp at h1 h2
              subst h1 h2
              exact ⟨_, _, rfl, Nat.le_refl _, Kd.C_nil _ _⟩
            | q + 3, h1, h2 => simp at h1)
          refine (sum_any wT _ 3 [[], bl, []] hkb (by rw [hcat3]; exact HBY.out) (by rw [hcat3]; have := HAL.out; omega) (show 3 ≤ 4294967296 by decide) (show 3 ≤ 3 by decide) (SL.glob hHeld)).mono ?_
          rintro e wU ⟨rfl, hbU⟩
          rw [hcat3]
          refine hK.out _ _ (SL.step hHeld hbU) (fun hHeld => ?_)
          clear hK K hbU hkb
          refine wpAnyH_take (i := 22) (v := .bool true) rfl (by kernel_rfl) (by kernel_rfl) (by kernel_rfl) (fun _ _ _ h => h) (Or.inl ⟨by rfl, ?hy22⟩) hHeld ?_
          case hy22 => intro w' _; go_simp
          simp only [List.getElem_toArray, List.getElem_cons_succ, List.getElem_cons_zero, Act.put, List.setIfInBounds_toArray, List.set_cons_zero, List.set_cons_succ]
          refine wpAnyH_take (i := 23) (v := .bool true) rfl (by kernel_rfl) (by kernel_rfl) (by kernel_rfl) (fun _ _ _ h => h) (Or.inl ⟨by rfl, ?hy23⟩) hHeld ?_
          case hy23 => intro w' _; go_simp
          simp only [List.getElem_toArray, List.getElem_cons_succ, List.getElem_cons_zero, Act.put, List.setIfInBounds_toArray, List.set_cons_zero, List.set_cons_succ]
          refine wpAnyH_take (i := 24) (v := .bool true) rfl (by kernel_rfl) (by kernel_rfl) (by kernel_rfl) (fun _ _ _ h => h) (Or.inl ⟨by rfl, ?hy24⟩) hHeld ?_
          case hy24 => intro w' _; go_simp
          simp only [List.getElem_toArray, List.getElem_cons_succ, List.getElem_cons_zero, Act.put, List.setIfInBounds_toArray, List.set_cons_zero, List.set_cons_succ]
          refine wpAnyH_done (by kernel_rfl) ?_ _
          have HBF := Aside0.mk (SL.below hHeld)
          clear hHeld heq heq2
          go_wp2
          go_ret
          exact ⟨rfl, HBF.out⟩
      · refine wp_region_held_drew (S := SL w g w3.heap.size cb c bl) (by kernel_rfl) HSL.out (fun hHeld => ?_)
        refine wpAnyH_take (i := 0) (v := .agg (nums .u8 (sumP bl)).toArray) rfl (by kernel_rfl) (by kernel_rfl) (by kernel_rfl) (fun _ _ _ h => h) (yieldsIf_load_mid (by rfl) 26 (.tmp 8) rfl w3.heap.size 0 rfl (nums .u8 (sumP bl)) _ (fun w' h => h.1) Tryd.underlying26 rfl (by rw [size_out]; simp [nums, sumP_len])) hHeld ?_
        simp only [List.getElem_toArray, List.getElem_cons_succ, List.getElem_cons_zero, Act.put, List.setIfInBounds_toArray, List.set_cons_zero, List.set_cons_succ]
        refine wpAnyH_take (i := 1) (v := .slice (some ⟨g, 0, none⟩) bl.length cb) rfl (by kernel_rfl) (by kernel_rfl) (by kernel_rfl) (fun _ _ _ h => h) (Or.inl ⟨by rfl, ?hy1⟩) hHeld ?_
        case hy1 => intro w' _; go_simp
        simp only [List.getElem_toArray, List.getElem_cons_succ, List.getElem_cons_zero, Act.put, List.setIfInBounds_toArray, List.set_cons_zero, List.set_cons_succ]
        refine wpAnyH_ready (rs := [2]) (by kernel_rfl) (by simp) ?_
        refine AllReadyH.cons rfl (fun K hK => ?_) AllReadyH.nil
        simp only [List.getElem_toArray, List.getElem_cons_succ, List.getElem_cons_zero]
        rw [if_pos (by rfl)]
        go_simp
        refine (refsum_any _ _ bl ⟨_, _, rfl, HCC.out, SL.C hHeld (by have := HAL.out; omega), fun h => by cases h⟩ HBY.out (by have := HAL.out; omega)).mono ?_
        rintro e w4 ⟨rfl, hb4⟩
        refine hK.out _ _ (SL.step hHeld hb4) (fun hHeld => ?_)
        clear hK K hb4
        refine wpAnyH_take (i := 3) (v := .bool true) rfl (by kernel_rfl) (by kernel_rfl) (by kernel_rfl) (fun _ _ _ h => h) (Or.inl ⟨by rfl, ?hy3⟩) hHeld ?_
        case hy3 => intro w' _; go_simp
        simp only [List.getElem_toArray, List.getElem_cons_succ, List.getElem_cons_zero, Act.put, List.setIfInBounds_toArray, List.set_cons_zero, List.set_cons_succ]
        refine wpAnyH_take (i := 4) (v := .bool true) rfl (by kernel_rfl) (by kernel_rfl) (by kernel_rfl) (fun _ _ _ h => h) (Or.inl ⟨by rfl, ?hy4⟩) hHeld ?_
        case hy4 => intro w' _; go_simp
        simp only [List.getElem_toArray, List.getElem_cons_succ, List.getElem_cons_zero, Act.put, List.setIfInBounds_toArray, List.set_cons_zero, List.set_cons_succ]
        refine wpAnyH_take (i := 5) (v := .slice (some ⟨g, 0, none⟩) bl.length cb) rfl (by kernel_rfl) (by kernel_rfl) (by kernel_rfl) (fun _ _ _ h => h) (Or.inl ⟨by rfl, ?hy5⟩) hHeld ?_
        case hy5 => intro w' _; go_simp
        simp only [List.getElem_toArray, List.getElem_cons_succ, List.getElem_cons_zero, Act.put, List.setIfInBounds_toArray, List.set_cons_zero, List.set_cons_succ]
        refine wpAnyH_take (i := 6) (v := .int .u8 c) rfl (by kernel_rfl) (by kernel_rfl) (by kernel_rfl) (fun _ _ _ h => h) (Or.inl ⟨by rfl, ?hy6⟩) hHeld ?_
        case hy6 => intro w' _; go_simp
        simp only [List.getElem_toArray, List.getElem_cons_succ, List.getElem_cons_zero, Act.put, List.setIfInBounds_toArray, List.set_cons_zero, List.set_cons_succ]
        refine wpAnyH_take (i := 10) (v := .slice (some ⟨g, 0, none⟩) bl.length cb) rfl (by kernel_rfl) (by kernel_rfl) (by kernel_rfl) (fun _ _ _ h => h) (Or.inl ⟨by rfl, ?hy10⟩) hHeld ?_
        case hy10 => intro w' _; go_simp
        simp only [List.getElem_toArray, List.getElem_cons_succ, List.getElem_cons_zero, Act.put, List.setIfInBounds_toArray, List.set_cons_zero, List.set_cons_succ]
        refine wpAnyH_take (i := 11) (v := .int .u8 c) rfl (by kernel_rfl) (by kernel_rfl) (by kernel_rfl) (fun _ _ _ h => h) (Or.inl ⟨by rfl, ?hy11⟩) hHeld ?_
        case hy11 => intro w' _; go_simp
        simp only [List.getElem_toArray, List.getElem_cons_succ, List.getElem_cons_zero, Act.put, List.setIfInBounds_toArray, List.set_cons_zero, List.set_cons_succ]
        refine wpAnyH_ready (rs := [7, 12]) (by kernel_rfl) (by simp) ?_
        refine AllReadyH.cons rfl (fun K hK => ?_) (AllReadyH.cons rfl (fun K hK => ?_) AllReadyH.nil)
        · simp only [List.getElem_toArray, List.getElem_cons_succ, List.getElem_cons_zero]
          rw [if_pos (by rfl)]
          go_simp
          obtain ⟨u1, hu1⟩ : ∃ W, W = w4.alloc (.cells #[.int .u8 c] 5) := ⟨_, rfl⟩
          have hb1 : Below w4.heap.size w4 u1 := by rw [hu1]; exact below_alloc (B0 _) _
          have f7 : IsArr u1 w4.heap.size .u8 5 [c] := by rw [hu1]; exact blk_new w4 _
          rw [← hu1]
          refine hK.out _ _ (SL.step hHeld hb1) (fun hHeld => ?_)
          clear hK K hu1 hb1
          refine wpAnyH_ready (rs := [8, 12]) (by kernel_rfl) (by simp) ?_
          refine AllReadyH.cons rfl (fun K hK => ?_) (AllReadyH.cons rfl (fun K hK => ?_) AllReadyH.nil)
          · simp only [List.getElem_toArray, List.getElem_cons_succ, List.getElem_cons_zero]
            rw [if_pos (by rfl)]
            go_simp
            obtain ⟨u2, hu2⟩ : ∃ W, W = u1.alloc (.cells #[.slice (some ⟨g, 0, none⟩) bl.length cb, .slice (some ⟨w4.heap.size, 0, none⟩) 1 1] 24) := ⟨_, rfl⟩
            have hb2 : Below u1.heap.size u1 u2 := by rw [hu2]; exact below_alloc (B0 _) _
            have f7 := f7.below hb2 (arr_lt f7)
            have f8 : u2.heap[u1.heap.size]? = some (.cells [.slice (some ⟨g, 0, none⟩) bl.length cb, .slice (some ⟨w4.heap.size, 0, none⟩) 1 1].toArray 24 (0, 0)) := by rw [hu2]; exact blk_new u1 _
            rw [← hu2]
            refine hK.out _ _ (SL.step hHeld hb2) (fun hHeld => ?_)
            clear hK K hu2 hb2
            refine wpAnyH_ready (rs := [9, 12]) (by kernel_rfl) (by simp) ?_
            refine AllReadyH.cons rfl (fun K hK => ?_) (AllReadyH.cons rfl (fun K hK => ?_) AllReadyH.nil)
            · simp only [List.getElem_toArray, List.getElem_cons_succ, List.getElem_cons_zero]
              rw [if_pos (by rfl)]
              go_simp
              have hkb := KB_list (xss := [bl, [c]]) f8 rfl (by simp) (fun i v xs h1 h2 => by
                match i, h1, h2 with
                | 0, h1, h2 =>
                  simp at h1 h2
                  subst h1 h2
                  exact ⟨_, _, rfl, HCC.out, SL.C hHeld (by have := HAL.out; omega)⟩
                | 1, h1, h2 =>
                  simp at h1 h2
                  subst h1 h2
                  exact ⟨_, _, rfl, Nat.le_refl _, bytes_C f7 (by simp)⟩
                | q + 2, h1, h2 => simp at h1)
              refine (sum_any u2 _ 2 [bl, [c]] hkb (by rw [hcat2]; exact HAB.out) (by rw [hcat2]; exact HAC.out) (show 2 ≤ 4294967296 by decide) (show 2 ≤ 2 by decide) (SL.glob hHeld)).mono ?_
              rintro e u3 ⟨rfl, hb3⟩
              rw [hcat2]
              have f7 := f7.below hb3 (arr_lt f7)
              have f8 := (hb3.block _ (blk_lt f8)).trans f8
              refine hK.out _ _ (SL.step hHeld hb3) (fun hHeld => ?_)
              clear hK K hb3 hkb
              refine wpAnyH_ready (rs := [12]) (by kernel_rfl) (by simp) ?_
              refine AllReadyH.cons rfl (fun K hK => ?_) AllReadyH.nil
              simp only [List.getElem_toArray, List.getElem_cons_succ, List.getElem_cons_zero]
              rw [if_pos (by rfl)]
              go_simp
              obtain ⟨u4, hu4⟩ : ∃ W, W = u3.alloc (.cells #[.int .u8 c] 5) := ⟨_, rfl⟩
              have hb4 : Below u3.heap.size u3 u4 := by rw [hu4]; exact below_alloc (B0 _) _
              have f7 := f7.below hb4 (arr_lt f7)
              have f8 := (hb4.block _ (blk_lt f8)).trans f8
              have f12 : IsArr u4 u3.heap.size .u8 5 [c] := by rw [hu4]; exact blk_new u3 _
              rw [← hu4]
              refine hK.out _ _ (SL.step hHeld hb4) (fun hHeld => ?_)
              clear hK K hu4 hb4
              refine wpAnyH_ready (rs := [13]) (by kernel_rfl) (by simp) ?_
              refine AllReadyH.cons rfl (fun K hK => ?_) AllReadyH.nil
              simp only [List.getElem_toArray, List.getElem_cons_succ, List.getElem_cons_zero]
              rw [if_pos (by rfl)]
              obtain ⟨v40, wR, hrun, hown, hgr⟩ := grow_run (P := Tryd.prog) u4 24 24 5 Tryd.underlying24 (show Tryd.prog.info? 5 = some _ from rfl) rfl rfl rfl (SL.C hHeld (by have := HAL.out; omega)) f12 (show cb < bl.length + 1 by omega) HAL.out.1 HAL.out.2
              refine wp_append_run (.tmp 37) (.tmp 39) 24 rfl rfl rfl hrun ?_
              simp only [Act.put, List.setIfInBounds_toArray, List.set_cons_zero, List.set_cons_succ]
              have hbw : Below u4.heap.size u4 wR := ⟨hgr.os, hgr.tape, hgr.output, hgr.size, fun k hk => hgr.block k hk (by simp)⟩
              have hbv : Bs wR v40 (bl ++ [c]) := Bs.of_R (Kd.R_of_own (h1 := fun _ => rfl) (ok := fun _ => True) hown (fun _ _ => trivial))
              refine hK.out _ _ (SL.step hHeld hbw) (fun hHeld => ?_)
              clear hK K hrun hown hgr hbw
              refine wpAnyH_ready (rs := [14]) (by kernel_rfl) (by simp) ?_
              refine AllReadyH.cons rfl (fun K hK => ?_) AllReadyH.nil
              simp only [List.getElem_toArray, List.getElem_cons_succ, List.getElem_cons_zero]
              rw [if_pos (by rfl)]
              go_simp
              refine (refsum_any wR _ (bl ++ [c]) hbv HAB.out HAC.out).mono ?_
              rintro e wS ⟨rfl, hbS⟩
              refine hK.out _ _ (SL.step hHeld hbS) (fun hHeld => ?_)
              clear hK K hbS hbv
              refine wpAnyH_take (i := 15) (v := .bool true) rfl (by kernel_rfl) (by kernel_rfl) (by kernel_rfl) (fun _ _ _ h => h) (Or.inl ⟨by rfl, ?hy15⟩) hHeld ?_
              case hy15 => intro w' _; go_simp
              simp only [List.getElem_toArray, List.getElem_cons_succ, List.getElem_cons_zero, Act.put, List.setIfInBounds_toArray, List.set_cons_zero, List.set_cons_succ]
              refine wpAnyH_take (i := 16) (v := .bool true) rfl (by kernel_rfl) (by kernel_rfl) (by kernel_rfl) (fun _ _ _ h => h) (Or.inl ⟨by rfl, ?hy16⟩) hHeld ?_
              case hy16 => intro w' _; go_simp
              simp only [List.getElem_toArray, List.getElem_cons_succ, List.getElem_cons_zero, Act.put, List.setIfInBounds_toArray, List.set_cons_zero, List.set_cons_succ]
              refine wpAnyH_take (i := 17) (v := .bool true) rfl (by kernel_rfl) (by kernel_rfl) (by kernel_rfl) (fun _ _ _ h => h) (Or.inl ⟨by rfl, ?hy17⟩) hHeld ?_
              case hy17 => intro w' _; go_simp
              simp only [List.getElem_toArray, List.getElem_cons_succ, List.getElem_cons_zero, Act.put, List.setIfInBounds_toArray, List.set_cons_zero, List.set_cons_succ]
              refine wpAnyH_take (i := 18) (v := .slice (some ⟨g, 0, none⟩) bl.length cb) rfl (by kernel_rfl) (by kernel_rfl) (by kernel_rfl) (fun _ _ _ h => h) (Or.inl ⟨by rfl, ?hy18⟩) hHeld ?_
              case hy18 => intro w' _; go_simp
              simp only [List.getElem_toArray, List.getElem_cons_succ, List.getElem_cons_zero, Act.put, List.setIfInBounds_toArray, List.set_cons_zero, List.set_cons_succ]
              refine wpAnyH_take (i := 21) (v := .agg (nums .u8 (sumP bl)).toArray) rfl (by kernel_rfl) (by kernel_rfl) (by kernel_rfl) (fun _ _ _ h => h) (yieldsIf_load_mid (by rfl) 26 (.tmp 8) rfl w3.heap.size 0 rfl (nums .u8 (sumP bl)) _ (fun w' h => h.1) Tryd.underlying26 rfl (by rw [size_out]; simp [nums, sumP_len])) hHeld ?_
              simp only [List.getElem_toArray, List.getElem_cons_succ, List.getElem_cons_zero, Act.put, List.setIfInBounds_toArray, List.set_cons_zero, List.set_cons_succ]
              refine wpAnyH_ready (rs := [19]) (by kernel_rfl) (by simp) ?_
              refine AllReadyH.cons rfl (fun K hK => ?_) AllReadyH.nil
              simp only [List.getElem_toArray, List.getElem_cons_succ, List.getElem_cons_zero]
              rw [if_pos (by rfl)]
              go_simp
              obtain ⟨wT, hwT⟩ : ∃ W, W = wS.alloc (.cells #[.slice none 0 0, .slice (some ⟨g, 0, none⟩) bl.length cb, .slice none 0 0] 24) := ⟨_, rfl⟩
              have hbT : Below wS.heap.size wS wT := by rw [hwT]; exact below_alloc (B0 _) _
              have f19 : wT.heap[wS.heap.size]? = some (.cells ([.slice none 0 0, .slice (some ⟨g, 0, none⟩) bl.length cb, .slice none 0 0] : List Value).toArray 24 (0, 0)) := by rw [hwT]; exact blk_new wS _
              rw [← hwT]
              refine hK.out _ _ (SL.step hHeld hbT) (fun hHeld => ?_)
              clear hK K hwT hbT
              refine wpAnyH_ready (rs := [20]) (by kernel_rfl) (by simp) ?_
              refine AllReadyH.cons rfl (fun K hK => ?_) AllReadyH.nil
              simp only [List.getElem_toArray, List.getElem_cons_succ, List.getElem_cons_zero]
              rw [if_pos (by rfl)]
              go_simp
              have hkb := KB_list (xss := [[], bl, []]) f19 rfl (by simp) (fun i v xs h1 h2 => by
                match i, h1, h2 with
                | 0, h1, h2 =>
                  simp at h1 h2
                  subst h1 h2
                  exact ⟨_, _, rfl, Nat.le_refl _, Kd.C_nil _ _⟩
                | 1, h1, h2 =>
                  simp at h1 h2
                  subst h1 h2
                  exact ⟨_, _, rfl, HCC.out, SL.C hHeld (by have := HAL.out; omega)⟩
                | 2, h1, h2 =>
                  simp at h1 h2
                  subst h1 h2
                  exact ⟨_, _, rfl, Nat.le_refl _, Kd.C_nil _ _⟩
                | q + 3, h1, h2 => simp at h1)
              refine (sum_any wT _ 3 [[], bl, []] hkb (by rw [hcat3]; exact HBY.out) (by rw [hcat3]; have := HAL.out; omega) (show 3 ≤ 4294967296 by decide) (show 3 ≤ 3 by decide) (SL.glob hHeld)).mono ?_
              rintro e wU ⟨rfl, hbU⟩
              rw [hcat3]
              refine hK.out _ _ (SL.step hHeld hbU) (fun hHeld => ?_)
              clear hK K hbU hkb
              refine wpAnyH_take (i := 22) (v := .bool true) rfl (by kernel_rfl) (by kernel_rfl) (by kernel_rfl) (fun _ _ _ h => h) (Or.inl ⟨by rfl, ?hy22⟩) hHeld ?_
              case hy22 => intro w' _; go_simp
              simp only [List.getElem_toArray, List.getElem_cons_succ, List.getElem_cons_zero, Act.put, List.setIfInBounds_toArray, List.set_cons_zero, List.set_cons_succ]
              refine wpAnyH_take (i := 23) (v := .bool true) rfl (by kernel_rfl) (by kernel_rfl) (by kernel_rfl) (fun _ _ _ h => h) (Or.inl ⟨by rfl, ?hy23⟩) hHeld ?_
              case hy23 => intro w' _; go_simp
              simp only [List.getElem_toArray, List.getElem_cons_succ, List.getElem_cons_zero, Act.put, List.setIfInBounds_toArray, List.set_cons_zero, List.set_cons_succ]
              refine wpAnyH_take (i := 24) (v := .bool true) rfl (by kernel_rfl) (by kernel_rfl) (by kernel_rfl) (fun _ _ _ h => h) (Or.inl ⟨by rfl, ?hy24⟩) hHeld ?_
              case hy24 => intro w' _; go_simp
              simp only [List.getElem_toArray, List.getElem_cons_succ, List.getElem_cons_zero, Act.put, List.setIfInBounds_toArray, List.set_cons_zero, List.set_cons_succ]
              refine wpAnyH_done (by kernel_rfl) ?_ _
              have HBF := Aside0.mk (SL.below hHeld)
              clear hHeld heq heq2
              go_wp2
              go_ret
              exact ⟨rfl, HBF.out⟩
            · simp only [List.getElem_toArray, List.getElem_cons_succ, List.getElem_cons_zero]
              rw [if_pos (by rfl)]
              go_simp
              obtain ⟨u3, hu3⟩ : ∃ W, W = u2.alloc (.cells #[.int .u8 c] 5) := ⟨_, rfl⟩
              have hb3 : Below u2.heap.size u2 u3 := by rw [hu3]; exact below_alloc (B0 _) _
              have f7 := f7.below hb3 (arr_lt f7)
              have f8 := (hb3.block _ (blk_lt f8)).trans f8
              have f12 : IsArr u3 u2.heap.size .u8 5 [c] := by rw [hu3]; exact blk_new u2 _
              rw [← hu3]
              refine hK.out _ _ (SL.step hHeld hb3) (fun hHeld => ?_)
              clear hK K hu3 hb3
              refine wpAnyH_ready (rs := [9]) (by kernel_rfl) (by simp) ?_
              refine AllReadyH.cons rfl (fun K hK => ?_) AllReadyH.nil
              simp only [List.getElem_toArray, List.getElem_cons_succ, List.getElem_cons_zero]
              rw [if_pos (by rfl)]
              go_simp
              have hkb := KB_list (xss := [bl, [c]]) f8 rfl (by simp) (fun i v xs h1 h2 => by
                match i, h1, h2 with
                | 0, h1, h2 =>
                  simp at h1 h2
                  subst h1 h2
                  exact ⟨_, _, rfl, HCC.out, SL.C hHeld (by have := HAL.out; omega)⟩
                | 1, h1, h2 =>
                  simp at h1 h2
                  subst h1 h2
                  exact ⟨_, _, rfl, Nat.le_refl _, bytes_C f7 (by simp)⟩
                | q + 2, h1, h2 => simp at h1)
              refine (sum_any u3 _ 2 [bl, [c]] hkb (by rw [hcat2]; exact HAB.out) (by rw [hcat2]; exact HAC.out) (show 2 ≤ 4294967296 by decide) (show 2 ≤ 2 by decide) (SL.glob hHeld)).mono ?_
              rintro e u4 ⟨rfl, hb4⟩
              rw [hcat2]
              have f7 := f7.below hb4 (arr_lt f7)
              have f8 := (hb4.block _ (blk_lt f8)).trans f8
              have f12 := f12.below hb4 (arr_lt f12)
              refine hK.out _ _ (SL.step hHeld hb4) (fun hHeld => ?_)
              clear hK K hb4 hkb
              refine wpAnyH_ready (rs := [13]) (by kernel_rfl) (by simp) ?_
              refine AllReadyH.cons rfl (fun K hK => ?_) AllReadyH.nil
              simp only [List.getElem_toArray, List.getElem_cons_succ, List.getElem_cons_zero]
              rw [if_pos (by rfl)]
              obtain ⟨v40, wR, hrun, hown, hgr⟩ := grow_run (P := Tryd.prog) u4 24 24 5 Tryd.underlying24 (show Tryd.prog.info? 5 = some _ from rfl) rfl rfl rfl (SL.C hHeld (by have := HAL.out; omega)) f12 (show cb < bl.length + 1 by omega) HAL.out.1 HAL.out.2
              refine wp_append_run (.tmp 37) (.tmp 39) 24 rfl rfl rfl hrun ?_
              simp only [Act.put, List.setIfInBounds_toArray, List.set_cons_zero, List.set_cons_succ]
              have hbw : Below u4.heap.size u4 wR := ⟨hgr.os, hgr.tape, hgr.output, hgr.size, fun k hk => hgr.block k hk (by simp)⟩
              have hbv : Bs wR v40 (bl ++ [c]) := Bs.of_R (Kd.R_of_own (h1 := fun _ => rfl) (ok := fun _ => True) hown (fun _ _ => trivial))
              refine hK.out _ _ (SL.step hHeld hbw) (fun hHeld => ?_)
              clear hK K hrun hown hgr hbw
              refine wpAnyH_ready (rs := [14]) (by kernel_rfl) (by simp) ?_
              refine AllReadyH.cons rfl (fun K hK => ?_) AllReadyH.nil
              simp only [List.getElem_toArray, List.getElem_cons_succ, List.getElem_cons_zero]
              rw [if_pos (by rfl)]
              go_simp
              refine (refsum_any wR _ (bl ++ [c]) hbv HAB.out HAC.out).mono ?_
              rintro e wS ⟨rfl, hbS⟩
              refine hK.out _ _ (SL.step hHeld hbS) (fun hHeld => ?_)
              clear hK K hbS hbv
              refine wpAnyH_take (i := 15) (v := .bool true) rfl (by kernel_rfl) (by kernel_rfl) (by kernel_rfl) (fun _ _ _ h => h) (Or.inl ⟨by rfl, ?hy15⟩) hHeld ?_
              case hy15 => intro w' _; go_simp
              simp only [List.getElem_toArray, List.getElem_cons_succ, List.getElem_cons_zero, Act.put, List.setIfInBounds_toArray, List.set_cons_zero, List.set_cons_succ]
              refine wpAnyH_take (i := 16) (v := .bool true) rfl (by kernel_rfl) (by kernel_rfl) (by kernel_rfl) (fun _ _ _ h => h) (Or.inl ⟨by rfl, ?hy16⟩) hHeld ?_
              case hy16 => intro w' _; go_simp
              simp only [List.getElem_toArray, List.getElem_cons_succ, List.getElem_cons_zero, Act.put, List.setIfInBounds_toArray, List.set_cons_zero, List.set_cons_succ]
              refine wpAnyH_take (i := 17) (v := .bool true) rfl (by kernel_rfl) (by kernel_rfl) (by kernel_rfl) (fun _ _ _ h => h) (Or.inl ⟨by rfl, ?hy17⟩) hHeld ?_
              case hy17 => intro w' _; go_simp
              simp only [List.getElem_toArray, List.getElem_cons_succ, List.getElem_cons_zero, Act.put, List.setIfInBounds_toArray, List.set_cons_zero, List.set_cons_succ]
              refine wpAnyH_take (i := 18) (v := .slice (some ⟨g, 0, none⟩) bl.length cb) rfl (by kernel_rfl) (by kernel_rfl) (by kernel_rfl) (fun _ _ _ h => h) (Or.inl ⟨by rfl, ?hy18⟩) hHeld ?_
              case hy18 => intro w' _; go_simp
              simp only [List.getElem_toArray, List.getElem_cons_succ, List.getElem_cons_zero, Act.put, List.setIfInBounds_toArray, List.set_cons_zero, List.set_cons_succ]
              refine wpAnyH_take (i := 21) (v := .agg (nums .u8 (sumP bl)).toArray) rfl (by kernel_rfl) (by kernel_rfl) (by kernel_rfl) (fun _ _ _ h => h) (yieldsIf_load_mid (by rfl) 26 (.tmp 8) rfl w3.heap.size 0 rfl (nums .u8 (sumP bl)) _ (fun w' h => h.1) Tryd.underlying26 rfl (by rw [size_out]; simp [nums, sumP_len])) hHeld ?_
              simp only [List.getElem_toArray, List.getElem_cons_succ, List.getElem_cons_zero, Act.put, List.setIfInBounds_toArray, List.set_cons_zero, List.set_cons_succ]
              refine wpAnyH_ready (rs := [19]) (by kernel_rfl) (by simp) ?_
              refine AllReadyH.cons rfl (fun K hK => ?_) AllReadyH.nil
              simp only [List.getElem_toArray, List.getElem_cons_succ, List.getElem_cons_zero]
              rw [if_pos (by rfl)]
              go_simp
              obtain ⟨wT, hwT⟩ : ∃ W, W = wS.alloc (.cells #[.slice none 0 0, .slice (some ⟨g, 0, none⟩) bl.length cb, .slice none 0 0] 24) := ⟨_, rfl⟩
              have hbT : Below wS.heap.size wS wT := by rw [hwT]; exact below_alloc (B0 _) _
              have f19 : wT.heap[wS.heap.size]? = some (.cells ([.slice none 0 0, .slice (some ⟨g, 0, none⟩) bl.length cb, .slice none 0 0] : List Value).toArray 24 (0, 0)) := by rw [hwT]; exact blk_new wS _
              rw [← hwT]
              refine hK.out _ _ (SL.step hHeld hbT) (fun hHeld => ?_)
              clear hK K hwT hbT
              refine wpAnyH_ready (rs := [20]) (by kernel_rfl) (by simp) ?_
              refine AllReadyH.cons rfl (fun K hK => ?_) AllReadyH.nil
              simp only [List.getElem_toArray, List.getElem_cons_succ, List.getElem_cons_zero]
              rw [if_pos (by rfl)]
              go_simp
              have hkb := KB_list (xss := [[], bl, []]) f19 rfl (by simp) (fun i v xs h1 h2 => by
                match i, h1, h2 with
                | 0, h1, h2 =>
                  simp at h1 h2
                  subst h1 h2
                  exact ⟨_, _, rfl, Nat.le_refl _, Kd.C_nil _ _⟩
                | 1, h1, h2 =>
                  simp at h1 h2
                  subst h1 h2
                  exact ⟨_, _, rfl, HCC.out, SL.C hHeld (by have := HAL.out; omega)⟩
                | 2, h1, h2 =>
                  simp at h1 h2
                  subst h1 h2
                  exact ⟨_, _, rfl, Nat.le_refl _, Kd.C_nil _ _⟩
                | q + 3, h1, h2 => simp at h1)
              refine (sum_any wT _ 3 [[], bl, []] hkb (by rw [hcat3]; exact HBY.out) (by rw [hcat3]; have := HAL.out; omega) (show 3 ≤ 4294967296 by decide) (show 3 ≤ 3 by decide) (SL.glob hHeld)).mono ?_
              rintro e wU ⟨rfl, hbU⟩
              rw [hcat3]
              refine hK.out _ _ (SL.step hHeld hbU) (fun hHeld => ?_)
              clear hK K hbU hkb
              refine wpAnyH_take (i := 22) (v := .bool true) rfl (by kernel_rfl) (by kernel_rfl) (by kernel_rfl) (fun _ _ _ h => h) (Or.inl ⟨by rfl, ?hy22⟩) hHeld ?_
              case hy22 => intro w' _; go_simp
              simp only [List.getElem_toArray, List.getElem_cons_succ, List.getElem_cons_zero, Act.put, List.setIfInBounds_toArray, List.set_cons_zero, List.set_cons_succ]
              refine wpAnyH_take (i := 23) (v := .bool true) rfl (by kernel_rfl) (by kernel_rfl) (by kernel_rfl) (fun _ _ _ h => h) (Or.inl ⟨by rfl, ?hy23⟩) hHeld ?_
              case hy23 => intro w' _; go_simp
              simp only [List.getElem_toArray, List.getElem_cons_succ, List.getElem_cons_zero, Act.put, List.setIfInBounds_toArray, List.set_cons_zero, List.set_cons_succ]
              refine wpAnyH_take (i := 24) (v := .bool true) rfl (by kernel_rfl) (by kernel_rfl) (by kernel_rfl) (fun _ _ _ h => h) (Or.inl ⟨by rfl, ?hy24⟩) hHeld ?_
              case hy24 => intro w' _; go_simp
              simp only [List.getElem_toArray, List.getElem_cons_succ, List.getElem_cons_zero, Act.put, List.setIfInBounds_toArray, List.set_cons_zero, List.set_cons_succ]
              refine wpAnyH_done (by kernel_rfl) ?_ _
              have HBF := Aside0.mk (SL.below hHeld)
              clear hHeld heq heq2
              go_wp2
              go_ret
              exact ⟨rfl, HBF.out⟩
          · simp only [List.getElem_toArray, List.getElem_cons_succ, List.getElem_cons_zero]
            rw [if_pos (by rfl)]
            go_simp
            obtain ⟨u2, hu2⟩ : ∃ W, W = u1.alloc (.cells #[.int .u8 c] 5) := ⟨_, rfl⟩
            have hb2 : Below u1.heap.size u1 u2 := by rw [hu2]; exact below_alloc (B0 _) _
            have f7 := f7.below hb2 (arr_lt f7)
            have f12 : IsArr u2 u1.heap.size .u8 5 [c] := by rw [hu2]; exact blk_new u1 _
            rw [← hu2]
            refine hK.out _ _ (SL.step hHeld hb2) (fun hHeld => ?_)
            clear hK K hu2 hb2
            refine wpAnyH_ready (rs := [8]) (by kernel_rfl) (by simp) ?_
            refine AllReadyH.cons rfl (fun K hK => ?_) AllReadyH.nil
            simp only [List.getElem_toArray, List.getElem_cons_succ, List.getElem_cons_zero]
            rw [if_pos (by rfl)]
            go_simp
            obtain ⟨u3, hu3⟩ : ∃ W, W = u2.alloc (.cells #[.slice (some ⟨g, 0, none⟩) bl.length cb, .slice (some ⟨w4.heap.size, 0, none⟩) 1 1] 24) := ⟨_, rfl⟩
            have hb3 : Below u2.heap.size u2 u3 := by rw [hu3]; exact below_alloc (B0 _) _
            have f7 := f7.below hb3 (arr_lt f7)
            have f12 := f12.below hb3 (arr_lt f12)
            have f8 : u3.heap[u2.heap.size]? = some (.cells [.slice (some ⟨g, 0, none⟩) bl.length cb, .slice (some ⟨w4.heap.size, 0, none⟩) 1 1].toArray 24 (0, 0)) := by rw [hu3]; exact blk_new u2 _
            rw [← hu3]
            refine hK.out _ _ (SL.step hHeld hb3) (fun hHeld => ?_)
            clear hK K hu3 hb3
            refine wpAnyH_ready (rs := [9]) (by kernel_rfl) (by simp) ?_
            refine AllReadyH.cons rfl (fun K hK => ?_) AllReadyH.nil
            simp only [List.getElem_toArray, List.getElem_cons_succ, List.getElem_cons_zero]
            rw [if_pos (by rfl)]
            go_simp
            have hkb := KB_list (xss := [bl, [c]]) f8 rfl (by simp) (fun i v xs h1 h2 => by
              match i, h1, h2 with
              | 0, h1, h2 =>
                simp at h1 h2
                subst h1 h2
                exact ⟨_, _, rfl, HCC.out, SL.C hHeld (by have := HAL.out; omega)⟩
              | 1, h1, h2 =>
                simp at h1 h2
                subst h1 h2
                exact ⟨_, _, rfl, Nat.le_refl _, bytes_C f7 (by simp)⟩
              | q + 2, h1, h2 => simp at h1)
            refine (sum_any u3 _ 2 [bl, [c]] hkb (by rw [hcat2]; exact HAB.out) (by rw [hcat2]; exact HAC.out) (show 2 ≤ 4294967296 by decide) (show 2 ≤ 2 by decide) (SL.glob hHeld)).mono ?_
            rintro e u4 ⟨rfl, hb4⟩
            rw [hcat2]
            have f7 := f7.below hb4 (arr_lt f7)
            have f12 := f12.below hb4 (arr_lt f12)
            have f8 := (hb4.block _ (blk_lt f8)).trans f8
            refine hK.out _ _ (SL.step hHeld hb4) (fun hHeld => ?_)
            clear hK K hb4 hkb
            refine wpAnyH_ready (rs := [13]) (by kernel_rfl) (by simp) ?_
            refine AllReadyH.cons rfl (fun K hK => ?_) AllReadyH.nil
            simp only [List.getElem_toArray, List.getElem_cons_succ, List.getElem_cons_zero]
            rw [if_pos (by rfl)]
            obtain ⟨v40, wR, hrun, hown, hgr⟩ := grow_run (P := Tryd.prog) u4 24 24 5 Tryd.underlying24 (show Tryd.prog.info? 5 = some _ from rfl) rfl rfl rfl (SL.C hHeld (by have := HAL.out; omega)) f12 (show cb < bl.length + 1 by omega) HAL.out.1 HAL.out.2
            refine wp_append_run (.tmp 37) (.tmp 39) 24 rfl rfl rfl hrun ?_
            simp only [Act.put, List.setIfInBounds_toArray, List.set_cons_zero, List.set_cons_succ]
            have hbw : Below u4.heap.size u4 wR := ⟨hgr.os, hgr.tape, hgr.output, hgr.size, fun k hk => hgr.block k hk (by simp)⟩
            have hbv : Bs wR v40 (bl ++ [c]) := Bs.of_R (Kd.R_of_own (h1 := fun _ => rfl) (ok := fun _ => True) hown (fun _ _ => trivial))
            refine hK.out _ _ (SL.step hHeld hbw) (fun hHeld => ?_)
            clear hK K hrun hown hgr hbw
            refine wpAnyH_ready (rs := [14]) (by kernel_rfl) (by simp) ?_
            refine AllReadyH.cons rfl (fun K hK => ?_) AllReadyH.nil
            simp only [List.getElem_toArray, List.getElem_cons_succ, List.getElem_cons_zero]
            rw [if_pos (by rfl)]
            go_simp
            refine (refsum_any wR _ (bl ++ [c]) hbv HAB.out HAC.out).mono ?_
            rintro e wS ⟨rfl, hbS⟩
            refine hK.out _ _ (SL.step hHeld hbS) (fun hHeld => ?_)
            clear hK K hbS hbv
            refine wpAnyH_take (i := 15) (v := .bool true) rfl (by kernel_rfl) (by kernel_rfl) (by kernel_rfl) (fun _ _ _ h => h) (Or.inl ⟨by rfl, ?hy15⟩) hHeld ?_
            case hy15 => intro w' _; go_simp
            simp only [List.getElem_toArray, List.getElem_cons_succ, List.getElem_cons_zero, Act.put, List.setIfInBounds_toArray, List.set_cons_zero, List.set_cons_succ]
            refine wpAnyH_take (i := 16) (v := .bool true) rfl (by kernel_rfl) (by kernel_rfl) (by kernel_rfl) (fun _ _ _ h => h) (Or.inl ⟨by rfl, ?hy16⟩) hHeld ?_
            case hy16 => intro w' _; go_simp
            simp only [List.getElem_toArray, List.getElem_cons_succ, List.getElem_cons_zero, Act.put, List.setIfInBounds_toArray, List.set_cons_zero, List.set_cons_succ]
            refine wpAnyH_take (i := 17) (v := .bool true) rfl (by kernel_rfl) (by kernel_rfl) (by kernel_rfl) (fun _ _ _ h => h) (Or.inl ⟨by rfl, ?hy17⟩) hHeld ?_
            case hy17 => intro w' _; go_simp
            simp only [List.getElem_toArray, List.getElem_cons_succ, List.getElem_cons_zero, Act.put, List.setIfInBounds_toArray, List.set_cons_zero, List.set_cons_succ]
            refine wpAnyH_take (i := 18) (v := .slice (some ⟨g, 0, none⟩) bl.length cb) rfl (by kernel_rfl) (by kernel_rfl) (by kernel_rfl) (fun _ _ _ h => h) (Or.inl ⟨by rfl, ?hy18⟩) hHeld ?_
            case hy18 => intro w' _; go_simp
            simp only [List.getElem_toArray, List.getElem_cons_succ, List.getElem_cons_zero, Act.put, List.setIfInBounds_toArray, List.set_cons_zero, List.set_cons_succ]
            refine wpAnyH_take (i := 21) (v := .agg (nums .u8 (sumP bl)).toArray) rfl (by kernel_rfl) (by kernel_rfl) (by kernel_rfl) (fun _ _ _ h => h) (yieldsIf_load_mid (by rfl) 26 (.tmp 8) rfl w3.heap.size 0 rfl (nums .u8 (sumP bl)) _ (fun w' h => h.1) Tryd.underlying26 rfl (by rw [size_out]; simp [nums, sumP_len])) hHeld ?_
            simp only [List.getElem_toArray, List.getElem_cons_succ, List.getElem_cons_zero, Act.put, List.setIfInBounds_toArray, List.set_cons_zero, List.set_cons_succ]
            refine wpAnyH_ready (rs := [19]) (by kernel_rfl) (by simp) ?_
            refine AllReadyH.cons rfl (fun K hK => ?_) AllReadyH.nil
            simp only [List.getElem_toArray, List.getElem_cons_succ, List.getElem_cons_zero]
            rw [if_pos (by rfl)]
            go_simp
            obtain ⟨wT, hwT⟩ : ∃ W, W = wS.alloc (.cells #[.slice none 0 0, .slice (some ⟨g, 0, none⟩) bl.length cb, .slice none 0 0] 24) := ⟨_, rfl⟩
            have hbT : Below wS.heap.size wS wT := by rw [hwT]; exact below_alloc (B0 _) _
            have f19 : wT.heap[wS.heap.size]? = some (.cells ([.slice none 0 0, .slice (some ⟨g, 0, none⟩) bl.length cb, .slice none 0 0] : List Value).toArray 24 (0, 0)) := by rw [hwT]; exact blk_new wS _
            rw [← hwT]
            refine hK.out _ _ (SL.step hHeld hbT) (fun hHeld => ?_)
            clear hK K hwT hbT
            refine wpAnyH_ready (rs := [20]) (by kernel_rfl) (by simp) ?_
            refine AllReadyH.cons rfl (fun K hK => ?_) AllReadyH.nil
            simp only [List.getElem_toArray, List.getElem_cons_succ, List.getElem_cons_zero]
            rw [if_pos (by rfl)]
            go_simp
            have hkb := KB_list (xss := [[], bl, []]) f19 rfl (by simp) (fun i v xs h1 h2 => by
              match i, h1, h2 with
              | 0, h1, h2 =>
                simp at h1 h2
                subst h1 h2
                exact ⟨_, _, rfl, Nat.le_refl _, Kd.C_nil _ _⟩
              | 1, h1, h2 =>
                simp at h1 h2
                subst h1 h2
                exact ⟨_, _, rfl, HCC.out, SL.C hHeld (by have := HAL.out; omega)⟩
              | 2, h1, h2 =>
                simp at h1 h2
                subst h1 h2
                exact ⟨_, _, rfl, Nat.le_refl _, Kd.C_nil _ _⟩
              | q + 3, h1, h2 => simp at h1)
            refine (sum_any wT _ 3 [[], bl, []] hkb (by rw [hcat3]; exact HBY.out) (by rw [hcat3]; have := HAL.out; omega) (show 3 ≤ 4294967296 by decide) (show 3 ≤ 3 by decide) (SL.glob hHeld)).mono ?_
            rintro e wU ⟨rfl, hbU⟩
            rw [hcat3]
            refine hK.out _ _ (SL.step hHeld hbU) (fun hHeld => ?_)
            clear hK K hbU hkb
            refine wpAnyH_take (i := 22) (v := .bool true) rfl (by kernel_rfl) (by kernel_rfl) (by kernel_rfl) (fun _ _ _ h => h) (Or.inl ⟨by rfl, ?hy22⟩) hHeld ?_
            case hy22 => intro w' _; go_simp
            simp only [List.getElem_toArray, List.getElem_cons_succ, List.getElem_cons_zero, Act.put, List.setIfInBounds_toArray, List.set_cons_zero, List.set_cons_succ]
            refine wpAnyH_take (i := 23) (v := .bool true) rfl (by kernel_rfl) (by kernel_rfl) (by kernel_rfl) (fun _ _ _ h => h) (Or.inl ⟨by rfl, ?hy23⟩) hHeld ?_
            case hy23 => intro w' _; go_simp
            simp only [List.getElem_toArray, List.getElem_cons_succ, List.getElem_cons_zero, Act.put, List.setIfInBounds_toArray, List.set_cons_zero, List.set_cons_succ]
            refine wpAnyH_take (i := 24) (v := .bool true) rfl (by kernel_rfl) (by kernel_rfl) (by kernel_rfl) (fun _ _ _ h => h) (Or.inl ⟨by rfl, ?hy24⟩) hHeld ?_
            case hy24 => intro w' _; go_simp
            simp only [List.getElem_toArray, List.getElem_cons_succ, List.getElem_cons_zero, Act.put, List.setIfInBounds_toArray, List.set_cons_zero, List.set_cons_succ]
            refine wpAnyH_done (by kernel_rfl) ?_ _
            have HBF := Aside0.mk (SL.below hHeld)
            clear hHeld heq heq2
            go_wp2
            go_ret
            exact ⟨rfl, HBF.out⟩
        · simp only [List.getElem_toArray, List.getElem_cons_succ, List.getElem_cons_zero]
          rw [if_pos (by rfl)]
          go_simp
          obtain ⟨u1, hu1⟩ : ∃ W, W = w4.alloc (.cells #[.int .u8 c] 5) := ⟨_, rfl⟩
          have hb1 : Below w4.heap.size w4 u1 := by rw [hu1]; exact below_alloc (B0 _) _
          have f12 : IsArr u1 w4.heap.size .u8 5 [c] := by rw [hu1]; exact blk_new w4 _
          rw [← hu1]
          refine hK.out _ _ (SL.step hHeld hb1) (fun hHeld => ?_)
          clear hK K hu1 hb1
          refine wpAnyH_ready (rs := [7]) (by kernel_rfl) (by simp) ?_
          refine AllReadyH.cons rfl (fun K hK => ?_) AllReadyH.nil
          simp only [List.getElem_toArray, List.getElem_cons_succ, List.getElem_cons_zero]
          rw [if_pos (by rfl)]
          go_simp
          obtain ⟨u2, hu2⟩ : ∃ W, W = u1.alloc (.cells #[.int .u8 c] 5) := ⟨_, rfl⟩
          have hb2 : Below u1.heap.size u1 u2 := by rw [hu2]; exact below_alloc (B0 _) _
          have f12 := f12.below hb2 (arr_lt f12)
          have f7 : IsArr u2 u1.heap.size .u8 5 [c] := by rw [hu2]; exact blk_new u1 _
          rw [← hu2]
          refine hK.out _ _ (SL.step hHeld hb2) (fun hHeld => ?_)
          clear hK K hu2 hb2
          refine wpAnyH_ready (rs := [8]) (by kernel_rfl) (by simp) ?_
          refine AllReadyH.cons rfl (fun K hK => ?_) AllReadyH.nil
          simp only [List.getElem_toArray, List.getElem_cons_succ, List.getElem_cons_zero]
          rw [if_pos (by rfl)]
          go_simp
          obtain ⟨u3, hu3⟩ : ∃ W, W = u2.alloc (.cells #[.slice (some ⟨g, 0, none⟩) bl.length cb, .slice (some ⟨u1.heap.size, 0, none⟩) 1 1] 24) := ⟨_, rfl⟩
          have hb3 : Below u2.heap.size u2 u3 := by rw [hu3]; exact below_alloc (B0 _) _
          have f12 := f12.below hb3 (arr_lt f12)
          have f7 := f7.below hb3 (arr_lt f7)
          have f8 : u3.heap[u2.heap.size]? = some (.cells [.slice (some ⟨g, 0, none⟩) bl.length cb, .slice (some ⟨u1.heap.size, 0, none⟩) 1 1].toArray 24 (0, 0)) := by rw [hu3]; exact blk_new u2 _
          rw [← hu3]
          refine hK.out _ _ (SL.step hHeld hb3) (fun hHeld => ?_)
          clear hK K hu3 hb3
          refine wpAnyH_ready (rs := [9]) (by kernel_rfl) (by simp) ?_
          refine AllReadyH.cons rfl (fun K hK => ?_) AllReadyH.nil
          simp only [List.getElem_toArray, List.getElem_cons_succ, List.getElem_cons_zero]
          rw [if_pos (by rfl)]
          go_simp
          have hkb := KB_list (xss := [bl, [c]]) f8 rfl (by simp) (fun i v xs h1 h2 => by
            match i, h1, h2 with
            | 0, h1, h2 =>
              simp at h1 h2
              subst h1 h2
              exact ⟨_, _, rfl, HCC.out, SL.C hHeld (by have := HAL.out; omega)⟩
            | 1, h1, h2 =>
              simp at h1 h2
              subst h1 h2
              exact ⟨_, _, rfl, Nat.le_refl _, bytes_C f7 (by simp)⟩
            | q + 2, h1, h2 => simp at h1)
          refine (sum_any u3 _ 2 [bl, [c]] hkb (by rw [hcat2]; exact HAB.out) (by rw [hcat2]; exact HAC.out) (show 2 ≤ 4294967296 by decide) (show 2 ≤ 2 by decide) (SL.glob hHeld)).mono ?_
          rintro e u4 ⟨rfl, hb4⟩
          rw [hcat2]
          have f12 := f12.below hb4 (arr_lt f12)
          have f7 := f7.below hb4 (arr_lt f7)
          have f8 := (hb4.block _ (blk_lt f8)).trans f8
          refine hK.out _ _ (SL.step hHeld hb4) (fun hHeld => ?_)
          clear hK K hb4 hkb
          refine wpAnyH_ready (rs := [13]) (by kernel_rfl) (by simp) ?_
          refine AllReadyH.cons rfl (fun K hK => ?_) AllReadyH.nil
          simp only [List.getElem_toArray, List.getElem_cons_succ, List.getElem_cons_zero]
          rw [if_pos (by rfl)]
          obtain ⟨v40, wR, hrun, hown, hgr⟩ := grow_run (P := Tryd.prog) u4 24 24 5 Tryd.underlying24 (show Tryd.prog.info? 5 = some _ from rfl) rfl rfl rfl (SL.C hHeld (by have := HAL.out; omega)) f12 (show cb < bl.length + 1 by omega) HAL.out.1 HAL.out.2
          refine wp_append_run (.tmp 37) (.tmp 39) 24 rfl rfl rfl hrun ?_
          simp only [Act.put, List.setIfInBounds_toArray, List.set_cons_zero, List.set_cons_succ]
          have hbw : Below u4.heap.size u4 wR := ⟨hgr.os, hgr.tape, hgr.output, hgr.size, fun k hk => hgr.block k hk (by simp)⟩
          have hbv : Bs wR v40 (bl ++ [c]) := Bs.of_R (Kd.R_of_own (h1 := fun _ => rfl) (ok := fun _ => True) hown (fun _ _ => trivial))
          refine hK.out _ _ (SL.step hHeld hbw) (fun hHeld => ?_)
          clear hK K hrun hown hgr hbw
          refine wpAnyH_ready (rs := [14]) (by kernel_rfl) (by simp) ?_
          refine AllReadyH.cons rfl (fun K hK => ?_) AllReadyH.nil
          simp only [List.getElem_toArray, List.getElem_cons_succ, List.getElem_cons_zero]
          rw [if_pos (by rfl)]
          go_simp
          refine (refsum_any wR _ (bl ++ [c]) hbv HAB.out HAC.out).mono ?_
          rintro e wS ⟨rfl, hbS⟩
          refine hK.out _ _ (SL.step hHeld hbS) (fun hHeld => ?_)
          clear hK K hbS hbv
          refine wpAnyH_take (i := 15) (v := .bool true) rfl (by kernel_rfl) (by kernel_rfl) (by kernel_rfl) (fun _ _ _ h => h) (Or.inl ⟨by rfl, ?hy15⟩) hHeld ?_
          case hy15 => intro w' _; go_simp
          simp only [List.getElem_toArray, List.getElem_cons_succ, List.getElem_cons_zero, Act.put, List.setIfInBounds_toArray, List.set_cons_zero, List.set_cons_succ]
          refine wpAnyH_take (i := 16) (v := .bool true) rfl (by kernel_rfl) (by kernel_rfl) (by kernel_rfl) (fun _ _ _ h => h) (Or.inl ⟨by rfl, ?hy16⟩) hHeld ?_
          case hy16 => intro w' _; go_simp
          simp only [List.getElem_toArray, List.getElem_cons_succ, List.getElem_cons_zero, Act.put, List.setIfInBounds_toArray, List.set_cons_zero, List.set_cons_succ]
          refine wpAnyH_take (i := 17) (v := .bool true) rfl (by kernel_rfl) (by kernel_rfl) (by kernel_rfl) (fun _ _ _ h => h) (Or.inl ⟨by rfl, ?hy17⟩) hHeld ?_
          case hy17 => intro w' _; go_simp
          simp only [List.getElem_toArray, List.getElem_cons_succ, List.getElem_cons_zero, Act.put, List.setIfInBounds_toArray, List.set_cons_zero, List.set_cons_succ]
          refine wpAnyH_take (i := 18) (v := .slice (some ⟨g, 0, none⟩) bl.length cb) rfl (by kernel_rfl) (by kernel_rfl) (by kernel_rfl) (fun _ _ _ h => h) (Or.inl ⟨by rfl, ?hy18⟩) hHeld ?_
          case hy18 => intro w' _; go_simp
          simp only [List.getElem_toArray, List.getElem_cons_succ, List.getElem_cons_zero, Act.put, List.setIfInBounds_toArray, List.set_cons_zero, List.set_cons_succ]
          refine wpAnyH_take (i := 21) (v := .agg (nums .u8 (sumP bl)).toArray) rfl (by kernel_rfl) (by kernel_rfl) (by kernel_rfl) (fun _ _ _ h => h) (yieldsIf_load_mid (by rfl) 26 (.tmp 8) rfl w3.heap.size 0 rfl (nums .u8 (sumP bl)) _ (fun w' h => h.1) Tryd.underlying26 rfl (by rw [size_out]; simp [nums, sumP_len])) hHeld ?_
          simp only [List.getElem_toArray, List.getElem_cons_succ, List.getElem_cons_zero, Act.put, List.setIfInBounds_toArray, List.set_cons_zero, List.set_cons_succ]
          refine wpAnyH_ready (rs := [19]) (by kernel_rfl) (by simp) ?_
          refine AllReadyH.cons rfl (fun K hK => ?_) AllReadyH.nil
          simp only [List.getElem_toArray, List.getElem_cons_succ, List.getElem_cons_zero]
          rw [if_pos (by rfl)]
          go_simp
          obtain ⟨wT, hwT⟩ : ∃ W, W = wS.alloc (.cells #[.slice none 0 0, .slice (some ⟨g, 0, none⟩) bl.length cb, .slice none 0 0] 24) := ⟨_, rfl⟩
          have hbT : Below wS.heap.size wS wT := by rw [hwT]; exact below_alloc (B0 _) _
          have f19 : wT.heap[wS.heap.size]? = some (.cells ([.slice none 0 0, .slice (some ⟨g, 0, none⟩) bl.length cb, .slice none 0 0] : List Value).toArray 24 (0, 0)) := by rw [hwT]; exact blk_new wS _
          rw [← hwT]
          refine hK.out _ _ (SL.step hHeld hbT) (fun hHeld => ?_)
          clear hK K hwT hbT
          refine wpAnyH_ready (rs := [20]) (by kernel_rfl) (by simp) ?_
          refine AllReadyH.cons rfl (fun K hK => ?_) AllReadyH.nil
          simp only [List.getElem_toArray, List.getElem_cons_succ, List.getElem_cons_zero]
          rw [if_pos (by rfl)]
          go_simp
          have hkb := KB_list (xss := [[], bl, []]) f19 rfl (by simp) (fun i v xs h1 h2 => by
            match i, h1, h2 with
            | 0, h1, h2 =>
              simp at h1 h2
              subst h1 h2
              exact ⟨_, _, rfl, Nat.le_refl _, Kd.C_nil _ _⟩
            | 1, h1, h2 =>
              simp at h1 h2
              subst h1 h2
              exact ⟨_, _, rfl, HCC.out, SL.C hHeld (by have := HAL.out; omega)⟩
            | 2, h1, h2 =>
              simp at h1 h2
              subst h1 h2
              exact ⟨_, _, rfl, Nat.le_refl _, Kd.C_nil _ _⟩
            | q + 3, h1, h2 => simp at h1)
          refine (sum_any wT _ 3 [[], bl, []] hkb (by rw [hcat3]; exact HBY.out) (by rw [hcat3]; have := HAL.out; omega) (show 3 ≤ 4294967296 by decide) (show 3 ≤ 3 by decide) (SL.glob hHeld)).mono ?_
          rintro e wU ⟨rfl, hbU⟩
          rw [hcat3]
          refine hK.out _ _ (SL.step hHeld hbU) (fun hHeld => ?_)
          clear hK K hbU hkb
          refine wpAnyH_take (i := 22) (v := .bool true) rfl (by kernel_rfl) (by kernel_rfl) (by kernel_rfl) (fun _ _ _ h => h) (Or.inl ⟨by rfl, ?hy22⟩) hHeld ?_
          case hy22 => intro w' _; go_simp
          simp only [List.getElem_toArray, List.getElem_cons_succ, List.getElem_cons_zero, Act.put, List.setIfInBounds_toArray, List.set_cons_zero, List.set_cons_succ]
          refine wpAnyH_take (i := 23) (v := .bool true) rfl (by kernel_rfl) (by kernel_rfl) (by kernel_rfl) (fun _ _ _ h => h) (Or.inl ⟨by rfl, ?hy23⟩) hHeld ?_
          case hy23 => intro w' _; go_simp
          simp only [List.getElem_toArray, List.getElem_cons_succ, List.getElem_cons_zero, Act.put, List.setIfInBounds_toArray, List.set_cons_zero, List.set_cons_succ]
          refine wpAnyH_take (i := 24) (v := .bool true) rfl (by kernel_rfl) (by kernel_rfl) (by kernel_rfl) (fun _ _ _ h => h) (Or.inl ⟨by rfl, ?hy24⟩) hHeld ?_
          case hy24 => intro w' _; go_simp
          simp only [List.getElem_toArray, List.getElem_cons_succ, List.getElem_cons_zero, Act.put, List.setIfInBounds_toArray, List.set_cons_zero, List.set_cons_succ]
          refine wpAnyH_done (by kernel_rfl) ?_ _
          have HBF := Aside0.mk (SL.below hHeld)
          clear hHeld heq heq2
          go_wp2
          go_ret
          exact ⟨rfl, HBF.out⟩
--END10

theorem row_limits (n c : Int) (W : World) (w0 : (Lit.int .u8 n).wf = true) (w1 : (Lit.int .u8 c).wf = true) (hG : Glob W) : Calls Tryd.prog 7 #[.int .u8 n, .int .u8 c] W fun e w' => e = .returned (.bool true) ∧ Below W.heap.size W w' :=
  walk_limits n c W (wf_u8 w0).1 (wf_u8 w0).2 (wf_u8 w1).1 (wf_u8 w1).2 hG

end Go.Proofs.YtndadfhmdkkokaaDoor.HShaL5
