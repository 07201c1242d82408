/- The law ShaBlocks. -/
import Derived.Test.YtndadfhmdkkokaaDoorHShaX
import Derived.Test.YtndadfhmdkkokaaDoorHEqA
import Derived.Test.YtndadfhmdkkokaaDoorPShaBlocksx1
namespace Go.Proofs.YtndadfhmdkkokaaDoor.HShaL3
open Go.RowKit Go.Proofs.YtndadfhmdkkokaaDoorW.PrintWords Go.Proofs.YtndadfhmdkkokaaDoor.HLib Go.Proofs.YtndadfhmdkkokaaDoor.HSha Go.Proofs.YtndadfhmdkkokaaDoor.HShaR Go.Proofs.YtndadfhmdkkokaaDoor.HShaS Go.Proofs.YtndadfhmdkkokaaDoor.HShaP Go.Proofs.YtndadfhmdkkokaaDoor.HShaU Go.Proofs.YtndadfhmdkkokaaDoor.HShaV Go.Proofs.YtndadfhmdkkokaaDoor.HShaW Go.Proofs.YtndadfhmdkkokaaDoor.HShaA Go.Proofs.YtndadfhmdkkokaaDoor.HShaX Go.Proofs.YtndadfhmdkkokaaDoor.PShaBlocks
set_option linter.unusedVariables false
set_option linter.unusedSimpArgs false

theorem spread_step : ∀ (d i : Nat) (out : List Int) (x : Int), i + d = 64 → out.length = i → (∀ y ∈ out, 0 ≤ y ∧ y < 256) → ∃ r, vestryref01_Spread.l0 (d + 1) 64 out x i = some r ∧ r.length = 64 ∧ ∀ y ∈ r, 0 ≤ y ∧ y < 256 := by
  intro d
  induction d with
  | zero =>
    intro i out x hi hl hb
    refine ⟨out, ?_, by omega, hb⟩
    rw [vestryref01_Spread.l0, if_neg (by omega)]
  | succ d ih =>
    intro i out x hi hl hb
    have e : wrap64 ((i : Int) + 1) = ((i + 1 : Nat) : Int) := by rw [IntWalk.wrap64_in _ (by omega)]; omega
    obtain ⟨r, h1, h2, h3⟩ := ih (i + 1) (out ++ [((IntKind.u64.wrap ((IntKind.u64.wrap (x * 6364136223846793005)) + 1442695040888963407)) / 8589934592) % 256]) (IntKind.u64.wrap ((IntKind.u64.wrap (x * 6364136223846793005)) + 1442695040888963407)) (by omega) (by rw [List.length_append, hl]; rfl) (by
      intro y hy
      rcases List.mem_append.1 hy with h | h
      · exact hb y h
      · rw [List.mem_singleton.1 h]; omega)
    refine ⟨r, ?_, h2, h3⟩
    rw [vestryref01_Spread.l0, if_pos (by omega), if_pos (by omega), e]
    exact h1
theorem spread_any (x : Int) (w : World) : Calls Tryd.prog 12 #[.int .u64 x, .int .i64 64] w fun e w' => ∃ v r, e = .returned v ∧ Kd.R (Kd.int .u8) 5 w' w.heap.size (fun _ => True) v r ∧ Below w.heap.size w w' ∧ r.length = 64 ∧ ∀ y ∈ r, 0 ≤ y ∧ y < 256 := by
  obtain ⟨r, h1, h2, h3⟩ := spread_step 64 0 [] x rfl rfl (fun y hy => by cases hy)
  refine (vestryref01_Spread.calls 65 x 64 r w h1).mono ?_
  rintro e w' ⟨v, he, hR, hb⟩
  exact ⟨v, r, he, hR, hb, h2, h3⟩
theorem range_C {w : World} {g : Nat} {xs : List Int} {n : Nat} (h : (Kd.int .u8).C w (some ⟨g, 0, none⟩) n xs) (hn : xs.length = n) : w.rangeAt g 0 (nums .u8 xs) := fun j v hj => by
  have hjl : j < xs.length := by
    have := (List.getElem?_eq_some_iff.1 hj).1
    simpa [nums] using this
  obtain ⟨ad, e1, hx⟩ := Kd.at_int h (j : Int) (by omega) (by omega)
  injection e1 with e1
  subst e1
  have ha : (⟨g, 0, none⟩ : Addr).add j = ⟨g, j, none⟩ := by unfold Addr.add; split <;> simp_all
  rw [show ((j : Int)).toNat = j from by omega, ha] at hx
  rw [Nat.zero_add, hx]
  have hv : Value.int .u8 (rd xs (j : Int)) = v := by
    simpa [nums, rd, List.getElem?_eq_getElem hjl, List.getD_eq_getElem?_getD] using hj
  rw [hv]

/-- What the last statement's calls leave as it was. -/
def SB (w : World) (gs gb : Nat) (st bl : List Int) (w' : World) : Prop :=
  w'.rangeAt gs 0 (nums .u32 st) ∧ w'.rangeAt gb 0 (nums .u8 bl) ∧ gs < w'.heap.size ∧ gb < w'.heap.size ∧ Glob w' ∧ Below w.heap.size w w'
theorem SB.step {w : World} {gs gb : Nat} {st bl : List Int} {w1 w2 : World} (h : SB w gs gb st bl w1) (hb : Below w1.heap.size w1 w2) : SB w gs gb st bl w2 := by
  obtain ⟨h0, h1, h2, h3, h10, h11⟩ := h
  exact ⟨fun j v hj => (hb.cell (p := ⟨gs, 0 + j, none⟩) h2).trans (h0 j v hj), fun j v hj => (hb.cell (p := ⟨gb, 0 + j, none⟩) h3).trans (h1 j v hj), Nat.lt_of_lt_of_le h2 hb.size, Nat.lt_of_lt_of_le h3 hb.size, h10.below hb, below_step h11 hb⟩
theorem range_arr {w : World} {g : Nat} {k : IntKind} {t : TypeId} {xs : List Int} (h : IsArr w g k t xs) : w.rangeAt g 0 (nums k xs) := fun j v hj => by
  refine (blk_cell h (0 + j)).trans ?_
  rw [Nat.zero_add]
  simpa using hj

set_option maxRecDepth 100000 in
set_option maxHeartbeats 8000000 in
theorem walk_blocks (x : Int) (st : List Int) (hst : st.length = 8) (w : World) (hG : Glob w) : Calls Tryd.prog 4 #[.int .u64 x, .agg (nums .u32 st).toArray] w fun e w' => e = .returned (.bool true) ∧ Below w.heap.size w w' := by
  have HG := Aside0.mk hG
  have HST8 := Aside0.mk hst
  clear hG hst
  go_enter Tryd.func4, Tryd.ntmps4
  go_wp2_with fail
  have HA0 := Aside0.mk (show IsArr (w.alloc (.cells (nums .u32 st).toArray 32)) w.heap.size .u32 32 st from blk_new w _)
  have hb0 := below_alloc (B0 w) (.cells (nums .u32 st).toArray 32)
  obtain ⟨w0, hw0⟩ : ∃ W, W = w.alloc (.cells (nums .u32 st).toArray 32) := ⟨_, rfl⟩
  rw [← hw0] at HA0 hb0
  change Calls Tryd.prog 8 _ (w.alloc (.cells (nums .u32 st).toArray 32)) _
  rw [← hw0]
  clear hw0
  have HB0 := Aside0.mk hb0
  clear hb0
  refine (awake_any w0 (glob_below HG.out HG.out.1 HB0.out)).mono ?_
  rintro e w1 ⟨rfl, hb1⟩
  have HA1 := Aside0.mk (HA0.out.below hb1 (arr_lt HA0.out))
  have HB1 := Aside0.mk (below_step HB0.out hb1)
  clear hb1
  go_wp2_with fail
  refine (spread_any x w1).mono ?_
  rintro e w2 ⟨v, bl, rfl, hR, hb2, hbl, hbb⟩
  have HA2 := Aside0.mk (HA1.out.below hb2 (arr_lt HA1.out))
  have HB2 := Aside0.mk (below_step HB1.out hb2)
  obtain ⟨inner, hown⟩ := Kd.R_own hR
  obtain ⟨g, c, rfl⟩ := Joins.ownsRow_form hown (by omega)
  obtain ⟨A', c', e', hc', hC'⟩ := Kd.R_reads hR
  injection e' with e1 _ e3
  subst e3
  rw [← e1] at hC'
  have hrg := range_C hC' rfl
  rw [hbl] at hc' ⊢
  have hsp := run_at64 (P := Tryd.prog) Tryd.underlying33 ⟨g, 0, none⟩ c
  have HLB := Aside0.mk (run_loadAt_mid (P := Tryd.prog) w2 g 0 33 (nums .u8 bl) _ hrg Tryd.underlying33 rfl (by rw [size_bl]; simp [nums, hbl]))
  have HBL := Aside0.mk (And.intro hbl hbb)
  have HSB := Aside0.mk (run_storeAt_new (P := Tryd.prog) w2 33 (nums .u8 (List.replicate 64 0)).toArray (nums .u8 bl).toArray (by rw [size_bl]; simp [nums, hbl]) (by simp [nums, hbl]) (by simp [nums, Value.oneCell']))
  clear hR hb2 hown hC' hrg hc' e1 hbl hbb inner
  go_wp2_with (first | (refine load_ev (t := 33) (p := .tmp 10) rfl rfl HLB.out ?_) | (refine store_event rfl (t := 33) (p := 5) (v := .tmp 11) rfl rfl (w1 := w2.alloc (.cells (nums .u8 bl).toArray 33)) ?hr ?_; (case hr => exact run_store_of rfl HSB.out); intro w5 hw5; subst hw5))
  have hS : SB w w.heap.size w2.heap.size st bl (w2.alloc (.cells (nums .u8 bl).toArray 33)).drew := by
    have h := blk_alloc HA2.out (.cells (nums .u8 bl).toArray 33)
    have h' : IsArr (w2.alloc (.cells (nums .u8 bl).toArray 33)) w.heap.size .u32 32 st := h
    have h2 : IsArr (w2.alloc (.cells (nums .u8 bl).toArray 33)) w2.heap.size .u8 33 bl := blk_new w2 _
    have hb : Below w.heap.size w (w2.alloc (.cells (nums .u8 bl).toArray 33)) := below_alloc HB2.out _
    exact SB.step ⟨range_arr h', range_arr h2, arr_lt h', arr_lt h2, glob_below HG.out HG.out.1 hb, hb⟩ (below_drew1 (B0 _))
  have heq := HEqA.eq_arr (P := Tryd.prog) Tryd.underlying32 Tryd.underlying31 (show Tryd.prog.info? 31 = some _ from rfl) (by kernel_rfl) (blockP st bl) (blockP_len st bl HST8.out)
  refine wp_region_held_drew (S := SB w w.heap.size w2.heap.size st bl) (by kernel_rfl) hS (fun hHeld => ?_)
  clear hS
  refine wpAnyH_take (i := 0) (v := .agg (nums .u32 st).toArray) rfl (by kernel_rfl) (by kernel_rfl) (by kernel_rfl) (fun _ _ _ h => h) (yieldsIf_load_mid (by rfl) 32 (.tmp 3) rfl w.heap.size 0 rfl (nums .u32 st) _ (fun w' h => h.1) Tryd.underlying32 rfl (by rw [size_st]; simp [nums, HST8.out])) hHeld ?_
  simp only [List.getElem_toArray, List.getElem_cons_succ, List.getElem_cons_zero, Act.put, List.setIfInBounds_toArray, List.set_cons_zero, List.set_cons_succ]
  refine wpAnyH_take (i := 1) (v := .agg (nums .u8 bl).toArray) rfl (by kernel_rfl) (by kernel_rfl) (by kernel_rfl) (fun _ _ _ h => h) (yieldsIf_load_mid (by rfl) 33 (.tmp 5) rfl w2.heap.size 0 rfl (nums .u8 bl) _ (fun w' h => h.2.1) Tryd.underlying33 rfl (by rw [size_bl]; simp [nums, HBL.out.1])) hHeld ?_
  simp only [List.getElem_toArray, List.getElem_cons_succ, List.getElem_cons_zero, Act.put, List.setIfInBounds_toArray, List.set_cons_zero, List.set_cons_succ]
  refine wpAnyH_take (i := 3) (v := .agg (nums .u32 st).toArray) rfl (by kernel_rfl) (by kernel_rfl) (by kernel_rfl) (fun _ _ _ h => h) (yieldsIf_load_mid (by rfl) 32 (.tmp 3) rfl w.heap.size 0 rfl (nums .u32 st) _ (fun w' h => h.1) Tryd.underlying32 rfl (by rw [size_st]; simp [nums, HST8.out])) hHeld ?_
  simp only [List.getElem_toArray, List.getElem_cons_succ, List.getElem_cons_zero, Act.put, List.setIfInBounds_toArray, List.set_cons_zero, List.set_cons_succ]
  refine wpAnyH_take (i := 4) (v := .agg (nums .u8 bl).toArray) rfl (by kernel_rfl) (by kernel_rfl) (by kernel_rfl) (fun _ _ _ h => h) (yieldsIf_load_mid (by rfl) 33 (.tmp 5) rfl w2.heap.size 0 rfl (nums .u8 bl) _ (fun w' h => h.2.1) Tryd.underlying33 rfl (by rw [size_bl]; simp [nums, HBL.out.1])) hHeld ?_
  simp only [List.getElem_toArray, List.getElem_cons_succ, List.getElem_cons_zero, Act.put, List.setIfInBounds_toArray, List.set_cons_zero, List.set_cons_succ]
  refine wpAnyH_ready (rs := [2]) (by kernel_rfl) (by simp) ?_
  refine AllReadyH.cons rfl (fun K hK => ?_) AllReadyH.nil
  simp only [List.getElem_toArray, List.getElem_cons_succ, List.getElem_cons_zero]
  rw [if_pos (by rfl)]
  go_simp
  refine (block_any _ st bl HST8.out HBL.out.1 HBL.out.2 hHeld.2.2.2.2.1).mono ?_
  rintro e w5 ⟨rfl, hbb⟩
  refine hK.out _ _ (SB.step hHeld hbb) (fun hHeld => ?_)
  clear hK K hbb
  refine wpAnyH_ready (rs := [5]) (by kernel_rfl) (by simp) ?_
  refine AllReadyH.cons rfl (fun K hK => ?_) AllReadyH.nil
  simp only [List.getElem_toArray, List.getElem_cons_succ, List.getElem_cons_zero]
  rw [if_pos (by rfl)]
  go_simp
  refine (table_any _).mono ?_
  rintro e w6 ⟨rfl, hbb⟩
  refine hK.out _ _ (SB.step hHeld hbb) (fun hHeld => ?_)
  clear hK K hbb
  refine wpAnyH_ready (rs := [6]) (by kernel_rfl) (by simp) ?_
  refine AllReadyH.cons rfl (fun K hK => ?_) AllReadyH.nil
  simp only [List.getElem_toArray, List.getElem_cons_succ, List.getElem_cons_zero]
  rw [if_pos (by rfl)]
  go_simp
  refine (refblock_any _ st bl HST8.out HBL.out.1 HBL.out.2).mono ?_
  rintro e w7 ⟨rfl, hbb⟩
  refine hK.out _ _ (SB.step hHeld hbb) (fun hHeld => ?_)
  clear hK K hbb
  refine wpAnyH_take (i := 7) (v := .bool true) rfl (by kernel_rfl) (by kernel_rfl) (by kernel_rfl) (fun _ _ _ h => h) (Or.inl ⟨by rfl, ?hy7⟩) hHeld ?_
  case hy7 => intro w' _; go_simp
  simp only [List.getElem_toArray, List.getElem_cons_succ, List.getElem_cons_zero, Act.put, List.setIfInBounds_toArray, List.set_cons_zero, List.set_cons_succ]
  refine wpAnyH_take (i := 8) (v := .bool true) rfl (by kernel_rfl) (by kernel_rfl) (by kernel_rfl) (fun _ _ _ h => h) (Or.inl ⟨by rfl, ?hy8⟩) hHeld ?_
  case hy8 => intro w' _; go_simp
  simp only [List.getElem_toArray, List.getElem_cons_succ, List.getElem_cons_zero, Act.put, List.setIfInBounds_toArray, List.set_cons_zero, List.set_cons_succ]
  refine wpAnyH_done (by kernel_rfl) ?_ _
  have HBF := Aside0.mk hHeld.2.2.2.2.2
  clear hHeld heq
  go_wp2
  go_ret
  exact ⟨rfl, HBF.out⟩

theorem row_blocks (x : Int) (st : List Int) (W : World) (w0 : (Lit.int .u64 x).wf = true) (l1 : st.length = 8) (w1 : ∀ z ∈ st, (Lit.int .u32 z).wf = true) (hG : Glob W) :
    Calls Tryd.prog 4 #[.int .u64 x, .agg (nums .u32 st).toArray] W fun e w' => e = .returned (.bool true) ∧ Below W.heap.size W w' := walk_blocks x st l1 W hG

end Go.Proofs.YtndadfhmdkkokaaDoor.HShaL3
