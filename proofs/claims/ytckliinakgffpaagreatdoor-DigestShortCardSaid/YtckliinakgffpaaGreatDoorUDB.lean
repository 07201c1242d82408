/- What is written of the empty schema; none of one without a name. -/
import Derived.Test.YtckliinakgffpaaGreatDoorUDA
namespace Go.Proofs.YtckliinakgffpaaGreatDoor.HDg4
open Go.RowKit Go.Shelf Go.Proofs.YtckliinakgffpaaGreatDoorW.PrintWords Go.Proofs.YtckliinakgffpaaGreatDoor.HLib Go.Proofs.YtckliinakgffpaaGreatDoor.HGr Go.Proofs.YtckliinakgffpaaGreatDoor.HNameP Go.Proofs.YtckliinakgffpaaGreatDoor.HName Go.Proofs.YtckliinakgffpaaGreatDoor.HPr Go.Proofs.YtckliinakgffpaaGreatDoor.HDg1 Go.Proofs.YtckliinakgffpaaGreatDoor.HDg2 Go.Proofs.YtckliinakgffpaaGreatDoor.HDg3
open Go.Proofs.YtckliinakgffpaaGreatDoor.PDigestShort
set_option linter.unusedVariables false
set_option linter.unusedSimpArgs false
theorem load_s {W : World} {g : Nat} {A : Option Addr} {n m : Nat} (k : W.heap[g]? = some (.cells #[.slice A n m] 32 (0, 0))) :
    (Instr.loadAt 32 (.pointer (some ⟨g, 0, none⟩))).run Tryz.prog W = .ok (.agg #[.slice A n m]) W := by
  have c0 := (blk_cell k 0).trans rfl
  dsimp at c0
  go_simp
theorem size_ar : (Tryz.prog.info? 22).map (·.size) = some 32 := by kernel_rfl
theorem results_c2 {fn : Func} {p q : Tmp} (h : fn.results = #[.cell p 22, .tmp q]) (tmps : Array Value) (w : World) (g : Nat) (cs : Array Value)
    (hp : tmps.getD p undef = .pointer (some ⟨g, 0, none⟩)) (hg : w.heap[g]? = some (.cells cs 22 (0, 0))) (hs : cs.size = 32) :
    (results fn tmps).run Tryz.prog w = .ok (.tuple #[.agg cs, tmps.getD q undef]) w := by
  have hp' : tmps[p]?.getD undef = .pointer (some ⟨g, 0, none⟩) := by simpa using hp
  simp [results, h, hp', asAddr, run_loadVar_row w g 22 22 cs (0, 0) _ hg Tryz.underlying22 rfl (by rw [size_ar, hs])]
theorem ar_cells {w : World} {g : Nat} {c0 c1 : Array Value} (h : w.heap[g]? = some (.cells c0 22 (0, 0))) (h0 : c0.size = 32) (h1 : c1.size = 32) (h2 : c1.all (·.oneCell') = true) :
    (storeCells ⟨g, 0, none⟩ c1.toList).run Tryz.prog w = .ok () (w.setRow g c1) := by
  have := run_storeCells_from (P := Tryz.prog) g 22 c1.toList 0 c0 w h (by simp; omega) (fun v hv => (Array.all_eq_true_iff_forall_mem.1 h2) v (by simpa using hv))
  simpa using this
theorem below_row {B : Nat} {w0 w : World} (h : Below B w0 w) {g : Nat} (hg : B ≤ g) (cs : Array Value) : Below B w0 (w.setRow g cs) :=
  ⟨h.os, h.tape, h.output, by rw [setRow_size]; exact h.size, fun k hk => (setRow_other w g k cs (by omega)).trans (h.block k hk)⟩
set_option maxRecDepth 100000 in
set_option maxHeartbeats 8000000 in
theorem of_b (w : World) : Calls Tryz.prog 12 #[.agg #[.func (.func 11) #[] #[]], .agg #[.slice none 0 0]] w fun e w' => (∃ v, e = .returned (.tuple #[v, .bool true]) ∧ Bs w' v [0]) ∧ Below w.heap.size w w' := by
  obtain ⟨W, hW, hb, hsz, k0, k1⟩ := two_cells w (.func (.func 11) #[] #[]) 40 (.slice none 0 0) 32
  obtain ⟨g, hg⟩ : ∃ g, g = w.heap.size := ⟨_, rfl⟩
  rw [← hg] at k0 k1
  have HR := Aside0.mk right_nil
  have HC := Aside0.mk canon_nil
  have HP := Aside0.mk put_nil
  have HK := Aside0.mk (And.intro k0 k1)
  have HB := Aside0.mk hb
  have c1 := (blk_cell k1 0).trans rfl
  dsimp at c1
  clear k0 k1 hb hsz
  go_enter Tryz.func12, Tryz.ntmps12
  go_upto_region 1 with fail
  rw [← hW, ← hg]
  clear hW hg
  go_upto_region 4 with (go_at_call 16; refine (HR.out _).mono ?_; rintro e W1 ⟨rfl, h1⟩; have HB1 := Aside0.mk h1; clear h1 c1)
  have k0 := blk_below HK.out.1 HB1.out
  have k1 := blk_below HK.out.2 HB1.out
  have HLS := Aside0.mk (show ∀ W', Below W1.heap.size W1 W' → (Instr.loadAt 32 (.pointer (some ⟨g + 1, 0, none⟩))).run Tryz.prog W' = .ok (.agg #[.slice none 0 0]) W' from fun W' h => load_s (blk_below k1 h))
  have HLF := Aside0.mk (show ∀ W', Below W1.heap.size W1 W' → (Instr.loadAt 29 (.pointer (some ⟨g, 0, none⟩))).run Tryz.prog W' = .ok (.func (.func 11) #[] #[]) W' from fun W' h => by
    have c0 := (blk_cell (blk_below k0 h) 0).trans rfl
    dsimp at c0
    go_simp)
  clear k0 k1
  refine wp_region_held_drew (S := fun w' => Below W1.heap.size W1 w') (by kernel_rfl) (pw_below_drewN (B0 W1) 1) (fun hHeld => ?_)
  refine wpAnyH_take (i := 0) (v := (.pointer (some ⟨g, 0, none⟩))) rfl (by kernel_rfl) (by kernel_rfl) (by kernel_rfl) (fun _ _ _ h => h) (Or.inl ⟨by rfl, ?hy0⟩) hHeld ?_
  case hy0 => intro w' hSw; go_simp
  simp only [List.getElem_toArray, List.getElem_cons_succ, List.getElem_cons_zero, Act.put, List.setIfInBounds_toArray, List.set_cons_zero, List.set_cons_succ]
  refine wpAnyH_take (i := 1) (v := (.func (.func 11) #[] #[])) rfl (by kernel_rfl) (by kernel_rfl) (by kernel_rfl) (fun _ _ _ h => h) (yieldsIf_load (by rfl) 29 (.tmp 11) rfl (.func (.func 11) #[] #[]) (fun w' h => HLF.out w' h)) hHeld ?_
  simp only [List.getElem_toArray, List.getElem_cons_succ, List.getElem_cons_zero, Act.put, List.setIfInBounds_toArray, List.set_cons_zero, List.set_cons_succ]
  refine wpAnyH_take (i := 2) (v := (.agg #[.slice none 0 0])) rfl (by kernel_rfl) (by kernel_rfl) (by kernel_rfl) (fun _ _ _ h => h) (yieldsIf_load (by rfl) 32 (.tmp 3) rfl (.agg #[.slice none 0 0]) (fun w' h => HLS.out w' h)) hHeld ?_
  simp only [List.getElem_toArray, List.getElem_cons_succ, List.getElem_cons_zero, Act.put, List.setIfInBounds_toArray, List.set_cons_zero, List.set_cons_succ]
  refine wpAnyH_ready (rs := [3]) (by kernel_rfl) (by simp) ?_
  refine AllReadyH.cons rfl (fun K hK => ?_) AllReadyH.nil
  simp only [List.getElem_toArray, List.getElem_cons_succ, List.getElem_cons_zero]
  rw [if_pos (by rfl)]
  go_simp
  refine (HC.out _).mono ?_
  rintro e_ y1 ⟨rfl, hb⟩
  refine hK.out _ _ (below_step hHeld hb) (fun hHeld => ?_)
  clear hK K
  refine wpAnyH_ready (rs := [4]) (by kernel_rfl) (by simp) ?_
  refine AllReadyH.cons rfl (fun K hK => ?_) AllReadyH.nil
  simp only [List.getElem_toArray, List.getElem_cons_succ, List.getElem_cons_zero]
  rw [if_pos (by rfl)]
  go_simp
  refine (HP.out _).mono ?_
  rintro e_ y2 ⟨⟨v, rfl, hv⟩, hb⟩
  have HV := Aside0.mk hv
  clear hv
  refine hK.out _ _ (below_step hHeld hb) (fun hHeld => ?_)
  clear hK K
  refine wpAnyH_take (i := 5) (v := v) rfl (by kernel_rfl) (by kernel_rfl) (by kernel_rfl) (fun _ _ _ h => h) (Or.inl ⟨by rfl, ?hy5⟩) hHeld ?_
  case hy5 => intro w' hSw; go_simp
  simp only [List.getElem_toArray, List.getElem_cons_succ, List.getElem_cons_zero, Act.put, List.setIfInBounds_toArray, List.set_cons_zero, List.set_cons_succ]
  refine wpAnyH_take (i := 6) (v := .bool true) rfl (by kernel_rfl) (by kernel_rfl) (by kernel_rfl) (fun _ _ _ h => h) (Or.inl ⟨by rfl, ?hy6⟩) hHeld ?_
  case hy6 => intro w' hSw; go_simp
  simp only [List.getElem_toArray, List.getElem_cons_succ, List.getElem_cons_zero, Act.put, List.setIfInBounds_toArray, List.set_cons_zero, List.set_cons_succ]
  refine wpAnyH_take (i := 7) (v := v) rfl (by kernel_rfl) (by kernel_rfl) (by kernel_rfl) (fun _ _ _ h => h) (Or.inl ⟨by rfl, ?hy7⟩) hHeld ?_
  case hy7 => intro w' hSw; go_simp
  simp only [List.getElem_toArray, List.getElem_cons_succ, List.getElem_cons_zero, Act.put, List.setIfInBounds_toArray, List.set_cons_zero, List.set_cons_succ]
  refine wpAnyH_take (i := 8) (v := .bool true) rfl (by kernel_rfl) (by kernel_rfl) (by kernel_rfl) (fun _ _ _ h => h) (Or.inl ⟨by rfl, ?hy8⟩) hHeld ?_
  case hy8 => intro w' hSw; go_simp
  simp only [List.getElem_toArray, List.getElem_cons_succ, List.getElem_cons_zero, Act.put, List.setIfInBounds_toArray, List.set_cons_zero, List.set_cons_succ]
  refine wpAnyH_done (by kernel_rfl) ?_ _
  have HH := Aside0.mk hHeld
  clear hHeld
  go_wp2
  go_returns
  exact ⟨⟨_, rfl, HV.out⟩, below_then HB.out HB.out.size (below_then HB1.out HB1.out.size HH.out)⟩
set_option maxRecDepth 100000 in
set_option maxHeartbeats 8000000 in
theorem of_t (w : World) : Calls Tryz.prog 15 #[.agg #[.func (.func 14) #[] #[]], .agg #[.slice none 0 0]] w fun e w' => (e = .returned (.tuple #[.string ⟨#[]⟩, .bool true])) ∧ Below w.heap.size w w' := by
  obtain ⟨W, hW, hb, hsz, k0, k1⟩ := two_cells w (.func (.func 14) #[] #[]) 43 (.slice none 0 0) 32
  obtain ⟨g, hg⟩ : ∃ g, g = w.heap.size := ⟨_, rfl⟩
  rw [← hg] at k0 k1
  have HR := Aside0.mk right_nil
  have HC := Aside0.mk canon_nil
  have HP := Aside0.mk print_nil
  have HK := Aside0.mk (And.intro k0 k1)
  have HB := Aside0.mk hb
  have c1 := (blk_cell k1 0).trans rfl
  dsimp at c1
  clear k0 k1 hb hsz
  go_enter Tryz.func15, Tryz.ntmps15
  go_upto_region 1 with fail
  rw [← hW, ← hg]
  clear hW hg
  go_upto_region 4 with (go_at_call 16; refine (HR.out _).mono ?_; rintro e W1 ⟨rfl, h1⟩; have HB1 := Aside0.mk h1; clear h1 c1)
  have k0 := blk_below HK.out.1 HB1.out
  have k1 := blk_below HK.out.2 HB1.out
  have HLS := Aside0.mk (show ∀ W', Below W1.heap.size W1 W' → (Instr.loadAt 32 (.pointer (some ⟨g + 1, 0, none⟩))).run Tryz.prog W' = .ok (.agg #[.slice none 0 0]) W' from fun W' h => load_s (blk_below k1 h))
  have HLF := Aside0.mk (show ∀ W', Below W1.heap.size W1 W' → (Instr.loadAt 36 (.pointer (some ⟨g, 0, none⟩))).run Tryz.prog W' = .ok (.func (.func 14) #[] #[]) W' from fun W' h => by
    have c0 := (blk_cell (blk_below k0 h) 0).trans rfl
    dsimp at c0
    go_simp)
  clear k0 k1
  refine wp_region_held_drew (S := fun w' => Below W1.heap.size W1 w') (by kernel_rfl) (pw_below_drewN (B0 W1) 1) (fun hHeld => ?_)
  refine wpAnyH_take (i := 0) (v := (.pointer (some ⟨g, 0, none⟩))) rfl (by kernel_rfl) (by kernel_rfl) (by kernel_rfl) (fun _ _ _ h => h) (Or.inl ⟨by rfl, ?hy0⟩) hHeld ?_
  case hy0 => intro w' hSw; go_simp
  simp only [List.getElem_toArray, List.getElem_cons_succ, List.getElem_cons_zero, Act.put, List.setIfInBounds_toArray, List.set_cons_zero, List.set_cons_succ]
  refine wpAnyH_take (i := 1) (v := (.func (.func 14) #[] #[])) rfl (by kernel_rfl) (by kernel_rfl) (by kernel_rfl) (fun _ _ _ h => h) (yieldsIf_load (by rfl) 36 (.tmp 11) rfl (.func (.func 14) #[] #[]) (fun w' h => HLF.out w' h)) hHeld ?_
  simp only [List.getElem_toArray, List.getElem_cons_succ, List.getElem_cons_zero, Act.put, List.setIfInBounds_toArray, List.set_cons_zero, List.set_cons_succ]
  refine wpAnyH_take (i := 2) (v := (.agg #[.slice none 0 0])) rfl (by kernel_rfl) (by kernel_rfl) (by kernel_rfl) (fun _ _ _ h => h) (yieldsIf_load (by rfl) 32 (.tmp 3) rfl (.agg #[.slice none 0 0]) (fun w' h => HLS.out w' h)) hHeld ?_
  simp only [List.getElem_toArray, List.getElem_cons_succ, List.getElem_cons_zero, Act.put, List.setIfInBounds_toArray, List.set_cons_zero, List.set_cons_succ]
  refine wpAnyH_ready (rs := [3]) (by kernel_rfl) (by simp) ?_
  refine AllReadyH.cons rfl (fun K hK => ?_) AllReadyH.nil
  simp only [List.getElem_toArray, List.getElem_cons_succ, List.getElem_cons_zero]
  rw [if_pos (by rfl)]
  go_simp
  refine (HC.out _).mono ?_
  rintro e_ y1 ⟨rfl, hb⟩
  refine hK.out _ _ (below_step hHeld hb) (fun hHeld => ?_)
  clear hK K
  refine wpAnyH_ready (rs := [4]) (by kernel_rfl) (by simp) ?_
  refine AllReadyH.cons rfl (fun K hK => ?_) AllReadyH.nil
  simp only [List.getElem_toArray, List.getElem_cons_succ, List.getElem_cons_zero]
  rw [if_pos (by rfl)]
  go_simp
  refine (HP.out _).mono ?_
  rintro e_ y2 ⟨rfl, hb⟩
  refine hK.out _ _ (below_step hHeld hb) (fun hHeld => ?_)
  clear hK K
  refine wpAnyH_take (i := 5) (v := (.string ⟨#[]⟩)) rfl (by kernel_rfl) (by kernel_rfl) (by kernel_rfl) (fun _ _ _ h => h) (Or.inl ⟨by rfl, ?hy5⟩) hHeld ?_
  case hy5 => intro w' hSw; go_simp
  simp only [List.getElem_toArray, List.getElem_cons_succ, List.getElem_cons_zero, Act.put, List.setIfInBounds_toArray, List.set_cons_zero, List.set_cons_succ]
  refine wpAnyH_take (i := 6) (v := .bool true) rfl (by kernel_rfl) (by kernel_rfl) (by kernel_rfl) (fun _ _ _ h => h) (Or.inl ⟨by rfl, ?hy6⟩) hHeld ?_
  case hy6 => intro w' hSw; go_simp
  simp only [List.getElem_toArray, List.getElem_cons_succ, List.getElem_cons_zero, Act.put, List.setIfInBounds_toArray, List.set_cons_zero, List.set_cons_succ]
  refine wpAnyH_take (i := 7) (v := (.string ⟨#[]⟩)) rfl (by kernel_rfl) (by kernel_rfl) (by kernel_rfl) (fun _ _ _ h => h) (Or.inl ⟨by rfl, ?hy7⟩) hHeld ?_
  case hy7 => intro w' hSw; go_simp
  simp only [List.getElem_toArray, List.getElem_cons_succ, List.getElem_cons_zero, Act.put, List.setIfInBounds_toArray, List.set_cons_zero, List.set_cons_succ]
  refine wpAnyH_take (i := 8) (v := .bool true) rfl (by kernel_rfl) (by kernel_rfl) (by kernel_rfl) (fun _ _ _ h => h) (Or.inl ⟨by rfl, ?hy8⟩) hHeld ?_
  case hy8 => intro w' hSw; go_simp
  simp only [List.getElem_toArray, List.getElem_cons_succ, List.getElem_cons_zero, Act.put, List.setIfInBounds_toArray, List.set_cons_zero, List.set_cons_succ]
  refine wpAnyH_done (by kernel_rfl) ?_ _
  have HH := Aside0.mk hHeld
  clear hHeld
  go_wp2
  go_returns
  exact ⟨rfl, below_then HB.out HB.out.size (below_then HB1.out HB1.out.size HH.out)⟩
set_option maxRecDepth 100000 in
set_option maxHeartbeats 8000000 in
theorem input_nil (w : World) : Calls Tryz.prog 6 #[.agg #[.slice none 0 0]] w fun e w' => (∃ v, e = .returned (.tuple #[v, .bool true]) ∧ Bs w' v [0]) ∧ Below w.heap.size w w' := by
  have HO := Aside0.mk of_b
  go_enter Tryz.func6, Tryz.ntmps6
  go_wp2_with (go_at_call 12; refine (HO.out _).mono ?_; rintro e W1 ⟨⟨v, rfl, hv⟩, h1⟩; have HB1 := Aside0.mk h1; have HV := Aside0.mk hv; clear h1 hv)
  go_returns
  exact ⟨⟨_, rfl, HV.out⟩, below_then (below_alloc (B0 w) _) (below_alloc (B0 w) _).size HB1.out⟩
set_option maxRecDepth 100000 in
set_option maxHeartbeats 8000000 in
theorem text_nil (w : World) : Calls Tryz.prog 8 #[.agg #[.slice none 0 0]] w fun e w' => e = .returned (.tuple #[.string ⟨#[]⟩, .bool true]) ∧ Below w.heap.size w w' := by
  have HO := Aside0.mk of_t
  go_enter Tryz.func8, Tryz.ntmps8
  go_wp2_with (go_at_call 15; refine (HO.out _).mono ?_; rintro e W1 ⟨rfl, h1⟩; have HB1 := Aside0.mk h1; clear h1)
  go_returns
  exact ⟨rfl, below_then (below_alloc (B0 w) _) (below_alloc (B0 w) _).size HB1.out⟩
set_option maxRecDepth 100000 in
set_option maxHeartbeats 8000000 in
theorem of_bad (gd : Nat) (w : World) (hG : ResG w) (d0 : w.cell? ⟨gd, 0, none⟩ = some (.string ⟨#[]⟩)) (d1 : w.cell? ⟨gd, 1, none⟩ = some (.slice none 0 0)) :
    Calls Tryz.prog 12 #[.agg #[.func (.func 11) #[] #[]], .agg #[.slice (some ⟨gd, 0, none⟩) 1 1]] w fun e w' => e = .returned (.tuple #[.slice none 0 0, .bool false]) ∧ Below w.heap.size w w' := by
  have HC := Aside0.mk (show ∀ W', Below w.heap.size w W' → _ from fun W' h => right_bad gd W' (hG.below h hG.1) ((h.cell (p := ⟨gd, 0, none⟩) (cell_lt d0)).trans d0) ((h.cell (p := ⟨gd, 1, none⟩) (cell_lt d1)).trans d1))
  have HB := Aside0.mk (B0 w)
  clear hG d0 d1
  go_enter Tryz.func12, Tryz.ntmps12
  go_wp2_with (go_at_call 16; refine (HC.out _ (by (repeat apply below_alloc); exact HB.out)).mono ?_; rintro e W1 ⟨rfl, h1⟩; have HB1 := Aside0.mk h1; clear h1)
  go_returns
  exact ⟨rfl, below_then (below_alloc (below_alloc (B0 w) _) _) (below_alloc (below_alloc (B0 w) _) _).size HB1.out⟩
set_option maxRecDepth 100000 in
set_option maxHeartbeats 8000000 in
theorem input_bad (gd : Nat) (w : World) (hG : ResG w) (d0 : w.cell? ⟨gd, 0, none⟩ = some (.string ⟨#[]⟩)) (d1 : w.cell? ⟨gd, 1, none⟩ = some (.slice none 0 0)) :
    Calls Tryz.prog 6 #[.agg #[.slice (some ⟨gd, 0, none⟩) 1 1]] w fun e w' => e = .returned (.tuple #[.slice none 0 0, .bool false]) ∧ Below w.heap.size w w' := by
  have HC := Aside0.mk (show ∀ W', Below w.heap.size w W' → _ from fun W' h => of_bad gd W' (hG.below h hG.1) ((h.cell (p := ⟨gd, 0, none⟩) (cell_lt d0)).trans d0) ((h.cell (p := ⟨gd, 1, none⟩) (cell_lt d1)).trans d1))
  have HB := Aside0.mk (B0 w)
  clear hG d0 d1
  go_enter Tryz.func6, Tryz.ntmps6
  go_wp2_with (go_at_call 12; refine (HC.out _ (by (repeat apply below_alloc); exact HB.out)).mono ?_; rintro e W1 ⟨rfl, h1⟩; have HB1 := Aside0.mk h1; clear h1)
  go_returns
  exact ⟨rfl, below_then (below_alloc (B0 w) _) (below_alloc (B0 w) _).size HB1.out⟩
set_option maxRecDepth 100000 in
set_option maxHeartbeats 8000000 in
theorem schema_bad (zc : Array Value) (hz : (#[.int .u8 0, .int .u8 0, .int .u8 0, .int .u8 0, .int .u8 0, .int .u8 0, .int .u8 0, .int .u8 0, .int .u8 0, .int .u8 0, .int .u8 0, .int .u8 0, .int .u8 0, .int .u8 0, .int .u8 0, .int .u8 0, .int .u8 0, .int .u8 0, .int .u8 0, .int .u8 0, .int .u8 0, .int .u8 0, .int .u8 0, .int .u8 0, .int .u8 0, .int .u8 0, .int .u8 0, .int .u8 0, .int .u8 0, .int .u8 0, .int .u8 0, .int .u8 0] : Array Value) = zc) (gd : Nat) (w : World) (hG : ResG w) (d0 : w.cell? ⟨gd, 0, none⟩ = some (.string ⟨#[]⟩)) (d1 : w.cell? ⟨gd, 1, none⟩ = some (.slice none 0 0)) :
    Calls Tryz.prog 7 #[.agg #[.slice (some ⟨gd, 0, none⟩) 1 1]] w fun e w' => e = .returned (.tuple #[.agg zc, .bool false]) ∧ Below w.heap.size w w' := by
  have HC := Aside0.mk (show ∀ W', Below w.heap.size w W' → _ from fun W' h => input_bad gd W' (hG.below h hG.1) ((h.cell (p := ⟨gd, 0, none⟩) (cell_lt d0)).trans d0) ((h.cell (p := ⟨gd, 1, none⟩) (cell_lt d1)).trans d1))
  have HB := Aside0.mk (B0 w)
  clear hG d0 d1
  have HZ := Aside0.mk (show zc = Array.replicate 32 (.int .u8 0) from hz.symm.trans rfl)
  go_enter Tryz.func7, Tryz.ntmps7
  go_upto_region 3 with (go_at_call 6; refine (HC.out _ (by (repeat apply below_alloc); exact HB.out)).mono ?_; rintro e W1 ⟨rfl, h1⟩; have HB1 := Aside0.mk h1; clear h1)
  obtain ⟨g, hg⟩ : ∃ g, g = w.heap.size + 1 := ⟨_, rfl⟩
  have hk1 : W1.heap[g]? = some (.cells zc 22 (0, 0)) := by
    have h := blk_new (w.alloc (.cells #[.slice (some ⟨gd, 0, none⟩) 1 1] 32)) (.cells zc 22)
    rw [World.size_alloc, ← hg] at h
    exact blk_below h HB1.out
  have hsc := ar_cells (c1 := zc) hk1 (by rw [HZ.out]; simp) (by rw [HZ.out]; simp) (by rw [HZ.out]; exact Array.all_eq_true_iff_forall_mem.2 fun v hv => by rw [Array.eq_of_mem_replicate hv]; rfl)
  have HR := Aside0.mk (setRow_heap W1 g zc zc 22 (0, 0) hk1)
  have HBX := Aside0.mk (show Below w.heap.size w (W1.setRow g zc) from below_row (below_then (below_alloc (below_alloc (B0 w) _) _) (below_alloc (below_alloc (B0 w) _) _).size HB1.out) (by omega) _)
  have hzs : zc.size = 32 := by rw [HZ.out]; simp
  have HZS := Aside0.mk hzs
  rw [← hg]
  clear hk1 HB1 HB HC hg
  go_wp2
  refine bodyPost_ret (v := .tuple #[.agg zc, .bool false]) ?_ rfl ⟨rfl, HBX.out⟩
  exact results_c2 (p := 2) (q := 3) rfl _ _ g zc rfl HR.out HZS.out

end Go.Proofs.YtckliinakgffpaaGreatDoor.HDg4
/- The first digits of a digest. -/
namespace Go.Proofs.YtckliinakgffpaaGreatDoor.HDg5
open Go.RowKit Go.Shelf Go.Proofs.YtckliinakgffpaaGreatDoorW.PrintWords Go.Proofs.YtckliinakgffpaaGreatDoor.HLib Go.Proofs.YtckliinakgffpaaGreatDoor.HGr Go.Proofs.YtckliinakgffpaaGreatDoor.HNameP Go.Proofs.YtckliinakgffpaaGreatDoor.HName Go.Proofs.YtckliinakgffpaaGreatDoor.HPr Go.Proofs.YtckliinakgffpaaGreatDoor.HDg1 Go.Proofs.YtckliinakgffpaaGreatDoor.HDg2 Go.Proofs.YtckliinakgffpaaGreatDoor.HDg3 Go.Proofs.YtckliinakgffpaaGreatDoor.HDg4
open Go.Proofs.YtckliinakgffpaaGreatDoor.PDigestShort
set_option linter.unusedVariables false
set_option linter.unusedSimpArgs false
def digit (v : Int) : Int := if v < 10 then 48 + v else 87 + v
def hexl (zs : List Int) : List Int := zs.flatMap fun z => [digit (z / 16), digit (z % 16)]
theorem hexl_snoc (zs : List Int) (z : Int) : hexl (zs ++ [z]) = hexl zs ++ [digit (z / 16), digit (z % 16)] := by
  unfold hexl
  rw [List.flatMap_append]
  simp
theorem hexl_len (zs : List Int) : (hexl zs).length = 2 * zs.length := by
  induction zs with
  | nil => rfl
  | cons z zs ih =>
    have : hexl (z :: zs) = [digit (z / 16), digit (z % 16)] ++ hexl zs := by simp [hexl]
    rw [this, List.length_append, ih, List.length_cons]
    simp
    omega
theorem row2 {w : World} {g : Nat} {a b : Int} {t : TypeId} (h : w.heap[g]? = some (.cells #[.int .u8 a, .int .u8 b] t (0, 0))) : Kd.C (Kd.int .u8) w (some ⟨g, 0, none⟩) 2 [a, b] := by
  refine ⟨rfl, by decide, fun _ => ⟨_, rfl, fun j p hj => ?_⟩⟩
  have hcell : ∀ i, w.cell? ⟨g, i, none⟩ = ([.int .u8 a, .int .u8 b] : List Value)[i]? := fun i => (blk_cell h i).trans (by simp)
  match j, hj with
  | 0, hj =>
    obtain rfl : a = p := by simpa using hj
    refine ⟨[.int .u8 a], rfl, rfl, fun i u hu => ?_⟩
    rw [add_plain, hcell]
    match i, hu with
    | 0, hu => exact hu
    | i + 1, hu => simp at hu
  | 1, hj =>
    obtain rfl : b = p := by simpa using hj
    refine ⟨[.int .u8 b], rfl, rfl, fun i u hu => ?_⟩
    rw [add_plain, hcell]
    match i, hu with
    | 0, hu => exact hu
    | i + 1, hu => simp at hu
  | j + 2, hj => simp at hj
theorem dg_get (v : Int) (h0 : 0 ≤ v) (h1 : v < 16) {hp : v.toNat < (⟨#[48, 49, 50, 51, 52, 53, 54, 55, 56, 57, 97, 98, 99, 100, 101, 102]⟩ : ByteArray).size} : (((⟨#[48, 49, 50, 51, 52, 53, 54, 55, 56, 57, 97, 98, 99, 100, 101, 102]⟩ : ByteArray)[v.toNat]'hp).toNat : Int) = digit v := by
  obtain ⟨n, rfl⟩ : ∃ n : Nat, v = n := ⟨v.toNat, by omega⟩
  have hn : n < 16 := by omega
  clear h0 h1
  revert hp
  rcases (show n = 0 ∨ n = 1 ∨ n = 2 ∨ n = 3 ∨ n = 4 ∨ n = 5 ∨ n = 6 ∨ n = 7 ∨ n = 8 ∨ n = 9 ∨ n = 10 ∨ n = 11 ∨ n = 12 ∨ n = 13 ∨ n = 14 ∨ n = 15 by omega) with rfl | rfl | rfl | rfl | rfl | rfl | rfl | rfl | rfl | rfl | rfl | rfl | rfl | rfl | rfl | rfl <;> intro hp <;> rfl
set_option maxRecDepth 100000 in
set_option maxHeartbeats 8000000 in
theorem short_any (zs : List Int) (hz : zs.length = 32) (hb : ∀ z ∈ zs, 0 ≤ z ∧ z < 256) (w : World) :
    Calls Tryz.prog 5 #[.agg (nums .u8 zs).toArray] w fun e w' => e = .returned (.string (strOfNums (hexl (zs.take 4)))) ∧ Below w.heap.size w w' := by
  obtain ⟨C, hC⟩ : ∃ C, C = (nums .u8 zs).toArray := ⟨_, rfl⟩
  have hcs : C.size = 32 := by rw [hC]; simp [nums, hz]
  obtain ⟨W, hW⟩ : ∃ W, W = w.alloc (.cells C 22) := ⟨_, rfl⟩
  have hbw : Below w.heap.size w W := by rw [hW]; exact below_alloc (B0 w) _
  have hk : W.heap[w.heap.size]? = some (.cells C 22 (0, 0)) := by rw [hW]; exact blk_new w _
  obtain ⟨g, hg⟩ : ∃ g, g = w.heap.size := ⟨_, rfl⟩
  rw [← hg] at hk
  have HC := Aside0.mk (show ∀ j, j < 32 → ∀ W', Below W.heap.size W W' → W'.cell? ⟨g, j, none⟩ = some (.int .u8 (zs.getD j 0)) from fun j hj W' h => by
    rw [blk_cell (blk_below hk h) j, hC]
    simp [nums, hz, hj, List.getD_eq_getElem?_getD])
  have HZ := Aside0.mk hz
  have HBY := Aside0.mk hb
  have HB := Aside0.mk hbw
  rw [← hC]
  clear hC hk hbw hz hb
  go_enter Tryz.func5, Tryz.ntmps5
  go_upto_region 1 with fail
  rw [← hW, ← hg]
  clear hW hg
  go_upto_region 3 with fail
  go_loopg [3, 5, 8] 4 (fun gg s3 _ s8 wr => ∃ kk : Nat, s8 = .int .i64 kk ∧ Aside0 (gg + kk = 4) ∧ Aside0 (Below W.heap.size W wr) ∧ Aside0 (Kd.R (Kd.int .u8) 5 wr W.heap.size (fun _ => True) s3 (hexl (zs.take kk))))
  case atStart => exact ⟨0, rfl, ⟨by omega⟩, ⟨B0 W⟩, ⟨Kd.R_nil _ _ _ _ _⟩⟩
  case round =>
    obtain ⟨kk, rfl, HG, BW, HR⟩ := hrel
    by_cases hlt : kk < 4
    · have f3 : (kk : Int) < 4 := by omega
      have f1 : decide ((kk : Int) < 4) = true := decide_eq_true f3
      have f5 : (0 : Int) ≤ (kk : Int) := by omega
      have f4 : IntKind.i64.wrap ((kk : Int) + 1) = (kk : Int) + 1 := by rw [IntKind.wrap_i64]; omega
      have c0 := HC.out kk (by omega) wr BW.out
      obtain ⟨z, hz⟩ : ∃ z, z = zs.getD kk 0 := ⟨_, rfl⟩
      rw [← hz] at c0
      have hb : 0 ≤ z ∧ z < 256 := by
        rw [hz, List.getD_eq_getElem?_getD, List.getElem?_eq_getElem (by have := HZ.out; omega), Option.getD_some]
        exact HBY.out _ (List.getElem_mem _)
      have HZK := Aside0.mk hz
      have HBB := Aside0.mk hb
      have HI := Aside0.mk (show (0 ≤ z / 16 ∧ z / 16 < 16) ∧ (0 ≤ z % 16 ∧ z % 16 < 16) ∧ bits BinOp.and IntKind.u8 z 15 = z % 16 from ⟨by omega, by omega, by
        rw [u8_and z 15 hb.1 hb.2 (by decide) (by decide)]
        have h := Nat.and_two_pow_sub_one_eq_mod z.toNat 4
        rw [show ((15 : Int).toNat) = 2 ^ 4 - 1 from rfl, h]
        omega⟩)
      obtain ⟨Ao, co, hs3⟩ := Kd.R_slice HR.out
      have HLN := Aside0.mk (show (hexl (zs.take kk)).length ≤ 8 from by rw [hexl_len, List.length_take]; omega)
      clear hz hb hs3
      go_upto_region 5 with fail
      --REG
      refine wp_region_held_drew (S := fun w' => Below W.heap.size W w') (by kernel_rfl) (pw_below_drewN BW.out 1) (fun hHeld => ?_)
      refine wpAnyH_take (i := 0) (v := u3) rfl (by kernel_rfl) (by kernel_rfl) (by kernel_rfl) (fun _ _ _ h => h) (Or.inl ⟨by rfl, ?hy0⟩) hHeld ?_
      case hy0 => intro w' hSw; go_simp
      simp only [List.getElem_toArray, List.getElem_cons_succ, List.getElem_cons_zero, Act.put, List.setIfInBounds_toArray, List.set_cons_zero, List.set_cons_succ]
      refine wpAnyH_take (i := 1) (v := .int .u8 z) rfl (by kernel_rfl) (by kernel_rfl) (by kernel_rfl) (fun _ _ _ h => h) (Or.inl ⟨by rfl, ?hy1⟩) hHeld ?_
      case hy1 => intro w' hSw; go_simp
      simp only [List.getElem_toArray, List.getElem_cons_succ, List.getElem_cons_zero, Act.put, List.setIfInBounds_toArray, List.set_cons_zero, List.set_cons_succ]
      refine wpAnyH_take (i := 2) (v := .int .u8 (z / 16)) rfl (by kernel_rfl) (by kernel_rfl) (by kernel_rfl) (fun _ _ _ h => h) (Or.inl ⟨by rfl, ?hy2⟩) hHeld ?_
      case hy2 => intro w' hSw; go_simp
      simp only [List.getElem_toArray, List.getElem_cons_succ, List.getElem_cons_zero, Act.put, List.setIfInBounds_toArray, List.set_cons_zero, List.set_cons_succ]
      refine wpAnyH_take (i := 3) (v := .int .u8 (digit (z / 16))) rfl (by kernel_rfl) (by kernel_rfl) (by kernel_rfl) (fun _ _ _ h => h) (Or.inl ⟨by rfl, ?hy3⟩) hHeld ?_
      case hy3 => intro w' hSw; go_simp; rw [dif_pos HI.out.1, dg_get _ HI.out.1.1 HI.out.1.2]; rfl
      simp only [List.getElem_toArray, List.getElem_cons_succ, List.getElem_cons_zero, Act.put, List.setIfInBounds_toArray, List.set_cons_zero, List.set_cons_succ]
      refine wpAnyH_take (i := 4) (v := .int .u8 z) rfl (by kernel_rfl) (by kernel_rfl) (by kernel_rfl) (fun _ _ _ h => h) (Or.inl ⟨by rfl, ?hy4⟩) hHeld ?_
      case hy4 => intro w' hSw; go_simp
      simp only [List.getElem_toArray, List.getElem_cons_succ, List.getElem_cons_zero, Act.put, List.setIfInBounds_toArray, List.set_cons_zero, List.set_cons_succ]
      refine wpAnyH_take (i := 5) (v := .int .u8 (z % 16)) rfl (by kernel_rfl) (by kernel_rfl) (by kernel_rfl) (fun _ _ _ h => h) (Or.inl ⟨by rfl, ?hy5⟩) hHeld ?_
      case hy5 => intro w' hSw; go_simp; exact HI.out.2.2
      simp only [List.getElem_toArray, List.getElem_cons_succ, List.getElem_cons_zero, Act.put, List.setIfInBounds_toArray, List.set_cons_zero, List.set_cons_succ]
      refine wpAnyH_take (i := 6) (v := .int .u8 (digit (z % 16))) rfl (by kernel_rfl) (by kernel_rfl) (by kernel_rfl) (fun _ _ _ h => h) (Or.inl ⟨by rfl, ?hy6⟩) hHeld ?_
      case hy6 => intro w' hSw; go_simp; rw [dif_pos HI.out.2.1, dg_get _ HI.out.2.1.1 HI.out.2.1.2]; rfl
      simp only [List.getElem_toArray, List.getElem_cons_succ, List.getElem_cons_zero, Act.put, List.setIfInBounds_toArray, List.set_cons_zero, List.set_cons_succ]
      refine wpAnyH_ready (rs := [7]) (by kernel_rfl) (by simp) ?_
      refine AllReadyH.cons rfl (fun K hK => ?_) AllReadyH.nil
      simp only [List.getElem_toArray, List.getElem_cons_succ, List.getElem_cons_zero]
      rw [if_pos (by rfl)]
      go_simp
      have hb7 : Below wr.heap.size wr ((wr.alloc (.cells #[.int .u8 (digit (z / 16)), .int .u8 (digit (z % 16))] 5)).drew) := below_drew1 (below_alloc (B0 wr) _)
      have hk7 : ((wr.alloc (.cells #[.int .u8 (digit (z / 16)), .int .u8 (digit (z % 16))] 5)).drew).heap[wr.heap.size]? = some (.cells #[.int .u8 (digit (z / 16)), .int .u8 (digit (z % 16))] 5 (0, 0)) := blk_new wr _
      obtain ⟨g2, hg2⟩ : ∃ q, q = wr.heap.size := ⟨_, rfl⟩
      obtain ⟨W2, hW2⟩ : ∃ X, X = (wr.alloc (.cells #[.int .u8 (digit (z / 16)), .int .u8 (digit (z % 16))] 5)).drew := ⟨_, rfl⟩
      rw [← hW2] at hb7 hk7 ⊢
      rw [← hg2] at hk7 ⊢
      clear hW2
      have hR2 := Kd.R_below HR.out hb7
      have hB2 := below_then BW.out BW.out.size hb7
      refine hK.out _ _ hB2 (fun hHeld => ?_)
      clear hK K
      refine wpAnyH_ready (rs := [8]) (by kernel_rfl) (by simp) ?_
      refine AllReadyH.cons rfl (fun K hK => ?_) AllReadyH.nil
      simp only [List.getElem_toArray, List.getElem_cons_succ, List.getElem_cons_zero]
      have hrw : Kd.C (Kd.int .u8) W2 (some ⟨g2, 0, none⟩) 2 [digit (z / 16), digit (z % 16)] := row2 hk7
      rw [if_pos (by rfl)]
      refine Eq.mp (if_pos ?hw9) (Kd.R_append_rows_step (ops := #[]) (Kd.int .u8) (Rr := (Kd.int .u8).K W2) (w0 := W) W.heap.size ?hw8 (.tmp 12) (.tmp 19) 27 5 (.int .u8 0) 1 ?ho8 Tryz.underlying27 info_u8 rfl (by decide) (by decide) u3 (hexl (zs.take kk)) [digit (z / 16), digit (z % 16)] (some ⟨g2, 0, none⟩) 2 2 (fun _ => True) (fun _ => False) ?hs8 ?hx8 hR2 hrw (fun x cs h => h) (fun _ h => h.elim) (fun _ _ => trivial) hB2 hB2.size ?hl8 ?_)
      case hw9 => rfl
      case hw8 => rfl
      case ho8 => rfl
      case hs8 => rfl
      case hx8 => rfl
      case hl8 => have := HLN.out; omega
      intro v1 w1 ho hb8 hg8 hat8
      refine hK.out _ _ hb8 (fun hHeld => ?_)
      clear hK K
      simp only [List.getElem_toArray, List.getElem_cons_succ, List.getElem_cons_zero, Act.put, List.setIfInBounds_toArray, List.set_cons_zero, List.set_cons_succ]
      refine wpAnyH_take (i := 9) (v := v1) rfl (by kernel_rfl) (by kernel_rfl) (by kernel_rfl) (fun _ _ _ h => h) (Or.inl ⟨by rfl, ?hy9⟩) hHeld ?_
      case hy9 => intro w' hSw; go_simp
      simp only [List.getElem_toArray, List.getElem_cons_succ, List.getElem_cons_zero, Act.put, List.setIfInBounds_toArray, List.set_cons_zero, List.set_cons_succ]
      refine wpAnyH_done (by kernel_rfl) ?_ _
      have HO1 := Aside0.mk ho
      have HB1 := Aside0.mk hb8
      clear ho hb8 hg8 hat8 hHeld hR2 hB2 hrw hb7 hk7 hg2 c0
      go_wp2
      go_roundg (4 - (kk + 1))
      case measure => have := HG.out; omega
      case rel =>
        refine ⟨kk + 1, by first | rfl | go_num, ⟨by have := HG.out; omega⟩, ⟨HB1.out⟩, ⟨?_⟩⟩
        have h := HO1.out
        have ht : zs.take (kk + 1) = zs.take kk ++ [z] := by
          have hj : kk < zs.length := by have := HZ.out; omega
          rw [List.take_succ_eq_append_getElem hj, HZK.out, List.getD_eq_getElem?_getD, List.getElem?_eq_getElem hj, Option.getD_some]
        rw [ht, hexl_snoc]
        exact h
      --END
    · obtain rfl : kk = 4 := by have := HG.out; omega
      have f3 : ¬ ((4 : Nat) : Int) < 4 := by omega
      have hcv : (convert 27 9 u3).run Tryz.prog wr = .ok (.string (strOfNums (hexl (zs.take 4)))) wr := own_string Tryz.underlying27 Tryz.underlying5 Tryz.underlying9 (Kd.own_of_R HR.out)
      go_wp2
      go_ret
      exact ⟨rfl, below_then HB.out HB.out.size BW.out⟩
end Go.Proofs.YtckliinakgffpaaGreatDoor.HDg5
