/- awake of the laws of digests; the law DigestShort. -/
import Derived.Test.YtckliinakgffpaaGreatDoorUDB
import Derived.Laws.MakeOwn
namespace Go.Proofs.YtckliinakgffpaaGreatDoor.HDg6
open Go.RowKit Go.Shelf Go.Proofs.YtckliinakgffpaaGreatDoorW.PrintWords Go.Proofs.YtckliinakgffpaaGreatDoor.HLib Go.Proofs.YtckliinakgffpaaGreatDoor.HGr Go.Proofs.YtckliinakgffpaaGreatDoor.HNameP Go.Proofs.YtckliinakgffpaaGreatDoor.HName Go.Proofs.YtckliinakgffpaaGreatDoor.HPr Go.Proofs.YtckliinakgffpaaGreatDoor.HDg1 Go.Proofs.YtckliinakgffpaaGreatDoor.HDg2 Go.Proofs.YtckliinakgffpaaGreatDoor.HDg3 Go.Proofs.YtckliinakgffpaaGreatDoor.HDg4 Go.Proofs.YtckliinakgffpaaGreatDoor.HDg5
open Go.Proofs.YtckliinakgffpaaGreatDoor.PDigestShort
set_option linter.unusedVariables false
set_option linter.unusedSimpArgs false
set_option maxRecDepth 100000 in
set_option maxHeartbeats 8000000 in
theorem alike_nil (w : World) : Calls Tryz.prog 10 #[.agg #[.slice none 0 0], .agg #[.slice none 0 0]] w fun e w' => e = .returned (.bool true) ∧ Below w.heap.size w w' := by
  obtain ⟨W, hW, hb, hsz, k0, k1⟩ := two_cells w (.slice none 0 0) 32 (.slice none 0 0) 32
  obtain ⟨g, hg⟩ : ∃ g, g = w.heap.size := ⟨_, rfl⟩
  rw [← hg] at k0 k1
  have HR := Aside0.mk right_nil
  have HC := Aside0.mk canon_nil
  have HS := Aside0.mk same_nil
  have HB := Aside0.mk hb
  have HL0 := Aside0.mk (show ∀ W', Below W.heap.size W W' → (Instr.loadAt 32 (.pointer (some ⟨g, 0, none⟩))).run Tryz.prog W' = .ok (.agg #[.slice none 0 0]) W' from fun W' h => load_s (blk_below k0 h))
  have HL1 := Aside0.mk (show ∀ W', Below W.heap.size W W' → (Instr.loadAt 32 (.pointer (some ⟨g + 1, 0, none⟩))).run Tryz.prog W' = .ok (.agg #[.slice none 0 0]) W' from fun W' h => load_s (blk_below k1 h))
  clear k0 k1 hb hsz
  go_enter Tryz.func10, Tryz.ntmps10
  go_upto_region 1 with fail
  rw [← hW, ← hg]
  clear hW hg
  refine wp_region_held_drew (S := fun w' => Below W.heap.size W w') (by kernel_rfl) (pw_below_drewN (B0 W) 1) (fun hHeld => ?_)
  refine wpAnyH_take (i := 0) (v := (.agg #[.slice none 0 0])) rfl (by kernel_rfl) (by kernel_rfl) (by kernel_rfl) (fun _ _ _ h => h) (yieldsIf_load (by rfl) 32 (.tmp 2) rfl (.agg #[.slice none 0 0]) (fun w' h => HL0.out w' h)) hHeld ?_
  simp only [List.getElem_toArray, List.getElem_cons_succ, List.getElem_cons_zero, Act.put, List.setIfInBounds_toArray, List.set_cons_zero, List.set_cons_succ]
  refine wpAnyH_ready (rs := [1]) (by kernel_rfl) (by simp) ?_
  refine AllReadyH.cons rfl (fun K hK => ?_) AllReadyH.nil
  simp only [List.getElem_toArray, List.getElem_cons_succ, List.getElem_cons_zero]
  rw [if_pos (by rfl)]
  go_simp
  refine (HR.out _).mono ?_
  rintro e_ y1 ⟨rfl, hb⟩
  refine hK.out _ _ (below_step hHeld hb) (fun hHeld => ?_)
  clear hK K
  refine wpAnyH_take (i := 2) (v := .bool true) rfl (by kernel_rfl) (by kernel_rfl) (by kernel_rfl) (fun _ _ _ h => h) (Or.inl ⟨by rfl, ?hy2⟩) hHeld ?_
  case hy2 => intro w' hSw; go_simp
  simp only [List.getElem_toArray, List.getElem_cons_succ, List.getElem_cons_zero, Act.put, List.setIfInBounds_toArray, List.set_cons_zero, List.set_cons_succ]
  refine wpAnyH_take (i := 3) (v := (.agg #[.slice none 0 0])) rfl (by kernel_rfl) (by kernel_rfl) (by kernel_rfl) (fun _ _ _ h => h) (yieldsIf_load (by rfl) 32 (.tmp 3) rfl (.agg #[.slice none 0 0]) (fun w' h => HL1.out w' h)) hHeld ?_
  simp only [List.getElem_toArray, List.getElem_cons_succ, List.getElem_cons_zero, Act.put, List.setIfInBounds_toArray, List.set_cons_zero, List.set_cons_succ]
  refine wpAnyH_ready (rs := [4]) (by kernel_rfl) (by simp) ?_
  refine AllReadyH.cons rfl (fun K hK => ?_) AllReadyH.nil
  simp only [List.getElem_toArray, List.getElem_cons_succ, List.getElem_cons_zero]
  rw [if_pos (by rfl)]
  go_simp
  refine (HR.out _).mono ?_
  rintro e_ y2 ⟨rfl, hb⟩
  refine hK.out _ _ (below_step hHeld hb) (fun hHeld => ?_)
  clear hK K
  refine wpAnyH_take (i := 5) (v := .bool true) rfl (by kernel_rfl) (by kernel_rfl) (by kernel_rfl) (fun _ _ _ h => h) (Or.inl ⟨by rfl, ?hy5⟩) hHeld ?_
  case hy5 => intro w' hSw; go_simp
  simp only [List.getElem_toArray, List.getElem_cons_succ, List.getElem_cons_zero, Act.put, List.setIfInBounds_toArray, List.set_cons_zero, List.set_cons_succ]
  refine wpAnyH_take (i := 6) (v := .bool true) rfl (by kernel_rfl) (by kernel_rfl) (by kernel_rfl) (fun _ _ _ h => h) (Or.inl ⟨by rfl, ?hy6⟩) hHeld ?_
  case hy6 => intro w' hSw; go_simp
  simp only [List.getElem_toArray, List.getElem_cons_succ, List.getElem_cons_zero, Act.put, List.setIfInBounds_toArray, List.set_cons_zero, List.set_cons_succ]
  refine wpAnyH_take (i := 7) (v := (.agg #[.slice none 0 0])) rfl (by kernel_rfl) (by kernel_rfl) (by kernel_rfl) (fun _ _ _ h => h) (yieldsIf_load (by rfl) 32 (.tmp 2) rfl (.agg #[.slice none 0 0]) (fun w' h => HL0.out w' h)) hHeld ?_
  simp only [List.getElem_toArray, List.getElem_cons_succ, List.getElem_cons_zero, Act.put, List.setIfInBounds_toArray, List.set_cons_zero, List.set_cons_succ]
  refine wpAnyH_take (i := 9) (v := (.agg #[.slice none 0 0])) rfl (by kernel_rfl) (by kernel_rfl) (by kernel_rfl) (fun _ _ _ h => h) (yieldsIf_load (by rfl) 32 (.tmp 3) rfl (.agg #[.slice none 0 0]) (fun w' h => HL1.out w' h)) hHeld ?_
  simp only [List.getElem_toArray, List.getElem_cons_succ, List.getElem_cons_zero, Act.put, List.setIfInBounds_toArray, List.set_cons_zero, List.set_cons_succ]
  refine wpAnyH_ready (rs := [8]) (by kernel_rfl) (by simp) ?_
  refine AllReadyH.cons rfl (fun K hK => ?_) AllReadyH.nil
  simp only [List.getElem_toArray, List.getElem_cons_succ, List.getElem_cons_zero]
  rw [if_pos (by rfl)]
  go_simp
  refine (HC.out _).mono ?_
  rintro e_ y3 ⟨rfl, hb⟩
  refine hK.out _ _ (below_step hHeld hb) (fun hHeld => ?_)
  clear hK K
  refine wpAnyH_ready (rs := [10]) (by kernel_rfl) (by simp) ?_
  refine AllReadyH.cons rfl (fun K hK => ?_) AllReadyH.nil
  simp only [List.getElem_toArray, List.getElem_cons_succ, List.getElem_cons_zero]
  rw [if_pos (by rfl)]
  go_simp
  refine (HC.out _).mono ?_
  rintro e_ y4 ⟨rfl, hb⟩
  refine hK.out _ _ (below_step hHeld hb) (fun hHeld => ?_)
  clear hK K
  refine wpAnyH_ready (rs := [11]) (by kernel_rfl) (by simp) ?_
  refine AllReadyH.cons rfl (fun K hK => ?_) AllReadyH.nil
  simp only [List.getElem_toArray, List.getElem_cons_succ, List.getElem_cons_zero]
  rw [if_pos (by rfl)]
  go_simp
  refine (HS.out _).mono ?_
  rintro e_ y5 ⟨rfl, hb⟩
  refine hK.out _ _ (below_step hHeld hb) (fun hHeld => ?_)
  clear hK K
  refine wpAnyH_take (i := 12) (v := .bool true) rfl (by kernel_rfl) (by kernel_rfl) (by kernel_rfl) (fun _ _ _ h => h) (Or.inl ⟨by rfl, ?hy12⟩) hHeld ?_
  case hy12 => intro w' hSw; go_simp
  simp only [List.getElem_toArray, List.getElem_cons_succ, List.getElem_cons_zero, Act.put, List.setIfInBounds_toArray, List.set_cons_zero, List.set_cons_succ]
  refine wpAnyH_take (i := 13) (v := .bool true) rfl (by kernel_rfl) (by kernel_rfl) (by kernel_rfl) (fun _ _ _ h => h) (Or.inl ⟨by rfl, ?hy13⟩) hHeld ?_
  case hy13 => intro w' hSw; go_simp
  simp only [List.getElem_toArray, List.getElem_cons_succ, List.getElem_cons_zero, Act.put, List.setIfInBounds_toArray, List.set_cons_zero, List.set_cons_succ]
  refine wpAnyH_done (by kernel_rfl) ?_ _
  have HH := Aside0.mk hHeld
  clear hHeld
  go_wp2
  go_ret
  exact ⟨rfl, below_then HB.out HB.out.size HH.out⟩
theorem row1 {w : World} {g : Nat} {a : Int} {t : TypeId} (h : w.heap[g]? = some (.cells #[.int .u8 a] t (0, 0))) : Kd.C (Kd.int .u8) w (some ⟨g, 0, none⟩) 1 [a] := by
  refine ⟨rfl, by decide, fun _ => ⟨_, rfl, fun j p hj => ?_⟩⟩
  have hcell : ∀ i, w.cell? ⟨g, i, none⟩ = ([.int .u8 a] : List Value)[i]? := fun i => (blk_cell h i).trans (by simp)
  match j, hj with
  | 0, hj =>
    obtain rfl : a = p := by simpa using hj
    refine ⟨[.int .u8 a], rfl, rfl, fun i u hu => ?_⟩
    rw [add_plain, hcell]
    match i, hu with
    | 0, hu => exact hu
    | i + 1, hu => simp at hu
  | j + 1, hj => simp at hj
theorem info_de : (Tryz.prog.info? 49).map (fun i => (i.zero, i.size, i.bytes)) = some (some (.agg #[.string ⟨#[]⟩, .slice none 0 0]), 2, 40) := by kernel_rfl
theorem made_one (w : World) : (Instr.makeSlice 30 (.int .i64 1) (.int .i64 1)).run Tryz.prog w = .ok (.slice (some ⟨w.heap.size, 0, none⟩) 1 1) (w.alloc (.cells #[.string ⟨#[]⟩, .slice none 0 0] 49)) := by
  obtain ⟨i0, hi, hzz⟩ := Option.map_eq_some_iff.1 info_de
  simp only [Prod.mk.injEq] at hzz
  obtain ⟨hz0, hz1, hz2⟩ := hzz
  have h := run_make (P := Tryz.prog) w 30 49 i0 _ Tryz.underlying30 hi hz0 .i64 .i64 1 1 (by decide) (by decide) (by rw [hz2]; decide) (by decide)
  rw [hz1, show madeCells (Value.agg #[.string ⟨#[]⟩, .slice none 0 0]).cells (Int.toNat 1 * 2) = #[.string ⟨#[]⟩, .slice none 0 0] from Array.ext (by rw [size_madeCells]; rfl) (fun i h1 h2 => by
    have : i = 0 ∨ i = 1 := by (have : i < 2 := h2); omega
    rcases this with rfl | rfl <;> simp [madeCells, Value.cells])] at h
  exact h
set_option maxRecDepth 100000 in
set_option maxHeartbeats 8000000 in
theorem awake_any (w : World) (hG : ResG w) : Calls Tryz.prog 4 #[] w fun e w' => e = .returned (.bool true) ∧ Below w.heap.size w w' := by
  have HG := Aside0.mk (show ∀ W', Below w.heap.size w W' → ResG W' from fun W' h => hG.below h hG.1)
  have HIN := Aside0.mk input_nil
  have HTX := Aside0.mk text_nil
  have HAK := Aside0.mk alike_nil
  generalize hz : (#[.int .u8 0, .int .u8 0, .int .u8 0, .int .u8 0, .int .u8 0, .int .u8 0, .int .u8 0, .int .u8 0, .int .u8 0, .int .u8 0, .int .u8 0, .int .u8 0, .int .u8 0, .int .u8 0, .int .u8 0, .int .u8 0, .int .u8 0, .int .u8 0, .int .u8 0, .int .u8 0, .int .u8 0, .int .u8 0, .int .u8 0, .int .u8 0, .int .u8 0, .int .u8 0, .int .u8 0, .int .u8 0, .int .u8 0, .int .u8 0, .int .u8 0, .int .u8 0] : Array Value) = zc
  have HZ := Aside0.mk hz
  generalize hy : (zc.setIfInBounds 0 (.int .u8 171)).setIfInBounds 1 (.int .u8 1) = yc
  have HSH := Aside0.mk (show ∀ W', Calls Tryz.prog 5 #[.agg yc] W' fun e w' => e = .returned (.string ⟨#[97, 98, 48, 49, 48, 48, 48, 48]⟩) ∧ Below W'.heap.size W' w' from fun W' => by
    have h := short_any ([171, 1] ++ List.replicate 30 0) (by simp) (by intro z hz; simp at hz; omega) W'
    rw [show strOfNums (hexl (([171, 1] ++ List.replicate 30 0 : List Int).take 4)) = ⟨#[97, 98, 48, 49, 48, 48, 48, 48]⟩ from by decide +kernel] at h
    rw [← hy, ← hz]
    exact h)
  have HSB := Aside0.mk (schema_bad zc hz)
  have hms := made_one
  have hzs : zc.size = 32 := by rw [← hz]; rfl
  have hsc : ∀ W' : World, (storeCells ⟨W'.heap.size, 0, none⟩ zc.toList).run Tryz.prog (W'.alloc (.cells zc 22)) = .ok () ((W'.alloc (.cells zc 22)).setRow W'.heap.size zc) := fun W' => ar_cells (c0 := zc) (c1 := zc) (blk_new W' _) hzs hzs (by rw [← hz]; exact Array.all_eq_true_iff_forall_mem.2 fun v hv => by simp at hv; rw [hv]; rfl)
  clear hG
  go_enter Tryz.func4, Tryz.ntmps4
  go_upto_region 2 with (go_at_call 6; refine (HIN.out _).mono ?_; rintro e W1 ⟨⟨v, rfl, hv⟩, h1⟩; have HB1 := Aside0.mk h1; have HV := Aside0.mk hv; clear h1 hv)
  go_upto_region 3 with (go_at_call 7; refine (HSB.out W1.heap.size _ (HG.out _ (below_then HB1.out HB1.out.size (below_alloc (B0 W1) _))) ((blk_cell (blk_new W1 _) 0).trans rfl) ((blk_cell (blk_new W1 _) 1).trans rfl)).mono ?_; rintro e W2 ⟨rfl, h1⟩; have HB2 := Aside0.mk (below_then HB1.out HB1.out.size (below_then (below_alloc (B0 W1) _) (below_alloc (B0 W1) _).size h1)); have HV2 := Aside0.mk (HV.out.below (below_then (below_alloc (B0 W1) _) (below_alloc (B0 W1) _).size h1)); clear h1 HV)
  obtain ⟨W2a, hW2a⟩ : ∃ X, X = (W2.alloc (.cells zc 22)).setRow W2.heap.size zc := ⟨_, rfl⟩
  have hb2 : Below W2.heap.size W2 W2a := by rw [hW2a]; exact below_row (below_alloc (B0 W2) _) (Nat.le_refl _) _
  have HB2A := Aside0.mk (below_then HB2.out HB2.out.size hb2)
  have HV3 := Aside0.mk (HV2.out.below hb2)
  rw [← hW2a]
  clear hW2a hb2 hsc hms
  go_upto_region 4 with (go_at_call 8; refine (HTX.out _).mono ?_; rintro e W3 ⟨rfl, h1⟩; have HB3 := Aside0.mk (below_then HB2A.out HB2A.out.size h1); have HV4 := Aside0.mk (HV3.out.below h1); clear h1)
  obtain ⟨A, c, rfl, hcc, hC, hnn⟩ := HV4.out
  have hk := blk_new W3 (.cells #[.int .u8 0] 5)
  have HSM := Aside0.mk (vestryref01_Same.calls 10 A c [0] (some ⟨W3.heap.size, 0, none⟩) 1 [0] true (W3.alloc (.cells #[.int .u8 0] 5)) (Kd.C_below hC (below_alloc (B0 W3) _)) hcc (row1 hk) (Nat.le_refl _) (by decide +kernel))
  clear hC hcc hnn hk
  go_wp2_with (first
    | (go_at_call 9; refine (HSM.out).mono ?_; rintro e W4 ⟨rfl, ⟨m4, rfl⟩⟩)
    | (go_at_call 10; refine (HAK.out _).mono ?_; rintro e W5 ⟨rfl, h1⟩; have HB5 := Aside0.mk h1; clear h1)
    | (go_at_call 5; refine (HSH.out _).mono ?_; rintro e W6 ⟨rfl, h1⟩; have HB6 := Aside0.mk h1; clear h1))
  all_goals first | (exfalso; have hq : zc = #[] := (by assumption); rw [hq] at hzs; simp at hzs; done) | skip
  go_ret
  have h1 := (below_then HB3.out HB3.out.size (pw_below_drewN (below_alloc (B0 W3) (.cells #[.int .u8 0] 5)) m4))
  exact ⟨rfl, below_then (below_then h1 h1.size HB5.out) (below_then h1 h1.size HB5.out).size HB6.out⟩
end Go.Proofs.YtckliinakgffpaaGreatDoor.HDg6
/- The law DigestShort. -/
namespace Go.Proofs.YtckliinakgffpaaGreatDoor.HDg7
open Go.RowKit Go.Shelf Go.Proofs.YtckliinakgffpaaGreatDoorW.PrintWords Go.Proofs.YtckliinakgffpaaGreatDoor.HLib Go.Proofs.YtckliinakgffpaaGreatDoor.HGr Go.Proofs.YtckliinakgffpaaGreatDoor.HNameP Go.Proofs.YtckliinakgffpaaGreatDoor.HName Go.Proofs.YtckliinakgffpaaGreatDoor.HPr Go.Proofs.YtckliinakgffpaaGreatDoor.HDg1 Go.Proofs.YtckliinakgffpaaGreatDoor.HDg2 Go.Proofs.YtckliinakgffpaaGreatDoor.HDg3 Go.Proofs.YtckliinakgffpaaGreatDoor.HDg4 Go.Proofs.YtckliinakgffpaaGreatDoor.HDg5 Go.Proofs.YtckliinakgffpaaGreatDoor.HDg6
open Go.Proofs.YtckliinakgffpaaGreatDoor.PDigestShort
set_option linter.unusedVariables false
set_option linter.unusedSimpArgs false
theorem digit_byte (v : Int) (h : 0 ≤ v ∧ v < 16) : 0 ≤ digit v ∧ digit v < 256 := by
  unfold digit
  split <;> omega
theorem hexl_get (zs : List Int) (kk : Nat) (hk : kk < 8) (hz : zs.length = 32) {hp : kk < (hexl (zs.take 4)).length} : (hexl (zs.take 4))[kk]'hp = digit (if kk % 2 = 0 then zs.getD (kk / 2) 0 / 16 else zs.getD (kk / 2) 0 % 16) := by
  match zs, hz with
  | a :: b :: c :: d :: r, _ =>
    revert hp
    rcases (show kk = 0 ∨ kk = 1 ∨ kk = 2 ∨ kk = 3 ∨ kk = 4 ∨ kk = 5 ∨ kk = 6 ∨ kk = 7 by omega) with rfl | rfl | rfl | rfl | rfl | rfl | rfl | rfl <;> intro hp <;> rfl
theorem load_ev {P : Program} {ops : Array Oper} {rest : List Oper} {o : Oper} {a : Act} {Q : Exit → Act → World → Prop} {W : World} (hgd : o.guard = none) {t : TypeId} {p : Operand} {v : Value} (ho : o.op = .load t p) (hr : (Instr.loadAt t (a.eval p)).run P W = .ok v W) (h : wpList P ops Q rest (a.put o.dst v) W) : wpList P ops Q (o :: rest) a W :=
  Kd.event_run hgd (by simp [execOp, ho, hr, Result.andThen]) h
set_option maxRecDepth 100000 in
set_option maxHeartbeats 8000000 in
theorem short_law (zs : List Int) (hz : zs.length = 32) (hb : ∀ z ∈ zs, 0 ≤ z ∧ z < 256) (w : World) (hG : ResG w) :
    Calls Tryz.prog 3 #[.agg (nums .u8 zs).toArray] w fun e w' => e = .returned (.bool true) ∧ Below w.heap.size w w' := by
  have hsh := fun W' => short_any zs hz hb W'
  obtain ⟨C, hC⟩ : ∃ C, C = (nums .u8 zs).toArray := ⟨_, rfl⟩
  have hcs : C.size = 32 := by rw [hC]; simp [nums, hz]
  rw [← hC] at hsh
  obtain ⟨W, hW⟩ : ∃ W, W = w.alloc (.cells C 22) := ⟨_, rfl⟩
  have hbw : Below w.heap.size w W := by rw [hW]; exact below_alloc (B0 w) _
  have hk : W.heap[w.heap.size]? = some (.cells C 22 (0, 0)) := by rw [hW]; exact blk_new w _
  obtain ⟨g, hg⟩ : ∃ g, g = w.heap.size := ⟨_, rfl⟩
  rw [← hg] at hk
  have HC := Aside0.mk (show ∀ j, j < 32 → ∀ W', Below W.heap.size W W' → W'.cell? ⟨g, j, none⟩ = some (.int .u8 (zs.getD j 0)) from fun j hj W' h => by
    rw [blk_cell (blk_below hk h) j, hC]
    simp [nums, hz, hj, List.getD_eq_getElem?_getD])
  have HLD := Aside0.mk (show ∀ W', Below W.heap.size W W' → (Instr.loadAt 22 (.pointer (some ⟨g, 0, none⟩))).run Tryz.prog W' = .ok (.agg C) W' from fun W' h => by
    simp only [Instr.loadAt, Instr.sureAddr, Sem.run_bind, Sem.run_pure, Result.andThen_ok]
    exact run_loadVar_row W' g 22 22 C (0, 0) _ (blk_below hk h) Tryz.underlying22 rfl (by rw [size_ar, hcs]))
  have HZ := Aside0.mk hz
  have HBY := Aside0.mk hb
  have HB := Aside0.mk hbw
  have HAW := Aside0.mk (awake_any W (hG.below hbw hG.1))
  have HSH := Aside0.mk hsh
  obtain ⟨s, hs⟩ : ∃ s, s = strOfNums (hexl (zs.take 4)) := ⟨_, rfl⟩
  rw [← hs] at HSH
  have HS := Aside0.mk hs
  have hs8 : s.size = 8 := by
    rw [hs]
    show (strOfNums _).data.size = 8
    simp [strOfNums, hexl_len, List.length_take, hz]
  rw [← hC]
  clear hC hk hbw hz hb hG hsh hs
  go_enter Tryz.func3, Tryz.ntmps3
  go_upto_region 1 with fail
  rw [← hW, ← hg]
  clear hW hg
  go_upto_region 3 with (go_at_call 4; refine (HAW.out).mono ?_; rintro e W1 ⟨rfl, h1⟩; have HB1 := Aside0.mk h1; clear h1)
  go_upto_region 8 with (first | (refine load_ev (t := 22) (p := .tmp 1) rfl rfl (HLD.out W1 HB1.out) ?_) | go_at_call 5; refine (HSH.out _).mono ?_; rintro e W2 ⟨rfl, h1⟩; have HB2 := Aside0.mk (below_then HB1.out HB1.out.size h1); clear h1)
  clear HLD HSH HAW hcs
  go_loopg [5, 6] 8 (fun gg s5 _ wr => ∃ kk : Nat, s5 = .int .i64 kk ∧ Aside0 (gg + kk = 8) ∧ Aside0 (Below W.heap.size W wr))
  case atStart => exact ⟨0, rfl, ⟨by omega⟩, HB2⟩
  case round =>
    obtain ⟨kk, rfl, HG, BW⟩ := hrel
    by_cases hlt : kk < 8
    · have f3 : (kk : Int) < 8 := by omega
      have f1 : decide ((kk : Int) < 8) = true := decide_eq_true f3
      have f5 : (0 : Int) ≤ (kk : Int) := by omega
      have f4 : IntKind.i64.wrap ((kk : Int) + 1) = (kk : Int) + 1 := by rw [IntKind.wrap_i64]; omega
      have c0 := HC.out (kk / 2) (by omega) wr BW.out
      obtain ⟨z, hz⟩ : ∃ z, z = zs.getD (kk / 2) 0 := ⟨_, rfl⟩
      rw [← hz] at c0
      have hb : 0 ≤ z ∧ z < 256 := by
        rw [hz, List.getD_eq_getElem?_getD, List.getElem?_eq_getElem (by have := HZ.out; omega), Option.getD_some]
        exact HBY.out _ (List.getElem_mem _)
      have HZK := Aside0.mk hz
      have HBB := Aside0.mk hb
      have hw : wrap64 z = z := by unfold wrap64; omega
      have ht : Int.tmod z 16 = z % 16 := Int.tmod_eq_emod_of_nonneg hb.1
      have hlen : (hexl (zs.take 4)).length = 8 := by rw [hexl_len, List.length_take]; have := HZ.out; omega
      have hidx : ∀ hp : kk < s.size, ((s[kk]'hp).toNat : Int) = digit (if kk % 2 = 0 then z / 16 else z % 16) := fun hp => by
        have e1 : s[kk] = UInt8.ofNat ((hexl (zs.take 4))[kk]'(by omega)).toNat := by
          have hs := HS.out
          subst hs
          show (strOfNums _).data[kk] = _
          simp [strOfNums]
        rw [e1, hexl_get zs kk hlt HZ.out, ← hz]
        have hd := digit_byte (if kk % 2 = 0 then z / 16 else z % 16) (by split <;> omega)
        obtain ⟨q, hqq⟩ : ∃ q, q = digit (if kk % 2 = 0 then z / 16 else z % 16) := ⟨_, rfl⟩
        rw [← hqq] at hd ⊢
        rw [show (UInt8.ofNat q.toNat).toNat = q.toNat % 256 from rfl]
        omega
      clear hz hb
      rcases Nat.mod_two_eq_zero_or_one kk with hm | hm
      · have hr : (kk : Int) % 2 = 0 := by omega
        have HSI := Aside0.mk (show ∀ hp : kk < s.size, ((s[kk]'hp).toNat : Int) = digit (z / 16) from fun hp => by rw [hidx hp, if_pos hm])
        have HI := Aside0.mk (show 0 ≤ z / 16 ∧ z / 16 < 16 from by have := HBB.out; omega)
        clear hidx hlen
        go_upto_region 13 with fail
        --REG0
        refine wp_region_held_drew (S := fun w' => Below W.heap.size W w') (by kernel_rfl) (pw_below_drewN BW.out 1) (fun hHeld => ?_)
        refine wpAnyH_take (i := 0) (v := .string s) rfl (by kernel_rfl) (by kernel_rfl) (by kernel_rfl) (fun _ _ _ h => h) (Or.inl ⟨by rfl, ?hy0⟩) hHeld ?_
        case hy0 => intro w' hSw; go_simp
        simp only [List.getElem_toArray, List.getElem_cons_succ, List.getElem_cons_zero, Act.put, List.setIfInBounds_toArray, List.set_cons_zero, List.set_cons_succ]
        refine wpAnyH_take (i := 1) (v := .int .i64 (kk : Nat)) rfl (by kernel_rfl) (by kernel_rfl) (by kernel_rfl) (fun _ _ _ h => h) (Or.inl ⟨by rfl, ?hy1⟩) hHeld ?_
        case hy1 => intro w' hSw; go_simp
        simp only [List.getElem_toArray, List.getElem_cons_succ, List.getElem_cons_zero, Act.put, List.setIfInBounds_toArray, List.set_cons_zero, List.set_cons_succ]
        refine wpAnyH_take (i := 2) (v := .int .u8 (digit (z / 16))) rfl (by kernel_rfl) (by kernel_rfl) (by kernel_rfl) (fun _ _ _ h => h) (Or.inl ⟨by rfl, ?hy2⟩) hHeld ?_
        case hy2 => intro w' hSw; go_simp; rw [HSI.out]
        simp only [List.getElem_toArray, List.getElem_cons_succ, List.getElem_cons_zero, Act.put, List.setIfInBounds_toArray, List.set_cons_zero, List.set_cons_succ]
        refine wpAnyH_take (i := 3) (v := .string ⟨#[48, 49, 50, 51, 52, 53, 54, 55, 56, 57, 97, 98, 99, 100, 101, 102]⟩) rfl (by kernel_rfl) (by kernel_rfl) (by kernel_rfl) (fun _ _ _ h => h) (Or.inl ⟨by rfl, ?hy3⟩) hHeld ?_
        case hy3 => intro w' hSw; go_simp
        simp only [List.getElem_toArray, List.getElem_cons_succ, List.getElem_cons_zero, Act.put, List.setIfInBounds_toArray, List.set_cons_zero, List.set_cons_succ]
        refine wpAnyH_take (i := 4) (v := .int .i64 (z / 16)) rfl (by kernel_rfl) (by kernel_rfl) (by kernel_rfl) (fun _ _ _ h => h) (Or.inl ⟨by rfl, ?hy4⟩) hHeld ?_
        case hy4 => intro w' hSw; go_simp
        simp only [List.getElem_toArray, List.getElem_cons_succ, List.getElem_cons_zero, Act.put, List.setIfInBounds_toArray, List.set_cons_zero, List.set_cons_succ]
        refine wpAnyH_take (i := 5) (v := .int .u8 (digit (z / 16))) rfl (by kernel_rfl) (by kernel_rfl) (by kernel_rfl) (fun _ _ _ h => h) (Or.inl ⟨by rfl, ?hy5⟩) hHeld ?_
        case hy5 => intro w' hSw; go_simp; rw [dif_pos HI.out, dg_get _ HI.out.1 HI.out.2]; rfl
        simp only [List.getElem_toArray, List.getElem_cons_succ, List.getElem_cons_zero, Act.put, List.setIfInBounds_toArray, List.set_cons_zero, List.set_cons_succ]
        refine wpAnyH_take (i := 6) (v := .bool false) rfl (by kernel_rfl) (by kernel_rfl) (by kernel_rfl) (fun _ _ _ h => h) (Or.inl ⟨by rfl, ?hy6⟩) hHeld ?_
        case hy6 => intro w' hSw; go_simp
        simp only [List.getElem_toArray, List.getElem_cons_succ, List.getElem_cons_zero, Act.put, List.setIfInBounds_toArray, List.set_cons_zero, List.set_cons_succ]
        refine wpAnyH_done (by kernel_rfl) ?_ _
        --END0
        have HH := Aside0.mk hHeld
        clear hHeld
        go_wp2
        go_roundg (8 - (kk + 1))
        case measure => have := HG.out; omega
        case rel => exact ⟨kk + 1, by first | rfl | go_num, ⟨by have := HG.out; omega⟩, HH⟩
      · have hr : (kk : Int) % 2 = 1 := by omega
        have HSI := Aside0.mk (show ∀ hp : kk < s.size, ((s[kk]'hp).toNat : Int) = digit (z % 16) from fun hp => by rw [hidx hp, if_neg (by omega)])
        have HI := Aside0.mk (show 0 ≤ z % 16 ∧ z % 16 < 16 from by have := HBB.out; omega)
        clear hidx hlen
        go_upto_region 13 with fail
        --REG1
        refine wp_region_held_drew (S := fun w' => Below W.heap.size W w') (by kernel_rfl) (pw_below_drewN BW.out 1) (fun hHeld => ?_)
        refine wpAnyH_take (i := 0) (v := .string s) rfl (by kernel_rfl) (by kernel_rfl) (by kernel_rfl) (fun _ _ _ h => h) (Or.inl ⟨by rfl, ?hy0⟩) hHeld ?_
        case hy0 => intro w' hSw; go_simp
        simp only [List.getElem_toArray, List.getElem_cons_succ, List.getElem_cons_zero, Act.put, List.setIfInBounds_toArray, List.set_cons_zero, List.set_cons_succ]
        refine wpAnyH_take (i := 1) (v := .int .i64 (kk : Nat)) rfl (by kernel_rfl) (by kernel_rfl) (by kernel_rfl) (fun _ _ _ h => h) (Or.inl ⟨by rfl, ?hy1⟩) hHeld ?_
        case hy1 => intro w' hSw; go_simp
        simp only [List.getElem_toArray, List.getElem_cons_succ, List.getElem_cons_zero, Act.put, List.setIfInBounds_toArray, List.set_cons_zero, List.set_cons_succ]
        refine wpAnyH_take (i := 2) (v := .int .u8 (digit (z % 16))) rfl (by kernel_rfl) (by kernel_rfl) (by kernel_rfl) (fun _ _ _ h => h) (Or.inl ⟨by rfl, ?hy2⟩) hHeld ?_
        case hy2 => intro w' hSw; go_simp; rw [HSI.out]
        simp only [List.getElem_toArray, List.getElem_cons_succ, List.getElem_cons_zero, Act.put, List.setIfInBounds_toArray, List.set_cons_zero, List.set_cons_succ]
        refine wpAnyH_take (i := 3) (v := .string ⟨#[48, 49, 50, 51, 52, 53, 54, 55, 56, 57, 97, 98, 99, 100, 101, 102]⟩) rfl (by kernel_rfl) (by kernel_rfl) (by kernel_rfl) (fun _ _ _ h => h) (Or.inl ⟨by rfl, ?hy3⟩) hHeld ?_
        case hy3 => intro w' hSw; go_simp
        simp only [List.getElem_toArray, List.getElem_cons_succ, List.getElem_cons_zero, Act.put, List.setIfInBounds_toArray, List.set_cons_zero, List.set_cons_succ]
        refine wpAnyH_take (i := 4) (v := .int .i64 (z % 16)) rfl (by kernel_rfl) (by kernel_rfl) (by kernel_rfl) (fun _ _ _ h => h) (Or.inl ⟨by rfl, ?hy4⟩) hHeld ?_
        case hy4 => intro w' hSw; go_simp
        simp only [List.getElem_toArray, List.getElem_cons_succ, List.getElem_cons_zero, Act.put, List.setIfInBounds_toArray, List.set_cons_zero, List.set_cons_succ]
        refine wpAnyH_take (i := 5) (v := .int .u8 (digit (z % 16))) rfl (by kernel_rfl) (by kernel_rfl) (by kernel_rfl) (fun _ _ _ h => h) (Or.inl ⟨by rfl, ?hy5⟩) hHeld ?_
        case hy5 => intro w' hSw; go_simp; rw [dif_pos HI.out, dg_get _ HI.out.1 HI.out.2]; rfl
        simp only [List.getElem_toArray, List.getElem_cons_succ, List.getElem_cons_zero, Act.put, List.setIfInBounds_toArray, List.set_cons_zero, List.set_cons_succ]
        refine wpAnyH_take (i := 6) (v := .bool false) rfl (by kernel_rfl) (by kernel_rfl) (by kernel_rfl) (fun _ _ _ h => h) (Or.inl ⟨by rfl, ?hy6⟩) hHeld ?_
        case hy6 => intro w' hSw; go_simp
        simp only [List.getElem_toArray, List.getElem_cons_succ, List.getElem_cons_zero, Act.put, List.setIfInBounds_toArray, List.set_cons_zero, List.set_cons_succ]
        refine wpAnyH_done (by kernel_rfl) ?_ _
        --END1
        have HH := Aside0.mk hHeld
        clear hHeld
        go_wp2
        go_roundg (8 - (kk + 1))
        case measure => have := HG.out; omega
        case rel => exact ⟨kk + 1, by first | rfl | go_num, ⟨by have := HG.out; omega⟩, HH⟩
    · obtain rfl : kk = 8 := by have := HG.out; omega
      have f3 : ¬ ((8 : Nat) : Int) < 8 := by omega
      go_wp2
      go_ret
      exact ⟨rfl, below_then HB.out HB.out.size BW.out⟩
theorem row_short (zs : List Int) (W : World) (hz : zs.length = 32) (hb : ∀ z ∈ zs, (Lit.int .u8 z).wf = true) (hG : ResG W) :
    Calls Tryz.prog 3 #[.agg (nums .u8 zs).toArray] W fun e w' => e = .returned (.bool true) ∧ Below W.heap.size W w' := short_law zs hz (fun z h => wf_u8 (hb z h)) W hG
end Go.Proofs.YtckliinakgffpaaGreatDoor.HDg7
