/- The law's own check at two fixed inputs. -/
import Derived.Test.YtndadfhmdkkokaaDoorHShaB
import Derived.Lib.SlBytesConst
namespace Go.Proofs.YtndadfhmdkkokaaDoor.HShaA
open Go.RowKit Go.Proofs.YtndadfhmdkkokaaDoorW.PrintWords Go.Proofs.YtndadfhmdkkokaaDoor.HLib Go.Proofs.YtndadfhmdkkokaaDoor.HSha Go.Proofs.YtndadfhmdkkokaaDoor.HShaS Go.Proofs.YtndadfhmdkkokaaDoor.HShaP Go.Proofs.YtndadfhmdkkokaaDoor.HShaU Go.Proofs.YtndadfhmdkkokaaDoor.HShaV Go.Proofs.YtndadfhmdkkokaaDoor.HShaW Go.Proofs.YtndadfhmdkkokaaDoor.HShaB
set_option linter.unusedVariables false
set_option linter.unusedSimpArgs false

theorem dig0 : rd (sumP []) 0 = 227 ∧ rd (sumP []) 1 = 176 ∧ rd (sumP []) 2 = 196 ∧ rd (sumP []) 31 = 85 := of_decide_eq_true (by kernel_rfl)
theorem dig1 : rd (sumP [97, 98, 99]) 0 = 186 ∧ rd (sumP [97, 98, 99]) 1 = 120 ∧ rd (sumP [97, 98, 99]) 2 = 22 ∧ rd (sumP [97, 98, 99]) 31 = 173 := of_decide_eq_true (by kernel_rfl)
theorem const_0 (w : World) (hG : Glob w) : Calls Tryd.prog 16 #[.int .i64 0] w fun e w' => e = .returned (.tuple #[.int .u32 1116352408, .bool true]) ∧ w' = w :=
  (constant_any 0 w hG).mono (fun e w' h => ⟨h.1.trans rfl, h.2⟩)
theorem const_64 (w : World) (hG : Glob w) : Calls Tryd.prog 16 #[.int .i64 64] w fun e w' => e = .returned (.tuple #[.int .u32 0, .bool false]) ∧ w' = w :=
  (constant_any 64 w hG).mono (fun e w' h => ⟨h.1.trans rfl, h.2⟩)

set_option maxRecDepth 100000 in
set_option maxHeartbeats 8000000 in
theorem awake_any (w : World) (hG : Glob w) : Calls Tryd.prog 8 #[] w fun e w' => e = .returned (.bool true) ∧ Below w.heap.size w w' := by
  have HG := Aside0.mk hG
  clear hG
  go_enter Tryd.func8, Tryd.ntmps8
  go_wp2_with fail
  refine (sum_any w none 0 [] (Kd.C_nil _ _) (fun x hx => by cases hx) (by decide) (by decide) (by decide) HG.out).mono ?_
  rintro e w1 ⟨rfl, hb1⟩
  have HB1 := Aside0.mk hb1
  have HG1 := Aside0.mk (glob_below HG.out HG.out.1 hb1)
  have hcv := Lib.run_convert_bytes_const (P := Tryd.prog) (w1.alloc (.cells (nums .u8 (sumP [])).toArray 26)) 24 5 #[.int .u8 97, .int .u8 98, .int .u8 99] 3 3 Tryd.underlying24 Tryd.underlying5
  rw [World.size_alloc] at hcv
  have hd : cat [] = [] := rfl
  rw [hd]
  have HST := Aside0.mk (run_storeAt_new (P := Tryd.prog) w1 26 (nums .u8 (List.replicate 32 0)).toArray (nums .u8 (sumP [])).toArray (by rw [size_out]; simp [nums, sumP_len]) (by simp [nums, sumP_len]) (by simp [nums, Value.oneCell']))
  clear hb1 hd
  go_wp2_with (refine store_event rfl (t := 26) (p := 1) (v := .tmp 7) rfl rfl (w1 := w1.alloc (.cells (nums .u8 (sumP [])).toArray 26)) ?hr ?_; (case hr => exact run_store_of rfl HST.out); intro w2 hw2; subst hw2)
  clear hcv
  obtain ⟨W3, hW3⟩ : ∃ W, W = ((w1.alloc (.cells (nums .u8 (sumP [])).toArray 26)).alloc (.cells #[.int .u8 97, .int .u8 98, .int .u8 99] 5 (3, 4))).alloc (.cells #[.slice (some ⟨w1.heap.size + 1, 0, none⟩) 3 3] 24) := ⟨_, rfl⟩
  have h1 : W3.heap[w1.heap.size + 1]? = some (.cells (nums .u8 [97, 98, 99]).toArray 5 (3, 4)) := by
    have h := blk_new (w1.alloc (.cells (nums .u8 (sumP [])).toArray 26)) (.cells #[.int .u8 97, .int .u8 98, .int .u8 99] 5 (3, 4))
    rw [World.size_alloc] at h
    rw [hW3]
    exact blk_alloc h _
  have h2 : W3.cell? ⟨w1.heap.size + 1 + 1, 0, none⟩ = some (.slice (some ⟨w1.heap.size + 1, 0, none⟩) 3 3) := by
    have h := blk_new ((w1.alloc (.cells (nums .u8 (sumP [])).toArray 26)).alloc (.cells #[.int .u8 97, .int .u8 98, .int .u8 99] 5 (3, 4))) (.cells #[.slice (some ⟨w1.heap.size + 1, 0, none⟩) 3 3] 24)
    rw [World.size_alloc, World.size_alloc] at h
    rw [hW3]
    exact blk_cell h 0
  have h3 : IsArr W3 w1.heap.size .u8 26 (sumP []) := by
    rw [hW3]
    exact blk_alloc (blk_alloc (blk_new w1 _) _) _
  have hB3 : Below w.heap.size w W3 := by
    rw [hW3]
    exact below_alloc (below_alloc (below_alloc HB1.out _) _) _
  rw [← hW3]
  refine (sum_any W3 (some ⟨w1.heap.size + 1 + 1, 0, none⟩) 1 [[97, 98, 99]] (KB_one (xs := [97, 98, 99]) h2 (by decide) (bytes_C h1 (by decide))) (by decide) (by decide) (by decide) (by decide) (glob_below HG.out HG.out.1 hB3)).mono ?_
  rintro e w2 ⟨rfl, hb2⟩
  rw [show cat [[97, 98, 99]] = [97, 98, 99] from rfl]
  have HA1 := Aside0.mk (h3.below hb2 (arr_lt h3))
  have HB2 := Aside0.mk (hB3.trans (hb2.mono hB3.size))
  have HG2 := Aside0.mk (glob_below HG.out HG.out.1 HB2.out)
  have HST2 := Aside0.mk (run_storeAt_new (P := Tryd.prog) w2 26 (nums .u8 (List.replicate 32 0)).toArray (nums .u8 (sumP [97, 98, 99])).toArray (by rw [size_out]; simp [nums, sumP_len]) (by simp [nums, sumP_len]) (by simp [nums, Value.oneCell']))
  clear h1 h2 h3 hB3 hb2 hW3
  have hg4 : Glob (w2.alloc (.cells (nums .u8 (sumP [97, 98, 99])).toArray 26)) := glob_below HG2.out HG2.out.1 (below_alloc (B0 w2) _)
  have HA1' : Aside0 (IsArr (w2.alloc (.cells (nums .u8 (sumP [97, 98, 99])).toArray 26)) w1.heap.size .u8 26 (sumP [])) := ⟨blk_alloc HA1.out _⟩
  have HA2' : Aside0 (IsArr (w2.alloc (.cells (nums .u8 (sumP [97, 98, 99])).toArray 26)) w2.heap.size .u8 26 (sumP [97, 98, 99])) := ⟨blk_new w2 _⟩
  have HG4 := Aside0.mk hg4
  have HB4 : Aside0 (Below w.heap.size w (w2.alloc (.cells (nums .u8 (sumP [97, 98, 99])).toArray 26))) := ⟨below_alloc HB2.out _⟩
  clear hg4
  go_wp2_with (refine store_event rfl (t := 26) (p := 2) (v := .tmp 11) rfl rfl (w1 := w2.alloc (.cells (nums .u8 (sumP [97, 98, 99])).toArray 26)) ?hr ?_; (case hr => exact run_store_of rfl HST2.out); intro w4 hw4; subst hw4)
  obtain ⟨W4, hW4⟩ : ∃ W, W = w2.alloc (.cells (nums .u8 (sumP [97, 98, 99])).toArray 26) := ⟨_, rfl⟩
  rw [← hW4] at HA1' HA2' HG4 HB4 ⊢
  clear hW4
  refine (const_0 W4 HG4.out).mono ?_
  rintro e w5 ⟨rfl, rfl⟩
  go_wp2_with fail
  refine (const_64 w5 HG4.out).mono ?_
  rintro e w6 ⟨rfl, rfl⟩
  have a0 : w6.cell? ⟨w1.heap.size, 0, none⟩ = some (.int .u8 227) := by
    have h := HA1'.out.cell 0 (by decide) (by rw [sumP_len]; decide)
    rw [dig0.1] at h
    exact h
  have a1 : w6.cell? ⟨w1.heap.size, 1, none⟩ = some (.int .u8 176) := by
    have h := HA1'.out.cell 1 (by decide) (by rw [sumP_len]; decide)
    rw [dig0.2.1] at h
    exact h
  have a2 : w6.cell? ⟨w1.heap.size, 2, none⟩ = some (.int .u8 196) := by
    have h := HA1'.out.cell 2 (by decide) (by rw [sumP_len]; decide)
    rw [dig0.2.2.1] at h
    exact h
  have a31 : w6.cell? ⟨w1.heap.size, 31, none⟩ = some (.int .u8 85) := by
    have h := HA1'.out.cell 31 (by decide) (by rw [sumP_len]; decide)
    rw [dig0.2.2.2] at h
    exact h
  have b0 : w6.cell? ⟨w2.heap.size, 0, none⟩ = some (.int .u8 186) := by
    have h := HA2'.out.cell 0 (by decide) (by rw [sumP_len]; decide)
    rw [dig1.1] at h
    exact h
  have b1 : w6.cell? ⟨w2.heap.size, 1, none⟩ = some (.int .u8 120) := by
    have h := HA2'.out.cell 1 (by decide) (by rw [sumP_len]; decide)
    rw [dig1.2.1] at h
    exact h
  have b2 : w6.cell? ⟨w2.heap.size, 2, none⟩ = some (.int .u8 22) := by
    have h := HA2'.out.cell 2 (by decide) (by rw [sumP_len]; decide)
    rw [dig1.2.2.1] at h
    exact h
  have b31 : w6.cell? ⟨w2.heap.size, 31, none⟩ = some (.int .u8 173) := by
    have h := HA2'.out.cell 31 (by decide) (by rw [sumP_len]; decide)
    rw [dig1.2.2.2] at h
    exact h
  go_wp2_with fail
  refine (start_any w6).mono ?_
  rintro e w7 ⟨rfl, hb7⟩
  have HB7 := Aside0.mk (HB4.out.trans (hb7.mono HB4.out.size))
  clear hb7
  have hix7 : (Instr.index 32 (.agg (nums .u32 ST).toArray) (.int .i64 0)).run Tryd.prog w7 = .ok (.int .u32 1779033703) w7 := arr_index Tryd.underlying32 .u32 Tryd.underlying31 info_u32 ST 0 (by decide) (by decide) rfl w7
  go_wp2_with fail
  refine (padding_any 0 w7 (by decide) (by decide)).mono ?_
  rintro e w8 ⟨v, rfl, hR, hb8⟩
  obtain ⟨A8, c8, hv8, _, _⟩ := Kd.R_reads hR
  rw [show (padP 0).length = 64 from rfl] at hv8
  subst hv8
  have HB8 := Aside0.mk (HB7.out.trans (hb8.mono HB7.out.size))
  clear hb8 hR
  go_wp2
  go_ret
  exact ⟨rfl, HB8.out⟩

end Go.Proofs.YtndadfhmdkkokaaDoor.HShaA
