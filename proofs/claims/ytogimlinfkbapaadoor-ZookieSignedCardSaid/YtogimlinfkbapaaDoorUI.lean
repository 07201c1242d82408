/- zookie.Mint. -/
import Derived.Test.YtogimlinfkbapaaDoorUH
import Derived.Test.YtogimlinfkbapaaDoorUG
import Derived.Test.YtogimlinfkbapaaDoorUE
import Derived.Deep.Cut
import Derived.Test.YtogimlinfkbapaaDoorUA
import Derived.ChangeKeysEq
namespace Go.Proofs.YtogimlinfkbapaaDoor.HZookM
open Go.RowKit Go.Proofs.YtogimlinfkbapaaDoorW.PrintWords Go.Proofs.YtogimlinfkbapaaDoor.HLib Go.Proofs.YtogimlinfkbapaaDoor.HSha Go.Proofs.YtogimlinfkbapaaDoor.HShaU Go.Proofs.YtogimlinfkbapaaDoor.HShaS Go.Proofs.YtogimlinfkbapaaDoor.HShaV Go.Proofs.YtogimlinfkbapaaDoor.HShaB Go.Proofs.YtogimlinfkbapaaDoor.HMac Go.Proofs.YtogimlinfkbapaaDoor.HMacC Go.Proofs.YtogimlinfkbapaaDoor.HMacS Go.Proofs.YtogimlinfkbapaaDoor.HZook Go.Proofs.YtogimlinfkbapaaDoor.HZookP Go.Proofs.YtogimlinfkbapaaDoor.HJoin Go.Proofs.YtogimlinfkbapaaDoor.HWireS Go.Proofs.YtogimlinfkbapaaDoor.HEnc
set_option linter.unusedVariables false
set_option linter.unusedSimpArgs false

theorem macP_len (key bs : List Int) : (macP key bs).length = 32 := sumP_len _
theorem macP_byte (key bs : List Int) : ∀ x ∈ macP key bs, 0 ≤ x ∧ x < 256 := sumP_byte _
def signP (key bs : List Int) : ByteArray := encS (bs ++ macP key bs)
theorem cat_one (bs : List Int) : HShaW.cat [bs] = bs := by simp [HShaW.cat]
theorem pay_byte (r : Nat) (d : List Int) (hd : ∀ x ∈ d, 0 ≤ x ∧ x < 256) : ∀ x ∈ payP r d, 0 ≤ x ∧ x < 256 := by
  intro x hx
  rcases List.mem_cons.1 hx with h | h
  · rw [h]; omega
  · rcases List.mem_append.1 h with h | h
    · exact HWireS.enc_byte r x h
    · exact hd x h
set_option maxRecDepth 20000 in
set_option maxHeartbeats 4000000 in
theorem mint_bad (w : World) (vk : Value) (v r : Int) (d : List Int) (hd : d.length = 32) (hc : chk v r ≠ 0) :
    Calls Tryd.prog 10 #[vk, zk v r d] w fun e w' => e = .returned (.tuple #[.string ByteArray.empty, codeV (chk v r)]) ∧ Below w.heap.size w w' := by
  have HD := Aside0.mk hd
  have HC := Aside0.mk hc
  clear hd hc
  have HB := Aside0.mk (show Below w.heap.size w (w.alloc (.cells (zkC v r d) 26)) from below_alloc (B0 w) _)
  have HL := Aside0.mk (zk_load (blk_new w _) HD.out : (Instr.loadAt 26 (.pointer (some ⟨w.heap.size, 0, none⟩))).run Tryd.prog (w.alloc (.cells (zkC v r d) 26)) = _)
  go_enter Tryd.func10, Tryd.ntmps10
  go_wp2_with (refine load_ev (t := 26) (p := .tmp 3) rfl rfl HL.out ?_)
  refine (payload_bad v r d HD.out HC.out _).mono ?_
  rintro e w1 ⟨rfl, hb⟩
  have HB1 := Aside0.mk (below_step HB.out hb)
  have HL1 := Aside0.mk (zk_load ((hb.block w.heap.size (by simp)).trans (blk_new w _)) HD.out : (Instr.loadAt 26 (.pointer (some ⟨w.heap.size, 0, none⟩))).run Tryd.prog w1 = _)
  clear hb HL HB
  go_wp2_with (refine load_ev (t := 26) (p := .tmp 3) rfl rfl HL1.out ?_)
  refine (check_any v r d HD.out _).mono ?_
  rintro e w2 ⟨rfl, hb⟩
  have HB2 := Aside0.mk (below_step HB1.out hb)
  clear hb
  go_wp2
  go_ret2
  exact ⟨rfl, HB2.out⟩
set_option maxRecDepth 20000 in
set_option maxHeartbeats 4000000 in
theorem mint_good (w : World) (vk : Value) (key : List Int) (hvk : Bv w vk key) (hkb : ∀ x ∈ key, 0 ≤ x ∧ x < 256) (hkl : key.length ≤ 4294960000) (r : Nat) (d : List Int) (hd : d.length = 32) (hdb : ∀ x ∈ d, 0 ≤ x ∧ x < 256) (hr : r < 9223372036854775808) (hG : Glob w) :
    Calls Tryd.prog 10 #[vk, zk 1 r d] w fun e w' => e = .returned (.tuple #[.string (signP key (payP r d)), .nilIface]) ∧ Below w.heap.size w w' := by
  have HD := Aside0.mk hd
  have HR := Aside0.mk hr
  have HDB := Aside0.mk hdb
  have HK := Aside0.mk hvk
  have HKB := Aside0.mk (And.intro hkb hkl)
  have HG := Aside0.mk hG
  obtain ⟨Ak, ck, rfl, _, _⟩ := id hvk
  clear hd hr hdb hvk hkb hkl hG
  have HB := Aside0.mk (show Below w.heap.size w (w.alloc (.cells (zkC 1 r d) 26)) from below_alloc (B0 w) _)
  have HL := Aside0.mk (zk_load (blk_new w _) HD.out : (Instr.loadAt 26 (.pointer (some ⟨w.heap.size, 0, none⟩))).run Tryd.prog (w.alloc (.cells (zkC 1 r d) 26)) = _)
  go_enter Tryd.func10, Tryd.ntmps10
  go_wp2_with (refine load_ev (t := 26) (p := .tmp 3) rfl rfl HL.out ?_)
  refine (payload_good r d HD.out HR.out _).mono ?_
  rintro e w1 ⟨v1, rfl, hp, hb⟩
  have HB1 := Aside0.mk (below_step HB.out hb)
  have hpl := pay_len r d HD.out (by have := HR.out; omega)
  have hpb := pay_byte r d HDB.out
  obtain ⟨bs, hbs⟩ : ∃ b, b = payP r d := ⟨_, rfl⟩
  rw [← hbs] at hp hpl hpb
  have HBS := Aside0.mk hbs
  have HPL := Aside0.mk (And.intro hpl hpb)
  obtain ⟨A1, c1, rfl, hc1, hC1, hn1⟩ := hp
  have HP := Aside0.mk (And.intro hc1 hC1)
  have HC1 := Aside0.mk hc1
  clear hb HL HB hbs hpl hpb hc1 hC1 hn1
  go_wp2_with fail
  have hbx : Below w1.heap.size w1 (w1.alloc (.cells #[.slice A1 bs.length c1] 22)) := below_alloc (B0 w1) _
  have hkb : KB.C (w1.alloc (.cells #[.slice A1 bs.length c1] 22)) (some ⟨w1.heap.size, 0, none⟩) 1 [bs] := KB_one (c0 := c1) (blk_cell (blk_new w1 _) 0) HP.out.1 (Kd.C_below HP.out.2 hbx)
  refine (mac_any _ _ key ((HK.out.below HB1.out).below hbx) HKB.out.1 (by have := HKB.out.2; omega) _ 1 [bs] hkb (show 1 ≤ 1 by decide) (by rw [cat_one]; exact HPL.out.2) (by rw [cat_one]; have := HPL.out.1; omega) (show 1 ≤ 4294960000 by decide) (glob_below HG.out HG.out.1 (below_step HB1.out hbx))).mono ?_
  rintro e w3 ⟨rfl, hb3⟩
  rw [cat_one]
  have HB3 := Aside0.mk (below_step (below_step HB1.out hbx) hb3)
  have HP3 := Aside0.mk (Kd.C_below (Kd.C_below HP.out.2 hbx) hb3)
  obtain ⟨M, hM⟩ : ∃ M, M = macP key bs := ⟨_, rfl⟩
  have HML := Aside0.mk (show M.length = 32 from by rw [hM]; exact macP_len _ _)
  have HMB := Aside0.mk (show ∀ x ∈ M, 0 ≤ x ∧ x < 256 from by rw [hM]; exact macP_byte _ _)
  rw [← hM]
  have HM := Aside0.mk hM
  have HST0 := Aside0.mk (run_storeAt_new (P := Tryd.prog) w3 24 (nums .u8 (List.replicate 32 0)).toArray (nums .u8 M).toArray (by rw [HZookR.size_dg]; simp [nums, HML.out]) (by simp [nums, HML.out]) (by simp [nums, Value.oneCell']))
  obtain ⟨We, hWe⟩ : ∃ W, W = w3.alloc (.cells (nums .u8 M).toArray 24) := ⟨_, rfl⟩
  have hbe : Below w3.heap.size w3 We := by rw [hWe]; exact below_alloc (B0 w3) _
  have HBW := Aside0.mk (below_step HB3.out hbe)
  have HA : Aside0 (IsArr We w3.heap.size .u8 24 M) := ⟨by rw [hWe]; exact blk_new w3 _⟩
  have HPW := Aside0.mk (Kd.C_below HP3.out hbe)
  have hst0 := HST0.out
  rw [← hWe] at hst0
  have HST := Aside0.mk hst0
  clear hb3 hM hst0 HST0 hWe hbe hbx hkb HP HP3 HB3 HB1
  go_wp2_with (refine store_event rfl (t := 24) (p := 8) (v := .tmp 21) rfl rfl (w1 := We) ?hr ?_; (case hr => exact run_store_of rfl HST.out); intro w5 hw5; have hw6 := hw5.symm; subst hw6)
  have hbx : Below We.heap.size We (We.alloc (.cells #[.slice A1 bs.length c1, .slice (some ⟨w3.heap.size, 0, none⟩) 32 32] 22)) := below_alloc (B0 We) _
  have hmc := bytes_C (blk_below HA.out hbx) (by rw [HML.out]; decide)
  have hpc := Kd.C_below HPW.out hbx
  have hkb : HJoin.KB.C (We.alloc (.cells #[.slice A1 bs.length c1, .slice (some ⟨w3.heap.size, 0, none⟩) 32 32] 22)) (some ⟨We.heap.size, 0, none⟩) [bs, M].length [bs, M] := by
    refine KB_list (vs := [.slice A1 bs.length c1, .slice (some ⟨w3.heap.size, 0, none⟩) 32 32]) (blk_new We _) rfl (by simp) ?_
    intro i v xs h1 h2
    rcases i with _ | _ | i
    · simp at h1 h2; subst h1 h2; exact ⟨_, _, rfl, HC1.out, hpc⟩
    · simp at h1 h2; subst h1 h2; exact ⟨_, 32, by rw [HML.out], by rw [HML.out]; exact Nat.le_refl _, hmc⟩
    · simp at h1
  have hcat : HJoin.cat [bs, M] = bs ++ M := by simp [HJoin.cat]
  refine (HJoin.join_any _ _ 2 [bs, M] hkb (by rw [hcat, List.length_append]; have := HPL.out.1; have := HML.out; omega) (by simp)).mono ?_
  rintro e w5 ⟨v5, rfl, hR, hb⟩
  rw [hcat] at hR
  have HB5 := Aside0.mk (below_step (below_step HBW.out hbx) hb)
  have HJ := Aside0.mk (Bs.of_R hR)
  clear hR hb hkb hmc hpc hbx hcat
  go_wp2_with fail
  refine (encode_any _ v5 (bs ++ M) HJ.out (fun x hx => (List.mem_append.1 hx).elim (HPL.out.2 x) (HMB.out x)) (by rw [List.length_append]; have := HPL.out.1; have := HML.out; omega)).mono ?_
  rintro e w6 ⟨rfl, hb⟩
  have HB6 := Aside0.mk (below_step HB5.out hb)
  clear hb
  go_wp2
  go_ret2
  exact ⟨by rw [signP, ← HBS.out, HM.out]; rfl, HB6.out⟩
end Go.Proofs.YtogimlinfkbapaaDoor.HZookM
/- The reference's Sign. -/
namespace Go.Proofs.YtogimlinfkbapaaDoor.HZookS
open Go.RowKit Go.Proofs.YtogimlinfkbapaaDoorW.PrintWords Go.Proofs.YtogimlinfkbapaaDoor.HLib Go.Proofs.YtogimlinfkbapaaDoor.HSha Go.Proofs.YtogimlinfkbapaaDoor.HShaU Go.Proofs.YtogimlinfkbapaaDoor.HShaS Go.Proofs.YtogimlinfkbapaaDoor.HShaV Go.Proofs.YtogimlinfkbapaaDoor.HShaB Go.Proofs.YtogimlinfkbapaaDoor.HMac Go.Proofs.YtogimlinfkbapaaDoor.HMacC Go.Proofs.YtogimlinfkbapaaDoor.HMacS Go.Proofs.YtogimlinfkbapaaDoor.HZook Go.Proofs.YtogimlinfkbapaaDoor.HZookP Go.Proofs.YtogimlinfkbapaaDoor.HZookM Go.Proofs.YtogimlinfkbapaaDoor.HEnc
set_option linter.unusedVariables false
set_option linter.unusedSimpArgs false

set_option maxRecDepth 20000 in
set_option maxHeartbeats 4000000 in
theorem refsign_any (w : World) (vk : Value) (key : List Int) (hvk : Bv w vk key) (hkb : ∀ x ∈ key, 0 ≤ x ∧ x < 256) (hkl : key.length ≤ 4294960000) (vb : Value) (bs : List Int) (hvb : Bv w vb bs) (hbb : ∀ x ∈ bs, 0 ≤ x ∧ x < 256) (hbl : bs.length ≤ 1000000) :
    Calls Tryd.prog 20 #[vk, vb] w fun e w' => e = .returned (.string (signP key bs)) ∧ Below w.heap.size w w' := by
  have HK := Aside0.mk hvk
  have HBV := Aside0.mk hvb
  have HKB := Aside0.mk (And.intro hkb hkl)
  have HBB := Aside0.mk (And.intro hbb hbl)
  obtain ⟨Ak, ck, rfl, _, _⟩ := id hvk
  obtain ⟨Ab, cb, rfl, hcb, hCb⟩ := id hvb
  have HCB := Aside0.mk (And.intro hcb hCb)
  clear hvk hvb hkb hkl hbb hbl hcb hCb
  go_enter Tryd.func20, Tryd.ntmps20
  go_wp2_with fail
  refine (HMacR.refmac_any w _ key HK.out HKB.out.1 (by have := HKB.out.2; omega) _ bs HBV.out HBB.out.1 (by have := HBB.out.2; omega)).mono ?_
  rintro e w3 ⟨rfl, hb3⟩
  have HB3 := Aside0.mk hb3
  obtain ⟨M, hM⟩ : ∃ M, M = macP key bs := ⟨_, rfl⟩
  have HML := Aside0.mk (show M.length = 32 from by rw [hM]; exact macP_len _ _)
  have HMB := Aside0.mk (show ∀ x ∈ M, 0 ≤ x ∧ x < 256 from by rw [hM]; exact macP_byte _ _)
  rw [← hM]
  have HM := Aside0.mk hM
  have HST0 := Aside0.mk (run_storeAt_new (P := Tryd.prog) w3 24 (nums .u8 (List.replicate 32 0)).toArray (nums .u8 M).toArray (by rw [HZookR.size_dg]; simp [nums, HML.out]) (by simp [nums, HML.out]) (by simp [nums, Value.oneCell']))
  obtain ⟨We, hWe⟩ : ∃ W, W = w3.alloc (.cells (nums .u8 M).toArray 24) := ⟨_, rfl⟩
  have hbe : Below w3.heap.size w3 We := by rw [hWe]; exact below_alloc (B0 w3) _
  have HBW := Aside0.mk (below_step HB3.out hbe)
  have HA : Aside0 (IsArr We w3.heap.size .u8 24 M) := ⟨by rw [hWe]; exact blk_new w3 _⟩
  have HPW := Aside0.mk (Kd.C_below (Kd.C_below HCB.out.2 hb3) hbe)
  have hst0 := HST0.out
  rw [← hWe] at hst0
  have HST := Aside0.mk hst0
  clear hb3 hM hst0 HST0 hWe hbe HB3 HCB
  go_wp2_with (refine store_event rfl (t := 24) (p := 5) (v := .tmp 8) rfl rfl (w1 := We) ?hr ?_; (case hr => exact run_store_of rfl HST.out); intro w5 hw5; have hw6 := hw5.symm; subst hw6)
  refine wp_region_held_drew (S := fun w' => Below We.heap.size We w') (by kernel_rfl) (below_drew1 (B0 We)) (fun hHeld => ?_)
  generalize We.drew = wd at hHeld ⊢
  refine wpAnyH_take (i := 1) (v := .slice Ab bs.length cb) rfl (by kernel_rfl) (by kernel_rfl) (by kernel_rfl) (fun _ _ _ h => h) (Or.inl ⟨by rfl, ?hy1⟩) hHeld ?_
  case hy1 => intro w' hSw; go_simp
  simp only [List.getElem_toArray, List.getElem_cons_succ, List.getElem_cons_zero, Act.put, List.setIfInBounds_toArray, List.set_cons_zero, List.set_cons_succ]
  refine wpAnyH_take (i := 3) (v := .slice (some ⟨w3.heap.size, 0, none⟩) 32 32) rfl (by kernel_rfl) (by kernel_rfl) (by kernel_rfl) (fun _ _ _ h => h) (Or.inl ⟨by rfl, ?hy3⟩) hHeld ?_
  case hy3 => intro w' hSw; go_simp
  simp only [List.getElem_toArray, List.getElem_cons_succ, List.getElem_cons_zero, Act.put, List.setIfInBounds_toArray, List.set_cons_zero, List.set_cons_succ]
  refine wpAnyH_ready (rs := [0]) (by kernel_rfl) (by simp) ?_
  refine AllReadyH.cons rfl (fun K hK => ?_) AllReadyH.nil
  simp only [List.getElem_toArray, List.getElem_cons_succ, List.getElem_cons_zero]
  rw [if_pos (by rfl)]
  go_simp
  obtain ⟨x1, hx⟩ : ∃ u, u = wd.alloc (.cells #[] 5) := ⟨_, rfl⟩
  rw [← hx]
  have hbx : Below wd.heap.size wd x1 := by rw [hx]; exact below_alloc (B0 wd) _
  have rr := (show Kd.R (Kd.int .u8) 5 x1 We.heap.size (fun _ => True) (.slice (some ⟨wd.heap.size, 0, none⟩) 0 0) [] from by rw [hx]; exact Kd.R_of_own (enc := Value.int .u8) (h1 := fun _ => rfl) (own_lit wd We.heap.size 5 .u8 [] hHeld.size (by decide)) (fun _ _ => trivial))
  clear hx
  refine hK.out _ _ (hHeld.trans (hbx.mono hHeld.size)) (fun hHeld => ?_)
  clear hK K hbx
  refine wpAnyH_ready (rs := [2]) (by kernel_rfl) (by simp) ?_
  refine AllReadyH.cons rfl (fun K hK => ?_) AllReadyH.nil
  simp only [List.getElem_toArray, List.getElem_cons_succ, List.getElem_cons_zero]
  refine step_if (by rfl) (Kd.R_append_rows_step (Kd.int .u8) (w0 := We) We.heap.size (by rfl) (.tmp 9) (.tmp 10) 22 5 (.int .u8 0) 1 (by rfl) Tryd.underlying22 info_u8 rfl (by decide) (by decide) (.slice (some ⟨wd.heap.size, 0, none⟩) 0 0) ([]) (bs) (Ab) _ cb (fun _ => True) (fun _ => False) (by rfl) (by rfl) rr (Kd.C_below HPW.out hHeld) (fun _ _ h => h) (fun _ h => h.elim) (fun _ _ => trivial) hHeld hHeld.size (by have := HBB.out.2; simp; omega) ?_)
  intro v3 x3 ho hb hg hat
  rw [List.nil_append] at ho
  have rr := ho
  refine hK.out _ _ hb (fun hHeld => ?_)
  clear hK K ho hb hg hat
  refine wpAnyH_ready (rs := [4]) (by kernel_rfl) (by simp) ?_
  refine AllReadyH.cons rfl (fun K hK => ?_) AllReadyH.nil
  simp only [List.getElem_toArray, List.getElem_cons_succ, List.getElem_cons_zero]
  have hmc := bytes_C (blk_below HA.out hHeld) (by rw [HML.out]; decide)
  rw [HML.out] at hmc
  refine step_if (by rfl) (Kd.R_append_rows_step (Kd.int .u8) (w0 := We) We.heap.size (by rfl) (.tmp 11) (.tmp 12) 22 5 (.int .u8 0) 1 (by rfl) Tryd.underlying22 info_u8 rfl (by decide) (by decide) (v3) (bs) (M) (some ⟨w3.heap.size, 0, none⟩) 32 32 (fun _ => True) (fun _ => False) (by rfl) (by rfl) rr hmc (fun _ _ h => h) (fun _ h => h.elim) (fun _ _ => trivial) hHeld hHeld.size (by have := HBB.out.2; omega) ?_)
  intro v4 x4 ho hb hg hat
  have HB4 := Aside0.mk (Bs.of_R ho)
  refine hK.out _ _ hb (fun hHeld => ?_)
  clear hK K ho hb hg hat hmc rr
  refine wpAnyH_ready (rs := [5]) (by kernel_rfl) (by simp) ?_
  refine AllReadyH.cons rfl (fun K hK => ?_) AllReadyH.nil
  simp only [List.getElem_toArray, List.getElem_cons_succ, List.getElem_cons_zero]
  rw [if_pos (by rfl)]
  go_simp
  have hby : ∀ x ∈ bs ++ M, 0 ≤ x ∧ x < 256 := fun x hx => (List.mem_append.1 hx).elim (HBB.out.1 x) (HMB.out x)
  refine (HRef04.refEncode_any x4 v4 (bs ++ M) HB4.out hby (by rw [List.length_append]; have := HBB.out.2; have := HML.out; omega)).mono ?_
  rintro e x5 ⟨rfl, hbx⟩
  rw [← HBaseP.encS_eq _ hby, HM.out]
  have hs : encS (bs ++ macP key bs) = signP key bs := rfl
  rw [hs]
  refine hK.out _ _ (hHeld.trans (hbx.mono hHeld.size)) (fun hHeld => ?_)
  clear hK K hbx
  refine wpAnyH_take (i := 6) (v := .string (signP key bs)) rfl (by kernel_rfl) (by kernel_rfl) (by kernel_rfl) (fun _ _ _ h => h) (Or.inl ⟨by rfl, ?hy6⟩) hHeld ?_
  case hy6 => intro w' hSw; go_simp
  simp only [List.getElem_toArray, List.getElem_cons_succ, List.getElem_cons_zero, Act.put, List.setIfInBounds_toArray, List.set_cons_zero, List.set_cons_succ]
  refine wpAnyH_done (by kernel_rfl) ?_ _
  have HBF := Aside0.mk (below_step HBW.out hHeld)
  clear hHeld
  go_wp2
  go_ret
  exact ⟨rfl, HBF.out⟩
end Go.Proofs.YtogimlinfkbapaaDoor.HZookS
/- The reference's Mint. -/
namespace Go.Proofs.YtogimlinfkbapaaDoor.HZookT
open Go.RowKit Go.Proofs.YtogimlinfkbapaaDoorW.PrintWords Go.Proofs.YtogimlinfkbapaaDoor.HLib Go.Proofs.YtogimlinfkbapaaDoor.HSha Go.Proofs.YtogimlinfkbapaaDoor.HShaU Go.Proofs.YtogimlinfkbapaaDoor.HShaS Go.Proofs.YtogimlinfkbapaaDoor.HZook Go.Proofs.YtogimlinfkbapaaDoor.HZookP Go.Proofs.YtogimlinfkbapaaDoor.HZookM Go.Proofs.YtogimlinfkbapaaDoor.HZookS
set_option linter.unusedVariables false
set_option linter.unusedSimpArgs false

theorem Bs.bv {w : World} {v : Value} {xs : List Int} (h : Bs w v xs) : Bv w v xs := by obtain ⟨A, c, e, h1, h2, _⟩ := h; exact ⟨A, c, e, h1, h2⟩
set_option maxRecDepth 20000 in
set_option maxHeartbeats 4000000 in
theorem refmint_any (w : World) (vk : Value) (key : List Int) (hvk : Bv w vk key) (hkb : ∀ x ∈ key, 0 ≤ x ∧ x < 256) (hkl : key.length ≤ 4294960000) (v : Int) (r : Nat) (d : List Int) (hd : d.length = 32) (hdb : ∀ x ∈ d, 0 ≤ x ∧ x < 256) (hr : r < 18446744073709551616) :
    Calls Tryd.prog 16 #[vk, zk v r d] w fun e w' => e = .returned (.string (signP key (payP r d))) ∧ Below w.heap.size w w' := by
  have HD := Aside0.mk hd
  have HR := Aside0.mk hr
  have HDB := Aside0.mk hdb
  have HK := Aside0.mk hvk
  have HKB := Aside0.mk (And.intro hkb hkl)
  clear hd hr hdb hvk hkb hkl
  have HB := Aside0.mk (show Below w.heap.size w (w.alloc (.cells (zkC v r d) 26)) from below_alloc (B0 w) _)
  have HL := Aside0.mk (zk_load (blk_new w _) HD.out : (Instr.loadAt 26 (.pointer (some ⟨w.heap.size, 0, none⟩))).run Tryd.prog (w.alloc (.cells (zkC v r d) 26)) = _)
  go_enter Tryd.func16, Tryd.ntmps16
  go_wp2_with (refine load_ev (t := 26) (p := .tmp 3) rfl rfl HL.out ?_)
  refine (refpayload_any v r d HD.out HR.out _).mono ?_
  rintro e w1 ⟨v1, rfl, hp, hb⟩
  have HB1 := Aside0.mk (below_step HB.out hb)
  have HP := Aside0.mk hp
  clear hb HL HB hp
  go_wp2_with fail
  refine (refsign_any _ _ key (HK.out.below HB1.out) HKB.out.1 HKB.out.2 v1 _ (Bs.bv HP.out) (pay_byte r d HDB.out) (by have := pay_len r d HD.out HR.out; omega)).mono ?_
  rintro e w2 ⟨rfl, hb⟩
  have HB2 := Aside0.mk (below_step HB1.out hb)
  clear hb
  go_wp2
  go_ret
  exact ⟨rfl, HB2.out⟩
end Go.Proofs.YtogimlinfkbapaaDoor.HZookT
/- The plain laws of zookies: no program here. -/
namespace Go.Proofs.YtogimlinfkbapaaDoor.HZookL
open Go.RowKit Go.Proofs.YtogimlinfkbapaaDoorW.PrintWords Go.Proofs.YtogimlinfkbapaaDoor.HLib Go.Proofs.YtogimlinfkbapaaDoor.HWireS Go.Proofs.YtogimlinfkbapaaDoor.HBaseS Go.Proofs.YtogimlinfkbapaaDoor.HBase Go.Proofs.YtogimlinfkbapaaDoor.HEnc Go.Proofs.YtogimlinfkbapaaDoor.HDec Go.Proofs.YtogimlinfkbapaaDoor.HBaseL Go.Proofs.YtogimlinfkbapaaDoor.HRef04 Go.Proofs.YtogimlinfkbapaaDoor.HBaseP Go.Proofs.YtogimlinfkbapaaDoor.HZookP Go.Proofs.YtogimlinfkbapaaDoor.HZookR Go.Proofs.YtogimlinfkbapaaDoor.HZookM Go.Proofs.YtogimlinfkbapaaDoor.HMac
set_option linter.unusedVariables false

/-- A number that is read has its bytes. -/
theorem numGo_back (l : List Int) (hb : ∀ x ∈ l, 0 ≤ x ∧ x < 256) : ∀ (f i : Nat) (x y : Int) (n : Nat), numGo l f i x = .inr (y, n) →
    ∃ z : Nat, y = x + z * 2 ^ (7 * i) ∧ i < n ∧ n ≤ l.length ∧ (l.drop i).take (n - i) = enc z ∧ (0 < i → 0 < z) := by
  intro f
  induction f with
  | zero => intro i x y n h; cases h
  | succ f ih =>
    intro i x y n h
    by_cases h1 : l.length ≤ i
    · rw [numGo, if_pos h1] at h; cases h
    · rw [numGo, if_neg h1] at h
      have hg : l.getD i 0 = l[i]'(by omega) := by rw [List.getD_eq_getElem?_getD, List.getElem?_eq_getElem (by omega)]; rfl
      have hr := hb _ (List.getElem_mem (show i < l.length by omega))
      rw [← hg] at hr
      have hd : l.drop i = l.getD i 0 :: l.drop (i + 1) := by rw [hg]; exact List.drop_eq_getElem_cons (by omega)
      split at h
      · cases h
      · split at h
        · cases h
        · rename_i hz
          obtain ⟨b, hbe⟩ := Int.eq_ofNat_of_zero_le hr.1
          split at h
          · rename_i hlt
            injection h with h
            injection h with ha hn
            refine ⟨b, ?_, by omega, by omega, ?_, fun h0 => ?_⟩
            · rw [← ha, hbe, show ((b : Int) % 128) = b from by omega]
            · rw [hd, show n - i = 1 from by omega, enc_small (by omega), hbe]; rfl
            · by_cases hb0 : l.getD i 0 = 0
              · exact absurd ⟨h0, hb0⟩ hz
              · omega
          · rename_i hge
            obtain ⟨z, e1, e2, e3, e4, e5⟩ := ih _ _ _ _ h
            have hz0 := e5 (by omega)
            refine ⟨b % 128 + 128 * z, ?_, by omega, e3, ?_, fun _ => by omega⟩
            · rw [e1, hbe, Int.add_assoc]
              congr 1
              rw [show 7 * (i + 1) = 7 + 7 * i from by omega, Int.pow_add, ← Int.mul_assoc, ← Int.add_mul]
              congr 1
              rw [show ((2 : Int) ^ 7) = 128 from rfl]
              push_cast
              omega
            · rw [hd, show n - i = (n - (i + 1)) + 1 from by omega, List.take_succ_cons, e4, enc_big (x := b % 128 + 128 * z) (by omega), hbe, show (b % 128 + 128 * z) / 128 = z from by omega]
              congr 1
              omega
theorem num_back {l : List Int} (hb : ∀ x ∈ l, 0 ≤ x ∧ x < 256) {y : Int} {n : Nat} (h : num l = .inr (y, n)) : ∃ z : Nat, y = z ∧ n ≤ l.length ∧ l.take n = enc z := by
  obtain ⟨z, e1, _, e3, e4, _⟩ := numGo_back l hb _ _ _ _ _ h
  refine ⟨z, by rw [e1]; simp, e3, ?_⟩
  simpa using e4

theorem prs_pay (r : Nat) (d : List Int) (hr : r < 9223372036854775808) (hd : d.length = 32) : prs (payP r d) = .inr ((r : Int), d) := by
  rw [prs, payP, if_neg (by simp), if_neg (by simp), List.drop_succ_cons, List.drop_zero, num_enc r (by omega)]
  simp only
  rw [if_neg (by omega), if_neg (by rw [List.length_cons, List.length_append]; omega), if_neg (by rw [List.length_cons, List.length_append]; omega), Nat.add_comm 1, List.drop_succ_cons, List.drop_left]
/-- What is read from bytes has them as its payload. -/
theorem pay_prs {l : List Int} (hb : ∀ x ∈ l, 0 ≤ x ∧ x < 256) {x : Int} {d : List Int} (h : prs l = .inr (x, d)) : ∃ r : Nat, x = r ∧ r < 9223372036854775808 ∧ d.length = 32 ∧ (∀ y ∈ d, 0 ≤ y ∧ y < 256) ∧ payP r d = l := by
  rw [prs] at h
  cases l with
  | nil => rw [if_pos rfl] at h; cases h
  | cons x0 l =>
    rw [if_neg (by simp)] at h
    split at h
    · cases h
    · rename_i hx
      have hx0 : x0 = 1 := by simpa using hx
      rw [List.drop_succ_cons, List.drop_zero] at h
      split at h
      · cases h
      · rename_i y n hnum
        split at h
        · cases h
        · split at h
          · cases h
          · split at h
            · cases h
            · rename_i h1 h2 h3
              injection h with h
              injection h with ha hd
              obtain ⟨z, e1, e2, e3⟩ := num_back (fun q hq => hb q (List.mem_cons_of_mem _ hq)) hnum
              rw [List.length_cons] at h2 h3
              refine ⟨z, by rw [← ha, e1], by omega, by rw [← hd, List.length_drop, List.length_cons]; omega, ?_, ?_⟩
              · intro q hq; rw [← hd] at hq; exact hb q (List.mem_of_mem_drop hq)
              · rw [payP, ← e3, ← hd, Nat.add_comm 1, List.drop_succ_cons, List.take_append_drop, hx0]
theorem prs_err {l : List Int} (hb : ∀ x ∈ l, 0 ≤ x ∧ x < 256) {c n : Int} (h : prs l = .inl (c, n)) : c ≠ 0 ∧ 0 ≤ n ∧ n ≤ l.length := by
  rw [prs] at h
  split at h
  · injection h with h; injection h with h1 h2; omega
  · rename_i hne
    have hl : 0 < l.length := List.length_pos_iff.2 hne
    split at h
    · injection h with h; injection h with h1 h2; omega
    · split at h
      · rename_i e he
        injection h with h; injection h with h1 h2
        have := num_err he
        omega
      · rename_i x k hk
        split at h
        · injection h with h; injection h with h1 h2; omega
        · split at h
          · rename_i h3 h4
            injection h with h; injection h with h1 h2
            obtain ⟨z, _, e2, _⟩ := num_back (fun q hq => hb q (List.mem_of_mem_drop hq)) hk
            rw [List.length_drop] at e2
            omega
          · split at h
            · injection h with h; injection h with h1 h2; omega
            · cases h

/-- What Verify tells. -/
def verP (key : List Int) (s : ByteArray) : (Int × Int) ⊕ (Int × List Int) :=
  if 0 ≤ (decP s).2 then .inl (6, (decP s).2) else if (decP s).1.length < 32 then .inl (1, (decP s).1.length)
  else if (decP s).1.drop ((decP s).1.length - 32) ≠ macP key ((decP s).1.take ((decP s).1.length - 32)) then .inl (12, (decP s).1.length - 32)
  else prs ((decP s).1.take ((decP s).1.length - 32))

theorem ver_sign (key bs : List Int) (hb : ∀ x ∈ bs, 0 ≤ x ∧ x < 256) : verP key (signP key bs) = prs bs := by
  have hd : decP (signP key bs) = (bs ++ macP key bs, -1) := dec_enc _ (fun x hx => (List.mem_append.1 hx).elim (hb x) (macP_byte key bs x))
  have hl : (bs ++ macP key bs).length - 32 = bs.length := by rw [List.length_append, macP_len]; omega
  rw [verP, hd]
  simp only
  rw [if_neg (by decide), if_neg (by rw [List.length_append, macP_len]; omega), hl, List.drop_left, List.take_left, if_neg (by simp)]
theorem ver_back {key : List Int} {s : ByteArray} {x : Int} {d : List Int} (h : verP key s = .inr (x, d)) : ∃ r : Nat, x = r ∧ r < 9223372036854775808 ∧ d.length = 32 ∧ (∀ y ∈ d, 0 ≤ y ∧ y < 256) ∧ signP key (payP r d) = s := by
  rw [verP] at h
  split at h
  · cases h
  · rename_i h0
    split at h
    · cases h
    · split at h
      · cases h
      · rename_i h1 h2
        obtain ⟨e1, _, e3⟩ := dec_good (s := s) (by omega)
        obtain ⟨r, hx, hr, hd, hdb, hp⟩ := pay_prs (fun q hq => e3 q (List.mem_of_mem_take hq)) h
        refine ⟨r, hx, hr, hd, hdb, ?_⟩
        rw [signP, hp, ← Classical.not_not.1 h2, List.take_append_drop, e1]

theorem drop_plus (X Y : List Int) {k : Nat} (m : Nat) (h : X.length = k) : (X ++ Y).drop (k + m) = Y.drop m := by
  subst h; exact List.drop_length_add_append _
/-- A text with another sign in the bits of the code. -/
theorem changed (key bs : List Int) (hb : ∀ x ∈ bs, 0 ≤ x ∧ x < 256) (i : Nat) (v : Int) (hv : 0 ≤ v ∧ v < 64) (h0 : (signP key bs).size ≤ i + 41) (h1 : i + 2 ≤ (signP key bs).size) (s : ByteArray)
    (hs : s = strOfNums (((List.range (signP key bs).size).map fun (j : Nat) => bt (signP key bs) j).set i (sign v))) (hne : s ≠ signP key bs) : verP key s = .inl (12, (bs.length : Int)) := by
  obtain ⟨B, hB⟩ : ∃ B, B = bs ++ macP key bs := ⟨_, rfl⟩
  have hBl : B.length = bs.length + 32 := by rw [hB, List.length_append, macP_len]
  have hBb : ∀ x ∈ B, 0 ≤ x ∧ x < 256 := by rw [hB]; exact fun x hx => (List.mem_append.1 hx).elim (hb x) (macP_byte key bs x)
  have hS : signP key bs = encS B := by rw [hB]; rfl
  rw [hS] at h0 h1 hs hne
  have hsz := encS_size B hBb
  obtain ⟨F, hF⟩ : ∃ F, F = B.flatMap (bts 8) := ⟨_, rfl⟩
  have hF01 : ∀ x ∈ F, x = 0 ∨ x = 1 := by rw [hF]; exact flat_01 8 B
  have hFl : F.length = 8 * B.length := by rw [hF, flat_len]
  obtain ⟨L, hL⟩ : ∃ L, L = pad 6 F := ⟨_, rfl⟩
  have hL01 : ∀ x ∈ L, x = 0 ∨ x = 1 := by rw [hL]; exact pad_01 6 _ hF01
  have hLl : L.length = 6 * ((F.length + 5) / 6) := by rw [hL]; exact (pad_len6 F).2
  obtain ⟨V, hV⟩ : ∃ V, V = chs 6 L := ⟨_, rfl⟩
  have hVl : V.length = (F.length + 5) / 6 := by rw [hV, chs_len, hLl]; omega
  have hVr : ∀ x ∈ V, 0 ≤ x ∧ x < 64 := by rw [hV]; exact chs_range (tw := 6) (by decide) L hL01
  have hVL : V.flatMap (bts 6) = L := by rw [hV]; exact flat_chs (by decide) L hL01 (by rw [hLl]; omega)
  have hE : encS B = strOfNums (V.map sign) := by rw [encS_eq B hBb, ← hF, ← hL, ← hV]
  have hbts : ((List.range (encS B).size).map fun (j : Nat) => bt (encS B) j) = V.map sign := by
    refine List.ext_getElem (by rw [List.length_map, List.length_range, List.length_map, hE, strOfNums_size, List.length_map]) fun j h2 h3 => ?_
    rw [List.getElem_map, List.getElem_range, hE, bt_str _ (sign_bound _) j h3]
  rw [hbts, ← List.map_set] at hs
  have hi : i < V.length := by rw [hVl, hFl]; omega
  obtain ⟨V', hV'⟩ : ∃ V', V' = V.set i v := ⟨_, rfl⟩
  rw [← hV'] at hs
  have hV'r : ∀ x ∈ V', 0 ≤ x ∧ x < 64 := by
    intro x hx
    rw [hV'] at hx
    rcases List.mem_or_eq_of_mem_set hx with h | h
    · exact hVr x h
    · rw [h]; exact hv
  obtain ⟨L', hL'⟩ : ∃ L', L' = V'.flatMap (bts 6) := ⟨_, rfl⟩
  have hL'01 : ∀ x ∈ L', x = 0 ∨ x = 1 := by rw [hL']; exact flat_01 6 _
  have hL'l : L'.length = L.length := by rw [hL', flat_len, hV', List.length_set, ← hVL, flat_len]
  have hVs : V = V.take i ++ V[i] :: V.drop (i + 1) := by rw [← List.drop_eq_getElem_cons hi, List.take_append_drop]
  have hL'e : L' = L.take (6 * i) ++ (bts 6 v ++ L.drop (6 * i + 6)) := by
    have e1 : L.take (6 * i) = (V.take i).flatMap (bts 6) := by
      rw [← hVL]
      conv => lhs; rw [hVs, List.flatMap_append]
      exact List.take_left' (by rw [flat_len, List.length_take]; omega)
    have e2 : L.drop (6 * i + 6) = (V.drop (i + 1)).flatMap (bts 6) := by
      rw [← hVL]
      conv => lhs; rw [hVs, List.flatMap_append, List.flatMap_cons, ← List.append_assoc]
      exact List.drop_left' (by rw [List.length_append, flat_len, List.length_take, bts_len]; omega)
    rw [e1, e2, hL', hV', List.set_eq_take_append_cons_drop, if_pos hi, List.flatMap_append, List.flatMap_cons]
  obtain ⟨O, hO⟩ : ∃ O, O = L'.take (8 * B.length) := ⟨_, rfl⟩
  have hOl : O.length = 8 * B.length := by rw [hO, List.length_take]; omega
  have hO01 : ∀ x ∈ O, x = 0 ∨ x = 1 := by rw [hO]; exact fun x hx => hL'01 x (List.mem_of_mem_take hx)
  have hdr : L'.drop (8 * B.length) = L.drop (8 * B.length) := by
    have hq : (L.take (6 * i) ++ bts 6 v).length = 6 * i + 6 := by rw [List.length_append, List.length_take, bts_len]; omega
    obtain ⟨m, hm⟩ : ∃ m, 8 * B.length = 6 * i + 6 + m := ⟨8 * B.length - (6 * i + 6), by omega⟩
    rw [hL'e, ← List.append_assoc, hm, drop_plus _ _ m hq, List.drop_drop]
  have hpO : pad 6 O = L' := by
    have e : L' = O ++ L'.drop (8 * B.length) := by rw [hO, List.take_append_drop]
    rw [hdr, hL, pad, List.drop_left' hFl] at e
    rw [pad, hOl, ← hFl]
    exact e.symm
  obtain ⟨B', hB'⟩ : ∃ B', B' = chs 8 O := ⟨_, rfl⟩
  have hB'l : B'.length = B.length := by rw [hB', chs_len, hOl]; omega
  have hB'b : ∀ x ∈ B', 0 ≤ x ∧ x < 256 := by rw [hB']; exact chs_range (tw := 8) (by decide) O hO01
  have hB'f : B'.flatMap (bts 8) = O := by rw [hB']; exact flat_chs (by decide) O hO01 (by rw [hOl]; omega)
  have hs' : s = encS B' := by
    rw [encS_eq B' hB'b, hB'f, hpO, hs]
    congr 2
    have := chs_of_bts (tw := 6) (by decide) [] (by decide) V' hV'r
    rw [List.append_nil, ← hL'] at this
    exact this.symm
  have htk : B'.take bs.length = bs := by
    have e : O = bs.flatMap (bts 8) ++ O.drop (8 * bs.length) := by
      conv => lhs; rw [← List.take_append_drop (8 * bs.length) O]
      congr 1
      rw [hO, List.take_take, hL'e, Nat.min_eq_left (by omega), List.take_append_of_le_length (by rw [List.length_take]; omega), List.take_take, Nat.min_eq_left (by omega), hL, pad, List.take_append_of_le_length (by omega), hF, hB, List.flatMap_append]
      exact List.take_left' (flat_len 8 bs)
    rw [hB', e, chs_append_full (by decide) bs.length _ _ (flat_len 8 bs)]
    have := chs_of_bts (tw := 8) (by decide) [] (by decide) bs hb
    rw [List.append_nil] at this
    rw [this, List.take_left]
  have hne2 : B'.drop bs.length ≠ macP key bs := by
    intro h
    apply hne
    rw [hs', hB, ← h]
    conv => lhs; rw [← List.take_append_drop bs.length B', htk]
  rw [verP, hs', dec_enc B' hB'b]
  simp only
  rw [if_neg (by decide), if_neg (by omega), show B'.length - 32 = bs.length from by omega, htk, if_pos hne2, hB'l, hBl]
  congr 2
  omega
end Go.Proofs.YtogimlinfkbapaaDoor.HZookL
/- zookie.Verify. -/
namespace Go.Proofs.YtogimlinfkbapaaDoor.HZookY
open Go.RowKit Go.Proofs.YtogimlinfkbapaaDoorW.PrintWords Go.Proofs.YtogimlinfkbapaaDoor.HLib Go.Proofs.YtogimlinfkbapaaDoor.HSha Go.Proofs.YtogimlinfkbapaaDoor.HShaU Go.Proofs.YtogimlinfkbapaaDoor.HShaS Go.Proofs.YtogimlinfkbapaaDoor.HZook Go.Proofs.YtogimlinfkbapaaDoor.HZookE Go.Proofs.YtogimlinfkbapaaDoor.HZookP Go.Proofs.YtogimlinfkbapaaDoor.HZookR Go.Proofs.YtogimlinfkbapaaDoor.HZookM Go.Proofs.YtogimlinfkbapaaDoor.HDec Go.Proofs.YtogimlinfkbapaaDoor.HErr
set_option linter.unusedVariables false
set_option linter.unusedSimpArgs false

set_option maxRecDepth 20000 in
set_option maxHeartbeats 4000000 in
theorem ver_tag (w : World) (vk : Value) (s : ByteArray) (hs : s.size ≤ 500) (key : List Int) (hvk : Bv w vk key) (hkb : ∀ x ∈ key, 0 ≤ x ∧ x < 256) (hkl : key.length ≤ 4294960000) (hG : Glob w) (h0 : (decP s).2 < 0) (h1 : 32 ≤ (decP s).1.length) (h2 : ((decP s).1.drop ((decP s).1.length - 32)) ≠ HMac.macP key ((decP s).1.take ((decP s).1.length - 32))) :
    Calls Tryd.prog 13 #[vk, .string s] w fun e w' => e = .returned (.tuple #[Z0, fltV 12 (((decP s).1.length : Int) - 32)]) ∧ Below w.heap.size w w' := by
  have HK := Aside0.mk hvk
  have HKB := Aside0.mk (And.intro hkb hkl)
  have HG := Aside0.mk hG
  have HT := Aside0.mk h2
  clear hvk hkb hkl hG h2
  have d0 : decide (0 ≤ (decP s).2) = false := decide_eq_false (by omega)
  have d1 : decide (((decP s).1.length : Int) - 32 < 0) = false := decide_eq_false (by omega)
  generalize hz : (#[.int .u8 0, .int .u64 0, .int .u8 0, .int .u8 0, .int .u8 0, .int .u8 0, .int .u8 0, .int .u8 0, .int .u8 0, .int .u8 0, .int .u8 0, .int .u8 0, .int .u8 0, .int .u8 0, .int .u8 0, .int .u8 0, .int .u8 0, .int .u8 0, .int .u8 0, .int .u8 0, .int .u8 0, .int .u8 0, .int .u8 0, .int .u8 0, .int .u8 0, .int .u8 0, .int .u8 0, .int .u8 0, .int .u8 0, .int .u8 0, .int .u8 0, .int .u8 0, .int .u8 0, .int .u8 0] : Array Value) = zc
  have HZ := Aside0.mk (show zc = Z0C from hz.symm.trans rfl)
  have HZS := Aside0.mk (show zc.size = 34 from by rw [HZ.out]; rfl)
  have HZA := Aside0.mk (show zc.all (·.oneCell') = true from by rw [HZ.out]; simp [nums, Value.oneCell'])
  have HB := Aside0.mk (show Below w.heap.size w (w.alloc (.cells zc 26)) from below_alloc (B0 w) _)
  have F := Aside0.mk (show (w.alloc (.cells zc 26)).heap[w.heap.size]? = some (.cells zc 26 (0, 0)) from blk_new w _)
  have HS := Aside0.mk hs
  clear hs
  go_enter Tryd.func13, Tryd.ntmps13
  go_wp2_with fail
  refine (decode_any _ s (by have := HS.out; omega)).mono ?_
  rintro e w1 ⟨v1, rfl, hv, hb⟩
  have HB1 := Aside0.mk (below_step HB.out hb)
  have F1 := Aside0.mk ((hb.block w.heap.size (by simp)).trans F.out)
  obtain ⟨A1, c1, rfl, hc1, hC1, hn1⟩ := hv
  have HC1 := Aside0.mk (And.intro hc1 (And.intro hC1 hn1))
  clear hb hc1 hC1 hn1 F HB
  have hll : (decP s).1.length ≤ 500 := by have := HBaseP.dec_len s; have := HS.out; omega
  have HDB := Aside0.mk (HBaseP.dec_bytes s)
  generalize hlE : (decP s).1 = l at *
  have HLE := Aside0.mk hlE
  clear hlE
  obtain ⟨ad, hA, hcell⟩ := HMacS.C_cells HC1.out.2.1 (by omega)
  subst hA
  have HBY : Aside0 (∀ x ∈ l, 0 ≤ x ∧ x < 256) := HDB
  have HH := Aside0.mk h1
  have hw : wrap64 ((l.length : Int) - 32) = (l.length : Int) - 32 := IntWalk.wrap64_in _ (by omega)
  have hc := HC1.out.1
  go_upto_region 8 with fail
  have hbx : Below w1.heap.size w1 (w1.alloc (.cells #[.slice (some ad) (l.length - 32) c1] 22)) := below_alloc (B0 w1) _
  obtain ⟨bs, hbs⟩ : ∃ b, b = l.take (l.length - 32) := ⟨_, rfl⟩
  have hbl : bs.length = l.length - 32 := by rw [hbs, List.length_take]; omega
  have hCt : (Kd.int .u8).C w1 (some ad) bs.length bs := by rw [hbs]; exact Kd.C_take HC1.out.2.1 (by omega)
  have HBL := Aside0.mk hbl
  have HCT := Aside0.mk hCt
  have HBSE := Aside0.mk hbs
  have HBSB := Aside0.mk (show ∀ x ∈ bs, 0 ≤ x ∧ x < 256 from by rw [hbs]; exact fun x hx => HBY.out x (List.mem_of_mem_take hx))
  have hcl : (w1.alloc (.cells #[.slice (some ad) (l.length - 32) c1] 22)).cell? ⟨w1.heap.size, 0, none⟩ = some (.slice (some ad) bs.length c1) := by rw [hbl]; exact blk_cell (blk_new w1 _) 0
  have hkb : HShaW.KB.C (w1.alloc (.cells #[.slice (some ad) (l.length - 32) c1] 22)) (some ⟨w1.heap.size, 0, none⟩) 1 [bs] := HShaB.KB_one (c0 := c1) hcl (by omega) (Kd.C_below hCt hbx)
  refine (HMacS.mac_any _ _ key ((HK.out.below HB1.out).below hbx) HKB.out.1 (by have := HKB.out.2; omega) _ 1 [bs] hkb (show 1 ≤ 1 by decide) (by rw [cat_one]; exact HBSB.out) (by rw [cat_one]; omega) (show 1 ≤ 4294960000 by decide) (glob_below HG.out HG.out.1 (below_step HB1.out hbx))).mono ?_
  rintro e w3 ⟨rfl, hb3⟩
  rw [cat_one]
  have HB3 := Aside0.mk (below_step (below_step HB1.out hbx) hb3)
  have F3 := Aside0.mk ((hb3.block w.heap.size (by have := blk_lt F1.out; simp; omega)).trans ((hbx.block w.heap.size (blk_lt F1.out)).trans F1.out))
  have HC3 := Aside0.mk (Kd.C_below (Kd.C_below HC1.out.2.1 hbx) hb3)
  obtain ⟨M, hM⟩ : ∃ M, M = HMac.macP key bs := ⟨_, rfl⟩
  have HML := Aside0.mk (show M.length = 32 from by rw [hM]; exact macP_len _ _)
  have HMB := Aside0.mk (show ∀ x ∈ M, 0 ≤ x ∧ x < 256 from by rw [hM]; exact macP_byte _ _)
  rw [← hM]
  have HM := Aside0.mk hM
  have HST0 := Aside0.mk (run_storeAt_new (P := Tryd.prog) w3 24 (nums .u8 (List.replicate 32 0)).toArray (nums .u8 M).toArray (by rw [HZookR.size_dg]; simp [nums, HML.out]) (by simp [nums, HML.out]) (by simp [nums, Value.oneCell']))
  obtain ⟨We, hWe⟩ : ∃ W, W = w3.alloc (.cells (nums .u8 M).toArray 24) := ⟨_, rfl⟩
  have hbe : Below w3.heap.size w3 We := by rw [hWe]; exact below_alloc (B0 w3) _
  have HBW := Aside0.mk (below_step HB3.out hbe)
  have HA : Aside0 (IsArr We w3.heap.size .u8 24 M) := ⟨by rw [hWe]; exact blk_new w3 _⟩
  have FW := Aside0.mk ((hbe.block w.heap.size (blk_lt F3.out)).trans F3.out)
  have HCW := Aside0.mk (Kd.C_below HC3.out hbe)
  have hst0 := HST0.out
  rw [← hWe] at hst0
  have HST := Aside0.mk hst0
  have hh := HH.out
  clear hb3 hM hst0 HST0 hWe hbe hbx hkb hcl hCt hbl hbs HB3 F3 HC3 F1
  go_wp2_with (refine store_event rfl (t := 24) (p := 9) (v := .tmp 36) rfl rfl (w1 := We) ?hr ?_; (case hr => exact run_store_of rfl HST.out); intro w5 hw5; have hw6 := hw5.symm; subst hw6)

  have HD := Aside0.mk (show decide (M = l.drop (l.length - 32)) = false from decide_eq_false (by rw [HM.out, HBSE.out]; exact fun h => HT.out h.symm))
  refine wp_region_held_drew (S := fun w' => Below We.heap.size We w') (by kernel_rfl) (below_drew1 (B0 We)) (fun hHeld => ?_)
  generalize We.drew = wd at hHeld ⊢
  refine wpAnyH_take (i := 0) (v := .slice (some ⟨w3.heap.size, 0, none⟩) 32 32) rfl (by kernel_rfl) (by kernel_rfl) (by kernel_rfl) (fun _ _ _ h => h) (Or.inl ⟨by rfl, ?hy0⟩) hHeld ?_
  case hy0 => intro w' hSw; go_simp
  simp only [List.getElem_toArray, List.getElem_cons_succ, List.getElem_cons_zero, Act.put, List.setIfInBounds_toArray, List.set_cons_zero, List.set_cons_succ]
  refine wpAnyH_take (i := 1) (v := .slice (some ad) l.length c1) rfl (by kernel_rfl) (by kernel_rfl) (by kernel_rfl) (fun _ _ _ h => h) (Or.inl ⟨by rfl, ?hy1⟩) hHeld ?_
  case hy1 => intro w' hSw; go_simp
  simp only [List.getElem_toArray, List.getElem_cons_succ, List.getElem_cons_zero, Act.put, List.setIfInBounds_toArray, List.set_cons_zero, List.set_cons_succ]
  refine wpAnyH_take (i := 2) (v := .int .i64 ((l.length : Int) - 32)) rfl (by kernel_rfl) (by kernel_rfl) (by kernel_rfl) (fun _ _ _ h => h) (Or.inl ⟨by rfl, ?hy2⟩) hHeld ?_
  case hy2 => intro w' hSw; go_simp
  simp only [List.getElem_toArray, List.getElem_cons_succ, List.getElem_cons_zero, Act.put, List.setIfInBounds_toArray, List.set_cons_zero, List.set_cons_succ]
  refine wpAnyH_take (i := 3) (v := .slice (some (ad.add (l.length - 32))) (l.length - (l.length - 32)) (c1 - (l.length - 32))) rfl (by kernel_rfl) (by kernel_rfl) (by kernel_rfl) (fun _ _ _ h => h) (Or.inl ⟨by rfl, ?hy3⟩) hHeld ?_
  case hy3 => intro w' hSw; go_simp; rw [if_pos (by omega), show ((l.length : Int) - 32).toNat = l.length - 32 from by omega, if_neg (by omega)]
  simp only [List.getElem_toArray, List.getElem_cons_succ, List.getElem_cons_zero, Act.put, List.setIfInBounds_toArray, List.set_cons_zero, List.set_cons_succ]
  refine wpAnyH_ready (rs := [4]) (by kernel_rfl) (by simp) ?_
  refine AllReadyH.cons rfl (fun K hK => ?_) AllReadyH.nil
  simp only [List.getElem_toArray, List.getElem_cons_succ, List.getElem_cons_zero]
  rw [if_pos (by rfl)]
  go_simp
  have htl := Kd.C_drop (m := l.length - 32) (c := c1) (Kd.C_below HCW.out hHeld) (by omega) hc
  rw [if_neg (by omega)] at htl
  have htl2 : (Kd.int .u8).C wd (some (ad.add (l.length - 32))) (l.drop (l.length - 32)).length (l.drop (l.length - 32)) := by have h := htl; simp only [Option.map_some] at h; rw [show (Kd.int .u8).sz = 1 from rfl, Nat.mul_one] at h; exact h
  have hmc := HShaB.bytes_C (blk_below HA.out hHeld) (by rw [HML.out]; decide)
  refine (HMacQ.equal_any wd _ _ M (l.drop (l.length - 32)) ⟨some ⟨w3.heap.size, 0, none⟩, 32, by rw [HML.out], by rw [HML.out]; exact Nat.le_refl _, hmc⟩ ⟨_, _, by rw [List.length_drop], by rw [List.length_drop]; omega, htl2⟩ HMB.out (fun x hx => HBY.out x (List.mem_of_mem_drop hx)) (by rw [HML.out]; decide)).mono ?_
  rintro e x1 ⟨rfl, hbx⟩
  rw [HD.out]
  clear htl htl2 hmc
  refine hK.out _ _ (below_step hHeld hbx) (fun hHeld => ?_)
  clear hK K
  refine wpAnyH_take (i := 5) (v := .bool true) rfl (by kernel_rfl) (by kernel_rfl) (by kernel_rfl) (fun _ _ _ h => h) (Or.inl ⟨by rfl, ?hy5⟩) hHeld ?_
  case hy5 => intro w' hSw; go_simp
  simp only [List.getElem_toArray, List.getElem_cons_succ, List.getElem_cons_zero, Act.put, List.setIfInBounds_toArray, List.set_cons_zero, List.set_cons_succ]
  refine wpAnyH_done (by kernel_rfl) ?_ _
  have HBX := Aside0.mk (below_step HBW.out hHeld)
  have F5 := Aside0.mk ((hHeld.block w.heap.size (blk_lt FW.out)).trans FW.out)
  have HC5 := Aside0.mk (Kd.C_below HCW.out hHeld)
  clear hHeld hbx
  have hsz := HZS.out
  have hsc := zk_cells F5.out hsz hsz HZA.out
  have HRW := Aside0.mk (setRow_heap x1 w.heap.size zc zc 26 (0, 0) F5.out)
  go_wp2_with fail
  refine (new_any 12 ((l.length : Int) - 32) _).mono ?_
  rintro e w9 ⟨rfl, rfl⟩
  go_wp2
  refine bodyPost_ret (v := .tuple #[.agg zc, fltV 12 ((l.length : Int) - 32)]) ?_ ?_ ?_
  · exact results_c2 (p := 4) (q := 5) rfl _ _ w.heap.size zc rfl HRW.out HZS.out
  · rfl
  · exact ⟨by rw [HZ.out, HLE.out], below_row HBX.out (Nat.le_refl _) _⟩
theorem prsZ_agg {l : List Int} (hb : ∀ x ∈ l, 0 ≤ x ∧ x < 256) : ∃ zd : Array Value, prsZ (prs l) = .agg zd ∧ zd.size = 34 ∧ zd.all (·.oneCell') = true := by
  cases hp : prs l with
  | inl p => exact ⟨Z0C, rfl, rfl, by simp [nums, Value.oneCell']⟩
  | inr p =>
    obtain ⟨x, d⟩ := p
    obtain ⟨r, _, _, hd, _⟩ := HZookL.pay_prs hb hp
    exact ⟨zkC 1 x d, rfl, by simp [nums, hd], by simp [nums, Value.oneCell']⟩
set_option maxRecDepth 20000 in
set_option maxHeartbeats 4000000 in
theorem ver_good (w : World) (vk : Value) (s : ByteArray) (hs : s.size ≤ 500) (key : List Int) (hvk : Bv w vk key) (hkb : ∀ x ∈ key, 0 ≤ x ∧ x < 256) (hkl : key.length ≤ 4294960000) (hG : Glob w) (h0 : (decP s).2 < 0) (h1 : 32 ≤ (decP s).1.length) (hE : ErrG w) (h2 : ((decP s).1.drop ((decP s).1.length - 32)) = HMac.macP key ((decP s).1.take ((decP s).1.length - 32))) :
    Calls Tryd.prog 13 #[vk, .string s] w fun e w' => e = .returned (.tuple #[prsZ (prs ((decP s).1.take ((decP s).1.length - 32))), errV (prsC (prs ((decP s).1.take ((decP s).1.length - 32)))) (prsN (prs ((decP s).1.take ((decP s).1.length - 32))))]) ∧ Below w.heap.size w w' := by
  have HE := Aside0.mk hE
  clear hE
  have HK := Aside0.mk hvk
  have HKB := Aside0.mk (And.intro hkb hkl)
  have HG := Aside0.mk hG
  have HT := Aside0.mk h2
  clear hvk hkb hkl hG h2
  have d0 : decide (0 ≤ (decP s).2) = false := decide_eq_false (by omega)
  have d1 : decide (((decP s).1.length : Int) - 32 < 0) = false := decide_eq_false (by omega)
  generalize hz : (#[.int .u8 0, .int .u64 0, .int .u8 0, .int .u8 0, .int .u8 0, .int .u8 0, .int .u8 0, .int .u8 0, .int .u8 0, .int .u8 0, .int .u8 0, .int .u8 0, .int .u8 0, .int .u8 0, .int .u8 0, .int .u8 0, .int .u8 0, .int .u8 0, .int .u8 0, .int .u8 0, .int .u8 0, .int .u8 0, .int .u8 0, .int .u8 0, .int .u8 0, .int .u8 0, .int .u8 0, .int .u8 0, .int .u8 0, .int .u8 0, .int .u8 0, .int .u8 0, .int .u8 0, .int .u8 0] : Array Value) = zc
  have HZ := Aside0.mk (show zc = Z0C from hz.symm.trans rfl)
  have HZS := Aside0.mk (show zc.size = 34 from by rw [HZ.out]; rfl)
  have HZA := Aside0.mk (show zc.all (·.oneCell') = true from by rw [HZ.out]; simp [nums, Value.oneCell'])
  have HB := Aside0.mk (show Below w.heap.size w (w.alloc (.cells zc 26)) from below_alloc (B0 w) _)
  have F := Aside0.mk (show (w.alloc (.cells zc 26)).heap[w.heap.size]? = some (.cells zc 26 (0, 0)) from blk_new w _)
  have HS := Aside0.mk hs
  clear hs
  go_enter Tryd.func13, Tryd.ntmps13
  go_wp2_with fail
  refine (decode_any _ s (by have := HS.out; omega)).mono ?_
  rintro e w1 ⟨v1, rfl, hv, hb⟩
  have HB1 := Aside0.mk (below_step HB.out hb)
  have F1 := Aside0.mk ((hb.block w.heap.size (by simp)).trans F.out)
  obtain ⟨A1, c1, rfl, hc1, hC1, hn1⟩ := hv
  have HC1 := Aside0.mk (And.intro hc1 (And.intro hC1 hn1))
  clear hb hc1 hC1 hn1 F HB
  have hll : (decP s).1.length ≤ 500 := by have := HBaseP.dec_len s; have := HS.out; omega
  have HDB := Aside0.mk (HBaseP.dec_bytes s)
  generalize hlE : (decP s).1 = l at *
  have HLE := Aside0.mk hlE
  clear hlE
  obtain ⟨ad, hA, hcell⟩ := HMacS.C_cells HC1.out.2.1 (by omega)
  subst hA
  have HBY : Aside0 (∀ x ∈ l, 0 ≤ x ∧ x < 256) := HDB
  have HH := Aside0.mk h1
  have hw : wrap64 ((l.length : Int) - 32) = (l.length : Int) - 32 := IntWalk.wrap64_in _ (by omega)
  have hc := HC1.out.1
  go_upto_region 8 with fail
  have hbx : Below w1.heap.size w1 (w1.alloc (.cells #[.slice (some ad) (l.length - 32) c1] 22)) := below_alloc (B0 w1) _
  obtain ⟨bs, hbs⟩ : ∃ b, b = l.take (l.length - 32) := ⟨_, rfl⟩
  have hbl : bs.length = l.length - 32 := by rw [hbs, List.length_take]; omega
  have hCt : (Kd.int .u8).C w1 (some ad) bs.length bs := by rw [hbs]; exact Kd.C_take HC1.out.2.1 (by omega)
  have HBL := Aside0.mk hbl
  have HCT := Aside0.mk hCt
  have HBSE := Aside0.mk hbs
  have HBSB := Aside0.mk (show ∀ x ∈ bs, 0 ≤ x ∧ x < 256 from by rw [hbs]; exact fun x hx => HBY.out x (List.mem_of_mem_take hx))
  have hcl : (w1.alloc (.cells #[.slice (some ad) (l.length - 32) c1] 22)).cell? ⟨w1.heap.size, 0, none⟩ = some (.slice (some ad) bs.length c1) := by rw [hbl]; exact blk_cell (blk_new w1 _) 0
  have hkb : HShaW.KB.C (w1.alloc (.cells #[.slice (some ad) (l.length - 32) c1] 22)) (some ⟨w1.heap.size, 0, none⟩) 1 [bs] := HShaB.KB_one (c0 := c1) hcl (by omega) (Kd.C_below hCt hbx)
  refine (HMacS.mac_any _ _ key ((HK.out.below HB1.out).below hbx) HKB.out.1 (by have := HKB.out.2; omega) _ 1 [bs] hkb (show 1 ≤ 1 by decide) (by rw [cat_one]; exact HBSB.out) (by rw [cat_one]; omega) (show 1 ≤ 4294960000 by decide) (glob_below HG.out HG.out.1 (below_step HB1.out hbx))).mono ?_
  rintro e w3 ⟨rfl, hb3⟩
  rw [cat_one]
  have HB3 := Aside0.mk (below_step (below_step HB1.out hbx) hb3)
  have F3 := Aside0.mk ((hb3.block w.heap.size (by have := blk_lt F1.out; simp; omega)).trans ((hbx.block w.heap.size (blk_lt F1.out)).trans F1.out))
  have HC3 := Aside0.mk (Kd.C_below (Kd.C_below HC1.out.2.1 hbx) hb3)
  obtain ⟨M, hM⟩ : ∃ M, M = HMac.macP key bs := ⟨_, rfl⟩
  have HML := Aside0.mk (show M.length = 32 from by rw [hM]; exact macP_len _ _)
  have HMB := Aside0.mk (show ∀ x ∈ M, 0 ≤ x ∧ x < 256 from by rw [hM]; exact macP_byte _ _)
  rw [← hM]
  have HM := Aside0.mk hM
  have HST0 := Aside0.mk (run_storeAt_new (P := Tryd.prog) w3 24 (nums .u8 (List.replicate 32 0)).toArray (nums .u8 M).toArray (by rw [HZookR.size_dg]; simp [nums, HML.out]) (by simp [nums, HML.out]) (by simp [nums, Value.oneCell']))
  obtain ⟨We, hWe⟩ : ∃ W, W = w3.alloc (.cells (nums .u8 M).toArray 24) := ⟨_, rfl⟩
  have hbe : Below w3.heap.size w3 We := by rw [hWe]; exact below_alloc (B0 w3) _
  have HBW := Aside0.mk (below_step HB3.out hbe)
  have HA : Aside0 (IsArr We w3.heap.size .u8 24 M) := ⟨by rw [hWe]; exact blk_new w3 _⟩
  have FW := Aside0.mk ((hbe.block w.heap.size (blk_lt F3.out)).trans F3.out)
  have HCW := Aside0.mk (Kd.C_below HC3.out hbe)
  have hst0 := HST0.out
  rw [← hWe] at hst0
  have HST := Aside0.mk hst0
  have hh := HH.out
  clear hb3 hM hst0 HST0 hWe hbe hbx hkb hcl hCt hbl hbs HB3 F3 HC3 F1
  go_wp2_with (refine store_event rfl (t := 24) (p := 9) (v := .tmp 36) rfl rfl (w1 := We) ?hr ?_; (case hr => exact run_store_of rfl HST.out); intro w5 hw5; have hw6 := hw5.symm; subst hw6)

  have HD := Aside0.mk (show decide (M = l.drop (l.length - 32)) = true from decide_eq_true (by rw [HM.out, HBSE.out]; exact HT.out.symm))
  refine wp_region_held_drew (S := fun w' => Below We.heap.size We w') (by kernel_rfl) (below_drew1 (B0 We)) (fun hHeld => ?_)
  generalize We.drew = wd at hHeld ⊢
  refine wpAnyH_take (i := 0) (v := .slice (some ⟨w3.heap.size, 0, none⟩) 32 32) rfl (by kernel_rfl) (by kernel_rfl) (by kernel_rfl) (fun _ _ _ h => h) (Or.inl ⟨by rfl, ?hy0⟩) hHeld ?_
  case hy0 => intro w' hSw; go_simp
  simp only [List.getElem_toArray, List.getElem_cons_succ, List.getElem_cons_zero, Act.put, List.setIfInBounds_toArray, List.set_cons_zero, List.set_cons_succ]
  refine wpAnyH_take (i := 1) (v := .slice (some ad) l.length c1) rfl (by kernel_rfl) (by kernel_rfl) (by kernel_rfl) (fun _ _ _ h => h) (Or.inl ⟨by rfl, ?hy1⟩) hHeld ?_
  case hy1 => intro w' hSw; go_simp
  simp only [List.getElem_toArray, List.getElem_cons_succ, List.getElem_cons_zero, Act.put, List.setIfInBounds_toArray, List.set_cons_zero, List.set_cons_succ]
  refine wpAnyH_take (i := 2) (v := .int .i64 ((l.length : Int) - 32)) rfl (by kernel_rfl) (by kernel_rfl) (by kernel_rfl) (fun _ _ _ h => h) (Or.inl ⟨by rfl, ?hy2⟩) hHeld ?_
  case hy2 => intro w' hSw; go_simp
  simp only [List.getElem_toArray, List.getElem_cons_succ, List.getElem_cons_zero, Act.put, List.setIfInBounds_toArray, List.set_cons_zero, List.set_cons_succ]
  refine wpAnyH_take (i := 3) (v := .slice (some (ad.add (l.length - 32))) (l.length - (l.length - 32)) (c1 - (l.length - 32))) rfl (by kernel_rfl) (by kernel_rfl) (by kernel_rfl) (fun _ _ _ h => h) (Or.inl ⟨by rfl, ?hy3⟩) hHeld ?_
  case hy3 => intro w' hSw; go_simp; rw [if_pos (by omega), show ((l.length : Int) - 32).toNat = l.length - 32 from by omega, if_neg (by omega)]
  simp only [List.getElem_toArray, List.getElem_cons_succ, List.getElem_cons_zero, Act.put, List.setIfInBounds_toArray, List.set_cons_zero, List.set_cons_succ]
  refine wpAnyH_ready (rs := [4]) (by kernel_rfl) (by simp) ?_
  refine AllReadyH.cons rfl (fun K hK => ?_) AllReadyH.nil
  simp only [List.getElem_toArray, List.getElem_cons_succ, List.getElem_cons_zero]
  rw [if_pos (by rfl)]
  go_simp
  have htl := Kd.C_drop (m := l.length - 32) (c := c1) (Kd.C_below HCW.out hHeld) (by omega) hc
  rw [if_neg (by omega)] at htl
  have htl2 : (Kd.int .u8).C wd (some (ad.add (l.length - 32))) (l.drop (l.length - 32)).length (l.drop (l.length - 32)) := by have h := htl; simp only [Option.map_some] at h; rw [show (Kd.int .u8).sz = 1 from rfl, Nat.mul_one] at h; exact h
  have hmc := HShaB.bytes_C (blk_below HA.out hHeld) (by rw [HML.out]; decide)
  refine (HMacQ.equal_any wd _ _ M (l.drop (l.length - 32)) ⟨some ⟨w3.heap.size, 0, none⟩, 32, by rw [HML.out], by rw [HML.out]; exact Nat.le_refl _, hmc⟩ ⟨_, _, by rw [List.length_drop], by rw [List.length_drop]; omega, htl2⟩ HMB.out (fun x hx => HBY.out x (List.mem_of_mem_drop hx)) (by rw [HML.out]; decide)).mono ?_
  rintro e x1 ⟨rfl, hbx⟩
  rw [HD.out]
  clear htl htl2 hmc
  refine hK.out _ _ (below_step hHeld hbx) (fun hHeld => ?_)
  clear hK K
  refine wpAnyH_take (i := 5) (v := .bool false) rfl (by kernel_rfl) (by kernel_rfl) (by kernel_rfl) (fun _ _ _ h => h) (Or.inl ⟨by rfl, ?hy5⟩) hHeld ?_
  case hy5 => intro w' hSw; go_simp
  simp only [List.getElem_toArray, List.getElem_cons_succ, List.getElem_cons_zero, Act.put, List.setIfInBounds_toArray, List.set_cons_zero, List.set_cons_succ]
  refine wpAnyH_done (by kernel_rfl) ?_ _
  have HBX := Aside0.mk (below_step HBW.out hHeld)
  have F5 := Aside0.mk ((hHeld.block w.heap.size (blk_lt FW.out)).trans FW.out)
  have HC5 := Aside0.mk (Kd.C_below HCW.out hHeld)
  clear hHeld hbx
  have HGX := Aside0.mk (errg_step HE.out HBX.out)
  obtain ⟨zd, hzd, hsz, hza⟩ := prsZ_agg HBSB.out
  have HZD := Aside0.mk hzd
  have HZDS := Aside0.mk hsz
  have HZDA := Aside0.mk hza
  clear hza hzd
  go_wp2_with fail
  refine (parse_any _ _ bs ⟨some ad, c1, by rw [HBL.out], by have := HBL.out; omega, by rw [HBSE.out]; exact Kd.C_take HC5.out (by omega), fun h => by cases h⟩ (by have := HBL.out; omega) HBSB.out HGX.out).mono ?_
  rintro e w9 ⟨rfl, hb9⟩
  rw [HZD.out]
  have F9 := Aside0.mk ((hb9.block w.heap.size (blk_lt F5.out)).trans F5.out)
  have HB9 := Aside0.mk (below_step HBX.out hb9)
  clear hb9 F5 HBX
  have hsc := zk_cells F9.out HZS.out hsz HZDA.out
  have HRW := Aside0.mk (setRow_heap w9 w.heap.size zc zd 26 (0, 0) F9.out)
  go_wp2_with fail
  refine bodyPost_ret (v := .tuple #[.agg zd, errV (prsC (prs bs)) (prsN (prs bs))]) ?_ ?_ ?_
  · exact results_c2 (p := 4) (q := 5) rfl _ _ w.heap.size zd rfl HRW.out HZDS.out
  · rfl
  · exact ⟨by rw [HLE.out, ← HBSE.out, ← HZD.out], below_row HB9.out (Nat.le_refl _) _⟩
end Go.Proofs.YtogimlinfkbapaaDoor.HZookY
/- zookie.Verify. -/
namespace Go.Proofs.YtogimlinfkbapaaDoor.HZookV
open Go.RowKit Go.Proofs.YtogimlinfkbapaaDoorW.PrintWords Go.Proofs.YtogimlinfkbapaaDoor.HLib Go.Proofs.YtogimlinfkbapaaDoor.HSha Go.Proofs.YtogimlinfkbapaaDoor.HShaU Go.Proofs.YtogimlinfkbapaaDoor.HShaS Go.Proofs.YtogimlinfkbapaaDoor.HZook Go.Proofs.YtogimlinfkbapaaDoor.HZookE Go.Proofs.YtogimlinfkbapaaDoor.HZookP Go.Proofs.YtogimlinfkbapaaDoor.HZookR Go.Proofs.YtogimlinfkbapaaDoor.HZookM Go.Proofs.YtogimlinfkbapaaDoor.HDec Go.Proofs.YtogimlinfkbapaaDoor.HErr
set_option linter.unusedVariables false
set_option linter.unusedSimpArgs false

set_option maxRecDepth 20000 in
set_option maxHeartbeats 4000000 in
theorem ver_syntax (w : World) (vk : Value) (s : ByteArray) (hs : s.size ≤ 500) (h0 : 0 ≤ (decP s).2) :
    Calls Tryd.prog 13 #[vk, .string s] w fun e w' => e = .returned (.tuple #[Z0, fltV 6 (decP s).2]) ∧ Below w.heap.size w w' := by
  have d0 : decide (0 ≤ (decP s).2) = true := decide_eq_true h0
  generalize hz : (#[.int .u8 0, .int .u64 0, .int .u8 0, .int .u8 0, .int .u8 0, .int .u8 0, .int .u8 0, .int .u8 0, .int .u8 0, .int .u8 0, .int .u8 0, .int .u8 0, .int .u8 0, .int .u8 0, .int .u8 0, .int .u8 0, .int .u8 0, .int .u8 0, .int .u8 0, .int .u8 0, .int .u8 0, .int .u8 0, .int .u8 0, .int .u8 0, .int .u8 0, .int .u8 0, .int .u8 0, .int .u8 0, .int .u8 0, .int .u8 0, .int .u8 0, .int .u8 0, .int .u8 0, .int .u8 0] : Array Value) = zc
  have HZ := Aside0.mk (show zc = Z0C from hz.symm.trans rfl)
  have HZS := Aside0.mk (show zc.size = 34 from by rw [HZ.out]; rfl)
  have HZA := Aside0.mk (show zc.all (·.oneCell') = true from by rw [HZ.out]; simp [nums, Value.oneCell'])
  have HB := Aside0.mk (show Below w.heap.size w (w.alloc (.cells zc 26)) from below_alloc (B0 w) _)
  have F := Aside0.mk (show (w.alloc (.cells zc 26)).heap[w.heap.size]? = some (.cells zc 26 (0, 0)) from blk_new w _)
  have HS := Aside0.mk hs
  clear hs
  go_enter Tryd.func13, Tryd.ntmps13
  go_wp2_with fail
  refine (decode_any _ s (by have := HS.out; omega)).mono ?_
  rintro e w1 ⟨v1, rfl, hv, hb⟩
  have HB1 := Aside0.mk (below_step HB.out hb)
  have F1 := Aside0.mk ((hb.block w.heap.size (by simp)).trans F.out)
  obtain ⟨A1, c1, rfl, hc1, hC1, hn1⟩ := hv
  have HC1 := Aside0.mk (And.intro hc1 (And.intro hC1 hn1))
  clear hb hc1 hC1 hn1 F HB
  have HL := Aside0.mk (show (decP s).1.length ≤ 500 from by have := HBaseP.dec_len s; have := HS.out; omega)
  have hll := HL.out
  have hsz := HZS.out
  have hsc := zk_cells F1.out hsz hsz HZA.out
  have HRW := Aside0.mk (setRow_heap w1 w.heap.size zc zc 26 (0, 0) F1.out)
  go_wp2_with fail
  refine (new_any (6) ((decP s).2) _).mono ?_
  rintro e w2 ⟨rfl, rfl⟩
  go_wp2
  refine bodyPost_ret (v := .tuple #[.agg zc, fltV (6) ((decP s).2)]) ?_ ?_ ?_
  · exact results_c2 (p := 4) (q := 5) rfl _ _ w.heap.size zc rfl HRW.out HZS.out
  · rfl
  · exact ⟨by rw [HZ.out], below_row HB1.out (Nat.le_refl _) _⟩
set_option maxRecDepth 20000 in
set_option maxHeartbeats 4000000 in
theorem ver_short (w : World) (vk : Value) (s : ByteArray) (hs : s.size ≤ 500) (h0 : (decP s).2 < 0) (h1 : (decP s).1.length < 32) :
    Calls Tryd.prog 13 #[vk, .string s] w fun e w' => e = .returned (.tuple #[Z0, fltV 1 (decP s).1.length]) ∧ Below w.heap.size w w' := by
  have d0 : decide (0 ≤ (decP s).2) = false := decide_eq_false (by omega)
  have d1 : decide (((decP s).1.length : Int) - 32 < 0) = true := decide_eq_true (by omega)
  generalize hz : (#[.int .u8 0, .int .u64 0, .int .u8 0, .int .u8 0, .int .u8 0, .int .u8 0, .int .u8 0, .int .u8 0, .int .u8 0, .int .u8 0, .int .u8 0, .int .u8 0, .int .u8 0, .int .u8 0, .int .u8 0, .int .u8 0, .int .u8 0, .int .u8 0, .int .u8 0, .int .u8 0, .int .u8 0, .int .u8 0, .int .u8 0, .int .u8 0, .int .u8 0, .int .u8 0, .int .u8 0, .int .u8 0, .int .u8 0, .int .u8 0, .int .u8 0, .int .u8 0, .int .u8 0, .int .u8 0] : Array Value) = zc
  have HZ := Aside0.mk (show zc = Z0C from hz.symm.trans rfl)
  have HZS := Aside0.mk (show zc.size = 34 from by rw [HZ.out]; rfl)
  have HZA := Aside0.mk (show zc.all (·.oneCell') = true from by rw [HZ.out]; simp [nums, Value.oneCell'])
  have HB := Aside0.mk (show Below w.heap.size w (w.alloc (.cells zc 26)) from below_alloc (B0 w) _)
  have F := Aside0.mk (show (w.alloc (.cells zc 26)).heap[w.heap.size]? = some (.cells zc 26 (0, 0)) from blk_new w _)
  have HS := Aside0.mk hs
  clear hs
  go_enter Tryd.func13, Tryd.ntmps13
  go_wp2_with fail
  refine (decode_any _ s (by have := HS.out; omega)).mono ?_
  rintro e w1 ⟨v1, rfl, hv, hb⟩
  have HB1 := Aside0.mk (below_step HB.out hb)
  have F1 := Aside0.mk ((hb.block w.heap.size (by simp)).trans F.out)
  obtain ⟨A1, c1, rfl, hc1, hC1, hn1⟩ := hv
  have HC1 := Aside0.mk (And.intro hc1 (And.intro hC1 hn1))
  clear hb hc1 hC1 hn1 F HB
  have hll : (decP s).1.length ≤ 500 := by have := HBaseP.dec_len s; have := HS.out; omega
  have hsz := HZS.out
  have hsc := zk_cells F1.out hsz hsz HZA.out
  have HRW := Aside0.mk (setRow_heap w1 w.heap.size zc zc 26 (0, 0) F1.out)
  go_wp2_with fail
  refine (new_any (1) ((decP s).1.length) _).mono ?_
  rintro e w2 ⟨rfl, rfl⟩
  go_wp2
  refine bodyPost_ret (v := .tuple #[.agg zc, fltV (1) ((decP s).1.length)]) ?_ ?_ ?_
  · exact results_c2 (p := 4) (q := 5) rfl _ _ w.heap.size zc rfl HRW.out HZS.out
  · rfl
  · exact ⟨by rw [HZ.out], below_row HB1.out (Nat.le_refl _) _⟩
end Go.Proofs.YtogimlinfkbapaaDoor.HZookV
/- Arrays of whole numbers, compared: the same one. -/
namespace Go.Proofs.YtogimlinfkbapaaDoor.HEqA
open Go.RowKit Go.Proofs.YtogimlinfkbapaaDoorW.PrintWords
set_option linter.unusedVariables false
set_option linter.unusedSimpArgs false

theorem part_int {P : Program} {e : TypeId} {k : IntKind} (he : P.underlying e = some (.int k)) (xs : List Int) (i : Nat) (hi : i < xs.length) (w : World) : (part e (nums k xs).toArray i).run P w = .ok (.int k (xs.getD i 0)) w := by
  have hg : (nums k xs)[i]? = some (.int k (xs.getD i 0)) := by
    simp [nums, List.getElem?_eq_getElem hi, List.getD_eq_getElem?_getD]
  simp [part, isAgg, run_underlying he, Result.andThen, hg]
theorem eq_int {P : Program} {e : TypeId} {k : IntKind} (he : P.underlying e = some (.int k)) (d : Nat) (x : Int) (w : World) : (Op.equalIn (d + 1) e (.int k x) (.int k x)).run P w = .ok true w := by
  simp [Op.equalIn, run_underlying he, Result.andThen]
theorem eq_items {P : Program} {e : TypeId} {k : IntKind} (he : P.underlying e = some (.int k)) (d : Nat) (xs : List Int) (w : World) : ∀ is : List Nat, (∀ i ∈ is, i < xs.length) → (Op.eqItems (d + 1) e 1 (nums k xs).toArray (nums k xs).toArray is).run P w = .ok true w := by
  intro is
  induction is with
  | nil => intro _; simp [Op.eqItems]
  | cons i is ih =>
    intro h
    have h1 := part_int he xs i (h i (List.mem_cons_self ..)) w
    have h2 := eq_int he d (xs.getD i 0) w
    have h3 := ih (fun j hj => h j (List.mem_cons_of_mem _ hj))
    generalize xs.getD i 0 = y at h1 h2
    simp [Op.eqItems, Sem.run_bind, h1, h2, h3, Result.andThen]
theorem eq_arr {P : Program} {t e : TypeId} {n : Nat} {k : IntKind} {i : TypeInfo} (ht : P.underlying t = some (.array n e)) (he : P.underlying e = some (.int k)) (hi : P.info? e = some i) (hce : P.cellsOf e = 1) (xs : List Int) (hn : xs.length = n) (w : World) :
    (Op.equalIn 10000 t (.agg (nums k xs).toArray) (.agg (nums k xs).toArray)).run P w = .ok true w := by
  rw [show (10000 : Nat) = 9998 + 1 + 1 from rfl, run_equalIn_array (w := w) (9998 + 1) (nums k xs).toArray (nums k xs).toArray ht hi, hce]
  exact eq_items he 9998 xs w _ (fun j hj => by rw [hn]; exact List.mem_range.1 hj)

end Go.Proofs.YtogimlinfkbapaaDoor.HEqA
/- Arrays of whole numbers, compared: any two. -/
namespace Go.Proofs.YtogimlinfkbapaaDoor.HEqA
open Go.RowKit Go.Proofs.YtogimlinfkbapaaDoorW.PrintWords
set_option linter.unusedVariables false
set_option linter.unusedSimpArgs false

theorem eq_int2 {P : Program} {e : TypeId} {k : IntKind} (he : P.underlying e = some (.int k)) (d : Nat) (x y : Int) (w : World) : (Op.equalIn (d + 1) e (.int k x) (.int k y)).run P w = .ok (x == y) w := by
  simp [Op.equalIn, run_underlying he, Result.andThen]
theorem eq_items2 {P : Program} {e : TypeId} {k : IntKind} (he : P.underlying e = some (.int k)) (d : Nat) (xs ys : List Int) (hl : xs.length = ys.length) (w : World) : ∀ is : List Nat, (∀ i ∈ is, i < xs.length) → (Op.eqItems (d + 1) e 1 (nums k xs).toArray (nums k ys).toArray is).run P w = .ok (is.all fun i => xs.getD i 0 == ys.getD i 0) w := by
  intro is
  induction is with
  | nil => intro _; simp [Op.eqItems]
  | cons i is ih =>
    intro h
    have hi := h i (List.mem_cons_self ..)
    have h1 := part_int he xs i hi w
    have h1' := part_int he ys i (by omega) w
    have h2 := eq_int2 he d (xs.getD i 0) (ys.getD i 0) w
    have h3 := ih (fun j hj => h j (List.mem_cons_of_mem _ hj))
    rw [List.all_cons]
    generalize xs.getD i 0 = x at *
    generalize ys.getD i 0 = y at *
    by_cases hxy : x = y
    · subst hxy
      simp [Op.eqItems, Sem.run_bind, h1, h1', h2, h3, Result.andThen]
    · have hb : (x == y) = false := by simpa using hxy
      rw [hb] at h2 ⊢
      simp [Op.eqItems, Sem.run_bind, h1, h1', h2, Result.andThen]
theorem all_eq (xs ys : List Int) (hl : xs.length = ys.length) : ((List.range xs.length).all fun i => xs.getD i 0 == ys.getD i 0) = decide (xs = ys) := by
  by_cases h : xs = ys
  · subst h; simp
  · rw [decide_eq_false h, Bool.eq_false_iff]
    intro ha
    apply h
    apply List.ext_getElem hl
    intro i h1 h2
    have := List.all_eq_true.1 ha i (List.mem_range.2 h1)
    simpa [List.getD_eq_getElem?_getD, List.getElem?_eq_getElem h1, List.getElem?_eq_getElem h2] using this
theorem eq_arr2 {P : Program} {t e : TypeId} {n : Nat} {k : IntKind} {i : TypeInfo} (ht : P.underlying t = some (.array n e)) (he : P.underlying e = some (.int k)) (hi : P.info? e = some i) (hce : P.cellsOf e = 1) (xs ys : List Int) (hn : xs.length = n) (hm : ys.length = n) (w : World) :
    (Op.equalIn 10000 t (.agg (nums k xs).toArray) (.agg (nums k ys).toArray)).run P w = .ok (decide (xs = ys)) w := by
  rw [show (10000 : Nat) = 9998 + 1 + 1 from rfl, run_equalIn_array (w := w) (9998 + 1) (nums k xs).toArray (nums k ys).toArray ht hi, hce]
  rw [eq_items2 he 9998 xs ys (by omega) w _ (fun j hj => by rw [hn]; exact List.mem_range.1 hj), ← all_eq xs ys (by omega), hn]
end Go.Proofs.YtogimlinfkbapaaDoor.HEqA
/- The reference's Verify of a zookie. -/
namespace Go.Proofs.YtogimlinfkbapaaDoor.HZookW
open Go.RowKit Go.Proofs.YtogimlinfkbapaaDoorW.PrintWords Go.Proofs.YtogimlinfkbapaaDoor.HLib Go.Proofs.YtogimlinfkbapaaDoor.HSha Go.Proofs.YtogimlinfkbapaaDoor.HShaU Go.Proofs.YtogimlinfkbapaaDoor.HShaS Go.Proofs.YtogimlinfkbapaaDoor.HZook Go.Proofs.YtogimlinfkbapaaDoor.HZookE Go.Proofs.YtogimlinfkbapaaDoor.HZookP Go.Proofs.YtogimlinfkbapaaDoor.HZookR Go.Proofs.YtogimlinfkbapaaDoor.HZookF Go.Proofs.YtogimlinfkbapaaDoor.HZookM Go.Proofs.YtogimlinfkbapaaDoor.HDec Go.Proofs.YtogimlinfkbapaaDoor.HErr Go.Proofs.YtogimlinfkbapaaDoor.HEqA
set_option linter.unusedVariables false
set_option linter.unusedSimpArgs false

theorem yieldsIf_load {P : Program} {ops : Array Oper} {S : World → Prop} {op : Oper} {a : Act} (hw : Region.wanted op (yielded ops a.tmps) = true) (ty : TypeId) (x : Operand) (ho : op.op = .load ty x) (v : Value)
    (h : ∀ w, S w → (Instr.loadAt ty (a.eval x)).run P w = .ok v w) : YieldsIf P ops S op v a :=
  .inl ⟨hw, fun w hS => by simp [execOp, ho, h w hS, Result.andThen]⟩
theorem cells_at {w : World} {ad : Addr} {xs : List Int} (h : (Kd.int .u8).C w (some ad) xs.length xs) (hp : 0 < xs.length) : ∀ (j : Nat) (v : Value), (nums .u8 xs)[j]? = some v → w.cell? (ad.add j) = some v := by
  obtain ⟨a, e, hc⟩ := HMacS.C_cells h hp
  injection e with e
  rw [e]; exact hc

set_option maxRecDepth 20000 in
set_option maxHeartbeats 4000000 in
theorem refver_syntax (w : World) (vk : Value) (s : ByteArray) (hs : s.size ≤ 500) (h0 : 0 ≤ (decP s).2) :
    Calls Tryd.prog 19 #[vk, .string s] w fun e w' => e = .returned (.tuple #[Z0, .int .i64 6, .int .i64 (decP s).2]) ∧ Below w.heap.size w w' := by
  have d0 : decide (0 ≤ (decP s).2) = true := decide_eq_true h0
  generalize hz : (#[.int .u8 0, .int .u64 0, .int .u8 0, .int .u8 0, .int .u8 0, .int .u8 0, .int .u8 0, .int .u8 0, .int .u8 0, .int .u8 0, .int .u8 0, .int .u8 0, .int .u8 0, .int .u8 0, .int .u8 0, .int .u8 0, .int .u8 0, .int .u8 0, .int .u8 0, .int .u8 0, .int .u8 0, .int .u8 0, .int .u8 0, .int .u8 0, .int .u8 0, .int .u8 0, .int .u8 0, .int .u8 0, .int .u8 0, .int .u8 0, .int .u8 0, .int .u8 0, .int .u8 0, .int .u8 0] : Array Value) = zc
  have HZ := Aside0.mk (show zc = Z0C from hz.symm.trans rfl)
  have HZS := Aside0.mk (show zc.size = 34 from by rw [HZ.out]; rfl)
  have HZA := Aside0.mk (show zc.all (·.oneCell') = true from by rw [HZ.out]; simp [nums, Value.oneCell'])
  have HB := Aside0.mk (show Below w.heap.size w (w.alloc (.cells zc 26)) from below_alloc (B0 w) _)
  have F := Aside0.mk (show (w.alloc (.cells zc 26)).heap[w.heap.size]? = some (.cells zc 26 (0, 0)) from blk_new w _)
  have HS := Aside0.mk hs
  clear hs
  go_enter Tryd.func19, Tryd.ntmps19
  go_wp2_with fail
  refine (HRef04d.refDecode_any _ s (by have := HS.out; omega)).mono ?_
  rw [← HBaseP.dec_ref]
  rintro e w1 ⟨v1, rfl, hv, hb⟩
  have HB1 := Aside0.mk (below_step HB.out hb)
  have F1 := Aside0.mk ((hb.block w.heap.size (by simp)).trans F.out)
  obtain ⟨A1, c1, rfl, hc1, hC1, hn1⟩ := hv
  have HC1 := Aside0.mk (And.intro hc1 (And.intro hC1 hn1))
  clear hb hc1 hC1 hn1 F HB
  have hll : (decP s).1.length ≤ 500 := by have := HBaseP.dec_len s; have := HS.out; omega
  have hsz := HZS.out
  have hsc := zk_cells F1.out hsz hsz HZA.out
  have HRW := Aside0.mk (setRow_heap w1 w.heap.size zc zc 26 (0, 0) F1.out)
  go_wp2_with fail
  refine bodyPost_ret (v := .tuple #[.agg zc, .int .i64 6, .int .i64 ((decP s).2)]) ?_ ?_ ?_
  · exact results_c3 (p := 4) (q := 5) (s := 6) rfl _ _ w.heap.size zc rfl HRW.out HZS.out
  · rfl
  · exact ⟨by rw [HZ.out], below_row HB1.out (Nat.le_refl _) _⟩
set_option maxRecDepth 20000 in
set_option maxHeartbeats 4000000 in
theorem refver_short (w : World) (vk : Value) (s : ByteArray) (hs : s.size ≤ 500) (h0 : (decP s).2 < 0) (h1 : (decP s).1.length < 32) :
    Calls Tryd.prog 19 #[vk, .string s] w fun e w' => e = .returned (.tuple #[Z0, .int .i64 1, .int .i64 (decP s).1.length]) ∧ Below w.heap.size w w' := by
  have d0 : decide (0 ≤ (decP s).2) = false := decide_eq_false (by omega)
  have d1 : decide (((decP s).1.length : Int) - 32 < 0) = true := decide_eq_true (by omega)
  generalize hz : (#[.int .u8 0, .int .u64 0, .int .u8 0, .int .u8 0, .int .u8 0, .int .u8 0, .int .u8 0, .int .u8 0, .int .u8 0, .int .u8 0, .int .u8 0, .int .u8 0, .int .u8 0, .int .u8 0, .int .u8 0, .int .u8 0, .int .u8 0, .int .u8 0, .int .u8 0, .int .u8 0, .int .u8 0, .int .u8 0, .int .u8 0, .int .u8 0, .int .u8 0, .int .u8 0, .int .u8 0, .int .u8 0, .int .u8 0, .int .u8 0, .int .u8 0, .int .u8 0, .int .u8 0, .int .u8 0] : Array Value) = zc
  have HZ := Aside0.mk (show zc = Z0C from hz.symm.trans rfl)
  have HZS := Aside0.mk (show zc.size = 34 from by rw [HZ.out]; rfl)
  have HZA := Aside0.mk (show zc.all (·.oneCell') = true from by rw [HZ.out]; simp [nums, Value.oneCell'])
  have HB := Aside0.mk (show Below w.heap.size w (w.alloc (.cells zc 26)) from below_alloc (B0 w) _)
  have F := Aside0.mk (show (w.alloc (.cells zc 26)).heap[w.heap.size]? = some (.cells zc 26 (0, 0)) from blk_new w _)
  have HS := Aside0.mk hs
  clear hs
  go_enter Tryd.func19, Tryd.ntmps19
  go_wp2_with fail
  refine (HRef04d.refDecode_any _ s (by have := HS.out; omega)).mono ?_
  rw [← HBaseP.dec_ref]
  rintro e w1 ⟨v1, rfl, hv, hb⟩
  have HB1 := Aside0.mk (below_step HB.out hb)
  have F1 := Aside0.mk ((hb.block w.heap.size (by simp)).trans F.out)
  obtain ⟨A1, c1, rfl, hc1, hC1, hn1⟩ := hv
  have HC1 := Aside0.mk (And.intro hc1 (And.intro hC1 hn1))
  clear hb hc1 hC1 hn1 F HB
  have hll : (decP s).1.length ≤ 500 := by have := HBaseP.dec_len s; have := HS.out; omega
  have hsz := HZS.out
  have hsc := zk_cells F1.out hsz hsz HZA.out
  have HRW := Aside0.mk (setRow_heap w1 w.heap.size zc zc 26 (0, 0) F1.out)
  go_wp2_with fail
  refine bodyPost_ret (v := .tuple #[.agg zc, .int .i64 1, .int .i64 ((decP s).1.length)]) ?_ ?_ ?_
  · exact results_c3 (p := 4) (q := 5) (s := 6) rfl _ _ w.heap.size zc rfl HRW.out HZS.out
  · rfl
  · exact ⟨by rw [HZ.out], below_row HB1.out (Nat.le_refl _) _⟩
set_option maxRecDepth 20000 in
set_option maxHeartbeats 4000000 in
theorem refver_tag (w : World) (vk : Value) (s : ByteArray) (hs : s.size ≤ 500) (key : List Int) (hvk : Bv w vk key) (hkb : ∀ x ∈ key, 0 ≤ x ∧ x < 256) (hkl : key.length ≤ 4294960000) (h0 : (decP s).2 < 0) (h1 : 32 ≤ (decP s).1.length) (h2 : ((decP s).1.drop ((decP s).1.length - 32)) ≠ HMac.macP key ((decP s).1.take ((decP s).1.length - 32))) :
    Calls Tryd.prog 19 #[vk, .string s] w fun e w' => e = .returned (.tuple #[Z0, .int .i64 12, .int .i64 (((decP s).1.length : Int) - 32)]) ∧ Below w.heap.size w w' := by
  have HK := Aside0.mk hvk
  have HKB := Aside0.mk (And.intro hkb hkl)
  have HT := Aside0.mk h2
  clear hvk hkb hkl h2
  have d0 : decide (0 ≤ (decP s).2) = false := decide_eq_false (by omega)
  have d1 : decide (((decP s).1.length : Int) - 32 < 0) = false := decide_eq_false (by omega)
  generalize hz : (#[.int .u8 0, .int .u64 0, .int .u8 0, .int .u8 0, .int .u8 0, .int .u8 0, .int .u8 0, .int .u8 0, .int .u8 0, .int .u8 0, .int .u8 0, .int .u8 0, .int .u8 0, .int .u8 0, .int .u8 0, .int .u8 0, .int .u8 0, .int .u8 0, .int .u8 0, .int .u8 0, .int .u8 0, .int .u8 0, .int .u8 0, .int .u8 0, .int .u8 0, .int .u8 0, .int .u8 0, .int .u8 0, .int .u8 0, .int .u8 0, .int .u8 0, .int .u8 0, .int .u8 0, .int .u8 0] : Array Value) = zc
  have HZ := Aside0.mk (show zc = Z0C from hz.symm.trans rfl)
  have HZS := Aside0.mk (show zc.size = 34 from by rw [HZ.out]; rfl)
  have HZA := Aside0.mk (show zc.all (·.oneCell') = true from by rw [HZ.out]; simp [nums, Value.oneCell'])
  have HB := Aside0.mk (show Below w.heap.size w (w.alloc (.cells zc 26)) from below_alloc (B0 w) _)
  have F := Aside0.mk (show (w.alloc (.cells zc 26)).heap[w.heap.size]? = some (.cells zc 26 (0, 0)) from blk_new w _)
  have HS := Aside0.mk hs
  clear hs
  go_enter Tryd.func19, Tryd.ntmps19
  go_wp2_with fail
  refine (HRef04d.refDecode_any _ s (by have := HS.out; omega)).mono ?_
  rw [← HBaseP.dec_ref]
  rintro e w1 ⟨v1, rfl, hv, hb⟩
  have HB1 := Aside0.mk (below_step HB.out hb)
  have F1 := Aside0.mk ((hb.block w.heap.size (by simp)).trans F.out)
  obtain ⟨A1, c1, rfl, hc1, hC1, hn1⟩ := hv
  have HC1 := Aside0.mk (And.intro hc1 (And.intro hC1 hn1))
  clear hb hc1 hC1 hn1 F HB
  have hll : (decP s).1.length ≤ 500 := by have := HBaseP.dec_len s; have := HS.out; omega
  have HDB := Aside0.mk (HBaseP.dec_bytes s)
  generalize hlE : (decP s).1 = l at *
  have HLE := Aside0.mk hlE
  clear hlE
  obtain ⟨ad, hA, hcell⟩ := HMacS.C_cells HC1.out.2.1 (by omega)
  subst hA
  clear hcell
  have HBY : Aside0 (∀ x ∈ l, 0 ≤ x ∧ x < 256) := HDB
  have HH := Aside0.mk h1
  have hw : wrap64 ((l.length : Int) - 32) = (l.length : Int) - 32 := IntWalk.wrap64_in _ (by omega)
  have hc := HC1.out.1
  obtain ⟨bs, hbs⟩ : ∃ b, b = l.take (l.length - 32) := ⟨_, rfl⟩
  have hbl : bs.length = l.length - 32 := by rw [hbs, List.length_take]; omega
  obtain ⟨T, hT⟩ : ∃ b, b = l.drop (l.length - 32) := ⟨_, rfl⟩
  have HTE := Aside0.mk hT
  have HTL := Aside0.mk (show T.length = 32 from by rw [hT, List.length_drop]; omega)
  have HBL := Aside0.mk hbl
  have HBSE := Aside0.mk hbs
  have HBSB := Aside0.mk (show ∀ x ∈ bs, 0 ≤ x ∧ x < 256 from by rw [hbs]; exact fun x hx => HBY.out x (List.mem_of_mem_take hx))
  obtain ⟨M, hM⟩ : ∃ M, M = HMac.macP key bs := ⟨_, rfl⟩
  have HML := Aside0.mk (show M.length = 32 from by rw [hM]; exact macP_len _ _)
  have HM := Aside0.mk hM
  have heq := eq_arr2 (P := Tryd.prog) Tryd.underlying24 Tryd.underlying5 (show Tryd.prog.info? 5 = some _ from rfl) (by kernel_rfl) M T HML.out HTL.out
  have hTb : Aside0 (Bv w1 (.slice (some ad) (l.length - 32) c1) bs) := ⟨⟨some ad, c1, by rw [HBL.out], by have := HBL.out; omega, by rw [hbs]; exact Kd.C_take HC1.out.2.1 (by omega)⟩⟩
  clear hM hbs hbl hT
  rw [show decide (M = T) = false from decide_eq_false (by rw [HM.out, HBSE.out, HTE.out]; exact fun h => HT.out h.symm)] at heq
  go_upto_region 7 with fail
  have hh := HH.out
  refine wp_region_held_drew (S := fun w' => Below w1.heap.size w1 w') (by kernel_rfl) (below_drew1 (B0 w1)) (fun hHeld => ?_)
  generalize w1.drew = wd at hHeld ⊢
  refine wpAnyH_take (i := 0) (v := vk) rfl (by kernel_rfl) (by kernel_rfl) (by kernel_rfl) (fun _ _ _ h => h) (Or.inl ⟨by rfl, ?hy0⟩) hHeld ?_
  case hy0 => intro w' hSw; go_simp
  simp only [List.getElem_toArray, List.getElem_cons_succ, List.getElem_cons_zero, Act.put, List.setIfInBounds_toArray, List.set_cons_zero, List.set_cons_succ]
  refine wpAnyH_take (i := 1) (v := .slice (some ad) l.length c1) rfl (by kernel_rfl) (by kernel_rfl) (by kernel_rfl) (fun _ _ _ h => h) (Or.inl ⟨by rfl, ?hy1⟩) hHeld ?_
  case hy1 => intro w' hSw; go_simp
  simp only [List.getElem_toArray, List.getElem_cons_succ, List.getElem_cons_zero, Act.put, List.setIfInBounds_toArray, List.set_cons_zero, List.set_cons_succ]
  refine wpAnyH_take (i := 2) (v := .int .i64 ((l.length : Int) - 32)) rfl (by kernel_rfl) (by kernel_rfl) (by kernel_rfl) (fun _ _ _ h => h) (Or.inl ⟨by rfl, ?hy2⟩) hHeld ?_
  case hy2 => intro w' hSw; go_simp
  simp only [List.getElem_toArray, List.getElem_cons_succ, List.getElem_cons_zero, Act.put, List.setIfInBounds_toArray, List.set_cons_zero, List.set_cons_succ]
  refine wpAnyH_take (i := 3) (v := .slice (some ad) (l.length - 32) c1) rfl (by kernel_rfl) (by kernel_rfl) (by kernel_rfl) (fun _ _ _ h => h) (Or.inl ⟨by rfl, ?hy3⟩) hHeld ?_
  case hy3 => intro w' hSw; go_simp; rw [if_pos (by omega), show ((l.length : Int) - 32).toNat = l.length - 32 from by omega]
  simp only [List.getElem_toArray, List.getElem_cons_succ, List.getElem_cons_zero, Act.put, List.setIfInBounds_toArray, List.set_cons_zero, List.set_cons_succ]
  refine wpAnyH_take (i := 5) (v := .slice (some ad) l.length c1) rfl (by kernel_rfl) (by kernel_rfl) (by kernel_rfl) (fun _ _ _ h => h) (Or.inl ⟨by rfl, ?hy5⟩) hHeld ?_
  case hy5 => intro w' hSw; go_simp
  simp only [List.getElem_toArray, List.getElem_cons_succ, List.getElem_cons_zero, Act.put, List.setIfInBounds_toArray, List.set_cons_zero, List.set_cons_succ]
  refine wpAnyH_take (i := 6) (v := .int .i64 ((l.length : Int) - 32)) rfl (by kernel_rfl) (by kernel_rfl) (by kernel_rfl) (fun _ _ _ h => h) (Or.inl ⟨by rfl, ?hy6⟩) hHeld ?_
  case hy6 => intro w' hSw; go_simp
  simp only [List.getElem_toArray, List.getElem_cons_succ, List.getElem_cons_zero, Act.put, List.setIfInBounds_toArray, List.set_cons_zero, List.set_cons_succ]
  refine wpAnyH_take (i := 7) (v := .slice (some (ad.add (l.length - 32))) (l.length - (l.length - 32)) (c1 - (l.length - 32))) rfl (by kernel_rfl) (by kernel_rfl) (by kernel_rfl) (fun _ _ _ h => h) (Or.inl ⟨by rfl, ?hy7⟩) hHeld ?_
  case hy7 => intro w' hSw; go_simp; rw [if_pos (by omega), show ((l.length : Int) - 32).toNat = l.length - 32 from by omega, if_neg (by omega)]
  simp only [List.getElem_toArray, List.getElem_cons_succ, List.getElem_cons_zero, Act.put, List.setIfInBounds_toArray, List.set_cons_zero, List.set_cons_succ]
  refine wpAnyH_take (i := 8) (v := .pointer (some (ad.add (l.length - 32)))) rfl (by kernel_rfl) (by kernel_rfl) (by kernel_rfl) (fun _ _ _ h => h) (Or.inl ⟨by rfl, ?hy8⟩) hHeld ?_
  case hy8 => intro w' hSw; have hsp : (Instr.arrayAt 24 (.slice (some (ad.add (l.length - 32))) (l.length - (l.length - 32)) (c1 - (l.length - 32)))).run Tryd.prog w' = .ok (.pointer (some (ad.add (l.length - 32)))) w' := (by rw [show l.length - (l.length - 32) = 32 from by omega]; exact run_at32 Tryd.underlying24 _ _ _); go_simp
  simp only [List.getElem_toArray, List.getElem_cons_succ, List.getElem_cons_zero, Act.put, List.setIfInBounds_toArray, List.set_cons_zero, List.set_cons_succ]
  refine wpAnyH_take (i := 9) (v := .agg (nums .u8 T).toArray) rfl (by kernel_rfl) (by kernel_rfl) (by kernel_rfl) (fun _ _ _ h => h) (yieldsIf_load (by rfl) 24 (.tmp 35) rfl _ (fun w' h => load_addr w' (ad.add (l.length - 32)) 24 (nums .u8 T) _ (fun j v hj => by rw [HZookF.add_add]; refine cells_at (Kd.C_below HC1.out.2.1 h) (by omega) (l.length - 32 + j) v ?_; rw [← hj, HTE.out]; simp [nums, List.getElem?_drop]) Tryd.underlying24 rfl (by rw [size_dg]; simp [nums, HTL.out]))) hHeld ?_
  simp only [List.getElem_toArray, List.getElem_cons_succ, List.getElem_cons_zero, Act.put, List.setIfInBounds_toArray, List.set_cons_zero, List.set_cons_succ]
  refine wpAnyH_ready (rs := [4]) (by kernel_rfl) (by simp) ?_
  refine AllReadyH.cons rfl (fun K hK => ?_) AllReadyH.nil
  simp only [List.getElem_toArray, List.getElem_cons_succ, List.getElem_cons_zero]
  rw [if_pos (by rfl)]
  go_simp
  refine (HMacR.refmac_any wd vk key ((HK.out.below HB1.out).below hHeld) HKB.out.1 HKB.out.2 _ bs (hTb.out.below hHeld) HBSB.out (by have := HBL.out; omega)).mono ?_
  rw [← HM.out]
  rintro e x1 ⟨rfl, hbx⟩
  refine hK.out _ _ (below_step hHeld hbx) (fun hHeld => ?_)
  clear hK K
  refine wpAnyH_take (i := 10) (v := .bool true) rfl (by kernel_rfl) (by kernel_rfl) (by kernel_rfl) (fun _ _ _ h => h) (Or.inl ⟨by rfl, ?hy10⟩) hHeld ?_
  case hy10 => intro w' hSw; go_simp
  simp only [List.getElem_toArray, List.getElem_cons_succ, List.getElem_cons_zero, Act.put, List.setIfInBounds_toArray, List.set_cons_zero, List.set_cons_succ]
  refine wpAnyH_done (by kernel_rfl) ?_ _
  have HBX := Aside0.mk (below_step HB1.out hHeld)
  have F5 := Aside0.mk ((hHeld.block w.heap.size (blk_lt F1.out)).trans F1.out)
  have hTb5 := Aside0.mk (hTb.out.below hHeld)
  have HC5 := Aside0.mk (Kd.C_below HC1.out.2.1 hHeld)
  clear hHeld hbx
  have hsz := HZS.out
  have hsc := zk_cells F5.out hsz hsz HZA.out
  have HRW := Aside0.mk (setRow_heap x1 w.heap.size zc zc 26 (0, 0) F5.out)
  clear heq
  go_wp2_with fail
  refine bodyPost_ret (v := .tuple #[.agg zc, .int .i64 12, .int .i64 ((l.length : Int) - 32)]) ?_ ?_ ?_
  · exact results_c3 (p := 4) (q := 5) (s := 6) rfl _ _ w.heap.size zc rfl HRW.out HZS.out
  · rfl
  · exact ⟨by rw [HZ.out, HLE.out], below_row HBX.out (Nat.le_refl _) _⟩
set_option maxRecDepth 20000 in
set_option maxHeartbeats 4000000 in
theorem refver_good (w : World) (vk : Value) (s : ByteArray) (hs : s.size ≤ 500) (key : List Int) (hvk : Bv w vk key) (hkb : ∀ x ∈ key, 0 ≤ x ∧ x < 256) (hkl : key.length ≤ 4294960000) (h0 : (decP s).2 < 0) (h1 : 32 ≤ (decP s).1.length) (h2 : ((decP s).1.drop ((decP s).1.length - 32)) = HMac.macP key ((decP s).1.take ((decP s).1.length - 32))) :
    Calls Tryd.prog 19 #[vk, .string s] w fun e w' => e = .returned (.tuple #[prsZ (prs ((decP s).1.take ((decP s).1.length - 32))), .int .i64 (prsC (prs ((decP s).1.take ((decP s).1.length - 32)))), .int .i64 (prsN (prs ((decP s).1.take ((decP s).1.length - 32))))]) ∧ Below w.heap.size w w' := by
  have HK := Aside0.mk hvk
  have HKB := Aside0.mk (And.intro hkb hkl)
  have HT := Aside0.mk h2
  clear hvk hkb hkl h2
  have d0 : decide (0 ≤ (decP s).2) = false := decide_eq_false (by omega)
  have d1 : decide (((decP s).1.length : Int) - 32 < 0) = false := decide_eq_false (by omega)
  generalize hz : (#[.int .u8 0, .int .u64 0, .int .u8 0, .int .u8 0, .int .u8 0, .int .u8 0, .int .u8 0, .int .u8 0, .int .u8 0, .int .u8 0, .int .u8 0, .int .u8 0, .int .u8 0, .int .u8 0, .int .u8 0, .int .u8 0, .int .u8 0, .int .u8 0, .int .u8 0, .int .u8 0, .int .u8 0, .int .u8 0, .int .u8 0, .int .u8 0, .int .u8 0, .int .u8 0, .int .u8 0, .int .u8 0, .int .u8 0, .int .u8 0, .int .u8 0, .int .u8 0, .int .u8 0, .int .u8 0] : Array Value) = zc
  have HZ := Aside0.mk (show zc = Z0C from hz.symm.trans rfl)
  have HZS := Aside0.mk (show zc.size = 34 from by rw [HZ.out]; rfl)
  have HZA := Aside0.mk (show zc.all (·.oneCell') = true from by rw [HZ.out]; simp [nums, Value.oneCell'])
  have HB := Aside0.mk (show Below w.heap.size w (w.alloc (.cells zc 26)) from below_alloc (B0 w) _)
  have F := Aside0.mk (show (w.alloc (.cells zc 26)).heap[w.heap.size]? = some (.cells zc 26 (0, 0)) from blk_new w _)
  have HS := Aside0.mk hs
  clear hs
  go_enter Tryd.func19, Tryd.ntmps19
  go_wp2_with fail
  refine (HRef04d.refDecode_any _ s (by have := HS.out; omega)).mono ?_
  rw [← HBaseP.dec_ref]
  rintro e w1 ⟨v1, rfl, hv, hb⟩
  have HB1 := Aside0.mk (below_step HB.out hb)
  have F1 := Aside0.mk ((hb.block w.heap.size (by simp)).trans F.out)
  obtain ⟨A1, c1, rfl, hc1, hC1, hn1⟩ := hv
  have HC1 := Aside0.mk (And.intro hc1 (And.intro hC1 hn1))
  clear hb hc1 hC1 hn1 F HB
  have hll : (decP s).1.length ≤ 500 := by have := HBaseP.dec_len s; have := HS.out; omega
  have HDB := Aside0.mk (HBaseP.dec_bytes s)
  generalize hlE : (decP s).1 = l at *
  have HLE := Aside0.mk hlE
  clear hlE
  obtain ⟨ad, hA, hcell⟩ := HMacS.C_cells HC1.out.2.1 (by omega)
  subst hA
  clear hcell
  have HBY : Aside0 (∀ x ∈ l, 0 ≤ x ∧ x < 256) := HDB
  have HH := Aside0.mk h1
  have hw : wrap64 ((l.length : Int) - 32) = (l.length : Int) - 32 := IntWalk.wrap64_in _ (by omega)
  have hc := HC1.out.1
  obtain ⟨bs, hbs⟩ : ∃ b, b = l.take (l.length - 32) := ⟨_, rfl⟩
  have hbl : bs.length = l.length - 32 := by rw [hbs, List.length_take]; omega
  obtain ⟨T, hT⟩ : ∃ b, b = l.drop (l.length - 32) := ⟨_, rfl⟩
  have HTE := Aside0.mk hT
  have HTL := Aside0.mk (show T.length = 32 from by rw [hT, List.length_drop]; omega)
  have HBL := Aside0.mk hbl
  have HBSE := Aside0.mk hbs
  have HBSB := Aside0.mk (show ∀ x ∈ bs, 0 ≤ x ∧ x < 256 from by rw [hbs]; exact fun x hx => HBY.out x (List.mem_of_mem_take hx))
  obtain ⟨M, hM⟩ : ∃ M, M = HMac.macP key bs := ⟨_, rfl⟩
  have HML := Aside0.mk (show M.length = 32 from by rw [hM]; exact macP_len _ _)
  have HM := Aside0.mk hM
  have heq := eq_arr2 (P := Tryd.prog) Tryd.underlying24 Tryd.underlying5 (show Tryd.prog.info? 5 = some _ from rfl) (by kernel_rfl) M T HML.out HTL.out
  have hTb : Aside0 (Bv w1 (.slice (some ad) (l.length - 32) c1) bs) := ⟨⟨some ad, c1, by rw [HBL.out], by have := HBL.out; omega, by rw [hbs]; exact Kd.C_take HC1.out.2.1 (by omega)⟩⟩
  clear hM hbs hbl hT
  rw [show decide (M = T) = true from decide_eq_true (by rw [HM.out, HBSE.out, HTE.out]; exact HT.out.symm)] at heq
  go_upto_region 7 with fail
  have hh := HH.out
  refine wp_region_held_drew (S := fun w' => Below w1.heap.size w1 w') (by kernel_rfl) (below_drew1 (B0 w1)) (fun hHeld => ?_)
  generalize w1.drew = wd at hHeld ⊢
  refine wpAnyH_take (i := 0) (v := vk) rfl (by kernel_rfl) (by kernel_rfl) (by kernel_rfl) (fun _ _ _ h => h) (Or.inl ⟨by rfl, ?hy0⟩) hHeld ?_
  case hy0 => intro w' hSw; go_simp
  simp only [List.getElem_toArray, List.getElem_cons_succ, List.getElem_cons_zero, Act.put, List.setIfInBounds_toArray, List.set_cons_zero, List.set_cons_succ]
  refine wpAnyH_take (i := 1) (v := .slice (some ad) l.length c1) rfl (by kernel_rfl) (by kernel_rfl) (by kernel_rfl) (fun _ _ _ h => h) (Or.inl ⟨by rfl, ?hy1⟩) hHeld ?_
  case hy1 => intro w' hSw; go_simp
  simp only [List.getElem_toArray, List.getElem_cons_succ, List.getElem_cons_zero, Act.put, List.setIfInBounds_toArray, List.set_cons_zero, List.set_cons_succ]
  refine wpAnyH_take (i := 2) (v := .int .i64 ((l.length : Int) - 32)) rfl (by kernel_rfl) (by kernel_rfl) (by kernel_rfl) (fun _ _ _ h => h) (Or.inl ⟨by rfl, ?hy2⟩) hHeld ?_
  case hy2 => intro w' hSw; go_simp
  simp only [List.getElem_toArray, List.getElem_cons_succ, List.getElem_cons_zero, Act.put, List.setIfInBounds_toArray, List.set_cons_zero, List.set_cons_succ]
  refine wpAnyH_take (i := 3) (v := .slice (some ad) (l.length - 32) c1) rfl (by kernel_rfl) (by kernel_rfl) (by kernel_rfl) (fun _ _ _ h => h) (Or.inl ⟨by rfl, ?hy3⟩) hHeld ?_
  case hy3 => intro w' hSw; go_simp; rw [if_pos (by omega), show ((l.length : Int) - 32).toNat = l.length - 32 from by omega]
  simp only [List.getElem_toArray, List.getElem_cons_succ, List.getElem_cons_zero, Act.put, List.setIfInBounds_toArray, List.set_cons_zero, List.set_cons_succ]
  refine wpAnyH_take (i := 5) (v := .slice (some ad) l.length c1) rfl (by kernel_rfl) (by kernel_rfl) (by kernel_rfl) (fun _ _ _ h => h) (Or.inl ⟨by rfl, ?hy5⟩) hHeld ?_
  case hy5 => intro w' hSw; go_simp
  simp only [List.getElem_toArray, List.getElem_cons_succ, List.getElem_cons_zero, Act.put, List.setIfInBounds_toArray, List.set_cons_zero, List.set_cons_succ]
  refine wpAnyH_take (i := 6) (v := .int .i64 ((l.length : Int) - 32)) rfl (by kernel_rfl) (by kernel_rfl) (by kernel_rfl) (fun _ _ _ h => h) (Or.inl ⟨by rfl, ?hy6⟩) hHeld ?_
  case hy6 => intro w' hSw; go_simp
  simp only [List.getElem_toArray, List.getElem_cons_succ, List.getElem_cons_zero, Act.put, List.setIfInBounds_toArray, List.set_cons_zero, List.set_cons_succ]
  refine wpAnyH_take (i := 7) (v := .slice (some (ad.add (l.length - 32))) (l.length - (l.length - 32)) (c1 - (l.length - 32))) rfl (by kernel_rfl) (by kernel_rfl) (by kernel_rfl) (fun _ _ _ h => h) (Or.inl ⟨by rfl, ?hy7⟩) hHeld ?_
  case hy7 => intro w' hSw; go_simp; rw [if_pos (by omega), show ((l.length : Int) - 32).toNat = l.length - 32 from by omega, if_neg (by omega)]
  simp only [List.getElem_toArray, List.getElem_cons_succ, List.getElem_cons_zero, Act.put, List.setIfInBounds_toArray, List.set_cons_zero, List.set_cons_succ]
  refine wpAnyH_take (i := 8) (v := .pointer (some (ad.add (l.length - 32)))) rfl (by kernel_rfl) (by kernel_rfl) (by kernel_rfl) (fun _ _ _ h => h) (Or.inl ⟨by rfl, ?hy8⟩) hHeld ?_
  case hy8 => intro w' hSw; have hsp : (Instr.arrayAt 24 (.slice (some (ad.add (l.length - 32))) (l.length - (l.length - 32)) (c1 - (l.length - 32)))).run Tryd.prog w' = .ok (.pointer (some (ad.add (l.length - 32)))) w' := (by rw [show l.length - (l.length - 32) = 32 from by omega]; exact run_at32 Tryd.underlying24 _ _ _); go_simp
  simp only [List.getElem_toArray, List.getElem_cons_succ, List.getElem_cons_zero, Act.put, List.setIfInBounds_toArray, List.set_cons_zero, List.set_cons_succ]
  refine wpAnyH_take (i := 9) (v := .agg (nums .u8 T).toArray) rfl (by kernel_rfl) (by kernel_rfl) (by kernel_rfl) (fun _ _ _ h => h) (yieldsIf_load (by rfl) 24 (.tmp 35) rfl _ (fun w' h => load_addr w' (ad.add (l.length - 32)) 24 (nums .u8 T) _ (fun j v hj => by rw [HZookF.add_add]; refine cells_at (Kd.C_below HC1.out.2.1 h) (by omega) (l.length - 32 + j) v ?_; rw [← hj, HTE.out]; simp [nums, List.getElem?_drop]) Tryd.underlying24 rfl (by rw [size_dg]; simp [nums, HTL.out]))) hHeld ?_
  simp only [List.getElem_toArray, List.getElem_cons_succ, List.getElem_cons_zero, Act.put, List.setIfInBounds_toArray, List.set_cons_zero, List.set_cons_succ]
  refine wpAnyH_ready (rs := [4]) (by kernel_rfl) (by simp) ?_
  refine AllReadyH.cons rfl (fun K hK => ?_) AllReadyH.nil
  simp only [List.getElem_toArray, List.getElem_cons_succ, List.getElem_cons_zero]
  rw [if_pos (by rfl)]
  go_simp
  refine (HMacR.refmac_any wd vk key ((HK.out.below HB1.out).below hHeld) HKB.out.1 HKB.out.2 _ bs (hTb.out.below hHeld) HBSB.out (by have := HBL.out; omega)).mono ?_
  rw [← HM.out]
  rintro e x1 ⟨rfl, hbx⟩
  refine hK.out _ _ (below_step hHeld hbx) (fun hHeld => ?_)
  clear hK K
  refine wpAnyH_take (i := 10) (v := .bool false) rfl (by kernel_rfl) (by kernel_rfl) (by kernel_rfl) (fun _ _ _ h => h) (Or.inl ⟨by rfl, ?hy10⟩) hHeld ?_
  case hy10 => intro w' hSw; go_simp
  simp only [List.getElem_toArray, List.getElem_cons_succ, List.getElem_cons_zero, Act.put, List.setIfInBounds_toArray, List.set_cons_zero, List.set_cons_succ]
  refine wpAnyH_done (by kernel_rfl) ?_ _
  have HBX := Aside0.mk (below_step HB1.out hHeld)
  have F5 := Aside0.mk ((hHeld.block w.heap.size (blk_lt F1.out)).trans F1.out)
  have hTb5 := Aside0.mk (hTb.out.below hHeld)
  have HC5 := Aside0.mk (Kd.C_below HC1.out.2.1 hHeld)
  clear hHeld hbx
  obtain ⟨zd, hzd, hsz, hza⟩ := HZookY.prsZ_agg HBSB.out
  have HZD := Aside0.mk hzd
  have HZDS := Aside0.mk hsz
  have HZDA := Aside0.mk hza
  clear hza hzd heq
  go_wp2_with fail
  refine (refparse_any _ _ bs ⟨some ad, c1, by rw [HBL.out], by have := HBL.out; omega, by rw [HBSE.out]; exact Kd.C_take HC5.out (by omega), fun h => by cases h⟩ (by have := HBL.out; omega) HBSB.out).mono ?_
  rintro e w9 ⟨rfl, hb9⟩
  rw [HZD.out]
  have F9 := Aside0.mk ((hb9.block w.heap.size (blk_lt F5.out)).trans F5.out)
  have HB9 := Aside0.mk (below_step HBX.out hb9)
  clear hb9 F5 HBX
  have hsc := zk_cells F9.out HZS.out hsz HZDA.out
  have HRW := Aside0.mk (setRow_heap w9 w.heap.size zc zd 26 (0, 0) F9.out)
  go_wp2_with fail
  refine bodyPost_ret (v := .tuple #[.agg zd, .int .i64 (prsC (prs bs)), .int .i64 (prsN (prs bs))]) ?_ ?_ ?_
  · exact results_c3 (p := 4) (q := 5) (s := 6) rfl _ _ w.heap.size zd rfl HRW.out HZDS.out
  · rfl
  · exact ⟨by rw [HLE.out, ← HBSE.out, ← HZD.out], below_row HB9.out (Nat.le_refl _) _⟩
/-- Verify, whole. -/
theorem ver_any (w : World) (vk : Value) (s : ByteArray) (hs : s.size ≤ 500) (key : List Int) (hvk : Bv w vk key) (hkb : ∀ x ∈ key, 0 ≤ x ∧ x < 256) (hkl : key.length ≤ 4294960000) (hG : Glob w) (hE : ErrG w) :
    Calls Tryd.prog 13 #[vk, .string s] w fun e w' => e = .returned (.tuple #[prsZ (HZookL.verP key s), errV (prsC (HZookL.verP key s)) (prsN (HZookL.verP key s))]) ∧ Below w.heap.size w w' := by
  have hfl : ∀ c n : Int, c ≠ 0 → errV c n = fltV c n := fun c n h => by rw [errV, if_neg h]
  by_cases h0 : 0 ≤ (decP s).2
  · rw [show HZookL.verP key s = .inl (6, (decP s).2) from by rw [HZookL.verP, if_pos h0]]
    exact (HZookV.ver_syntax w vk s hs h0).mono fun _ _ ⟨e, b⟩ => ⟨by rw [e, prsZ, prsC, prsN, hfl _ _ (by decide)], b⟩
  · by_cases h1 : (decP s).1.length < 32
    · rw [show HZookL.verP key s = .inl (1, (decP s).1.length) from by rw [HZookL.verP, if_neg h0, if_pos h1]]
      exact (HZookV.ver_short w vk s hs (by omega) h1).mono fun _ _ ⟨e, b⟩ => ⟨by rw [e, prsZ, prsC, prsN, hfl _ _ (by decide)], b⟩
    · by_cases h2 : (decP s).1.drop ((decP s).1.length - 32) = HMac.macP key ((decP s).1.take ((decP s).1.length - 32))
      · rw [show HZookL.verP key s = prs ((decP s).1.take ((decP s).1.length - 32)) from by rw [HZookL.verP, if_neg h0, if_neg h1, if_neg (by simpa using h2)]]
        exact HZookY.ver_good w vk s hs key hvk hkb hkl hG (by omega) (by omega) hE h2
      · rw [show HZookL.verP key s = .inl (12, ((decP s).1.length : Int) - 32) from by rw [HZookL.verP, if_neg h0, if_neg h1, if_pos h2]]
        exact (HZookY.ver_tag w vk s hs key hvk hkb hkl hG (by omega) (by omega) h2).mono fun _ _ ⟨e, b⟩ => ⟨by rw [e, prsZ, prsC, prsN, hfl _ _ (by decide)], b⟩
/-- The reference's Verify, whole. -/
theorem refver_any (w : World) (vk : Value) (s : ByteArray) (hs : s.size ≤ 500) (key : List Int) (hvk : Bv w vk key) (hkb : ∀ x ∈ key, 0 ≤ x ∧ x < 256) (hkl : key.length ≤ 4294960000) :
    Calls Tryd.prog 19 #[vk, .string s] w fun e w' => e = .returned (.tuple #[prsZ (HZookL.verP key s), .int .i64 (prsC (HZookL.verP key s)), .int .i64 (prsN (HZookL.verP key s))]) ∧ Below w.heap.size w w' := by
  by_cases h0 : 0 ≤ (decP s).2
  · rw [show HZookL.verP key s = .inl (6, (decP s).2) from by rw [HZookL.verP, if_pos h0]]
    exact refver_syntax w vk s hs h0
  · by_cases h1 : (decP s).1.length < 32
    · rw [show HZookL.verP key s = .inl (1, (decP s).1.length) from by rw [HZookL.verP, if_neg h0, if_pos h1]]
      exact refver_short w vk s hs (by omega) h1
    · by_cases h2 : (decP s).1.drop ((decP s).1.length - 32) = HMac.macP key ((decP s).1.take ((decP s).1.length - 32))
      · rw [show HZookL.verP key s = prs ((decP s).1.take ((decP s).1.length - 32)) from by rw [HZookL.verP, if_neg h0, if_neg h1, if_neg (by simpa using h2)]]
        exact refver_good w vk s hs key hvk hkb hkl (by omega) (by omega) h2
      · rw [show HZookL.verP key s = .inl (12, ((decP s).1.length : Int) - 32) from by rw [HZookL.verP, if_neg h0, if_neg h1, if_pos h2]]
        exact refver_tag w vk s hs key hvk hkb hkl (by omega) (by omega) h2
end Go.Proofs.YtogimlinfkbapaaDoor.HZookW
/- Zookies compared with themselves. -/
namespace Go.Proofs.YtogimlinfkbapaaDoor.HZookQ
open Go.RowKit Go.Proofs.YtogimlinfkbapaaDoorW.PrintWords Go.Proofs.YtogimlinfkbapaaDoor.HLib Go.Proofs.YtogimlinfkbapaaDoor.HZook Go.Proofs.YtogimlinfkbapaaDoor.HEqA
set_option linter.unusedVariables false
set_option linter.unusedSimpArgs false

theorem eq_arr' {P : Program} {t e : TypeId} {n : Nat} {k : IntKind} {i : TypeInfo} (d : Nat) (ht : P.underlying t = some (.array n e)) (he : P.underlying e = some (.int k)) (hi : P.info? e = some i) (hce : P.cellsOf e = 1) (xs : List Int) (hn : xs.length = n) (w : World) :
    (Op.equalIn (d + 1 + 1) t (.agg (nums k xs).toArray) (.agg (nums k xs).toArray)).run P w = .ok true w := by
  rw [run_equalIn_array (w := w) (d + 1) (nums k xs).toArray (nums k xs).toArray ht hi, hce]
  exact eq_items he d xs w _ (fun j hj => by rw [hn]; exact List.mem_range.1 hj)
theorem zk_ht : Tryd.prog.underlying 26 = some (.struct (Tryd.prog.fieldsOf 26)) := by simp [Program.fieldsOf, Tryd.underlying26]
theorem zk_part0 (v r : Int) (d : List Int) (w : World) : (part 5 (zkC v r d) 0).run Tryd.prog w = .ok (.int .u8 v) w := by
  simp [part, isAgg, run_underlying Tryd.underlying5, Result.andThen]
theorem zk_part1 (v r : Int) (d : List Int) (w : World) : (part 23 (zkC v r d) 1).run Tryd.prog w = .ok (.int .u64 r) w := by
  simp [part, isAgg, run_underlying Tryd.underlying23, Result.andThen]
theorem zk_part2 (v r : Int) (d : List Int) (hd : d.length = 32) (w : World) : (part 24 (zkC v r d) 2).run Tryd.prog w = .ok (.agg (nums .u8 d).toArray) w := by
  obtain ⟨i, hq, hs⟩ := Option.map_eq_some_iff.1 HZookR.size_dg
  simp [part, isAgg, run_underlying Tryd.underlying24, Result.andThen, sizeOf, typeInfo, hq, hs]
  rw [List.take_of_length_le (by simp [nums, hd])]
set_option maxRecDepth 20000 in
theorem eq_zk (v r : Int) (d : List Int) (hd : d.length = 32) (w : World) : (Op.equalIn 10000 26 (zk v r d) (zk v r d)).run Tryd.prog w = .ok true w := by
  have h0 := zk_part0 v r d w
  have h1 := zk_part1 v r d w
  have h2 := zk_part2 v r d hd w
  have e0 := eq_int (P := Tryd.prog) (k := .u8) Tryd.underlying5 9998 v w
  have e1 := eq_int (P := Tryd.prog) (k := .u64) Tryd.underlying23 9998 r w
  have e2 := eq_arr' (P := Tryd.prog) 9997 Tryd.underlying24 Tryd.underlying5 (show Tryd.prog.info? 5 = some _ from rfl) (by kernel_rfl) d hd w
  rw [show (10000 : Nat) = 9999 + 1 from rfl, run_equalIn_struct (w := w) 9999 26 _ _ zk_ht (by kernel_rfl)]
  generalize zkC v r d = cs at *
  generalize (nums .u8 d).toArray = ds at *
  simp only [Program.fieldsOf, Tryd.underlying26]
  simp [Op.eqFields, Sem.run_bind, h0, h1, h2, e0, e1, e2, Result.andThen]
end Go.Proofs.YtogimlinfkbapaaDoor.HZookQ
/- zookie.Newer. -/
namespace Go.Proofs.YtogimlinfkbapaaDoor.HZookN
open Go.RowKit Go.Proofs.YtogimlinfkbapaaDoorW.PrintWords Go.Proofs.YtogimlinfkbapaaDoor.HLib Go.Proofs.YtogimlinfkbapaaDoor.HSha Go.Proofs.YtogimlinfkbapaaDoor.HShaU Go.Proofs.YtogimlinfkbapaaDoor.HShaS Go.Proofs.YtogimlinfkbapaaDoor.HZook Go.Proofs.YtogimlinfkbapaaDoor.HZookP Go.Proofs.YtogimlinfkbapaaDoor.HZookR Go.Proofs.YtogimlinfkbapaaDoor.HEqA
set_option linter.unusedVariables false
set_option linter.unusedSimpArgs false

theorem dig_range {w : World} {g : Nat} {v r : Int} {d : List Int} (h : w.heap[g]? = some (.cells (zkC v r d) 26 (0, 0))) : w.rangeAt g 2 (nums .u8 d) := fun j u hj => by
  simp only [World.cell?, h]
  rw [← Array.getElem?_toList, show 2 + j = j + 1 + 1 from by omega]
  simpa [zkC] using hj
theorem dig_load {w : World} {g : Nat} {v r : Int} {d : List Int} (h : w.heap[g]? = some (.cells (zkC v r d) 26 (0, 0))) (hd : d.length = 32) :
    (Instr.loadAt 24 (.pointer (some ⟨g, 2, none⟩))).run Tryd.prog w = .ok (.agg (nums .u8 d).toArray) w :=
  run_loadAt_mid (P := Tryd.prog) w g 2 24 (nums .u8 d) _ (dig_range h) Tryd.underlying24 rfl (by rw [size_dg]; simp [nums, hd])
theorem load_evg {P : Program} {ops : Array Oper} {rest : List Oper} {o : Oper} {a : Act} {Q : Exit → Act → World → Prop} {W : World} {t : TypeId} {p : Operand} {v : Value} (hw : Region.wanted o (yielded ops a.tmps) = true) (ho : o.op = .load t p) (hr : (Instr.loadAt t (a.eval p)).run P W = .ok v W) (h : wpList P ops Q rest (a.put o.dst v) W) : wpList P ops Q (o :: rest) a W := by
  refine wpList_step fun K hK => ?_
  rw [if_pos hw]
  unfold Oper.wp
  rw [show (execOp a.eval o).run P W = .ok (.value v) W from by simp [execOp, ho, hr, Result.andThen]]
  exact hK _ _ h
set_option maxRecDepth 20000 in
set_option maxHeartbeats 4000000 in
theorem newer_any (v r : Int) (d : List Int) (v' r' : Int) (d' : List Int) (hd : d.length = 32) (hd' : d'.length = 32) (w : World) :
    Calls Tryd.prog 21 #[zk v r d, zk v' r' d'] w fun e w' => e = .returned (.bool (decide (v = v' ∧ d = d' ∧ r' < r))) ∧ Below w.heap.size w w' := by
  have HD := Aside0.mk hd
  have HD' := Aside0.mk hd'
  have f1 : (w.alloc (.cells (zkC v r d) 26)).heap[w.heap.size]? = some (.cells (zkC v r d) 26 (0, 0)) := blk_new w _
  have hb1 : Below w.heap.size w (w.alloc (.cells (zkC v r d) 26)) := below_alloc (B0 w) _
  have hb2 := below_alloc (B0 (w.alloc (.cells (zkC v r d) 26))) (.cells (zkC v' r' d') 26)
  have f2 : ((w.alloc (.cells (zkC v r d) 26)).alloc (.cells (zkC v' r' d') 26)).heap[w.heap.size]? = some (.cells (zkC v r d) 26 (0, 0)) := blk_alloc f1 _
  have g2 : ((w.alloc (.cells (zkC v r d) 26)).alloc (.cells (zkC v' r' d') 26)).heap[w.heap.size + 1]? = some (.cells (zkC v' r' d') 26 (0, 0)) := by have := blk_new (w.alloc (.cells (zkC v r d) 26)) (.cells (zkC v' r' d') 26); simpa using this
  have HB := Aside0.mk (below_step hb1 hb2)
  have HLa := Aside0.mk (dig_load f2 hd)
  have HLb := Aside0.mk (dig_load g2 hd')
  have heq := eq_arr2 (P := Tryd.prog) Tryd.underlying24 Tryd.underlying5 (show Tryd.prog.info? 5 = some _ from rfl) (by kernel_rfl) d d' hd hd'
  clear f1 hb1 hb2 f2 g2 hd hd'
  by_cases c1 : v = v'
  · subst c1
    by_cases c2 : d = d'
    · rw [decide_eq_true c2] at heq
      have C2 := Aside0.mk c2
      clear c2
      by_cases c3 : r' < r
      · have d3 : decide (r' < r) = true := decide_eq_true c3
        go_enter Tryd.func21, Tryd.ntmps21
        go_wp2_with (first | (refine load_evg (t := 24) (p := .tmp 11) (by rfl) rfl HLa.out ?_) | (refine load_evg (t := 24) (p := .tmp 13) (by rfl) rfl HLb.out ?_))
        go_ret
        exact ⟨by simp [C2.out, c3], HB.out⟩
      · have d3 : decide (r' < r) = false := decide_eq_false c3
        go_enter Tryd.func21, Tryd.ntmps21
        go_wp2_with (first | (refine load_evg (t := 24) (p := .tmp 11) (by rfl) rfl HLa.out ?_) | (refine load_evg (t := 24) (p := .tmp 13) (by rfl) rfl HLb.out ?_))
        go_ret
        exact ⟨by simp [C2.out, c3], HB.out⟩
    · rw [decide_eq_false c2] at heq
      have C2 := Aside0.mk c2
      clear c2
      go_enter Tryd.func21, Tryd.ntmps21
      go_wp2_with (first | (refine load_evg (t := 24) (p := .tmp 11) (by rfl) rfl HLa.out ?_) | (refine load_evg (t := 24) (p := .tmp 13) (by rfl) rfl HLb.out ?_))
      go_ret
      exact ⟨by simp [C2.out], HB.out⟩
  · have d1 : (v == v') = false := by simpa using c1
    go_enter Tryd.func21, Tryd.ntmps21
    go_wp2_with (first | (refine load_evg (t := 24) (p := .tmp 11) (by rfl) rfl HLa.out ?_) | (refine load_evg (t := 24) (p := .tmp 13) (by rfl) rfl HLb.out ?_))
    go_ret
    exact ⟨by simp [c1], HB.out⟩
end Go.Proofs.YtogimlinfkbapaaDoor.HZookN
/- awake of the zookies' laws: it returns true. -/
namespace Go.Proofs.YtogimlinfkbapaaDoor.HZookA
open Go.RowKit Go.Proofs.YtogimlinfkbapaaDoorW.PrintWords Go.Proofs.YtogimlinfkbapaaDoor.HLib Go.Proofs.YtogimlinfkbapaaDoor.HSha Go.Proofs.YtogimlinfkbapaaDoor.HShaU Go.Proofs.YtogimlinfkbapaaDoor.HShaS Go.Proofs.YtogimlinfkbapaaDoor.HZook Go.Proofs.YtogimlinfkbapaaDoor.HZookE Go.Proofs.YtogimlinfkbapaaDoor.HZookP Go.Proofs.YtogimlinfkbapaaDoor.HZookR Go.Proofs.YtogimlinfkbapaaDoor.HZookM Go.Proofs.YtogimlinfkbapaaDoor.HDec Go.Proofs.YtogimlinfkbapaaDoor.HErr Go.Proofs.YtogimlinfkbapaaDoor.HZookL Go.Proofs.YtogimlinfkbapaaDoor.HZookW Go.Proofs.YtogimlinfkbapaaDoor.HZookQ Go.Proofs.YtogimlinfkbapaaDoor.HZookN
set_option linter.unusedVariables false
set_option linter.unusedSimpArgs false

abbrev ZZ : List Int := List.replicate 32 0
theorem zz_byte : ∀ x ∈ ZZ, (0 : Int) ≤ x ∧ x < 256 := fun x hx => by rw [List.eq_of_mem_replicate hx]; decide
theorem zz_len : ZZ.length = 32 := List.length_replicate
theorem ver_A : verP [] ⟨#[65]⟩ = .inl (6, 0) := by
  have hb : HDec.badAt ⟨#[65]⟩ = none := HDec.badAt_none fun i hi => by
    have : i = 0 := by have h : i < 1 := hi; omega
    subst this; decide
  have hd : decP ⟨#[65]⟩ = ([], 0) := by
    rw [HBaseP.dec_ref, HRef04d.refP, hb]
    rfl
  rw [verP, hd]
  rfl
theorem ver_k : verP [107] (signP [107] (payP 7 ZZ)) = .inr (7, ZZ) := by
  rw [ver_sign _ _ (pay_byte 7 ZZ zz_byte), prs_pay 7 ZZ (by decide) zz_len]
  rfl
theorem sign_size (key : List Int) (r : Nat) (d : List Int) (hd : d.length = 32) (hr : r < 18446744073709551616) (hdb : ∀ x ∈ d, 0 ≤ x ∧ x < 256) : (signP key (payP r d)).size ≤ 101 := by
  have h1 := pay_len r d hd hr
  have h2 : (signP key (payP r d)).size = _ := HBaseP.encS_size (payP r d ++ HMac.macP key (payP r d)) (fun x hx => (List.mem_append.1 hx).elim (pay_byte r d hdb x) (macP_byte key (payP r d) x))
  rw [h2, List.length_append, macP_len]
  omega
theorem newer_z {z1 z2 : Array Value} {v r v' r' : Int} (h1 : z1 = zkC v r ZZ) (h2 : z2 = zkC v' r' ZZ) (w : World) : Calls Tryd.prog 21 #[.agg z1, .agg z2] w fun e w' => e = .returned (.bool (decide (v = v' ∧ ZZ = ZZ ∧ r' < r))) ∧ Below w.heap.size w w' := by
  subst h1; subst h2; exact HZookN.newer_any v r ZZ v' r' ZZ zz_len zz_len w
theorem eq_z {z1 : Array Value} {v r : Int} (h1 : z1 = zkC v r ZZ) (w : World) : (Op.equalIn 10000 26 (.agg z1) (.agg z1)).run Tryd.prog w = .ok true w := by
  subst h1; exact eq_zk v r ZZ zz_len w
theorem eq_code (c : Int) (w : World) : (binOp .eql 31 (.iface 35 (.int .i64 c)) (.iface 35 (.int .i64 c))).run Tryd.prog w = .ok (.bool true) w := by
  have := Lib.run_eql_iface_int (P := Tryd.prog) w (t := 31) (tx := 35) (k := .i64) c c Tryd.underlying31 (by kernel_rfl) Tryd.underlying35
  simpa using this
theorem row_load {W : World} {g : Nat} {zc : Array Value} (h : W.heap[g]? = some (.cells zc 26 (0, 0))) (hs : zc.size = 34) : (Instr.loadAt 26 (.pointer (some ⟨g, 0, none⟩))).run Tryd.prog W = .ok (.agg zc) W := by
  simp only [Instr.loadAt, Instr.sureAddr, Sem.run_bind, Sem.run_pure, Result.andThen_ok]
  exact run_loadVar_row W g 26 26 zc (0, 0) _ h Tryd.underlying26 rfl (by rw [size_zk, hs])
theorem mint_z {z1 : Array Value} (h1 : z1 = zkC 1 7 ZZ) (w : World) (vk : Value) (hvk : Bv w vk [107]) (hG : Glob w) : Calls Tryd.prog 10 #[vk, .agg z1] w fun e w' => e = .returned (.tuple #[.string (signP [107] (payP 7 ZZ)), .nilIface]) ∧ Below w.heap.size w w' := by
  subst h1; exact mint_good w vk [107] hvk (by decide) (by decide) 7 ZZ zz_len zz_byte (by decide) hG
theorem mint_0 {z0 : Array Value} (h0 : z0 = zkC 0 0 ZZ) (w : World) (vk : Value) : Calls Tryd.prog 10 #[vk, .agg z0] w fun e w' => e = .returned (.tuple #[.string ByteArray.empty, .iface 35 (.int .i64 13)]) ∧ Below w.heap.size w w' := by
  subst h0; exact mint_bad w vk 0 0 ZZ zz_len (by decide)

set_option maxRecDepth 20000 in
set_option maxHeartbeats 4000000 in
theorem awake_any (w : World) (hG : Glob w) (hE : ErrG w) : Calls Tryd.prog 8 #[] w fun e w' => e = .returned (.bool true) ∧ Below w.heap.size w w' := by
  have HG := Aside0.mk hG
  have HE := Aside0.mk hE
  clear hG hE
  generalize hz0 : (#[.int .u8 0, .int .u64 0, .int .u8 0, .int .u8 0, .int .u8 0, .int .u8 0, .int .u8 0, .int .u8 0, .int .u8 0, .int .u8 0, .int .u8 0, .int .u8 0, .int .u8 0, .int .u8 0, .int .u8 0, .int .u8 0, .int .u8 0, .int .u8 0, .int .u8 0, .int .u8 0, .int .u8 0, .int .u8 0, .int .u8 0, .int .u8 0, .int .u8 0, .int .u8 0, .int .u8 0, .int .u8 0, .int .u8 0, .int .u8 0, .int .u8 0, .int .u8 0, .int .u8 0, .int .u8 0] : Array Value) = z0
  have HZ0 := Aside0.mk (show z0 = zkC 0 0 ZZ from hz0.symm.trans rfl)
  have HZZ0 := Aside0.mk hz0
  have hs0 : z0.size = 34 := by rw [HZ0.out]; rfl
  have HA0 := Aside0.mk (show z0.all (·.oneCell') = true from by rw [HZ0.out]; simp [nums, Value.oneCell'])
  generalize hz1 : (#[.int .u8 1, .int .u64 7, .int .u8 0, .int .u8 0, .int .u8 0, .int .u8 0, .int .u8 0, .int .u8 0, .int .u8 0, .int .u8 0, .int .u8 0, .int .u8 0, .int .u8 0, .int .u8 0, .int .u8 0, .int .u8 0, .int .u8 0, .int .u8 0, .int .u8 0, .int .u8 0, .int .u8 0, .int .u8 0, .int .u8 0, .int .u8 0, .int .u8 0, .int .u8 0, .int .u8 0, .int .u8 0, .int .u8 0, .int .u8 0, .int .u8 0, .int .u8 0, .int .u8 0, .int .u8 0] : Array Value) = z1
  have HZ1 := Aside0.mk (show z1 = zkC 1 7 ZZ from hz1.symm.trans rfl)
  have HZZ1 := Aside0.mk hz1
  have hs1 : z1.size = 34 := by rw [HZ1.out]; rfl
  have HA1 := Aside0.mk (show z1.all (·.oneCell') = true from by rw [HZ1.out]; simp [nums, Value.oneCell'])
  generalize hz2 : (#[.int .u8 1, .int .u64 0, .int .u8 0, .int .u8 0, .int .u8 0, .int .u8 0, .int .u8 0, .int .u8 0, .int .u8 0, .int .u8 0, .int .u8 0, .int .u8 0, .int .u8 0, .int .u8 0, .int .u8 0, .int .u8 0, .int .u8 0, .int .u8 0, .int .u8 0, .int .u8 0, .int .u8 0, .int .u8 0, .int .u8 0, .int .u8 0, .int .u8 0, .int .u8 0, .int .u8 0, .int .u8 0, .int .u8 0, .int .u8 0, .int .u8 0, .int .u8 0, .int .u8 0, .int .u8 0] : Array Value) = z2
  have HZ2 := Aside0.mk (show z2 = zkC 1 0 ZZ from hz2.symm.trans rfl)
  have HZZ2 := Aside0.mk hz2
  have hs2 : z2.size = 34 := by rw [HZ2.out]; rfl
  have HA2 := Aside0.mk (show z2.all (·.oneCell') = true from by rw [HZ2.out]; simp [nums, Value.oneCell'])
  go_enter Tryd.func8, Tryd.ntmps8
  go_wp2_with fail
  refine (ver_any w (.slice none 0 0) ⟨#[65]⟩ (by decide) [] ⟨none, 0, rfl, Nat.le_refl _, Kd.C_nil _ _⟩ (by simp) (by decide) HG.out HE.out).mono ?_
  rw [ver_A, show prsZ (.inl (6, 0)) = .agg z0 from by rw [HZ0.out]; rfl, show errV (prsC (.inl (6, 0))) (prsN (.inl (6, 0))) = errV 6 0 from rfl]
  rintro e w1 ⟨rfl, hb1⟩
  have hsc1 := zk_cells (blk_new w1 (.cells z0 26)) hs0 hs0 HA0.out
  have HB1 := Aside0.mk hb1
  clear hb1
  go_upto_region 2 with fail
  obtain ⟨WA, hWA⟩ : ∃ W, W = (w1.alloc (.cells z0 26)).setRow w1.heap.size z0 := ⟨_, rfl⟩
  rw [← hWA]
  have HBWA := Aside0.mk (show Below w.heap.size w WA from by rw [hWA]; exact below_row (below_alloc HB1.out _) (by have := HB1.out.size; omega) _)
  clear hWA hsc1
  have hsc2 := zk_cells (blk_new WA (.cells z0 26)) hs0 hs1 HA1.out
  rw [← hz0] at hsc2
  clear hz0 hz2
  go_upto_region 3 with fail
  have hz0 := HZZ0.out
  rw [hz0]
  obtain ⟨WB, hWB⟩ : ∃ W, W = (WA.alloc (.cells z0 26)).setRow WA.heap.size z1 := ⟨_, rfl⟩
  rw [← hWB]
  have HBWB := Aside0.mk (show Below w.heap.size w WB from by rw [hWB]; exact below_row (below_alloc HBWA.out _) (by have := HBWA.out.size; omega) _)
  have FB := Aside0.mk (show WB.heap[WA.heap.size]? = some (.cells z1 26 (0, 0)) from by rw [hWB]; exact setRow_heap _ WA.heap.size _ _ _ (0, 0) (blk_new WA _))
  clear hWB hsc2
  have HLC := Aside0.mk (row_load (blk_alloc FB.out (.cells #[.int .u8 107] 5 (1, 2))) hs1)
  have hcv3 := Lib.run_convert_bytes_const (P := Tryd.prog) WB 22 5 #[.int .u8 107] 1 1 Tryd.underlying22 Tryd.underlying5
  go_wp2_with (refine load_ev (t := 26) (p := .tmp 3) rfl rfl HLC.out ?_)
  clear hcv3
  obtain ⟨WC, hWC⟩ : ∃ W, W = WB.alloc (.cells #[.int .u8 107] 5 (1, 2)) := ⟨_, rfl⟩
  rw [← hWC]
  have HBWC := Aside0.mk (show Below w.heap.size w WC from by rw [hWC]; exact below_alloc HBWB.out _)
  have FC := Aside0.mk (show WC.heap[WA.heap.size]? = some (.cells z1 26 (0, 0)) from by rw [hWC]; exact blk_alloc FB.out _)
  have KC := Aside0.mk (show Bv WC (.slice (some ⟨WB.heap.size, 0, none⟩) 1 1) [107] from ⟨_, 1, rfl, Nat.le_refl _, by rw [hWC]; exact HShaB.bytes_C (xs := [107]) (blk_new WB _) (by decide)⟩)
  clear hWC
  refine (mint_z HZ1.out WC _ KC.out (glob_below HG.out HG.out.1 HBWC.out)).mono ?_
  rintro e w4 ⟨rfl, hb4⟩
  have HB4 := Aside0.mk (below_step HBWC.out hb4)
  have F4 := Aside0.mk ((hb4.block WA.heap.size (blk_lt FC.out)).trans FC.out)
  clear hb4
  obtain ⟨S, hS⟩ : ∃ S, S = signP [107] (payP 7 ZZ) := ⟨_, rfl⟩
  rw [← hS]
  have HSS := Aside0.mk (show S.size ≤ 500 from by rw [hS]; have := sign_size [107] 7 ZZ zz_len (by decide) zz_byte; omega)
  have HSV := Aside0.mk (show verP [107] S = .inr (7, ZZ) from by rw [hS]; exact ver_k)
  clear hS
  have hcv4 := Lib.run_convert_bytes_const (P := Tryd.prog) w4 22 5 #[.int .u8 107] 1 1 Tryd.underlying22 Tryd.underlying5
  go_wp2_with fail
  clear hcv4
  obtain ⟨WD, hWD⟩ : ∃ W, W = w4.alloc (.cells #[.int .u8 107] 5 (1, 2)) := ⟨_, rfl⟩
  rw [← hWD]
  have HBWD := Aside0.mk (show Below w.heap.size w WD from by rw [hWD]; exact below_alloc HB4.out _)
  have FD := Aside0.mk (show WD.heap[WA.heap.size]? = some (.cells z1 26 (0, 0)) from by rw [hWD]; exact blk_alloc F4.out _)
  have KD := Aside0.mk (show Bv WD (.slice (some ⟨w4.heap.size, 0, none⟩) 1 1) [107] from ⟨_, 1, rfl, Nat.le_refl _, by rw [hWD]; exact HShaB.bytes_C (xs := [107]) (blk_new w4 _) (by decide)⟩)
  clear hWD
  refine (ver_any WD _ S HSS.out [107] KD.out (by decide) (by decide) (glob_below HG.out HG.out.1 HBWD.out) (errg_step HE.out HBWD.out)).mono ?_
  rw [HSV.out, show prsZ (.inr (7, ZZ)) = .agg z1 from by rw [HZ1.out]; rfl, show errV (prsC (.inr (7, ZZ))) (prsN (.inr (7, ZZ))) = .nilIface from rfl]
  rintro e w5 ⟨rfl, hb5⟩
  have HB5 := Aside0.mk (below_step HBWD.out hb5)
  have F5 := Aside0.mk ((hb5.block WA.heap.size (blk_lt FD.out)).trans FD.out)
  clear hb5
  have hsc5 := zk_cells (blk_new w5 (.cells z0 26)) hs0 hs1 HA1.out
  go_upto_region 5 with fail
  obtain ⟨WE, hWE⟩ : ∃ W, W = (w5.alloc (.cells z0 26)).setRow w5.heap.size z1 := ⟨_, rfl⟩
  rw [← hWE]
  have HBWE := Aside0.mk (show Below w.heap.size w WE from by rw [hWE]; exact below_row (below_alloc HB5.out _) (by have := HB5.out.size; omega) _)
  have FX := Aside0.mk (show WE.heap[w5.heap.size]? = some (.cells z1 26 (0, 0)) from by rw [hWE]; exact setRow_heap _ w5.heap.size _ _ _ (0, 0) (blk_new w5 _))
  have FE := Aside0.mk (show WE.heap[WA.heap.size]? = some (.cells z1 26 (0, 0)) from by rw [hWE]; exact ((below_row (below_alloc (B0 w5) _) (Nat.le_refl _) _).block WA.heap.size (blk_lt F5.out)).trans F5.out)
  clear hWE hsc5
  go_wp2_with fail
  refine (mint_0 HZ0.out WE (.slice none 0 0)).mono ?_
  rintro e w6 ⟨rfl, hb6⟩
  have HB6 := Aside0.mk (below_step HBWE.out hb6)
  have FX6 := Aside0.mk ((hb6.block w5.heap.size (blk_lt FX.out)).trans FX.out)
  have FE6 := Aside0.mk ((hb6.block WA.heap.size (blk_lt FE.out)).trans FE.out)
  clear hb6
  clear hz0 hz1
  have hz2 := HZZ2.out
  go_wp2_with fail
  refine (told_any 6 0 w6 (errg_step HE.out HB6.out)).mono ?_
  rintro e w7 ⟨rfl, hb7⟩
  have HB7 := Aside0.mk (below_step HB6.out hb7)
  have HL7x := Aside0.mk (row_load ((hb7.block w5.heap.size (blk_lt FX6.out)).trans FX6.out) hs1)
  have FE7 := Aside0.mk ((hb7.block WA.heap.size (blk_lt FE6.out)).trans FE6.out)
  have HL7e := Aside0.mk (row_load FE7.out hs1)
  clear hb7
  have heq := eq_z HZ1.out
  have heqc := eq_code 13
  go_wp2_with (first | (refine load_evg (t := 26) (p := .tmp 6) (by rfl) rfl HL7x.out ?_) | (refine load_evg (t := 26) (p := .tmp 3) (by rfl) rfl HL7e.out ?_))
  refine (newer_z HZ1.out HZ2.out w7).mono ?_
  rw [show decide ((1 : Int) = 1 ∧ ZZ = ZZ ∧ (0 : Int) < 7) = true from by simp]
  rintro e w8 ⟨rfl, hb8⟩
  have HB8 := Aside0.mk (below_step HB7.out hb8)
  have HL8 := Aside0.mk (row_load ((hb8.block WA.heap.size (blk_lt FE7.out)).trans FE7.out) hs1)
  clear hb8
  go_wp2_with (refine load_evg (t := 26) (p := .tmp 3) (by rfl) rfl HL8.out ?_)
  refine (newer_z HZ1.out HZ1.out w8).mono ?_
  rw [show decide ((1 : Int) = 1 ∧ ZZ = ZZ ∧ (7 : Int) < 7) = false from by simp]
  rintro e w9 ⟨rfl, hb9⟩
  have HB9 := Aside0.mk (below_step HB8.out hb9)
  clear hb9
  go_wp2_with fail
  go_ret
  exact ⟨rfl, HB9.out⟩
end Go.Proofs.YtogimlinfkbapaaDoor.HZookA
