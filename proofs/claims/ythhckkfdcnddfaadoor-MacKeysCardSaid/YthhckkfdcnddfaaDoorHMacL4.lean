/- The law MacKeys. -/
import Derived.Test.YthhckkfdcnddfaaDoorHMacL2
import Derived.Test.YthhckkfdcnddfaaDoorHMacF
import Derived.Test.YthhckkfdcnddfaaDoorPMacKeysx1
namespace Go.Proofs.YthhckkfdcnddfaaDoor.HMacL4
open Go.RowKit Go.Proofs.YthhckkfdcnddfaaDoorW.PrintWords Go.Proofs.YthhckkfdcnddfaaDoor.HLib Go.Proofs.YthhckkfdcnddfaaDoor.HSha Go.Proofs.YthhckkfdcnddfaaDoor.HShaS Go.Proofs.YthhckkfdcnddfaaDoor.HShaU Go.Proofs.YthhckkfdcnddfaaDoor.HShaV Go.Proofs.YthhckkfdcnddfaaDoor.HShaW Go.Proofs.YthhckkfdcnddfaaDoor.HShaB Go.Proofs.YthhckkfdcnddfaaDoor.HShaX Go.Proofs.YthhckkfdcnddfaaDoor.HMac Go.Proofs.YthhckkfdcnddfaaDoor.HMacC Go.Proofs.YthhckkfdcnddfaaDoor.HMacS Go.Proofs.YthhckkfdcnddfaaDoor.HMacR Go.Proofs.YthhckkfdcnddfaaDoor.HMacQ Go.Proofs.YthhckkfdcnddfaaDoor.HMacK Go.Proofs.YthhckkfdcnddfaaDoor.HMacD Go.Proofs.YthhckkfdcnddfaaDoor.HMacF Go.Proofs.YthhckkfdcnddfaaDoor.HMacL1 Go.Proofs.YthhckkfdcnddfaaDoor.PMacKeys
open Go.Proofs.YthhckkfdcnddfaaDoor.HMacA (awake_any share_act share wpAnyH_listed)
set_option linter.unusedVariables false
set_option linter.unusedSimpArgs false

theorem spread_ok (n : Int) (hn : n ≤ 1000) : ∀ (d : Nat) (i x : Int) (xs : List Int), i + d = n → 0 ≤ i → (xs.length : Int) = i → (∀ y ∈ xs, 0 ≤ y ∧ y < 256) →
    ∃ r, vestryref01_Spread.l0 (d + 1) n xs x i = some r ∧ (r.length : Int) = n ∧ ∀ y ∈ r, 0 ≤ y ∧ y < 256 := by
  intro d
  induction d with
  | zero =>
    intro i x xs h h0 hl hb
    exact ⟨xs, by rw [vestryref01_Spread.l0, if_neg (by omega)], by omega, hb⟩
  | succ d ih =>
    intro i x xs h h0 hl hb
    have e : wrap64 (i + 1) = i + 1 := IntWalk.wrap64_in _ (by omega)
    rw [vestryref01_Spread.l0, if_pos (by omega), if_pos (by omega), e]
    refine ih (i + 1) _ _ (by omega) (by omega) (by rw [List.length_append, List.length_singleton]; omega) (fun y hy => ?_)
    rcases List.mem_append.1 hy with h1 | h1
    · exact hb y h1
    · rw [List.mem_singleton.1 h1]; omega
theorem key64_zero_more (key : List Int) (h : key.length ≤ 63) : key64 (key ++ [0]) = key64 key := by
  have hl : (key ++ [0]).length = key.length + 1 := by rw [List.length_append, List.length_singleton]
  unfold key64
  rw [if_neg (by omega), if_neg (by omega), hl, List.append_assoc, show 64 - key.length = (64 - (key.length + 1)) + 1 from by omega, List.replicate_succ]
  rfl
theorem mac_zero_more (key bs : List Int) (h : key.length ≤ 63) : macP (key ++ [0]) bs = macP key bs := by unfold macP; rw [key64_zero_more key h]
theorem ne_after {v v1 : Value} {W : World} {g : Nat} (hat : v1.ownBlock = v.ownBlock ∨ ∃ b, v1.ownBlock = some b ∧ W.heap.size ≤ b) (hn : v.ownBlock ≠ some g) (hl : g < W.heap.size) : v1.ownBlock ≠ some g := by
  rcases hat with e | ⟨b, e, hb⟩
  · rw [e]; exact hn
  · rw [e]; intro h; injection h with h; omega
theorem step_if {P : Program} {ops : Array Oper} {o : Oper} {a : Act} {tm : Array Value} {W : World} {Kc : Act → World → Prop} {Q : Exit → Act → World → Prop} (ha : tm = a.tmps) (h : if Region.wanted o (yielded ops a.tmps) = true then Oper.wp P o a W Kc Q else Kc (a.put o.dst undef) W) : if Region.wanted o (yielded ops tm) = true then Oper.wp P o a W Kc Q else Kc (a.put o.dst undef) W := by subst ha; exact h
theorem cat_one (bs : List Int) : cat [bs] = bs := by simp [cat]

set_option maxHeartbeats 4000000 in
theorem far_walk (w : World) (B : Option Addr) (m c : Nat) (seed n : Int) (h : 300 < m) (hG : Glob w) :
    Calls Tryd.prog 6 #[.int .u64 seed, .int .u8 n, .slice B m c] w fun e w' => e = .returned (.bool true) ∧ Below w.heap.size w w' := by
    have HG := Aside0.mk hG
    clear hG
    have d1 : decide (300 < m) = true := decide_eq_true h
    have d2 : decide ((300 : Int) < (m : Int)) = true := decide_eq_true (by omega)
    clear h
    go_enter Tryd.func6, Tryd.ntmps6
    go_wp2_with fail
    refine (awake_any w HG.out).mono ?_
    rintro e w1 ⟨rfl, hb1⟩
    have HB1 := Aside0.mk hb1
    clear hb1
    go_wp2_with fail
    refine (awake_any w1 (glob_below HG.out HG.out.1 HB1.out)).mono ?_
    rintro e w2 ⟨rfl, hb2⟩
    have HB2 := Aside0.mk (below_step HB1.out hb2)
    clear hb2
    go_wp2
    go_ret
    exact ⟨rfl, HB2.out⟩

set_option maxRecDepth 100000 in
set_option maxHeartbeats 16000000 in
theorem near_walk (w : World) (Ab : Option Addr) (cb : Nat) (bs : List Int) (hB : Bv w (.slice Ab bs.length cb) bs) (hbb : ∀ x ∈ bs, 0 ≤ x ∧ x < 256) (hbl : bs.length ≤ 300) (seed n : Int) (hn : 0 ≤ n ∧ n < 256) (hG : Glob w) :
    Calls Tryd.prog 6 #[.int .u64 seed, .int .u8 n, .slice Ab bs.length cb] w fun e w' => e = .returned (.bool true) ∧ Below w.heap.size w w' := by
  have HBS := Aside0.mk hB
  have HBB := Aside0.mk (And.intro hbb hbl)
  have HG := Aside0.mk hG
  have d1 : decide (300 < bs.length) = false := decide_eq_false (by omega)
  have d2 : decide ((300 : Int) < (bs.length : Int)) = false := decide_eq_false (by omega)
  have hn0 := hn.1
  have hn1 := hn.2
  clear hB hbb hbl hG hn
  go_enter Tryd.func6, Tryd.ntmps6
  go_wp2_with fail
  refine (awake_any w HG.out).mono ?_
  rintro e w1 ⟨rfl, hb1⟩
  have HB1 := Aside0.mk hb1
  clear hb1
  obtain ⟨key, hr, hkl, hkb⟩ := spread_ok (40 + n % 50) (by omega) (40 + n % 50).toNat 0 seed [] (by omega) (by omega) rfl (by simp)
  have HKB := Aside0.mk (And.intro hkb (show key.length ≤ 89 from by omega))
  go_wp2_with fail
  refine (vestryref01_Spread.calls _ _ _ key w1 hr).mono ?_
  rintro e w2 ⟨vk, rfl, hRk, hb2⟩
  have HB2 := Aside0.mk (below_step HB1.out hb2)
  have HK := Aside0.mk (Bs.bv (Bs.of_R hRk))
  obtain ⟨Ak, ck, rfl, hck, hCk⟩ := Kd.R_reads hRk
  clear hb2 hRk hr hkl hkb hck hCk
  go_wp2_with fail
  refine (refmac_any w2 _ key HK.out HKB.out.1 (by have := HKB.out.2; omega) _ bs (HBS.out.below HB2.out) HBB.out.1 (by have := HBB.out.2; omega)).mono ?_
  rintro e w3 ⟨rfl, hb3⟩
  have HB3 := Aside0.mk (below_step HB2.out hb3)
  obtain ⟨M, hM⟩ : ∃ M, M = macP key bs := ⟨_, rfl⟩
  have HML := Aside0.mk (show M.length = 32 from by rw [hM]; exact macP_len _ _)
  rw [← hM]
  have HM := Aside0.mk hM
  have HST0 := Aside0.mk (run_storeAt_new (P := Tryd.prog) w3 26 (nums .u8 (List.replicate 32 0)).toArray (nums .u8 M).toArray (by rw [size_out]; simp [nums, HML.out]) (by simp [nums, HML.out]) (by simp [nums, Value.oneCell']))
  obtain ⟨We, hWe⟩ : ∃ W, W = w3.alloc (.cells (nums .u8 M).toArray 26) := ⟨_, rfl⟩
  have hbe : Below w3.heap.size w3 We := by rw [hWe]; exact below_alloc (B0 w3) _
  have HBW := Aside0.mk (below_step HB3.out hbe)
  have HA : Aside0 (IsArr We w3.heap.size .u8 26 M) := ⟨by rw [hWe]; exact blk_new w3 _⟩
  have HKW := Aside0.mk ((HK.out.below hb3).below hbe)
  have hst0 := HST0.out
  rw [← hWe] at hst0
  have HST := Aside0.mk hst0
  have heq := HEqA.eq_arr (P := Tryd.prog) Tryd.underlying26 Tryd.underlying5 (show Tryd.prog.info? 5 = some _ from rfl) (by kernel_rfl) M HML.out
  clear hb3 hM hst0 HST0 hWe hbe HK
  go_wp2_with (refine store_event rfl (t := 26) (p := 8) (v := .tmp 25) rfl rfl (w1 := We) ?hr ?_; (case hr => exact run_store_of rfl HST.out); intro w5 hw5; have hw6 := hw5.symm; subst hw6)
  refine wp_region_held_drew (S := fun w' => Below We.heap.size We w') (by kernel_rfl) (below_drew1 (B0 We)) (fun hHeld => ?_)
  generalize We.drew = Wd at hHeld ⊢
  refine wpAnyH_take (i := 0) (v := .slice Ak key.length ck) rfl (by kernel_rfl) (by kernel_rfl) (by kernel_rfl) (fun _ _ _ h => h) (Or.inl ⟨by rfl, ?hy0⟩) hHeld ?_
  case hy0 => intro w' hSw; go_simp
  simp only [List.getElem_toArray, List.getElem_cons_succ, List.getElem_cons_zero, Act.put, List.setIfInBounds_toArray, List.set_cons_zero, List.set_cons_succ]
  refine wpAnyH_take (i := 1) (v := .slice Ab bs.length cb) rfl (by kernel_rfl) (by kernel_rfl) (by kernel_rfl) (fun _ _ _ h => h) (Or.inl ⟨by rfl, ?hy1⟩) hHeld ?_
  case hy1 => intro w' hSw; go_simp
  simp only [List.getElem_toArray, List.getElem_cons_succ, List.getElem_cons_zero, Act.put, List.setIfInBounds_toArray, List.set_cons_zero, List.set_cons_succ]
  refine wpAnyH_take (i := 4) (v := .agg (nums .u8 M).toArray) rfl (by kernel_rfl) (by kernel_rfl) (by kernel_rfl) (fun _ _ _ h => h) (yieldsIf_load_mid (by rfl) 26 (.tmp 8) rfl w3.heap.size 0 rfl (nums .u8 M) _ (fun w' h => range_arr (HA.out.below h (arr_lt HA.out))) Tryd.underlying26 rfl (by rw [size_out]; simp [nums, HML.out])) hHeld ?_
  simp only [List.getElem_toArray, List.getElem_cons_succ, List.getElem_cons_zero, Act.put, List.setIfInBounds_toArray, List.set_cons_zero, List.set_cons_succ]
  refine wpAnyH_ready (rs := [2]) (by kernel_rfl) (by simp) ?_
  refine AllReadyH.cons rfl (fun K hK => ?_) AllReadyH.nil
  simp only [List.getElem_toArray, List.getElem_cons_succ, List.getElem_cons_zero]
  rw [if_pos (by rfl)]
  go_simp
  obtain ⟨x1, hx1⟩ : ∃ u, u = Wd.alloc (.cells #[.slice Ab bs.length cb] 22) := ⟨_, rfl⟩
  rw [← hx1]
  have hbb : Below Wd.heap.size Wd x1 := by rw [hx1]; exact below_alloc (B0 Wd) _
  have hf1 : x1.heap[Wd.heap.size]? = some (.cells #[.slice Ab bs.length cb] 22 (0, 0)) := by rw [hx1]; exact blk_new Wd _
  clear hx1
  refine hK.out _ _ (hHeld.trans (hbb.mono hHeld.size)) (fun hHeld => ?_)
  clear hK K
  refine wpAnyH_ready (rs := [3]) (by kernel_rfl) (by simp) ?_
  refine AllReadyH.cons rfl (fun K hK => ?_) AllReadyH.nil
  simp only [List.getElem_toArray, List.getElem_cons_succ, List.getElem_cons_zero]
  rw [if_pos (by rfl)]
  go_simp
  clear hbb
  have hkb : KB.C x1 (some ⟨Wd.heap.size, 0, none⟩) 1 [bs] := by
    obtain ⟨A', c', e', hc', hC'⟩ := HBS.out.below (below_step HBW.out hHeld)
    injection e' with e1' _ e3'
    subst e1' e3'
    exact KB_one (c0 := cb) (blk_cell hf1 0) hc' hC'
  refine (mac_any x1 _ key (HKW.out.below hHeld) HKB.out.1 (by have := HKB.out.2; omega) _ 1 [bs] hkb (show 1 ≤ 1 by decide) (by rw [cat_one]; exact HBB.out.1) (by rw [cat_one]; have := HBB.out.2; omega) (show 1 ≤ 4294960000 by decide) (glob_below HG.out HG.out.1 (below_step HBW.out hHeld))).mono ?_
  rintro e x2 ⟨rfl, hbb⟩
  rw [cat_one, ← HM.out]
  clear hkb hf1
  refine hK.out _ _ (hHeld.trans (hbb.mono hHeld.size)) (fun hHeld => ?_)
  clear hK K
  refine wpAnyH_take (i := 5) (v := .bool false) rfl (by kernel_rfl) (by kernel_rfl) (by kernel_rfl) (fun _ _ _ h => h) (Or.inl ⟨by rfl, ?hy5⟩) hHeld ?_
  case hy5 => intro w' hSw; go_simp
  simp only [List.getElem_toArray, List.getElem_cons_succ, List.getElem_cons_zero, Act.put, List.setIfInBounds_toArray, List.set_cons_zero, List.set_cons_succ]
  refine wpAnyH_done (by kernel_rfl) ?_ _
  have HBX := Aside0.mk (below_step HBW.out hHeld)
  have HAX := Aside0.mk (HA.out.below hHeld (arr_lt HA.out))
  have HKX := Aside0.mk (HKW.out.below hHeld)
  have HBE := Aside0.mk hHeld
  clear hHeld HA HBW HKW HBE
  go_wp2
  by_cases hk : 63 < key.length
  · have z1 : decide (63 < key.length) = true := decide_eq_true hk
    have z2 : decide ((63 : Int) < (key.length : Int)) = true := decide_eq_true (by omega)
    clear hk
    refine wp_region_held_drew (S := fun w' => Below x2.heap.size x2 w') (by kernel_rfl) (below_drew1 (B0 x2)) (fun hHeld => ?_)
    refine wpAnyH_take (i := 0) (v := .slice Ak key.length ck) rfl (by kernel_rfl) (by kernel_rfl) (by kernel_rfl) (fun _ _ _ h => h) (Or.inl ⟨by rfl, ?hy0⟩) hHeld ?_
    case hy0 => intro w' hSw; go_simp
    simp only [List.getElem_toArray, List.getElem_cons_succ, List.getElem_cons_zero, Act.put, List.setIfInBounds_toArray, List.set_cons_zero, List.set_cons_succ]
    refine wpAnyH_take (i := 1) (v := .int .i64 (key.length : Int)) rfl (by kernel_rfl) (by kernel_rfl) (by kernel_rfl) (fun _ _ _ h => h) (Or.inl ⟨by rfl, ?hy1⟩) hHeld ?_
    case hy1 => intro w' hSw; go_simp
    simp only [List.getElem_toArray, List.getElem_cons_succ, List.getElem_cons_zero, Act.put, List.setIfInBounds_toArray, List.set_cons_zero, List.set_cons_succ]
    refine wpAnyH_take (i := 2) (v := .bool true) rfl (by kernel_rfl) (by kernel_rfl) (by kernel_rfl) (fun _ _ _ h => h) (Or.inl ⟨by rfl, ?hy2⟩) hHeld ?_
    case hy2 => intro w' hSw; go_simp
    simp only [List.getElem_toArray, List.getElem_cons_succ, List.getElem_cons_zero, Act.put, List.setIfInBounds_toArray, List.set_cons_zero, List.set_cons_succ]
    refine wpAnyH_take (i := 3) (v := .bool true) rfl (by kernel_rfl) (by kernel_rfl) (by kernel_rfl) (fun _ _ _ h => h) (Or.inl ⟨by rfl, ?hy3⟩) hHeld ?_
    case hy3 => intro w' hSw; go_simp
    simp only [List.getElem_toArray, List.getElem_cons_succ, List.getElem_cons_zero, Act.put, List.setIfInBounds_toArray, List.set_cons_zero, List.set_cons_succ]
    refine wpAnyH_take (i := 4) (v := undef) rfl (by kernel_rfl) (by kernel_rfl) (by kernel_rfl) (fun _ _ _ h => h) (Or.inr ⟨by rfl, rfl⟩) hHeld ?_
    simp only [List.getElem_toArray, List.getElem_cons_succ, List.getElem_cons_zero, Act.put, List.setIfInBounds_toArray, List.set_cons_zero, List.set_cons_succ]
    refine wpAnyH_take (i := 5) (v := undef) rfl (by kernel_rfl) (by kernel_rfl) (by kernel_rfl) (fun _ _ _ h => h) (Or.inr ⟨by rfl, rfl⟩) hHeld ?_
    simp only [List.getElem_toArray, List.getElem_cons_succ, List.getElem_cons_zero, Act.put, List.setIfInBounds_toArray, List.set_cons_zero, List.set_cons_succ]
    refine wpAnyH_take (i := 6) (v := undef) rfl (by kernel_rfl) (by kernel_rfl) (by kernel_rfl) (fun _ _ _ h => h) (Or.inr ⟨by rfl, rfl⟩) hHeld ?_
    simp only [List.getElem_toArray, List.getElem_cons_succ, List.getElem_cons_zero, Act.put, List.setIfInBounds_toArray, List.set_cons_zero, List.set_cons_succ]
    refine wpAnyH_take (i := 7) (v := undef) rfl (by kernel_rfl) (by kernel_rfl) (by kernel_rfl) (fun _ _ _ h => h) (Or.inr ⟨by rfl, rfl⟩) hHeld ?_
    simp only [List.getElem_toArray, List.getElem_cons_succ, List.getElem_cons_zero, Act.put, List.setIfInBounds_toArray, List.set_cons_zero, List.set_cons_succ]
    refine wpAnyH_take (i := 8) (v := undef) rfl (by kernel_rfl) (by kernel_rfl) (by kernel_rfl) (fun _ _ _ h => h) (Or.inr ⟨by rfl, rfl⟩) hHeld ?_
    simp only [List.getElem_toArray, List.getElem_cons_succ, List.getElem_cons_zero, Act.put, List.setIfInBounds_toArray, List.set_cons_zero, List.set_cons_succ]
    refine wpAnyH_take (i := 9) (v := undef) rfl (by kernel_rfl) (by kernel_rfl) (by kernel_rfl) (fun _ _ _ h => h) (Or.inr ⟨by rfl, rfl⟩) hHeld ?_
    simp only [List.getElem_toArray, List.getElem_cons_succ, List.getElem_cons_zero, Act.put, List.setIfInBounds_toArray, List.set_cons_zero, List.set_cons_succ]
    refine wpAnyH_take (i := 10) (v := undef) rfl (by kernel_rfl) (by kernel_rfl) (by kernel_rfl) (fun _ _ _ h => h) (Or.inr ⟨by rfl, rfl⟩) hHeld ?_
    simp only [List.getElem_toArray, List.getElem_cons_succ, List.getElem_cons_zero, Act.put, List.setIfInBounds_toArray, List.set_cons_zero, List.set_cons_succ]
    refine wpAnyH_take (i := 11) (v := undef) rfl (by kernel_rfl) (by kernel_rfl) (by kernel_rfl) (fun _ _ _ h => h) (Or.inr ⟨by rfl, rfl⟩) hHeld ?_
    simp only [List.getElem_toArray, List.getElem_cons_succ, List.getElem_cons_zero, Act.put, List.setIfInBounds_toArray, List.set_cons_zero, List.set_cons_succ]
    refine wpAnyH_take (i := 12) (v := undef) rfl (by kernel_rfl) (by kernel_rfl) (by kernel_rfl) (fun _ _ _ h => h) (Or.inr ⟨by rfl, rfl⟩) hHeld ?_
    simp only [List.getElem_toArray, List.getElem_cons_succ, List.getElem_cons_zero, Act.put, List.setIfInBounds_toArray, List.set_cons_zero, List.set_cons_succ]
    refine wpAnyH_take (i := 13) (v := undef) rfl (by kernel_rfl) (by kernel_rfl) (by kernel_rfl) (fun _ _ _ h => h) (Or.inr ⟨by rfl, rfl⟩) hHeld ?_
    simp only [List.getElem_toArray, List.getElem_cons_succ, List.getElem_cons_zero, Act.put, List.setIfInBounds_toArray, List.set_cons_zero, List.set_cons_succ]
    refine wpAnyH_take (i := 14) (v := .bool true) rfl (by kernel_rfl) (by kernel_rfl) (by kernel_rfl) (fun _ _ _ h => h) (Or.inl ⟨by rfl, ?hy14⟩) hHeld ?_
    case hy14 => intro w' hSw; go_simp
    simp only [List.getElem_toArray, List.getElem_cons_succ, List.getElem_cons_zero, Act.put, List.setIfInBounds_toArray, List.set_cons_zero, List.set_cons_succ]
    refine wpAnyH_take (i := 15) (v := .bool true) rfl (by kernel_rfl) (by kernel_rfl) (by kernel_rfl) (fun _ _ _ h => h) (Or.inl ⟨by rfl, ?hy15⟩) hHeld ?_
    case hy15 => intro w' hSw; go_simp
    simp only [List.getElem_toArray, List.getElem_cons_succ, List.getElem_cons_zero, Act.put, List.setIfInBounds_toArray, List.set_cons_zero, List.set_cons_succ]
    refine wpAnyH_done (by kernel_rfl) ?_ _
    have HBF := Aside0.mk (below_step HBX.out hHeld)
    clear hHeld
    go_wp2
    go_ret
    exact ⟨rfl, HBF.out⟩
  · have z1 : decide (63 < key.length) = false := decide_eq_false hk
    have z2 : decide ((63 : Int) < (key.length : Int)) = false := decide_eq_false (by omega)
    have HKL := Aside0.mk (show key.length ≤ 63 from by omega)
    have HKC : Aside0 ((Kd.int .u8).C x2 Ak key.length key) := ⟨by obtain ⟨A', c', e', _, hC'⟩ := HKX.out; injection e' with e1' _ _; rw [e1']; exact hC'⟩
    clear hk
    refine wp_region_held_drew (S := fun w' => Below x2.heap.size x2 w') (by kernel_rfl) (below_drew1 (B0 x2)) (fun hHeld => ?_)
    generalize x2.drew = xd at hHeld ⊢
    refine wpAnyH_take (i := 0) (v := .slice Ak key.length ck) rfl (by kernel_rfl) (by kernel_rfl) (by kernel_rfl) (fun _ _ _ h => h) (Or.inl ⟨by rfl, ?hy0⟩) hHeld ?_
    case hy0 => intro w' hSw; go_simp
    simp only [List.getElem_toArray, List.getElem_cons_succ, List.getElem_cons_zero, Act.put, List.setIfInBounds_toArray, List.set_cons_zero, List.set_cons_succ]
    refine wpAnyH_take (i := 1) (v := .int .i64 (key.length : Int)) rfl (by kernel_rfl) (by kernel_rfl) (by kernel_rfl) (fun _ _ _ h => h) (Or.inl ⟨by rfl, ?hy1⟩) hHeld ?_
    case hy1 => intro w' hSw; go_simp
    simp only [List.getElem_toArray, List.getElem_cons_succ, List.getElem_cons_zero, Act.put, List.setIfInBounds_toArray, List.set_cons_zero, List.set_cons_succ]
    refine wpAnyH_take (i := 2) (v := .bool false) rfl (by kernel_rfl) (by kernel_rfl) (by kernel_rfl) (fun _ _ _ h => h) (Or.inl ⟨by rfl, ?hy2⟩) hHeld ?_
    case hy2 => intro w' hSw; go_simp
    simp only [List.getElem_toArray, List.getElem_cons_succ, List.getElem_cons_zero, Act.put, List.setIfInBounds_toArray, List.set_cons_zero, List.set_cons_succ]
    refine wpAnyH_take (i := 3) (v := .bool false) rfl (by kernel_rfl) (by kernel_rfl) (by kernel_rfl) (fun _ _ _ h => h) (Or.inl ⟨by rfl, ?hy3⟩) hHeld ?_
    case hy3 => intro w' hSw; go_simp
    simp only [List.getElem_toArray, List.getElem_cons_succ, List.getElem_cons_zero, Act.put, List.setIfInBounds_toArray, List.set_cons_zero, List.set_cons_succ]
    refine wpAnyH_take (i := 5) (v := .slice Ak key.length ck) rfl (by kernel_rfl) (by kernel_rfl) (by kernel_rfl) (fun _ _ _ h => h) (Or.inl ⟨by rfl, ?hy5⟩) hHeld ?_
    case hy5 => intro w' hSw; go_simp
    simp only [List.getElem_toArray, List.getElem_cons_succ, List.getElem_cons_zero, Act.put, List.setIfInBounds_toArray, List.set_cons_zero, List.set_cons_succ]
    refine wpAnyH_take (i := 9) (v := .slice Ab bs.length cb) rfl (by kernel_rfl) (by kernel_rfl) (by kernel_rfl) (fun _ _ _ h => h) (Or.inl ⟨by rfl, ?hy9⟩) hHeld ?_
    case hy9 => intro w' hSw; go_simp
    simp only [List.getElem_toArray, List.getElem_cons_succ, List.getElem_cons_zero, Act.put, List.setIfInBounds_toArray, List.set_cons_zero, List.set_cons_succ]
    refine wpAnyH_take (i := 12) (v := .agg (nums .u8 M).toArray) rfl (by kernel_rfl) (by kernel_rfl) (by kernel_rfl) (fun _ _ _ h => h) (yieldsIf_load_mid (by rfl) 26 (.tmp 8) rfl w3.heap.size 0 rfl (nums .u8 M) _ (fun w' h => range_arr (HAX.out.below h (arr_lt HAX.out))) Tryd.underlying26 rfl (by rw [size_out]; simp [nums, HML.out])) hHeld ?_
    simp only [List.getElem_toArray, List.getElem_cons_succ, List.getElem_cons_zero, Act.put, List.setIfInBounds_toArray, List.set_cons_zero, List.set_cons_succ]
    refine share_act (fun a1 ha1 => ?_)
    refine share (fuel := 4) (l := #[true, true, true, true, true, true, true, true, true, true, true, false, true, false, false, false]) (fun a w' => ∃ (g4 : Nat) (v6 : Value) (g7 : Nat) (v8 : Value) (g10 : Nat), a = (((((a1.put (some 36) (.slice (some ⟨g4, 0, none⟩) 0 0)).put (some 38) v6).put (some 39) (.slice (some ⟨g7, 0, none⟩) 1 1)).put (some 40) v8).put (some 42) (.slice (some ⟨g10, 0, none⟩) 1 1)) ∧ Below x2.heap.size x2 w' ∧ Kd.R (Kd.int .u8) 5 w' x2.heap.size (fun _ => True) v8 (key ++ [0]) ∧ w'.heap[g10]? = some (.cells #[.slice Ab bs.length cb] 22 (0, 0))) ?suf ?main
    case main =>
      intro suf
      subst ha1
      refine wpAnyH_ready (rs := [4, 7, 10]) (by kernel_rfl) (by simp) ?_
      refine AllReadyH.cons rfl (fun K hK => ?_) (AllReadyH.cons rfl (fun K hK => ?_) (AllReadyH.cons rfl (fun K hK => ?_) AllReadyH.nil))
      · simp only [List.getElem_toArray, List.getElem_cons_succ, List.getElem_cons_zero]
        rw [if_pos (by rfl)]
        go_simp
        obtain ⟨u1, hu⟩ : ∃ u, u = xd.alloc (.cells #[] 5) := ⟨_, rfl⟩
        rw [← hu]
        have hau : Below xd.heap.size xd u1 := by rw [hu]; exact below_alloc (B0 xd) _
        have r := (show Kd.R (Kd.int .u8) 5 u1 x2.heap.size (fun _ => True) (.slice (some ⟨xd.heap.size, 0, none⟩) 0 0) [] from by rw [hu]; exact Kd.R_of_own (enc := Value.int .u8) (h1 := fun _ => rfl) (own_lit xd x2.heap.size 5 .u8 [] hHeld.size (by decide)) (fun _ _ => trivial))
        refine hK.out _ _ (hHeld.trans (hau.mono hHeld.size)) (fun hHeld => ?_)
        clear hK K hau hu
        refine wpAnyH_ready (rs := [6, 7, 10]) (by kernel_rfl) (by simp) ?_
        refine AllReadyH.cons rfl (fun K hK => ?_) (AllReadyH.cons rfl (fun K hK => ?_) (AllReadyH.cons rfl (fun K hK => ?_) AllReadyH.nil))
        · simp only [List.getElem_toArray, List.getElem_cons_succ, List.getElem_cons_zero]
          refine step_if (by rfl) (Kd.R_append_rows_step (Kd.int .u8) (w0 := x2) x2.heap.size (by rfl) (.tmp 36) (.tmp 37) 22 5 (.int .u8 0) 1 (by rfl) Tryd.underlying22 info_u8 rfl (by decide) (by decide) (.slice (some ⟨xd.heap.size, 0, none⟩) 0 0) ([]) (key) (Ak) _ ck (fun _ => True) (fun _ => False) (by rfl) (by rfl) r (Kd.C_below HKC.out hHeld) (fun _ _ h => h) (fun _ h => h.elim) (fun _ _ => trivial) hHeld hHeld.size (by have := HKL.out; simp; omega) ?_)
          intro v2 u2 ho hb hg hat
          rw [List.nil_append] at ho
          have r := ho
          refine hK.out _ _ hb (fun hHeld => ?_)
          clear hK K ho hb hg hat
          refine wpAnyH_ready (rs := [7, 10]) (by kernel_rfl) (by simp) ?_
          refine AllReadyH.cons rfl (fun K hK => ?_) (AllReadyH.cons rfl (fun K hK => ?_) AllReadyH.nil)
          · simp only [List.getElem_toArray, List.getElem_cons_succ, List.getElem_cons_zero]
            rw [if_pos (by rfl)]
            go_simp
            obtain ⟨u3, hu⟩ : ∃ u, u = u2.alloc (.cells #[.int .u8 0] 5) := ⟨_, rfl⟩
            rw [← hu]
            have hau : Below u2.heap.size u2 u3 := by rw [hu]; exact below_alloc (B0 u2) _
            have n7 : Value.ownBlock (v2) ≠ some u2.heap.size := fun h => absurd (own_lt (Kd.own_of_R r) _ h) (Nat.lt_irrefl _)
            have r := Kd.R_below r hau
            have f7 : u3.heap[u2.heap.size]? = some (.cells (nums .u8 [0]).toArray 5 (0, 0)) := by rw [hu]; exact blk_new u2 _
            refine hK.out _ _ (hHeld.trans (hau.mono hHeld.size)) (fun hHeld => ?_)
            clear hK K hau hu
            refine wpAnyH_ready (rs := [8, 10]) (by kernel_rfl) (by simp) ?_
            refine AllReadyH.cons rfl (fun K hK => ?_) (AllReadyH.cons rfl (fun K hK => ?_) AllReadyH.nil)
            · simp only [List.getElem_toArray, List.getElem_cons_succ, List.getElem_cons_zero]
              refine step_if (by rfl) (Kd.R_append_rows_step (Kd.int .u8) (w0 := x2) x2.heap.size (by rfl) (.tmp 38) (.tmp 39) 22 5 (.int .u8 0) 1 (by rfl) Tryd.underlying22 info_u8 rfl (by decide) (by decide) (v2) (key) ([0]) (some ⟨u2.heap.size, 0, none⟩) 1 1 (fun _ => True) (fun _ => False) (by rfl) (by rfl) r (bytes_C f7 (by decide)) (fun _ _ h => h) (fun _ h => h.elim) (fun _ _ => trivial) hHeld hHeld.size (by have := HKL.out; omega) ?_)
              intro v4 u4 ho hb hg hat
              have m7 : v4.ownBlock ≠ some u2.heap.size := ne_after hat n7 (blk_lt f7)
              have f7 := blk_grown f7 hg (Ne.symm n7)
              have n7 := m7
              clear m7
              have r := ho
              refine hK.out _ _ hb (fun hHeld => ?_)
              clear hK K ho hb hg hat
              refine wpAnyH_ready (rs := [10]) (by kernel_rfl) (by simp) ?_
              refine AllReadyH.cons rfl (fun K hK => ?_) AllReadyH.nil
              simp only [List.getElem_toArray, List.getElem_cons_succ, List.getElem_cons_zero]
              rw [if_pos (by rfl)]
              go_simp
              obtain ⟨u5, hu⟩ : ∃ u, u = u4.alloc (.cells #[.slice Ab bs.length cb] 22) := ⟨_, rfl⟩
              rw [← hu]
              have hau : Below u4.heap.size u4 u5 := by rw [hu]; exact below_alloc (B0 u4) _
              have n10 : Value.ownBlock (v4) ≠ some u4.heap.size := fun h => absurd (own_lt (Kd.own_of_R r) _ h) (Nat.lt_irrefl _)
              have r := Kd.R_below r hau
              have f7 := blk_alloc f7 (.cells #[.slice Ab bs.length cb] 22)
              rw [← hu] at f7
              have f10 : u5.heap[u4.heap.size]? = some (.cells #[.slice Ab bs.length cb] 22 (0, 0)) := by rw [hu]; exact blk_new u4 _
              refine hK.out _ _ (hHeld.trans (hau.mono hHeld.size)) (fun hHeld => ?_)
              clear hK K hau hu
              exact wpAnyH_listed (by kernel_rfl) (suf _ _ ⟨xd.heap.size, v2, u2.heap.size, v4, u4.heap.size, rfl, hHeld, r, f10⟩)
            · simp only [List.getElem_toArray, List.getElem_cons_succ, List.getElem_cons_zero]
              rw [if_pos (by rfl)]
              go_simp
              obtain ⟨u6, hu⟩ : ∃ u, u = u3.alloc (.cells #[.slice Ab bs.length cb] 22) := ⟨_, rfl⟩
              rw [← hu]
              have hau : Below u3.heap.size u3 u6 := by rw [hu]; exact below_alloc (B0 u3) _
              have n10 : Value.ownBlock (v2) ≠ some u3.heap.size := fun h => absurd (own_lt (Kd.own_of_R r) _ h) (Nat.lt_irrefl _)
              have r := Kd.R_below r hau
              have f7 := blk_alloc f7 (.cells #[.slice Ab bs.length cb] 22)
              rw [← hu] at f7
              have f10 : u6.heap[u3.heap.size]? = some (.cells #[.slice Ab bs.length cb] 22 (0, 0)) := by rw [hu]; exact blk_new u3 _
              refine hK.out _ _ (hHeld.trans (hau.mono hHeld.size)) (fun hHeld => ?_)
              clear hK K hau hu
              refine wpAnyH_ready (rs := [8]) (by kernel_rfl) (by simp) ?_
              refine AllReadyH.cons rfl (fun K hK => ?_) AllReadyH.nil
              simp only [List.getElem_toArray, List.getElem_cons_succ, List.getElem_cons_zero]
              refine step_if (by rfl) (Kd.R_append_rows_step (Kd.int .u8) (w0 := x2) x2.heap.size (by rfl) (.tmp 38) (.tmp 39) 22 5 (.int .u8 0) 1 (by rfl) Tryd.underlying22 info_u8 rfl (by decide) (by decide) (v2) (key) ([0]) (some ⟨u2.heap.size, 0, none⟩) 1 1 (fun _ => True) (fun _ => False) (by rfl) (by rfl) r (bytes_C f7 (by decide)) (fun _ _ h => h) (fun _ h => h.elim) (fun _ _ => trivial) hHeld hHeld.size (by have := HKL.out; omega) ?_)
              intro v7 u7 ho hb hg hat
              have m7 : v7.ownBlock ≠ some u2.heap.size := ne_after hat n7 (blk_lt f7)
              have f7 := blk_grown f7 hg (Ne.symm n7)
              have n7 := m7
              clear m7
              have m10 : v7.ownBlock ≠ some u3.heap.size := ne_after hat n10 (blk_lt f10)
              have f10 := blk_grown f10 hg (Ne.symm n10)
              have n10 := m10
              clear m10
              have r := ho
              refine hK.out _ _ hb (fun hHeld => ?_)
              clear hK K ho hb hg hat
              exact wpAnyH_listed (by kernel_rfl) (suf _ _ ⟨xd.heap.size, v2, u2.heap.size, v7, u3.heap.size, rfl, hHeld, r, f10⟩)
          · simp only [List.getElem_toArray, List.getElem_cons_succ, List.getElem_cons_zero]
            rw [if_pos (by rfl)]
            go_simp
            obtain ⟨u8, hu⟩ : ∃ u, u = u2.alloc (.cells #[.slice Ab bs.length cb] 22) := ⟨_, rfl⟩
            rw [← hu]
            have hau : Below u2.heap.size u2 u8 := by rw [hu]; exact below_alloc (B0 u2) _
            have n10 : Value.ownBlock (v2) ≠ some u2.heap.size := fun h => absurd (own_lt (Kd.own_of_R r) _ h) (Nat.lt_irrefl _)
            have r := Kd.R_below r hau
            have f10 : u8.heap[u2.heap.size]? = some (.cells #[.slice Ab bs.length cb] 22 (0, 0)) := by rw [hu]; exact blk_new u2 _
            refine hK.out _ _ (hHeld.trans (hau.mono hHeld.size)) (fun hHeld => ?_)
            clear hK K hau hu
            refine wpAnyH_ready (rs := [7]) (by kernel_rfl) (by simp) ?_
            refine AllReadyH.cons rfl (fun K hK => ?_) AllReadyH.nil
            simp only [List.getElem_toArray, List.getElem_cons_succ, List.getElem_cons_zero]
            rw [if_pos (by rfl)]
            go_simp
            obtain ⟨u9, hu⟩ : ∃ u, u = u8.alloc (.cells #[.int .u8 0] 5) := ⟨_, rfl⟩
            rw [← hu]
            have hau : Below u8.heap.size u8 u9 := by rw [hu]; exact below_alloc (B0 u8) _
            have n7 : Value.ownBlock (v2) ≠ some u8.heap.size := fun h => absurd (own_lt (Kd.own_of_R r) _ h) (Nat.lt_irrefl _)
            have r := Kd.R_below r hau
            have f10 := blk_alloc f10 (.cells #[.int .u8 0] 5)
            rw [← hu] at f10
            have f7 : u9.heap[u8.heap.size]? = some (.cells (nums .u8 [0]).toArray 5 (0, 0)) := by rw [hu]; exact blk_new u8 _
            refine hK.out _ _ (hHeld.trans (hau.mono hHeld.size)) (fun hHeld => ?_)
            clear hK K hau hu
            refine wpAnyH_ready (rs := [8]) (by kernel_rfl) (by simp) ?_
            refine AllReadyH.cons rfl (fun K hK => ?_) AllReadyH.nil
            simp only [List.getElem_toArray, List.getElem_cons_succ, List.getElem_cons_zero]
            refine step_if (by rfl) (Kd.R_append_rows_step (Kd.int .u8) (w0 := x2) x2.heap.size (by rfl) (.tmp 38) (.tmp 39) 22 5 (.int .u8 0) 1 (by rfl) Tryd.underlying22 info_u8 rfl (by decide) (by decide) (v2) (key) ([0]) (some ⟨u8.heap.size, 0, none⟩) 1 1 (fun _ => True) (fun _ => False) (by rfl) (by rfl) r (bytes_C f7 (by decide)) (fun _ _ h => h) (fun _ h => h.elim) (fun _ _ => trivial) hHeld hHeld.size (by have := HKL.out; omega) ?_)
            intro v10 u10 ho hb hg hat
            have m10 : v10.ownBlock ≠ some u2.heap.size := ne_after hat n10 (blk_lt f10)
            have f10 := blk_grown f10 hg (Ne.symm n10)
            have n10 := m10
            clear m10
            have m7 : v10.ownBlock ≠ some u8.heap.size := ne_after hat n7 (blk_lt f7)
            have f7 := blk_grown f7 hg (Ne.symm n7)
            have n7 := m7
            clear m7
            have r := ho
            refine hK.out _ _ hb (fun hHeld => ?_)
            clear hK K ho hb hg hat
            exact wpAnyH_listed (by kernel_rfl) (suf _ _ ⟨xd.heap.size, v2, u8.heap.size, v10, u2.heap.size, rfl, hHeld, r, f10⟩)
        · simp only [List.getElem_toArray, List.getElem_cons_succ, List.getElem_cons_zero]
          rw [if_pos (by rfl)]
          go_simp
          obtain ⟨u11, hu⟩ : ∃ u, u = u1.alloc (.cells #[.int .u8 0] 5) := ⟨_, rfl⟩
          rw [← hu]
          have hau : Below u1.heap.size u1 u11 := by rw [hu]; exact below_alloc (B0 u1) _
          have n7 : Value.ownBlock (.slice (some ⟨xd.heap.size, 0, none⟩) 0 0) ≠ some u1.heap.size := fun h => absurd (own_lt (Kd.own_of_R r) _ h) (Nat.lt_irrefl _)
          have r := Kd.R_below r hau
          have f7 : u11.heap[u1.heap.size]? = some (.cells (nums .u8 [0]).toArray 5 (0, 0)) := by rw [hu]; exact blk_new u1 _
          refine hK.out _ _ (hHeld.trans (hau.mono hHeld.size)) (fun hHeld => ?_)
          clear hK K hau hu
          refine wpAnyH_ready (rs := [6, 10]) (by kernel_rfl) (by simp) ?_
          refine AllReadyH.cons rfl (fun K hK => ?_) (AllReadyH.cons rfl (fun K hK => ?_) AllReadyH.nil)
          · simp only [List.getElem_toArray, List.getElem_cons_succ, List.getElem_cons_zero]
            refine step_if (by rfl) (Kd.R_append_rows_step (Kd.int .u8) (w0 := x2) x2.heap.size (by rfl) (.tmp 36) (.tmp 37) 22 5 (.int .u8 0) 1 (by rfl) Tryd.underlying22 info_u8 rfl (by decide) (by decide) (.slice (some ⟨xd.heap.size, 0, none⟩) 0 0) ([]) (key) (Ak) _ ck (fun _ => True) (fun _ => False) (by rfl) (by rfl) r (Kd.C_below HKC.out hHeld) (fun _ _ h => h) (fun _ h => h.elim) (fun _ _ => trivial) hHeld hHeld.size (by have := HKL.out; simp; omega) ?_)
            intro v12 u12 ho hb hg hat
            rw [List.nil_append] at ho
            have m7 : v12.ownBlock ≠ some u1.heap.size := ne_after hat n7 (blk_lt f7)
            have f7 := blk_grown f7 hg (Ne.symm n7)
            have n7 := m7
            clear m7
            have r := ho
            refine hK.out _ _ hb (fun hHeld => ?_)
            clear hK K ho hb hg hat
            refine wpAnyH_ready (rs := [8, 10]) (by kernel_rfl) (by simp) ?_
            refine AllReadyH.cons rfl (fun K hK => ?_) (AllReadyH.cons rfl (fun K hK => ?_) AllReadyH.nil)
            · simp only [List.getElem_toArray, List.getElem_cons_succ, List.getElem_cons_zero]
              refine step_if (by rfl) (Kd.R_append_rows_step (Kd.int .u8) (w0 := x2) x2.heap.size (by rfl) (.tmp 38) (.tmp 39) 22 5 (.int .u8 0) 1 (by rfl) Tryd.underlying22 info_u8 rfl (by decide) (by decide) (v12) (key) ([0]) (some ⟨u1.heap.size, 0, none⟩) 1 1 (fun _ => True) (fun _ => False) (by rfl) (by rfl) r (bytes_C f7 (by decide)) (fun _ _ h => h) (fun _ h => h.elim) (fun _ _ => trivial) hHeld hHeld.size (by have := HKL.out; omega) ?_)
              intro v13 u13 ho hb hg hat
              have m7 : v13.ownBlock ≠ some u1.heap.size := ne_after hat n7 (blk_lt f7)
              have f7 := blk_grown f7 hg (Ne.symm n7)
              have n7 := m7
              clear m7
              have r := ho
              refine hK.out _ _ hb (fun hHeld => ?_)
              clear hK K ho hb hg hat
              refine wpAnyH_ready (rs := [10]) (by kernel_rfl) (by simp) ?_
              refine AllReadyH.cons rfl (fun K hK => ?_) AllReadyH.nil
              simp only [List.getElem_toArray, List.getElem_cons_succ, List.getElem_cons_zero]
              rw [if_pos (by rfl)]
              go_simp
              obtain ⟨u14, hu⟩ : ∃ u, u = u13.alloc (.cells #[.slice Ab bs.length cb] 22) := ⟨_, rfl⟩
              rw [← hu]
              have hau : Below u13.heap.size u13 u14 := by rw [hu]; exact below_alloc (B0 u13) _
              have n10 : Value.ownBlock (v13) ≠ some u13.heap.size := fun h => absurd (own_lt (Kd.own_of_R r) _ h) (Nat.lt_irrefl _)
              have r := Kd.R_below r hau
              have f7 := blk_alloc f7 (.cells #[.slice Ab bs.length cb] 22)
              rw [← hu] at f7
              have f10 : u14.heap[u13.heap.size]? = some (.cells #[.slice Ab bs.length cb] 22 (0, 0)) := by rw [hu]; exact blk_new u13 _
              refine hK.out _ _ (hHeld.trans (hau.mono hHeld.size)) (fun hHeld => ?_)
              clear hK K hau hu
              exact wpAnyH_listed (by kernel_rfl) (suf _ _ ⟨xd.heap.size, v12, u1.heap.size, v13, u13.heap.size, rfl, hHeld, r, f10⟩)
            · simp only [List.getElem_toArray, List.getElem_cons_succ, List.getElem_cons_zero]
              rw [if_pos (by rfl)]
              go_simp
              obtain ⟨u15, hu⟩ : ∃ u, u = u12.alloc (.cells #[.slice Ab bs.length cb] 22) := ⟨_, rfl⟩
              rw [← hu]
              have hau : Below u12.heap.size u12 u15 := by rw [hu]; exact below_alloc (B0 u12) _
              have n10 : Value.ownBlock (v12) ≠ some u12.heap.size := fun h => absurd (own_lt (Kd.own_of_R r) _ h) (Nat.lt_irrefl _)
              have r := Kd.R_below r hau
              have f7 := blk_alloc f7 (.cells #[.slice Ab bs.length cb] 22)
              rw [← hu] at f7
              have f10 : u15.heap[u12.heap.size]? = some (.cells #[.slice Ab bs.length cb] 22 (0, 0)) := by rw [hu]; exact blk_new u12 _
              refine hK.out _ _ (hHeld.trans (hau.mono hHeld.size)) (fun hHeld => ?_)
              clear hK K hau hu
              refine wpAnyH_ready (rs := [8]) (by kernel_rfl) (by simp) ?_
              refine AllReadyH.cons rfl (fun K hK => ?_) AllReadyH.nil
              simp only [List.getElem_toArray, List.getElem_cons_succ, List.getElem_cons_zero]
              refine step_if (by rfl) (Kd.R_append_rows_step (Kd.int .u8) (w0 := x2) x2.heap.size (by rfl) (.tmp 38) (.tmp 39) 22 5 (.int .u8 0) 1 (by rfl) Tryd.underlying22 info_u8 rfl (by decide) (by decide) (v12) (key) ([0]) (some ⟨u1.heap.size, 0, none⟩) 1 1 (fun _ => True) (fun _ => False) (by rfl) (by rfl) r (bytes_C f7 (by decide)) (fun _ _ h => h) (fun _ h => h.elim) (fun _ _ => trivial) hHeld hHeld.size (by have := HKL.out; omega) ?_)
              intro v16 u16 ho hb hg hat
              have m7 : v16.ownBlock ≠ some u1.heap.size := ne_after hat n7 (blk_lt f7)
              have f7 := blk_grown f7 hg (Ne.symm n7)
              have n7 := m7
              clear m7
              have m10 : v16.ownBlock ≠ some u12.heap.size := ne_after hat n10 (blk_lt f10)
              have f10 := blk_grown f10 hg (Ne.symm n10)
              have n10 := m10
              clear m10
              have r := ho
              refine hK.out _ _ hb (fun hHeld => ?_)
              clear hK K ho hb hg hat
              exact wpAnyH_listed (by kernel_rfl) (suf _ _ ⟨xd.heap.size, v12, u1.heap.size, v16, u12.heap.size, rfl, hHeld, r, f10⟩)
          · simp only [List.getElem_toArray, List.getElem_cons_succ, List.getElem_cons_zero]
            rw [if_pos (by rfl)]
            go_simp
            obtain ⟨u17, hu⟩ : ∃ u, u = u11.alloc (.cells #[.slice Ab bs.length cb] 22) := ⟨_, rfl⟩
            rw [← hu]
            have hau : Below u11.heap.size u11 u17 := by rw [hu]; exact below_alloc (B0 u11) _
            have n10 : Value.ownBlock (.slice (some ⟨xd.heap.size, 0, none⟩) 0 0) ≠ some u11.heap.size := fun h => absurd (own_lt (Kd.own_of_R r) _ h) (Nat.lt_irrefl _)
            have r := Kd.R_below r hau
            have f7 := blk_alloc f7 (.cells #[.slice Ab bs.length cb] 22)
            rw [← hu] at f7
            have f10 : u17.heap[u11.heap.size]? = some (.cells #[.slice Ab bs.length cb] 22 (0, 0)) := by rw [hu]; exact blk_new u11 _
            refine hK.out _ _ (hHeld.trans (hau.mono hHeld.size)) (fun hHeld => ?_)
            clear hK K hau hu
            refine wpAnyH_ready (rs := [6]) (by kernel_rfl) (by simp) ?_
            refine AllReadyH.cons rfl (fun K hK => ?_) AllReadyH.nil
            simp only [List.getElem_toArray, List.getElem_cons_succ, List.getElem_cons_zero]
            refine step_if (by rfl) (Kd.R_append_rows_step (Kd.int .u8) (w0 := x2) x2.heap.size (by rfl) (.tmp 36) (.tmp 37) 22 5 (.int .u8 0) 1 (by rfl) Tryd.underlying22 info_u8 rfl (by decide) (by decide) (.slice (some ⟨xd.heap.size, 0, none⟩) 0 0) ([]) (key) (Ak) _ ck (fun _ => True) (fun _ => False) (by rfl) (by rfl) r (Kd.C_below HKC.out hHeld) (fun _ _ h => h) (fun _ h => h.elim) (fun _ _ => trivial) hHeld hHeld.size (by have := HKL.out; simp; omega) ?_)
            intro v18 u18 ho hb hg hat
            rw [List.nil_append] at ho
            have m7 : v18.ownBlock ≠ some u1.heap.size := ne_after hat n7 (blk_lt f7)
            have f7 := blk_grown f7 hg (Ne.symm n7)
            have n7 := m7
            clear m7
            have m10 : v18.ownBlock ≠ some u11.heap.size := ne_after hat n10 (blk_lt f10)
            have f10 := blk_grown f10 hg (Ne.symm n10)
            have n10 := m10
            clear m10
            have r := ho
            refine hK.out _ _ hb (fun hHeld => ?_)
            clear hK K ho hb hg hat
            refine wpAnyH_ready (rs := [8]) (by kernel_rfl) (by simp) ?_
            refine AllReadyH.cons rfl (fun K hK => ?_) AllReadyH.nil
            simp only [List.getElem_toArray, List.getElem_cons_succ, List.getElem_cons_zero]
            refine step_if (by rfl) (Kd.R_append_rows_step (Kd.int .u8) (w0 := x2) x2.heap.size (by rfl) (.tmp 38) (.tmp 39) 22 5 (.int .u8 0) 1 (by rfl) Tryd.underlying22 info_u8 rfl (by decide) (by decide) (v18) (key) ([0]) (some ⟨u1.heap.size, 0, none⟩) 1 1 (fun _ => True) (fun _ => False) (by rfl) (by rfl) r (bytes_C f7 (by decide)) (fun _ _ h => h) (fun _ h => h.elim) (fun _ _ => trivial) hHeld hHeld.size (by have := HKL.out; omega) ?_)
            intro v19 u19 ho hb hg hat
            have m7 : v19.ownBlock ≠ some u1.heap.size := ne_after hat n7 (blk_lt f7)
            have f7 := blk_grown f7 hg (Ne.symm n7)
            have n7 := m7
            clear m7
            have m10 : v19.ownBlock ≠ some u11.heap.size := ne_after hat n10 (blk_lt f10)
            have f10 := blk_grown f10 hg (Ne.symm n10)
            have n10 := m10
            clear m10
            have r := ho
            refine hK.out _ _ hb (fun hHeld => ?_)
            clear hK K ho hb hg hat
            exact wpAnyH_listed (by kernel_rfl) (suf _ _ ⟨xd.heap.size, v18, u1.heap.size, v19, u11.heap.size, rfl, hHeld, r, f10⟩)
        · simp only [List.getElem_toArray, List.getElem_cons_succ, List.getElem_cons_zero]
          rw [if_pos (by rfl)]
          go_simp
          obtain ⟨u20, hu⟩ : ∃ u, u = u1.alloc (.cells #[.slice Ab bs.length cb] 22) := ⟨_, rfl⟩
          rw [← hu]
          have hau : Below u1.heap.size u1 u20 := by rw [hu]; exact below_alloc (B0 u1) _
          have n10 : Value.ownBlock (.slice (some ⟨xd.heap.size, 0, none⟩) 0 0) ≠ some u1.heap.size := fun h => absurd (own_lt (Kd.own_of_R r) _ h) (Nat.lt_irrefl _)
          have r := Kd.R_below r hau
          have f10 : u20.heap[u1.heap.size]? = some (.cells #[.slice Ab bs.length cb] 22 (0, 0)) := by rw [hu]; exact blk_new u1 _
          refine hK.out _ _ (hHeld.trans (hau.mono hHeld.size)) (fun hHeld => ?_)
          clear hK K hau hu
          refine wpAnyH_ready (rs := [6, 7]) (by kernel_rfl) (by simp) ?_
          refine AllReadyH.cons rfl (fun K hK => ?_) (AllReadyH.cons rfl (fun K hK => ?_) AllReadyH.nil)
          · simp only [List.getElem_toArray, List.getElem_cons_succ, List.getElem_cons_zero]
            refine step_if (by rfl) (Kd.R_append_rows_step (Kd.int .u8) (w0 := x2) x2.heap.size (by rfl) (.tmp 36) (.tmp 37) 22 5 (.int .u8 0) 1 (by rfl) Tryd.underlying22 info_u8 rfl (by decide) (by decide) (.slice (some ⟨xd.heap.size, 0, none⟩) 0 0) ([]) (key) (Ak) _ ck (fun _ => True) (fun _ => False) (by rfl) (by rfl) r (Kd.C_below HKC.out hHeld) (fun _ _ h => h) (fun _ h => h.elim) (fun _ _ => trivial) hHeld hHeld.size (by have := HKL.out; simp; omega) ?_)
            intro v21 u21 ho hb hg hat
            rw [List.nil_append] at ho
            have m10 : v21.ownBlock ≠ some u1.heap.size := ne_after hat n10 (blk_lt f10)
            have f10 := blk_grown f10 hg (Ne.symm n10)
            have n10 := m10
            clear m10
            have r := ho
            refine hK.out _ _ hb (fun hHeld => ?_)
            clear hK K ho hb hg hat
            refine wpAnyH_ready (rs := [7]) (by kernel_rfl) (by simp) ?_
            refine AllReadyH.cons rfl (fun K hK => ?_) AllReadyH.nil
            simp only [List.getElem_toArray, List.getElem_cons_succ, List.getElem_cons_zero]
            rw [if_pos (by rfl)]
            go_simp
            obtain ⟨u22, hu⟩ : ∃ u, u = u21.alloc (.cells #[.int .u8 0] 5) := ⟨_, rfl⟩
            rw [← hu]
            have hau : Below u21.heap.size u21 u22 := by rw [hu]; exact below_alloc (B0 u21) _
            have n7 : Value.ownBlock (v21) ≠ some u21.heap.size := fun h => absurd (own_lt (Kd.own_of_R r) _ h) (Nat.lt_irrefl _)
            have r := Kd.R_below r hau
            have f10 := blk_alloc f10 (.cells #[.int .u8 0] 5)
            rw [← hu] at f10
            have f7 : u22.heap[u21.heap.size]? = some (.cells (nums .u8 [0]).toArray 5 (0, 0)) := by rw [hu]; exact blk_new u21 _
            refine hK.out _ _ (hHeld.trans (hau.mono hHeld.size)) (fun hHeld => ?_)
            clear hK K hau hu
            refine wpAnyH_ready (rs := [8]) (by kernel_rfl) (by simp) ?_
            refine AllReadyH.cons rfl (fun K hK => ?_) AllReadyH.nil
            simp only [List.getElem_toArray, List.getElem_cons_succ, List.getElem_cons_zero]
            refine step_if (by rfl) (Kd.R_append_rows_step (Kd.int .u8) (w0 := x2) x2.heap.size (by rfl) (.tmp 38) (.tmp 39) 22 5 (.int .u8 0) 1 (by rfl) Tryd.underlying22 info_u8 rfl (by decide) (by decide) (v21) (key) ([0]) (some ⟨u21.heap.size, 0, none⟩) 1 1 (fun _ => True) (fun _ => False) (by rfl) (by rfl) r (bytes_C f7 (by decide)) (fun _ _ h => h) (fun _ h => h.elim) (fun _ _ => trivial) hHeld hHeld.size (by have := HKL.out; omega) ?_)
            intro v23 u23 ho hb hg hat
            have m10 : v23.ownBlock ≠ some u1.heap.size := ne_after hat n10 (blk_lt f10)
            have f10 := blk_grown f10 hg (Ne.symm n10)
            have n10 := m10
            clear m10
            have m7 : v23.ownBlock ≠ some u21.heap.size := ne_after hat n7 (blk_lt f7)
            have f7 := blk_grown f7 hg (Ne.symm n7)
            have n7 := m7
            clear m7
            have r := ho
            refine hK.out _ _ hb (fun hHeld => ?_)
            clear hK K ho hb hg hat
            exact wpAnyH_listed (by kernel_rfl) (suf _ _ ⟨xd.heap.size, v21, u21.heap.size, v23, u1.heap.size, rfl, hHeld, r, f10⟩)
          · simp only [List.getElem_toArray, List.getElem_cons_succ, List.getElem_cons_zero]
            rw [if_pos (by rfl)]
            go_simp
            obtain ⟨u24, hu⟩ : ∃ u, u = u20.alloc (.cells #[.int .u8 0] 5) := ⟨_, rfl⟩
            rw [← hu]
            have hau : Below u20.heap.size u20 u24 := by rw [hu]; exact below_alloc (B0 u20) _
            have n7 : Value.ownBlock (.slice (some ⟨xd.heap.size, 0, none⟩) 0 0) ≠ some u20.heap.size := fun h => absurd (own_lt (Kd.own_of_R r) _ h) (Nat.lt_irrefl _)
            have r := Kd.R_below r hau
            have f10 := blk_alloc f10 (.cells #[.int .u8 0] 5)
            rw [← hu] at f10
            have f7 : u24.heap[u20.heap.size]? = some (.cells (nums .u8 [0]).toArray 5 (0, 0)) := by rw [hu]; exact blk_new u20 _
            refine hK.out _ _ (hHeld.trans (hau.mono hHeld.size)) (fun hHeld => ?_)
            clear hK K hau hu
            refine wpAnyH_ready (rs := [6]) (by kernel_rfl) (by simp) ?_
            refine AllReadyH.cons rfl (fun K hK => ?_) AllReadyH.nil
            simp only [List.getElem_toArray, List.getElem_cons_succ, List.getElem_cons_zero]
            refine step_if (by rfl) (Kd.R_append_rows_step (Kd.int .u8) (w0 := x2) x2.heap.size (by rfl) (.tmp 36) (.tmp 37) 22 5 (.int .u8 0) 1 (by rfl) Tryd.underlying22 info_u8 rfl (by decide) (by decide) (.slice (some ⟨xd.heap.size, 0, none⟩) 0 0) ([]) (key) (Ak) _ ck (fun _ => True) (fun _ => False) (by rfl) (by rfl) r (Kd.C_below HKC.out hHeld) (fun _ _ h => h) (fun _ h => h.elim) (fun _ _ => trivial) hHeld hHeld.size (by have := HKL.out; simp; omega) ?_)
            intro v25 u25 ho hb hg hat
            rw [List.nil_append] at ho
            have m10 : v25.ownBlock ≠ some u1.heap.size := ne_after hat n10 (blk_lt f10)
            have f10 := blk_grown f10 hg (Ne.symm n10)
            have n10 := m10
            clear m10
            have m7 : v25.ownBlock ≠ some u20.heap.size := ne_after hat n7 (blk_lt f7)
            have f7 := blk_grown f7 hg (Ne.symm n7)
            have n7 := m7
            clear m7
            have r := ho
            refine hK.out _ _ hb (fun hHeld => ?_)
            clear hK K ho hb hg hat
            refine wpAnyH_ready (rs := [8]) (by kernel_rfl) (by simp) ?_
            refine AllReadyH.cons rfl (fun K hK => ?_) AllReadyH.nil
            simp only [List.getElem_toArray, List.getElem_cons_succ, List.getElem_cons_zero]
            refine step_if (by rfl) (Kd.R_append_rows_step (Kd.int .u8) (w0 := x2) x2.heap.size (by rfl) (.tmp 38) (.tmp 39) 22 5 (.int .u8 0) 1 (by rfl) Tryd.underlying22 info_u8 rfl (by decide) (by decide) (v25) (key) ([0]) (some ⟨u20.heap.size, 0, none⟩) 1 1 (fun _ => True) (fun _ => False) (by rfl) (by rfl) r (bytes_C f7 (by decide)) (fun _ _ h => h) (fun _ h => h.elim) (fun _ _ => trivial) hHeld hHeld.size (by have := HKL.out; omega) ?_)
            intro v26 u26 ho hb hg hat
            have m10 : v26.ownBlock ≠ some u1.heap.size := ne_after hat n10 (blk_lt f10)
            have f10 := blk_grown f10 hg (Ne.symm n10)
            have n10 := m10
            clear m10
            have m7 : v26.ownBlock ≠ some u20.heap.size := ne_after hat n7 (blk_lt f7)
            have f7 := blk_grown f7 hg (Ne.symm n7)
            have n7 := m7
            clear m7
            have r := ho
            refine hK.out _ _ hb (fun hHeld => ?_)
            clear hK K ho hb hg hat
            exact wpAnyH_listed (by kernel_rfl) (suf _ _ ⟨xd.heap.size, v25, u20.heap.size, v26, u1.heap.size, rfl, hHeld, r, f10⟩)
      · simp only [List.getElem_toArray, List.getElem_cons_succ, List.getElem_cons_zero]
        rw [if_pos (by rfl)]
        go_simp
        obtain ⟨u27, hu⟩ : ∃ u, u = xd.alloc (.cells #[.int .u8 0] 5) := ⟨_, rfl⟩
        rw [← hu]
        have hau : Below xd.heap.size xd u27 := by rw [hu]; exact below_alloc (B0 xd) _
        have f7 : u27.heap[xd.heap.size]? = some (.cells (nums .u8 [0]).toArray 5 (0, 0)) := by rw [hu]; exact blk_new xd _
        refine hK.out _ _ (hHeld.trans (hau.mono hHeld.size)) (fun hHeld => ?_)
        clear hK K hau hu
        refine wpAnyH_ready (rs := [4, 10]) (by kernel_rfl) (by simp) ?_
        refine AllReadyH.cons rfl (fun K hK => ?_) (AllReadyH.cons rfl (fun K hK => ?_) AllReadyH.nil)
        · simp only [List.getElem_toArray, List.getElem_cons_succ, List.getElem_cons_zero]
          rw [if_pos (by rfl)]
          go_simp
          obtain ⟨u28, hu⟩ : ∃ u, u = u27.alloc (.cells #[] 5) := ⟨_, rfl⟩
          rw [← hu]
          have hau : Below u27.heap.size u27 u28 := by rw [hu]; exact below_alloc (B0 u27) _
          have n7 : Value.ownBlock (.slice (some ⟨u27.heap.size, 0, none⟩) 0 0) ≠ some xd.heap.size := by have := blk_lt f7; simp [Value.ownBlock]; omega
          have r := (show Kd.R (Kd.int .u8) 5 u28 x2.heap.size (fun _ => True) (.slice (some ⟨u27.heap.size, 0, none⟩) 0 0) [] from by rw [hu]; exact Kd.R_of_own (enc := Value.int .u8) (h1 := fun _ => rfl) (own_lit u27 x2.heap.size 5 .u8 [] hHeld.size (by decide)) (fun _ _ => trivial))
          have f7 := blk_alloc f7 (.cells #[] 5)
          rw [← hu] at f7
          refine hK.out _ _ (hHeld.trans (hau.mono hHeld.size)) (fun hHeld => ?_)
          clear hK K hau hu
          refine wpAnyH_ready (rs := [6, 10]) (by kernel_rfl) (by simp) ?_
          refine AllReadyH.cons rfl (fun K hK => ?_) (AllReadyH.cons rfl (fun K hK => ?_) AllReadyH.nil)
          · simp only [List.getElem_toArray, List.getElem_cons_succ, List.getElem_cons_zero]
            refine step_if (by rfl) (Kd.R_append_rows_step (Kd.int .u8) (w0 := x2) x2.heap.size (by rfl) (.tmp 36) (.tmp 37) 22 5 (.int .u8 0) 1 (by rfl) Tryd.underlying22 info_u8 rfl (by decide) (by decide) (.slice (some ⟨u27.heap.size, 0, none⟩) 0 0) ([]) (key) (Ak) _ ck (fun _ => True) (fun _ => False) (by rfl) (by rfl) r (Kd.C_below HKC.out hHeld) (fun _ _ h => h) (fun _ h => h.elim) (fun _ _ => trivial) hHeld hHeld.size (by have := HKL.out; simp; omega) ?_)
            intro v29 u29 ho hb hg hat
            rw [List.nil_append] at ho
            have m7 : v29.ownBlock ≠ some xd.heap.size := ne_after hat n7 (blk_lt f7)
            have f7 := blk_grown f7 hg (Ne.symm n7)
            have n7 := m7
            clear m7
            have r := ho
            refine hK.out _ _ hb (fun hHeld => ?_)
            clear hK K ho hb hg hat
            refine wpAnyH_ready (rs := [8, 10]) (by kernel_rfl) (by simp) ?_
            refine AllReadyH.cons rfl (fun K hK => ?_) (AllReadyH.cons rfl (fun K hK => ?_) AllReadyH.nil)
            · simp only [List.getElem_toArray, List.getElem_cons_succ, List.getElem_cons_zero]
              refine step_if (by rfl) (Kd.R_append_rows_step (Kd.int .u8) (w0 := x2) x2.heap.size (by rfl) (.tmp 38) (.tmp 39) 22 5 (.int .u8 0) 1 (by rfl) Tryd.underlying22 info_u8 rfl (by decide) (by decide) (v29) (key) ([0]) (some ⟨xd.heap.size, 0, none⟩) 1 1 (fun _ => True) (fun _ => False) (by rfl) (by rfl) r (bytes_C f7 (by decide)) (fun _ _ h => h) (fun _ h => h.elim) (fun _ _ => trivial) hHeld hHeld.size (by have := HKL.out; omega) ?_)
              intro v30 u30 ho hb hg hat
              have m7 : v30.ownBlock ≠ some xd.heap.size := ne_after hat n7 (blk_lt f7)
              have f7 := blk_grown f7 hg (Ne.symm n7)
              have n7 := m7
              clear m7
              have r := ho
              refine hK.out _ _ hb (fun hHeld => ?_)
              clear hK K ho hb hg hat
              refine wpAnyH_ready (rs := [10]) (by kernel_rfl) (by simp) ?_
              refine AllReadyH.cons rfl (fun K hK => ?_) AllReadyH.nil
              simp only [List.getElem_toArray, List.getElem_cons_succ, List.getElem_cons_zero]
              rw [if_pos (by rfl)]
              go_simp
              obtain ⟨u31, hu⟩ : ∃ u, u = u30.alloc (.cells #[.slice Ab bs.length cb] 22) := ⟨_, rfl⟩
              rw [← hu]
              have hau : Below u30.heap.size u30 u31 := by rw [hu]; exact below_alloc (B0 u30) _
              have n10 : Value.ownBlock (v30) ≠ some u30.heap.size := fun h => absurd (own_lt (Kd.own_of_R r) _ h) (Nat.lt_irrefl _)
              have r := Kd.R_below r hau
              have f7 := blk_alloc f7 (.cells #[.slice Ab bs.length cb] 22)
              rw [← hu] at f7
              have f10 : u31.heap[u30.heap.size]? = some (.cells #[.slice Ab bs.length cb] 22 (0, 0)) := by rw [hu]; exact blk_new u30 _
              refine hK.out _ _ (hHeld.trans (hau.mono hHeld.size)) (fun hHeld => ?_)
              clear hK K hau hu
              exact wpAnyH_listed (by kernel_rfl) (suf _ _ ⟨u27.heap.size, v29, xd.heap.size, v30, u30.heap.size, rfl, hHeld, r, f10⟩)
            · simp only [List.getElem_toArray, List.getElem_cons_succ, List.getElem_cons_zero]
              rw [if_pos (by rfl)]
              go_simp
              obtain ⟨u32, hu⟩ : ∃ u, u = u29.alloc (.cells #[.slice Ab bs.length cb] 22) := ⟨_, rfl⟩
              rw [← hu]
              have hau : Below u29.heap.size u29 u32 := by rw [hu]; exact below_alloc (B0 u29) _
              have n10 : Value.ownBlock (v29) ≠ some u29.heap.size := fun h => absurd (own_lt (Kd.own_of_R r) _ h) (Nat.lt_irrefl _)
              have r := Kd.R_below r hau
              have f7 := blk_alloc f7 (.cells #[.slice Ab bs.length cb] 22)
              rw [← hu] at f7
              have f10 : u32.heap[u29.heap.size]? = some (.cells #[.slice Ab bs.length cb] 22 (0, 0)) := by rw [hu]; exact blk_new u29 _
              refine hK.out _ _ (hHeld.trans (hau.mono hHeld.size)) (fun hHeld => ?_)
              clear hK K hau hu
              refine wpAnyH_ready (rs := [8]) (by kernel_rfl) (by simp) ?_
              refine AllReadyH.cons rfl (fun K hK => ?_) AllReadyH.nil
              simp only [List.getElem_toArray, List.getElem_cons_succ, List.getElem_cons_zero]
              refine step_if (by rfl) (Kd.R_append_rows_step (Kd.int .u8) (w0 := x2) x2.heap.size (by rfl) (.tmp 38) (.tmp 39) 22 5 (.int .u8 0) 1 (by rfl) Tryd.underlying22 info_u8 rfl (by decide) (by decide) (v29) (key) ([0]) (some ⟨xd.heap.size, 0, none⟩) 1 1 (fun _ => True) (fun _ => False) (by rfl) (by rfl) r (bytes_C f7 (by decide)) (fun _ _ h => h) (fun _ h => h.elim) (fun _ _ => trivial) hHeld hHeld.size (by have := HKL.out; omega) ?_)
              intro v33 u33 ho hb hg hat
              have m7 : v33.ownBlock ≠ some xd.heap.size := ne_after hat n7 (blk_lt f7)
              have f7 := blk_grown f7 hg (Ne.symm n7)
              have n7 := m7
              clear m7
              have m10 : v33.ownBlock ≠ some u29.heap.size := ne_after hat n10 (blk_lt f10)
              have f10 := blk_grown f10 hg (Ne.symm n10)
              have n10 := m10
              clear m10
              have r := ho
              refine hK.out _ _ hb (fun hHeld => ?_)
              clear hK K ho hb hg hat
              exact wpAnyH_listed (by kernel_rfl) (suf _ _ ⟨u27.heap.size, v29, xd.heap.size, v33, u29.heap.size, rfl, hHeld, r, f10⟩)
          · simp only [List.getElem_toArray, List.getElem_cons_succ, List.getElem_cons_zero]
            rw [if_pos (by rfl)]
            go_simp
            obtain ⟨u34, hu⟩ : ∃ u, u = u28.alloc (.cells #[.slice Ab bs.length cb] 22) := ⟨_, rfl⟩
            rw [← hu]
            have hau : Below u28.heap.size u28 u34 := by rw [hu]; exact below_alloc (B0 u28) _
            have n10 : Value.ownBlock (.slice (some ⟨u27.heap.size, 0, none⟩) 0 0) ≠ some u28.heap.size := fun h => absurd (own_lt (Kd.own_of_R r) _ h) (Nat.lt_irrefl _)
            have r := Kd.R_below r hau
            have f7 := blk_alloc f7 (.cells #[.slice Ab bs.length cb] 22)
            rw [← hu] at f7
            have f10 : u34.heap[u28.heap.size]? = some (.cells #[.slice Ab bs.length cb] 22 (0, 0)) := by rw [hu]; exact blk_new u28 _
            refine hK.out _ _ (hHeld.trans (hau.mono hHeld.size)) (fun hHeld => ?_)
            clear hK K hau hu
            refine wpAnyH_ready (rs := [6]) (by kernel_rfl) (by simp) ?_
            refine AllReadyH.cons rfl (fun K hK => ?_) AllReadyH.nil
            simp only [List.getElem_toArray, List.getElem_cons_succ, List.getElem_cons_zero]
            refine step_if (by rfl) (Kd.R_append_rows_step (Kd.int .u8) (w0 := x2) x2.heap.size (by rfl) (.tmp 36) (.tmp 37) 22 5 (.int .u8 0) 1 (by rfl) Tryd.underlying22 info_u8 rfl (by decide) (by decide) (.slice (some ⟨u27.heap.size, 0, none⟩) 0 0) ([]) (key) (Ak) _ ck (fun _ => True) (fun _ => False) (by rfl) (by rfl) r (Kd.C_below HKC.out hHeld) (fun _ _ h => h) (fun _ h => h.elim) (fun _ _ => trivial) hHeld hHeld.size (by have := HKL.out; simp; omega) ?_)
            intro v35 u35 ho hb hg hat
            rw [List.nil_append] at ho
            have m7 : v35.ownBlock ≠ some xd.heap.size := ne_after hat n7 (blk_lt f7)
            have f7 := blk_grown f7 hg (Ne.symm n7)
            have n7 := m7
            clear m7
            have m10 : v35.ownBlock ≠ some u28.heap.size := ne_after hat n10 (blk_lt f10)
            have f10 := blk_grown f10 hg (Ne.symm n10)
            have n10 := m10
            clear m10
            have r := ho
            refine hK.out _ _ hb (fun hHeld => ?_)
            clear hK K ho hb hg hat
            refine wpAnyH_ready (rs := [8]) (by kernel_rfl) (by simp) ?_
            refine AllReadyH.cons rfl (fun K hK => ?_) AllReadyH.nil
            simp only [List.getElem_toArray, List.getElem_cons_succ, List.getElem_cons_zero]
            refine step_if (by rfl) (Kd.R_append_rows_step (Kd.int .u8) (w0 := x2) x2.heap.size (by rfl) (.tmp 38) (.tmp 39) 22 5 (.int .u8 0) 1 (by rfl) Tryd.underlying22 info_u8 rfl (by decide) (by decide) (v35) (key) ([0]) (some ⟨xd.heap.size, 0, none⟩) 1 1 (fun _ => True) (fun _ => False) (by rfl) (by rfl) r (bytes_C f7 (by decide)) (fun _ _ h => h) (fun _ h => h.elim) (fun _ _ => trivial) hHeld hHeld.size (by have := HKL.out; omega) ?_)
            intro v36 u36 ho hb hg hat
            have m7 : v36.ownBlock ≠ some xd.heap.size := ne_after hat n7 (blk_lt f7)
            have f7 := blk_grown f7 hg (Ne.symm n7)
            have n7 := m7
            clear m7
            have m10 : v36.ownBlock ≠ some u28.heap.size := ne_after hat n10 (blk_lt f10)
            have f10 := blk_grown f10 hg (Ne.symm n10)
            have n10 := m10
            clear m10
            have r := ho
            refine hK.out _ _ hb (fun hHeld => ?_)
            clear hK K ho hb hg hat
            exact wpAnyH_listed (by kernel_rfl) (suf _ _ ⟨u27.heap.size, v35, xd.heap.size, v36, u28.heap.size, rfl, hHeld, r, f10⟩)
        · simp only [List.getElem_toArray, List.getElem_cons_succ, List.getElem_cons_zero]
          rw [if_pos (by rfl)]
          go_simp
          obtain ⟨u37, hu⟩ : ∃ u, u = u27.alloc (.cells #[.slice Ab bs.length cb] 22) := ⟨_, rfl⟩
          rw [← hu]
          have hau : Below u27.heap.size u27 u37 := by rw [hu]; exact below_alloc (B0 u27) _
          have f7 := blk_alloc f7 (.cells #[.slice Ab bs.length cb] 22)
          rw [← hu] at f7
          have f10 : u37.heap[u27.heap.size]? = some (.cells #[.slice Ab bs.length cb] 22 (0, 0)) := by rw [hu]; exact blk_new u27 _
          refine hK.out _ _ (hHeld.trans (hau.mono hHeld.size)) (fun hHeld => ?_)
          clear hK K hau hu
          refine wpAnyH_ready (rs := [4]) (by kernel_rfl) (by simp) ?_
          refine AllReadyH.cons rfl (fun K hK => ?_) AllReadyH.nil
          simp only [List.getElem_toArray, List.getElem_cons_succ, List.getElem_cons_zero]
          rw [if_pos (by rfl)]
          go_simp
          obtain ⟨u38, hu⟩ : ∃ u, u = u37.alloc (.cells #[] 5) := ⟨_, rfl⟩
          rw [← hu]
          have hau : Below u37.heap.size u37 u38 := by rw [hu]; exact below_alloc (B0 u37) _
          have n7 : Value.ownBlock (.slice (some ⟨u37.heap.size, 0, none⟩) 0 0) ≠ some xd.heap.size := by have := blk_lt f7; simp [Value.ownBlock]; omega
          have n10 : Value.ownBlock (.slice (some ⟨u37.heap.size, 0, none⟩) 0 0) ≠ some u27.heap.size := by have := blk_lt f10; simp [Value.ownBlock]; omega
          have r := (show Kd.R (Kd.int .u8) 5 u38 x2.heap.size (fun _ => True) (.slice (some ⟨u37.heap.size, 0, none⟩) 0 0) [] from by rw [hu]; exact Kd.R_of_own (enc := Value.int .u8) (h1 := fun _ => rfl) (own_lit u37 x2.heap.size 5 .u8 [] hHeld.size (by decide)) (fun _ _ => trivial))
          have f7 := blk_alloc f7 (.cells #[] 5)
          rw [← hu] at f7
          have f10 := blk_alloc f10 (.cells #[] 5)
          rw [← hu] at f10
          refine hK.out _ _ (hHeld.trans (hau.mono hHeld.size)) (fun hHeld => ?_)
          clear hK K hau hu
          refine wpAnyH_ready (rs := [6]) (by kernel_rfl) (by simp) ?_
          refine AllReadyH.cons rfl (fun K hK => ?_) AllReadyH.nil
          simp only [List.getElem_toArray, List.getElem_cons_succ, List.getElem_cons_zero]
          refine step_if (by rfl) (Kd.R_append_rows_step (Kd.int .u8) (w0 := x2) x2.heap.size (by rfl) (.tmp 36) (.tmp 37) 22 5 (.int .u8 0) 1 (by rfl) Tryd.underlying22 info_u8 rfl (by decide) (by decide) (.slice (some ⟨u37.heap.size, 0, none⟩) 0 0) ([]) (key) (Ak) _ ck (fun _ => True) (fun _ => False) (by rfl) (by rfl) r (Kd.C_below HKC.out hHeld) (fun _ _ h => h) (fun _ h => h.elim) (fun _ _ => trivial) hHeld hHeld.size (by have := HKL.out; simp; omega) ?_)
          intro v39 u39 ho hb hg hat
          rw [List.nil_append] at ho
          have m7 : v39.ownBlock ≠ some xd.heap.size := ne_after hat n7 (blk_lt f7)
          have f7 := blk_grown f7 hg (Ne.symm n7)
          have n7 := m7
          clear m7
          have m10 : v39.ownBlock ≠ some u27.heap.size := ne_after hat n10 (blk_lt f10)
          have f10 := blk_grown f10 hg (Ne.symm n10)
          have n10 := m10
          clear m10
          have r := ho
          refine hK.out _ _ hb (fun hHeld => ?_)
          clear hK K ho hb hg hat
          refine wpAnyH_ready (rs := [8]) (by kernel_rfl) (by simp) ?_
          refine AllReadyH.cons rfl (fun K hK => ?_) AllReadyH.nil
          simp only [List.getElem_toArray, List.getElem_cons_succ, List.getElem_cons_zero]
          refine step_if (by rfl) (Kd.R_append_rows_step (Kd.int .u8) (w0 := x2) x2.heap.size (by rfl) (.tmp 38) (.tmp 39) 22 5 (.int .u8 0) 1 (by rfl) Tryd.underlying22 info_u8 rfl (by decide) (by decide) (v39) (key) ([0]) (some ⟨xd.heap.size, 0, none⟩) 1 1 (fun _ => True) (fun _ => False) (by rfl) (by rfl) r (bytes_C f7 (by decide)) (fun _ _ h => h) (fun _ h => h.elim) (fun _ _ => trivial) hHeld hHeld.size (by have := HKL.out; omega) ?_)
          intro v40 u40 ho hb hg hat
          have m7 : v40.ownBlock ≠ some xd.heap.size := ne_after hat n7 (blk_lt f7)
          have f7 := blk_grown f7 hg (Ne.symm n7)
          have n7 := m7
          clear m7
          have m10 : v40.ownBlock ≠ some u27.heap.size := ne_after hat n10 (blk_lt f10)
          have f10 := blk_grown f10 hg (Ne.symm n10)
          have n10 := m10
          clear m10
          have r := ho
          refine hK.out _ _ hb (fun hHeld => ?_)
          clear hK K ho hb hg hat
          exact wpAnyH_listed (by kernel_rfl) (suf _ _ ⟨u37.heap.size, v39, xd.heap.size, v40, u27.heap.size, rfl, hHeld, r, f10⟩)
      · simp only [List.getElem_toArray, List.getElem_cons_succ, List.getElem_cons_zero]
        rw [if_pos (by rfl)]
        go_simp
        obtain ⟨u41, hu⟩ : ∃ u, u = xd.alloc (.cells #[.slice Ab bs.length cb] 22) := ⟨_, rfl⟩
        rw [← hu]
        have hau : Below xd.heap.size xd u41 := by rw [hu]; exact below_alloc (B0 xd) _
        have f10 : u41.heap[xd.heap.size]? = some (.cells #[.slice Ab bs.length cb] 22 (0, 0)) := by rw [hu]; exact blk_new xd _
        refine hK.out _ _ (hHeld.trans (hau.mono hHeld.size)) (fun hHeld => ?_)
        clear hK K hau hu
        refine wpAnyH_ready (rs := [4, 7]) (by kernel_rfl) (by simp) ?_
        refine AllReadyH.cons rfl (fun K hK => ?_) (AllReadyH.cons rfl (fun K hK => ?_) AllReadyH.nil)
        · simp only [List.getElem_toArray, List.getElem_cons_succ, List.getElem_cons_zero]
          rw [if_pos (by rfl)]
          go_simp
          obtain ⟨u42, hu⟩ : ∃ u, u = u41.alloc (.cells #[] 5) := ⟨_, rfl⟩
          rw [← hu]
          have hau : Below u41.heap.size u41 u42 := by rw [hu]; exact below_alloc (B0 u41) _
          have n10 : Value.ownBlock (.slice (some ⟨u41.heap.size, 0, none⟩) 0 0) ≠ some xd.heap.size := by have := blk_lt f10; simp [Value.ownBlock]; omega
          have r := (show Kd.R (Kd.int .u8) 5 u42 x2.heap.size (fun _ => True) (.slice (some ⟨u41.heap.size, 0, none⟩) 0 0) [] from by rw [hu]; exact Kd.R_of_own (enc := Value.int .u8) (h1 := fun _ => rfl) (own_lit u41 x2.heap.size 5 .u8 [] hHeld.size (by decide)) (fun _ _ => trivial))
          have f10 := blk_alloc f10 (.cells #[] 5)
          rw [← hu] at f10
          refine hK.out _ _ (hHeld.trans (hau.mono hHeld.size)) (fun hHeld => ?_)
          clear hK K hau hu
          refine wpAnyH_ready (rs := [6, 7]) (by kernel_rfl) (by simp) ?_
          refine AllReadyH.cons rfl (fun K hK => ?_) (AllReadyH.cons rfl (fun K hK => ?_) AllReadyH.nil)
          · simp only [List.getElem_toArray, List.getElem_cons_succ, List.getElem_cons_zero]
            refine step_if (by rfl) (Kd.R_append_rows_step (Kd.int .u8) (w0 := x2) x2.heap.size (by rfl) (.tmp 36) (.tmp 37) 22 5 (.int .u8 0) 1 (by rfl) Tryd.underlying22 info_u8 rfl (by decide) (by decide) (.slice (some ⟨u41.heap.size, 0, none⟩) 0 0) ([]) (key) (Ak) _ ck (fun _ => True) (fun _ => False) (by rfl) (by rfl) r (Kd.C_below HKC.out hHeld) (fun _ _ h => h) (fun _ h => h.elim) (fun _ _ => trivial) hHeld hHeld.size (by have := HKL.out; simp; omega) ?_)
            intro v43 u43 ho hb hg hat
            rw [List.nil_append] at ho
            have m10 : v43.ownBlock ≠ some xd.heap.size := ne_after hat n10 (blk_lt f10)
            have f10 := blk_grown f10 hg (Ne.symm n10)
            have n10 := m10
            clear m10
            have r := ho
            refine hK.out _ _ hb (fun hHeld => ?_)
            clear hK K ho hb hg hat
            refine wpAnyH_ready (rs := [7]) (by kernel_rfl) (by simp) ?_
            refine AllReadyH.cons rfl (fun K hK => ?_) AllReadyH.nil
            simp only [List.getElem_toArray, List.getElem_cons_succ, List.getElem_cons_zero]
            rw [if_pos (by rfl)]
            go_simp
            obtain ⟨u44, hu⟩ : ∃ u, u = u43.alloc (.cells #[.int .u8 0] 5) := ⟨_, rfl⟩
            rw [← hu]
            have hau : Below u43.heap.size u43 u44 := by rw [hu]; exact below_alloc (B0 u43) _
            have n7 : Value.ownBlock (v43) ≠ some u43.heap.size := fun h => absurd (own_lt (Kd.own_of_R r) _ h) (Nat.lt_irrefl _)
            have r := Kd.R_below r hau
            have f10 := blk_alloc f10 (.cells #[.int .u8 0] 5)
            rw [← hu] at f10
            have f7 : u44.heap[u43.heap.size]? = some (.cells (nums .u8 [0]).toArray 5 (0, 0)) := by rw [hu]; exact blk_new u43 _
            refine hK.out _ _ (hHeld.trans (hau.mono hHeld.size)) (fun hHeld => ?_)
            clear hK K hau hu
            refine wpAnyH_ready (rs := [8]) (by kernel_rfl) (by simp) ?_
            refine AllReadyH.cons rfl (fun K hK => ?_) AllReadyH.nil
            simp only [List.getElem_toArray, List.getElem_cons_succ, List.getElem_cons_zero]
            refine step_if (by rfl) (Kd.R_append_rows_step (Kd.int .u8) (w0 := x2) x2.heap.size (by rfl) (.tmp 38) (.tmp 39) 22 5 (.int .u8 0) 1 (by rfl) Tryd.underlying22 info_u8 rfl (by decide) (by decide) (v43) (key) ([0]) (some ⟨u43.heap.size, 0, none⟩) 1 1 (fun _ => True) (fun _ => False) (by rfl) (by rfl) r (bytes_C f7 (by decide)) (fun _ _ h => h) (fun _ h => h.elim) (fun _ _ => trivial) hHeld hHeld.size (by have := HKL.out; omega) ?_)
            intro v45 u45 ho hb hg hat
            have m10 : v45.ownBlock ≠ some xd.heap.size := ne_after hat n10 (blk_lt f10)
            have f10 := blk_grown f10 hg (Ne.symm n10)
            have n10 := m10
            clear m10
            have m7 : v45.ownBlock ≠ some u43.heap.size := ne_after hat n7 (blk_lt f7)
            have f7 := blk_grown f7 hg (Ne.symm n7)
            have n7 := m7
            clear m7
            have r := ho
            refine hK.out _ _ hb (fun hHeld => ?_)
            clear hK K ho hb hg hat
            exact wpAnyH_listed (by kernel_rfl) (suf _ _ ⟨u41.heap.size, v43, u43.heap.size, v45, xd.heap.size, rfl, hHeld, r, f10⟩)
          · simp only [List.getElem_toArray, List.getElem_cons_succ, List.getElem_cons_zero]
            rw [if_pos (by rfl)]
            go_simp
            obtain ⟨u46, hu⟩ : ∃ u, u = u42.alloc (.cells #[.int .u8 0] 5) := ⟨_, rfl⟩
            rw [← hu]
            have hau : Below u42.heap.size u42 u46 := by rw [hu]; exact below_alloc (B0 u42) _
            have n7 : Value.ownBlock (.slice (some ⟨u41.heap.size, 0, none⟩) 0 0) ≠ some u42.heap.size := fun h => absurd (own_lt (Kd.own_of_R r) _ h) (Nat.lt_irrefl _)
            have r := Kd.R_below r hau
            have f10 := blk_alloc f10 (.cells #[.int .u8 0] 5)
            rw [← hu] at f10
            have f7 : u46.heap[u42.heap.size]? = some (.cells (nums .u8 [0]).toArray 5 (0, 0)) := by rw [hu]; exact blk_new u42 _
            refine hK.out _ _ (hHeld.trans (hau.mono hHeld.size)) (fun hHeld => ?_)
            clear hK K hau hu
            refine wpAnyH_ready (rs := [6]) (by kernel_rfl) (by simp) ?_
            refine AllReadyH.cons rfl (fun K hK => ?_) AllReadyH.nil
            simp only [List.getElem_toArray, List.getElem_cons_succ, List.getElem_cons_zero]
            refine step_if (by rfl) (Kd.R_append_rows_step (Kd.int .u8) (w0 := x2) x2.heap.size (by rfl) (.tmp 36) (.tmp 37) 22 5 (.int .u8 0) 1 (by rfl) Tryd.underlying22 info_u8 rfl (by decide) (by decide) (.slice (some ⟨u41.heap.size, 0, none⟩) 0 0) ([]) (key) (Ak) _ ck (fun _ => True) (fun _ => False) (by rfl) (by rfl) r (Kd.C_below HKC.out hHeld) (fun _ _ h => h) (fun _ h => h.elim) (fun _ _ => trivial) hHeld hHeld.size (by have := HKL.out; simp; omega) ?_)
            intro v47 u47 ho hb hg hat
            rw [List.nil_append] at ho
            have m10 : v47.ownBlock ≠ some xd.heap.size := ne_after hat n10 (blk_lt f10)
            have f10 := blk_grown f10 hg (Ne.symm n10)
            have n10 := m10
            clear m10
            have m7 : v47.ownBlock ≠ some u42.heap.size := ne_after hat n7 (blk_lt f7)
            have f7 := blk_grown f7 hg (Ne.symm n7)
            have n7 := m7
            clear m7
            have r := ho
            refine hK.out _ _ hb (fun hHeld => ?_)
            clear hK K ho hb hg hat
            refine wpAnyH_ready (rs := [8]) (by kernel_rfl) (by simp) ?_
            refine AllReadyH.cons rfl (fun K hK => ?_) AllReadyH.nil
            simp only [List.getElem_toArray, List.getElem_cons_succ, List.getElem_cons_zero]
            refine step_if (by rfl) (Kd.R_append_rows_step (Kd.int .u8) (w0 := x2) x2.heap.size (by rfl) (.tmp 38) (.tmp 39) 22 5 (.int .u8 0) 1 (by rfl) Tryd.underlying22 info_u8 rfl (by decide) (by decide) (v47) (key) ([0]) (some ⟨u42.heap.size, 0, none⟩) 1 1 (fun _ => True) (fun _ => False) (by rfl) (by rfl) r (bytes_C f7 (by decide)) (fun _ _ h => h) (fun _ h => h.elim) (fun _ _ => trivial) hHeld hHeld.size (by have := HKL.out; omega) ?_)
            intro v48 u48 ho hb hg hat
            have m10 : v48.ownBlock ≠ some xd.heap.size := ne_after hat n10 (blk_lt f10)
            have f10 := blk_grown f10 hg (Ne.symm n10)
            have n10 := m10
            clear m10
            have m7 : v48.ownBlock ≠ some u42.heap.size := ne_after hat n7 (blk_lt f7)
            have f7 := blk_grown f7 hg (Ne.symm n7)
            have n7 := m7
            clear m7
            have r := ho
            refine hK.out _ _ hb (fun hHeld => ?_)
            clear hK K ho hb hg hat
            exact wpAnyH_listed (by kernel_rfl) (suf _ _ ⟨u41.heap.size, v47, u42.heap.size, v48, xd.heap.size, rfl, hHeld, r, f10⟩)
        · simp only [List.getElem_toArray, List.getElem_cons_succ, List.getElem_cons_zero]
          rw [if_pos (by rfl)]
          go_simp
          obtain ⟨u49, hu⟩ : ∃ u, u = u41.alloc (.cells #[.int .u8 0] 5) := ⟨_, rfl⟩
          rw [← hu]
          have hau : Below u41.heap.size u41 u49 := by rw [hu]; exact below_alloc (B0 u41) _
          have f10 := blk_alloc f10 (.cells #[.int .u8 0] 5)
          rw [← hu] at f10
          have f7 : u49.heap[u41.heap.size]? = some (.cells (nums .u8 [0]).toArray 5 (0, 0)) := by rw [hu]; exact blk_new u41 _
          refine hK.out _ _ (hHeld.trans (hau.mono hHeld.size)) (fun hHeld => ?_)
          clear hK K hau hu
          refine wpAnyH_ready (rs := [4]) (by kernel_rfl) (by simp) ?_
          refine AllReadyH.cons rfl (fun K hK => ?_) AllReadyH.nil
          simp only [List.getElem_toArray, List.getElem_cons_succ, List.getElem_cons_zero]
          rw [if_pos (by rfl)]
          go_simp
          obtain ⟨u50, hu⟩ : ∃ u, u = u49.alloc (.cells #[] 5) := ⟨_, rfl⟩
          rw [← hu]
          have hau : Below u49.heap.size u49 u50 := by rw [hu]; exact below_alloc (B0 u49) _
          have n10 : Value.ownBlock (.slice (some ⟨u49.heap.size, 0, none⟩) 0 0) ≠ some xd.heap.size := by have := blk_lt f10; simp [Value.ownBlock]; omega
          have n7 : Value.ownBlock (.slice (some ⟨u49.heap.size, 0, none⟩) 0 0) ≠ some u41.heap.size := by have := blk_lt f7; simp [Value.ownBlock]; omega
          have r := (show Kd.R (Kd.int .u8) 5 u50 x2.heap.size (fun _ => True) (.slice (some ⟨u49.heap.size, 0, none⟩) 0 0) [] from by rw [hu]; exact Kd.R_of_own (enc := Value.int .u8) (h1 := fun _ => rfl) (own_lit u49 x2.heap.size 5 .u8 [] hHeld.size (by decide)) (fun _ _ => trivial))
          have f10 := blk_alloc f10 (.cells #[] 5)
          rw [← hu] at f10
          have f7 := blk_alloc f7 (.cells #[] 5)
          rw [← hu] at f7
          refine hK.out _ _ (hHeld.trans (hau.mono hHeld.size)) (fun hHeld => ?_)
          clear hK K hau hu
          refine wpAnyH_ready (rs := [6]) (by kernel_rfl) (by simp) ?_
          refine AllReadyH.cons rfl (fun K hK => ?_) AllReadyH.nil
          simp only [List.getElem_toArray, List.getElem_cons_succ, List.getElem_cons_zero]
          refine step_if (by rfl) (Kd.R_append_rows_step (Kd.int .u8) (w0 := x2) x2.heap.size (by rfl) (.tmp 36) (.tmp 37) 22 5 (.int .u8 0) 1 (by rfl) Tryd.underlying22 info_u8 rfl (by decide) (by decide) (.slice (some ⟨u49.heap.size, 0, none⟩) 0 0) ([]) (key) (Ak) _ ck (fun _ => True) (fun _ => False) (by rfl) (by rfl) r (Kd.C_below HKC.out hHeld) (fun _ _ h => h) (fun _ h => h.elim) (fun _ _ => trivial) hHeld hHeld.size (by have := HKL.out; simp; omega) ?_)
          intro v51 u51 ho hb hg hat
          rw [List.nil_append] at ho
          have m10 : v51.ownBlock ≠ some xd.heap.size := ne_after hat n10 (blk_lt f10)
          have f10 := blk_grown f10 hg (Ne.symm n10)
          have n10 := m10
          clear m10
          have m7 : v51.ownBlock ≠ some u41.heap.size := ne_after hat n7 (blk_lt f7)
          have f7 := blk_grown f7 hg (Ne.symm n7)
          have n7 := m7
          clear m7
          have r := ho
          refine hK.out _ _ hb (fun hHeld => ?_)
          clear hK K ho hb hg hat
          refine wpAnyH_ready (rs := [8]) (by kernel_rfl) (by simp) ?_
          refine AllReadyH.cons rfl (fun K hK => ?_) AllReadyH.nil
          simp only [List.getElem_toArray, List.getElem_cons_succ, List.getElem_cons_zero]
          refine step_if (by rfl) (Kd.R_append_rows_step (Kd.int .u8) (w0 := x2) x2.heap.size (by rfl) (.tmp 38) (.tmp 39) 22 5 (.int .u8 0) 1 (by rfl) Tryd.underlying22 info_u8 rfl (by decide) (by decide) (v51) (key) ([0]) (some ⟨u41.heap.size, 0, none⟩) 1 1 (fun _ => True) (fun _ => False) (by rfl) (by rfl) r (bytes_C f7 (by decide)) (fun _ _ h => h) (fun _ h => h.elim) (fun _ _ => trivial) hHeld hHeld.size (by have := HKL.out; omega) ?_)
          intro v52 u52 ho hb hg hat
          have m10 : v52.ownBlock ≠ some xd.heap.size := ne_after hat n10 (blk_lt f10)
          have f10 := blk_grown f10 hg (Ne.symm n10)
          have n10 := m10
          clear m10
          have m7 : v52.ownBlock ≠ some u41.heap.size := ne_after hat n7 (blk_lt f7)
          have f7 := blk_grown f7 hg (Ne.symm n7)
          have n7 := m7
          clear m7
          have r := ho
          refine hK.out _ _ hb (fun hHeld => ?_)
          clear hK K ho hb hg hat
          exact wpAnyH_listed (by kernel_rfl) (suf _ _ ⟨u49.heap.size, v51, u41.heap.size, v52, xd.heap.size, rfl, hHeld, r, f10⟩)
    case suf =>
      rintro a w' ⟨g4, v6, g7, v8, g10, rfl, hHeld, r, f10⟩
      subst ha1
      simp only [Act.put, List.setIfInBounds_toArray, List.set_cons_zero, List.set_cons_succ]
      refine wpAnyH_ready (rs := [11]) (by kernel_rfl) (by simp) ?_
      refine AllReadyH.cons rfl (fun K hK => ?_) AllReadyH.nil
      simp only [List.getElem_toArray, List.getElem_cons_succ, List.getElem_cons_zero]
      rw [if_pos (by rfl)]
      go_simp
      have hkb : KB.C w' (some ⟨g10, 0, none⟩) 1 [bs] := by
        obtain ⟨A', c', e', hc', hC'⟩ := HBS.out.below (below_step HBX.out hHeld)
        injection e' with e1' _ e3'
        subst e1' e3'
        exact KB_one (c0 := cb) (blk_cell f10 0) hc' hC'
      refine (mac_any _ v8 (key ++ [0]) (Bs.bv (Bs.of_R r)) (fun x hx => (List.mem_append.1 hx).elim (HKB.out.1 x) (fun h => by rw [List.mem_singleton.1 h]; omega)) (by rw [List.length_append]; have := HKL.out; simp; omega) _ 1 [bs] hkb (show 1 ≤ 1 by decide) (by rw [cat_one]; exact HBB.out.1) (by rw [cat_one]; have := HBB.out.2; omega) (show 1 ≤ 4294960000 by decide) (glob_below HG.out HG.out.1 (below_step HBX.out hHeld))).mono ?_
      rintro e y1 ⟨rfl, hbb⟩
      rw [cat_one, mac_zero_more _ _ HKL.out, ← HM.out]
      clear hkb f10 r
      refine hK.out _ _ (hHeld.trans (hbb.mono hHeld.size)) (fun hHeld => ?_)
      clear hK K
      refine wpAnyH_take (i := 13) (v := .bool true) rfl (by kernel_rfl) (by kernel_rfl) (by kernel_rfl) (fun _ _ _ h => h) (Or.inl ⟨by rfl, ?hy13⟩) hHeld ?_
      case hy13 => intro w' hSw; go_simp
      simp only [List.getElem_toArray, List.getElem_cons_succ, List.getElem_cons_zero, Act.put, List.setIfInBounds_toArray, List.set_cons_zero, List.set_cons_succ]
      refine wpAnyH_take (i := 14) (v := .bool true) rfl (by kernel_rfl) (by kernel_rfl) (by kernel_rfl) (fun _ _ _ h => h) (Or.inl ⟨by rfl, ?hy14⟩) hHeld ?_
      case hy14 => intro w' hSw; go_simp
      simp only [List.getElem_toArray, List.getElem_cons_succ, List.getElem_cons_zero, Act.put, List.setIfInBounds_toArray, List.set_cons_zero, List.set_cons_succ]
      refine wpAnyH_take (i := 15) (v := .bool true) rfl (by kernel_rfl) (by kernel_rfl) (by kernel_rfl) (fun _ _ _ h => h) (Or.inl ⟨by rfl, ?hy15⟩) hHeld ?_
      case hy15 => intro w' hSw; go_simp
      simp only [List.getElem_toArray, List.getElem_cons_succ, List.getElem_cons_zero, Act.put, List.setIfInBounds_toArray, List.set_cons_zero, List.set_cons_succ]
      refine wpAnyH_done (by kernel_rfl) ?_ _
      have HBF := Aside0.mk (below_step HBX.out hHeld)
      clear hHeld
      go_wp2
      go_ret
      exact ⟨rfl, HBF.out⟩

theorem row_keys (seed n : Int) (v1 : Value) (a1 : List Int) (W : World)
    (w0 : (Lit.int .u64 seed).wf = true) (w1 : (Lit.int .u8 n).wf = true)
    {base : Nat} (hv1 : Value.okWide Tryd.prog W .any base 22 v1) (k1 : (Kd.slice 5 (Kd.int .u8)).K W a1 v1.cells.toList) (ok1 : (∀ b ∈ a1, (Lit.int .u8 b).wf = true) ∧ a1.length ≤ maxLen) (hG : Glob W) :
    Calls Tryd.prog 6 #[.int .u64 seed, .int .u8 n, v1] W fun e w' => e = .returned (.bool true) ∧ Below W.heap.size W w' := by
  obtain ⟨B, d, rfl, hB⟩ := bytes_of hv1 k1
  by_cases hf : 300 < a1.length
  · exact far_walk W B a1.length d seed n hf hG
  · exact near_walk W B d a1 hB (fun x hx => wf_u8 (ok1.1 x hx)) (by omega) seed n (wf_u8 w1) hG

end Go.Proofs.YthhckkfdcnddfaaDoor.HMacL4
