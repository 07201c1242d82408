/- The law MacDerives. -/
import Derived.Test.YthhckkfdcnddfaaDoorHMacL2
import Derived.Test.YthhckkfdcnddfaaDoorHMacF
namespace Go.Proofs.YthhckkfdcnddfaaDoor.HMacL5
open Go.RowKit Go.Proofs.YthhckkfdcnddfaaDoorW.PrintWords Go.Proofs.YthhckkfdcnddfaaDoor.HLib Go.Proofs.YthhckkfdcnddfaaDoor.HSha Go.Proofs.YthhckkfdcnddfaaDoor.HShaS Go.Proofs.YthhckkfdcnddfaaDoor.HShaU Go.Proofs.YthhckkfdcnddfaaDoor.HShaV Go.Proofs.YthhckkfdcnddfaaDoor.HShaW Go.Proofs.YthhckkfdcnddfaaDoor.HShaB Go.Proofs.YthhckkfdcnddfaaDoor.HShaX Go.Proofs.YthhckkfdcnddfaaDoor.HMac Go.Proofs.YthhckkfdcnddfaaDoor.HMacC Go.Proofs.YthhckkfdcnddfaaDoor.HMacS Go.Proofs.YthhckkfdcnddfaaDoor.HMacR Go.Proofs.YthhckkfdcnddfaaDoor.HMacQ Go.Proofs.YthhckkfdcnddfaaDoor.HMacK Go.Proofs.YthhckkfdcnddfaaDoor.HMacD Go.Proofs.YthhckkfdcnddfaaDoor.HMacF Go.Proofs.YthhckkfdcnddfaaDoor.HMacL1
open Go.Proofs.YthhckkfdcnddfaaDoor.HMacA (awake_any)
set_option linter.unusedVariables false
set_option linter.unusedSimpArgs false

theorem dall_take (key lab : List Int) : ∀ (R j : Nat), j ≤ R → (dall key lab R).take (32 * j) = dall key lab j := by
  intro R
  induction R with
  | zero => intro j hj; obtain rfl : j = 0 := by omega
            rfl
  | succ R ih =>
    intro j hj
    by_cases h : j = R + 1
    · subst h
      rw [List.take_of_length_le (by rw [dall_len]; exact Nat.le_refl _)]
    · rw [dall, List.take_append_of_le_length (by rw [dall_len]; omega)]
      exact ih j (by omega)
theorem derP_take (key lab : List Int) (n : Int) (k : Nat) (hn : n ≤ 8160) (hk : k ≤ (derP key lab n).length) : derP key lab (k : Int) = (derP key lab n).take k := by
  by_cases h0 : 0 ≤ n
  · have hl : (derP key lab n).length = n.toNat := derP_len key lab n ⟨h0, hn⟩
    rw [hl] at hk
    unfold derP
    rw [if_pos ⟨by omega, by omega⟩, if_pos ⟨h0, hn⟩, List.take_take, show ((k : Nat) : Int).toNat = k from by omega, Nat.min_eq_left hk, ← dall_take key lab ((n.toNat + 31) / 32) ((k + 31) / 32) (by omega), List.take_take, Nat.min_eq_left (by omega)]
  · have hz : derP key lab n = [] := by unfold derP; rw [if_neg (by omega)]
    rw [hz] at hk ⊢
    obtain rfl : k = 0 := by simpa using hk
    rfl

set_option maxHeartbeats 4000000 in
theorem far_walk (w : World) (A : Option Addr) (m c : Nat) (label : ByteArray) (n less : Int) (h : 200 < m ∨ 100 < label.size ∨ 500 < n) (hG : Glob w) :
    Calls Tryd.prog 7 #[.slice A m c, .string label, .int .i64 n, .int .u8 less] w fun e w' => e = .returned (.bool true) ∧ Below w.heap.size w w' := by
  have HG := Aside0.mk hG
  clear hG
  by_cases c1 : 200 < m
  · have d1 : decide (200 < m) = true := decide_eq_true c1
    have d2 : decide ((200 : Int) < (m : Int)) = true := decide_eq_true (by omega)
    clear h c1
    go_enter Tryd.func7, Tryd.ntmps7
    go_wp2_with fail
    refine (awake_any w HG.out).mono ?_
    rintro e w1 ⟨rfl, hb1⟩
    have HB1 := Aside0.mk hb1
    clear hb1
    go_wp2_with fail
    refine (awake_any w1 (glob_below HG.out HG.out.1 HB1.out)).mono ?_
    rintro e w2 ⟨rfl, hb2⟩
    have HB2 := Aside0.mk (below_step HB1.out hb2)
    clear hb2
    go_wp2
    go_ret
    exact ⟨rfl, HB2.out⟩
  · have d1 : decide (200 < m) = false := decide_eq_false c1
    have d2 : decide ((200 : Int) < (m : Int)) = false := decide_eq_false (by omega)
    by_cases c2 : 100 < label.size
    · have d3 : decide (100 < label.size) = true := decide_eq_true c2
      have d4 : decide ((100 : Int) < (label.size : Int)) = true := decide_eq_true (by omega)
      clear h c1 c2
      go_enter Tryd.func7, Tryd.ntmps7
      go_wp2_with fail
      refine (awake_any w HG.out).mono ?_
      rintro e w1 ⟨rfl, hb1⟩
      have HB1 := Aside0.mk hb1
      clear hb1
      go_wp2_with fail
      refine (awake_any w1 (glob_below HG.out HG.out.1 HB1.out)).mono ?_
      rintro e w2 ⟨rfl, hb2⟩
      have HB2 := Aside0.mk (below_step HB1.out hb2)
      clear hb2
      go_wp2
      go_ret
      exact ⟨rfl, HB2.out⟩
    · have d3 : decide (100 < label.size) = false := decide_eq_false c2
      have d4 : decide ((100 : Int) < (label.size : Int)) = false := decide_eq_false (by omega)
      have d5 : decide (500 < n) = true := decide_eq_true (by omega)
      clear h c1 c2
      go_enter Tryd.func7, Tryd.ntmps7
      go_wp2_with fail
      refine (awake_any w HG.out).mono ?_
      rintro e w1 ⟨rfl, hb1⟩
      have HB1 := Aside0.mk hb1
      clear hb1
      go_wp2_with fail
      refine (awake_any w1 (glob_below HG.out HG.out.1 HB1.out)).mono ?_
      rintro e w2 ⟨rfl, hb2⟩
      have HB2 := Aside0.mk (below_step HB1.out hb2)
      clear hb2
      go_wp2
      go_ret
      exact ⟨rfl, HB2.out⟩

set_option maxHeartbeats 8000000 in
theorem near_walk (w : World) (Ak : Option Addr) (ck : Nat) (key : List Int) (hK : Bv w (.slice Ak key.length ck) key) (hkb : ∀ x ∈ key, 0 ≤ x ∧ x < 256) (hk : key.length ≤ 200) (label : ByteArray) (hll : label.size ≤ 100) (n less : Int) (hn : n ≤ 500) (hl : 0 ≤ less ∧ less < 256) (hG : Glob w) :
    Calls Tryd.prog 7 #[.slice Ak key.length ck, .string label, .int .i64 n, .int .u8 less] w fun e w' => e = .returned (.bool true) ∧ Below w.heap.size w w' := by
  have HK := Aside0.mk hK
  have HKB := Aside0.mk (And.intro hkb hk)
  have HLL := Aside0.mk hll
  have HNN := Aside0.mk hn
  have HG := Aside0.mk hG
  have d1 : decide (200 < key.length) = false := decide_eq_false (by omega)
  have d2 : decide ((200 : Int) < (key.length : Int)) = false := decide_eq_false (by omega)
  have d3 : decide (100 < label.size) = false := decide_eq_false (by omega)
  have d4 : decide ((100 : Int) < (label.size : Int)) = false := decide_eq_false (by omega)
  have d5 : decide (500 < n) = false := decide_eq_false (by omega)
  have hl0 := hl.1
  have hl1 := hl.2
  clear hK hkb hk hll hG hn hl
  go_enter Tryd.func7, Tryd.ntmps7
  go_wp2_with fail
  refine (awake_any w HG.out).mono ?_
  rintro e w1 ⟨rfl, hb1⟩
  have HB1 := Aside0.mk hb1
  clear hb1
  go_wp2_with fail
  refine (derive_any w1 _ key (HK.out.below HB1.out) HKB.out.1 (by have := HKB.out.2; omega) label (by have := HLL.out; omega) n (glob_below HG.out HG.out.1 HB1.out)).mono ?_
  rintro e w2 ⟨v9, rfl, hR9, hb2⟩
  have HB2 := Aside0.mk (below_step HB1.out hb2)
  obtain ⟨D, hD⟩ : ∃ D, D = derP key (bytesOf label) n := ⟨_, rfl⟩
  have HDE := Aside0.mk hD
  have HDL := Aside0.mk (show D.length ≤ 500 from by
    rw [hD]
    by_cases h0 : 0 ≤ n
    · rw [derP_len _ _ _ ⟨h0, by have := HNN.out; omega⟩]; have := HNN.out; omega
    · unfold derP; rw [if_neg (by omega)]; decide)
  rw [← hD] at hR9
  have HR9 := Aside0.mk hR9
  obtain ⟨A9, c9, rfl, hc9, _⟩ := Kd.R_reads hR9
  have HC9 := Aside0.mk hc9
  clear hb2 hR9 hD hc9
  go_wp2_with fail
  refine (refder_any w2 _ key (HK.out.below HB2.out) HKB.out.1 (by have := HKB.out.2; omega) label (by have := HLL.out; omega) n).mono ?_
  rintro e w3 ⟨v39, rfl, hR39, hb3⟩
  have HB3 := Aside0.mk (below_step HB2.out hb3)
  have HR9' := Aside0.mk (Kd.R_below HR9.out hb3)
  rw [← HDE.out] at hR39
  have HR39 := Aside0.mk hR39
  clear hb3 hR39
  go_wp2_with fail
  refine (HSame.same_bv w3 _ _ D D (Bs.bv (Bs.of_R HR9'.out)) (Bs.bv (Bs.of_R HR39.out)) (by have := HDL.out; omega)).mono ?_
  rintro e w4 ⟨rfl, ⟨m4, rfl⟩⟩
  rw [show decide (D = D) = true from decide_eq_true rfl]
  have HB4 := Aside0.mk (pw_below_drewN HB3.out m4)
  have HR4 : Aside0 (Kd.R (Kd.int .u8) 5 (w3.drewN m4) w1.heap.size (fun _ => True) (.slice A9 D.length c9) D) := ⟨HR9'.out⟩
  obtain ⟨W4, hW4⟩ : ∃ W, W = w3.drewN m4 := ⟨_, rfl⟩
  rw [← hW4] at HB4 HR4 ⊢
  clear HR9 HR9' HR39 hW4
  --TAIL
  by_cases hc : less ≤ (D.length : Int)
  · obtain ⟨k, hk⟩ : ∃ k : Nat, (D.length : Int) - less = (k : Int) := ⟨((D.length : Int) - less).toNat, by omega⟩
    have hz : wrap64 ((D.length : Int) - less) = (k : Int) := by rw [IntWalk.wrap64_in _ (by have := HDL.out; omega)]; exact hk
    have HKD := Aside0.mk (show k ≤ D.length from by omega)
    have hk9 : (k : Int) ≤ (c9 : Int) := by have := HC9.out; omega
    clear hk hc
    go_wp2_with fail
    refine (derive_any W4 _ key (HK.out.below HB4.out) HKB.out.1 (by have := HKB.out.2; omega) label (by have := HLL.out; omega) (k : Int) (glob_below HG.out HG.out.1 HB4.out)).mono ?_
    rintro e w5 ⟨v11, rfl, hR11, hb5⟩
    have HB5 := Aside0.mk (below_step HB4.out hb5)
    have HBb := Aside0.mk hb5
    have hY0 := derP_take key (bytesOf label) n k (by have := HNN.out; omega) (by rw [← HDE.out]; exact HKD.out)
    rw [← HDE.out] at hY0
    rw [hY0] at hR11
    have hT := Kd.R_take (Kd.R_below HR4.out hb5) HKD.out
    obtain ⟨Y, hY⟩ : ∃ Y, Y = D.take k := ⟨_, rfl⟩
    rw [← hY] at hR11 hT
    have HYL := Aside0.mk (show Y.length ≤ 500 from by rw [hY, List.length_take]; have := HDL.out; omega)
    have HT := Aside0.mk hT
    have HR11 := Aside0.mk hR11
    obtain ⟨A11, c11, rfl, _, _⟩ := Kd.R_reads hR11
    clear hb5 hR11 hY0 hT hY
    go_wp2_with fail
    refine (HSame.same_bv w5 _ _ Y Y (Bs.bv (Bs.of_R HR11.out)) (Bs.bv (Bs.of_R HT.out)) (by have := HYL.out; omega)).mono ?_
    rintro e w6 ⟨rfl, ⟨m6, rfl⟩⟩
    rw [show decide (Y = Y) = true from decide_eq_true rfl]
    have HB6 : Aside0 (Below W4.heap.size W4 (w5.drewN m6)) := ⟨pw_below_drewN HBb.out m6⟩
    have HO6 : Aside0 ((w5.drewN m6).ownsRow W4.heap.size 5 1 (.slice A11 Y.length c11) Y.length (nums .u8 Y)) := ⟨Kd.own_of_R HR11.out⟩
    obtain ⟨W6, hW6⟩ : ∃ W, W = w5.drewN m6 := ⟨_, rfl⟩
    rw [← hW6] at HB6 HO6 ⊢
    clear hW6 HT HBb HR11
    go_wp2
    go_loopg [12] Y.length (fun kq v12 w' => ∃ (i : Int) (ys : List Int), v12 = .int .i64 i ∧ Aside0 (0 ≤ i ∧ (kq : Int) + i = Y.length) ∧ Aside0 (ys.length = Y.length ∧ w'.ownsRow W4.heap.size 5 1 (.slice A11 Y.length c11) Y.length (nums .u8 ys)) ∧ Aside0 (Below W4.heap.size W4 w'))
    case atStart => exact ⟨0, Y, rfl, ⟨⟨by omega, by omega⟩⟩, ⟨⟨rfl, HO6.out⟩⟩, HB6⟩
    case round =>
      clear HO6 HB6
      obtain ⟨i, ys, rfl, HA, HO, HB⟩ := hrel
      have hi0 : 0 ≤ i := HA.out.1
      have him : i ≤ 500 := by have := HA.out; have := HYL.out; omega
      by_cases c2 : i < (Y.length : Int)
      · have e1 : decide (i < (Y.length : Int)) = true := decide_eq_true c2
        rcases HO.out.2.2 with ⟨e, hn0⟩ | ⟨g, cap, cur, e, hgb, _⟩
        · omega
        injection e with e1' _ e3
        subst e1'
        obtain ⟨hcc, hfz⟩ := own_at HO.out.2 i hi0 c2
        obtain ⟨x, hx⟩ : ∃ x, x = rd ys i := ⟨_, rfl⟩
        rw [← hx] at hcc
        have HS := Aside0.mk (fun x => own_store HO.out.2 i x)
        have HGB := Aside0.mk hgb
        clear hx hgb e3
        go_wp2
        go_roundg (Y.length - (i + 1).toNat)
        case measure => have := HA.out; omega
        case rel =>
          refine ⟨i + 1, _, rfl, ⟨⟨by omega, by have := HA.out; omega⟩⟩, ⟨⟨by rw [List.length_set]; exact HO.out.1, (HS.out _).1⟩⟩, ⟨HB.out.grown (HS.out _).2 HB.out.size (fun k hk => by injection hk with hk; have := HGB.out; omega)⟩⟩
      · have e1 : decide (i < (Y.length : Int)) = false := decide_eq_false c2
        have HB7 := Aside0.mk (HB4.out.trans (HB.out.mono HB4.out.size))
        have HR7 := Aside0.mk (Kd.R_below HR4.out HB.out)
        clear HA HO
        go_wp2_with fail
        refine (key_any wr _ key (HK.out.below HB7.out) HKB.out.1 (by have := HKB.out.2; omega) label (by have := HLL.out; omega) (glob_below HG.out HG.out.1 HB7.out)).mono ?_
        rintro e w8 ⟨rfl, hb8⟩
        have hXl := derP_len key (bytesOf label) 16 ⟨by decide, by decide⟩
        rw [show (16 : Int).toNat = 16 from rfl] at hXl
        obtain ⟨X, hX⟩ : ∃ X, X = derP key (bytesOf label) 16 := ⟨_, rfl⟩
        have HXE := Aside0.mk hX
        rw [← hX] at hXl ⊢
        have HXL := Aside0.mk hXl
        have hb7w := below_step HB7.out hb8
        have HST := Aside0.mk (run_storeAt_new (P := Tryd.prog) w8 37 (nums .u8 (List.replicate 16 0)).toArray (nums .u8 X).toArray (by rw [size_16]; simp [nums, hXl]) (by simp [nums, hXl]) (by simp [nums, Value.oneCell']))
        obtain ⟨W9, hW9⟩ : ∃ W, W = w8.alloc (.cells (nums .u8 X).toArray 37) := ⟨_, rfl⟩
        have hx9 : IsArr W9 w8.heap.size .u8 37 X := by rw [hW9]; exact blk_new w8 _
        have hb9 : Below w8.heap.size w8 W9 := by rw [hW9]; exact below_alloc (B0 w8) _
        have hst := HST.out
        rw [← hW9] at hst
        have HST9 := Aside0.mk hst
        have HX9 := Aside0.mk hx9
        have HB9 := Aside0.mk (below_step hb7w hb9)
        have HR9 := Aside0.mk (Kd.R_below (Kd.R_below HR7.out hb8) hb9)
        clear hX hb8 hb7w HST hW9 hx9 hb9 hst hXl
        go_wp2_with (refine store_event rfl (t := 37) (p := 13) (v := .tmp 72) rfl rfl (w1 := W9) ?hr ?_; (case hr => exact run_store_of rfl HST9.out); intro w5 hw5; have hw6 := hw5.symm; subst hw6)
        refine wp_region_held_drew (S := fun w' => Below W9.heap.size W9 w') (by kernel_rfl) (below_drew1 (B0 W9)) (fun hHeld => ?_)
        refine wpAnyH_take (i := 0) (v := .slice Ak key.length ck) rfl (by kernel_rfl) (by kernel_rfl) (by kernel_rfl) (fun _ _ _ h => h) (Or.inl ⟨by rfl, ?hy0⟩) hHeld ?_
        case hy0 => intro w' hSw; go_simp
        simp only [List.getElem_toArray, List.getElem_cons_succ, List.getElem_cons_zero, Act.put, List.setIfInBounds_toArray, List.set_cons_zero, List.set_cons_succ]
        refine wpAnyH_take (i := 1) (v := .string label) rfl (by kernel_rfl) (by kernel_rfl) (by kernel_rfl) (fun _ _ _ h => h) (Or.inl ⟨by rfl, ?hy1⟩) hHeld ?_
        case hy1 => intro w' hSw; go_simp
        simp only [List.getElem_toArray, List.getElem_cons_succ, List.getElem_cons_zero, Act.put, List.setIfInBounds_toArray, List.set_cons_zero, List.set_cons_succ]
        refine wpAnyH_take (i := 2) (v := .int .i64 n) rfl (by kernel_rfl) (by kernel_rfl) (by kernel_rfl) (fun _ _ _ h => h) (Or.inl ⟨by rfl, ?hy2⟩) hHeld ?_
        case hy2 => intro w' hSw; go_simp
        simp only [List.getElem_toArray, List.getElem_cons_succ, List.getElem_cons_zero, Act.put, List.setIfInBounds_toArray, List.set_cons_zero, List.set_cons_succ]
        refine wpAnyH_take (i := 4) (v := .slice A9 D.length c9) rfl (by kernel_rfl) (by kernel_rfl) (by kernel_rfl) (fun _ _ _ h => h) (Or.inl ⟨by rfl, ?hy4⟩) hHeld ?_
        case hy4 => intro w' hSw; go_simp
        simp only [List.getElem_toArray, List.getElem_cons_succ, List.getElem_cons_zero, Act.put, List.setIfInBounds_toArray, List.set_cons_zero, List.set_cons_succ]
        refine wpAnyH_ready (rs := [3]) (by kernel_rfl) (by simp) ?_
        refine AllReadyH.cons rfl (fun K hK => ?_) AllReadyH.nil
        simp only [List.getElem_toArray, List.getElem_cons_succ, List.getElem_cons_zero]
        rw [if_pos (by rfl)]
        go_simp
        refine (derive_any _ _ key (HK.out.below (below_step HB9.out hHeld)) HKB.out.1 (by have := HKB.out.2; omega) label (by have := HLL.out; omega) n (glob_below HG.out HG.out.1 (below_step HB9.out hHeld))).mono ?_
        rintro e x1 ⟨v76, rfl, hR76, hbb⟩
        rw [← HDE.out] at hR76
        have HR76 := Aside0.mk hR76
        clear hR76
        refine hK.out _ _ (hHeld.trans (hbb.mono hHeld.size)) (fun hHeld => ?_)
        clear hK K
        refine wpAnyH_ready (rs := [5]) (by kernel_rfl) (by simp) ?_
        refine AllReadyH.cons rfl (fun K hK => ?_) AllReadyH.nil
        simp only [List.getElem_toArray, List.getElem_cons_succ, List.getElem_cons_zero]
        rw [if_pos (by rfl)]
        go_simp
        refine (HSame.same_bv x1 _ _ D D (Bs.bv (Bs.of_R HR76.out)) (Bs.bv (Bs.of_R (Kd.R_below HR9.out hHeld))) (by have := HDL.out; omega)).mono ?_
        rintro e x2 ⟨rfl, ⟨m2, rfl⟩⟩
        rw [show decide (D = D) = true from decide_eq_true rfl]
        have hbb : Below x1.heap.size x1 (x1.drewN m2) := pw_below_drewN (B0 x1) m2
        refine hK.out _ _ (hHeld.trans (hbb.mono hHeld.size)) (fun hHeld => ?_)
        clear hK K
        refine wpAnyH_take (i := 6) (v := .bool true) rfl (by kernel_rfl) (by kernel_rfl) (by kernel_rfl) (fun _ _ _ h => h) (Or.inl ⟨by rfl, ?hy6⟩) hHeld ?_
        case hy6 => intro w' hSw; go_simp
        simp only [List.getElem_toArray, List.getElem_cons_succ, List.getElem_cons_zero, Act.put, List.setIfInBounds_toArray, List.set_cons_zero, List.set_cons_succ]
        refine wpAnyH_take (i := 7) (v := .slice (some ⟨w8.heap.size, 0, none⟩) 16 16) rfl (by kernel_rfl) (by kernel_rfl) (by kernel_rfl) (fun _ _ _ h => h) (Or.inl ⟨by rfl, ?hy7⟩) hHeld ?_
        case hy7 => intro w' hSw; go_simp
        simp only [List.getElem_toArray, List.getElem_cons_succ, List.getElem_cons_zero, Act.put, List.setIfInBounds_toArray, List.set_cons_zero, List.set_cons_succ]
        refine wpAnyH_take (i := 8) (v := .slice Ak key.length ck) rfl (by kernel_rfl) (by kernel_rfl) (by kernel_rfl) (fun _ _ _ h => h) (Or.inl ⟨by rfl, ?hy8⟩) hHeld ?_
        case hy8 => intro w' hSw; go_simp
        simp only [List.getElem_toArray, List.getElem_cons_succ, List.getElem_cons_zero, Act.put, List.setIfInBounds_toArray, List.set_cons_zero, List.set_cons_succ]
        refine wpAnyH_take (i := 9) (v := .string label) rfl (by kernel_rfl) (by kernel_rfl) (by kernel_rfl) (fun _ _ _ h => h) (Or.inl ⟨by rfl, ?hy9⟩) hHeld ?_
        case hy9 => intro w' hSw; go_simp
        simp only [List.getElem_toArray, List.getElem_cons_succ, List.getElem_cons_zero, Act.put, List.setIfInBounds_toArray, List.set_cons_zero, List.set_cons_succ]
        refine wpAnyH_ready (rs := [10]) (by kernel_rfl) (by simp) ?_
        refine AllReadyH.cons rfl (fun K hK => ?_) AllReadyH.nil
        simp only [List.getElem_toArray, List.getElem_cons_succ, List.getElem_cons_zero]
        rw [if_pos (by rfl)]
        go_simp
        refine (refder_any _ _ key (HK.out.below (below_step HB9.out hHeld)) HKB.out.1 (by have := HKB.out.2; omega) label (by have := HLL.out; omega) 16).mono ?_
        rintro e x3 ⟨v83, rfl, hR83, hbb⟩
        rw [← HXE.out] at hR83
        have HR83 := Aside0.mk hR83
        clear hR83
        refine hK.out _ _ (hHeld.trans (hbb.mono hHeld.size)) (fun hHeld => ?_)
        clear hK K
        refine wpAnyH_ready (rs := [11]) (by kernel_rfl) (by simp) ?_
        refine AllReadyH.cons rfl (fun K hK => ?_) AllReadyH.nil
        simp only [List.getElem_toArray, List.getElem_cons_succ, List.getElem_cons_zero]
        rw [if_pos (by rfl)]
        go_simp
        have hv16 : Bv x3 (.slice (some ⟨w8.heap.size, 0, none⟩) 16 16) X := ⟨_, 16, by rw [HXL.out], by rw [HXL.out]; exact Nat.le_refl _, bytes_C (HX9.out.below hHeld (arr_lt HX9.out)) (by rw [HXL.out]; decide)⟩
        refine (HSame.same_bv x3 _ _ X X hv16 (Bs.bv (Bs.of_R HR83.out)) (by rw [HXL.out]; decide)).mono ?_
        rintro e x4 ⟨rfl, ⟨m4, rfl⟩⟩
        rw [show decide (X = X) = true from decide_eq_true rfl]
        have hbb : Below x3.heap.size x3 (x3.drewN m4) := pw_below_drewN (B0 x3) m4
        refine hK.out _ _ (hHeld.trans (hbb.mono hHeld.size)) (fun hHeld => ?_)
        clear hK K
        refine wpAnyH_take (i := 12) (v := .bool true) rfl (by kernel_rfl) (by kernel_rfl) (by kernel_rfl) (fun _ _ _ h => h) (Or.inl ⟨by rfl, ?hy12⟩) hHeld ?_
        case hy12 => intro w' hSw; go_simp
        simp only [List.getElem_toArray, List.getElem_cons_succ, List.getElem_cons_zero, Act.put, List.setIfInBounds_toArray, List.set_cons_zero, List.set_cons_succ]
        refine wpAnyH_take (i := 13) (v := .bool true) rfl (by kernel_rfl) (by kernel_rfl) (by kernel_rfl) (fun _ _ _ h => h) (Or.inl ⟨by rfl, ?hy13⟩) hHeld ?_
        case hy13 => intro w' hSw; go_simp
        simp only [List.getElem_toArray, List.getElem_cons_succ, List.getElem_cons_zero, Act.put, List.setIfInBounds_toArray, List.set_cons_zero, List.set_cons_succ]
        refine wpAnyH_done (by kernel_rfl) ?_ _
        have HBF := Aside0.mk (below_step HB9.out hHeld)
        clear hHeld
        go_wp2
        go_ret
        exact ⟨rfl, HBF.out⟩
  · obtain ⟨z, hk⟩ : ∃ z : Int, (D.length : Int) - less = z := ⟨_, rfl⟩
    have hz : wrap64 ((D.length : Int) - less) = z := by rw [IntWalk.wrap64_in _ (by have := HDL.out; omega)]; exact hk
    have hz0 : z < 0 := by omega
    have HKD := Aside0.mk (show 0 ≤ D.length from Nat.zero_le _)
    clear hk hc
    go_wp2_with fail
    refine (derive_any W4 _ key (HK.out.below HB4.out) HKB.out.1 (by have := HKB.out.2; omega) label (by have := HLL.out; omega) ((0 : Nat) : Int) (glob_below HG.out HG.out.1 HB4.out)).mono ?_
    rintro e w5 ⟨v11, rfl, hR11, hb5⟩
    have HB5 := Aside0.mk (below_step HB4.out hb5)
    have HBb := Aside0.mk hb5
    have hY0 := derP_take key (bytesOf label) n 0 (by have := HNN.out; omega) (by rw [← HDE.out]; exact HKD.out)
    rw [← HDE.out] at hY0
    rw [hY0] at hR11
    have hT := Kd.R_take (Kd.R_below HR4.out hb5) HKD.out
    obtain ⟨Y, hY⟩ : ∃ Y, Y = D.take 0 := ⟨_, rfl⟩
    rw [← hY] at hR11 hT
    have HYL := Aside0.mk (show Y.length ≤ 500 from by rw [hY, List.length_take]; have := HDL.out; omega)
    have HT := Aside0.mk hT
    have HR11 := Aside0.mk hR11
    obtain ⟨A11, c11, rfl, _, _⟩ := Kd.R_reads hR11
    clear hb5 hR11 hY0 hT hY
    go_wp2_with fail
    refine (HSame.same_bv w5 _ _ Y Y (Bs.bv (Bs.of_R HR11.out)) (Bs.bv (Bs.of_R HT.out)) (by have := HYL.out; omega)).mono ?_
    rintro e w6 ⟨rfl, ⟨m6, rfl⟩⟩
    rw [show decide (Y = Y) = true from decide_eq_true rfl]
    have HB6 : Aside0 (Below W4.heap.size W4 (w5.drewN m6)) := ⟨pw_below_drewN HBb.out m6⟩
    have HO6 : Aside0 ((w5.drewN m6).ownsRow W4.heap.size 5 1 (.slice A11 Y.length c11) Y.length (nums .u8 Y)) := ⟨Kd.own_of_R HR11.out⟩
    obtain ⟨W6, hW6⟩ : ∃ W, W = w5.drewN m6 := ⟨_, rfl⟩
    rw [← hW6] at HB6 HO6 ⊢
    clear hW6 HT HBb HR11
    go_wp2
    go_loopg [12] Y.length (fun kq v12 w' => ∃ (i : Int) (ys : List Int), v12 = .int .i64 i ∧ Aside0 (0 ≤ i ∧ (kq : Int) + i = Y.length) ∧ Aside0 (ys.length = Y.length ∧ w'.ownsRow W4.heap.size 5 1 (.slice A11 Y.length c11) Y.length (nums .u8 ys)) ∧ Aside0 (Below W4.heap.size W4 w'))
    case atStart => exact ⟨0, Y, rfl, ⟨⟨by omega, by omega⟩⟩, ⟨⟨rfl, HO6.out⟩⟩, HB6⟩
    case round =>
      clear HO6 HB6
      obtain ⟨i, ys, rfl, HA, HO, HB⟩ := hrel
      have hi0 : 0 ≤ i := HA.out.1
      have him : i ≤ 500 := by have := HA.out; have := HYL.out; omega
      by_cases c2 : i < (Y.length : Int)
      · have e1 : decide (i < (Y.length : Int)) = true := decide_eq_true c2
        rcases HO.out.2.2 with ⟨e, hn0⟩ | ⟨g, cap, cur, e, hgb, _⟩
        · omega
        injection e with e1' _ e3
        subst e1'
        obtain ⟨hcc, hfz⟩ := own_at HO.out.2 i hi0 c2
        obtain ⟨x, hx⟩ : ∃ x, x = rd ys i := ⟨_, rfl⟩
        rw [← hx] at hcc
        have HS := Aside0.mk (fun x => own_store HO.out.2 i x)
        have HGB := Aside0.mk hgb
        clear hx hgb e3
        go_wp2
        go_roundg (Y.length - (i + 1).toNat)
        case measure => have := HA.out; omega
        case rel =>
          refine ⟨i + 1, _, rfl, ⟨⟨by omega, by have := HA.out; omega⟩⟩, ⟨⟨by rw [List.length_set]; exact HO.out.1, (HS.out _).1⟩⟩, ⟨HB.out.grown (HS.out _).2 HB.out.size (fun k hk => by injection hk with hk; have := HGB.out; omega)⟩⟩
      · have e1 : decide (i < (Y.length : Int)) = false := decide_eq_false c2
        have HB7 := Aside0.mk (HB4.out.trans (HB.out.mono HB4.out.size))
        have HR7 := Aside0.mk (Kd.R_below HR4.out HB.out)
        clear HA HO
        go_wp2_with fail
        refine (key_any wr _ key (HK.out.below HB7.out) HKB.out.1 (by have := HKB.out.2; omega) label (by have := HLL.out; omega) (glob_below HG.out HG.out.1 HB7.out)).mono ?_
        rintro e w8 ⟨rfl, hb8⟩
        have hXl := derP_len key (bytesOf label) 16 ⟨by decide, by decide⟩
        rw [show (16 : Int).toNat = 16 from rfl] at hXl
        obtain ⟨X, hX⟩ : ∃ X, X = derP key (bytesOf label) 16 := ⟨_, rfl⟩
        have HXE := Aside0.mk hX
        rw [← hX] at hXl ⊢
        have HXL := Aside0.mk hXl
        have hb7w := below_step HB7.out hb8
        have HST := Aside0.mk (run_storeAt_new (P := Tryd.prog) w8 37 (nums .u8 (List.replicate 16 0)).toArray (nums .u8 X).toArray (by rw [size_16]; simp [nums, hXl]) (by simp [nums, hXl]) (by simp [nums, Value.oneCell']))
        obtain ⟨W9, hW9⟩ : ∃ W, W = w8.alloc (.cells (nums .u8 X).toArray 37) := ⟨_, rfl⟩
        have hx9 : IsArr W9 w8.heap.size .u8 37 X := by rw [hW9]; exact blk_new w8 _
        have hb9 : Below w8.heap.size w8 W9 := by rw [hW9]; exact below_alloc (B0 w8) _
        have hst := HST.out
        rw [← hW9] at hst
        have HST9 := Aside0.mk hst
        have HX9 := Aside0.mk hx9
        have HB9 := Aside0.mk (below_step hb7w hb9)
        have HR9 := Aside0.mk (Kd.R_below (Kd.R_below HR7.out hb8) hb9)
        clear hX hb8 hb7w HST hW9 hx9 hb9 hst hXl
        go_wp2_with (refine store_event rfl (t := 37) (p := 13) (v := .tmp 72) rfl rfl (w1 := W9) ?hr ?_; (case hr => exact run_store_of rfl HST9.out); intro w5 hw5; have hw6 := hw5.symm; subst hw6)
        refine wp_region_held_drew (S := fun w' => Below W9.heap.size W9 w') (by kernel_rfl) (below_drew1 (B0 W9)) (fun hHeld => ?_)
        refine wpAnyH_take (i := 0) (v := .slice Ak key.length ck) rfl (by kernel_rfl) (by kernel_rfl) (by kernel_rfl) (fun _ _ _ h => h) (Or.inl ⟨by rfl, ?hy0⟩) hHeld ?_
        case hy0 => intro w' hSw; go_simp
        simp only [List.getElem_toArray, List.getElem_cons_succ, List.getElem_cons_zero, Act.put, List.setIfInBounds_toArray, List.set_cons_zero, List.set_cons_succ]
        refine wpAnyH_take (i := 1) (v := .string label) rfl (by kernel_rfl) (by kernel_rfl) (by kernel_rfl) (fun _ _ _ h => h) (Or.inl ⟨by rfl, ?hy1⟩) hHeld ?_
        case hy1 => intro w' hSw; go_simp
        simp only [List.getElem_toArray, List.getElem_cons_succ, List.getElem_cons_zero, Act.put, List.setIfInBounds_toArray, List.set_cons_zero, List.set_cons_succ]
        refine wpAnyH_take (i := 2) (v := .int .i64 n) rfl (by kernel_rfl) (by kernel_rfl) (by kernel_rfl) (fun _ _ _ h => h) (Or.inl ⟨by rfl, ?hy2⟩) hHeld ?_
        case hy2 => intro w' hSw; go_simp
        simp only [List.getElem_toArray, List.getElem_cons_succ, List.getElem_cons_zero, Act.put, List.setIfInBounds_toArray, List.set_cons_zero, List.set_cons_succ]
        refine wpAnyH_take (i := 4) (v := .slice A9 D.length c9) rfl (by kernel_rfl) (by kernel_rfl) (by kernel_rfl) (fun _ _ _ h => h) (Or.inl ⟨by rfl, ?hy4⟩) hHeld ?_
        case hy4 => intro w' hSw; go_simp
        simp only [List.getElem_toArray, List.getElem_cons_succ, List.getElem_cons_zero, Act.put, List.setIfInBounds_toArray, List.set_cons_zero, List.set_cons_succ]
        refine wpAnyH_ready (rs := [3]) (by kernel_rfl) (by simp) ?_
        refine AllReadyH.cons rfl (fun K hK => ?_) AllReadyH.nil
        simp only [List.getElem_toArray, List.getElem_cons_succ, List.getElem_cons_zero]
        rw [if_pos (by rfl)]
        go_simp
        refine (derive_any _ _ key (HK.out.below (below_step HB9.out hHeld)) HKB.out.1 (by have := HKB.out.2; omega) label (by have := HLL.out; omega) n (glob_below HG.out HG.out.1 (below_step HB9.out hHeld))).mono ?_
        rintro e x1 ⟨v76, rfl, hR76, hbb⟩
        rw [← HDE.out] at hR76
        have HR76 := Aside0.mk hR76
        clear hR76
        refine hK.out _ _ (hHeld.trans (hbb.mono hHeld.size)) (fun hHeld => ?_)
        clear hK K
        refine wpAnyH_ready (rs := [5]) (by kernel_rfl) (by simp) ?_
        refine AllReadyH.cons rfl (fun K hK => ?_) AllReadyH.nil
        simp only [List.getElem_toArray, List.getElem_cons_succ, List.getElem_cons_zero]
        rw [if_pos (by rfl)]
        go_simp
        refine (HSame.same_bv x1 _ _ D D (Bs.bv (Bs.of_R HR76.out)) (Bs.bv (Bs.of_R (Kd.R_below HR9.out hHeld))) (by have := HDL.out; omega)).mono ?_
        rintro e x2 ⟨rfl, ⟨m2, rfl⟩⟩
        rw [show decide (D = D) = true from decide_eq_true rfl]
        have hbb : Below x1.heap.size x1 (x1.drewN m2) := pw_below_drewN (B0 x1) m2
        refine hK.out _ _ (hHeld.trans (hbb.mono hHeld.size)) (fun hHeld => ?_)
        clear hK K
        refine wpAnyH_take (i := 6) (v := .bool true) rfl (by kernel_rfl) (by kernel_rfl) (by kernel_rfl) (fun _ _ _ h => h) (Or.inl ⟨by rfl, ?hy6⟩) hHeld ?_
        case hy6 => intro w' hSw; go_simp
        simp only [List.getElem_toArray, List.getElem_cons_succ, List.getElem_cons_zero, Act.put, List.setIfInBounds_toArray, List.set_cons_zero, List.set_cons_succ]
        refine wpAnyH_take (i := 7) (v := .slice (some ⟨w8.heap.size, 0, none⟩) 16 16) rfl (by kernel_rfl) (by kernel_rfl) (by kernel_rfl) (fun _ _ _ h => h) (Or.inl ⟨by rfl, ?hy7⟩) hHeld ?_
        case hy7 => intro w' hSw; go_simp
        simp only [List.getElem_toArray, List.getElem_cons_succ, List.getElem_cons_zero, Act.put, List.setIfInBounds_toArray, List.set_cons_zero, List.set_cons_succ]
        refine wpAnyH_take (i := 8) (v := .slice Ak key.length ck) rfl (by kernel_rfl) (by kernel_rfl) (by kernel_rfl) (fun _ _ _ h => h) (Or.inl ⟨by rfl, ?hy8⟩) hHeld ?_
        case hy8 => intro w' hSw; go_simp
        simp only [List.getElem_toArray, List.getElem_cons_succ, List.getElem_cons_zero, Act.put, List.setIfInBounds_toArray, List.set_cons_zero, List.set_cons_succ]
        refine wpAnyH_take (i := 9) (v := .string label) rfl (by kernel_rfl) (by kernel_rfl) (by kernel_rfl) (fun _ _ _ h => h) (Or.inl ⟨by rfl, ?hy9⟩) hHeld ?_
        case hy9 => intro w' hSw; go_simp
        simp only [List.getElem_toArray, List.getElem_cons_succ, List.getElem_cons_zero, Act.put, List.setIfInBounds_toArray, List.set_cons_zero, List.set_cons_succ]
        refine wpAnyH_ready (rs := [10]) (by kernel_rfl) (by simp) ?_
        refine AllReadyH.cons rfl (fun K hK => ?_) AllReadyH.nil
        simp only [List.getElem_toArray, List.getElem_cons_succ, List.getElem_cons_zero]
        rw [if_pos (by rfl)]
        go_simp
        refine (refder_any _ _ key (HK.out.below (below_step HB9.out hHeld)) HKB.out.1 (by have := HKB.out.2; omega) label (by have := HLL.out; omega) 16).mono ?_
        rintro e x3 ⟨v83, rfl, hR83, hbb⟩
        rw [← HXE.out] at hR83
        have HR83 := Aside0.mk hR83
        clear hR83
        refine hK.out _ _ (hHeld.trans (hbb.mono hHeld.size)) (fun hHeld => ?_)
        clear hK K
        refine wpAnyH_ready (rs := [11]) (by kernel_rfl) (by simp) ?_
        refine AllReadyH.cons rfl (fun K hK => ?_) AllReadyH.nil
        simp only [List.getElem_toArray, List.getElem_cons_succ, List.getElem_cons_zero]
        rw [if_pos (by rfl)]
        go_simp
        have hv16 : Bv x3 (.slice (some ⟨w8.heap.size, 0, none⟩) 16 16) X := ⟨_, 16, by rw [HXL.out], by rw [HXL.out]; exact Nat.le_refl _, bytes_C (HX9.out.below hHeld (arr_lt HX9.out)) (by rw [HXL.out]; decide)⟩
        refine (HSame.same_bv x3 _ _ X X hv16 (Bs.bv (Bs.of_R HR83.out)) (by rw [HXL.out]; decide)).mono ?_
        rintro e x4 ⟨rfl, ⟨m4, rfl⟩⟩
        rw [show decide (X = X) = true from decide_eq_true rfl]
        have hbb : Below x3.heap.size x3 (x3.drewN m4) := pw_below_drewN (B0 x3) m4
        refine hK.out _ _ (hHeld.trans (hbb.mono hHeld.size)) (fun hHeld => ?_)
        clear hK K
        refine wpAnyH_take (i := 12) (v := .bool true) rfl (by kernel_rfl) (by kernel_rfl) (by kernel_rfl) (fun _ _ _ h => h) (Or.inl ⟨by rfl, ?hy12⟩) hHeld ?_
        case hy12 => intro w' hSw; go_simp
        simp only [List.getElem_toArray, List.getElem_cons_succ, List.getElem_cons_zero, Act.put, List.setIfInBounds_toArray, List.set_cons_zero, List.set_cons_succ]
        refine wpAnyH_take (i := 13) (v := .bool true) rfl (by kernel_rfl) (by kernel_rfl) (by kernel_rfl) (fun _ _ _ h => h) (Or.inl ⟨by rfl, ?hy13⟩) hHeld ?_
        case hy13 => intro w' hSw; go_simp
        simp only [List.getElem_toArray, List.getElem_cons_succ, List.getElem_cons_zero, Act.put, List.setIfInBounds_toArray, List.set_cons_zero, List.set_cons_succ]
        refine wpAnyH_done (by kernel_rfl) ?_ _
        have HBF := Aside0.mk (below_step HB9.out hHeld)
        clear hHeld
        go_wp2
        go_ret
        exact ⟨rfl, HBF.out⟩

theorem row_derives (v0 : Value) (a0 : List Int) (label : ByteArray) (n less : Int) (W : World)
    {base : Nat} (hv0 : Value.okWide Tryd.prog W .any base 22 v0) (k0 : (Kd.slice 5 (Kd.int .u8)).K W a0 v0.cells.toList) (ok0 : (∀ b ∈ a0, (Lit.int .u8 b).wf = true) ∧ a0.length ≤ maxLen)
    (y1 : label.size ≤ maxLen) (w2 : (Lit.int .i64 n).wf = true) (w3 : (Lit.int .u8 less).wf = true) (hG : Glob W) :
    Calls Tryd.prog 7 #[v0, .string label, .int .i64 n, .int .u8 less] W fun e w' => e = .returned (.bool true) ∧ Below W.heap.size W w' := by
  obtain ⟨A, d, rfl, hA⟩ := bytes_of hv0 k0
  by_cases hf : 200 < a0.length ∨ 100 < label.size ∨ 500 < n
  · exact far_walk W A a0.length d label n less hf hG
  · exact near_walk W A d a0 hA (fun x hx => wf_u8 (ok0.1 x hx)) (by omega) label (by omega) n less (by omega) (wf_u8 w3) hG

end Go.Proofs.YthhckkfdcnddfaaDoor.HMacL5
