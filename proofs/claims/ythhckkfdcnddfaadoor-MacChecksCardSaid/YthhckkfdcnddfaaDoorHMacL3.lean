/- The law MacChecks. -/
import Derived.Test.YthhckkfdcnddfaaDoorHMacL2
namespace Go.Proofs.YthhckkfdcnddfaaDoor.HMacL3
open Go.RowKit Go.Proofs.YthhckkfdcnddfaaDoorW.PrintWords Go.Proofs.YthhckkfdcnddfaaDoor.HLib Go.Proofs.YthhckkfdcnddfaaDoor.HSha Go.Proofs.YthhckkfdcnddfaaDoor.HShaS Go.Proofs.YthhckkfdcnddfaaDoor.HShaU Go.Proofs.YthhckkfdcnddfaaDoor.HShaV Go.Proofs.YthhckkfdcnddfaaDoor.HShaW Go.Proofs.YthhckkfdcnddfaaDoor.HShaB Go.Proofs.YthhckkfdcnddfaaDoor.HShaX Go.Proofs.YthhckkfdcnddfaaDoor.HMac Go.Proofs.YthhckkfdcnddfaaDoor.HMacC Go.Proofs.YthhckkfdcnddfaaDoor.HMacS Go.Proofs.YthhckkfdcnddfaaDoor.HMacR Go.Proofs.YthhckkfdcnddfaaDoor.HMacQ Go.Proofs.YthhckkfdcnddfaaDoor.HMacK Go.Proofs.YthhckkfdcnddfaaDoor.HMacA Go.Proofs.YthhckkfdcnddfaaDoor.HMacL1
set_option linter.unusedVariables false
set_option linter.unusedSimpArgs false

set_option maxHeartbeats 4000000 in
theorem far_walk (w : World) (A : Option Addr) (m c : Nat) (B : Option Addr) (n d : Nat) (p q z : Int) (h : 200 < m ∨ 500 < n) (hG : Glob w) :
    Calls Tryd.prog 4 #[.slice A m c, .slice B n d, .int .u8 p, .int .u8 q, .int .u8 z] w fun e w' => e = .returned (.bool true) ∧ Below w.heap.size w w' := by
  have HG := Aside0.mk hG
  clear hG
  by_cases c1 : 200 < m
  · have d1 : decide (200 < m) = true := decide_eq_true c1
    have d2 : decide ((200 : Int) < (m : Int)) = true := decide_eq_true (by omega)
    clear h c1
    go_enter Tryd.func4, Tryd.ntmps4
    go_wp2_with fail
    refine (awake_any w HG.out).mono ?_
    rintro e w1 ⟨rfl, hb1⟩
    have HB1 := Aside0.mk hb1
    clear hb1
    go_wp2_with fail
    refine (awake_any w1 (glob_below HG.out HG.out.1 HB1.out)).mono ?_
    rintro e w2 ⟨rfl, hb2⟩
    have HB2 := Aside0.mk (below_step HB1.out hb2)
    clear hb2
    go_wp2
    go_ret
    exact ⟨rfl, HB2.out⟩
  · have d1 : decide (200 < m) = false := decide_eq_false c1
    have d2 : decide ((200 : Int) < (m : Int)) = false := decide_eq_false (by omega)
    have d3 : decide (500 < n) = true := decide_eq_true (by omega)
    have d4 : decide ((500 : Int) < (n : Int)) = true := decide_eq_true (by omega)
    clear h c1
    go_enter Tryd.func4, Tryd.ntmps4
    go_wp2_with fail
    refine (awake_any w HG.out).mono ?_
    rintro e w1 ⟨rfl, hb1⟩
    have HB1 := Aside0.mk hb1
    clear hb1
    go_wp2_with fail
    refine (awake_any w1 (glob_below HG.out HG.out.1 HB1.out)).mono ?_
    rintro e w2 ⟨rfl, hb2⟩
    have HB2 := Aside0.mk (below_step HB1.out hb2)
    clear hb2
    go_wp2
    go_ret
    exact ⟨rfl, HB2.out⟩


theorem take_first {M L : List Int} {m : Nat} (hl : M.length = 32) (hL : L = M ++ [7]) (hm : m ≤ 32) : L.take m = M.take m := by
  rw [hL, List.take_append_of_le_length (by omega)]
theorem chk_first {key bs M L : List Int} {m : Nat} (hM : M = macP key bs) (hl : M.length = 32) (hL : L = M ++ [7]) (hm : m ≤ 33) : chk key (L.take m) bs = decide (16 ≤ m ∧ m ≤ 32) := by
  have h33 : L.length = 33 := by rw [hL, List.length_append, hl]; rfl
  have h : (L.take m).length = m := by rw [List.length_take]; omega
  unfold chk
  rw [h, ← hM]
  exact decide_eq_decide.2 ⟨fun h => ⟨h.1, h.2.1⟩, fun h => ⟨h.1, h.2, take_first hl hL h.2⟩⟩
theorem set_same (T : List Int) (i : Nat) (c : Int) (hi : i < T.length) : T.set i c = T ↔ T.getD i 0 = c := by
  rw [List.getD_eq_getElem?_getD, List.getElem?_eq_getElem hi]
  constructor
  · intro h
    have h2 : (T.set i c)[i]'(by rw [List.length_set]; exact hi) = T[i] := by simp only [h]
    rw [List.getElem_set_self] at h2
    exact h2.symm
  · intro h
    have : c = T[i] := h.symm
    rw [this, List.set_getElem_self]
theorem chk_set {key bs M L : List Int} {m i : Nat} {c : Int} (hM : M = macP key bs) (hl : M.length = 32) (hL : L = M ++ [7]) (hm : m ≤ 33) (hi : i < m) : chk key ((L.take m).set i c) bs = (decide (16 ≤ m ∧ m ≤ 32) && decide ((L.take m).getD i 0 = c)) := by
  have h33 : L.length = 33 := by rw [hL, List.length_append, hl]; rfl
  have h : (L.take m).length = m := by rw [List.length_take]; omega
  unfold chk
  rw [List.length_set, h, ← hM, ← Bool.decide_and]
  refine decide_eq_decide.2 ⟨fun h1 => ⟨⟨h1.1, h1.2.1⟩, ?_⟩, fun h1 => ⟨h1.1.1, h1.1.2, ?_⟩⟩
  · rw [← take_first hl hL h1.2.1] at h1
    exact (set_same _ _ _ (by omega)).1 h1.2.2
  · rw [← take_first hl hL h1.1.2]
    exact (set_same _ _ _ (by omega)).2 h1.2
theorem cat_one (bs : List Int) : cat [bs] = bs := by simp [cat]

set_option maxHeartbeats 8000000 in
theorem near_walk (w : World) (Ak : Option Addr) (ck : Nat) (key : List Int) (hK : Bv w (.slice Ak key.length ck) key) (hkb : ∀ x ∈ key, 0 ≤ x ∧ x < 256) (hk : key.length ≤ 200) (Ab : Option Addr) (cb : Nat) (bs : List Int) (hB : Bv w (.slice Ab bs.length cb) bs) (hbb : ∀ x ∈ bs, 0 ≤ x ∧ x < 256) (hbl : bs.length ≤ 500)
    (n q c : Int) (hn : 0 ≤ n ∧ n < 256) (hq : 0 ≤ q ∧ q < 256) (hc : 0 ≤ c ∧ c < 256) (m : Nat) (hm : n % 34 = (m : Int)) (b1 b2 : Bool) (e1 : decide (16 ≤ m) = b1) (e2 : decide (m ≤ 32) = b2) (hG : Glob w) :
    Calls Tryd.prog 4 #[.slice Ak key.length ck, .slice Ab bs.length cb, .int .u8 n, .int .u8 q, .int .u8 c] w fun e w' => e = .returned (.bool true) ∧ Below w.heap.size w w' := by
  have HK := Aside0.mk hK
  have HKB := Aside0.mk (And.intro hkb hk)
  have HBS := Aside0.mk hB
  have HBB := Aside0.mk (And.intro hbb hbl)
  have HC := Aside0.mk hc
  have HG := Aside0.mk hG
  have d1 : decide (200 < key.length) = false := decide_eq_false (by omega)
  have d2 : decide ((200 : Int) < (key.length : Int)) = false := decide_eq_false (by omega)
  have d3 : decide (500 < bs.length) = false := decide_eq_false (by omega)
  have d4 : decide ((500 : Int) < (bs.length : Int)) = false := decide_eq_false (by omega)
  have hn0 := hn.1
  have hn1 := hn.2
  have hq0 := hq.1
  have hq1 := hq.2
  have e3 : decide ((16 : Int) ≤ (m : Int)) = b1 := by rw [← e1]; exact decide_eq_decide.2 (by omega)
  have e4 : decide ((m : Int) ≤ (32 : Int)) = b2 := by rw [← e2]; exact decide_eq_decide.2 (by omega)
  have hm33 : m ≤ 33 := by omega
  have HCK := Aside0.mk (show decide (16 ≤ m ∧ m ≤ 32) = (b1 && b2) from by rw [← e1, ← e2, Bool.decide_and])
  have hww : ((b1 && b2) == (b1 && b2)) = true := by cases b1 <;> cases b2 <;> rfl
  clear hK hkb hk hB hbb hbl hG hc hn hq
  cases b1 <;> cases b2
  · exact absurd (of_decide_eq_false e1) (fun h => h (by have := of_decide_eq_false e2; omega))
  all_goals go_enter Tryd.func4, Tryd.ntmps4
  all_goals (
    go_wp2_with fail
    refine (awake_any w HG.out).mono ?_
    rintro e w1 ⟨rfl, hb1⟩
    have HB1 := Aside0.mk hb1
    clear hb1
    go_wp2_with fail
    refine (refmac_any w1 _ key (HK.out.below HB1.out) HKB.out.1 (by have := HKB.out.2; omega) _ bs (HBS.out.below HB1.out) HBB.out.1 (by have := HBB.out.2; omega)).mono ?_
    rintro e w2 ⟨rfl, hb2⟩
    have HB2 := Aside0.mk (below_step HB1.out hb2)
    obtain ⟨M, hM⟩ : ∃ M, M = macP key bs := ⟨_, rfl⟩
    have HML := Aside0.mk (show M.length = 32 from by rw [hM]; exact macP_len _ _)
    have HMB := Aside0.mk (show ∀ x ∈ M, 0 ≤ x ∧ x < 256 from by rw [hM]; exact macP_byte _ _)
    rw [← hM]
    have HM := Aside0.mk hM
    have HST0 := Aside0.mk (run_storeAt_new (P := Tryd.prog) w2 26 (nums .u8 (List.replicate 32 0)).toArray (nums .u8 M).toArray (by rw [size_out]; simp [nums, HML.out]) (by simp [nums, HML.out]) (by simp [nums, Value.oneCell']))
    obtain ⟨We, hWe⟩ : ∃ W, W = w2.alloc (.cells (nums .u8 M).toArray 26) := ⟨_, rfl⟩
    have HBW : Aside0 (Below w.heap.size w We) := ⟨by rw [hWe]; exact below_alloc HB2.out _⟩
    have hcf : (Kd.int .u8).C We (some ⟨w2.heap.size, 0, none⟩) M.length M := by rw [hWe]; exact bytes_C (blk_new w2 _) (by rw [HML.out]; decide)
    rw [HML.out] at hcf
    have HCF := Aside0.mk (readsInt_of.2 (Kd.reads_of_C (d := (0 : Int)) hcf))
    have hst0 := HST0.out
    rw [← hWe] at hst0
    have HST := Aside0.mk hst0
    have HOL := Aside0.mk (own_lit We We.heap.size 5 .u8 [] (Nat.le_refl _) (by decide))
    clear hb2 hM hcf hst0 HST0 hWe
    go_wp2_with (first | (refine store_event rfl (t := 26) (p := 11) (v := .tmp 31) rfl rfl (w1 := We) ?hr ?_; (case hr => exact run_store_of rfl HST.out); intro w5 hw5; have hw6 := hw5.symm; subst hw6) | (at_builtin; refine print_append_row (w0 := We) We.heap.size rfl (.tmp 32) (.tmp 33) 22 5 .u8 1 rfl Tryd.underlying22 info_u8 (by decide) (.slice (some ⟨We.heap.size, 0, none⟩) 0 0) [] M (some ⟨w2.heap.size, 0, none⟩) _ 32 rfl rfl ?aO ?aR ?aB ?aS ?aL ?_; (case aO => exact HOL.out); (case aR => exact HCF.out.below (below_alloc (B0 _) _)); (case aB => exact below_alloc (B0 _) _); (case aS => exact (by rw [World.size_alloc]; exact Nat.le_succ _)); (case aL => simp); intro v3 w3 ho hb hg hat; rw [List.nil_append] at ho; have HO3 := Aside0.mk ho; have HB3 := Aside0.mk hb; clear ho hb hg hat) | (at_builtin; refine print_append_row (w0 := We) We.heap.size rfl (.tmp 34) (.tmp 35) 22 5 .u8 1 rfl Tryd.underlying22 info_u8 (by decide) v3 M [7] (some ⟨w3.heap.size, 0, none⟩) _ 1 rfl rfl ?aO ?aR ?aB ?aS ?aL ?_; (case aO => exact pw_own_below HO3.out (below_alloc (B0 w3) _)); (case aR => exact reads_one 7); (case aB => exact below_alloc HB3.out _); (case aS => exact (by rw [World.size_alloc]; exact Nat.le_succ_of_le HB3.out.size)); (case aL => have := HML.out; omega); intro v4 w4 ho hb hg hat; have HO4 := Aside0.mk ho; have HB4 := Aside0.mk hb; clear ho hb hg hat; obtain ⟨L, hL⟩ : ∃ L, L = M ++ [7] := ⟨_, rfl⟩; rw [← hL] at HO4; have HLL := Aside0.mk (show L.length = 33 from by rw [hL, List.length_append, HML.out]; rfl); have HL := Aside0.mk hL; clear hL; rcases HO4.out.2 with ⟨rfl, hno⟩ | ⟨g, cap, cur, rfl, hgb, _, hncap, _⟩; exact absurd hno (by rw [HLL.out]; decide); have hi0 : (m : Int) ≤ (cap : Int) := (by have := HLL.out; omega); have HNC := Aside0.mk (And.intro hgb hncap); clear hgb hncap HST HOL HCF) | fail)
    have HT4 := Aside0.mk (Kd.R_take (Kd.R_of_own (enc := Value.int .u8) (h1 := fun _ => rfl) (ok := fun _ => True) HO4.out (fun _ _ => trivial)) (show m ≤ L.length by have := HLL.out; omega))
    obtain ⟨T, hT⟩ : ∃ T, T = L.take m := ⟨_, rfl⟩
    have HTL := Aside0.mk (show T.length = m from by rw [hT, List.length_take]; have := HLL.out; omega)
    have HTB := Aside0.mk (show ∀ x ∈ T, 0 ≤ x ∧ x < 256 from by
      intro x hx
      rw [hT] at hx
      have h1 := List.mem_of_mem_take hx
      rw [HL.out] at h1
      rcases List.mem_append.1 h1 with h | h
      · exact HMB.out x h
      · rw [List.mem_singleton.1 h]; omega)
    have HC1 := Aside0.mk (chk_first HM.out HML.out HL.out hm33)
    have HC2 := Aside0.mk (fun (i : Nat) (c : Int) => chk_set (c := c) (i := i) HM.out HML.out HL.out hm33)
    rw [← hT] at HT4 HC1 HC2
    obtain ⟨W5, hW5⟩ : ∃ W, W = w4.alloc (.cells #[.slice Ab bs.length cb] 22) := ⟨_, rfl⟩
    rw [← hW5]
    have HB5 : Aside0 (Below We.heap.size We W5) := ⟨by rw [hW5]; exact below_alloc HB4.out _⟩
    have HT5 : Aside0 (Kd.R (Kd.int .u8) 5 W5 We.heap.size (fun _ => True) (.slice (some ⟨g, 0, none⟩) m cap) T) := ⟨by rw [hW5]; exact Kd.R_below HT4.out (below_alloc (B0 w4) _)⟩
    have HF5 := Aside0.mk (below_step HBW.out (HB5.out.mono (Nat.le_refl _)))
    have hkb : KB.C W5 (some ⟨w4.heap.size, 0, none⟩) 1 [bs] := by
      obtain ⟨A', c', e', hc', hC'⟩ := HBS.out.below HF5.out
      injection e' with e1' _ e3'
      subst e1' e3'
      refine KB_one (c0 := cb) ?_ hc' hC'
      rw [hW5]
      exact blk_cell (blk_new w4 _) 0
    have hvc : Bv W5 (.slice (some ⟨g, 0, none⟩) m cap) T := by
      have h := Bs.bv (Bs.of_R HT5.out)
      exact h
    refine (check_any W5 _ key (HK.out.below HF5.out) HKB.out.1 (by have := HKB.out.2; omega) _ T hvc HTB.out (by rw [HTL.out]; omega) _ 1 [bs] hkb (show 1 ≤ 1 by decide) (by rw [cat_one]; exact HBB.out.1) (by rw [cat_one]; have := HBB.out.2; omega) (show 1 ≤ 4294960000 by decide) (glob_below HG.out HG.out.1 HF5.out)).mono ?_
    rintro e w6 ⟨rfl, hb6⟩
    rw [cat_one, HC1.out, HCK.out]
    have HB6 := Aside0.mk (HB5.out.trans (hb6.mono HB5.out.size))
    have HT6 := Aside0.mk (Kd.R_below HT5.out hb6)
    clear hb6 hkb hvc hW5 hT
    by_cases hm0 : m = 0
    · have z1 : (m == 0) = true := by rw [hm0]; rfl
      have z2 : ((m : Int) == 0) = true := by rw [hm0]; rfl
      go_wp2
      go_ret
      exact ⟨rfl, below_step HBW.out (HB6.out.mono (Nat.le_refl _))⟩
    · have z1 : (m == 0) = false := by simpa using hm0
      have z2 : ((m : Int) == 0) = false := by simp; omega
      have z3 : (m : Int) ≠ 0 := by omega
      obtain ⟨i, hi⟩ : ∃ i : Nat, q % (m : Int) = (i : Int) := ⟨(q % (m : Int)).toNat, by have := Int.emod_nonneg q z3; omega⟩
      have him : (i : Int) < (m : Int) := by rw [← hi]; exact Int.emod_lt_of_pos q (by omega)
      have hto : w6.ownsRow We.heap.size 5 1 (.slice (some ⟨g, 0, none⟩) m cap) m (nums .u8 T) := by
        have h := Kd.own_of_R HT6.out
        rw [HTL.out] at h
        exact h
      obtain ⟨hcc, hfz⟩ := own_at hto (i : Int) (by omega) him
      obtain ⟨hst, hsg⟩ := own_store hto (i : Int) c
      rw [show ((i : Int)).toNat = i from by omega] at hcc hfz hst hsg
      obtain ⟨y, hy⟩ : ∃ y, y = rd T (i : Int) := ⟨_, rfl⟩
      rw [← hy] at hcc
      obtain ⟨sm, hsm⟩ : ∃ sm, sm = decide (y = c) := ⟨_, rfl⟩
      have hyc : (y == c) = sm := by rw [hsm]; rfl
      have hss : (sm == sm) = true := by cases sm <;> rfl
      have HC3 := Aside0.mk (HC2.out i c (by omega))
      have hyT : T.getD i 0 = y := by rw [hy]; rfl
      rw [hyT, ← hsm] at HC3
      obtain ⟨W7, hW7⟩ : ∃ W, W = w6.setCell ⟨g, i, none⟩ (.int .u8 c) := ⟨_, rfl⟩
      rw [← hW7] at hst hsg
      have HB7 : Aside0 (Below We.heap.size We W7) := ⟨HB6.out.grown hsg HB6.out.size (fun k hk => by injection hk with hk; have := HNC.out.1; omega)⟩
      have HT7 := Aside0.mk hst
      have HW7 := Aside0.mk hW7
      have HTS := Aside0.mk (show (T.set i c).length = m from by rw [List.length_set]; exact HTL.out)
      clear hst hsg hW7 hto hy hyT hsm
      go_wp2_with fail
      rw [← HW7.out]
      have hsz : W7.heap.size = w6.heap.size := by rw [HW7.out]; simp [World.setCell]
      obtain ⟨W8, hW8⟩ : ∃ W, W = W7.alloc (.cells #[.slice Ab bs.length cb] 22) := ⟨_, rfl⟩
      rw [← hW8]
      have hb78 : Below W7.heap.size W7 W8 := by rw [hW8]; exact below_alloc (B0 W7) _
      have HB8 := Aside0.mk (HB7.out.trans (hb78.mono HB7.out.size))
      have HF8 := Aside0.mk (below_step HBW.out HB8.out)
      have hkb : KB.C W8 (some ⟨w6.heap.size, 0, none⟩) 1 [bs] := by
        obtain ⟨A', c', e', hc', hC'⟩ := HBS.out.below HF8.out
        injection e' with e1' _ e3'
        subst e1' e3'
        refine KB_one (c0 := cb) ?_ hc' hC'
        rw [hW8, ← hsz]
        exact blk_cell (blk_new W7 _) 0
      have hvc : Bv W8 (.slice (some ⟨g, 0, none⟩) m cap) (T.set i c) := by
        have h1 := pw_own_below HT7.out hb78
        have hl := HTS.out
        rw [← hl] at h1
        have h := Bs.bv (Bs.of_R (Kd.R_of_own (enc := Value.int .u8) (h1 := fun _ => rfl) (ok := fun _ => True) h1 (fun _ _ => trivial)))
        rw [hl] at h
        exact h
      refine (check_any W8 _ key (HK.out.below HF8.out) HKB.out.1 (by have := HKB.out.2; omega) _ (T.set i c) hvc (fun x hx => by
        rcases List.mem_or_eq_of_mem_set hx with h | h
        · exact HTB.out x h
        · rw [h]; exact HC.out) (by rw [HTS.out]; omega) _ 1 [bs] hkb (show 1 ≤ 1 by decide) (by rw [cat_one]; exact HBB.out.1) (by rw [cat_one]; have := HBB.out.2; omega) (show 1 ≤ 4294960000 by decide) (glob_below HG.out HG.out.1 HF8.out)).mono ?_
      rintro e w9 ⟨rfl, hb9⟩
      rw [cat_one, HC3.out, HCK.out]
      have HB9 := Aside0.mk (below_step HF8.out hb9)
      clear hb9 hkb hvc hW8 hb78 hsz
      go_wp2
      go_ret
      exact ⟨rfl, HB9.out⟩)

theorem row_checks (v0 : Value) (a0 : List Int) (v1 : Value) (a1 : List Int) (n q c : Int) (W : World)
    {base : Nat} (hv0 : Value.okWide Tryd.prog W .any base 22 v0) (k0 : (Kd.slice 5 (Kd.int .u8)).K W a0 v0.cells.toList) (ok0 : (∀ b ∈ a0, (Lit.int .u8 b).wf = true) ∧ a0.length ≤ maxLen)
    {base' : Nat} (hv1 : Value.okWide Tryd.prog W .any base' 22 v1) (k1 : (Kd.slice 5 (Kd.int .u8)).K W a1 v1.cells.toList) (ok1 : (∀ b ∈ a1, (Lit.int .u8 b).wf = true) ∧ a1.length ≤ maxLen)
    (w2 : (Lit.int .u8 n).wf = true) (w3 : (Lit.int .u8 q).wf = true) (w4 : (Lit.int .u8 c).wf = true) (hG : Glob W) :
    Calls Tryd.prog 4 #[v0, v1, .int .u8 n, .int .u8 q, .int .u8 c] W fun e w' => e = .returned (.bool true) ∧ Below W.heap.size W w' := by
  obtain ⟨A, d, rfl, hA⟩ := bytes_of hv0 k0
  obtain ⟨B, e, rfl, hB⟩ := bytes_of hv1 k1
  by_cases hf : 200 < a0.length ∨ 500 < a1.length
  · exact far_walk W A a0.length d B a1.length e n q c hf hG
  · have hn := wf_u8 w2
    exact near_walk W A d a0 hA (fun x hx => wf_u8 (ok0.1 x hx)) (by omega) B e a1 hB (fun x hx => wf_u8 (ok1.1 x hx)) (by omega) n q c hn (wf_u8 w3) (wf_u8 w4) (n % 34).toNat (by omega) _ _ rfl rfl hG

end Go.Proofs.YthhckkfdcnddfaaDoor.HMacL3
