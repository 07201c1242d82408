/- The law NameCompares. -/
import Derived.Test.YtpbkcfgcmknijaaDoorHNameA
import Derived.Test.YtpbkcfgcmknijaaDoorHCmp
namespace Go.Proofs.YtpbkcfgcmknijaaDoor.HNameL3
open Go.RowKit Go.Proofs.YtpbkcfgcmknijaaDoorW.PrintWords Go.Proofs.YtpbkcfgcmknijaaDoor.HLib Go.Proofs.YtpbkcfgcmknijaaDoor.HNameP Go.Proofs.YtpbkcfgcmknijaaDoor.HErr Go.Proofs.YtpbkcfgcmknijaaDoor.HNameR Go.Proofs.YtpbkcfgcmknijaaDoor.HName Go.Proofs.YtpbkcfgcmknijaaDoor.HNameA Go.Proofs.YtpbkcfgcmknijaaDoor.HPr Go.Proofs.YtpbkcfgcmknijaaDoor.HCmp
set_option linter.unusedVariables false
set_option linter.unusedSimpArgs false

/-- The order of pairs of strings. -/
def cmpA (t1 r1 t2 r2 : ByteArray) : Int := if cmpS t1 t2 = 0 then cmpS r1 r2 else cmpS t1 t2
theorem cmpA_range (t1 r1 t2 r2 : ByteArray) : cmpA t1 r1 t2 r2 = -1 ∨ cmpA t1 r1 t2 r2 = 0 ∨ cmpA t1 r1 t2 r2 = 1 := by
  unfold cmpA
  split
  · exact cmpS_range _ _
  · exact cmpS_range _ _
theorem cmpA_swap (t1 r1 t2 r2 : ByteArray) : cmpA t2 r2 t1 r1 = - cmpA t1 r1 t2 r2 := by
  unfold cmpA
  rw [cmpS_swap t1 t2, cmpS_swap r1 r2]
  by_cases h : cmpS t1 t2 = 0
  · rw [if_pos (by omega), if_pos h]
  · rw [if_neg (by omega), if_neg h]
theorem cmpA_zero {t1 r1 t2 r2 : ByteArray} (h : cmpA t1 r1 t2 r2 = 0) : t1 = t2 ∧ r1 = r2 := by
  unfold cmpA at h
  split at h
  · rename_i h1
    exact ⟨cmpS_zero h1, cmpS_zero h⟩
  · rename_i h1
    exact absurd h h1
theorem cmpA_self (t r : ByteArray) : cmpA t r t r = 0 := by
  unfold cmpA
  rw [if_pos (cmpS_self t), cmpS_self]
theorem cmpS_trans {a b c : ByteArray} (h1 : cmpS a b ≤ 0) (h2 : cmpS b c ≤ 0) : cmpS a c ≤ 0 := cmpL_trans _ _ _ h1 h2
theorem cmpA_trans {t1 r1 t2 r2 t3 r3 : ByteArray} (h1 : cmpA t1 r1 t2 r2 ≤ 0) (h2 : cmpA t2 r2 t3 r3 ≤ 0) : cmpA t1 r1 t3 r3 ≤ 0 := by
  unfold cmpA at h1 h2 ⊢
  by_cases a : cmpS t1 t2 = 0
  · rw [if_pos a] at h1
    have e := cmpS_zero a
    subst e
    by_cases b : cmpS t1 t3 = 0
    · rw [if_pos b] at h2 ⊢
      exact cmpS_trans h1 h2
    · rw [if_neg b] at h2 ⊢
      exact h2
  · rw [if_neg a] at h1
    by_cases b : cmpS t2 t3 = 0
    · have e := cmpS_zero b
      subst e
      rw [if_neg a]
      exact h1
    · rw [if_neg b] at h2
      have h3 := cmpS_trans h1 h2
      by_cases c : cmpS t1 t3 = 0
      · have e := cmpS_zero c
        subst e
        have := cmpS_swap t1 t2
        omega
      · rw [if_neg c]
        exact h3
theorem or_two (x y : Int) : cmp_Or_int.f 10 [x, y] = some (if x = 0 then y else x) := by
  unfold cmp_Or_int.f
  have e1 : wrap64 1 = 1 := IntWalk.wrap64_in _ (by omega)
  have e2 : wrap64 2 = 2 := IntWalk.wrap64_in _ (by omega)
  by_cases h : x = 0
  · by_cases h2 : y = 0
    · simp [cmp_Or_int.l0, e1, e2, h, h2, rd]
    · simp [cmp_Or_int.l0, e1, e2, h, h2, rd]
  · simp [cmp_Or_int.l0, e1, e2, h, rd]
theorem compare_eq (t1 r1 t2 r2 : ByteArray) : name_Compare.f 10 t1 r1 t2 r2 = some (cmpA t1 r1 t2 r2) := by
  unfold name_Compare.f cmp_Compare_string.f
  simp only [Option.bind_some]
  rw [or_two]
  rfl
theorem refcompare_eq (t1 r1 t2 r2 : ByteArray) (h : t1.size ≤ 1000 ∧ r1.size ≤ 1000 ∧ t2.size ≤ 1000 ∧ r2.size ≤ 1000) : vestryref08_Compare.f 3000 t1 r1 t2 r2 = some (cmpA t1 r1 t2 r2) := by
  unfold vestryref08_Compare.f
  rw [order_eq t1 t2 (by omega) 3000 (by omega), order_eq r1 r2 (by omega) 3000 (by omega)]
  simp only [Option.bind_some]
  unfold cmpA
  split <;> rfl
theorem compare_any (t1 r1 t2 r2 : ByteArray) (w : World) : Calls Tryd.prog 25 #[.agg #[.string t1, .string r1], .agg #[.string t2, .string r2]] w fun e w' => e = .returned (.int .i64 (cmpA t1 r1 t2 r2)) ∧ Below w.heap.size w w' :=
  name_Compare.calls 10 t1 r1 t2 r2 _ w (compare_eq t1 r1 t2 r2)
theorem refcompare_any (t1 r1 t2 r2 : ByteArray) (w : World) (h : t1.size ≤ 1000 ∧ r1.size ≤ 1000 ∧ t2.size ≤ 1000 ∧ r2.size ≤ 1000) : Calls Tryd.prog 26 #[.agg #[.string t1, .string r1], .agg #[.string t2, .string r2]] w fun e w' => e = .returned (.int .i64 (cmpA t1 r1 t2 r2)) ∧ Below w.heap.size w w' :=
  vestryref08_Compare.calls 3000 t1 r1 t2 r2 _ w (refcompare_eq t1 r1 t2 r2 h)

set_option maxRecDepth 100000 in
set_option maxHeartbeats 4000000 in
theorem far_walk (t1 r1 t2 r2 t3 r3 : ByteArray) (w : World) (hm : t1.size ≤ 1048576 ∧ r1.size ≤ 1048576 ∧ t2.size ≤ 1048576 ∧ r2.size ≤ 1048576 ∧ t3.size ≤ 1048576 ∧ r3.size ≤ 1048576) (hf : 1000 < (t1 ++ r1 ++ t2 ++ r2 ++ t3 ++ r3).size) (hG : GV w) : Calls Tryd.prog 7 #[.agg #[.string t1, .string r1], .agg #[.string t2, .string r2], .agg #[.string t3, .string r3]] w fun e w' => e = .returned (.bool true) ∧ Below w.heap.size w w' := by
  have hb0 : Below w.heap.size w (w.alloc (.cells #[.string t1, .string r1] 33)) := below_alloc (B0 w) _
  have hb1 := below_alloc (B0 (w.alloc (.cells #[.string t1, .string r1] 33))) (.cells #[.string t2, .string r2] 33)
  have hb2 := below_alloc (B0 ((w.alloc (.cells #[.string t1, .string r1] 33)).alloc (.cells #[.string t2, .string r2] 33))) (.cells #[.string t3, .string r3] 33)
  have HB0 := Aside0.mk (below_step (below_step hb0 hb1) hb2)
  have HG0 := Aside0.mk (((hG.below hb0).below hb1).below hb2)
  have f0 := blk_new w (.cells #[.string t1, .string r1] 33)
  have f1 := blk_new (w.alloc (.cells #[.string t1, .string r1] 33)) (.cells #[.string t2, .string r2] 33)
  have f2 := blk_new ((w.alloc (.cells #[.string t1, .string r1] 33)).alloc (.cells #[.string t2, .string r2] 33)) (.cells #[.string t3, .string r3] 33)
  have f1' := blk_below f1 hb2
  rw [World.size_alloc] at f1'
  rw [World.size_alloc, World.size_alloc] at f2
  have F0 := Aside0.mk (blk_below (blk_below f0 hb1) hb2)
  have F1 := Aside0.mk f1'
  have F2 := Aside0.mk f2
  have z1 : (t1).size + r1.size ≤ 9223372036854775807 := by omega
  have z2 : (t1 ++ r1).size + t2.size ≤ 9223372036854775807 := by simp only [ByteArray.size_append]; omega
  have z3 : (t1 ++ r1 ++ t2).size + r2.size ≤ 9223372036854775807 := by simp only [ByteArray.size_append]; omega
  have z4 : (t1 ++ r1 ++ t2 ++ r2).size + t3.size ≤ 9223372036854775807 := by simp only [ByteArray.size_append]; omega
  have z5 : (t1 ++ r1 ++ t2 ++ r2 ++ t3).size + r3.size ≤ 9223372036854775807 := by simp only [ByteArray.size_append]; omega
  clear hG hb0 hb1 hb2 f0 f1 f1' f2
  have d1 : decide (1000 < (t1 ++ r1 ++ t2 ++ r2 ++ t3 ++ r3).size) = true := decide_eq_true hf
  have d2 : decide ((1000 : Int) < (t1.size : Int) + (r1.size : Int) + (t2.size : Int) + (r2.size : Int) + (t3.size : Int) + (r3.size : Int)) = true := decide_eq_true (by simp only [ByteArray.size_append] at hf; omega)
  clear hf hm
  go_enter Tryd.func7, Tryd.ntmps7
  go_wp2_with fail
  refine (awake_any _ HG0.out).mono ?_
  rintro e w1 ⟨rfl, hb⟩
  have HB1 := Aside0.mk (below_step HB0.out hb)
  have HG1 := Aside0.mk (HG0.out.below hb)
  have G0 := Aside0.mk (blk_below F0.out hb)
  clear F0
  have F0 := G0
  clear G0
  have G1 := Aside0.mk (blk_below F1.out hb)
  clear F1
  have F1 := G1
  clear G1
  have G2 := Aside0.mk (blk_below F2.out hb)
  clear F2
  have F2 := G2
  clear G2
  have k0 := (blk_cell F0.out 0).trans (show _ = some _ from rfl)
  have k1 := (blk_cell F0.out 1).trans (show _ = some _ from rfl)
  have k2 := (blk_cell F1.out 0).trans (show _ = some _ from rfl)
  have k3 := (blk_cell F1.out 1).trans (show _ = some _ from rfl)
  have k4 := (blk_cell F2.out 0).trans (show _ = some _ from rfl)
  have k5 := (blk_cell F2.out 1).trans (show _ = some _ from rfl)
  clear hb
  go_wp2_with fail
  refine (awake_any w1 HG1.out).mono ?_
  rintro e w2 ⟨rfl, hb⟩
  have HB2 := Aside0.mk (below_step HB1.out hb)
  clear hb
  go_wp2
  go_ret
  exact ⟨rfl, HB2.out⟩

set_option maxRecDepth 100000 in
set_option maxHeartbeats 40000000 in
theorem near_walk (t1 r1 t2 r2 t3 r3 : ByteArray) (w : World) (hm : t1.size ≤ 1048576 ∧ r1.size ≤ 1048576 ∧ t2.size ≤ 1048576 ∧ r2.size ≤ 1048576 ∧ t3.size ≤ 1048576 ∧ r3.size ≤ 1048576) (hf : (t1 ++ r1 ++ t2 ++ r2 ++ t3 ++ r3).size ≤ 1000) (hG : GV w) : Calls Tryd.prog 7 #[.agg #[.string t1, .string r1], .agg #[.string t2, .string r2], .agg #[.string t3, .string r3]] w fun e w' => e = .returned (.bool true) ∧ Below w.heap.size w w' := by
  have hb0 : Below w.heap.size w (w.alloc (.cells #[.string t1, .string r1] 33)) := below_alloc (B0 w) _
  have hb1 := below_alloc (B0 (w.alloc (.cells #[.string t1, .string r1] 33))) (.cells #[.string t2, .string r2] 33)
  have hb2 := below_alloc (B0 ((w.alloc (.cells #[.string t1, .string r1] 33)).alloc (.cells #[.string t2, .string r2] 33))) (.cells #[.string t3, .string r3] 33)
  have HB0 := Aside0.mk (below_step (below_step hb0 hb1) hb2)
  have HG0 := Aside0.mk (((hG.below hb0).below hb1).below hb2)
  have f0 := blk_new w (.cells #[.string t1, .string r1] 33)
  have f1 := blk_new (w.alloc (.cells #[.string t1, .string r1] 33)) (.cells #[.string t2, .string r2] 33)
  have f2 := blk_new ((w.alloc (.cells #[.string t1, .string r1] 33)).alloc (.cells #[.string t2, .string r2] 33)) (.cells #[.string t3, .string r3] 33)
  have f1' := blk_below f1 hb2
  rw [World.size_alloc] at f1'
  rw [World.size_alloc, World.size_alloc] at f2
  have F0 := Aside0.mk (blk_below (blk_below f0 hb1) hb2)
  have F1 := Aside0.mk f1'
  have F2 := Aside0.mk f2
  have z1 : (t1).size + r1.size ≤ 9223372036854775807 := by omega
  have z2 : (t1 ++ r1).size + t2.size ≤ 9223372036854775807 := by simp only [ByteArray.size_append]; omega
  have z3 : (t1 ++ r1 ++ t2).size + r2.size ≤ 9223372036854775807 := by simp only [ByteArray.size_append]; omega
  have z4 : (t1 ++ r1 ++ t2 ++ r2).size + t3.size ≤ 9223372036854775807 := by simp only [ByteArray.size_append]; omega
  have z5 : (t1 ++ r1 ++ t2 ++ r2 ++ t3).size + r3.size ≤ 9223372036854775807 := by simp only [ByteArray.size_append]; omega
  clear hG hb0 hb1 hb2 f0 f1 f1' f2
  have d1 : decide (1000 < (t1 ++ r1 ++ t2 ++ r2 ++ t3 ++ r3).size) = false := decide_eq_false (by omega)
  have d2 : decide ((1000 : Int) < (t1.size : Int) + (r1.size : Int) + (t2.size : Int) + (r2.size : Int) + (t3.size : Int) + (r3.size : Int)) = false := decide_eq_false (by simp only [ByteArray.size_append] at hf; omega)
  have HS := Aside0.mk (show t1.size ≤ 1000 ∧ r1.size ≤ 1000 ∧ t2.size ≤ 1000 ∧ r2.size ≤ 1000 from by simp only [ByteArray.size_append] at hf; omega)
  obtain ⟨n, hn⟩ : ∃ n, n = cmpA t1 r1 t2 r2 := ⟨_, rfl⟩
  obtain ⟨p, hp⟩ : ∃ p, p = cmpA t2 r2 t3 r3 := ⟨_, rfl⟩
  obtain ⟨q, hq⟩ : ∃ q, q = cmpA t1 r1 t3 r3 := ⟨_, rfl⟩
  have hnr := cmpA_range t1 r1 t2 r2
  have htr : n ≤ 0 → p ≤ 0 → q ≤ 0 := fun a b => by rw [hq]; exact cmpA_trans (by rw [← hn]; exact a) (by rw [← hp]; exact b)
  have hz : n = 0 → t1 = t2 ∧ r1 = r2 := fun a => cmpA_zero (by rw [← hn]; exact a)
  have hnz : n ≠ 0 → ¬ (t1 = t2 ∧ r1 = r2) := fun a b => a (by rw [hn, b.1, b.2]; exact cmpA_self _ _)
  have HNS := Aside0.mk (show cmpA t2 r2 t1 r1 = -n from by rw [hn]; exact cmpA_swap _ _ _ _)
  have HN := Aside0.mk hn
  have HPP := Aside0.mk hp
  have HQ := Aside0.mk hq
  have HNR := Aside0.mk (show n = -1 ∨ n = 0 ∨ n = 1 from by rw [hn]; exact hnr)
  have HTR := Aside0.mk htr
  have HZ := Aside0.mk hz
  have HNZ := Aside0.mk hnz
  clear hf hm hn hp hq hnr htr hz hnz
  go_enter Tryd.func7, Tryd.ntmps7
  go_wp2_with fail
  refine (awake_any _ HG0.out).mono ?_
  rintro e w1 ⟨rfl, hb⟩
  have HB1 := Aside0.mk (below_step HB0.out hb)
  have HG1 := Aside0.mk (HG0.out.below hb)
  have G0 := Aside0.mk (blk_below F0.out hb)
  clear F0
  have F0 := G0
  clear G0
  have G1 := Aside0.mk (blk_below F1.out hb)
  clear F1
  have F1 := G1
  clear G1
  have G2 := Aside0.mk (blk_below F2.out hb)
  clear F2
  have F2 := G2
  clear G2
  have k0 := (blk_cell F0.out 0).trans (show _ = some _ from rfl)
  have k1 := (blk_cell F0.out 1).trans (show _ = some _ from rfl)
  have k2 := (blk_cell F1.out 0).trans (show _ = some _ from rfl)
  have k3 := (blk_cell F1.out 1).trans (show _ = some _ from rfl)
  have k4 := (blk_cell F2.out 0).trans (show _ = some _ from rfl)
  have k5 := (blk_cell F2.out 1).trans (show _ = some _ from rfl)
  clear hb
  go_wp2_with fail
  refine (compare_any t1 r1 t2 r2 _).mono ?_
  rintro e w2 ⟨rfl, hb⟩
  have HB2 := Aside0.mk (below_step HB1.out hb)
  have G0 := Aside0.mk (blk_below F0.out hb)
  clear F0
  have F0 := G0
  clear G0
  have G1 := Aside0.mk (blk_below F1.out hb)
  clear F1
  have F1 := G1
  clear G1
  have G2 := Aside0.mk (blk_below F2.out hb)
  clear F2
  have F2 := G2
  clear G2
  clear hb k0 k1 k2 k3 k4 k5
  have k0 := (blk_cell F0.out 0).trans (show _ = some _ from rfl)
  have k1 := (blk_cell F0.out 1).trans (show _ = some _ from rfl)
  have k2 := (blk_cell F1.out 0).trans (show _ = some _ from rfl)
  have k3 := (blk_cell F1.out 1).trans (show _ = some _ from rfl)
  have k4 := (blk_cell F2.out 0).trans (show _ = some _ from rfl)
  have k5 := (blk_cell F2.out 1).trans (show _ = some _ from rfl)
  rw [← HN.out]
  go_wp2_with fail
  refine (refcompare_any t1 r1 t2 r2 _ HS.out).mono ?_
  rintro e w3 ⟨rfl, hb⟩
  have HB3 := Aside0.mk (below_step HB2.out hb)
  have G0 := Aside0.mk (blk_below F0.out hb)
  clear F0
  have F0 := G0
  clear G0
  have G1 := Aside0.mk (blk_below F1.out hb)
  clear F1
  have F1 := G1
  clear G1
  have G2 := Aside0.mk (blk_below F2.out hb)
  clear F2
  have F2 := G2
  clear G2
  clear hb k0 k1 k2 k3 k4 k5
  have k0 := (blk_cell F0.out 0).trans (show _ = some _ from rfl)
  have k1 := (blk_cell F0.out 1).trans (show _ = some _ from rfl)
  have k2 := (blk_cell F1.out 0).trans (show _ = some _ from rfl)
  have k3 := (blk_cell F1.out 1).trans (show _ = some _ from rfl)
  have k4 := (blk_cell F2.out 0).trans (show _ = some _ from rfl)
  have k5 := (blk_cell F2.out 1).trans (show _ = some _ from rfl)
  rw [← HN.out]
  rcases HNR.out with rfl | rfl | rfl
  · have HX := 0
    go_wp2_with fail
    refine (compare_any t2 r2 t1 r1 _).mono ?_
    rintro e w4 ⟨rfl, hb⟩
    have HB4 := Aside0.mk (below_step HB3.out hb)
    have G0 := Aside0.mk (blk_below F0.out hb)
    clear F0
    have F0 := G0
    clear G0
    have G1 := Aside0.mk (blk_below F1.out hb)
    clear F1
    have F1 := G1
    clear G1
    have G2 := Aside0.mk (blk_below F2.out hb)
    clear F2
    have F2 := G2
    clear G2
    clear hb k0 k1 k2 k3 k4 k5
    have k0 := (blk_cell F0.out 0).trans (show _ = some _ from rfl)
    have k1 := (blk_cell F0.out 1).trans (show _ = some _ from rfl)
    have k2 := (blk_cell F1.out 0).trans (show _ = some _ from rfl)
    have k3 := (blk_cell F1.out 1).trans (show _ = some _ from rfl)
    have k4 := (blk_cell F2.out 0).trans (show _ = some _ from rfl)
    have k5 := (blk_cell F2.out 1).trans (show _ = some _ from rfl)
    rw [HNS.out]
    have hne := HNZ.out (by decide)
    by_cases ht : t1 = t2
    · have hr : r1 ≠ r2 := fun e => hne ⟨ht, e⟩
      have q1 : t1.toList = t2.toList := by rw [ht]
      have q2 : ¬ r1.toList = r2.toList := fun e => hr (by rw [ByteArray.toList_eq, ByteArray.toList_eq] at e; exact ByteArray.ext (Array.toList_inj.mp e))
      clear hne ht hr
      go_wp2_with fail
      refine (compare_any t2 r2 t3 r3 _).mono ?_
      rintro e w5 ⟨rfl, hb⟩
      have HB5 := Aside0.mk (below_step HB4.out hb)
      have G0 := Aside0.mk (blk_below F0.out hb)
      clear F0
      have F0 := G0
      clear G0
      have G1 := Aside0.mk (blk_below F1.out hb)
      clear F1
      have F1 := G1
      clear G1
      have G2 := Aside0.mk (blk_below F2.out hb)
      clear F2
      have F2 := G2
      clear G2
      clear hb k0 k1 k2 k3 k4 k5
      have k0 := (blk_cell F0.out 0).trans (show _ = some _ from rfl)
      have k1 := (blk_cell F0.out 1).trans (show _ = some _ from rfl)
      have k2 := (blk_cell F1.out 0).trans (show _ = some _ from rfl)
      have k3 := (blk_cell F1.out 1).trans (show _ = some _ from rfl)
      have k4 := (blk_cell F2.out 0).trans (show _ = some _ from rfl)
      have k5 := (blk_cell F2.out 1).trans (show _ = some _ from rfl)
      rw [← HPP.out]
      by_cases h5 : 0 < p
      · have e5 : decide (0 < p) = true := decide_eq_true h5
        go_wp2
        go_ret
        exact ⟨rfl, HB5.out⟩
      · have e5 : decide (0 < p) = false := decide_eq_false h5
        have h6 := HTR.out (by decide) (by omega)
        have e6 : decide (q ≤ 0) = true := decide_eq_true h6
        clear h5 h6
        go_wp2_with fail
        refine (compare_any t1 r1 t3 r3 _).mono ?_
        rintro e w6 ⟨rfl, hb⟩
        have HB6 := Aside0.mk (below_step HB5.out hb)
        clear hb
        rw [← HQ.out]
        go_wp2
        go_ret
        exact ⟨rfl, HB6.out⟩
    · have q1 : ¬ t1.toList = t2.toList := fun e => ht (by rw [ByteArray.toList_eq, ByteArray.toList_eq] at e; exact ByteArray.ext (Array.toList_inj.mp e))
      clear hne ht
      go_wp2_with fail
      refine (compare_any t2 r2 t3 r3 _).mono ?_
      rintro e w5 ⟨rfl, hb⟩
      have HB5 := Aside0.mk (below_step HB4.out hb)
      have G0 := Aside0.mk (blk_below F0.out hb)
      clear F0
      have F0 := G0
      clear G0
      have G1 := Aside0.mk (blk_below F1.out hb)
      clear F1
      have F1 := G1
      clear G1
      have G2 := Aside0.mk (blk_below F2.out hb)
      clear F2
      have F2 := G2
      clear G2
      clear hb k0 k1 k2 k3 k4 k5
      have k0 := (blk_cell F0.out 0).trans (show _ = some _ from rfl)
      have k1 := (blk_cell F0.out 1).trans (show _ = some _ from rfl)
      have k2 := (blk_cell F1.out 0).trans (show _ = some _ from rfl)
      have k3 := (blk_cell F1.out 1).trans (show _ = some _ from rfl)
      have k4 := (blk_cell F2.out 0).trans (show _ = some _ from rfl)
      have k5 := (blk_cell F2.out 1).trans (show _ = some _ from rfl)
      rw [← HPP.out]
      by_cases h5 : 0 < p
      · have e5 : decide (0 < p) = true := decide_eq_true h5
        go_wp2
        go_ret
        exact ⟨rfl, HB5.out⟩
      · have e5 : decide (0 < p) = false := decide_eq_false h5
        have h6 := HTR.out (by decide) (by omega)
        have e6 : decide (q ≤ 0) = true := decide_eq_true h6
        clear h5 h6
        go_wp2_with fail
        refine (compare_any t1 r1 t3 r3 _).mono ?_
        rintro e w6 ⟨rfl, hb⟩
        have HB6 := Aside0.mk (below_step HB5.out hb)
        clear hb
        rw [← HQ.out]
        go_wp2
        go_ret
        exact ⟨rfl, HB6.out⟩
  · obtain ⟨rfl, rfl⟩ := HZ.out rfl
    go_wp2_with fail
    refine (compare_any t1 r1 t1 r1 _).mono ?_
    rintro e w4 ⟨rfl, hb⟩
    have HB4 := Aside0.mk (below_step HB3.out hb)
    have G0 := Aside0.mk (blk_below F0.out hb)
    clear F0
    have F0 := G0
    clear G0
    have G1 := Aside0.mk (blk_below F1.out hb)
    clear F1
    have F1 := G1
    clear G1
    have G2 := Aside0.mk (blk_below F2.out hb)
    clear F2
    have F2 := G2
    clear G2
    clear hb k0 k1 k2 k3 k4 k5
    have k0 := (blk_cell F0.out 0).trans (show _ = some _ from rfl)
    have k1 := (blk_cell F0.out 1).trans (show _ = some _ from rfl)
    have k2 := (blk_cell F1.out 0).trans (show _ = some _ from rfl)
    have k3 := (blk_cell F1.out 1).trans (show _ = some _ from rfl)
    have k4 := (blk_cell F2.out 0).trans (show _ = some _ from rfl)
    have k5 := (blk_cell F2.out 1).trans (show _ = some _ from rfl)
    rw [HNS.out]
    go_wp2_with fail
    refine (compare_any t1 r1 t3 r3 _).mono ?_
    rintro e w5 ⟨rfl, hb⟩
    have HB5 := Aside0.mk (below_step HB4.out hb)
    have G0 := Aside0.mk (blk_below F0.out hb)
    clear F0
    have F0 := G0
    clear G0
    have G1 := Aside0.mk (blk_below F1.out hb)
    clear F1
    have F1 := G1
    clear G1
    have G2 := Aside0.mk (blk_below F2.out hb)
    clear F2
    have F2 := G2
    clear G2
    clear hb k0 k1 k2 k3 k4 k5
    have k0 := (blk_cell F0.out 0).trans (show _ = some _ from rfl)
    have k1 := (blk_cell F0.out 1).trans (show _ = some _ from rfl)
    have k2 := (blk_cell F1.out 0).trans (show _ = some _ from rfl)
    have k3 := (blk_cell F1.out 1).trans (show _ = some _ from rfl)
    have k4 := (blk_cell F2.out 0).trans (show _ = some _ from rfl)
    have k5 := (blk_cell F2.out 1).trans (show _ = some _ from rfl)
    rw [← HPP.out]
    by_cases h5 : 0 < p
    · have e5 : decide (0 < p) = true := decide_eq_true h5
      go_wp2
      go_ret
      exact ⟨rfl, HB5.out⟩
    · have e5 : decide (0 < p) = false := decide_eq_false h5
      have h6 := HTR.out (by decide) (by omega)
      have e6 : decide (q ≤ 0) = true := decide_eq_true h6
      clear h5 h6
      go_wp2_with fail
      refine (compare_any t1 r1 t3 r3 _).mono ?_
      rintro e w6 ⟨rfl, hb⟩
      have HB6 := Aside0.mk (below_step HB5.out hb)
      clear hb
      rw [← HQ.out]
      go_wp2
      go_ret
      exact ⟨rfl, HB6.out⟩
  · have HX := 0
    go_wp2_with fail
    refine (compare_any t2 r2 t1 r1 _).mono ?_
    rintro e w4 ⟨rfl, hb⟩
    have HB4 := Aside0.mk (below_step HB3.out hb)
    have G0 := Aside0.mk (blk_below F0.out hb)
    clear F0
    have F0 := G0
    clear G0
    have G1 := Aside0.mk (blk_below F1.out hb)
    clear F1
    have F1 := G1
    clear G1
    have G2 := Aside0.mk (blk_below F2.out hb)
    clear F2
    have F2 := G2
    clear G2
    clear hb k0 k1 k2 k3 k4 k5
    have k0 := (blk_cell F0.out 0).trans (show _ = some _ from rfl)
    have k1 := (blk_cell F0.out 1).trans (show _ = some _ from rfl)
    have k2 := (blk_cell F1.out 0).trans (show _ = some _ from rfl)
    have k3 := (blk_cell F1.out 1).trans (show _ = some _ from rfl)
    have k4 := (blk_cell F2.out 0).trans (show _ = some _ from rfl)
    have k5 := (blk_cell F2.out 1).trans (show _ = some _ from rfl)
    rw [HNS.out]
    have hne := HNZ.out (by decide)
    by_cases ht : t1 = t2
    · have hr : r1 ≠ r2 := fun e => hne ⟨ht, e⟩
      have q1 : t1.toList = t2.toList := by rw [ht]
      have q2 : ¬ r1.toList = r2.toList := fun e => hr (by rw [ByteArray.toList_eq, ByteArray.toList_eq] at e; exact ByteArray.ext (Array.toList_inj.mp e))
      clear hne ht hr
      go_wp2
      go_ret
      exact ⟨rfl, HB4.out⟩
    · have q1 : ¬ t1.toList = t2.toList := fun e => ht (by rw [ByteArray.toList_eq, ByteArray.toList_eq] at e; exact ByteArray.ext (Array.toList_inj.mp e))
      clear hne ht
      go_wp2
      go_ret
      exact ⟨rfl, HB4.out⟩

theorem walk_compares (t1 r1 t2 r2 t3 r3 : ByteArray) (w : World) (hm : t1.size ≤ 1048576 ∧ r1.size ≤ 1048576 ∧ t2.size ≤ 1048576 ∧ r2.size ≤ 1048576 ∧ t3.size ≤ 1048576 ∧ r3.size ≤ 1048576) (hG : GV w) : Calls Tryd.prog 7 #[.agg #[.string t1, .string r1], .agg #[.string t2, .string r2], .agg #[.string t3, .string r3]] w fun e w' => e = .returned (.bool true) ∧ Below w.heap.size w w' := by
  by_cases hf : 1000 < (t1 ++ r1 ++ t2 ++ r2 ++ t3 ++ r3).size
  · exact far_walk t1 r1 t2 r2 t3 r3 w hm hf hG
  · exact near_walk t1 r1 t2 r2 t3 r3 w hm (by omega) hG

theorem row_compares (t1 r1 t2 r2 t3 r3 : ByteArray) (w : World) (h1 : t1.size + r1.size ≤ 1048576) (h2 : t2.size + r2.size ≤ 1048576) (h3 : t3.size + r3.size ≤ 1048576) (hG : GV w) : Calls Tryd.prog 7 #[.agg #[.string t1, .string r1], .agg #[.string t2, .string r2], .agg #[.string t3, .string r3]] w fun e w' => e = .returned (.bool true) ∧ Below w.heap.size w w' :=
  walk_compares t1 r1 t2 r2 t3 r3 w (by omega) hG

end Go.Proofs.YtpbkcfgcmknijaaDoor.HNameL3
