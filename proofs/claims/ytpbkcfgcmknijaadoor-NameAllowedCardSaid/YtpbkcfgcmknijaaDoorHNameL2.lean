/- The laws NameObjects, NameAllowed. -/
import Derived.Test.YtpbkcfgcmknijaaDoorHName5
import Derived.Test.YtpbkcfgcmknijaaDoorHNameA
namespace Go.Proofs.YtpbkcfgcmknijaaDoor.HNameL2
open Go.RowKit Go.Proofs.YtpbkcfgcmknijaaDoorW.PrintWords Go.Proofs.YtpbkcfgcmknijaaDoor.HLib Go.Proofs.YtpbkcfgcmknijaaDoor.HNameP Go.Proofs.YtpbkcfgcmknijaaDoor.HErr Go.Proofs.YtpbkcfgcmknijaaDoor.HNameR Go.Proofs.YtpbkcfgcmknijaaDoor.HName Go.Proofs.YtpbkcfgcmknijaaDoor.HNameJ Go.Proofs.YtpbkcfgcmknijaaDoor.HNameA Go.Proofs.YtpbkcfgcmknijaaDoor.HPr Go.Proofs.YtpbkcfgcmknijaaDoor.HName5
set_option linter.unusedVariables false
set_option linter.unusedSimpArgs false

theorem back_allowed (t d : ByteArray) (hp : allP t d = true) : parseA (allT t d) = (t, d, none) := by
  simp only [allP, Bool.and_eq_true, Bool.or_eq_true, decide_eq_true_eq] at hp
  unfold allT
  split
  · rename_i h0
    rw [empty_of_size h0]
    exact parseA_one t hp.1
  · rename_i h0
    exact parseA_join t d hp.1 (hp.2.resolve_left h0)

set_option maxRecDepth 100000 in
set_option maxHeartbeats 4000000 in
theorem nameobjects_far (t d : ByteArray) (w : World) (hf : 300 < t.size ∨ 300 < d.size) (hG : GV w) : Calls Tryd.prog 5 #[.agg #[.string t, .string d]] w fun e w' => e = .returned (.bool true) ∧ Below w.heap.size w w' := by
  obtain ⟨w0, hw0⟩ : ∃ u, u = w.alloc (.cells #[.string t, .string d] 25) := ⟨_, rfl⟩
  have HB0 : Aside0 (Below w.heap.size w w0) := ⟨by rw [hw0]; exact below_alloc (B0 w) _⟩
  have HG0 := Aside0.mk (hG.below HB0.out)
  have F := Aside0.mk (show w0.heap[w.heap.size]? = some (.cells #[.string t, .string d] 25 (0, 0)) from by rw [hw0]; exact blk_new w _)
  clear hG
  by_cases h1 : 300 < t.size
  · have d1 : decide (300 < t.size) = true := decide_eq_true h1
    have d2 : decide ((300 : Int) < (t.size : Int)) = true := decide_eq_true (by omega)
    clear h1 hf
    go_enter Tryd.func5, Tryd.ntmps5
    go_wp2_with fail
    rw [← hw0]
    clear hw0
    refine (awake_any _ HG0.out).mono ?_
    rintro e w1 ⟨rfl, hb1⟩
    have HB1 := Aside0.mk (below_step HB0.out hb1)
    have HG1 := Aside0.mk (HG0.out.below hb1)
    have k1 := (blk_cell (blk_below F.out hb1) 0).trans (show _ = some _ from rfl)
    clear hb1
    go_wp2_with fail
    refine (awake_any w1 HG1.out).mono ?_
    rintro e w2 ⟨rfl, hb2⟩
    have HB2 := Aside0.mk (below_step HB1.out hb2)
    clear hb2
    go_wp2
    go_ret
    exact ⟨rfl, HB2.out⟩
  · have d1 : decide (300 < t.size) = false := decide_eq_false h1
    have d2 : decide ((300 : Int) < (t.size : Int)) = false := decide_eq_false (by omega)
    have d3 : decide (300 < d.size) = true := decide_eq_true (by omega)
    have d4 : decide ((300 : Int) < (d.size : Int)) = true := decide_eq_true (by omega)
    clear h1 hf
    go_enter Tryd.func5, Tryd.ntmps5
    go_wp2_with fail
    rw [← hw0]
    clear hw0
    refine (awake_any _ HG0.out).mono ?_
    rintro e w1 ⟨rfl, hb1⟩
    have HB1 := Aside0.mk (below_step HB0.out hb1)
    have HG1 := Aside0.mk (HG0.out.below hb1)
    have k1 := (blk_cell (blk_below F.out hb1) 0).trans (show _ = some _ from rfl)
    have k2 := (blk_cell (blk_below F.out hb1) 1).trans (show _ = some _ from rfl)
    clear hb1
    go_wp2_with fail
    refine (awake_any w1 HG1.out).mono ?_
    rintro e w2 ⟨rfl, hb2⟩
    have HB2 := Aside0.mk (below_step HB1.out hb2)
    clear hb2
    go_wp2
    go_ret
    exact ⟨rfl, HB2.out⟩

set_option maxRecDepth 100000 in
set_option maxHeartbeats 4000000 in
theorem nameobjects_near (t d : ByteArray) (w : World) (hf : t.size ≤ 300 ∧ d.size ≤ 300) (hG : GV w) : Calls Tryd.prog 5 #[.agg #[.string t, .string d]] w fun e w' => e = .returned (.bool true) ∧ Below w.heap.size w w' := by
  obtain ⟨w0, hw0⟩ : ∃ u, u = w.alloc (.cells #[.string t, .string d] 25) := ⟨_, rfl⟩
  have HB0 : Aside0 (Below w.heap.size w w0) := ⟨by rw [hw0]; exact below_alloc (B0 w) _⟩
  have HG0 := Aside0.mk (hG.below HB0.out)
  have F := Aside0.mk (show w0.heap[w.heap.size]? = some (.cells #[.string t, .string d] 25 (0, 0)) from by rw [hw0]; exact blk_new w _)
  have d1 : decide (300 < t.size) = false := decide_eq_false (by omega)
  have d2 : decide ((300 : Int) < (t.size : Int)) = false := decide_eq_false (by omega)
  have d3 : decide (300 < d.size) = false := decide_eq_false (by omega)
  have d4 : decide ((300 : Int) < (d.size : Int)) = false := decide_eq_false (by omega)
  have HS := Aside0.mk hf
  clear hG hf
  cases hp : objP t d with
  | false =>
    have HP := Aside0.mk hp
    have HX := Aside0.mk (show objS t d = ⟨#[]⟩ from by unfold objS; rw [hp]; rfl)
    clear hp
    go_enter Tryd.func5, Tryd.ntmps5
    go_wp2_with fail
    rw [← hw0]
    clear hw0
    refine (awake_any _ HG0.out).mono ?_
    rintro e w1 ⟨rfl, hb1⟩
    have HB1 := Aside0.mk (below_step HB0.out hb1)
    have HG1 := Aside0.mk (HG0.out.below hb1)
    have F1 := Aside0.mk (blk_below F.out hb1)
    have k1 := (blk_cell F1.out 0).trans (show _ = some _ from rfl)
    have k2 := (blk_cell F1.out 1).trans (show _ = some _ from rfl)
    clear hb1
    go_wp2_with fail
    refine (object_any _ _ _ HG1.out.1).mono ?_
    rintro e w2 ⟨rfl, hb2⟩
    rw [HP.out, HX.out]
    have HB2 := Aside0.mk (below_step HB1.out hb2)
    have F2 := Aside0.mk (blk_below F1.out hb2)
    clear k1 k2
    have k1 := (blk_cell F2.out 0).trans (show _ = some _ from rfl)
    have k2 := (blk_cell F2.out 1).trans (show _ = some _ from rfl)
    clear hb2
    go_wp2_with fail
    refine (rightobject_any _ _ _ (by have := HS.out; omega)).mono ?_
    rintro e w3 ⟨rfl, hb3⟩
    rw [HP.out]
    have HB3 := Aside0.mk (below_step HB2.out hb3)
    clear hb3
    go_wp2
    go_ret
    exact ⟨rfl, HB3.out⟩
  | true =>
    have HP := Aside0.mk hp
    have HX := Aside0.mk (show objS t d = t ++ ⟨#[58]⟩ ++ d from by unfold objS; rw [hp]; rfl)
    have HQ := Aside0.mk (parseO_join t d (by simp only [objP, Bool.and_eq_true] at hp; exact hp.1) (by simp only [objP, Bool.and_eq_true] at hp; exact hp.2))
    have HZ := Aside0.mk (show (t ++ ⟨#[58]⟩ ++ d).size ≤ 700 from by have := HS.out; rw [join_size]; omega)
    obtain ⟨S, hS⟩ : ∃ S, S = t ++ ⟨#[58]⟩ ++ d := ⟨_, rfl⟩
    have HSE := Aside0.mk hS
    rw [← hS] at HX HQ HZ
    clear hp hS
    go_enter Tryd.func5, Tryd.ntmps5
    go_wp2_with fail
    rw [← hw0]
    clear hw0
    refine (awake_any _ HG0.out).mono ?_
    rintro e w1 ⟨rfl, hb1⟩
    have HB1 := Aside0.mk (below_step HB0.out hb1)
    have HG1 := Aside0.mk (HG0.out.below hb1)
    have F1 := Aside0.mk (blk_below F.out hb1)
    have k1 := (blk_cell F1.out 0).trans (show _ = some _ from rfl)
    have k2 := (blk_cell F1.out 1).trans (show _ = some _ from rfl)
    clear hb1
    go_wp2_with fail
    refine (object_any _ _ _ HG1.out.1).mono ?_
    rintro e w2 ⟨rfl, hb2⟩
    rw [HP.out, HX.out]
    have HB2 := Aside0.mk (below_step HB1.out hb2)
    have HG2 := Aside0.mk (HG1.out.below hb2)
    have F2 := Aside0.mk (blk_below F1.out hb2)
    clear k1 k2
    have k1 := (blk_cell F2.out 0).trans (show _ = some _ from rfl)
    have k2 := (blk_cell F2.out 1).trans (show _ = some _ from rfl)
    clear hb2
    go_wp2_with fail
    refine (rightobject_any _ _ _ (by have := HS.out; omega)).mono ?_
    rintro e w3 ⟨rfl, hb3⟩
    rw [HP.out]
    have HB3 := Aside0.mk (below_step HB2.out hb3)
    have HG3 := Aside0.mk (HG2.out.below hb3)
    have F3 := Aside0.mk (blk_below F2.out hb3)
    clear hb3 k1 k2
    go_wp2_with fail
    refine (parseobject_any _ _ (by have := HZ.out; omega) HG3.out.1).mono ?_
    rintro e w4 ⟨rfl, hb4⟩
    rw [HQ.out]
    unfold errV
    have HB4 := Aside0.mk (below_step HB3.out hb4)
    have F4 := Aside0.mk (blk_below F3.out hb4)
    clear hb4
    have HA4 : Aside0 (Below w4.heap.size w4 (w4.alloc (.cells #[.string t, .string d] 25))) := ⟨below_alloc (B0 w4) _⟩
    have k1 := (blk_cell (blk_below F4.out HA4.out) 0).trans (show _ = some _ from rfl)
    have k2 := (blk_cell (blk_below F4.out HA4.out) 1).trans (show _ = some _ from rfl)
    have HBF := Aside0.mk (below_step HB4.out HA4.out)
    have z1 : t.size + 1 ≤ 9223372036854775807 := by have := HS.out; omega
    have z2 : (t ++ (⟨#[58]⟩ : ByteArray)).size + d.size ≤ 9223372036854775807 := by have := HS.out; rw [ByteArray.size_append, show (⟨#[58]⟩ : ByteArray).size = 1 from rfl]; omega
    have q1 : S.toList = (t ++ (⟨#[58]⟩ : ByteArray) ++ d).toList := by rw [HSE.out]
    go_wp2
    go_ret
    exact ⟨rfl, HBF.out⟩

set_option maxRecDepth 100000 in
set_option maxHeartbeats 4000000 in
theorem nameallowed_far (t d : ByteArray) (w : World) (hf : 300 < t.size ∨ 300 < d.size) (hG : GV w) : Calls Tryd.prog 6 #[.agg #[.string t, .string d]] w fun e w' => e = .returned (.bool true) ∧ Below w.heap.size w w' := by
  obtain ⟨w0, hw0⟩ : ∃ u, u = w.alloc (.cells #[.string t, .string d] 33) := ⟨_, rfl⟩
  have HB0 : Aside0 (Below w.heap.size w w0) := ⟨by rw [hw0]; exact below_alloc (B0 w) _⟩
  have HG0 := Aside0.mk (hG.below HB0.out)
  have F := Aside0.mk (show w0.heap[w.heap.size]? = some (.cells #[.string t, .string d] 33 (0, 0)) from by rw [hw0]; exact blk_new w _)
  clear hG
  by_cases h1 : 300 < t.size
  · have d1 : decide (300 < t.size) = true := decide_eq_true h1
    have d2 : decide ((300 : Int) < (t.size : Int)) = true := decide_eq_true (by omega)
    clear h1 hf
    go_enter Tryd.func6, Tryd.ntmps6
    go_wp2_with fail
    rw [← hw0]
    clear hw0
    refine (awake_any _ HG0.out).mono ?_
    rintro e w1 ⟨rfl, hb1⟩
    have HB1 := Aside0.mk (below_step HB0.out hb1)
    have HG1 := Aside0.mk (HG0.out.below hb1)
    have k1 := (blk_cell (blk_below F.out hb1) 0).trans (show _ = some _ from rfl)
    clear hb1
    go_wp2_with fail
    refine (awake_any w1 HG1.out).mono ?_
    rintro e w2 ⟨rfl, hb2⟩
    have HB2 := Aside0.mk (below_step HB1.out hb2)
    clear hb2
    go_wp2
    go_ret
    exact ⟨rfl, HB2.out⟩
  · have d1 : decide (300 < t.size) = false := decide_eq_false h1
    have d2 : decide ((300 : Int) < (t.size : Int)) = false := decide_eq_false (by omega)
    have d3 : decide (300 < d.size) = true := decide_eq_true (by omega)
    have d4 : decide ((300 : Int) < (d.size : Int)) = true := decide_eq_true (by omega)
    clear h1 hf
    go_enter Tryd.func6, Tryd.ntmps6
    go_wp2_with fail
    rw [← hw0]
    clear hw0
    refine (awake_any _ HG0.out).mono ?_
    rintro e w1 ⟨rfl, hb1⟩
    have HB1 := Aside0.mk (below_step HB0.out hb1)
    have HG1 := Aside0.mk (HG0.out.below hb1)
    have k1 := (blk_cell (blk_below F.out hb1) 0).trans (show _ = some _ from rfl)
    have k2 := (blk_cell (blk_below F.out hb1) 1).trans (show _ = some _ from rfl)
    clear hb1
    go_wp2_with fail
    refine (awake_any w1 HG1.out).mono ?_
    rintro e w2 ⟨rfl, hb2⟩
    have HB2 := Aside0.mk (below_step HB1.out hb2)
    clear hb2
    go_wp2
    go_ret
    exact ⟨rfl, HB2.out⟩

set_option maxRecDepth 100000 in
set_option maxHeartbeats 4000000 in
theorem nameallowed_near (t d : ByteArray) (w : World) (hf : t.size ≤ 300 ∧ d.size ≤ 300) (hG : GV w) : Calls Tryd.prog 6 #[.agg #[.string t, .string d]] w fun e w' => e = .returned (.bool true) ∧ Below w.heap.size w w' := by
  obtain ⟨w0, hw0⟩ : ∃ u, u = w.alloc (.cells #[.string t, .string d] 33) := ⟨_, rfl⟩
  have HB0 : Aside0 (Below w.heap.size w w0) := ⟨by rw [hw0]; exact below_alloc (B0 w) _⟩
  have HG0 := Aside0.mk (hG.below HB0.out)
  have F := Aside0.mk (show w0.heap[w.heap.size]? = some (.cells #[.string t, .string d] 33 (0, 0)) from by rw [hw0]; exact blk_new w _)
  have d1 : decide (300 < t.size) = false := decide_eq_false (by omega)
  have d2 : decide ((300 : Int) < (t.size : Int)) = false := decide_eq_false (by omega)
  have d3 : decide (300 < d.size) = false := decide_eq_false (by omega)
  have d4 : decide ((300 : Int) < (d.size : Int)) = false := decide_eq_false (by omega)
  have HS := Aside0.mk hf
  clear hG hf
  cases hp : allP t d with
  | false =>
    have HP := Aside0.mk hp
    have HX := Aside0.mk (show allS t d = ⟨#[]⟩ from by unfold allS; rw [hp]; rfl)
    clear hp
    go_enter Tryd.func6, Tryd.ntmps6
    go_wp2_with fail
    rw [← hw0]
    clear hw0
    refine (awake_any _ HG0.out).mono ?_
    rintro e w1 ⟨rfl, hb1⟩
    have HB1 := Aside0.mk (below_step HB0.out hb1)
    have HG1 := Aside0.mk (HG0.out.below hb1)
    have F1 := Aside0.mk (blk_below F.out hb1)
    have k1 := (blk_cell F1.out 0).trans (show _ = some _ from rfl)
    have k2 := (blk_cell F1.out 1).trans (show _ = some _ from rfl)
    clear hb1
    go_wp2_with fail
    refine (allowed_any _ _ _ HG1.out.1).mono ?_
    rintro e w2 ⟨rfl, hb2⟩
    rw [HP.out, HX.out]
    have HB2 := Aside0.mk (below_step HB1.out hb2)
    have F2 := Aside0.mk (blk_below F1.out hb2)
    clear k1 k2
    have k1 := (blk_cell F2.out 0).trans (show _ = some _ from rfl)
    have k2 := (blk_cell F2.out 1).trans (show _ = some _ from rfl)
    clear hb2
    go_wp2_with fail
    refine (rightallowed_any _ _ _ (by have := HS.out; omega)).mono ?_
    rintro e w3 ⟨rfl, hb3⟩
    rw [HP.out]
    have HB3 := Aside0.mk (below_step HB2.out hb3)
    clear hb3
    go_wp2
    go_ret
    exact ⟨rfl, HB3.out⟩
  | true =>
    have HP := Aside0.mk hp
    have HX := Aside0.mk (show allS t d = allT t d from by unfold allS; rw [hp]; rfl)
    have HQ := Aside0.mk (back_allowed t d hp)
    have HZ := Aside0.mk (show (allT t d).size ≤ 700 from by have := HS.out; unfold allT; split; (· omega); (· rw [join_size]; omega))
    obtain ⟨S, hS⟩ : ∃ S, S = allT t d := ⟨_, rfl⟩
    have HSE := Aside0.mk hS
    rw [← hS] at HX HQ HZ
    clear hp hS
    go_enter Tryd.func6, Tryd.ntmps6
    go_wp2_with fail
    rw [← hw0]
    clear hw0
    refine (awake_any _ HG0.out).mono ?_
    rintro e w1 ⟨rfl, hb1⟩
    have HB1 := Aside0.mk (below_step HB0.out hb1)
    have HG1 := Aside0.mk (HG0.out.below hb1)
    have F1 := Aside0.mk (blk_below F.out hb1)
    have k1 := (blk_cell F1.out 0).trans (show _ = some _ from rfl)
    have k2 := (blk_cell F1.out 1).trans (show _ = some _ from rfl)
    clear hb1
    go_wp2_with fail
    refine (allowed_any _ _ _ HG1.out.1).mono ?_
    rintro e w2 ⟨rfl, hb2⟩
    rw [HP.out, HX.out]
    have HB2 := Aside0.mk (below_step HB1.out hb2)
    have HG2 := Aside0.mk (HG1.out.below hb2)
    have F2 := Aside0.mk (blk_below F1.out hb2)
    clear k1 k2
    have k1 := (blk_cell F2.out 0).trans (show _ = some _ from rfl)
    have k2 := (blk_cell F2.out 1).trans (show _ = some _ from rfl)
    clear hb2
    go_wp2_with fail
    refine (rightallowed_any _ _ _ (by have := HS.out; omega)).mono ?_
    rintro e w3 ⟨rfl, hb3⟩
    rw [HP.out]
    have HB3 := Aside0.mk (below_step HB2.out hb3)
    have HG3 := Aside0.mk (HG2.out.below hb3)
    have F3 := Aside0.mk (blk_below F2.out hb3)
    clear hb3 k1 k2
    go_wp2_with fail
    refine (parseallowed_any _ _ (by have := HZ.out; omega) HG3.out.1).mono ?_
    rintro e w4 ⟨rfl, hb4⟩
    rw [HQ.out]
    unfold errV
    have HB4 := Aside0.mk (below_step HB3.out hb4)
    have F4 := Aside0.mk (blk_below F3.out hb4)
    clear hb4
    have HA4 : Aside0 (Below w4.heap.size w4 (w4.alloc (.cells #[.string t, .string d] 33))) := ⟨below_alloc (B0 w4) _⟩
    have k1 := (blk_cell (blk_below F4.out HA4.out) 0).trans (show _ = some _ from rfl)
    have k2 := (blk_cell (blk_below F4.out HA4.out) 1).trans (show _ = some _ from rfl)
    have HBF := Aside0.mk (below_step HB4.out HA4.out)
    go_wp2_with fail
    refine (refallowed_any _ _ _ (by have := HS.out; omega) (by have := HS.out; omega)).mono ?_
    rintro e w5 ⟨rfl, hb5⟩
    have HB5 := Aside0.mk (below_step HBF.out hb5)
    clear k1 k2
    have k1 := (blk_cell (blk_below (blk_below F4.out HA4.out) hb5) 0).trans (show _ = some _ from rfl)
    have k2 := (blk_cell (blk_below (blk_below F4.out HA4.out) hb5) 1).trans (show _ = some _ from rfl)
    have k3 := (blk_cell (blk_below (blk_new w4 (.cells #[.string t, .string d] 33)) hb5) 0).trans (show _ = some _ from rfl)
    have k4 := (blk_cell (blk_below (blk_new w4 (.cells #[.string t, .string d] 33)) hb5) 1).trans (show _ = some _ from rfl)
    clear hb5
    rw [← HSE.out]
    go_wp2
    go_ret
    exact ⟨rfl, HB5.out⟩

theorem row_objects (t d : ByteArray) (w : World) (hm : t.size ≤ maxLen ∧ d.size ≤ maxLen) (hG : GV w) : Calls Tryd.prog 5 #[.agg #[.string t, .string d]] w fun e w' => e = .returned (.bool true) ∧ Below w.heap.size w w' := by
  by_cases hf : 300 < t.size ∨ 300 < d.size
  · exact nameobjects_far t d w hf hG
  · exact nameobjects_near t d w (by omega) hG
theorem row_allowed (t d : ByteArray) (w : World) (hm : t.size ≤ maxLen ∧ d.size ≤ maxLen) (hG : GV w) : Calls Tryd.prog 6 #[.agg #[.string t, .string d]] w fun e w' => e = .returned (.bool true) ∧ Below w.heap.size w w' := by
  by_cases hf : 300 < t.size ∨ 300 < d.size
  · exact nameallowed_far t d w hf hG
  · exact nameallowed_near t d w (by omega) hG
end Go.Proofs.YtpbkcfgcmknijaaDoor.HNameL2
