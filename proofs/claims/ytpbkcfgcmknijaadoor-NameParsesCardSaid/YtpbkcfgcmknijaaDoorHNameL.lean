/- The laws of the package name, walked. -/
import Derived.Test.YtpbkcfgcmknijaaDoorHNameA
namespace Go.Proofs.YtpbkcfgcmknijaaDoor.HNameL
open Go.RowKit Go.Proofs.YtpbkcfgcmknijaaDoorW.PrintWords Go.Proofs.YtpbkcfgcmknijaaDoor.HLib Go.Proofs.YtpbkcfgcmknijaaDoor.HNameP Go.Proofs.YtpbkcfgcmknijaaDoor.HErr Go.Proofs.YtpbkcfgcmknijaaDoor.HNameR Go.Proofs.YtpbkcfgcmknijaaDoor.HName Go.Proofs.YtpbkcfgcmknijaaDoor.HNameA Go.Proofs.YtpbkcfgcmknijaaDoor.HPr
set_option linter.unusedVariables false
set_option linter.unusedSimpArgs false

theorem gv_drawn {w w1 : World} (h : GV w) (hd : Drawn0 w w1) : GV w1 := by
  obtain ⟨⟨m, rfl⟩⟩ := hd
  exact h
theorem below_drawn {w0 w w1 : World} {n : Nat} (h : Below n w0 w) (hd : Drawn0 w w1) : Below n w0 w1 := by
  obtain ⟨⟨m, rfl⟩⟩ := hd
  exact pw_below_drewN h m

theorem plain_names (s : ByteArray) : (isP s == isP s && (idP s == idP s && (resP s == resP s && (!isP s || idP s)))) = true := by
  cases h : isP s with
  | false => simp
  | true => simp [id_of_name h]

set_option maxRecDepth 100000 in
set_option maxHeartbeats 4000000 in
theorem walk_matches (s : ByteArray) (w : World) (hs : s.size ≤ maxLen) (hG : GV w) : Calls Tryd.prog 3 #[.string s] w fun e w' => e = .returned (.bool true) ∧ Below w.heap.size w w' := by
  have HG := Aside0.mk hG
  clear hG
  by_cases hl : 500 < s.size
  · have d1 : decide (500 < s.size) = true := decide_eq_true hl
    have d2 : decide ((500 : Int) < (s.size : Int)) = true := decide_eq_true (by omega)
    clear hl
    go_enter Tryd.func3, Tryd.ntmps3
    go_wp2_with fail
    refine (awake_any w HG.out).mono ?_
    rintro e w1 ⟨rfl, hb1⟩
    have HB1 := Aside0.mk hb1
    clear hb1
    go_wp2_with fail
    refine (awake_any w1 (HG.out.below HB1.out)).mono ?_
    rintro e w2 ⟨rfl, hb2⟩
    have HB2 := Aside0.mk (below_step HB1.out hb2)
    clear hb2
    go_wp2
    go_ret
    exact ⟨rfl, HB2.out⟩
  · have d1 : decide (500 < s.size) = false := decide_eq_false hl
    have d2 : decide ((500 : Int) < (s.size : Int)) = false := decide_eq_false (by omega)
    have HL := Aside0.mk (show s.size ≤ 1099511627776 by omega)
    have HI := Aside0.mk (fun h : isP s = true => id_of_name h)
    clear hl
    go_enter Tryd.func3, Tryd.ntmps3
    go_wp2_with fail
    refine (awake_any w HG.out).mono ?_
    rintro e w1 ⟨rfl, hb1⟩
    have HB1 := Aside0.mk hb1
    have HG1 := Aside0.mk (HG.out.below hb1)
    clear hb1
    go_wp2_with fail
    refine (is_any _ _ HG1.out.1).mono ?_
    rintro e w2 ⟨rfl, rfl⟩
    go_wp2_with fail
    refine (refis_any _ _).mono ?_
    rintro e w2 ⟨rfl, hd⟩
    have HB2 := Aside0.mk (below_drawn HB1.out hd)
    have HG2 := Aside0.mk (gv_drawn HG1.out hd)
    clear hd
    obtain ⟨I, hI⟩ : ∃ I, I = isP s := ⟨_, rfl⟩
    rw [← hI] at HI ⊢
    have HIE := Aside0.mk hI
    clear hI
    go_wp2_with fail
    refine (isid_any _ _).mono ?_
    rintro e w3 ⟨rfl, rfl⟩
    go_wp2_with fail
    refine (refisid_any _ _ HL.out).mono ?_
    rintro e w3 ⟨rfl, hd⟩
    have HB3 := Aside0.mk (below_drawn HB2.out hd)
    have HG3 := Aside0.mk (gv_drawn HG2.out hd)
    clear hd
    obtain ⟨D, hD⟩ : ∃ I, I = idP s := ⟨_, rfl⟩
    rw [← hD] at HI ⊢
    have HDE := Aside0.mk hD
    clear hD
    go_wp2_with fail
    refine (reserved_any _ _ HG3.out.1).mono ?_
    rintro e w4 ⟨rfl, rfl⟩
    go_wp2_with fail
    refine (refres_any _ _).mono ?_
    rintro e w4 ⟨rfl, hd⟩
    have HB4 := Aside0.mk (below_drawn HB3.out hd)
    have HG4 := Aside0.mk (gv_drawn HG3.out hd)
    clear hd
    obtain ⟨R, hR⟩ : ∃ I, I = resP s := ⟨_, rfl⟩
    rw [← hR]
    clear hR
    go_wp2_with fail
    refine (is_any _ _ HG4.out.1).mono ?_
    rintro e w5 ⟨rfl, rfl⟩
    rw [← HIE.out]
    cases I with
    | false =>
      go_wp2
      go_ret
      exact ⟨rfl, HB4.out⟩
    | true =>
      have HD := Aside0.mk (HI.out rfl)
      go_wp2_with fail
      refine (isid_any _ _).mono ?_
      rintro e w5 ⟨rfl, rfl⟩
      rw [← HDE.out, HD.out]
      go_wp2
      go_ret
      exact ⟨rfl, HB4.out⟩

set_option maxRecDepth 100000 in
set_option maxHeartbeats 4000000 in
theorem walk_parses (s : ByteArray) (w : World) (hs : s.size ≤ maxLen) (hG : GV w) : Calls Tryd.prog 4 #[.string s] w fun e w' => e = .returned (.bool true) ∧ Below w.heap.size w w' := by
  have HG := Aside0.mk hG
  clear hG
  by_cases hl : 500 < s.size
  · have d1 : decide (500 < s.size) = true := decide_eq_true hl
    have d2 : decide ((500 : Int) < (s.size : Int)) = true := decide_eq_true (by omega)
    clear hl
    go_enter Tryd.func4, Tryd.ntmps4
    go_wp2_with fail
    refine (awake_any w HG.out).mono ?_
    rintro e w1 ⟨rfl, hb1⟩
    have HB1 := Aside0.mk hb1
    clear hb1
    go_wp2_with fail
    refine (awake_any w1 (HG.out.below HB1.out)).mono ?_
    rintro e w2 ⟨rfl, hb2⟩
    have HB2 := Aside0.mk (below_step HB1.out hb2)
    clear hb2
    go_wp2
    go_ret
    exact ⟨rfl, HB2.out⟩
  · have d1 : decide (500 < s.size) = false := decide_eq_false hl
    have d2 : decide ((500 : Int) < (s.size : Int)) = false := decide_eq_false (by omega)
    have HL := Aside0.mk (show s.size ≤ 1099511627776 by omega)
    have HO := Aside0.mk (parseO_eq s (by omega))
    have HA := Aside0.mk (parseA_eq s (by omega))
    have HNO := Aside0.mk (show ∀ n m, (parseO s).2.2 = some (n, m) → n ≠ 0 from parseO_code s)
    have HNA := Aside0.mk (show ∀ n m, (parseA s).2.2 = some (n, m) → n ≠ 0 from parseA_code s)
    obtain ⟨t, d, eo, hpo⟩ : ∃ t d e, parseO s = (t, d, e) := ⟨_, _, _, rfl⟩
    obtain ⟨u, r, ea, hpa⟩ : ∃ t d e, parseA s = (t, d, e) := ⟨_, _, _, rfl⟩
    have HPO := Aside0.mk hpo
    have HPA := Aside0.mk hpa
    rw [hpo] at HO HNO
    rw [hpa] at HA HNA
    clear hl hpo hpa
    go_enter Tryd.func4, Tryd.ntmps4
    go_wp2_with fail
    refine (awake_any w HG.out).mono ?_
    rintro e w1 ⟨rfl, hb1⟩
    have HB1 := Aside0.mk hb1
    have HG1 := Aside0.mk (HG.out.below hb1)
    clear hb1
    go_wp2_with fail
    refine (parseobject_any _ _ HL.out HG1.out.1).mono ?_
    rintro e w2 ⟨rfl, hb2⟩
    rw [HPO.out]
    have HB2 := Aside0.mk (below_step HB1.out hb2)
    have HG2 := Aside0.mk (HG1.out.below hb2)
    clear hb2
    obtain ⟨W2, hW2⟩ : ∃ W, W = w2.alloc (.cells #[.string t, .string d] 25) := ⟨_, rfl⟩
    have HA2 : Aside0 (Below w2.heap.size w2 W2) := ⟨by rw [hW2]; exact below_alloc (B0 w2) _⟩
    have F1 : Aside0 (W2.heap[w2.heap.size]? = some (.cells #[.string t, .string d] 25 (0, 0))) := ⟨by rw [hW2]; exact blk_new w2 _⟩
    go_wp2_with fail
    rw [← hW2]
    refine (vestryref08_ParseObject.calls (s.size + 100) s t d (ecode eo) (eat eo) _ HO.out).mono ?_
    rintro e w3 ⟨rfl, hb3⟩
    clear hW2
    have HB3 := Aside0.mk (below_step (below_step HB2.out HA2.out) hb3)
    have HG3 := Aside0.mk ((HG2.out.below HA2.out).below hb3)
    have F1 : Aside0 (w3.heap[w2.heap.size]? = some _) := ⟨blk_below F1.out hb3⟩
    clear hb3
    obtain ⟨W3, hW3⟩ : ∃ W, W = w3.alloc (.cells #[.string t, .string d] 25) := ⟨_, rfl⟩
    have HA3 : Aside0 (Below w3.heap.size w3 W3) := ⟨by rw [hW3]; exact below_alloc (B0 w3) _⟩
    have F2 : Aside0 (W3.heap[w3.heap.size]? = some (.cells #[.string t, .string d] 25 (0, 0))) := ⟨by rw [hW3]; exact blk_new w3 _⟩
    have F1 : Aside0 (W3.heap[w2.heap.size]? = some _) := ⟨blk_below F1.out HA3.out⟩
    go_wp2_with fail
    rw [← hW3]
    refine (parseallowed_any _ _ HL.out (HG3.out.below HA3.out).1).mono ?_
    rintro e w4 ⟨rfl, hb4⟩
    rw [HPA.out]
    clear hW3
    have HB4 := Aside0.mk (below_step (below_step HB3.out HA3.out) hb4)
    have HG4 := Aside0.mk ((HG3.out.below HA3.out).below hb4)
    have F1 : Aside0 (w4.heap[w2.heap.size]? = some _) := ⟨blk_below F1.out hb4⟩
    have F2 : Aside0 (w4.heap[w3.heap.size]? = some _) := ⟨blk_below F2.out hb4⟩
    clear hb4
    obtain ⟨W4, hW4⟩ : ∃ W, W = w4.alloc (.cells #[.string u, .string r] 33) := ⟨_, rfl⟩
    have HA4 : Aside0 (Below w4.heap.size w4 W4) := ⟨by rw [hW4]; exact below_alloc (B0 w4) _⟩
    have F3 : Aside0 (W4.heap[w4.heap.size]? = some (.cells #[.string u, .string r] 33 (0, 0))) := ⟨by rw [hW4]; exact blk_new w4 _⟩
    have F1 : Aside0 (W4.heap[w2.heap.size]? = some _) := ⟨blk_below F1.out HA4.out⟩
    have F2 : Aside0 (W4.heap[w3.heap.size]? = some _) := ⟨blk_below F2.out HA4.out⟩
    go_wp2_with fail
    rw [← hW4]
    refine (vestryref08_ParseAllowed.calls (s.size + 100) s u r (ecode ea) (eat ea) _ HA.out).mono ?_
    rintro e w5 ⟨rfl, hb5⟩
    clear hW4
    have HB5 := Aside0.mk (below_step (below_step HB4.out HA4.out) hb5)
    have HG5 := Aside0.mk ((HG4.out.below HA4.out).below hb5)
    have F1 : Aside0 (w5.heap[w2.heap.size]? = some _) := ⟨blk_below F1.out hb5⟩
    have F2 : Aside0 (w5.heap[w3.heap.size]? = some _) := ⟨blk_below F2.out hb5⟩
    have F3 : Aside0 (w5.heap[w4.heap.size]? = some _) := ⟨blk_below F3.out hb5⟩
    clear hb5
    have HA5 : Aside0 (Below w5.heap.size w5 (w5.alloc (.cells #[.string u, .string r] 33))) := ⟨below_alloc (B0 w5) _⟩
    have k1 := (blk_cell (blk_below F1.out HA5.out) 0).trans (show _ = some _ from rfl)
    have k2 := (blk_cell (blk_below F1.out HA5.out) 1).trans (show _ = some _ from rfl)
    have k3 := (blk_cell (blk_below F2.out HA5.out) 0).trans (show _ = some _ from rfl)
    have k4 := (blk_cell (blk_below F2.out HA5.out) 1).trans (show _ = some _ from rfl)
    go_wp2_with fail
    refine (told_any eo _ _ _ (HG5.out.below HA5.out).2).mono ?_
    rintro e w6 ⟨rfl, hb6⟩
    rw [told_self eo HNO.out]
    have HB6 := Aside0.mk (below_step (below_step HB5.out HA5.out) hb6)
    have HG6 := Aside0.mk ((HG5.out.below HA5.out).below hb6)
    clear k1 k2 k3 k4
    have k1 := (blk_cell (blk_below (blk_below F3.out HA5.out) hb6) 0).trans (show _ = some _ from rfl)
    have k2 := (blk_cell (blk_below (blk_below F3.out HA5.out) hb6) 1).trans (show _ = some _ from rfl)
    have k3 := (blk_cell (blk_below (blk_new w5 (.cells #[.string u, .string r] 33)) hb6) 0).trans (show _ = some _ from rfl)
    have k4 := (blk_cell (blk_below (blk_new w5 (.cells #[.string u, .string r] 33)) hb6) 1).trans (show _ = some _ from rfl)
    clear hb6
    go_wp2_with fail
    refine (told_any ea _ _ _ HG6.out.2).mono ?_
    rintro e w7 ⟨rfl, hb7⟩
    rw [told_self ea HNA.out]
    have HB7 := Aside0.mk (below_step HB6.out hb7)
    clear hb7
    go_wp2
    go_ret
    exact ⟨rfl, HB7.out⟩

end Go.Proofs.YtpbkcfgcmknijaaDoor.HNameL
