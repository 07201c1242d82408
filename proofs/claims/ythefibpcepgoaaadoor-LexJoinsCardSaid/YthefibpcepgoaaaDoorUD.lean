/- The law LexJoins. -/
import Derived.Test.YthefibpcepgoaaaDoorUB
namespace Go.Proofs.YthefibpcepgoaaaDoor.HLexL2
open Go.RowKit Go.Proofs.YthefibpcepgoaaaDoorW.PrintWords Go.Proofs.YthefibpcepgoaaaDoor.HLib Go.Proofs.YthefibpcepgoaaaDoor.HErr Go.Proofs.YthefibpcepgoaaaDoor.HLexP Go.Proofs.YthefibpcepgoaaaDoor.HLexJ Go.Proofs.YthefibpcepgoaaaDoor.HLexS Go.Proofs.YthefibpcepgoaaaDoor.HLexT Go.Proofs.YthefibpcepgoaaaDoor.HLexM Go.Proofs.YthefibpcepgoaaaDoor.HLexK Go.Proofs.YthefibpcepgoaaaDoor.HLexQ Go.Proofs.YthefibpcepgoaaaDoor.HLexV Go.Proofs.YthefibpcepgoaaaDoor.HLexB Go.Proofs.YthefibpcepgoaaaDoor.HLexC Go.Proofs.YthefibpcepgoaaaDoor.HLexF Go.Proofs.YthefibpcepgoaaaDoor.HLexW Go.Proofs.YthefibpcepgoaaaDoor.HName Go.Proofs.YthefibpcepgoaaaDoor.PLexJoins
set_option linter.unusedVariables false
set_option linter.unusedSimpArgs false

set_option maxRecDepth 100000 in
set_option maxHeartbeats 4000000 in
theorem joins_far (s : ByteArray) (hs : 2000 < s.size) (w : World) (hG : GV w) : Calls Tryd.prog 4 #[.string s] w fun e w' => e = .returned (.bool true) ∧ Below w.heap.size w w' := by
  have HG := Aside0.mk hG
  clear hG
  have d1 : decide (2000 < s.size) = true := decide_eq_true hs
  have d2 : decide ((2000 : Int) < (s.size : Int)) = true := decide_eq_true (by omega)
  clear hs
  go_enter Tryd.func4, Tryd.ntmps4
  go_wp2_with fail
  refine (awake_any w HG.out).mono ?_
  rintro e w1 ⟨rfl, hb1⟩
  have HB1 := Aside0.mk hb1
  clear hb1
  go_wp2_with fail
  refine (awake_any w1 (HG.out.below HB1.out)).mono ?_
  rintro e w2 ⟨rfl, hb2⟩
  have HB2 := Aside0.mk (below_step HB1.out hb2)
  clear hb2
  go_wp2
  go_ret
  exact ⟨rfl, HB2.out⟩
set_option maxRecDepth 100000 in
set_option maxHeartbeats 4000000 in
theorem joins_L (s : ByteArray) (hs : s.size ≤ 2000) (c n : Int) (hc : c ≠ 0) (hl : lexP s = .inl (c, n)) (w : World) (hG : GV w) : Calls Tryd.prog 4 #[.string s] w fun e w' => e = .returned (.bool true) ∧ Below w.heap.size w w' := by
  have HG := Aside0.mk hG
  have HT := Aside0.mk (fun w hG => tokens_L s (by omega) hl w hG)
  have HR := Aside0.mk (fun w => ref_L s (by omega) hl w)
  clear hG
  have d1 : decide (2000 < s.size) = false := decide_eq_false (by omega)
  have d2 : decide ((2000 : Int) < (s.size : Int)) = false := decide_eq_false (by omega)
  have d3 : (c != 0) = true := by simpa using hc
  clear hs hl hc
  go_enter Tryd.func4, Tryd.ntmps4
  go_wp2_with fail
  refine (awake_any w HG.out).mono ?_
  rintro e w1 ⟨rfl, hb1⟩
  have HB1 := Aside0.mk hb1
  clear hb1
  go_wp2_with fail
  refine (HT.out w1 (HG.out.below HB1.out).1).mono ?_
  rintro e w2 ⟨rfl, hb2⟩
  have HB2 := Aside0.mk (below_step HB1.out hb2)
  clear hb2
  go_wp2_with fail
  refine (HR.out w2).mono ?_
  rintro e w3 ⟨⟨A0, c0, rfl⟩, hb3⟩
  have HB3 := Aside0.mk (below_step HB2.out hb3)
  clear hb3
  have hf1 := fld1 A0 c0 c n
  go_wp2
  go_ret
  exact ⟨by simp, HB3.out⟩
set_option maxRecDepth 100000 in
set_option maxHeartbeats 4000000 in
theorem joins_R (s : ByteArray) (hs : s.size ≤ 2000) (l l' : List Tok) (T : ByteArray) (hl : lexP s = .inr l) (hT : jq ((l.map tk36).map kk) ⟨#[]⟩ true = T) (hTs : T.size ≤ 65536) (hl' : lexP T = .inr l') (hk : l'.map kt = l.map kt) (hf : l.length ≤ 2001 ∧ tot (l.map kt) ≤ 4001) (w : World) (hG : GV w) : Calls Tryd.prog 4 #[.string s] w fun e w' => e = .returned (.bool true) ∧ Below w.heap.size w w' := by
  have HG := Aside0.mk hG
  have HT := Aside0.mk (fun w hG => tokens_R s (by omega) hl w hG)
  have HT2 := Aside0.mk (fun w hG => tokens_R T (by omega) hl' w hG)
  have hlen : l'.length = l.length := by have := congrArg List.length hk; simpa using this
  obtain ⟨X, hX⟩ : ∃ X, X = l.map tk36 := ⟨_, rfl⟩
  obtain ⟨Y, hY⟩ : ∃ Y, Y = l'.map tk36 := ⟨_, rfl⟩
  have hXl : X.length ≤ 2001 := by rw [hX, List.length_map]; exact hf.1
  have hYl : Y.length ≤ 2001 := by rw [hY, List.length_map, hlen]; exact hf.1
  have hXk : X.map kk = l.map kt := by rw [hX, kk_tk]
  have hYk : Y.map kk = l.map kt := by rw [hY, kk_tk, hk]
  rw [← hX] at HT hT
  rw [← hY] at HT2
  have HJ := Aside0.mk (fun (w : World) (B : Nat) A c (h : Sl w B A c X) => join_any w A c X h.cells h.cap (by omega) (by rw [hXk]; omega))
  rw [hT] at HJ
  have HBX := Aside0.mk (fun (w : World) (B : Nat) A c (h : Sl w B A c X) => back_S h (by omega))
  have HBY := Aside0.mk (fun (w : World) (B : Nat) A c (h : Sl w B A c Y) => back_S h (by omega))
  have HS := Aside0.mk (fun (w : World) (B B' : Nat) A c A' c' (h : Sl w B A c X) (h' : Sl w B' A' c' Y) => same_any w A' c' Y h'.cells h'.cap A c X h.cells h.cap (by omega))
  obtain ⟨X7, hX7⟩ : ∃ X7, X7 = X.map to37 := ⟨_, rfl⟩
  obtain ⟨Y7, hY7⟩ : ∃ Y7, Y7 = Y.map to37 := ⟨_, rfl⟩
  have hX7k : X7.map kr = l.map kt := by rw [hX7, kr_37, hXk]
  have hY7k : Y7.map kr = l.map kt := by rw [hY7, kr_37, hYk]
  have hX7l : X7.length ≤ 2001 := by rw [hX7, List.length_map]; exact hXl
  have hY7l : Y7.length ≤ 2001 := by rw [hY7, List.length_map]; exact hYl
  rw [← hX7] at HBX
  rw [← hY7] at HBY
  have HRJ := Aside0.mk (fun (w : World) A c (h : Sr w A c X7) => refjoin_any w A c X7 h.cells h.cap (by omega) (by rw [hX7k]; omega))
  rw [show jq (X7.map kr) ⟨#[]⟩ true = T from by rw [← hT, hX7k, hXk]] at HRJ
  have HRS := Aside0.mk (fun (w : World) A c A' c' (h : Sr w A c X7) (h' : Sr w A' c' Y7) => refsame_any w A' c' Y7 h'.cells h'.cap A c X7 h.cells h.cap (by omega))
  rw [show decide (Y.map kk = X.map kk) = true from decide_eq_true (by rw [hYk, hXk])] at HS
  rw [show decide (Y7.map kr = X7.map kr) = true from decide_eq_true (by rw [hY7k, hX7k])] at HRS
  clear hG hl hT hTs hl' hk hf hlen hX hY hXk hYk hX7 hY7 hX7k hY7k hXl hYl hX7l hY7l
  have d1 : decide (2000 < s.size) = false := decide_eq_false (by omega)
  have d2 : decide ((2000 : Int) < (s.size : Int)) = false := decide_eq_false (by omega)
  clear hs
  go_enter Tryd.func4, Tryd.ntmps4
  go_wp2_with fail
  refine (awake_any w HG.out).mono ?_
  rintro e w1 ⟨rfl, hb1⟩
  have HB1 := Aside0.mk hb1
  clear hb1
  go_wp2_with fail
  refine (HT.out w1 (HG.out.below HB1.out).1).mono ?_
  rintro e w2 ⟨A, c, rfl, hS, hb2⟩
  have HB2 := Aside0.mk (below_step HB1.out hb2)
  have HX2 := Aside0.mk hS
  clear hb2 hS
  go_wp2_with fail
  refine (HJ.out w2 _ A c HX2.out).mono ?_
  rintro e w3 ⟨rfl, hb3⟩
  have HB3 := Aside0.mk (below_step HB2.out hb3)
  have HX3 := Aside0.mk (HX2.out.below hb3)
  clear hb3
  go_wp2_with fail
  refine (HT2.out w3 (HG.out.below HB3.out).1).mono ?_
  rintro e w4 ⟨A', c', rfl, hS, hb4⟩
  have HB4 := Aside0.mk (below_step HB3.out hb4)
  have HX4 := Aside0.mk (HX3.out.below hb4)
  have HY4 := Aside0.mk hS
  clear hb4 hS
  go_wp2_with fail
  refine (HBX.out w4 _ A c HX4.out).mono ?_
  rintro e w5 ⟨A7, c7, rfl, hS, hb5⟩
  have HB5 := Aside0.mk (below_step HB4.out hb5)
  have HX5 := Aside0.mk (HX4.out.below hb5)
  have HY5 := Aside0.mk (HY4.out.below hb5)
  have HX7 := Aside0.mk hS
  clear hb5 hS
  go_wp2_with fail
  refine (HRJ.out w5 A7 c7 HX7.out).mono ?_
  rintro e w6 ⟨rfl, ⟨⟨m, rfl⟩⟩⟩
  have HB6 := Aside0.mk (pw_below_drewN HB5.out m)
  have hbm := pw_below_drewN (Below.refl w5.heap.size w5) m
  have HX6 := Aside0.mk (HX5.out.below hbm)
  have HY6 := Aside0.mk (HY5.out.below hbm)
  clear hbm
  go_wp2_with fail
  refine (HS.out _ _ _ A c A' c' HX6.out HY6.out).mono ?_
  rintro e w7 ⟨rfl, hb7⟩
  have HB7 := Aside0.mk (below_step HB6.out hb7)
  have HX7 := Aside0.mk (HX6.out.below hb7)
  have HY7 := Aside0.mk (HY6.out.below hb7)
  clear hb7
  go_wp2_with fail
  refine (HBY.out w7 _ A' c' HY7.out).mono ?_
  rintro e w8 ⟨A8, c8, rfl, hS, hb8⟩
  have HB8 := Aside0.mk (below_step HB7.out hb8)
  have HX8 := Aside0.mk (HX7.out.below hb8)
  have HY8 := Aside0.mk hS
  clear hb8 hS
  go_wp2_with fail
  refine (HBX.out w8 _ A c HX8.out).mono ?_
  rintro e w9 ⟨A9, c9, rfl, hS, hb9⟩
  have HB9 := Aside0.mk (below_step HB8.out hb9)
  have HY9 := Aside0.mk (HY8.out.below hb9)
  have HX9 := Aside0.mk hS
  clear hb9 hS
  go_wp2_with fail
  refine (HRS.out w9 A9 c9 A8 c8 HX9.out HY9.out).mono ?_
  rintro e w10 ⟨rfl, ⟨⟨m2, rfl⟩⟩⟩
  have HB10 := Aside0.mk (pw_below_drewN HB9.out m2)
  go_wp2
  go_ret
  exact ⟨rfl, HB10.out⟩
theorem row_joins (s : ByteArray) (W : World) (hs : s.size ≤ maxLen) (hG : GV W) : Calls Tryd.prog 4 #[.string s] W fun e w' => e = .returned (.bool true) ∧ Below W.heap.size W w' := by
  by_cases h : 2000 < s.size
  · exact joins_far s h W hG
  · have hle : s.size ≤ 2000 := by omega
    cases hl : lexP s with
    | inl p =>
      obtain ⟨c, n⟩ := p
      refine joins_L s hle c n ?_ hl W hG
      rcases lexP_err (by omega) hl with h | h <;> rw [h] <;> decide
    | inr l =>
      obtain ⟨l', h1, h2⟩ := join_back hle hl
      have hf := lexP_facts (by omega) hl
      rw [← kk_tk] at h1
      refine joins_R s hle l l' _ hl rfl ?_ h1 h2 ⟨by omega, by omega⟩ W hG
      have h3 := jq_size ((l.map tk36).map kk) ⟨#[]⟩ true
      rw [kk_tk] at h3
      rw [kk_tk]
      have h4 : (⟨#[]⟩ : ByteArray).size = 0 := rfl
      omega
end Go.Proofs.YthefibpcepgoaaaDoor.HLexL2
