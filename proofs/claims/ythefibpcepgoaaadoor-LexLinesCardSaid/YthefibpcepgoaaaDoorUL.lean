/- The law LexLines. -/
import Derived.Test.YthefibpcepgoaaaDoorUM
namespace Go.Proofs.YthefibpcepgoaaaDoor.HLexL4
open Go.RowKit Go.Proofs.YthefibpcepgoaaaDoorW.PrintWords Go.Proofs.YthefibpcepgoaaaDoor.HLib Go.Proofs.YthefibpcepgoaaaDoor.HLexN Go.Proofs.YthefibpcepgoaaaDoor.HLexW
set_option linter.unusedVariables false
set_option linter.unusedSimpArgs false

set_option maxHeartbeats 4000000 in
theorem lines_walk (s : ByteArray) (a : Int) (w : World) (hG : GV w) : Calls Tryd.prog 6 #[.string s, .int .i64 a] w fun e w' => e = .returned (.bool true) ∧ Below w.heap.size w w' := by
  have HG := Aside0.mk hG
  clear hG
  by_cases hs : 2000 < s.size
  · have d1 : decide (2000 < s.size) = true := decide_eq_true hs
    have d2 : decide ((2000 : Int) < (s.size : Int)) = true := decide_eq_true (by omega)
    clear hs
    go_enter Tryd.func6, Tryd.ntmps6
    go_wp2_with fail
    refine (awake_any w HG.out).mono ?_
    rintro e w1 ⟨rfl, hb1⟩
    have HB1 := Aside0.mk hb1
    clear hb1
    go_wp2_with fail
    refine (awake_any w1 (HG.out.below HB1.out)).mono ?_
    rintro e w2 ⟨rfl, hb2⟩
    have HB2 := Aside0.mk (below_step HB1.out hb2)
    clear hb2
    go_wp2
    go_ret
    exact ⟨rfl, HB2.out⟩
  · have d1 : decide (2000 < s.size) = false := decide_eq_false hs
    have d2 : decide ((2000 : Int) < (s.size : Int)) = false := decide_eq_false (by omega)
    have HS := Aside0.mk hs
    clear hs
    go_enter Tryd.func6, Tryd.ntmps6
    go_wp2_with fail
    refine (awake_any w HG.out).mono ?_
    rintro e w1 ⟨rfl, hb1⟩
    have HB1 := Aside0.mk hb1
    clear hb1
    go_wp2_with fail
    refine (line_any s a (by have := HS.out; omega) w1).mono ?_
    rintro e w2 ⟨rfl, hb2⟩
    have HB2 := Aside0.mk (below_step HB1.out hb2)
    clear hb2
    go_wp2_with fail
    refine (refline_any s a (by have := HS.out; omega) w2).mono ?_
    rintro e w3 ⟨rfl, ⟨⟨m, rfl⟩⟩⟩
    go_wp2
    go_ret
    exact ⟨rfl, pw_below_drewN HB2.out m⟩
theorem row_lines (s : ByteArray) (a : Int) (W : World) (hs : s.size ≤ maxLen) (wa : (Lit.int .i64 a).wf = true) (hG : GV W) : Calls Tryd.prog 6 #[.string s, .int .i64 a] W fun e w' => e = .returned (.bool true) ∧ Below W.heap.size W w' := lines_walk s a W hG
end Go.Proofs.YthefibpcepgoaaaDoor.HLexL4
