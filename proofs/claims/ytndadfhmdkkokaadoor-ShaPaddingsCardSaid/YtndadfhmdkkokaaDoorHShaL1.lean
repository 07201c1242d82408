/- The law ShaPaddings. -/
import Derived.Test.YtndadfhmdkkokaaDoorHShaA
import Derived.Test.YtndadfhmdkkokaaDoorHSame
namespace Go.Proofs.YtndadfhmdkkokaaDoor.HShaL1
open Go.RowKit Go.Proofs.YtndadfhmdkkokaaDoorW.PrintWords Go.Proofs.YtndadfhmdkkokaaDoor.HLib Go.Proofs.YtndadfhmdkkokaaDoor.HSha Go.Proofs.YtndadfhmdkkokaaDoor.HShaS Go.Proofs.YtndadfhmdkkokaaDoor.HShaP Go.Proofs.YtndadfhmdkkokaaDoor.HShaU Go.Proofs.YtndadfhmdkkokaaDoor.HShaV Go.Proofs.YtndadfhmdkkokaaDoor.HShaW Go.Proofs.YtndadfhmdkkokaaDoor.HShaA Go.Proofs.YtndadfhmdkkokaaDoor.HSame
set_option linter.unusedVariables false
set_option linter.unusedSimpArgs false

set_option maxHeartbeats 4000000 in
theorem walk_paddings (n : Int) (w : World) (hw : (Lit.int .u32 n).wf = true) (hG : Glob w) : Calls Tryd.prog 6 #[.int .u32 n] w fun e w' => e = .returned (.bool true) ∧ Below w.heap.size w w' := by
  have hn := wf_range hw
  have q1 : IntKind.u32.min = 0 := rfl
  have q2 : IntKind.u32.max = 4294967295 := rfl
  rw [q1, q2] at hn
  obtain ⟨h0, h1⟩ := hn
  have HG := Aside0.mk hG
  clear hw hG q1 q2
  go_enter Tryd.func6, Tryd.ntmps6
  go_wp2_with fail
  refine (awake_any w HG.out).mono ?_
  rintro e w1 ⟨rfl, hb1⟩
  have HB1 := Aside0.mk hb1
  clear hb1
  go_wp2_with fail
  refine (padding_any n w1 h0 (by omega)).mono ?_
  rintro e w2 ⟨v, rfl, hR2, hb2⟩
  obtain ⟨A2, c2, hv2, hc2, hC2⟩ := Kd.R_reads hR2
  have HV2 := Aside0.mk (Bs.of_R hR2)
  have HB2 := Aside0.mk (HB1.out.trans (hb2.mono HB1.out.size))
  have HL := Aside0.mk (padP_full n h0)
  have HLL := Aside0.mk (show (padP n).length ≤ 100 from by rw [padP_len]; have := padz_lt n; omega)
  subst hv2
  clear hb2 hR2 hc2 hC2
  go_wp2_with fail
  refine (refpadding_any n w2 h0 (by omega)).mono ?_
  rintro e w3 ⟨v3, rfl, hR3, hb3⟩
  have HV3 := Aside0.mk (Bs.of_R hR3)
  have HB3 := Aside0.mk (HB2.out.trans (hb3.mono HB2.out.size))
  have HV2' := Aside0.mk (HV2.out.below hb3)
  clear hb3 hR3
  go_wp2_with fail
  refine (same_any w3 _ v3 (padP n) (padP n) HV2'.out HV3.out (by have := HLL.out; omega)).mono ?_
  rintro e w4 ⟨rfl, ⟨m, rfl⟩⟩
  rw [show decide (padP n = padP n) = true from decide_eq_true rfl]
  obtain ⟨L, hL⟩ : ∃ L, L = (padP n).length := ⟨_, rfl⟩
  rw [← hL] at HL HLL ⊢
  have hfull := HL.out
  have hle := HLL.out
  have hr : IntKind.i64.wrap (n + (L : Int)) = n + L := IntWalk.i64_in _ (by omega)
  have hz : ((n + (L : Int)) % 64 == 0) = true := by simpa using hfull
  clear hfull hle hL
  go_wp2
  go_ret
  exact ⟨rfl, pw_below_drewN HB3.out _⟩

end Go.Proofs.YtndadfhmdkkokaaDoor.HShaL1
