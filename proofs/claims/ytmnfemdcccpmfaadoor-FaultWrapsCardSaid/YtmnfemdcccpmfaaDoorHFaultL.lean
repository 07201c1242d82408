/- The law FaultShifts. -/
import Derived.Test.YtmnfemdcccpmfaaDoorHFaultA
import Derived.Test.YtmnfemdcccpmfaaDoorHFaultO
namespace Go.Proofs.YtmnfemdcccpmfaaDoor.HFaultL
open Go.RowKit Go.Proofs.YtmnfemdcccpmfaaDoorW.PrintWords Go.Proofs.YtmnfemdcccpmfaaDoor.HLib Go.Proofs.YtmnfemdcccpmfaaDoor.HPr Go.Proofs.YtmnfemdcccpmfaaDoor.HErr Go.Proofs.YtmnfemdcccpmfaaDoor.HFaultP Go.Proofs.YtmnfemdcccpmfaaDoor.HFault Go.Proofs.YtmnfemdcccpmfaaDoor.HFaultA Go.Proofs.YtmnfemdcccpmfaaDoor.HFaultO
set_option linter.unusedVariables false
set_option maxRecDepth 100000
set_option linter.unusedSimpArgs false

theorem few_bounds {parts : List ByteArray} {a : Int} (h : fewP parts a = true) : (∀ p ∈ parts, p.size ≤ 50) ∧ parts.length ≤ 20 ∧ -1152921504606846976 < a ∧ a < 1152921504606846976 := by
  simp only [fewP, Bool.and_eq_true, decide_eq_true_eq, List.all_eq_true] at h
  exact ⟨h.1, h.2.1, h.2.2.1, h.2.2.2⟩
set_option maxRecDepth 100000 in
set_option maxHeartbeats 8000000 in
theorem shifts_far (n : Bool) (A : Option Addr) (cap : Nat) (parts : List ByteArray) (c a : Int) (f : Bool) (w : World) (hC : Kd.C Kd.string w A parts.length parts) (hcap : parts.length ≤ cap) (hlen : parts.length ≤ 9223372036854775807) (m : Int) (hf : fewP parts a = false) (hG : GV w) : Calls Tryd.prog 4 #[.agg #[.bool n, .slice A parts.length cap, .int .i64 c, .int .i64 a, .bool f], .int .i32 m] w fun e w' => e = .returned (.bool true) ∧ Below w.heap.size w w' := by
  obtain ⟨w0, hw0⟩ : ∃ u, u = w.alloc (.cells #[.bool n, .slice A parts.length cap, .int .i64 c, .int .i64 a, .bool f] 24) := ⟨_, rfl⟩
  have HB0 : Aside0 (Below w.heap.size w w0) := ⟨by rw [hw0]; exact below_alloc (B0 w) _⟩
  have HG0 := Aside0.mk (hG.below HB0.out)
  have F := Aside0.mk (show w0.heap[w.heap.size]? = some (.cells #[.bool n, .slice A parts.length cap, .int .i64 c, .int .i64 a, .bool f] 24 (0, 0)) from by rw [hw0]; exact blk_new w _)
  have HC0 := Aside0.mk (Kd.C_below hC HB0.out)
  have HCP := Aside0.mk hcap
  have HFE := Aside0.mk (few_eq n parts c a f (by omega))
  clear hG hC hcap
  have HFW := Aside0.mk hf
  clear hf
  go_enter Tryd.func4, Tryd.ntmps4
  go_wp2_with fail
  rw [← hw0]
  clear hw0
  refine (awake_any _ HG0.out).mono ?_
  rintro e w1 ⟨rfl, hb⟩
  have HB1 := Aside0.mk (below_step HB0.out hb)
  have HG1 := Aside0.mk (HG0.out.below hb)
  have HC1 := Aside0.mk (Kd.C_below HC0.out hb)
  have G := Aside0.mk (blk_below F.out hb)
  clear F
  have F := G
  clear G
  have k0 := (blk_cell F.out 0).trans (show _ = some _ from rfl)
  have k1 := (blk_cell F.out 1).trans (show _ = some _ from rfl)
  have k2 := (blk_cell F.out 2).trans (show _ = some _ from rfl)
  have k3 := (blk_cell F.out 3).trans (show _ = some _ from rfl)
  have k4 := (blk_cell F.out 4).trans (show _ = some _ from rfl)
  clear hb
  go_wp2_with fail
  refine (vestryref02_Few.calls (parts.length + 1) n A cap parts c a f _ _ HC1.out HCP.out HFE.out).mono ?_
  rintro e w2 ⟨rfl, hb⟩
  rw [HFW.out]
  have HB2 := Aside0.mk (below_step HB1.out hb)
  have HG2 := Aside0.mk (HG1.out.below hb)
  have HC2 := Aside0.mk (Kd.C_below HC1.out hb)
  have G := Aside0.mk (blk_below F.out hb)
  clear F
  have F := G
  clear G
  clear k0 k1 k2 k3 k4
  have k0 := (blk_cell F.out 0).trans (show _ = some _ from rfl)
  have k1 := (blk_cell F.out 1).trans (show _ = some _ from rfl)
  have k2 := (blk_cell F.out 2).trans (show _ = some _ from rfl)
  have k3 := (blk_cell F.out 3).trans (show _ = some _ from rfl)
  have k4 := (blk_cell F.out 4).trans (show _ = some _ from rfl)
  clear hb
  go_wp2_with fail
  refine (awake_any _ HG2.out).mono ?_
  rintro e w3 ⟨rfl, hb⟩
  have HB3 := Aside0.mk (below_step HB2.out hb)
  clear hb
  go_wp2
  go_ret
  exact ⟨rfl, HB3.out⟩

set_option maxRecDepth 100000 in
set_option maxHeartbeats 8000000 in
theorem shifts_near (n : Bool) (A : Option Addr) (cap : Nat) (parts : List ByteArray) (c a : Int) (f : Bool) (w : World) (hC : Kd.C Kd.string w A parts.length parts) (hcap : parts.length ≤ cap) (hlen : parts.length ≤ 9223372036854775807) (m : Int) (hm : -2147483648 ≤ m ∧ m ≤ 2147483647) (hf : fewP parts a = true) (hG : GV w) : Calls Tryd.prog 4 #[.agg #[.bool n, .slice A parts.length cap, .int .i64 c, .int .i64 a, .bool f], .int .i32 m] w fun e w' => e = .returned (.bool true) ∧ Below w.heap.size w w' := by
  obtain ⟨w0, hw0⟩ : ∃ u, u = w.alloc (.cells #[.bool n, .slice A parts.length cap, .int .i64 c, .int .i64 a, .bool f] 24) := ⟨_, rfl⟩
  have HB0 : Aside0 (Below w.heap.size w w0) := ⟨by rw [hw0]; exact below_alloc (B0 w) _⟩
  have HG0 := Aside0.mk (hG.below HB0.out)
  have F := Aside0.mk (show w0.heap[w.heap.size]? = some (.cells #[.bool n, .slice A parts.length cap, .int .i64 c, .int .i64 a, .bool f] 24 (0, 0)) from by rw [hw0]; exact blk_new w _)
  have HC0 := Aside0.mk (Kd.C_below hC HB0.out)
  have HCP := Aside0.mk hcap
  have HFE := Aside0.mk (few_eq n parts c a f (by omega))
  clear hG hC hcap
  have HFW := Aside0.mk hf
  have HBD := Aside0.mk (few_bounds hf)
  have HM := Aside0.mk hm
  have hm1 := hm.1
  have hm2 := hm.2
  have ha1 := (few_bounds hf).2.2.1
  have ha2 := (few_bounds hf).2.2.2
  clear hf hm
  cases n with
  | true =>
    go_enter Tryd.func4, Tryd.ntmps4
    go_wp2_with fail
    rw [← hw0]
    clear hw0
    refine (awake_any _ HG0.out).mono ?_
    rintro e w1 ⟨rfl, hb⟩
    have HB1 := Aside0.mk (below_step HB0.out hb)
    have HG1 := Aside0.mk (HG0.out.below hb)
    have HC1 := Aside0.mk (Kd.C_below HC0.out hb)
    have G := Aside0.mk (blk_below F.out hb)
    clear F
    have F := G
    clear G
    have k0 := (blk_cell F.out 0).trans (show _ = some _ from rfl)
    have k1 := (blk_cell F.out 1).trans (show _ = some _ from rfl)
    have k2 := (blk_cell F.out 2).trans (show _ = some _ from rfl)
    have k3 := (blk_cell F.out 3).trans (show _ = some _ from rfl)
    have k4 := (blk_cell F.out 4).trans (show _ = some _ from rfl)
    clear hb
    go_wp2_with fail
    refine (vestryref02_Few.calls (parts.length + 1) true A cap parts c a f _ _ HC1.out HCP.out HFE.out).mono ?_
    rintro e w2 ⟨rfl, hb⟩
    rw [HFW.out]
    have HB2 := Aside0.mk (below_step HB1.out hb)
    have HG2 := Aside0.mk (HG1.out.below hb)
    have HC2 := Aside0.mk (Kd.C_below HC1.out hb)
    have G := Aside0.mk (blk_below F.out hb)
    clear F
    have F := G
    clear G
    clear k0 k1 k2 k3 k4
    have k0 := (blk_cell F.out 0).trans (show _ = some _ from rfl)
    have k1 := (blk_cell F.out 1).trans (show _ = some _ from rfl)
    have k2 := (blk_cell F.out 2).trans (show _ = some _ from rfl)
    have k3 := (blk_cell F.out 3).trans (show _ = some _ from rfl)
    have k4 := (blk_cell F.out 4).trans (show _ = some _ from rfl)
    clear hb
    go_wp2_with fail
    refine (build_any true A cap parts c a f _ HC2.out HCP.out (by have := HBD.out.2.1; omega)).mono ?_
    rintro e w3 ⟨rfl, hb⟩
    have HB3 := Aside0.mk (below_step HB2.out hb)
    have HG3 := Aside0.mk (HG2.out.below hb)
    have G := Aside0.mk (blk_below F.out hb)
    clear F
    have F := G
    clear G
    clear hb
    unfold errD
    rw [if_pos rfl]
    have hcv : IntKind.i64.wrap m = m := IntWalk.i64_in _ (by omega)
    clear hm1 hm2 ha1 ha2
    clear k0 k1 k2 k3 k4
    go_wp2_with fail
    refine (shift_nil _ _).mono ?_
    rintro e w4 ⟨rfl, hb⟩
    have HB4 := Aside0.mk (below_step HB3.out hb)
    have G := Aside0.mk (blk_below F.out hb)
    clear F
    have F := G
    clear G
    have k0 := (blk_cell F.out 0).trans (show _ = some _ from rfl)
    have k1 := (blk_cell F.out 1).trans (show _ = some _ from rfl)
    have k2 := (blk_cell F.out 2).trans (show _ = some _ from rfl)
    have k3 := (blk_cell F.out 3).trans (show _ = some _ from rfl)
    have k4 := (blk_cell F.out 4).trans (show _ = some _ from rfl)
    clear hb
    go_wp2
    go_ret
    exact ⟨rfl, HB4.out⟩
  | false =>
    cases f with
    | true =>
      go_enter Tryd.func4, Tryd.ntmps4
      go_wp2_with fail
      rw [← hw0]
      clear hw0
      refine (awake_any _ HG0.out).mono ?_
      rintro e w1 ⟨rfl, hb⟩
      have HB1 := Aside0.mk (below_step HB0.out hb)
      have HG1 := Aside0.mk (HG0.out.below hb)
      have HC1 := Aside0.mk (Kd.C_below HC0.out hb)
      have G := Aside0.mk (blk_below F.out hb)
      clear F
      have F := G
      clear G
      have k0 := (blk_cell F.out 0).trans (show _ = some _ from rfl)
      have k1 := (blk_cell F.out 1).trans (show _ = some _ from rfl)
      have k2 := (blk_cell F.out 2).trans (show _ = some _ from rfl)
      have k3 := (blk_cell F.out 3).trans (show _ = some _ from rfl)
      have k4 := (blk_cell F.out 4).trans (show _ = some _ from rfl)
      clear hb
      go_wp2_with fail
      refine (vestryref02_Few.calls (parts.length + 1) false A cap parts c a true _ _ HC1.out HCP.out HFE.out).mono ?_
      rintro e w2 ⟨rfl, hb⟩
      rw [HFW.out]
      have HB2 := Aside0.mk (below_step HB1.out hb)
      have HG2 := Aside0.mk (HG1.out.below hb)
      have HC2 := Aside0.mk (Kd.C_below HC1.out hb)
      have G := Aside0.mk (blk_below F.out hb)
      clear F
      have F := G
      clear G
      clear k0 k1 k2 k3 k4
      have k0 := (blk_cell F.out 0).trans (show _ = some _ from rfl)
      have k1 := (blk_cell F.out 1).trans (show _ = some _ from rfl)
      have k2 := (blk_cell F.out 2).trans (show _ = some _ from rfl)
      have k3 := (blk_cell F.out 3).trans (show _ = some _ from rfl)
      have k4 := (blk_cell F.out 4).trans (show _ = some _ from rfl)
      clear hb
      go_wp2_with fail
      refine (build_any false A cap parts c a true _ HC2.out HCP.out (by have := HBD.out.2.1; omega)).mono ?_
      rintro e w3 ⟨rfl, hb⟩
      have HB3 := Aside0.mk (below_step HB2.out hb)
      have HG3 := Aside0.mk (HG2.out.below hb)
      have G := Aside0.mk (blk_below F.out hb)
      clear F
      have F := G
      clear G
      clear hb
      unfold errD
      rw [if_neg (by simp)]
      clear k0 k1 k2 k3 k4
      go_wp2_with fail
      refine (shift_ch true c a parts.reverse m ⟨ha1, ha2⟩ HM.out _ HG3.out.1).mono ?_
      rintro e w4 ⟨rfl, hb⟩
      have HB4 := Aside0.mk (below_step HB3.out hb)
      have HG4 := Aside0.mk (HG3.out.below hb)
      have G := Aside0.mk (blk_below F.out hb)
      clear F
      have F := G
      clear G
      have k0 := (blk_cell F.out 0).trans (show _ = some _ from rfl)
      have k1 := (blk_cell F.out 1).trans (show _ = some _ from rfl)
      have k2 := (blk_cell F.out 2).trans (show _ = some _ from rfl)
      have k3 := (blk_cell F.out 3).trans (show _ = some _ from rfl)
      have k4 := (blk_cell F.out 4).trans (show _ = some _ from rfl)
      clear hb
      obtain ⟨X, hX⟩ : ∃ X : Int, X = (if true = true then a else 0) + m := ⟨_, rfl⟩
      have hX2 : (X == m + a) = true := by rw [hX]; rw [if_pos rfl, beq_iff_eq]; omega
      rw [← hX]
      clear hX
      go_wp2_with fail
      refine (code_F c X _ HG4.out.1).mono ?_
      rintro e w5 ⟨rfl, hb⟩
      have HB5 := Aside0.mk (below_step HB4.out hb)
      have HG5 := Aside0.mk (HG4.out.below hb)
      have G := Aside0.mk (blk_below F.out hb)
      clear F
      have F := G
      clear G
      clear k0 k1 k2 k3 k4
      have k0 := (blk_cell F.out 0).trans (show _ = some _ from rfl)
      have k1 := (blk_cell F.out 1).trans (show _ = some _ from rfl)
      have k2 := (blk_cell F.out 2).trans (show _ = some _ from rfl)
      have k3 := (blk_cell F.out 3).trans (show _ = some _ from rfl)
      have k4 := (blk_cell F.out 4).trans (show _ = some _ from rfl)
      clear hb
      go_wp2_with fail
      refine (at_F c X _ HG5.out.1).mono ?_
      rintro e w6 ⟨rfl, hb⟩
      have HB6 := Aside0.mk (below_step HB5.out hb)
      have G := Aside0.mk (blk_below F.out hb)
      clear F
      have F := G
      clear G
      clear k0 k1 k2 k3 k4
      have k0 := (blk_cell F.out 0).trans (show _ = some _ from rfl)
      have k1 := (blk_cell F.out 1).trans (show _ = some _ from rfl)
      have k2 := (blk_cell F.out 2).trans (show _ = some _ from rfl)
      have k3 := (blk_cell F.out 3).trans (show _ = some _ from rfl)
      have k4 := (blk_cell F.out 4).trans (show _ = some _ from rfl)
      clear hb
      go_wp2
      go_ret
      exact ⟨rfl, HB6.out⟩
    | false =>
      go_enter Tryd.func4, Tryd.ntmps4
      go_wp2_with fail
      rw [← hw0]
      clear hw0
      refine (awake_any _ HG0.out).mono ?_
      rintro e w1 ⟨rfl, hb⟩
      have HB1 := Aside0.mk (below_step HB0.out hb)
      have HG1 := Aside0.mk (HG0.out.below hb)
      have HC1 := Aside0.mk (Kd.C_below HC0.out hb)
      have G := Aside0.mk (blk_below F.out hb)
      clear F
      have F := G
      clear G
      have k0 := (blk_cell F.out 0).trans (show _ = some _ from rfl)
      have k1 := (blk_cell F.out 1).trans (show _ = some _ from rfl)
      have k2 := (blk_cell F.out 2).trans (show _ = some _ from rfl)
      have k3 := (blk_cell F.out 3).trans (show _ = some _ from rfl)
      have k4 := (blk_cell F.out 4).trans (show _ = some _ from rfl)
      clear hb
      go_wp2_with fail
      refine (vestryref02_Few.calls (parts.length + 1) false A cap parts c a false _ _ HC1.out HCP.out HFE.out).mono ?_
      rintro e w2 ⟨rfl, hb⟩
      rw [HFW.out]
      have HB2 := Aside0.mk (below_step HB1.out hb)
      have HG2 := Aside0.mk (HG1.out.below hb)
      have HC2 := Aside0.mk (Kd.C_below HC1.out hb)
      have G := Aside0.mk (blk_below F.out hb)
      clear F
      have F := G
      clear G
      clear k0 k1 k2 k3 k4
      have k0 := (blk_cell F.out 0).trans (show _ = some _ from rfl)
      have k1 := (blk_cell F.out 1).trans (show _ = some _ from rfl)
      have k2 := (blk_cell F.out 2).trans (show _ = some _ from rfl)
      have k3 := (blk_cell F.out 3).trans (show _ = some _ from rfl)
      have k4 := (blk_cell F.out 4).trans (show _ = some _ from rfl)
      clear hb
      go_wp2_with fail
      refine (build_any false A cap parts c a false _ HC2.out HCP.out (by have := HBD.out.2.1; omega)).mono ?_
      rintro e w3 ⟨rfl, hb⟩
      have HB3 := Aside0.mk (below_step HB2.out hb)
      have HG3 := Aside0.mk (HG2.out.below hb)
      have G := Aside0.mk (blk_below F.out hb)
      clear F
      have F := G
      clear G
      clear hb
      unfold errD
      rw [if_neg (by simp)]
      clear k0 k1 k2 k3 k4
      go_wp2_with fail
      refine (shift_ch false c a parts.reverse m ⟨ha1, ha2⟩ HM.out _ HG3.out.1).mono ?_
      rintro e w4 ⟨rfl, hb⟩
      have HB4 := Aside0.mk (below_step HB3.out hb)
      have HG4 := Aside0.mk (HG3.out.below hb)
      have G := Aside0.mk (blk_below F.out hb)
      clear F
      have F := G
      clear G
      have k0 := (blk_cell F.out 0).trans (show _ = some _ from rfl)
      have k1 := (blk_cell F.out 1).trans (show _ = some _ from rfl)
      have k2 := (blk_cell F.out 2).trans (show _ = some _ from rfl)
      have k3 := (blk_cell F.out 3).trans (show _ = some _ from rfl)
      have k4 := (blk_cell F.out 4).trans (show _ = some _ from rfl)
      clear hb
      obtain ⟨X, hX⟩ : ∃ X : Int, X = (if false = true then a else 0) + m := ⟨_, rfl⟩
      have hX2 : (X == m) = true := by rw [hX]; rw [if_neg (by simp), beq_iff_eq]; omega
      rw [← hX]
      clear hX
      go_wp2_with fail
      refine (code_F c X _ HG4.out.1).mono ?_
      rintro e w5 ⟨rfl, hb⟩
      have HB5 := Aside0.mk (below_step HB4.out hb)
      have HG5 := Aside0.mk (HG4.out.below hb)
      have G := Aside0.mk (blk_below F.out hb)
      clear F
      have F := G
      clear G
      clear k0 k1 k2 k3 k4
      have k0 := (blk_cell F.out 0).trans (show _ = some _ from rfl)
      have k1 := (blk_cell F.out 1).trans (show _ = some _ from rfl)
      have k2 := (blk_cell F.out 2).trans (show _ = some _ from rfl)
      have k3 := (blk_cell F.out 3).trans (show _ = some _ from rfl)
      have k4 := (blk_cell F.out 4).trans (show _ = some _ from rfl)
      clear hb
      go_wp2_with fail
      refine (at_F c X _ HG5.out.1).mono ?_
      rintro e w6 ⟨rfl, hb⟩
      have HB6 := Aside0.mk (below_step HB5.out hb)
      have G := Aside0.mk (blk_below F.out hb)
      clear F
      have F := G
      clear G
      clear k0 k1 k2 k3 k4
      have k0 := (blk_cell F.out 0).trans (show _ = some _ from rfl)
      have k1 := (blk_cell F.out 1).trans (show _ = some _ from rfl)
      have k2 := (blk_cell F.out 2).trans (show _ = some _ from rfl)
      have k3 := (blk_cell F.out 3).trans (show _ = some _ from rfl)
      have k4 := (blk_cell F.out 4).trans (show _ = some _ from rfl)
      clear hb
      go_wp2
      go_ret
      exact ⟨rfl, HB6.out⟩

theorem row_shifts (v0 : Value) (a0 : Desc) (m : Int) (W : World) {base : Nat} (hv0 : Value.okWide Tryd.prog W .any base 24 v0) (k0 : KD W a0 v0.cells.toList) (ok0 : OK a0) (wm : (Lit.int .i32 m).wf = true) (hG : GV W) :
    Calls Tryd.prog 4 #[v0, .int .i32 m] W fun e w' => e = .returned (.bool true) ∧ Below W.heap.size W w' := by
  obtain ⟨A, cap, rfl, hcap, hC⟩ := desc_of hv0 k0
  have hl : a0.2.1.length ≤ 9223372036854775807 := ok0.2.2
  cases hf : fewP a0.2.1 a0.2.2.2.1 with
  | false => exact shifts_far _ A cap _ _ _ _ W hC hcap hl m hf hG
  | true => exact shifts_near _ A cap _ _ _ _ W hC hcap hl m (by have := wf_range wm; have q1 : IntKind.i32.min = -2147483648 := rfl; have q2 : IntKind.i32.max = 2147483647 := rfl; omega) hf hG

end Go.Proofs.YtmnfemdcccpmfaaDoor.HFaultL
