/- The law FaultWraps. -/
import Derived.Test.YtmnfemdcccpmfaaDoorHFaultM
import Derived.Test.YtmnfemdcccpmfaaDoorHErrK
namespace Go.Proofs.YtmnfemdcccpmfaaDoor.HFaultW
open Go.RowKit Go.Proofs.YtmnfemdcccpmfaaDoorW.PrintWords Go.Proofs.YtmnfemdcccpmfaaDoor.HLib Go.Proofs.YtmnfemdcccpmfaaDoor.HPr Go.Proofs.YtmnfemdcccpmfaaDoor.HErr Go.Proofs.YtmnfemdcccpmfaaDoor.HFaultP Go.Proofs.YtmnfemdcccpmfaaDoor.HFault Go.Proofs.YtmnfemdcccpmfaaDoor.HFaultA Go.Proofs.YtmnfemdcccpmfaaDoor.HFaultO Go.Proofs.YtmnfemdcccpmfaaDoor.HFaultL Go.Proofs.YtmnfemdcccpmfaaDoor.HFaultM
set_option linter.unusedVariables false
set_option maxRecDepth 100000
set_option linter.unusedSimpArgs false

set_option maxHeartbeats 16000000 in
theorem wraps_far (n : Bool) (A : Option Addr) (cap : Nat) (parts : List ByteArray) (c a : Int) (f : Bool) (p : ByteArray) (w : World) (hC : Kd.C Kd.string w A parts.length parts) (hcap : parts.length ≤ cap) (hlen : parts.length ≤ 9223372036854775807) (hf : fewP parts a = false) (hG : GV w) : Calls Tryd.prog 5 #[.agg #[.bool n, .slice A parts.length cap, .int .i64 c, .int .i64 a, .bool f], .string p] w fun e w' => e = .returned (.bool true) ∧ Below w.heap.size w w' := by
  obtain ⟨w0, hw0⟩ : ∃ u, u = w.alloc (.cells #[.bool n, .slice A parts.length cap, .int .i64 c, .int .i64 a, .bool f] 24) := ⟨_, rfl⟩
  have HB0 : Aside0 (Below w.heap.size w w0) := ⟨by rw [hw0]; exact below_alloc (B0 w) _⟩
  have HG0 := Aside0.mk (hG.below HB0.out)
  have F := Aside0.mk (show w0.heap[w.heap.size]? = some (.cells #[.bool n, .slice A parts.length cap, .int .i64 c, .int .i64 a, .bool f] 24 (0, 0)) from by rw [hw0]; exact blk_new w _)
  have HC0 := Aside0.mk (Kd.C_below hC HB0.out)
  have HCP := Aside0.mk hcap
  have HFE := Aside0.mk (few_eq n parts c a f (by omega))
  clear hG hC hcap
  have HFW := Aside0.mk hf
  clear hf
  go_enter Tryd.func5, Tryd.ntmps5
  go_wp2_with fail
  rw [← hw0]
  clear hw0
  refine (awake_any _ HG0.out).mono ?_
  rintro e w1 ⟨rfl, hb⟩
  have HB1 := Aside0.mk (below_step HB0.out hb)
  have HG1 := Aside0.mk (HG0.out.below hb)
  have HC1 := Aside0.mk (Kd.C_below HC0.out hb)
  have G := Aside0.mk (blk_below F.out hb)
  clear F
  have F := G
  clear G
  have k0 := (blk_cell F.out 0).trans (show _ = some _ from rfl)
  have k1 := (blk_cell F.out 1).trans (show _ = some _ from rfl)
  have k2 := (blk_cell F.out 2).trans (show _ = some _ from rfl)
  have k3 := (blk_cell F.out 3).trans (show _ = some _ from rfl)
  have k4 := (blk_cell F.out 4).trans (show _ = some _ from rfl)
  clear hb
  go_wp2_with fail
  refine (vestryref02_Few.calls (parts.length + 1) n A cap parts c a f _ _ HC1.out HCP.out HFE.out).mono ?_
  rintro e w2 ⟨rfl, hb⟩
  rw [HFW.out]
  have HB2 := Aside0.mk (below_step HB1.out hb)
  have HG2 := Aside0.mk (HG1.out.below hb)
  have HC2 := Aside0.mk (Kd.C_below HC1.out hb)
  have G := Aside0.mk (blk_below F.out hb)
  clear F
  have F := G
  clear G
  clear k0 k1 k2 k3 k4
  have k0 := (blk_cell F.out 0).trans (show _ = some _ from rfl)
  have k1 := (blk_cell F.out 1).trans (show _ = some _ from rfl)
  have k2 := (blk_cell F.out 2).trans (show _ = some _ from rfl)
  have k3 := (blk_cell F.out 3).trans (show _ = some _ from rfl)
  have k4 := (blk_cell F.out 4).trans (show _ = some _ from rfl)
  clear hb
  go_wp2_with fail
  refine (awake_any _ HG2.out).mono ?_
  rintro e w3 ⟨rfl, hb⟩
  have HB3 := Aside0.mk (below_step HB2.out hb)
  clear hb
  go_wp2
  go_ret
  exact ⟨rfl, HB3.out⟩

set_option maxHeartbeats 16000000 in
theorem wraps_nil (A : Option Addr) (cap : Nat) (parts : List ByteArray) (c a : Int) (f : Bool) (p : ByteArray) (w : World) (hC : Kd.C Kd.string w A parts.length parts) (hcap : parts.length ≤ cap) (hlen : parts.length ≤ 9223372036854775807) (hf : fewP parts a = true) (hG : GV w) : Calls Tryd.prog 5 #[.agg #[.bool true, .slice A parts.length cap, .int .i64 c, .int .i64 a, .bool f], .string p] w fun e w' => e = .returned (.bool true) ∧ Below w.heap.size w w' := by
  obtain ⟨w0, hw0⟩ : ∃ u, u = w.alloc (.cells #[.bool true, .slice A parts.length cap, .int .i64 c, .int .i64 a, .bool f] 24) := ⟨_, rfl⟩
  have HB0 : Aside0 (Below w.heap.size w w0) := ⟨by rw [hw0]; exact below_alloc (B0 w) _⟩
  have HG0 := Aside0.mk (hG.below HB0.out)
  have F := Aside0.mk (show w0.heap[w.heap.size]? = some (.cells #[.bool true, .slice A parts.length cap, .int .i64 c, .int .i64 a, .bool f] 24 (0, 0)) from by rw [hw0]; exact blk_new w _)
  have HC0 := Aside0.mk (Kd.C_below hC HB0.out)
  have HCP := Aside0.mk hcap
  have HFE := Aside0.mk (few_eq true parts c a f (by omega))
  clear hG hC hcap
  have HFW := Aside0.mk hf
  clear hf
  go_enter Tryd.func5, Tryd.ntmps5
  go_wp2_with fail
  rw [← hw0]
  clear hw0
  refine (awake_any _ HG0.out).mono ?_
  rintro e w1 ⟨rfl, hb⟩
  have HB1 := Aside0.mk (below_step HB0.out hb)
  have HG1 := Aside0.mk (HG0.out.below hb)
  have HC1 := Aside0.mk (Kd.C_below HC0.out hb)
  have G := Aside0.mk (blk_below F.out hb)
  clear F
  have F := G
  clear G
  have k0 := (blk_cell F.out 0).trans (show _ = some _ from rfl)
  have k1 := (blk_cell F.out 1).trans (show _ = some _ from rfl)
  have k2 := (blk_cell F.out 2).trans (show _ = some _ from rfl)
  have k3 := (blk_cell F.out 3).trans (show _ = some _ from rfl)
  have k4 := (blk_cell F.out 4).trans (show _ = some _ from rfl)
  clear hb
  go_wp2_with fail
  refine (vestryref02_Few.calls (parts.length + 1) true A cap parts c a f _ _ HC1.out HCP.out HFE.out).mono ?_
  rintro e w2 ⟨rfl, hb⟩
  rw [HFW.out]
  have HB2 := Aside0.mk (below_step HB1.out hb)
  have HG2 := Aside0.mk (HG1.out.below hb)
  have HC2 := Aside0.mk (Kd.C_below HC1.out hb)
  have G := Aside0.mk (blk_below F.out hb)
  clear F
  have F := G
  clear G
  clear k0 k1 k2 k3 k4
  have k0 := (blk_cell F.out 0).trans (show _ = some _ from rfl)
  have k1 := (blk_cell F.out 1).trans (show _ = some _ from rfl)
  have k2 := (blk_cell F.out 2).trans (show _ = some _ from rfl)
  have k3 := (blk_cell F.out 3).trans (show _ = some _ from rfl)
  have k4 := (blk_cell F.out 4).trans (show _ = some _ from rfl)
  clear hb
  go_wp2_with fail
  refine (awake_any _ HG2.out).mono ?_
  rintro e w3 ⟨rfl, hb⟩
  have HB3 := Aside0.mk (below_step HB2.out hb)
  clear hb
  go_wp2
  go_ret
  exact ⟨rfl, HB3.out⟩

set_option maxHeartbeats 16000000 in
theorem wraps_long (A : Option Addr) (cap : Nat) (parts : List ByteArray) (c a : Int) (f : Bool) (p : ByteArray) (w : World) (hC : Kd.C Kd.string w A parts.length parts) (hcap : parts.length ≤ cap) (hlen : parts.length ≤ 9223372036854775807) (hf : fewP parts a = true) (hp : 50 < p.size) (hG : GV w) : Calls Tryd.prog 5 #[.agg #[.bool false, .slice A parts.length cap, .int .i64 c, .int .i64 a, .bool f], .string p] w fun e w' => e = .returned (.bool true) ∧ Below w.heap.size w w' := by
  obtain ⟨w0, hw0⟩ : ∃ u, u = w.alloc (.cells #[.bool false, .slice A parts.length cap, .int .i64 c, .int .i64 a, .bool f] 24) := ⟨_, rfl⟩
  have HB0 : Aside0 (Below w.heap.size w w0) := ⟨by rw [hw0]; exact below_alloc (B0 w) _⟩
  have HG0 := Aside0.mk (hG.below HB0.out)
  have F := Aside0.mk (show w0.heap[w.heap.size]? = some (.cells #[.bool false, .slice A parts.length cap, .int .i64 c, .int .i64 a, .bool f] 24 (0, 0)) from by rw [hw0]; exact blk_new w _)
  have HC0 := Aside0.mk (Kd.C_below hC HB0.out)
  have HCP := Aside0.mk hcap
  have HFE := Aside0.mk (few_eq false parts c a f (by omega))
  clear hG hC hcap
  have HFW := Aside0.mk hf
  have p1 : decide (50 < p.size) = true := decide_eq_true hp
  have p2 : decide ((50 : Int) < (p.size : Int)) = true := decide_eq_true (by omega)
  clear hf hp
  go_enter Tryd.func5, Tryd.ntmps5
  go_wp2_with fail
  rw [← hw0]
  clear hw0
  refine (awake_any _ HG0.out).mono ?_
  rintro e w1 ⟨rfl, hb⟩
  have HB1 := Aside0.mk (below_step HB0.out hb)
  have HG1 := Aside0.mk (HG0.out.below hb)
  have HC1 := Aside0.mk (Kd.C_below HC0.out hb)
  have G := Aside0.mk (blk_below F.out hb)
  clear F
  have F := G
  clear G
  have k0 := (blk_cell F.out 0).trans (show _ = some _ from rfl)
  have k1 := (blk_cell F.out 1).trans (show _ = some _ from rfl)
  have k2 := (blk_cell F.out 2).trans (show _ = some _ from rfl)
  have k3 := (blk_cell F.out 3).trans (show _ = some _ from rfl)
  have k4 := (blk_cell F.out 4).trans (show _ = some _ from rfl)
  clear hb
  go_wp2_with fail
  refine (vestryref02_Few.calls (parts.length + 1) false A cap parts c a f _ _ HC1.out HCP.out HFE.out).mono ?_
  rintro e w2 ⟨rfl, hb⟩
  rw [HFW.out]
  have HB2 := Aside0.mk (below_step HB1.out hb)
  have HG2 := Aside0.mk (HG1.out.below hb)
  have HC2 := Aside0.mk (Kd.C_below HC1.out hb)
  have G := Aside0.mk (blk_below F.out hb)
  clear F
  have F := G
  clear G
  clear k0 k1 k2 k3 k4
  have k0 := (blk_cell F.out 0).trans (show _ = some _ from rfl)
  have k1 := (blk_cell F.out 1).trans (show _ = some _ from rfl)
  have k2 := (blk_cell F.out 2).trans (show _ = some _ from rfl)
  have k3 := (blk_cell F.out 3).trans (show _ = some _ from rfl)
  have k4 := (blk_cell F.out 4).trans (show _ = some _ from rfl)
  clear hb
  go_wp2_with fail
  refine (awake_any _ HG2.out).mono ?_
  rintro e w3 ⟨rfl, hb⟩
  have HB3 := Aside0.mk (below_step HB2.out hb)
  clear hb
  go_wp2
  go_ret
  exact ⟨rfl, HB3.out⟩

set_option maxHeartbeats 16000000 in
theorem wraps_t (A : Option Addr) (cap : Nat) (parts : List ByteArray) (c a : Int) (p : ByteArray) (w : World) (hC : Kd.C Kd.string w A parts.length parts) (hcap : parts.length ≤ cap) (hlen : parts.length ≤ 9223372036854775807) (hc : I64 c) (hf : fewP parts a = true) (hp : p.size ≤ 50) (hG : GV w) : Calls Tryd.prog 5 #[.agg #[.bool false, .slice A parts.length cap, .int .i64 c, .int .i64 a, .bool true], .string p] w fun e w' => e = .returned (.bool true) ∧ Below w.heap.size w w' := by
  obtain ⟨w0, hw0⟩ : ∃ u, u = w.alloc (.cells #[.bool false, .slice A parts.length cap, .int .i64 c, .int .i64 a, .bool true] 24) := ⟨_, rfl⟩
  have HB0 : Aside0 (Below w.heap.size w w0) := ⟨by rw [hw0]; exact below_alloc (B0 w) _⟩
  have HG0 := Aside0.mk (hG.below HB0.out)
  have F := Aside0.mk (show w0.heap[w.heap.size]? = some (.cells #[.bool false, .slice A parts.length cap, .int .i64 c, .int .i64 a, .bool true] 24 (0, 0)) from by rw [hw0]; exact blk_new w _)
  have HC0 := Aside0.mk (Kd.C_below hC HB0.out)
  have HCP := Aside0.mk hcap
  have HFE := Aside0.mk (few_eq false parts c a true (by omega))
  clear hG hC hcap
  have HFW := Aside0.mk hf
  have HBD := Aside0.mk (few_bounds hf)
  have HCC := Aside0.mk hc
  have p1 : decide (50 < p.size) = false := decide_eq_false (by omega)
  have p2 : decide ((50 : Int) < (p.size : Int)) = false := decide_eq_false (by omega)
  obtain ⟨c2, hc2⟩ : ∃ t, t = IntKind.i64.wrap (c + 1) := ⟨_, rfl⟩
  have hne : c ≠ c2 := by
    rw [hc2, IntKind.wrap_i64]
    have := hc.1
    have := hc.2
    omega
  have HNE := Aside0.mk (show (c == c2) = false from by simpa using hne)
  have hwc : IntKind.i64.wrap (c + 1) = c2 := hc2.symm
  clear hf hp hc hc2 hne
  go_enter Tryd.func5, Tryd.ntmps5
  go_wp2_with fail
  rw [← hw0]
  clear hw0
  refine (awake_any _ HG0.out).mono ?_
  rintro e w1 ⟨rfl, hb⟩
  have HB1 := Aside0.mk (below_step HB0.out hb)
  have HG1 := Aside0.mk (HG0.out.below hb)
  have HC1 := Aside0.mk (Kd.C_below HC0.out hb)
  have G := Aside0.mk (blk_below F.out hb)
  clear F
  have F := G
  clear G
  have k0 := (blk_cell F.out 0).trans (show _ = some _ from rfl)
  have k1 := (blk_cell F.out 1).trans (show _ = some _ from rfl)
  have k2 := (blk_cell F.out 2).trans (show _ = some _ from rfl)
  have k3 := (blk_cell F.out 3).trans (show _ = some _ from rfl)
  have k4 := (blk_cell F.out 4).trans (show _ = some _ from rfl)
  clear hb
  go_wp2_with fail
  refine (vestryref02_Few.calls (parts.length + 1) false A cap parts c a true _ _ HC1.out HCP.out HFE.out).mono ?_
  rintro e w2 ⟨rfl, hb⟩
  rw [HFW.out]
  have HB2 := Aside0.mk (below_step HB1.out hb)
  have HG2 := Aside0.mk (HG1.out.below hb)
  have HC2 := Aside0.mk (Kd.C_below HC1.out hb)
  have G := Aside0.mk (blk_below F.out hb)
  clear F
  have F := G
  clear G
  clear k0 k1 k2 k3 k4
  have k0 := (blk_cell F.out 0).trans (show _ = some _ from rfl)
  have k1 := (blk_cell F.out 1).trans (show _ = some _ from rfl)
  have k2 := (blk_cell F.out 2).trans (show _ = some _ from rfl)
  have k3 := (blk_cell F.out 3).trans (show _ = some _ from rfl)
  have k4 := (blk_cell F.out 4).trans (show _ = some _ from rfl)
  clear hb
  go_upto_region 3 with fail
  clear p1 p2
  go_wp2_with fail
  refine (build_any false A cap parts c a true _ HC2.out HCP.out (by have := HBD.out.2.1; omega)).mono ?_
  rintro e w3 ⟨rfl, hb⟩
  have HB3 := Aside0.mk (below_step HB2.out hb)
  have HG3 := Aside0.mk (HG2.out.below hb)
  have G := Aside0.mk (blk_below F.out hb)
  clear F
  have F := G
  clear G
  clear hb
  unfold errD
  rw [if_neg (by simp)]
  obtain ⟨ps0, hps⟩ : ∃ q, q = parts.reverse := ⟨_, rfl⟩
  have HTS := Aside0.mk (show (txt c ps0).size ≤ 1000000 from by rw [hps]; exact text_small c HCC.out parts ⟨HBD.out.1, HBD.out.2.1⟩)
  rw [← hps]
  clear hps
  clear k0 k1 k2 k3 k4
  cases ps0 with
  | nil =>
    obtain ⟨U, hU⟩ : ∃ U, U = wrapV (baseV true c a) [] := ⟨_, rfl⟩
    have HU := Aside0.mk hU
    rw [← hU]
    clear hU
    have hin := in_any p true c a [] w3
    rw [show wrapV (baseV true c a) [] = U from HU.out.symm, show wrapV (baseV true c a) (p :: []) = .iface 53 (.agg #[.string p, U]) from by rw [HU.out]; rfl] at hin
    have huw := unwrap_ch p true c a [] w3
    rw [show wrapV (baseV true c a) [] = U from HU.out.symm, show wrapV (baseV true c a) (p :: []) = .iface 53 (.agg #[.string p, U]) from by rw [HU.out]; rfl] at huw
    have HIN := Aside0.mk hin
    have HUW := Aside0.mk huw
    have HIS := Aside0.mk (fun t w => (show Calls Tryd.prog 15 #[.iface 53 (.agg #[.string p, U]), .iface 30 (.int .i64 t)] w fun e w' => e = .returned (.bool (c == t)) ∧ Below w.heap.size w w' from by rw [show (.iface 53 (.agg #[.string p, U]) : Value) = wrapV (baseV true c a) (p :: []) from by rw [HU.out]; rfl]; exact Is_ch true c a t (p :: []) w))
    clear hin huw
    have HUV := Aside0.mk (show U = .iface 47 (.agg #[.int .i64 c, .int .i64 a]) from by rw [HU.out]; rfl)
    obtain ⟨tU, vU, hUT⟩ : ∃ t v, U = .iface t v := ⟨_, _, HUV.out⟩
    rw [show (U : Value) = .iface 47 (.agg #[.int .i64 c, .int .i64 a]) from HUV.out] at HIN HUW HIS ⊢
    clear hUT
    go_wp2_with fail
    refine HIN.out.mono ?_
    rintro e w4 ⟨rfl, rfl⟩
    go_wp2_with fail
    refine HUW.out.mono ?_
    rintro e w4 ⟨rfl, hb⟩
    have HB4 := Aside0.mk (below_step HB3.out hb)
    have HG4 := Aside0.mk (HG3.out.below hb)
    have G := Aside0.mk (blk_below F.out hb)
    clear F
    have F := G
    clear G
    clear hb
    have mE := methodErrorF
    go_wp2_with fail
    refine (error_F c a HCC.out HTS.out _ HG4.out.2.1).mono ?_
    rintro e w5 ⟨rfl, hb⟩
    have HB5 := Aside0.mk (below_step HB4.out hb)
    have HG5 := Aside0.mk (HG4.out.below hb)
    have G := Aside0.mk (blk_below F.out hb)
    clear F
    have F := G
    clear G
    clear hb
    obtain ⟨X, hX⟩ : ∃ X, X = errC c := ⟨_, rfl⟩
    have HX := Aside0.mk hX
    rw [← hX]
    clear hX
    go_wp2_with fail
    refine (error_F c a HCC.out HTS.out _ HG5.out.2.1).mono ?_
    rintro e w6 ⟨rfl, hb⟩
    rw [show errC c = X from HX.out.symm]
    have HB6 := Aside0.mk (below_step HB5.out hb)
    have G := Aside0.mk (blk_below F.out hb)
    clear F
    have F := G
    clear G
    have k0 := (blk_cell F.out 0).trans (show _ = some _ from rfl)
    have k1 := (blk_cell F.out 1).trans (show _ = some _ from rfl)
    have k2 := (blk_cell F.out 2).trans (show _ = some _ from rfl)
    have k3 := (blk_cell F.out 3).trans (show _ = some _ from rfl)
    have k4 := (blk_cell F.out 4).trans (show _ = some _ from rfl)
    clear hb
    go_wp2_with fail
    refine (HIS.out c _).mono ?_
    rw [show (c == c) = true from by simp]
    rintro e w7 ⟨rfl, hb⟩
    have HB7 := Aside0.mk (below_step HB6.out hb)
    have G := Aside0.mk (blk_below F.out hb)
    clear F
    have F := G
    clear G
    clear k0 k1 k2 k3 k4
    have k0 := (blk_cell F.out 0).trans (show _ = some _ from rfl)
    have k1 := (blk_cell F.out 1).trans (show _ = some _ from rfl)
    have k2 := (blk_cell F.out 2).trans (show _ = some _ from rfl)
    have k3 := (blk_cell F.out 3).trans (show _ = some _ from rfl)
    have k4 := (blk_cell F.out 4).trans (show _ = some _ from rfl)
    clear hb
    go_wp2_with fail
    refine (HIS.out c2 _).mono ?_
    rw [HNE.out]
    rintro e w8 ⟨rfl, hb⟩
    have HB8 := Aside0.mk (below_step HB7.out hb)
    clear hb
    go_wp2
    go_ret
    exact ⟨rfl, HB8.out⟩
  | cons q ps =>
    obtain ⟨V, hV⟩ : ∃ V, V = wrapV (baseV true c a) ps := ⟨_, rfl⟩
    have HV := Aside0.mk hV
    obtain ⟨U, hU⟩ : ∃ U, U = wrapV (baseV true c a) (q :: ps) := ⟨_, rfl⟩
    have HU := Aside0.mk hU
    rw [← hU]
    clear hU hV
    have hin := in_any p true c a (q :: ps) w3
    rw [show wrapV (baseV true c a) (q :: ps) = U from HU.out.symm, show wrapV (baseV true c a) (p :: (q :: ps)) = .iface 53 (.agg #[.string p, U]) from by rw [HU.out]; rfl] at hin
    have huw := unwrap_ch p true c a (q :: ps) w3
    rw [show wrapV (baseV true c a) (q :: ps) = U from HU.out.symm, show wrapV (baseV true c a) (p :: (q :: ps)) = .iface 53 (.agg #[.string p, U]) from by rw [HU.out]; rfl] at huw
    have HIN := Aside0.mk hin
    have HUW := Aside0.mk huw
    have HIS := Aside0.mk (fun t w => (show Calls Tryd.prog 15 #[.iface 53 (.agg #[.string p, U]), .iface 30 (.int .i64 t)] w fun e w' => e = .returned (.bool (c == t)) ∧ Below w.heap.size w w' from by rw [show (.iface 53 (.agg #[.string p, U]) : Value) = wrapV (baseV true c a) (p :: (q :: ps)) from by rw [HU.out]; rfl]; exact Is_ch true c a t (p :: (q :: ps)) w))
    clear hin huw
    have HUV := Aside0.mk (show U = .iface 53 (.agg #[.string q, V]) from by rw [HU.out, HV.out]; rfl)
    obtain ⟨tU, vU, hUT⟩ : ∃ t v, U = .iface t v := ⟨_, _, HUV.out⟩
    rw [show (U : Value) = .iface 53 (.agg #[.string q, V]) from HUV.out] at HIN HUW HIS ⊢
    clear hUT
    go_wp2_with fail
    refine HIN.out.mono ?_
    rintro e w4 ⟨rfl, rfl⟩
    go_wp2_with fail
    refine HUW.out.mono ?_
    rintro e w4 ⟨rfl, hb⟩
    have HB4 := Aside0.mk (below_step HB3.out hb)
    have HG4 := Aside0.mk (HG3.out.below hb)
    have G := Aside0.mk (blk_below F.out hb)
    clear F
    have F := G
    clear G
    clear hb
    have mE := methodErrorI
    go_wp2_with fail
    rw [HV.out]
    refine (error_I true c a ps HCC.out q HTS.out _ HG4.out.2.1).mono ?_
    rintro e w5 ⟨rfl, hb⟩
    have HB5 := Aside0.mk (below_step HB4.out hb)
    have HG5 := Aside0.mk (HG4.out.below hb)
    have G := Aside0.mk (blk_below F.out hb)
    clear F
    have F := G
    clear G
    clear hb
    rw [← HV.out]
    obtain ⟨X, hX⟩ : ∃ X, X = txt c (q :: ps) := ⟨_, rfl⟩
    have HX := Aside0.mk hX
    rw [← hX]
    clear hX
    go_wp2_with fail
    rw [HV.out]
    refine (error_I true c a ps HCC.out q HTS.out _ HG5.out.2.1).mono ?_
    rintro e w6 ⟨rfl, hb⟩
    rw [show txt c (q :: ps) = X from HX.out.symm]
    have HB6 := Aside0.mk (below_step HB5.out hb)
    have G := Aside0.mk (blk_below F.out hb)
    clear F
    have F := G
    clear G
    have k0 := (blk_cell F.out 0).trans (show _ = some _ from rfl)
    have k1 := (blk_cell F.out 1).trans (show _ = some _ from rfl)
    have k2 := (blk_cell F.out 2).trans (show _ = some _ from rfl)
    have k3 := (blk_cell F.out 3).trans (show _ = some _ from rfl)
    have k4 := (blk_cell F.out 4).trans (show _ = some _ from rfl)
    clear hb
    rw [← HV.out]
    go_wp2_with fail
    refine (HIS.out c _).mono ?_
    rw [show (c == c) = true from by simp]
    rintro e w7 ⟨rfl, hb⟩
    have HB7 := Aside0.mk (below_step HB6.out hb)
    have G := Aside0.mk (blk_below F.out hb)
    clear F
    have F := G
    clear G
    clear k0 k1 k2 k3 k4
    have k0 := (blk_cell F.out 0).trans (show _ = some _ from rfl)
    have k1 := (blk_cell F.out 1).trans (show _ = some _ from rfl)
    have k2 := (blk_cell F.out 2).trans (show _ = some _ from rfl)
    have k3 := (blk_cell F.out 3).trans (show _ = some _ from rfl)
    have k4 := (blk_cell F.out 4).trans (show _ = some _ from rfl)
    clear hb
    go_wp2_with fail
    refine (HIS.out c2 _).mono ?_
    rw [HNE.out]
    rintro e w8 ⟨rfl, hb⟩
    have HB8 := Aside0.mk (below_step HB7.out hb)
    clear hb
    go_wp2
    go_ret
    exact ⟨rfl, HB8.out⟩

set_option maxHeartbeats 16000000 in
theorem wraps_f (A : Option Addr) (cap : Nat) (parts : List ByteArray) (c a : Int) (p : ByteArray) (w : World) (hC : Kd.C Kd.string w A parts.length parts) (hcap : parts.length ≤ cap) (hlen : parts.length ≤ 9223372036854775807) (hc : I64 c) (hf : fewP parts a = true) (hp : p.size ≤ 50) (hG : GV w) : Calls Tryd.prog 5 #[.agg #[.bool false, .slice A parts.length cap, .int .i64 c, .int .i64 a, .bool false], .string p] w fun e w' => e = .returned (.bool true) ∧ Below w.heap.size w w' := by
  obtain ⟨w0, hw0⟩ : ∃ u, u = w.alloc (.cells #[.bool false, .slice A parts.length cap, .int .i64 c, .int .i64 a, .bool false] 24) := ⟨_, rfl⟩
  have HB0 : Aside0 (Below w.heap.size w w0) := ⟨by rw [hw0]; exact below_alloc (B0 w) _⟩
  have HG0 := Aside0.mk (hG.below HB0.out)
  have F := Aside0.mk (show w0.heap[w.heap.size]? = some (.cells #[.bool false, .slice A parts.length cap, .int .i64 c, .int .i64 a, .bool false] 24 (0, 0)) from by rw [hw0]; exact blk_new w _)
  have HC0 := Aside0.mk (Kd.C_below hC HB0.out)
  have HCP := Aside0.mk hcap
  have HFE := Aside0.mk (few_eq false parts c a false (by omega))
  clear hG hC hcap
  have HFW := Aside0.mk hf
  have HBD := Aside0.mk (few_bounds hf)
  have HCC := Aside0.mk hc
  have p1 : decide (50 < p.size) = false := decide_eq_false (by omega)
  have p2 : decide ((50 : Int) < (p.size : Int)) = false := decide_eq_false (by omega)
  obtain ⟨c2, hc2⟩ : ∃ t, t = IntKind.i64.wrap (c + 1) := ⟨_, rfl⟩
  have hne : c ≠ c2 := by
    rw [hc2, IntKind.wrap_i64]
    have := hc.1
    have := hc.2
    omega
  have HNE := Aside0.mk (show (c == c2) = false from by simpa using hne)
  have hwc : IntKind.i64.wrap (c + 1) = c2 := hc2.symm
  clear hf hp hc hc2 hne
  go_enter Tryd.func5, Tryd.ntmps5
  go_wp2_with fail
  rw [← hw0]
  clear hw0
  refine (awake_any _ HG0.out).mono ?_
  rintro e w1 ⟨rfl, hb⟩
  have HB1 := Aside0.mk (below_step HB0.out hb)
  have HG1 := Aside0.mk (HG0.out.below hb)
  have HC1 := Aside0.mk (Kd.C_below HC0.out hb)
  have G := Aside0.mk (blk_below F.out hb)
  clear F
  have F := G
  clear G
  have k0 := (blk_cell F.out 0).trans (show _ = some _ from rfl)
  have k1 := (blk_cell F.out 1).trans (show _ = some _ from rfl)
  have k2 := (blk_cell F.out 2).trans (show _ = some _ from rfl)
  have k3 := (blk_cell F.out 3).trans (show _ = some _ from rfl)
  have k4 := (blk_cell F.out 4).trans (show _ = some _ from rfl)
  clear hb
  go_wp2_with fail
  refine (vestryref02_Few.calls (parts.length + 1) false A cap parts c a false _ _ HC1.out HCP.out HFE.out).mono ?_
  rintro e w2 ⟨rfl, hb⟩
  rw [HFW.out]
  have HB2 := Aside0.mk (below_step HB1.out hb)
  have HG2 := Aside0.mk (HG1.out.below hb)
  have HC2 := Aside0.mk (Kd.C_below HC1.out hb)
  have G := Aside0.mk (blk_below F.out hb)
  clear F
  have F := G
  clear G
  clear k0 k1 k2 k3 k4
  have k0 := (blk_cell F.out 0).trans (show _ = some _ from rfl)
  have k1 := (blk_cell F.out 1).trans (show _ = some _ from rfl)
  have k2 := (blk_cell F.out 2).trans (show _ = some _ from rfl)
  have k3 := (blk_cell F.out 3).trans (show _ = some _ from rfl)
  have k4 := (blk_cell F.out 4).trans (show _ = some _ from rfl)
  clear hb
  go_upto_region 3 with fail
  clear p1 p2
  go_wp2_with fail
  refine (build_any false A cap parts c a false _ HC2.out HCP.out (by have := HBD.out.2.1; omega)).mono ?_
  rintro e w3 ⟨rfl, hb⟩
  have HB3 := Aside0.mk (below_step HB2.out hb)
  have HG3 := Aside0.mk (HG2.out.below hb)
  have G := Aside0.mk (blk_below F.out hb)
  clear F
  have F := G
  clear G
  clear hb
  unfold errD
  rw [if_neg (by simp)]
  obtain ⟨ps0, hps⟩ : ∃ q, q = parts.reverse := ⟨_, rfl⟩
  have HTS := Aside0.mk (show (txt c ps0).size ≤ 1000000 from by rw [hps]; exact text_small c HCC.out parts ⟨HBD.out.1, HBD.out.2.1⟩)
  rw [← hps]
  clear hps
  clear k0 k1 k2 k3 k4
  cases ps0 with
  | nil =>
    obtain ⟨U, hU⟩ : ∃ U, U = wrapV (baseV false c a) [] := ⟨_, rfl⟩
    have HU := Aside0.mk hU
    rw [← hU]
    clear hU
    have hin := in_any p false c a [] w3
    rw [show wrapV (baseV false c a) [] = U from HU.out.symm, show wrapV (baseV false c a) (p :: []) = .iface 53 (.agg #[.string p, U]) from by rw [HU.out]; rfl] at hin
    have huw := unwrap_ch p false c a [] w3
    rw [show wrapV (baseV false c a) [] = U from HU.out.symm, show wrapV (baseV false c a) (p :: []) = .iface 53 (.agg #[.string p, U]) from by rw [HU.out]; rfl] at huw
    have HIN := Aside0.mk hin
    have HUW := Aside0.mk huw
    have HIS := Aside0.mk (fun t w => (show Calls Tryd.prog 15 #[.iface 53 (.agg #[.string p, U]), .iface 30 (.int .i64 t)] w fun e w' => e = .returned (.bool (c == t)) ∧ Below w.heap.size w w' from by rw [show (.iface 53 (.agg #[.string p, U]) : Value) = wrapV (baseV false c a) (p :: []) from by rw [HU.out]; rfl]; exact Is_ch false c a t (p :: []) w))
    clear hin huw
    have HUV := Aside0.mk (show U = .iface 30 (.int .i64 c) from by rw [HU.out]; rfl)
    obtain ⟨tU, vU, hUT⟩ : ∃ t v, U = .iface t v := ⟨_, _, HUV.out⟩
    rw [show (U : Value) = .iface 30 (.int .i64 c) from HUV.out] at HIN HUW HIS ⊢
    clear hUT
    go_wp2_with fail
    refine HIN.out.mono ?_
    rintro e w4 ⟨rfl, rfl⟩
    go_wp2_with fail
    refine HUW.out.mono ?_
    rintro e w4 ⟨rfl, hb⟩
    have HB4 := Aside0.mk (below_step HB3.out hb)
    have HG4 := Aside0.mk (HG3.out.below hb)
    have G := Aside0.mk (blk_below F.out hb)
    clear F
    have F := G
    clear G
    clear hb
    have mE := methodErrorC
    go_wp2_with fail
    refine (error_C c HCC.out HTS.out _ HG4.out.2.1).mono ?_
    rintro e w5 ⟨rfl, hb⟩
    have HB5 := Aside0.mk (below_step HB4.out hb)
    have HG5 := Aside0.mk (HG4.out.below hb)
    have G := Aside0.mk (blk_below F.out hb)
    clear F
    have F := G
    clear G
    clear hb
    obtain ⟨X, hX⟩ : ∃ X, X = errC c := ⟨_, rfl⟩
    have HX := Aside0.mk hX
    rw [← hX]
    clear hX
    go_wp2_with fail
    refine (error_C c HCC.out HTS.out _ HG5.out.2.1).mono ?_
    rintro e w6 ⟨rfl, hb⟩
    rw [show errC c = X from HX.out.symm]
    have HB6 := Aside0.mk (below_step HB5.out hb)
    have G := Aside0.mk (blk_below F.out hb)
    clear F
    have F := G
    clear G
    have k0 := (blk_cell F.out 0).trans (show _ = some _ from rfl)
    have k1 := (blk_cell F.out 1).trans (show _ = some _ from rfl)
    have k2 := (blk_cell F.out 2).trans (show _ = some _ from rfl)
    have k3 := (blk_cell F.out 3).trans (show _ = some _ from rfl)
    have k4 := (blk_cell F.out 4).trans (show _ = some _ from rfl)
    clear hb
    go_wp2_with fail
    refine (HIS.out c _).mono ?_
    rw [show (c == c) = true from by simp]
    rintro e w7 ⟨rfl, hb⟩
    have HB7 := Aside0.mk (below_step HB6.out hb)
    have G := Aside0.mk (blk_below F.out hb)
    clear F
    have F := G
    clear G
    clear k0 k1 k2 k3 k4
    have k0 := (blk_cell F.out 0).trans (show _ = some _ from rfl)
    have k1 := (blk_cell F.out 1).trans (show _ = some _ from rfl)
    have k2 := (blk_cell F.out 2).trans (show _ = some _ from rfl)
    have k3 := (blk_cell F.out 3).trans (show _ = some _ from rfl)
    have k4 := (blk_cell F.out 4).trans (show _ = some _ from rfl)
    clear hb
    go_wp2_with fail
    refine (HIS.out c2 _).mono ?_
    rw [HNE.out]
    rintro e w8 ⟨rfl, hb⟩
    have HB8 := Aside0.mk (below_step HB7.out hb)
    clear hb
    go_wp2
    go_ret
    exact ⟨rfl, HB8.out⟩
  | cons q ps =>
    obtain ⟨V, hV⟩ : ∃ V, V = wrapV (baseV false c a) ps := ⟨_, rfl⟩
    have HV := Aside0.mk hV
    obtain ⟨U, hU⟩ : ∃ U, U = wrapV (baseV false c a) (q :: ps) := ⟨_, rfl⟩
    have HU := Aside0.mk hU
    rw [← hU]
    clear hU hV
    have hin := in_any p false c a (q :: ps) w3
    rw [show wrapV (baseV false c a) (q :: ps) = U from HU.out.symm, show wrapV (baseV false c a) (p :: (q :: ps)) = .iface 53 (.agg #[.string p, U]) from by rw [HU.out]; rfl] at hin
    have huw := unwrap_ch p false c a (q :: ps) w3
    rw [show wrapV (baseV false c a) (q :: ps) = U from HU.out.symm, show wrapV (baseV false c a) (p :: (q :: ps)) = .iface 53 (.agg #[.string p, U]) from by rw [HU.out]; rfl] at huw
    have HIN := Aside0.mk hin
    have HUW := Aside0.mk huw
    have HIS := Aside0.mk (fun t w => (show Calls Tryd.prog 15 #[.iface 53 (.agg #[.string p, U]), .iface 30 (.int .i64 t)] w fun e w' => e = .returned (.bool (c == t)) ∧ Below w.heap.size w w' from by rw [show (.iface 53 (.agg #[.string p, U]) : Value) = wrapV (baseV false c a) (p :: (q :: ps)) from by rw [HU.out]; rfl]; exact Is_ch false c a t (p :: (q :: ps)) w))
    clear hin huw
    have HUV := Aside0.mk (show U = .iface 53 (.agg #[.string q, V]) from by rw [HU.out, HV.out]; rfl)
    obtain ⟨tU, vU, hUT⟩ : ∃ t v, U = .iface t v := ⟨_, _, HUV.out⟩
    rw [show (U : Value) = .iface 53 (.agg #[.string q, V]) from HUV.out] at HIN HUW HIS ⊢
    clear hUT
    go_wp2_with fail
    refine HIN.out.mono ?_
    rintro e w4 ⟨rfl, rfl⟩
    go_wp2_with fail
    refine HUW.out.mono ?_
    rintro e w4 ⟨rfl, hb⟩
    have HB4 := Aside0.mk (below_step HB3.out hb)
    have HG4 := Aside0.mk (HG3.out.below hb)
    have G := Aside0.mk (blk_below F.out hb)
    clear F
    have F := G
    clear G
    clear hb
    have mE := methodErrorI
    go_wp2_with fail
    rw [HV.out]
    refine (error_I false c a ps HCC.out q HTS.out _ HG4.out.2.1).mono ?_
    rintro e w5 ⟨rfl, hb⟩
    have HB5 := Aside0.mk (below_step HB4.out hb)
    have HG5 := Aside0.mk (HG4.out.below hb)
    have G := Aside0.mk (blk_below F.out hb)
    clear F
    have F := G
    clear G
    clear hb
    rw [← HV.out]
    obtain ⟨X, hX⟩ : ∃ X, X = txt c (q :: ps) := ⟨_, rfl⟩
    have HX := Aside0.mk hX
    rw [← hX]
    clear hX
    go_wp2_with fail
    rw [HV.out]
    refine (error_I false c a ps HCC.out q HTS.out _ HG5.out.2.1).mono ?_
    rintro e w6 ⟨rfl, hb⟩
    rw [show txt c (q :: ps) = X from HX.out.symm]
    have HB6 := Aside0.mk (below_step HB5.out hb)
    have G := Aside0.mk (blk_below F.out hb)
    clear F
    have F := G
    clear G
    have k0 := (blk_cell F.out 0).trans (show _ = some _ from rfl)
    have k1 := (blk_cell F.out 1).trans (show _ = some _ from rfl)
    have k2 := (blk_cell F.out 2).trans (show _ = some _ from rfl)
    have k3 := (blk_cell F.out 3).trans (show _ = some _ from rfl)
    have k4 := (blk_cell F.out 4).trans (show _ = some _ from rfl)
    clear hb
    rw [← HV.out]
    go_wp2_with fail
    refine (HIS.out c _).mono ?_
    rw [show (c == c) = true from by simp]
    rintro e w7 ⟨rfl, hb⟩
    have HB7 := Aside0.mk (below_step HB6.out hb)
    have G := Aside0.mk (blk_below F.out hb)
    clear F
    have F := G
    clear G
    clear k0 k1 k2 k3 k4
    have k0 := (blk_cell F.out 0).trans (show _ = some _ from rfl)
    have k1 := (blk_cell F.out 1).trans (show _ = some _ from rfl)
    have k2 := (blk_cell F.out 2).trans (show _ = some _ from rfl)
    have k3 := (blk_cell F.out 3).trans (show _ = some _ from rfl)
    have k4 := (blk_cell F.out 4).trans (show _ = some _ from rfl)
    clear hb
    go_wp2_with fail
    refine (HIS.out c2 _).mono ?_
    rw [HNE.out]
    rintro e w8 ⟨rfl, hb⟩
    have HB8 := Aside0.mk (below_step HB7.out hb)
    clear hb
    go_wp2
    go_ret
    exact ⟨rfl, HB8.out⟩


theorem row_wraps (v0 : Value) (a0 : Desc) (p : ByteArray) (W : World) {base : Nat} (hv0 : Value.okWide Tryd.prog W .any base 24 v0) (k0 : KD W a0 v0.cells.toList) (ok0 : OK a0) (hp0 : p.size ≤ maxLen) (hG : GV W) :
    Calls Tryd.prog 5 #[v0, .string p] W fun e w' => e = .returned (.bool true) ∧ Below W.heap.size W w' := by
  obtain ⟨A, cap, rfl, hcap, hC⟩ := desc_of hv0 k0
  obtain ⟨n, parts, c, a, f⟩ := a0
  have hl : parts.length ≤ 9223372036854775807 := ok0.2.2
  have hc : I64 c := wf_i64 ok0.1.1
  cases hf : fewP parts a with
  | false => exact wraps_far n A cap parts c a f p W hC hcap hl hf hG
  | true =>
    cases n with
    | true => exact wraps_nil A cap parts c a f p W hC hcap hl hf hG
    | false =>
      by_cases hp : p.size ≤ 50
      · cases f with
        | true => exact wraps_t A cap parts c a p W hC hcap hl hc hf hp hG
        | false => exact wraps_f A cap parts c a p W hC hcap hl hc hf hp hG
      · exact wraps_long A cap parts c a f p W hC hcap hl hf (by omega) hG

end Go.Proofs.YtmnfemdcccpmfaaDoor.HFaultW
