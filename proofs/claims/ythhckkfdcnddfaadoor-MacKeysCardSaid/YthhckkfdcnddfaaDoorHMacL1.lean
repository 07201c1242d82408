/- The law MacMatchesReference, where its arguments are not too great. -/
import Derived.Test.YthhckkfdcnddfaaDoorHMacA
import Derived.Test.YthhckkfdcnddfaaDoorHEqA
import Derived.Test.YthhckkfdcnddfaaDoorHOpen
import Derived.Test.YthhckkfdcnddfaaDoorPMacMatchesReferencex1
namespace Go.Proofs.YthhckkfdcnddfaaDoor.HMacL1
open Go.RowKit Go.Proofs.YthhckkfdcnddfaaDoorW.PrintWords Go.Proofs.YthhckkfdcnddfaaDoor.HLib Go.Proofs.YthhckkfdcnddfaaDoor.HSha Go.Proofs.YthhckkfdcnddfaaDoor.HShaS Go.Proofs.YthhckkfdcnddfaaDoor.HShaU Go.Proofs.YthhckkfdcnddfaaDoor.HShaV Go.Proofs.YthhckkfdcnddfaaDoor.HShaW Go.Proofs.YthhckkfdcnddfaaDoor.HShaB Go.Proofs.YthhckkfdcnddfaaDoor.HShaX Go.Proofs.YthhckkfdcnddfaaDoor.HMac Go.Proofs.YthhckkfdcnddfaaDoor.HMacC Go.Proofs.YthhckkfdcnddfaaDoor.HMacS Go.Proofs.YthhckkfdcnddfaaDoor.HMacR Go.Proofs.YthhckkfdcnddfaaDoor.HMacQ Go.Proofs.YthhckkfdcnddfaaDoor.HMacK Go.Proofs.YthhckkfdcnddfaaDoor.HMacA Go.Proofs.YthhckkfdcnddfaaDoor.PMacMatchesReference
set_option linter.unusedVariables false
set_option linter.unusedSimpArgs false

theorem join_step (xss : List (List Int)) (hs : (cat xss).length ≤ 4294967296) (hn : xss.length ≤ 4294967296) : ∀ d i : Nat, i + d = xss.length → vestryref01_Join.l0 (d + 1) xss (cat (xss.take i)) i = some (cat xss) := by
  intro d
  induction d with
  | zero =>
    intro i hi
    obtain rfl : i = xss.length := by omega
    rw [vestryref01_Join.l0, if_neg (by omega), List.take_of_length_le (Nat.le_refl _)]
  | succ d ih =>
    intro i hi
    have e : wrap64 ((i : Int) + 1) = ((i + 1 : Nat) : Int) := by rw [IntWalk.wrap64_in _ (by omega)]; omega
    have hr : rd_L1 xss (i : Int) = el xss i := rfl
    have hb := cat_bound xss i (by omega) (by omega)
    rw [show ((i : Nat) : Int).toNat = i from by omega] at hb
    rw [vestryref01_Join.l0, if_pos (by omega), if_pos (by omega), hr, if_pos (by omega), e, show cat (xss.take i) ++ el xss i = cat (xss.take (i + 1)) from by rw [cat_take xss i (by omega)]; rfl]
    exact ih (i + 1) (by omega)
theorem join_any (w : World) (A : Option Addr) (c : Nat) (xss : List (List Int)) (hC : KB.C w A xss.length xss) (hc : xss.length ≤ c) (hs : (cat xss).length ≤ 4294967296) (hn : xss.length ≤ 4294967296) :
    Calls Tryd.prog 9 #[.slice A xss.length c] w fun e w' => ∃ v, e = .returned v ∧ Kd.R (Kd.int .u8) 5 w' w.heap.size (fun _ => True) v (cat xss) ∧ Below w.heap.size w w' :=
  vestryref01_Join.calls (xss.length + 1) A c xss _ w hC hc (join_step xss hs hn xss.length 0 (Nat.zero_add _))

set_option maxHeartbeats 4000000 in
theorem far_walk (w : World) (Ak : Option Addr) (kl ck : Nat) (A : Option Addr) (pl c : Nat) (h : 300 < kl ∨ 20 < pl) (hG : Glob w) :
    Calls Tryd.prog 3 #[.slice Ak kl ck, .slice A pl c] w fun e w' => e = .returned (.bool true) ∧ Below w.heap.size w w' := by
  have HG := Aside0.mk hG
  clear hG
  by_cases c1 : 300 < kl
  · have d1 : decide (300 < kl) = true := decide_eq_true c1
    have d2 : decide ((300 : Int) < (kl : Int)) = true := decide_eq_true (by omega)
    clear h c1
    go_enter Tryd.func3, Tryd.ntmps3
    go_wp2_with fail
    refine (awake_any w HG.out).mono ?_
    rintro e w1 ⟨rfl, hb1⟩
    have HB1 := Aside0.mk hb1
    clear hb1
    go_wp2_with fail
    refine (awake_any w1 (glob_below HG.out HG.out.1 HB1.out)).mono ?_
    rintro e w2 ⟨rfl, hb2⟩
    have HB2 := Aside0.mk (below_step HB1.out hb2)
    clear hb2
    go_wp2
    go_ret
    exact ⟨rfl, HB2.out⟩
  · have d1 : decide (300 < kl) = false := decide_eq_false c1
    have d2 : decide ((300 : Int) < (kl : Int)) = false := decide_eq_false (by omega)
    have d3 : decide (20 < pl) = true := decide_eq_true (by omega)
    have d4 : decide ((20 : Int) < (pl : Int)) = true := decide_eq_true (by omega)
    clear h c1
    go_enter Tryd.func3, Tryd.ntmps3
    go_wp2_with fail
    refine (awake_any w HG.out).mono ?_
    rintro e w1 ⟨rfl, hb1⟩
    have HB1 := Aside0.mk hb1
    clear hb1
    go_wp2_with fail
    refine (awake_any w1 (glob_below HG.out HG.out.1 HB1.out)).mono ?_
    rintro e w2 ⟨rfl, hb2⟩
    have HB2 := Aside0.mk (below_step HB1.out hb2)
    clear hb2
    go_wp2
    go_ret
    exact ⟨rfl, HB2.out⟩

set_option maxHeartbeats 4000000 in
theorem near_walk (w : World) (Ak : Option Addr) (ck : Nat) (key : List Int) (hK : Bv w (.slice Ak key.length ck) key) (hkb : ∀ x ∈ key, 0 ≤ x ∧ x < 256) (hk : key.length ≤ 300) (A : Option Addr) (c : Nat) (xss : List (List Int)) (hC : KB.C w A xss.length xss) (hc : xss.length ≤ c) (hby : ∀ x ∈ cat xss, 0 ≤ x ∧ x < 256) (hs : (cat xss).length ≤ 4294960000) (hn : xss.length ≤ 20) (hG : Glob w) :
    Calls Tryd.prog 3 #[.slice Ak key.length ck, .slice A xss.length c] w fun e w' => e = .returned (.bool true) ∧ Below w.heap.size w w' := by
  have HK := Aside0.mk hK
  have HKB := Aside0.mk (And.intro hkb hk)
  have HC := Aside0.mk hC
  have HBY := Aside0.mk hby
  have HS := Aside0.mk hs
  have HN := Aside0.mk hn
  have HCC := Aside0.mk hc
  have HG := Aside0.mk hG
  have d1 : decide (300 < key.length) = false := decide_eq_false (by omega)
  have d2 : decide ((300 : Int) < (key.length : Int)) = false := decide_eq_false (by omega)
  have d3 : decide (20 < xss.length) = false := decide_eq_false (by omega)
  have d4 : decide ((20 : Int) < (xss.length : Int)) = false := decide_eq_false (by omega)
  clear hK hkb hk hC hby hs hn hG hc
  go_enter Tryd.func3, Tryd.ntmps3
  go_wp2_with fail
  refine (awake_any w HG.out).mono ?_
  rintro e w1 ⟨rfl, hb1⟩
  have HB1 := Aside0.mk hb1
  clear hb1
  go_wp2_with fail
  refine (join_any w1 A c xss (Kd.C_below HC.out HB1.out) HCC.out (by have := HS.out; omega) (by have := HN.out; omega)).mono ?_
  rintro e w2 ⟨v, rfl, hR, hb2⟩
  have HB2 := Aside0.mk (below_step HB1.out hb2)
  have HV := Aside0.mk (Bs.bv (Bs.of_R hR))
  obtain ⟨A2, c2, hv2, _, _⟩ := Kd.R_reads hR
  subst hv2
  clear hR hb2
  by_cases c3 : 1000 < (cat xss).length
  · have e3 : decide (1000 < (cat xss).length) = true := decide_eq_true c3
    have e4 : decide ((1000 : Int) < ((cat xss).length : Int)) = true := decide_eq_true (by omega)
    clear c3
    go_wp2
    go_ret
    exact ⟨rfl, HB2.out⟩
  · have e3 : decide (1000 < (cat xss).length) = false := decide_eq_false c3
    have e4 : decide ((1000 : Int) < ((cat xss).length : Int)) = false := decide_eq_false (by omega)
    clear c3
    go_wp2_with fail
    refine (mac_any w2 _ key (HK.out.below HB2.out) HKB.out.1 (by have := HKB.out.2; omega) A c xss (Kd.C_below HC.out HB2.out) HCC.out HBY.out HS.out (by have := HN.out; omega) (glob_below HG.out HG.out.1 HB2.out)).mono ?_
    rintro e w3 ⟨rfl, hb3⟩
    have HB3 := Aside0.mk (below_step HB2.out hb3)
    have HV3 := Aside0.mk (HV.out.below hb3)
    clear hb3
    go_wp2_with fail
    refine (refmac_any w3 _ key (HK.out.below HB3.out) HKB.out.1 (by have := HKB.out.2; omega) _ (cat xss) HV3.out HBY.out HS.out).mono ?_
    rintro e w4 ⟨rfl, hb4⟩
    have HB4 := Aside0.mk (below_step HB3.out hb4)
    have heq := HEqA.eq_arr (P := Tryd.prog) Tryd.underlying26 Tryd.underlying5 (show Tryd.prog.info? 5 = some _ from rfl) (by kernel_rfl) (macP key (cat xss)) (macP_len _ _)
    clear hb4
    go_wp2
    go_ret
    exact ⟨rfl, HB4.out⟩

theorem opensBytes : HOpen.Opens Tryd.prog 22 (Kd.slice 5 (Kd.int .u8)) (fun xs : List Int => (∀ b ∈ xs, (Lit.int .u8 b).wf = true) ∧ xs.length ≤ maxLen) (fun xs : List Int => (xs.map fun _ => 1).sum + 1) :=
  HOpen.opens_slice Tryd.underlying22 (by kernel_rfl) (HOpen.opens_int Tryd.underlying5)
theorem opensParts : HOpen.Opens Tryd.prog 23 (Kd.slice 22 (Kd.slice 5 (Kd.int .u8)))
    (fun xss : List (List Int) => (∀ x ∈ xss, (∀ b ∈ x, (Lit.int .u8 b).wf = true) ∧ x.length ≤ maxLen) ∧ xss.length ≤ maxLen) (fun xss : List (List Int) => (xss.map fun xs => (xs.map fun _ => 1).sum + 1).sum + 1) :=
  HOpen.opens_slice Tryd.underlying23 (by kernel_rfl) (HOpen.opens_slice Tryd.underlying22 (by kernel_rfl) (HOpen.opens_int Tryd.underlying5))
theorem ones (x : List Int) : (x.map fun _ => 1).sum = x.length := by
  induction x with
  | nil => rfl
  | cons a x ih => rw [List.map_cons, List.sum_cons, List.length_cons, ih]; omega
theorem cat_le (xss : List (List Int)) : (cat xss).length + xss.length ≤ (xss.map fun xs => (xs.map fun _ => 1).sum + 1).sum := by
  induction xss with
  | nil => simp [cat]
  | cons x xss ih =>
    have e : cat (x :: xss) = x ++ cat xss := rfl
    rw [List.map_cons, List.sum_cons, ones, e, List.length_append, List.length_cons]
    omega
theorem bytes_of {w : World} {v : Value} {xs : List Int} {base : Nat} (hv : Value.okWide Tryd.prog w .any base 22 v) (k : (Kd.slice 5 (Kd.int .u8)).K w xs v.cells.toList) : ∃ A c, v = .slice A xs.length c ∧ Bv w v xs := by
  obtain ⟨A0, len, cap, rfl⟩ := WideShapes.okWide_slice Tryd.underlying22 hv
  obtain ⟨A, c, e, hc, hC⟩ := k
  simp only [Value.cells, List.cons.injEq, and_true] at e
  rw [e]
  exact ⟨A, c, rfl, A, c, rfl, hc, hC⟩
theorem row_matches (v0 : Value) (a0 : List Int) (v1 : Value) (a1 : List (List Int)) (W : World)
    {base : Nat} (hv0 : Value.okWide Tryd.prog W .any base 22 v0) (k0 : (Kd.slice 5 (Kd.int .u8)).K W a0 v0.cells.toList) (ok0 : (∀ b ∈ a0, (Lit.int .u8 b).wf = true) ∧ a0.length ≤ maxLen) (b0 : (a0.map fun _ => 1).sum + 1 ≤ 1048576)
    {base' : Nat} (hv1 : Value.okWide Tryd.prog W .any base' 23 v1) (k1 : (Kd.slice 22 (Kd.slice 5 (Kd.int .u8))).K W a1 v1.cells.toList) (ok1 : (∀ x ∈ a1, (∀ b ∈ x, (Lit.int .u8 b).wf = true) ∧ x.length ≤ maxLen) ∧ a1.length ≤ maxLen) (b1 : (a1.map fun xs => (xs.map fun _ => 1).sum + 1).sum + 1 ≤ 1048576) (hG : Glob W) :
    Calls Tryd.prog 3 #[v0, v1] W fun e w' => e = .returned (.bool true) ∧ Below W.heap.size W w' := by
  obtain ⟨Ak, ck, rfl, hK⟩ := bytes_of hv0 k0
  obtain ⟨A0, len, cap, rfl⟩ := WideShapes.okWide_slice Tryd.underlying23 hv1
  obtain ⟨A, c, e, hc, hC⟩ := k1
  simp only [Value.cells, List.cons.injEq, and_true] at e
  rw [e]
  have h := cat_le a1
  by_cases hf : 300 < a0.length ∨ 20 < a1.length
  · exact far_walk W Ak a0.length ck A a1.length c hf hG
  · refine near_walk W Ak ck a0 hK (fun x hx => wf_u8 (ok0.1 x hx)) (by omega) A c a1 hC hc (fun x hx => ?_) (by omega) (by omega) hG
    obtain ⟨l, hl, hxl⟩ := List.mem_flatten.1 hx
    exact wf_u8 ((ok1.1 l hl).1 x hxl)

end Go.Proofs.YthhckkfdcnddfaaDoor.HMacL1
