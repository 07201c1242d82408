/- The law MacEqual. -/
import Derived.Test.YthhckkfdcnddfaaDoorHMacL1
import Derived.Test.YthhckkfdcnddfaaDoorHSame
namespace Go.Proofs.YthhckkfdcnddfaaDoor.HMacL2
open Go.RowKit Go.Proofs.YthhckkfdcnddfaaDoorW.PrintWords Go.Proofs.YthhckkfdcnddfaaDoor.HLib Go.Proofs.YthhckkfdcnddfaaDoor.HSha Go.Proofs.YthhckkfdcnddfaaDoor.HShaS Go.Proofs.YthhckkfdcnddfaaDoor.HShaU Go.Proofs.YthhckkfdcnddfaaDoor.HShaV Go.Proofs.YthhckkfdcnddfaaDoor.HShaW Go.Proofs.YthhckkfdcnddfaaDoor.HShaB Go.Proofs.YthhckkfdcnddfaaDoor.HShaX Go.Proofs.YthhckkfdcnddfaaDoor.HMac Go.Proofs.YthhckkfdcnddfaaDoor.HMacC Go.Proofs.YthhckkfdcnddfaaDoor.HMacS Go.Proofs.YthhckkfdcnddfaaDoor.HMacR Go.Proofs.YthhckkfdcnddfaaDoor.HMacQ Go.Proofs.YthhckkfdcnddfaaDoor.HMacK Go.Proofs.YthhckkfdcnddfaaDoor.HMacA Go.Proofs.YthhckkfdcnddfaaDoor.HMacL1
set_option linter.unusedVariables false
set_option linter.unusedSimpArgs false

set_option maxHeartbeats 4000000 in
theorem far_walk (w : World) (A : Option Addr) (m c : Nat) (B : Option Addr) (n d : Nat) (h : 500 < m ∨ 500 < n) (hG : Glob w) :
    Calls Tryd.prog 5 #[.slice A m c, .slice B n d] w fun e w' => e = .returned (.bool true) ∧ Below w.heap.size w w' := by
  have HG := Aside0.mk hG
  clear hG
  by_cases c1 : 500 < m
  · have d1 : decide (500 < m) = true := decide_eq_true c1
    have d2 : decide ((500 : Int) < (m : Int)) = true := decide_eq_true (by omega)
    clear h c1
    go_enter Tryd.func5, Tryd.ntmps5
    go_wp2_with fail
    refine (awake_any w HG.out).mono ?_
    rintro e w1 ⟨rfl, hb1⟩
    have HB1 := Aside0.mk hb1
    clear hb1
    go_wp2_with fail
    refine (awake_any w1 (glob_below HG.out HG.out.1 HB1.out)).mono ?_
    rintro e w2 ⟨rfl, hb2⟩
    have HB2 := Aside0.mk (below_step HB1.out hb2)
    clear hb2
    go_wp2
    go_ret
    exact ⟨rfl, HB2.out⟩
  · have d1 : decide (500 < m) = false := decide_eq_false c1
    have d2 : decide ((500 : Int) < (m : Int)) = false := decide_eq_false (by omega)
    have d3 : decide (500 < n) = true := decide_eq_true (by omega)
    have d4 : decide ((500 : Int) < (n : Int)) = true := decide_eq_true (by omega)
    clear h c1
    go_enter Tryd.func5, Tryd.ntmps5
    go_wp2_with fail
    refine (awake_any w HG.out).mono ?_
    rintro e w1 ⟨rfl, hb1⟩
    have HB1 := Aside0.mk hb1
    clear hb1
    go_wp2_with fail
    refine (awake_any w1 (glob_below HG.out HG.out.1 HB1.out)).mono ?_
    rintro e w2 ⟨rfl, hb2⟩
    have HB2 := Aside0.mk (below_step HB1.out hb2)
    clear hb2
    go_wp2
    go_ret
    exact ⟨rfl, HB2.out⟩

set_option maxHeartbeats 4000000 in
theorem near_walk (w : World) (A : Option Addr) (c : Nat) (xs : List Int) (hA : Bv w (.slice A xs.length c) xs) (hx : ∀ x ∈ xs, 0 ≤ x ∧ x < 256) (h1 : xs.length ≤ 500) (B : Option Addr) (d : Nat) (ys : List Int) (hB : Bv w (.slice B ys.length d) ys) (hy : ∀ x ∈ ys, 0 ≤ x ∧ x < 256) (h2 : ys.length ≤ 500) (hG : Glob w) :
    Calls Tryd.prog 5 #[.slice A xs.length c, .slice B ys.length d] w fun e w' => e = .returned (.bool true) ∧ Below w.heap.size w w' := by
  have HA := Aside0.mk hA
  have HB := Aside0.mk hB
  have HX := Aside0.mk (And.intro hx hy)
  have HL := Aside0.mk (And.intro h1 h2)
  have HG := Aside0.mk hG
  have d1 : decide (500 < xs.length) = false := decide_eq_false (by omega)
  have d2 : decide ((500 : Int) < (xs.length : Int)) = false := decide_eq_false (by omega)
  have d3 : decide (500 < ys.length) = false := decide_eq_false (by omega)
  have d4 : decide ((500 : Int) < (ys.length : Int)) = false := decide_eq_false (by omega)
  clear hA hB hx hy h1 h2 hG
  go_enter Tryd.func5, Tryd.ntmps5
  go_wp2_with fail
  refine (awake_any w HG.out).mono ?_
  rintro e w1 ⟨rfl, hb1⟩
  have HB1 := Aside0.mk hb1
  clear hb1
  go_wp2_with fail
  refine (equal_any w1 _ _ xs ys (HA.out.below HB1.out) (HB.out.below HB1.out) HX.out.1 HX.out.2 (by have := HL.out; omega)).mono ?_
  rintro e w2 ⟨rfl, hb2⟩
  have HB2 := Aside0.mk (below_step HB1.out hb2)
  clear hb2
  obtain ⟨r, hr⟩ : ∃ r, r = decide (xs = ys) := ⟨_, rfl⟩
  rw [← hr]
  go_wp2_with fail
  refine (HSame.same_bv w2 _ _ xs ys (HA.out.below HB2.out) (HB.out.below HB2.out) (by have := HL.out; omega)).mono ?_
  rintro e w3 ⟨rfl, ⟨m, rfl⟩⟩
  rw [← hr]
  have HB3 := Aside0.mk (pw_below_drewN HB2.out m)
  have hrr : (r == r) = true := by cases r <;> rfl
  clear hr
  go_wp2_with fail
  refine (equal_any _ _ _ xs xs (HA.out.below HB3.out) (HA.out.below HB3.out) HX.out.1 HX.out.1 (by have := HL.out; omega)).mono ?_
  rintro e w4 ⟨rfl, hb4⟩
  rw [show decide (xs = xs) = true from decide_eq_true rfl]
  have HB4 := Aside0.mk (below_step HB3.out hb4)
  clear hb4
  go_wp2
  go_ret
  exact ⟨rfl, HB4.out⟩

theorem row_equal (v0 : Value) (a0 : List Int) (v1 : Value) (a1 : List Int) (W : World)
    {base : Nat} (hv0 : Value.okWide Tryd.prog W .any base 22 v0) (k0 : (Kd.slice 5 (Kd.int .u8)).K W a0 v0.cells.toList) (ok0 : (∀ b ∈ a0, (Lit.int .u8 b).wf = true) ∧ a0.length ≤ maxLen)
    {base' : Nat} (hv1 : Value.okWide Tryd.prog W .any base' 22 v1) (k1 : (Kd.slice 5 (Kd.int .u8)).K W a1 v1.cells.toList) (ok1 : (∀ b ∈ a1, (Lit.int .u8 b).wf = true) ∧ a1.length ≤ maxLen) (hG : Glob W) :
    Calls Tryd.prog 5 #[v0, v1] W fun e w' => e = .returned (.bool true) ∧ Below W.heap.size W w' := by
  obtain ⟨A, c, rfl, hA⟩ := bytes_of hv0 k0
  obtain ⟨B, d, rfl, hB⟩ := bytes_of hv1 k1
  by_cases hf : 500 < a0.length ∨ 500 < a1.length
  · exact far_walk W A a0.length c B a1.length d hf hG
  · exact near_walk W A c a0 hA (fun x hx => wf_u8 (ok0.1 x hx)) (by omega) B d a1 hB (fun x hx => wf_u8 (ok1.1 x hx)) (by omega) hG

end Go.Proofs.YthhckkfdcnddfaaDoor.HMacL2
