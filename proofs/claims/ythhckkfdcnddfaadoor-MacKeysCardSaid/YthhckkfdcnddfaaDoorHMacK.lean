/- mac.Check. -/
import Derived.Test.YthhckkfdcnddfaaDoorHMacQ
namespace Go.Proofs.YthhckkfdcnddfaaDoor.HMacK
open Go.RowKit Go.Proofs.YthhckkfdcnddfaaDoorW.PrintWords Go.Proofs.YthhckkfdcnddfaaDoor.HLib Go.Proofs.YthhckkfdcnddfaaDoor.HSha Go.Proofs.YthhckkfdcnddfaaDoor.HShaS Go.Proofs.YthhckkfdcnddfaaDoor.HShaU Go.Proofs.YthhckkfdcnddfaaDoor.HShaV Go.Proofs.YthhckkfdcnddfaaDoor.HShaW Go.Proofs.YthhckkfdcnddfaaDoor.HShaB Go.Proofs.YthhckkfdcnddfaaDoor.HShaX Go.Proofs.YthhckkfdcnddfaaDoor.HMac Go.Proofs.YthhckkfdcnddfaaDoor.HMacC Go.Proofs.YthhckkfdcnddfaaDoor.HMacS Go.Proofs.YthhckkfdcnddfaaDoor.HMacR Go.Proofs.YthhckkfdcnddfaaDoor.HMacQ
set_option linter.unusedVariables false
set_option linter.unusedSimpArgs false

theorem macP_len (key bs : List Int) : (macP key bs).length = 32 := sumP_len _
theorem macP_byte (key bs : List Int) : ∀ x ∈ macP key bs, 0 ≤ x ∧ x < 256 := sumP_byte _
/-- What mac.Check answers. -/
def chk (key code bs : List Int) : Bool := decide (16 ≤ code.length ∧ code.length ≤ 32 ∧ code = (macP key bs).take code.length)
theorem bytes_C_take {w : World} {g : Nat} {t : TypeId} {fr : Nat × Nat} {xs : List Int} (h : w.heap[g]? = some (.cells (nums .u8 xs).toArray t fr)) (hl : xs.length ≤ 4294967296) (m : Nat) (hm : m ≤ xs.length) : (Kd.int .u8).C w (some ⟨g, 0, none⟩) (xs.take m).length (xs.take m) := by
  have hlt : (xs.take m).length = m := by rw [List.length_take]; omega
  refine Kd.C_of_reads (d := (0 : Int)) (readsInt_of.1 ⟨rfl, by omega, fun _ => ⟨_, rfl, fun j hj => ?_⟩⟩)
  have e : (⟨g, 0, none⟩ : Addr).add j = ⟨g, j, none⟩ := by unfold Addr.add; split <;> simp_all
  rw [e]
  have hj2 : j < xs.length := by omega
  simp [World.cell?, h, nums, List.getElem?_eq_getElem hj2, List.getD_eq_getElem?_getD, List.getElem?_take_of_lt (show j < m by omega)]

set_option maxHeartbeats 8000000 in
theorem check_any (w : World) (vk : Value) (key : List Int) (hvk : Bv w vk key) (hkb : ∀ x ∈ key, 0 ≤ x ∧ x < 256) (hkl : key.length ≤ 4294960000) (vc : Value) (code : List Int) (hvc : Bv w vc code) (hcb : ∀ x ∈ code, 0 ≤ x ∧ x < 256) (hcl : code.length ≤ 4294960000)
    (A : Option Addr) (c : Nat) (xss : List (List Int)) (hC : KB.C w A xss.length xss) (hcc : xss.length ≤ c) (hby : ∀ x ∈ cat xss, 0 ≤ x ∧ x < 256) (hl : (cat xss).length ≤ 4294960000) (hxl : xss.length ≤ 4294960000) (hG : Glob w) :
    Calls Tryd.prog 12 #[vk, vc, .slice A xss.length c] w fun e w' => e = .returned (.bool (chk key code (cat xss))) ∧ Below w.heap.size w w' := by
  obtain ⟨Ac, cc, rfl, hc1, hC1⟩ := hvc
  have HM := fun W h => mac_any W vk key (hvk.below h) hkb hkl A c xss (Kd.C_below hC h) hcc hby hl hxl
  have HM1 := Aside0.mk (mac_any w vk key hvk hkb hkl A c xss hC hcc hby hl hxl hG)
  have HVC := Aside0.mk (show Bv w (.slice Ac code.length cc) code from ⟨Ac, cc, rfl, hc1, hC1⟩)
  have HCB := Aside0.mk hcb
  have HCL := Aside0.mk hcl
  obtain ⟨M, hM⟩ : ∃ M, M = macP key (cat xss) := ⟨_, rfl⟩
  have HMB := Aside0.mk (show M.length = 32 ∧ ∀ x ∈ M, 0 ≤ x ∧ x < 256 from by rw [hM]; exact ⟨macP_len _ _, macP_byte _ _⟩)
  have HE := Aside0.mk (show chk key code (cat xss) = decide (16 ≤ code.length ∧ code.length ≤ 32 ∧ code = M.take code.length) from by rw [hM]; rfl)
  rw [← hM] at HM1
  obtain ⟨Av, cv, rfl, _, _⟩ := id hvk
  clear hvk hkb hkl hcb hcl hC hcc hby hl hxl hG HM hc1 hC1 hM
  by_cases c1 : 16 ≤ code.length
  · have d1 : decide (16 ≤ code.length) = true := decide_eq_true c1
    have d2 : decide ((16 : Int) ≤ (code.length : Int)) = true := decide_eq_true (by omega)
    by_cases c2 : code.length ≤ 32
    · have d3 : decide (code.length ≤ 32) = true := decide_eq_true c2
      have d4 : decide ((code.length : Int) ≤ 32) = true := decide_eq_true (by omega)
      have i0 : (0 : Int) ≤ (code.length : Int) := by omega
      have i1 : (code.length : Int) ≤ 32 := by omega
      have HD := Aside0.mk (show decide (16 ≤ code.length ∧ code.length ≤ 32 ∧ code = M.take code.length) = decide (code = M.take code.length) from by simp [c1, c2])
      have HTL := Aside0.mk (show (M.take code.length).length = code.length from by rw [List.length_take, HMB.out.1]; omega)
      have HC2 := Aside0.mk c2
      clear c1 c2
      go_enter Tryd.func12, Tryd.ntmps12
      go_wp2_with fail
      refine HM1.out.mono ?_
      rintro e w1 ⟨rfl, hb1⟩
      have HB1 := Aside0.mk hb1
      have HST := Aside0.mk (run_storeAt_new (P := Tryd.prog) w1 26 (nums .u8 (List.replicate 32 0)).toArray (nums .u8 M).toArray (by rw [size_out]; simp [nums, HMB.out.1]) (by simp [nums, HMB.out.1]) (by simp [nums, Value.oneCell']))
      obtain ⟨W, hW⟩ : ∃ W, W = w1.alloc (.cells (nums .u8 M).toArray 26) := ⟨_, rfl⟩
      have HBW : Aside0 (Below w.heap.size w W) := ⟨by rw [hW]; exact below_alloc hb1 _⟩
      have hvc2 := HVC.out.below HBW.out
      have hMC : Bv W (.slice (some ⟨w1.heap.size, 0, none⟩) code.length 32) (M.take code.length) := by
        have h := bytes_C_take (w := W) (g := w1.heap.size) (t := 26) (fr := (0, 0)) (xs := M) (by rw [hW]; exact blk_new w1 _) (by rw [HMB.out.1]; decide) code.length (by rw [HMB.out.1]; exact HC2.out)
        exact ⟨_, 32, by rw [HTL.out], by rw [HTL.out]; exact HC2.out, h⟩
      have HV2 := Aside0.mk (And.intro hvc2 hMC)
      have hst := HST.out
      rw [← hW] at hst
      have HST2 := Aside0.mk hst
      clear hb1 hW hst hvc2 hMC
      go_wp2_with (refine store_event rfl (t := 26) (p := 7) (v := .tmp 10) rfl rfl (w1 := W) ?hr ?_; (case hr => exact run_store_of rfl HST2.out); intro w5 hw5; have hw6 := hw5.symm; subst hw6)
      refine (equal_any W _ _ code (M.take code.length) HV2.out.1 HV2.out.2 HCB.out (fun x hx => HMB.out.2 x (List.mem_of_mem_take hx)) (by have := HCL.out; omega)).mono ?_
      rintro e w2 ⟨rfl, hb2⟩
      have HB2 := Aside0.mk (below_step HBW.out hb2)
      obtain ⟨r, hr⟩ : ∃ r, r = decide (code = M.take code.length) := ⟨_, rfl⟩
      have HRR := Aside0.mk hr
      rw [← hr]
      clear hb2 hr
      go_wp2
      go_ret
      rw [HE.out, HD.out, ← HRR.out]
      exact ⟨by simp, HB2.out⟩
    · have d3 : decide (code.length ≤ 32) = false := decide_eq_false c2
      have d4 : decide ((code.length : Int) ≤ 32) = false := decide_eq_false (by omega)
      have HD := Aside0.mk (show decide (16 ≤ code.length ∧ code.length ≤ 32 ∧ code = M.take code.length) = false from decide_eq_false (fun h => c2 h.2.1))
      clear c1 c2
      go_enter Tryd.func12, Tryd.ntmps12
      go_wp2_with fail
      refine HM1.out.mono ?_
      rintro e w1 ⟨rfl, hb1⟩
      have HB1 := Aside0.mk hb1
      have HST := Aside0.mk (run_storeAt_new (P := Tryd.prog) w1 26 (nums .u8 (List.replicate 32 0)).toArray (nums .u8 M).toArray (by rw [size_out]; simp [nums, HMB.out.1]) (by simp [nums, HMB.out.1]) (by simp [nums, Value.oneCell']))
      clear hb1
      go_wp2_with (refine store_event rfl (t := 26) (p := 7) (v := .tmp 10) rfl rfl (w1 := w1.alloc (.cells (nums .u8 M).toArray 26)) ?hr ?_; (case hr => exact run_store_of rfl HST.out); intro w5 hw5; subst hw5)
      go_ret
      rw [HE.out, HD.out]
      exact ⟨rfl, below_alloc HB1.out _⟩
  · have d1 : decide (16 ≤ code.length) = false := decide_eq_false c1
    have d2 : decide ((16 : Int) ≤ (code.length : Int)) = false := decide_eq_false (by omega)
    have HD := Aside0.mk (show decide (16 ≤ code.length ∧ code.length ≤ 32 ∧ code = M.take code.length) = false from decide_eq_false (fun h => c1 h.1))
    clear c1
    go_enter Tryd.func12, Tryd.ntmps12
    go_wp2_with fail
    refine HM1.out.mono ?_
    rintro e w1 ⟨rfl, hb1⟩
    have HB1 := Aside0.mk hb1
    have HST := Aside0.mk (run_storeAt_new (P := Tryd.prog) w1 26 (nums .u8 (List.replicate 32 0)).toArray (nums .u8 M).toArray (by rw [size_out]; simp [nums, HMB.out.1]) (by simp [nums, HMB.out.1]) (by simp [nums, Value.oneCell']))
    clear hb1
    go_wp2_with (refine store_event rfl (t := 26) (p := 7) (v := .tmp 10) rfl rfl (w1 := w1.alloc (.cells (nums .u8 M).toArray 26)) ?hr ?_; (case hr => exact run_store_of rfl HST.out); intro w5 hw5; subst hw5)
    go_ret
    rw [HE.out, HD.out]
    exact ⟨rfl, below_alloc HB1.out _⟩

end Go.Proofs.YthhckkfdcnddfaaDoor.HMacK
