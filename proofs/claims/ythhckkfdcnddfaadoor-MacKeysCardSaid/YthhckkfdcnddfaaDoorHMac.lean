/- The code's inner parts: the masked key. -/
import Derived.Test.YthhckkfdcnddfaaDoorHShaX
import Derived.Test.YthhckkfdcnddfaaDoorHShaB
import Derived.Laws.CopyOwn
import Derived.OpenShut
namespace Go.Proofs.YthhckkfdcnddfaaDoor.HMac
open Go.RowKit Go.Proofs.YthhckkfdcnddfaaDoorW.PrintWords Go.Proofs.YthhckkfdcnddfaaDoor.HLib Go.Proofs.YthhckkfdcnddfaaDoor.HSha Go.Proofs.YthhckkfdcnddfaaDoor.HShaS Go.Proofs.YthhckkfdcnddfaaDoor.HShaP Go.Proofs.YthhckkfdcnddfaaDoor.HShaU Go.Proofs.YthhckkfdcnddfaaDoor.HShaV Go.Proofs.YthhckkfdcnddfaaDoor.HShaW Go.Proofs.YthhckkfdcnddfaaDoor.HShaB Go.Proofs.YthhckkfdcnddfaaDoor.HShaX
set_option linter.unusedVariables false
set_option linter.unusedSimpArgs false

/-- Bytes, each turned by c. -/
def xr (c : Int) (k : List Int) : List Int := k.map fun x => bits .xor .u8 x c
theorem xr_len (c : Int) (k : List Int) : (xr c k).length = k.length := by simp [xr]
theorem xr_byte (c : Int) (k : List Int) : ∀ x ∈ xr c k, 0 ≤ x ∧ x < 256 := by
  intro x hx
  obtain ⟨y, _, rfl⟩ := List.mem_map.1 hx
  exact wf_u8 (wf_bits .xor .u8 y c)
theorem xr_get (c : Int) (k : List Int) (j : Nat) (h : j < k.length) : (xr c k).getD j 0 = bits .xor .u8 (k.getD j 0) c := by
  rw [List.getD_eq_getElem?_getD, List.getElem?_eq_getElem (by rw [xr_len]; exact h), List.getD_eq_getElem?_getD, List.getElem?_eq_getElem h]
  simp [xr]
/-- The key, filled up. -/
def key64 (key : List Int) : List Int := (if 64 < key.length then sumP key else key) ++ List.replicate (64 - (if 64 < key.length then sumP key else key).length) 0
theorem key64_len (key : List Int) : (key64 key).length = 64 := by
  unfold key64
  split
  · rw [List.length_append, sumP_len, List.length_replicate]
  · rw [List.length_append, List.length_replicate]; omega
/-- The code. -/
def macP (key bs : List Int) : List Int := sumP (xr 92 (key64 key) ++ sumP (xr 54 (key64 key) ++ bs))
theorem size_pad : (Tryd.prog.info? 41).map (·.size) = some 64 := by kernel_rfl

set_option maxHeartbeats 4000000 in
theorem mask_any (w : World) (gp : Nat) (k : List Int) (c : Int) (hk : IsArr w gp .u8 41 k) (hl : k.length = 64) :
    Calls Tryd.prog 20 #[.int .u8 c, .pointer (some ⟨gp, 0, none⟩)] w fun e w' => e = .returned (.slice (some ⟨w.heap.size, 0, none⟩) 64 64) ∧ IsArr w' w.heap.size .u8 41 (xr c k) ∧ Below w.heap.size w w' := by
  have HK := Aside0.mk hk
  have HL := Aside0.mk hl
  have HLD := Aside0.mk (arr_load (P := Tryd.prog) hk Tryd.underlying41 rfl (by rw [size_pad, hl]))
  have HST := Aside0.mk (run_storeAt_new (P := Tryd.prog) w 41 (nums .u8 (List.replicate 64 0)).toArray (nums .u8 k).toArray (by rw [size_pad]; simp [nums, hl]) (by simp [nums, hl]) (by simp [nums, Value.oneCell']))
  clear hk hl
  go_enter Tryd.func20, Tryd.ntmps20
  go_wp2_with (first | (refine load_ev (t := 41) (p := .tmp 1) rfl rfl HLD.out ?_) | (refine store_event rfl (t := 41) (p := 4) (v := .tmp 6) rfl rfl (w1 := w.alloc (.cells (nums .u8 k).toArray 41)) ?hr ?_; (case hr => exact run_store_of rfl HST.out); intro w5 hw5; subst hw5))
  go_loopg [7] 64 (fun kq v7 w' => ∃ (j : Int), v7 = .int .i64 j ∧ Aside0 (0 ≤ j ∧ (kq : Int) + j = 64) ∧ Aside0 (IsArr w' w.heap.size .u8 41 ((xr c k).take j.toNat ++ k.drop j.toNat)) ∧ Aside0 (Below w.heap.size w w'))
  case atStart => exact ⟨0, rfl, ⟨⟨by omega, by omega⟩⟩, ⟨blk_new w _⟩, ⟨below_alloc (B0 w) _⟩⟩
  case round =>
    obtain ⟨j, rfl, HA, HR, HB⟩ := hrel
    have hj0 : 0 ≤ j := HA.out.1
    have hjm : j ≤ 64 := by have := HA.out; omega
    by_cases c1 : j < 64
    · have d1 : decide (j < 64) = true := decide_eq_true c1
      have hlen : ((xr c k).take j.toNat ++ k.drop j.toNat).length = 64 := by rw [List.length_append, List.length_take, List.length_drop, xr_len, HL.out]; omega
      have e0 := HR.out.cell j hj0 (by rw [hlen]; exact c1)
      have f0 := HR.out.frozen j.toNat
      have hv : rd ((xr c k).take j.toNat ++ k.drop j.toNat) j = k.getD j.toNat 0 := by
        have h : ((xr c k).take j.toNat).length = j.toNat := by rw [List.length_take, xr_len, HL.out]; omega
        rw [rd, List.getD_eq_getElem?_getD, List.getElem?_append_right (by omega), h, Nat.sub_self, List.getElem?_drop, Nat.add_zero, List.getD_eq_getElem?_getD]
      rw [hv] at e0
      have HG := Aside0.mk (xr_get c k j.toNat (by rw [HL.out]; omega))
      have HM := Aside0.mk (mixn_set (xr c k) k j.toNat (by rw [xr_len, HL.out]; omega) (by rw [xr_len]))
      obtain ⟨y, hy⟩ : ∃ y, y = k.getD j.toNat 0 := ⟨_, rfl⟩
      rw [← hy] at e0 HG
      clear hlen hv hy
      go_wp2
      go_roundg (64 - (j + 1).toNat)
      case measure => have := HA.out; omega
      case rel =>
        refine ⟨j + 1, rfl, ⟨⟨by omega, by omega⟩⟩, ⟨?_⟩, ⟨HB.out.setCell (p := ⟨w.heap.size, j.toNat, none⟩) (Nat.le_refl _) _⟩⟩
        have h := HR.out.put j.toNat (bits .xor .u8 y c)
        rw [← HG.out, HM.out, HG.out, show j.toNat + 1 = (j + 1).toNat from by omega] at h
        exact h
    · have d1 : decide (j < 64) = false := decide_eq_false c1
      have HF : Aside0 (IsArr wr w.heap.size .u8 41 (xr c k)) := ⟨by
        have h := HR.out
        rw [show j.toNat = 64 from by omega, List.take_of_length_le (by rw [xr_len, HL.out]; decide), List.drop_of_length_le (by rw [HL.out]; decide), List.append_nil] at h
        exact h⟩
      go_wp2
      go_ret
      exact ⟨rfl, HF.out, HB.out⟩

end Go.Proofs.YthhckkfdcnddfaaDoor.HMac
