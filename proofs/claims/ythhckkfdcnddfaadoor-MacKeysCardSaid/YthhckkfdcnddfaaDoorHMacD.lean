/- mac.Derive. -/
import Derived.Test.YthhckkfdcnddfaaDoorHMacK
namespace Go.Proofs.YthhckkfdcnddfaaDoor.HMacD
open Go.RowKit Go.Proofs.YthhckkfdcnddfaaDoorW.PrintWords Go.Proofs.YthhckkfdcnddfaaDoor.HLib Go.Proofs.YthhckkfdcnddfaaDoor.HSha Go.Proofs.YthhckkfdcnddfaaDoor.HShaS Go.Proofs.YthhckkfdcnddfaaDoor.HShaU Go.Proofs.YthhckkfdcnddfaaDoor.HShaV Go.Proofs.YthhckkfdcnddfaaDoor.HShaW Go.Proofs.YthhckkfdcnddfaaDoor.HShaB Go.Proofs.YthhckkfdcnddfaaDoor.HShaX Go.Proofs.YthhckkfdcnddfaaDoor.HMac Go.Proofs.YthhckkfdcnddfaaDoor.HMacC Go.Proofs.YthhckkfdcnddfaaDoor.HMacS Go.Proofs.YthhckkfdcnddfaaDoor.HMacR Go.Proofs.YthhckkfdcnddfaaDoor.HMacQ Go.Proofs.YthhckkfdcnddfaaDoor.HMacK
set_option linter.unusedVariables false
set_option linter.unusedSimpArgs false

/-- The derived bytes: j parts. -/
def dall (key lab : List Int) : Nat → List Int
  | 0 => []
  | j + 1 => dall key lab j ++ macP key ((((j + 1 : Nat) : Int) % 256) :: lab)
theorem dall_len (key lab : List Int) (j : Nat) : (dall key lab j).length = 32 * j := by
  induction j with
  | zero => rfl
  | succ j ih => rw [dall, List.length_append, ih, macP_len]; omega
theorem dall_byte (key lab : List Int) (j : Nat) : ∀ x ∈ dall key lab j, 0 ≤ x ∧ x < 256 := by
  induction j with
  | zero => intro x hx; cases hx
  | succ j ih => intro x hx; rw [dall] at hx; exact (List.mem_append.1 hx).elim (ih x) (macP_byte _ _ x)
def derP (key lab : List Int) (n : Int) : List Int := if 0 ≤ n ∧ n ≤ 8160 then (dall key lab ((n.toNat + 31) / 32)).take n.toNat else []
theorem bytesOf_byte (s : ByteArray) : ∀ x ∈ bytesOf s, 0 ≤ x ∧ x < 256 := by
  intro x hx
  unfold bytesOf at hx
  obtain ⟨b, _, rfl⟩ := List.mem_map.1 hx
  have := b.toNat_lt
  omega

set_option maxHeartbeats 8000000 in
theorem derive_any (w : World) (vk : Value) (key : List Int) (hvk : Bv w vk key) (hkb : ∀ x ∈ key, 0 ≤ x ∧ x < 256) (hkl : key.length ≤ 4294960000) (label : ByteArray) (hll : label.size ≤ 4294950000) (n : Int) (hG : Glob w) :
    Calls Tryd.prog 16 #[vk, .string label, .int .i64 n] w fun e w' => ∃ v, e = .returned v ∧ Kd.R (Kd.int .u8) 5 w' w.heap.size (fun _ => True) v (derP key (bytesOf label) n) ∧ Below w.heap.size w w' := by
  by_cases c1 : 0 ≤ n ∧ n ≤ 8160
  · have HE := Aside0.mk (show derP key (bytesOf label) n = (dall key (bytesOf label) ((n.toNat + 31) / 32)).take n.toNat from by unfold derP; rw [if_pos c1])
    obtain ⟨h0, h1⟩ := c1
    have d1 : decide (n < 0) = false := decide_eq_false (by omega)
    have d2 : decide (8160 < n) = false := decide_eq_false (by omega)
    have HVK := Aside0.mk hvk
    have HKB := Aside0.mk (And.intro hkb hkl)
    have HLL := Aside0.mk hll
    have HG := Aside0.mk hG
    have HLB := Aside0.mk (bytesOf_length label)
    obtain ⟨R, hR⟩ : ∃ R : Nat, R = (n.toNat + 31) / 32 := ⟨_, rfl⟩
    have HR := Aside0.mk (show n ≤ 32 * (R : Int) ∧ 32 * (R : Int) < n + 32 from by omega)
    rw [← hR] at HE
    have kb := fun W => print_bytes (P := Tryd.prog) 9 22 5 Tryd.underlying9 Tryd.underlying22 Tryd.underlying5 label W
    obtain ⟨Ak, ck, rfl, _, _⟩ := id hvk
    clear hvk hkb hkl hll hG hR
    go_enter Tryd.func16, Tryd.ntmps16
    go_wp2
    go_loopg [7, 8] R (fun kq v7 v8 w' => ∃ (i : Int), v8 = .int .i64 i ∧ Aside0 (1 ≤ i ∧ (kq : Int) + i = R + 1) ∧ Aside0 (Kd.R (Kd.int .u8) 5 w' w.heap.size (fun _ => True) v7 (dall key (bytesOf label) (i - 1).toNat)) ∧ Aside0 (Below w.heap.size w w'))
    case atStart => exact ⟨1, rfl, ⟨⟨by omega, by omega⟩⟩, ⟨Kd.R_nil _ _ _ _ _⟩, ⟨B0 w⟩⟩
    case round =>
      obtain ⟨i, rfl, HA, HO, HB⟩ := hrel
      have hi0 : 1 ≤ i := HA.out.1
      have him : i ≤ 256 := by have := HA.out; have := HR.out; omega
      obtain ⟨D, hD⟩ : ∃ D, D = dall key (bytesOf label) (i - 1).toNat := ⟨_, rfl⟩
      have HDE := Aside0.mk hD
      have HDL := Aside0.mk (show (D.length : Int) = 32 * (i - 1) from by rw [hD, dall_len]; omega)
      rw [← hD] at HO
      obtain ⟨A7, c7, rfl, hc7, hC7⟩ := Kd.R_reads HO.out
      have HC7 := Aside0.mk (And.intro hc7 hC7)
      have hc7i : (D.length : Int) ≤ (c7 : Int) := by omega
      clear hC7 hD
      by_cases c2 : (D.length : Int) < n
      · have e1 : decide ((D.length : Int) < n) = true := decide_eq_true c2
        have HWB := Aside0.mk (below_step HB.out (below_alloc (B0 wr) (.cells #[.int .u8 (i % 256)] 5)))
        obtain ⟨Wb, hWb⟩ : ∃ W, W = Lib.bytesWorld (wr.alloc (.cells #[.int .u8 (i % 256)] 5)) 5 label := ⟨_, rfl⟩
        have hsz : Wb.heap.size = wr.heap.size + 1 + 1 := by rw [hWb, Lib.bytesWorld_size, World.size_alloc]
        have hbW : Below wr.heap.size wr Wb := by
          rw [hWb]
          exact bytes_below (below_alloc (B0 wr) _) (by rw [World.size_alloc]; omega) _ _
        have hf1 : IsArr Wb wr.heap.size .u8 5 [i % 256] := by
          rw [hWb]
          exact (Lib.bytesWorld_at_old _ _ _ _ (by rw [World.size_alloc]; omega)).trans (blk_new wr _)
        have hf2 : (Kd.int .u8).C Wb (some ⟨wr.heap.size + 1, 0, none⟩) (bytesOf label).length (bytesOf label) := by
          have h := bytes_reads (wr.alloc (.cells #[.int .u8 (i % 256)] 5)) 5 label (by have := HLL.out; omega)
          rw [World.size_alloc, ← hWb] at h
          rw [HLB.out]
          exact Kd.C_of_reads (d := (0 : Int)) (readsInt_of.1 h)
        have kb1 := kb (wr.alloc (.cells #[.int .u8 (i % 256)] 5))
        rw [World.size_alloc, ← hWb] at kb1
        obtain ⟨gc, hgc⟩ : ∃ q, q = grownCap (wr.alloc (.cells #[.int .u8 (i % 256)] 5)) label.size 0 5 := ⟨_, rfl⟩
        have HGC := Aside0.mk (show label.size ≤ gc from by rw [hgc]; exact grownCap_ge _ _ _ _)
        rw [← hgc] at kb1
        have HWB2 := Aside0.mk (And.intro hsz (And.intro hbW (And.intro hf1 hf2)))
        clear hWb hgc hbW hf1 hf2 kb
        go_wp2_with fail
        obtain ⟨W2, hW2⟩ : ∃ W, W = Wb.alloc (.cells #[.slice (some ⟨wr.heap.size, 0, none⟩) 1 1, .slice (some ⟨wr.heap.size + 1, 0, none⟩) label.size gc] 22) := ⟨_, rfl⟩
        have hbW2 : Below Wb.heap.size Wb W2 := by rw [hW2]; exact below_alloc (B0 Wb) _
        have hblk : W2.heap[wr.heap.size + 1 + 1]? = some (.cells [.slice (some ⟨wr.heap.size, 0, none⟩) 1 1, .slice (some ⟨wr.heap.size + 1, 0, none⟩) label.size gc].toArray 22 (0, 0)) := by
          rw [hW2, ← HWB2.out.1]
          exact blk_new Wb _
        have hf1 := HWB2.out.2.2.1.below hbW2 (arr_lt HWB2.out.2.2.1)
        have hf2 := Kd.C_below HWB2.out.2.2.2 hbW2
        have hbig : Below wr.heap.size wr W2 := HWB2.out.2.1.trans (hbW2.mono HWB2.out.2.1.size)
        have hkb := KB_list (xss := [[i % 256], bytesOf label]) hblk rfl (by simp) (fun q v xs q1 q2 => by
          match q, q1, q2 with
          | 0, q1, q2 =>
            simp at q1 q2
            subst q1 q2
            exact ⟨_, _, rfl, Nat.le_refl _, bytes_C hf1 (by simp)⟩
          | 1, q1, q2 =>
            simp at q1 q2
            subst q1 q2
            exact ⟨_, gc, by rw [HLB.out], by rw [HLB.out]; exact HGC.out, hf2⟩
          | q + 2, q1, q2 => simp at q1)
        have hcat : cat [[i % 256], bytesOf label] = (i % 256) :: bytesOf label := by simp [cat]
        have HBW2 := Aside0.mk (below_step HB.out hbig)
        change Calls Tryd.prog 10 _ (Wb.alloc (.cells #[.slice (some ⟨wr.heap.size, 0, none⟩) 1 1, .slice (some ⟨wr.heap.size + 1, 0, none⟩) label.size gc] 22)) _
        rw [← hW2]
        refine (mac_any W2 _ key (HVK.out.below HBW2.out) HKB.out.1 HKB.out.2 _ 2 [[i % 256], bytesOf label] hkb (show 2 ≤ 2 by decide) (by
          rw [hcat]
          intro x hx
          rcases List.mem_cons.1 hx with h | h
          · rw [h]; omega
          · exact bytesOf_byte label x h) (by rw [hcat, List.length_cons, HLB.out]; have := HLL.out; omega) (show 2 ≤ 4294960000 by decide) (glob_below HG.out HG.out.1 HBW2.out)).mono ?_
        rintro e w3 ⟨rfl, hb3⟩
        rw [hcat]
        obtain ⟨M, hM⟩ : ∃ M, M = macP key ((i % 256) :: bytesOf label) := ⟨_, rfl⟩
        have HM := Aside0.mk (show M.length = 32 from by rw [hM]; exact macP_len _ _)
        have HN := Aside0.mk (show dall key (bytesOf label) i.toNat = D ++ M from by
          rw [show i.toNat = (i - 1).toNat + 1 from by omega, dall, ← HDE.out, show (((i - 1).toNat + 1 : Nat) : Int) = i from by omega, ← hM])
        rw [← hM]
        have hbt : Below wr.heap.size wr w3 := below_step hbig hb3
        have HO3 := Aside0.mk (pw_own_below (Kd.own_of_R HO.out) hbt)
        have HB3 := Aside0.mk (below_step HB.out hbt)
        have HST := Aside0.mk (run_storeAt_new (P := Tryd.prog) w3 26 (nums .u8 (List.replicate 32 0)).toArray (nums .u8 M).toArray (by rw [size_out]; simp [nums, HM.out]) (by simp [nums, HM.out]) (by simp [nums, Value.oneCell']))
        have hci : (Kd.int .u8).C (w3.alloc (.cells (nums .u8 M).toArray 26)) (some ⟨w3.heap.size, 0, none⟩) M.length M := bytes_C (blk_new w3 _) (by rw [HM.out]; decide)
        rw [HM.out] at hci
        have HCI := Aside0.mk (readsInt_of.2 (Kd.reads_of_C (d := (0 : Int)) hci))
        clear hW2 hbW2 hblk hf1 hf2 hbig hkb hcat hM hb3 hbt hci
        go_wp2_with (first | (refine store_event rfl (t := 26) (p := 9) (v := .tmp 29) rfl rfl (w1 := w3.alloc (.cells (nums .u8 M).toArray 26)) ?hr ?_; (case hr => exact run_store_of rfl HST.out); intro w5 hw5; subst hw5) | (at_builtin; refine print_append_row (w0 := w) w.heap.size rfl (.tmp 30) (.tmp 31) 22 5 .u8 1 rfl Tryd.underlying22 info_u8 (by decide) (.slice A7 D.length c7) D M (some ⟨w3.heap.size, 0, none⟩) _ 32 rfl rfl ?aO ?aR ?aB ?aS ?aL ?_; (case aO => exact pw_own_below HO3.out (below_alloc (B0 w3) _)); (case aR => exact HCI.out); (case aB => exact below_alloc HB3.out _); (case aS => exact (by rw [World.size_alloc]; exact Nat.le_succ_of_le HB3.out.size)); (case aL => have := HDL.out; omega); intro v9 w9 ho hb hg hat; have HO9 := Aside0.mk ho; have HB9 := Aside0.mk hb; clear ho hb hg hat) | fail)
        go_roundg (R + 1 - (i + 1).toNat)
        case measure => have := HA.out; have := HDL.out; have := HR.out; omega
        case rel =>
          refine ⟨i + 1, rfl, ⟨⟨by omega, by have := HA.out; have := HDL.out; have := HR.out; omega⟩⟩, ⟨?_⟩, HB9⟩
          rw [show (i + 1 - 1).toNat = i.toNat from by omega, HN.out]
          exact Kd.R_of_own (h1 := fun _ => rfl) HO9.out (fun _ _ => trivial)
      · have e1 : decide ((D.length : Int) < n) = false := decide_eq_false c2
        have i1 : n ≤ (c7 : Int) := by omega
        have HT := Aside0.mk (Kd.R_take HO.out (show n.toNat ≤ D.length by omega))
        have HI := Aside0.mk (show (i - 1).toNat = R from by have := HA.out; have := HR.out; have := HDL.out; omega)
        go_wp2
        go_ret
        refine ⟨_, rfl, ?_, HB.out⟩
        rw [HE.out, ← HI.out, ← HDE.out]
        exact HT.out
  · have HE := Aside0.mk (show derP key (bytesOf label) n = [] from by unfold derP; rw [if_neg c1])
    obtain ⟨Ak, ck, rfl, _, _⟩ := id hvk
    by_cases c2 : n < 0
    · have d1 : decide (n < 0) = true := decide_eq_true c2
      clear c1 hvk hkb hkl hll hG
      go_enter Tryd.func16, Tryd.ntmps16
      go_wp2
      go_ret
      rw [HE.out]
      exact ⟨_, rfl, Kd.R_nil _ _ _ _ _, B0 w⟩
    · have d1 : decide (n < 0) = false := decide_eq_false c2
      have d2 : decide (8160 < n) = true := decide_eq_true (by omega)
      clear c1 hvk hkb hkl hll hG
      go_enter Tryd.func16, Tryd.ntmps16
      go_wp2
      go_ret
      rw [HE.out]
      exact ⟨_, rfl, Kd.R_nil _ _ _ _ _, B0 w⟩

end Go.Proofs.YthhckkfdcnddfaaDoor.HMacD
