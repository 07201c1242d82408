/- base.Encode, base.Decode, the signs. -/
import Derived.Test.YtododekidopkhaaHBase
namespace Go.Proofs.Ytododekidopkhaa.HEnc
open Go.RowKit Go.Proofs.YtododekidopkhaaW.PrintWords Go.Proofs.Ytododekidopkhaa.HLib Go.Proofs.Ytododekidopkhaa.HBuild Go.Proofs.Ytododekidopkhaa.HBaseS Go.Proofs.Ytododekidopkhaa.HBase
set_option linter.unusedVariables false
set_option linter.unusedSimpArgs false

theorem info_int : (Try.prog.info? 3).map (fun i => (i.zero, i.size, i.bytes)) = some (some (.int .i64 0), 1, 8) := by kernel_rfl

/-- The text of bytes. -/
def encS (b : List Int) : ByteArray := strOfNums ((rg 8 6 b 0 0).map fun p => sign p.1)

theorem cells_bytes (xs : List Int) (h : ∀ x ∈ xs, 0 ≤ x ∧ x < 256) : (xs.map fun x => Value.int .u8 x) = Lib.byteCells (xs.map fun n => UInt8.ofNat n.toNat) := by
  unfold Lib.byteCells
  rw [List.map_map]
  refine List.map_congr_left fun x hx => ?_
  have := h x hx
  simp only [Function.comp]
  congr 1
  have : (UInt8.ofNat x.toNat).toNat = x.toNat := by
    rw [UInt8.toNat_ofNat']
    omega
  omega

theorem put_list (b : List Int) (j : Nat) (h : j < b.length) : (b.take j ++ List.replicate (b.length - j) 0).set j (b.getD j 0) = b.take (j + 1) ++ List.replicate (b.length - (j + 1)) 0 := by
  have hl : (b.take j).length = j := by rw [List.length_take]; omega
  rw [List.set_append_right (h := by omega), hl, Nat.sub_self, show b.length - j = (b.length - (j + 1)) + 1 from by omega, List.replicate_succ, List.set_cons_zero, List.take_add_one, List.append_assoc, List.getD_eq_getElem?_getD, List.getElem?_eq_getElem h]
  rfl

set_option maxHeartbeats 4000000 in
theorem encode_any (w : World) (v : Value) (b : List Int) (h : Bs w v b) (hb : ∀ x ∈ b, 0 ≤ x ∧ x < 256) (hl : b.length ≤ 1099511627776) :
    Calls Try.prog 9 #[v] w fun e w' => e = .returned (.string (encS b)) ∧ Below w.heap.size w w' := by
  obtain ⟨A, c, rfl, hc, hC, hn⟩ := h
  have HC := Aside0.mk hC
  have HBY := Aside0.mk hb
  have HL := Aside0.mk hl
  have hmk := print_make (P := Try.prog) 40 3 .i64 8 Try.underlying40 info_int (by decide) b.length (by omega)
  clear hC hb hc hn hl
  go_enter Try.func9, Try.ntmps9
  go_wp2
  go_loopg [4, 5, 12] b.length (fun kq v4 v5 v12 w' => ∃ (j : Int), v12 = .int .i64 j ∧ Aside0 (0 ≤ j ∧ (kq : Int) + j = b.length) ∧
    Aside0 (Kd.R (Kd.int .i64) 3 w' w.heap.size (fun _ => True) (.slice (some ⟨w.heap.size, 0, none⟩) b.length b.length) (b.take j.toNat ++ List.replicate (b.length - j.toNat) 0)) ∧ Aside0 (Below w.heap.size w w') ∧ Aside0 (w'.heap.size = w.heap.size + 1))
  case atStart =>
    refine ⟨0, rfl, ⟨⟨by omega, by omega⟩⟩, ⟨?_⟩, ⟨below_alloc (B0 w) _⟩, ⟨by simp⟩⟩
    have h := own_made w w.heap.size 3 .i64 b.length (Nat.le_refl _) (by have := HL.out; omega)
    refine Kd.R_of_own (enc := Value.int .i64) (h1 := fun _ => rfl) (ok := fun _ => True) ?_ (fun _ _ => trivial)
    rw [show b.take (0 : Int).toNat ++ List.replicate (b.length - (0 : Int).toNat) 0 = List.replicate b.length (0 : Int) from rfl, List.length_replicate]
    exact h
  case round =>
    obtain ⟨j, rfl, HA, HO, HB, HZ⟩ := hrel
    have hj0 := HA.out.1
    have hjm : j ≤ 1099511627776 := by have := HA.out; have := HL.out; omega
    by_cases c1 : j < b.length
    · have d1 : decide (j < (b.length : Int)) = true := decide_eq_true c1
      obtain ⟨ad, rfl, hx⟩ := Kd.at_int (Kd.C_below HC.out HB.out) j hj0 c1
      have hbb : 0 ≤ rd b j ∧ rd b j < 256 := by
        refine HBY.out _ ?_
        unfold rd
        rw [List.getD_eq_getElem?_getD, List.getElem?_eq_getElem (show j.toNat < b.length by omega)]
        exact List.getElem_mem _
      obtain ⟨hb0, hb1⟩ := hbb
      obtain ⟨hcc, hfz⟩ := Kd.R_celln (0 : Int) HO.out j hj0 c1
      have HP := Aside0.mk (Kd.R_putn HO.out j (rd b j))
      have HSZ := Aside0.mk (show ∀ u, (wr.setCell ⟨w.heap.size, j.toNat, none⟩ u).heap.size = w.heap.size + 1 from fun u => by simp [World.setCell, HZ.out])
      go_wp2
      repeat (go_quiet (fail); try go_wp2)
      go_roundg (b.length - (j + 1).toNat)
      case measure => have := HA.out; omega
      case rel =>
        refine ⟨j + 1, rfl, ⟨⟨by omega, by omega⟩⟩, ⟨?_⟩, ⟨HB.out.setCell (p := ⟨w.heap.size, j.toNat, none⟩) (Nat.le_refl _) _⟩, ⟨HSZ.out _⟩⟩
        have h := HP.out
        rw [show rd b j = b.getD j.toNat 0 from rfl, put_list b j.toNat (by omega)] at h
        rw [show (j + 1).toNat = j.toNat + 1 from by omega]
        exact h
    · have d1 : decide (j < (b.length : Int)) = false := decide_eq_false c1
      have HE := Aside0.mk (show b.take j.toNat ++ List.replicate (b.length - j.toNat) 0 = b from by
        rw [List.take_of_length_le (by have := HA.out; omega), show b.length - j.toNat = 0 from by have := HA.out; omega]
        simp)
      have HRd := Aside0.mk (Kd.R_reads HO.out)
      clear c1
      go_wp2_with fail
      obtain ⟨A2, c2, hv2, hc2, hC2⟩ := HRd.out
      injection hv2 with e1 e2 e3
      rw [HE.out] at hC2
      have HC2 := Aside0.mk hC2
      have HLe := Aside0.mk e2
      clear hC2 e2 hc2
      subst e1 e3
      refine (regroup_enc wr.heap.size wr.heap.size _ _ b _ (Kd.C_alloc HC2.out _) HBY.out (by rintro ad h; injection h with h; subst h; have := HZ.out; show w.heap.size < _; omega) (Lib.fresh_isBuilder _ _ wr) (by rw [World.size_alloc]; omega) (by have := HL.out; omega)).mono ?_
      rintro e w1 ⟨rfl, hbu, hbe⟩
      have HBu := Aside0.mk hbu
      have HBe := Aside0.mk hbe
      clear hbu hbe
      go_wp2_with fail
      have hq : ((rg 8 6 b 0 0).map fun p => Value.int .u8 (sign p.1)) = Lib.byteCells (((rg 8 6 b 0 0).map fun p => sign p.1).map fun n => UInt8.ofNat n.toNat) := by
        rw [← cells_bytes _ (fun x hx => ?_), List.map_map]
        · rfl
        · obtain ⟨p, _, rfl⟩ := List.mem_map.1 hx
          exact sign_byte _
      have hbu := HBu.out
      rw [hq] at hbu
      have hsz := HBe.out.size
      rw [World.size_alloc] at hsz
      have hcs : Calls Try.prog 21 #[.pointer (some ⟨wr.heap.size, 0, none⟩)] w1 fun e w' => e = .returned (.string (encS b)) ∧ Below wr.heap.size w1 w' := Try.Builder_String_any wr.heap.size wr.heap.size _ w1 hbu (by omega)
      refine hcs.mono ?_
      rintro e w2 ⟨rfl, hb2⟩
      have HB2 := Aside0.mk hb2
      have HSB := Aside0.mk hsz
      clear hb2 hsz hbu hq
      go_wp2
      go_ret
      refine ⟨rfl, (below_alloc HB.out _).trans ((HBe.out.trans HB2.out).mono HB.out.size)⟩

theorem info_u8' : (Try.prog.info? 22).map (fun i => (i.zero, i.size)) = some (some (.slice none 0 0), 1) := by kernel_rfl

theorem size_any (n : Int) (w : World) (h0 : 0 ≤ n) (h1 : n ≤ 4294967296) : Calls Try.prog 12 #[.int .i64 n] w fun e w' => e = .returned (.int .i64 ((8 * n + 5) / 6)) ∧ w' = w := by
  go_enter Try.func12, Try.ntmps12
  have HQ := Aside0.mk (show 8 * n + 6 - 1 = 8 * n + 5 from by omega)
  go_wp2
  go_ret
  rw [HQ.out]
  exact ⟨rfl, rfl⟩

/-- The value of a sign. -/
def vidx (c : Int) : Int := Lib.indexByte alpha.data.toList c.toNat.toUInt8
set_option maxHeartbeats 1000000 in
theorem value_any (c : Int) (w : World) : Calls Try.prog 16 #[.int .u8 c] w fun e w' => e = .returned (.tuple #[.int .i64 (max (vidx c) 0), .bool (decide (0 ≤ vidx c))]) ∧ w' = w := by
  go_enter Try.func16, Try.ntmps16
  go_wp2_with fail
  have hcs : Calls Try.prog 24 #[.string alpha, .int .u8 c] w fun e w' => e = .returned (.int .i64 (vidx c)) ∧ w' = w := Try.strings_IndexByte alpha c w
  refine hcs.mono ?_
  rintro e w1 ⟨rfl, rfl⟩
  go_wp2
  go_ret2
  exact ⟨rfl, rfl⟩

theorem vidx_lt (c : Int) : -1 ≤ vidx c ∧ vidx c < 64 := by
  refine ⟨Lib.indexByte_ge _ _, ?_⟩
  by_cases h : vidx c < 64
  · exact h
  · obtain ⟨o, ho⟩ := Int.eq_ofNat_of_zero_le (show 0 ≤ vidx c by omega)
    have h2 := (Lib.indexByte_some (o := o) ho).1
    have h3 : o < alpha.data.toList.length := by
      by_cases h4 : o < alpha.data.toList.length
      · exact h4
      · rw [List.getElem?_eq_none (by omega)] at h2; cases h2
    have h4 : alpha.data.toList.length = 64 := rfl
    omega

set_option maxHeartbeats 1000000 in
theorem sign_any (v : Int) (w : World) : Calls Try.prog 15 #[.int .i64 v] w fun e w' => e = .returned (.tuple #[.int .u8 (if 0 ≤ v ∧ v < 64 then sign v else 0), .bool (decide (0 ≤ v ∧ v < 64))]) ∧ w' = w := by
  by_cases c : 0 ≤ v ∧ v < 64
  · obtain ⟨h0, h1⟩ := c
    have d1 : decide (v < 0) = false := decide_eq_false (by omega)
    have d2 : decide (64 ≤ v) = false := decide_eq_false (by omega)
    go_enter Try.func15, Try.ntmps15
    go_wp2
    go_ret2
    rw [bt_at _ v]
    exact ⟨rfl, rfl⟩
  · have HC := Aside0.mk c
    by_cases d1 : v < 0
    · have e1 : decide (v < 0) = true := decide_eq_true d1
      have HI := Aside0.mk (show (if 0 ≤ v ∧ v < 64 then sign v else 0) = 0 from if_neg c)
      have HD := Aside0.mk (show decide (0 ≤ v ∧ v < 64) = false from decide_eq_false c)
      clear c
      rw [HI.out, HD.out]
      go_enter Try.func15, Try.ntmps15
      go_wp2
      go_ret2
      exact ⟨rfl, rfl⟩
    · have e1 : decide (v < 0) = false := decide_eq_false d1
      have e2 : decide (64 ≤ v) = true := decide_eq_true (by omega)
      have HI := Aside0.mk (show (if 0 ≤ v ∧ v < 64 then sign v else 0) = 0 from if_neg c)
      have HD := Aside0.mk (show decide (0 ≤ v ∧ v < 64) = false from decide_eq_false c)
      clear c
      rw [HI.out, HD.out]
      go_enter Try.func15, Try.ntmps15
      go_wp2
      go_ret2
      exact ⟨rfl, rfl⟩

end Go.Proofs.Ytododekidopkhaa.HEnc
