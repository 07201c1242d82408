/- The walk of the reference's Block. -/
import Derived.Test.YthhckkfdcnddfaaDoorHSha
namespace Go.Proofs.YthhckkfdcnddfaaDoor.HShaR
open Go.RowKit Go.Proofs.YthhckkfdcnddfaaDoorW.PrintWords Go.Proofs.YthhckkfdcnddfaaDoor.HLib Go.Proofs.YthhckkfdcnddfaaDoor.HSha
set_option linter.unusedVariables false
set_option linter.unusedSimpArgs false

theorem or_comm32 (a b : Int) : bits .or .u32 a b = bits .or .u32 b a := by
  show IntKind.u32.wrap ((BitVec.ofInt 32 a ||| BitVec.ofInt 32 b).toNat : Int) = IntKind.u32.wrap ((BitVec.ofInt 32 b ||| BitVec.ofInt 32 a).toNat : Int)
  rw [BitVec.or_comm]
theorem refrot_any (x n : Int) (w : World) (h0 : 0 < n) (h1 : n < 32) : Calls Tryd.prog 33 #[.int .u32 x, .int .u64 n] w fun e w' => e = .returned (.int .u32 (rot x n.toNat)) ∧ w' = w := by
  have HT := Aside0.mk (show (32 - n).toNat = 32 - n.toNat from by omega)
  go_enter Tryd.func33, Tryd.ntmps33
  go_wp2
  go_ret
  rw [HT.out]
  refine ⟨?_, rfl⟩
  rw [rot, or_comm32]
  rfl

/-- A word, its first k bytes. -/
def part (bl : List Int) (n : Nat) : Nat → Int
  | 0 => 0
  | k + 1 => part bl n k * 256 + bl.getD (4 * n + k) 0
theorem part4 (bl : List Int) (n : Nat) : part bl n 4 = first bl n := by simp [part, first]
theorem part_bound (bl : List Int) (h : ∀ x ∈ bl, 0 ≤ x ∧ x < 256) (n : Nat) : ∀ k, 0 ≤ part bl n k ∧ part bl n k < 256 ^ k := by
  intro k
  induction k with
  | zero => simp [part]
  | succ k ih =>
    have := rd_byte bl h ((4 * n + k : Nat) : Int)
    rw [rd, show ((4 * n + k : Nat) : Int).toNat = 4 * n + k from by omega] at this
    rw [part, Int.pow_succ]
    omega
theorem set_at (l : List Int) (j m : Nat) (a x : Int) (hl : l.length = j) : (l ++ ([a] ++ List.replicate m 0)).set j x = l ++ ([x] ++ List.replicate m 0) := by
  rw [List.set_append_right (h := by omega), hl, Nat.sub_self]
  rfl
theorem get_at (l : List Int) (j m : Nat) (a : Int) (hl : l.length = j) : (l ++ ([a] ++ List.replicate m 0)).getD j 0 = a := by
  rw [List.getD_eq_getElem?_getD, List.getElem?_append_right (by omega), hl, Nat.sub_self]
  rfl

def shl8 (s : List Int) (k : Nat) : List Int := s.take (k + 1) ++ (s.drop k).take (7 - k)
theorem shl8_len (s : List Int) (h : s.length = 8) (k : Nat) (hk : k ≤ 7) : (shl8 s k).length = 8 := by simp [shl8, h]; omega
theorem shl8_get (s : List Int) (h : s.length = 8) (k : Nat) (hk : k ≤ 7) (h0 : 0 < k) : (shl8 s k).getD (k - 1) 0 = s.getD (k - 1) 0 := by
  rw [shl8, List.getD_eq_getElem?_getD, List.getElem?_append_left (by rw [List.length_take]; omega), List.getElem?_take, if_pos (by omega), List.getD_eq_getElem?_getD]
theorem shl8_set (s : List Int) (h : s.length = 8) (k : Nat) (hk : k ≤ 7) (h0 : 0 < k) : (shl8 s k).set k (s.getD (k - 1) 0) = shl8 s (k - 1) := by
  match s, h with
  | [_, _, _, _, _, _, _, _], _ =>
    match k, hk, h0 with
    | 1, _, _ => rfl
    | 2, _, _ => rfl
    | 3, _, _ => rfl
    | 4, _, _ => rfl
    | 5, _, _ => rfl
    | 6, _, _ => rfl
    | 7, _, _ => rfl
theorem shl8_end (s : List Int) (h : s.length = 8) (a b : Int) : ((shl8 s 0).set 4 a).set 0 b = [b, s.getD 0 0, s.getD 1 0, s.getD 2 0, a, s.getD 4 0, s.getD 5 0, s.getD 6 0] ∧ (shl8 s 0).getD 4 0 = s.getD 3 0 := by
  match s, h with
  | [_, _, _, _, _, _, _, _], _ => exact ⟨rfl, rfl⟩
theorem shl8_start (s : List Int) (h : s.length = 8) : shl8 s 7 = s := by
  match s, h with
  | [_, _, _, _, _, _, _, _], _ => rfl
def InvR (w : World) (st bl ws : List Int) (w' : World) : Prop :=
  IsArr w' w.heap.size .u32 47 st ∧ IsArr w' (w.heap.size + 1) .u8 41 bl ∧ IsArr w' (w.heap.size + 1 + 1) .u32 54 KT ∧ IsArr w' (w.heap.size + 1 + 1 + 1) .u32 47 (List.replicate 8 0) ∧
  IsArr w' (w.heap.size + 1 + 1 + 1 + 1) .u32 54 ws ∧ Below w.heap.size w w' ∧ w'.heap.size = w.heap.size + 1 + 1 + 1 + 1 + 1
theorem InvR.put {w : World} {st bl ws : List Int} {w' : World} (h : InvR w st bl ws w') (i : Nat) (x : Int) : InvR w st bl (ws.set i x) (w'.setCell ⟨w.heap.size + 1 + 1 + 1 + 1, i, none⟩ (.int .u32 x)) :=
  ⟨h.1.far (by dsimp only; omega) _, h.2.1.far (by dsimp only; omega) _, h.2.2.1.far (by dsimp only; omega) _, h.2.2.2.1.far (by dsimp only; omega) _, h.2.2.2.2.1.put i x, h.2.2.2.2.2.1.setCell (p := ⟨w.heap.size + 1 + 1 + 1 + 1, i, none⟩) (by dsimp only; omega) _, by simp [World.setCell, h.2.2.2.2.2.2]⟩
theorem InvR.drewN {w : World} {st bl ws : List Int} {w' : World} (h : InvR w st bl ws w') (m : Nat) : InvR w st bl ws (w'.drewN m) := ⟨h.1, h.2.1, h.2.2.1, h.2.2.2.1, h.2.2.2.2.1, pw_below_drewN h.2.2.2.2.2.1 m, h.2.2.2.2.2.2⟩
theorem InvR.drew {w : World} {st bl ws : List Int} {w' : World} (h : InvR w st bl ws w') : InvR w st bl ws w'.drew := ⟨h.1, h.2.1, h.2.2.1, h.2.2.2.1, h.2.2.2.2.1, below_drew1 h.2.2.2.2.2.1, h.2.2.2.2.2.2⟩

set_option maxRecDepth 100000 in
set_option maxHeartbeats 8000000 in
theorem refblock_any (w : World) (st bl : List Int) (hs : st.length = 8) (hb : bl.length = 64) (hb2 : ∀ x ∈ bl, 0 ≤ x ∧ x < 256) :
    Calls Tryd.prog 31 #[.agg (nums .u32 st).toArray, .agg (nums .u8 bl).toArray, .agg (nums .u32 KT).toArray] w fun e w' => e = .returned (.agg (nums .u32 (blockP st bl)).toArray) ∧ Below w.heap.size w w' := by
  have HS := Aside0.mk hs
  have HBL := Aside0.mk hb
  have HBY := Aside0.mk hb2
  clear hs hb hb2
  obtain ⟨KK, hKK⟩ : ∃ x, x = KT := ⟨_, rfl⟩
  rw [← hKK]
  have HKK := Aside0.mk hKK
  clear hKK
  go_enter Tryd.func31, Tryd.ntmps31
  go_wp2
  go_loopg [8, 9] 16 (fun kq v8 v9 w' => ∃ (j : Int), v8 = .int .i64 j ∧ Aside0 (0 ≤ j ∧ (kq : Int) + j = 16) ∧ Aside0 (InvR w st bl (sched bl j.toNat ++ List.replicate (64 - j.toNat) 0) w'))
  case atStart =>
    refine ⟨0, rfl, ⟨⟨by omega, by omega⟩⟩, ⟨?_, ?_, ?_, ?_, ?_, ?_, ?_⟩⟩
    · exact ((((show IsArr (w.alloc _) w.heap.size .u32 47 st from blk_new w _).alloc _).alloc _).alloc _).alloc _
    · have h : IsArr ((w.alloc (.cells (nums .u32 st).toArray 47)).alloc (.cells (nums .u8 bl).toArray 41)) (w.alloc (.cells (nums .u32 st).toArray 47)).heap.size .u8 41 bl := blk_new _ _
      rw [World.size_alloc] at h
      exact ((h.alloc _).alloc _).alloc _
    · have h : IsArr (((w.alloc (.cells (nums .u32 st).toArray 47)).alloc (.cells (nums .u8 bl).toArray 41)).alloc (.cells (nums .u32 KK).toArray 54)) ((w.alloc (.cells (nums .u32 st).toArray 47)).alloc (.cells (nums .u8 bl).toArray 41)).heap.size .u32 54 KK := blk_new _ _
      rw [World.size_alloc, World.size_alloc] at h
      rw [← HKK.out]
      exact (h.alloc _).alloc _
    · have h := blk_new (((w.alloc (.cells (nums .u32 st).toArray 47)).alloc (.cells (nums .u8 bl).toArray 41)).alloc (.cells (nums .u32 KK).toArray 54)) (.cells (nums .u32 (List.replicate 8 0)).toArray 47)
      rw [World.size_alloc, World.size_alloc, World.size_alloc] at h
      exact (show IsArr _ (w.heap.size + 1 + 1 + 1) .u32 47 (List.replicate 8 0) from h).alloc _
    · have h := blk_new ((((w.alloc (.cells (nums .u32 st).toArray 47)).alloc (.cells (nums .u8 bl).toArray 41)).alloc (.cells (nums .u32 KK).toArray 54)).alloc (.cells (nums .u32 (List.replicate 8 0)).toArray 47)) (.cells (nums .u32 (List.replicate 64 0)).toArray 54)
      rw [World.size_alloc, World.size_alloc, World.size_alloc, World.size_alloc] at h
      exact h
    · exact below_alloc (below_alloc (below_alloc (below_alloc (below_alloc (B0 w) _) _) _) _) _
    · simp
  case round =>
    obtain ⟨j, rfl, HA, HI⟩ := hrel
    have hj0 : 0 ≤ j := HA.out.1
    have hjm : j ≤ 16 := by have := HA.out; omega
    by_cases c1 : j < 16
    · have d1 : decide (j < 16) = true := decide_eq_true c1
      go_wp2
      go_loopg [9] 4 (fun kq v9 w' => ∃ (k : Int), v9 = .int .i64 k ∧ Aside0 (0 ≤ k ∧ (kq : Int) + k = 4) ∧ Aside0 (InvR w st bl (sched bl j.toNat ++ ([part bl j.toNat k.toNat] ++ List.replicate (64 - (j.toNat + 1)) 0)) w'))
      case atStart =>
        refine ⟨0, rfl, ⟨⟨by omega, by omega⟩⟩, ⟨?_⟩⟩
        have h := HI.out
        rw [show 64 - j.toNat = (64 - (j.toNat + 1)) + 1 from by omega, List.replicate_succ] at h
        exact h
      case round =>
        obtain ⟨k, rfl, HK, HI2⟩ := hrel
        have hk0 : 0 ≤ k := HK.out.1
        have hkm : k ≤ 4 := by have := HK.out; omega
        by_cases c2 : k < 4
        · have d2 : decide (k < 4) = true := decide_eq_true c2
          have hl : bl.length = 64 := HBL.out
          have hw : (sched bl j.toNat ++ ([part bl j.toNat k.toNat] ++ List.replicate (64 - (j.toNat + 1)) 0)).length = 64 := by rw [List.length_append, List.length_append, sched_len, List.length_replicate, List.length_singleton]; omega
          have e1 := HI2.out.2.1.cell (4 * j + k) (by omega) (by omega)
          have e2 := HI2.out.2.2.2.2.1.cell j hj0 (by omega)
          have f2 := HI2.out.2.2.2.2.1.frozen j.toNat
          have hv : rd (sched bl j.toNat ++ ([part bl j.toNat k.toNat] ++ List.replicate (64 - (j.toNat + 1)) 0)) j = part bl j.toNat k.toNat := get_at _ _ _ _ (sched_len _ _)
          rw [hv] at e2
          obtain ⟨b0, b1⟩ := rd_byte bl HBY.out (4 * j + k)
          obtain ⟨p0, p1⟩ := part_bound bl HBY.out j.toNat k.toNat
          have hp : (256 : Int) ^ k.toNat ≤ 256 ^ 3 := by
            have := Nat.pow_le_pow_right (show 0 < 256 by decide) (show k.toNat ≤ 3 by omega)
            have h3 : ((256 ^ k.toNat : Nat) : Int) ≤ ((256 ^ 3 : Nat) : Int) := Int.ofNat_le.2 this
            rwa [Int.natCast_pow, Int.natCast_pow] at h3
          obtain ⟨x, hx⟩ : ∃ x, x = rd bl (4 * j + k) := ⟨_, rfl⟩
          obtain ⟨y, hy⟩ : ∃ x, x = part bl j.toNat k.toNat := ⟨_, rfl⟩
          rw [← hx] at e1 b0 b1
          rw [← hy] at e2 p0 p1
          have p2 : y < 16777216 := by omega
          have HXY := Aside0.mk (And.intro hx hy)
          clear hl hw hv hp p1 hx hy
          have i0 : 0 ≤ 4 * j + k := by omega
          have i1 : 4 * j + k < 64 := by omega
          go_wp2
          go_region
          all_goals go_wp2
          go_roundg (4 - (k + 1).toNat)
          case measure => have := HK.out; omega
          case rel =>
            refine ⟨k + 1, rfl, ⟨⟨by omega, by omega⟩⟩, ⟨?_⟩⟩
            have h := (HI2.out.drew).put j.toNat (y * 256 + x)
            rw [set_at _ _ _ _ _ (sched_len _ _)] at h
            have e : part bl j.toNat (k + 1).toNat = y * 256 + x := by
              rw [show (k + 1).toNat = k.toNat + 1 from by omega, part, HXY.out.1, HXY.out.2, rd, show (4 * j + k).toNat = 4 * j.toNat + k.toNat from by omega]
            rw [e]
            exact h
        · have d2 : decide (k < 4) = false := decide_eq_false c2
          go_wp2
          go_roundg (16 - (j + 1).toNat)
          case measure => have := HA.out; omega
          case rel =>
            refine ⟨j + 1, rfl, ⟨⟨by omega, by omega⟩⟩, ⟨?_⟩⟩
            have h := HI2.out
            rw [show k.toNat = 4 from by omega, part4] at h
            rw [show (j + 1).toNat = j.toNat + 1 from by omega, sched, if_pos (by omega), List.append_assoc]
            exact h
    · have d1 : decide (j < 16) = false := decide_eq_false c1
      have HJ := Aside0.mk (show j = 16 from by omega)
      have HI1 := Aside0.mk (show InvR w st bl (sched bl 16 ++ List.replicate 48 0) wr from by have h := HI.out; rw [HJ.out] at h; exact h)
      clear c1
      go_wp2
      go_loopg [10, 11, 12] 48 (fun kq v10 v11 v12 w' => ∃ (i : Int), v10 = .int .i64 i ∧ Aside0 (16 ≤ i ∧ (kq : Int) + i = 64) ∧ Aside0 (InvR w st bl (sched bl i.toNat ++ List.replicate (64 - i.toNat) 0) w'))
      case atStart => exact ⟨16, rfl, ⟨⟨by omega, by omega⟩⟩, HI1⟩
      case round =>
        obtain ⟨i, rfl, HA2, HI2⟩ := hrel
        have hi0 : 16 ≤ i := HA2.out.1
        have him : i ≤ 64 := by have := HA2.out; omega
        by_cases c3 : i < 64
        · have d3 : decide (i < 64) = true := decide_eq_true c3
          --<<L2
          have hw : (sched bl i.toNat ++ List.replicate (64 - i.toNat) 0).length = 64 := by rw [List.length_append, sched_len, List.length_replicate]; omega
          have e15 := HI2.out.2.2.2.2.1.cell (i - 15) (by omega) (by omega)
          have e2 := HI2.out.2.2.2.2.1.cell (i - 2) (by omega) (by omega)
          have e16 := HI2.out.2.2.2.2.1.cell (i - 16) (by omega) (by omega)
          have e7 := HI2.out.2.2.2.2.1.cell (i - 7) (by omega) (by omega)
          have f5 := HI2.out.2.2.2.2.1.frozen i.toNat
          have e5 := HI2.out.2.2.2.2.1.cell i (by omega) (by omega)
          obtain ⟨x, hx⟩ : ∃ x, x = rd (sched bl i.toNat ++ List.replicate (64 - i.toNat) 0) (i - 15) := ⟨_, rfl⟩
          obtain ⟨y, hy⟩ : ∃ x, x = rd (sched bl i.toNat ++ List.replicate (64 - i.toNat) 0) (i - 2) := ⟨_, rfl⟩
          obtain ⟨z, hz⟩ : ∃ x, x = rd (sched bl i.toNat ++ List.replicate (64 - i.toNat) 0) (i - 16) := ⟨_, rfl⟩
          obtain ⟨u, hu⟩ : ∃ x, x = rd (sched bl i.toNat ++ List.replicate (64 - i.toNat) 0) (i - 7) := ⟨_, rfl⟩
          obtain ⟨y5, hy5⟩ : ∃ y, y = rd (sched bl i.toNat ++ List.replicate (64 - i.toNat) 0) i := ⟨_, rfl⟩
          rw [← hx] at e15
          rw [← hy] at e2
          rw [← hz] at e16
          rw [← hu] at e7
          rw [← hy5] at e5
          have HX := Aside0.mk (And.intro hx (And.intro hy (And.intro hz hu)))
          clear hw hx hy hz hu hy5
          have i0 : 0 ≤ i - 15 := by omega
          have i1 : i - 15 < 64 := by omega
          have i2 : 0 ≤ i - 2 := by omega
          have i3 : i - 2 < 64 := by omega
          have i4 : 0 ≤ i - 16 := by omega
          have i5 : i - 16 < 64 := by omega
          have i6 : 0 ≤ i - 7 := by omega
          have i7 : i - 7 < 64 := by omega
          have i8 : 0 ≤ i := by omega
          have i9 : 7 ≤ i := by omega
          have k0 : IntKind.i64.wrap (i - 15) = i - 15 := IntWalk.i64_in _ (by omega)
          have k1 : IntKind.i64.wrap (i - 2) = i - 2 := IntWalk.i64_in _ (by omega)
          have k2 : IntKind.i64.wrap (i - 16) = i - 16 := IntWalk.i64_in _ (by omega)
          have k3 : IntKind.i64.wrap (i - 7) = i - 7 := IntWalk.i64_in _ (by omega)
          go_wp2
          go_region_held3 (fun w' => w'.cell? ⟨w.heap.size + 1 + 1 + 1 + 1, (i - 16).toNat, none⟩ = some (.int .u32 z) ∧ w'.cell? ⟨w.heap.size + 1 + 1 + 1 + 1, (i - 7).toNat, none⟩ = some (.int .u32 u)) (first | assumption | (refine ⟨?_, ?_⟩ <;> exact cell_set_other (by omega) (by assumption)) | go_keep) (first | (go_at_call 33; refine (refrot_any _ _ _ (by decide) (by decide)).mono ?_; rintro e w1 ⟨rfl, rfl⟩))
          all_goals go_wp2
          all_goals
            go_roundg (64 - (i + 1).toNat)
            case measure => have := HA2.out; omega
            case rel =>
              refine ⟨i + 1, rfl, ⟨⟨by omega, by omega⟩⟩, ⟨?_⟩⟩
              have e1 := later_eq bl i x y z u HX.out (by omega) (by omega)
              rw [e1]
              have hput := HI2.out.put i.toNat (later (sched bl i.toNat) i.toNat)
              rw [set_next _ _ _ (sched_len _ _) (by omega)] at hput
              rw [show (i + 1).toNat = i.toNat + 1 from by omega, sched, if_neg (by omega), List.append_assoc]
              exact hput.drew
          -->>L2
        · have d3 : decide (i < 64) = false := decide_eq_false c3
          have HJ2 := Aside0.mk (show i = 64 from by omega)
          have hI := HI2.out
          rw [HJ2.out, show (64 : Int).toNat = 64 from rfl, Nat.sub_self, List.replicate_zero, List.append_nil] at hI
          have HI3 := Aside0.mk hI
          have hsl : st.length = 8 := HS.out
          have s0 : wr.cell? ⟨w.heap.size, 0, none⟩ = some (.int .u32 (rd st 0)) := hI.1.cell 0 (by omega) (by omega)
          have s1 : wr.cell? ⟨w.heap.size, 1, none⟩ = some (.int .u32 (rd st 1)) := hI.1.cell 1 (by omega) (by omega)
          have s2 : wr.cell? ⟨w.heap.size, 2, none⟩ = some (.int .u32 (rd st 2)) := hI.1.cell 2 (by omega) (by omega)
          have s3 : wr.cell? ⟨w.heap.size, 3, none⟩ = some (.int .u32 (rd st 3)) := hI.1.cell 3 (by omega) (by omega)
          have s4 : wr.cell? ⟨w.heap.size, 4, none⟩ = some (.int .u32 (rd st 4)) := hI.1.cell 4 (by omega) (by omega)
          have s5 : wr.cell? ⟨w.heap.size, 5, none⟩ = some (.int .u32 (rd st 5)) := hI.1.cell 5 (by omega) (by omega)
          have s6 : wr.cell? ⟨w.heap.size, 6, none⟩ = some (.int .u32 (rd st 6)) := hI.1.cell 6 (by omega) (by omega)
          have s7 : wr.cell? ⟨w.heap.size, 7, none⟩ = some (.int .u32 (rd st 7)) := hI.1.cell 7 (by omega) (by omega)
          clear c3 hI hsl
          obtain ⟨wA, rfl⟩ : ∃ x, x = wr := ⟨_, rfl⟩
          obtain ⟨i0, rfl⟩ : ∃ x, x = i := ⟨_, rfl⟩
          go_wp2
          go_loopg [14, 15, 16, 17] 64 (fun kq v14 v15 v16 v17 w' => ∃ (i : Int), v14 = .int .i64 i ∧ Aside0 (0 ≤ i ∧ (kq : Int) + i = 64) ∧ Aside0 (IsArr w' wA.heap.size .u32 47 (rounds (sched bl 64) st i.toNat)) ∧ Aside0 (Below wA.heap.size wA w' ∧ w'.heap.size = wA.heap.size + 1))
          case atStart =>
            refine ⟨0, rfl, ⟨⟨by omega, by omega⟩⟩, ⟨?_⟩, ⟨⟨below_alloc (B0 wA) _, by simp⟩⟩⟩
            have h := blk_new wA (.cells (nums .u32 [rd st 0, rd st 1, rd st 2, rd st 3, rd st 4, rd st 5, rd st 6, rd st 7]).toArray 47)
            exact Eq.trans h (by rw [list8 st HS.out]; rfl)
          case round =>
            obtain ⟨i, rfl, HA3, HR, HB2⟩ := hrel
            have hi0 : 0 ≤ i := HA3.out.1
            have him : i ≤ 64 := by have := HA3.out; omega
            clear s0 s1 s2 s3 s4 s5 s6 s7
            by_cases c3 : i < 64
            · have d3 : decide (i < 64) = true := decide_eq_true c3
              --<<L3
              obtain ⟨s, hs⟩ : ∃ s, s = rounds (sched bl 64) st i.toNat := ⟨_, rfl⟩
              have HSE := Aside0.mk hs
              have hsl : s.length = 8 := by rw [hs]; exact rounds_len _ _ HS.out _
              have HSL := Aside0.mk hsl
              have HR2 : Aside0 (IsArr wr wA.heap.size .u32 47 s) := ⟨by rw [hs]; exact HR.out⟩
              have e0 : wr.cell? ⟨wA.heap.size, 0, none⟩ = some (.int .u32 (s.getD 0 0)) := HR2.out.cell 0 (by omega) (by omega)
              have f0 := HR2.out.frozen 0
              obtain ⟨s0, hs0⟩ : ∃ x, x = s.getD 0 0 := ⟨_, rfl⟩
              rw [← hs0] at e0
              have e1 : wr.cell? ⟨wA.heap.size, 1, none⟩ = some (.int .u32 (s.getD 1 0)) := HR2.out.cell 1 (by omega) (by omega)
              have f1 := HR2.out.frozen 1
              obtain ⟨s1, hs1⟩ : ∃ x, x = s.getD 1 0 := ⟨_, rfl⟩
              rw [← hs1] at e1
              have e2 : wr.cell? ⟨wA.heap.size, 2, none⟩ = some (.int .u32 (s.getD 2 0)) := HR2.out.cell 2 (by omega) (by omega)
              have f2 := HR2.out.frozen 2
              obtain ⟨s2, hs2⟩ : ∃ x, x = s.getD 2 0 := ⟨_, rfl⟩
              rw [← hs2] at e2
              have e3 : wr.cell? ⟨wA.heap.size, 3, none⟩ = some (.int .u32 (s.getD 3 0)) := HR2.out.cell 3 (by omega) (by omega)
              have f3 := HR2.out.frozen 3
              obtain ⟨s3, hs3⟩ : ∃ x, x = s.getD 3 0 := ⟨_, rfl⟩
              rw [← hs3] at e3
              have e4 : wr.cell? ⟨wA.heap.size, 4, none⟩ = some (.int .u32 (s.getD 4 0)) := HR2.out.cell 4 (by omega) (by omega)
              have f4 := HR2.out.frozen 4
              obtain ⟨s4, hs4⟩ : ∃ x, x = s.getD 4 0 := ⟨_, rfl⟩
              rw [← hs4] at e4
              have e5 : wr.cell? ⟨wA.heap.size, 5, none⟩ = some (.int .u32 (s.getD 5 0)) := HR2.out.cell 5 (by omega) (by omega)
              have f5 := HR2.out.frozen 5
              obtain ⟨s5, hs5⟩ : ∃ x, x = s.getD 5 0 := ⟨_, rfl⟩
              rw [← hs5] at e5
              have e6 : wr.cell? ⟨wA.heap.size, 6, none⟩ = some (.int .u32 (s.getD 6 0)) := HR2.out.cell 6 (by omega) (by omega)
              have f6 := HR2.out.frozen 6
              obtain ⟨s6, hs6⟩ : ∃ x, x = s.getD 6 0 := ⟨_, rfl⟩
              rw [← hs6] at e6
              have e7 : wr.cell? ⟨wA.heap.size, 7, none⟩ = some (.int .u32 (s.getD 7 0)) := HR2.out.cell 7 (by omega) (by omega)
              have f7 := HR2.out.frozen 7
              obtain ⟨s7, hs7⟩ : ∃ x, x = s.getD 7 0 := ⟨_, rfl⟩
              rw [← hs7] at e7
              have HSX := Aside0.mk (And.intro hs0 (And.intro hs1 (And.intro hs2 (And.intro hs3 (And.intro hs4 (And.intro hs5 (And.intro hs6 hs7)))))))
              have hz := HI3.out.2.2.2.2.2.2
              have ew : wr.cell? ⟨w.heap.size + 1 + 1 + 1 + 1, i.toNat, none⟩ = some (.int .u32 (rd (sched bl 64) i)) := (HI3.out.2.2.2.2.1.below HB2.out.1 (by omega)).cell i hi0 (by rw [sched_len]; exact c3)
              have ek : wr.cell? ⟨w.heap.size + 1 + 1, i.toNat, none⟩ = some (.int .u32 (rd KT i)) := (HI3.out.2.2.1.below HB2.out.1 (by omega)).cell i hi0 (by rw [show KT.length = 64 from rfl]; exact c3)
              obtain ⟨kx, hkx⟩ : ∃ x, x = rd KT i := ⟨_, rfl⟩
              obtain ⟨wx, hwx⟩ : ∃ x, x = rd (sched bl 64) i := ⟨_, rfl⟩
              rw [← hwx] at ew
              rw [← hkx] at ek
              have HKW := Aside0.mk (And.intro hkx hwx)
              clear hs hsl hs0 hs1 hs2 hs3 hs4 hs5 hs6 hs7 hz hkx hwx
              go_wp2
              go_quiet (first | (go_at_call 33; refine Calls.quiet_of_same (refrot_any _ _ _ (by decide) (by decide))))
              generalize hq_wB : wr.drewN nq = wB
              have e0 : wB.cell? ⟨wA.heap.size, 0, none⟩ = some (.int .u32 s0) := by rw [← hq_wB]; exact e0
              have f0 : wB.frozen? ⟨wA.heap.size, 0, none⟩ = false := by rw [← hq_wB]; exact f0
              have e1 : wB.cell? ⟨wA.heap.size, 1, none⟩ = some (.int .u32 s1) := by rw [← hq_wB]; exact e1
              have f1 : wB.frozen? ⟨wA.heap.size, 1, none⟩ = false := by rw [← hq_wB]; exact f1
              have e2 : wB.cell? ⟨wA.heap.size, 2, none⟩ = some (.int .u32 s2) := by rw [← hq_wB]; exact e2
              have f2 : wB.frozen? ⟨wA.heap.size, 2, none⟩ = false := by rw [← hq_wB]; exact f2
              have e3 : wB.cell? ⟨wA.heap.size, 3, none⟩ = some (.int .u32 s3) := by rw [← hq_wB]; exact e3
              have f3 : wB.frozen? ⟨wA.heap.size, 3, none⟩ = false := by rw [← hq_wB]; exact f3
              have e4 : wB.cell? ⟨wA.heap.size, 4, none⟩ = some (.int .u32 s4) := by rw [← hq_wB]; exact e4
              have f4 : wB.frozen? ⟨wA.heap.size, 4, none⟩ = false := by rw [← hq_wB]; exact f4
              have e5 : wB.cell? ⟨wA.heap.size, 5, none⟩ = some (.int .u32 s5) := by rw [← hq_wB]; exact e5
              have f5 : wB.frozen? ⟨wA.heap.size, 5, none⟩ = false := by rw [← hq_wB]; exact f5
              have e6 : wB.cell? ⟨wA.heap.size, 6, none⟩ = some (.int .u32 s6) := by rw [← hq_wB]; exact e6
              have f6 : wB.frozen? ⟨wA.heap.size, 6, none⟩ = false := by rw [← hq_wB]; exact f6
              have e7 : wB.cell? ⟨wA.heap.size, 7, none⟩ = some (.int .u32 s7) := by rw [← hq_wB]; exact e7
              have f7 : wB.frozen? ⟨wA.heap.size, 7, none⟩ = false := by rw [← hq_wB]; exact f7
              have ew : wB.cell? ⟨w.heap.size + 1 + 1 + 1 + 1, i.toNat, none⟩ = some (.int .u32 wx) := by rw [← hq_wB]; exact ew
              have ek : wB.cell? ⟨w.heap.size + 1 + 1, i.toNat, none⟩ = some (.int .u32 kx) := by rw [← hq_wB]; exact ek
              have HR2 : Aside0 (IsArr wB wA.heap.size .u32 47 s) := ⟨by rw [← hq_wB]; exact HR2.out.drewN _⟩
              have HB2 : Aside0 (Below wA.heap.size wA wB ∧ wB.heap.size = wA.heap.size + 1) := ⟨by rw [← hq_wB]; exact ⟨pw_below_drewN HB2.out.1 _, HB2.out.2⟩⟩
              clear hq_wB
              go_wp2
              go_quiet (first | (go_at_call 33; refine Calls.quiet_of_same (refrot_any _ _ _ (by decide) (by decide))))
              generalize hq_wC : wB.drewN nq = wC
              have e0 : wC.cell? ⟨wA.heap.size, 0, none⟩ = some (.int .u32 s0) := by rw [← hq_wC]; exact e0
              have f0 : wC.frozen? ⟨wA.heap.size, 0, none⟩ = false := by rw [← hq_wC]; exact f0
              have e1 : wC.cell? ⟨wA.heap.size, 1, none⟩ = some (.int .u32 s1) := by rw [← hq_wC]; exact e1
              have f1 : wC.frozen? ⟨wA.heap.size, 1, none⟩ = false := by rw [← hq_wC]; exact f1
              have e2 : wC.cell? ⟨wA.heap.size, 2, none⟩ = some (.int .u32 s2) := by rw [← hq_wC]; exact e2
              have f2 : wC.frozen? ⟨wA.heap.size, 2, none⟩ = false := by rw [← hq_wC]; exact f2
              have e3 : wC.cell? ⟨wA.heap.size, 3, none⟩ = some (.int .u32 s3) := by rw [← hq_wC]; exact e3
              have f3 : wC.frozen? ⟨wA.heap.size, 3, none⟩ = false := by rw [← hq_wC]; exact f3
              have e4 : wC.cell? ⟨wA.heap.size, 4, none⟩ = some (.int .u32 s4) := by rw [← hq_wC]; exact e4
              have f4 : wC.frozen? ⟨wA.heap.size, 4, none⟩ = false := by rw [← hq_wC]; exact f4
              have e5 : wC.cell? ⟨wA.heap.size, 5, none⟩ = some (.int .u32 s5) := by rw [← hq_wC]; exact e5
              have f5 : wC.frozen? ⟨wA.heap.size, 5, none⟩ = false := by rw [← hq_wC]; exact f5
              have e6 : wC.cell? ⟨wA.heap.size, 6, none⟩ = some (.int .u32 s6) := by rw [← hq_wC]; exact e6
              have f6 : wC.frozen? ⟨wA.heap.size, 6, none⟩ = false := by rw [← hq_wC]; exact f6
              have e7 : wC.cell? ⟨wA.heap.size, 7, none⟩ = some (.int .u32 s7) := by rw [← hq_wC]; exact e7
              have f7 : wC.frozen? ⟨wA.heap.size, 7, none⟩ = false := by rw [← hq_wC]; exact f7
              have ew : wC.cell? ⟨w.heap.size + 1 + 1 + 1 + 1, i.toNat, none⟩ = some (.int .u32 wx) := by rw [← hq_wC]; exact ew
              have ek : wC.cell? ⟨w.heap.size + 1 + 1, i.toNat, none⟩ = some (.int .u32 kx) := by rw [← hq_wC]; exact ek
              have HR2 : Aside0 (IsArr wC wA.heap.size .u32 47 s) := ⟨by rw [← hq_wC]; exact HR2.out.drewN _⟩
              have HB2 : Aside0 (Below wA.heap.size wA wC ∧ wC.heap.size = wA.heap.size + 1) := ⟨by rw [← hq_wC]; exact ⟨pw_below_drewN HB2.out.1 _, HB2.out.2⟩⟩
              clear hq_wC
              clear e0 e1 e2 e3 e4 e5 e6 e7 f0 f1 f2 f3 f4 f5 f6 f7 ew ek
              go_wp2
              obtain ⟨T, hT⟩ : ∃ T, T = tsum s7 s4 s5 s6 kx wx % 4294967296 := ⟨_, rfl⟩
              obtain ⟨U, hU⟩ : ∃ T, T = usum s0 s1 s2 % 4294967296 := ⟨_, rfl⟩
              have HT := Aside0.mk hT
              have HU := Aside0.mk hU
              unfold tsum at hT
              unfold usum at hU
              rw [← hT, ← hU]
              clear hT hU
              go_loopg [17] 7 (fun kq v17 w' => ∃ (k : Int), v17 = .int .i64 k ∧ Aside0 (0 ≤ k ∧ (kq : Int) = k ∧ k ≤ 7) ∧ Aside0 (IsArr w' wA.heap.size .u32 47 (shl8 s k.toNat)) ∧ Aside0 (Below wA.heap.size wA w' ∧ w'.heap.size = wA.heap.size + 1))
              case atStart => exact ⟨7, rfl, ⟨⟨by omega, by omega, by omega⟩⟩, ⟨by rw [show (7 : Int).toNat = 7 from rfl, shl8_start s HSL.out]; exact HR2.out⟩, HB2⟩
              case round =>
                obtain ⟨k, rfl, HK, HR4, HB4⟩ := hrel
                have hk0 : 0 ≤ k := HK.out.1
                have hk7 : k ≤ 7 := HK.out.2.2
                by_cases c5 : 0 < k
                · have d5 : decide (0 < k) = true := decide_eq_true c5
                  have hl := shl8_len s HSL.out k.toNat (by omega)
                  have g1 : wr.cell? ⟨wA.heap.size, (k - 1).toNat, none⟩ = some (.int .u32 (rd (shl8 s k.toNat) (k - 1))) := HR4.out.cell (k - 1) (by omega) (by omega)
                  have g2 : wr.cell? ⟨wA.heap.size, k.toNat, none⟩ = some (.int .u32 (rd (shl8 s k.toNat) k)) := HR4.out.cell k (by omega) (by omega)
                  have g3 := HR4.out.frozen k.toNat
                  have hv : rd (shl8 s k.toNat) (k - 1) = s.getD (k.toNat - 1) 0 := by rw [rd, show (k - 1).toNat = k.toNat - 1 from by omega]; exact shl8_get s HSL.out _ (by omega) (by omega)
                  rw [hv] at g1
                  obtain ⟨x, hx⟩ : ∃ x, x = s.getD (k.toNat - 1) 0 := ⟨_, rfl⟩
                  obtain ⟨y, hy⟩ : ∃ x, x = rd (shl8 s k.toNat) k := ⟨_, rfl⟩
                  rw [← hx] at g1
                  rw [← hy] at g2
                  have HX := Aside0.mk hx
                  clear hl hv hx hy
                  have g1' : wr.cell? ⟨wA.heap.size, k.toNat - 1, none⟩ = some (.int .u32 x) := by rw [show k.toNat - 1 = (k - 1).toNat from by omega]; exact g1
                  have i0 : 0 ≤ k - 1 := by omega
                  have i1 : k - 1 < 8 := by omega
                  have i2 : k < 8 := by omega
                  go_wp2
                  go_roundg (k - 1).toNat
                  case measure => have := HK.out; omega
                  case rel =>
                    refine ⟨k - 1, rfl, ⟨⟨by omega, by omega, by omega⟩⟩, ⟨?_⟩, ⟨?_⟩⟩
                    · have h := HR4.out.put k.toNat x
                      rw [HX.out, shl8_set s HSL.out k.toNat (by omega) (by omega)] at h
                      rw [show (k - 1).toNat = k.toNat - 1 from by omega, HX.out]
                      exact h
                    · exact ⟨HB4.out.1.setCell (p := ⟨wA.heap.size, k.toNat, none⟩) (Nat.le_refl _) _, by simp [World.setCell]; exact HB4.out.2⟩
                · have d5 : decide (0 < k) = false := decide_eq_false c5
                  have HR5 : Aside0 (IsArr wr wA.heap.size .u32 47 (shl8 s 0)) := ⟨by have h := HR4.out; rw [show k.toNat = 0 from by omega] at h; exact h⟩
                  have hl := shl8_len s HSL.out 0 (by omega)
                  have g4 : wr.cell? ⟨wA.heap.size, 4, none⟩ = some (.int .u32 ((shl8 s 0).getD 4 0)) := HR5.out.cell 4 (by omega) (by omega)
                  have g0 : wr.cell? ⟨wA.heap.size, 0, none⟩ = some (.int .u32 ((shl8 s 0).getD 0 0)) := HR5.out.cell 0 (by omega) (by omega)
                  have q4 := HR5.out.frozen 4
                  have q0 := HR5.out.frozen 0
                  rw [(shl8_end s HSL.out 0 0).2] at g4
                  obtain ⟨y4, hy4⟩ : ∃ x, x = s.getD 3 0 := ⟨_, rfl⟩
                  obtain ⟨y0, hy0⟩ : ∃ x, x = (shl8 s 0).getD 0 0 := ⟨_, rfl⟩
                  rw [← hy4] at g4
                  rw [← hy0] at g0
                  have HY := Aside0.mk hy4
                  clear c5 hl hy4 hy0
                  go_wp2
                  go_roundg (64 - (i + 1).toNat)
                  case measure => have := HA3.out; omega
                  case rel =>
                    refine ⟨i + 1, rfl, ⟨⟨by omega, by omega⟩⟩, ⟨?_⟩, ⟨?_⟩⟩
                    · have h := (HR5.out.put 4 ((y4 + T) % 4294967296)).put 0 ((T + U) % 4294967296)
                      rw [(shl8_end s HSL.out _ _).1] at h
                      have e : rounds (sched bl 64) st (i + 1).toNat = [(T + U) % 4294967296, s.getD 0 0, s.getD 1 0, s.getD 2 0, (y4 + T) % 4294967296, s.getD 4 0, s.getD 5 0, s.getD 6 0] := by
                        obtain ⟨q0, q1, q2, q3, q4, q5, q6, q7⟩ := HSX.out
                        have hk : KT.getD i.toNat 0 = kx := by rw [HKW.out.1]; rfl
                        have hwd : (sched bl 64).getD i.toNat 0 = wx := by rw [HKW.out.2]; rfl
                        rw [show (i + 1).toNat = i.toNat + 1 from by omega, rounds, ← HSE.out, hk, hwd, rnd, ← q0, ← q1, ← q2, ← q3, ← q4, ← q5, ← q6, ← q7, HY.out, ← q3, HT.out, HU.out]
                        have a1 : (tsum s7 s4 s5 s6 kx wx + usum s0 s1 s2) % 4294967296 = (tsum s7 s4 s5 s6 kx wx % 4294967296 + usum s0 s1 s2 % 4294967296) % 4294967296 := by omega
                        have a2 : (s3 + tsum s7 s4 s5 s6 kx wx) % 4294967296 = (s3 + tsum s7 s4 s5 s6 kx wx % 4294967296) % 4294967296 := by omega
                        rw [a1, a2]
                      rw [e]
                      exact h
                    · exact ⟨(HB4.out.1.setCell (p := ⟨wA.heap.size, 4, none⟩) (Nat.le_refl _) _).setCell (p := ⟨wA.heap.size, 0, none⟩) (Nat.le_refl _) _, by simp [World.setCell]; exact HB4.out.2⟩
              -->>L3
            · have d3 : decide (i < 64) = false := decide_eq_false c3
              have HJ3 := Aside0.mk (show i = 64 from by omega)
              have HR3 : Aside0 (IsArr wr wA.heap.size .u32 47 (rounds (sched bl 64) st 64)) := ⟨by have h := HR.out; rw [HJ3.out] at h; exact h⟩
              have HRL3 := Aside0.mk (rounds_len (sched bl 64) st HS.out 64)
              clear c3
              go_wp2
              go_loopg [18] 8 (fun kq v18 w' => ∃ (q : Int), v18 = .int .i64 q ∧ Aside0 (0 ≤ q ∧ (kq : Int) + q = 8) ∧ Aside0 (IsArr w' wA.heap.size .u32 47 ((blockP st bl).take q.toNat ++ (rounds (sched bl 64) st 64).drop q.toNat)) ∧ Aside0 (Below wA.heap.size wA w' ∧ w'.heap.size = wA.heap.size + 1))
              case atStart => exact ⟨0, rfl, ⟨⟨by omega, by omega⟩⟩, HR3, HB2⟩
              case round =>
                obtain ⟨q, rfl, HA4, HR4, HB3⟩ := hrel
                have hq0 : 0 ≤ q := HA4.out.1
                have hqm : q ≤ 8 := by have := HA4.out; omega
                by_cases c4 : q < 8
                · have d4 : decide (q < 8) = true := decide_eq_true c4
                  have hz := HI3.out.2.2.2.2.2.2
                  have hBL := addst_len _ st HRL3.out HS.out
                  have e9 := HR4.out.cell q hq0 (by rw [mix_len (blockP st bl) _ hBL HRL3.out _ (by omega)]; exact c4)
                  have f9 := HR4.out.frozen q.toNat
                  have e2 : wr.cell? ⟨w.heap.size, q.toNat, none⟩ = some (.int .u32 (rd st q)) := (HI3.out.1.below HB3.out.1 (by omega)).cell q hq0 (by rw [HS.out]; exact c4)
                  have hv : rd ((blockP st bl).take q.toNat ++ (rounds (sched bl 64) st 64).drop q.toNat) q = (rounds (sched bl 64) st 64).getD q.toNat 0 := mix_get _ _ hBL HRL3.out _ (by omega)
                  rw [hv] at e9
                  obtain ⟨x, hx⟩ : ∃ x, x = (rounds (sched bl 64) st 64).getD q.toNat 0 := ⟨_, rfl⟩
                  obtain ⟨y, hy⟩ : ∃ x, x = rd st q := ⟨_, rfl⟩
                  rw [← hx] at e9
                  rw [← hy] at e2
                  have HXY := Aside0.mk (And.intro hx hy)
                  clear hz hBL hv hx hy
                  go_wp2
                  go_region
                  all_goals go_wp2
                  go_roundg (8 - (q + 1).toNat)
                  case measure => have := HA4.out; omega
                  case rel =>
                    have h := (HR4.out.drew).put q.toNat ((x + y) % 4294967296)
                    have hA := addst_get (rounds (sched bl 64) st 64) st HRL3.out HS.out q.toNat (by omega)
                    have hm := mix_set (blockP st bl) (rounds (sched bl 64) st 64) (addst_len _ st HRL3.out HS.out) HRL3.out q.toNat (by omega)
                    rw [show (blockP st bl).getD q.toNat 0 = (x + y) % 4294967296 from by rw [HXY.out.1, HXY.out.2]; exact hA] at hm
                    rw [hm] at h
                    refine ⟨q + 1, rfl, ⟨⟨by omega, by omega⟩⟩, ⟨?_⟩, ⟨?_⟩⟩
                    · rw [show (q + 1).toNat = q.toNat + 1 from by omega]
                      exact h
                    · exact ⟨(below_drew1 HB3.out.1).setCell (p := ⟨wA.heap.size, q.toNat, none⟩) (Nat.le_refl _) _, by simp [World.setCell]; exact HB3.out.2⟩
                · have d4 : decide (q < 8) = false := decide_eq_false c4
                  have hBL := addst_len _ st HRL3.out HS.out
                  have HF : Aside0 (IsArr wr wA.heap.size .u32 47 (blockP st bl)) := ⟨by
                    have h := HR4.out
                    rw [show q.toNat = 8 from by omega, List.take_of_length_le (by rw [show blockP st bl = addst (rounds (sched bl 64) st 64) st from rfl, hBL]; decide), List.drop_of_length_le (by rw [HRL3.out]; decide), List.append_nil] at h
                    exact h⟩
                  have hz := HI3.out.2.2.2.2.2.2
                  have HO : Aside0 (IsArr wr (w.heap.size + 1 + 1 + 1) .u32 47 (List.replicate 8 0)) := ⟨HI3.out.2.2.2.1.below HB3.out.1 (by omega)⟩
                  have HBL8 := Aside0.mk (show (blockP st bl).length = 8 from hBL)
                  clear hBL hz
                  have e0 : wr.cell? ⟨wA.heap.size, 0, none⟩ = some (.int .u32 (rd (blockP st bl) 0)) := HF.out.cell 0 (by omega) (by rw [HBL8.out]; decide)
                  have o0 : wr.cell? ⟨w.heap.size + 1 + 1 + 1, 0, none⟩ = some (.int .u32 0) := HO.out.cell 0 (by omega) (by decide)
                  have f0 := HO.out.frozen 0
                  have e1 : wr.cell? ⟨wA.heap.size, 1, none⟩ = some (.int .u32 (rd (blockP st bl) 1)) := HF.out.cell 1 (by omega) (by rw [HBL8.out]; decide)
                  have o1 : wr.cell? ⟨w.heap.size + 1 + 1 + 1, 1, none⟩ = some (.int .u32 0) := HO.out.cell 1 (by omega) (by decide)
                  have f1 := HO.out.frozen 1
                  have e2 : wr.cell? ⟨wA.heap.size, 2, none⟩ = some (.int .u32 (rd (blockP st bl) 2)) := HF.out.cell 2 (by omega) (by rw [HBL8.out]; decide)
                  have o2 : wr.cell? ⟨w.heap.size + 1 + 1 + 1, 2, none⟩ = some (.int .u32 0) := HO.out.cell 2 (by omega) (by decide)
                  have f2 := HO.out.frozen 2
                  have e3 : wr.cell? ⟨wA.heap.size, 3, none⟩ = some (.int .u32 (rd (blockP st bl) 3)) := HF.out.cell 3 (by omega) (by rw [HBL8.out]; decide)
                  have o3 : wr.cell? ⟨w.heap.size + 1 + 1 + 1, 3, none⟩ = some (.int .u32 0) := HO.out.cell 3 (by omega) (by decide)
                  have f3 := HO.out.frozen 3
                  have e4 : wr.cell? ⟨wA.heap.size, 4, none⟩ = some (.int .u32 (rd (blockP st bl) 4)) := HF.out.cell 4 (by omega) (by rw [HBL8.out]; decide)
                  have o4 : wr.cell? ⟨w.heap.size + 1 + 1 + 1, 4, none⟩ = some (.int .u32 0) := HO.out.cell 4 (by omega) (by decide)
                  have f4 := HO.out.frozen 4
                  have e5 : wr.cell? ⟨wA.heap.size, 5, none⟩ = some (.int .u32 (rd (blockP st bl) 5)) := HF.out.cell 5 (by omega) (by rw [HBL8.out]; decide)
                  have o5 : wr.cell? ⟨w.heap.size + 1 + 1 + 1, 5, none⟩ = some (.int .u32 0) := HO.out.cell 5 (by omega) (by decide)
                  have f5 := HO.out.frozen 5
                  have e6 : wr.cell? ⟨wA.heap.size, 6, none⟩ = some (.int .u32 (rd (blockP st bl) 6)) := HF.out.cell 6 (by omega) (by rw [HBL8.out]; decide)
                  have o6 : wr.cell? ⟨w.heap.size + 1 + 1 + 1, 6, none⟩ = some (.int .u32 0) := HO.out.cell 6 (by omega) (by decide)
                  have f6 := HO.out.frozen 6
                  have e7 : wr.cell? ⟨wA.heap.size, 7, none⟩ = some (.int .u32 (rd (blockP st bl) 7)) := HF.out.cell 7 (by omega) (by rw [HBL8.out]; decide)
                  have o7 : wr.cell? ⟨w.heap.size + 1 + 1 + 1, 7, none⟩ = some (.int .u32 0) := HO.out.cell 7 (by omega) (by decide)
                  have f7 := HO.out.frozen 7
                  clear c4
                  go_wp2
                  have hout := HO.out.put8 (by decide) (rd (blockP st bl) 0) (rd (blockP st bl) 1) (rd (blockP st bl) 2) (rd (blockP st bl) 3) (rd (blockP st bl) 4) (rd (blockP st bl) 5) (rd (blockP st bl) 6) (rd (blockP st bl) 7)
                  rw [list8 _ HBL8.out] at hout
                  refine bodyPost_ret (v := .agg (nums .u32 (blockP st bl)).toArray) ?_ ?_ ?_
                  · exact results_c rfl _ _ (w.heap.size + 1 + 1 + 1) 47 _ (0, 0) _ rfl hout Tryd.underlying47 rfl (by rw [size_st]; simp [nums, HBL8.out])
                  · rfl
                  · exact ⟨rfl, below8 (HI3.out.2.2.2.2.2.1.trans (HB3.out.1.mono HI3.out.2.2.2.2.2.1.size)) (by omega) _ _ _ _ _ _ _ _⟩

end Go.Proofs.YthhckkfdcnddfaaDoor.HShaR
