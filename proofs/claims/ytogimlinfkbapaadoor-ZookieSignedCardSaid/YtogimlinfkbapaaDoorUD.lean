/- The reference's plain functions: sections of the kit's print of this seat. -/
import Derived.Test.YtogimlinfkbapaaDoorUV
import Derived.Test.YtogimlinfkbapaaDoorUC
import Derived.Deep.WholeRow
import Derived.Lib.SmallJoins
import Derived.Deep.MidRow
namespace Go.Proofs.YtogimlinfkbapaaDoor.HPr
open Go.RowKit Go.Proofs.YtogimlinfkbapaaDoorW.PrintWords Go.Proofs.YtogimlinfkbapaaDoorW.PrintLast Go.Proofs.YtogimlinfkbapaaDoorW.PrintMore Go.Proofs.YtogimlinfkbapaaDoor.PZookieMatchesReference
attribute [local go_sem] max2_int min2_int max_two min_two max_three min_three max_four min_four
set_option linter.unusedVariables false
set_option linter.unusedSimpArgs false

/-! ### vestryref06_rot: function 82 -/
def vestryref06_rot.f (a0 : Int) (a1 : Int) : Option (Int) := if 0 ≤ a1 then (if 0 ≤ (IntKind.u64.wrap (32 - a1)) then (some (Go.bits .or .u32 (shr .u32 a0 a1) (shl .u32 a0 (IntKind.u64.wrap (32 - a1))))) else (none)) else (none)
set_option maxHeartbeats 8000000 in
set_option maxRecDepth 100000 in
theorem vestryref06_rot.calls (a0 : Int) (a1 : Int) (r : Int) (w : World) (h : vestryref06_rot.f a0 a1 = some r) :
    Calls Tryd.prog 82 #[.int .u32 a0, .int .u64 a1] w fun e w' => e = .returned (.int .u32 r) ∧ Drawn0 w w' := by
  have H : (if 0 ≤ a1 then (if 0 ≤ (IntKind.u64.wrap (32 - a1)) then (some (Go.bits .or .u32 (shr .u32 a0 a1) (shl .u32 a0 (IntKind.u64.wrap (32 - a1))))) else (none)) else (none)) = some r := h
  clear h
  by_cases c3 : 0 ≤ a1
  · rw [if_pos c3] at H
    have c3b0 := eq_true c3
    have c3b1 : decide (0 ≤ a1) = true := decide_eq_true c3
    clear c3
    obtain ⟨ji4, hji4⟩ : ∃ j_ : Int, (shr .u32 a0 a1) = j_ := ⟨_, rfl⟩
    replace H : (if 0 ≤ (IntKind.u64.wrap (32 - a1)) then (some (Go.bits .or .u32 (ji4) (shl .u32 a0 (IntKind.u64.wrap (32 - a1))))) else (none)) = some r := by first | (rw [hji4] at H; exact H) | (simp only [hji4] at H ⊢; exact H)
    have hji4_ : (a0 / 2 ^ min a1.toNat 32) = ji4 := hji4
    have hji4z : a1 ≤ 32 → (a0 / 2 ^ a1.toNat) = ji4 := shr_small hji4
    obtain ⟨ji5, hji5⟩ : ∃ j_ : Int, (IntKind.u64.wrap (32 - a1)) = j_ := ⟨_, rfl⟩
    replace H : (if 0 ≤ (ji5) then (some (Go.bits .or .u32 (ji4) (shl .u32 a0 (ji5)))) else (none)) = some r := by first | (rw [hji5] at H; exact H) | (simp only [hji5] at H ⊢; exact H)
    by_cases c6 : 0 ≤ (ji5)
    · rw [if_pos c6] at H
      have c6b0 := eq_true c6
      have c6b1 : decide (0 ≤ (ji5)) = true := decide_eq_true c6
      clear c6
      obtain ⟨ji7, hji7⟩ : ∃ j_ : Int, (shl .u32 a0 (ji5)) = j_ := ⟨_, rfl⟩
      replace H : (some (Go.bits .or .u32 (ji4) (ji7))) = some r := by first | (rw [hji7] at H; exact H) | (simp only [hji7] at H ⊢; exact H)
      have hji7_ : (IntKind.u32.wrap (a0 * 2 ^ min (ji5).toNat 32)) = ji7 := hji7
      have hji7z : (ji5) ≤ 32 → (IntKind.u32.wrap (a0 * 2 ^ (ji5).toNat)) = ji7 := shl_small hji7
      obtain rfl := Option.some.inj H
      go_enter Tryd.func82, Tryd.ntmps82
      go_wp2
      go_ret
      exact ⟨by first | rfl | (simp; done) | (simp only [← hji4, ← hji5, ← hji7] <;> (first | rfl | simp)) | (simp [*]; done), by repeat (first | exact Drawn0.refl _ | apply Drawn0.step)⟩
    · rw [if_neg c6] at H
      exact absurd H (by simp)
  · rw [if_neg c3] at H
    exact absurd H (by simp)


/-! ### vestryref06_Padding: function 72 -/
mutual
def vestryref06_Padding.l0 : Nat → Int → List Int → Option (List Int)
  | 0, _, _ => none
  | k + 1, x0, x3 => if (Int.tmod (wrap64 ((wrap64 (x0 + (x3.length : Int))) + 8)) 64) = 0 then (vestryref06_Padding.l1 k x3 (IntKind.u64.wrap ((IntKind.u64.wrap (x0)) * 8)) 7) else (if x3.length < 140737488355328 then (vestryref06_Padding.l0 k x0 (x3 ++ [0])) else (none))
def vestryref06_Padding.l1 : Nat → List Int → Int → Int → Option (List Int)
  | 0, _, _, _ => none
  | k + 1, x3, x4, x5 => if x5 ≥ 0 then (if 0 ≤ (IntKind.u64.wrap (wrap64 (8 * x5))) then (if x3.length < 140737488355328 then (vestryref06_Padding.l1 k (x3 ++ [(shr .u64 x4 (IntKind.u64.wrap (wrap64 (8 * x5)))) % 256]) x4 (wrap64 (x5 - 1))) else (none)) else (none)) else (some x3)
end
def vestryref06_Padding.f (k : Nat) (a0 : Int) : Option (List Int) := vestryref06_Padding.l0 k a0 (([128] : List Int))
theorem vestryref06_Padding.mono_l : ∀ k, (∀ y0 y1, LeO (vestryref06_Padding.l0 k y0 y1) (vestryref06_Padding.l0 (k + 1) y0 y1)) ∧ (∀ y0 y1 y2, LeO (vestryref06_Padding.l1 k y0 y1 y2) (vestryref06_Padding.l1 (k + 1) y0 y1 y2))
  | 0 => ⟨fun _ _ r h => by simp [vestryref06_Padding.l0] at h, fun _ _ _ r h => by simp [vestryref06_Padding.l1] at h⟩
  | k + 1 => by
    obtain ⟨ih0, ih1⟩ := vestryref06_Padding.mono_l k
    refine ⟨?_, ?_⟩
    · intro y0 y1
      unfold vestryref06_Padding.l0
      repeat' first
      | (with_reducible exact ih0 _ _)
      | (with_reducible exact ih1 _ _ _)
      | (with_reducible exact LeO.refl _)
      | (with_reducible exact LeO.none _)
      | (with_reducible refine LeO.ite ?_ ?_)
      | (with_reducible refine LeO.bind ?_ (fun _ => ?_))
      | exact ih0 _ _
      | exact ih1 _ _ _
      | exact LeO.none _
      | refine LeO.ite ?_ ?_
      | refine LeO.bind ?_ (fun _ => ?_)
    · intro y0 y1 y2
      unfold vestryref06_Padding.l1
      repeat' first
      | (with_reducible exact ih0 _ _)
      | (with_reducible exact ih1 _ _ _)
      | (with_reducible exact LeO.refl _)
      | (with_reducible exact LeO.none _)
      | (with_reducible refine LeO.ite ?_ ?_)
      | (with_reducible refine LeO.bind ?_ (fun _ => ?_))
      | exact ih0 _ _
      | exact ih1 _ _ _
      | exact LeO.none _
      | refine LeO.ite ?_ ?_
      | refine LeO.bind ?_ (fun _ => ?_)
theorem vestryref06_Padding.mono : ∀ a0 k, LeO (vestryref06_Padding.f k a0) (vestryref06_Padding.f (k + 1) a0) := by
  intro a0 k
  obtain ⟨ih0, ih1⟩ := vestryref06_Padding.mono_l k
  unfold vestryref06_Padding.f
  repeat' first
      | (with_reducible exact ih0 _ _)
      | (with_reducible exact ih1 _ _ _)
      | (with_reducible exact LeO.refl _)
      | (with_reducible exact LeO.none _)
      | (with_reducible refine LeO.ite ?_ ?_)
      | (with_reducible refine LeO.bind ?_ (fun _ => ?_))
      | exact ih0 _ _
      | exact ih1 _ _ _
      | exact LeO.none _
      | refine LeO.ite ?_ ?_
      | refine LeO.bind ?_ (fun _ => ?_)
set_option maxHeartbeats 8000000 in
set_option maxRecDepth 100000 in
theorem vestryref06_Padding.calls (k : Nat) (a0 : Int) (r : List Int) (w : World) (h : vestryref06_Padding.f k a0 = some r) :
    Calls Tryd.prog 72 #[.int .i64 a0] w fun e w' => ∃ v0_ : Value, e = .returned (v0_) ∧ Kd.R (Kd.int .u8) 5 w' w.heap.size (fun _ => True) v0_ r ∧ Below w.heap.size w w' := by
  have HB := Aside0.mk (Below.refl w.heap.size w)
  have H : (vestryref06_Padding.l0 k a0 (([128] : List Int))) = some r := h
  clear h
  obtain ⟨y134, hy134⟩ : ∃ y_ : List Int, y_ = (([128] : List Int)) := ⟨_, rfl⟩
  replace H : (vestryref06_Padding.l0 k a0 y134) = some r := by first | (rw [hy134]; with_reducible exact H) | (have H2_ := (Option.bind_some _ _).symm.trans H; rw [hy134]; with_reducible exact H2_) | (have H2_ := (Option.bind_some _ _).symm.trans H; with_reducible exact H2_) | with_reducible exact H | (rw [hy134]; exact H) | exact H
  have Ny134 := Aside0.mk hy134
  clear hy134
  have H' := Aside0.mk H
  clear H
  go_enter Tryd.func72, Tryd.ntmps72
  go_wp2_with (first | ((with_reducible refine gate_dst (N := 6) rfl ?_); refine Kd.R_lit (Kd.int .u8) _ 5 ?hg (N := 6) ?hd (xs := ([128] : List Int)) (inner := [.int .u8 128]) (ok := fun _ => True) (okp := fun _ => True) ?hr ?hp (fun _ hk => hk) trivial (Below.refl _ _) (Nat.le_refl _) (by simp) ?_; (case hd => rfl); (case hg => rfl); (case hr => first | (go_simp; done) | (go_simp; rfl)); (case hp => exact (Reps.one (show Kd.M (Kd.int .u8) _ _ _ 128 [.int .u8 128] from rfl) (Reps.none _ _))); intro v135 w2 ho3 hb hg_ hnew_; clear hg_ hnew_; (first | rw [← Ny134.out] at ho3 | (simp only [Int.reduceToNat] at ho3; rw [← Ny134.out] at ho3)); have n0_ := Aside0.mk (Kd.R_lower ho3 (below_size (by repeat (first | (with_reducible first | exact HB.out | apply below_alloc | apply pw_below_drewN | apply below_drew1) | exact HB.out)))); have n1_ := Aside0.mk (below_step (by repeat (first | (with_reducible first | exact HB.out | apply below_alloc | apply pw_below_drewN | apply below_drew1) | exact HB.out)) hb); clear HB; have HO136 := n0_; have HB := n1_; clear n0_ n1_; clear hb ho3))
  go_loopg [3] k (fun kq v3 w' => ∃ (x3_1 : List Int), Aside0 (vestryref06_Padding.l0 kq a0 x3_1 = some r) ∧ Aside0 (kq ≤ k) ∧ Aside0 (Kd.R (Kd.int .u8) 5 w' w.heap.size (fun _ => True) v3 x3_1) ∧ Aside0 (Below w.heap.size w w'))
  case atStart => exact ⟨(y134), H', ⟨Nat.le_refl _⟩, ⟨by (with_reducible repeat (first | apply Kd.R_alloc | apply Kd.R_drewN | apply Kd.R_drew)); exact HO136.out⟩, ⟨by repeat (first | (with_reducible first | exact HB.out | apply below_alloc | apply pw_below_drewN | apply below_drew1) | exact HB.out)⟩⟩
  case round =>
    clear H'
    try clear p2
    obtain ⟨x3_1, HA, HK1, HO_3, HB⟩ := hrel
    cases gk with
    | zero => exact absurd HA.out (by simp [vestryref06_Padding.l0])
    | succ k1 =>
      have H := HA.out
      clear HA
      simp only [vestryref06_Padding.l0] at H
      by_cases c4 : (Int.tmod (wrap64 ((wrap64 (a0 + (x3_1.length : Int))) + 8)) 64) = 0
      · rw [if_pos c4] at H
        have c4b0 : ((Int.tmod (wrap64 ((wrap64 (a0 + (x3_1.length : Int))) + 8)) 64) == 0) = true := beq_iff_eq.mpr c4
        have c4b1 : ((Int.tmod (wrap64 ((wrap64 (a0 + (x3_1.length : Int))) + 8)) 64) != 0) = false := bne_eq_false_iff_eq.mpr c4
        clear c4
        have H' := Aside0.mk H
        clear H
        obtain ⟨Ao5, co5, eo5⟩ := Kd.R_slice HO_3.out
        subst eo5
        go_wp2
        go_loopg [3, 5] k1 (fun kq v3 v5 w' => ∃ (x3_2 : List Int) (x5_2 : Int), v5 = .int .i64 x5_2 ∧ Aside0 (vestryref06_Padding.l1 kq x3_2 (IntKind.u64.wrap ((IntKind.u64.wrap (a0)) * 8)) x5_2 = some r) ∧ Aside0 (kq ≤ k1) ∧ Aside0 (Kd.R (Kd.int .u8) 5 w' w.heap.size (fun _ => True) v3 x3_2) ∧ Aside0 (Below w.heap.size w w'))
        case atStart => exact ⟨(x3_1), (7), (by first | rfl | (simp; done) | (simp [*]; done)), H', ⟨Nat.le_refl _⟩, ⟨by (with_reducible repeat (first | apply Kd.R_alloc | apply Kd.R_drewN | apply Kd.R_drew)); exact HO_3.out⟩, ⟨by repeat (first | (with_reducible first | exact HB.out | apply below_alloc | apply pw_below_drewN | apply below_drew1) | exact HB.out)⟩⟩
        case round =>
          clear H'
          try clear p2
          try clear c4
          try clear c4b0
          try clear c4b1
          try clear p2
          obtain ⟨x3_2, x5_2, rfl, HA, HK2, HO_3, HB⟩ := hrel
          cases gk with
          | zero => exact absurd HA.out (by simp [vestryref06_Padding.l1])
          | succ k2 =>
            have H := HA.out
            clear HA
            simp only [vestryref06_Padding.l1] at H
            by_cases c6 : x5_2 ≥ 0
            · rw [if_pos c6] at H
              have c6b0 : decide (0 ≤ x5_2) = true := decide_eq_true c6
              clear c6
              obtain ⟨ji7, hji7⟩ : ∃ j_ : Int, (IntKind.u64.wrap (wrap64 (8 * x5_2))) = j_ := ⟨_, rfl⟩
              replace H : (if 0 ≤ (ji7) then (if x3_2.length < 140737488355328 then (vestryref06_Padding.l1 k2 (x3_2 ++ [(shr .u64 (IntKind.u64.wrap ((IntKind.u64.wrap (a0)) * 8)) (ji7)) % 256]) (IntKind.u64.wrap ((IntKind.u64.wrap (a0)) * 8)) (wrap64 (x5_2 - 1))) else (none)) else (none)) = some r := by first | (rw [hji7] at H; exact H) | (simp only [hji7] at H ⊢; exact H)
              by_cases c8 : 0 ≤ (ji7)
              · rw [if_pos c8] at H
                have c8b0 := eq_true c8
                have c8b1 : decide (0 ≤ (ji7)) = true := decide_eq_true c8
                clear c8
                obtain ⟨ji9, hji9⟩ : ∃ j_ : Int, (shr .u64 (IntKind.u64.wrap ((IntKind.u64.wrap (a0)) * 8)) (ji7)) = j_ := ⟨_, rfl⟩
                replace H : (if x3_2.length < 140737488355328 then (vestryref06_Padding.l1 k2 (x3_2 ++ [(ji9) % 256]) (IntKind.u64.wrap ((IntKind.u64.wrap (a0)) * 8)) (wrap64 (x5_2 - 1))) else (none)) = some r := by first | (rw [hji9] at H; exact H) | (simp only [hji9] at H ⊢; exact H)
                have hji9_ : ((IntKind.u64.wrap ((IntKind.u64.wrap (a0)) * 8)) / 2 ^ min (ji7).toNat 64) = ji9 := hji9
                have hji9z : (ji7) ≤ 64 → ((IntKind.u64.wrap ((IntKind.u64.wrap (a0)) * 8)) / 2 ^ (ji7).toNat) = ji9 := shr_small hji9
                by_cases c10 : x3_2.length < 140737488355328
                · rw [if_pos c10] at H
                  have LMc10 := Aside0.mk c10
                  clear c10
                  obtain ⟨y140, hy140⟩ : ∃ y_ : List Int, y_ = (x3_2 ++ [(ji9) % 256]) := ⟨_, rfl⟩
                  replace H : (vestryref06_Padding.l1 k2 y140 (IntKind.u64.wrap ((IntKind.u64.wrap (a0)) * 8)) (wrap64 (x5_2 - 1))) = some r := by first | (rw [hy140]; with_reducible exact H) | (have H2_ := (Option.bind_some _ _).symm.trans H; rw [hy140]; with_reducible exact H2_) | (have H2_ := (Option.bind_some _ _).symm.trans H; with_reducible exact H2_) | with_reducible exact H | (rw [hy140]; exact H) | exact H
                  have Ny140 := Aside0.mk hy140
                  clear hy140
                  have H' := Aside0.mk H
                  clear H
                  go_wp2_with (first | ((with_reducible refine gate_builtin (b := .append) (xs := #[.tmp 24, .tmp 31]) rfl ?_); at_builtin; refine Kd.R_append (Kd.int .u8) (w0 := w) w.heap.size rfl (.tmp 24) (.tmp 31) 22 5 (.int .u8 0) 1 rfl Tryd.underlying22 info5 rfl (by decide) (by omega) u3 x3_2 ((ji9) % 256) [.int .u8 ((ji9) % 256)] (fun _ => True) (fun _ => False) rfl rfl ?aP (fun _ hk => hk.elim) ?aF ?aO ?aB ?aS ?aL ?_; (case aP => exact rfl); (case aB => exact (by repeat (first | (with_reducible first | exact HB.out | apply below_alloc | apply pw_below_drewN | apply below_drew1) | exact HB.out))); (case aF => exact (fun _ _ => trivial)); (case aO => exact (by (with_reducible repeat (first | apply Kd.R_alloc | apply Kd.R_drewN | apply Kd.R_drew)); exact HO_3.out)); (case aS => exact (below_size (by repeat (first | (with_reducible first | exact HB.out | apply below_alloc | apply pw_below_drewN | apply below_drew1) | exact HB.out)))); (case aL => have := LMc10.out; omega); intro v141 w11 ho hb hg hat; rw [← Ny140.out] at ho; have n0_ := Aside0.mk (hb); have n1_ := Aside0.mk (ho); clear HB; clear HO_3; have HB := n0_; have HO142 := n1_; clear n0_ n1_; clear ho hb hg hat))
                  go_roundg k2
                  case measure => have := HK1.out; have := HK2.out; omega
                  case rel => exact ⟨(y140), (wrap64 (x5_2 - 1)), (by first | rfl | (simp; done) | (simp [*]; done)), H', ⟨by have := HK1.out; have := HK2.out; omega⟩, ⟨by (with_reducible repeat (first | apply Kd.R_alloc | apply Kd.R_drewN | apply Kd.R_drew)); exact HO142.out⟩, ⟨by repeat (first | (with_reducible first | exact HB.out | apply below_alloc | apply pw_below_drewN | apply below_drew1) | exact HB.out)⟩⟩
                · rw [if_neg c10] at H
                  exact absurd H (by simp)
              · rw [if_neg c8] at H
                exact absurd H (by simp)
            · rw [if_neg c6] at H
              have c6b0 : decide (0 ≤ x5_2) = false := decide_eq_false c6
              clear c6
              obtain rfl := Option.some.inj H
              go_wp2
              go_ret
              exact ⟨_, by first | rfl | (simp [errW_none, errW_some] <;> rfl) | (simp [*, errW_none, errW_some] <;> rfl), by (with_reducible repeat (first | apply Kd.R_alloc | apply Kd.R_drewN | apply Kd.R_drew)); exact HO_3.out, by repeat (first | (with_reducible first | exact HB.out | apply below_alloc | apply pw_below_drewN | apply below_drew1) | exact HB.out)⟩
      · rw [if_neg c4] at H
        have c4b0 : ((Int.tmod (wrap64 ((wrap64 (a0 + (x3_1.length : Int))) + 8)) 64) == 0) = false := beq_eq_false_iff_ne.mpr c4
        have c4b1 : ((Int.tmod (wrap64 ((wrap64 (a0 + (x3_1.length : Int))) + 8)) 64) != 0) = true := bne_iff_ne.mpr c4
        by_cases c12 : x3_1.length < 140737488355328
        · rw [if_pos c12] at H
          have LMc12 := Aside0.mk c12
          clear c12
          obtain ⟨y137, hy137⟩ : ∃ y_ : List Int, y_ = (x3_1 ++ [0]) := ⟨_, rfl⟩
          replace H : (vestryref06_Padding.l0 k1 a0 y137) = some r := by first | (rw [hy137]; with_reducible exact H) | (have H2_ := (Option.bind_some _ _).symm.trans H; rw [hy137]; with_reducible exact H2_) | (have H2_ := (Option.bind_some _ _).symm.trans H; with_reducible exact H2_) | with_reducible exact H | (rw [hy137]; exact H) | exact H
          have Ny137 := Aside0.mk hy137
          clear hy137
          have H' := Aside0.mk H
          clear H
          obtain ⟨Ao13, co13, eo13⟩ := Kd.R_slice HO_3.out
          subst eo13
          go_wp2_with (first | ((with_reducible refine gate_builtin (b := .append) (xs := #[.tmp 14, .tmp 15]) rfl ?_); at_builtin; refine Kd.R_append (Kd.int .u8) (w0 := w) w.heap.size rfl (.tmp 14) (.tmp 15) 22 5 (.int .u8 0) 1 rfl Tryd.underlying22 info5 rfl (by decide) (by omega) (.slice Ao13 x3_1.length co13) x3_1 0 [.int .u8 0] (fun _ => True) (fun _ => False) rfl rfl ?aP (fun _ hk => hk.elim) ?aF ?aO ?aB ?aS ?aL ?_; (case aP => exact rfl); (case aB => exact (by repeat (first | (with_reducible first | exact HB.out | apply below_alloc | apply pw_below_drewN | apply below_drew1) | exact HB.out))); (case aF => exact (fun _ _ => trivial)); (case aO => exact (by (with_reducible repeat (first | apply Kd.R_alloc | apply Kd.R_drewN | apply Kd.R_drew)); exact HO_3.out)); (case aS => exact (below_size (by repeat (first | (with_reducible first | exact HB.out | apply below_alloc | apply pw_below_drewN | apply below_drew1) | exact HB.out)))); (case aL => have := LMc12.out; omega); intro v138 w14 ho hb hg hat; rw [← Ny137.out] at ho; have n0_ := Aside0.mk (hb); have n1_ := Aside0.mk (ho); clear HB; clear HO_3; have HB := n0_; have HO139 := n1_; clear n0_ n1_; clear ho hb hg hat))
          go_roundg k1
          case measure => have := HK1.out; omega
          case rel => exact ⟨(y137), H', ⟨by have := HK1.out; omega⟩, ⟨by (with_reducible repeat (first | apply Kd.R_alloc | apply Kd.R_drewN | apply Kd.R_drew)); exact HO139.out⟩, ⟨by repeat (first | (with_reducible first | exact HB.out | apply below_alloc | apply pw_below_drewN | apply below_drew1) | exact HB.out)⟩⟩
        · rw [if_neg c12] at H
          exact absurd H (by simp)

-- NOT PRINTED: function 73 (vestryref06_Start)

-- NOT PRINTED: function 74 (vestryref06_Table)


/-! ### sha_Padding: function 64 -/
def sha_Padding.l0 : Nat → Int → Int → List Int → Int → Option (List Int)
  | 0, _, _, _, _ => none
  | k + 1, x0, x3, x4, x16 => if x16 < 8 then (if 0 ≤ (wrap64 (56 - (wrap64 (8 * x16)))) then (if 0 ≤ (wrap64 ((wrap64 (1 + x3)) + x16)) then (if (wrap64 ((wrap64 (1 + x3)) + x16)) < (x4.length : Int) then (sha_Padding.l0 k x0 x3 (x4.set ((wrap64 ((wrap64 (1 + x3)) + x16)) : Int).toNat ((shr .i64 (wrap64 (x0 * 8)) (wrap64 (56 - (wrap64 (8 * x16))))) % 256)) (wrap64 (x16 + 1))) else (none)) else (none)) else (none)) else (some x4)
def sha_Padding.f (k : Nat) (a0 : Int) : Option (List Int) := if 0 ≤ (wrap64 ((wrap64 (1 + (Int.tmod (wrap64 (119 - (Int.tmod a0 64))) 64))) + 8)) then (if (wrap64 ((wrap64 (1 + (Int.tmod (wrap64 (119 - (Int.tmod a0 64))) 64))) + 8) : Int).toNat ≤ 281474976710656 then ((some (List.replicate (wrap64 ((wrap64 (1 + (Int.tmod (wrap64 (119 - (Int.tmod a0 64))) 64))) + 8) : Int).toNat 0 : List Int)).bind fun y108 => (if 0 < (y108.length : Int) then (sha_Padding.l0 k a0 (Int.tmod (wrap64 (119 - (Int.tmod a0 64))) 64) (y108.set (0 : Int).toNat 128) 0) else (none))) else (none)) else (none)
theorem sha_Padding.mono_l : ∀ k, (∀ y0 y1 y2 y3, LeO (sha_Padding.l0 k y0 y1 y2 y3) (sha_Padding.l0 (k + 1) y0 y1 y2 y3))
  | 0 => fun _ _ _ _ r h => by simp [sha_Padding.l0] at h
  | k + 1 => by
    have ih0 := sha_Padding.mono_l k
    · intro y0 y1 y2 y3
      unfold sha_Padding.l0
      repeat' first
      | (with_reducible exact ih0 _ _ _ _)
      | (with_reducible exact LeO.refl _)
      | (with_reducible exact LeO.none _)
      | (with_reducible refine LeO.ite ?_ ?_)
      | (with_reducible refine LeO.bind ?_ (fun _ => ?_))
      | exact ih0 _ _ _ _
      | exact LeO.none _
      | refine LeO.ite ?_ ?_
      | refine LeO.bind ?_ (fun _ => ?_)
theorem sha_Padding.mono : ∀ a0 k, LeO (sha_Padding.f k a0) (sha_Padding.f (k + 1) a0) := by
  intro a0 k
  have ih0 := sha_Padding.mono_l k
  unfold sha_Padding.f
  repeat' first
      | (with_reducible exact ih0 _ _ _ _)
      | (with_reducible exact LeO.refl _)
      | (with_reducible exact LeO.none _)
      | (with_reducible refine LeO.ite ?_ ?_)
      | (with_reducible refine LeO.bind ?_ (fun _ => ?_))
      | exact ih0 _ _ _ _
      | exact LeO.none _
      | refine LeO.ite ?_ ?_
      | refine LeO.bind ?_ (fun _ => ?_)
set_option maxHeartbeats 8000000 in
set_option maxRecDepth 100000 in
theorem sha_Padding.calls (k : Nat) (a0 : Int) (r : List Int) (w : World) (h : sha_Padding.f k a0 = some r) :
    Calls Tryd.prog 64 #[.int .i64 a0] w fun e w' => ∃ v0_ : Value, e = .returned (v0_) ∧ Kd.R (Kd.int .u8) 5 w' w.heap.size (fun _ => True) v0_ r ∧ Below w.heap.size w w' := by
  have HB := Aside0.mk (Below.refl w.heap.size w)
  have H : (if 0 ≤ (wrap64 ((wrap64 (1 + (Int.tmod (wrap64 (119 - (Int.tmod a0 64))) 64))) + 8)) then (if (wrap64 ((wrap64 (1 + (Int.tmod (wrap64 (119 - (Int.tmod a0 64))) 64))) + 8) : Int).toNat ≤ 281474976710656 then ((some (List.replicate (wrap64 ((wrap64 (1 + (Int.tmod (wrap64 (119 - (Int.tmod a0 64))) 64))) + 8) : Int).toNat 0 : List Int)).bind fun y108 => (if 0 < (y108.length : Int) then (sha_Padding.l0 k a0 (Int.tmod (wrap64 (119 - (Int.tmod a0 64))) 64) (y108.set (0 : Int).toNat 128) 0) else (none))) else (none)) else (none)) = some r := h
  clear h
  obtain ⟨ji2, hji2⟩ : ∃ j_ : Int, (wrap64 ((wrap64 (1 + (Int.tmod (wrap64 (119 - (Int.tmod a0 64))) 64))) + 8)) = j_ := ⟨_, rfl⟩
  replace H : (if 0 ≤ (ji2) then (if (ji2 : Int).toNat ≤ 281474976710656 then ((some (List.replicate (ji2 : Int).toNat 0 : List Int)).bind fun y108 => (if 0 < (y108.length : Int) then (sha_Padding.l0 k a0 (Int.tmod (wrap64 (119 - (Int.tmod a0 64))) 64) (y108.set (0 : Int).toNat 128) 0) else (none))) else (none)) else (none)) = some r := by first | (rw [hji2] at H; exact H) | (simp only [hji2] at H ⊢; exact H)
  have hji2w : (IntKind.i64.wrap ((wrap64 (1 + (Int.tmod (wrap64 (119 - (Int.tmod a0 64))) 64))) + 8)) = ji2 := (i64_w _).trans hji2
  by_cases c3 : 0 ≤ (ji2)
  · rw [if_pos c3] at H
    have c3b0 := eq_true c3
    have c3b1 : decide (0 ≤ (ji2)) = true := decide_eq_true c3
    clear c3
    by_cases c4 : (ji2 : Int).toNat ≤ 281474976710656
    · rw [if_pos c4] at H
      have c4b0 := eq_true c4
      have c4b1 : decide ((ji2 : Int).toNat ≤ 281474976710656) = true := decide_eq_true c4
      clear c4
      obtain ⟨y108, hy108⟩ : ∃ y_ : List Int, y_ = (List.replicate (ji2 : Int).toNat 0) := ⟨_, rfl⟩
      replace H : (if 0 < (y108.length : Int) then (sha_Padding.l0 k a0 (Int.tmod (wrap64 (119 - (Int.tmod a0 64))) 64) (y108.set (0 : Int).toNat 128) 0) else (none)) = some r := by first | (rw [hy108]; with_reducible exact H) | (have H2_ := (Option.bind_some _ _).symm.trans H; rw [hy108]; with_reducible exact H2_) | (have H2_ := (Option.bind_some _ _).symm.trans H; with_reducible exact H2_) | with_reducible exact H | (rw [hy108]; exact H) | exact H
      have Ny108 := Aside0.mk hy108
      clear hy108
      by_cases c5 : 0 < (y108.length : Int)
      · rw [if_pos c5] at H
        have c5b0 : decide (0 < (y108.length : Int)) = true := decide_eq_true c5
        have c5b1 : decide (0 < y108.length) = true := decide_eq_true (by omega)
        clear c5
        obtain ⟨y111, hy111⟩ : ∃ y_ : List Int, y_ = (y108.set (0 : Int).toNat 128) := ⟨_, rfl⟩
        replace H : (sha_Padding.l0 k a0 (Int.tmod (wrap64 (119 - (Int.tmod a0 64))) 64) y111 0) = some r := by first | (rw [hy111]; with_reducible exact H) | (have H2_ := (Option.bind_some _ _).symm.trans H; rw [hy111]; with_reducible exact H2_) | (have H2_ := (Option.bind_some _ _).symm.trans H; with_reducible exact H2_) | with_reducible exact H | (rw [hy111]; exact H) | exact H
        have Ny111 := Aside0.mk hy111
        clear hy111
        have H' := Aside0.mk H
        clear H
        go_enter Tryd.func64, Tryd.ntmps64
        go_wp2_with (first | ((with_reducible refine gate_dst (N := 13) rfl ?_); refine Kd.R_make (Kd.int .u8) _ 5 rfl (N := 13) rfl 22 _ _ rfl ji2 rfl rfl Tryd.underlying22 (.int .u8 0) 1 info5 rfl (by decide) (by omega) 0 (ok := fun _ => True) (okp := fun _ => True) rfl (fun _ hk => hk) trivial (of_decide_eq_true (by first | (with_reducible assumption) | assumption)) (Nat.le_trans (Nat.mul_le_mul_right _ (of_decide_eq_true (by first | (with_reducible assumption) | assumption) : ji2.toNat ≤ 281474976710656)) (by omega)) (Below.refl _ _) (Nat.le_refl _) ?_; intro v109 w7 ho8 hb hg_ hnew_; clear hg_ hnew_; (first | rw [← Ny108.out] at ho8 | (simp only [Int.reduceToNat] at ho8; rw [← Ny108.out] at ho8)); have n0_ := Aside0.mk (Kd.R_lower ho8 (below_size (by repeat (first | (with_reducible first | exact HB.out | apply below_alloc | apply pw_below_drewN | apply below_drew1) | exact HB.out)))); have n1_ := Aside0.mk (below_step (by repeat (first | (with_reducible first | exact HB.out | apply below_alloc | apply pw_below_drewN | apply below_drew1) | exact HB.out)) hb); clear HB; have HO110 := n0_; have HB := n1_; clear n0_ n1_; clear hb ho8; have p6 : 0 ≤ (0 : Int) := (by omega); have q6 : (0 : Int) < ((y108.length : Int) : Int) := of_decide_eq_true (by first | (with_reducible assumption) | assumption); have qi6 : (0 < y108.length) = True := eq_true (by omega); obtain ⟨go6, co6, eo6, gb6, gl6, cl6, HG6⟩ := Kd.R_form HO110.out (by omega); (first | cases eo6 | (injection eo6 with ea_ en_ ec_; (first | subst ea_ | (injection ea_ with ea_; subst ea_)); subst ec_; clear en_)); have GB6 := Aside0.mk gb6; have GG6 := Aside0.mk HG6; clear gb6 gl6 HG6; obtain ⟨hx6_0, hf6_0⟩ := Kd.R_celln 0 HO110.out (0 : Int) p6 q6; (try rw [show ((0 : Int)).toNat = 0 from rfl] at hx6_0); (try simp only [Nat.reduceMul, Nat.zero_mul, Nat.zero_add, Nat.reduceAdd] at hx6_0); (try rw [show ((0 : Int)).toNat = 0 from rfl] at hf6_0); (try simp only [Nat.reduceMul, Nat.zero_mul, Nat.zero_add, Nat.reduceAdd] at hf6_0); replace p6 := eq_true p6; replace q6 := eq_true q6; obtain ⟨hy9_, hz9_⟩ := Kd.R_celln 0 HO110.out (0 : Int) (by omega) (of_decide_eq_true (by first | (with_reducible assumption) | assumption)); (try simp only [Int.reduceToNat, Int.toNat_zero, Int.toNat_ofNat, Nat.reduceMul, Nat.zero_mul, Nat.zero_add] at hy9_ hz9_); (try rw [show ((0 : Int)).toNat = 0 from rfl] at hy9_); (try rw [show ((0 : Int)).toNat = 0 from rfl] at hz9_); have HP9 := Kd.R_putg HO110.out (0 : Int) 128) | ((with_reducible refine gate_store (t := 5) (p := 15) rfl ?_); refine store_event (t := 5) (p := 15) (v := ?vo_w10) (w1 := (w7.setCell ⟨go6, (0 : Int).toNat, none⟩ (.int .u8 128))) ?hg ?ho ?hn ?hr ?_; (case ho => rfl); (case hg => rfl); (case hn => rfl); (case hr => first | (go_simp; done) | (go_simp; rfl)); intro w10 hw; have hg : w7.grownBy w10 (some go6) := (by rw [hw]; exact HP9.2); have hp_ : Kd.R (Kd.int .u8) 5 w10 w.heap.size (fun _ => True) (.slice (some ⟨go6, 0, none⟩) y108.length co6) y111 := (by rw [hw, Ny111.out]; exact HP9.1); clear HP9; have n0_ := Aside0.mk (hp_); have n1_ := Aside0.mk ((by rw [hw]; exact below_set (HB.out) GB6.out : Below w.heap.size w w10)); clear HO110; clear HB; have HO110 := n0_; have HB := n1_; clear n0_ n1_; clear hg hw hp_))
        go_loopg [16] k (fun kq v16 w' => ∃ (x4_1 : List Int) (x16_1 : Int), v16 = .int .i64 x16_1 ∧ Aside0 (sha_Padding.l0 kq a0 (Int.tmod (wrap64 (119 - (Int.tmod a0 64))) 64) x4_1 x16_1 = some r) ∧ Aside0 (kq ≤ k) ∧ Aside0 (Kd.R (Kd.int .u8) 5 w' w.heap.size (fun _ => True) (.slice (some ⟨go6, 0, none⟩) y108.length co6) x4_1) ∧ Aside0 (Below w.heap.size w w'))
        case atStart => exact ⟨(y111), (0), (by first | rfl | (simp; done) | (simp [*]; done)), H', ⟨Nat.le_refl _⟩, ⟨by (with_reducible repeat (first | apply Kd.R_alloc | apply Kd.R_drewN | apply Kd.R_drew)); exact HO110.out⟩, ⟨by repeat (first | (with_reducible first | exact HB.out | apply below_alloc | apply pw_below_drewN | apply below_drew1) | exact HB.out)⟩⟩
        case round =>
          clear H'
          try clear p2
          try clear c3
          try clear c3b0
          try clear c3b1
          try clear c4
          try clear c4b0
          try clear c4b1
          try clear c5
          try clear c5b0
          try clear c5b1
          try clear c6
          try clear p6
          try clear q6
          try clear hx6
          try clear qi6
          try clear hf6
          try clear hx6_0
          try clear p6
          try clear q6
          obtain ⟨x4_1, x16_1, rfl, HA, HK1, HO_4, HB⟩ := hrel
          have hl4_1 := (Kd.R_reads' HO_4.out).1
          rw [hl4_1] at HO_4
          (try simp only [hl4_1])
          cases gk with
          | zero => exact absurd HA.out (by simp [sha_Padding.l0])
          | succ k1 =>
            have H := HA.out
            clear HA
            simp only [sha_Padding.l0] at H
            by_cases c11 : x16_1 < 8
            · rw [if_pos c11] at H
              have c11b0 : decide (x16_1 < 8) = true := decide_eq_true c11
              clear c11
              obtain ⟨ji12, hji12⟩ : ∃ j_ : Int, (wrap64 (56 - (wrap64 (8 * x16_1)))) = j_ := ⟨_, rfl⟩
              replace H : (if 0 ≤ (ji12) then (if 0 ≤ (wrap64 ((wrap64 (1 + (Int.tmod (wrap64 (119 - (Int.tmod a0 64))) 64))) + x16_1)) then (if (wrap64 ((wrap64 (1 + (Int.tmod (wrap64 (119 - (Int.tmod a0 64))) 64))) + x16_1)) < (x4_1.length : Int) then (sha_Padding.l0 k1 a0 (Int.tmod (wrap64 (119 - (Int.tmod a0 64))) 64) (x4_1.set ((wrap64 ((wrap64 (1 + (Int.tmod (wrap64 (119 - (Int.tmod a0 64))) 64))) + x16_1)) : Int).toNat ((shr .i64 (wrap64 (a0 * 8)) (ji12)) % 256)) (wrap64 (x16_1 + 1))) else (none)) else (none)) else (none)) = some r := by first | (rw [hji12] at H; exact H) | (simp only [hji12] at H ⊢; exact H)
              have hji12w : (IntKind.i64.wrap (56 - (wrap64 (8 * x16_1)))) = ji12 := (i64_w _).trans hji12
              by_cases c13 : 0 ≤ (ji12)
              · rw [if_pos c13] at H
                have c13b0 := eq_true c13
                have c13b1 : decide (0 ≤ (ji12)) = true := decide_eq_true c13
                clear c13
                obtain ⟨ji14, hji14⟩ : ∃ j_ : Int, (shr .i64 (wrap64 (a0 * 8)) (ji12)) = j_ := ⟨_, rfl⟩
                replace H : (if 0 ≤ (wrap64 ((wrap64 (1 + (Int.tmod (wrap64 (119 - (Int.tmod a0 64))) 64))) + x16_1)) then (if (wrap64 ((wrap64 (1 + (Int.tmod (wrap64 (119 - (Int.tmod a0 64))) 64))) + x16_1)) < (x4_1.length : Int) then (sha_Padding.l0 k1 a0 (Int.tmod (wrap64 (119 - (Int.tmod a0 64))) 64) (x4_1.set ((wrap64 ((wrap64 (1 + (Int.tmod (wrap64 (119 - (Int.tmod a0 64))) 64))) + x16_1)) : Int).toNat ((ji14) % 256)) (wrap64 (x16_1 + 1))) else (none)) else (none)) = some r := by first | (rw [hji14] at H; exact H) | (simp only [hji14] at H ⊢; exact H)
                have hji14_ : ((wrap64 (a0 * 8)) / 2 ^ min (ji12).toNat 64) = ji14 := hji14
                have hji14z : (ji12) ≤ 64 → ((wrap64 (a0 * 8)) / 2 ^ (ji12).toNat) = ji14 := shr_small hji14
                obtain ⟨ji15, hji15⟩ : ∃ j_ : Int, (wrap64 ((wrap64 (1 + (Int.tmod (wrap64 (119 - (Int.tmod a0 64))) 64))) + x16_1)) = j_ := ⟨_, rfl⟩
                replace H : (if 0 ≤ (ji15) then (if (ji15) < (x4_1.length : Int) then (sha_Padding.l0 k1 a0 (Int.tmod (wrap64 (119 - (Int.tmod a0 64))) 64) (x4_1.set ((ji15) : Int).toNat ((ji14) % 256)) (wrap64 (x16_1 + 1))) else (none)) else (none)) = some r := by first | (rw [hji15] at H; exact H) | (simp only [hji15] at H ⊢; exact H)
                have hji15w : (IntKind.i64.wrap ((wrap64 (1 + (Int.tmod (wrap64 (119 - (Int.tmod a0 64))) 64))) + x16_1)) = ji15 := (i64_w _).trans hji15
                by_cases c16 : 0 ≤ (ji15)
                · rw [if_pos c16] at H
                  have c16b0 : decide (0 ≤ (ji15)) = true := decide_eq_true c16
                  clear c16
                  by_cases c17 : (ji15) < (x4_1.length : Int)
                  · rw [if_pos c17] at H
                    have c17b0 : decide ((ji15) < (x4_1.length : Int)) = true := decide_eq_true c17
                    clear c17
                    obtain ⟨y112, hy112⟩ : ∃ y_ : List Int, y_ = (x4_1.set ((ji15) : Int).toNat ((ji14) % 256)) := ⟨_, rfl⟩
                    replace H : (sha_Padding.l0 k1 a0 (Int.tmod (wrap64 (119 - (Int.tmod a0 64))) 64) y112 (wrap64 (x16_1 + 1))) = some r := by first | (rw [hy112]; with_reducible exact H) | (have H2_ := (Option.bind_some _ _).symm.trans H; rw [hy112]; with_reducible exact H2_) | (have H2_ := (Option.bind_some _ _).symm.trans H; with_reducible exact H2_) | with_reducible exact H | (rw [hy112]; exact H) | exact H
                    have Ny112 := Aside0.mk hy112
                    clear hy112
                    have H' := Aside0.mk H
                    clear H
                    have p18 : 0 ≤ ((ji15) : Int) := of_decide_eq_true (by first | (with_reducible assumption) | assumption)
                    have q18 : ((ji15) : Int) < ((x4_1.length : Int) : Int) := of_decide_eq_true (by first | (with_reducible assumption) | assumption)
                    obtain ⟨hx18_0, hf18_0⟩ := Kd.R_celln 0 HO_4.out ((ji15) : Int) p18 q18
                    replace p18 := eq_true p18
                    replace q18 := eq_true q18
                    have HP19 := Kd.R_putg HO_4.out ((ji15) : Int) ((ji14) % 256)
                    go_wp2_with (first | ((with_reducible refine gate_store (t := 5) (p := 31) rfl ?_); refine store_event (t := 5) (p := 31) (v := ?vo_w20) (w1 := (wr.setCell ⟨go6, ((ji15) : Int).toNat, none⟩ (.int .u8 ((ji14) % 256)))) ?hg ?ho ?hn ?hr ?_; (case ho => rfl); (case hg => rfl); (case hn => rfl); (case hr => first | (go_simp; done) | (go_simp; rfl)); intro w20 hw; have hg : wr.grownBy w20 (some go6) := (by rw [hw]; exact HP19.2); have hp_ : Kd.R (Kd.int .u8) 5 w20 w.heap.size (fun _ => True) (.slice (some ⟨go6, 0, none⟩) x4_1.length co6) y112 := (by rw [hw, Ny112.out]; exact HP19.1); clear HP19; have n0_ := Aside0.mk (hp_); have n1_ := Aside0.mk ((by rw [hw]; exact below_set (HB.out) GB6.out : Below w.heap.size w w20)); clear HO_4; clear HB; have HO_4 := n0_; have HB := n1_; clear n0_ n1_; clear hg hw hp_))
                    (try simp only [← hl4_1])
                    go_roundg k1
                    case measure => have := HK1.out; omega
                    case rel => exact ⟨(y112), (wrap64 (x16_1 + 1)), (by first | rfl | (simp; done) | (simp [*]; done)), H', ⟨by have := HK1.out; omega⟩, ⟨by (try simp only [hl4_1]); (with_reducible repeat (first | apply Kd.R_alloc | apply Kd.R_drewN | apply Kd.R_drew)); exact HO_4.out⟩, ⟨by repeat (first | (with_reducible first | exact HB.out | apply below_alloc | apply pw_below_drewN | apply below_drew1) | exact HB.out)⟩⟩
                  · rw [if_neg c17] at H
                    exact absurd H (by simp)
                · rw [if_neg c16] at H
                  exact absurd H (by simp)
              · rw [if_neg c13] at H
                exact absurd H (by simp)
            · rw [if_neg c11] at H
              have c11b0 : decide (x16_1 < 8) = false := decide_eq_false c11
              clear c11
              obtain rfl := Option.some.inj H
              go_wp2
              go_ret
              exact ⟨_, by first | rfl | (simp [errW_none, errW_some] <;> rfl) | (simp only [← hji2]; first | rfl | (simp [errW_none, errW_some] <;> rfl)) | (simp [*, errW_none, errW_some] <;> rfl), by (with_reducible repeat (first | apply Kd.R_alloc | apply Kd.R_drewN | apply Kd.R_drew)); exact HO_4.out, by repeat (first | (with_reducible first | exact HB.out | apply below_alloc | apply pw_below_drewN | apply below_drew1) | exact HB.out)⟩
      · rw [if_neg c5] at H
        exact absurd H (by simp)
    · rw [if_neg c4] at H
      exact absurd H (by simp)
  · rw [if_neg c3] at H
    exact absurd H (by simp)

-- NOT PRINTED: function 45 (sha_Sum)

-- NOT PRINTED: function 65 (slices_Grow_byte_byte_65)

-- NOT PRINTED: function 47 (slices_Concat_byte_byte_47)

-- NOT PRINTED: function 25 (mac_Sum)

-- NOT PRINTED: function 48 (base_regroup)

-- NOT PRINTED: function 51 (strings_Builder_String)

-- NOT PRINTED: function 26 (base_Encode)

-- NOT PRINTED: function 10 (zookie_Mint)

-- NOT PRINTED: function 52 (slices_Clone_byte_byte)

-- NOT PRINTED: function 27 (wire_New)

-- NOT PRINTED: function 53 (wire_Cursor_Left)

-- NOT PRINTED: function 30 (wire_Cursor_Take)

-- NOT PRINTED: function 31 (wire_Cursor_Number)

-- NOT PRINTED: function 32 (wire_Cursor_At)

-- NOT PRINTED: function 33 (wire_Cursor_End)

-- NOT PRINTED: function 12 (zookie_Parse)

-- NOT PRINTED: function 84 (bytealg_IndexByteString)

-- NOT PRINTED: function 78 (stringslite_IndexByte)

-- NOT PRINTED: function 67 (strings_IndexByte)

-- NOT PRINTED: function 54 (base_Value)

-- NOT PRINTED: function 34 (base_Decode)

-- NOT PRINTED: function 35 (fault_New)


/-! ### mac_Equal: function 36 -/
def mac_Equal.l0 : Nat → List Int → List Int → Int → Int → Int → Option (Bool)
  | 0, _, _, _, _, _ => none
  | k + 1, x0, x1, x5, x13, x14 => if x14 < x13 then (if 0 ≤ x14 then (if x14 < (x0.length : Int) then (if x14 < (x1.length : Int) then (mac_Equal.l0 k x0 x1 (Go.bits .or .u8 x5 (Go.bits .xor .u8 (rd x0 x14) (rd x1 x14))) x13 (wrap64 (x14 + 1))) else (none)) else (none)) else (none)) else (some (x5 == 0))
def mac_Equal.f (k : Nat) (l0 : List Int) (l1 : List Int) : Option (Bool) := if (l0.length : Int) = (l1.length : Int) then (mac_Equal.l0 k l0 l1 0 (l0.length : Int) 0) else (some false)
theorem mac_Equal.mono_l : ∀ k, (∀ y0 y1 y2 y3 y4, LeO (mac_Equal.l0 k y0 y1 y2 y3 y4) (mac_Equal.l0 (k + 1) y0 y1 y2 y3 y4))
  | 0 => fun _ _ _ _ _ r h => by simp [mac_Equal.l0] at h
  | k + 1 => by
    have ih0 := mac_Equal.mono_l k
    · intro y0 y1 y2 y3 y4
      unfold mac_Equal.l0
      repeat' first
      | (with_reducible exact ih0 _ _ _ _ _)
      | (with_reducible exact LeO.refl _)
      | (with_reducible exact LeO.none _)
      | (with_reducible refine LeO.ite ?_ ?_)
      | (with_reducible refine LeO.bind ?_ (fun _ => ?_))
      | exact ih0 _ _ _ _ _
      | exact LeO.none _
      | refine LeO.ite ?_ ?_
      | refine LeO.bind ?_ (fun _ => ?_)
theorem mac_Equal.mono : ∀ a0 a1 k, LeO (mac_Equal.f k a0 a1) (mac_Equal.f (k + 1) a0 a1) := by
  intro a0 a1 k
  have ih0 := mac_Equal.mono_l k
  unfold mac_Equal.f
  repeat' first
      | (with_reducible exact ih0 _ _ _ _ _)
      | (with_reducible exact LeO.refl _)
      | (with_reducible exact LeO.none _)
      | (with_reducible refine LeO.ite ?_ ?_)
      | (with_reducible refine LeO.bind ?_ (fun _ => ?_))
      | exact ih0 _ _ _ _ _
      | exact LeO.none _
      | refine LeO.ite ?_ ?_
      | refine LeO.bind ?_ (fun _ => ?_)
set_option maxHeartbeats 8000000 in
set_option maxRecDepth 100000 in
theorem mac_Equal.calls (k : Nat) (A0 : Option Addr) (c0 : Nat) (l0 : List Int) (A1 : Option Addr) (c1 : Nat) (l1 : List Int) (r : Bool) (w : World) (hr0 : Kd.C (Kd.int .u8) w A0 l0.length l0) (hc0 : l0.length ≤ c0) (hr1 : Kd.C (Kd.int .u8) w A1 l1.length l1) (hc1 : l1.length ≤ c1) (h : mac_Equal.f k l0 l1 = some r) :
    Calls Tryd.prog 36 #[.slice A0 l0.length c0, .slice A1 l1.length c1] w fun e w' => e = .returned (.bool r) ∧ Drawn0 w w' := by
  have HR0 := Aside0.mk hr0
  have HC0 := Aside0.mk hc0
  clear hr0 hc0
  have HR1 := Aside0.mk hr1
  have HC1 := Aside0.mk hc1
  clear hr1 hc1
  have H : (if (l0.length : Int) = (l1.length : Int) then (mac_Equal.l0 k l0 l1 0 (l0.length : Int) 0) else (some false)) = some r := h
  clear h
  by_cases c3 : (l0.length : Int) = (l1.length : Int)
  · rw [if_pos c3] at H
    have c3b0 : ((l0.length : Int) == (l1.length : Int)) = true := beq_iff_eq.mpr c3
    have c3b1 : ((l0.length : Int) != (l1.length : Int)) = false := bne_eq_false_iff_eq.mpr c3
    have c3b2 : (l0.length == l1.length) = true := by first | simpa using c3 | (simp at c3 ⊢; omega)
    clear c3
    have H' := Aside0.mk H
    clear H
    go_enter Tryd.func36, Tryd.ntmps36
    go_wp2
    repeat (go_quiet (fail); try go_wp2)
    go_loopg [5, 14] k (fun kq v5 v14 w' => ∃ (x5_1 : Int) (x14_1 : Int), v5 = .int .u8 x5_1 ∧ v14 = .int .i64 x14_1 ∧ Aside0 (mac_Equal.l0 kq l0 l1 x5_1 (l0.length : Int) x14_1 = some r) ∧ Aside0 (kq ≤ k) ∧ Drawn0 w w')
    case atStart => exact ⟨(0), (0), (by first | rfl | (simp; done) | (simp [*]; done)), (by first | rfl | (simp; done) | (simp [*]; done)), H', ⟨Nat.le_refl _⟩, by repeat (first | exact Drawn0.refl _ | apply Drawn0.step)⟩
    case round =>
      clear H'
      try clear c1
      try clear p2
      try clear c3
      try clear c3b0
      try clear c3b1
      try clear c3b2
      obtain ⟨x5_1, x14_1, rfl, rfl, HA, HK1, ⟨m1, rfl⟩⟩ := hrel
      cases gk with
      | zero => exact absurd HA.out (by simp [mac_Equal.l0])
      | succ k1 =>
        have H := HA.out
        clear HA
        simp only [mac_Equal.l0] at H
        by_cases c4 : x14_1 < (l0.length : Int)
        · rw [if_pos c4] at H
          have c4b0 : decide (x14_1 < (l0.length : Int)) = true := decide_eq_true c4
          clear c4
          by_cases c5 : 0 ≤ x14_1
          · rw [if_pos c5] at H
            have c5b0 : decide (0 ≤ x14_1) = true := decide_eq_true c5
            clear c5
            by_cases c6 : x14_1 < (l0.length : Int)
            · rw [if_pos c6] at H
              have c6b0 : decide (x14_1 < (l0.length : Int)) = true := decide_eq_true c6
              clear c6
              by_cases c7 : x14_1 < (l1.length : Int)
              · rw [if_pos c7] at H
                have c7b0 : decide (x14_1 < (l1.length : Int)) = true := decide_eq_true c7
                clear c7
                have H' := Aside0.mk H
                clear H
                have p122 : 0 ≤ (x14_1 : Int) := of_decide_eq_true (by first | (with_reducible assumption) | assumption)
                have q122 : x14_1 < (l0.length : Int) := of_decide_eq_true (by first | (with_reducible assumption) | assumption)
                obtain ⟨ad122, e122, hx122_0⟩ := Kd.at_int HR0.out x14_1 p122 q122
                cases e122
                replace p122 := eq_true p122
                replace q122 := eq_true q122
                have p123 : 0 ≤ (x14_1 : Int) := of_decide_eq_true (by first | (with_reducible assumption) | assumption)
                have q123 : x14_1 < (l1.length : Int) := of_decide_eq_true (by first | (with_reducible assumption) | assumption)
                obtain ⟨ad123, e123, hx123_0⟩ := Kd.at_int HR1.out x14_1 p123 q123
                cases e123
                replace p123 := eq_true p123
                replace q123 := eq_true q123
                go_wp2
                repeat (go_quiet (fail); try go_wp2)
                go_roundg k1
                case measure => have := HK1.out; omega
                case rel => exact ⟨(Go.bits .or .u8 x5_1 (Go.bits .xor .u8 (rd l0 x14_1) (rd l1 x14_1))), (wrap64 (x14_1 + 1)), (by first | rfl | (simp; done) | (simp [*]; done)), (by first | rfl | (simp; done) | (simp [*]; done)), H', ⟨by have := HK1.out; omega⟩, by repeat (first | exact Drawn0.refl _ | apply Drawn0.step)⟩
              · rw [if_neg c7] at H
                exact absurd H (by simp)
            · rw [if_neg c6] at H
              exact absurd H (by simp)
          · rw [if_neg c5] at H
            exact absurd H (by simp)
        · rw [if_neg c4] at H
          have c4b0 : decide (x14_1 < (l0.length : Int)) = false := decide_eq_false c4
          clear c4
          obtain rfl := Option.some.inj H
          go_wp2
          repeat (go_quiet (fail); try go_wp2)
          go_ret
          exact ⟨by first | rfl | (simp; done) | (simp [*]; done), by repeat (first | exact Drawn0.refl _ | apply Drawn0.step)⟩
  · rw [if_neg c3] at H
    have c3b0 : ((l0.length : Int) == (l1.length : Int)) = false := beq_eq_false_iff_ne.mpr c3
    have c3b1 : ((l0.length : Int) != (l1.length : Int)) = true := bne_iff_ne.mpr c3
    have c3b2 : (l0.length == l1.length) = false := by first | simpa using c3 | (simp at c3 ⊢; omega)
    obtain rfl := Option.some.inj H
    go_enter Tryd.func36, Tryd.ntmps36
    go_wp2
    repeat (go_quiet (fail); try go_wp2)
    go_ret
    exact ⟨by first | rfl | (simp; done) | (simp [*]; done), by repeat (first | exact Drawn0.refl _ | apply Drawn0.step)⟩

-- NOT PRINTED: function 13 (zookie_Verify)

-- NOT PRINTED: function 68 (reflectlite_ValueOf)

-- NOT PRINTED: function 69 (reflectlite_Value_Type)

-- NOT PRINTED: function 70 (reflectlite_Value_IsNil)

-- NOT PRINTED: function 79 (reflectlite_TypeOf)

-- NOT PRINTED: function 80 (reflectlite_Value_Elem)

-- NOT PRINTED: function 81 (reflectlite_Value_Set)

-- NOT PRINTED: function 71 (errors_as)

-- NOT PRINTED: function 56 (errors_As)

-- NOT PRINTED: function 39 (fault_Code)

-- NOT PRINTED: function 40 (fault_At)

-- NOT PRINTED: function 18 (vestrylaw22_told)

-- NOT PRINTED: function 21 (zookie_Newer)

-- NOT PRINTED: function 8 (vestrylaw22_awake)

-- NOT PRINTED: function 11 (vestryref22_Check)


end Go.Proofs.YtogimlinfkbapaaDoor.HPr
/- Start, Table, Constant. -/
namespace Go.Proofs.YtogimlinfkbapaaDoor.HShaS
open Go.RowKit Go.Proofs.YtogimlinfkbapaaDoorW.PrintWords Go.Proofs.YtogimlinfkbapaaDoor.HLib Go.Proofs.YtogimlinfkbapaaDoor.HSha Go.Proofs.YtogimlinfkbapaaDoor.HShaR
set_option linter.unusedVariables false
set_option linter.unusedSimpArgs false

def ST : List Int := [1779033703, 3144134277, 1013904242, 2773480762, 1359893119, 2600822924, 528734635, 1541459225]

set_option maxRecDepth 100000 in
theorem start_any (w : World) : Calls Tryd.prog 61 #[] w fun e w' => e = .returned (.agg (nums .u32 ST).toArray) ∧ Below w.heap.size w w' := by
  go_enter Tryd.func61, Tryd.ntmps61
  go_wp2
  refine bodyPost_ret (v := .agg (nums .u32 ST).toArray) ?_ ?_ ?_
  · exact results_c rfl _ _ w.heap.size 104 _ (0, 0) _ rfl (blk_new _ _) Tryd.underlying104 rfl (by rw [size_st]; rfl)
  · rfl
  · exact ⟨rfl, below_alloc (B0 w) _⟩

set_option maxRecDepth 100000 in
theorem refstart_any (w : World) : Calls Tryd.prog 73 #[] w fun e w' => e = .returned (.agg (nums .u32 ST).toArray) ∧ Below w.heap.size w w' := by
  go_enter Tryd.func73, Tryd.ntmps73
  go_wp2
  refine bodyPost_ret (v := .agg (nums .u32 ST).toArray) ?_ ?_ ?_
  · exact results_c rfl _ _ w.heap.size 104 _ (0, 0) _ rfl (blk_new _ _) Tryd.underlying104 rfl (by rw [size_st]; rfl)
  · rfl
  · exact ⟨rfl, below_alloc (B0 w) _⟩

theorem run_store_of {P : Program} {o : Oper} {a : Act} {W w1 : World} {t : TypeId} {p v : Operand} (ho : o.op = .store t p v) (h : (Instr.storeAt t (a.eval p) (a.eval v)).run P W = .ok () w1) : (execOp a.eval o).run P W = .ok .skip w1 := by
  simp [execOp, ho, h, Result.andThen]
theorem size_tb : (Tryd.prog.info? 125).map (·.size) = some 64 := by kernel_rfl
set_option maxRecDepth 100000 in
set_option maxHeartbeats 4000000 in
theorem table_any (w : World) : Calls Tryd.prog 74 #[] w fun e w' => e = .returned (.agg (nums .u32 KT).toArray) ∧ Below w.heap.size w w' := by
  have hst : (Instr.storeAt 125 (.pointer (some ⟨w.heap.size, 0, none⟩)) (.agg (nums .u32 KT).toArray)).run Tryd.prog (w.alloc (.cells (nums .u32 (List.replicate 64 0)).toArray 125)) = .ok () (w.alloc (.cells (nums .u32 KT).toArray 125)) :=
    run_storeAt_new w _ _ _ (by rw [size_tb]; rfl) rfl (by kernel_rfl)
  have HST := Aside0.mk hst
  clear hst
  go_enter Tryd.func74, Tryd.ntmps74
  go_wp2_with (refine store_event rfl (t := 125) (p := 0) (v := .tmp 1) rfl rfl (w1 := w.alloc (.cells (nums .u32 KT).toArray 125)) ?hr ?_; (case hr => exact run_store_of rfl HST.out); intro w1 hw1; subst hw1)
  refine bodyPost_ret (v := .agg (nums .u32 KT).toArray) ?_ ?_ ?_
  · exact results_c rfl _ _ w.heap.size 125 _ (0, 0) _ rfl (blk_new _ _) Tryd.underlying125 rfl (by rw [size_tb]; rfl)
  · rfl
  · exact ⟨rfl, below_alloc (B0 w) _⟩


end Go.Proofs.YtogimlinfkbapaaDoor.HShaS
/- Paddings: the printed functions, and what they answer. -/
namespace Go.Proofs.YtogimlinfkbapaaDoor.HShaP
open Go.RowKit Go.Proofs.YtogimlinfkbapaaDoorW.PrintWords Go.Proofs.YtogimlinfkbapaaDoorW.PrintMore Go.Proofs.YtogimlinfkbapaaDoor.HLib Go.Proofs.YtogimlinfkbapaaDoor.HSha Go.Proofs.YtogimlinfkbapaaDoor.HPr
set_option linter.unusedVariables false

def bytes8 (n : Int) : List Int := (List.range 8).map fun (i : Nat) => n * 8 / 2 ^ (56 - 8 * i) % 256
def padz (n : Int) : Nat := ((119 - n % 64) % 64).toNat
def padP (n : Int) : List Int := (128 :: List.replicate (padz n) 0) ++ bytes8 n

theorem bytes8_len (n : Int) : (bytes8 n).length = 8 := by simp [bytes8]
theorem bytes8_get (n : Int) (i : Nat) (h : i < 8) : (bytes8 n).getD i 0 = n * 8 / 2 ^ (56 - 8 * i) % 256 := by
  rw [List.getD_eq_getElem?_getD, List.getElem?_eq_getElem (by rw [bytes8_len]; exact h)]
  simp [bytes8]
theorem put_list (b : List Int) (j : Nat) (h : j < b.length) : (b.take j ++ List.replicate (b.length - j) 0).set j (b.getD j 0) = b.take (j + 1) ++ List.replicate (b.length - (j + 1)) 0 := by
  have hl : (b.take j).length = j := by rw [List.length_take]; omega
  rw [List.set_append_right (h := by omega), hl, Nat.sub_self, show b.length - j = (b.length - (j + 1)) + 1 from by omega, List.replicate_succ, List.set_cons_zero, List.take_add_one, List.append_assoc, List.getD_eq_getElem?_getD, List.getElem?_eq_getElem h]
  rfl

def row (n : Int) (i : Nat) : List Int := (128 :: List.replicate (padz n) 0) ++ ((bytes8 n).take i ++ List.replicate (8 - i) 0)
theorem row_len (n : Int) (i : Nat) (h : i ≤ 8) : (row n i).length = padz n + 9 := by simp [row, bytes8_len]; omega
theorem row_set (n : Int) (i : Nat) (h : i < 8) : (row n i).set (1 + padz n + i) (n * 8 / 2 ^ (56 - 8 * i) % 256) = row n (i + 1) := by
  have hb := bytes8_len n
  have := put_list (bytes8 n) i (by omega)
  rw [bytes8_get n i h, hb] at this
  unfold row
  rw [List.set_append_right (h := by simp; omega), ← this]
  congr 2
  simp
  omega
theorem padz_lt (n : Int) : padz n < 64 := by unfold padz; omega

theorem pad_step (n : Int) (h0 : 0 ≤ n) (h1 : n ≤ 4294967296) : ∀ d i : Nat, i + d = 8 → sha_Padding.l0 (d + 1) n (padz n : Int) (row n i) i = some (row n 8) := by
  intro d
  induction d with
  | zero =>
    intro i hi
    obtain rfl : i = 8 := by omega
    simp [sha_Padding.l0]
  | succ d ih =>
    intro i hi
    have hz := padz_lt n
    have e1 : wrap64 (8 * (i : Int)) = 8 * i := IntWalk.wrap64_in _ (by omega)
    have e2 : wrap64 (56 - 8 * (i : Int)) = 56 - 8 * i := IntWalk.wrap64_in _ (by omega)
    have e3 : wrap64 (1 + (padz n : Int)) = 1 + padz n := IntWalk.wrap64_in _ (by omega)
    have e4 : wrap64 (1 + (padz n : Int) + i) = 1 + padz n + i := IntWalk.wrap64_in _ (by omega)
    have e5 : wrap64 (n * 8) = n * 8 := IntWalk.wrap64_in _ (by omega)
    have e6 : wrap64 ((i : Int) + 1) = ((i + 1 : Nat) : Int) := by rw [IntWalk.wrap64_in _ (by omega)]; omega
    have e7 : shr .i64 (n * 8) (56 - 8 * (i : Int)) % 256 = n * 8 / 2 ^ (56 - 8 * i) % 256 := by
      rw [shr, show min (56 - 8 * (i : Int)).toNat IntKind.i64.bits = 56 - 8 * i from by
        have : IntKind.i64.bits = 64 := rfl
        omega]
    rw [sha_Padding.l0, if_pos (by omega), e1, e2, if_pos (by omega), e3, e4, if_pos (by omega), row_len n i (by omega), if_pos (by omega), e5, e6, e7, show (1 + (padz n : Int) + i).toNat = 1 + padz n + i from by omega, row_set n i (by omega)]
    exact ih (i + 1) (by omega)

theorem pad_f (n : Int) (h0 : 0 ≤ n) (h1 : n ≤ 4294967296) : sha_Padding.f 9 n = some (padP n) := by
  have hz := padz_lt n
  have e1 : Int.tmod n 64 = n % 64 := Int.tmod_eq_emod_of_nonneg h0
  have e2 : wrap64 (119 - n % 64) = 119 - n % 64 := IntWalk.wrap64_in _ (by omega)
  have e3 : Int.tmod (119 - n % 64) 64 = (padz n : Int) := by rw [Int.tmod_eq_emod_of_nonneg (by omega), padz]; omega
  have e4 : wrap64 (1 + (padz n : Int)) = 1 + padz n := IntWalk.wrap64_in _ (by omega)
  have e5 : wrap64 (1 + (padz n : Int) + 8) = padz n + 9 := by rw [IntWalk.wrap64_in _ (by omega)]; omega
  rw [sha_Padding.f, e1, e2, e3, e4, e5, if_pos (by omega), if_pos (by omega)]
  simp only [Option.bind_some, List.length_replicate]
  rw [if_pos (by omega)]
  have e6 : (List.replicate ((padz n : Int) + 9).toNat (0 : Int)).set (0 : Int).toNat 128 = row n 0 := by
    rw [show ((padz n : Int) + 9).toNat = (padz n + 8) + 1 from by omega, List.replicate_succ, show (0 : Int).toNat = 0 from rfl, List.set_cons_zero, row, List.take_zero, List.nil_append, List.cons_append, List.replicate_append_replicate]
  rw [e6]
  have := pad_step n h0 h1 8 0 rfl
  rw [show row n 8 = padP n from by rw [row, padP, List.take_of_length_le (by rw [bytes8_len]; omega), List.replicate_zero, List.append_nil]] at this
  exact this

theorem padding_any (n : Int) (w : World) (h0 : 0 ≤ n) (h1 : n ≤ 4294967296) :
    Calls Tryd.prog 64 #[.int .i64 n] w fun e w' => ∃ v, e = .returned v ∧ Kd.R (Kd.int .u8) 5 w' w.heap.size (fun _ => True) v (padP n) ∧ Below w.heap.size w w' := sha_Padding.calls 9 n _ w (pad_f n h0 h1)

/-! The reference's. -/
theorem rpad_l1 (n : Int) (h0 : 0 ≤ n) (h1 : n ≤ 4294967296) (p : List Int) (hp : p.length ≤ 1000) : ∀ d i : Nat, i + d = 8 → vestryref06_Padding.l1 (d + 1) (p ++ (bytes8 n).take i) (n * 8) (7 - (i : Int)) = some (p ++ bytes8 n) := by
  intro d
  induction d with
  | zero =>
    intro i hi
    obtain rfl : i = 8 := by omega
    rw [vestryref06_Padding.l1, if_neg (by omega), List.take_of_length_le (by rw [bytes8_len]; omega)]
  | succ d ih =>
    intro i hi
    have hb := bytes8_len n
    have e1 : wrap64 (8 * (7 - (i : Int))) = 56 - 8 * i := by rw [IntWalk.wrap64_in _ (by omega)]; omega
    have e2 : IntKind.u64.wrap (56 - 8 * (i : Int)) = 56 - 8 * i := by rw [IntKind.wrap_u64]; omega
    have e3 : wrap64 (7 - (i : Int) - 1) = 7 - ((i + 1 : Nat) : Int) := by rw [IntWalk.wrap64_in _ (by omega)]; omega
    have e4 : shr .u64 (n * 8) (56 - 8 * (i : Int)) % 256 = (bytes8 n).getD i 0 := by
      rw [bytes8_get n i (by omega), shr, show min (56 - 8 * (i : Int)).toNat IntKind.u64.bits = 56 - 8 * i from by
        have : IntKind.u64.bits = 64 := rfl
        omega]
    rw [vestryref06_Padding.l1, if_pos (by omega), e1, e2, if_pos (by omega), if_pos (by rw [List.length_append, List.length_take]; omega), e3, e4, List.append_assoc]
    have e5 : (bytes8 n).take i ++ [(bytes8 n).getD i 0] = (bytes8 n).take (i + 1) := by
      rw [List.take_add_one, List.getElem?_eq_getElem (show i < (bytes8 n).length by omega), List.getD_eq_getElem?_getD, List.getElem?_eq_getElem (show i < (bytes8 n).length by omega)]
      rfl
    rw [e5]
    exact ih (i + 1) (by omega)
theorem rpad_l0 (n : Int) (h0 : 0 ≤ n) (h1 : n ≤ 4294967296) : ∀ d i : Nat, i + d = padz n → vestryref06_Padding.l0 (d + 10) n (128 :: List.replicate i 0) = some (padP n) := by
  intro d
  induction d with
  | zero =>
    intro i hi
    have hz := padz_lt n
    have e0 : (128 :: List.replicate i (0 : Int)).length = i + 1 := by simp
    have e1 : wrap64 (n + ((i + 1 : Nat) : Int)) = n + i + 1 := by rw [IntWalk.wrap64_in _ (by omega)]; omega
    have e2 : wrap64 (n + i + 1 + 8) = n + i + 9 := by rw [IntWalk.wrap64_in _ (by omega)]; omega
    have e3 : Int.tmod (n + i + 9) 64 = 0 := by rw [Int.tmod_eq_emod_of_nonneg (by omega)]; unfold padz at hi; omega
    have e4 : IntKind.u64.wrap n = n := by rw [IntKind.wrap_u64]; omega
    have e5 : IntKind.u64.wrap (n * 8) = n * 8 := by rw [IntKind.wrap_u64]; omega
    rw [vestryref06_Padding.l0, e0, e1, e2, if_pos e3, e4, e5]
    have := rpad_l1 n h0 h1 (128 :: List.replicate i (0 : Int)) (by rw [e0]; omega) 8 0 rfl
    rw [List.take_zero, List.append_nil] at this
    rw [padP, ← hi]
    exact this
  | succ d ih =>
    intro i hi
    have hz := padz_lt n
    have e0 : (128 :: List.replicate i (0 : Int)).length = i + 1 := by simp
    have e1 : wrap64 (n + ((i + 1 : Nat) : Int)) = n + i + 1 := by rw [IntWalk.wrap64_in _ (by omega)]; omega
    have e2 : wrap64 (n + i + 1 + 8) = n + i + 9 := by rw [IntWalk.wrap64_in _ (by omega)]; omega
    have e3 : ¬ Int.tmod (n + i + 9) 64 = 0 := by rw [Int.tmod_eq_emod_of_nonneg (by omega)]; unfold padz at hi; omega
    rw [show d + 1 + 10 = (d + 10) + 1 from by omega, vestryref06_Padding.l0, e0, e1, e2, if_neg e3, if_pos (by omega), List.cons_append, ← List.replicate_succ']
    exact ih (i + 1) (by omega)
theorem refpadding_any (n : Int) (w : World) (h0 : 0 ≤ n) (h1 : n ≤ 4294967296) :
    Calls Tryd.prog 72 #[.int .i64 n] w fun e w' => ∃ v, e = .returned v ∧ Kd.R (Kd.int .u8) 5 w' w.heap.size (fun _ => True) v (padP n) ∧ Below w.heap.size w w' :=
  vestryref06_Padding.calls (padz n + 10) n _ w (by
    have := rpad_l0 n h0 h1 (padz n) 0 (Nat.zero_add _)
    exact this)
theorem padP_len (n : Int) : (padP n).length = padz n + 9 := by simp [padP, bytes8_len]
theorem padP_full (n : Int) (h0 : 0 ≤ n) : (n + (padP n).length) % 64 = 0 := by rw [padP_len, padz]; omega
theorem padP_byte (n : Int) : ∀ x ∈ padP n, 0 ≤ x ∧ x < 256 := by
  intro x hx
  rw [padP, List.cons_append, List.mem_cons] at hx
  rcases hx with rfl | hx
  · decide
  · rcases List.mem_append.1 hx with hx | hx
    · rw [List.eq_of_mem_replicate hx]; decide
    · obtain ⟨i, _, rfl⟩ := List.mem_map.1 hx
      omega

end Go.Proofs.YtogimlinfkbapaaDoor.HShaP
/- The digest of bytes: the closure of sha.Sum. -/
namespace Go.Proofs.YtogimlinfkbapaaDoor.HShaU
open Go.RowKit Go.Proofs.YtogimlinfkbapaaDoorW.PrintWords Go.Proofs.YtogimlinfkbapaaDoorW.PrintMore Go.Proofs.YtogimlinfkbapaaDoor.HLib Go.Proofs.YtogimlinfkbapaaDoor.HSha Go.Proofs.YtogimlinfkbapaaDoor.HShaR Go.Proofs.YtogimlinfkbapaaDoor.HShaS Go.Proofs.YtogimlinfkbapaaDoor.HShaP
set_option linter.unusedVariables false
set_option linter.unusedSimpArgs false

theorem load_ev {P : Program} {ops : Array Oper} {rest : List Oper} {o : Oper} {a : Act} {Q : Exit → Act → World → Prop} {W : World} (hgd : o.guard = none) {t : TypeId} {p : Operand} {v : Value} (ho : o.op = .load t p) (hr : (Instr.loadAt t (a.eval p)).run P W = .ok v W) (h : wpList P ops Q rest (a.put o.dst v) W) : wpList P ops Q (o :: rest) a W :=
  Kd.event_run hgd (by simp [execOp, ho, hr, Result.andThen]) h
theorem arr_load {P : Program} {w : World} {g : Nat} {k : IntKind} {t : TypeId} {xs : List Int} (h : IsArr w g k t xs) {d : TypeDesc} (hu : P.underlying t = some d) (hd : (match d with | .struct _ | .array _ _ => true | _ => false) = true) (hi : (P.info? t).map (·.size) = some xs.length) :
    (Instr.loadAt t (.pointer (some ⟨g, 0, none⟩))).run P w = .ok (.agg (nums k xs).toArray) w := by
  simp only [Instr.loadAt, Instr.sureAddr, Sem.run_bind, Sem.run_pure, Result.andThen_ok]
  exact run_loadVar_row w g t t _ (0, 0) d h hu hd (by rw [hi]; simp [nums])
theorem arr_store {P : Program} {w : World} {g : Nat} {k : IntKind} {t : TypeId} {xs ys : List Int} (h : IsArr w g k t xs) (hi : (P.info? t).map (·.size) = some xs.length) (hl : ys.length = xs.length) :
    (Instr.storeAt t (.pointer (some ⟨g, 0, none⟩)) (.agg (nums k ys).toArray)).run P w = .ok () (w.setRow g (nums k ys).toArray) := by
  simp only [Instr.storeAt, Instr.sureAddr, Sem.run_bind, Sem.run_pure, Result.andThen_ok]
  exact run_storeVar_row w g t t _ _ h (by rw [hi]; simp [nums, hl]) (by simp [nums, hl]) (by simp [nums, Value.oneCell'])
theorem arr_row {w : World} {g : Nat} {k : IntKind} {t : TypeId} {xs : List Int} (h : IsArr w g k t xs) (ys : List Int) : IsArr (w.setRow g (nums k ys).toArray) g k t ys := setRow_heap w g _ _ t (0, 0) h
theorem arr_rowfar {w : World} {g : Nat} {k : IntKind} {t : TypeId} {xs : List Int} (h : IsArr w g k t xs) {q : Nat} (hq : g ≠ q) (cs : Array Value) : IsArr (w.setRow q cs) g k t xs := (setRow_other w q g cs hq).trans h
theorem below_row {B : Nat} {w0 w : World} (h : Below B w0 w) {g : Nat} (hg : B ≤ g) (cs : Array Value) : Below B w0 (w.setRow g cs) :=
  ⟨h.os, h.tape, h.output, by rw [setRow_size]; exact h.size, fun k hk => (setRow_other w g k cs (by omega)).trans (h.block k hk)⟩
/-- A value that is read as bytes (what a nil one has for a capacity is not told). -/
def Bv (w : World) (v : Value) (xs : List Int) : Prop := ∃ A c, v = .slice A xs.length c ∧ xs.length ≤ c ∧ Kd.C (Kd.int .u8) w A xs.length xs
theorem Bs.bv {w : World} {v : Value} {xs : List Int} (h : Bs w v xs) : Bv w v xs := by obtain ⟨A, c, e, h1, h2, _⟩ := h; exact ⟨A, c, e, h1, h2⟩
theorem Bv.below {w w1 : World} {v : Value} {xs : List Int} (h : Bv w v xs) (hb : Below w.heap.size w w1) : Bv w1 v xs := by
  obtain ⟨A, c, e, hc, hC⟩ := h
  exact ⟨A, c, e, hc, Kd.C_below hC hb⟩
theorem bs_row_far {w : World} {v : Value} {xs : List Int} (h : Bv w v xs) (g : Nat) (cs : Array Value) (hne : ∀ ad n c, v = .slice (some ad) n c → 0 < n → ad.block ≠ g) : Bv (w.setRow g cs) v xs := by
  obtain ⟨A, c, rfl, hc, hC⟩ := h
  refine ⟨A, c, rfl, hc, Kd.C_of_reads (d := (0 : Int)) (readsInt_of.1 (ReadsInt.keep (g := g) (readsInt_of.2 (Kd.reads_of_C (d := (0 : Int)) hC)) (W := w.setRow g cs) ⟨by rw [setRow_size]; exact Nat.le_refl _, fun i _ hi _ => setRow_other w g i cs hi⟩ (fun ad e hq => hne ad _ _ (by rw [e]) hq)))⟩
theorem bs_far {w : World} {v : Value} {xs : List Int} (h : Bv w v xs) (g j : Nat) (u : Value) (hne : ∀ ad n c, v = .slice (some ad) n c → 0 < n → ad.block ≠ g) : Bv (w.setCell ⟨g, j, none⟩ u) v xs := by
  obtain ⟨A, c, rfl, hc, hC⟩ := h
  exact ⟨A, c, rfl, hc, Kd.C_of_reads (d := (0 : Int)) (readsInt_of.1 (ReadsInt.keep (g := g) (readsInt_of.2 (Kd.reads_of_C (d := (0 : Int)) hC)) ((KeepBut.refl w g none).set_ j u) (fun ad e hq => hne ad _ _ (by rw [e]) hq)))⟩
theorem arr_lt {w : World} {g : Nat} {k : IntKind} {t : TypeId} {xs : List Int} (h : IsArr w g k t xs) : g < w.heap.size := blk_lt h
theorem glob_below {w w1 : World} {B : Nat} (h : Glob w) (hB : 1 < B) (hb : Below B w w1) : Glob w1 := ⟨Nat.lt_of_lt_of_le h.1 hb.size, fun i hi => (hb.cell (p := ⟨1, i, none⟩) hB).trans (h.2 i hi)⟩

abbrev Sta := List Int × List Int × Int
def stepP (a : Sta) (c : Int) : Sta :=
  (if (a.2.2 + 1) % 64 = 0 then blockP a.1 (a.2.1.set (a.2.2 % 64).toNat c) else a.1, a.2.1.set (a.2.2 % 64).toNat c, a.2.2 + 1)
def feed (a : Sta) (bs : List Int) : Sta := bs.foldl stepP a
def OkU (a : Sta) : Prop := a.1.length = 8 ∧ a.2.1.length = 64 ∧ (∀ x ∈ a.2.1, 0 ≤ x ∧ x < 256) ∧ 0 ≤ a.2.2
theorem blockP_len (st bl : List Int) (h : st.length = 8) : (blockP st bl).length = 8 := addst_len _ st (rounds_len _ _ h _) h
theorem set_byte (bl : List Int) (h : ∀ x ∈ bl, 0 ≤ x ∧ x < 256) (i : Nat) (c : Int) (hc : 0 ≤ c ∧ c < 256) : ∀ x ∈ bl.set i c, 0 ≤ x ∧ x < 256 := by
  intro x hx
  rcases List.mem_or_eq_of_mem_set hx with h1 | h1
  · exact h x h1
  · rw [h1]; exact hc
theorem step_ok (a : Sta) (c : Int) (h : OkU a) (hc : 0 ≤ c ∧ c < 256) : OkU (stepP a c) := by
  obtain ⟨h1, h2, h3, h4⟩ := h
  refine ⟨?_, ?_, set_byte _ h3 _ _ hc, ?_⟩
  · unfold stepP
    dsimp only
    split
    · exact blockP_len _ _ h1
    · exact h1
  · show (a.2.1.set _ c).length = 64
    rw [List.length_set]; exact h2
  · show 0 ≤ a.2.2 + 1
    omega
theorem feed_ok (bs : List Int) : ∀ a : Sta, OkU a → (∀ x ∈ bs, 0 ≤ x ∧ x < 256) → OkU (feed a bs) := by
  induction bs with
  | nil => exact fun a h _ => h
  | cons c bs ih => exact fun a h hb => ih _ (step_ok a c h (hb c (List.mem_cons_self ..))) (fun x hx => hb x (List.mem_cons_of_mem _ hx))
theorem feed_n (bs : List Int) : ∀ a : Sta, (feed a bs).2.2 = a.2.2 + bs.length := by
  induction bs with
  | nil => exact fun a => by simp [feed]
  | cons c bs ih =>
      intro a
      show (feed (stepP a c) bs).2.2 = _
      rw [ih]
      show a.2.2 + 1 + _ = _
      rw [List.length_cons]; omega
theorem feed_append (a : Sta) (xs ys : List Int) : feed a (xs ++ ys) = feed (feed a xs) ys := by simp [feed]
theorem feed_take (a : Sta) (bs : List Int) (j : Nat) (h : j < bs.length) : feed a (bs.take (j + 1)) = stepP (feed a (bs.take j)) (bs.getD j 0) := by
  rw [List.take_add_one, feed_append, List.getElem?_eq_getElem h, List.getD_eq_getElem?_getD, List.getElem?_eq_getElem h]
  rfl

def InvU (w : World) (gb gn gs : Nat) (a : Sta) : Prop := IsArr w gb .u8 80 a.2.1 ∧ IsArr w gn .i64 3 [a.2.2] ∧ IsArr w gs .u32 104 a.1
theorem size_bl : (Tryd.prog.info? 80).map (·.size) = some 64 := by kernel_rfl
theorem rd_bytes {bs : List Int} (h : ∀ x ∈ bs, 0 ≤ x ∧ x < 256) (j : Int) (h0 : 0 ≤ j) (h1 : j < bs.length) : 0 ≤ rd bs j ∧ rd bs j < 256 := by
  refine h _ ?_
  unfold rd
  rw [List.getD_eq_getElem?_getD, List.getElem?_eq_getElem (show j.toNat < bs.length by omega)]
  exact List.getElem_mem _

set_option maxRecDepth 10000 in
set_option maxHeartbeats 4000000 in
theorem add_any (w : World) (B : Nat) (v : Value) (bs : List Int) (gb gn gs : Nat) (a : Sta) (hv : Bv w v bs) (hby : ∀ x ∈ bs, 0 ≤ x ∧ x < 256) (hI : InvU w gb gn gs a) (hok : OkU a) (hn : a.2.2 + bs.length < 4611686018427387904) (hG : Glob w) (hB0 : 1 < B) (hBb : B ≤ gb) (hBn : B ≤ gn) (hBs : B ≤ gs)
    (h12 : gb ≠ gn) (h13 : gb ≠ gs) (h23 : gn ≠ gs) (hne : ∀ ad n c, v = .slice (some ad) n c → 0 < n → ad.block ≠ gb ∧ ad.block ≠ gn ∧ ad.block ≠ gs) :
    Calls Tryd.prog 62 #[v, .pointer (some ⟨gb, 0, none⟩), .pointer (some ⟨gn, 0, none⟩), .pointer (some ⟨gs, 0, none⟩)] w fun e w' => e = .returned (.tuple #[]) ∧ InvU w' gb gn gs (feed a bs) ∧ Below B w w' := by
  have hv' := hv
  obtain ⟨A, c, rfl, hc, hC⟩ := hv'
  have HV := Aside0.mk hv
  have HBY := Aside0.mk hby
  have HI0 := Aside0.mk hI
  have HOK := Aside0.mk hok
  have HN := Aside0.mk hn
  have HG := Aside0.mk hG
  have HB := Aside0.mk (And.intro hB0 (And.intro hBb (And.intro hBn hBs)))
  have HD := Aside0.mk (And.intro h12 (And.intro h13 h23))
  have HNE := Aside0.mk hne
  clear hv hby hI hok hn hG hB0 hBb hBn hBs hne hc hC h12 h13 h23
  go_enter Tryd.func62, Tryd.ntmps62
  go_wp2
  go_loopg [6, 9] bs.length (fun kq v6 v9 w' => ∃ (j : Int), v9 = .int .i64 j ∧ Aside0 (0 ≤ j ∧ (kq : Int) + j = bs.length) ∧ Aside0 (InvU w' gb gn gs (feed a (bs.take j.toNat))) ∧ Aside0 (Bv w' (.slice A bs.length c) bs) ∧ Aside0 (Below B w w'))
  case atStart => exact ⟨0, rfl, ⟨⟨by omega, by omega⟩⟩, ⟨by rw [show (0 : Int).toNat = 0 from rfl, List.take_zero]; exact HI0.out⟩, HV, ⟨Below.refl _ _⟩⟩
  case round =>
    obtain ⟨j, rfl, HA, HI, HR, HBW⟩ := hrel
    have hj0 := HA.out.1
    have hjm : j < 4611686018427387904 := by have := HA.out; have := HN.out; have := HOK.out.2.2.2; omega
    by_cases c1 : j < bs.length
    · have d1 : decide (j < (bs.length : Int)) = true := decide_eq_true c1
      have HS := Aside0.mk (feed_take a bs j.toNat (by omega))
      have HOK1 := Aside0.mk (feed_ok (bs.take j.toNat) a HOK.out (fun x hx => HBY.out x (List.mem_of_mem_take hx)))
      have HN1 := Aside0.mk (feed_n (bs.take j.toNat) a)
      obtain ⟨F, hF⟩ : ∃ x, x = feed a (bs.take j.toNat) := ⟨_, rfl⟩
      rw [← hF] at HI HS HOK1 HN1
      obtain ⟨st, bl, n⟩ := F
      obtain ⟨x, hx⟩ : ∃ x, x = rd bs j := ⟨_, rfl⟩
      have hxb := rd_bytes HBY.out j hj0 c1
      rw [← hx] at hxb
      have HXB := Aside0.mk hxb
      rw [show bs.getD j.toNat 0 = x from hx.symm] at HS
      obtain ⟨A', c', hvv, _, hC⟩ := HR.out
      injection hvv with q1 q2 q3
      subst q1 q3
      obtain ⟨ad, rfl, hcx⟩ := Kd.at_int hC j hj0 c1
      rw [← hx] at hcx
      have hadd : ∀ k : Nat, (ad.add k).block = ad.block := fun k => by unfold Addr.add; split <;> rfl
      have hn0 : 0 ≤ n := HOK1.out.2.2.2
      have hlt : n < 4611686018427387904 := by
        have h1 : n = a.2.2 + _ := HN1.out
        rw [List.length_take] at h1
        have := HN.out
        omega
      have en : wr.cell? ⟨gn, 0, none⟩ = some (.int .i64 n) := HI.out.2.1.cell 0 (by omega) (by simp)
      have fn := HI.out.2.1.frozen 0
      have hm0 : 0 ≤ n % 64 := by omega
      have hm1 : n % 64 < 64 := by omega
      have eb := HI.out.1.cell (n % 64) hm0 (by rw [HOK1.out.2.1]; exact hm1)
      have fb := HI.out.1.frozen (n % 64).toNat
      have h12 : gb ≠ gn := HD.out.1
      have h13 : gb ≠ gs := HD.out.2.1
      have h23 : gn ≠ gs := HD.out.2.2
      have HW1n := Aside0.mk (HI.out.2.1.far (p := ⟨gb, (n % 64).toNat, none⟩) h12.symm (.int .u8 x))
      have HW1b := Aside0.mk (HI.out.1.put (n % 64).toNat x)
      have HW1s := Aside0.mk (HI.out.2.2.far (p := ⟨gb, (n % 64).toNat, none⟩) h13.symm (.int .u8 x))
      have en1 : (wr.setCell ⟨gb, (n % 64).toNat, none⟩ (.int .u8 x)).cell? ⟨gn, 0, none⟩ = some (.int .i64 n) := HW1n.out.cell 0 (by omega) (by simp)
      have fn1 := HW1n.out.frozen 0
      have HW2n := Aside0.mk (HW1n.out.put 0 (n + 1))
      have HW2b := Aside0.mk (HW1b.out.far (p := ⟨gn, 0, none⟩) h12 (.int .i64 (n + 1)))
      have HW2s := Aside0.mk (HW1s.out.far (p := ⟨gn, 0, none⟩) h23.symm (.int .i64 (n + 1)))
      have en2 : ((wr.setCell ⟨gb, (n % 64).toNat, none⟩ (.int .u8 x)).setCell ⟨gn, 0, none⟩ (.int .i64 (n + 1))).cell? ⟨gn, 0, none⟩ = some (.int .i64 (n + 1)) := HW2n.out.cell 0 (by omega) (by simp)
      have HNE2 := Aside0.mk (show ∀ ad' n' c', (Value.slice (some ad) bs.length c) = .slice (some ad') n' c' → 0 < n' → ad'.block ≠ gb ∧ ad'.block ≠ gn ∧ ad'.block ≠ gs from HNE.out)
      have HR2 := Aside0.mk (bs_far (bs_far HR.out gb (n % 64).toNat (.int .u8 x) (fun a b c h q => (HNE2.out a b c h q).1)) gn 0 (.int .i64 (n + 1)) (fun a b c h q => (HNE2.out a b c h q).2.1))
      have HB2 := Aside0.mk ((HBW.out.setCell (p := ⟨gb, (n % 64).toNat, none⟩) HB.out.2.1 (.int .u8 x)).setCell (p := ⟨gn, 0, none⟩) HB.out.2.2.1 (.int .i64 (n + 1)))
      have HOK2 := Aside0.mk (step_ok _ x HOK1.out hxb)
      clear hF hx hxb hC h12 h13 h23
      obtain ⟨W2, hW2⟩ : ∃ W, W = (wr.setCell ⟨gb, (n % 64).toNat, none⟩ (.int .u8 x)).setCell ⟨gn, 0, none⟩ (.int .i64 (n + 1)) := ⟨_, rfl⟩
      have HW2 := Aside0.mk hW2
      by_cases c2 : (n + 1) % 64 = 0
      · have d2 : ((n + 1) % 64 == 0) = true := by simpa using c2
        have C2 := Aside0.mk c2
        clear c2 hW2
        have HL1 := Aside0.mk (arr_load (P := Tryd.prog) HW2s.out Tryd.underlying104 rfl (by rw [size_st, HOK1.out.1]))
        have HL2 := Aside0.mk (arr_load (P := Tryd.prog) HW2b.out Tryd.underlying80 rfl (by rw [size_bl, List.length_set, HOK1.out.2.1]))
        go_wp2_with (first | (refine load_ev (t := 104) (p := .tmp 3) rfl rfl HL1.out ?_) | (refine load_ev (t := 80) (p := .tmp 1) rfl rfl HL2.out ?_))
        have HGW : Glob ((wr.setCell ⟨gb, (n % 64).toNat, none⟩ (.int .u8 x)).setCell ⟨gn, 0, none⟩ (.int .i64 (n + 1))) := glob_below HG.out HB.out.1 HB2.out
        refine (block_any ((wr.setCell ⟨gb, (n % 64).toNat, none⟩ (.int .u8 x)).setCell ⟨gn, 0, none⟩ (.int .i64 (n + 1))) st (bl.set (n % 64).toNat x) HOK1.out.1 (by rw [List.length_set]; exact HOK1.out.2.1) (set_byte _ HOK1.out.2.2.1 _ _ HXB.out) HGW).mono ?_
        rintro e w1 ⟨rfl, hbe⟩
        have HBE := Aside0.mk hbe
        have HSL := Aside0.mk (show ((wr.setCell ⟨gb, (n % 64).toNat, none⟩ (.int .u8 x)).setCell ⟨gn, 0, none⟩ (.int .i64 (n + 1))).heap.size = wr.heap.size from by simp [World.setCell])
        have HA3s := Aside0.mk (HW2s.out.below hbe (arr_lt HW2s.out))
        have HA3n := Aside0.mk (HW2n.out.below hbe (arr_lt HW2n.out))
        have HA3b := Aside0.mk (HW2b.out.below hbe (arr_lt HW2b.out))
        have HST := Aside0.mk (arr_store (P := Tryd.prog) (ys := blockP st (bl.set (n % 64).toNat x)) HA3s.out (by rw [size_st, HOK1.out.1]) (by rw [blockP_len _ _ HOK1.out.1, HOK1.out.1]))
        clear hbe HGW
        go_wp2_with (refine store_event rfl (t := 104) (p := 3) (v := .tmp 24) rfl rfl (w1 := w1.setRow gs (nums .u32 (blockP st (bl.set (n % 64).toNat x))).toArray) ?hr ?_; (case hr => exact run_store_of rfl HST.out); intro w2 hw2; subst hw2)
        go_roundg (bs.length - (j + 1).toNat)
        case measure => have := HA.out; omega
        case rel =>
          refine ⟨j + 1, rfl, ⟨⟨by omega, by omega⟩⟩, ⟨?_⟩, ⟨bs_row_far (Bv.below HR2.out HBE.out) gs _ (fun a b c h q => (HNE2.out a b c h q).2.2)⟩, ⟨?_⟩⟩
          · rw [show (j + 1).toNat = j.toNat + 1 from by omega, HS.out]
            unfold stepP
            dsimp only
            rw [if_pos C2.out]
            exact ⟨arr_rowfar HA3b.out HD.out.2.1 _, arr_rowfar HA3n.out HD.out.2.2 _, arr_row HA3s.out _⟩
          · exact below_row (HB2.out.trans (HBE.out.mono (Nat.le_of_lt (Nat.lt_of_le_of_lt HB.out.2.1 (arr_lt HW2b.out))))) HB.out.2.2.2 _
      · have d2 : ((n + 1) % 64 == 0) = false := by simpa using c2
        have C2 := Aside0.mk c2
        clear c2 hW2
        go_wp2
        go_roundg (bs.length - (j + 1).toNat)
        case measure => have := HA.out; omega
        case rel =>
          refine ⟨j + 1, rfl, ⟨⟨by omega, by omega⟩⟩, ⟨?_⟩, HR2, HB2⟩
          rw [show (j + 1).toNat = j.toNat + 1 from by omega, HS.out]
          unfold stepP
          dsimp only
          rw [if_neg C2.out]
          exact ⟨HW2b.out, HW2n.out, HW2s.out⟩
    · have d1 : decide (j < (bs.length : Int)) = false := decide_eq_false c1
      have HE := Aside0.mk (show bs.take j.toNat = bs from List.take_of_length_le (by have := HA.out; omega))
      go_wp2
      go_end0
      rw [HE.out] at HI
      exact ⟨rfl, HI.out, HBW.out⟩

end Go.Proofs.YtogimlinfkbapaaDoor.HShaU
/- The digest in plain words: bytes fed one by one, and blocks of 64. -/
namespace Go.Proofs.YtogimlinfkbapaaDoor.HShaV
open Go.RowKit Go.Proofs.YtogimlinfkbapaaDoorW.PrintWords Go.Proofs.YtogimlinfkbapaaDoor.HLib Go.Proofs.YtogimlinfkbapaaDoor.HSha Go.Proofs.YtogimlinfkbapaaDoor.HShaS Go.Proofs.YtogimlinfkbapaaDoor.HShaP Go.Proofs.YtogimlinfkbapaaDoor.HShaU
set_option linter.unusedVariables false
set_option linter.unusedSimpArgs false

def S0 : Sta := (ST, List.replicate 64 0, 0)
theorem S0_ok : OkU S0 := ⟨rfl, by simp [S0], by intro x hx; rw [List.eq_of_mem_replicate hx]; decide, by simp [S0]⟩
/-- The bytes of a state. -/
def outB (s : List Int) : List Int := (List.range 32).map fun (j : Nat) => s.getD (j / 4) 0 / 2 ^ (24 - 8 * (j % 4)) % 256
def padded (bs : List Int) : List Int := bs ++ padP bs.length
/-- The digest. -/
def sumP (bs : List Int) : List Int := outB (feed S0 (padded bs)).1
/-- The state behind j blocks. -/
def cst (l : List Int) : Nat → List Int
  | 0 => ST
  | j + 1 => blockP (cst l j) ((l.drop (64 * j)).take 64)
theorem outB_len (s : List Int) : (outB s).length = 32 := by simp [outB]
theorem outB_get (s : List Int) (j : Nat) (h : j < 32) : (outB s).getD j 0 = s.getD (j / 4) 0 / 2 ^ (24 - 8 * (j % 4)) % 256 := by
  rw [List.getD_eq_getElem?_getD, List.getElem?_eq_getElem (by rw [outB_len]; exact h)]
  simp [outB]
theorem outB_byte (s : List Int) : ∀ x ∈ outB s, 0 ≤ x ∧ x < 256 := by
  intro x hx
  obtain ⟨i, _, rfl⟩ := List.mem_map.1 hx
  omega
theorem sumP_len (bs : List Int) : (sumP bs).length = 32 := outB_len _
theorem sumP_byte (bs : List Int) : ∀ x ∈ sumP bs, 0 ≤ x ∧ x < 256 := outB_byte _

theorem mixn_set (a r : List Int) (i : Nat) (hi : i < a.length) (hl : r.length = a.length) : (a.take i ++ r.drop i).set i (a.getD i 0) = a.take (i + 1) ++ r.drop (i + 1) := by
  have h : (a.take i).length = i := by rw [List.length_take]; omega
  rw [List.set_append_right (h := by omega), h, Nat.sub_self, List.drop_eq_getElem_cons (show i < r.length by omega), List.set_cons_zero, List.take_add_one, List.getElem?_eq_getElem hi, List.getD_eq_getElem?_getD, List.getElem?_eq_getElem hi, List.append_assoc]
  rfl
theorem feed_part (a : Sta) (c : List Int) (hc : c.length = 64) (hb : a.2.1.length = 64) (hn0 : 0 ≤ a.2.2) (hn : a.2.2 % 64 = 0) : ∀ r, r ≤ 63 → feed a (c.take r) = (a.1, c.take r ++ a.2.1.drop r, a.2.2 + r) := by
  intro r
  induction r with
  | zero => intro _; simp [feed]
  | succ r ih =>
    intro hr
    rw [feed_take a c r (by omega), ih (by omega)]
    unfold stepP
    dsimp only
    rw [if_neg (by omega), show ((a.2.2 + (r : Int)) % 64).toNat = r from by omega, mixn_set c a.2.1 r (by omega) (by omega)]
    congr 2
    omega
theorem feed_block (a : Sta) (c : List Int) (hc : c.length = 64) (hb : a.2.1.length = 64) (hn0 : 0 ≤ a.2.2) (hn : a.2.2 % 64 = 0) : feed a c = (blockP a.1 c, c, a.2.2 + 64) := by
  have h := feed_take a c 63 (by omega)
  rw [feed_part a c hc hb hn0 hn 63 (by omega)] at h
  rw [List.take_of_length_le (by omega)] at h
  rw [h]
  unfold stepP
  dsimp only
  rw [show ((a.2.2 + ((63 : Nat) : Int)) % 64).toNat = 63 from by omega, mixn_set c a.2.1 63 (by omega) (by omega), show c.take (63 + 1) ++ a.2.1.drop (63 + 1) = c from by rw [List.take_of_length_le (show c.length ≤ 63 + 1 by omega), List.drop_of_length_le (show a.2.1.length ≤ 63 + 1 by omega), List.append_nil], if_pos (by omega), show a.2.2 + ((63 : Nat) : Int) + 1 = a.2.2 + 64 from by omega]
theorem feed_cst (l : List Int) : ∀ j, 64 * j ≤ l.length → (feed S0 (l.take (64 * j))).1 = cst l j ∧ (feed S0 (l.take (64 * j))).2.2 = 64 * j ∧ (feed S0 (l.take (64 * j))).2.1.length = 64 := by
  intro j
  induction j with
  | zero => intro _; exact ⟨rfl, rfl, by simp [feed, S0]⟩
  | succ j ih =>
    intro h
    obtain ⟨h1, h2, h3⟩ := ih (by omega)
    have e : l.take (64 * (j + 1)) = l.take (64 * j) ++ (l.drop (64 * j)).take 64 := by
      rw [show 64 * (j + 1) = 64 * j + 64 from by omega, List.take_add]
    rw [e, feed_append, feed_block _ _ (by rw [List.length_take, List.length_drop]; omega) h3 (by omega) (by omega)]
    refine ⟨?_, ?_, ?_⟩
    · dsimp only
      rw [h1]; rfl
    · dsimp only
      omega
    · dsimp only
      rw [List.length_take, List.length_drop]; omega
theorem padded_len (bs : List Int) : (padded bs).length % 64 = 0 := by
  have := padP_full (bs.length : Int) (by omega)
  unfold padded
  rw [List.length_append]
  omega
theorem sum_cst (bs : List Int) : sumP bs = outB (cst (padded bs) ((padded bs).length / 64)) := by
  have h := padded_len bs
  have h1 := feed_cst (padded bs) ((padded bs).length / 64) (by omega)
  rw [List.take_of_length_le (by omega)] at h1
  rw [sumP, h1.1]
theorem cst_len (l : List Int) (j : Nat) : (cst l j).length = 8 := by
  induction j with
  | zero => rfl
  | succ j ih => exact blockP_len _ _ ih

end Go.Proofs.YtogimlinfkbapaaDoor.HShaV
/- sha.Sum. -/
namespace Go.Proofs.YtogimlinfkbapaaDoor.HShaW
open Go.RowKit Go.Proofs.YtogimlinfkbapaaDoorW.PrintWords Go.Proofs.YtogimlinfkbapaaDoor.HLib Go.Proofs.YtogimlinfkbapaaDoor.HSha Go.Proofs.YtogimlinfkbapaaDoor.HShaS Go.Proofs.YtogimlinfkbapaaDoor.HShaP Go.Proofs.YtogimlinfkbapaaDoor.HShaU Go.Proofs.YtogimlinfkbapaaDoor.HShaV
set_option linter.unusedVariables false
set_option linter.unusedSimpArgs false

/-- Lists of bytes that are read. -/
def KB : Kd (List Int) := Kd.slice 5 (Kd.int .u8)
/-- The i-th list. -/
def el (xs : List (List Int)) (i : Int) : List Int := xs.getD i.toNat []
theorem at_bytes {w : World} {A : Option Addr} {n : Nat} {xs : List (List Int)} (h : KB.C w A n xs) (i : Int) (h0 : 0 ≤ i) (h1 : i < n) : ∃ ad A0 c0, A = some ad ∧ w.cell? (ad.add i.toNat) = some (.slice A0 (el xs i).length c0) ∧ (el xs i).length ≤ c0 ∧ (Kd.int .u8).C w A0 (el xs i).length (el xs i) := by
  obtain ⟨ad, c, e, _, hK, hc0⟩ := Kd.C_get h ([] : List Int) i h0 h1
  have hc : ∀ j u, c[j]? = some u → w.cell? (ad.add (i.toNat * 1 + j)) = some u := hc0
  obtain ⟨A0, c0, rfl, l0, g0⟩ := hK
  exact ⟨ad, A0, c0, e, by have hq := hc 0 _ rfl; rwa [Nat.mul_one, Nat.add_zero] at hq, l0, g0⟩
/-- All parts, one behind the other. -/
def cat (xss : List (List Int)) : List Int := xss.flatten
theorem cat_take (xss : List (List Int)) (k : Nat) (h : k < xss.length) : cat (xss.take (k + 1)) = cat (xss.take k) ++ xss.getD k [] := by
  unfold cat
  rw [List.take_add_one, List.flatten_append, List.getD_eq_getElem?_getD]
  rw [List.getElem?_eq_getElem h]
  simp
theorem cat_take_le (xss : List (List Int)) (k : Nat) : (cat (xss.take k)).length ≤ (cat xss).length := by
  have h : cat xss = cat (xss.take k) ++ cat (xss.drop k) := by
    unfold cat
    rw [← List.flatten_append, List.take_append_drop]
  rw [h, List.length_append]
  omega
theorem cell_lt {w : World} {p : Addr} {v : Value} (h : w.cell? p = some v) : p.block < w.heap.size := by
  apply Classical.byContradiction
  intro hn
  simp [World.cell?, Array.getElem?_eq_none (show w.heap.size ≤ p.block from by omega)] at h
theorem block_lt {w : World} {A : Option Addr} {n : Nat} {xs : List Int} (h : (Kd.int .u8).C w A n xs) (hn : 0 < n) : ∀ ad, A = some ad → ad.block < w.heap.size := by
  intro ad e
  obtain ⟨ad', e', hx⟩ := Kd.at_int h 0 (by omega) (by omega)
  rw [e] at e'
  injection e' with e'
  subst e'
  have h1 := cell_lt hx
  have : (ad.add (0 : Int).toNat).block = ad.block := by unfold Addr.add; split <;> rfl
  omega
theorem arr_index {P : Program} {t e : TypeId} {n : Nat} (ht : P.underlying t = some (.array n e)) (k : IntKind) (he : P.underlying e = some (.int k)) (hz : (P.info? e).map (·.size) = some 1) (xs : List Int) (i : Int) (h0 : 0 ≤ i) (hi : i < xs.length) (hn : n = xs.length) (w : World) :
    (Instr.index t (.agg (nums k xs).toArray) (.int .i64 i)).run P w = .ok (.int k (rd xs i)) w := by
  have hl : i.toNat < xs.length := by omega
  have hc : (0 ≤ i ∧ i < (n : Int)) := ⟨h0, by omega⟩
  have hg : (nums k xs)[i.toNat]? = some (.int k (rd xs i)) := by
    simp [nums, rd, List.getElem?_eq_getElem hl, List.getD_eq_getElem?_getD]
  cases hq : P.info? e with
  | none => simp [hq] at hz
  | some inf =>
    have hs : inf.size = 1 := by simpa [hq] using hz
    have hsz : (Go.sizeOf e).run P w = .ok 1 w := by simp [Go.sizeOf, typeInfo, hq, hs]
    simp [Instr.index, asIntOf, run_underlying ht, hc, hsz, part, isAgg, run_underlying he, Result.andThen, hg]
theorem info_u32 : (Tryd.prog.info? 103).map (·.size) = some 1 := by kernel_rfl
theorem size_out : (Tryd.prog.info? 24).map (·.size) = some 32 := by kernel_rfl

def mixB (s : List Int) (n : Nat) : List Int := (outB s).take n ++ List.replicate (32 - n) 0
theorem mixB_len (s : List Int) (n : Nat) (h : n ≤ 32) : (mixB s n).length = 32 := by
  rw [mixB, List.length_append, List.length_take, outB_len, List.length_replicate]; omega
theorem mixB_set (s : List Int) (n : Nat) (h : n < 32) : (mixB s n).set n ((outB s).getD n 0) = mixB s (n + 1) := by
  have := put_list (outB s) n (by rw [outB_len]; exact h)
  rw [outB_len] at this
  exact this
theorem el_sub {xss : List (List Int)} {j : Int} (h0 : 0 ≤ j) (h : j < xss.length) {x : Int} (hx : x ∈ el xss j) : x ∈ cat xss := by
  unfold el at hx
  rw [List.getD_eq_getElem?_getD, List.getElem?_eq_getElem (show j.toNat < xss.length by omega)] at hx
  exact List.mem_flatten.2 ⟨_, List.getElem_mem _, hx⟩
theorem cat_feed (xss : List (List Int)) (j : Int) (h0 : 0 ≤ j) (h : j < xss.length) : feed (feed S0 (cat (xss.take j.toNat))) (el xss j) = feed S0 (cat (xss.take (j + 1).toNat)) := by
  rw [← feed_append, show (j + 1).toNat = j.toNat + 1 from by omega, cat_take xss j.toNat (by omega)]
  rfl
theorem cat_bound (xss : List (List Int)) (j : Int) (h0 : 0 ≤ j) (h : j < xss.length) : (cat (xss.take j.toNat)).length + (el xss j).length ≤ (cat xss).length := by
  have h1 := cat_take_le xss (j.toNat + 1)
  rw [cat_take xss j.toNat (by omega), List.length_append] at h1
  exact h1

set_option maxRecDepth 100000 in
set_option maxHeartbeats 8000000 in
theorem sum_any (w : World) (A : Option Addr) (c : Nat) (xss : List (List Int)) (hC : KB.C w A xss.length xss) (hby : ∀ x ∈ cat xss, 0 ≤ x ∧ x < 256) (hl : (cat xss).length ≤ 4294967296) (hxl : xss.length ≤ 4294967296) (hcc : xss.length ≤ c) (hG : Glob w) :
    Calls Tryd.prog 45 #[.slice A xss.length c] w fun e w' => e = .returned (.agg (nums .u8 (sumP (cat xss))).toArray) ∧ Below w.heap.size w w' := by
  have HC := Aside0.mk hC
  have HBY := Aside0.mk hby
  have HL := Aside0.mk hl
  have HXL := Aside0.mk hxl
  have HG := Aside0.mk hG
  clear hC hby hl hxl hG
  go_enter Tryd.func45, Tryd.ntmps45
  go_wp2_with fail
  have HR0 : Aside0 (IsArr (w.alloc (.cells (nums .u8 (List.replicate 32 0)).toArray 24)) w.heap.size .u8 24 (List.replicate 32 0)) := ⟨blk_new w _⟩
  refine (start_any (w.alloc (.cells (nums .u8 (List.replicate 32 0)).toArray 24))).mono ?_
  rintro e w1 ⟨rfl, hb1⟩
  have HB1 := Aside0.mk hb1
  have HST := Aside0.mk (run_storeAt_new (P := Tryd.prog) w1 104 (nums .u32 (List.replicate 8 0)).toArray (nums .u32 ST).toArray (by rw [size_st]; rfl) rfl (by kernel_rfl))
  clear hb1
  go_wp2_with (refine store_event rfl (t := 104) (p := 3) (v := .tmp 13) rfl rfl (w1 := w1.alloc (.cells (nums .u32 ST).toArray 104)) ?hr ?_; (case hr => exact run_store_of rfl HST.out); intro w2 hw2; subst hw2)
  go_loopg [8, 17] xss.length (fun kq v8 v17 w' => ∃ (j : Int), v17 = .int .i64 j ∧ Aside0 (0 ≤ j ∧ (kq : Int) + j = xss.length) ∧ Aside0 (InvU w' (w1.heap.size + 1) (w1.heap.size + 1 + 1) w1.heap.size (feed S0 (cat (xss.take j.toNat)))) ∧ Aside0 (Below w.heap.size w w') ∧ Aside0 (IsArr w' w.heap.size .u8 24 (List.replicate 32 0)))
  case atStart =>
    have hz : (w.alloc (.cells (nums .u8 (List.replicate 32 0)).toArray 24)).heap.size = w.heap.size + 1 := World.size_alloc ..
    have hb : Below (w.heap.size + 1) (w.alloc (.cells (nums .u8 (List.replicate 32 0)).toArray 24)) w1 := by rw [← hz]; exact HB1.out
    refine ⟨0, rfl, ⟨⟨by omega, by omega⟩⟩, ⟨?_, ?_, ?_⟩, ⟨?_⟩, ⟨?_⟩⟩
    · have h1 := blk_new (w1.alloc (.cells (nums .u32 ST).toArray 104)) (.cells (nums .u8 (List.replicate 64 0)).toArray 80)
      rw [World.size_alloc] at h1
      exact blk_alloc h1 _
    · have h1 := blk_new ((w1.alloc (.cells (nums .u32 ST).toArray 104)).alloc (.cells (nums .u8 (List.replicate 64 0)).toArray 80)) (.cells (nums .i64 [0]).toArray 3)
      rw [World.size_alloc, World.size_alloc] at h1
      exact h1
    · exact blk_alloc (blk_alloc (blk_new w1 _) _) _
    · exact below_alloc (below_alloc (below_alloc ((below_alloc (B0 w) _).trans (hb.mono (Nat.le_succ _))) _) _) _
    · exact blk_alloc (blk_alloc (blk_alloc (HR0.out.below hb (Nat.lt_succ_self _)) _) _) _
  case round =>
    obtain ⟨j, rfl, HA, HI, HB, HO⟩ := hrel
    have hj0 := HA.out.1
    have hjm : j ≤ 4294967296 := by have := HA.out; have := HXL.out; omega
    have HWS := Aside0.mk (show w.heap.size < w1.heap.size from by have := HB1.out.size; rw [World.size_alloc] at this; omega)
    by_cases c1 : j < xss.length
    · have d1 : decide (j < (xss.length : Int)) = true := decide_eq_true c1
      obtain ⟨ad, A0, c0, rfl, hx, hlc, hCx⟩ := at_bytes (Kd.C_below HC.out HB.out) j hj0 c1
      have HCX := Aside0.mk hCx
      have HLC := Aside0.mk hlc
      have hne := block_lt (n := (el xss j).length) hCx
      have HNE := Aside0.mk (show ∀ a n c, (Value.slice A0 (el xss j).length c0) = .slice (some a) n c → 0 < n → a.block ≠ w1.heap.size + 1 ∧ a.block ≠ w1.heap.size + 1 + 1 ∧ a.block ≠ w1.heap.size from by
        intro a n c h hn
        injection h with h1 h2 h3
        subst h2
        have hCw : (Kd.int .u8).C w A0 (el xss j).length (el xss j) := by
          obtain ⟨_, A0', c0', e', hx', _, hCx'⟩ := at_bytes HC.out j hj0 c1
          injection e' with e'
          subst e'
          have hcell := HB.out.cell (cell_lt hx')
          rw [hx] at hcell
          rw [hx'] at hcell
          injection hcell with hcell
          injection hcell with q1 q2 q3
          rw [q1]
          exact hCx'
        have := block_lt hCw hn a h1
        have := HWS.out
        omega)
      clear hCx hlc hne
      go_wp2_with fail
      refine (add_any wr (w.heap.size + 1) (.slice A0 (el xss j).length c0) (el xss j) (w1.heap.size + 1) (w1.heap.size + 1 + 1) w1.heap.size (feed S0 (cat (xss.take j.toNat))) ⟨A0, c0, rfl, HLC.out, HCX.out⟩ (fun x hx => HBY.out x (el_sub hj0 c1 hx)) HI.out (feed_ok _ _ S0_ok (fun x hx => HBY.out x ((List.mem_flatten.1 hx).elim fun l hl => List.mem_flatten.2 ⟨l, List.mem_of_mem_take hl.1, hl.2⟩))) (by rw [feed_n]; have := cat_bound xss j hj0 c1; have := HL.out; simp only [S0]; omega) (glob_below HG.out HG.out.1 HB.out) (Nat.lt_succ_of_lt HG.out.1) (by have := HWS.out; omega) (by have := HWS.out; omega) (by have := HWS.out; omega) (by omega) (by omega) (by omega) HNE.out).mono ?_
      rintro e w2 ⟨rfl, hI2, hb2⟩
      have HI2 := Aside0.mk hI2
      have HB2 := Aside0.mk hb2
      clear hI2 hb2
      go_wp2
      go_roundg (xss.length - (j + 1).toNat)
      case measure => have := HA.out; omega
      case rel =>
        refine ⟨j + 1, rfl, ⟨⟨by omega, by omega⟩⟩, ⟨?_⟩, ⟨?_⟩, ⟨?_⟩⟩
        · rw [← cat_feed xss j hj0 c1]; exact HI2.out
        · exact HB.out.trans (HB2.out.mono (Nat.le_succ _))
        · exact HO.out.below HB2.out (Nat.lt_succ_self _)
    · have d1 : decide (j < (xss.length : Int)) = false := decide_eq_false c1
      have HE := Aside0.mk (show xss.take j.toNat = xss from List.take_of_length_le (by have := HA.out; omega))
      rw [HE.out] at HI
      have HNN := Aside0.mk (show (feed S0 (cat xss)).2.2 = ((cat xss).length : Int) from by rw [feed_n]; exact Int.zero_add _)
      have en : wr.cell? ⟨w1.heap.size + 1 + 1, 0, none⟩ = some (.int .i64 ((cat xss).length : Int)) := by rw [← HNN.out]; exact HI.out.2.1.cell 0 (by omega) (by simp)
      go_wp2_with fail
      refine (padding_any ((cat xss).length : Int) wr (by omega) (by have := HL.out; omega)).mono ?_
      rintro e w2 ⟨v, rfl, hR, hb2⟩
      have hI2 : InvU w2 (w1.heap.size + 1) (w1.heap.size + 1 + 1) w1.heap.size (feed S0 (cat xss)) := ⟨HI.out.1.below hb2 (arr_lt HI.out.1), HI.out.2.1.below hb2 (arr_lt HI.out.2.1), HI.out.2.2.below hb2 (arr_lt HI.out.2.2)⟩
      have HBV := Aside0.mk (Bs.bv (Bs.of_R hR))
      have HB2 := Aside0.mk (HB.out.trans (hb2.mono HB.out.size))
      have HO2 := Aside0.mk (HO.out.below hb2 (arr_lt HO.out))
      have HNE := Aside0.mk (show ∀ a n c, v = .slice (some a) n c → 0 < n → a.block ≠ w1.heap.size + 1 ∧ a.block ≠ w1.heap.size + 1 + 1 ∧ a.block ≠ w1.heap.size from by
        intro a n c h hn
        have h1 := arr_lt HI.out.1
        have h2 := arr_lt HI.out.2.1
        have h3 := arr_lt HI.out.2.2
        have : wr.heap.size ≤ a.block := ((Kd.R_bound hR).1 a.block (by rw [h]; rfl)).2.1
        omega)
      have HI2 := Aside0.mk hI2
      clear hR hb2 hI2 en
      go_wp2_with fail
      refine (add_any w2 (w.heap.size + 1) v (padP ((cat xss).length : Int)) (w1.heap.size + 1) (w1.heap.size + 1 + 1) w1.heap.size (feed S0 (cat xss)) HBV.out (padP_byte _) HI2.out (feed_ok _ _ S0_ok HBY.out) (by rw [HNN.out, padP_len]; have := HL.out; have := padz_lt ((cat xss).length : Int); omega) (glob_below HG.out HG.out.1 HB2.out) (Nat.lt_succ_of_lt HG.out.1) (by have := HWS.out; omega) (by have := HWS.out; omega) (by have := HWS.out; omega) (by omega) (by omega) (by omega) HNE.out).mono ?_
      rintro e w3 ⟨rfl, hI3, hb3⟩
      rw [← feed_append] at hI3
      have HI3 := Aside0.mk (show InvU w3 (w1.heap.size + 1) (w1.heap.size + 1 + 1) w1.heap.size (feed S0 (padded (cat xss))) from hI3)
      have HB3 := Aside0.mk (HB2.out.trans (hb3.mono (Nat.le_succ _)))
      have HO3 := Aside0.mk (HO2.out.below hb3 (Nat.lt_succ_self _))
      clear hI3 hb3 HI2 HI HB HB2 HO HO2
      obtain ⟨st, hst⟩ : ∃ x, x = (feed S0 (padded (cat xss))).1 := ⟨_, rfl⟩
      have HSL := Aside0.mk (show st.length = 8 from by rw [hst]; exact (feed_ok _ _ S0_ok (fun x hx => by
        rcases List.mem_append.1 hx with h | h
        · exact HBY.out x h
        · exact padP_byte _ x h)).1)
      have HSE := Aside0.mk (show sumP (cat xss) = outB st from by rw [hst]; rfl)
      have h4 := blk_alloc HI3.out.2.2 (.cells (nums .u8 (List.replicate 32 0)).toArray 24)
      rw [← hst] at h4
      have HS4 := Aside0.mk (show IsArr (w3.alloc (.cells (nums .u8 (List.replicate 32 0)).toArray 24)) w1.heap.size .u32 104 st from h4)
      clear h4 hst
      have HL4 := Aside0.mk (arr_load (P := Tryd.prog) HS4.out Tryd.underlying104 rfl (by rw [size_st, HSL.out]))
      go_wp2_with (first | (refine load_ev (t := 104) (p := .tmp 3) rfl rfl HL4.out ?_))
      have HZ3 := Aside0.mk (show w1.heap.size < w3.heap.size from arr_lt HI3.out.2.2)
      go_loopg [30] 8 (fun kq v30 w' => ∃ (i : Int), v30 = .int .i64 i ∧ Aside0 (0 ≤ i ∧ (kq : Int) + i = 8) ∧ Aside0 (IsArr w' w3.heap.size .u8 24 (mixB st (4 * i).toNat)) ∧ Aside0 (Below w.heap.size w w') ∧ Aside0 (IsArr w' w.heap.size .u8 24 (List.replicate 32 0)))
      case atStart => exact ⟨0, rfl, ⟨⟨by omega, by omega⟩⟩, ⟨blk_new w3 _⟩, ⟨below_alloc HB3.out _⟩, ⟨blk_alloc HO3.out _⟩⟩
      case round =>
        obtain ⟨i, rfl, HA2, HR2, HB4, HO4⟩ := hrel
        have hi0 : 0 ≤ i := HA2.out.1
        have him : i ≤ 8 := by have := HA2.out; omega
        by_cases c3 : i < 8
        · have d3 : decide (i < 8) = true := decide_eq_true c3
          obtain ⟨y, hy⟩ : ∃ y, y = rd st i := ⟨_, rfl⟩
          have hix : (Instr.index 104 (.agg (nums .u32 st).toArray) (.int .i64 i)).run Tryd.prog wr = .ok (.int .u32 y) wr := by
            rw [hy]
            exact arr_index Tryd.underlying104 .u32 Tryd.underlying103 info_u32 st i hi0 (by have := HSL.out; omega) HSL.out.symm wr
          have HY := Aside0.mk hy
          clear hy
          go_wp2
          obtain ⟨wO, rfl⟩ : ∃ x, x = wr := ⟨_, rfl⟩
          go_loopg [34] 4 (fun kq v34 w' => ∃ (k : Int), v34 = .int .i64 k ∧ Aside0 (0 ≤ k ∧ (kq : Int) + k = 4) ∧ Aside0 (IsArr w' w3.heap.size .u8 24 (mixB st (4 * i + k).toNat)) ∧ Aside0 (Below w.heap.size w w') ∧ Aside0 (IsArr w' w.heap.size .u8 24 (List.replicate 32 0)))
          case atStart => exact ⟨0, rfl, ⟨⟨by omega, by omega⟩⟩, ⟨by rw [Int.add_zero]; exact HR2.out⟩, HB4, HO4⟩
          case round =>
            obtain ⟨k, rfl, HA5, HR5, HB5, HO5⟩ := hrel
            have hk0 : 0 ≤ k := HA5.out.1
            have hkm : k ≤ 4 := by have := HA5.out; omega
            by_cases c5 : k < 4
            · have d5 : decide (k < 4) = true := decide_eq_true c5
              have hq0 : 0 ≤ 4 * i + k := by omega
              have hq1 : 4 * i + k < 32 := by omega
              have eo := HR5.out.cell (4 * i + k) hq0 (by rw [mixB_len _ _ (by omega)]; exact hq1)
              have fo := HR5.out.frozen (4 * i + k).toNat
              have k0 : IntKind.i64.wrap (4 * i) = 4 * i := IntWalk.i64_in _ (by omega)
              have k1 : IntKind.i64.wrap (4 * i + k) = 4 * i + k := IntWalk.i64_in _ (by omega)
              have k2 : IntKind.i64.wrap (8 * k) = 8 * k := IntWalk.i64_in _ (by omega)
              have k3 : IntKind.i64.wrap (24 - 8 * k) = 24 - 8 * k := IntWalk.i64_in _ (by omega)
              have HV := Aside0.mk (show (outB st).getD (4 * i + k).toNat 0 = y / 2 ^ (24 - 8 * k).toNat % 256 from by
                rw [outB_get _ _ (by omega), show (4 * i + k).toNat / 4 = i.toNat from by omega, show 24 - 8 * ((4 * i + k).toNat % 4) = (24 - 8 * k).toNat from by omega, HY.out]
                rfl)
              go_wp2
              go_roundg (4 - (k + 1).toNat)
              case measure => have := HA5.out; omega
              case rel =>
                refine ⟨k + 1, rfl, ⟨⟨by omega, by omega⟩⟩, ⟨?_⟩, ⟨HB5.out.setCell (p := ⟨w3.heap.size, (4 * i + k).toNat, none⟩) (by have := HWS.out; have := HZ3.out; dsimp only; omega) _⟩, ⟨HO5.out.far (by have := HWS.out; have := HZ3.out; dsimp only; omega) _⟩⟩
                have h := HR5.out.put (4 * i + k).toNat (y / 2 ^ (24 - 8 * k).toNat % 256)
                rw [← HV.out, mixB_set _ _ (by omega), HV.out, show (4 * i + k).toNat + 1 = (4 * i + (k + 1)).toNat from by omega] at h
                exact h
            · have d5 : decide (k < 4) = false := decide_eq_false c5
              go_wp2
              go_roundg (8 - (i + 1).toNat)
              case measure => have := HA2.out; omega
              case rel =>
                refine ⟨i + 1, rfl, ⟨⟨by omega, by omega⟩⟩, ⟨?_⟩, HB5, HO5⟩
                rw [show (4 * (i + 1)).toNat = (4 * i + k).toNat from by omega]
                exact HR5.out
        · have d3 : decide (i < 8) = false := decide_eq_false c3
          have HF : Aside0 (IsArr wr w3.heap.size .u8 24 (outB st)) := ⟨by
            have h := HR2.out
            rw [show (4 * i).toNat = 32 from by omega, mixB, List.take_of_length_le (by rw [outB_len]; decide), Nat.sub_self, List.replicate_zero, List.append_nil] at h
            exact h⟩
          have HLF := Aside0.mk (arr_load (P := Tryd.prog) HF.out Tryd.underlying24 rfl (by rw [size_out, outB_len]))
          have HSF := Aside0.mk (arr_store (P := Tryd.prog) (ys := outB st) HO4.out (by rw [size_out]; rfl) (by rw [outB_len]; rfl))
          go_wp2_with (first | (refine load_ev (t := 24) (p := .tmp 9) rfl rfl HLF.out ?_) | (refine store_event rfl (t := 24) (p := 2) (v := .tmp 50) rfl rfl (w1 := wr.setRow w.heap.size (nums .u8 (outB st)).toArray) ?hr ?_; (case hr => exact run_store_of rfl HSF.out); intro w2 hw2; subst hw2))
          refine bodyPost_ret (v := .agg (nums .u8 (outB st)).toArray) ?_ ?_ ?_
          · exact results_c rfl _ _ w.heap.size 24 _ (0, 0) _ rfl (arr_row HO4.out (outB st)) Tryd.underlying24 rfl (by rw [size_out]; simp [nums, outB_len])
          · rfl
          · rw [HSE.out]
            exact ⟨rfl, below_row HB4.out (Nat.le_refl _) _⟩

end Go.Proofs.YtogimlinfkbapaaDoor.HShaW
/- Lists of bytes that a walk lays. -/
namespace Go.Proofs.YtogimlinfkbapaaDoor.HShaB
open Go.RowKit Go.Proofs.YtogimlinfkbapaaDoorW.PrintWords Go.Proofs.YtogimlinfkbapaaDoor.HLib Go.Proofs.YtogimlinfkbapaaDoor.HSha Go.Proofs.YtogimlinfkbapaaDoor.HShaU Go.Proofs.YtogimlinfkbapaaDoor.HShaV Go.Proofs.YtogimlinfkbapaaDoor.HShaW
set_option linter.unusedVariables false
set_option linter.unusedSimpArgs false

theorem KB_one {w : World} {g : Nat} {A0 : Option Addr} {xs : List Int} {c0 : Nat} (h : w.cell? ⟨g, 0, none⟩ = some (.slice A0 xs.length c0)) (hc : xs.length ≤ c0) (hC : (Kd.int .u8).C w A0 xs.length xs) : KB.C w (some ⟨g, 0, none⟩) 1 [xs] := by
  refine ⟨rfl, by decide, fun _ => ⟨_, rfl, fun j p hj => ?_⟩⟩
  cases j with
  | succ j => simp at hj
  | zero =>
    obtain rfl : xs = p := by simpa using hj
    refine ⟨[.slice A0 xs.length c0], rfl, ⟨A0, c0, rfl, hc, hC⟩, fun q u hq => ?_⟩
    cases q with
    | succ q => simp at hq
    | zero =>
      obtain rfl : Value.slice A0 xs.length c0 = u := by simpa using hq
      exact h
theorem bytes_C {w : World} {g : Nat} {t : TypeId} {fr : Nat × Nat} {xs : List Int} (h : w.heap[g]? = some (.cells (nums .u8 xs).toArray t fr)) (hl : xs.length ≤ 4294967296) : (Kd.int .u8).C w (some ⟨g, 0, none⟩) xs.length xs := by
  refine Kd.C_of_reads (d := (0 : Int)) (readsInt_of.1 ⟨rfl, by omega, fun _ => ⟨_, rfl, fun j hj => ?_⟩⟩)
  have e : (⟨g, 0, none⟩ : Addr).add j = ⟨g, j, none⟩ := by unfold Addr.add; split <;> simp_all
  rw [e]
  simp [World.cell?, h, nums, List.getElem?_eq_getElem hj, List.getD_eq_getElem?_getD]

/-- A row of slices that a walk laid, and what each reads. -/
theorem KB_list {w : World} {g : Nat} {vs : List Value} {t : TypeId} {fr : Nat × Nat} {xss : List (List Int)} (h : w.heap[g]? = some (.cells vs.toArray t fr)) (hl : vs.length = xss.length) (hm : xss.length ≤ 4294967296)
    (each : ∀ (i : Nat) (v : Value) (xs : List Int), vs[i]? = some v → xss[i]? = some xs → ∃ A c, v = .slice A xs.length c ∧ xs.length ≤ c ∧ (Kd.int .u8).C w A xs.length xs) : KB.C w (some ⟨g, 0, none⟩) xss.length xss := by
  refine ⟨rfl, by omega, fun _ => ⟨_, rfl, fun j p hj => ?_⟩⟩
  have hjl : j < xss.length := (List.getElem?_eq_some_iff.1 hj).1
  obtain ⟨A, c, hv, hc, hC⟩ := each j vs[j] p (List.getElem?_eq_getElem (by omega)) hj
  refine ⟨[.slice A p.length c], rfl, ⟨A, c, rfl, hc, hC⟩, fun q u hq => ?_⟩
  cases q with
  | succ q => simp at hq
  | zero =>
    obtain rfl : Value.slice A p.length c = u := by simpa using hq
    have e : (⟨g, 0, none⟩ : Addr).add (j * KB.sz + 0) = ⟨g, j, none⟩ := by
      show (⟨g, 0, none⟩ : Addr).add (j * 1 + 0) = _
      unfold Addr.add
      split <;> simp_all
    rw [e]
    have hg : vs[j]? = some (.slice A p.length c) := by rw [List.getElem?_eq_getElem (by omega), hv]
    simp [World.cell?, h, hg]

end Go.Proofs.YtogimlinfkbapaaDoor.HShaB
/- The reference's Sum. -/
namespace Go.Proofs.YtogimlinfkbapaaDoor.HShaX
open Go.RowKit Go.Proofs.YtogimlinfkbapaaDoorW.PrintWords Go.Proofs.YtogimlinfkbapaaDoor.HLib Go.Proofs.YtogimlinfkbapaaDoor.HSha Go.Proofs.YtogimlinfkbapaaDoor.HShaR Go.Proofs.YtogimlinfkbapaaDoor.HShaS Go.Proofs.YtogimlinfkbapaaDoor.HShaP Go.Proofs.YtogimlinfkbapaaDoor.HShaU Go.Proofs.YtogimlinfkbapaaDoor.HShaV Go.Proofs.YtogimlinfkbapaaDoor.HShaW
set_option linter.unusedVariables false
set_option linter.unusedSimpArgs false

theorem run_cut64 (t e : TypeId) {P : Program} {i0 : TypeInfo} (ht : P.underlying t = some (.slice e)) (hi0 : P.info? e = some i0) (hsz : i0.size = 1) (g n c : Nat) (i : Int) (h0 : 0 ≤ i) (h2 : i + 64 ≤ c) (W : World) :
    (Instr.slice t (.slice (some ⟨g, 0, none⟩) n c) (some (.int .i64 i)) (some (.int .i64 (i + 64))) none).run P W = .ok (.slice (some ⟨g, i.toNat, none⟩) 64 (c - i.toNat)) W := by
  have hel : P.elem t = e := by simp [Program.elem, ht]
  have hu : P.underlying t = some (.slice (P.elem t)) := by rw [hel]; exact ht
  have ha : (⟨g, 0, none⟩ : Addr).add i.toNat = ⟨g, i.toNat, none⟩ := by unfold Addr.add; split <;> simp_all
  rw [run_slice_lh W t _ n c hu .i64 .i64 i (i + 64) h0 (by omega) (by omega), hel]
  simp only [sizeOf, typeInfo]
  simp [hi0, hsz, sliced, Result.andThen, show (i + 64).toNat - i.toNat = 64 from by omega, show ¬ c = i.toNat from by omega, ha]

theorem run_at64 {P : Program} {t e : TypeId} (ht : P.underlying t = some (.array 64 e)) (a : Addr) (c : Nat) (W : World) : (Instr.arrayAt t (.slice (some a) 64 c)).run P W = .ok (.pointer (some a)) W := by
  simp [Instr.arrayAt, run_underlying ht, Result.andThen]

set_option maxRecDepth 100000 in
set_option maxHeartbeats 8000000 in
theorem refsum_any (w : World) (v : Value) (bs : List Int) (hv : Bs w v bs) (hby : ∀ x ∈ bs, 0 ≤ x ∧ x < 256) (hl : bs.length ≤ 4294967296) :
    Calls Tryd.prog 58 #[v] w fun e w' => e = .returned (.agg (nums .u8 (sumP bs)).toArray) ∧ Below w.heap.size w w' := by
  obtain ⟨A, c, rfl, hc, hC, hn⟩ := hv
  have HC := Aside0.mk hC
  have HBY := Aside0.mk hby
  have HL := Aside0.mk hl
  clear hC hc hn hby hl
  go_enter Tryd.func58, Tryd.ntmps58
  have HOL := Aside0.mk (own_lit (w.alloc (.cells (nums .u8 (List.replicate 32 0)).toArray 24)) (w.heap.size + 1) 5 .u8 [] (by rw [World.size_alloc]; exact Nat.le_refl _) (by decide))
  rw [World.size_alloc] at HOL
  have HR0 : Aside0 (IsArr (w.alloc (.cells (nums .u8 (List.replicate 32 0)).toArray 24)) w.heap.size .u8 24 (List.replicate 32 0)) := ⟨blk_new w _⟩
  go_wp2_with (first | (at_builtin; refine print_append_row (w0 := (w.alloc (.cells (nums .u8 (List.replicate 32 0)).toArray 24))) (w.heap.size + 1) rfl (.tmp 9) (.tmp 10) 22 5 .u8 1 rfl Tryd.underlying22 info_u8 (by decide) (.slice (some ⟨w.heap.size + 1, 0, none⟩) 0 0) [] bs A _ c rfl rfl ?aO ?aR ?aB ?aS ?aL ?_; (case aO => exact HOL.out); (case aR => exact ((readsInt_of.2 (Kd.reads_of_C (d := (0 : Int)) HC.out)).below (below_alloc (B0 _) _)).below (below_alloc (B0 _) _)); (case aB => exact by have := below_alloc (B0 (w.alloc (.cells (nums .u8 (List.replicate 32 0)).toArray 24))) (.cells (nums .u8 []).toArray 5); rwa [World.size_alloc] at this); (case aS => exact by (rw [World.size_alloc, World.size_alloc]; omega)); (case aL => (have := HL.out; simp; omega)); intro v1 w1 ho hb hg hat; have HO1 := Aside0.mk ho; have HB1 := Aside0.mk hb; clear ho hb hg hat) | fail)
  refine (refpadding_any (bs.length : Int) w1 (by omega) (by have := HL.out; omega)).mono ?_
  rintro e w2 ⟨v2, rfl, hR2, hb2⟩
  have HB2 := Aside0.mk (HB1.out.trans (hb2.mono (by have := HB1.out.size; rw [World.size_alloc] at this; exact this)))
  have HO2 := Aside0.mk (pw_own_below HO1.out hb2)
  obtain ⟨A2, c2, rfl, hc2, hC2⟩ := Kd.R_reads hR2
  have HC2 := Aside0.mk hC2
  clear hb2 hR2 hc2 hC2
  have HPL := Aside0.mk (show (padP (bs.length : Int)).length ≤ 100 from by rw [padP_len]; have := padz_lt (bs.length : Int); omega)
  have HB2s := Aside0.mk (show w.heap.size + 1 ≤ w2.heap.size from by have := HB2.out.size; rw [World.size_alloc] at this; exact this)
  go_wp2_with (first | (at_builtin; refine print_append_row (w0 := (w.alloc (.cells (nums .u8 (List.replicate 32 0)).toArray 24))) (w.heap.size + 1) rfl (.tmp 11) (.tmp 14) 22 5 .u8 1 rfl Tryd.underlying22 info_u8 (by decide) v1 ([] ++ bs) (padP (bs.length : Int)) A2 _ c2 rfl rfl ?aO ?aR ?aB ?aS ?aL ?_; (case aO => exact HO2.out); (case aR => exact readsInt_of.2 (Kd.reads_of_C (d := (0 : Int)) HC2.out)); (case aB => exact HB2.out); (case aS => exact HB2s.out); (case aL => (have := HL.out; have := HPL.out; simp; omega)); intro v3 w3 ho hb hg hat; have HO3 := Aside0.mk ho; have HB3 := Aside0.mk hb; clear ho hb hg hat) | fail)
  have HB3s := Aside0.mk (show w.heap.size + 1 ≤ w3.heap.size from by have := HB3.out.size; rw [World.size_alloc] at this; exact this)
  refine (refstart_any w3).mono ?_
  rintro e w4 ⟨rfl, hb4⟩
  have HO4 := Aside0.mk (pw_own_below HO3.out hb4)
  have HB4 := Aside0.mk (HB3.out.trans (hb4.mono HB3s.out))
  have HST := Aside0.mk (run_storeAt_new (P := Tryd.prog) w4 104 (nums .u32 (List.replicate 8 0)).toArray (nums .u32 ST).toArray (by rw [size_st]; rfl) rfl (by kernel_rfl))
  clear hb4
  go_wp2_with (refine store_event rfl (t := 104) (p := 4) (v := .tmp 16) rfl rfl (w1 := w4.alloc (.cells (nums .u32 ST).toArray 104)) ?hr ?_; (case hr => exact run_store_of rfl HST.out); intro w5 hw5; subst hw5)
  refine (table_any _).mono ?_
  rintro e w5 ⟨rfl, hb5⟩
  have HB4s := Aside0.mk (show w.heap.size + 1 ≤ w4.heap.size from by have := HB4.out.size; rw [World.size_alloc] at this; exact this)
  have hb5' : Below (w4.heap.size + 1) (w4.alloc (.cells (nums .u32 ST).toArray 104)) w5 := by rw [World.size_alloc] at hb5; exact hb5
  have HO5 := Aside0.mk (pw_own_below (pw_own_below HO4.out (below_alloc (B0 w4) _)) hb5)
  have HB5 := Aside0.mk ((HB4.out.alloc HB4s.out _).trans (hb5'.mono (by have := HB4s.out; omega)))
  have HA5 := Aside0.mk ((show IsArr (w4.alloc (.cells (nums .u32 ST).toArray 104)) w4.heap.size .u32 104 ST from blk_new w4 _).below hb5' (Nat.lt_succ_self _))
  have HTT := Aside0.mk (run_storeAt_new (P := Tryd.prog) w5 125 (nums .u32 (List.replicate 64 0)).toArray (nums .u32 KT).toArray (by rw [size_tb]; rfl) rfl (by kernel_rfl))
  clear hb5 hb5'
  go_wp2_with (refine store_event rfl (t := 125) (p := 5) (v := .tmp 17) rfl rfl (w1 := w5.alloc (.cells (nums .u32 KT).toArray 125)) ?hr ?_; (case hr => exact run_store_of rfl HTT.out); intro w6 hw6; subst hw6)
  have HB5s := Aside0.mk (show w4.heap.size < w5.heap.size from arr_lt HA5.out)
  have HLP := Aside0.mk (padded_len bs)
  have HLB := Aside0.mk (show (padded bs).length ≤ 4294967396 ∧ 0 < (padded bs).length from by
    have h := HPL.out
    have h2 := HL.out
    have h3 := padP_len (bs.length : Int)
    unfold padded
    rw [List.length_append]
    omega)
  have HPB := Aside0.mk (show ∀ x ∈ padded bs, 0 ≤ x ∧ x < 256 from fun x hx => by
    rcases List.mem_append.1 hx with h | h
    · exact HBY.out x h
    · exact padP_byte _ x h)
  have hown : w5.ownsRow (w.heap.size + 1) 5 1 v3 (padded bs).length (nums .u8 (padded bs)) := HO5.out
  obtain ⟨g, c3, rfl⟩ := Joins.ownsRow_form hown HLB.out.2
  have hg4 : g < w4.heap.size := own_lt (e := 5) (size := 1) (n := (padded bs).length) (xs := nums .u8 (padded bs)) HO4.out g rfl
  obtain ⟨A3, c3', e3, hc3, hC3, _⟩ := Bs.of_R (Kd.R_of_own (h1 := fun _ => rfl) (ok := fun _ => True) hown (fun _ _ => trivial))
  injection e3 with e3a _ e3c
  subst e3c
  have HC3 := Aside0.mk (show (Kd.int .u8).C w5 (some ⟨g, 0, none⟩) (padded bs).length (padded bs) from by rw [e3a]; exact hC3)
  have HG4 := Aside0.mk hg4
  have HC3c := Aside0.mk hc3
  have hle3 : ((padded bs).length : Int) ≤ (c3 : Int) := by omega
  clear hown hC3 e3a hg4 HO1 HO2 HO3 HO4 HO5 HOL HC2
  obtain ⟨P, hP⟩ : ∃ P, P = padded bs := ⟨_, rfl⟩
  have HPE := Aside0.mk hP
  rw [← hP] at HLP HLB HPB HC3 HC3c hle3 hc3 ⊢
  clear hP hc3
  go_loopg [6] (P.length / 64) (fun kq v6 w' => ∃ (i : Int), v6 = .int .i64 i ∧ Aside0 (0 ≤ i ∧ i % 64 = 0 ∧ 64 * (kq : Int) + i = P.length) ∧ Aside0 (IsArr w' w4.heap.size .u32 104 (cst P (i / 64).toNat)) ∧ Aside0 (IsArr w' w5.heap.size .u32 125 KT) ∧ Aside0 (Below (w.heap.size + 1) (w.alloc (.cells (nums .u8 (List.replicate 32 0)).toArray 24)) w') ∧ Aside0 (∀ j, w'.cell? ⟨g, j, none⟩ = w5.cell? ⟨g, j, none⟩))
  case atStart =>
    refine ⟨0, rfl, ⟨⟨by omega, by omega, by have := HLP.out; omega⟩⟩, ⟨blk_alloc HA5.out _⟩, ⟨blk_new w5 _⟩, ⟨HB5.out.alloc (by have := HB4s.out; have := HB5s.out; omega) _⟩, ⟨fun j => ?_⟩⟩
    have h := (below_alloc (B0 w5) (.cells (nums .u32 KT).toArray 125)).cell (p := ⟨g, j, none⟩) (show g < w5.heap.size by have := HG4.out; have := HB5s.out; omega)
    exact h
  case round =>
    obtain ⟨i, rfl, HA, HIS, HIT, HIB, HIC⟩ := hrel
    have hi0 : 0 ≤ i := HA.out.1
    have him : i ≤ 4294967396 := by have := HA.out; have := HLB.out; omega
    by_cases c1 : i < P.length
    · have d1 : decide (i < (P.length : Int)) = true := decide_eq_true c1
      have i64 : i + 64 ≤ (P.length : Int) := by have := HA.out; omega
      have k0 : IntKind.i64.wrap (i + 64) = i + 64 := IntWalk.i64_in _ (by omega)
      have hqn : (i / 64).toNat * 64 = i.toNat := by have := HA.out; omega
      obtain ⟨ch, hch⟩ : ∃ ch, ch = (P.drop (64 * (i / 64).toNat)).take 64 := ⟨_, rfl⟩
      have hcl : ch.length = 64 := by rw [hch, List.length_take, List.length_drop]; omega
      have hcr : wr.drew.rangeAt g i.toNat (nums .u8 ch) := fun j v hj => by
        have hjl : j < 64 := by
          have := (List.getElem?_eq_some_iff.1 hj).1
          simpa [nums, hcl] using this
        have hcell : w5.cell? ⟨g, i.toNat + j, none⟩ = some (.int .u8 (rd P (i.toNat + j : Nat))) := by
          obtain ⟨ad, e1, hx⟩ := Kd.at_int HC3.out ((i.toNat + j : Nat) : Int) (by omega) (by omega)
          injection e1 with e1
          subst e1
          have ha : (⟨g, 0, none⟩ : Addr).add (i.toNat + j) = ⟨g, i.toNat + j, none⟩ := by unfold Addr.add; split <;> simp_all
          rw [show (((i.toNat + j : Nat) : Int)).toNat = i.toNat + j from by omega, ha] at hx
          exact hx
        have hv : v = .int .u8 (rd P (i.toNat + j : Nat)) := by
          rw [hch] at hj
          rw [nums, List.getElem?_map, List.getElem?_take_of_lt hjl, List.getElem?_drop, show 64 * (i / 64).toNat + j = i.toNat + j from by omega, List.getElem?_eq_getElem (show i.toNat + j < P.length by omega)] at hj
          rw [rd, show (((i.toNat + j : Nat) : Int)).toNat = i.toNat + j from by omega, List.getD_eq_getElem?_getD, List.getElem?_eq_getElem (show i.toNat + j < P.length by omega)]
          simpa using hj.symm
        rw [hv, ← hcell]
        exact HIC.out (i.toNat + j)
      have htr : wr.drew.rangeAt w5.heap.size 0 (nums .u32 KT) := fun j v hj => by
        have := blk_cell HIT.out (0 + j)
        refine this.trans ?_
        rw [Nat.zero_add]
        simpa using hj
      have hsl := run_cut64 (P := Tryd.prog) 22 5 Tryd.underlying22 (show Tryd.prog.info? 5 = some _ from rfl) rfl g P.length c3 i hi0 (by omega)
      have HCH := Aside0.mk hch
      have HCL := Aside0.mk hcl
      have HCB := Aside0.mk (show ∀ x ∈ ch, 0 ≤ x ∧ x < 256 from fun x hx => HPB.out x (by rw [hch] at hx; exact List.mem_of_mem_drop (List.mem_of_mem_take hx)))
      clear hch
      have hsp := run_at64 (P := Tryd.prog) Tryd.underlying80 ⟨g, i.toNat, none⟩ (c3 - i.toNat)
      go_wp2
      refine wp_region_held_drew (S := fun w' => w'.rangeAt g i.toNat (nums .u8 ch) ∧ w'.rangeAt w5.heap.size 0 (nums .u32 KT)) (by kernel_rfl) ⟨hcr, htr⟩ (fun hHeld => ?_)
      refine wpAnyH_take (i := 1) (v := .slice (some ⟨g, 0, none⟩) P.length c3) rfl (by kernel_rfl) (by kernel_rfl) (by kernel_rfl) (fun _ _ _ h => h) (Or.inl ⟨by rfl, ?hy1⟩) hHeld ?_
      case hy1 => intro w' _; go_simp
      simp only [List.getElem_toArray, List.getElem_cons_succ, List.getElem_cons_zero, Act.put, List.setIfInBounds_toArray, List.set_cons_zero, List.set_cons_succ]
      refine wpAnyH_take (i := 2) (v := .int .i64 i) rfl (by kernel_rfl) (by kernel_rfl) (by kernel_rfl) (fun _ _ _ h => h) (Or.inl ⟨by rfl, ?hy2⟩) hHeld ?_
      case hy2 => intro w' _; go_simp
      simp only [List.getElem_toArray, List.getElem_cons_succ, List.getElem_cons_zero, Act.put, List.setIfInBounds_toArray, List.set_cons_zero, List.set_cons_succ]
      refine wpAnyH_take (i := 3) (v := .int .i64 i) rfl (by kernel_rfl) (by kernel_rfl) (by kernel_rfl) (fun _ _ _ h => h) (Or.inl ⟨by rfl, ?hy3⟩) hHeld ?_
      case hy3 => intro w' _; go_simp
      simp only [List.getElem_toArray, List.getElem_cons_succ, List.getElem_cons_zero, Act.put, List.setIfInBounds_toArray, List.set_cons_zero, List.set_cons_succ]
      refine wpAnyH_take (i := 4) (v := .int .i64 (i + 64)) rfl (by kernel_rfl) (by kernel_rfl) (by kernel_rfl) (fun _ _ _ h => h) (Or.inl ⟨by rfl, ?hy4⟩) hHeld ?_
      case hy4 => intro w' _; go_simp
      simp only [List.getElem_toArray, List.getElem_cons_succ, List.getElem_cons_zero, Act.put, List.setIfInBounds_toArray, List.set_cons_zero, List.set_cons_succ]
      refine wpAnyH_take (i := 5) (v := .slice (some ⟨g, i.toNat, none⟩) 64 (c3 - i.toNat)) rfl (by kernel_rfl) (by kernel_rfl) (by kernel_rfl) (fun _ _ _ h => h) (Or.inl ⟨by rfl, ?hy5⟩) hHeld ?_
      case hy5 => intro w' _; go_simp
      simp only [List.getElem_toArray, List.getElem_cons_succ, List.getElem_cons_zero, Act.put, List.setIfInBounds_toArray, List.set_cons_zero, List.set_cons_succ]
      refine wpAnyH_take (i := 6) (v := .pointer (some ⟨g, i.toNat, none⟩)) rfl (by kernel_rfl) (by kernel_rfl) (by kernel_rfl) (fun _ _ _ h => h) (Or.inl ⟨by rfl, ?hy6⟩) hHeld ?_
      case hy6 => intro w' _; go_simp
      simp only [List.getElem_toArray, List.getElem_cons_succ, List.getElem_cons_zero, Act.put, List.setIfInBounds_toArray, List.set_cons_zero, List.set_cons_succ]
      refine wpAnyH_take (i := 7) (v := .agg (nums .u8 ch).toArray) rfl (by kernel_rfl) (by kernel_rfl) (by kernel_rfl) (fun _ _ _ h => h) (yieldsIf_load_mid (by rfl) 80 (.tmp 30) rfl g i.toNat rfl (nums .u8 ch) _ (fun w' h => h.1) Tryd.underlying80 rfl (by rw [size_bl]; simp [nums, hcl])) hHeld ?_
      simp only [List.getElem_toArray, List.getElem_cons_succ, List.getElem_cons_zero, Act.put, List.setIfInBounds_toArray, List.set_cons_zero, List.set_cons_succ]
      refine wpAnyH_take (i := 8) (v := .agg (nums .u32 KT).toArray) rfl (by kernel_rfl) (by kernel_rfl) (by kernel_rfl) (fun _ _ _ h => h) (yieldsIf_load_mid (by rfl) 125 (.tmp 5) rfl w5.heap.size 0 rfl (nums .u32 KT) _ (fun w' h => h.2) Tryd.underlying125 rfl (by rw [size_tb]; rfl)) hHeld ?_
      simp only [List.getElem_toArray, List.getElem_cons_succ, List.getElem_cons_zero, Act.put, List.setIfInBounds_toArray, List.set_cons_zero, List.set_cons_succ]
      refine wpAnyH_ready (rs := [0]) (by kernel_rfl) (by simp) ?_
      refine AllReadyH.cons rfl (fun K hK => ?_) AllReadyH.nil
      simp only [List.getElem_toArray, List.getElem_cons_succ, List.getElem_cons_zero]
      rw [if_pos (by rfl)]
      have hsd : IsArr wr.drew w4.heap.size .u32 104 (cst P (i / 64).toNat) := HIS.out.drew
      refine wp_load_row 104 (.tmp 4) rfl w4.heap.size rfl _ _ (0, 0) _ hsd Tryd.underlying104 rfl (by rw [size_st]; simp [nums, cst_len]) ?_
      simp only [Act.put, List.setIfInBounds_toArray, List.set_cons_zero, List.set_cons_succ]
      refine hK.out _ _ hHeld (fun hHeld => ?_)
      clear hK K
      refine wpAnyH_ready (rs := [9]) (by kernel_rfl) (by simp) ?_
      refine AllReadyH.cons rfl (fun K hK => ?_) AllReadyH.nil
      simp only [List.getElem_toArray, List.getElem_cons_succ, List.getElem_cons_zero]
      rw [if_pos (by rfl)]
      go_simp
      refine (refblock_any wr.drew (cst P (i / 64).toNat) ch (cst_len _ _) HCL.out HCB.out).mono ?_
      rintro e w7 ⟨rfl, hb7⟩
      have hsz7 : wr.drew.heap.size = wr.heap.size := rfl
      have hlg : g < wr.drew.heap.size := Nat.lt_trans HG4.out (arr_lt HIS.out)
      refine hK.out _ _ ⟨fun j v hj => (hb7.cell (p := ⟨g, i.toNat + j, none⟩) hlg).trans (hHeld.1 j v hj), fun j v hj => (hb7.cell (p := ⟨w5.heap.size, 0 + j, none⟩) (arr_lt HIT.out)).trans (hHeld.2 j v hj)⟩ (fun hHeld => ?_)
      clear hK K
      have h7s := hsd.below hb7 (arr_lt hsd)
      refine wpAnyH_ready (rs := [10]) (by kernel_rfl) (by simp) ?_
      refine AllReadyH.cons rfl (fun K hK => ?_) AllReadyH.nil
      simp only [List.getElem_toArray, List.getElem_cons_succ, List.getElem_cons_zero]
      rw [if_pos (by rfl)]
      refine wp_store_row 104 (.tmp 4) (.tmp 33) rfl w4.heap.size (nums .u32 (blockP (cst P (i / 64).toNat) ch)).toArray rfl rfl 104 _ h7s (by rw [size_st]; simp [nums, blockP_len _ _ (cst_len P _)]) (by simp [nums, blockP_len _ _ (cst_len P _), cst_len]) (by simp [nums, Value.oneCell']) ?_
      simp only [Act.put, List.setIfInBounds_toArray, List.set_cons_zero, List.set_cons_succ]
      have hgn : g ≠ w4.heap.size := Nat.ne_of_lt HG4.out
      have htn : w5.heap.size ≠ w4.heap.size := Nat.ne_of_gt HB5s.out
      refine hK.out _ _ ⟨fun j v hj => (cell_setRow_other w7 w4.heap.size _ ⟨g, i.toNat + j, none⟩ hgn).trans (hHeld.1 j v hj), fun j v hj => (cell_setRow_other w7 w4.heap.size _ ⟨w5.heap.size, 0 + j, none⟩ htn).trans (hHeld.2 j v hj)⟩ (fun hHeld => ?_)
      clear hK K
      refine wpAnyH_done (by kernel_rfl) ?_ _
      have HB7 := Aside0.mk hb7
      have H7S := Aside0.mk h7s
      clear hb7 h7s hHeld hcr htr hsd
      go_wp2
      go_roundg ((P.length / 64) - ((i + 64) / 64).toNat)
      case measure => have := HA.out; omega
      case rel =>
        refine ⟨i + 64, rfl, ⟨⟨by omega, by omega, by have := HA.out; omega⟩⟩, ⟨?_⟩, ⟨?_⟩, ⟨?_⟩, ⟨fun j => ?_⟩⟩
        · rw [show ((i + 64) / 64).toNat = (i / 64).toNat + 1 from by omega, cst, ← HCH.out]
          exact arr_row H7S.out _
        · exact arr_rowfar ((show IsArr wr.drew w5.heap.size .u32 125 KT from HIT.out.drew).below HB7.out (arr_lt HIT.out)) htn _
        · exact below_row ((below_drew1 HIB.out).trans (HB7.out.mono (Nat.le_trans HB4s.out (Nat.le_of_lt (arr_lt HIS.out))))) HB4s.out _
        · exact (cell_setRow_other w7 w4.heap.size _ ⟨g, j, none⟩ hgn).trans ((HB7.out.cell (p := ⟨g, j, none⟩) hlg).trans (HIC.out j))
    · have d1 : decide (i < (P.length : Int)) = false := decide_eq_false c1
      have HIE := Aside0.mk (show (i / 64).toNat = P.length / 64 from by have := HA.out; omega)
      obtain ⟨st, hst⟩ : ∃ x, x = cst P (i / 64).toNat := ⟨_, rfl⟩
      rw [← hst] at HIS
      have HSL := Aside0.mk (show st.length = 8 from by rw [hst]; exact cst_len _ _)
      have HSE := Aside0.mk (show sumP bs = outB st from by rw [hst, HIE.out, HPE.out]; exact sum_cst bs)
      have HRW := Aside0.mk (HR0.out.below HIB.out (Nat.lt_succ_self _))
      have HBW := Aside0.mk ((below_alloc (B0 w) (.cells (nums .u8 (List.replicate 32 0)).toArray 24)).trans (HIB.out.mono (Nat.le_succ _)))
      clear hst
      obtain ⟨wE, rfl⟩ : ∃ x, x = wr := ⟨_, rfl⟩
      have HW4E := Aside0.mk (show w4.heap.size < wE.heap.size from arr_lt HIS.out)
      go_wp2
      go_loopg [8] 32 (fun kq v8 w' => ∃ (k : Int), v8 = .int .i64 k ∧ Aside0 (0 ≤ k ∧ (kq : Int) + k = 32) ∧ Aside0 (IsArr w' wE.heap.size .u8 24 (mixB st k.toNat)) ∧ Aside0 (IsArr w' w4.heap.size .u32 104 st) ∧ Aside0 (Below w.heap.size w w') ∧ Aside0 (IsArr w' w.heap.size .u8 24 (List.replicate 32 0)))
      case atStart => exact ⟨0, rfl, ⟨⟨by omega, by omega⟩⟩, ⟨blk_new wE _⟩, ⟨blk_alloc HIS.out _⟩, ⟨below_alloc HBW.out _⟩, ⟨blk_alloc HRW.out _⟩⟩
      case round =>
        obtain ⟨k, rfl, HA5, HR5, HS5, HB5', HO5⟩ := hrel
        have hk0 : 0 ≤ k := HA5.out.1
        have hkm : k ≤ 32 := by have := HA5.out; omega
        by_cases c5 : k < 32
        · have d5 : decide (k < 32) = true := decide_eq_true c5
          have hq0 : 0 ≤ k / 4 := by omega
          have hq1 : k / 4 < 8 := by omega
          have hr0 : 0 ≤ k % 4 := by omega
          have hr1 : k % 4 < 4 := by omega
          have es := HS5.out.cell (k / 4) hq0 (by rw [HSL.out]; exact hq1)
          have eo := HR5.out.cell k hk0 (by rw [mixB_len _ _ (by omega)]; exact c5)
          have fo := HR5.out.frozen k.toNat
          obtain ⟨y, hy⟩ : ∃ y, y = rd st (k / 4) := ⟨_, rfl⟩
          rw [← hy] at es
          have k2 : IntKind.i64.wrap (8 * (k % 4)) = 8 * (k % 4) := IntWalk.i64_in _ (by omega)
          have k3 : IntKind.i64.wrap (24 - 8 * (k % 4)) = 24 - 8 * (k % 4) := IntWalk.i64_in _ (by omega)
          have k4 : IntKind.u64.wrap (24 - 8 * (k % 4)) = 24 - 8 * (k % 4) := by rw [IntKind.wrap_u64]; omega
          have HV := Aside0.mk (show (outB st).getD k.toNat 0 = y / 2 ^ (24 - 8 * (k % 4)).toNat % 256 from by
            rw [outB_get _ _ (by omega), show k.toNat / 4 = (k / 4).toNat from by omega, show 24 - 8 * (k.toNat % 4) = (24 - 8 * (k % 4)).toNat from by omega, hy]
            rfl)
          clear hy
          go_wp2
          go_roundg (32 - (k + 1).toNat)
          case measure => have := HA5.out; omega
          case rel =>
            have hz := HB5'.out.size
            refine ⟨k + 1, rfl, ⟨⟨by omega, by omega⟩⟩, ⟨?_⟩, ⟨HS5.out.far (by have := HW4E.out; dsimp only; omega) _⟩, ⟨HB5'.out.setCell (p := ⟨wE.heap.size, k.toNat, none⟩) (by have := HBW.out.size; dsimp only; omega) _⟩, ⟨HO5.out.far (by have := HW4E.out; have := HB4s.out; dsimp only; omega) _⟩⟩
            have h := HR5.out.put k.toNat (y / 2 ^ (24 - 8 * (k % 4)).toNat % 256)
            rw [← HV.out, mixB_set _ _ (by omega), HV.out, show k.toNat + 1 = (k + 1).toNat from by omega] at h
            exact h
        · have d5 : decide (k < 32) = false := decide_eq_false c5
          have HF : Aside0 (IsArr wr wE.heap.size .u8 24 (outB st)) := ⟨by
            have h := HR5.out
            rw [show k.toNat = 32 from by omega, mixB, List.take_of_length_le (by rw [outB_len]; decide), Nat.sub_self, List.replicate_zero, List.append_nil] at h
            exact h⟩
          have HLF := Aside0.mk (arr_load (P := Tryd.prog) HF.out Tryd.underlying24 rfl (by rw [size_out, outB_len]))
          have HSF := Aside0.mk (arr_store (P := Tryd.prog) (ys := outB st) HO5.out (by rw [size_out]; rfl) (by rw [outB_len]; rfl))
          go_wp2_with (first | (refine load_ev (t := 24) (p := .tmp 7) rfl rfl HLF.out ?_) | (refine store_event rfl (t := 24) (p := 2) (v := .tmp 51) rfl rfl (w1 := wr.setRow w.heap.size (nums .u8 (outB st)).toArray) ?hr ?_; (case hr => exact run_store_of rfl HSF.out); intro w2 hw2; subst hw2))
          refine bodyPost_ret (v := .agg (nums .u8 (outB st)).toArray) ?_ ?_ ?_
          · exact results_c rfl _ _ w.heap.size 24 _ (0, 0) _ rfl (arr_row HO5.out (outB st)) Tryd.underlying24 rfl (by rw [size_out]; simp [nums, outB_len])
          · rfl
          · rw [HSE.out]
            exact ⟨rfl, below_row HB5'.out (Nat.le_refl _) _⟩

end Go.Proofs.YtogimlinfkbapaaDoor.HShaX
