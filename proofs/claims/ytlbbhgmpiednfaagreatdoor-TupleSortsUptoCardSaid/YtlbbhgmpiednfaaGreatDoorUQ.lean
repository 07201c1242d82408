/- The reference's Same, Compare, Few. -/
import Derived.Test.YtlbbhgmpiednfaaGreatDoorUU
import Derived.Test.YtlbbhgmpiednfaaGreatDoorUS
import Derived.Test.YtlbbhgmpiednfaaGreatDoorUG
namespace Go.Proofs.YtlbbhgmpiednfaaGreatDoor.HTupSm
open Go.RowKit Go.Proofs.YtlbbhgmpiednfaaGreatDoorW.PrintWords Go.Proofs.YtlbbhgmpiednfaaGreatDoor.HLib Go.Proofs.YtlbbhgmpiednfaaGreatDoor.HGr Go.Proofs.YtlbbhgmpiednfaaGreatDoor.HNameP Go.Proofs.YtlbbhgmpiednfaaGreatDoor.HNameR Go.Proofs.YtlbbhgmpiednfaaGreatDoor.HName Go.Proofs.YtlbbhgmpiednfaaGreatDoor.HTupP Go.Proofs.YtlbbhgmpiednfaaGreatDoor.HTupR Go.Proofs.YtlbbhgmpiednfaaGreatDoor.HTupRf Go.Proofs.YtlbbhgmpiednfaaGreatDoor.HTupV Go.Proofs.YtlbbhgmpiednfaaGreatDoor.HTupE Go.Proofs.YtlbbhgmpiednfaaGreatDoor.HTupO Go.Proofs.YtlbbhgmpiednfaaGreatDoor.HTupC Go.Proofs.YtlbbhgmpiednfaaGreatDoor.HCmp Go.Proofs.YtlbbhgmpiednfaaGreatDoor.HPr Go.Proofs.YtlbbhgmpiednfaaGreatDoor.HPt Go.Proofs.YtlbbhgmpiednfaaGreatDoor.PTupleSorts
set_option linter.unusedVariables false
set_option linter.unusedSimpArgs false
/-- An element of a slice of tuples, loaded. -/
theorem el {w : World} {A : Option Addr} {xs : List S32} (hc : Kd.C k32 w A xs.length xs) (j : Nat) (hj : j < xs.length) : ∃ ad, A = some ad ∧ ∀ w', Below w.heap.size w w' → (Instr.loadAt 32 (.pointer (some (ad.add (j * 6))))).run Tryz.prog w' = .ok (tv xs[j]) w' := by
  obtain ⟨ad, hAd, b1, b2, b3, b4, b5, b6⟩ := at_T32 hc j (by omega) (by omega)
  subst hAd
  rw [Int.toNat_natCast] at b1 b2 b3 b4 b5 b6
  have hx : rd_T32 xs j = xs[j] := by
    unfold rd_T32
    rw [List.getD_eq_getElem?_getD, Int.toNat_natCast, List.getElem?_eq_getElem hj, Option.getD_some]
  rw [hx] at b1 b2 b3 b4 b5 b6
  refine ⟨ad, rfl, fun w' hb => ?_⟩
  have hl := cell_lt b1
  exact load_T ((hb.cell (p := ad.add (j * 6)) hl).trans b1) ((hb.cell (p := ⟨(ad.add (j * 6)).block, _, none⟩) hl).trans b2) ((hb.cell (p := ⟨(ad.add (j * 6)).block, _, none⟩) hl).trans b3) ((hb.cell (p := ⟨(ad.add (j * 6)).block, _, none⟩) hl).trans b4) ((hb.cell (p := ⟨(ad.add (j * 6)).block, _, none⟩) hl).trans b5) ((hb.cell (p := ⟨(ad.add (j * 6)).block, _, none⟩) hl).trans b6)
theorem take_next {xs ys : List S32} {j : Nat} (h1 : j < xs.length) (h2 : j < ys.length) (h : xs.take j = ys.take j) (he : xs[j] = ys[j]) : xs.take (j + 1) = ys.take (j + 1) := by
  rw [List.take_succ_eq_append_getElem h1, List.take_succ_eq_append_getElem h2, h, he]

set_option maxRecDepth 20000 in
set_option maxHeartbeats 8000000 in
theorem tsame_any (A B : Option Addr) (c d : Nat) (xs ys : List S32) (hl : xs.length ≤ 1000000) (hm : ys.length ≤ 1000000) (w : World) (hA : Kd.C k32 w A xs.length xs) (hB : Kd.C k32 w B ys.length ys) :
    Calls Tryz.prog 11 #[.slice A xs.length c, .slice B ys.length d] w fun e w' => e = .returned (.bool (decide (xs = ys))) ∧ Below w.heap.size w w' := by
  have HA := Aside0.mk hA
  have HB := Aside0.mk hB
  have HL := Aside0.mk (And.intro hl hm)
  clear hA hB hl hm
  by_cases hn : xs.length = ys.length
  · have n1 : ((xs.length : Int) != (ys.length : Int)) = false := by rw [hn]; simp
    have n2 : (xs.length : Int) = (ys.length : Int) := by rw [hn]
    have HN := Aside0.mk hn
    obtain ⟨n, hnn⟩ : ∃ n, n = ys.length := ⟨_, rfl⟩
    rw [hn, ← hnn]
    have HNX := Aside0.mk (show xs.length = n from by rw [hnn, hn])
    have HNY := Aside0.mk hnn.symm
    have HNL := Aside0.mk (show n ≤ 1000000 from by have := HL.out; omega)
    clear n1 n2 hn hnn
    go_enter Tryz.func11, Tryz.ntmps11
    go_wp2
    go_loopg [5] n (fun kq v5 w' => ∃ (j q : Nat), v5 = .int .i64 j ∧ w' = w.drewN q ∧ Aside0 (kq + j = n) ∧ Aside0 (xs.take j = ys.take j))
    case atStart => exact ⟨0, 0, rfl, rfl, ⟨rfl⟩, ⟨rfl⟩⟩
    case round =>
      obtain ⟨j, q0, rfl, rfl, HJ, HT⟩ := hrel
      by_cases cj : j < n
      · have f1 : decide (j < n) = true := decide_eq_true cj
        have f2 : decide ((j : Int) < (n : Int)) = true := decide_eq_true (by omega)
        have f3 : (j : Int) < (n : Int) := by omega
        have f4 : IntKind.i64.wrap ((j : Int) + 1) = (j : Int) + 1 := by rw [IntKind.wrap_i64]; have := HNL.out; omega
        have f5 : (0 : Int) ≤ (j : Int) := by omega
        have hjx : j < xs.length := by have := HNX.out; omega
        have hjy : j < ys.length := by have := HNY.out; omega
        obtain ⟨ad, hAd, hx⟩ := el HA.out j hjx
        obtain ⟨bd, hBd, hy⟩ := el HB.out j hjy
        subst hAd hBd
        obtain ⟨vx, hvx⟩ : ∃ v, v = tv xs[j] := ⟨_, rfl⟩
        obtain ⟨vy, hvy⟩ : ∃ v, v = tv ys[j] := ⟨_, rfl⟩
        obtain ⟨b, hb⟩ : ∃ b, b = !decide (xs[j] = ys[j]) := ⟨_, rfl⟩
        have HX := Aside0.mk (show ∀ q, (Instr.loadAt 32 (.pointer (some (ad.add (j * 6))))).run Tryz.prog (w.drewN q) = .ok vx (w.drewN q) from fun q => by rw [hvx]; exact hx _ (pw_below_drewN (B0 w) q))
        have HY := Aside0.mk (show ∀ q, (Instr.loadAt 32 (.pointer (some (bd.add (j * 6))))).run Tryz.prog (w.drewN q) = .ok vy (w.drewN q) from fun q => by rw [hvy]; exact hy _ (pw_below_drewN (B0 w) q))
        have heq : ∀ w' : World, (binOp .neq 32 vx vy).run Tryz.prog w' = .ok (.bool b) w' := fun w' => by rw [hvx, hvy, hb]; exact ne_T _ _ _
        have hgd : ∀ (op : BinOp) (x y : Operand) (w' : World), (eqGuard op 32 x y vx vy).run Tryz.prog w' = .ok () w' := fun op x y w' => by rw [hvx, hvy]; exact run_eqGuard_agg w' op _ x y _ _ (by kernel_rfl)
        have HBB := Aside0.mk (And.intro hjx (And.intro hjy (show ∀ (h1 : j < xs.length) (h2 : j < ys.length), b = !decide (xs[j] = ys[j]) from fun _ _ => hb)))
        clear hvx hvy hb hx hy hjx hjy
        go_upto_region 6 with fail
        refine wp_region_held_drew (S := fun w' => ∃ q, w' = w.drewN q) (by kernel_rfl) ⟨q0 + 1, rfl⟩ (fun hHeld => ?_)
        refine wpAnyH_take (i := 0) (v := .slice (some ad) n c) rfl (by kernel_rfl) (by kernel_rfl) (by kernel_rfl) (fun _ _ _ h => h) (Or.inl ⟨by rfl, ?hy0⟩) hHeld ?_
        case hy0 => intro w' hSw; go_simp
        simp only [List.getElem_toArray, List.getElem_cons_succ, List.getElem_cons_zero, Act.put, List.setIfInBounds_toArray, List.set_cons_zero, List.set_cons_succ]
        refine wpAnyH_take (i := 1) (v := .int .i64 (j : Int)) rfl (by kernel_rfl) (by kernel_rfl) (by kernel_rfl) (fun _ _ _ h => h) (Or.inl ⟨by rfl, ?hy1⟩) hHeld ?_
        case hy1 => intro w' hSw; go_simp
        simp only [List.getElem_toArray, List.getElem_cons_succ, List.getElem_cons_zero, Act.put, List.setIfInBounds_toArray, List.set_cons_zero, List.set_cons_succ]
        refine wpAnyH_take (i := 2) (v := .pointer (some (ad.add (j * 6)))) rfl (by kernel_rfl) (by kernel_rfl) (by kernel_rfl) (fun _ _ _ h => h) (Or.inl ⟨by rfl, ?hy2⟩) hHeld ?_
        case hy2 => intro w' hSw; go_simp
        simp only [List.getElem_toArray, List.getElem_cons_succ, List.getElem_cons_zero, Act.put, List.setIfInBounds_toArray, List.set_cons_zero, List.set_cons_succ]
        refine wpAnyH_take (i := 3) (v := vx) rfl (by kernel_rfl) (by kernel_rfl) (by kernel_rfl) (fun _ _ _ h => h) (yieldsIf_load (by rfl) 32 (.tmp 19) rfl vx (fun w' h => by obtain ⟨q, rfl⟩ := h; exact HX.out q)) hHeld ?_
        simp only [List.getElem_toArray, List.getElem_cons_succ, List.getElem_cons_zero, Act.put, List.setIfInBounds_toArray, List.set_cons_zero, List.set_cons_succ]
        refine wpAnyH_take (i := 4) (v := .slice (some bd) n d) rfl (by kernel_rfl) (by kernel_rfl) (by kernel_rfl) (fun _ _ _ h => h) (Or.inl ⟨by rfl, ?hy4⟩) hHeld ?_
        case hy4 => intro w' hSw; go_simp
        simp only [List.getElem_toArray, List.getElem_cons_succ, List.getElem_cons_zero, Act.put, List.setIfInBounds_toArray, List.set_cons_zero, List.set_cons_succ]
        refine wpAnyH_take (i := 5) (v := .int .i64 (j : Int)) rfl (by kernel_rfl) (by kernel_rfl) (by kernel_rfl) (fun _ _ _ h => h) (Or.inl ⟨by rfl, ?hy5⟩) hHeld ?_
        case hy5 => intro w' hSw; go_simp
        simp only [List.getElem_toArray, List.getElem_cons_succ, List.getElem_cons_zero, Act.put, List.setIfInBounds_toArray, List.set_cons_zero, List.set_cons_succ]
        refine wpAnyH_take (i := 6) (v := .pointer (some (bd.add (j * 6)))) rfl (by kernel_rfl) (by kernel_rfl) (by kernel_rfl) (fun _ _ _ h => h) (Or.inl ⟨by rfl, ?hy6⟩) hHeld ?_
        case hy6 => intro w' hSw; go_simp
        simp only [List.getElem_toArray, List.getElem_cons_succ, List.getElem_cons_zero, Act.put, List.setIfInBounds_toArray, List.set_cons_zero, List.set_cons_succ]
        refine wpAnyH_take (i := 7) (v := vy) rfl (by kernel_rfl) (by kernel_rfl) (by kernel_rfl) (fun _ _ _ h => h) (yieldsIf_load (by rfl) 32 (.tmp 23) rfl vy (fun w' h => by obtain ⟨q, rfl⟩ := h; exact HY.out q)) hHeld ?_
        simp only [List.getElem_toArray, List.getElem_cons_succ, List.getElem_cons_zero, Act.put, List.setIfInBounds_toArray, List.set_cons_zero, List.set_cons_succ]
        refine wpAnyH_take (i := 8) (v := .bool b) rfl (by kernel_rfl) (by kernel_rfl) (by kernel_rfl) (fun _ _ _ h => h) (Or.inl ⟨by rfl, ?hy8⟩) hHeld ?_
        case hy8 => intro w' hSw; go_simp
        simp only [List.getElem_toArray, List.getElem_cons_succ, List.getElem_cons_zero, Act.put, List.setIfInBounds_toArray, List.set_cons_zero, List.set_cons_succ]
        refine wpAnyH_done (by kernel_rfl) ?_ _
        obtain ⟨q, hq⟩ := hHeld
        rw [hq]
        clear hq heq hgd HX HY
        cases b with
        | true =>
          go_wp2
          go_ret
          have hne : ¬ xs = ys := by
            obtain ⟨h1, h2, h3⟩ := HBB.out
            intro e
            have h4 := h3 h1 h2
            subst e
            simp at h4
          rw [decide_eq_false hne]
          exact ⟨rfl, pw_below_drewN (B0 w) _⟩
        | false =>
          have HT2 := Aside0.mk (show xs.take (j + 1) = ys.take (j + 1) from by
            obtain ⟨h1, h2, h3⟩ := HBB.out
            have h4 := h3 h1 h2
            exact take_next h1 h2 HT.out (by simpa using h4))
          go_wp2
          go_roundg (n - (j + 1))
          case measure => have := HJ.out; omega
          case rel => exact ⟨j + 1, q, rfl, rfl, ⟨by have := HJ.out; omega⟩, HT2⟩
      · obtain rfl : j = n := by have := HJ.out; omega
        have f1 : decide (j < j) = false := decide_eq_false (by omega)
        have HE := Aside0.mk (show xs = ys from by
          have h1 := HT.out
          rw [← HNX.out, List.take_length, HNX.out, ← HNY.out, List.take_length] at h1
          exact h1)
        go_wp2
        go_ret
        rw [decide_eq_true HE.out]
        exact ⟨rfl, pw_below_drewN (B0 w) _⟩
  · have n1 : ((xs.length : Int) != (ys.length : Int)) = true := by simp; omega
    have n2 : ¬ (xs.length : Int) = (ys.length : Int) := by omega
    have HD := Aside0.mk (show decide (xs = ys) = false from decide_eq_false fun e => hn (by rw [e]))
    go_enter Tryz.func11, Tryz.ntmps11
    go_wp2
    go_ret
    rw [HD.out]
    exact ⟨rfl, B0 w⟩
/-- The reference's Compare. -/
theorem refcmp_any (x y : S32) (hx : ∀ s ∈ tl x, s.size ≤ 1048576) (hy : ∀ s ∈ tl y, s.size ≤ 1048576) (w : World) : Calls Tryz.prog 14 #[tv x, tv y] w fun e w' => e = .returned (.int .i64 (cmpT x y)) ∧ Below w.heap.size w w' := by
  refine vestryref18_Compare.calls 3000000 x.f0.f0 x.f0.f1 x.f1 x.f2.f0 x.f2.f1 x.f3 y.f0.f0 y.f0.f1 y.f1 y.f2.f0 y.f2.f1 y.f3 (cmpT x y) w ?_
  have step : ∀ (n k j : Nat), j + n = 6 → n < k → 2900000 + n ≤ k → vestryref18_Compare.l0 k (tl x) (tl y) j = some (cmpB ((tl x).drop j) ((tl y).drop j)) := by
    intro n
    induction n with
    | zero =>
      intro k j hj hk hk2
      obtain rfl : j = 6 := by omega
      obtain ⟨k, rfl⟩ : ∃ k', k = k' + 1 := ⟨k - 1, by omega⟩
      rw [vestryref18_Compare.l0, if_neg (by decide)]
      rfl
    | succ n ih =>
      intro k j hj hk hk2
      obtain ⟨k, rfl⟩ : ∃ k', k = k' + 1 := ⟨k - 1, by omega⟩
      have lx : (tl x).length = 6 := rfl
      have ly : (tl y).length = 6 := rfl
      have h1 : j < (tl x).length := by omega
      have h2 : j < (tl y).length := by omega
      have rx : rdOf ByteArray.empty (tl x) (j : Int) = (tl x)[j] := by unfold rdOf; rw [List.getD_eq_getElem?_getD, Int.toNat_natCast, List.getElem?_eq_getElem h1, Option.getD_some]
      have ry : rdOf ByteArray.empty (tl y) (j : Int) = (tl y)[j] := by unfold rdOf; rw [List.getD_eq_getElem?_getD, Int.toNat_natCast, List.getElem?_eq_getElem h2, Option.getD_some]
      have sx := hx _ (List.getElem_mem h1)
      have sy := hy _ (List.getElem_mem h2)
      rw [vestryref18_Compare.l0, if_pos (by omega), if_pos (by omega), if_pos (by omega), if_pos (by omega), rx, ry, order_eq _ _ ⟨by omega, by omega⟩ k (by omega), Option.bind_some]
      rw [List.drop_eq_getElem_cons h1, List.drop_eq_getElem_cons h2, cmpB_cons]
      split
      · rename_i h
        rw [show wrap64 ((j : Int) + 1) = ((j + 1 : Nat) : Int) from by unfold wrap64; omega]
        exact ih k (j + 1) (by omega) (by omega) (by omega)
      · rfl
  exact step 6 3000000 0 rfl (by decide) (by decide)
def shortS (x : S32) : Bool := decide ((x.f0.f0.size + x.f0.f1.size + x.f1.size + x.f2.f0.size + x.f2.f1.size + x.f3.size) ≤ 1500)
theorem shortS_eq (x : S32) (h : x.f0.f0.size + x.f0.f1.size + x.f1.size + x.f2.f0.size + x.f2.f1.size + x.f3.size ≤ 9223372036854775807) : vestryref18_Short.f x.f0.f0 x.f0.f1 x.f1 x.f2.f0 x.f2.f1 x.f3 = some (shortS x) := by
  unfold vestryref18_Short.f
  rw [if_pos (by omega), if_pos (by rw [ByteArray.size_append]; omega), if_pos (by rw [ByteArray.size_append, ByteArray.size_append]; omega), if_pos (by rw [ByteArray.size_append, ByteArray.size_append, ByteArray.size_append]; omega), if_pos (by rw [ByteArray.size_append, ByteArray.size_append, ByteArray.size_append, ByteArray.size_append]; omega)]
  congr 1
  unfold shortS
  simp only [ByteArray.size_append]
  apply decide_eq_decide.2
  omega
def fewS (xs : List S32) : Bool := xs.all shortS && decide (xs.length ≤ 60)
theorem few_any (A : Option Addr) (c : Nat) (xs : List S32) (hl : xs.length ≤ 1048576) (hs : ∀ x ∈ xs, x.f0.f0.size + x.f0.f1.size + x.f1.size + x.f2.f0.size + x.f2.f1.size + x.f3.size ≤ 1048576) (hc : xs.length ≤ c) (w : World) (hA : Kd.C k32 w A xs.length xs) :
    Calls Tryz.prog 9 #[.slice A xs.length c] w fun e w' => e = .returned (.bool (fewS xs)) ∧ Below w.heap.size w w' := by
  refine vestryref18_Few.calls (xs.length + 1) A c xs (fewS xs) w hA hc ?_
  have step : ∀ (n k j : Nat), j + n = xs.length → n < k → vestryref18_Few.l0 k xs j = some ((xs.drop j).all shortS && decide (xs.length ≤ 60)) := by
    intro n
    induction n with
    | zero =>
      intro k j hj hk
      obtain ⟨k, rfl⟩ : ∃ k', k = k' + 1 := ⟨k - 1, by omega⟩
      rw [vestryref18_Few.l0, if_neg (by omega), List.drop_eq_nil_of_le (by omega), List.all_nil, Bool.true_and]
      congr 1
      apply decide_eq_decide.2
      omega
    | succ n ih =>
      intro k j hj hk
      obtain ⟨k, rfl⟩ : ∃ k', k = k' + 1 := ⟨k - 1, by omega⟩
      have h1 : j < xs.length := by omega
      have rx : rd_T32 xs j = xs[j] := by unfold rd_T32; rw [List.getD_eq_getElem?_getD, Int.toNat_natCast, List.getElem?_eq_getElem h1, Option.getD_some]
      have sx := hs _ (List.getElem_mem h1)
      rw [vestryref18_Few.l0, if_pos (by omega), if_pos (by omega), rx, shortS_eq _ (by omega), Option.bind_some, List.drop_eq_getElem_cons h1, List.all_cons]
      cases shortS xs[j] with
      | false => rfl
      | true =>
        rw [if_pos rfl, show wrap64 ((j : Int) + 1) = ((j + 1 : Nat) : Int) from by unfold wrap64; omega, ih k (j + 1) (by omega) (by omega)]
        rfl
  exact step xs.length (xs.length + 1) 0 (by omega) (by omega)
end Go.Proofs.YtlbbhgmpiednfaaGreatDoor.HTupSm
/- The reference's Put1. -/
namespace Go.Proofs.YtlbbhgmpiednfaaGreatDoor.HTupPt
open Go.RowKit Go.Proofs.YtlbbhgmpiednfaaGreatDoorW.PrintWords Go.Proofs.YtlbbhgmpiednfaaGreatDoor.HLib Go.Proofs.YtlbbhgmpiednfaaGreatDoor.HGr Go.Proofs.YtlbbhgmpiednfaaGreatDoor.HNameP Go.Proofs.YtlbbhgmpiednfaaGreatDoor.HName Go.Proofs.YtlbbhgmpiednfaaGreatDoor.HTupP Go.Proofs.YtlbbhgmpiednfaaGreatDoor.HTupR Go.Proofs.YtlbbhgmpiednfaaGreatDoor.HTupRf Go.Proofs.YtlbbhgmpiednfaaGreatDoor.HTupV Go.Proofs.YtlbbhgmpiednfaaGreatDoor.HTupE Go.Proofs.YtlbbhgmpiednfaaGreatDoor.HTupO Go.Proofs.YtlbbhgmpiednfaaGreatDoor.HTupC Go.Proofs.YtlbbhgmpiednfaaGreatDoor.HCmp Go.Proofs.YtlbbhgmpiednfaaGreatDoor.HTupSm Go.Proofs.YtlbbhgmpiednfaaGreatDoor.HPt Go.Proofs.YtlbbhgmpiednfaaGreatDoor.PTupleSorts
set_option linter.unusedVariables false
set_option linter.unusedSimpArgs false
noncomputable def ins (t : S32) : List S32 → List S32
  | [] => [t]
  | x :: l => if cmpT x t < 0 then x :: ins t l else if x = t then x :: l else t :: x :: l
theorem ins_at (t : S32) : ∀ (xs : List S32) (j : Nat), j ≤ xs.length → (∀ x ∈ xs.take j, cmpT x t < 0) → (∀ (h : j < xs.length), ¬ cmpT xs[j] t < 0 ∧ xs[j] ≠ t) → ins t xs = xs.take j ++ [t] ++ xs.drop j
  | [], j, hj, _, _ => by simp [ins]
  | x :: l, 0, hj, _, h => by
    have h0 := h (by simp)
    simp only [List.getElem_cons_zero] at h0
    simp [ins, h0.1, h0.2]
  | x :: l, j + 1, hj, hl, h => by
    have h1 : cmpT x t < 0 := hl x (by simp)
    have ih := ins_at t l j (by simpa using hj) (fun y hy => hl y (by simp [hy])) (fun h2 => by have := h (by simpa using h2); simpa using this)
    simp [ins, h1, ih]
theorem ins_eq (t : S32) : ∀ (xs : List S32) (j : Nat) (hj : j < xs.length), (∀ x ∈ xs.take j, cmpT x t < 0) → ¬ cmpT xs[j] t < 0 → xs[j] = t → ins t xs = xs
  | [], j, hj, _, _, _ => by simp at hj
  | x :: l, 0, hj, _, h1, h2 => by
    simp only [List.getElem_cons_zero] at h1 h2
    rw [ins, if_neg h1, if_pos h2]
  | x :: l, j + 1, hj, hl, h1, h2 => by
    have h3 : cmpT x t < 0 := hl x (by simp)
    have ih := ins_eq t l j (by simpa using hj) (fun y hy => hl y (by simp [hy])) (by simpa using h1) (by simpa using h2)
    simp [ins, h3, ih]
def Sh (x : S32) : Prop := ∀ s ∈ tl x, s.size ≤ 1048576
theorem take_less {xs : List S32} {t : S32} {j : Nat} (hj : j < xs.length) (h : ∀ x ∈ xs.take j, cmpT x t < 0) (h1 : cmpT xs[j] t < 0) : ∀ x ∈ xs.take (j + 1), cmpT x t < 0 := by
  intro x hx
  rw [List.take_succ_eq_append_getElem hj, List.mem_append] at hx
  rcases hx with hx | hx
  · exact h x hx
  · rw [List.mem_singleton.1 hx]; exact h1

set_option maxRecDepth 20000 in
set_option maxHeartbeats 8000000 in
theorem put1_any (base c : Nat) (A : Option Addr) (xs : List S32) (t : S32) (hl : xs.length ≤ 1000000) (hs : ∀ x ∈ xs, Sh x) (ht : Sh t) (w : World) (hR : Kd.R k32 32 w base (fun _ => True) (.slice A xs.length c) xs) (hb : base ≤ w.heap.size) :
    Calls Tryz.prog 35 #[.slice A xs.length c, tv t] w fun e w' => ∃ v, e = .returned v ∧ Kd.R k32 32 w' base (fun _ => True) v (ins t xs) ∧ Below w.heap.size w w' := by
  obtain ⟨W, hW⟩ : ∃ W, W = w.alloc (.cells (tc t).toArray 32) := ⟨_, rfl⟩
  have HBW := Aside0.mk (show Below w.heap.size w W from by rw [hW]; exact below_alloc (B0 w) _)
  have HK := Aside0.mk (show W.heap[w.heap.size]? = some (.cells (tc t).toArray 32 (0, 0)) from by rw [hW]; exact blk_new w _)
  obtain ⟨gb, hgb⟩ : ∃ g, g = w.heap.size := ⟨_, rfl⟩
  rw [← hgb] at HK
  have HR := Aside0.mk (Kd.R_below hR HBW.out)
  have HC := Aside0.mk (Kd.R_reads' HR.out).2.2
  have HCAP := Aside0.mk (Kd.R_reads' HR.out).2.1
  have HL := Aside0.mk hl
  have HSH := Aside0.mk (And.intro hs ht)
  have HBS := Aside0.mk hb
  obtain ⟨n, hn⟩ : ∃ n, n = xs.length := ⟨_, rfl⟩
  have HN := Aside0.mk hn
  rw [← hn]
  clear hR hb hl hs ht
  go_enter Tryz.func35, Tryz.ntmps35
  go_upto_region 1 with fail
  rw [← hW, ← hgb]
  clear hW hgb hn
  obtain ⟨vt, hvt⟩ : ∃ v, v = tv t := ⟨_, rfl⟩
  have HVT := Aside0.mk hvt
  have HLT := Aside0.mk (show ∀ x, Below W.heap.size W x → (Instr.loadAt 32 (.pointer (some ⟨gb, 0, none⟩))).run Tryz.prog x = .ok vt x from fun x h => by
    rw [hvt]
    have hk := blk_below HK.out h
    exact load_T (ad := ⟨gb, 0, none⟩) ((blk_cell hk 0).trans rfl) ((blk_cell hk 1).trans rfl) ((blk_cell hk 2).trans rfl) ((blk_cell hk 3).trans rfl) ((blk_cell hk 4).trans rfl) ((blk_cell hk 5).trans rfl))
  try rw [show (Value.agg #[.string t.f0.f0, .string t.f0.f1, .string t.f1, .string t.f2.f0, .string t.f2.f1, .string t.f3]) = vt from hvt.symm]
  clear hvt
  go_wp2
  go_loopg [5] n (fun kq v5 w' => ∃ (j : Nat), v5 = .int .i64 j ∧ Aside0 (kq + j = n) ∧ Aside0 (∀ x ∈ xs.take j, cmpT x t < 0) ∧ Aside0 (Below W.heap.size W w'))
  case atStart => exact ⟨0, rfl, ⟨rfl⟩, ⟨fun x hx => by simp at hx⟩, ⟨B0 W⟩⟩
  case round =>
    obtain ⟨j, rfl, HJ, HT, HBX⟩ := hrel
    have HJN := Aside0.mk (show j ≤ n from by have := HJ.out; omega)
    have g1 : IntKind.i64.wrap ((j : Int) + 1) = (j : Int) + 1 := by rw [IntKind.wrap_i64]; have := HL.out; have := HN.out; have := HJN.out; omega
    by_cases cj : j < n
    · have hjx : j < xs.length := by have := HN.out; omega
      have f1 : decide (j < n) = true := decide_eq_true cj
      have f2 : decide ((j : Int) < (n : Int)) = true := decide_eq_true (by omega)
      have f3 : (j : Int) < (n : Int) := by omega
      have f5 : (0 : Int) ≤ (j : Int) := by omega
      obtain ⟨ad, hAd, hx⟩ := el HC.out j hjx
      obtain ⟨vx, hvx⟩ : ∃ v, v = tv xs[j] := ⟨_, rfl⟩
      obtain ⟨x, hxe⟩ : ∃ x, x = xs[j] := ⟨_, rfl⟩
      rw [← hxe] at hx hvx
      have HXE := Aside0.mk (show ∀ (h : j < xs.length), x = xs[j] from fun _ => hxe)
      have HLX := Aside0.mk (show ∀ w', Below W.heap.size W w' → (Instr.loadAt 32 (.pointer (some (ad.add (j * 6))))).run Tryz.prog w' = .ok vx w' from fun w' h => by rw [hvx]; exact hx w' h)
      obtain ⟨cm, hcm⟩ : ∃ cm, cm = cmpT x t := ⟨_, rfl⟩
      have HCM := Aside0.mk hcm
      have HCALL := Aside0.mk (show ∀ w', Calls Tryz.prog 14 #[vx, vt] w' fun e w'' => e = .returned (.int .i64 cm) ∧ Below w'.heap.size w' w'' from fun w' => by rw [hvx, HVT.out, hcm]; exact refcmp_any x t (HSH.out.1 x (by rw [hxe]; exact List.getElem_mem hjx)) HSH.out.2 w')
      obtain ⟨b, hbb⟩ : ∃ b, b = decide (x = t) := ⟨_, rfl⟩
      have HBQ := Aside0.mk hbb
      have heq : ∀ w' : World, (binOp .eql 32 vx vt).run Tryz.prog w' = .ok (.bool b) w' := fun w' => by rw [hvx, HVT.out, hbb]; exact eq_T _ _ _
      have hgd : ∀ (op : BinOp) (x y : Operand) (w' : World), (eqGuard op 32 x y vx vt).run Tryz.prog w' = .ok () w' := fun op x y w' => by rw [hvx, HVT.out]; exact run_eqGuard_agg w' op _ x y _ _ (by kernel_rfl)
      subst hAd
      clear hvx hbb hcm hx hxe
      by_cases hc : cm < 0
      · have d1 : decide (cm < 0) = true := decide_eq_true hc
        have HT2 := Aside0.mk (show ∀ x ∈ xs.take (j + 1), cmpT x t < 0 from by
          have hjx2 : j < xs.length := by have := HN.out; omega
          have h1 := HXE.out hjx2
          have h2 := HCM.out
          exact take_less hjx2 HT.out (by rw [← h1, ← h2]; exact hc))
        go_upto_region 2 with fail
        refine wp_region_held_drew (S := fun w' => Below W.heap.size W w') (by kernel_rfl) (pw_below_drewN HBX.out 1) (fun hHeld => ?_)
        refine wpAnyH_take (i := 0) (v := .int .i64 (j : Int)) rfl (by kernel_rfl) (by kernel_rfl) (by kernel_rfl) (fun _ _ _ h => h) (Or.inl ⟨by rfl, ?hy0⟩) hHeld ?_
        case hy0 => intro w' hSw; go_simp
        simp only [List.getElem_toArray, List.getElem_cons_succ, List.getElem_cons_zero, Act.put, List.setIfInBounds_toArray, List.set_cons_zero, List.set_cons_succ]
        refine wpAnyH_take (i := 1) (v := .slice (some ad) n c) rfl (by kernel_rfl) (by kernel_rfl) (by kernel_rfl) (fun _ _ _ h => h) (Or.inl ⟨by rfl, ?hy1⟩) hHeld ?_
        case hy1 => intro w' hSw; go_simp
        simp only [List.getElem_toArray, List.getElem_cons_succ, List.getElem_cons_zero, Act.put, List.setIfInBounds_toArray, List.set_cons_zero, List.set_cons_succ]
        refine wpAnyH_take (i := 2) (v := .int .i64 (n : Int)) rfl (by kernel_rfl) (by kernel_rfl) (by kernel_rfl) (fun _ _ _ h => h) (Or.inl ⟨by rfl, ?hy2⟩) hHeld ?_
        case hy2 => intro w' hSw; go_simp
        simp only [List.getElem_toArray, List.getElem_cons_succ, List.getElem_cons_zero, Act.put, List.setIfInBounds_toArray, List.set_cons_zero, List.set_cons_succ]
        refine wpAnyH_take (i := 3) (v := .bool true) rfl (by kernel_rfl) (by kernel_rfl) (by kernel_rfl) (fun _ _ _ h => h) (Or.inl ⟨by rfl, ?hy3⟩) hHeld ?_
        case hy3 => intro w' hSw; go_simp
        simp only [List.getElem_toArray, List.getElem_cons_succ, List.getElem_cons_zero, Act.put, List.setIfInBounds_toArray, List.set_cons_zero, List.set_cons_succ]
        refine wpAnyH_take (i := 4) (v := .bool true) rfl (by kernel_rfl) (by kernel_rfl) (by kernel_rfl) (fun _ _ _ h => h) (Or.inl ⟨by rfl, ?hy4⟩) hHeld ?_
        case hy4 => intro w' hSw; go_simp
        simp only [List.getElem_toArray, List.getElem_cons_succ, List.getElem_cons_zero, Act.put, List.setIfInBounds_toArray, List.set_cons_zero, List.set_cons_succ]
        refine wpAnyH_take (i := 5) (v := .slice (some ad) n c) rfl (by kernel_rfl) (by kernel_rfl) (by kernel_rfl) (fun _ _ _ h => h) (Or.inl ⟨by rfl, ?hy5⟩) hHeld ?_
        case hy5 => intro w' hSw; go_simp
        simp only [List.getElem_toArray, List.getElem_cons_succ, List.getElem_cons_zero, Act.put, List.setIfInBounds_toArray, List.set_cons_zero, List.set_cons_succ]
        refine wpAnyH_take (i := 6) (v := .int .i64 (j : Int)) rfl (by kernel_rfl) (by kernel_rfl) (by kernel_rfl) (fun _ _ _ h => h) (Or.inl ⟨by rfl, ?hy6⟩) hHeld ?_
        case hy6 => intro w' hSw; go_simp
        simp only [List.getElem_toArray, List.getElem_cons_succ, List.getElem_cons_zero, Act.put, List.setIfInBounds_toArray, List.set_cons_zero, List.set_cons_succ]
        refine wpAnyH_take (i := 7) (v := .pointer (some (ad.add (j * 6)))) rfl (by kernel_rfl) (by kernel_rfl) (by kernel_rfl) (fun _ _ _ h => h) (Or.inl ⟨by rfl, ?hy7⟩) hHeld ?_
        case hy7 => intro w' hSw; go_simp
        simp only [List.getElem_toArray, List.getElem_cons_succ, List.getElem_cons_zero, Act.put, List.setIfInBounds_toArray, List.set_cons_zero, List.set_cons_succ]
        refine wpAnyH_take (i := 8) (v := vx) rfl (by kernel_rfl) (by kernel_rfl) (by kernel_rfl) (fun _ _ _ h => h) (yieldsIf_load (by rfl) 32 (.tmp 14) rfl vx (fun w' h => HLX.out w' h)) hHeld ?_
        simp only [List.getElem_toArray, List.getElem_cons_succ, List.getElem_cons_zero, Act.put, List.setIfInBounds_toArray, List.set_cons_zero, List.set_cons_succ]
        refine wpAnyH_take (i := 9) (v := vt) rfl (by kernel_rfl) (by kernel_rfl) (by kernel_rfl) (fun _ _ _ h => h) (yieldsIf_load (by rfl) 32 (.tmp 3) rfl vt (fun w' h => HLT.out w' h)) hHeld ?_
        simp only [List.getElem_toArray, List.getElem_cons_succ, List.getElem_cons_zero, Act.put, List.setIfInBounds_toArray, List.set_cons_zero, List.set_cons_succ]
        refine wpAnyH_ready (rs := [10]) (by kernel_rfl) (by simp) ?_
        refine AllReadyH.cons rfl (fun K hK => ?_) AllReadyH.nil
        simp only [List.getElem_toArray, List.getElem_cons_succ, List.getElem_cons_zero]
        rw [if_pos (by rfl)]
        go_simp
        refine (HCALL.out _).mono ?_
        rintro e_ y1 ⟨rfl, hb⟩
        refine hK.out _ _ (below_step hHeld hb) (fun hHeld => ?_)
        clear hK K
        refine wpAnyH_take (i := 11) (v := .bool true) rfl (by kernel_rfl) (by kernel_rfl) (by kernel_rfl) (fun _ _ _ h => h) (Or.inl ⟨by rfl, ?hy11⟩) hHeld ?_
        case hy11 => intro w' hSw; go_simp
        simp only [List.getElem_toArray, List.getElem_cons_succ, List.getElem_cons_zero, Act.put, List.setIfInBounds_toArray, List.set_cons_zero, List.set_cons_succ]
        refine wpAnyH_take (i := 12) (v := .bool true) rfl (by kernel_rfl) (by kernel_rfl) (by kernel_rfl) (fun _ _ _ h => h) (Or.inl ⟨by rfl, ?hy12⟩) hHeld ?_
        case hy12 => intro w' hSw; go_simp
        simp only [List.getElem_toArray, List.getElem_cons_succ, List.getElem_cons_zero, Act.put, List.setIfInBounds_toArray, List.set_cons_zero, List.set_cons_succ]
        refine wpAnyH_done (by kernel_rfl) ?_ _
        have HB2 := Aside0.mk hHeld
        clear hHeld heq hgd
        go_wp2
        go_roundg (n - (j + 1))
        case measure => have := HJ.out; omega
        case rel => exact ⟨j + 1, rfl, ⟨by have := HJ.out; omega⟩, HT2, HB2⟩
      · have d1 : decide (cm < 0) = false := decide_eq_false hc
        go_upto_region 2 with fail
        refine wp_region_held_drew (S := fun w' => Below W.heap.size W w') (by kernel_rfl) (pw_below_drewN HBX.out 1) (fun hHeld => ?_)
        refine wpAnyH_take (i := 0) (v := .int .i64 (j : Int)) rfl (by kernel_rfl) (by kernel_rfl) (by kernel_rfl) (fun _ _ _ h => h) (Or.inl ⟨by rfl, ?hy0⟩) hHeld ?_
        case hy0 => intro w' hSw; go_simp
        simp only [List.getElem_toArray, List.getElem_cons_succ, List.getElem_cons_zero, Act.put, List.setIfInBounds_toArray, List.set_cons_zero, List.set_cons_succ]
        refine wpAnyH_take (i := 1) (v := .slice (some ad) n c) rfl (by kernel_rfl) (by kernel_rfl) (by kernel_rfl) (fun _ _ _ h => h) (Or.inl ⟨by rfl, ?hy1⟩) hHeld ?_
        case hy1 => intro w' hSw; go_simp
        simp only [List.getElem_toArray, List.getElem_cons_succ, List.getElem_cons_zero, Act.put, List.setIfInBounds_toArray, List.set_cons_zero, List.set_cons_succ]
        refine wpAnyH_take (i := 2) (v := .int .i64 (n : Int)) rfl (by kernel_rfl) (by kernel_rfl) (by kernel_rfl) (fun _ _ _ h => h) (Or.inl ⟨by rfl, ?hy2⟩) hHeld ?_
        case hy2 => intro w' hSw; go_simp
        simp only [List.getElem_toArray, List.getElem_cons_succ, List.getElem_cons_zero, Act.put, List.setIfInBounds_toArray, List.set_cons_zero, List.set_cons_succ]
        refine wpAnyH_take (i := 3) (v := .bool true) rfl (by kernel_rfl) (by kernel_rfl) (by kernel_rfl) (fun _ _ _ h => h) (Or.inl ⟨by rfl, ?hy3⟩) hHeld ?_
        case hy3 => intro w' hSw; go_simp
        simp only [List.getElem_toArray, List.getElem_cons_succ, List.getElem_cons_zero, Act.put, List.setIfInBounds_toArray, List.set_cons_zero, List.set_cons_succ]
        refine wpAnyH_take (i := 4) (v := .bool true) rfl (by kernel_rfl) (by kernel_rfl) (by kernel_rfl) (fun _ _ _ h => h) (Or.inl ⟨by rfl, ?hy4⟩) hHeld ?_
        case hy4 => intro w' hSw; go_simp
        simp only [List.getElem_toArray, List.getElem_cons_succ, List.getElem_cons_zero, Act.put, List.setIfInBounds_toArray, List.set_cons_zero, List.set_cons_succ]
        refine wpAnyH_take (i := 5) (v := .slice (some ad) n c) rfl (by kernel_rfl) (by kernel_rfl) (by kernel_rfl) (fun _ _ _ h => h) (Or.inl ⟨by rfl, ?hy5⟩) hHeld ?_
        case hy5 => intro w' hSw; go_simp
        simp only [List.getElem_toArray, List.getElem_cons_succ, List.getElem_cons_zero, Act.put, List.setIfInBounds_toArray, List.set_cons_zero, List.set_cons_succ]
        refine wpAnyH_take (i := 6) (v := .int .i64 (j : Int)) rfl (by kernel_rfl) (by kernel_rfl) (by kernel_rfl) (fun _ _ _ h => h) (Or.inl ⟨by rfl, ?hy6⟩) hHeld ?_
        case hy6 => intro w' hSw; go_simp
        simp only [List.getElem_toArray, List.getElem_cons_succ, List.getElem_cons_zero, Act.put, List.setIfInBounds_toArray, List.set_cons_zero, List.set_cons_succ]
        refine wpAnyH_take (i := 7) (v := .pointer (some (ad.add (j * 6)))) rfl (by kernel_rfl) (by kernel_rfl) (by kernel_rfl) (fun _ _ _ h => h) (Or.inl ⟨by rfl, ?hy7⟩) hHeld ?_
        case hy7 => intro w' hSw; go_simp
        simp only [List.getElem_toArray, List.getElem_cons_succ, List.getElem_cons_zero, Act.put, List.setIfInBounds_toArray, List.set_cons_zero, List.set_cons_succ]
        refine wpAnyH_take (i := 8) (v := vx) rfl (by kernel_rfl) (by kernel_rfl) (by kernel_rfl) (fun _ _ _ h => h) (yieldsIf_load (by rfl) 32 (.tmp 14) rfl vx (fun w' h => HLX.out w' h)) hHeld ?_
        simp only [List.getElem_toArray, List.getElem_cons_succ, List.getElem_cons_zero, Act.put, List.setIfInBounds_toArray, List.set_cons_zero, List.set_cons_succ]
        refine wpAnyH_take (i := 9) (v := vt) rfl (by kernel_rfl) (by kernel_rfl) (by kernel_rfl) (fun _ _ _ h => h) (yieldsIf_load (by rfl) 32 (.tmp 3) rfl vt (fun w' h => HLT.out w' h)) hHeld ?_
        simp only [List.getElem_toArray, List.getElem_cons_succ, List.getElem_cons_zero, Act.put, List.setIfInBounds_toArray, List.set_cons_zero, List.set_cons_succ]
        refine wpAnyH_ready (rs := [10]) (by kernel_rfl) (by simp) ?_
        refine AllReadyH.cons rfl (fun K hK => ?_) AllReadyH.nil
        simp only [List.getElem_toArray, List.getElem_cons_succ, List.getElem_cons_zero]
        rw [if_pos (by rfl)]
        go_simp
        refine (HCALL.out _).mono ?_
        rintro e_ y1 ⟨rfl, hb⟩
        refine hK.out _ _ (below_step hHeld hb) (fun hHeld => ?_)
        clear hK K
        refine wpAnyH_take (i := 11) (v := .bool false) rfl (by kernel_rfl) (by kernel_rfl) (by kernel_rfl) (fun _ _ _ h => h) (Or.inl ⟨by rfl, ?hy11⟩) hHeld ?_
        case hy11 => intro w' hSw; go_simp
        simp only [List.getElem_toArray, List.getElem_cons_succ, List.getElem_cons_zero, Act.put, List.setIfInBounds_toArray, List.set_cons_zero, List.set_cons_succ]
        refine wpAnyH_take (i := 12) (v := .bool false) rfl (by kernel_rfl) (by kernel_rfl) (by kernel_rfl) (fun _ _ _ h => h) (Or.inl ⟨by rfl, ?hy12⟩) hHeld ?_
        case hy12 => intro w' hSw; go_simp
        simp only [List.getElem_toArray, List.getElem_cons_succ, List.getElem_cons_zero, Act.put, List.setIfInBounds_toArray, List.set_cons_zero, List.set_cons_succ]
        refine wpAnyH_done (by kernel_rfl) ?_ _
        have HB3 := Aside0.mk hHeld
        clear hHeld hb HCALL
        go_upto_region 4 with fail
        refine wp_region_held_drew (S := fun w' => Below W.heap.size W w') (by kernel_rfl) (pw_below_drewN HB3.out 1) (fun hHeld => ?_)
        refine wpAnyH_take (i := 0) (v := .int .i64 (j : Int)) rfl (by kernel_rfl) (by kernel_rfl) (by kernel_rfl) (fun _ _ _ h => h) (Or.inl ⟨by rfl, ?hy0⟩) hHeld ?_
        case hy0 => intro w' hSw; go_simp
        simp only [List.getElem_toArray, List.getElem_cons_succ, List.getElem_cons_zero, Act.put, List.setIfInBounds_toArray, List.set_cons_zero, List.set_cons_succ]
        refine wpAnyH_take (i := 1) (v := .slice (some ad) n c) rfl (by kernel_rfl) (by kernel_rfl) (by kernel_rfl) (fun _ _ _ h => h) (Or.inl ⟨by rfl, ?hy1⟩) hHeld ?_
        case hy1 => intro w' hSw; go_simp
        simp only [List.getElem_toArray, List.getElem_cons_succ, List.getElem_cons_zero, Act.put, List.setIfInBounds_toArray, List.set_cons_zero, List.set_cons_succ]
        refine wpAnyH_take (i := 2) (v := .int .i64 (n : Int)) rfl (by kernel_rfl) (by kernel_rfl) (by kernel_rfl) (fun _ _ _ h => h) (Or.inl ⟨by rfl, ?hy2⟩) hHeld ?_
        case hy2 => intro w' hSw; go_simp
        simp only [List.getElem_toArray, List.getElem_cons_succ, List.getElem_cons_zero, Act.put, List.setIfInBounds_toArray, List.set_cons_zero, List.set_cons_succ]
        refine wpAnyH_take (i := 3) (v := .bool true) rfl (by kernel_rfl) (by kernel_rfl) (by kernel_rfl) (fun _ _ _ h => h) (Or.inl ⟨by rfl, ?hy3⟩) hHeld ?_
        case hy3 => intro w' hSw; go_simp
        simp only [List.getElem_toArray, List.getElem_cons_succ, List.getElem_cons_zero, Act.put, List.setIfInBounds_toArray, List.set_cons_zero, List.set_cons_succ]
        refine wpAnyH_take (i := 4) (v := .bool true) rfl (by kernel_rfl) (by kernel_rfl) (by kernel_rfl) (fun _ _ _ h => h) (Or.inl ⟨by rfl, ?hy4⟩) hHeld ?_
        case hy4 => intro w' hSw; go_simp
        simp only [List.getElem_toArray, List.getElem_cons_succ, List.getElem_cons_zero, Act.put, List.setIfInBounds_toArray, List.set_cons_zero, List.set_cons_succ]
        refine wpAnyH_take (i := 5) (v := .slice (some ad) n c) rfl (by kernel_rfl) (by kernel_rfl) (by kernel_rfl) (fun _ _ _ h => h) (Or.inl ⟨by rfl, ?hy5⟩) hHeld ?_
        case hy5 => intro w' hSw; go_simp
        simp only [List.getElem_toArray, List.getElem_cons_succ, List.getElem_cons_zero, Act.put, List.setIfInBounds_toArray, List.set_cons_zero, List.set_cons_succ]
        refine wpAnyH_take (i := 6) (v := .int .i64 (j : Int)) rfl (by kernel_rfl) (by kernel_rfl) (by kernel_rfl) (fun _ _ _ h => h) (Or.inl ⟨by rfl, ?hy6⟩) hHeld ?_
        case hy6 => intro w' hSw; go_simp
        simp only [List.getElem_toArray, List.getElem_cons_succ, List.getElem_cons_zero, Act.put, List.setIfInBounds_toArray, List.set_cons_zero, List.set_cons_succ]
        refine wpAnyH_take (i := 7) (v := .pointer (some (ad.add (j * 6)))) rfl (by kernel_rfl) (by kernel_rfl) (by kernel_rfl) (fun _ _ _ h => h) (Or.inl ⟨by rfl, ?hy7⟩) hHeld ?_
        case hy7 => intro w' hSw; go_simp
        simp only [List.getElem_toArray, List.getElem_cons_succ, List.getElem_cons_zero, Act.put, List.setIfInBounds_toArray, List.set_cons_zero, List.set_cons_succ]
        refine wpAnyH_take (i := 8) (v := vx) rfl (by kernel_rfl) (by kernel_rfl) (by kernel_rfl) (fun _ _ _ h => h) (yieldsIf_load (by rfl) 32 (.tmp 29) rfl vx (fun w' h => HLX.out w' h)) hHeld ?_
        simp only [List.getElem_toArray, List.getElem_cons_succ, List.getElem_cons_zero, Act.put, List.setIfInBounds_toArray, List.set_cons_zero, List.set_cons_succ]
        refine wpAnyH_take (i := 9) (v := vt) rfl (by kernel_rfl) (by kernel_rfl) (by kernel_rfl) (fun _ _ _ h => h) (yieldsIf_load (by rfl) 32 (.tmp 3) rfl vt (fun w' h => HLT.out w' h)) hHeld ?_
        simp only [List.getElem_toArray, List.getElem_cons_succ, List.getElem_cons_zero, Act.put, List.setIfInBounds_toArray, List.set_cons_zero, List.set_cons_succ]
        refine wpAnyH_take (i := 10) (v := .bool b) rfl (by kernel_rfl) (by kernel_rfl) (by kernel_rfl) (fun _ _ _ h => h) (Or.inl ⟨by rfl, ?hy10⟩) hHeld ?_
        case hy10 => intro w' hSw; go_simp
        simp only [List.getElem_toArray, List.getElem_cons_succ, List.getElem_cons_zero, Act.put, List.setIfInBounds_toArray, List.set_cons_zero, List.set_cons_succ]
        refine wpAnyH_take (i := 11) (v := .bool b) rfl (by kernel_rfl) (by kernel_rfl) (by kernel_rfl) (fun _ _ _ h => h) (Or.inl ⟨by rfl, ?hy11⟩) hHeld ?_
        case hy11 => intro w' hSw; go_simp
        simp only [List.getElem_toArray, List.getElem_cons_succ, List.getElem_cons_zero, Act.put, List.setIfInBounds_toArray, List.set_cons_zero, List.set_cons_succ]
        refine wpAnyH_done (by kernel_rfl) ?_ _
        have HB4 := Aside0.mk hHeld
        clear hHeld heq hgd HLX HLT
        generalize y1.drew = x4 at HB4 ⊢
        cases b with
        | true =>
          have HI := Aside0.mk (show ins t xs = xs from by
            have hjx2 : j < xs.length := by have := HN.out; omega
            have h1 := HXE.out hjx2
            have h2 := HCM.out
            have h3 : x = t := of_decide_eq_true HBQ.out.symm
            exact ins_eq t xs j hjx2 HT.out (by rw [← h1, ← h2]; exact hc) (by rw [← h1]; exact h3))
          go_wp2
          go_ret
          rw [HI.out]
          have h9 := HR.out
          rw [← HN.out] at h9
          exact ⟨_, rfl, Kd.R_below h9 HB4.out, below_step HBW.out HB4.out⟩
        | false =>
          have HI := Aside0.mk (show ins t xs = xs.take j ++ [t] ++ xs.drop j from by
            have h2 := HCM.out
            have h3 : ¬ x = t := of_decide_eq_false HBQ.out.symm
            exact ins_at t xs j (by have := HN.out; omega) HT.out (fun hjx2 => by have h1 := HXE.out hjx2; exact ⟨by rw [← h1, ← h2]; exact hc, by rw [← h1]; exact h3⟩))
          obtain ⟨A, hA⟩ : ∃ A, A = some ad := ⟨_, rfl⟩
          rw [← hA] at HC HR ⊢
          clear hA
          have hC4 := Kd.C_below HC.out HB4.out
          have HCT := Aside0.mk (show Kd.C k32 x4 A (xs.take j).length (xs.take j) from Kd.C_take hC4 (by have := HJN.out; have := HN.out; omega))
          have HCD := Aside0.mk (show Kd.C k32 x4 (if c = j then A else A.map (·.add (j * 6))) (xs.drop j).length (xs.drop j) from Kd.C_drop hC4 (by have := HJN.out; have := HN.out; omega) HCAP.out)
          have HTL := Aside0.mk (show (xs.take j).length = j from by rw [List.length_take]; have := HJN.out; have := HN.out; omega)
          have HDL := Aside0.mk (show (xs.drop j).length = n - j from by rw [List.length_drop]; have := HN.out; omega)
          obtain ⟨i0, hi0, _, hsz0, _⟩ := info_parts info32
          have hcut := cut_to (P := Tryz.prog) 22 32 .i64 Tryz.underlying22 hi0 A n c (j : Int) (by omega) (by have := HJN.out; omega) (by have := HCAP.out; have := HN.out; omega)
          have hcuf := cut_from (P := Tryz.prog) 22 32 .i64 Tryz.underlying22 hi0 6 hsz0 A n c (j : Int) (by omega) (by have := HJN.out; omega)
          rw [Int.toNat_natCast] at hcut hcuf
          obtain ⟨Ad, hAd⟩ : ∃ B, B = (if c = j then A else A.map (·.add (j * 6))) := ⟨_, rfl⟩
          rw [← hAd] at hcuf HCD
          obtain ⟨ys, hys⟩ : ∃ l, l = xs.take j := ⟨_, rfl⟩
          obtain ⟨zs, hzs⟩ : ∃ l, l = xs.drop j := ⟨_, rfl⟩
          rw [← hys] at HCT HTL HI
          rw [← hzs] at HCD HDL HI
          have hx4 : Below x4.heap.size x4 x4 := B0 x4
          clear hi0 hsz0 hC4 hAd hys hzs
          go_wp2_with (first | ((with_reducible refine gate_dst (N := 35) rfl ?_); refine Kd.R_lit k32 _ 32 ?hg (N := 35) ?hd (xs := ([] : List S32)) (inner := []) (ok := fun _ => True) (okp := fun _ => True) ?hr ?hp (fun _ hk => hk) trivial (Below.refl _ _) (Nat.le_refl _) (by simp) ?_; (case hd => rfl); (case hg => rfl); (case hr => first | (go_simp; done) | (go_simp; rfl)); (case hp => exact (Reps.none _ _)); intro v1 x5 ho hb hg_ hnew_; clear hg_ hnew_; have HO1 := Aside0.mk (show Kd.R k32 32 x5 x4.heap.size (fun _ => True) v1 [] from ho); have HX5 := Aside0.mk hb; clear ho hb) | ((with_reducible refine gate_dst (N := 39) rfl ?_); at_builtin; refine Kd.R_append_rows k32 (w0 := x4) x4.heap.size rfl (.tmp 35) (.tmp 38) 22 32 (.agg #[.string ⟨#[]⟩, .string ⟨#[]⟩, .string ⟨#[]⟩, .string ⟨#[]⟩, .string ⟨#[]⟩, .string ⟨#[]⟩]) 96 rfl Tryz.underlying22 info32 rfl (by decide) (by omega) v1 [] ys A j c (fun _ => True) (fun _ => False) rfl rfl ?aO ?aR (fun _ _ h => h) (fun _ h => h.elim) ?aF ?aB ?aS ?aL ?_; (case aR => have h := Kd.C_below HCT.out HX5.out; rw [HTL.out] at h; exact h); (case aB => exact HX5.out); (case aF => exact fun _ _ => trivial); (case aO => exact HO1.out); (case aS => exact HX5.out.size); (case aL => have := HTL.out; have := HL.out; have := HJN.out; have := HN.out; simp; omega); intro v2 x6 ho hb hg hat; rw [List.nil_append] at ho; have HO2 := Aside0.mk ho; have HX6 := Aside0.mk hb; clear ho hb hg hat; have k0 := (blk_cell (blk_below HK.out (below_step HB4.out HX6.out)) 0).trans (show _ = some (Value.string t.f0.f0) from rfl); have k1 := (blk_cell (blk_below HK.out (below_step HB4.out HX6.out)) 1).trans (show _ = some (Value.string t.f0.f1) from rfl); have k2 := (blk_cell (blk_below HK.out (below_step HB4.out HX6.out)) 2).trans (show _ = some (Value.string t.f1) from rfl); have k3 := (blk_cell (blk_below HK.out (below_step HB4.out HX6.out)) 3).trans (show _ = some (Value.string t.f2.f0) from rfl); have k4 := (blk_cell (blk_below HK.out (below_step HB4.out HX6.out)) 4).trans (show _ = some (Value.string t.f2.f1) from rfl); have k5 := (blk_cell (blk_below HK.out (below_step HB4.out HX6.out)) 5).trans (show _ = some (Value.string t.f3) from rfl)) | ((with_reducible refine gate_dst (N := 43) rfl ?_); at_builtin; refine Kd.R_append k32 (w0 := x4) x4.heap.size rfl (.tmp 40) (.tmp 42) 22 32 (.agg #[.string ⟨#[]⟩, .string ⟨#[]⟩, .string ⟨#[]⟩, .string ⟨#[]⟩, .string ⟨#[]⟩, .string ⟨#[]⟩]) 96 rfl Tryz.underlying22 info32 rfl (by decide) (by omega) v2 ys t (tc t) (fun _ => True) (fun _ => False) rfl rfl ?aP (fun _ hk => hk.elim) ?aF ?aO ?aB ?aS ?aL ?_; (case aP => exact k32_mkM _ _ _ t); (case aB => exact HX6.out); (case aF => exact fun _ _ => trivial); (case aO => exact HO2.out); (case aS => exact HX6.out.size); (case aL => have := HTL.out; have := HL.out; have := HJN.out; have := HN.out; omega); intro v3 x7 ho hb hg hat; have HO3 := Aside0.mk ho; have HX7 := Aside0.mk hb; clear ho hb hg hat k0 k1 k2 k3 k4 k5) | ((with_reducible refine gate_dst (N := 48) rfl ?_); at_builtin; refine Kd.R_append_rows k32 (w0 := x4) x4.heap.size rfl (.tmp 44) (.tmp 47) 22 32 (.agg #[.string ⟨#[]⟩, .string ⟨#[]⟩, .string ⟨#[]⟩, .string ⟨#[]⟩, .string ⟨#[]⟩, .string ⟨#[]⟩]) 96 rfl Tryz.underlying22 info32 rfl (by decide) (by omega) v3 (ys ++ [t]) zs Ad (n - j) (c - j) (fun _ => True) (fun _ => False) rfl rfl ?aO ?aR (fun _ _ h => h) (fun _ h => h.elim) ?aF ?aB ?aS ?aL ?_; (case aR => have h := Kd.C_below HCD.out HX7.out; rw [HDL.out] at h; exact h); (case aB => exact HX7.out); (case aF => exact fun _ _ => trivial); (case aO => exact HO3.out); (case aS => exact HX7.out.size); (case aL => have := HTL.out; have := HL.out; have := HJN.out; have := HN.out; simp; omega); intro v4 x8 ho hb hg hat; have HO4 := Aside0.mk ho; have HX8 := Aside0.mk hb; clear ho hb hg hat))
          go_ret
          rw [HI.out]
          exact ⟨_, rfl, Kd.R_lower HO4.out (by have := HBS.out; have := HBW.out.size; have := HB4.out.size; omega), below_step (below_step HBW.out HB4.out) HX8.out⟩
    · obtain rfl : j = n := by have := HJ.out; omega
      have f1 : decide (j < j) = false := decide_eq_false (by omega)
      have f2 : decide ((j : Int) < (j : Int)) = false := decide_eq_false (by omega)
      have f3 : ¬ (j : Int) < (j : Int) := by omega
      have HI := Aside0.mk (show ins t xs = xs.take j ++ [t] ++ xs.drop j from ins_at t xs j (by have := HN.out; omega) HT.out (fun h => absurd h (by have := HN.out; omega)))
      clear cj
      go_upto_region 2 with fail
      refine wp_region_held_drew (S := fun w' => Below W.heap.size W w') (by kernel_rfl) (pw_below_drewN HBX.out 1) (fun hHeld => ?_)
      refine wpAnyH_take (i := 0) (v := .int .i64 (j : Int)) rfl (by kernel_rfl) (by kernel_rfl) (by kernel_rfl) (fun _ _ _ h => h) (Or.inl ⟨by rfl, ?hy0⟩) hHeld ?_
      case hy0 => intro w' hSw; go_simp
      simp only [List.getElem_toArray, List.getElem_cons_succ, List.getElem_cons_zero, Act.put, List.setIfInBounds_toArray, List.set_cons_zero, List.set_cons_succ]
      refine wpAnyH_take (i := 1) (v := .slice A j c) rfl (by kernel_rfl) (by kernel_rfl) (by kernel_rfl) (fun _ _ _ h => h) (Or.inl ⟨by rfl, ?hy1⟩) hHeld ?_
      case hy1 => intro w' hSw; go_simp
      simp only [List.getElem_toArray, List.getElem_cons_succ, List.getElem_cons_zero, Act.put, List.setIfInBounds_toArray, List.set_cons_zero, List.set_cons_succ]
      refine wpAnyH_take (i := 2) (v := .int .i64 (j : Int)) rfl (by kernel_rfl) (by kernel_rfl) (by kernel_rfl) (fun _ _ _ h => h) (Or.inl ⟨by rfl, ?hy2⟩) hHeld ?_
      case hy2 => intro w' hSw; go_simp
      simp only [List.getElem_toArray, List.getElem_cons_succ, List.getElem_cons_zero, Act.put, List.setIfInBounds_toArray, List.set_cons_zero, List.set_cons_succ]
      refine wpAnyH_take (i := 3) (v := .bool false) rfl (by kernel_rfl) (by kernel_rfl) (by kernel_rfl) (fun _ _ _ h => h) (Or.inl ⟨by rfl, ?hy3⟩) hHeld ?_
      case hy3 => intro w' hSw; go_simp
      simp only [List.getElem_toArray, List.getElem_cons_succ, List.getElem_cons_zero, Act.put, List.setIfInBounds_toArray, List.set_cons_zero, List.set_cons_succ]
      refine wpAnyH_take (i := 4) (v := .bool false) rfl (by kernel_rfl) (by kernel_rfl) (by kernel_rfl) (fun _ _ _ h => h) (Or.inl ⟨by rfl, ?hy4⟩) hHeld ?_
      case hy4 => intro w' hSw; go_simp
      simp only [List.getElem_toArray, List.getElem_cons_succ, List.getElem_cons_zero, Act.put, List.setIfInBounds_toArray, List.set_cons_zero, List.set_cons_succ]
      refine wpAnyH_take (i := 5) (v := undef) rfl (by kernel_rfl) (by kernel_rfl) (by kernel_rfl) (fun _ _ _ h => h) (Or.inr ⟨by rfl, rfl⟩) hHeld ?_
      simp only [List.getElem_toArray, List.getElem_cons_succ, List.getElem_cons_zero, Act.put, List.setIfInBounds_toArray, List.set_cons_zero, List.set_cons_succ]
      refine wpAnyH_take (i := 6) (v := undef) rfl (by kernel_rfl) (by kernel_rfl) (by kernel_rfl) (fun _ _ _ h => h) (Or.inr ⟨by rfl, rfl⟩) hHeld ?_
      simp only [List.getElem_toArray, List.getElem_cons_succ, List.getElem_cons_zero, Act.put, List.setIfInBounds_toArray, List.set_cons_zero, List.set_cons_succ]
      refine wpAnyH_take (i := 7) (v := undef) rfl (by kernel_rfl) (by kernel_rfl) (by kernel_rfl) (fun _ _ _ h => h) (Or.inr ⟨by rfl, rfl⟩) hHeld ?_
      simp only [List.getElem_toArray, List.getElem_cons_succ, List.getElem_cons_zero, Act.put, List.setIfInBounds_toArray, List.set_cons_zero, List.set_cons_succ]
      refine wpAnyH_take (i := 8) (v := undef) rfl (by kernel_rfl) (by kernel_rfl) (by kernel_rfl) (fun _ _ _ h => h) (Or.inr ⟨by rfl, rfl⟩) hHeld ?_
      simp only [List.getElem_toArray, List.getElem_cons_succ, List.getElem_cons_zero, Act.put, List.setIfInBounds_toArray, List.set_cons_zero, List.set_cons_succ]
      refine wpAnyH_take (i := 9) (v := undef) rfl (by kernel_rfl) (by kernel_rfl) (by kernel_rfl) (fun _ _ _ h => h) (Or.inr ⟨by rfl, rfl⟩) hHeld ?_
      simp only [List.getElem_toArray, List.getElem_cons_succ, List.getElem_cons_zero, Act.put, List.setIfInBounds_toArray, List.set_cons_zero, List.set_cons_succ]
      refine wpAnyH_take (i := 10) (v := undef) rfl (by kernel_rfl) (by kernel_rfl) (by kernel_rfl) (fun _ _ _ h => h) (Or.inr ⟨by rfl, rfl⟩) hHeld ?_
      simp only [List.getElem_toArray, List.getElem_cons_succ, List.getElem_cons_zero, Act.put, List.setIfInBounds_toArray, List.set_cons_zero, List.set_cons_succ]
      refine wpAnyH_take (i := 11) (v := undef) rfl (by kernel_rfl) (by kernel_rfl) (by kernel_rfl) (fun _ _ _ h => h) (Or.inr ⟨by rfl, rfl⟩) hHeld ?_
      simp only [List.getElem_toArray, List.getElem_cons_succ, List.getElem_cons_zero, Act.put, List.setIfInBounds_toArray, List.set_cons_zero, List.set_cons_succ]
      refine wpAnyH_take (i := 12) (v := .bool false) rfl (by kernel_rfl) (by kernel_rfl) (by kernel_rfl) (fun _ _ _ h => h) (Or.inl ⟨by rfl, ?hy12⟩) hHeld ?_
      case hy12 => intro w' hSw; go_simp
      simp only [List.getElem_toArray, List.getElem_cons_succ, List.getElem_cons_zero, Act.put, List.setIfInBounds_toArray, List.set_cons_zero, List.set_cons_succ]
      refine wpAnyH_done (by kernel_rfl) ?_ _
      have HB3 := Aside0.mk hHeld
      clear hHeld
      go_upto_region 4 with fail
      refine wp_region_held_drew (S := fun w' => Below W.heap.size W w') (by kernel_rfl) (pw_below_drewN HB3.out 1) (fun hHeld => ?_)
      refine wpAnyH_take (i := 0) (v := .int .i64 (j : Int)) rfl (by kernel_rfl) (by kernel_rfl) (by kernel_rfl) (fun _ _ _ h => h) (Or.inl ⟨by rfl, ?hy0⟩) hHeld ?_
      case hy0 => intro w' hSw; go_simp
      simp only [List.getElem_toArray, List.getElem_cons_succ, List.getElem_cons_zero, Act.put, List.setIfInBounds_toArray, List.set_cons_zero, List.set_cons_succ]
      refine wpAnyH_take (i := 1) (v := .slice A j c) rfl (by kernel_rfl) (by kernel_rfl) (by kernel_rfl) (fun _ _ _ h => h) (Or.inl ⟨by rfl, ?hy1⟩) hHeld ?_
      case hy1 => intro w' hSw; go_simp
      simp only [List.getElem_toArray, List.getElem_cons_succ, List.getElem_cons_zero, Act.put, List.setIfInBounds_toArray, List.set_cons_zero, List.set_cons_succ]
      refine wpAnyH_take (i := 2) (v := .int .i64 (j : Int)) rfl (by kernel_rfl) (by kernel_rfl) (by kernel_rfl) (fun _ _ _ h => h) (Or.inl ⟨by rfl, ?hy2⟩) hHeld ?_
      case hy2 => intro w' hSw; go_simp
      simp only [List.getElem_toArray, List.getElem_cons_succ, List.getElem_cons_zero, Act.put, List.setIfInBounds_toArray, List.set_cons_zero, List.set_cons_succ]
      refine wpAnyH_take (i := 3) (v := .bool false) rfl (by kernel_rfl) (by kernel_rfl) (by kernel_rfl) (fun _ _ _ h => h) (Or.inl ⟨by rfl, ?hy3⟩) hHeld ?_
      case hy3 => intro w' hSw; go_simp
      simp only [List.getElem_toArray, List.getElem_cons_succ, List.getElem_cons_zero, Act.put, List.setIfInBounds_toArray, List.set_cons_zero, List.set_cons_succ]
      refine wpAnyH_take (i := 4) (v := .bool false) rfl (by kernel_rfl) (by kernel_rfl) (by kernel_rfl) (fun _ _ _ h => h) (Or.inl ⟨by rfl, ?hy4⟩) hHeld ?_
      case hy4 => intro w' hSw; go_simp
      simp only [List.getElem_toArray, List.getElem_cons_succ, List.getElem_cons_zero, Act.put, List.setIfInBounds_toArray, List.set_cons_zero, List.set_cons_succ]
      refine wpAnyH_take (i := 5) (v := undef) rfl (by kernel_rfl) (by kernel_rfl) (by kernel_rfl) (fun _ _ _ h => h) (Or.inr ⟨by rfl, rfl⟩) hHeld ?_
      simp only [List.getElem_toArray, List.getElem_cons_succ, List.getElem_cons_zero, Act.put, List.setIfInBounds_toArray, List.set_cons_zero, List.set_cons_succ]
      refine wpAnyH_take (i := 6) (v := undef) rfl (by kernel_rfl) (by kernel_rfl) (by kernel_rfl) (fun _ _ _ h => h) (Or.inr ⟨by rfl, rfl⟩) hHeld ?_
      simp only [List.getElem_toArray, List.getElem_cons_succ, List.getElem_cons_zero, Act.put, List.setIfInBounds_toArray, List.set_cons_zero, List.set_cons_succ]
      refine wpAnyH_take (i := 7) (v := undef) rfl (by kernel_rfl) (by kernel_rfl) (by kernel_rfl) (fun _ _ _ h => h) (Or.inr ⟨by rfl, rfl⟩) hHeld ?_
      simp only [List.getElem_toArray, List.getElem_cons_succ, List.getElem_cons_zero, Act.put, List.setIfInBounds_toArray, List.set_cons_zero, List.set_cons_succ]
      refine wpAnyH_take (i := 8) (v := undef) rfl (by kernel_rfl) (by kernel_rfl) (by kernel_rfl) (fun _ _ _ h => h) (Or.inr ⟨by rfl, rfl⟩) hHeld ?_
      simp only [List.getElem_toArray, List.getElem_cons_succ, List.getElem_cons_zero, Act.put, List.setIfInBounds_toArray, List.set_cons_zero, List.set_cons_succ]
      refine wpAnyH_take (i := 9) (v := undef) rfl (by kernel_rfl) (by kernel_rfl) (by kernel_rfl) (fun _ _ _ h => h) (Or.inr ⟨by rfl, rfl⟩) hHeld ?_
      simp only [List.getElem_toArray, List.getElem_cons_succ, List.getElem_cons_zero, Act.put, List.setIfInBounds_toArray, List.set_cons_zero, List.set_cons_succ]
      refine wpAnyH_take (i := 10) (v := undef) rfl (by kernel_rfl) (by kernel_rfl) (by kernel_rfl) (fun _ _ _ h => h) (Or.inr ⟨by rfl, rfl⟩) hHeld ?_
      simp only [List.getElem_toArray, List.getElem_cons_succ, List.getElem_cons_zero, Act.put, List.setIfInBounds_toArray, List.set_cons_zero, List.set_cons_succ]
      refine wpAnyH_take (i := 11) (v := .bool false) rfl (by kernel_rfl) (by kernel_rfl) (by kernel_rfl) (fun _ _ _ h => h) (Or.inl ⟨by rfl, ?hy11⟩) hHeld ?_
      case hy11 => intro w' hSw; go_simp
      simp only [List.getElem_toArray, List.getElem_cons_succ, List.getElem_cons_zero, Act.put, List.setIfInBounds_toArray, List.set_cons_zero, List.set_cons_succ]
      refine wpAnyH_done (by kernel_rfl) ?_ _
      have HB4 := Aside0.mk hHeld
      clear hHeld HLT
      generalize wr.drew.drew = x4 at HB4 ⊢
      have hC4 := Kd.C_below HC.out HB4.out
      have HCT := Aside0.mk (show Kd.C k32 x4 A (xs.take j).length (xs.take j) from Kd.C_take hC4 (by have := HJN.out; have := HN.out; omega))
      have HCD := Aside0.mk (show Kd.C k32 x4 (if c = j then A else A.map (·.add (j * 6))) (xs.drop j).length (xs.drop j) from Kd.C_drop hC4 (by have := HJN.out; have := HN.out; omega) HCAP.out)
      have HTL := Aside0.mk (show (xs.take j).length = j from by rw [List.length_take]; have := HJN.out; have := HN.out; omega)
      have HDL := Aside0.mk (show (xs.drop j).length = 0 from by rw [List.length_drop]; have := HN.out; omega)
      obtain ⟨i0, hi0, _, hsz0, _⟩ := info_parts info32
      have hcut := cut_to (P := Tryz.prog) 22 32 .i64 Tryz.underlying22 hi0 A j c (j : Int) (by omega) (by have := HJN.out; omega) (by have := HCAP.out; have := HN.out; omega)
      have hcuf := cut_from (P := Tryz.prog) 22 32 .i64 Tryz.underlying22 hi0 6 hsz0 A j c (j : Int) (by omega) (by have := HJN.out; omega)
      rw [Int.toNat_natCast] at hcut hcuf
      rw [Nat.sub_self] at hcuf
      obtain ⟨Ad, hAd⟩ : ∃ B, B = (if c = j then A else A.map (·.add (j * 6))) := ⟨_, rfl⟩
      rw [← hAd] at hcuf HCD
      obtain ⟨ys, hys⟩ : ∃ l, l = xs.take j := ⟨_, rfl⟩
      obtain ⟨zs, hzs⟩ : ∃ l, l = xs.drop j := ⟨_, rfl⟩
      rw [← hys] at HCT HTL HI
      rw [← hzs] at HCD HDL HI
      have hx4 : Below x4.heap.size x4 x4 := B0 x4
      clear hi0 hsz0 hC4 hAd hys hzs
      go_wp2_with (first | ((with_reducible refine gate_dst (N := 35) rfl ?_); refine Kd.R_lit k32 _ 32 ?hg (N := 35) ?hd (xs := ([] : List S32)) (inner := []) (ok := fun _ => True) (okp := fun _ => True) ?hr ?hp (fun _ hk => hk) trivial (Below.refl _ _) (Nat.le_refl _) (by simp) ?_; (case hd => rfl); (case hg => rfl); (case hr => first | (go_simp; done) | (go_simp; rfl)); (case hp => exact (Reps.none _ _)); intro v1 x5 ho hb hg_ hnew_; clear hg_ hnew_; have HO1 := Aside0.mk (show Kd.R k32 32 x5 x4.heap.size (fun _ => True) v1 [] from ho); have HX5 := Aside0.mk hb; clear ho hb) | ((with_reducible refine gate_dst (N := 39) rfl ?_); at_builtin; refine Kd.R_append_rows k32 (w0 := x4) x4.heap.size rfl (.tmp 35) (.tmp 38) 22 32 (.agg #[.string ⟨#[]⟩, .string ⟨#[]⟩, .string ⟨#[]⟩, .string ⟨#[]⟩, .string ⟨#[]⟩, .string ⟨#[]⟩]) 96 rfl Tryz.underlying22 info32 rfl (by decide) (by omega) v1 [] ys A j c (fun _ => True) (fun _ => False) rfl rfl ?aO ?aR (fun _ _ h => h) (fun _ h => h.elim) ?aF ?aB ?aS ?aL ?_; (case aR => have h := Kd.C_below HCT.out HX5.out; rw [HTL.out] at h; exact h); (case aB => exact HX5.out); (case aF => exact fun _ _ => trivial); (case aO => exact HO1.out); (case aS => exact HX5.out.size); (case aL => have := HTL.out; have := HL.out; have := HJN.out; have := HN.out; simp; omega); intro v2 x6 ho hb hg hat; rw [List.nil_append] at ho; have HO2 := Aside0.mk ho; have HX6 := Aside0.mk hb; clear ho hb hg hat; have k0 := (blk_cell (blk_below HK.out (below_step HB4.out HX6.out)) 0).trans (show _ = some (Value.string t.f0.f0) from rfl); have k1 := (blk_cell (blk_below HK.out (below_step HB4.out HX6.out)) 1).trans (show _ = some (Value.string t.f0.f1) from rfl); have k2 := (blk_cell (blk_below HK.out (below_step HB4.out HX6.out)) 2).trans (show _ = some (Value.string t.f1) from rfl); have k3 := (blk_cell (blk_below HK.out (below_step HB4.out HX6.out)) 3).trans (show _ = some (Value.string t.f2.f0) from rfl); have k4 := (blk_cell (blk_below HK.out (below_step HB4.out HX6.out)) 4).trans (show _ = some (Value.string t.f2.f1) from rfl); have k5 := (blk_cell (blk_below HK.out (below_step HB4.out HX6.out)) 5).trans (show _ = some (Value.string t.f3) from rfl)) | ((with_reducible refine gate_dst (N := 43) rfl ?_); at_builtin; refine Kd.R_append k32 (w0 := x4) x4.heap.size rfl (.tmp 40) (.tmp 42) 22 32 (.agg #[.string ⟨#[]⟩, .string ⟨#[]⟩, .string ⟨#[]⟩, .string ⟨#[]⟩, .string ⟨#[]⟩, .string ⟨#[]⟩]) 96 rfl Tryz.underlying22 info32 rfl (by decide) (by omega) v2 ys t (tc t) (fun _ => True) (fun _ => False) rfl rfl ?aP (fun _ hk => hk.elim) ?aF ?aO ?aB ?aS ?aL ?_; (case aP => exact k32_mkM _ _ _ t); (case aB => exact HX6.out); (case aF => exact fun _ _ => trivial); (case aO => exact HO2.out); (case aS => exact HX6.out.size); (case aL => have := HTL.out; have := HL.out; have := HJN.out; have := HN.out; omega); intro v3 x7 ho hb hg hat; have HO3 := Aside0.mk ho; have HX7 := Aside0.mk hb; clear ho hb hg hat k0 k1 k2 k3 k4 k5) | ((with_reducible refine gate_dst (N := 48) rfl ?_); at_builtin; refine Kd.R_append_rows k32 (w0 := x4) x4.heap.size rfl (.tmp 44) (.tmp 47) 22 32 (.agg #[.string ⟨#[]⟩, .string ⟨#[]⟩, .string ⟨#[]⟩, .string ⟨#[]⟩, .string ⟨#[]⟩, .string ⟨#[]⟩]) 96 rfl Tryz.underlying22 info32 rfl (by decide) (by omega) v3 (ys ++ [t]) zs Ad (0) (c - j) (fun _ => True) (fun _ => False) rfl rfl ?aO ?aR (fun _ _ h => h) (fun _ h => h.elim) ?aF ?aB ?aS ?aL ?_; (case aR => have h := Kd.C_below HCD.out HX7.out; rw [HDL.out] at h; exact h); (case aB => exact HX7.out); (case aF => exact fun _ _ => trivial); (case aO => exact HO3.out); (case aS => exact HX7.out.size); (case aL => have := HTL.out; have := HL.out; have := HJN.out; have := HN.out; simp; omega); intro v4 x8 ho hb hg hat; have HO4 := Aside0.mk ho; have HX8 := Aside0.mk hb; clear ho hb hg hat))
      go_ret
      rw [HI.out]
      exact ⟨_, rfl, Kd.R_lower HO4.out (by have := HBS.out; have := HBW.out.size; have := HB4.out.size; omega), below_step (below_step HBW.out HB4.out) HX8.out⟩
end Go.Proofs.YtlbbhgmpiednfaaGreatDoor.HTupPt
