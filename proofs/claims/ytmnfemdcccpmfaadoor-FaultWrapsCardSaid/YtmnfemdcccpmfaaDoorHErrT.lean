/- The texts of errors: Error of codes, faults, wrapped errors. -/
import Derived.Test.YtmnfemdcccpmfaaDoorHErrI
import Derived.Test.YtmnfemdcccpmfaaDoorShelf
namespace Go.Proofs.YtmnfemdcccpmfaaDoor.HErr
open Go.RowKit Go.Proofs.YtmnfemdcccpmfaaDoorW.PrintWords Go.Extern.Stop Go.Stop Go.Extern Go.Proofs.YtmnfemdcccpmfaaDoor.HErrF Go.Proofs.YtmnfemdcccpmfaaDoor.HLib
set_option linter.unusedVariables false
set_option linter.unusedSimpArgs false

/-- What the listed variable of strconv holds. -/
def TabG (w : World) : Prop := 2 < w.heap.size ∧ Lib.TabIs Tryd.prog w "internal/strconv.uint64pow10" .u64 Lib.pow10Tab
theorem g_pow : Tryd.prog.globalNamed "internal/strconv.uint64pow10" = some 2 := by kernel_rfl
theorem TabG.below {w w1 : World} {n : Nat} (h : TabG w) (hb : Below n w w1) (hn : 2 < n) : TabG w1 := by
  refine ⟨by have := hb.size; have := h.1; omega, ?_⟩
  have h2 := h.2
  unfold Lib.TabIs World.var? at h2 ⊢
  rw [g_pow] at h2 ⊢
  simp only [Option.bind_some] at h2 ⊢
  rw [hb.block _ hn]
  exact h2
theorem below_grow {n : Nat} {w0 w : World} (h : Below n w0 w) (os : Array Obj) (hn : n ≤ w.heap.size) : Below n w0 (Go.Sort.grow w os) :=
  h.trans ⟨rfl, rfl, rfl, by simp [Go.Sort.grow], fun k hk => by simp [Go.Sort.grow, Array.getElem?_append, show k < w.heap.size by omega]⟩
def itoaS (n : Int) : ByteArray := ⟨(Lib.itoa n).toArray⟩
theorem itoa_any (n : Int) (h0 : -9223372036854775808 ≤ n) (h1 : n ≤ 9223372036854775807) (w : World) (hT : TabG w) : Calls Tryd.prog 23 #[.int .i64 n] w fun e w' => e = .returned (.string (itoaS n)) ∧ Below w.heap.size w w' := by
  refine (Tryd.strconv_Itoa n h0 h1 w hT.2).mono ?_
  rintro e w' ⟨rfl, k, os, rfl⟩
  exact ⟨rfl, below_grow (pw_below_drewN (B0 w) k) os (Nat.le_refl _)⟩

def ERR : ByteArray := ⟨#[101, 114, 114, 111, 114, 32]⟩
def SEP : ByteArray := ⟨#[58, 32]⟩
def errC (c : Int) : ByteArray := ERR ++ itoaS c
/-- The text of a wrapped error, the outermost part first. -/
def txt (c : Int) : List ByteArray → ByteArray
  | [] => errC c
  | p :: ps => p ++ SEP ++ txt c ps
def I64 (n : Int) : Prop := -9223372036854775808 ≤ n ∧ n ≤ 9223372036854775807

theorem error_C (c : Int) (hc : I64 c) (hz : (errC c).size ≤ 1000000) (w : World) (hT : TabG w) : Calls Tryd.prog 60 #[.int .i64 c] w fun e w' => e = .returned (.string (errC c)) ∧ Below w.heap.size w w' := by
  have HT := Aside0.mk hT
  have HC := Aside0.mk hc
  have z1 : ERR.size + (itoaS c).size ≤ 9223372036854775807 := by unfold errC at hz; rw [ByteArray.size_append] at hz; omega
  clear hT hc hz
  go_enter Tryd.func60, Tryd.ntmps60
  go_wp2_with fail
  refine (itoa_any c HC.out.1 HC.out.2 _ HT.out).mono ?_
  rintro e w1 ⟨rfl, hb⟩
  have HB := Aside0.mk hb
  clear hb
  have z2 : (6 : Nat) + (itoaS c).size ≤ 9223372036854775807 := z1
  go_wp2
  go_ret
  exact ⟨rfl, HB.out⟩
theorem error_F (c a : Int) (hc : I64 c) (hz : (errC c).size ≤ 1000000) (w : World) (hT : TabG w) : Calls Tryd.prog 61 #[.agg #[.int .i64 c, .int .i64 a]] w fun e w' => e = .returned (.string (errC c)) ∧ Below w.heap.size w w' := by
  have HT : Aside0 (TabG (w.alloc (.cells #[.int .i64 c, .int .i64 a] 47))) := ⟨hT.below (below_alloc (B0 w) _) hT.1⟩
  have HC := Aside0.mk hc
  have HZ := Aside0.mk hz
  clear hT hc hz
  go_enter Tryd.func61, Tryd.ntmps61
  go_wp2_with fail
  refine (error_C c HC.out HZ.out _ HT.out).mono ?_
  rintro e w1 ⟨rfl, hb⟩
  have HB := Aside0.mk (below_step (below_alloc (B0 w) _) hb)
  clear hb
  go_wp2
  go_ret
  exact ⟨rfl, HB.out⟩
theorem methodErrorC (h : Value) (w : World) : (Go.method 233 30 h "Error").run Tryd.prog w = .ok (60, h) w := by kernel_rfl
theorem methodErrorF (h : Value) (w : World) : (Go.method 233 47 h "Error").run Tryd.prog w = .ok (61, h) w := by kernel_rfl
theorem methodErrorI (h : Value) (w : World) : (Go.method 233 53 h "Error").run Tryd.prog w = .ok (63, h) w := by kernel_rfl

set_option maxRecDepth 100000 in
set_option maxHeartbeats 8000000 in
theorem error_IC (c a : Int) (hc : I64 c) (p : ByteArray) (hz : (txt c [p]).size ≤ 1000000) (w : World) (hT : TabG w) : Calls Tryd.prog 63 #[.agg #[.string p, wrapV (baseV false c a) []]] w fun e w' => e = .returned (.string (txt c [p])) ∧ Below w.heap.size w w' := by
  have hq : wrapV (baseV false c a) [] = .iface 30 (.int .i64 c) := rfl
  rw [hq]
  obtain ⟨W, hW⟩ : ∃ u, u = w.alloc (.cells #[.string p, .iface 30 (.int .i64 c)] 53) := ⟨_, rfl⟩
  have HW : Aside0 (Below w.heap.size w W) := ⟨by rw [hW]; exact below_alloc (B0 w) _⟩
  have HT := Aside0.mk (hT.below HW.out hT.1)
  have F := Aside0.mk (show W.heap[w.heap.size]? = some (.cells #[.string p, .iface 30 (.int .i64 c)] 53 (0, 0)) from by rw [hW]; exact blk_new w _)
  have z1 : p.size + 2 ≤ 9223372036854775807 := by rw [txt, ByteArray.size_append, ByteArray.size_append] at hz; omega
  have HZ := Aside0.mk (show (txt c []).size ≤ 1000000 from by rw [txt, ByteArray.size_append] at hz; omega)
  have z2 : (p ++ SEP).size + (txt c []).size ≤ 9223372036854775807 := by rw [txt, ByteArray.size_append] at hz; omega
  obtain ⟨X, hX⟩ : ∃ X, X = txt c [] := ⟨_, rfl⟩
  have hX2 : txt c [p] = p ++ SEP ++ X := by rw [hX]; rfl
  have HX := Aside0.mk hX
  have HX2 := Aside0.mk hX2
  have HCC := Aside0.mk hc
  rw [← hX] at z2
  have mE := methodErrorC
  clear hz hT hq hX hX2 hc
  go_enter Tryd.func63, Tryd.ntmps63
  go_wp2
  rw [← hW]
  clear hW
  refine wp_region_held_drew (S := fun w' => Below W.heap.size W w') (by kernel_rfl) (below_drew1 (B0 W)) (fun hHeld => ?_)
  generalize W.drew = Wd at hHeld ⊢
  refine wpAnyH_take (i := 0) (v := .pointer (some ⟨w.heap.size, 0, none⟩)) rfl (by kernel_rfl) (by kernel_rfl) (by kernel_rfl) (fun _ _ _ h => h) (Or.inl ⟨by rfl, ?hy0⟩) hHeld ?_
  case hy0 => intro w' hSw; go_simp
  simp only [List.getElem_toArray, List.getElem_cons_succ, List.getElem_cons_zero, Act.put, List.setIfInBounds_toArray, List.set_cons_zero, List.set_cons_succ]
  refine wpAnyH_take (i := 1) (v := .string p) rfl (by kernel_rfl) (by kernel_rfl) (by kernel_rfl) (fun _ _ _ h => h) (Or.inl ⟨by rfl, ?hy1⟩) hHeld ?_
  case hy1 => intro w' hSw; have cc : w'.cell? ⟨w.heap.size, 0, none⟩ = some (.string p) := (blk_cell (blk_below F.out hSw) 0).trans (show _ = some _ from rfl); go_simp
  simp only [List.getElem_toArray, List.getElem_cons_succ, List.getElem_cons_zero, Act.put, List.setIfInBounds_toArray, List.set_cons_zero, List.set_cons_succ]
  refine wpAnyH_take (i := 2) (v := .string (p ++ SEP)) rfl (by kernel_rfl) (by kernel_rfl) (by kernel_rfl) (fun _ _ _ h => h) (Or.inl ⟨by rfl, ?hy2⟩) hHeld ?_
  case hy2 => intro w' hSw; have zz : ¬ 9223372036854775807 < p.size + 2 := (by omega); go_simp; rfl
  simp only [List.getElem_toArray, List.getElem_cons_succ, List.getElem_cons_zero, Act.put, List.setIfInBounds_toArray, List.set_cons_zero, List.set_cons_succ]
  refine wpAnyH_take (i := 3) (v := .pointer (some ⟨w.heap.size, 1, none⟩)) rfl (by kernel_rfl) (by kernel_rfl) (by kernel_rfl) (fun _ _ _ h => h) (Or.inl ⟨by rfl, ?hy3⟩) hHeld ?_
  case hy3 => intro w' hSw; go_simp
  simp only [List.getElem_toArray, List.getElem_cons_succ, List.getElem_cons_zero, Act.put, List.setIfInBounds_toArray, List.set_cons_zero, List.set_cons_succ]
  refine wpAnyH_take (i := 4) (v := .iface 30 (.int .i64 c)) rfl (by kernel_rfl) (by kernel_rfl) (by kernel_rfl) (fun _ _ _ h => h) (Or.inl ⟨by rfl, ?hy4⟩) hHeld ?_
  case hy4 => intro w' hSw; have cc : w'.cell? ⟨w.heap.size, 1, none⟩ = some (.iface 30 (.int .i64 c)) := (blk_cell (blk_below F.out hSw) 1).trans (show _ = some _ from rfl); go_simp
  simp only [List.getElem_toArray, List.getElem_cons_succ, List.getElem_cons_zero, Act.put, List.setIfInBounds_toArray, List.set_cons_zero, List.set_cons_succ]
  refine wpAnyH_ready (rs := [5]) (by kernel_rfl) (by simp) ?_
  refine AllReadyH.cons rfl (fun K hK => ?_) AllReadyH.nil
  simp only [List.getElem_toArray, List.getElem_cons_succ, List.getElem_cons_zero]
  rw [if_pos (by rfl)]
  go_simp
  refine (error_C c HCC.out HZ.out _ (HT.out.below hHeld HT.out.1)).mono ?_
  rintro e w1 ⟨rfl, hb⟩
  rw [show errC c = X from HX.out.symm]
  refine hK.out _ _ (below_step hHeld hb) (fun hHeld => ?_)
  clear hK K
  refine wpAnyH_take (i := 6) (v := .string (p ++ SEP ++ X)) rfl (by kernel_rfl) (by kernel_rfl) (by kernel_rfl) (fun _ _ _ h => h) (Or.inl ⟨by rfl, ?hy6⟩) hHeld ?_
  case hy6 => intro w' hSw; go_simp; simpa [ByteArray.size_append] using z2
  simp only [List.getElem_toArray, List.getElem_cons_succ, List.getElem_cons_zero, Act.put, List.setIfInBounds_toArray, List.set_cons_zero, List.set_cons_succ]
  refine wpAnyH_take (i := 7) (v := .string (p ++ SEP ++ X)) rfl (by kernel_rfl) (by kernel_rfl) (by kernel_rfl) (fun _ _ _ h => h) (Or.inl ⟨by rfl, ?hy7⟩) hHeld ?_
  case hy7 => intro w' hSw; go_simp
  simp only [List.getElem_toArray, List.getElem_cons_succ, List.getElem_cons_zero, Act.put, List.setIfInBounds_toArray, List.set_cons_zero, List.set_cons_succ]
  refine wpAnyH_done (by kernel_rfl) ?_ _
  have HB := Aside0.mk (below_step HW.out hHeld)
  clear hHeld
  go_wp2
  go_ret
  rw [HX2.out]
  exact ⟨rfl, HB.out⟩
set_option maxRecDepth 100000 in
set_option maxHeartbeats 8000000 in
theorem error_IF (c a : Int) (hc : I64 c) (p : ByteArray) (hz : (txt c [p]).size ≤ 1000000) (w : World) (hT : TabG w) : Calls Tryd.prog 63 #[.agg #[.string p, wrapV (baseV true c a) []]] w fun e w' => e = .returned (.string (txt c [p])) ∧ Below w.heap.size w w' := by
  have hq : wrapV (baseV true c a) [] = .iface 47 (.agg #[.int .i64 c, .int .i64 a]) := rfl
  rw [hq]
  obtain ⟨W, hW⟩ : ∃ u, u = w.alloc (.cells #[.string p, .iface 47 (.agg #[.int .i64 c, .int .i64 a])] 53) := ⟨_, rfl⟩
  have HW : Aside0 (Below w.heap.size w W) := ⟨by rw [hW]; exact below_alloc (B0 w) _⟩
  have HT := Aside0.mk (hT.below HW.out hT.1)
  have F := Aside0.mk (show W.heap[w.heap.size]? = some (.cells #[.string p, .iface 47 (.agg #[.int .i64 c, .int .i64 a])] 53 (0, 0)) from by rw [hW]; exact blk_new w _)
  have z1 : p.size + 2 ≤ 9223372036854775807 := by rw [txt, ByteArray.size_append, ByteArray.size_append] at hz; omega
  have HZ := Aside0.mk (show (txt c []).size ≤ 1000000 from by rw [txt, ByteArray.size_append] at hz; omega)
  have z2 : (p ++ SEP).size + (txt c []).size ≤ 9223372036854775807 := by rw [txt, ByteArray.size_append] at hz; omega
  obtain ⟨X, hX⟩ : ∃ X, X = txt c [] := ⟨_, rfl⟩
  have hX2 : txt c [p] = p ++ SEP ++ X := by rw [hX]; rfl
  have HX := Aside0.mk hX
  have HX2 := Aside0.mk hX2
  have HCC := Aside0.mk hc
  rw [← hX] at z2
  have mE := methodErrorF
  clear hz hT hq hX hX2 hc
  go_enter Tryd.func63, Tryd.ntmps63
  go_wp2
  rw [← hW]
  clear hW
  refine wp_region_held_drew (S := fun w' => Below W.heap.size W w') (by kernel_rfl) (below_drew1 (B0 W)) (fun hHeld => ?_)
  generalize W.drew = Wd at hHeld ⊢
  refine wpAnyH_take (i := 0) (v := .pointer (some ⟨w.heap.size, 0, none⟩)) rfl (by kernel_rfl) (by kernel_rfl) (by kernel_rfl) (fun _ _ _ h => h) (Or.inl ⟨by rfl, ?hy0⟩) hHeld ?_
  case hy0 => intro w' hSw; go_simp
  simp only [List.getElem_toArray, List.getElem_cons_succ, List.getElem_cons_zero, Act.put, List.setIfInBounds_toArray, List.set_cons_zero, List.set_cons_succ]
  refine wpAnyH_take (i := 1) (v := .string p) rfl (by kernel_rfl) (by kernel_rfl) (by kernel_rfl) (fun _ _ _ h => h) (Or.inl ⟨by rfl, ?hy1⟩) hHeld ?_
  case hy1 => intro w' hSw; have cc : w'.cell? ⟨w.heap.size, 0, none⟩ = some (.string p) := (blk_cell (blk_below F.out hSw) 0).trans (show _ = some _ from rfl); go_simp
  simp only [List.getElem_toArray, List.getElem_cons_succ, List.getElem_cons_zero, Act.put, List.setIfInBounds_toArray, List.set_cons_zero, List.set_cons_succ]
  refine wpAnyH_take (i := 2) (v := .string (p ++ SEP)) rfl (by kernel_rfl) (by kernel_rfl) (by kernel_rfl) (fun _ _ _ h => h) (Or.inl ⟨by rfl, ?hy2⟩) hHeld ?_
  case hy2 => intro w' hSw; have zz : ¬ 9223372036854775807 < p.size + 2 := (by omega); go_simp; rfl
  simp only [List.getElem_toArray, List.getElem_cons_succ, List.getElem_cons_zero, Act.put, List.setIfInBounds_toArray, List.set_cons_zero, List.set_cons_succ]
  refine wpAnyH_take (i := 3) (v := .pointer (some ⟨w.heap.size, 1, none⟩)) rfl (by kernel_rfl) (by kernel_rfl) (by kernel_rfl) (fun _ _ _ h => h) (Or.inl ⟨by rfl, ?hy3⟩) hHeld ?_
  case hy3 => intro w' hSw; go_simp
  simp only [List.getElem_toArray, List.getElem_cons_succ, List.getElem_cons_zero, Act.put, List.setIfInBounds_toArray, List.set_cons_zero, List.set_cons_succ]
  refine wpAnyH_take (i := 4) (v := .iface 47 (.agg #[.int .i64 c, .int .i64 a])) rfl (by kernel_rfl) (by kernel_rfl) (by kernel_rfl) (fun _ _ _ h => h) (Or.inl ⟨by rfl, ?hy4⟩) hHeld ?_
  case hy4 => intro w' hSw; have cc : w'.cell? ⟨w.heap.size, 1, none⟩ = some (.iface 47 (.agg #[.int .i64 c, .int .i64 a])) := (blk_cell (blk_below F.out hSw) 1).trans (show _ = some _ from rfl); go_simp
  simp only [List.getElem_toArray, List.getElem_cons_succ, List.getElem_cons_zero, Act.put, List.setIfInBounds_toArray, List.set_cons_zero, List.set_cons_succ]
  refine wpAnyH_ready (rs := [5]) (by kernel_rfl) (by simp) ?_
  refine AllReadyH.cons rfl (fun K hK => ?_) AllReadyH.nil
  simp only [List.getElem_toArray, List.getElem_cons_succ, List.getElem_cons_zero]
  rw [if_pos (by rfl)]
  go_simp
  refine (error_F c a HCC.out HZ.out _ (HT.out.below hHeld HT.out.1)).mono ?_
  rintro e w1 ⟨rfl, hb⟩
  rw [show errC c = X from HX.out.symm]
  refine hK.out _ _ (below_step hHeld hb) (fun hHeld => ?_)
  clear hK K
  refine wpAnyH_take (i := 6) (v := .string (p ++ SEP ++ X)) rfl (by kernel_rfl) (by kernel_rfl) (by kernel_rfl) (fun _ _ _ h => h) (Or.inl ⟨by rfl, ?hy6⟩) hHeld ?_
  case hy6 => intro w' hSw; go_simp; simpa [ByteArray.size_append] using z2
  simp only [List.getElem_toArray, List.getElem_cons_succ, List.getElem_cons_zero, Act.put, List.setIfInBounds_toArray, List.set_cons_zero, List.set_cons_succ]
  refine wpAnyH_take (i := 7) (v := .string (p ++ SEP ++ X)) rfl (by kernel_rfl) (by kernel_rfl) (by kernel_rfl) (fun _ _ _ h => h) (Or.inl ⟨by rfl, ?hy7⟩) hHeld ?_
  case hy7 => intro w' hSw; go_simp
  simp only [List.getElem_toArray, List.getElem_cons_succ, List.getElem_cons_zero, Act.put, List.setIfInBounds_toArray, List.set_cons_zero, List.set_cons_succ]
  refine wpAnyH_done (by kernel_rfl) ?_ _
  have HB := Aside0.mk (below_step HW.out hHeld)
  clear hHeld
  go_wp2
  go_ret
  rw [HX2.out]
  exact ⟨rfl, HB.out⟩
set_option maxRecDepth 100000 in
set_option maxHeartbeats 8000000 in
theorem error_I (f : Bool) (c a : Int) (ps : List ByteArray) : ∀ (hc : I64 c) (p : ByteArray) (hz : (txt c (p :: ps)).size ≤ 1000000) (w : World) (hT : TabG w), Calls Tryd.prog 63 #[.agg #[.string p, wrapV (baseV f c a) ps]] w fun e w' => e = .returned (.string (txt c (p :: ps))) ∧ Below w.heap.size w w' := by
  induction ps with
  | nil =>
    intro hc p hz w hT
    cases f with
    | false => exact error_IC c a hc p hz w hT
    | true => exact error_IF c a hc p hz w hT
  | cons q ps ih =>
    intro hc p hz w hT
    obtain ⟨V, hV⟩ : ∃ V, V = wrapV (baseV f c a) ps := ⟨_, rfl⟩
    have hq : wrapV (baseV f c a) (q :: ps) = .iface 53 (.agg #[.string q, V]) := by rw [hV]; rfl
    have HQ := Aside0.mk hV
    rw [hq]
    obtain ⟨W, hW⟩ : ∃ u, u = w.alloc (.cells #[.string p, .iface 53 (.agg #[.string q, V])] 53) := ⟨_, rfl⟩
    have HW : Aside0 (Below w.heap.size w W) := ⟨by rw [hW]; exact below_alloc (B0 w) _⟩
    have HT := Aside0.mk (hT.below HW.out hT.1)
    have F := Aside0.mk (show W.heap[w.heap.size]? = some (.cells #[.string p, .iface 53 (.agg #[.string q, V])] 53 (0, 0)) from by rw [hW]; exact blk_new w _)
    have z1 : p.size + 2 ≤ 9223372036854775807 := by rw [txt, ByteArray.size_append, ByteArray.size_append] at hz; omega
    have HZ := Aside0.mk (show (txt c (q :: ps)).size ≤ 1000000 from by rw [txt, ByteArray.size_append] at hz; omega)
    have z2 : (p ++ SEP).size + (txt c (q :: ps)).size ≤ 9223372036854775807 := by rw [txt, ByteArray.size_append] at hz; omega
    obtain ⟨X, hX⟩ : ∃ X, X = txt c (q :: ps) := ⟨_, rfl⟩
    have hX2 : txt c (p :: q :: ps) = p ++ SEP ++ X := by rw [hX]; rfl
    have HX := Aside0.mk hX
    have HX2 := Aside0.mk hX2
    have HCC := Aside0.mk hc
    rw [← hX] at z2
    have mE := methodErrorI
    clear hz hT hV hq hX hX2 hc
    go_enter Tryd.func63, Tryd.ntmps63
    go_wp2
    rw [← hW]
    clear hW
    refine wp_region_held_drew (S := fun w' => Below W.heap.size W w') (by kernel_rfl) (below_drew1 (B0 W)) (fun hHeld => ?_)
    generalize W.drew = Wd at hHeld ⊢
    refine wpAnyH_take (i := 0) (v := .pointer (some ⟨w.heap.size, 0, none⟩)) rfl (by kernel_rfl) (by kernel_rfl) (by kernel_rfl) (fun _ _ _ h => h) (Or.inl ⟨by rfl, ?hy0⟩) hHeld ?_
    case hy0 => intro w' hSw; go_simp
    simp only [List.getElem_toArray, List.getElem_cons_succ, List.getElem_cons_zero, Act.put, List.setIfInBounds_toArray, List.set_cons_zero, List.set_cons_succ]
    refine wpAnyH_take (i := 1) (v := .string p) rfl (by kernel_rfl) (by kernel_rfl) (by kernel_rfl) (fun _ _ _ h => h) (Or.inl ⟨by rfl, ?hy1⟩) hHeld ?_
    case hy1 => intro w' hSw; have cc : w'.cell? ⟨w.heap.size, 0, none⟩ = some (.string p) := (blk_cell (blk_below F.out hSw) 0).trans (show _ = some _ from rfl); go_simp
    simp only [List.getElem_toArray, List.getElem_cons_succ, List.getElem_cons_zero, Act.put, List.setIfInBounds_toArray, List.set_cons_zero, List.set_cons_succ]
    refine wpAnyH_take (i := 2) (v := .string (p ++ SEP)) rfl (by kernel_rfl) (by kernel_rfl) (by kernel_rfl) (fun _ _ _ h => h) (Or.inl ⟨by rfl, ?hy2⟩) hHeld ?_
    case hy2 => intro w' hSw; have zz : ¬ 9223372036854775807 < p.size + 2 := (by omega); go_simp; rfl
    simp only [List.getElem_toArray, List.getElem_cons_succ, List.getElem_cons_zero, Act.put, List.setIfInBounds_toArray, List.set_cons_zero, List.set_cons_succ]
    refine wpAnyH_take (i := 3) (v := .pointer (some ⟨w.heap.size, 1, none⟩)) rfl (by kernel_rfl) (by kernel_rfl) (by kernel_rfl) (fun _ _ _ h => h) (Or.inl ⟨by rfl, ?hy3⟩) hHeld ?_
    case hy3 => intro w' hSw; go_simp
    simp only [List.getElem_toArray, List.getElem_cons_succ, List.getElem_cons_zero, Act.put, List.setIfInBounds_toArray, List.set_cons_zero, List.set_cons_succ]
    refine wpAnyH_take (i := 4) (v := .iface 53 (.agg #[.string q, V])) rfl (by kernel_rfl) (by kernel_rfl) (by kernel_rfl) (fun _ _ _ h => h) (Or.inl ⟨by rfl, ?hy4⟩) hHeld ?_
    case hy4 => intro w' hSw; have cc : w'.cell? ⟨w.heap.size, 1, none⟩ = some (.iface 53 (.agg #[.string q, V])) := (blk_cell (blk_below F.out hSw) 1).trans (show _ = some _ from rfl); go_simp
    simp only [List.getElem_toArray, List.getElem_cons_succ, List.getElem_cons_zero, Act.put, List.setIfInBounds_toArray, List.set_cons_zero, List.set_cons_succ]
    refine wpAnyH_ready (rs := [5]) (by kernel_rfl) (by simp) ?_
    refine AllReadyH.cons rfl (fun K hK => ?_) AllReadyH.nil
    simp only [List.getElem_toArray, List.getElem_cons_succ, List.getElem_cons_zero]
    rw [if_pos (by rfl)]
    go_simp
    rw [HQ.out]
    refine (ih HCC.out q HZ.out _ (HT.out.below hHeld HT.out.1)).mono ?_
    rintro e w1 ⟨rfl, hb⟩
    rw [← HX.out]
    refine hK.out _ _ (below_step hHeld hb) (fun hHeld => ?_)
    clear hK K
    refine wpAnyH_take (i := 6) (v := .string (p ++ SEP ++ X)) rfl (by kernel_rfl) (by kernel_rfl) (by kernel_rfl) (fun _ _ _ h => h) (Or.inl ⟨by rfl, ?hy6⟩) hHeld ?_
    case hy6 => intro w' hSw; go_simp; simpa [ByteArray.size_append] using z2
    simp only [List.getElem_toArray, List.getElem_cons_succ, List.getElem_cons_zero, Act.put, List.setIfInBounds_toArray, List.set_cons_zero, List.set_cons_succ]
    refine wpAnyH_take (i := 7) (v := .string (p ++ SEP ++ X)) rfl (by kernel_rfl) (by kernel_rfl) (by kernel_rfl) (fun _ _ _ h => h) (Or.inl ⟨by rfl, ?hy7⟩) hHeld ?_
    case hy7 => intro w' hSw; go_simp
    simp only [List.getElem_toArray, List.getElem_cons_succ, List.getElem_cons_zero, Act.put, List.setIfInBounds_toArray, List.set_cons_zero, List.set_cons_succ]
    refine wpAnyH_done (by kernel_rfl) ?_ _
    have HB := Aside0.mk (below_step HW.out hHeld)
    clear hHeld
    go_wp2
    go_ret
    rw [HX2.out]
    exact ⟨rfl, HB.out⟩

end Go.Proofs.YtmnfemdcccpmfaaDoor.HErr
