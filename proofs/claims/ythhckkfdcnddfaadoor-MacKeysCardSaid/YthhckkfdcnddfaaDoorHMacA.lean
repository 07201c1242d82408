/- The law's own check at fixed inputs. -/
import Derived.Test.YthhckkfdcnddfaaDoorHMacD
import Derived.Lib.SlBytesConst
namespace Go.Proofs.YthhckkfdcnddfaaDoor.HMacA
open Go.RowKit Go.Proofs.YthhckkfdcnddfaaDoorW.PrintWords Go.Proofs.YthhckkfdcnddfaaDoor.HLib Go.Proofs.YthhckkfdcnddfaaDoor.HSha Go.Proofs.YthhckkfdcnddfaaDoor.HShaS Go.Proofs.YthhckkfdcnddfaaDoor.HShaU Go.Proofs.YthhckkfdcnddfaaDoor.HShaV Go.Proofs.YthhckkfdcnddfaaDoor.HShaW Go.Proofs.YthhckkfdcnddfaaDoor.HShaB Go.Proofs.YthhckkfdcnddfaaDoor.HShaX Go.Proofs.YthhckkfdcnddfaaDoor.HMac Go.Proofs.YthhckkfdcnddfaaDoor.HMacC Go.Proofs.YthhckkfdcnddfaaDoor.HMacS Go.Proofs.YthhckkfdcnddfaaDoor.HMacR Go.Proofs.YthhckkfdcnddfaaDoor.HMacQ Go.Proofs.YthhckkfdcnddfaaDoor.HMacK Go.Proofs.YthhckkfdcnddfaaDoor.HMacD
set_option linter.unusedVariables false
set_option linter.unusedSimpArgs false

def JE : List Int := [74, 101, 102, 101]
def P1 : List Int := [119, 104, 97, 116, 32, 100, 111, 32, 121, 97, 32, 119, 97, 110, 116, 32]
def P2 : List Int := [102, 111, 114, 32, 110, 111, 116, 104, 105, 110, 103, 63]
def PP : List Int := [119, 104, 97, 116, 32, 100, 111, 32, 121, 97, 32, 119, 97, 110, 116, 32, 102, 111, 114, 32, 110, 111, 116, 104, 105, 110, 103, 63]
def MM : List Int := macP JE PP
theorem MM_at : rd MM 0 = 91 ∧ rd MM 1 = 220 ∧ rd MM 2 = 193 ∧ rd MM 31 = 67 := of_decide_eq_true (by kernel_rfl)
theorem MM_len : MM.length = 32 := macP_len _ _
theorem MM_byte : ∀ x ∈ MM, 0 ≤ x ∧ x < 256 := macP_byte _ _
theorem JE_byte : ∀ x ∈ JE, 0 ≤ x ∧ x < 256 := by decide
theorem PP_byte : ∀ x ∈ PP, 0 ≤ x ∧ x < 256 := by decide
theorem chk16 : chk JE (MM.take 16) PP = true := by
  have h : (MM.take 16).length = 16 := by rw [List.length_take, MM_len]; decide
  unfold chk
  rw [h]
  exact decide_eq_true ⟨by decide, by decide, rfl⟩
theorem chk15 : chk JE (MM.take 15) PP = false := by
  have h : (MM.take 15).length = 15 := by rw [List.length_take, MM_len]; decide
  unfold chk
  rw [h]
  exact decide_eq_false (fun h => absurd h.1 (by decide))
theorem ne_tail : decide (MM = MM.drop 1) = false := decide_eq_false (fun h => by
  have := congrArg List.length h
  rw [List.length_drop, MM_len] at this
  omega)
theorem run_conv_at {P : Program} {W : World} {t e : TypeId} (ht : P.underlying t = some (.slice e)) (he : P.underlying e = some (.int .u8)) {g n c : Nat} {C : Array Value} (h : W.heap[g]? = some (.cells C e (0, 0))) :
    (convert t t (.slice (some ⟨g, 0, none⟩) n c)).run P W = .ok (.slice (some ⟨g, 0, none⟩) n c) (W.freeze ⟨g, C.size, none⟩ 1) := by
  have hs : W.shape? g = some (e, C.size) := by
    unfold World.shape?
    rw [h]
  simp [convert, run_underlying ht, run_underlying he, markStringish, hs]
theorem freeze_same {W : World} {g : Nat} {C : Array Value} {e : TypeId} (h : W.heap[g]? = some (.cells C e (0, 0))) : (W.freeze ⟨g, C.size, none⟩ 1).heap[g]? = some (.cells C e (C.size, C.size + 1)) := by
  unfold World.freeze
  rw [if_neg (by decide)]
  simp [Array.getElem?_modify, h]
theorem freeze_other {W : World} {g k : Nat} {o : Obj} {n : Nat} (h : W.heap[k]? = some o) (hne : k ≠ g) : (W.freeze ⟨g, n, none⟩ 1).heap[k]? = some o := by
  unfold World.freeze
  rw [if_neg (by decide)]
  simp [Array.getElem?_modify, h, Ne.symm hne]
theorem freeze_size {W : World} {g n : Nat} : (W.freeze ⟨g, n, none⟩ 1).heap.size = W.heap.size := by
  unfold World.freeze
  rw [if_neg (by decide)]
  simp
theorem freeze_below {W : World} {B g n : Nat} (hB : B ≤ g) : Below B W (W.freeze ⟨g, n, none⟩ 1) := by
  refine ⟨?_, ?_, ?_, by rw [freeze_size]; exact Nat.le_refl _, fun k hk => ?_⟩
  · unfold World.freeze; rw [if_neg (by decide)]
  · unfold World.freeze; rw [if_neg (by decide)]
  · unfold World.freeze; rw [if_neg (by decide)]
  · unfold World.freeze
    rw [if_neg (by decide)]
    have : g ≠ k := by omega
    simp [Array.getElem?_modify, this]
section
variable {P : Program} {md : Region.Mode} {ops : Array Oper} {Q : Exit → Act → World → Prop} {S : World → Prop}
theorem share_act {fuel : Nat} {l : Array Bool} {a0 : Act} {w0 : World} (H : ∀ a1, a1 = a0 → wpAnyH P md ops Q S fuel l a1 w0) : wpAnyH P md ops Q S fuel l a0 w0 := H a0 rfl
theorem share {fuel fuel0 : Nat} {l l0 : Array Bool} {a0 : Act} {w0 : World} (PRE : Act → World → Prop) (suf : ∀ a w, PRE a w → wpAnyH P md ops Q S fuel l a w) (main : (∀ a w, PRE a w → wpAnyH P md ops Q S fuel l a w) → wpAnyH P md ops Q S fuel0 l0 a0 w0) : wpAnyH P md ops Q S fuel0 l0 a0 w0 := main suf
theorem wpAnyH_listed {fuel : Nat} {l l' : Array Bool} {a : Act} {w : World} (h : l = l') (H : wpAnyH P md ops Q S fuel l' a w) : wpAnyH P md ops Q S fuel l a w := by rw [h]; exact H
end
/-- What the last statement leaves as it was. -/
def SW (w : World) (g8 : Nat) (w' : World) : Prop := Glob w' ∧ Below w.heap.size w w' ∧ w.heap.size ≤ g8 ∧ IsArr w' g8 .u8 26 MM
theorem SW.step {w : World} {g8 : Nat} {w1 w2 : World} (h : SW w g8 w1) (h0 : 0 < w.heap.size) (hb : Below (g8 + 1) w1 w2) : SW w g8 w2 :=
  ⟨glob_below h.1 (Nat.succ_pos _) hb, h.2.1.trans (hb.mono (Nat.le_succ_of_le h.2.2.1)), h.2.2.1, h.2.2.2.below hb (Nat.lt_succ_self _)⟩
theorem SW.big {w : World} {g8 : Nat} {w1 w2 : World} (h : SW w g8 w1) (h0 : 0 < w.heap.size) (hb : Below w1.heap.size w1 w2) : SW w g8 w2 := h.step h0 (hb.mono (arr_lt h.2.2.2))
theorem SW.cell {w : World} {g8 : Nat} {w1 : World} (h : SW w g8 w1) (i : Nat) (hi : i < 32) : w1.cell? ⟨g8, i, none⟩ = some (.int .u8 (rd MM (i : Int))) := by
  have := h.2.2.2.cell (i : Int) (by omega) (by rw [MM_len]; omega)
  rwa [show ((i : Int)).toNat = i from by omega] at this
theorem SW.C {w : World} {g8 : Nat} {w1 : World} (h : SW w g8 w1) (m : Nat) (hm : m ≤ 32) : (Kd.int .u8).C w1 (some ⟨g8, 0, none⟩) (MM.take m).length (MM.take m) := bytes_C_take h.2.2.2 (by rw [MM_len]; decide) m (by rw [MM_len]; exact hm)

theorem SW.full {w : World} {g8 : Nat} {w1 : World} (h : SW w g8 w1) : Bv w1 (.slice (some ⟨g8, 0, none⟩) 32 32) MM := ⟨_, 32, by rw [MM_len], by rw [MM_len]; exact Nat.le_refl _, bytes_C h.2.2.2 (by rw [MM_len]; decide)⟩
theorem SW.cut {w : World} {g8 : Nat} {w1 : World} (h : SW w g8 w1) (m : Nat) (hm : m ≤ 32) : Bv w1 (.slice (some ⟨g8, 0, none⟩) m 32) (MM.take m) := by
  have e : (MM.take m).length = m := by rw [List.length_take, MM_len]; omega
  exact ⟨_, 32, by rw [e], by rw [e]; exact hm, h.C m hm⟩
theorem SW.tail {w : World} {g8 : Nat} {w1 : World} (h : SW w g8 w1) : Bv w1 (.slice (some ⟨g8, 1, none⟩) 31 31) (MM.drop 1) := by
  have e : (MM.drop 1).length = 31 := by rw [List.length_drop, MM_len]
  refine ⟨_, 31, by rw [e], by rw [e]; exact Nat.le_refl _, ?_⟩
  rw [e]
  refine Kd.C_of_reads (d := (0 : Int)) (readsInt_of.1 ⟨e, by omega, fun _ => ⟨_, rfl, fun j hj => ?_⟩⟩)
  have ea : (⟨g8, 1, none⟩ : Addr).add j = ⟨g8, 1 + j, none⟩ := by unfold Addr.add; split <;> simp_all
  rw [ea, h.cell (1 + j) (by omega), rd, show (((1 + j : Nat) : Int)).toNat = 1 + j from by omega, List.getD_eq_getElem?_getD, List.getD_eq_getElem?_getD, List.getElem?_drop]
theorem derP_len (key lab : List Int) (n : Int) (h : 0 ≤ n ∧ n ≤ 8160) : (derP key lab n).length = n.toNat := by
  unfold derP
  rw [if_pos h, List.length_take, dall_len]
  omega
theorem nil_bv (w : World) : Bv w (.slice none 0 0) [] := ⟨none, 0, rfl, Nat.le_refl _, Kd.C_nil _ _⟩

set_option maxRecDepth 100000 in
set_option maxHeartbeats 16000000 in
theorem awake_any (w : World) (hG : Glob w) : Calls Tryd.prog 8 #[] w fun e w' => e = .returned (.bool true) ∧ Below w.heap.size w w' := by
  have HG := Aside0.mk hG
  clear hG
  have hcv0 := Lib.run_convert_bytes_const (P := Tryd.prog) w 22 5 #[.int .u8 74, .int .u8 101, .int .u8 102, .int .u8 101] 4 4 Tryd.underlying22 Tryd.underlying5
  rw [show (#[.int .u8 74, .int .u8 101, .int .u8 102, .int .u8 101] : Array Value).size = 4 from rfl] at hcv0
  have hcv1 := Lib.run_convert_bytes_const (P := Tryd.prog) (w.alloc (.cells #[.int .u8 74, .int .u8 101, .int .u8 102, .int .u8 101] 5 (4, 5))) 22 5 #[.int .u8 119, .int .u8 104, .int .u8 97, .int .u8 116, .int .u8 32, .int .u8 100, .int .u8 111, .int .u8 32, .int .u8 121, .int .u8 97, .int .u8 32, .int .u8 119, .int .u8 97, .int .u8 110, .int .u8 116, .int .u8 32] 16 16 Tryd.underlying22 Tryd.underlying5
  rw [show (#[.int .u8 119, .int .u8 104, .int .u8 97, .int .u8 116, .int .u8 32, .int .u8 100, .int .u8 111, .int .u8 32, .int .u8 121, .int .u8 97, .int .u8 32, .int .u8 119, .int .u8 97, .int .u8 110, .int .u8 116, .int .u8 32] : Array Value).size = 16 from rfl, World.size_alloc] at hcv1
  have hcv2 := Lib.run_convert_bytes_const (P := Tryd.prog) ((w.alloc (.cells #[.int .u8 74, .int .u8 101, .int .u8 102, .int .u8 101] 5 (4, 5))).alloc (.cells #[.int .u8 119, .int .u8 104, .int .u8 97, .int .u8 116, .int .u8 32, .int .u8 100, .int .u8 111, .int .u8 32, .int .u8 121, .int .u8 97, .int .u8 32, .int .u8 119, .int .u8 97, .int .u8 110, .int .u8 116, .int .u8 32] 5 (16, 17))) 22 5 #[.int .u8 102, .int .u8 111, .int .u8 114, .int .u8 32, .int .u8 110, .int .u8 111, .int .u8 116, .int .u8 104, .int .u8 105, .int .u8 110, .int .u8 103, .int .u8 63] 12 12 Tryd.underlying22 Tryd.underlying5
  rw [show (#[.int .u8 102, .int .u8 111, .int .u8 114, .int .u8 32, .int .u8 110, .int .u8 111, .int .u8 116, .int .u8 104, .int .u8 105, .int .u8 110, .int .u8 103, .int .u8 63] : Array Value).size = 12 from rfl, World.size_alloc, World.size_alloc] at hcv2
  have hw1 : ((((w.alloc (.cells #[.int .u8 74, .int .u8 101, .int .u8 102, .int .u8 101] 5 (4, 5))).alloc (.cells #[.int .u8 119, .int .u8 104, .int .u8 97, .int .u8 116, .int .u8 32, .int .u8 100, .int .u8 111, .int .u8 32, .int .u8 121, .int .u8 97, .int .u8 32, .int .u8 119, .int .u8 97, .int .u8 110, .int .u8 116, .int .u8 32] 5 (16, 17))).alloc (.cells #[.int .u8 102, .int .u8 111, .int .u8 114, .int .u8 32, .int .u8 110, .int .u8 111, .int .u8 116, .int .u8 104, .int .u8 105, .int .u8 110, .int .u8 103, .int .u8 63] 5 (12, 13))).alloc (.cells #[.slice (some ⟨w.heap.size + 1, 0, none⟩) 16 16, .slice (some ⟨w.heap.size + 1 + 1, 0, none⟩) 12 12] 22)).heap[w.heap.size]? = some (.cells (nums .u8 JE).toArray 5 (4, 5)) := blk_alloc (blk_alloc (blk_alloc (blk_new w _) _) _) _
  have hw2 : ((((w.alloc (.cells #[.int .u8 74, .int .u8 101, .int .u8 102, .int .u8 101] 5 (4, 5))).alloc (.cells #[.int .u8 119, .int .u8 104, .int .u8 97, .int .u8 116, .int .u8 32, .int .u8 100, .int .u8 111, .int .u8 32, .int .u8 121, .int .u8 97, .int .u8 32, .int .u8 119, .int .u8 97, .int .u8 110, .int .u8 116, .int .u8 32] 5 (16, 17))).alloc (.cells #[.int .u8 102, .int .u8 111, .int .u8 114, .int .u8 32, .int .u8 110, .int .u8 111, .int .u8 116, .int .u8 104, .int .u8 105, .int .u8 110, .int .u8 103, .int .u8 63] 5 (12, 13))).alloc (.cells #[.slice (some ⟨w.heap.size + 1, 0, none⟩) 16 16, .slice (some ⟨w.heap.size + 1 + 1, 0, none⟩) 12 12] 22)).heap[w.heap.size + 1]? = some (.cells (nums .u8 P1).toArray 5 (16, 17)) := by
    have h := blk_new (w.alloc (.cells #[.int .u8 74, .int .u8 101, .int .u8 102, .int .u8 101] 5 (4, 5))) (.cells #[.int .u8 119, .int .u8 104, .int .u8 97, .int .u8 116, .int .u8 32, .int .u8 100, .int .u8 111, .int .u8 32, .int .u8 121, .int .u8 97, .int .u8 32, .int .u8 119, .int .u8 97, .int .u8 110, .int .u8 116, .int .u8 32] 5 (16, 17))
    rw [World.size_alloc] at h
    exact blk_alloc (blk_alloc h _) _
  have hw3 : ((((w.alloc (.cells #[.int .u8 74, .int .u8 101, .int .u8 102, .int .u8 101] 5 (4, 5))).alloc (.cells #[.int .u8 119, .int .u8 104, .int .u8 97, .int .u8 116, .int .u8 32, .int .u8 100, .int .u8 111, .int .u8 32, .int .u8 121, .int .u8 97, .int .u8 32, .int .u8 119, .int .u8 97, .int .u8 110, .int .u8 116, .int .u8 32] 5 (16, 17))).alloc (.cells #[.int .u8 102, .int .u8 111, .int .u8 114, .int .u8 32, .int .u8 110, .int .u8 111, .int .u8 116, .int .u8 104, .int .u8 105, .int .u8 110, .int .u8 103, .int .u8 63] 5 (12, 13))).alloc (.cells #[.slice (some ⟨w.heap.size + 1, 0, none⟩) 16 16, .slice (some ⟨w.heap.size + 1 + 1, 0, none⟩) 12 12] 22)).heap[w.heap.size + 1 + 1]? = some (.cells (nums .u8 P2).toArray 5 (12, 13)) := by
    have h := blk_new ((w.alloc (.cells #[.int .u8 74, .int .u8 101, .int .u8 102, .int .u8 101] 5 (4, 5))).alloc (.cells #[.int .u8 119, .int .u8 104, .int .u8 97, .int .u8 116, .int .u8 32, .int .u8 100, .int .u8 111, .int .u8 32, .int .u8 121, .int .u8 97, .int .u8 32, .int .u8 119, .int .u8 97, .int .u8 110, .int .u8 116, .int .u8 32] 5 (16, 17))) (.cells #[.int .u8 102, .int .u8 111, .int .u8 114, .int .u8 32, .int .u8 110, .int .u8 111, .int .u8 116, .int .u8 104, .int .u8 105, .int .u8 110, .int .u8 103, .int .u8 63] 5 (12, 13))
    rw [World.size_alloc, World.size_alloc] at h
    exact blk_alloc h _
  have hw4 : ((((w.alloc (.cells #[.int .u8 74, .int .u8 101, .int .u8 102, .int .u8 101] 5 (4, 5))).alloc (.cells #[.int .u8 119, .int .u8 104, .int .u8 97, .int .u8 116, .int .u8 32, .int .u8 100, .int .u8 111, .int .u8 32, .int .u8 121, .int .u8 97, .int .u8 32, .int .u8 119, .int .u8 97, .int .u8 110, .int .u8 116, .int .u8 32] 5 (16, 17))).alloc (.cells #[.int .u8 102, .int .u8 111, .int .u8 114, .int .u8 32, .int .u8 110, .int .u8 111, .int .u8 116, .int .u8 104, .int .u8 105, .int .u8 110, .int .u8 103, .int .u8 63] 5 (12, 13))).alloc (.cells #[.slice (some ⟨w.heap.size + 1, 0, none⟩) 16 16, .slice (some ⟨w.heap.size + 1 + 1, 0, none⟩) 12 12] 22)).heap[w.heap.size + 1 + 1 + 1]? = some (.cells [.slice (some ⟨w.heap.size + 1, 0, none⟩) 16 16, .slice (some ⟨w.heap.size + 1 + 1, 0, none⟩) 12 12].toArray 22 (0, 0)) := by
    have h := blk_new (((w.alloc (.cells #[.int .u8 74, .int .u8 101, .int .u8 102, .int .u8 101] 5 (4, 5))).alloc (.cells #[.int .u8 119, .int .u8 104, .int .u8 97, .int .u8 116, .int .u8 32, .int .u8 100, .int .u8 111, .int .u8 32, .int .u8 121, .int .u8 97, .int .u8 32, .int .u8 119, .int .u8 97, .int .u8 110, .int .u8 116, .int .u8 32] 5 (16, 17))).alloc (.cells #[.int .u8 102, .int .u8 111, .int .u8 114, .int .u8 32, .int .u8 110, .int .u8 111, .int .u8 116, .int .u8 104, .int .u8 105, .int .u8 110, .int .u8 103, .int .u8 63] 5 (12, 13))) (.cells #[.slice (some ⟨w.heap.size + 1, 0, none⟩) 16 16, .slice (some ⟨w.heap.size + 1 + 1, 0, none⟩) 12 12] 22)
    rw [World.size_alloc, World.size_alloc, World.size_alloc] at h
    exact h
  have hbw : Below w.heap.size w ((((w.alloc (.cells #[.int .u8 74, .int .u8 101, .int .u8 102, .int .u8 101] 5 (4, 5))).alloc (.cells #[.int .u8 119, .int .u8 104, .int .u8 97, .int .u8 116, .int .u8 32, .int .u8 100, .int .u8 111, .int .u8 32, .int .u8 121, .int .u8 97, .int .u8 32, .int .u8 119, .int .u8 97, .int .u8 110, .int .u8 116, .int .u8 32] 5 (16, 17))).alloc (.cells #[.int .u8 102, .int .u8 111, .int .u8 114, .int .u8 32, .int .u8 110, .int .u8 111, .int .u8 116, .int .u8 104, .int .u8 105, .int .u8 110, .int .u8 103, .int .u8 63] 5 (12, 13))).alloc (.cells #[.slice (some ⟨w.heap.size + 1, 0, none⟩) 16 16, .slice (some ⟨w.heap.size + 1 + 1, 0, none⟩) 12 12] 22)) := below_alloc (below_alloc (below_alloc (below_alloc (B0 w) _) _) _) _
  obtain ⟨W4, hW4⟩ : ∃ W, W = ((((w.alloc (.cells #[.int .u8 74, .int .u8 101, .int .u8 102, .int .u8 101] 5 (4, 5))).alloc (.cells #[.int .u8 119, .int .u8 104, .int .u8 97, .int .u8 116, .int .u8 32, .int .u8 100, .int .u8 111, .int .u8 32, .int .u8 121, .int .u8 97, .int .u8 32, .int .u8 119, .int .u8 97, .int .u8 110, .int .u8 116, .int .u8 32] 5 (16, 17))).alloc (.cells #[.int .u8 102, .int .u8 111, .int .u8 114, .int .u8 32, .int .u8 110, .int .u8 111, .int .u8 116, .int .u8 104, .int .u8 105, .int .u8 110, .int .u8 103, .int .u8 63] 5 (12, 13))).alloc (.cells #[.slice (some ⟨w.heap.size + 1, 0, none⟩) 16 16, .slice (some ⟨w.heap.size + 1 + 1, 0, none⟩) 12 12] 22)) := ⟨_, rfl⟩
  rw [← hW4] at hw1 hw2 hw3 hw4 hbw
  have hkb := KB_list (xss := [P1, P2]) hw4 rfl (by simp) (fun q v xs q1 q2 => by
    match q, q1, q2 with
    | 0, q1, q2 =>
      simp at q1 q2
      subst q1 q2
      exact ⟨_, 16, rfl, by decide, bytes_C hw2 (by decide)⟩
    | 1, q1, q2 =>
      simp at q1 q2
      subst q1 q2
      exact ⟨_, 12, rfl, by decide, bytes_C hw3 (by decide)⟩
    | q + 2, q1, q2 => simp at q1)
  have HJ := Aside0.mk (show Bv W4 (.slice (some ⟨w.heap.size, 0, none⟩) 4 4) JE from ⟨_, 4, rfl, by decide, bytes_C hw1 (by decide)⟩)
  have HKB := Aside0.mk hkb
  have HBW := Aside0.mk hbw
  have HW4 := Aside0.mk hW4
  clear hw1 hw2 hw3 hw4 hbw hkb hW4
  go_enter Tryd.func8, Tryd.ntmps8
  go_wp2_with fail
  rw [← HW4.out]
  refine (mac_any W4 _ JE HJ.out JE_byte (by decide) _ 2 [P1, P2] HKB.out (show 2 ≤ 2 by decide) (by decide) (by decide) (show 2 ≤ 4294960000 by decide) (glob_below HG.out HG.out.1 HBW.out)).mono ?_
  rintro e w5 ⟨rfl, hb5⟩
  rw [show macP JE (cat [P1, P2]) = MM from rfl]
  have HB5 := Aside0.mk (HBW.out.trans (hb5.mono HBW.out.size))
  have HST := Aside0.mk (run_storeAt_new (P := Tryd.prog) w5 26 (nums .u8 (List.replicate 32 0)).toArray (nums .u8 MM).toArray (by rw [size_out]; simp [nums, MM_len]) (by simp [nums, MM_len]) (by simp [nums, Value.oneCell']))
  have hS : SW w w5.heap.size (w5.alloc (.cells (nums .u8 MM).toArray 26)).drew := by
    have hb := below_alloc HB5.out (.cells (nums .u8 MM).toArray 26)
    exact SW.big ⟨glob_below HG.out HG.out.1 hb, hb, HB5.out.size, blk_new w5 _⟩ HG.out.1 (below_drew1 (B0 _))
  have HSW := Aside0.mk hS
  clear hb5 hS
  go_wp2_with (refine store_event rfl (t := 26) (p := 1) (v := .tmp 9) rfl rfl (w1 := w5.alloc (.cells (nums .u8 MM).toArray 26)) ?hr ?_; (case hr => exact run_store_of rfl HST.out); intro w6 hw6; subst hw6)
  refine wp_region_held_drew (S := SW w w5.heap.size) (by kernel_rfl) HSW.out (fun hHeld => ?_)
  refine wpAnyH_take (i := 0) (v := .pointer (some ⟨w5.heap.size, 0, none⟩)) rfl (by kernel_rfl) (by kernel_rfl) (by kernel_rfl) (fun _ _ _ h => h) (Or.inl ⟨by rfl, ?hy0⟩) hHeld ?_
  case hy0 => intro w' hSw; go_simp
  simp only [List.getElem_toArray, List.getElem_cons_succ, List.getElem_cons_zero, Act.put, List.setIfInBounds_toArray, List.set_cons_zero, List.set_cons_succ]
  refine wpAnyH_take (i := 1) (v := .int .u8 91) rfl (by kernel_rfl) (by kernel_rfl) (by kernel_rfl) (fun _ _ _ h => h) (Or.inl ⟨by rfl, ?hy1⟩) hHeld ?_
  case hy1 => intro w' hSw; have cc : w'.cell? ⟨w5.heap.size, 0, none⟩ = some (.int .u8 91) := (SW.cell hSw 0 (by decide)).trans (congrArg (fun z => some (Value.int .u8 z)) MM_at.1); go_simp
  simp only [List.getElem_toArray, List.getElem_cons_succ, List.getElem_cons_zero, Act.put, List.setIfInBounds_toArray, List.set_cons_zero, List.set_cons_succ]
  refine wpAnyH_take (i := 2) (v := .bool true) rfl (by kernel_rfl) (by kernel_rfl) (by kernel_rfl) (fun _ _ _ h => h) (Or.inl ⟨by rfl, ?hy2⟩) hHeld ?_
  case hy2 => intro w' hSw; go_simp
  simp only [List.getElem_toArray, List.getElem_cons_succ, List.getElem_cons_zero, Act.put, List.setIfInBounds_toArray, List.set_cons_zero, List.set_cons_succ]
  refine wpAnyH_take (i := 3) (v := .bool true) rfl (by kernel_rfl) (by kernel_rfl) (by kernel_rfl) (fun _ _ _ h => h) (Or.inl ⟨by rfl, ?hy3⟩) hHeld ?_
  case hy3 => intro w' hSw; go_simp
  simp only [List.getElem_toArray, List.getElem_cons_succ, List.getElem_cons_zero, Act.put, List.setIfInBounds_toArray, List.set_cons_zero, List.set_cons_succ]
  refine wpAnyH_take (i := 4) (v := .pointer (some ⟨w5.heap.size, 1, none⟩)) rfl (by kernel_rfl) (by kernel_rfl) (by kernel_rfl) (fun _ _ _ h => h) (Or.inl ⟨by rfl, ?hy4⟩) hHeld ?_
  case hy4 => intro w' hSw; go_simp
  simp only [List.getElem_toArray, List.getElem_cons_succ, List.getElem_cons_zero, Act.put, List.setIfInBounds_toArray, List.set_cons_zero, List.set_cons_succ]
  refine wpAnyH_take (i := 5) (v := .int .u8 220) rfl (by kernel_rfl) (by kernel_rfl) (by kernel_rfl) (fun _ _ _ h => h) (Or.inl ⟨by rfl, ?hy5⟩) hHeld ?_
  case hy5 => intro w' hSw; have cc : w'.cell? ⟨w5.heap.size, 1, none⟩ = some (.int .u8 220) := (SW.cell hSw 1 (by decide)).trans (congrArg (fun z => some (Value.int .u8 z)) MM_at.2.1); go_simp
  simp only [List.getElem_toArray, List.getElem_cons_succ, List.getElem_cons_zero, Act.put, List.setIfInBounds_toArray, List.set_cons_zero, List.set_cons_succ]
  refine wpAnyH_take (i := 6) (v := .bool true) rfl (by kernel_rfl) (by kernel_rfl) (by kernel_rfl) (fun _ _ _ h => h) (Or.inl ⟨by rfl, ?hy6⟩) hHeld ?_
  case hy6 => intro w' hSw; go_simp
  simp only [List.getElem_toArray, List.getElem_cons_succ, List.getElem_cons_zero, Act.put, List.setIfInBounds_toArray, List.set_cons_zero, List.set_cons_succ]
  refine wpAnyH_take (i := 7) (v := .bool true) rfl (by kernel_rfl) (by kernel_rfl) (by kernel_rfl) (fun _ _ _ h => h) (Or.inl ⟨by rfl, ?hy7⟩) hHeld ?_
  case hy7 => intro w' hSw; go_simp
  simp only [List.getElem_toArray, List.getElem_cons_succ, List.getElem_cons_zero, Act.put, List.setIfInBounds_toArray, List.set_cons_zero, List.set_cons_succ]
  refine wpAnyH_take (i := 8) (v := .bool true) rfl (by kernel_rfl) (by kernel_rfl) (by kernel_rfl) (fun _ _ _ h => h) (Or.inl ⟨by rfl, ?hy8⟩) hHeld ?_
  case hy8 => intro w' hSw; go_simp
  simp only [List.getElem_toArray, List.getElem_cons_succ, List.getElem_cons_zero, Act.put, List.setIfInBounds_toArray, List.set_cons_zero, List.set_cons_succ]
  refine wpAnyH_take (i := 9) (v := .pointer (some ⟨w5.heap.size, 2, none⟩)) rfl (by kernel_rfl) (by kernel_rfl) (by kernel_rfl) (fun _ _ _ h => h) (Or.inl ⟨by rfl, ?hy9⟩) hHeld ?_
  case hy9 => intro w' hSw; go_simp
  simp only [List.getElem_toArray, List.getElem_cons_succ, List.getElem_cons_zero, Act.put, List.setIfInBounds_toArray, List.set_cons_zero, List.set_cons_succ]
  refine wpAnyH_take (i := 10) (v := .int .u8 193) rfl (by kernel_rfl) (by kernel_rfl) (by kernel_rfl) (fun _ _ _ h => h) (Or.inl ⟨by rfl, ?hy10⟩) hHeld ?_
  case hy10 => intro w' hSw; have cc : w'.cell? ⟨w5.heap.size, 2, none⟩ = some (.int .u8 193) := (SW.cell hSw 2 (by decide)).trans (congrArg (fun z => some (Value.int .u8 z)) MM_at.2.2.1); go_simp
  simp only [List.getElem_toArray, List.getElem_cons_succ, List.getElem_cons_zero, Act.put, List.setIfInBounds_toArray, List.set_cons_zero, List.set_cons_succ]
  refine wpAnyH_take (i := 11) (v := .bool true) rfl (by kernel_rfl) (by kernel_rfl) (by kernel_rfl) (fun _ _ _ h => h) (Or.inl ⟨by rfl, ?hy11⟩) hHeld ?_
  case hy11 => intro w' hSw; go_simp
  simp only [List.getElem_toArray, List.getElem_cons_succ, List.getElem_cons_zero, Act.put, List.setIfInBounds_toArray, List.set_cons_zero, List.set_cons_succ]
  refine wpAnyH_take (i := 12) (v := .bool true) rfl (by kernel_rfl) (by kernel_rfl) (by kernel_rfl) (fun _ _ _ h => h) (Or.inl ⟨by rfl, ?hy12⟩) hHeld ?_
  case hy12 => intro w' hSw; go_simp
  simp only [List.getElem_toArray, List.getElem_cons_succ, List.getElem_cons_zero, Act.put, List.setIfInBounds_toArray, List.set_cons_zero, List.set_cons_succ]
  refine wpAnyH_take (i := 13) (v := .bool true) rfl (by kernel_rfl) (by kernel_rfl) (by kernel_rfl) (fun _ _ _ h => h) (Or.inl ⟨by rfl, ?hy13⟩) hHeld ?_
  case hy13 => intro w' hSw; go_simp
  simp only [List.getElem_toArray, List.getElem_cons_succ, List.getElem_cons_zero, Act.put, List.setIfInBounds_toArray, List.set_cons_zero, List.set_cons_succ]
  refine wpAnyH_take (i := 14) (v := .pointer (some ⟨w5.heap.size, 31, none⟩)) rfl (by kernel_rfl) (by kernel_rfl) (by kernel_rfl) (fun _ _ _ h => h) (Or.inl ⟨by rfl, ?hy14⟩) hHeld ?_
  case hy14 => intro w' hSw; go_simp
  simp only [List.getElem_toArray, List.getElem_cons_succ, List.getElem_cons_zero, Act.put, List.setIfInBounds_toArray, List.set_cons_zero, List.set_cons_succ]
  refine wpAnyH_take (i := 15) (v := .int .u8 67) rfl (by kernel_rfl) (by kernel_rfl) (by kernel_rfl) (fun _ _ _ h => h) (Or.inl ⟨by rfl, ?hy15⟩) hHeld ?_
  case hy15 => intro w' hSw; have cc : w'.cell? ⟨w5.heap.size, 31, none⟩ = some (.int .u8 67) := (SW.cell hSw 31 (by decide)).trans (congrArg (fun z => some (Value.int .u8 z)) MM_at.2.2.2); go_simp
  simp only [List.getElem_toArray, List.getElem_cons_succ, List.getElem_cons_zero, Act.put, List.setIfInBounds_toArray, List.set_cons_zero, List.set_cons_succ]
  refine wpAnyH_take (i := 16) (v := .bool true) rfl (by kernel_rfl) (by kernel_rfl) (by kernel_rfl) (fun _ _ _ h => h) (Or.inl ⟨by rfl, ?hy16⟩) hHeld ?_
  case hy16 => intro w' hSw; go_simp
  simp only [List.getElem_toArray, List.getElem_cons_succ, List.getElem_cons_zero, Act.put, List.setIfInBounds_toArray, List.set_cons_zero, List.set_cons_succ]
  refine wpAnyH_take (i := 17) (v := .bool true) rfl (by kernel_rfl) (by kernel_rfl) (by kernel_rfl) (fun _ _ _ h => h) (Or.inl ⟨by rfl, ?hy17⟩) hHeld ?_
  case hy17 => intro w' hSw; go_simp
  simp only [List.getElem_toArray, List.getElem_cons_succ, List.getElem_cons_zero, Act.put, List.setIfInBounds_toArray, List.set_cons_zero, List.set_cons_succ]
  refine wpAnyH_take (i := 18) (v := .bool true) rfl (by kernel_rfl) (by kernel_rfl) (by kernel_rfl) (fun _ _ _ h => h) (Or.inl ⟨by rfl, ?hy18⟩) hHeld ?_
  case hy18 => intro w' hSw; go_simp
  simp only [List.getElem_toArray, List.getElem_cons_succ, List.getElem_cons_zero, Act.put, List.setIfInBounds_toArray, List.set_cons_zero, List.set_cons_succ]
  refine wpAnyH_take (i := 19) (v := .slice (some ⟨w5.heap.size, 0, none⟩) 32 32) rfl (by kernel_rfl) (by kernel_rfl) (by kernel_rfl) (fun _ _ _ h => h) (Or.inl ⟨by rfl, ?hy19⟩) hHeld ?_
  case hy19 => intro w' hSw; go_simp
  simp only [List.getElem_toArray, List.getElem_cons_succ, List.getElem_cons_zero, Act.put, List.setIfInBounds_toArray, List.set_cons_zero, List.set_cons_succ]
  refine wpAnyH_take (i := 20) (v := .slice (some ⟨w5.heap.size, 0, none⟩) 32 32) rfl (by kernel_rfl) (by kernel_rfl) (by kernel_rfl) (fun _ _ _ h => h) (Or.inl ⟨by rfl, ?hy20⟩) hHeld ?_
  case hy20 => intro w' hSw; go_simp
  simp only [List.getElem_toArray, List.getElem_cons_succ, List.getElem_cons_zero, Act.put, List.setIfInBounds_toArray, List.set_cons_zero, List.set_cons_succ]
  refine wpAnyH_ready (rs := [21]) (by kernel_rfl) (by simp) ?_
  refine AllReadyH.cons rfl (fun K hK => ?_) AllReadyH.nil
  simp only [List.getElem_toArray, List.getElem_cons_succ, List.getElem_cons_zero]
  rw [if_pos (by rfl)]
  go_simp
  refine (equal_any _ _ _ MM MM hHeld.full hHeld.full MM_byte MM_byte (by rw [MM_len]; decide)).mono ?_
  rintro e x1 ⟨rfl, hbb⟩
  rw [show decide (MM = MM) = true from decide_eq_true rfl]
  refine hK.out _ _ (SW.big hHeld HG.out.1 hbb) (fun hHeld => ?_)
  clear hK K
  refine wpAnyH_take (i := 22) (v := .bool true) rfl (by kernel_rfl) (by kernel_rfl) (by kernel_rfl) (fun _ _ _ h => h) (Or.inl ⟨by rfl, ?hy22⟩) hHeld ?_
  case hy22 => intro w' hSw; go_simp
  simp only [List.getElem_toArray, List.getElem_cons_succ, List.getElem_cons_zero, Act.put, List.setIfInBounds_toArray, List.set_cons_zero, List.set_cons_succ]
  refine wpAnyH_take (i := 23) (v := .bool true) rfl (by kernel_rfl) (by kernel_rfl) (by kernel_rfl) (fun _ _ _ h => h) (Or.inl ⟨by rfl, ?hy23⟩) hHeld ?_
  case hy23 => intro w' hSw; go_simp
  simp only [List.getElem_toArray, List.getElem_cons_succ, List.getElem_cons_zero, Act.put, List.setIfInBounds_toArray, List.set_cons_zero, List.set_cons_succ]
  refine wpAnyH_take (i := 24) (v := .slice (some ⟨w5.heap.size, 0, none⟩) 32 32) rfl (by kernel_rfl) (by kernel_rfl) (by kernel_rfl) (fun _ _ _ h => h) (Or.inl ⟨by rfl, ?hy24⟩) hHeld ?_
  case hy24 => intro w' hSw; go_simp
  simp only [List.getElem_toArray, List.getElem_cons_succ, List.getElem_cons_zero, Act.put, List.setIfInBounds_toArray, List.set_cons_zero, List.set_cons_succ]
  refine wpAnyH_take (i := 25) (v := .slice (some ⟨w5.heap.size, 1, none⟩) 31 31) rfl (by kernel_rfl) (by kernel_rfl) (by kernel_rfl) (fun _ _ _ h => h) (Or.inl ⟨by rfl, ?hy25⟩) hHeld ?_
  case hy25 => intro w' hSw; go_simp
  simp only [List.getElem_toArray, List.getElem_cons_succ, List.getElem_cons_zero, Act.put, List.setIfInBounds_toArray, List.set_cons_zero, List.set_cons_succ]
  refine wpAnyH_ready (rs := [26]) (by kernel_rfl) (by simp) ?_
  refine AllReadyH.cons rfl (fun K hK => ?_) AllReadyH.nil
  simp only [List.getElem_toArray, List.getElem_cons_succ, List.getElem_cons_zero]
  rw [if_pos (by rfl)]
  go_simp
  refine (equal_any _ _ _ MM (MM.drop 1) hHeld.full hHeld.tail MM_byte (fun x hx => MM_byte x (List.mem_of_mem_drop hx)) (by rw [MM_len]; decide)).mono ?_
  rintro e x2 ⟨rfl, hbb⟩
  rw [ne_tail]
  refine hK.out _ _ (SW.big hHeld HG.out.1 hbb) (fun hHeld => ?_)
  clear hK K
  refine wpAnyH_take (i := 27) (v := .bool true) rfl (by kernel_rfl) (by kernel_rfl) (by kernel_rfl) (fun _ _ _ h => h) (Or.inl ⟨by rfl, ?hy27⟩) hHeld ?_
  case hy27 => intro w' hSw; go_simp
  simp only [List.getElem_toArray, List.getElem_cons_succ, List.getElem_cons_zero, Act.put, List.setIfInBounds_toArray, List.set_cons_zero, List.set_cons_succ]
  refine wpAnyH_take (i := 28) (v := .bool true) rfl (by kernel_rfl) (by kernel_rfl) (by kernel_rfl) (fun _ _ _ h => h) (Or.inl ⟨by rfl, ?hy28⟩) hHeld ?_
  case hy28 => intro w' hSw; go_simp
  simp only [List.getElem_toArray, List.getElem_cons_succ, List.getElem_cons_zero, Act.put, List.setIfInBounds_toArray, List.set_cons_zero, List.set_cons_succ]
  refine wpAnyH_take (i := 29) (v := .bool true) rfl (by kernel_rfl) (by kernel_rfl) (by kernel_rfl) (fun _ _ _ h => h) (Or.inl ⟨by rfl, ?hy29⟩) hHeld ?_
  case hy29 => intro w' hSw; go_simp
  simp only [List.getElem_toArray, List.getElem_cons_succ, List.getElem_cons_zero, Act.put, List.setIfInBounds_toArray, List.set_cons_zero, List.set_cons_succ]
  refine wpAnyH_ready (rs := [30]) (by kernel_rfl) (by simp) ?_
  refine AllReadyH.cons rfl (fun K hK => ?_) AllReadyH.nil
  simp only [List.getElem_toArray, List.getElem_cons_succ, List.getElem_cons_zero]
  rw [if_pos (by rfl)]
  go_simp
  refine (derive_any _ _ [] (nil_bv _) (by simp) (by decide) ⟨#[120]⟩ (by decide) 40 hHeld.1).mono ?_
  rintro e x3 ⟨d1, rfl, hR1, hbb⟩
  obtain ⟨A1, c1, rfl, _, _⟩ := Kd.R_reads hR1
  rw [derP_len _ _ _ ⟨by decide, by decide⟩, show (40 : Int).toNat = 40 from rfl]
  clear hR1
  refine hK.out _ _ (SW.big hHeld HG.out.1 hbb) (fun hHeld => ?_)
  clear hK K
  refine wpAnyH_take (i := 31) (v := .int .i64 40) rfl (by kernel_rfl) (by kernel_rfl) (by kernel_rfl) (fun _ _ _ h => h) (Or.inl ⟨by rfl, ?hy31⟩) hHeld ?_
  case hy31 => intro w' hSw; go_simp
  simp only [List.getElem_toArray, List.getElem_cons_succ, List.getElem_cons_zero, Act.put, List.setIfInBounds_toArray, List.set_cons_zero, List.set_cons_succ]
  refine wpAnyH_take (i := 32) (v := .bool true) rfl (by kernel_rfl) (by kernel_rfl) (by kernel_rfl) (fun _ _ _ h => h) (Or.inl ⟨by rfl, ?hy32⟩) hHeld ?_
  case hy32 => intro w' hSw; go_simp
  simp only [List.getElem_toArray, List.getElem_cons_succ, List.getElem_cons_zero, Act.put, List.setIfInBounds_toArray, List.set_cons_zero, List.set_cons_succ]
  refine wpAnyH_take (i := 33) (v := .bool true) rfl (by kernel_rfl) (by kernel_rfl) (by kernel_rfl) (fun _ _ _ h => h) (Or.inl ⟨by rfl, ?hy33⟩) hHeld ?_
  case hy33 => intro w' hSw; go_simp
  simp only [List.getElem_toArray, List.getElem_cons_succ, List.getElem_cons_zero, Act.put, List.setIfInBounds_toArray, List.set_cons_zero, List.set_cons_succ]
  refine wpAnyH_take (i := 34) (v := .bool true) rfl (by kernel_rfl) (by kernel_rfl) (by kernel_rfl) (fun _ _ _ h => h) (Or.inl ⟨by rfl, ?hy34⟩) hHeld ?_
  case hy34 => intro w' hSw; go_simp
  simp only [List.getElem_toArray, List.getElem_cons_succ, List.getElem_cons_zero, Act.put, List.setIfInBounds_toArray, List.set_cons_zero, List.set_cons_succ]
  refine wpAnyH_ready (rs := [35]) (by kernel_rfl) (by simp) ?_
  refine AllReadyH.cons rfl (fun K hK => ?_) AllReadyH.nil
  simp only [List.getElem_toArray, List.getElem_cons_succ, List.getElem_cons_zero]
  rw [if_pos (by rfl)]
  go_simp
  refine (derive_any _ _ [] (nil_bv _) (by simp) (by decide) ⟨#[120]⟩ (by decide) (-1) hHeld.1).mono ?_
  rintro e x4 ⟨d2, rfl, hR2, hbb⟩
  obtain ⟨A2, c2, rfl, _, _⟩ := Kd.R_reads hR2
  rw [show derP [] (bytesOf ⟨#[120]⟩) (-1) = [] from rfl, show ([] : List Int).length = 0 from rfl]
  clear hR2
  refine hK.out _ _ (SW.big hHeld HG.out.1 hbb) (fun hHeld => ?_)
  clear hK K
  refine wpAnyH_take (i := 36) (v := .int .i64 0) rfl (by kernel_rfl) (by kernel_rfl) (by kernel_rfl) (fun _ _ _ h => h) (Or.inl ⟨by rfl, ?hy36⟩) hHeld ?_
  case hy36 => intro w' hSw; go_simp
  simp only [List.getElem_toArray, List.getElem_cons_succ, List.getElem_cons_zero, Act.put, List.setIfInBounds_toArray, List.set_cons_zero, List.set_cons_succ]
  refine wpAnyH_take (i := 37) (v := .bool true) rfl (by kernel_rfl) (by kernel_rfl) (by kernel_rfl) (fun _ _ _ h => h) (Or.inl ⟨by rfl, ?hy37⟩) hHeld ?_
  case hy37 => intro w' hSw; go_simp
  simp only [List.getElem_toArray, List.getElem_cons_succ, List.getElem_cons_zero, Act.put, List.setIfInBounds_toArray, List.set_cons_zero, List.set_cons_succ]
  refine wpAnyH_take (i := 38) (v := .bool true) rfl (by kernel_rfl) (by kernel_rfl) (by kernel_rfl) (fun _ _ _ h => h) (Or.inl ⟨by rfl, ?hy38⟩) hHeld ?_
  case hy38 => intro w' hSw; go_simp
  simp only [List.getElem_toArray, List.getElem_cons_succ, List.getElem_cons_zero, Act.put, List.setIfInBounds_toArray, List.set_cons_zero, List.set_cons_succ]
  refine wpAnyH_take (i := 39) (v := .bool true) rfl (by kernel_rfl) (by kernel_rfl) (by kernel_rfl) (fun _ _ _ h => h) (Or.inl ⟨by rfl, ?hy39⟩) hHeld ?_
  case hy39 => intro w' hSw; go_simp
  simp only [List.getElem_toArray, List.getElem_cons_succ, List.getElem_cons_zero, Act.put, List.setIfInBounds_toArray, List.set_cons_zero, List.set_cons_succ]
  refine wpAnyH_take (i := 42) (v := .slice (some ⟨w5.heap.size, 0, none⟩) 16 32) rfl (by kernel_rfl) (by kernel_rfl) (by kernel_rfl) (fun _ _ _ h => h) (Or.inl ⟨by rfl, ?hy42⟩) hHeld ?_
  case hy42 => intro w' hSw; go_simp
  simp only [List.getElem_toArray, List.getElem_cons_succ, List.getElem_cons_zero, Act.put, List.setIfInBounds_toArray, List.set_cons_zero, List.set_cons_succ]
  refine share_act (fun a1 ha1 => ?_)
  refine share (fuel := 13) (l := Array.replicate 46 true ++ Array.replicate 13 false) (fun a w' => ∃ gA gB gC : Nat, a = (((((a1.put (some 50) (.slice (some ⟨gA, 0, none⟩) 4 4)).put (some 51) (.slice (some ⟨gA, 0, none⟩) 4 4)).put (some 53) (.slice (some ⟨gB, 0, none⟩) 28 28)).put (some 54) (.slice (some ⟨gB, 0, none⟩) 28 28)).put (some 55) (.slice (some ⟨gC, 0, none⟩) 1 1)) ∧ SW w w5.heap.size w' ∧ w'.heap[gA]? = some (.cells (nums .u8 JE).toArray 5 (4, 5)) ∧ w'.heap[gB]? = some (.cells (nums .u8 PP).toArray 5 (28, 29)) ∧ w'.heap[gC]? = some (.cells [.slice (some ⟨gB, 0, none⟩) 28 28].toArray 22 (0, 0))) ?suf ?main
  case main =>
    intro suf
    subst ha1
    refine wpAnyH_ready (rs := [40, 43]) (by kernel_rfl) (by simp) ?_
    refine AllReadyH.cons rfl (fun K hK => ?_) (AllReadyH.cons rfl (fun K hK => ?_) AllReadyH.nil)
    · simp only [List.getElem_toArray, List.getElem_cons_succ, List.getElem_cons_zero]
      rw [if_pos (by rfl)]
      go_simp
      obtain ⟨u1, hu⟩ : ∃ u, u = x4.alloc (.cells #[.int .u8 74, .int .u8 101, .int .u8 102, .int .u8 101] 5) := ⟨_, rfl⟩
      have hn40 : w5.heap.size + 1 ≤ x4.heap.size := arr_lt hHeld.2.2.2
      have f40 : u1.heap[x4.heap.size]? = some (.cells (nums .u8 JE).toArray 5 (0, 0)) := by rw [hu]; exact blk_new x4 _
      have hbb : Below (w5.heap.size + 1) x4 u1 := by rw [hu]; exact (below_alloc (B0 x4) _).mono hn40
      rw [← hu]
      refine hK.out _ _ (SW.step hHeld HG.out.1 hbb) (fun hHeld => ?_)
      clear hK K hbb hu
      refine wpAnyH_ready (rs := [41, 43]) (by kernel_rfl) (by simp) ?_
      refine AllReadyH.cons rfl (fun K hK => ?_) (AllReadyH.cons rfl (fun K hK => ?_) AllReadyH.nil)
      · simp only [List.getElem_toArray, List.getElem_cons_succ, List.getElem_cons_zero]
        rw [if_pos (by rfl)]
        have hcv := run_conv_at (P := Tryd.prog) (n := 4) (c := 4) Tryd.underlying22 Tryd.underlying5 f40
        obtain ⟨u2, hu⟩ : ∃ u, u = u1.freeze ⟨x4.heap.size, (nums .u8 JE).toArray.size, none⟩ 1 := ⟨_, rfl⟩
        rw [← hu] at hcv
        have f40 : u2.heap[x4.heap.size]? = some (.cells (nums .u8 JE).toArray 5 (4, 5)) := by rw [hu]; exact freeze_same f40
        have hbb : Below (w5.heap.size + 1) u1 u2 := by rw [hu]; exact freeze_below hn40
        clear hu
        go_simp
        refine hK.out _ _ (SW.step hHeld HG.out.1 hbb) (fun hHeld => ?_)
        clear hK K hbb hcv
        refine wpAnyH_ready (rs := [43]) (by kernel_rfl) (by simp) ?_
        refine AllReadyH.cons rfl (fun K hK => ?_) AllReadyH.nil
        simp only [List.getElem_toArray, List.getElem_cons_succ, List.getElem_cons_zero]
        rw [if_pos (by rfl)]
        go_simp
        obtain ⟨u3, hu⟩ : ∃ u, u = u2.alloc (.cells #[.int .u8 119, .int .u8 104, .int .u8 97, .int .u8 116, .int .u8 32, .int .u8 100, .int .u8 111, .int .u8 32, .int .u8 121, .int .u8 97, .int .u8 32, .int .u8 119, .int .u8 97, .int .u8 110, .int .u8 116, .int .u8 32, .int .u8 102, .int .u8 111, .int .u8 114, .int .u8 32, .int .u8 110, .int .u8 111, .int .u8 116, .int .u8 104, .int .u8 105, .int .u8 110, .int .u8 103, .int .u8 63] 5) := ⟨_, rfl⟩
        have ne40_43 : x4.heap.size ≠ u2.heap.size := Nat.ne_of_lt (blk_lt f40)
        have hn43 : w5.heap.size + 1 ≤ u2.heap.size := arr_lt hHeld.2.2.2
        have f40 := blk_alloc f40 (.cells #[.int .u8 119, .int .u8 104, .int .u8 97, .int .u8 116, .int .u8 32, .int .u8 100, .int .u8 111, .int .u8 32, .int .u8 121, .int .u8 97, .int .u8 32, .int .u8 119, .int .u8 97, .int .u8 110, .int .u8 116, .int .u8 32, .int .u8 102, .int .u8 111, .int .u8 114, .int .u8 32, .int .u8 110, .int .u8 111, .int .u8 116, .int .u8 104, .int .u8 105, .int .u8 110, .int .u8 103, .int .u8 63] 5)
        rw [← hu] at f40
        have f43 : u3.heap[u2.heap.size]? = some (.cells (nums .u8 PP).toArray 5 (0, 0)) := by rw [hu]; exact blk_new u2 _
        have hbb : Below (w5.heap.size + 1) u2 u3 := by rw [hu]; exact (below_alloc (B0 u2) _).mono hn43
        rw [← hu]
        refine hK.out _ _ (SW.step hHeld HG.out.1 hbb) (fun hHeld => ?_)
        clear hK K hbb hu
        refine wpAnyH_ready (rs := [44]) (by kernel_rfl) (by simp) ?_
        refine AllReadyH.cons rfl (fun K hK => ?_) AllReadyH.nil
        simp only [List.getElem_toArray, List.getElem_cons_succ, List.getElem_cons_zero]
        rw [if_pos (by rfl)]
        have hcv := run_conv_at (P := Tryd.prog) (n := 28) (c := 28) Tryd.underlying22 Tryd.underlying5 f43
        obtain ⟨u4, hu⟩ : ∃ u, u = u3.freeze ⟨u2.heap.size, (nums .u8 PP).toArray.size, none⟩ 1 := ⟨_, rfl⟩
        rw [← hu] at hcv
        have f40 := freeze_other (n := (nums .u8 PP).toArray.size) f40 ne40_43
        rw [← hu] at f40
        have f43 : u4.heap[u2.heap.size]? = some (.cells (nums .u8 PP).toArray 5 (28, 29)) := by rw [hu]; exact freeze_same f43
        have hbb : Below (w5.heap.size + 1) u3 u4 := by rw [hu]; exact freeze_below hn43
        clear hu
        go_simp
        refine hK.out _ _ (SW.step hHeld HG.out.1 hbb) (fun hHeld => ?_)
        clear hK K hbb hcv
        refine wpAnyH_ready (rs := [45]) (by kernel_rfl) (by simp) ?_
        refine AllReadyH.cons rfl (fun K hK => ?_) AllReadyH.nil
        simp only [List.getElem_toArray, List.getElem_cons_succ, List.getElem_cons_zero]
        rw [if_pos (by rfl)]
        go_simp
        obtain ⟨u5, hu⟩ : ∃ u, u = u4.alloc (.cells #[.slice (some ⟨u2.heap.size, 0, none⟩) 28 28] 22) := ⟨_, rfl⟩
        have ne40_45 : x4.heap.size ≠ u4.heap.size := Nat.ne_of_lt (blk_lt f40)
        have ne43_45 : u2.heap.size ≠ u4.heap.size := Nat.ne_of_lt (blk_lt f43)
        have hn45 : w5.heap.size + 1 ≤ u4.heap.size := arr_lt hHeld.2.2.2
        have f40 := blk_alloc f40 (.cells #[.slice (some ⟨u2.heap.size, 0, none⟩) 28 28] 22)
        rw [← hu] at f40
        have f43 := blk_alloc f43 (.cells #[.slice (some ⟨u2.heap.size, 0, none⟩) 28 28] 22)
        rw [← hu] at f43
        have f45 : u5.heap[u4.heap.size]? = some (.cells [.slice (some ⟨u2.heap.size, 0, none⟩) 28 28].toArray 22 (0, 0)) := by rw [hu]; exact blk_new u4 _
        have hbb : Below (w5.heap.size + 1) u4 u5 := by rw [hu]; exact (below_alloc (B0 u4) _).mono hn45
        rw [← hu]
        refine hK.out _ _ (SW.step hHeld HG.out.1 hbb) (fun hHeld => ?_)
        clear hK K hbb hu
        exact wpAnyH_listed (by kernel_rfl) (suf _ _ ⟨x4.heap.size, u2.heap.size, u4.heap.size, rfl, hHeld, f40, f43, f45⟩)
      · simp only [List.getElem_toArray, List.getElem_cons_succ, List.getElem_cons_zero]
        rw [if_pos (by rfl)]
        go_simp
        obtain ⟨u6, hu⟩ : ∃ u, u = u1.alloc (.cells #[.int .u8 119, .int .u8 104, .int .u8 97, .int .u8 116, .int .u8 32, .int .u8 100, .int .u8 111, .int .u8 32, .int .u8 121, .int .u8 97, .int .u8 32, .int .u8 119, .int .u8 97, .int .u8 110, .int .u8 116, .int .u8 32, .int .u8 102, .int .u8 111, .int .u8 114, .int .u8 32, .int .u8 110, .int .u8 111, .int .u8 116, .int .u8 104, .int .u8 105, .int .u8 110, .int .u8 103, .int .u8 63] 5) := ⟨_, rfl⟩
        have ne40_43 : x4.heap.size ≠ u1.heap.size := Nat.ne_of_lt (blk_lt f40)
        have hn43 : w5.heap.size + 1 ≤ u1.heap.size := arr_lt hHeld.2.2.2
        have f40 := blk_alloc f40 (.cells #[.int .u8 119, .int .u8 104, .int .u8 97, .int .u8 116, .int .u8 32, .int .u8 100, .int .u8 111, .int .u8 32, .int .u8 121, .int .u8 97, .int .u8 32, .int .u8 119, .int .u8 97, .int .u8 110, .int .u8 116, .int .u8 32, .int .u8 102, .int .u8 111, .int .u8 114, .int .u8 32, .int .u8 110, .int .u8 111, .int .u8 116, .int .u8 104, .int .u8 105, .int .u8 110, .int .u8 103, .int .u8 63] 5)
        rw [← hu] at f40
        have f43 : u6.heap[u1.heap.size]? = some (.cells (nums .u8 PP).toArray 5 (0, 0)) := by rw [hu]; exact blk_new u1 _
        have hbb : Below (w5.heap.size + 1) u1 u6 := by rw [hu]; exact (below_alloc (B0 u1) _).mono hn43
        rw [← hu]
        refine hK.out _ _ (SW.step hHeld HG.out.1 hbb) (fun hHeld => ?_)
        clear hK K hbb hu
        refine wpAnyH_ready (rs := [41, 44]) (by kernel_rfl) (by simp) ?_
        refine AllReadyH.cons rfl (fun K hK => ?_) (AllReadyH.cons rfl (fun K hK => ?_) AllReadyH.nil)
        · simp only [List.getElem_toArray, List.getElem_cons_succ, List.getElem_cons_zero]
          rw [if_pos (by rfl)]
          have hcv := run_conv_at (P := Tryd.prog) (n := 4) (c := 4) Tryd.underlying22 Tryd.underlying5 f40
          obtain ⟨u7, hu⟩ : ∃ u, u = u6.freeze ⟨x4.heap.size, (nums .u8 JE).toArray.size, none⟩ 1 := ⟨_, rfl⟩
          rw [← hu] at hcv
          have f43 := freeze_other (n := (nums .u8 JE).toArray.size) f43 (Ne.symm ne40_43)
          rw [← hu] at f43
          have f40 : u7.heap[x4.heap.size]? = some (.cells (nums .u8 JE).toArray 5 (4, 5)) := by rw [hu]; exact freeze_same f40
          have hbb : Below (w5.heap.size + 1) u6 u7 := by rw [hu]; exact freeze_below hn40
          clear hu
          go_simp
          refine hK.out _ _ (SW.step hHeld HG.out.1 hbb) (fun hHeld => ?_)
          clear hK K hbb hcv
          refine wpAnyH_ready (rs := [44]) (by kernel_rfl) (by simp) ?_
          refine AllReadyH.cons rfl (fun K hK => ?_) AllReadyH.nil
          simp only [List.getElem_toArray, List.getElem_cons_succ, List.getElem_cons_zero]
          rw [if_pos (by rfl)]
          have hcv := run_conv_at (P := Tryd.prog) (n := 28) (c := 28) Tryd.underlying22 Tryd.underlying5 f43
          obtain ⟨u8, hu⟩ : ∃ u, u = u7.freeze ⟨u1.heap.size, (nums .u8 PP).toArray.size, none⟩ 1 := ⟨_, rfl⟩
          rw [← hu] at hcv
          have f40 := freeze_other (n := (nums .u8 PP).toArray.size) f40 ne40_43
          rw [← hu] at f40
          have f43 : u8.heap[u1.heap.size]? = some (.cells (nums .u8 PP).toArray 5 (28, 29)) := by rw [hu]; exact freeze_same f43
          have hbb : Below (w5.heap.size + 1) u7 u8 := by rw [hu]; exact freeze_below hn43
          clear hu
          go_simp
          refine hK.out _ _ (SW.step hHeld HG.out.1 hbb) (fun hHeld => ?_)
          clear hK K hbb hcv
          refine wpAnyH_ready (rs := [45]) (by kernel_rfl) (by simp) ?_
          refine AllReadyH.cons rfl (fun K hK => ?_) AllReadyH.nil
          simp only [List.getElem_toArray, List.getElem_cons_succ, List.getElem_cons_zero]
          rw [if_pos (by rfl)]
          go_simp
          obtain ⟨u9, hu⟩ : ∃ u, u = u8.alloc (.cells #[.slice (some ⟨u1.heap.size, 0, none⟩) 28 28] 22) := ⟨_, rfl⟩
          have ne40_45 : x4.heap.size ≠ u8.heap.size := Nat.ne_of_lt (blk_lt f40)
          have ne43_45 : u1.heap.size ≠ u8.heap.size := Nat.ne_of_lt (blk_lt f43)
          have hn45 : w5.heap.size + 1 ≤ u8.heap.size := arr_lt hHeld.2.2.2
          have f40 := blk_alloc f40 (.cells #[.slice (some ⟨u1.heap.size, 0, none⟩) 28 28] 22)
          rw [← hu] at f40
          have f43 := blk_alloc f43 (.cells #[.slice (some ⟨u1.heap.size, 0, none⟩) 28 28] 22)
          rw [← hu] at f43
          have f45 : u9.heap[u8.heap.size]? = some (.cells [.slice (some ⟨u1.heap.size, 0, none⟩) 28 28].toArray 22 (0, 0)) := by rw [hu]; exact blk_new u8 _
          have hbb : Below (w5.heap.size + 1) u8 u9 := by rw [hu]; exact (below_alloc (B0 u8) _).mono hn45
          rw [← hu]
          refine hK.out _ _ (SW.step hHeld HG.out.1 hbb) (fun hHeld => ?_)
          clear hK K hbb hu
          exact wpAnyH_listed (by kernel_rfl) (suf _ _ ⟨x4.heap.size, u1.heap.size, u8.heap.size, rfl, hHeld, f40, f43, f45⟩)
        · simp only [List.getElem_toArray, List.getElem_cons_succ, List.getElem_cons_zero]
          rw [if_pos (by rfl)]
          have hcv := run_conv_at (P := Tryd.prog) (n := 28) (c := 28) Tryd.underlying22 Tryd.underlying5 f43
          obtain ⟨u10, hu⟩ : ∃ u, u = u6.freeze ⟨u1.heap.size, (nums .u8 PP).toArray.size, none⟩ 1 := ⟨_, rfl⟩
          rw [← hu] at hcv
          have f40 := freeze_other (n := (nums .u8 PP).toArray.size) f40 ne40_43
          rw [← hu] at f40
          have f43 : u10.heap[u1.heap.size]? = some (.cells (nums .u8 PP).toArray 5 (28, 29)) := by rw [hu]; exact freeze_same f43
          have hbb : Below (w5.heap.size + 1) u6 u10 := by rw [hu]; exact freeze_below hn43
          clear hu
          go_simp
          refine hK.out _ _ (SW.step hHeld HG.out.1 hbb) (fun hHeld => ?_)
          clear hK K hbb hcv
          refine wpAnyH_ready (rs := [41, 45]) (by kernel_rfl) (by simp) ?_
          refine AllReadyH.cons rfl (fun K hK => ?_) (AllReadyH.cons rfl (fun K hK => ?_) AllReadyH.nil)
          · simp only [List.getElem_toArray, List.getElem_cons_succ, List.getElem_cons_zero]
            rw [if_pos (by rfl)]
            have hcv := run_conv_at (P := Tryd.prog) (n := 4) (c := 4) Tryd.underlying22 Tryd.underlying5 f40
            obtain ⟨u11, hu⟩ : ∃ u, u = u10.freeze ⟨x4.heap.size, (nums .u8 JE).toArray.size, none⟩ 1 := ⟨_, rfl⟩
            rw [← hu] at hcv
            have f43 := freeze_other (n := (nums .u8 JE).toArray.size) f43 (Ne.symm ne40_43)
            rw [← hu] at f43
            have f40 : u11.heap[x4.heap.size]? = some (.cells (nums .u8 JE).toArray 5 (4, 5)) := by rw [hu]; exact freeze_same f40
            have hbb : Below (w5.heap.size + 1) u10 u11 := by rw [hu]; exact freeze_below hn40
            clear hu
            go_simp
            refine hK.out _ _ (SW.step hHeld HG.out.1 hbb) (fun hHeld => ?_)
            clear hK K hbb hcv
            refine wpAnyH_ready (rs := [45]) (by kernel_rfl) (by simp) ?_
            refine AllReadyH.cons rfl (fun K hK => ?_) AllReadyH.nil
            simp only [List.getElem_toArray, List.getElem_cons_succ, List.getElem_cons_zero]
            rw [if_pos (by rfl)]
            go_simp
            obtain ⟨u12, hu⟩ : ∃ u, u = u11.alloc (.cells #[.slice (some ⟨u1.heap.size, 0, none⟩) 28 28] 22) := ⟨_, rfl⟩
            have ne40_45 : x4.heap.size ≠ u11.heap.size := Nat.ne_of_lt (blk_lt f40)
            have ne43_45 : u1.heap.size ≠ u11.heap.size := Nat.ne_of_lt (blk_lt f43)
            have hn45 : w5.heap.size + 1 ≤ u11.heap.size := arr_lt hHeld.2.2.2
            have f40 := blk_alloc f40 (.cells #[.slice (some ⟨u1.heap.size, 0, none⟩) 28 28] 22)
            rw [← hu] at f40
            have f43 := blk_alloc f43 (.cells #[.slice (some ⟨u1.heap.size, 0, none⟩) 28 28] 22)
            rw [← hu] at f43
            have f45 : u12.heap[u11.heap.size]? = some (.cells [.slice (some ⟨u1.heap.size, 0, none⟩) 28 28].toArray 22 (0, 0)) := by rw [hu]; exact blk_new u11 _
            have hbb : Below (w5.heap.size + 1) u11 u12 := by rw [hu]; exact (below_alloc (B0 u11) _).mono hn45
            rw [← hu]
            refine hK.out _ _ (SW.step hHeld HG.out.1 hbb) (fun hHeld => ?_)
            clear hK K hbb hu
            exact wpAnyH_listed (by kernel_rfl) (suf _ _ ⟨x4.heap.size, u1.heap.size, u11.heap.size, rfl, hHeld, f40, f43, f45⟩)
          · simp only [List.getElem_toArray, List.getElem_cons_succ, List.getElem_cons_zero]
            rw [if_pos (by rfl)]
            go_simp
            obtain ⟨u13, hu⟩ : ∃ u, u = u10.alloc (.cells #[.slice (some ⟨u1.heap.size, 0, none⟩) 28 28] 22) := ⟨_, rfl⟩
            have ne40_45 : x4.heap.size ≠ u10.heap.size := Nat.ne_of_lt (blk_lt f40)
            have ne43_45 : u1.heap.size ≠ u10.heap.size := Nat.ne_of_lt (blk_lt f43)
            have hn45 : w5.heap.size + 1 ≤ u10.heap.size := arr_lt hHeld.2.2.2
            have f40 := blk_alloc f40 (.cells #[.slice (some ⟨u1.heap.size, 0, none⟩) 28 28] 22)
            rw [← hu] at f40
            have f43 := blk_alloc f43 (.cells #[.slice (some ⟨u1.heap.size, 0, none⟩) 28 28] 22)
            rw [← hu] at f43
            have f45 : u13.heap[u10.heap.size]? = some (.cells [.slice (some ⟨u1.heap.size, 0, none⟩) 28 28].toArray 22 (0, 0)) := by rw [hu]; exact blk_new u10 _
            have hbb : Below (w5.heap.size + 1) u10 u13 := by rw [hu]; exact (below_alloc (B0 u10) _).mono hn45
            rw [← hu]
            refine hK.out _ _ (SW.step hHeld HG.out.1 hbb) (fun hHeld => ?_)
            clear hK K hbb hu
            refine wpAnyH_ready (rs := [41]) (by kernel_rfl) (by simp) ?_
            refine AllReadyH.cons rfl (fun K hK => ?_) AllReadyH.nil
            simp only [List.getElem_toArray, List.getElem_cons_succ, List.getElem_cons_zero]
            rw [if_pos (by rfl)]
            have hcv := run_conv_at (P := Tryd.prog) (n := 4) (c := 4) Tryd.underlying22 Tryd.underlying5 f40
            obtain ⟨u14, hu⟩ : ∃ u, u = u13.freeze ⟨x4.heap.size, (nums .u8 JE).toArray.size, none⟩ 1 := ⟨_, rfl⟩
            rw [← hu] at hcv
            have f43 := freeze_other (n := (nums .u8 JE).toArray.size) f43 (Ne.symm ne40_43)
            rw [← hu] at f43
            have f45 := freeze_other (n := (nums .u8 JE).toArray.size) f45 (Ne.symm ne40_45)
            rw [← hu] at f45
            have f40 : u14.heap[x4.heap.size]? = some (.cells (nums .u8 JE).toArray 5 (4, 5)) := by rw [hu]; exact freeze_same f40
            have hbb : Below (w5.heap.size + 1) u13 u14 := by rw [hu]; exact freeze_below hn40
            clear hu
            go_simp
            refine hK.out _ _ (SW.step hHeld HG.out.1 hbb) (fun hHeld => ?_)
            clear hK K hbb hcv
            exact wpAnyH_listed (by kernel_rfl) (suf _ _ ⟨x4.heap.size, u1.heap.size, u10.heap.size, rfl, hHeld, f40, f43, f45⟩)
    · simp only [List.getElem_toArray, List.getElem_cons_succ, List.getElem_cons_zero]
      rw [if_pos (by rfl)]
      go_simp
      obtain ⟨u15, hu⟩ : ∃ u, u = x4.alloc (.cells #[.int .u8 119, .int .u8 104, .int .u8 97, .int .u8 116, .int .u8 32, .int .u8 100, .int .u8 111, .int .u8 32, .int .u8 121, .int .u8 97, .int .u8 32, .int .u8 119, .int .u8 97, .int .u8 110, .int .u8 116, .int .u8 32, .int .u8 102, .int .u8 111, .int .u8 114, .int .u8 32, .int .u8 110, .int .u8 111, .int .u8 116, .int .u8 104, .int .u8 105, .int .u8 110, .int .u8 103, .int .u8 63] 5) := ⟨_, rfl⟩
      have hn43 : w5.heap.size + 1 ≤ x4.heap.size := arr_lt hHeld.2.2.2
      have f43 : u15.heap[x4.heap.size]? = some (.cells (nums .u8 PP).toArray 5 (0, 0)) := by rw [hu]; exact blk_new x4 _
      have hbb : Below (w5.heap.size + 1) x4 u15 := by rw [hu]; exact (below_alloc (B0 x4) _).mono hn43
      rw [← hu]
      refine hK.out _ _ (SW.step hHeld HG.out.1 hbb) (fun hHeld => ?_)
      clear hK K hbb hu
      refine wpAnyH_ready (rs := [40, 44]) (by kernel_rfl) (by simp) ?_
      refine AllReadyH.cons rfl (fun K hK => ?_) (AllReadyH.cons rfl (fun K hK => ?_) AllReadyH.nil)
      · simp only [List.getElem_toArray, List.getElem_cons_succ, List.getElem_cons_zero]
        rw [if_pos (by rfl)]
        go_simp
        obtain ⟨u16, hu⟩ : ∃ u, u = u15.alloc (.cells #[.int .u8 74, .int .u8 101, .int .u8 102, .int .u8 101] 5) := ⟨_, rfl⟩
        have ne43_40 : x4.heap.size ≠ u15.heap.size := Nat.ne_of_lt (blk_lt f43)
        have hn40 : w5.heap.size + 1 ≤ u15.heap.size := arr_lt hHeld.2.2.2
        have f43 := blk_alloc f43 (.cells #[.int .u8 74, .int .u8 101, .int .u8 102, .int .u8 101] 5)
        rw [← hu] at f43
        have f40 : u16.heap[u15.heap.size]? = some (.cells (nums .u8 JE).toArray 5 (0, 0)) := by rw [hu]; exact blk_new u15 _
        have hbb : Below (w5.heap.size + 1) u15 u16 := by rw [hu]; exact (below_alloc (B0 u15) _).mono hn40
        rw [← hu]
        refine hK.out _ _ (SW.step hHeld HG.out.1 hbb) (fun hHeld => ?_)
        clear hK K hbb hu
        refine wpAnyH_ready (rs := [41, 44]) (by kernel_rfl) (by simp) ?_
        refine AllReadyH.cons rfl (fun K hK => ?_) (AllReadyH.cons rfl (fun K hK => ?_) AllReadyH.nil)
        · simp only [List.getElem_toArray, List.getElem_cons_succ, List.getElem_cons_zero]
          rw [if_pos (by rfl)]
          have hcv := run_conv_at (P := Tryd.prog) (n := 4) (c := 4) Tryd.underlying22 Tryd.underlying5 f40
          obtain ⟨u17, hu⟩ : ∃ u, u = u16.freeze ⟨u15.heap.size, (nums .u8 JE).toArray.size, none⟩ 1 := ⟨_, rfl⟩
          rw [← hu] at hcv
          have f43 := freeze_other (n := (nums .u8 JE).toArray.size) f43 ne43_40
          rw [← hu] at f43
          have f40 : u17.heap[u15.heap.size]? = some (.cells (nums .u8 JE).toArray 5 (4, 5)) := by rw [hu]; exact freeze_same f40
          have hbb : Below (w5.heap.size + 1) u16 u17 := by rw [hu]; exact freeze_below hn40
          clear hu
          go_simp
          refine hK.out _ _ (SW.step hHeld HG.out.1 hbb) (fun hHeld => ?_)
          clear hK K hbb hcv
          refine wpAnyH_ready (rs := [44]) (by kernel_rfl) (by simp) ?_
          refine AllReadyH.cons rfl (fun K hK => ?_) AllReadyH.nil
          simp only [List.getElem_toArray, List.getElem_cons_succ, List.getElem_cons_zero]
          rw [if_pos (by rfl)]
          have hcv := run_conv_at (P := Tryd.prog) (n := 28) (c := 28) Tryd.underlying22 Tryd.underlying5 f43
          obtain ⟨u18, hu⟩ : ∃ u, u = u17.freeze ⟨x4.heap.size, (nums .u8 PP).toArray.size, none⟩ 1 := ⟨_, rfl⟩
          rw [← hu] at hcv
          have f40 := freeze_other (n := (nums .u8 PP).toArray.size) f40 (Ne.symm ne43_40)
          rw [← hu] at f40
          have f43 : u18.heap[x4.heap.size]? = some (.cells (nums .u8 PP).toArray 5 (28, 29)) := by rw [hu]; exact freeze_same f43
          have hbb : Below (w5.heap.size + 1) u17 u18 := by rw [hu]; exact freeze_below hn43
          clear hu
          go_simp
          refine hK.out _ _ (SW.step hHeld HG.out.1 hbb) (fun hHeld => ?_)
          clear hK K hbb hcv
          refine wpAnyH_ready (rs := [45]) (by kernel_rfl) (by simp) ?_
          refine AllReadyH.cons rfl (fun K hK => ?_) AllReadyH.nil
          simp only [List.getElem_toArray, List.getElem_cons_succ, List.getElem_cons_zero]
          rw [if_pos (by rfl)]
          go_simp
          obtain ⟨u19, hu⟩ : ∃ u, u = u18.alloc (.cells #[.slice (some ⟨x4.heap.size, 0, none⟩) 28 28] 22) := ⟨_, rfl⟩
          have ne43_45 : x4.heap.size ≠ u18.heap.size := Nat.ne_of_lt (blk_lt f43)
          have ne40_45 : u15.heap.size ≠ u18.heap.size := Nat.ne_of_lt (blk_lt f40)
          have hn45 : w5.heap.size + 1 ≤ u18.heap.size := arr_lt hHeld.2.2.2
          have f43 := blk_alloc f43 (.cells #[.slice (some ⟨x4.heap.size, 0, none⟩) 28 28] 22)
          rw [← hu] at f43
          have f40 := blk_alloc f40 (.cells #[.slice (some ⟨x4.heap.size, 0, none⟩) 28 28] 22)
          rw [← hu] at f40
          have f45 : u19.heap[u18.heap.size]? = some (.cells [.slice (some ⟨x4.heap.size, 0, none⟩) 28 28].toArray 22 (0, 0)) := by rw [hu]; exact blk_new u18 _
          have hbb : Below (w5.heap.size + 1) u18 u19 := by rw [hu]; exact (below_alloc (B0 u18) _).mono hn45
          rw [← hu]
          refine hK.out _ _ (SW.step hHeld HG.out.1 hbb) (fun hHeld => ?_)
          clear hK K hbb hu
          exact wpAnyH_listed (by kernel_rfl) (suf _ _ ⟨u15.heap.size, x4.heap.size, u18.heap.size, rfl, hHeld, f40, f43, f45⟩)
        · simp only [List.getElem_toArray, List.getElem_cons_succ, List.getElem_cons_zero]
          rw [if_pos (by rfl)]
          have hcv := run_conv_at (P := Tryd.prog) (n := 28) (c := 28) Tryd.underlying22 Tryd.underlying5 f43
          obtain ⟨u20, hu⟩ : ∃ u, u = u16.freeze ⟨x4.heap.size, (nums .u8 PP).toArray.size, none⟩ 1 := ⟨_, rfl⟩
          rw [← hu] at hcv
          have f40 := freeze_other (n := (nums .u8 PP).toArray.size) f40 (Ne.symm ne43_40)
          rw [← hu] at f40
          have f43 : u20.heap[x4.heap.size]? = some (.cells (nums .u8 PP).toArray 5 (28, 29)) := by rw [hu]; exact freeze_same f43
          have hbb : Below (w5.heap.size + 1) u16 u20 := by rw [hu]; exact freeze_below hn43
          clear hu
          go_simp
          refine hK.out _ _ (SW.step hHeld HG.out.1 hbb) (fun hHeld => ?_)
          clear hK K hbb hcv
          refine wpAnyH_ready (rs := [41, 45]) (by kernel_rfl) (by simp) ?_
          refine AllReadyH.cons rfl (fun K hK => ?_) (AllReadyH.cons rfl (fun K hK => ?_) AllReadyH.nil)
          · simp only [List.getElem_toArray, List.getElem_cons_succ, List.getElem_cons_zero]
            rw [if_pos (by rfl)]
            have hcv := run_conv_at (P := Tryd.prog) (n := 4) (c := 4) Tryd.underlying22 Tryd.underlying5 f40
            obtain ⟨u21, hu⟩ : ∃ u, u = u20.freeze ⟨u15.heap.size, (nums .u8 JE).toArray.size, none⟩ 1 := ⟨_, rfl⟩
            rw [← hu] at hcv
            have f43 := freeze_other (n := (nums .u8 JE).toArray.size) f43 ne43_40
            rw [← hu] at f43
            have f40 : u21.heap[u15.heap.size]? = some (.cells (nums .u8 JE).toArray 5 (4, 5)) := by rw [hu]; exact freeze_same f40
            have hbb : Below (w5.heap.size + 1) u20 u21 := by rw [hu]; exact freeze_below hn40
            clear hu
            go_simp
            refine hK.out _ _ (SW.step hHeld HG.out.1 hbb) (fun hHeld => ?_)
            clear hK K hbb hcv
            refine wpAnyH_ready (rs := [45]) (by kernel_rfl) (by simp) ?_
            refine AllReadyH.cons rfl (fun K hK => ?_) AllReadyH.nil
            simp only [List.getElem_toArray, List.getElem_cons_succ, List.getElem_cons_zero]
            rw [if_pos (by rfl)]
            go_simp
            obtain ⟨u22, hu⟩ : ∃ u, u = u21.alloc (.cells #[.slice (some ⟨x4.heap.size, 0, none⟩) 28 28] 22) := ⟨_, rfl⟩
            have ne43_45 : x4.heap.size ≠ u21.heap.size := Nat.ne_of_lt (blk_lt f43)
            have ne40_45 : u15.heap.size ≠ u21.heap.size := Nat.ne_of_lt (blk_lt f40)
            have hn45 : w5.heap.size + 1 ≤ u21.heap.size := arr_lt hHeld.2.2.2
            have f43 := blk_alloc f43 (.cells #[.slice (some ⟨x4.heap.size, 0, none⟩) 28 28] 22)
            rw [← hu] at f43
            have f40 := blk_alloc f40 (.cells #[.slice (some ⟨x4.heap.size, 0, none⟩) 28 28] 22)
            rw [← hu] at f40
            have f45 : u22.heap[u21.heap.size]? = some (.cells [.slice (some ⟨x4.heap.size, 0, none⟩) 28 28].toArray 22 (0, 0)) := by rw [hu]; exact blk_new u21 _
            have hbb : Below (w5.heap.size + 1) u21 u22 := by rw [hu]; exact (below_alloc (B0 u21) _).mono hn45
            rw [← hu]
            refine hK.out _ _ (SW.step hHeld HG.out.1 hbb) (fun hHeld => ?_)
            clear hK K hbb hu
            exact wpAnyH_listed (by kernel_rfl) (suf _ _ ⟨u15.heap.size, x4.heap.size, u21.heap.size, rfl, hHeld, f40, f43, f45⟩)
          · simp only [List.getElem_toArray, List.getElem_cons_succ, List.getElem_cons_zero]
            rw [if_pos (by rfl)]
            go_simp
            obtain ⟨u23, hu⟩ : ∃ u, u = u20.alloc (.cells #[.slice (some ⟨x4.heap.size, 0, none⟩) 28 28] 22) := ⟨_, rfl⟩
            have ne43_45 : x4.heap.size ≠ u20.heap.size := Nat.ne_of_lt (blk_lt f43)
            have ne40_45 : u15.heap.size ≠ u20.heap.size := Nat.ne_of_lt (blk_lt f40)
            have hn45 : w5.heap.size + 1 ≤ u20.heap.size := arr_lt hHeld.2.2.2
            have f43 := blk_alloc f43 (.cells #[.slice (some ⟨x4.heap.size, 0, none⟩) 28 28] 22)
            rw [← hu] at f43
            have f40 := blk_alloc f40 (.cells #[.slice (some ⟨x4.heap.size, 0, none⟩) 28 28] 22)
            rw [← hu] at f40
            have f45 : u23.heap[u20.heap.size]? = some (.cells [.slice (some ⟨x4.heap.size, 0, none⟩) 28 28].toArray 22 (0, 0)) := by rw [hu]; exact blk_new u20 _
            have hbb : Below (w5.heap.size + 1) u20 u23 := by rw [hu]; exact (below_alloc (B0 u20) _).mono hn45
            rw [← hu]
            refine hK.out _ _ (SW.step hHeld HG.out.1 hbb) (fun hHeld => ?_)
            clear hK K hbb hu
            refine wpAnyH_ready (rs := [41]) (by kernel_rfl) (by simp) ?_
            refine AllReadyH.cons rfl (fun K hK => ?_) AllReadyH.nil
            simp only [List.getElem_toArray, List.getElem_cons_succ, List.getElem_cons_zero]
            rw [if_pos (by rfl)]
            have hcv := run_conv_at (P := Tryd.prog) (n := 4) (c := 4) Tryd.underlying22 Tryd.underlying5 f40
            obtain ⟨u24, hu⟩ : ∃ u, u = u23.freeze ⟨u15.heap.size, (nums .u8 JE).toArray.size, none⟩ 1 := ⟨_, rfl⟩
            rw [← hu] at hcv
            have f43 := freeze_other (n := (nums .u8 JE).toArray.size) f43 ne43_40
            rw [← hu] at f43
            have f45 := freeze_other (n := (nums .u8 JE).toArray.size) f45 (Ne.symm ne40_45)
            rw [← hu] at f45
            have f40 : u24.heap[u15.heap.size]? = some (.cells (nums .u8 JE).toArray 5 (4, 5)) := by rw [hu]; exact freeze_same f40
            have hbb : Below (w5.heap.size + 1) u23 u24 := by rw [hu]; exact freeze_below hn40
            clear hu
            go_simp
            refine hK.out _ _ (SW.step hHeld HG.out.1 hbb) (fun hHeld => ?_)
            clear hK K hbb hcv
            exact wpAnyH_listed (by kernel_rfl) (suf _ _ ⟨u15.heap.size, x4.heap.size, u20.heap.size, rfl, hHeld, f40, f43, f45⟩)
      · simp only [List.getElem_toArray, List.getElem_cons_succ, List.getElem_cons_zero]
        rw [if_pos (by rfl)]
        have hcv := run_conv_at (P := Tryd.prog) (n := 28) (c := 28) Tryd.underlying22 Tryd.underlying5 f43
        obtain ⟨u25, hu⟩ : ∃ u, u = u15.freeze ⟨x4.heap.size, (nums .u8 PP).toArray.size, none⟩ 1 := ⟨_, rfl⟩
        rw [← hu] at hcv
        have f43 : u25.heap[x4.heap.size]? = some (.cells (nums .u8 PP).toArray 5 (28, 29)) := by rw [hu]; exact freeze_same f43
        have hbb : Below (w5.heap.size + 1) u15 u25 := by rw [hu]; exact freeze_below hn43
        clear hu
        go_simp
        refine hK.out _ _ (SW.step hHeld HG.out.1 hbb) (fun hHeld => ?_)
        clear hK K hbb hcv
        refine wpAnyH_ready (rs := [40, 45]) (by kernel_rfl) (by simp) ?_
        refine AllReadyH.cons rfl (fun K hK => ?_) (AllReadyH.cons rfl (fun K hK => ?_) AllReadyH.nil)
        · simp only [List.getElem_toArray, List.getElem_cons_succ, List.getElem_cons_zero]
          rw [if_pos (by rfl)]
          go_simp
          obtain ⟨u26, hu⟩ : ∃ u, u = u25.alloc (.cells #[.int .u8 74, .int .u8 101, .int .u8 102, .int .u8 101] 5) := ⟨_, rfl⟩
          have ne43_40 : x4.heap.size ≠ u25.heap.size := Nat.ne_of_lt (blk_lt f43)
          have hn40 : w5.heap.size + 1 ≤ u25.heap.size := arr_lt hHeld.2.2.2
          have f43 := blk_alloc f43 (.cells #[.int .u8 74, .int .u8 101, .int .u8 102, .int .u8 101] 5)
          rw [← hu] at f43
          have f40 : u26.heap[u25.heap.size]? = some (.cells (nums .u8 JE).toArray 5 (0, 0)) := by rw [hu]; exact blk_new u25 _
          have hbb : Below (w5.heap.size + 1) u25 u26 := by rw [hu]; exact (below_alloc (B0 u25) _).mono hn40
          rw [← hu]
          refine hK.out _ _ (SW.step hHeld HG.out.1 hbb) (fun hHeld => ?_)
          clear hK K hbb hu
          refine wpAnyH_ready (rs := [41, 45]) (by kernel_rfl) (by simp) ?_
          refine AllReadyH.cons rfl (fun K hK => ?_) (AllReadyH.cons rfl (fun K hK => ?_) AllReadyH.nil)
          · simp only [List.getElem_toArray, List.getElem_cons_succ, List.getElem_cons_zero]
            rw [if_pos (by rfl)]
            have hcv := run_conv_at (P := Tryd.prog) (n := 4) (c := 4) Tryd.underlying22 Tryd.underlying5 f40
            obtain ⟨u27, hu⟩ : ∃ u, u = u26.freeze ⟨u25.heap.size, (nums .u8 JE).toArray.size, none⟩ 1 := ⟨_, rfl⟩
            rw [← hu] at hcv
            have f43 := freeze_other (n := (nums .u8 JE).toArray.size) f43 ne43_40
            rw [← hu] at f43
            have f40 : u27.heap[u25.heap.size]? = some (.cells (nums .u8 JE).toArray 5 (4, 5)) := by rw [hu]; exact freeze_same f40
            have hbb : Below (w5.heap.size + 1) u26 u27 := by rw [hu]; exact freeze_below hn40
            clear hu
            go_simp
            refine hK.out _ _ (SW.step hHeld HG.out.1 hbb) (fun hHeld => ?_)
            clear hK K hbb hcv
            refine wpAnyH_ready (rs := [45]) (by kernel_rfl) (by simp) ?_
            refine AllReadyH.cons rfl (fun K hK => ?_) AllReadyH.nil
            simp only [List.getElem_toArray, List.getElem_cons_succ, List.getElem_cons_zero]
            rw [if_pos (by rfl)]
            go_simp
            obtain ⟨u28, hu⟩ : ∃ u, u = u27.alloc (.cells #[.slice (some ⟨x4.heap.size, 0, none⟩) 28 28] 22) := ⟨_, rfl⟩
            have ne43_45 : x4.heap.size ≠ u27.heap.size := Nat.ne_of_lt (blk_lt f43)
            have ne40_45 : u25.heap.size ≠ u27.heap.size := Nat.ne_of_lt (blk_lt f40)
            have hn45 : w5.heap.size + 1 ≤ u27.heap.size := arr_lt hHeld.2.2.2
            have f43 := blk_alloc f43 (.cells #[.slice (some ⟨x4.heap.size, 0, none⟩) 28 28] 22)
            rw [← hu] at f43
            have f40 := blk_alloc f40 (.cells #[.slice (some ⟨x4.heap.size, 0, none⟩) 28 28] 22)
            rw [← hu] at f40
            have f45 : u28.heap[u27.heap.size]? = some (.cells [.slice (some ⟨x4.heap.size, 0, none⟩) 28 28].toArray 22 (0, 0)) := by rw [hu]; exact blk_new u27 _
            have hbb : Below (w5.heap.size + 1) u27 u28 := by rw [hu]; exact (below_alloc (B0 u27) _).mono hn45
            rw [← hu]
            refine hK.out _ _ (SW.step hHeld HG.out.1 hbb) (fun hHeld => ?_)
            clear hK K hbb hu
            exact wpAnyH_listed (by kernel_rfl) (suf _ _ ⟨u25.heap.size, x4.heap.size, u27.heap.size, rfl, hHeld, f40, f43, f45⟩)
          · simp only [List.getElem_toArray, List.getElem_cons_succ, List.getElem_cons_zero]
            rw [if_pos (by rfl)]
            go_simp
            obtain ⟨u29, hu⟩ : ∃ u, u = u26.alloc (.cells #[.slice (some ⟨x4.heap.size, 0, none⟩) 28 28] 22) := ⟨_, rfl⟩
            have ne43_45 : x4.heap.size ≠ u26.heap.size := Nat.ne_of_lt (blk_lt f43)
            have ne40_45 : u25.heap.size ≠ u26.heap.size := Nat.ne_of_lt (blk_lt f40)
            have hn45 : w5.heap.size + 1 ≤ u26.heap.size := arr_lt hHeld.2.2.2
            have f43 := blk_alloc f43 (.cells #[.slice (some ⟨x4.heap.size, 0, none⟩) 28 28] 22)
            rw [← hu] at f43
            have f40 := blk_alloc f40 (.cells #[.slice (some ⟨x4.heap.size, 0, none⟩) 28 28] 22)
            rw [← hu] at f40
            have f45 : u29.heap[u26.heap.size]? = some (.cells [.slice (some ⟨x4.heap.size, 0, none⟩) 28 28].toArray 22 (0, 0)) := by rw [hu]; exact blk_new u26 _
            have hbb : Below (w5.heap.size + 1) u26 u29 := by rw [hu]; exact (below_alloc (B0 u26) _).mono hn45
            rw [← hu]
            refine hK.out _ _ (SW.step hHeld HG.out.1 hbb) (fun hHeld => ?_)
            clear hK K hbb hu
            refine wpAnyH_ready (rs := [41]) (by kernel_rfl) (by simp) ?_
            refine AllReadyH.cons rfl (fun K hK => ?_) AllReadyH.nil
            simp only [List.getElem_toArray, List.getElem_cons_succ, List.getElem_cons_zero]
            rw [if_pos (by rfl)]
            have hcv := run_conv_at (P := Tryd.prog) (n := 4) (c := 4) Tryd.underlying22 Tryd.underlying5 f40
            obtain ⟨u30, hu⟩ : ∃ u, u = u29.freeze ⟨u25.heap.size, (nums .u8 JE).toArray.size, none⟩ 1 := ⟨_, rfl⟩
            rw [← hu] at hcv
            have f43 := freeze_other (n := (nums .u8 JE).toArray.size) f43 ne43_40
            rw [← hu] at f43
            have f45 := freeze_other (n := (nums .u8 JE).toArray.size) f45 (Ne.symm ne40_45)
            rw [← hu] at f45
            have f40 : u30.heap[u25.heap.size]? = some (.cells (nums .u8 JE).toArray 5 (4, 5)) := by rw [hu]; exact freeze_same f40
            have hbb : Below (w5.heap.size + 1) u29 u30 := by rw [hu]; exact freeze_below hn40
            clear hu
            go_simp
            refine hK.out _ _ (SW.step hHeld HG.out.1 hbb) (fun hHeld => ?_)
            clear hK K hbb hcv
            exact wpAnyH_listed (by kernel_rfl) (suf _ _ ⟨u25.heap.size, x4.heap.size, u26.heap.size, rfl, hHeld, f40, f43, f45⟩)
        · simp only [List.getElem_toArray, List.getElem_cons_succ, List.getElem_cons_zero]
          rw [if_pos (by rfl)]
          go_simp
          obtain ⟨u31, hu⟩ : ∃ u, u = u25.alloc (.cells #[.slice (some ⟨x4.heap.size, 0, none⟩) 28 28] 22) := ⟨_, rfl⟩
          have ne43_45 : x4.heap.size ≠ u25.heap.size := Nat.ne_of_lt (blk_lt f43)
          have hn45 : w5.heap.size + 1 ≤ u25.heap.size := arr_lt hHeld.2.2.2
          have f43 := blk_alloc f43 (.cells #[.slice (some ⟨x4.heap.size, 0, none⟩) 28 28] 22)
          rw [← hu] at f43
          have f45 : u31.heap[u25.heap.size]? = some (.cells [.slice (some ⟨x4.heap.size, 0, none⟩) 28 28].toArray 22 (0, 0)) := by rw [hu]; exact blk_new u25 _
          have hbb : Below (w5.heap.size + 1) u25 u31 := by rw [hu]; exact (below_alloc (B0 u25) _).mono hn45
          rw [← hu]
          refine hK.out _ _ (SW.step hHeld HG.out.1 hbb) (fun hHeld => ?_)
          clear hK K hbb hu
          refine wpAnyH_ready (rs := [40]) (by kernel_rfl) (by simp) ?_
          refine AllReadyH.cons rfl (fun K hK => ?_) AllReadyH.nil
          simp only [List.getElem_toArray, List.getElem_cons_succ, List.getElem_cons_zero]
          rw [if_pos (by rfl)]
          go_simp
          obtain ⟨u32, hu⟩ : ∃ u, u = u31.alloc (.cells #[.int .u8 74, .int .u8 101, .int .u8 102, .int .u8 101] 5) := ⟨_, rfl⟩
          have ne43_40 : x4.heap.size ≠ u31.heap.size := Nat.ne_of_lt (blk_lt f43)
          have ne45_40 : u25.heap.size ≠ u31.heap.size := Nat.ne_of_lt (blk_lt f45)
          have hn40 : w5.heap.size + 1 ≤ u31.heap.size := arr_lt hHeld.2.2.2
          have f43 := blk_alloc f43 (.cells #[.int .u8 74, .int .u8 101, .int .u8 102, .int .u8 101] 5)
          rw [← hu] at f43
          have f45 := blk_alloc f45 (.cells #[.int .u8 74, .int .u8 101, .int .u8 102, .int .u8 101] 5)
          rw [← hu] at f45
          have f40 : u32.heap[u31.heap.size]? = some (.cells (nums .u8 JE).toArray 5 (0, 0)) := by rw [hu]; exact blk_new u31 _
          have hbb : Below (w5.heap.size + 1) u31 u32 := by rw [hu]; exact (below_alloc (B0 u31) _).mono hn40
          rw [← hu]
          refine hK.out _ _ (SW.step hHeld HG.out.1 hbb) (fun hHeld => ?_)
          clear hK K hbb hu
          refine wpAnyH_ready (rs := [41]) (by kernel_rfl) (by simp) ?_
          refine AllReadyH.cons rfl (fun K hK => ?_) AllReadyH.nil
          simp only [List.getElem_toArray, List.getElem_cons_succ, List.getElem_cons_zero]
          rw [if_pos (by rfl)]
          have hcv := run_conv_at (P := Tryd.prog) (n := 4) (c := 4) Tryd.underlying22 Tryd.underlying5 f40
          obtain ⟨u33, hu⟩ : ∃ u, u = u32.freeze ⟨u31.heap.size, (nums .u8 JE).toArray.size, none⟩ 1 := ⟨_, rfl⟩
          rw [← hu] at hcv
          have f43 := freeze_other (n := (nums .u8 JE).toArray.size) f43 ne43_40
          rw [← hu] at f43
          have f45 := freeze_other (n := (nums .u8 JE).toArray.size) f45 ne45_40
          rw [← hu] at f45
          have f40 : u33.heap[u31.heap.size]? = some (.cells (nums .u8 JE).toArray 5 (4, 5)) := by rw [hu]; exact freeze_same f40
          have hbb : Below (w5.heap.size + 1) u32 u33 := by rw [hu]; exact freeze_below hn40
          clear hu
          go_simp
          refine hK.out _ _ (SW.step hHeld HG.out.1 hbb) (fun hHeld => ?_)
          clear hK K hbb hcv
          exact wpAnyH_listed (by kernel_rfl) (suf _ _ ⟨u31.heap.size, x4.heap.size, u25.heap.size, rfl, hHeld, f40, f43, f45⟩)
  case suf =>
    rintro a w' ⟨gA, gB, gC, rfl, hHeld, fA, fB, fC⟩
    subst ha1
    simp only [Act.put, List.setIfInBounds_toArray, List.set_cons_zero, List.set_cons_succ]
    have hkb := KB_list (xss := [PP]) fC rfl (by simp) (fun q v xs q1 q2 => by
      match q, q1, q2 with
      | 0, q1, q2 =>
        simp at q1 q2
        subst q1 q2
        exact ⟨_, 28, rfl, by decide, bytes_C fB (by decide)⟩
      | q + 1, q1, q2 => simp at q1)
    refine wpAnyH_ready (rs := [46]) (by kernel_rfl) (by simp) ?_
    refine AllReadyH.cons rfl (fun K hK => ?_) AllReadyH.nil
    simp only [List.getElem_toArray, List.getElem_cons_succ, List.getElem_cons_zero]
    rw [if_pos (by rfl)]
    go_simp
    refine (check_any _ _ JE ⟨_, 4, rfl, by decide, bytes_C fA (by decide)⟩ JE_byte (by decide) _ (MM.take 16) (hHeld.cut 16 (by decide)) (fun x hx => MM_byte x (List.mem_of_mem_take hx)) (by rw [List.length_take]; omega) _ 1 [PP] hkb (show 1 ≤ 1 by decide) (by decide) (by decide) (show 1 ≤ 4294960000 by decide) hHeld.1).mono ?_
    rintro e z1 ⟨rfl, hbb⟩
    rw [show cat [PP] = PP from rfl, chk16]
    refine hK.out _ _ (SW.big hHeld HG.out.1 hbb) (fun hHeld => ?_)
    clear hK K hbb hkb fA fB fC
    refine wpAnyH_take (i := 47) (v := .bool true) rfl (by kernel_rfl) (by kernel_rfl) (by kernel_rfl) (fun _ _ _ h => h) (Or.inl ⟨by rfl, ?hy47⟩) hHeld ?_
    case hy47 => intro w' hSw; go_simp
    simp only [List.getElem_toArray, List.getElem_cons_succ, List.getElem_cons_zero, Act.put, List.setIfInBounds_toArray, List.set_cons_zero, List.set_cons_succ]
    refine wpAnyH_take (i := 48) (v := .bool true) rfl (by kernel_rfl) (by kernel_rfl) (by kernel_rfl) (fun _ _ _ h => h) (Or.inl ⟨by rfl, ?hy48⟩) hHeld ?_
    case hy48 => intro w' hSw; go_simp
    simp only [List.getElem_toArray, List.getElem_cons_succ, List.getElem_cons_zero, Act.put, List.setIfInBounds_toArray, List.set_cons_zero, List.set_cons_succ]
    refine wpAnyH_take (i := 51) (v := .slice (some ⟨w5.heap.size, 0, none⟩) 15 32) rfl (by kernel_rfl) (by kernel_rfl) (by kernel_rfl) (fun _ _ _ h => h) (Or.inl ⟨by rfl, ?hy51⟩) hHeld ?_
    case hy51 => intro w' hSw; go_simp
    simp only [List.getElem_toArray, List.getElem_cons_succ, List.getElem_cons_zero, Act.put, List.setIfInBounds_toArray, List.set_cons_zero, List.set_cons_succ]
    refine share_act (fun a2 ha2 => ?_)
    refine share (fuel := 4) (l := Array.replicate 55 true ++ Array.replicate 4 false) (fun a w' => ∃ gA gB gC : Nat, a = (((((a2.put (some 59) (.slice (some ⟨gA, 0, none⟩) 4 4)).put (some 60) (.slice (some ⟨gA, 0, none⟩) 4 4)).put (some 62) (.slice (some ⟨gB, 0, none⟩) 28 28)).put (some 63) (.slice (some ⟨gB, 0, none⟩) 28 28)).put (some 64) (.slice (some ⟨gC, 0, none⟩) 1 1)) ∧ SW w w5.heap.size w' ∧ w'.heap[gA]? = some (.cells (nums .u8 JE).toArray 5 (4, 5)) ∧ w'.heap[gB]? = some (.cells (nums .u8 PP).toArray 5 (28, 29)) ∧ w'.heap[gC]? = some (.cells [.slice (some ⟨gB, 0, none⟩) 28 28].toArray 22 (0, 0))) ?suf ?main
    case main =>
      intro suf
      subst ha2
      refine wpAnyH_ready (rs := [49, 52]) (by kernel_rfl) (by simp) ?_
      refine AllReadyH.cons rfl (fun K hK => ?_) (AllReadyH.cons rfl (fun K hK => ?_) AllReadyH.nil)
      · simp only [List.getElem_toArray, List.getElem_cons_succ, List.getElem_cons_zero]
        rw [if_pos (by rfl)]
        go_simp
        obtain ⟨u1, hu⟩ : ∃ u, u = z1.alloc (.cells #[.int .u8 74, .int .u8 101, .int .u8 102, .int .u8 101] 5) := ⟨_, rfl⟩
        have hn49 : w5.heap.size + 1 ≤ z1.heap.size := arr_lt hHeld.2.2.2
        have f49 : u1.heap[z1.heap.size]? = some (.cells (nums .u8 JE).toArray 5 (0, 0)) := by rw [hu]; exact blk_new z1 _
        have hbb : Below (w5.heap.size + 1) z1 u1 := by rw [hu]; exact (below_alloc (B0 z1) _).mono hn49
        rw [← hu]
        refine hK.out _ _ (SW.step hHeld HG.out.1 hbb) (fun hHeld => ?_)
        clear hK K hbb hu
        refine wpAnyH_ready (rs := [50, 52]) (by kernel_rfl) (by simp) ?_
        refine AllReadyH.cons rfl (fun K hK => ?_) (AllReadyH.cons rfl (fun K hK => ?_) AllReadyH.nil)
        · simp only [List.getElem_toArray, List.getElem_cons_succ, List.getElem_cons_zero]
          rw [if_pos (by rfl)]
          have hcv := run_conv_at (P := Tryd.prog) (n := 4) (c := 4) Tryd.underlying22 Tryd.underlying5 f49
          obtain ⟨u2, hu⟩ : ∃ u, u = u1.freeze ⟨z1.heap.size, (nums .u8 JE).toArray.size, none⟩ 1 := ⟨_, rfl⟩
          rw [← hu] at hcv
          have f49 : u2.heap[z1.heap.size]? = some (.cells (nums .u8 JE).toArray 5 (4, 5)) := by rw [hu]; exact freeze_same f49
          have hbb : Below (w5.heap.size + 1) u1 u2 := by rw [hu]; exact freeze_below hn49
          clear hu
          go_simp
          refine hK.out _ _ (SW.step hHeld HG.out.1 hbb) (fun hHeld => ?_)
          clear hK K hbb hcv
          refine wpAnyH_ready (rs := [52]) (by kernel_rfl) (by simp) ?_
          refine AllReadyH.cons rfl (fun K hK => ?_) AllReadyH.nil
          simp only [List.getElem_toArray, List.getElem_cons_succ, List.getElem_cons_zero]
          rw [if_pos (by rfl)]
          go_simp
          obtain ⟨u3, hu⟩ : ∃ u, u = u2.alloc (.cells #[.int .u8 119, .int .u8 104, .int .u8 97, .int .u8 116, .int .u8 32, .int .u8 100, .int .u8 111, .int .u8 32, .int .u8 121, .int .u8 97, .int .u8 32, .int .u8 119, .int .u8 97, .int .u8 110, .int .u8 116, .int .u8 32, .int .u8 102, .int .u8 111, .int .u8 114, .int .u8 32, .int .u8 110, .int .u8 111, .int .u8 116, .int .u8 104, .int .u8 105, .int .u8 110, .int .u8 103, .int .u8 63] 5) := ⟨_, rfl⟩
          have ne49_52 : z1.heap.size ≠ u2.heap.size := Nat.ne_of_lt (blk_lt f49)
          have hn52 : w5.heap.size + 1 ≤ u2.heap.size := arr_lt hHeld.2.2.2
          have f49 := blk_alloc f49 (.cells #[.int .u8 119, .int .u8 104, .int .u8 97, .int .u8 116, .int .u8 32, .int .u8 100, .int .u8 111, .int .u8 32, .int .u8 121, .int .u8 97, .int .u8 32, .int .u8 119, .int .u8 97, .int .u8 110, .int .u8 116, .int .u8 32, .int .u8 102, .int .u8 111, .int .u8 114, .int .u8 32, .int .u8 110, .int .u8 111, .int .u8 116, .int .u8 104, .int .u8 105, .int .u8 110, .int .u8 103, .int .u8 63] 5)
          rw [← hu] at f49
          have f52 : u3.heap[u2.heap.size]? = some (.cells (nums .u8 PP).toArray 5 (0, 0)) := by rw [hu]; exact blk_new u2 _
          have hbb : Below (w5.heap.size + 1) u2 u3 := by rw [hu]; exact (below_alloc (B0 u2) _).mono hn52
          rw [← hu]
          refine hK.out _ _ (SW.step hHeld HG.out.1 hbb) (fun hHeld => ?_)
          clear hK K hbb hu
          refine wpAnyH_ready (rs := [53]) (by kernel_rfl) (by simp) ?_
          refine AllReadyH.cons rfl (fun K hK => ?_) AllReadyH.nil
          simp only [List.getElem_toArray, List.getElem_cons_succ, List.getElem_cons_zero]
          rw [if_pos (by rfl)]
          have hcv := run_conv_at (P := Tryd.prog) (n := 28) (c := 28) Tryd.underlying22 Tryd.underlying5 f52
          obtain ⟨u4, hu⟩ : ∃ u, u = u3.freeze ⟨u2.heap.size, (nums .u8 PP).toArray.size, none⟩ 1 := ⟨_, rfl⟩
          rw [← hu] at hcv
          have f49 := freeze_other (n := (nums .u8 PP).toArray.size) f49 ne49_52
          rw [← hu] at f49
          have f52 : u4.heap[u2.heap.size]? = some (.cells (nums .u8 PP).toArray 5 (28, 29)) := by rw [hu]; exact freeze_same f52
          have hbb : Below (w5.heap.size + 1) u3 u4 := by rw [hu]; exact freeze_below hn52
          clear hu
          go_simp
          refine hK.out _ _ (SW.step hHeld HG.out.1 hbb) (fun hHeld => ?_)
          clear hK K hbb hcv
          refine wpAnyH_ready (rs := [54]) (by kernel_rfl) (by simp) ?_
          refine AllReadyH.cons rfl (fun K hK => ?_) AllReadyH.nil
          simp only [List.getElem_toArray, List.getElem_cons_succ, List.getElem_cons_zero]
          rw [if_pos (by rfl)]
          go_simp
          obtain ⟨u5, hu⟩ : ∃ u, u = u4.alloc (.cells #[.slice (some ⟨u2.heap.size, 0, none⟩) 28 28] 22) := ⟨_, rfl⟩
          have ne49_54 : z1.heap.size ≠ u4.heap.size := Nat.ne_of_lt (blk_lt f49)
          have ne52_54 : u2.heap.size ≠ u4.heap.size := Nat.ne_of_lt (blk_lt f52)
          have hn54 : w5.heap.size + 1 ≤ u4.heap.size := arr_lt hHeld.2.2.2
          have f49 := blk_alloc f49 (.cells #[.slice (some ⟨u2.heap.size, 0, none⟩) 28 28] 22)
          rw [← hu] at f49
          have f52 := blk_alloc f52 (.cells #[.slice (some ⟨u2.heap.size, 0, none⟩) 28 28] 22)
          rw [← hu] at f52
          have f54 : u5.heap[u4.heap.size]? = some (.cells [.slice (some ⟨u2.heap.size, 0, none⟩) 28 28].toArray 22 (0, 0)) := by rw [hu]; exact blk_new u4 _
          have hbb : Below (w5.heap.size + 1) u4 u5 := by rw [hu]; exact (below_alloc (B0 u4) _).mono hn54
          rw [← hu]
          refine hK.out _ _ (SW.step hHeld HG.out.1 hbb) (fun hHeld => ?_)
          clear hK K hbb hu
          exact wpAnyH_listed (by kernel_rfl) (suf _ _ ⟨z1.heap.size, u2.heap.size, u4.heap.size, rfl, hHeld, f49, f52, f54⟩)
        · simp only [List.getElem_toArray, List.getElem_cons_succ, List.getElem_cons_zero]
          rw [if_pos (by rfl)]
          go_simp
          obtain ⟨u6, hu⟩ : ∃ u, u = u1.alloc (.cells #[.int .u8 119, .int .u8 104, .int .u8 97, .int .u8 116, .int .u8 32, .int .u8 100, .int .u8 111, .int .u8 32, .int .u8 121, .int .u8 97, .int .u8 32, .int .u8 119, .int .u8 97, .int .u8 110, .int .u8 116, .int .u8 32, .int .u8 102, .int .u8 111, .int .u8 114, .int .u8 32, .int .u8 110, .int .u8 111, .int .u8 116, .int .u8 104, .int .u8 105, .int .u8 110, .int .u8 103, .int .u8 63] 5) := ⟨_, rfl⟩
          have ne49_52 : z1.heap.size ≠ u1.heap.size := Nat.ne_of_lt (blk_lt f49)
          have hn52 : w5.heap.size + 1 ≤ u1.heap.size := arr_lt hHeld.2.2.2
          have f49 := blk_alloc f49 (.cells #[.int .u8 119, .int .u8 104, .int .u8 97, .int .u8 116, .int .u8 32, .int .u8 100, .int .u8 111, .int .u8 32, .int .u8 121, .int .u8 97, .int .u8 32, .int .u8 119, .int .u8 97, .int .u8 110, .int .u8 116, .int .u8 32, .int .u8 102, .int .u8 111, .int .u8 114, .int .u8 32, .int .u8 110, .int .u8 111, .int .u8 116, .int .u8 104, .int .u8 105, .int .u8 110, .int .u8 103, .int .u8 63] 5)
          rw [← hu] at f49
          have f52 : u6.heap[u1.heap.size]? = some (.cells (nums .u8 PP).toArray 5 (0, 0)) := by rw [hu]; exact blk_new u1 _
          have hbb : Below (w5.heap.size + 1) u1 u6 := by rw [hu]; exact (below_alloc (B0 u1) _).mono hn52
          rw [← hu]
          refine hK.out _ _ (SW.step hHeld HG.out.1 hbb) (fun hHeld => ?_)
          clear hK K hbb hu
          refine wpAnyH_ready (rs := [50, 53]) (by kernel_rfl) (by simp) ?_
          refine AllReadyH.cons rfl (fun K hK => ?_) (AllReadyH.cons rfl (fun K hK => ?_) AllReadyH.nil)
          · simp only [List.getElem_toArray, List.getElem_cons_succ, List.getElem_cons_zero]
            rw [if_pos (by rfl)]
            have hcv := run_conv_at (P := Tryd.prog) (n := 4) (c := 4) Tryd.underlying22 Tryd.underlying5 f49
            obtain ⟨u7, hu⟩ : ∃ u, u = u6.freeze ⟨z1.heap.size, (nums .u8 JE).toArray.size, none⟩ 1 := ⟨_, rfl⟩
            rw [← hu] at hcv
            have f52 := freeze_other (n := (nums .u8 JE).toArray.size) f52 (Ne.symm ne49_52)
            rw [← hu] at f52
            have f49 : u7.heap[z1.heap.size]? = some (.cells (nums .u8 JE).toArray 5 (4, 5)) := by rw [hu]; exact freeze_same f49
            have hbb : Below (w5.heap.size + 1) u6 u7 := by rw [hu]; exact freeze_below hn49
            clear hu
            go_simp
            refine hK.out _ _ (SW.step hHeld HG.out.1 hbb) (fun hHeld => ?_)
            clear hK K hbb hcv
            refine wpAnyH_ready (rs := [53]) (by kernel_rfl) (by simp) ?_
            refine AllReadyH.cons rfl (fun K hK => ?_) AllReadyH.nil
            simp only [List.getElem_toArray, List.getElem_cons_succ, List.getElem_cons_zero]
            rw [if_pos (by rfl)]
            have hcv := run_conv_at (P := Tryd.prog) (n := 28) (c := 28) Tryd.underlying22 Tryd.underlying5 f52
            obtain ⟨u8, hu⟩ : ∃ u, u = u7.freeze ⟨u1.heap.size, (nums .u8 PP).toArray.size, none⟩ 1 := ⟨_, rfl⟩
            rw [← hu] at hcv
            have f49 := freeze_other (n := (nums .u8 PP).toArray.size) f49 ne49_52
            rw [← hu] at f49
            have f52 : u8.heap[u1.heap.size]? = some (.cells (nums .u8 PP).toArray 5 (28, 29)) := by rw [hu]; exact freeze_same f52
            have hbb : Below (w5.heap.size + 1) u7 u8 := by rw [hu]; exact freeze_below hn52
            clear hu
            go_simp
            refine hK.out _ _ (SW.step hHeld HG.out.1 hbb) (fun hHeld => ?_)
            clear hK K hbb hcv
            refine wpAnyH_ready (rs := [54]) (by kernel_rfl) (by simp) ?_
            refine AllReadyH.cons rfl (fun K hK => ?_) AllReadyH.nil
            simp only [List.getElem_toArray, List.getElem_cons_succ, List.getElem_cons_zero]
            rw [if_pos (by rfl)]
            go_simp
            obtain ⟨u9, hu⟩ : ∃ u, u = u8.alloc (.cells #[.slice (some ⟨u1.heap.size, 0, none⟩) 28 28] 22) := ⟨_, rfl⟩
            have ne49_54 : z1.heap.size ≠ u8.heap.size := Nat.ne_of_lt (blk_lt f49)
            have ne52_54 : u1.heap.size ≠ u8.heap.size := Nat.ne_of_lt (blk_lt f52)
            have hn54 : w5.heap.size + 1 ≤ u8.heap.size := arr_lt hHeld.2.2.2
            have f49 := blk_alloc f49 (.cells #[.slice (some ⟨u1.heap.size, 0, none⟩) 28 28] 22)
            rw [← hu] at f49
            have f52 := blk_alloc f52 (.cells #[.slice (some ⟨u1.heap.size, 0, none⟩) 28 28] 22)
            rw [← hu] at f52
            have f54 : u9.heap[u8.heap.size]? = some (.cells [.slice (some ⟨u1.heap.size, 0, none⟩) 28 28].toArray 22 (0, 0)) := by rw [hu]; exact blk_new u8 _
            have hbb : Below (w5.heap.size + 1) u8 u9 := by rw [hu]; exact (below_alloc (B0 u8) _).mono hn54
            rw [← hu]
            refine hK.out _ _ (SW.step hHeld HG.out.1 hbb) (fun hHeld => ?_)
            clear hK K hbb hu
            exact wpAnyH_listed (by kernel_rfl) (suf _ _ ⟨z1.heap.size, u1.heap.size, u8.heap.size, rfl, hHeld, f49, f52, f54⟩)
          · simp only [List.getElem_toArray, List.getElem_cons_succ, List.getElem_cons_zero]
            rw [if_pos (by rfl)]
            have hcv := run_conv_at (P := Tryd.prog) (n := 28) (c := 28) Tryd.underlying22 Tryd.underlying5 f52
            obtain ⟨u10, hu⟩ : ∃ u, u = u6.freeze ⟨u1.heap.size, (nums .u8 PP).toArray.size, none⟩ 1 := ⟨_, rfl⟩
            rw [← hu] at hcv
            have f49 := freeze_other (n := (nums .u8 PP).toArray.size) f49 ne49_52
            rw [← hu] at f49
            have f52 : u10.heap[u1.heap.size]? = some (.cells (nums .u8 PP).toArray 5 (28, 29)) := by rw [hu]; exact freeze_same f52
            have hbb : Below (w5.heap.size + 1) u6 u10 := by rw [hu]; exact freeze_below hn52
            clear hu
            go_simp
            refine hK.out _ _ (SW.step hHeld HG.out.1 hbb) (fun hHeld => ?_)
            clear hK K hbb hcv
            refine wpAnyH_ready (rs := [50, 54]) (by kernel_rfl) (by simp) ?_
            refine AllReadyH.cons rfl (fun K hK => ?_) (AllReadyH.cons rfl (fun K hK => ?_) AllReadyH.nil)
            · simp only [List.getElem_toArray, List.getElem_cons_succ, List.getElem_cons_zero]
              rw [if_pos (by rfl)]
              have hcv := run_conv_at (P := Tryd.prog) (n := 4) (c := 4) Tryd.underlying22 Tryd.underlying5 f49
              obtain ⟨u11, hu⟩ : ∃ u, u = u10.freeze ⟨z1.heap.size, (nums .u8 JE).toArray.size, none⟩ 1 := ⟨_, rfl⟩
              rw [← hu] at hcv
              have f52 := freeze_other (n := (nums .u8 JE).toArray.size) f52 (Ne.symm ne49_52)
              rw [← hu] at f52
              have f49 : u11.heap[z1.heap.size]? = some (.cells (nums .u8 JE).toArray 5 (4, 5)) := by rw [hu]; exact freeze_same f49
              have hbb : Below (w5.heap.size + 1) u10 u11 := by rw [hu]; exact freeze_below hn49
              clear hu
              go_simp
              refine hK.out _ _ (SW.step hHeld HG.out.1 hbb) (fun hHeld => ?_)
              clear hK K hbb hcv
              refine wpAnyH_ready (rs := [54]) (by kernel_rfl) (by simp) ?_
              refine AllReadyH.cons rfl (fun K hK => ?_) AllReadyH.nil
              simp only [List.getElem_toArray, List.getElem_cons_succ, List.getElem_cons_zero]
              rw [if_pos (by rfl)]
              go_simp
              obtain ⟨u12, hu⟩ : ∃ u, u = u11.alloc (.cells #[.slice (some ⟨u1.heap.size, 0, none⟩) 28 28] 22) := ⟨_, rfl⟩
              have ne49_54 : z1.heap.size ≠ u11.heap.size := Nat.ne_of_lt (blk_lt f49)
              have ne52_54 : u1.heap.size ≠ u11.heap.size := Nat.ne_of_lt (blk_lt f52)
              have hn54 : w5.heap.size + 1 ≤ u11.heap.size := arr_lt hHeld.2.2.2
              have f49 := blk_alloc f49 (.cells #[.slice (some ⟨u1.heap.size, 0, none⟩) 28 28] 22)
              rw [← hu] at f49
              have f52 := blk_alloc f52 (.cells #[.slice (some ⟨u1.heap.size, 0, none⟩) 28 28] 22)
              rw [← hu] at f52
              have f54 : u12.heap[u11.heap.size]? = some (.cells [.slice (some ⟨u1.heap.size, 0, none⟩) 28 28].toArray 22 (0, 0)) := by rw [hu]; exact blk_new u11 _
              have hbb : Below (w5.heap.size + 1) u11 u12 := by rw [hu]; exact (below_alloc (B0 u11) _).mono hn54
              rw [← hu]
              refine hK.out _ _ (SW.step hHeld HG.out.1 hbb) (fun hHeld => ?_)
              clear hK K hbb hu
              exact wpAnyH_listed (by kernel_rfl) (suf _ _ ⟨z1.heap.size, u1.heap.size, u11.heap.size, rfl, hHeld, f49, f52, f54⟩)
            · simp only [List.getElem_toArray, List.getElem_cons_succ, List.getElem_cons_zero]
              rw [if_pos (by rfl)]
              go_simp
              obtain ⟨u13, hu⟩ : ∃ u, u = u10.alloc (.cells #[.slice (some ⟨u1.heap.size, 0, none⟩) 28 28] 22) := ⟨_, rfl⟩
              have ne49_54 : z1.heap.size ≠ u10.heap.size := Nat.ne_of_lt (blk_lt f49)
              have ne52_54 : u1.heap.size ≠ u10.heap.size := Nat.ne_of_lt (blk_lt f52)
              have hn54 : w5.heap.size + 1 ≤ u10.heap.size := arr_lt hHeld.2.2.2
              have f49 := blk_alloc f49 (.cells #[.slice (some ⟨u1.heap.size, 0, none⟩) 28 28] 22)
              rw [← hu] at f49
              have f52 := blk_alloc f52 (.cells #[.slice (some ⟨u1.heap.size, 0, none⟩) 28 28] 22)
              rw [← hu] at f52
              have f54 : u13.heap[u10.heap.size]? = some (.cells [.slice (some ⟨u1.heap.size, 0, none⟩) 28 28].toArray 22 (0, 0)) := by rw [hu]; exact blk_new u10 _
              have hbb : Below (w5.heap.size + 1) u10 u13 := by rw [hu]; exact (below_alloc (B0 u10) _).mono hn54
              rw [← hu]
              refine hK.out _ _ (SW.step hHeld HG.out.1 hbb) (fun hHeld => ?_)
              clear hK K hbb hu
              refine wpAnyH_ready (rs := [50]) (by kernel_rfl) (by simp) ?_
              refine AllReadyH.cons rfl (fun K hK => ?_) AllReadyH.nil
              simp only [List.getElem_toArray, List.getElem_cons_succ, List.getElem_cons_zero]
              rw [if_pos (by rfl)]
              have hcv := run_conv_at (P := Tryd.prog) (n := 4) (c := 4) Tryd.underlying22 Tryd.underlying5 f49
              obtain ⟨u14, hu⟩ : ∃ u, u = u13.freeze ⟨z1.heap.size, (nums .u8 JE).toArray.size, none⟩ 1 := ⟨_, rfl⟩
              rw [← hu] at hcv
              have f52 := freeze_other (n := (nums .u8 JE).toArray.size) f52 (Ne.symm ne49_52)
              rw [← hu] at f52
              have f54 := freeze_other (n := (nums .u8 JE).toArray.size) f54 (Ne.symm ne49_54)
              rw [← hu] at f54
              have f49 : u14.heap[z1.heap.size]? = some (.cells (nums .u8 JE).toArray 5 (4, 5)) := by rw [hu]; exact freeze_same f49
              have hbb : Below (w5.heap.size + 1) u13 u14 := by rw [hu]; exact freeze_below hn49
              clear hu
              go_simp
              refine hK.out _ _ (SW.step hHeld HG.out.1 hbb) (fun hHeld => ?_)
              clear hK K hbb hcv
              exact wpAnyH_listed (by kernel_rfl) (suf _ _ ⟨z1.heap.size, u1.heap.size, u10.heap.size, rfl, hHeld, f49, f52, f54⟩)
      · simp only [List.getElem_toArray, List.getElem_cons_succ, List.getElem_cons_zero]
        rw [if_pos (by rfl)]
        go_simp
        obtain ⟨u15, hu⟩ : ∃ u, u = z1.alloc (.cells #[.int .u8 119, .int .u8 104, .int .u8 97, .int .u8 116, .int .u8 32, .int .u8 100, .int .u8 111, .int .u8 32, .int .u8 121, .int .u8 97, .int .u8 32, .int .u8 119, .int .u8 97, .int .u8 110, .int .u8 116, .int .u8 32, .int .u8 102, .int .u8 111, .int .u8 114, .int .u8 32, .int .u8 110, .int .u8 111, .int .u8 116, .int .u8 104, .int .u8 105, .int .u8 110, .int .u8 103, .int .u8 63] 5) := ⟨_, rfl⟩
        have hn52 : w5.heap.size + 1 ≤ z1.heap.size := arr_lt hHeld.2.2.2
        have f52 : u15.heap[z1.heap.size]? = some (.cells (nums .u8 PP).toArray 5 (0, 0)) := by rw [hu]; exact blk_new z1 _
        have hbb : Below (w5.heap.size + 1) z1 u15 := by rw [hu]; exact (below_alloc (B0 z1) _).mono hn52
        rw [← hu]
        refine hK.out _ _ (SW.step hHeld HG.out.1 hbb) (fun hHeld => ?_)
        clear hK K hbb hu
        refine wpAnyH_ready (rs := [49, 53]) (by kernel_rfl) (by simp) ?_
        refine AllReadyH.cons rfl (fun K hK => ?_) (AllReadyH.cons rfl (fun K hK => ?_) AllReadyH.nil)
        · simp only [List.getElem_toArray, List.getElem_cons_succ, List.getElem_cons_zero]
          rw [if_pos (by rfl)]
          go_simp
          obtain ⟨u16, hu⟩ : ∃ u, u = u15.alloc (.cells #[.int .u8 74, .int .u8 101, .int .u8 102, .int .u8 101] 5) := ⟨_, rfl⟩
          have ne52_49 : z1.heap.size ≠ u15.heap.size := Nat.ne_of_lt (blk_lt f52)
          have hn49 : w5.heap.size + 1 ≤ u15.heap.size := arr_lt hHeld.2.2.2
          have f52 := blk_alloc f52 (.cells #[.int .u8 74, .int .u8 101, .int .u8 102, .int .u8 101] 5)
          rw [← hu] at f52
          have f49 : u16.heap[u15.heap.size]? = some (.cells (nums .u8 JE).toArray 5 (0, 0)) := by rw [hu]; exact blk_new u15 _
          have hbb : Below (w5.heap.size + 1) u15 u16 := by rw [hu]; exact (below_alloc (B0 u15) _).mono hn49
          rw [← hu]
          refine hK.out _ _ (SW.step hHeld HG.out.1 hbb) (fun hHeld => ?_)
          clear hK K hbb hu
          refine wpAnyH_ready (rs := [50, 53]) (by kernel_rfl) (by simp) ?_
          refine AllReadyH.cons rfl (fun K hK => ?_) (AllReadyH.cons rfl (fun K hK => ?_) AllReadyH.nil)
          · simp only [List.getElem_toArray, List.getElem_cons_succ, List.getElem_cons_zero]
            rw [if_pos (by rfl)]
            have hcv := run_conv_at (P := Tryd.prog) (n := 4) (c := 4) Tryd.underlying22 Tryd.underlying5 f49
            obtain ⟨u17, hu⟩ : ∃ u, u = u16.freeze ⟨u15.heap.size, (nums .u8 JE).toArray.size, none⟩ 1 := ⟨_, rfl⟩
            rw [← hu] at hcv
            have f52 := freeze_other (n := (nums .u8 JE).toArray.size) f52 ne52_49
            rw [← hu] at f52
            have f49 : u17.heap[u15.heap.size]? = some (.cells (nums .u8 JE).toArray 5 (4, 5)) := by rw [hu]; exact freeze_same f49
            have hbb : Below (w5.heap.size + 1) u16 u17 := by rw [hu]; exact freeze_below hn49
            clear hu
            go_simp
            refine hK.out _ _ (SW.step hHeld HG.out.1 hbb) (fun hHeld => ?_)
            clear hK K hbb hcv
            refine wpAnyH_ready (rs := [53]) (by kernel_rfl) (by simp) ?_
            refine AllReadyH.cons rfl (fun K hK => ?_) AllReadyH.nil
            simp only [List.getElem_toArray, List.getElem_cons_succ, List.getElem_cons_zero]
            rw [if_pos (by rfl)]
            have hcv := run_conv_at (P := Tryd.prog) (n := 28) (c := 28) Tryd.underlying22 Tryd.underlying5 f52
            obtain ⟨u18, hu⟩ : ∃ u, u = u17.freeze ⟨z1.heap.size, (nums .u8 PP).toArray.size, none⟩ 1 := ⟨_, rfl⟩
            rw [← hu] at hcv
            have f49 := freeze_other (n := (nums .u8 PP).toArray.size) f49 (Ne.symm ne52_49)
            rw [← hu] at f49
            have f52 : u18.heap[z1.heap.size]? = some (.cells (nums .u8 PP).toArray 5 (28, 29)) := by rw [hu]; exact freeze_same f52
            have hbb : Below (w5.heap.size + 1) u17 u18 := by rw [hu]; exact freeze_below hn52
            clear hu
            go_simp
            refine hK.out _ _ (SW.step hHeld HG.out.1 hbb) (fun hHeld => ?_)
            clear hK K hbb hcv
            refine wpAnyH_ready (rs := [54]) (by kernel_rfl) (by simp) ?_
            refine AllReadyH.cons rfl (fun K hK => ?_) AllReadyH.nil
            simp only [List.getElem_toArray, List.getElem_cons_succ, List.getElem_cons_zero]
            rw [if_pos (by rfl)]
            go_simp
            obtain ⟨u19, hu⟩ : ∃ u, u = u18.alloc (.cells #[.slice (some ⟨z1.heap.size, 0, none⟩) 28 28] 22) := ⟨_, rfl⟩
            have ne52_54 : z1.heap.size ≠ u18.heap.size := Nat.ne_of_lt (blk_lt f52)
            have ne49_54 : u15.heap.size ≠ u18.heap.size := Nat.ne_of_lt (blk_lt f49)
            have hn54 : w5.heap.size + 1 ≤ u18.heap.size := arr_lt hHeld.2.2.2
            have f52 := blk_alloc f52 (.cells #[.slice (some ⟨z1.heap.size, 0, none⟩) 28 28] 22)
            rw [← hu] at f52
            have f49 := blk_alloc f49 (.cells #[.slice (some ⟨z1.heap.size, 0, none⟩) 28 28] 22)
            rw [← hu] at f49
            have f54 : u19.heap[u18.heap.size]? = some (.cells [.slice (some ⟨z1.heap.size, 0, none⟩) 28 28].toArray 22 (0, 0)) := by rw [hu]; exact blk_new u18 _
            have hbb : Below (w5.heap.size + 1) u18 u19 := by rw [hu]; exact (below_alloc (B0 u18) _).mono hn54
            rw [← hu]
            refine hK.out _ _ (SW.step hHeld HG.out.1 hbb) (fun hHeld => ?_)
            clear hK K hbb hu
            exact wpAnyH_listed (by kernel_rfl) (suf _ _ ⟨u15.heap.size, z1.heap.size, u18.heap.size, rfl, hHeld, f49, f52, f54⟩)
          · simp only [List.getElem_toArray, List.getElem_cons_succ, List.getElem_cons_zero]
            rw [if_pos (by rfl)]
            have hcv := run_conv_at (P := Tryd.prog) (n := 28) (c := 28) Tryd.underlying22 Tryd.underlying5 f52
            obtain ⟨u20, hu⟩ : ∃ u, u = u16.freeze ⟨z1.heap.size, (nums .u8 PP).toArray.size, none⟩ 1 := ⟨_, rfl⟩
            rw [← hu] at hcv
            have f49 := freeze_other (n := (nums .u8 PP).toArray.size) f49 (Ne.symm ne52_49)
            rw [← hu] at f49
            have f52 : u20.heap[z1.heap.size]? = some (.cells (nums .u8 PP).toArray 5 (28, 29)) := by rw [hu]; exact freeze_same f52
            have hbb : Below (w5.heap.size + 1) u16 u20 := by rw [hu]; exact freeze_below hn52
            clear hu
            go_simp
            refine hK.out _ _ (SW.step hHeld HG.out.1 hbb) (fun hHeld => ?_)
            clear hK K hbb hcv
            refine wpAnyH_ready (rs := [50, 54]) (by kernel_rfl) (by simp) ?_
            refine AllReadyH.cons rfl (fun K hK => ?_) (AllReadyH.cons rfl (fun K hK => ?_) AllReadyH.nil)
            · simp only [List.getElem_toArray, List.getElem_cons_succ, List.getElem_cons_zero]
              rw [if_pos (by rfl)]
              have hcv := run_conv_at (P := Tryd.prog) (n := 4) (c := 4) Tryd.underlying22 Tryd.underlying5 f49
              obtain ⟨u21, hu⟩ : ∃ u, u = u20.freeze ⟨u15.heap.size, (nums .u8 JE).toArray.size, none⟩ 1 := ⟨_, rfl⟩
              rw [← hu] at hcv
              have f52 := freeze_other (n := (nums .u8 JE).toArray.size) f52 ne52_49
              rw [← hu] at f52
              have f49 : u21.heap[u15.heap.size]? = some (.cells (nums .u8 JE).toArray 5 (4, 5)) := by rw [hu]; exact freeze_same f49
              have hbb : Below (w5.heap.size + 1) u20 u21 := by rw [hu]; exact freeze_below hn49
              clear hu
              go_simp
              refine hK.out _ _ (SW.step hHeld HG.out.1 hbb) (fun hHeld => ?_)
              clear hK K hbb hcv
              refine wpAnyH_ready (rs := [54]) (by kernel_rfl) (by simp) ?_
              refine AllReadyH.cons rfl (fun K hK => ?_) AllReadyH.nil
              simp only [List.getElem_toArray, List.getElem_cons_succ, List.getElem_cons_zero]
              rw [if_pos (by rfl)]
              go_simp
              obtain ⟨u22, hu⟩ : ∃ u, u = u21.alloc (.cells #[.slice (some ⟨z1.heap.size, 0, none⟩) 28 28] 22) := ⟨_, rfl⟩
              have ne52_54 : z1.heap.size ≠ u21.heap.size := Nat.ne_of_lt (blk_lt f52)
              have ne49_54 : u15.heap.size ≠ u21.heap.size := Nat.ne_of_lt (blk_lt f49)
              have hn54 : w5.heap.size + 1 ≤ u21.heap.size := arr_lt hHeld.2.2.2
              have f52 := blk_alloc f52 (.cells #[.slice (some ⟨z1.heap.size, 0, none⟩) 28 28] 22)
              rw [← hu] at f52
              have f49 := blk_alloc f49 (.cells #[.slice (some ⟨z1.heap.size, 0, none⟩) 28 28] 22)
              rw [← hu] at f49
              have f54 : u22.heap[u21.heap.size]? = some (.cells [.slice (some ⟨z1.heap.size, 0, none⟩) 28 28].toArray 22 (0, 0)) := by rw [hu]; exact blk_new u21 _
              have hbb : Below (w5.heap.size + 1) u21 u22 := by rw [hu]; exact (below_alloc (B0 u21) _).mono hn54
              rw [← hu]
              refine hK.out _ _ (SW.step hHeld HG.out.1 hbb) (fun hHeld => ?_)
              clear hK K hbb hu
              exact wpAnyH_listed (by kernel_rfl) (suf _ _ ⟨u15.heap.size, z1.heap.size, u21.heap.size, rfl, hHeld, f49, f52, f54⟩)
            · simp only [List.getElem_toArray, List.getElem_cons_succ, List.getElem_cons_zero]
              rw [if_pos (by rfl)]
              go_simp
              obtain ⟨u23, hu⟩ : ∃ u, u = u20.alloc (.cells #[.slice (some ⟨z1.heap.size, 0, none⟩) 28 28] 22) := ⟨_, rfl⟩
              have ne52_54 : z1.heap.size ≠ u20.heap.size := Nat.ne_of_lt (blk_lt f52)
              have ne49_54 : u15.heap.size ≠ u20.heap.size := Nat.ne_of_lt (blk_lt f49)
              have hn54 : w5.heap.size + 1 ≤ u20.heap.size := arr_lt hHeld.2.2.2
              have f52 := blk_alloc f52 (.cells #[.slice (some ⟨z1.heap.size, 0, none⟩) 28 28] 22)
              rw [← hu] at f52
              have f49 := blk_alloc f49 (.cells #[.slice (some ⟨z1.heap.size, 0, none⟩) 28 28] 22)
              rw [← hu] at f49
              have f54 : u23.heap[u20.heap.size]? = some (.cells [.slice (some ⟨z1.heap.size, 0, none⟩) 28 28].toArray 22 (0, 0)) := by rw [hu]; exact blk_new u20 _
              have hbb : Below (w5.heap.size + 1) u20 u23 := by rw [hu]; exact (below_alloc (B0 u20) _).mono hn54
              rw [← hu]
              refine hK.out _ _ (SW.step hHeld HG.out.1 hbb) (fun hHeld => ?_)
              clear hK K hbb hu
              refine wpAnyH_ready (rs := [50]) (by kernel_rfl) (by simp) ?_
              refine AllReadyH.cons rfl (fun K hK => ?_) AllReadyH.nil
              simp only [List.getElem_toArray, List.getElem_cons_succ, List.getElem_cons_zero]
              rw [if_pos (by rfl)]
              have hcv := run_conv_at (P := Tryd.prog) (n := 4) (c := 4) Tryd.underlying22 Tryd.underlying5 f49
              obtain ⟨u24, hu⟩ : ∃ u, u = u23.freeze ⟨u15.heap.size, (nums .u8 JE).toArray.size, none⟩ 1 := ⟨_, rfl⟩
              rw [← hu] at hcv
              have f52 := freeze_other (n := (nums .u8 JE).toArray.size) f52 ne52_49
              rw [← hu] at f52
              have f54 := freeze_other (n := (nums .u8 JE).toArray.size) f54 (Ne.symm ne49_54)
              rw [← hu] at f54
              have f49 : u24.heap[u15.heap.size]? = some (.cells (nums .u8 JE).toArray 5 (4, 5)) := by rw [hu]; exact freeze_same f49
              have hbb : Below (w5.heap.size + 1) u23 u24 := by rw [hu]; exact freeze_below hn49
              clear hu
              go_simp
              refine hK.out _ _ (SW.step hHeld HG.out.1 hbb) (fun hHeld => ?_)
              clear hK K hbb hcv
              exact wpAnyH_listed (by kernel_rfl) (suf _ _ ⟨u15.heap.size, z1.heap.size, u20.heap.size, rfl, hHeld, f49, f52, f54⟩)
        · simp only [List.getElem_toArray, List.getElem_cons_succ, List.getElem_cons_zero]
          rw [if_pos (by rfl)]
          have hcv := run_conv_at (P := Tryd.prog) (n := 28) (c := 28) Tryd.underlying22 Tryd.underlying5 f52
          obtain ⟨u25, hu⟩ : ∃ u, u = u15.freeze ⟨z1.heap.size, (nums .u8 PP).toArray.size, none⟩ 1 := ⟨_, rfl⟩
          rw [← hu] at hcv
          have f52 : u25.heap[z1.heap.size]? = some (.cells (nums .u8 PP).toArray 5 (28, 29)) := by rw [hu]; exact freeze_same f52
          have hbb : Below (w5.heap.size + 1) u15 u25 := by rw [hu]; exact freeze_below hn52
          clear hu
          go_simp
          refine hK.out _ _ (SW.step hHeld HG.out.1 hbb) (fun hHeld => ?_)
          clear hK K hbb hcv
          refine wpAnyH_ready (rs := [49, 54]) (by kernel_rfl) (by simp) ?_
          refine AllReadyH.cons rfl (fun K hK => ?_) (AllReadyH.cons rfl (fun K hK => ?_) AllReadyH.nil)
          · simp only [List.getElem_toArray, List.getElem_cons_succ, List.getElem_cons_zero]
            rw [if_pos (by rfl)]
            go_simp
            obtain ⟨u26, hu⟩ : ∃ u, u = u25.alloc (.cells #[.int .u8 74, .int .u8 101, .int .u8 102, .int .u8 101] 5) := ⟨_, rfl⟩
            have ne52_49 : z1.heap.size ≠ u25.heap.size := Nat.ne_of_lt (blk_lt f52)
            have hn49 : w5.heap.size + 1 ≤ u25.heap.size := arr_lt hHeld.2.2.2
            have f52 := blk_alloc f52 (.cells #[.int .u8 74, .int .u8 101, .int .u8 102, .int .u8 101] 5)
            rw [← hu] at f52
            have f49 : u26.heap[u25.heap.size]? = some (.cells (nums .u8 JE).toArray 5 (0, 0)) := by rw [hu]; exact blk_new u25 _
            have hbb : Below (w5.heap.size + 1) u25 u26 := by rw [hu]; exact (below_alloc (B0 u25) _).mono hn49
            rw [← hu]
            refine hK.out _ _ (SW.step hHeld HG.out.1 hbb) (fun hHeld => ?_)
            clear hK K hbb hu
            refine wpAnyH_ready (rs := [50, 54]) (by kernel_rfl) (by simp) ?_
            refine AllReadyH.cons rfl (fun K hK => ?_) (AllReadyH.cons rfl (fun K hK => ?_) AllReadyH.nil)
            · simp only [List.getElem_toArray, List.getElem_cons_succ, List.getElem_cons_zero]
              rw [if_pos (by rfl)]
              have hcv := run_conv_at (P := Tryd.prog) (n := 4) (c := 4) Tryd.underlying22 Tryd.underlying5 f49
              obtain ⟨u27, hu⟩ : ∃ u, u = u26.freeze ⟨u25.heap.size, (nums .u8 JE).toArray.size, none⟩ 1 := ⟨_, rfl⟩
              rw [← hu] at hcv
              have f52 := freeze_other (n := (nums .u8 JE).toArray.size) f52 ne52_49
              rw [← hu] at f52
              have f49 : u27.heap[u25.heap.size]? = some (.cells (nums .u8 JE).toArray 5 (4, 5)) := by rw [hu]; exact freeze_same f49
              have hbb : Below (w5.heap.size + 1) u26 u27 := by rw [hu]; exact freeze_below hn49
              clear hu
              go_simp
              refine hK.out _ _ (SW.step hHeld HG.out.1 hbb) (fun hHeld => ?_)
              clear hK K hbb hcv
              refine wpAnyH_ready (rs := [54]) (by kernel_rfl) (by simp) ?_
              refine AllReadyH.cons rfl (fun K hK => ?_) AllReadyH.nil
              simp only [List.getElem_toArray, List.getElem_cons_succ, List.getElem_cons_zero]
              rw [if_pos (by rfl)]
              go_simp
              obtain ⟨u28, hu⟩ : ∃ u, u = u27.alloc (.cells #[.slice (some ⟨z1.heap.size, 0, none⟩) 28 28] 22) := ⟨_, rfl⟩
              have ne52_54 : z1.heap.size ≠ u27.heap.size := Nat.ne_of_lt (blk_lt f52)
              have ne49_54 : u25.heap.size ≠ u27.heap.size := Nat.ne_of_lt (blk_lt f49)
              have hn54 : w5.heap.size + 1 ≤ u27.heap.size := arr_lt hHeld.2.2.2
              have f52 := blk_alloc f52 (.cells #[.slice (some ⟨z1.heap.size, 0, none⟩) 28 28] 22)
              rw [← hu] at f52
              have f49 := blk_alloc f49 (.cells #[.slice (some ⟨z1.heap.size, 0, none⟩) 28 28] 22)
              rw [← hu] at f49
              have f54 : u28.heap[u27.heap.size]? = some (.cells [.slice (some ⟨z1.heap.size, 0, none⟩) 28 28].toArray 22 (0, 0)) := by rw [hu]; exact blk_new u27 _
              have hbb : Below (w5.heap.size + 1) u27 u28 := by rw [hu]; exact (below_alloc (B0 u27) _).mono hn54
              rw [← hu]
              refine hK.out _ _ (SW.step hHeld HG.out.1 hbb) (fun hHeld => ?_)
              clear hK K hbb hu
              exact wpAnyH_listed (by kernel_rfl) (suf _ _ ⟨u25.heap.size, z1.heap.size, u27.heap.size, rfl, hHeld, f49, f52, f54⟩)
            · simp only [List.getElem_toArray, List.getElem_cons_succ, List.getElem_cons_zero]
              rw [if_pos (by rfl)]
              go_simp
              obtain ⟨u29, hu⟩ : ∃ u, u = u26.alloc (.cells #[.slice (some ⟨z1.heap.size, 0, none⟩) 28 28] 22) := ⟨_, rfl⟩
              have ne52_54 : z1.heap.size ≠ u26.heap.size := Nat.ne_of_lt (blk_lt f52)
              have ne49_54 : u25.heap.size ≠ u26.heap.size := Nat.ne_of_lt (blk_lt f49)
              have hn54 : w5.heap.size + 1 ≤ u26.heap.size := arr_lt hHeld.2.2.2
              have f52 := blk_alloc f52 (.cells #[.slice (some ⟨z1.heap.size, 0, none⟩) 28 28] 22)
              rw [← hu] at f52
              have f49 := blk_alloc f49 (.cells #[.slice (some ⟨z1.heap.size, 0, none⟩) 28 28] 22)
              rw [← hu] at f49
              have f54 : u29.heap[u26.heap.size]? = some (.cells [.slice (some ⟨z1.heap.size, 0, none⟩) 28 28].toArray 22 (0, 0)) := by rw [hu]; exact blk_new u26 _
              have hbb : Below (w5.heap.size + 1) u26 u29 := by rw [hu]; exact (below_alloc (B0 u26) _).mono hn54
              rw [← hu]
              refine hK.out _ _ (SW.step hHeld HG.out.1 hbb) (fun hHeld => ?_)
              clear hK K hbb hu
              refine wpAnyH_ready (rs := [50]) (by kernel_rfl) (by simp) ?_
              refine AllReadyH.cons rfl (fun K hK => ?_) AllReadyH.nil
              simp only [List.getElem_toArray, List.getElem_cons_succ, List.getElem_cons_zero]
              rw [if_pos (by rfl)]
              have hcv := run_conv_at (P := Tryd.prog) (n := 4) (c := 4) Tryd.underlying22 Tryd.underlying5 f49
              obtain ⟨u30, hu⟩ : ∃ u, u = u29.freeze ⟨u25.heap.size, (nums .u8 JE).toArray.size, none⟩ 1 := ⟨_, rfl⟩
              rw [← hu] at hcv
              have f52 := freeze_other (n := (nums .u8 JE).toArray.size) f52 ne52_49
              rw [← hu] at f52
              have f54 := freeze_other (n := (nums .u8 JE).toArray.size) f54 (Ne.symm ne49_54)
              rw [← hu] at f54
              have f49 : u30.heap[u25.heap.size]? = some (.cells (nums .u8 JE).toArray 5 (4, 5)) := by rw [hu]; exact freeze_same f49
              have hbb : Below (w5.heap.size + 1) u29 u30 := by rw [hu]; exact freeze_below hn49
              clear hu
              go_simp
              refine hK.out _ _ (SW.step hHeld HG.out.1 hbb) (fun hHeld => ?_)
              clear hK K hbb hcv
              exact wpAnyH_listed (by kernel_rfl) (suf _ _ ⟨u25.heap.size, z1.heap.size, u26.heap.size, rfl, hHeld, f49, f52, f54⟩)
          · simp only [List.getElem_toArray, List.getElem_cons_succ, List.getElem_cons_zero]
            rw [if_pos (by rfl)]
            go_simp
            obtain ⟨u31, hu⟩ : ∃ u, u = u25.alloc (.cells #[.slice (some ⟨z1.heap.size, 0, none⟩) 28 28] 22) := ⟨_, rfl⟩
            have ne52_54 : z1.heap.size ≠ u25.heap.size := Nat.ne_of_lt (blk_lt f52)
            have hn54 : w5.heap.size + 1 ≤ u25.heap.size := arr_lt hHeld.2.2.2
            have f52 := blk_alloc f52 (.cells #[.slice (some ⟨z1.heap.size, 0, none⟩) 28 28] 22)
            rw [← hu] at f52
            have f54 : u31.heap[u25.heap.size]? = some (.cells [.slice (some ⟨z1.heap.size, 0, none⟩) 28 28].toArray 22 (0, 0)) := by rw [hu]; exact blk_new u25 _
            have hbb : Below (w5.heap.size + 1) u25 u31 := by rw [hu]; exact (below_alloc (B0 u25) _).mono hn54
            rw [← hu]
            refine hK.out _ _ (SW.step hHeld HG.out.1 hbb) (fun hHeld => ?_)
            clear hK K hbb hu
            refine wpAnyH_ready (rs := [49]) (by kernel_rfl) (by simp) ?_
            refine AllReadyH.cons rfl (fun K hK => ?_) AllReadyH.nil
            simp only [List.getElem_toArray, List.getElem_cons_succ, List.getElem_cons_zero]
            rw [if_pos (by rfl)]
            go_simp
            obtain ⟨u32, hu⟩ : ∃ u, u = u31.alloc (.cells #[.int .u8 74, .int .u8 101, .int .u8 102, .int .u8 101] 5) := ⟨_, rfl⟩
            have ne52_49 : z1.heap.size ≠ u31.heap.size := Nat.ne_of_lt (blk_lt f52)
            have ne54_49 : u25.heap.size ≠ u31.heap.size := Nat.ne_of_lt (blk_lt f54)
            have hn49 : w5.heap.size + 1 ≤ u31.heap.size := arr_lt hHeld.2.2.2
            have f52 := blk_alloc f52 (.cells #[.int .u8 74, .int .u8 101, .int .u8 102, .int .u8 101] 5)
            rw [← hu] at f52
            have f54 := blk_alloc f54 (.cells #[.int .u8 74, .int .u8 101, .int .u8 102, .int .u8 101] 5)
            rw [← hu] at f54
            have f49 : u32.heap[u31.heap.size]? = some (.cells (nums .u8 JE).toArray 5 (0, 0)) := by rw [hu]; exact blk_new u31 _
            have hbb : Below (w5.heap.size + 1) u31 u32 := by rw [hu]; exact (below_alloc (B0 u31) _).mono hn49
            rw [← hu]
            refine hK.out _ _ (SW.step hHeld HG.out.1 hbb) (fun hHeld => ?_)
            clear hK K hbb hu
            refine wpAnyH_ready (rs := [50]) (by kernel_rfl) (by simp) ?_
            refine AllReadyH.cons rfl (fun K hK => ?_) AllReadyH.nil
            simp only [List.getElem_toArray, List.getElem_cons_succ, List.getElem_cons_zero]
            rw [if_pos (by rfl)]
            have hcv := run_conv_at (P := Tryd.prog) (n := 4) (c := 4) Tryd.underlying22 Tryd.underlying5 f49
            obtain ⟨u33, hu⟩ : ∃ u, u = u32.freeze ⟨u31.heap.size, (nums .u8 JE).toArray.size, none⟩ 1 := ⟨_, rfl⟩
            rw [← hu] at hcv
            have f52 := freeze_other (n := (nums .u8 JE).toArray.size) f52 ne52_49
            rw [← hu] at f52
            have f54 := freeze_other (n := (nums .u8 JE).toArray.size) f54 ne54_49
            rw [← hu] at f54
            have f49 : u33.heap[u31.heap.size]? = some (.cells (nums .u8 JE).toArray 5 (4, 5)) := by rw [hu]; exact freeze_same f49
            have hbb : Below (w5.heap.size + 1) u32 u33 := by rw [hu]; exact freeze_below hn49
            clear hu
            go_simp
            refine hK.out _ _ (SW.step hHeld HG.out.1 hbb) (fun hHeld => ?_)
            clear hK K hbb hcv
            exact wpAnyH_listed (by kernel_rfl) (suf _ _ ⟨u31.heap.size, z1.heap.size, u25.heap.size, rfl, hHeld, f49, f52, f54⟩)
    case suf =>
      rintro a w' ⟨gA, gB, gC, rfl, hHeld, fA, fB, fC⟩
      subst ha2
      simp only [Act.put, List.setIfInBounds_toArray, List.set_cons_zero, List.set_cons_succ]
      have hkb := KB_list (xss := [PP]) fC rfl (by simp) (fun q v xs q1 q2 => by
        match q, q1, q2 with
        | 0, q1, q2 =>
          simp at q1 q2
          subst q1 q2
          exact ⟨_, 28, rfl, by decide, bytes_C fB (by decide)⟩
        | q + 1, q1, q2 => simp at q1)
      refine wpAnyH_ready (rs := [55]) (by kernel_rfl) (by simp) ?_
      refine AllReadyH.cons rfl (fun K hK => ?_) AllReadyH.nil
      simp only [List.getElem_toArray, List.getElem_cons_succ, List.getElem_cons_zero]
      rw [if_pos (by rfl)]
      go_simp
      refine (check_any _ _ JE ⟨_, 4, rfl, by decide, bytes_C fA (by decide)⟩ JE_byte (by decide) _ (MM.take 15) (hHeld.cut 15 (by decide)) (fun x hx => MM_byte x (List.mem_of_mem_take hx)) (by rw [List.length_take]; omega) _ 1 [PP] hkb (show 1 ≤ 1 by decide) (by decide) (by decide) (show 1 ≤ 4294960000 by decide) hHeld.1).mono ?_
      rintro e z2 ⟨rfl, hbb⟩
      rw [show cat [PP] = PP from rfl, chk15]
      refine hK.out _ _ (SW.big hHeld HG.out.1 hbb) (fun hHeld => ?_)
      clear hK K hbb hkb fA fB fC
      refine wpAnyH_take (i := 56) (v := .bool true) rfl (by kernel_rfl) (by kernel_rfl) (by kernel_rfl) (fun _ _ _ h => h) (Or.inl ⟨by rfl, ?hy56⟩) hHeld ?_
      case hy56 => intro w' hSw; go_simp
      simp only [List.getElem_toArray, List.getElem_cons_succ, List.getElem_cons_zero, Act.put, List.setIfInBounds_toArray, List.set_cons_zero, List.set_cons_succ]
      refine wpAnyH_take (i := 57) (v := .bool true) rfl (by kernel_rfl) (by kernel_rfl) (by kernel_rfl) (fun _ _ _ h => h) (Or.inl ⟨by rfl, ?hy57⟩) hHeld ?_
      case hy57 => intro w' hSw; go_simp
      simp only [List.getElem_toArray, List.getElem_cons_succ, List.getElem_cons_zero, Act.put, List.setIfInBounds_toArray, List.set_cons_zero, List.set_cons_succ]
      refine wpAnyH_take (i := 58) (v := .bool true) rfl (by kernel_rfl) (by kernel_rfl) (by kernel_rfl) (fun _ _ _ h => h) (Or.inl ⟨by rfl, ?hy58⟩) hHeld ?_
      case hy58 => intro w' hSw; go_simp
      simp only [List.getElem_toArray, List.getElem_cons_succ, List.getElem_cons_zero, Act.put, List.setIfInBounds_toArray, List.set_cons_zero, List.set_cons_succ]
      refine wpAnyH_done (by kernel_rfl) ?_ _
      have HBF := Aside0.mk hHeld.2.1
      clear hHeld
      go_wp2
      go_ret
      exact ⟨rfl, HBF.out⟩

end Go.Proofs.YthhckkfdcnddfaaDoor.HMacA
