/- awake of the laws of schemas: it returns true. -/
import Derived.Test.YtohimcpfmkgefaaDoorUSC
import Derived.Test.YtohimcpfmkgefaaDoorUSB
import Derived.Test.YtohimcpfmkgefaaDoorUSA
import Derived.Test.YtohimcpfmkgefaaDoorUO
namespace Go.Proofs.YtohimcpfmkgefaaDoor.HScK
open Go.RowKit Go.Proofs.YtohimcpfmkgefaaDoorW.PrintWords Go.Proofs.YtohimcpfmkgefaaDoor.HLib Go.Proofs.YtohimcpfmkgefaaDoor.HGr Go.Proofs.YtohimcpfmkgefaaDoor.HNameP Go.Proofs.YtohimcpfmkgefaaDoor.HName Go.Proofs.YtohimcpfmkgefaaDoor.HExP Go.Proofs.YtohimcpfmkgefaaDoor.HExL Go.Proofs.YtohimcpfmkgefaaDoor.HExF Go.Proofs.YtohimcpfmkgefaaDoor.HExM Go.Proofs.YtohimcpfmkgefaaDoor.HExN Go.Proofs.YtohimcpfmkgefaaDoor.HSc1 Go.Proofs.YtohimcpfmkgefaaDoor.HSc2 Go.Proofs.YtohimcpfmkgefaaDoor.HSc3 Go.Proofs.YtohimcpfmkgefaaDoor.HSc4 Go.Proofs.YtohimcpfmkgefaaDoor.HSc5 Go.Proofs.YtohimcpfmkgefaaDoor.HSc6 Go.Proofs.YtohimcpfmkgefaaDoor.HSc7 Go.Proofs.YtohimcpfmkgefaaDoor.HSc8 Go.Proofs.YtohimcpfmkgefaaDoor.HSc9
open Go.Proofs.YtohimcpfmkgefaaDoor.PSchemaAllows
set_option linter.unusedVariables false
set_option linter.unusedSimpArgs false
theorem chain8 (w : World) (a0_0 a0_1 : Value) (t0 : TypeId) (a1_0 a1_1 a1_2 a1_3 a1_4 a1_5 a1_6 : Value) (t1 : TypeId) (a2_0 a2_1 a2_2 a2_3 a2_4 a2_5 a2_6 : Value) (t2 : TypeId) (a3_0 a3_1 : Value) (t3 : TypeId) (a4_0 : Value) (t4 : TypeId) (a5_0 a5_1 a5_2 a5_3 a5_4 a5_5 a5_6 : Value) (t5 : TypeId) (a6_0 a6_1 : Value) (t6 : TypeId) (a7_0 : Value) (t7 : TypeId) :
    ∃ W, W = ((((((((w.alloc (.cells #[a0_0, a0_1] t0)).alloc (.cells #[a1_0, a1_1, a1_2, a1_3, a1_4, a1_5, a1_6] t1)).alloc (.cells #[a2_0, a2_1, a2_2, a2_3, a2_4, a2_5, a2_6] t2)).alloc (.cells #[a3_0, a3_1] t3)).alloc (.cells #[a4_0] t4)).alloc (.cells #[a5_0, a5_1, a5_2, a5_3, a5_4, a5_5, a5_6] t5)).alloc (.cells #[a6_0, a6_1] t6)).alloc (.cells #[a7_0] t7)) ∧ Below w.heap.size w W ∧ W.heap.size = w.heap.size + 1 + 1 + 1 + 1 + 1 + 1 + 1 + 1 ∧ W.heap[w.heap.size]? = some (.cells #[a0_0, a0_1] t0 (0, 0)) ∧ W.heap[w.heap.size + 1]? = some (.cells #[a1_0, a1_1, a1_2, a1_3, a1_4, a1_5, a1_6] t1 (0, 0)) ∧ W.heap[w.heap.size + 1 + 1]? = some (.cells #[a2_0, a2_1, a2_2, a2_3, a2_4, a2_5, a2_6] t2 (0, 0)) ∧ W.heap[w.heap.size + 1 + 1 + 1]? = some (.cells #[a3_0, a3_1] t3 (0, 0)) ∧ W.heap[w.heap.size + 1 + 1 + 1 + 1]? = some (.cells #[a4_0] t4 (0, 0)) ∧ W.heap[w.heap.size + 1 + 1 + 1 + 1 + 1]? = some (.cells #[a5_0, a5_1, a5_2, a5_3, a5_4, a5_5, a5_6] t5 (0, 0)) ∧ W.heap[w.heap.size + 1 + 1 + 1 + 1 + 1 + 1]? = some (.cells #[a6_0, a6_1] t6 (0, 0)) ∧ W.heap[w.heap.size + 1 + 1 + 1 + 1 + 1 + 1 + 1]? = some (.cells #[a7_0] t7 (0, 0)) := by
  obtain ⟨W0, h0⟩ : ∃ W, W = w.alloc (.cells #[a0_0, a0_1] t0) := ⟨_, rfl⟩
  have s0 : W0.heap.size = w.heap.size + 1 := by rw [h0, World.size_alloc]
  have b0 : Below w.heap.size w W0 := by rw [h0]; exact below_alloc (B0 w) _
  have k0_0 : W0.heap[w.heap.size]? = some (.cells #[a0_0, a0_1] t0 (0, 0)) := by
    have h := blk_new w (.cells #[a0_0, a0_1] t0)
    rw [h0]; exact h
  obtain ⟨W1, h1⟩ : ∃ W, W = W0.alloc (.cells #[a1_0, a1_1, a1_2, a1_3, a1_4, a1_5, a1_6] t1) := ⟨_, rfl⟩
  have s1 : W1.heap.size = w.heap.size + 1 + 1 := by rw [h1, World.size_alloc, s0]
  have b1 : Below w.heap.size w W1 := by rw [h1]; exact below_alloc b0 _
  have k1_1 : W1.heap[w.heap.size + 1]? = some (.cells #[a1_0, a1_1, a1_2, a1_3, a1_4, a1_5, a1_6] t1 (0, 0)) := by
    have h := blk_new W0 (.cells #[a1_0, a1_1, a1_2, a1_3, a1_4, a1_5, a1_6] t1)
    rw [s0] at h
    rw [h1]; exact h
  have k0_1 : W1.heap[w.heap.size]? = some (.cells #[a0_0, a0_1] t0 (0, 0)) := by rw [h1]; exact blk_alloc k0_0 _
  obtain ⟨W2, h2⟩ : ∃ W, W = W1.alloc (.cells #[a2_0, a2_1, a2_2, a2_3, a2_4, a2_5, a2_6] t2) := ⟨_, rfl⟩
  have s2 : W2.heap.size = w.heap.size + 1 + 1 + 1 := by rw [h2, World.size_alloc, s1]
  have b2 : Below w.heap.size w W2 := by rw [h2]; exact below_alloc b1 _
  have k2_2 : W2.heap[w.heap.size + 1 + 1]? = some (.cells #[a2_0, a2_1, a2_2, a2_3, a2_4, a2_5, a2_6] t2 (0, 0)) := by
    have h := blk_new W1 (.cells #[a2_0, a2_1, a2_2, a2_3, a2_4, a2_5, a2_6] t2)
    rw [s1] at h
    rw [h2]; exact h
  have k0_2 : W2.heap[w.heap.size]? = some (.cells #[a0_0, a0_1] t0 (0, 0)) := by rw [h2]; exact blk_alloc k0_1 _
  have k1_2 : W2.heap[w.heap.size + 1]? = some (.cells #[a1_0, a1_1, a1_2, a1_3, a1_4, a1_5, a1_6] t1 (0, 0)) := by rw [h2]; exact blk_alloc k1_1 _
  obtain ⟨W3, h3⟩ : ∃ W, W = W2.alloc (.cells #[a3_0, a3_1] t3) := ⟨_, rfl⟩
  have s3 : W3.heap.size = w.heap.size + 1 + 1 + 1 + 1 := by rw [h3, World.size_alloc, s2]
  have b3 : Below w.heap.size w W3 := by rw [h3]; exact below_alloc b2 _
  have k3_3 : W3.heap[w.heap.size + 1 + 1 + 1]? = some (.cells #[a3_0, a3_1] t3 (0, 0)) := by
    have h := blk_new W2 (.cells #[a3_0, a3_1] t3)
    rw [s2] at h
    rw [h3]; exact h
  have k0_3 : W3.heap[w.heap.size]? = some (.cells #[a0_0, a0_1] t0 (0, 0)) := by rw [h3]; exact blk_alloc k0_2 _
  have k1_3 : W3.heap[w.heap.size + 1]? = some (.cells #[a1_0, a1_1, a1_2, a1_3, a1_4, a1_5, a1_6] t1 (0, 0)) := by rw [h3]; exact blk_alloc k1_2 _
  have k2_3 : W3.heap[w.heap.size + 1 + 1]? = some (.cells #[a2_0, a2_1, a2_2, a2_3, a2_4, a2_5, a2_6] t2 (0, 0)) := by rw [h3]; exact blk_alloc k2_2 _
  obtain ⟨W4, h4⟩ : ∃ W, W = W3.alloc (.cells #[a4_0] t4) := ⟨_, rfl⟩
  have s4 : W4.heap.size = w.heap.size + 1 + 1 + 1 + 1 + 1 := by rw [h4, World.size_alloc, s3]
  have b4 : Below w.heap.size w W4 := by rw [h4]; exact below_alloc b3 _
  have k4_4 : W4.heap[w.heap.size + 1 + 1 + 1 + 1]? = some (.cells #[a4_0] t4 (0, 0)) := by
    have h := blk_new W3 (.cells #[a4_0] t4)
    rw [s3] at h
    rw [h4]; exact h
  have k0_4 : W4.heap[w.heap.size]? = some (.cells #[a0_0, a0_1] t0 (0, 0)) := by rw [h4]; exact blk_alloc k0_3 _
  have k1_4 : W4.heap[w.heap.size + 1]? = some (.cells #[a1_0, a1_1, a1_2, a1_3, a1_4, a1_5, a1_6] t1 (0, 0)) := by rw [h4]; exact blk_alloc k1_3 _
  have k2_4 : W4.heap[w.heap.size + 1 + 1]? = some (.cells #[a2_0, a2_1, a2_2, a2_3, a2_4, a2_5, a2_6] t2 (0, 0)) := by rw [h4]; exact blk_alloc k2_3 _
  have k3_4 : W4.heap[w.heap.size + 1 + 1 + 1]? = some (.cells #[a3_0, a3_1] t3 (0, 0)) := by rw [h4]; exact blk_alloc k3_3 _
  obtain ⟨W5, h5⟩ : ∃ W, W = W4.alloc (.cells #[a5_0, a5_1, a5_2, a5_3, a5_4, a5_5, a5_6] t5) := ⟨_, rfl⟩
  have s5 : W5.heap.size = w.heap.size + 1 + 1 + 1 + 1 + 1 + 1 := by rw [h5, World.size_alloc, s4]
  have b5 : Below w.heap.size w W5 := by rw [h5]; exact below_alloc b4 _
  have k5_5 : W5.heap[w.heap.size + 1 + 1 + 1 + 1 + 1]? = some (.cells #[a5_0, a5_1, a5_2, a5_3, a5_4, a5_5, a5_6] t5 (0, 0)) := by
    have h := blk_new W4 (.cells #[a5_0, a5_1, a5_2, a5_3, a5_4, a5_5, a5_6] t5)
    rw [s4] at h
    rw [h5]; exact h
  have k0_5 : W5.heap[w.heap.size]? = some (.cells #[a0_0, a0_1] t0 (0, 0)) := by rw [h5]; exact blk_alloc k0_4 _
  have k1_5 : W5.heap[w.heap.size + 1]? = some (.cells #[a1_0, a1_1, a1_2, a1_3, a1_4, a1_5, a1_6] t1 (0, 0)) := by rw [h5]; exact blk_alloc k1_4 _
  have k2_5 : W5.heap[w.heap.size + 1 + 1]? = some (.cells #[a2_0, a2_1, a2_2, a2_3, a2_4, a2_5, a2_6] t2 (0, 0)) := by rw [h5]; exact blk_alloc k2_4 _
  have k3_5 : W5.heap[w.heap.size + 1 + 1 + 1]? = some (.cells #[a3_0, a3_1] t3 (0, 0)) := by rw [h5]; exact blk_alloc k3_4 _
  have k4_5 : W5.heap[w.heap.size + 1 + 1 + 1 + 1]? = some (.cells #[a4_0] t4 (0, 0)) := by rw [h5]; exact blk_alloc k4_4 _
  obtain ⟨W6, h6⟩ : ∃ W, W = W5.alloc (.cells #[a6_0, a6_1] t6) := ⟨_, rfl⟩
  have s6 : W6.heap.size = w.heap.size + 1 + 1 + 1 + 1 + 1 + 1 + 1 := by rw [h6, World.size_alloc, s5]
  have b6 : Below w.heap.size w W6 := by rw [h6]; exact below_alloc b5 _
  have k6_6 : W6.heap[w.heap.size + 1 + 1 + 1 + 1 + 1 + 1]? = some (.cells #[a6_0, a6_1] t6 (0, 0)) := by
    have h := blk_new W5 (.cells #[a6_0, a6_1] t6)
    rw [s5] at h
    rw [h6]; exact h
  have k0_6 : W6.heap[w.heap.size]? = some (.cells #[a0_0, a0_1] t0 (0, 0)) := by rw [h6]; exact blk_alloc k0_5 _
  have k1_6 : W6.heap[w.heap.size + 1]? = some (.cells #[a1_0, a1_1, a1_2, a1_3, a1_4, a1_5, a1_6] t1 (0, 0)) := by rw [h6]; exact blk_alloc k1_5 _
  have k2_6 : W6.heap[w.heap.size + 1 + 1]? = some (.cells #[a2_0, a2_1, a2_2, a2_3, a2_4, a2_5, a2_6] t2 (0, 0)) := by rw [h6]; exact blk_alloc k2_5 _
  have k3_6 : W6.heap[w.heap.size + 1 + 1 + 1]? = some (.cells #[a3_0, a3_1] t3 (0, 0)) := by rw [h6]; exact blk_alloc k3_5 _
  have k4_6 : W6.heap[w.heap.size + 1 + 1 + 1 + 1]? = some (.cells #[a4_0] t4 (0, 0)) := by rw [h6]; exact blk_alloc k4_5 _
  have k5_6 : W6.heap[w.heap.size + 1 + 1 + 1 + 1 + 1]? = some (.cells #[a5_0, a5_1, a5_2, a5_3, a5_4, a5_5, a5_6] t5 (0, 0)) := by rw [h6]; exact blk_alloc k5_5 _
  obtain ⟨W7, h7⟩ : ∃ W, W = W6.alloc (.cells #[a7_0] t7) := ⟨_, rfl⟩
  have s7 : W7.heap.size = w.heap.size + 1 + 1 + 1 + 1 + 1 + 1 + 1 + 1 := by rw [h7, World.size_alloc, s6]
  have b7 : Below w.heap.size w W7 := by rw [h7]; exact below_alloc b6 _
  have k7_7 : W7.heap[w.heap.size + 1 + 1 + 1 + 1 + 1 + 1 + 1]? = some (.cells #[a7_0] t7 (0, 0)) := by
    have h := blk_new W6 (.cells #[a7_0] t7)
    rw [s6] at h
    rw [h7]; exact h
  have k0_7 : W7.heap[w.heap.size]? = some (.cells #[a0_0, a0_1] t0 (0, 0)) := by rw [h7]; exact blk_alloc k0_6 _
  have k1_7 : W7.heap[w.heap.size + 1]? = some (.cells #[a1_0, a1_1, a1_2, a1_3, a1_4, a1_5, a1_6] t1 (0, 0)) := by rw [h7]; exact blk_alloc k1_6 _
  have k2_7 : W7.heap[w.heap.size + 1 + 1]? = some (.cells #[a2_0, a2_1, a2_2, a2_3, a2_4, a2_5, a2_6] t2 (0, 0)) := by rw [h7]; exact blk_alloc k2_6 _
  have k3_7 : W7.heap[w.heap.size + 1 + 1 + 1]? = some (.cells #[a3_0, a3_1] t3 (0, 0)) := by rw [h7]; exact blk_alloc k3_6 _
  have k4_7 : W7.heap[w.heap.size + 1 + 1 + 1 + 1]? = some (.cells #[a4_0] t4 (0, 0)) := by rw [h7]; exact blk_alloc k4_6 _
  have k5_7 : W7.heap[w.heap.size + 1 + 1 + 1 + 1 + 1]? = some (.cells #[a5_0, a5_1, a5_2, a5_3, a5_4, a5_5, a5_6] t5 (0, 0)) := by rw [h7]; exact blk_alloc k5_6 _
  have k6_7 : W7.heap[w.heap.size + 1 + 1 + 1 + 1 + 1 + 1]? = some (.cells #[a6_0, a6_1] t6 (0, 0)) := by rw [h7]; exact blk_alloc k6_6 _
  refine ⟨W7, by rw [h7, h6, h5, h4, h3, h2, h1, h0], b7, s7, k0_7, k1_7, k2_7, k3_7, k4_7, k5_7, k6_7, k7_7⟩
theorem eqIn_func {P : Program} {t : TypeId} {ps rs : Array TypeId} {vr : Bool} (ht : P.underlying t = some (.func ps rs vr)) (d : Nat) (f : Fn) (lb : Array Value) (w : World) : (Op.equalIn (d + 1) t (.func f #[] lb) .nilFunc).run P w = .ok false w := by
  simp [Op.equalIn, run_underlying ht, Result.andThen]
theorem neq_func {P : Program} {t : TypeId} {ps rs : Array TypeId} {vr : Bool} (ht : P.underlying t = some (.func ps rs vr)) (f : Fn) (lb : Array Value) (w : World) : (binOp .neq t (.func f #[] lb) .nilFunc).run P w = .ok (.bool true) w := by
  have h := eqIn_func ht 9999 f lb w
  simp only [binOp]
  simp [Op.equal, Op.maxDepth, h, Result.andThen]
theorem load_m {W : World} {g : Nat} {a b c d e f h : Value} (k : W.heap[g]? = some (.cells #[a, b, c, d, e, f, h] 27 (0, 0))) (ha : ∃ s, a = .string s) (hb : ∃ i, b = .int .i64 i) (hc : ∃ A n m, c = .slice A n m) (hd : ∃ i, d = .int .i64 i) (he : ∃ s, e = .string s) (hf : ∃ s, f = .string s) (hh : ∃ A n m, h = .slice A n m) :
    (Instr.loadAt 27 (.pointer (some ⟨g, 0, none⟩))).run Tryd.prog W = .ok (.agg #[a, b, c, d, e, f, h]) W := by
  obtain ⟨s0, rfl⟩ := ha
  obtain ⟨s1, rfl⟩ := hb
  obtain ⟨A2, n2, m2, rfl⟩ := hc
  obtain ⟨s3, rfl⟩ := hd
  obtain ⟨s4, rfl⟩ := he
  obtain ⟨s5, rfl⟩ := hf
  obtain ⟨A6, n6, m6, rfl⟩ := hh
  obtain ⟨c0, c1, c2, c3, c4, c5, c6⟩ := cells7 k
  go_simp
theorem load_s {W : World} {g : Nat} {A : Option Addr} {n m : Nat} (k : W.heap[g]? = some (.cells #[.slice A n m] 37 (0, 0))) :
    (Instr.loadAt 37 (.pointer (some ⟨g, 0, none⟩))).run Tryd.prog W = .ok (.agg #[.slice A n m]) W := by
  have c0 := (blk_cell k 0).trans rfl
  dsimp at c0
  go_simp
theorem row_one {w : World} {g : Nat} {a b : ByteArray} {t : TypeId} (h : w.heap[g]? = some (.cells #[.string a, .string b] t (0, 0))) : Kd.C kA w (some ⟨g, 0, none⟩) 1 [⟨a, b⟩] := by
  refine ⟨rfl, by decide, fun _ => ⟨_, rfl, fun j p hj => ?_⟩⟩
  have hcell : ∀ i, w.cell? ⟨g, i, none⟩ = ([.string a, .string b] : List Value)[i]? := fun i => (blk_cell h i).trans (by simp)
  match j, hj with
  | 0, hj =>
    obtain rfl : (⟨a, b⟩ : Al) = p := by simpa using hj
    refine ⟨[.string a, .string b], rfl, k29_mk w ⟨a, b⟩, fun i u hu => ?_⟩
    rw [add_plain, hcell]
    rw [show 0 * kA.sz + i = i from by omega]
    exact hu
  | j + 1, hj => simp at hj
set_option maxRecDepth 100000 in
set_option maxHeartbeats 8000000 in
theorem awake_any (w : World) (hG : ResG w) : Calls Tryd.prog 4 #[] w fun e w' => e = .returned (.bool true) ∧ Below w.heap.size w w' := by
  obtain ⟨W, hW, hb, hsz, k0, k1, k2, k3, k4, k5, k6, k7⟩ := chain8 w (.string ⟨#[117, 115, 101, 114]⟩) (.string ⟨#[]⟩) 29
    (.string ⟨#[97]⟩) (.int .i64 1) (.slice (some ⟨w.heap.size, 0, none⟩) 1 1) (.int .i64 0) (.string ⟨#[]⟩) (.string ⟨#[]⟩) (.slice none 0 0) 27
    (.string ⟨#[97]⟩) (.int .i64 1) (.slice (some ⟨w.heap.size, 0, none⟩) 1 1) (.int .i64 0) (.string ⟨#[]⟩) (.string ⟨#[]⟩) (.slice none 0 0) 27
    (.string ⟨#[100]⟩) (.slice (some ⟨w.heap.size + 1 + 1, 0, none⟩) 1 1) 34
    (.slice (some ⟨w.heap.size + 1 + 1 + 1, 0, none⟩) 1 1) 37
    (.string ⟨#[97]⟩) (.int .i64 1) (.slice none 0 0) (.int .i64 0) (.string ⟨#[]⟩) (.string ⟨#[]⟩) (.slice none 0 0) 27
    (.string ⟨#[100]⟩) (.slice (some ⟨w.heap.size + 1 + 1 + 1 + 1 + 1, 0, none⟩) 1 1) 34
    (.slice (some ⟨w.heap.size + 1 + 1 + 1 + 1 + 1 + 1, 0, none⟩) 1 1) 37
  obtain ⟨gt, hgt⟩ : ∃ g, g = w.heap.size := ⟨_, rfl⟩
  rw [← hgt] at k0 k1 k2 k3 k4 k5 k6 k7
  have hsc : Sc W (gt + 1 + 1 + 1) (gt + 1 + 1) (.slice (some ⟨gt, 0, none⟩) 1 1) := by
    obtain ⟨m0, m1, m2, m3, m4, m5, m6⟩ := cells7 k2
    obtain ⟨d0, d1⟩ := cells2 k3
    exact ⟨d0, d1, m0, m1, m2, m3, m4, m5, m6⟩
  have hsb : Sc W (gt + 1 + 1 + 1 + 1 + 1 + 1) (gt + 1 + 1 + 1 + 1 + 1) (.slice none 0 0) := by
    obtain ⟨m0, m1, m2, m3, m4, m5, m6⟩ := cells7 k5
    obtain ⟨d0, d1⟩ := cells2 k6
    exact ⟨d0, d1, m0, m1, m2, m3, m4, m5, m6⟩
  have hty : Ty W gt := by
    obtain ⟨t0, t1⟩ := cells2 k0
    exact ⟨t0, t1⟩
  have HK := Aside0.mk (And.intro k0 (And.intro k1 (And.intro k4 k7)))
  have HS := Aside0.mk (And.intro hsc (And.intro hsb hty))
  have HB := Aside0.mk hb
  have HG := Aside0.mk (show ∀ W', Below W.heap.size W W' → ResG W' from fun W' h => hG.below (below_then hb hb.size h) hG.1)
  have HW := Aside0.mk (And.intro hW hgt)
  have c4 := (blk_cell k4 0).trans rfl
  have HC4 := Aside0.mk c4
  have hmm := member_a (gt + 1 + 1 + 1) (gt + 1 + 1) gt (some ⟨gt, 0, none⟩) 1 1
  have HMA := Aside0.mk (show ∀ W', Below W.heap.size W W' → _ from fun W' h => member_a (gt + 1 + 1 + 1) (gt + 1 + 1) gt (some ⟨gt, 0, none⟩) 1 1 W' (hsc.below h))
  have HMB := Aside0.mk (show ∀ W', Below W.heap.size W W' → _ from fun W' h => member_b (gt + 1 + 1 + 1) (gt + 1 + 1) gt (some ⟨gt, 0, none⟩) 1 1 W' (hsc.below h))
  have HCT := Aside0.mk (show ∀ W', Below W.heap.size W W' → _ from fun W' h => count_any (gt + 1 + 1 + 1) (gt + 1 + 1) (some ⟨gt, 0, none⟩) 1 1 W' (hsc.below h))
  dsimp at c4
  clear hmm k0 k1 k2 k3 k4 k5 k6 k7 hsc hsb hty hW hgt hG hb hsz
  go_enter Tryd.func4, Tryd.ntmps4
  go_upto_region 4 with fail
  rw [← HW.out.1, ← HW.out.2]
  clear HW
  have HB0 := Aside0.mk (B0 W)
  go_upto_region 5 with (go_at_call 6; refine (HMA.out _ HB0.out).mono ?_; rintro e W1 ⟨rfl, h1⟩; have HB1 := Aside0.mk (below_then HB0.out HB0.out.size h1); clear h1 c4)
  obtain ⟨W1a, hWa⟩ : ∃ X, X = W1.alloc (.cells #[.string ⟨#[97]⟩, .int .i64 1, .slice (some ⟨gt, 0, none⟩) 1 1, .int .i64 0, .string ⟨#[]⟩, .string ⟨#[]⟩, .slice none 0 0] 27) := ⟨_, rfl⟩
  have hx0 : W1a.heap[W1.heap.size]? = some (.cells #[.string ⟨#[97]⟩, .int .i64 1, .slice (some ⟨gt, 0, none⟩) 1 1, .int .i64 0, .string ⟨#[]⟩, .string ⟨#[]⟩, .slice none 0 0] 27 (0, 0)) := by rw [hWa]; exact blk_new W1 _
  have hBa : Below W.heap.size W W1a := by rw [hWa]; exact HB1.out.alloc HB1.out.size _
  obtain ⟨gx, hgx⟩ : ∃ g, g = W1.heap.size := ⟨_, rfl⟩
  rw [← hgx] at hx0
  have HX := Aside0.mk hx0
  have HBA := Aside0.mk hBa
  rw [← hWa, ← hgx]
  have c4 := (hBa.cell (p := ⟨gt + 1 + 1 + 1 + 1, 0, none⟩) (cell_lt HC4.out)).trans HC4.out
  dsimp at c4
  clear hWa hgx hx0 hBa HB1
  go_upto_region 6 with (go_at_call 6; refine (HMB.out _ HBA.out).mono ?_; rintro e W2 ⟨rfl, h1⟩; have HB2 := Aside0.mk h1; clear h1 c4)
  obtain ⟨W2a, hWa⟩ : ∃ X, X = W2.alloc (.cells #[.string ⟨#[]⟩, .int .i64 0, .slice none 0 0, .int .i64 0, .string ⟨#[]⟩, .string ⟨#[]⟩, .slice none 0 0] 27) := ⟨_, rfl⟩
  have hBb : Below W1a.heap.size W1a W2a := by rw [hWa]; exact HB2.out.alloc HB2.out.size _
  have HX2 := Aside0.mk (blk_below HX.out hBb)
  have HBB := Aside0.mk (below_then HBA.out HBA.out.size hBb)
  rw [← hWa]
  have c4 := (HBB.out.cell (p := ⟨gt + 1 + 1 + 1 + 1, 0, none⟩) (cell_lt HC4.out)).trans HC4.out
  dsimp at c4
  clear hWa hBb HB2 HX HBA
  go_upto_region 7 with (go_at_call 7; refine (HCT.out _ HBB.out).mono ?_; rintro e W3 ⟨rfl, h1⟩; have HB3 := Aside0.mk (below_then HBB.out HBB.out.size h1); have HX3 := Aside0.mk (blk_below HX2.out h1); clear h1 c4 HBB HX2)
  have hS3 := HS.out.1.below HB3.out
  have hSb3 := HS.out.2.1.below HB3.out
  have hT3 := HS.out.2.2.below HB3.out
  have hK3 : Kd.C kA W3 (some ⟨gt, 0, none⟩) 1 [al] := row_one (blk_below HK.out.1 HB3.out)
  have k1 := blk_below HK.out.2.1 HB3.out
  have k4 := blk_below HK.out.2.2.1 HB3.out
  have k7 := blk_below HK.out.2.2.2 HB3.out
  have HG3 := Aside0.mk (show ∀ W', Below W3.heap.size W3 W' → ResG W' from fun W' h => HG.out W' (below_then HB3.out HB3.out.size h))
  have HLS := Aside0.mk (show ∀ W', Below W3.heap.size W3 W' → (Instr.loadAt 37 (.pointer (some ⟨gt + 1 + 1 + 1 + 1, 0, none⟩))).run Tryd.prog W' = .ok (.agg #[.slice (some ⟨gt + 1 + 1 + 1, 0, none⟩) 1 1]) W' from fun W' h => load_s (blk_below k4 h))
  have HLB := Aside0.mk (show ∀ W', Below W3.heap.size W3 W' → (Instr.loadAt 37 (.pointer (some ⟨gt + 1 + 1 + 1 + 1 + 1 + 1 + 1, 0, none⟩))).run Tryd.prog W' = .ok (.agg #[.slice (some ⟨gt + 1 + 1 + 1 + 1 + 1 + 1, 0, none⟩) 1 1]) W' from fun W' h => load_s (blk_below k7 h))
  have HLM := Aside0.mk (show ∀ W', Below W3.heap.size W3 W' → (Instr.loadAt 27 (.pointer (some ⟨gt + 1, 0, none⟩))).run Tryd.prog W' = .ok (.agg #[.string ⟨#[97]⟩, .int .i64 1, .slice (some ⟨gt, 0, none⟩) 1 1, .int .i64 0, .string ⟨#[]⟩, .string ⟨#[]⟩, .slice none 0 0]) W' from fun W' h => load_m (blk_below k1 h) ⟨_, rfl⟩ ⟨_, rfl⟩ ⟨_, _, _, rfl⟩ ⟨_, rfl⟩ ⟨_, rfl⟩ ⟨_, rfl⟩ ⟨_, _, _, rfl⟩)
  have HLX := Aside0.mk (show ∀ W', Below W3.heap.size W3 W' → (Instr.loadAt 27 (.pointer (some ⟨gx, 0, none⟩))).run Tryd.prog W' = .ok (.agg #[.string ⟨#[97]⟩, .int .i64 1, .slice (some ⟨gt, 0, none⟩) 1 1, .int .i64 0, .string ⟨#[]⟩, .string ⟨#[]⟩, .slice none 0 0]) W' from fun W' h => load_m (blk_below HX3.out h) ⟨_, rfl⟩ ⟨_, rfl⟩ ⟨_, _, _, rfl⟩ ⟨_, rfl⟩ ⟨_, rfl⟩ ⟨_, rfl⟩ ⟨_, _, _, rfl⟩)
  have HFG := Aside0.mk (show ∀ W', Below W3.heap.size W3 W' → Calls Tryd.prog 8 #[.agg #[.slice (some ⟨gt + 1 + 1 + 1, 0, none⟩) 1 1]] W' fun e w' => e = .returned (.bool true) ∧ Below W'.heap.size W' w' from fun W' h =>
    form_any (gt + 1 + 1 + 1) (gt + 1 + 1) (some ⟨gt, 0, none⟩) 1 1 true W' (HG3.out W' h) (hS3.below h) (fun W1 h1 => memb_good gt W1 (HG3.out W1 (below_then h h.size h1)) ((hT3.below h).below h1)))
  have HFB := Aside0.mk (show ∀ W', Below W3.heap.size W3 W' → Calls Tryd.prog 8 #[.agg #[.slice (some ⟨gt + 1 + 1 + 1 + 1 + 1 + 1, 0, none⟩) 1 1]] W' fun e w' => e = .returned (.bool false) ∧ Below W'.heap.size W' w' from fun W' h =>
    form_any (gt + 1 + 1 + 1 + 1 + 1 + 1) (gt + 1 + 1 + 1 + 1 + 1) none 0 0 false W' (HG3.out W' h) (hSb3.below h) (fun W1 h1 => memb_bad W1 (HG3.out W1 (below_then h h.size h1))))
  have HSM := Aside0.mk (show ∀ W', Below W3.heap.size W3 W' → _ from fun W' h => same_m gt gt none 0 W' (hT3.below h) (hT3.below h) (x0_rd W'))
  have HCL := Aside0.mk (show ∀ W', Below W3.heap.size W3 W' → Calls Tryd.prog 11 #[.agg #[.slice (some ⟨gt + 1 + 1 + 1, 0, none⟩) 1 1]] W' fun e w' => ∃ A c, e = .returned (.agg #[.slice A 1 c]) ∧ Kd.C kD w' A 1 [dV] ∧ Below W'.heap.size W' w' from fun W' h =>
    (clone_s (gt + 1 + 1 + 1) (gt + 1 + 1) gt W' (hS3.below h) (Kd.C_below hK3 h)).mono fun e w' ⟨v, h1, h2, h3⟩ => by
      obtain ⟨A, c, rfl, -, hC⟩ := Kd.R_reads h2
      exact ⟨A, c, h1, hC, h3⟩)
  have HSS := Aside0.mk (show ∀ W' A c, Below W3.heap.size W3 W' → Kd.C kD W' A 1 [dV] → Calls Tryd.prog 10 #[.agg #[.slice A 1 c], .agg #[.slice (some ⟨gt + 1 + 1 + 1, 0, none⟩) 1 1]] W' fun e w' => e = .returned (.bool true) ∧ Below W'.heap.size W' w' from fun W' A c h hC => same_s A c (gt + 1 + 1 + 1) (gt + 1 + 1) gt W' hC (hS3.below h) (hT3.below h))
  have HMS := Aside0.mk (show ∀ W', Calls Tryd.prog 12 #[.agg #[.slice (some ⟨gt + 1 + 1 + 1, 0, none⟩) 1 1]] W' fun e w' => ∃ f lb, e = .returned (.func (.func f) #[] lb) ∧ Below W'.heap.size W' w' from fun W' =>
    (members_any (gt + 1 + 1 + 1) W').mono fun e w' ⟨h1, h2⟩ => ⟨_, _, h1, by rw [h2]; exact below_alloc (B0 W') _⟩)
  have HAL := Aside0.mk (show ∀ W', Below W3.heap.size W3 W' → Calls Tryd.prog 5 #[.agg #[.string ⟨#[97]⟩, .int .i64 1, .slice (some ⟨gt, 0, none⟩) 1 1, .int .i64 0, .string ⟨#[]⟩, .string ⟨#[]⟩, .slice none 0 0], .agg #[.string ⟨#[117, 115, 101, 114]⟩, .string ⟨#[]⟩]] W' fun e w' => e = .returned (.bool true) ∧ Below W'.heap.size W' w' from fun W' h => by
    have := allows_any mV al (some ⟨gt, 0, none⟩) none 1 0 W' (by decide) (Kd.C_below hK3 h)
    rw [show allowsP mV al = true from by decide +kernel] at this
    exact this)
  clear hS3 hSb3 hT3 hK3 k1 k4 k7

  refine wp_region_held_drew (S := fun w' => Below W3.heap.size W3 w') (by kernel_rfl) (pw_below_drewN (B0 W3) 1) (fun hHeld => ?_)
  refine wpAnyH_take (i := 0) (v := (.agg #[.slice (some ⟨gt + 1 + 1 + 1, 0, none⟩) 1 1])) rfl (by kernel_rfl) (by kernel_rfl) (by kernel_rfl) (fun _ _ _ h => h) (yieldsIf_load (by rfl) 37 (.tmp 2) rfl (.agg #[.slice (some ⟨gt + 1 + 1 + 1, 0, none⟩) 1 1]) (fun w' h => HLS.out w' h)) hHeld ?_
  simp only [List.getElem_toArray, List.getElem_cons_succ, List.getElem_cons_zero, Act.put, List.setIfInBounds_toArray, List.set_cons_zero, List.set_cons_succ]
  refine wpAnyH_ready (rs := [1]) (by kernel_rfl) (by simp) ?_
  refine AllReadyH.cons rfl (fun K hK => ?_) AllReadyH.nil
  simp only [List.getElem_toArray, List.getElem_cons_succ, List.getElem_cons_zero]
  rw [if_pos (by rfl)]
  go_simp
  refine (HFG.out _ hHeld).mono ?_
  rintro e_ y1 ⟨rfl, hb⟩
  refine hK.out _ _ (below_step hHeld hb) (fun hHeld => ?_)
  clear hK K
  refine wpAnyH_take (i := 2) (v := .bool true) rfl (by kernel_rfl) (by kernel_rfl) (by kernel_rfl) (fun _ _ _ h => h) (Or.inl ⟨by rfl, ?hy2⟩) hHeld ?_
  case hy2 => intro w' hSw; go_simp
  simp only [List.getElem_toArray, List.getElem_cons_succ, List.getElem_cons_zero, Act.put, List.setIfInBounds_toArray, List.set_cons_zero, List.set_cons_succ]
  refine wpAnyH_take (i := 3) (v := (.agg #[.slice (some ⟨gt + 1 + 1 + 1 + 1 + 1 + 1, 0, none⟩) 1 1])) rfl (by kernel_rfl) (by kernel_rfl) (by kernel_rfl) (fun _ _ _ h => h) (yieldsIf_load (by rfl) 37 (.tmp 3) rfl (.agg #[.slice (some ⟨gt + 1 + 1 + 1 + 1 + 1 + 1, 0, none⟩) 1 1]) (fun w' h => HLB.out w' h)) hHeld ?_
  simp only [List.getElem_toArray, List.getElem_cons_succ, List.getElem_cons_zero, Act.put, List.setIfInBounds_toArray, List.set_cons_zero, List.set_cons_succ]
  refine wpAnyH_ready (rs := [4]) (by kernel_rfl) (by simp) ?_
  refine AllReadyH.cons rfl (fun K hK => ?_) AllReadyH.nil
  simp only [List.getElem_toArray, List.getElem_cons_succ, List.getElem_cons_zero]
  rw [if_pos (by rfl)]
  go_simp
  refine (HFB.out _ hHeld).mono ?_
  rintro e_ y2 ⟨rfl, hb⟩
  refine hK.out _ _ (below_step hHeld hb) (fun hHeld => ?_)
  clear hK K
  refine wpAnyH_take (i := 5) (v := .bool true) rfl (by kernel_rfl) (by kernel_rfl) (by kernel_rfl) (fun _ _ _ h => h) (Or.inl ⟨by rfl, ?hy5⟩) hHeld ?_
  case hy5 => intro w' hSw; go_simp
  simp only [List.getElem_toArray, List.getElem_cons_succ, List.getElem_cons_zero, Act.put, List.setIfInBounds_toArray, List.set_cons_zero, List.set_cons_succ]
  refine wpAnyH_take (i := 6) (v := .bool true) rfl (by kernel_rfl) (by kernel_rfl) (by kernel_rfl) (fun _ _ _ h => h) (Or.inl ⟨by rfl, ?hy6⟩) hHeld ?_
  case hy6 => intro w' hSw; go_simp
  simp only [List.getElem_toArray, List.getElem_cons_succ, List.getElem_cons_zero, Act.put, List.setIfInBounds_toArray, List.set_cons_zero, List.set_cons_succ]
  refine wpAnyH_take (i := 7) (v := .bool true) rfl (by kernel_rfl) (by kernel_rfl) (by kernel_rfl) (fun _ _ _ h => h) (Or.inl ⟨by rfl, ?hy7⟩) hHeld ?_
  case hy7 => intro w' hSw; go_simp
  simp only [List.getElem_toArray, List.getElem_cons_succ, List.getElem_cons_zero, Act.put, List.setIfInBounds_toArray, List.set_cons_zero, List.set_cons_succ]
  refine wpAnyH_take (i := 8) (v := .bool true) rfl (by kernel_rfl) (by kernel_rfl) (by kernel_rfl) (fun _ _ _ h => h) (Or.inl ⟨by rfl, ?hy8⟩) hHeld ?_
  case hy8 => intro w' hSw; go_simp
  simp only [List.getElem_toArray, List.getElem_cons_succ, List.getElem_cons_zero, Act.put, List.setIfInBounds_toArray, List.set_cons_zero, List.set_cons_succ]
  refine wpAnyH_take (i := 9) (v := .bool true) rfl (by kernel_rfl) (by kernel_rfl) (by kernel_rfl) (fun _ _ _ h => h) (Or.inl ⟨by rfl, ?hy9⟩) hHeld ?_
  case hy9 => intro w' hSw; go_simp
  simp only [List.getElem_toArray, List.getElem_cons_succ, List.getElem_cons_zero, Act.put, List.setIfInBounds_toArray, List.set_cons_zero, List.set_cons_succ]
  refine wpAnyH_take (i := 10) (v := .bool true) rfl (by kernel_rfl) (by kernel_rfl) (by kernel_rfl) (fun _ _ _ h => h) (Or.inl ⟨by rfl, ?hy10⟩) hHeld ?_
  case hy10 => intro w' hSw; go_simp
  simp only [List.getElem_toArray, List.getElem_cons_succ, List.getElem_cons_zero, Act.put, List.setIfInBounds_toArray, List.set_cons_zero, List.set_cons_succ]
  refine wpAnyH_take (i := 11) (v := (.agg #[.string ⟨#[97]⟩, .int .i64 1, .slice (some ⟨gt, 0, none⟩) 1 1, .int .i64 0, .string ⟨#[]⟩, .string ⟨#[]⟩, .slice none 0 0])) rfl (by kernel_rfl) (by kernel_rfl) (by kernel_rfl) (fun _ _ _ h => h) (yieldsIf_load (by rfl) 27 (.tmp 4) rfl (.agg #[.string ⟨#[97]⟩, .int .i64 1, .slice (some ⟨gt, 0, none⟩) 1 1, .int .i64 0, .string ⟨#[]⟩, .string ⟨#[]⟩, .slice none 0 0]) (fun w' h => HLX.out w' h)) hHeld ?_
  simp only [List.getElem_toArray, List.getElem_cons_succ, List.getElem_cons_zero, Act.put, List.setIfInBounds_toArray, List.set_cons_zero, List.set_cons_succ]
  refine wpAnyH_take (i := 12) (v := (.agg #[.string ⟨#[97]⟩, .int .i64 1, .slice (some ⟨gt, 0, none⟩) 1 1, .int .i64 0, .string ⟨#[]⟩, .string ⟨#[]⟩, .slice none 0 0])) rfl (by kernel_rfl) (by kernel_rfl) (by kernel_rfl) (fun _ _ _ h => h) (yieldsIf_load (by rfl) 27 (.tmp 1) rfl (.agg #[.string ⟨#[97]⟩, .int .i64 1, .slice (some ⟨gt, 0, none⟩) 1 1, .int .i64 0, .string ⟨#[]⟩, .string ⟨#[]⟩, .slice none 0 0]) (fun w' h => HLM.out w' h)) hHeld ?_
  simp only [List.getElem_toArray, List.getElem_cons_succ, List.getElem_cons_zero, Act.put, List.setIfInBounds_toArray, List.set_cons_zero, List.set_cons_succ]
  refine wpAnyH_ready (rs := [13]) (by kernel_rfl) (by simp) ?_
  refine AllReadyH.cons rfl (fun K hK => ?_) AllReadyH.nil
  simp only [List.getElem_toArray, List.getElem_cons_succ, List.getElem_cons_zero]
  rw [if_pos (by rfl)]
  go_simp
  refine (HSM.out _ hHeld).mono ?_
  rintro e_ y3 ⟨rfl, hb⟩
  refine hK.out _ _ (below_step hHeld hb) (fun hHeld => ?_)
  clear hK K
  refine wpAnyH_take (i := 14) (v := .bool true) rfl (by kernel_rfl) (by kernel_rfl) (by kernel_rfl) (fun _ _ _ h => h) (Or.inl ⟨by rfl, ?hy14⟩) hHeld ?_
  case hy14 => intro w' hSw; go_simp
  simp only [List.getElem_toArray, List.getElem_cons_succ, List.getElem_cons_zero, Act.put, List.setIfInBounds_toArray, List.set_cons_zero, List.set_cons_succ]
  refine wpAnyH_take (i := 15) (v := .bool true) rfl (by kernel_rfl) (by kernel_rfl) (by kernel_rfl) (fun _ _ _ h => h) (Or.inl ⟨by rfl, ?hy15⟩) hHeld ?_
  case hy15 => intro w' hSw; go_simp
  simp only [List.getElem_toArray, List.getElem_cons_succ, List.getElem_cons_zero, Act.put, List.setIfInBounds_toArray, List.set_cons_zero, List.set_cons_succ]
  refine wpAnyH_take (i := 16) (v := .bool false) rfl (by kernel_rfl) (by kernel_rfl) (by kernel_rfl) (fun _ _ _ h => h) (Or.inl ⟨by rfl, ?hy16⟩) hHeld ?_
  case hy16 => intro w' hSw; go_simp
  simp only [List.getElem_toArray, List.getElem_cons_succ, List.getElem_cons_zero, Act.put, List.setIfInBounds_toArray, List.set_cons_zero, List.set_cons_succ]
  refine wpAnyH_take (i := 17) (v := .bool true) rfl (by kernel_rfl) (by kernel_rfl) (by kernel_rfl) (fun _ _ _ h => h) (Or.inl ⟨by rfl, ?hy17⟩) hHeld ?_
  case hy17 => intro w' hSw; go_simp
  simp only [List.getElem_toArray, List.getElem_cons_succ, List.getElem_cons_zero, Act.put, List.setIfInBounds_toArray, List.set_cons_zero, List.set_cons_succ]
  refine wpAnyH_take (i := 18) (v := .bool true) rfl (by kernel_rfl) (by kernel_rfl) (by kernel_rfl) (fun _ _ _ h => h) (Or.inl ⟨by rfl, ?hy18⟩) hHeld ?_
  case hy18 => intro w' hSw; go_simp
  simp only [List.getElem_toArray, List.getElem_cons_succ, List.getElem_cons_zero, Act.put, List.setIfInBounds_toArray, List.set_cons_zero, List.set_cons_succ]
  refine wpAnyH_take (i := 19) (v := .bool true) rfl (by kernel_rfl) (by kernel_rfl) (by kernel_rfl) (fun _ _ _ h => h) (Or.inl ⟨by rfl, ?hy19⟩) hHeld ?_
  case hy19 => intro w' hSw; go_simp
  simp only [List.getElem_toArray, List.getElem_cons_succ, List.getElem_cons_zero, Act.put, List.setIfInBounds_toArray, List.set_cons_zero, List.set_cons_succ]
  refine wpAnyH_take (i := 20) (v := .int .i64 1) rfl (by kernel_rfl) (by kernel_rfl) (by kernel_rfl) (fun _ _ _ h => h) (Or.inl ⟨by rfl, ?hy20⟩) hHeld ?_
  case hy20 => intro w' hSw; go_simp
  simp only [List.getElem_toArray, List.getElem_cons_succ, List.getElem_cons_zero, Act.put, List.setIfInBounds_toArray, List.set_cons_zero, List.set_cons_succ]
  refine wpAnyH_take (i := 21) (v := .bool true) rfl (by kernel_rfl) (by kernel_rfl) (by kernel_rfl) (fun _ _ _ h => h) (Or.inl ⟨by rfl, ?hy21⟩) hHeld ?_
  case hy21 => intro w' hSw; go_simp
  simp only [List.getElem_toArray, List.getElem_cons_succ, List.getElem_cons_zero, Act.put, List.setIfInBounds_toArray, List.set_cons_zero, List.set_cons_succ]
  refine wpAnyH_take (i := 22) (v := .bool true) rfl (by kernel_rfl) (by kernel_rfl) (by kernel_rfl) (fun _ _ _ h => h) (Or.inl ⟨by rfl, ?hy22⟩) hHeld ?_
  case hy22 => intro w' hSw; go_simp
  simp only [List.getElem_toArray, List.getElem_cons_succ, List.getElem_cons_zero, Act.put, List.setIfInBounds_toArray, List.set_cons_zero, List.set_cons_succ]
  refine wpAnyH_take (i := 23) (v := .bool true) rfl (by kernel_rfl) (by kernel_rfl) (by kernel_rfl) (fun _ _ _ h => h) (Or.inl ⟨by rfl, ?hy23⟩) hHeld ?_
  case hy23 => intro w' hSw; go_simp
  simp only [List.getElem_toArray, List.getElem_cons_succ, List.getElem_cons_zero, Act.put, List.setIfInBounds_toArray, List.set_cons_zero, List.set_cons_succ]
  refine wpAnyH_take (i := 24) (v := .int .i64 1) rfl (by kernel_rfl) (by kernel_rfl) (by kernel_rfl) (fun _ _ _ h => h) (Or.inl ⟨by rfl, ?hy24⟩) hHeld ?_
  case hy24 => intro w' hSw; go_simp
  simp only [List.getElem_toArray, List.getElem_cons_succ, List.getElem_cons_zero, Act.put, List.setIfInBounds_toArray, List.set_cons_zero, List.set_cons_succ]
  refine wpAnyH_take (i := 25) (v := .bool true) rfl (by kernel_rfl) (by kernel_rfl) (by kernel_rfl) (fun _ _ _ h => h) (Or.inl ⟨by rfl, ?hy25⟩) hHeld ?_
  case hy25 => intro w' hSw; go_simp
  simp only [List.getElem_toArray, List.getElem_cons_succ, List.getElem_cons_zero, Act.put, List.setIfInBounds_toArray, List.set_cons_zero, List.set_cons_succ]
  refine wpAnyH_take (i := 26) (v := .bool true) rfl (by kernel_rfl) (by kernel_rfl) (by kernel_rfl) (fun _ _ _ h => h) (Or.inl ⟨by rfl, ?hy26⟩) hHeld ?_
  case hy26 => intro w' hSw; go_simp
  simp only [List.getElem_toArray, List.getElem_cons_succ, List.getElem_cons_zero, Act.put, List.setIfInBounds_toArray, List.set_cons_zero, List.set_cons_succ]
  refine wpAnyH_take (i := 27) (v := .bool true) rfl (by kernel_rfl) (by kernel_rfl) (by kernel_rfl) (fun _ _ _ h => h) (Or.inl ⟨by rfl, ?hy27⟩) hHeld ?_
  case hy27 => intro w' hSw; go_simp
  simp only [List.getElem_toArray, List.getElem_cons_succ, List.getElem_cons_zero, Act.put, List.setIfInBounds_toArray, List.set_cons_zero, List.set_cons_succ]
  refine wpAnyH_take (i := 28) (v := .int .i64 0) rfl (by kernel_rfl) (by kernel_rfl) (by kernel_rfl) (fun _ _ _ h => h) (Or.inl ⟨by rfl, ?hy28⟩) hHeld ?_
  case hy28 => intro w' hSw; go_simp
  simp only [List.getElem_toArray, List.getElem_cons_succ, List.getElem_cons_zero, Act.put, List.setIfInBounds_toArray, List.set_cons_zero, List.set_cons_succ]
  refine wpAnyH_take (i := 29) (v := .bool true) rfl (by kernel_rfl) (by kernel_rfl) (by kernel_rfl) (fun _ _ _ h => h) (Or.inl ⟨by rfl, ?hy29⟩) hHeld ?_
  case hy29 => intro w' hSw; go_simp
  simp only [List.getElem_toArray, List.getElem_cons_succ, List.getElem_cons_zero, Act.put, List.setIfInBounds_toArray, List.set_cons_zero, List.set_cons_succ]
  refine wpAnyH_take (i := 30) (v := .bool true) rfl (by kernel_rfl) (by kernel_rfl) (by kernel_rfl) (fun _ _ _ h => h) (Or.inl ⟨by rfl, ?hy30⟩) hHeld ?_
  case hy30 => intro w' hSw; go_simp
  simp only [List.getElem_toArray, List.getElem_cons_succ, List.getElem_cons_zero, Act.put, List.setIfInBounds_toArray, List.set_cons_zero, List.set_cons_succ]
  refine wpAnyH_take (i := 31) (v := .bool true) rfl (by kernel_rfl) (by kernel_rfl) (by kernel_rfl) (fun _ _ _ h => h) (Or.inl ⟨by rfl, ?hy31⟩) hHeld ?_
  case hy31 => intro w' hSw; go_simp
  simp only [List.getElem_toArray, List.getElem_cons_succ, List.getElem_cons_zero, Act.put, List.setIfInBounds_toArray, List.set_cons_zero, List.set_cons_succ]
  refine wpAnyH_take (i := 32) (v := (.agg #[.slice (some ⟨gt + 1 + 1 + 1, 0, none⟩) 1 1])) rfl (by kernel_rfl) (by kernel_rfl) (by kernel_rfl) (fun _ _ _ h => h) (yieldsIf_load (by rfl) 37 (.tmp 2) rfl (.agg #[.slice (some ⟨gt + 1 + 1 + 1, 0, none⟩) 1 1]) (fun w' h => HLS.out w' h)) hHeld ?_
  simp only [List.getElem_toArray, List.getElem_cons_succ, List.getElem_cons_zero, Act.put, List.setIfInBounds_toArray, List.set_cons_zero, List.set_cons_succ]
  refine wpAnyH_take (i := 34) (v := (.agg #[.slice (some ⟨gt + 1 + 1 + 1, 0, none⟩) 1 1])) rfl (by kernel_rfl) (by kernel_rfl) (by kernel_rfl) (fun _ _ _ h => h) (yieldsIf_load (by rfl) 37 (.tmp 2) rfl (.agg #[.slice (some ⟨gt + 1 + 1 + 1, 0, none⟩) 1 1]) (fun w' h => HLS.out w' h)) hHeld ?_
  simp only [List.getElem_toArray, List.getElem_cons_succ, List.getElem_cons_zero, Act.put, List.setIfInBounds_toArray, List.set_cons_zero, List.set_cons_succ]
  refine wpAnyH_ready (rs := [33]) (by kernel_rfl) (by simp) ?_
  refine AllReadyH.cons rfl (fun K hK => ?_) AllReadyH.nil
  simp only [List.getElem_toArray, List.getElem_cons_succ, List.getElem_cons_zero]
  rw [if_pos (by rfl)]
  go_simp
  refine (HCL.out _ hHeld).mono ?_
  rintro e_ y4 ⟨cA, cc, rfl, hcl, hb⟩
  have HCC := Aside0.mk hcl
  clear hcl
  refine hK.out _ _ (below_step hHeld hb) (fun hHeld => ?_)
  clear hK K
  refine wpAnyH_ready (rs := [35]) (by kernel_rfl) (by simp) ?_
  refine AllReadyH.cons rfl (fun K hK => ?_) AllReadyH.nil
  simp only [List.getElem_toArray, List.getElem_cons_succ, List.getElem_cons_zero]
  rw [if_pos (by rfl)]
  go_simp
  refine (HSS.out _ cA cc hHeld HCC.out).mono ?_
  rintro e_ y5 ⟨rfl, hb⟩
  refine hK.out _ _ (below_step hHeld hb) (fun hHeld => ?_)
  clear hK K
  refine wpAnyH_take (i := 36) (v := .bool true) rfl (by kernel_rfl) (by kernel_rfl) (by kernel_rfl) (fun _ _ _ h => h) (Or.inl ⟨by rfl, ?hy36⟩) hHeld ?_
  case hy36 => intro w' hSw; go_simp
  simp only [List.getElem_toArray, List.getElem_cons_succ, List.getElem_cons_zero, Act.put, List.setIfInBounds_toArray, List.set_cons_zero, List.set_cons_succ]
  refine wpAnyH_take (i := 37) (v := .bool true) rfl (by kernel_rfl) (by kernel_rfl) (by kernel_rfl) (fun _ _ _ h => h) (Or.inl ⟨by rfl, ?hy37⟩) hHeld ?_
  case hy37 => intro w' hSw; go_simp
  simp only [List.getElem_toArray, List.getElem_cons_succ, List.getElem_cons_zero, Act.put, List.setIfInBounds_toArray, List.set_cons_zero, List.set_cons_succ]
  refine wpAnyH_take (i := 38) (v := (.agg #[.slice (some ⟨gt + 1 + 1 + 1, 0, none⟩) 1 1])) rfl (by kernel_rfl) (by kernel_rfl) (by kernel_rfl) (fun _ _ _ h => h) (yieldsIf_load (by rfl) 37 (.tmp 2) rfl (.agg #[.slice (some ⟨gt + 1 + 1 + 1, 0, none⟩) 1 1]) (fun w' h => HLS.out w' h)) hHeld ?_
  simp only [List.getElem_toArray, List.getElem_cons_succ, List.getElem_cons_zero, Act.put, List.setIfInBounds_toArray, List.set_cons_zero, List.set_cons_succ]
  refine wpAnyH_ready (rs := [39]) (by kernel_rfl) (by simp) ?_
  refine AllReadyH.cons rfl (fun K hK => ?_) AllReadyH.nil
  simp only [List.getElem_toArray, List.getElem_cons_succ, List.getElem_cons_zero]
  rw [if_pos (by rfl)]
  go_simp
  refine (HMS.out _).mono ?_
  rintro e_ y6 ⟨fl, lb, rfl, hb⟩
  refine hK.out _ _ (below_step hHeld hb) (fun hHeld => ?_)
  clear hK K
  refine wpAnyH_take (i := 40) (v := .bool true) rfl (by kernel_rfl) (by kernel_rfl) (by kernel_rfl) (fun _ _ _ h => h) (Or.inl ⟨by rfl, ?hy40⟩) hHeld ?_
  case hy40 => intro w' hSw; have hq := neq_func (P := Tryd.prog) Tryd.underlying47 (.func fl) lb w'; go_simp
  simp only [List.getElem_toArray, List.getElem_cons_succ, List.getElem_cons_zero, Act.put, List.setIfInBounds_toArray, List.set_cons_zero, List.set_cons_succ]
  refine wpAnyH_take (i := 41) (v := .bool true) rfl (by kernel_rfl) (by kernel_rfl) (by kernel_rfl) (fun _ _ _ h => h) (Or.inl ⟨by rfl, ?hy41⟩) hHeld ?_
  case hy41 => intro w' hSw; go_simp
  simp only [List.getElem_toArray, List.getElem_cons_succ, List.getElem_cons_zero, Act.put, List.setIfInBounds_toArray, List.set_cons_zero, List.set_cons_succ]
  refine wpAnyH_take (i := 42) (v := .bool true) rfl (by kernel_rfl) (by kernel_rfl) (by kernel_rfl) (fun _ _ _ h => h) (Or.inl ⟨by rfl, ?hy42⟩) hHeld ?_
  case hy42 => intro w' hSw; go_simp
  simp only [List.getElem_toArray, List.getElem_cons_succ, List.getElem_cons_zero, Act.put, List.setIfInBounds_toArray, List.set_cons_zero, List.set_cons_succ]
  refine wpAnyH_take (i := 43) (v := (.agg #[.string ⟨#[97]⟩, .int .i64 1, .slice (some ⟨gt, 0, none⟩) 1 1, .int .i64 0, .string ⟨#[]⟩, .string ⟨#[]⟩, .slice none 0 0])) rfl (by kernel_rfl) (by kernel_rfl) (by kernel_rfl) (fun _ _ _ h => h) (yieldsIf_load (by rfl) 27 (.tmp 1) rfl (.agg #[.string ⟨#[97]⟩, .int .i64 1, .slice (some ⟨gt, 0, none⟩) 1 1, .int .i64 0, .string ⟨#[]⟩, .string ⟨#[]⟩, .slice none 0 0]) (fun w' h => HLM.out w' h)) hHeld ?_
  simp only [List.getElem_toArray, List.getElem_cons_succ, List.getElem_cons_zero, Act.put, List.setIfInBounds_toArray, List.set_cons_zero, List.set_cons_succ]
  refine wpAnyH_take (i := 44) (v := (.agg #[.string ⟨#[117, 115, 101, 114]⟩, .string ⟨#[]⟩])) rfl (by kernel_rfl) (by kernel_rfl) (by kernel_rfl) (fun _ _ _ h => h) (Or.inl ⟨by rfl, ?hy44⟩) hHeld ?_
  case hy44 => intro w' hSw; go_simp
  simp only [List.getElem_toArray, List.getElem_cons_succ, List.getElem_cons_zero, Act.put, List.setIfInBounds_toArray, List.set_cons_zero, List.set_cons_succ]
  refine wpAnyH_ready (rs := [45]) (by kernel_rfl) (by simp) ?_
  refine AllReadyH.cons rfl (fun K hK => ?_) AllReadyH.nil
  simp only [List.getElem_toArray, List.getElem_cons_succ, List.getElem_cons_zero]
  rw [if_pos (by rfl)]
  go_simp
  refine (HAL.out _ hHeld).mono ?_
  rintro e_ y7 ⟨rfl, hb⟩
  refine hK.out _ _ (below_step hHeld hb) (fun hHeld => ?_)
  clear hK K
  refine wpAnyH_take (i := 46) (v := .bool true) rfl (by kernel_rfl) (by kernel_rfl) (by kernel_rfl) (fun _ _ _ h => h) (Or.inl ⟨by rfl, ?hy46⟩) hHeld ?_
  case hy46 => intro w' hSw; go_simp
  simp only [List.getElem_toArray, List.getElem_cons_succ, List.getElem_cons_zero, Act.put, List.setIfInBounds_toArray, List.set_cons_zero, List.set_cons_succ]
  refine wpAnyH_take (i := 47) (v := .bool true) rfl (by kernel_rfl) (by kernel_rfl) (by kernel_rfl) (fun _ _ _ h => h) (Or.inl ⟨by rfl, ?hy47⟩) hHeld ?_
  case hy47 => intro w' hSw; go_simp
  simp only [List.getElem_toArray, List.getElem_cons_succ, List.getElem_cons_zero, Act.put, List.setIfInBounds_toArray, List.set_cons_zero, List.set_cons_succ]
  refine wpAnyH_done (by kernel_rfl) ?_ _
  go_wp2
  go_ret
  exact ⟨rfl, below_step (below_then HB.out HB.out.size HB3.out) hHeld⟩
end Go.Proofs.YtohimcpfmkgefaaDoor.HScK
/- Members and allowed types that came in, opened. -/
namespace Go.Proofs.YtohimcpfmkgefaaDoor.HScOp
open Go.RowKit Go.WideShapes Go.Proofs.YtohimcpfmkgefaaDoorW.PrintWords Go.Proofs.YtohimcpfmkgefaaDoor.HLib Go.Proofs.YtohimcpfmkgefaaDoor.HOpen Go.Proofs.YtohimcpfmkgefaaDoor.HOpenS Go.Proofs.YtohimcpfmkgefaaDoor.HExP Go.Proofs.YtohimcpfmkgefaaDoor.HExL Go.Proofs.YtohimcpfmkgefaaDoor.HExOp Go.Proofs.YtohimcpfmkgefaaDoor.HSc2
open Go.Proofs.YtohimcpfmkgefaaDoor.PSchemaAllows
set_option linter.unusedVariables false
set_option linter.unusedSimpArgs false
instance : Inhabited Al := ⟨⟨ByteArray.empty, ByteArray.empty⟩⟩
theorem open_al : Opens Tryd.prog 29 kA (fun x => x.f0.size ≤ maxLen ∧ x.f1.size ≤ maxLen) (fun x => ((x.f0.size + 1) + (x.f1.size + 1)) + 1) := by
  refine opens_iso (ok := fun p : ByteArray × ByteArray => p.1.size ≤ maxLen ∧ p.2.size ≤ maxLen) (m := fun p => ((p.1.size + 1) + (p.2.size + 1)) + 1) (fun x : Al => (x.f0, x.f1)) (fun p => ⟨p.1, p.2⟩) (fun _ => rfl) ?_
  refine opens_struct (m := fun p : ByteArray × ByteArray => (p.1.size + 1) + (p.2.size + 1)) Tryd.underlying29 (by kernel_rfl) ?_
  show OpensL _ (_ :: _ :: []) 0 _ _ _
  refine opensL_cons (ok := fun s : ByteArray => s.size ≤ maxLen) (m := fun s => s.size + 1) (ok2 := fun s : ByteArray => s.size ≤ maxLen) (m2 := fun s => s.size + 1) ?ho0 ?hc0 (opens_string Tryd.underlying9) ?hn0
  case ho0 => rfl
  case hc0 => kernel_rfl
  refine opensL_one (ok := fun s : ByteArray => s.size ≤ maxLen) (m := fun s => s.size + 1) ?ho1 ?hc1 (opens_string Tryd.underlying9)
  case ho1 => rfl
  case hc1 => kernel_rfl
abbrev Als : Type := List Al
theorem open_als : Opens Tryd.prog 22 (Kd.slice 29 kA) (fun xs => (∀ x ∈ xs, x.f0.size ≤ maxLen ∧ x.f1.size ≤ maxLen) ∧ xs.length ≤ maxLen) (fun xs => (xs.map fun x => ((x.f0.size + 1) + (x.f1.size + 1)) + 1).sum + 1) := opens_slice Tryd.underlying22 (by kernel_rfl) open_al
abbrev OkM (x : Sm) : Prop := x.f0.size ≤ maxLen ∧ (Lit.int .i64 x.f1).wf = true ∧ ((∀ y ∈ x.f2, y.f0.size ≤ maxLen ∧ y.f1.size ≤ maxLen) ∧ x.f2.length ≤ maxLen) ∧ strE maxLen x.f3
theorem open_member : Opens Tryd.prog 27 kM OkM (fun x => ((x.f0.size + 1) + (1 + (((x.f2.map fun x => ((x.f0.size + 1) + (x.f1.size + 1)) + 1).sum + 1) + 0))) + 1) := by
  refine opens_iso (ok := fun p : ByteArray × Int × List Al × Ex => p.1.size ≤ maxLen ∧ (Lit.int .i64 p.2.1).wf = true ∧ ((∀ y ∈ p.2.2.1, y.f0.size ≤ maxLen ∧ y.f1.size ≤ maxLen) ∧ p.2.2.1.length ≤ maxLen) ∧ strE maxLen p.2.2.2) (m := fun p => ((p.1.size + 1) + (1 + (((p.2.2.1.map fun x => ((x.f0.size + 1) + (x.f1.size + 1)) + 1).sum + 1) + 0))) + 1) (fun x : Sm => (x.f0, x.f1, x.f2, x.f3)) (fun p => ⟨p.1, p.2.1, p.2.2.1, p.2.2.2⟩) (fun _ => rfl) ?_
  refine opens_struct (m := fun p : ByteArray × Int × List Al × Ex => (p.1.size + 1) + (1 + (((p.2.2.1.map fun x => ((x.f0.size + 1) + (x.f1.size + 1)) + 1).sum + 1) + 0))) Tryd.underlying27 (by kernel_rfl) ?_
  show OpensL _ (_ :: _ :: _ :: _ :: []) 0 _ _ _
  refine opensL_cons (ok := fun s : ByteArray => s.size ≤ maxLen) (m := fun s => s.size + 1) (ok2 := fun p : Int × List Al × Ex => (Lit.int .i64 p.1).wf = true ∧ ((∀ y ∈ p.2.1, y.f0.size ≤ maxLen ∧ y.f1.size ≤ maxLen) ∧ p.2.1.length ≤ maxLen) ∧ strE maxLen p.2.2) (m2 := fun p => 1 + (((p.2.1.map fun x => ((x.f0.size + 1) + (x.f1.size + 1)) + 1).sum + 1) + 0)) ?ho0 ?hc0 (opens_string Tryd.underlying9) ?hn0
  case ho0 => rfl
  case hc0 => kernel_rfl
  refine opensL_cons (ok := fun n : Int => (Lit.int .i64 n).wf = true) (m := fun _ => 1) (ok2 := fun p : List Al × Ex => ((∀ y ∈ p.1, y.f0.size ≤ maxLen ∧ y.f1.size ≤ maxLen) ∧ p.1.length ≤ maxLen) ∧ strE maxLen p.2) (m2 := fun p => ((p.1.map fun x => ((x.f0.size + 1) + (x.f1.size + 1)) + 1).sum + 1) + 0) ?ho1 ?hc1 (opens_int Tryd.underlying3) ?hn1
  case ho1 => rfl
  case hc1 => kernel_rfl
  refine opensL_cons (ok := fun xs : List Al => (∀ y ∈ xs, y.f0.size ≤ maxLen ∧ y.f1.size ≤ maxLen) ∧ xs.length ≤ maxLen) (m := fun xs => (xs.map fun x => ((x.f0.size + 1) + (x.f1.size + 1)) + 1).sum + 1) (ok2 := fun x : Ex => strE maxLen x) (m2 := fun _ => 0) ?ho2 ?hc2 open_als ?hn2
  case ho2 => rfl
  case hc2 => kernel_rfl
  refine opensL_one (ok := fun x : Ex => strE maxLen x) (m := fun _ => 0) ?ho3 ?hc3 open_expr
  case ho3 => rfl
  case hc3 => kernel_rfl
set_option maxRecDepth 100000 in
theorem al_of {w : World} {base : Nat} {v : Value} {x : Al} (hv : Value.okWide Tryd.prog w .any base 29 v) (hk : kA.K w x v.cells.toList) : v = .agg #[.string x.f0, .string x.f1] := by
  obtain ⟨cs, rfl, hsz⟩ := okWide_struct Tryd.underlying29 hv
  have e := k29_open hk
  congr 1
  apply Array.ext'
  exact e
set_option maxRecDepth 100000 in
theorem member_of {w : World} {base : Nat} {v : Value} {x : Sm} (hv : Value.okWide Tryd.prog w .any base 27 v) (hk : kM.K w x v.cells.toList) : ∃ A c A' c', v = .agg #[.string x.f0, .int .i64 x.f1, .slice A x.f2.length c, .int .i64 x.f3.f0, .string x.f3.f1, .string x.f3.f2, .slice A' x.f3.f3.length c'] ∧ Kd.C kA w A x.f2.length x.f2 ∧ x.f2.length ≤ c ∧ Rd w A' c' x.f3 := by
  obtain ⟨cs, rfl, hsz⟩ := okWide_struct Tryd.underlying27 hv
  obtain ⟨A, c, A', c', e, hl, hC, hl2, hC2⟩ := k27_open hk
  refine ⟨A, c, A', c', ?_, hC, hl, hC2, hl2⟩
  congr 1
  apply Array.ext'
  exact e
end Go.Proofs.YtohimcpfmkgefaaDoor.HScOp
/- The law SchemaAllows. -/
namespace Go.Proofs.YtohimcpfmkgefaaDoor.HScL
open Go.RowKit Go.Proofs.YtohimcpfmkgefaaDoorW.PrintWords Go.Proofs.YtohimcpfmkgefaaDoor.HLib Go.Proofs.YtohimcpfmkgefaaDoor.HGr Go.Proofs.YtohimcpfmkgefaaDoor.HNameP Go.Proofs.YtohimcpfmkgefaaDoor.HName Go.Proofs.YtohimcpfmkgefaaDoor.HExP Go.Proofs.YtohimcpfmkgefaaDoor.HExL Go.Proofs.YtohimcpfmkgefaaDoor.HExF Go.Proofs.YtohimcpfmkgefaaDoor.HExN Go.Proofs.YtohimcpfmkgefaaDoor.HSc1 Go.Proofs.YtohimcpfmkgefaaDoor.HSc2 Go.Proofs.YtohimcpfmkgefaaDoor.HScK Go.Proofs.YtohimcpfmkgefaaDoor.HScOp
open Go.Proofs.YtohimcpfmkgefaaDoor.PSchemaAllows
set_option linter.unusedVariables false
set_option linter.unusedSimpArgs false
theorem eqA_comm (a b : Al) : eqA a b = eqA b a := by
  unfold eqA
  rw [Bool.beq_comm, Bool.beq_comm (a := a.f1.toList)]
def hasB (x : Al) (ks : List Al) : Bool := ks.any fun k => eqA k x
theorem hasB_eq (x : Al) (ks : List Al) : hasB x ks = hasA x ks := by
  unfold hasB hasA
  congr 1
  funext k
  exact eqA_comm k x
theorem load_al {W : World} {ad : Addr} {x : Al} (a1 : W.cell? ad = some (.string x.f0)) (a2 : W.cell? ⟨ad.block, ad.off + 1, none⟩ = some (.string x.f1)) :
    (Instr.loadAt 29 (.pointer (some ad))).run Tryd.prog W = .ok (.agg #[.string x.f0, .string x.f1]) W := by
  go_simp
theorem box2 (w : World) (a b c d e f h : Value) (t : TypeId) (a' b' : Value) (t' : TypeId) :
    ∃ W, W = (w.alloc (.cells #[a, b, c, d, e, f, h] t)).alloc (.cells #[a', b'] t') ∧ Below w.heap.size w W ∧ W.heap.size = w.heap.size + 2 ∧ W.heap[w.heap.size]? = some (.cells #[a, b, c, d, e, f, h] t (0, 0)) ∧ W.heap[w.heap.size + 1]? = some (.cells #[a', b'] t' (0, 0)) := by
  refine ⟨_, rfl, below_alloc (below_alloc (B0 w) _) _, by rw [World.size_alloc, World.size_alloc], blk_alloc (blk_new w _) _, ?_⟩
  have k := blk_new (w.alloc (.cells #[a, b, c, d, e, f, h] t)) (.cells #[a', b'] t')
  rw [World.size_alloc] at k
  exact k
set_option maxRecDepth 100000 in
set_option maxHeartbeats 8000000 in
theorem allows_law (m : Sm) (a : Al) (A A' : Option Addr) (c c' : Nat) (w : World) (hG : ResG w) (hC : Kd.C kA w A m.f2.length m.f2) :
    Calls Tryd.prog 3 #[.agg #[.string m.f0, .int .i64 m.f1, .slice A m.f2.length c, .int .i64 m.f3.f0, .string m.f3.f1, .string m.f3.f2, .slice A' m.f3.f3.length c'], .agg #[.string a.f0, .string a.f1]] w fun e w' => e = .returned (.bool true) ∧ Below w.heap.size w w' := by
  obtain ⟨W, hW, hb, hsz, hk, hz⟩ := box2 w (.string m.f0) (.int .i64 m.f1) (.slice A m.f2.length c) (.int .i64 m.f3.f0) (.string m.f3.f1) (.string m.f3.f2) (.slice A' m.f3.f3.length c') 27 (.string a.f0) (.string a.f1) 29
  have HB := Aside0.mk hb
  have HC := Aside0.mk (show ∀ W', Below W.heap.size W W' → Kd.C kA W' A m.f2.length m.f2 from fun W' h => Kd.C_below hC (below_then hb hb.size h))
  obtain ⟨gb, hgb⟩ : ∃ g, g = w.heap.size := ⟨_, rfl⟩
  rw [← hgb] at hk hz
  have HK := Aside0.mk (And.intro hk hz)
  have HAW := Aside0.mk (show ∀ W', Below W.heap.size W W' → Calls Tryd.prog 4 #[] W' fun e w' => e = .returned (.bool true) ∧ Below W.heap.size W w' from fun W' h => (awake_any W' (hG.below (below_then hb hb.size h) hG.1)).mono fun e w' ⟨h1, h2⟩ => ⟨h1, below_then h h.size h2⟩)
  have HAL := Aside0.mk (show m.f2.length ≤ 100 → ∀ W', Below W.heap.size W W' → Calls Tryd.prog 5 #[.agg #[.string m.f0, .int .i64 m.f1, .slice A m.f2.length c, .int .i64 m.f3.f0, .string m.f3.f1, .string m.f3.f2, .slice A' m.f3.f3.length c'], .agg #[.string a.f0, .string a.f1]] W' fun e w' => e = .returned (.bool (decide (m.f1 = 1) && hasB a m.f2)) ∧ Below W.heap.size W w' from fun hl W' h => (allows_any m a A A' c c' W' (by omega) (Kd.C_below hC (below_then hb hb.size h))).mono fun e w' ⟨h1, h2⟩ => ⟨by rw [h1, hasB_eq]; rfl, below_then h h.size h2⟩)
  obtain ⟨n, hn⟩ : ∃ n, n = m.f2.length := ⟨_, rfl⟩
  have HN := Aside0.mk hn
  rw [← hn] at HC HK HAL hW ⊢
  have HB0 := Aside0.mk (B0 W)
  obtain ⟨q0, q1, q2, q3, q4, q5, q6⟩ := cells7 HK.out.1
  clear hC hn hb hsz hk hz hG
  by_cases hl : n ≤ 100
  · have c1 : decide ((100 : Int) < (n : Int)) = false := decide_eq_false (by omega)
    have c2 : ¬ (100 : Int) < (n : Int) := by omega
    have HL := Aside0.mk hl
    clear hl
    go_enter Tryd.func3, Tryd.ntmps3
    go_upto_region 1 with fail
    rw [← hW, ← hgb]
    clear hW hgb
    go_upto_region 5 with (go_at_call 4; refine (HAW.out _ HB0.out).mono ?_; rintro e W1 ⟨rfl, h1⟩; have HB1 := Aside0.mk h1; clear h1 q0 q1 q2 q3 q4 q5 q6; obtain ⟨q0, q1, q2, q3, q4, q5, q6⟩ := cells7 (blk_below HK.out.1 HB1.out))
    go_loopg [5, 6] n (fun gg s5 s6 wr => ∃ kk : Nat, s5 = .bool (hasB a (m.f2.take kk)) ∧ s6 = .int .i64 kk ∧ Aside0 (gg + kk = n) ∧ Aside0 (Below W.heap.size W wr))
    case atStart => exact ⟨0, rfl, rfl, ⟨by omega⟩, HB1⟩
    case round =>
      obtain ⟨kk, rfl, rfl, HG, BW⟩ := hrel
      clear q0 q1 q2 q3 q4 q5 q6
      obtain ⟨q0, q1, q2, q3, q4, q5, q6⟩ := cells7 (blk_below HK.out.1 BW.out)
      obtain ⟨p0, p1⟩ := cells2 (blk_below HK.out.2 BW.out)
      by_cases hlt : kk < n
      · have f3 : (kk : Int) < (n : Int) := by omega
        have f1 : decide ((kk : Int) < (n : Int)) = true := decide_eq_true f3
        have f5 : (0 : Int) ≤ (kk : Int) := by omega
        have f4 : IntKind.i64.wrap ((kk : Int) + 1) = (kk : Int) + 1 := by rw [IntKind.wrap_i64]; have := HL.out; omega
        have hj : kk < m.f2.length := by have := HN.out; omega
        have hCw : Kd.C kA wr A m.f2.length m.f2 := by have h := HC.out wr BW.out; rw [HN.out] at h; exact h
        obtain ⟨ad, hA, hcs⟩ := al_cells hCw kk hj
        obtain ⟨a1, a2⟩ := hcs wr (B0 wr)
        obtain ⟨y, hy⟩ : ∃ y, y = m.f2[kk] := ⟨_, rfl⟩
        rw [← hy] at a1 a2
        have htk : hasB a (m.f2.take (kk + 1)) = (hasB a (m.f2.take kk) || eqA y a) := by
          unfold hasB
          rw [List.take_succ_eq_append_getElem hj, List.any_append, List.any_cons, List.any_nil, Bool.or_false, hy]
        subst hA
        have HTK := Aside0.mk htk
        obtain ⟨bw, hbw⟩ : ∃ b, b = hasB a (m.f2.take kk) := ⟨_, rfl⟩
        rw [← hbw] at HTK ⊢
        clear hy hcs hj htk hbw hCw
        cases bw with
        | true =>
          have HTT := Aside0.mk (show hasB a (m.f2.take (kk + 1)) = true from by rw [HTK.out]; rfl)
          clear HTK
          go_wp2
          go_quiet (fail)
          go_wp2
          go_roundg (n - (kk + 1))
          case measure => have := HG.out; omega
          case rel => exact ⟨kk + 1, by rw [HTT.out], by first | rfl | go_num, ⟨by have := HG.out; omega⟩, ⟨by repeat (first | exact BW.out | apply pw_below_drewN | apply below_drew1)⟩⟩
        | false =>
          have heq := fun w' => eqA_run y a w'
          have HTT := Aside0.mk (show hasB a (m.f2.take (kk + 1)) = eqA y a from by rw [HTK.out]; rfl)
          clear HTK
          obtain ⟨be, hbe⟩ : ∃ b, b = eqA y a := ⟨_, rfl⟩
          rw [← hbe] at heq HTT
          clear hbe
          go_wp2
          go_quiet (fail)
          go_wp2
          go_roundg (n - (kk + 1))
          case measure => have := HG.out; omega
          case rel => exact ⟨kk + 1, by rw [HTT.out], by first | rfl | go_num, ⟨by have := HG.out; omega⟩, ⟨by repeat (first | exact BW.out | apply pw_below_drewN | apply below_drew1)⟩⟩
      · obtain rfl : kk = n := by have := HG.out; omega
        have f3 : ¬ (kk : Int) < (kk : Int) := by omega
        have hall : m.f2.take kk = m.f2 := by rw [HN.out, List.take_length]
        rw [hall]
        have HAL2 := Aside0.mk (HAL.out HL.out)
        obtain ⟨bw, hbw⟩ : ∃ b, b = hasB a m.f2 := ⟨_, rfl⟩
        rw [← hbw] at HAL2 ⊢
        clear hbw HAL hall
        have HKB := Aside0.mk (blk_below HK.out.1 BW.out)
        obtain ⟨dk, hdk⟩ : ∃ b, b = decide (m.f1 = 1) := ⟨_, rfl⟩
        rw [← hdk] at HAL2
        have hdk2 : (m.f1 == 1) = dk := by rw [hdk]; rfl
        have hdk3 : decide (m.f1 = 1) = dk := hdk.symm
        have bb : ∀ q : Bool, (q == q) = true := fun q => by cases q <;> rfl
        have bc : ∀ q : Bool, (decide (q = q)) = true := fun q => by simp
        clear hdk
        cases bw with
        | true =>
          go_wp2_with (go_at_call 5; refine (HAL2.out _ BW.out).mono ?_; rintro e W3 ⟨rfl, h1⟩; have HB3 := Aside0.mk h1; clear h1 q0 q1 q2 q3 q4 q5 q6 p0 p1; obtain ⟨q0, q1, q2, q3, q4, q5, q6⟩ := cells7 (blk_below HK.out.1 HB3.out))
          go_ret
          exact ⟨by cases dk <;> simp, below_then HB.out HB.out.size HB3.out⟩
        | false =>
          go_wp2_with (go_at_call 5; refine (HAL2.out _ BW.out).mono ?_; rintro e W3 ⟨rfl, h1⟩; have HB3 := Aside0.mk h1; clear h1 q0 q1 q2 q3 q4 q5 q6 p0 p1; obtain ⟨q0, q1, q2, q3, q4, q5, q6⟩ := cells7 (blk_below HK.out.1 HB3.out))
          go_ret
          exact ⟨by cases dk <;> simp, below_then HB.out HB.out.size HB3.out⟩
  · have c1 : decide ((100 : Int) < (n : Int)) = true := decide_eq_true (by omega)
    have c2 : (100 : Int) < (n : Int) := by omega
    clear hl
    go_enter Tryd.func3, Tryd.ntmps3
    go_upto_region 1 with fail
    rw [← hW, ← hgb]
    clear hW hgb
    go_wp2_with (go_at_call 4; first | (refine (HAW.out _ HB1.out).mono ?_; rintro e W2 ⟨rfl, h1⟩; have HB2 := Aside0.mk h1; clear h1) | (refine (HAW.out _ HB0.out).mono ?_; rintro e W1 ⟨rfl, h1⟩; have HB1 := Aside0.mk h1; clear h1 q0 q1 q2 q3 q4 q5 q6; obtain ⟨q0, q1, q2, q3, q4, q5, q6⟩ := cells7 (blk_below HK.out.1 HB1.out)))
    go_ret
    exact ⟨rfl, below_then HB.out HB.out.size HB2.out⟩
theorem row_allows (v0 : Value) (a0 : Sm) (v1 : Value) (a1 : Al) (W : World) {base : Nat} (hv0 : Value.okWide Tryd.prog W .any base 27 v0) (k0 : kM.K W a0 v0.cells.toList) (ok0 : OkM a0) (hv1 : Value.okWide Tryd.prog W .any base 29 v1) (k1 : kA.K W a1 v1.cells.toList) (ok1 : a1.f0.size ≤ maxLen ∧ a1.f1.size ≤ maxLen) (hG : ResG W) :
    Calls Tryd.prog 3 #[v0, v1] W fun e w' => e = .returned (.bool true) ∧ Below W.heap.size W w' := by
  obtain ⟨A, c, A', c', rfl, hC, hl, hR⟩ := member_of hv0 k0
  obtain rfl := al_of hv1 k1
  exact allows_law a0 a1 A A' c c' W hG hC
end Go.Proofs.YtohimcpfmkgefaaDoor.HScL
