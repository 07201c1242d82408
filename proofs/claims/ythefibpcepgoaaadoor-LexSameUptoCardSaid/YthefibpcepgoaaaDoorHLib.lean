/- Words of this seat's own: byte slices, steps of the world. -/
import Derived.Test.YthefibpcepgoaaaDoorProg
import Derived.Test.YthefibpcepgoaaaDoorWWords
import Derived.WalkSpells
import Derived.Lib.IfaceEq
import Derived.Lib.IfaceNeq
import Derived.Laws.BitsAllLaws
namespace Go.Proofs.YthefibpcepgoaaaDoor.HLib
open Go.RowKit Go.Proofs.YthefibpcepgoaaaDoorW.PrintWords
set_option linter.unusedVariables false

/-- A value that is read as bytes. -/
def Bs (w : World) (v : Value) (xs : List Int) : Prop :=
  ∃ A c, v = .slice A xs.length c ∧ xs.length ≤ c ∧ Kd.C (Kd.int .u8) w A xs.length xs ∧ (A = none → c = 0)

theorem Bs.below {w w1 : World} {v : Value} {xs : List Int} (h : Bs w v xs) (hb : Below w.heap.size w w1) : Bs w1 v xs := by
  obtain ⟨A, c, e, hc, hC, hn⟩ := h
  exact ⟨A, c, e, hc, Kd.C_below hC hb, hn⟩
theorem Bs.drewN {w : World} {v : Value} {xs : List Int} (h : Bs w v xs) (m : Nat) : Bs (w.drewN m) v xs := h
theorem Bs.drew {w : World} {v : Value} {xs : List Int} (h : Bs w v xs) : Bs w.drew v xs := h
theorem Bs.of_R {e : Nat} {w : World} {base : Nat} {ok : Nat → Prop} {v : Value} {xs : List Int} (h : Kd.R (Kd.int .u8) e w base ok v xs) : Bs w v xs := by
  obtain ⟨inner, ho, _⟩ := h.2
  obtain ⟨A, c, e1, hc, hC⟩ := Kd.R_reads h
  refine ⟨A, c, e1, hc, hC, ?_⟩
  rintro rfl
  rcases ho.2 with ⟨h1, h2⟩ | ⟨g, cap, cur, h1, _⟩
  · rw [h1] at e1; injection e1 with _ _ h3; exact h3.symm
  · rw [h1] at e1; injection e1 with h3; cases h3
theorem Bs.nil (w : World) : Bs w (.slice none 0 0) [] := ⟨none, 0, rfl, Nat.le_refl _, Kd.C_nil _ _, fun _ => rfl⟩

theorem B0 (w : World) : Below w.heap.size w w := Below.refl _ _
theorem Drawn0.trans {w w1 w2 : World} (h : Drawn0 w w1) (k : Drawn0 w1 w2) : Drawn0 w w2 := by
  obtain ⟨⟨m, rfl⟩⟩ := k
  exact h.step m

theorem info_u8 : (Tryd.prog.info? 5).map (fun i => (i.zero, i.size, i.bytes)) = some (some (.int .u8 0), 1, 1) := by kernel_rfl

/-- A value that is read as bytes, cut at j. -/
theorem Bs.take {w : World} {A : Option Addr} {c : Nat} {xs : List Int} (h : Bs w (.slice A xs.length c) xs) (j : Nat) (hj : j ≤ xs.length) : Bs w (.slice A j c) (xs.take j) := by
  obtain ⟨A', c', e, hc, hC, hn⟩ := h
  injection e with e1 e2 e3
  subst e1 e3
  have hl : (xs.take j).length = j := by rw [List.length_take]; omega
  refine ⟨A, c, by rw [hl], by omega, ?_, hn⟩
  have hR := ReadsInt.take_ (readsInt_of.2 (Kd.reads_of_C (d := (0 : Int)) hC)) j hj
  rw [← hl] at hR
  exact Kd.C_of_reads (readsInt_of.1 (by rw [hl] at hR ⊢; exact hR))
theorem run_take (t e : TypeId) {P : Program} {i : TypeInfo} (ht : P.underlying t = some (.slice e)) (hi : P.info? e = some i) (hsz : i.size = 1) (A : Option Addr) (c : Nat) (xs : List Int) (j : Int) (h0 : 0 ≤ j) (hm : j ≤ xs.length) (hc : xs.length ≤ c) (W : World) :
    (Instr.slice t (.slice A xs.length c) none (some (.int .i64 j)) none).run P W = .ok (.slice A (xs.take j.toNat).length c) W := (print_take_int (k := .u8) t e ht hi hsz A c xs j h0 hm hc).1 W

/-- A slice of whole numbers that came in, as a row tells it. -/
def IsRow (k : IntKind) (w : World) (a : Option Addr) (len cap : Nat) (zs : List Int) : Prop :=
  (a = none ∧ len = 0 ∧ cap = 0 ∧ zs = []) ∨
  ∃ x, a = some x ∧ len ≤ cap ∧ cap ≤ maxLen ∧ zs.length = cap ∧ (∀ i, i < zs.length → w.cell? (x.add i) = some (.int k (zs.getD i 0))) ∧ ∀ n ∈ zs, (Lit.int k n).wf = true

theorem wf_range {k : IntKind} {n : Int} (h : (Lit.int k n).wf = true) : k.min ≤ n ∧ n ≤ k.max := by
  simp only [Lit.wf, Bool.and_eq_true, decide_eq_true_eq] at h
  exact h
theorem wf_u8 {n : Int} (h : (Lit.int .u8 n).wf = true) : 0 ≤ n ∧ n < 256 := by
  have := wf_range h
  have h1 : IntKind.u8.min = 0 := rfl
  have h2 : IntKind.u8.max = 255 := rfl
  omega
theorem wf_u64 {n : Int} (h : (Lit.int .u64 n).wf = true) : ∃ m : Nat, n = m ∧ m < 18446744073709551616 := by
  have := wf_range h
  have h1 : IntKind.u64.min = 0 := rfl
  have h2 : IntKind.u64.max = 18446744073709551615 := rfl
  exact ⟨n.toNat, by omega, by omega⟩
theorem wf_u32 {n : Int} (h : (Lit.int .u32 n).wf = true) : ∃ m : Nat, n = m ∧ m < 4294967296 := by
  have := wf_range h
  have h1 : IntKind.u32.min = 0 := rfl
  have h2 : IntKind.u32.max = 4294967295 := rfl
  exact ⟨n.toNat, by omega, by omega⟩
theorem wf_i64 {n : Int} (h : (Lit.int .i64 n).wf = true) : -9223372036854775808 ≤ n ∧ n ≤ 9223372036854775807 := by
  have := wf_range h
  have h1 : IntKind.i64.min = -9223372036854775808 := rfl
  have h2 : IntKind.i64.max = 9223372036854775807 := rfl
  omega

/-- What came in is read as bytes. -/
theorem bs_row {w : World} {a : Option Addr} {len cap : Nat} {zs : List Int} (h : IsRow .u8 w a len cap zs) : ∃ xs, xs.length = len ∧ Bs w (.slice a len cap) xs ∧ ∀ b ∈ xs, 0 ≤ b ∧ b < 256 := by
  obtain ⟨l, rfl, hR, hm, hw⟩ := ReadsInt.ofRow h
  refine ⟨l, rfl, ⟨a, cap, rfl, ?_, Kd.C_of_reads (d := (0 : Int)) (readsInt_of.1 hR), ?_⟩, fun b hb => wf_u8 (hw b hb)⟩
  · rcases h with ⟨_, h1, _, _⟩ | ⟨x, _, hl, _⟩ <;> omega
  · rintro rfl
    rcases h with ⟨_, _, h1, _⟩ | ⟨x, hx, _⟩
    · exact h1
    · cases hx

/-- x[i:j:j] of what is read as bytes. -/
theorem run_mid3 (t e : TypeId) {P : Program} {i0 : TypeInfo} (ht : P.underlying t = some (.slice e)) (hi0 : P.info? e = some i0) (hsz : i0.size = 1) (A : Option Addr) (c : Nat) (xs : List Int) (i j : Int) (h0 : 0 ≤ i) (h1 : i ≤ j) (h2 : j ≤ xs.length) (hc : xs.length ≤ c) (hn : A = none → c = 0) :
    ∃ A', (∀ W : World, (Instr.slice t (.slice A xs.length c) (some (.int .i64 i)) (some (.int .i64 j)) (some (.int .i64 j))).run P W = .ok (.slice A' ((xs.drop i.toNat).take (j - i).toNat).length ((xs.drop i.toNat).take (j - i).toNat).length) W) ∧
      ∀ w : World, ReadsInt w .u8 A xs.length xs → Bs w (.slice A' ((xs.drop i.toNat).take (j - i).toNat).length ((xs.drop i.toNat).take (j - i).toNat).length) ((xs.drop i.toNat).take (j - i).toNat) ∧ ∀ ad', A' = some ad' → ∃ ad, A = some ad ∧ ad'.block = ad.block := by
  have hl : ((xs.drop i.toNat).take (j - i).toNat).length = (j - i).toNat := by rw [List.length_take, List.length_drop]; omega
  refine ⟨if j.toNat = i.toNat then A else A.map (·.add i.toNat), fun W => ?_, fun w h => ⟨?_, fun ad' hA => ?_⟩⟩
  · have hel : P.elem t = e := by simp [Program.elem, ht]
    have hu : P.underlying t = some (.slice (P.elem t)) := by rw [hel]; exact ht
    rw [run_slice_lhm W t A xs.length c hu .i64 .i64 .i64 i j j h0 h1 (by omega) (by omega), hel, hl]
    simp only [sizeOf, typeInfo]
    simp [hi0, hsz, sliced, Result.andThen, show j.toNat - i.toNat = (j - i).toNat from by omega]
  · rw [hl]
    by_cases z : j.toNat = i.toNat
    · rw [if_pos z]
      have hz : (xs.drop i.toNat).take (j - i).toNat = [] := by rw [show (j - i).toNat = 0 from by omega]; rfl
      have hz2 : (j - i).toNat = 0 := by omega
      rw [hz, hz2]
      exact ⟨A, 0, rfl, Nat.le_refl _, Kd.C_of_reads (d := (0 : Int)) (readsInt_of.1 ⟨rfl, by simp, fun h => absurd h (by simp)⟩), fun _ => rfl⟩
    · rw [if_neg z]
      have hd := ReadsInt.drop_ (c := c) h i.toNat (by omega) hc
      rw [if_neg (show ¬ c = i.toNat from by omega)] at hd
      have ht2 := ReadsInt.take_ hd (j - i).toNat (by omega)
      refine ⟨_, _, by rw [hl], by rw [hl]; exact Nat.le_refl _, Kd.C_of_reads (d := (0 : Int)) (readsInt_of.1 (by rw [hl]; exact ht2)), fun hA => ?_⟩
      cases A with
      | none => have := hn rfl; omega
      | some a => cases hA
  · split at hA
    · exact ⟨ad', hA, rfl⟩
    · cases A with
      | none => cases hA
      | some a => exact ⟨a, rfl, by injection hA with hA; rw [← hA]; unfold Addr.add; split <;> rfl⟩

/-- A store into another block. -/
theorem Bs.far {w : World} {v : Value} {xs : List Int} (h : Bs w v xs) (g j : Nat) (u : Value) (hne : ∀ ad n c, v = .slice (some ad) n c → ad.block ≠ g) : Bs (w.setCell ⟨g, j, none⟩ u) v xs := by
  obtain ⟨A, c, rfl, hc, hC, hn⟩ := h
  refine ⟨A, c, rfl, hc, Kd.C_of_reads (d := (0 : Int)) (readsInt_of.1 (ReadsInt.keep (g := g) (readsInt_of.2 (Kd.reads_of_C (d := (0 : Int)) hC)) ((KeepBut.refl w g none).set_ j u) (fun ad e _ => hne ad _ _ (by rw [e])))), hn⟩

/-- x[i:j] of what is read as bytes. -/
theorem run_mid2 (t e : TypeId) {P : Program} {i0 : TypeInfo} (ht : P.underlying t = some (.slice e)) (hi0 : P.info? e = some i0) (hsz : i0.size = 1) (A : Option Addr) (c : Nat) (xs : List Int) (i j : Int) (h0 : 0 ≤ i) (h1 : i ≤ j) (h2 : j ≤ xs.length) (hc : xs.length ≤ c) (hn : A = none → c = 0) :
    ∃ A', (∀ W : World, (Instr.slice t (.slice A xs.length c) (some (.int .i64 i)) (some (.int .i64 j)) none).run P W = .ok (.slice A' ((xs.drop i.toNat).take (j - i).toNat).length (c - i.toNat)) W) ∧
      ∀ w : World, ReadsInt w .u8 A xs.length xs → ReadsInt w .u8 A' ((xs.drop i.toNat).take (j - i).toNat).length ((xs.drop i.toNat).take (j - i).toNat) ∧ Bs w (.slice A' ((xs.drop i.toNat).take (j - i).toNat).length (c - i.toNat)) ((xs.drop i.toNat).take (j - i).toNat) := by
  have hl : ((xs.drop i.toNat).take (j - i).toNat).length = (j - i).toNat := by rw [List.length_take, List.length_drop]; omega
  have key : ∀ w : World, ReadsInt w .u8 A xs.length xs → ReadsInt w .u8 (if c = i.toNat then A else A.map (·.add i.toNat)) ((xs.drop i.toNat).take (j - i).toNat).length ((xs.drop i.toNat).take (j - i).toNat) := fun w h => by
    have hd := ReadsInt.drop_ (c := c) h i.toNat (by omega) hc
    have ht2 := ReadsInt.take_ hd (j - i).toNat (by omega)
    rw [hl]
    exact ht2
  refine ⟨if c = i.toNat then A else A.map (·.add i.toNat), fun W => ?_, fun w h => ⟨key w h, ?_⟩⟩
  · have hel : P.elem t = e := by simp [Program.elem, ht]
    have hu : P.underlying t = some (.slice (P.elem t)) := by rw [hel]; exact ht
    rw [run_slice_lh W t A xs.length c hu .i64 .i64 i j h0 h1 (by omega), hel, hl]
    simp only [sizeOf, typeInfo]
    simp [hi0, hsz, sliced, Result.andThen, show j.toNat - i.toNat = (j - i).toNat from by omega]
  · refine ⟨_, _, by rw [hl], by omega, Kd.C_of_reads (d := (0 : Int)) (readsInt_of.1 (key w h)), fun hA => ?_⟩
    split at hA
    · omega
    · cases A with
      | none => have := hn rfl; omega
      | some a => cases hA

end Go.Proofs.YthefibpcepgoaaaDoor.HLib
