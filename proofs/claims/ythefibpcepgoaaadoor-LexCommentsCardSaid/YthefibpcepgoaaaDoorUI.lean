/- The plain law of comments around a text. No program here. -/
import Derived.Test.YthefibpcepgoaaaDoorHLexJ
namespace Go.Proofs.YthefibpcepgoaaaDoor.HLexI
open Go.RowKit Go.Proofs.YthefibpcepgoaaaDoorW.PrintWords Go.Proofs.YthefibpcepgoaaaDoor.HNameP Go.Proofs.YthefibpcepgoaaaDoor.HLexP Go.Proofs.YthefibpcepgoaaaDoor.HLexJ
set_option linter.unusedVariables false

theorem lexG_at (s : ByteArray) : ∀ (f i : Nat) (out : List Tok) (c n : Int), i ≤ s.size → lexG s f i out = .inl (c, n) → 0 ≤ n ∧ n ≤ (s.size : Int) := by
  intro f
  induction f with
  | zero => intro i out c n hi h; rw [lexG] at h; cases h
  | succ f ih =>
    intro i out c n hi h
    rw [lexG] at h
    split at h
    · cases h
    · split at h
      · exact ih _ _ _ _ (by omega) h
      · split at h
        · have := runLn_le notNL (rest s i)
          rw [rest_size] at this
          exact ih _ _ _ _ (by omega) h
        · split at h
          · have := runLn_le inW (rest s i)
            rw [rest_size] at this
            split at h
            · exact ih _ _ _ _ (by omega) h
            · injection h with h; injection h with h1 h2; omega
          · split at h
            · rename_i c5
              have := (two_iff s i 45 62).1 c5
              exact ih _ _ _ _ (by omega) h
            · split at h
              · exact ih _ _ _ _ (by omega) h
              · injection h with h; injection h with h1 h2; omega
theorem lexP_at {s : ByteArray} (hs : s.size ≤ 65536) {c n : Int} (h : lexP s = .inl (c, n)) : 0 ≤ n ∧ n ≤ (s.size : Int) := by
  rw [lexP, if_neg (by omega)] at h
  exact lexG_at s _ 0 [] c n (by omega) h
/-- A text with comments and spaces around it. -/
structure Around (s T : ByteArray) (b cs : Nat) : Prop where
  size : T.size = 2 * b + 2 * cs + s.size + 6
  sp : ∀ k : Nat, k < b → spC (bt T k) = true
  c0 : bt T b = 47
  c1 : bt T (b + 1 : Nat) = 47
  cc : ∀ k : Nat, k < cs → bt T (b + 2 + k : Nat) ≠ 10
  nl : bt T (b + 2 + cs : Nat) = 10
  body : ∀ k : Nat, k < s.size → bt T (b + 3 + cs + k : Nat) = bt s k
  nl2 : bt T (b + 3 + cs + s.size : Nat) = 10
  d0 : bt T (b + 4 + cs + s.size : Nat) = 47
  d1 : bt T (b + 5 + cs + s.size : Nat) = 47
  ec : ∀ k : Nat, k < cs → bt T (b + 6 + cs + s.size + k : Nat) ≠ 10
  sp2 : ∀ k : Nat, k < b → spC (bt T (b + 6 + 2 * cs + s.size + k : Nat)) = true
theorem around_tail {s T : ByteArray} {b cs : Nat} (h : Around s T b cs) (f : Nat) (out : List Tok) (hf : T.size < b + 3 + cs + s.size + f) : lexG T f (b + 3 + cs + s.size) out = .inr (out ++ [(3, ⟨#[]⟩, (T.size : Int))]) := by
  have hsz := h.size
  obtain ⟨f1, rfl⟩ : ∃ k, f = k + 1 := ⟨f - 1, by omega⟩
  rw [lexG, if_neg (by omega), if_pos (by rw [h.nl2]; rfl)]
  obtain ⟨f2, rfl⟩ : ∃ k, f1 = k + 1 := ⟨f1 - 1, by omega⟩
  have e1 : b + 3 + cs + s.size + 1 = b + 4 + cs + s.size := by omega
  have e2 : b + 4 + cs + s.size + 1 = b + 5 + cs + s.size := by omega
  have htw : two T (b + 4 + cs + s.size) 47 47 = true := (two_iff T _ 47 47).2 ⟨by omega, h.d0, by rw [e2]; exact h.d1⟩
  rw [e1, lexG, if_neg (by omega), if_neg (by rw [h.d0]; decide), if_pos htw]
  have hle := runLn_le notNL (rest T (b + 4 + cs + s.size))
  rw [rest_size] at hle
  have hge : 2 + cs ≤ runLn notNL (rest T (b + 4 + cs + s.size)) := by
    apply Nat.le_of_not_lt
    intro hlt
    have he := run_end notNL T (b + 4 + cs + s.size) (by omega)
    generalize runLn notNL (rest T (b + 4 + cs + s.size)) = m at *
    have h10 : bt T (b + 4 + cs + s.size + m : Nat) = 10 := by
      simp only [notNL, Bool.not_eq_false', beq_iff_eq] at he
      exact he
    rcases Nat.lt_or_ge m 2 with h2 | h2
    · rcases (show m = 0 ∨ m = 1 by omega) with rfl | rfl
      · rw [Nat.add_zero, h.d0] at h10; cases h10
      · rw [e2, h.d1] at h10; cases h10
    · have := h.ec (m - 2) (by omega)
      rw [show b + 6 + cs + s.size + (m - 2) = b + 4 + cs + s.size + m from by omega] at this
      exact this h10
  generalize runLn notNL (rest T (b + 4 + cs + s.size)) = m at *
  refine lexG_spaces T 0 f2 _ out (by omega) (by omega) (fun k h1 h2 => ?_)
  have := h.sp2 (k - (b + 6 + 2 * cs + s.size)) (by omega)
  rw [show b + 6 + 2 * cs + s.size + (k - (b + 6 + 2 * cs + s.size)) = k from by omega] at this
  exact this
theorem around_told {s T : ByteArray} {b cs : Nat} (h : Around s T b cs) (hT : T.size ≤ 65536) : HLexJ.Told (b + 3 + cs) (lexP s) (lexP T) := by
  have hsz := h.size
  rw [lexP, lexP, if_neg (by omega), if_neg (by omega)]
  obtain ⟨g1, hg1, e1⟩ := lexG_front T b (T.size + 1) 0 [] (by omega) (by omega) (fun k _ hk => h.sp k (by omega))
  rw [e1, Nat.zero_add]
  rw [Nat.zero_add] at hg1
  obtain ⟨g2, rfl⟩ : ∃ k, g1 = k + 1 := ⟨g1 - 1, by omega⟩
  rw [lexG_comment T g2 b (2 + cs) [] (by omega) h.c0 h.c1 (by omega) (fun k hk => by
    rcases Nat.lt_or_ge k 2 with h2 | h2
    · rcases (show k = 0 ∨ k = 1 by omega) with rfl | rfl
      · rw [Nat.add_zero, h.c0]; decide
      · rw [h.c1]; decide
    · have := h.cc (k - 2) (by omega)
      rwa [show b + 2 + (k - 2) = b + k from by omega] at this) (fun _ => by rw [← Nat.add_assoc]; exact h.nl)]
  obtain ⟨g3, rfl⟩ : ∃ k, g2 = k + 1 := ⟨g2 - 1, by omega⟩
  rw [show lexG T (g3 + 1) (b + (2 + cs)) [] = lexG T g3 (b + 3 + cs) [] from by rw [lexG, if_neg (by omega), ← Nat.add_assoc, if_pos (by rw [h.nl]; rfl), show b + 2 + cs + 1 = b + 3 + cs from by omega]]
  exact lexG_inside ⟨by omega, h.body, h.nl2⟩ (fun f out hf => around_tail h f out hf) (s.size + 1) 0 g3 [] [] (by omega) (by omega) (by omega) rfl

theorem bt_app (a b : ByteArray) (k : Nat) : bt (a ++ b) k = if k < a.size then bt a k else bt b (k - a.size : Nat) := by
  have e : ∀ (s : ByteArray) (k : Nat), bt s k = (bytesOf s).getD k 0 := fun s k => by rw [← rd_bytesOf]; rfl
  have ha : bytesOf (a ++ b) = bytesOf a ++ bytesOf b := by
    unfold bytesOf
    rw [ByteArray.data_append, Array.toList_append, List.map_append]
  rw [e, e, e, ha]
  have hl := bytesOf_length a
  by_cases h : k < a.size
  · rw [if_pos h, List.getD_eq_getElem?_getD, List.getElem?_append_left (by omega), ← List.getD_eq_getElem?_getD]
  · rw [if_neg h, List.getD_eq_getElem?_getD, List.getElem?_append_right (by omega), hl, ← List.getD_eq_getElem?_getD]
def CC : ByteArray := ⟨#[47, 47]⟩
def NN : ByteArray := ⟨#[10]⟩
def NC : ByteArray := ⟨#[10, 47, 47]⟩
theorem bt_l (a b : ByteArray) (k : Nat) (h : k < a.size) : bt (a ++ b) k = bt a k := by rw [bt_app, if_pos h]
theorem bt_r (a b : ByteArray) (k m : Nat) (h : k = a.size + m) : bt (a ++ b) k = bt b m := by
  rw [bt_app, if_neg (by omega), show k - a.size = m from by omega]
theorem around_text (s c bl : ByteArray) (hc : ∀ k : Nat, k < c.size → bt c k ≠ 10) (hb : ∀ k : Nat, k < bl.size → spC (bt bl k) = true) : Around s (bl ++ CC ++ c ++ NN ++ s ++ NC ++ c ++ bl) bl.size c.size := by
  have z2 : CC.size = 2 := rfl
  have z1 : NN.size = 1 := rfl
  have z3 : NC.size = 3 := rfl
  have a1 : (bl ++ CC).size = bl.size + 2 := by rw [ByteArray.size_append]; rfl
  have a2 : (bl ++ CC ++ c).size = bl.size + 2 + c.size := by rw [ByteArray.size_append, a1]
  have a3 : (bl ++ CC ++ c ++ NN).size = bl.size + 3 + c.size := by rw [ByteArray.size_append, a2, z1]; omega
  have a4 : (bl ++ CC ++ c ++ NN ++ s).size = bl.size + 3 + c.size + s.size := by rw [ByteArray.size_append, a3]
  have a5 : (bl ++ CC ++ c ++ NN ++ s ++ NC).size = bl.size + 6 + c.size + s.size := by rw [ByteArray.size_append, a4, z3]; omega
  have a6 : (bl ++ CC ++ c ++ NN ++ s ++ NC ++ c).size = bl.size + 6 + 2 * c.size + s.size := by rw [ByteArray.size_append, a5]; omega
  have b6 : ∀ k : Nat, k < bl.size + 6 + 2 * c.size + s.size → bt (bl ++ CC ++ c ++ NN ++ s ++ NC ++ c ++ bl) k = bt (bl ++ CC ++ c ++ NN ++ s ++ NC ++ c) k := fun k h => bt_l _ _ k (by omega)
  have b5 : ∀ k : Nat, k < bl.size + 6 + c.size + s.size → bt (bl ++ CC ++ c ++ NN ++ s ++ NC ++ c ++ bl) k = bt (bl ++ CC ++ c ++ NN ++ s ++ NC) k := fun k h => by rw [b6 k (by omega)]; exact bt_l _ _ k (by omega)
  have b4 : ∀ k : Nat, k < bl.size + 3 + c.size + s.size → bt (bl ++ CC ++ c ++ NN ++ s ++ NC ++ c ++ bl) k = bt (bl ++ CC ++ c ++ NN ++ s) k := fun k h => by rw [b5 k (by omega)]; exact bt_l _ _ k (by omega)
  have b3 : ∀ k : Nat, k < bl.size + 3 + c.size → bt (bl ++ CC ++ c ++ NN ++ s ++ NC ++ c ++ bl) k = bt (bl ++ CC ++ c ++ NN) k := fun k h => by rw [b4 k (by omega)]; exact bt_l _ _ k (by omega)
  have b2 : ∀ k : Nat, k < bl.size + 2 + c.size → bt (bl ++ CC ++ c ++ NN ++ s ++ NC ++ c ++ bl) k = bt (bl ++ CC ++ c) k := fun k h => by rw [b3 k (by omega)]; exact bt_l _ _ k (by omega)
  have b1 : ∀ k : Nat, k < bl.size + 2 → bt (bl ++ CC ++ c ++ NN ++ s ++ NC ++ c ++ bl) k = bt (bl ++ CC) k := fun k h => by rw [b2 k (by omega)]; exact bt_l _ _ k (by omega)
  refine ⟨by rw [ByteArray.size_append, a6]; omega, fun k h => ?_, ?_, ?_, fun k h => ?_, ?_, fun k h => ?_, ?_, ?_, ?_, fun k h => ?_, fun k h => ?_⟩
  · rw [b1 k (by omega), bt_l _ _ k (by omega)]; exact hb k h
  · rw [b1 _ (by omega), bt_r bl CC _ 0 (by omega)]; rfl
  · rw [b1 _ (by omega), bt_r bl CC _ 1 (by omega)]; rfl
  · rw [b2 _ (by omega), bt_r (bl ++ CC) c _ k (by omega)]; exact hc k h
  · rw [b3 _ (by omega), bt_r (bl ++ CC ++ c) NN _ 0 (by omega)]; rfl
  · rw [b4 _ (by omega), bt_r (bl ++ CC ++ c ++ NN) s _ k (by omega)]
  · rw [b5 _ (by omega), bt_r (bl ++ CC ++ c ++ NN ++ s) NC _ 0 (by omega)]; rfl
  · rw [b5 _ (by omega), bt_r (bl ++ CC ++ c ++ NN ++ s) NC _ 1 (by omega)]; rfl
  · rw [b5 _ (by omega), bt_r (bl ++ CC ++ c ++ NN ++ s) NC _ 2 (by omega)]; rfl
  · rw [b6 _ (by omega), bt_r (bl ++ CC ++ c ++ NN ++ s ++ NC) c _ k (by omega)]; exact hc k h
  · rw [bt_r (bl ++ CC ++ c ++ NN ++ s ++ NC ++ c) bl _ k (by omega)]; exact hb k h
end Go.Proofs.YthefibpcepgoaaaDoor.HLexI
