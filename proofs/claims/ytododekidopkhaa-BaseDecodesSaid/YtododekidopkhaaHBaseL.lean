/- The plain law of base: groups of bts. No program here. -/
import Derived.Test.YtododekidopkhaaHBaseS
namespace Go.Proofs.Ytododekidopkhaa.HBaseL
open Go.RowKit Go.Proofs.YtododekidopkhaaW.PrintWords Go.Proofs.Ytododekidopkhaa.HBaseS
set_option linter.unusedVariables false

def bts : Nat → Int → List Int
  | 0, _ => []
  | m + 1, v => bts m (v / 2) ++ [v % 2]
def val (l : List Int) : Int := l.foldl (fun a x => 2 * a + x) 0
/-- Full groups. -/
def chs (tw : Nat) (l : List Int) : List Int := (List.range (l.length / tw)).map fun i => val ((l.drop (tw * i)).take tw)
def padn (tw n : Nat) : Nat := (tw - n % tw) % tw
def pad (tw : Nat) (l : List Int) : List Int := l ++ List.replicate (padn tw l.length) 0

theorem bts_len (m : Nat) : ∀ v, (bts m v).length = m := by
  induction m with
  | zero => intro v; rfl
  | succ m ih => intro v; rw [bts, List.length_append, ih]; rfl
theorem bts_01 (m : Nat) : ∀ v, ∀ x ∈ bts m v, x = 0 ∨ x = 1 := by
  induction m with
  | zero => intro v x h; cases h
  | succ m ih =>
    intro v x h
    rw [bts, List.mem_append, List.mem_singleton] at h
    rcases h with h | h
    · exact ih _ x h
    · omega
theorem val_snoc (l : List Int) (x : Int) : val (l ++ [x]) = 2 * val l + x := by simp [val, List.foldl_append]
theorem val_bts (m : Nat) : ∀ v : Int, 0 ≤ v → v < 2 ^ m → val (bts m v) = v := by
  induction m with
  | zero => intro v h0 h1; simp [bts, val]; simp at h1; omega
  | succ m ih =>
    intro v h0 h1
    rw [Int.pow_succ] at h1
    rw [bts, val_snoc, ih (v / 2) (by omega) (by omega)]
    omega
theorem val_zeros (l : List Int) (k : Nat) : val (l ++ List.replicate k 0) = val l * 2 ^ k := by
  induction k with
  | zero => simp
  | succ k ih => rw [List.replicate_succ', ← List.append_assoc, val_snoc, ih, Int.pow_succ]; rw [Int.add_zero, Int.mul_left_comm, Int.mul_comm 2]
theorem bts_append (n m : Nat) : ∀ (a v : Int), 0 ≤ v → v < 2 ^ m → bts (n + m) (a * 2 ^ m + v) = bts n a ++ bts m v := by
  induction m with
  | zero => intro a v h0 h1; simp at h1; have : v = 0 := by omega
            subst this; simp [bts]
  | succ m ih =>
    intro a v h0 h1
    rw [Int.pow_succ] at h1
    rw [show n + (m + 1) = (n + m) + 1 from rfl, bts, bts, ← List.append_assoc, ← ih a (v / 2) (by omega) (by omega)]
    rw [Int.pow_succ, ← Int.mul_assoc]
    congr 2
    · congr 1; omega
    · omega
theorem val_range {tw : Nat} : ∀ (l : List Int), (∀ x ∈ l, x = 0 ∨ x = 1) → l.length = tw → 0 ≤ val l ∧ val l < 2 ^ tw ∧ bts tw (val l) = l := by
  induction tw with
  | zero => intro l _ h; rw [List.length_eq_zero_iff.1 h]; simp [val, bts]
  | succ tw ih =>
    intro l h h2
    obtain ⟨l', x, rfl⟩ : ∃ l' x, l = l' ++ [x] := ⟨l.dropLast, l.getLast (by intro e; rw [e] at h2; cases h2), (List.dropLast_concat_getLast _).symm⟩
    have hx := h x (by simp)
    obtain ⟨q1, q2, q3⟩ := ih l' (fun y hy => h y (by simp [hy])) (by simpa using h2)
    rw [val_snoc, bts, Int.pow_succ]
    refine ⟨by omega, by omega, ?_⟩
    rw [show (2 * val l' + x) / 2 = val l' from by omega, show (2 * val l' + x) % 2 = x from by omega, q3]
theorem flat_len (fr : Nat) (vs : List Int) : (vs.flatMap (bts fr)).length = fr * vs.length := by
  induction vs with
  | nil => simp
  | cons v vs ih => rw [List.flatMap_cons, List.length_append, bts_len, ih, List.length_cons, Nat.mul_succ, Nat.add_comm]
theorem flat_01 (fr : Nat) (vs : List Int) : ∀ x ∈ vs.flatMap (bts fr), x = 0 ∨ x = 1 := by
  intro x hx
  obtain ⟨v, _, h⟩ := List.mem_flatMap.1 hx
  exact bts_01 _ _ x h

theorem chs_cons {tw : Nat} (h0 : 0 < tw) {l : List Int} (h : tw ≤ l.length) : chs tw l = val (l.take tw) :: chs tw (l.drop tw) := by
  unfold chs
  have e : l.length / tw = (l.drop tw).length / tw + 1 := by
    rw [List.length_drop, Nat.div_eq_sub_div h0 h]
  rw [e, List.range_succ_eq_map, List.map_cons, List.map_map]
  simp only [Nat.mul_zero, List.drop_zero]
  congr 1
  refine List.map_congr_left fun i _ => ?_
  simp only [Function.comp, List.drop_drop]
  rw [show tw * Nat.succ i = tw + tw * i from by rw [Nat.mul_succ, Nat.add_comm]]
theorem chs_short {tw : Nat} {l : List Int} (h : l.length < tw) : chs tw l = [] := by
  unfold chs
  rw [Nat.div_eq_of_lt h]
  rfl

def G (tw : Nat) (l : List Int) : List (Int × Bool) :=
  (chs tw l).map (fun x => (x, true)) ++ if l.length % tw = 0 then [] else [(val (l.drop (tw * (l.length / tw)) ++ List.replicate (tw - l.length % tw) 0), false)]
theorem G_cons {tw : Nat} (h0 : 0 < tw) {l : List Int} (h : tw ≤ l.length) : G tw l = (val (l.take tw), true) :: G tw (l.drop tw) := by
  unfold G
  have e1 : (l.drop tw).length % tw = l.length % tw := by rw [List.length_drop]; exact (Nat.mod_eq_sub_mod h).symm
  have e2 : l.length / tw = (l.drop tw).length / tw + 1 := by rw [List.length_drop, Nat.div_eq_sub_div h0 h]
  rw [chs_cons h0 h, e1, e2, List.map_cons, List.cons_append, List.drop_drop, Nat.mul_succ, Nat.add_comm (tw * _) tw]
theorem drn_G {tw : Nat} (h0 : 0 < tw) (r : List Int) : ∀ f n (a : Int), n ≤ f → 0 ≤ a → a < 2 ^ n →
    G tw (bts n a ++ r) = (drn tw f a n).1.map (fun x => (x, true)) ++ G tw (bts (drn tw f a n).2.2 (drn tw f a n).2.1 ++ r) := by
  intro f
  induction f with
  | zero => intro n a h h1 h2; rw [drn_done (by omega)]; rfl
  | succ f ih =>
    intro n a h h1 h2
    by_cases c : tw ≤ n
    · rw [drn_step c]
      have hp : (0 : Int) < 2 ^ (n - tw) := Int.pow_pos (by decide)
      have q1 := Int.emod_nonneg a (show (2 : Int) ^ (n - tw) ≠ 0 by omega)
      have q2 := Int.emod_lt_of_pos a hp
      have e : bts n a = bts tw (a / 2 ^ (n - tw)) ++ bts (n - tw) (a % 2 ^ (n - tw)) := by
        rw [← bts_append tw (n - tw) _ _ q1 q2, show tw + (n - tw) = n from by omega]
        congr 1
        rw [Int.mul_comm]
        exact (Int.mul_ediv_add_emod a (2 ^ (n - tw))).symm
      have hd : a / 2 ^ (n - tw) < 2 ^ tw := Int.ediv_lt_of_lt_mul hp (by rw [← Int.pow_add, show tw + (n - tw) = n from by omega]; exact h2)
      rw [e, List.append_assoc, G_cons h0 (by rw [List.length_append, bts_len]; omega)]
      rw [List.take_left' (bts_len _ _), List.drop_left' (bts_len _ _), val_bts tw _ (Int.ediv_nonneg h1 (by omega)) hd, ih (n - tw) _ (by omega) q1 q2]
      rfl
    · rw [drn_done (by omega)]; rfl
theorem rg_G {fr tw : Nat} (h0 : 0 < tw) (h16 : tw + fr ≤ 16) : ∀ (vs : List Int) (a : Int) (n : Nat), (∀ v ∈ vs, 0 ≤ v ∧ v < 2 ^ fr) → 0 ≤ a → a < 2 ^ n → n < tw →
    rg fr tw vs a n = G tw (bts n a ++ vs.flatMap (bts fr)) := by
  intro vs
  induction vs with
  | nil =>
    intro a n _ h1 h2 h3
    rw [List.flatMap_nil, List.append_nil, rg, G, chs_short (by rw [bts_len]; exact h3), bts_len, Nat.mod_eq_of_lt h3, Nat.div_eq_of_lt h3]
    by_cases c : n = 0
    · rw [if_neg (by omega), if_pos c]; rfl
    · rw [if_pos (by omega), if_neg c, Nat.mul_zero, List.drop_zero, val_zeros, val_bts n a h1 h2]; rfl
  | cons v vs ih =>
    intro a n hv h1 h2 h3
    have hvv := hv v (List.mem_cons_self ..)
    have hq : (0 : Int) < 2 ^ fr := Int.pow_pos (by decide)
    have hlt : a * 2 ^ fr + v < 2 ^ (n + fr) := by
      rw [Int.pow_add]
      have : (a + 1) * 2 ^ fr ≤ 2 ^ n * 2 ^ fr := Int.mul_le_mul_of_nonneg_right (by omega) (by omega)
      rw [Int.add_mul, Int.one_mul] at this
      omega
    have hge : 0 ≤ a * 2 ^ fr + v := by have := Int.mul_nonneg h1 (Int.le_of_lt hq); omega
    obtain ⟨q1, q2, q3, q4⟩ := drn_rest h0 16 (n + fr) (a * 2 ^ fr + v) (by omega) hge hlt
    rw [rg, List.flatMap_cons, ← List.append_assoc, ← bts_append n fr a v hvv.1 hvv.2, drn_G h0 _ 16 (n + fr) _ (by omega) hge hlt,
      ih _ _ (fun y hy => hv y (List.mem_cons_of_mem _ hy)) q1 q2 q3]

theorem rg_full {fr tw : Nat} (h0 : 0 < tw) (h16 : tw + fr ≤ 16) (vs : List Int) (hv : ∀ v ∈ vs, 0 ≤ v ∧ v < 2 ^ fr) :
    ((rg fr tw vs 0 0).filter (·.2)).map (·.1) = chs tw (vs.flatMap (bts fr)) := by
  rw [rg_G h0 h16 vs 0 0 hv (by decide) (by decide) h0, show bts 0 0 = [] from rfl, List.nil_append, G, List.filter_append, List.map_append]
  have e1 : ∀ l : List Int, ((l.map fun x => (x, true)).filter (·.2)).map (·.1) = l := by
    intro l
    induction l with
    | nil => rfl
    | cons x l ih => simp only [List.map_cons, List.filter_cons_of_pos, ih]
  rw [e1]
  split <;> simp
theorem chs_append_full {tw : Nat} (h0 : 0 < tw) : ∀ (k : Nat) (l r : List Int), l.length = tw * k → chs tw (l ++ r) = chs tw l ++ chs tw r := by
  intro k
  induction k with
  | zero => intro l r h; have e : l = [] := List.length_eq_zero_iff.1 (by simpa using h)
            rw [e, chs_short (l := []) (by simpa using h0)]; rfl
  | succ k ih =>
    intro l r h
    rw [Nat.mul_succ] at h
    rw [chs_cons h0 (l := l ++ r) (by rw [List.length_append]; omega), chs_cons h0 (l := l) (by omega), List.take_append_of_le_length (by omega), List.drop_append_of_le_length (by omega),
      ih _ _ (by rw [List.length_drop]; omega)]
    rfl
theorem chs_one {tw : Nat} (h0 : 0 < tw) {l : List Int} (h : l.length = tw) : chs tw l = [val l] := by
  rw [chs_cons h0 (by omega), chs_short (by rw [List.length_drop]; omega), List.take_of_length_le (by omega)]
theorem rg_all {fr tw : Nat} (h0 : 0 < tw) (h16 : tw + fr ≤ 16) (vs : List Int) (hv : ∀ v ∈ vs, 0 ≤ v ∧ v < 2 ^ fr) :
    (rg fr tw vs 0 0).map (·.1) = chs tw (pad tw (vs.flatMap (bts fr))) := by
  rw [rg_G h0 h16 vs 0 0 hv (by decide) (by decide) h0, show bts 0 0 = [] from rfl, List.nil_append, G, List.map_append, List.map_map]
  generalize vs.flatMap (bts fr) = l
  rw [show (chs tw l).map ((·.1) ∘ fun x => (x, true)) = chs tw l from by rw [show ((·.1) ∘ fun x : Int => (x, true)) = id from rfl, List.map_id]]
  have hm := Nat.mod_lt l.length h0
  by_cases c : l.length % tw = 0
  · rw [if_pos c, pad, padn, c, Nat.sub_zero, Nat.mod_self]
    simp
  · have hd := Nat.div_add_mod l.length tw
    rw [if_neg c, pad, padn, Nat.mod_eq_of_lt (show tw - l.length % tw < tw by omega)]
    have e : l ++ List.replicate (tw - l.length % tw) 0 = l.take (tw * (l.length / tw)) ++ (l.drop (tw * (l.length / tw)) ++ List.replicate (tw - l.length % tw) 0) := by
      rw [← List.append_assoc, List.take_append_drop]
    have e2 : chs tw (l.take (tw * (l.length / tw))) = chs tw l := by
      have h := chs_append_full h0 (l.length / tw) (l.take (tw * (l.length / tw))) (l.drop (tw * (l.length / tw))) (by rw [List.length_take]; omega)
      rw [List.take_append_drop, chs_short (l := l.drop _) (by rw [List.length_drop]; omega), List.append_nil] at h
      exact h.symm
    rw [e, chs_append_full h0 (l.length / tw) _ _ (by rw [List.length_take]; omega), e2, chs_one h0 (l := l.drop _ ++ _) (by rw [List.length_append, List.length_drop, List.length_replicate]; omega)]
    rfl
/-- Back. -/
theorem chs_of_bts {tw : Nat} (h0 : 0 < tw) (r : List Int) (hr : r.length < tw) : ∀ (xs : List Int), (∀ x ∈ xs, 0 ≤ x ∧ x < 2 ^ tw) → chs tw (xs.flatMap (bts tw) ++ r) = xs := by
  intro xs
  induction xs with
  | nil => intro _; rw [List.flatMap_nil, List.nil_append, chs_short hr]
  | cons x xs ih =>
    intro h
    rw [List.flatMap_cons, List.append_assoc, chs_cons h0 (by rw [List.length_append, bts_len]; omega), List.take_left' (bts_len _ _), List.drop_left' (bts_len _ _),
      ih (fun y hy => h y (List.mem_cons_of_mem _ hy)), val_bts tw x (h x (List.mem_cons_self ..)).1 (h x (List.mem_cons_self ..)).2]
theorem chs_split {tw : Nat} (h0 : 0 < tw) : ∀ (k : Nat) (l : List Int), l.length / tw = k → (∀ x ∈ l, x = 0 ∨ x = 1) → l = (chs tw l).flatMap (bts tw) ++ l.drop (tw * k) := by
  intro k
  induction k with
  | zero => intro l h _; rw [chs_short ((Nat.div_eq_zero_iff_lt h0).1 h)]; simp
  | succ k ih =>
    intro l h h1
    have hl : tw ≤ l.length := by
      have := Nat.div_add_mod l.length tw
      rw [h, Nat.mul_succ] at this
      omega
    obtain ⟨_, _, q⟩ := val_range (tw := tw) (l.take tw) (fun x hx => h1 x (List.mem_of_mem_take hx)) (by rw [List.length_take]; omega)
    have hk : (l.drop tw).length / tw = k := by
      rw [List.length_drop]
      have := Nat.div_eq_sub_div h0 hl
      omega
    rw [chs_cons h0 hl, List.flatMap_cons, q, List.append_assoc]
    have := ih (l.drop tw) hk (fun x hx => h1 x (List.mem_of_mem_drop hx))
    rw [List.drop_drop] at this
    rw [Nat.mul_succ, Nat.add_comm (tw * k) tw, ← this, List.take_append_drop]
theorem chs_range {tw : Nat} (h0 : 0 < tw) (l : List Int) (h : ∀ x ∈ l, x = 0 ∨ x = 1) : ∀ x ∈ chs tw l, 0 ≤ x ∧ x < 2 ^ tw := by
  intro x hx
  obtain ⟨i, hi, rfl⟩ := List.mem_map.1 hx
  have hi := List.mem_range.1 hi
  have h2 : (i + 1) * tw ≤ l.length := Nat.le_trans (Nat.mul_le_mul_right _ hi) (Nat.div_mul_le_self _ _)
  rw [Nat.succ_mul, Nat.mul_comm] at h2
  obtain ⟨q1, q2, _⟩ := val_range (tw := tw) ((l.drop (tw * i)).take tw) (fun x hx => h x (List.mem_of_mem_drop (List.mem_of_mem_take hx))) (by rw [List.length_take, List.length_drop]; omega)
  exact ⟨q1, q2⟩

end Go.Proofs.Ytododekidopkhaa.HBaseL
