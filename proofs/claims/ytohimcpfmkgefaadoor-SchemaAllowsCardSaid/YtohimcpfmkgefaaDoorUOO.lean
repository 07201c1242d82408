/- The order of expressions; their texts: plain. -/
import Derived.Test.YtohimcpfmkgefaaDoorUEB
namespace Go.Proofs.YtohimcpfmkgefaaDoor.HExO
open Go.RowKit Go.Proofs.YtohimcpfmkgefaaDoorW.PrintWords Go.Proofs.YtohimcpfmkgefaaDoor.HLib Go.Proofs.YtohimcpfmkgefaaDoor.HNameP Go.Proofs.YtohimcpfmkgefaaDoor.HCmp Go.Proofs.YtohimcpfmkgefaaDoor.HExP Go.Proofs.YtohimcpfmkgefaaDoor.HExR Go.Proofs.YtohimcpfmkgefaaDoor.HExQ Go.Proofs.YtohimcpfmkgefaaDoor.HExX
open Go.Proofs.YtohimcpfmkgefaaDoor.PSchemaAllows
set_option linter.unusedVariables false
set_option linter.unusedSimpArgs false
/-- Three comparisons of x, y, z: (x, y), (y, z), (x, z). -/
def T3 (a b c : Int) : Prop := (a ≤ 0 → b ≤ 0 → c ≤ 0) ∧ (a ≤ 0 → b ≤ 0 → c = 0 → a = 0 ∧ b = 0) ∧ (a = 0 → c = b) ∧ (b = 0 → c = a)
theorem T3.or {a b c a' b' c' : Int} (h : T3 a b c) (k : T3 a' b' c') : T3 (orI a a') (orI b b') (orI c c') := by
  obtain ⟨h1, h2, h3, h4⟩ := h
  obtain ⟨k1, k2, k3, k4⟩ := k
  unfold orI
  by_cases ea : a = 0 <;> by_cases eb : b = 0 <;> by_cases ec : c = 0 <;> simp only [ea, eb, ec, if_true, if_false, ite_true, ite_false] <;> (refine ⟨?_, ?_, ?_, ?_⟩ <;> omega)
theorem t3_I (x y z : Int) : T3 (cmpI x y) (cmpI y z) (cmpI x z) := by
  unfold cmpI T3
  refine ⟨?_, ?_, ?_, ?_⟩ <;> (repeat' split) <;> omega
theorem t3_S (x y z : ByteArray) : T3 (cmpS x y) (cmpS y z) (cmpS x z) := by
  refine ⟨fun h k => cmpL_trans _ _ _ h k, fun h k e => ?_, fun e => ?_, fun e => ?_⟩
  · obtain rfl := cmpS_zero e
    have := cmpS_swap x y
    omega
  · obtain rfl := cmpS_zero e; rfl
  · obtain rfl := cmpS_zero e; rfl
theorem t3_E : (∀ x y z : Ex, T3 (cmpE x y) (cmpE y z) (cmpE x z)) ∧ ∀ xs ys zs : List Ex, T3 (cmpX xs ys) (cmpX ys zs) (cmpX xs zs) := by
  refine ex_ind (p := fun x => ∀ y z : Ex, T3 (cmpE x y) (cmpE y z) (cmpE x z)) (q := fun xs => ∀ ys zs : List Ex, T3 (cmpX xs ys) (cmpX ys zs) (cmpX xs zs)) ?_ ?_ ?_
  · intro ys zs
    cases ys with
    | nil => cases zs <;> simp only [cmpX] <;> unfold T3 <;> omega
    | cons y ys =>
      cases zs with
      | nil => simp only [cmpX]; unfold T3; omega
      | cons z zs => simp only [cmpX]; unfold T3; omega
  · intro x xs ihx ihs ys zs
    cases ys with
    | nil => cases zs <;> simp only [cmpX] <;> unfold T3 <;> omega
    | cons y ys =>
      cases zs with
      | nil => simp only [cmpX]; unfold T3; omega
      | cons z zs =>
        rw [cmpX, cmpX, cmpX]
        exact (ihx y z).or (ihs ys zs)
  · intro x ih y z
    rw [cmp_eq, cmp_eq y z, cmp_eq x z]
    exact (t3_I _ _ _).or ((t3_S _ _ _).or ((t3_S _ _ _).or (ih y.f3 z.f3)))
theorem or_neg (a b : Int) : orI (-a) (-b) = - orI a b := by
  unfold orI
  by_cases h : a = 0
  · rw [if_pos h, if_pos (by omega)]
  · rw [if_neg h, if_neg (by omega)]
theorem cmpI_swap (a b : Int) : cmpI b a = - cmpI a b := by unfold cmpI; (repeat' split) <;> omega
theorem swap_E : (∀ x y : Ex, cmpE y x = - cmpE x y) ∧ ∀ xs ys : List Ex, cmpX ys xs = - cmpX xs ys := by
  refine ex_ind (p := fun x => ∀ y : Ex, cmpE y x = - cmpE x y) (q := fun xs => ∀ ys : List Ex, cmpX ys xs = - cmpX xs ys) ?_ ?_ ?_
  · intro ys
    cases ys with
    | nil => rw [cmpX]; rfl
    | cons y ys => rw [cmpX, cmpX]; rfl
  · intro x xs ihx ihs ys
    cases ys with
    | nil => rw [cmpX, cmpX]
    | cons y ys => rw [cmpX, cmpX, ihx, ihs, or_neg]
  · intro x ih y
    rw [cmp_eq, cmp_eq x y, cmpI_swap, cmpS_swap, cmpS_swap x.f2, ih, or_neg, or_neg, or_neg]
theorem or_zero {a b : Int} (h : orI a b = 0) : a = 0 ∧ b = 0 := by
  unfold orI at h
  by_cases e : a = 0
  · rw [if_pos e] at h; exact ⟨e, h⟩
  · rw [if_neg e] at h; exact absurd h e
theorem cmpI_zero {a b : Int} (h : cmpI a b = 0) : a = b := by
  unfold cmpI at h
  by_cases h1 : a < b
  · rw [if_pos h1] at h; omega
  · rw [if_neg h1] at h
    by_cases h2 : b < a
    · rw [if_pos h2] at h; omega
    · omega
theorem zero_E : (∀ x y : Ex, cmpE x y = 0 → x = y) ∧ ∀ xs ys : List Ex, cmpX xs ys = 0 → xs = ys := by
  refine ex_ind (p := fun x => ∀ y : Ex, cmpE x y = 0 → x = y) (q := fun xs => ∀ ys : List Ex, cmpX xs ys = 0 → xs = ys) ?_ ?_ ?_
  · intro ys h
    cases ys with
    | nil => rfl
    | cons y ys => rw [cmpX] at h; omega
  · intro x xs ihx ihs ys h
    cases ys with
    | nil => rw [cmpX] at h; omega
    | cons y ys =>
      rw [cmpX] at h
      obtain ⟨h1, h2⟩ := or_zero h
      rw [ihx y h1, ihs ys h2]
  · intro x ih y h
    rw [cmp_eq] at h
    obtain ⟨h1, h⟩ := or_zero h
    obtain ⟨h2, h⟩ := or_zero h
    obtain ⟨h3, h4⟩ := or_zero h
    rw [← mk_eta x, ← mk_eta y, cmpI_zero h1, cmpS_zero h2, cmpS_zero h3, ih _ h4]
theorem self_E (x : Ex) : cmpE x x = 0 := by have := swap_E.1 x x; omega
theorem trans_E {x y z : Ex} (h : cmpE x y ≤ 0) (k : cmpE y z ≤ 0) : cmpE x z ≤ 0 := (t3_E.1 x y z).1 h k
theorem zero_iff (x y : Ex) : cmpE x y = 0 ↔ x = y := ⟨zero_E.1 x y, fun h => by rw [h]; exact self_E y⟩

/-! ### the texts of right expressions -/
def nosp (l : List UInt8) : Prop := ∀ c ∈ l, c ≠ 32 ∧ c ≠ 40 ∧ c ≠ 41
def stop (l : List UInt8) : Prop := l = [] ∨ ∃ c r, l = c :: r ∧ (c = 32 ∨ c = 41)
def stop2 (l : List UInt8) : Prop := l = [] ∨ ∃ r, l = 41 :: r
theorem stop2.stop {l : List UInt8} (h : stop2 l) : stop l := by
  rcases h with h | ⟨r, h⟩
  · exact .inl h
  · exact .inr ⟨41, r, h, .inr rfl⟩
theorem split_eq : ∀ (a b r r' : List UInt8), nosp a → nosp b → stop r → stop r' → a ++ r = b ++ r' → a = b ∧ r = r'
  | [], [], r, r', _, _, _, _, h => ⟨rfl, h⟩
  | [], c :: b, r, r', _, hb, hr, _, h => by
    have hc := hb c (by simp)
    rcases hr with hr | ⟨d, q, hr, hd⟩
    · rw [hr] at h; simp at h
    · rw [hr] at h
      simp at h
      rcases hd with hd | hd
      · exact absurd (h.1 ▸ hd) hc.1
      · exact absurd (h.1 ▸ hd) hc.2.2
  | c :: a, [], r, r', ha, _, _, hr, h => by
    have hc := ha c (by simp)
    rcases hr with hr | ⟨d, q, hr, hd⟩
    · rw [hr] at h; simp at h
    · rw [hr] at h
      simp at h
      rcases hd with hd | hd
      · exact absurd (h.1.trans hd) hc.1
      · exact absurd (h.1.trans hd) hc.2.2
  | c :: a, d :: b, r, r', ha, hb, hr, hr', h => by
    simp only [List.cons_append, List.cons.injEq] at h
    obtain ⟨h1, h2⟩ := split_eq a b r r' (fun x hx => ha x (by simp [hx])) (fun x hx => hb x (by simp [hx])) hr hr' h.2
    exact ⟨by rw [h.1, h1], h2⟩
/-- The bytes of a name. -/
theorem name_bytes {s : ByteArray} (h : isP s = true) : s.data.toList ≠ [] ∧ ∀ c ∈ s.data.toList, c ≠ 32 ∧ c ≠ 40 ∧ c ≠ 41 ∧ c ≠ 45 := by
  have hsz := (name_size h).1
  simp only [isP, Bool.and_eq_true, decide_eq_true_eq] at h
  have hall := h.2.2.2.1
  refine ⟨fun e => by have h0 := data_length s; rw [e] at h0; simp at h0; omega, fun c hc => ?_⟩
  obtain ⟨i, hi, he⟩ := List.mem_iff_getElem.1 hc
  have hi2 : i < s.size := by rw [data_length] at hi; exact hi
  unfold allC at hall
  have h1 := List.all_eq_true.1 hall i (List.mem_range.2 hi2)
  have h2 : bt s (i : Int) = (c.toNat : Int) := by
    rw [← bt_at s i (by rw [Int.toNat_natCast]; exact hi2), ← he]
    rfl
  rw [h2] at h1
  have key : ∀ n : Nat, nameC (n : Int) = true → n ≠ 32 ∧ n ≠ 40 ∧ n ≠ 41 ∧ n ≠ 45 := by
    intro n hn
    simp only [nameC, smallC, digitC, Bool.or_eq_true, Bool.and_eq_true, decide_eq_true_eq, beq_iff_eq] at hn
    omega
  have := key _ h1
  refine ⟨?_, ?_, ?_, ?_⟩ <;> (rintro rfl; simp at this)
theorem leaf_kind {x : Ex} (hf : frmE x = true) : leafK x.f0 = true ↔ (x.f0 = 1 ∨ x.f0 = 2) := by
  rcases kind_range hf with h | h | ⟨h, _⟩
  · rw [h]; simp [leafK]
  · rw [h]; simp [leafK]
  · rcases h with h | h | h <;> rw [h] <;> simp [leafK]
theorem leaf_tx {x : Ex} (hf : frmE x = true) (hl : leafK x.f0 = true) : nosp (txE x) ∧ txE x ≠ [] := by
  have hn : namesK x.f0 x.f1 x.f2 = true := by rw [frm_eq, Bool.and_eq_true] at hf; exact hf.1
  rw [tx_eq]
  rcases (leaf_kind hf).1 hl with h | h
  · rw [if_pos h]
    unfold namesK at hn
    rw [if_pos h, Bool.and_eq_true] at hn
    have := name_bytes hn.2
    exact ⟨fun c hc => ⟨(this.2 c hc).1, (this.2 c hc).2.1, (this.2 c hc).2.2.1⟩, this.1⟩
  · rw [if_neg (by omega), if_pos h]
    unfold namesK at hn
    rw [if_neg (by omega), if_pos h, Bool.and_eq_true] at hn
    have h1 := name_bytes hn.1
    have h2 := name_bytes hn.2
    refine ⟨fun c hc => ?_, by simp⟩
    rcases List.mem_append.1 hc with hc | hc
    · exact ⟨(h1.2 c hc).1, (h1.2 c hc).2.1, (h1.2 c hc).2.2.1⟩
    · rcases List.mem_append.1 hc with hc | hc
      · simp at hc
        rcases hc with rfl | rfl <;> decide
      · exact ⟨(h2.2 c hc).1, (h2.2 c hc).2.1, (h2.2 c hc).2.2.1⟩
theorem nokids {x : Ex} (hf : frmE x = true) (h : x.f0 = 1 ∨ x.f0 = 2) : x.f3 = [] := by
  rw [frm_eq, Bool.and_eq_true, Bool.and_eq_true] at hf
  have hk := hf.2.1
  unfold kidsK at hk
  rw [if_pos h, decide_eq_true_eq] at hk
  exact List.eq_nil_of_length_eq_zero hk
theorem cut_dash : ∀ (a b r r' : List UInt8), (∀ c ∈ a, c ≠ 45) → (∀ c ∈ b, c ≠ 45) → a ++ 45 :: r = b ++ 45 :: r' → a = b ∧ r = r'
  | [], [], r, r', _, _, h => ⟨rfl, by simpa using h⟩
  | [], c :: b, r, r', _, hb, h => by simp at h; exact absurd h.1.symm (hb c (by simp))
  | c :: a, [], r, r', ha, _, h => by simp at h; exact absurd h.1 (ha c (by simp))
  | c :: a, d :: b, r, r', ha, hb, h => by
    simp only [List.cons_append, List.cons.injEq] at h
    obtain ⟨h1, h2⟩ := cut_dash a b r r' (fun x hx => ha x (by simp [hx])) (fun x hx => hb x (by simp [hx])) h.2
    exact ⟨by rw [h.1, h1], h2⟩
theorem ba_eq {a b : ByteArray} (h : a.data.toList = b.data.toList) : a = b := ByteArray.ext (Array.toList_inj.mp h)
theorem ba_nil {a b : ByteArray} (h : a.size = 0) (k : b.size = 0) : a = b := ba_eq (by rw [List.eq_nil_of_length_eq_zero (by rw [data_length]; exact h : a.data.toList.length = 0), List.eq_nil_of_length_eq_zero (by rw [data_length]; exact k : b.data.toList.length = 0)])
theorem leaf_inj {x y : Ex} (hf : frmE x = true) (hg : frmE y = true) (hx : leafK x.f0 = true) (hy : leafK y.f0 = true) (h : txE x = txE y) : x = y := by
  have kx := (leaf_kind hf).1 hx
  have ky := (leaf_kind hg).1 hy
  have e3 : x.f3 = y.f3 := by rw [nokids hf kx, nokids hg ky]
  have hn : namesK x.f0 x.f1 x.f2 = true := by rw [frm_eq, Bool.and_eq_true] at hf; exact hf.1
  have hm : namesK y.f0 y.f1 y.f2 = true := by rw [frm_eq, Bool.and_eq_true] at hg; exact hg.1
  rw [tx_eq, tx_eq y] at h
  unfold namesK at hn hm
  rw [← mk_eta x, ← mk_eta y, e3]
  rcases kx with kx | kx
  · rw [if_pos kx] at h hn
    rw [Bool.and_eq_true, decide_eq_true_eq] at hn
    rcases ky with ky | ky
    · rw [if_pos ky] at h hm
      rw [Bool.and_eq_true, decide_eq_true_eq] at hm
      rw [kx, ky, ba_eq h, ba_nil hn.1 hm.1]
    · rw [if_neg (by omega), if_pos ky] at h
      exact absurd rfl ((name_bytes hn.2).2 45 (by rw [h]; simp)).2.2.2
  · rw [if_neg (by omega), if_pos kx] at h hn
    rw [Bool.and_eq_true] at hn
    rcases ky with ky | ky
    · rw [if_pos ky] at h hm
      rw [Bool.and_eq_true, decide_eq_true_eq] at hm
      exact absurd rfl ((name_bytes hm.2).2 45 (by rw [← h]; simp)).2.2.2
    · rw [if_neg (by omega), if_pos ky] at h hm
      rw [Bool.and_eq_true] at hm
      obtain ⟨h1, h2⟩ := cut_dash _ _ _ _ (fun c hc => ((name_bytes hn.1).2 c hc).2.2.2) (fun c hc => ((name_bytes hm.1).2 c hc).2.2.2) h
      have h3 : (62 : UInt8) :: x.f2.data.toList = 62 :: y.f2.data.toList := h2
      injection h3 with _ h3
      rw [kx, ky, ba_eq h1, ba_eq h3]
/-- What follows the first operand. -/
def tlT (k : Int) : List Ex → List UInt8
  | [] => []
  | x :: xs => sgnK k ++ (opE x ++ tlT k xs)
theorem join_tl (k : Int) (x : Ex) : ∀ xs : List Ex, Lib.join (opL (x :: xs)) (sgnK k) = opE x ++ tlT k xs := by
  have hj : ∀ (sep a : List UInt8) (l : List (List UInt8)), l ≠ [] → Lib.join (a :: l) sep = a ++ (sep ++ Lib.join l sep) := by
    intro sep a l hl
    cases l with
    | nil => exact absurd rfl hl
    | cons b l => simp [Lib.join, List.intercalate]
  intro xs
  induction xs generalizing x with
  | nil => rw [op_cons, opL, tlT, List.append_nil]; simp [Lib.join, List.intercalate]
  | cons y ys ih =>
    rw [op_cons, hj _ _ _ (by rw [op_cons]; simp), ih y, tlT]
theorem tl_stop (k : Int) (x : Ex) (xs : List Ex) (r : List UInt8) : ∃ q, tlT k (x :: xs) ++ r = 32 :: q := ⟨_, by rw [tlT, sgnK]; rfl⟩
theorem tl_st (k : Int) (xs : List Ex) {r : List UInt8} (h : stop2 r) : stop (tlT k xs ++ r) := by
  cases xs with
  | nil => rw [tlT, List.nil_append]; exact h.stop
  | cons x xs =>
    obtain ⟨q, hq⟩ := tl_stop k x xs r
    exact .inr ⟨32, q, hq, .inl rfl⟩
def Pu (x : Ex) : Prop := frmE x = true → ∀ y, frmE y = true → ∀ r r', stop r → stop r' → opE x ++ r = opE y ++ r' → x = y ∧ r = r'
def kd3 (k : Int) : Prop := k = 3 ∨ k = 4 ∨ k = 5
theorem sgn_inj {k k' : Int} (h : kd3 k) (h' : kd3 k') {r r' : List UInt8} (e : sgnK k ++ r = sgnK k' ++ r') : k = k' ∧ r = r' := by
  unfold sgnK at e
  rcases h with rfl | rfl | rfl <;> rcases h' with rfl | rfl | rfl <;> simp at e <;> first | exact ⟨rfl, e⟩ | exact absurd e (by simp)
theorem tl_inj (k k' : Int) (hk : kd3 k) (hk' : kd3 k') : ∀ (xs ys : List Ex) (r r' : List UInt8), (∀ x ∈ xs, Pu x) → frmL xs = true → frmL ys = true → stop2 r → stop2 r' → tlT k xs ++ r = tlT k' ys ++ r' → xs = ys ∧ r = r' ∧ (xs ≠ [] → k = k')
  | [], [], r, r', _, _, _, _, _, h => ⟨rfl, h, fun e => absurd rfl e⟩
  | [], y :: ys, r, r', _, _, _, hr, _, h => by
    obtain ⟨q, hq⟩ := tl_stop k' y ys r'
    rw [hq] at h
    rcases hr with hr | ⟨p, hr⟩ <;> rw [hr] at h <;> simp [tlT] at h
  | x :: xs, [], r, r', _, _, _, _, hr, h => by
    obtain ⟨q, hq⟩ := tl_stop k x xs r
    rw [hq] at h
    rcases hr with hr | ⟨p, hr⟩ <;> rw [hr] at h <;> simp [tlT] at h
  | x :: xs, y :: ys, r, r', hP, hfx, hfy, hr, hr', h => by
    rw [frmL, Bool.and_eq_true] at hfx hfy
    rw [tlT, tlT] at h
    obtain ⟨e1, h1⟩ := sgn_inj (r := opE x ++ (tlT k xs ++ r)) (r' := opE y ++ (tlT k' ys ++ r')) hk hk' (by rw [← List.append_assoc (opE x), ← List.append_assoc (opE y), ← List.append_assoc (sgnK k), ← List.append_assoc (sgnK k')]; exact h)
    obtain ⟨e2, h2⟩ := hP x (by simp) hfx.1 y hfy.1 _ _ (tl_st k xs hr) (tl_st k' ys hr') h1
    obtain ⟨e3, e4, _⟩ := tl_inj k k' hk hk' xs ys r r' (fun z hz => hP z (by simp [hz])) hfx.2 hfy.2 hr hr' h2
    exact ⟨by rw [e2, e3], e4, fun _ => e1⟩
theorem comp_parts {x : Ex} (hf : frmE x = true) (hl : ¬ leafK x.f0 = true) : kd3 x.f0 ∧ x.f1.size = 0 ∧ x.f2.size = 0 ∧ frmL x.f3 = true ∧ ∃ a b ks, x.f3 = a :: b :: ks ∧ txE x = opE a ++ tlT x.f0 (b :: ks) := by
  have hk := kind_range hf
  have hnl : ¬ (x.f0 = 1 ∨ x.f0 = 2) := fun h => hl ((leaf_kind hf).2 h)
  have h3 : kd3 x.f0 ∧ 2 ≤ x.f3.length := by
    rcases hk with h | h | h
    · exact absurd (.inl h) hnl
    · exact absurd (.inr h) hnl
    · exact h
  rw [frm_eq, Bool.and_eq_true, Bool.and_eq_true] at hf
  have hn := hf.1
  unfold namesK at hn
  rw [if_neg (by omega), if_neg (by omega), Bool.and_eq_true, decide_eq_true_eq, decide_eq_true_eq] at hn
  refine ⟨h3.1, hn.1, hn.2, hf.2.2, ?_⟩
  have htx := tx_eq x
  rw [if_neg (by omega), if_neg (by omega)] at htx
  match hkk : x.f3, h3.2 with
  | a :: b :: ks, _ =>
    refine ⟨a, b, ks, rfl, ?_⟩
    rw [htx, hkk, join_tl]
theorem pu_all : (∀ x : Ex, Pu x) ∧ ∀ xs : List Ex, ∀ x ∈ xs, Pu x := by
  refine ex_ind (p := Pu) (q := fun xs => ∀ x ∈ xs, Pu x) (fun x hx => by cases hx) (fun x xs h1 h2 y hy => by rcases List.mem_cons.1 hy with rfl | hy; exact h1; exact h2 y hy) ?_
  intro x ih hf y hg r r' hr hr' h
  by_cases lx : leafK x.f0 = true
  · have tx := leaf_tx hf lx
    rw [show opE x = txE x from if_pos lx] at h
    by_cases ly : leafK y.f0 = true
    · have ty := leaf_tx hg ly
      rw [show opE y = txE y from if_pos ly] at h
      obtain ⟨h1, h2⟩ := split_eq _ _ _ _ tx.1 ty.1 hr hr' h
      exact ⟨leaf_inj hf hg lx ly h1, h2⟩
    · rw [show opE y = 40 :: (txE y ++ [41]) from if_neg ly] at h
      cases e : txE x with
      | nil => exact absurd e tx.2
      | cons c l =>
        rw [e] at h
        simp at h
        exact absurd h.1 (tx.1 c (by rw [e]; simp)).2.1
  · rw [show opE x = 40 :: (txE x ++ [41]) from if_neg lx] at h
    by_cases ly : leafK y.f0 = true
    · have ty := leaf_tx hg ly
      rw [show opE y = txE y from if_pos ly] at h
      cases e : txE y with
      | nil => exact absurd e ty.2
      | cons c l =>
        rw [e] at h
        simp at h
        exact absurd h.1.symm (ty.1 c (by rw [e]; simp)).2.1
    · rw [show opE y = 40 :: (txE y ++ [41]) from if_neg ly] at h
      obtain ⟨k1, v1, n1, f1, a, b, ks, e1, t1⟩ := comp_parts hf lx
      obtain ⟨k2, v2, n2, f2, a', b', ks', e2, t2⟩ := comp_parts hg ly
      rw [t1, t2] at h
      simp only [List.cons_append, List.cons.injEq, true_and, List.append_assoc, List.nil_append] at h
      rw [e1, frmL, Bool.and_eq_true] at f1
      rw [e2, frmL, Bool.and_eq_true] at f2
      have hs1 : stop2 (41 :: r) := .inr ⟨r, rfl⟩
      have hs2 : stop2 (41 :: r') := .inr ⟨r', rfl⟩
      obtain ⟨ea, h1⟩ := ih a (by rw [e1]; simp) f1.1 a' f2.1 _ _ (tl_st x.f0 (b :: ks) hs1) (tl_st y.f0 (b' :: ks') hs2) h
      obtain ⟨eb, h2, h3⟩ := tl_inj x.f0 y.f0 k1 k2 (b :: ks) (b' :: ks') _ _ (fun z hz => ih z (by rw [e1]; exact List.mem_cons_of_mem a hz)) f1.2 f2.2 hs1 hs2 h1
      simp only [List.cons.injEq, true_and] at h2
      refine ⟨?_, h2⟩
      rw [← mk_eta x, ← mk_eta y, h3 (by simp), ba_nil v1 v2, ba_nil n1 n2, e1, e2, ea, eb]
theorem tx_inj {x y : Ex} (hf : frmE x = true) (hg : frmE y = true) (h : txE x = txE y) : x = y := by
  have hn : stop [] := .inl rfl
  by_cases lx : leafK x.f0 = true
  · by_cases ly : leafK y.f0 = true
    · exact leaf_inj hf hg lx ly h
    · obtain ⟨k2, v2, n2, f2, a', b', ks', e2, t2⟩ := comp_parts hg ly
      rw [t2] at h
      rw [e2, frmL, Bool.and_eq_true] at f2
      obtain ⟨_, h2⟩ := pu_all.1 x hf a' f2.1 [] (tlT y.f0 (b' :: ks')) hn (by have := tl_st y.f0 (b' :: ks') (r := []) (.inl rfl); rwa [List.append_nil] at this) (by rw [List.append_nil, show opE x = txE x from if_pos lx]; exact h)
      obtain ⟨q, hq⟩ := tl_stop y.f0 b' ks' []
      rw [List.append_nil, ← h2] at hq
      cases hq
  · by_cases ly : leafK y.f0 = true
    · obtain ⟨k2, v2, n2, f2, a', b', ks', e2, t2⟩ := comp_parts hf lx
      rw [t2] at h
      rw [e2, frmL, Bool.and_eq_true] at f2
      obtain ⟨_, h2⟩ := pu_all.1 y hg a' f2.1 [] (tlT x.f0 (b' :: ks')) hn (by have := tl_st x.f0 (b' :: ks') (r := []) (.inl rfl); rwa [List.append_nil] at this) (by rw [List.append_nil, show opE y = txE y from if_pos ly]; exact h.symm)
      obtain ⟨q, hq⟩ := tl_stop x.f0 b' ks' []
      rw [List.append_nil, ← h2] at hq
      cases hq
    · exact (pu_all.1 x hf y hg [] [] hn hn (by rw [show opE x = 40 :: (txE x ++ [41]) from if_neg lx, show opE y = 40 :: (txE y ++ [41]) from if_neg ly, h])).1
end Go.Proofs.YtohimcpfmkgefaaDoor.HExO
