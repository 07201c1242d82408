/- The plain laws of tokens: joined texts; comments around a text. No program here. -/
import Derived.Test.YthefibpcepgoaaaDoorHLexP
namespace Go.Proofs.YthefibpcepgoaaaDoor.HLexJ
open Go.RowKit Go.Proofs.YthefibpcepgoaaaDoorW.PrintWords Go.Proofs.YthefibpcepgoaaaDoor.HNameP Go.Proofs.YthefibpcepgoaaaDoor.HLexP
set_option linter.unusedVariables false

theorem ba_ext {s t : ByteArray} (h : s.size = t.size) (hb : ∀ k : Nat, k < s.size → bt s k = bt t k) : s = t := by
  apply ByteArray.ext
  apply Array.ext h
  intro i h1 h2
  have e := hb i h1
  unfold bt at e
  have h1' : ((i : Nat) : Int).toNat < s.size := h1
  have h2' : ((i : Nat) : Int).toNat < t.size := h2
  rw [dif_pos h1', dif_pos h2'] at e
  exact UInt8.toNat_inj.1 (Int.ofNat.inj e)
theorem inW_iff (c : Int) : inW c = true ↔ (97 ≤ c ∧ c ≤ 122) ∨ (65 ≤ c ∧ c ≤ 90) ∨ (48 ≤ c ∧ c ≤ 57) ∨ c = 95 := by
  simp [inW]
theorem spC_iff (c : Int) : spC c = true ↔ c = 32 ∨ c = 9 ∨ c = 10 ∨ c = 13 := by simp [spC]
theorem signC_iff (c : Int) : signC c = true ↔ c = 123 ∨ c = 125 ∨ c = 40 ∨ c = 41 ∨ c = 58 ∨ c = 59 ∨ c = 61 ∨ c = 124 ∨ c = 35 ∨ c = 43 ∨ c = 38 ∨ c = 45 := by simp [signC]
theorem word_not {c : Int} (h : inW c = true) : ¬ spC c = true ∧ c ≠ 47 ∧ c ≠ 45 ∧ ¬ signC c = true := by
  rw [inW_iff] at h; rw [spC_iff, signC_iff]; omega
theorem sign_not {c : Int} (h : signC c = true) : ¬ spC c = true ∧ c ≠ 47 ∧ ¬ inW c = true := by
  rw [signC_iff] at h; rw [spC_iff, inW_iff]; omega
theorem two_iff (s : ByteArray) (i : Nat) (a b : Int) : two s i a b = true ↔ i + 1 < s.size ∧ bt s i = a ∧ bt s (i + 1 : Nat) = b := by
  simp only [two, Bool.and_eq_true, decide_eq_true_eq, beq_iff_eq]

/-- A token's kind and text. -/
def kt (t : Tok) : Int × ByteArray := (t.1, t.2.1)
def Good (t : Int × ByteArray) : Prop :=
  (t.1 = 1 ∧ 1 ≤ t.2.size ∧ (∀ k : Nat, k < t.2.size → inW (bt t.2 k) = true) ∧ (isP t.2 || resP t.2) = true) ∨ (t.1 = 2 ∧ t.2 = ARROW) ∨ (t.1 = 2 ∧ t.2.size = 1 ∧ signC (bt t.2 0) = true)
theorem good_size {t : Int × ByteArray} (h : Good t) : 1 ≤ t.2.size := by
  rcases h with h | h | h
  · exact h.2.1
  · rw [h.2]; decide
  · rw [h.2.1]; exact Nat.le_refl _

theorem run_bt (p : Int → Bool) (s : ByteArray) (i k : Nat) (hi : i ≤ s.size) (hk : k < runLn p (rest s i)) : p (bt s (i + k : Nat)) = true := by
  have h1 := (runLn_spec p (rest s i)).1 k hk
  have h2 := runLn_le p (rest s i)
  rw [rest_size] at h2
  rwa [bt_rest s i k (by omega)] at h1
theorem run_end (p : Int → Bool) (s : ByteArray) (i : Nat) (h : i + runLn p (rest s i) < s.size) : p (bt s (i + runLn p (rest s i) : Nat)) = false := by
  have h1 := (runLn_spec p (rest s i)).2 (by rw [rest_size]; omega)
  rwa [bt_rest s i _ h] at h1
theorem run_is (p : Int → Bool) (s : ByteArray) (i m : Nat) (hm : i + m ≤ s.size) (hq : ∀ k : Nat, k < m → p (bt s (i + k : Nat)) = true) (he : i + m < s.size → p (bt s (i + m : Nat)) = false) : runLn p (rest s i) = m := by
  refine runLn_eq (by rw [rest_size]; omega) (fun k hk => ?_) (fun h => ?_)
  · rw [bt_rest s i k (by omega)]; exact hq k hk
  · rw [rest_size] at h
    rw [bt_rest s i m (by omega)]; exact he (by omega)
theorem ext_size (s : ByteArray) (i m : Nat) (h : i + m ≤ s.size) : ((rest s i).extract 0 m).size = m := by
  rw [ByteArray.size_extract, rest_size]; omega
theorem ext_bt (s : ByteArray) (i m k : Nat) (h : i + m ≤ s.size) (hk : k < m) : bt ((rest s i).extract 0 m) k = bt s (i + k : Nat) := by
  rw [bt_ext (rest s i) 0 m (by rw [rest_size]; omega) k (by omega), Nat.zero_add, bt_rest s i k (by omega)]

/-- All tokens but the last are good. -/
theorem lexG_good (s : ByteArray) : ∀ (f i : Nat) (out l : List Tok), i ≤ s.size → lexG s f i out = .inr l → ∃ (ts : List Tok) (e : Int), l = out ++ ts ++ [(3, ⟨#[]⟩, e)] ∧ ∀ t ∈ ts, Good (kt t) := by
  intro f
  induction f with
  | zero => intro i out l hi h; rw [lexG] at h; injection h with h; exact ⟨[], i, by rw [← h]; simp, fun t ht => by cases ht⟩
  | succ f ih =>
    intro i out l hi h
    rw [lexG] at h
    split at h
    · injection h with h; exact ⟨[], i, by rw [← h]; simp, fun t ht => by cases ht⟩
    · rename_i c0
      split at h
      · exact ih _ _ _ (by omega) h
      · split at h
        · have := runLn_le notNL (rest s i)
          rw [rest_size] at this
          exact ih _ _ _ (by omega) h
        · split at h
          · rename_i c3
            have hle := runLn_le inW (rest s i)
            rw [rest_size] at hle
            split at h
            · rename_i c4
              obtain ⟨ts, e, hl, hg⟩ := ih _ _ _ (by omega) h
              refine ⟨(1, (rest s i).extract 0 (runLn inW (rest s i)), (i : Int)) :: ts, e, by rw [hl]; simp, fun t ht => ?_⟩
              rcases List.mem_cons.1 ht with rfl | ht
              · refine .inl ⟨rfl, ?_, ?_, c4⟩
                · show 1 ≤ ((rest s i).extract 0 _).size
                  rw [ext_size s i _ (by omega)]; exact c3
                · intro k hk
                  have hk' : k < runLn inW (rest s i) := by
                    have : k < ((rest s i).extract 0 (runLn inW (rest s i))).size := hk
                    rwa [ext_size s i _ (by omega)] at this
                  show inW (bt ((rest s i).extract 0 _) k) = true
                  rw [ext_bt s i _ k (by omega) hk']
                  exact run_bt inW s i k (by omega) hk'
              · exact hg t ht
            · cases h
          · split at h
            · rename_i c5
              have := (two_iff s i 45 62).1 c5
              obtain ⟨ts, e, hl, hg⟩ := ih _ _ _ (by omega) h
              refine ⟨(2, ARROW, (i : Int)) :: ts, e, by rw [hl]; simp, fun t ht => ?_⟩
              rcases List.mem_cons.1 ht with rfl | ht
              · exact .inr (.inl ⟨rfl, rfl⟩)
              · exact hg t ht
            · split at h
              · rename_i c6
                obtain ⟨ts, e, hl, hg⟩ := ih _ _ _ (by omega) h
                refine ⟨(2, (rest s i).extract 0 1, (i : Int)) :: ts, e, by rw [hl]; simp, fun t ht => ?_⟩
                rcases List.mem_cons.1 ht with rfl | ht
                · refine .inr (.inr ⟨rfl, ?_, ?_⟩)
                  · exact ext_size s i 1 (by omega)
                  · show signC (bt ((rest s i).extract 0 1) (0 : Nat)) = true
                    rw [ext_bt s i 1 0 (by omega) (by decide)]
                    exact c6
                · exact hg t ht
              · cases h

/-- A good token is read where it stands, if a space or the end follows. -/
theorem lexG_tok (s : ByteArray) (f i : Nat) (out : List Tok) (t : Int × ByteArray) (hg : Good t) (hs : i + t.2.size ≤ s.size) (hb : ∀ k : Nat, k < t.2.size → bt s (i + k : Nat) = bt t.2 k) (hn : i + t.2.size < s.size → bt s (i + t.2.size : Nat) = 32) :
    lexG s (f + 1) i out = lexG s f (i + t.2.size) (out ++ [(t.1, t.2, (i : Int))]) := by
  have hsz := good_size hg
  have h0 := hb 0 (by omega)
  rw [Nat.add_zero] at h0
  have hext : (rest s i).extract 0 t.2.size = t.2 := ba_ext (ext_size s i _ hs) (fun k hk => by rw [ext_size s i _ hs] at hk; rw [ext_bt s i _ k hs hk]; exact hb k hk)
  have h2 : (s.size ≤ i) = False := by simp; omega
  rcases hg with ⟨k1, _, hw, hr⟩ | ⟨k2, hA⟩ | ⟨k2, h1, hc⟩
  · have hfirst := hw 0 (by omega)
    rw [show bt t.2 (0 : Nat) = bt s i from h0.symm] at hfirst
    have hno := word_not hfirst
    have hrun : runLn inW (rest s i) = t.2.size := run_is inW s i _ hs (fun k hk => by rw [hb k hk]; exact hw k hk) (fun h => by rw [hn h]; rfl)
    have htw : ¬ two s i 47 47 = true := fun h => hno.2.1 ((two_iff s i 47 47).1 h).2.1
    rw [lexG, if_neg (by omega), if_neg hno.1, if_neg htw, hrun, if_pos (by omega), hext, if_pos hr, k1]
  · have hc : bt s i = 45 := by rw [h0, hA]; rfl
    have hsz2 : t.2.size = 2 := by rw [hA]; rfl
    have hrun : ¬ 0 < runLn inW (rest s i) := fun h => by
      have := (runLn_pos (show i < s.size by omega)).1 h
      rw [hc] at this; cases this
    have htw : ¬ two s i 47 47 = true := fun h => by have := ((two_iff s i 47 47).1 h).2.1; rw [hc] at this; cases this
    have hta : two s i 45 62 = true := (two_iff s i 45 62).2 ⟨by omega, hc, by rw [hb 1 (by omega), hA]; rfl⟩
    rw [lexG, if_neg (by omega), if_neg (by rw [hc]; decide), if_neg htw, if_neg hrun, if_pos hta, hsz2, k2, hA]
  · have hc' : signC (bt s i) = true := by rw [h0]; exact hc
    have hno := sign_not hc'
    have hrun : ¬ 0 < runLn inW (rest s i) := fun h => hno.2.2 ((runLn_pos (show i < s.size by omega)).1 h)
    have htw : ¬ two s i 47 47 = true := fun h => hno.2.1 ((two_iff s i 47 47).1 h).2.1
    have hta : ¬ two s i 45 62 = true := fun h => by
      have h' := (two_iff s i 45 62).1 h
      have := hn (by omega)
      rw [h1] at this
      rw [this] at h'
      exact absurd h'.2.2 (by decide)
    rw [h1] at hext
    rw [lexG, if_neg (by omega), if_neg hno.1, if_neg htw, if_neg hrun, if_neg hta, if_pos hc', hext, h1, k2]

/-- Texts, a space between them. -/
def joinB : List ByteArray → List Int
  | [] => []
  | [w] => bytesOf w
  | w :: v :: ws => bytesOf w ++ 32 :: joinB (v :: ws)
theorem lexG_join (s : ByteArray) : ∀ (ts : List (Int × ByteArray)) (f i : Nat) (out : List Tok), (∀ t ∈ ts, Good t) → i ≤ s.size → s.size < i + f → s.size = i + (joinB (ts.map (·.2))).length → (∀ k : Nat, k < (joinB (ts.map (·.2))).length → bt s (i + k : Nat) = (joinB (ts.map (·.2))).getD k 0) →
    ∃ l : List Tok, lexG s f i out = .inr (out ++ l ++ [(3, ⟨#[]⟩, (s.size : Int))]) ∧ l.map kt = ts := by
  intro ts
  induction ts with
  | nil =>
    intro f i out _ hi hf hs _
    simp [joinB] at hs
    refine ⟨[], ?_, rfl⟩
    cases f with
    | zero => rw [lexG]; simp; omega
    | succ f => rw [lexG, if_pos (by omega)]; simp; omega
  | cons t ts ih =>
    intro f i out hg hi hf hs hb
    have ht := hg t List.mem_cons_self
    have hsz := good_size ht
    have hbl : (bytesOf t.2).length = t.2.size := bytesOf_length _
    have hbt : ∀ k : Nat, k < t.2.size → (bytesOf t.2).getD k 0 = bt t.2 k := fun k hk => by rw [← rd_bytesOf]; rfl
    obtain ⟨f, rfl⟩ : ∃ g, f = g + 1 := ⟨f - 1, by
      have : 1 ≤ (joinB ((t :: ts).map (·.2))).length := by
        cases ts with
        | nil => simp [joinB, hbl]; omega
        | cons u us => simp [joinB, hbl]; omega
      omega⟩
    cases ts with
    | nil =>
      simp only [List.map_cons, List.map_nil, joinB] at hs hb
      rw [hbl] at hs hb
      rw [lexG_tok s f i out t ht (by omega) (fun k hk => by rw [hb k hk, hbt k hk]) (fun h => by omega)]
      obtain ⟨l, hl, hm⟩ := ih f (i + t.2.size) (out ++ [(t.1, t.2, (i : Int))]) (fun u hu => by cases hu) (by omega) (by omega) (by simp [joinB]; omega) (fun k hk => by simp [joinB] at hk)
      have : l = [] := List.map_eq_nil_iff.1 hm
      subst this
      exact ⟨[(t.1, t.2, (i : Int))], by rw [hl]; simp, rfl⟩
    | cons u us =>
      have e : joinB ((t :: u :: us).map (·.2)) = bytesOf t.2 ++ 32 :: joinB ((u :: us).map (·.2)) := rfl
      rw [e] at hs hb
      have hlen : (bytesOf t.2 ++ 32 :: joinB ((u :: us).map (·.2))).length = t.2.size + 1 + (joinB ((u :: us).map (·.2))).length := by
        rw [List.length_append, List.length_cons, hbl]; omega
      rw [hlen] at hs hb
      rw [lexG_tok s f i out t ht (by omega) (fun k hk => by rw [hb k (by omega), List.getD_eq_getElem?_getD, List.getElem?_append_left (by omega), ← List.getD_eq_getElem?_getD, hbt k hk])
        (fun h => by rw [hb t.2.size (by omega), List.getD_eq_getElem?_getD, List.getElem?_append_right (by omega), hbl, Nat.sub_self]; rfl)]
      obtain ⟨f, rfl⟩ : ∃ g, f = g + 1 := ⟨f - 1, by omega⟩
      have h32 : bt s (i + t.2.size : Nat) = 32 := by rw [hb t.2.size (by omega), List.getD_eq_getElem?_getD, List.getElem?_append_right (by omega), hbl, Nat.sub_self]; rfl
      rw [lexG, if_neg (by omega), if_pos (by rw [h32]; rfl)]
      obtain ⟨l, hl, hm⟩ := ih f (i + t.2.size + 1) (out ++ [(t.1, t.2, (i : Int))]) (fun v hv => hg v (List.mem_cons_of_mem _ hv)) (by omega) (by omega) (by omega) (fun k hk => by
        rw [show i + t.2.size + 1 + k = i + (t.2.size + 1 + k) from by omega, hb _ (by omega), List.getD_eq_getElem?_getD, List.getElem?_append_right (by omega), hbl, show t.2.size + 1 + k - t.2.size = k + 1 from by omega, List.getElem?_cons_succ, ← List.getD_eq_getElem?_getD])
      exact ⟨(t.1, t.2, (i : Int)) :: l, by rw [hl]; simp, by rw [List.map_cons, hm]; rfl⟩

/-- Only spaces are left. -/
theorem lexG_spaces (s : ByteArray) (hsp : Nat) : ∀ (f i : Nat) (out : List Tok), i ≤ s.size → s.size < i + f → (∀ k : Nat, i ≤ k → k < s.size → spC (bt s k) = true) → lexG s f i out = .inr (out ++ [(3, ⟨#[]⟩, (s.size : Int))]) := by
  intro f
  induction f with
  | zero => intro i out hi hf _; omega
  | succ f ih =>
    intro i out hi hf hk
    rw [lexG]
    by_cases c : s.size ≤ i
    · rw [if_pos c, show i = s.size from by omega]
    · rw [if_neg c, if_pos (hk i (Nat.le_refl _) (by omega))]
      exact ih (i + 1) out (by omega) (by omega) (fun k h1 h2 => hk k (by omega) h2)
/-- Spaces in front. -/
theorem lexG_front (s : ByteArray) : ∀ (d f i : Nat) (out : List Tok), i + d ≤ s.size → s.size < i + f → (∀ k : Nat, i ≤ k → k < i + d → spC (bt s k) = true) → ∃ g, s.size < i + d + g ∧ lexG s f i out = lexG s g (i + d) out := by
  intro d
  induction d with
  | zero => intro f i out _ hf _; exact ⟨f, by omega, rfl⟩
  | succ d ih =>
    intro f i out hi hf hk
    obtain ⟨f, rfl⟩ : ∃ g, f = g + 1 := ⟨f - 1, by omega⟩
    rw [lexG, if_neg (by omega), if_pos (hk i (Nat.le_refl _) (by omega))]
    obtain ⟨g, h1, h2⟩ := ih f (i + 1) out (by omega) (by omega) (fun k h1 h2 => hk k (by omega) (by omega))
    exact ⟨g, by omega, by rw [h2, show i + 1 + d = i + (d + 1) from by omega]⟩
/-- A comment from a place on. -/
theorem lexG_comment (s : ByteArray) (f i m : Nat) (out : List Tok) (hi : i + 1 < s.size) (h0 : bt s i = 47) (h1 : bt s (i + 1 : Nat) = 47) (hm : i + m ≤ s.size) (hq : ∀ k : Nat, k < m → bt s (i + k : Nat) ≠ 10) (he : i + m < s.size → bt s (i + m : Nat) = 10) : lexG s (f + 1) i out = lexG s f (i + m) out := by
  rw [lexG, if_neg (by omega), if_neg (by rw [h0]; decide), if_pos ((two_iff s i 47 47).2 ⟨hi, h0, h1⟩),
    run_is notNL s i m hm (fun k hk => by simp only [notNL, Bool.not_eq_true', beq_eq_false_iff_ne]; exact hq k hk) (fun h => by rw [he h]; rfl)]

/-- A text that stands in another one, a new line behind it. -/
structure Inside (s t : ByteArray) (F : Nat) : Prop where
  size : F + s.size < t.size
  at_ : ∀ k : Nat, k < s.size → bt t (F + k : Nat) = bt s k
  nl : bt t (F + s.size : Nat) = 10
theorem inside_run {s t : ByteArray} {F : Nat} (h : Inside s t F) (p : Int → Bool) (hp : p 10 = false) (i : Nat) (hi : i ≤ s.size) : runLn p (rest t (F + i)) = runLn p (rest s i) := by
  have hle := runLn_le p (rest s i)
  rw [rest_size] at hle
  have hsz := h.size
  refine run_is p t (F + i) _ (by omega) (fun k hk => ?_) (fun hlt => ?_)
  · rw [show F + i + k = F + (i + k) from by omega, h.at_ (i + k) (by omega)]
    exact run_bt p s i k hi hk
  · rw [show F + i + runLn p (rest s i) = F + (i + runLn p (rest s i)) from by omega]
    by_cases c : i + runLn p (rest s i) < s.size
    · rw [h.at_ _ c]; exact run_end p s i c
    · rw [show i + runLn p (rest s i) = s.size from by omega, h.nl]; exact hp
theorem inside_two {s t : ByteArray} {F : Nat} (h : Inside s t F) (i : Nat) (hi : i < s.size) (a b : Int) (hb : b ≠ 10) : two t (F + i) a b = two s i a b := by
  have hsz := h.size
  rw [Bool.eq_iff_iff, two_iff, two_iff, h.at_ i hi]
  constructor
  · rintro ⟨h1, h2, h3⟩
    by_cases c : i + 1 < s.size
    · rw [show F + i + 1 = F + (i + 1) from by omega, h.at_ (i + 1) c] at h3
      exact ⟨c, h2, h3⟩
    · rw [show F + i + 1 = F + s.size from by omega, h.nl] at h3
      exact absurd h3.symm hb
  · rintro ⟨h1, h2, h3⟩
    exact ⟨by omega, h2, by rw [show F + i + 1 = F + (i + 1) from by omega, h.at_ (i + 1) h1]; exact h3⟩
theorem inside_ext {s t : ByteArray} {F : Nat} (h : Inside s t F) (i m : Nat) (hi : i + m ≤ s.size) : (rest t (F + i)).extract 0 m = (rest s i).extract 0 m := by
  have hsz := h.size
  refine ba_ext (by rw [ext_size t _ _ (by omega), ext_size s _ _ hi]) (fun k hk => ?_)
  rw [ext_size t _ _ (by omega)] at hk
  rw [ext_bt t _ _ k (by omega) hk, ext_bt s _ _ k hi hk, show F + i + k = F + (i + k) from by omega, h.at_ (i + k) (by omega)]
/-- What the text's tokens are in the other one. -/
def Told (F : Nat) (a b : (Int × Int) ⊕ List Tok) : Prop :=
  match a with
  | .inl (c, n) => b = .inl (c, F + n)
  | .inr l => ∃ l', b = .inr l' ∧ l'.map kt = l.map kt
theorem told_inl (F : Nat) (c n : Int) : Told F (.inl (c, n)) (.inl (c, (F : Int) + n)) := rfl
set_option maxHeartbeats 1000000 in
theorem lexG_inside {s t : ByteArray} {F : Nat} (h : Inside s t F) (htail : ∀ (f : Nat) (out : List Tok), t.size < F + s.size + f → lexG t f (F + s.size) out = .inr (out ++ [(3, ⟨#[]⟩, (t.size : Int))])) :
    ∀ (f i g : Nat) (out o2 : List Tok), i ≤ s.size → s.size < i + f → t.size < F + i + g → o2.map kt = out.map kt → Told F (lexG s f i out) (lexG t g (F + i) o2) := by
  have hsz := h.size
  intro f
  induction f with
  | zero => intro i g out o2 hi hf; omega
  | succ f ih =>
    intro i g out o2 hi hf hg ho
    obtain ⟨g, rfl⟩ : ∃ k, g = k + 1 := ⟨g - 1, by omega⟩
    by_cases c0 : s.size ≤ i
    · have hi' : i = s.size := by omega
      subst hi'
      rw [lexG, if_pos c0, htail (g + 1) o2 hg]
      exact ⟨_, rfl, by rw [List.map_append, List.map_append, ho]; rfl⟩
    · have hlt : i < s.size := by omega
      rw [lexG, lexG, if_neg c0, if_neg (show ¬ t.size ≤ F + i by omega), h.at_ i hlt, inside_two h i hlt 47 47 (by decide), inside_two h i hlt 45 62 (by decide), inside_run h inW (by decide) i hi, inside_run h notNL (by decide) i hi]
      by_cases c1 : spC (bt s i) = true
      · rw [if_pos c1, if_pos c1, show F + i + 1 = F + (i + 1) from by omega]
        exact ih (i + 1) g out o2 (by omega) (by omega) (by omega) ho
      · rw [if_neg c1, if_neg c1]
        by_cases c2 : two s i 47 47 = true
        · have hp : 0 < runLn notNL (rest s i) := (runLn_pos hlt).2 (by rw [(two_at c2).2.1]; rfl)
          have hle := runLn_le notNL (rest s i)
          rw [rest_size] at hle
          rw [if_pos c2, if_pos c2, Nat.add_assoc]
          exact ih _ g out o2 (by omega) (by omega) (by omega) ho
        · rw [if_neg c2, if_neg c2]
          by_cases c3 : 0 < runLn inW (rest s i)
          · have hle := runLn_le inW (rest s i)
            rw [rest_size] at hle
            rw [if_pos c3, if_pos c3, inside_ext h i _ (by omega)]
            generalize (rest s i).extract 0 (runLn inW (rest s i)) = wd
            generalize runLn inW (rest s i) = m at *
            generalize (isP wd || resP wd) = B
            cases B with
            | true =>
              rw [if_pos rfl, if_pos rfl, Nat.add_assoc]
              exact ih _ g _ _ (by omega) (by omega) (by omega) (by rw [List.map_append, List.map_append, ho]; simp only [List.map_cons, List.map_nil, kt])
            | false =>
              rw [if_neg (by simp), if_neg (by simp), Int.natCast_add]
              exact told_inl F 5 i
          · rw [if_neg c3, if_neg c3]
            by_cases c5 : two s i 45 62 = true
            · have := (two_at c5).1
              rw [if_pos c5, if_pos c5, Nat.add_assoc]
              exact ih _ g _ _ (by omega) (by omega) (by omega) (by rw [List.map_append, List.map_append, ho]; simp only [List.map_cons, List.map_nil, kt])
            · rw [if_neg c5, if_neg c5]
              by_cases c6 : signC (bt s i) = true
              · rw [if_pos c6, if_pos c6, inside_ext h i 1 (by omega), Nat.add_assoc]
                exact ih _ g _ _ (by omega) (by omega) (by omega) (by rw [List.map_append, List.map_append, ho]; simp only [List.map_cons, List.map_nil, kt])
              · rw [if_neg c6, if_neg c6]
                rw [Int.natCast_add]; exact told_inl F 6 i
end Go.Proofs.YthefibpcepgoaaaDoor.HLexJ
