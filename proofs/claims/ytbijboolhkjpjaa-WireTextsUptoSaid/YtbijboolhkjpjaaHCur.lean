/- The cursor's other readings: bytes, texts. -/
import Derived.Test.YtbijboolhkjpjaaHPut
namespace Go.Proofs.Ytbijboolhkjpjaa.HCur
open Go.RowKit Go.Proofs.YtbijboolhkjpjaaW.PrintWords Go.Proofs.Ytbijboolhkjpjaa.HLib Go.Proofs.Ytbijboolhkjpjaa.HWireS Go.Proofs.Ytbijboolhkjpjaa.HWire Go.Proofs.Ytbijboolhkjpjaa.HPut
set_option linter.unusedVariables false
set_option linter.unusedSimpArgs false

/-- What a reading of bytes tells: the first n of what is left. -/
def tak (r : List Int) (n : Int) : Option (List Int) := if n < 0 ∨ (r.length : Int) < n then none else some (r.take n.toNat)

theorem numGo_ok (l : List Int) (hb : ∀ x ∈ l, 0 ≤ x ∧ x < 256) : ∀ (f i : Nat) (x : Int), f + i = 11 → i ≤ 9 → 0 ≤ x → x < 2 ^ (7 * i) → ∀ y k, numGo l f i x = .inr (y, k) → 0 ≤ y ∧ y < 18446744073709551616 ∧ i < k ∧ k ≤ l.length ∧ k ≤ 10 := by
  intro f
  induction f with
  | zero => intro i x h1 h2; omega
  | succ f ih =>
    intro i x h1 h2 h3 h4 y k h
    by_cases c1 : l.length ≤ i
    · rw [numGo_end c1] at h; cases h
    · have hbi : 0 ≤ l.getD i 0 ∧ l.getD i 0 < 256 := by
        refine hb _ ?_
        rw [List.getD_eq_getElem?_getD, List.getElem?_eq_getElem (show i < l.length by omega)]
        exact List.getElem_mem _
      by_cases c2 : i = 9 ∧ 1 < l.getD i 0
      · obtain ⟨rfl, c2⟩ := c2
        rw [numGo_long (by omega) c2] at h; cases h
      · by_cases c3 : 0 < i ∧ l.getD i 0 = 0
        · rw [numGo_min (by omega) c3.1 c3.2] at h; cases h
        · have h9 : i = 9 → ¬ 1 < l.getD i 0 := fun z z2 => c2 ⟨z, z2⟩
          have h0 : 0 < i → l.getD i 0 ≠ 0 := fun z z2 => c3 ⟨z, z2⟩
          have hp : (0 : Int) ≤ l.getD i 0 % 128 * 2 ^ (7 * i) := Int.mul_nonneg (by omega) (Int.le_of_lt (Int.pow_pos (by decide)))
          by_cases c4 : l.getD i 0 < 128
          · rw [numGo_last (by omega) h9 h0 c4] at h
            simp only [Sum.inr.injEq, Prod.mk.injEq] at h
            obtain ⟨rfl, rfl⟩ := h
            refine ⟨by omega, ?_, by omega, by omega, by omega⟩
            by_cases z9 : i = 9
            · subst z9
              have hb1 : l.getD 9 0 ≤ 1 := by have := h9 rfl; omega
              have e : (2 : Int) ^ (7 * 9) = 9223372036854775808 := pow63
              rw [e] at h4 ⊢
              omega
            · have := group_lt x (l.getD i 0) i h4
              have h2 : (2 : Int) ^ (7 * (i + 1)) ≤ 2 ^ 63 := by
                have : (2 : Nat) ^ (7 * (i + 1)) ≤ 2 ^ 63 := Nat.pow_le_pow_right (by omega) (by omega)
                have h3 : ((2 ^ (7 * (i + 1)) : Nat) : Int) ≤ ((2 ^ 63 : Nat) : Int) := Int.ofNat_le.2 this
                rwa [Int.natCast_pow, Int.natCast_pow] at h3
              have e : (2 : Int) ^ 63 = 9223372036854775808 := pow63
              rw [e] at h2
              omega
          · rw [numGo_more (by omega) h9 h0 c4] at h
            have hi8 : i ≤ 8 := by
              by_cases z9 : i = 9
              · have := h9 z9; omega
              · omega
            obtain ⟨q1, q2, q3, q4, q5⟩ := ih (i + 1) _ (by omega) (by omega) (by omega) (group_lt x _ i h4) y k h
            exact ⟨q1, q2, by omega, q4, q5⟩
theorem numGo_err (l : List Int) : ∀ (f i : Nat) (x : Int) c, numGo l f i x = .inl c → c = 1 ∨ c = 2 ∨ c = 3 := by
  intro f
  induction f with
  | zero => intro i x c h; simp [numGo] at h; omega
  | succ f ih =>
    intro i x c h
    rw [numGo] at h
    split at h
    · simp at h; omega
    · split at h
      · simp at h; omega
      · split at h
        · simp at h; omega
        · split at h
          · cases h
          · exact ih _ _ _ h
theorem num_err {l : List Int} {c : Int} (h : num l = .inl c) : c = 1 ∨ c = 2 ∨ c = 3 := numGo_err l _ _ _ _ h
theorem num_ok {l : List Int} (hb : ∀ x ∈ l, 0 ≤ x ∧ x < 256) {y : Int} {k : Nat} (h : num l = .inr (y, k)) : 0 ≤ y ∧ y < 18446744073709551616 ∧ 0 < k ∧ k ≤ l.length ∧ k ≤ 10 :=
  numGo_ok l hb 11 0 0 rfl (by omega) (by omega) (by decide) y k h

set_option maxHeartbeats 1000000 in
theorem take_bad (w : World) (g : Nat) (l : List Int) (i n : Int) (h : IsCur w g l i) (h0 : 0 ≤ i) (h1 : i ≤ l.length) (hl : l.length ≤ 140737488355328) (hn : n < 0 ∨ (l.length : Int) - i < n) :
    Calls Try.prog 23 #[.pointer (some ⟨g, 0, none⟩), .int .i64 n] w fun e w' => e = .returned (.tuple #[.slice none 0 0, errW (some 1)]) ∧ Drawn0 w w' := by
  have HN := Aside0.mk hn
  clear hn
  by_cases c : n < 0
  · have d1 : decide (n < 0) = true := decide_eq_true c
    go_enter Try.func23, Try.ntmps23
    go_wp2
    go_ret2
    exact ⟨rfl, Drawn0.refl _⟩
  · have d1 : decide (n < 0) = false := decide_eq_false c
    have d2 : decide ((l.length : Int) - i < n) = true := decide_eq_true (by have := HN.out; omega)
    go_enter Try.func23, Try.ntmps23
    go_wp2_with (go_at_call 20; refine (left_at _ g l i h h0 h1 hl).mono ?_; rintro e w' ⟨rfl, ⟨m, rfl⟩⟩)
    go_ret2
    exact ⟨rfl, by repeat (first | exact Drawn0.refl _ | apply Drawn0.step)⟩

set_option maxHeartbeats 1000000 in
theorem take_good (w : World) (g : Nat) (l : List Int) (i n : Int) (h : IsCur w g l i) (h0 : 0 ≤ i) (h1 : i ≤ l.length) (hl : l.length ≤ 140737488355327) (hn : 0 ≤ n) (hm : n ≤ (l.length : Int) - i) :
    Calls Try.prog 23 #[.pointer (some ⟨g, 0, none⟩), .int .i64 n] w fun e w' => ∃ v, e = .returned (.tuple #[v, errW none]) ∧ Kd.R (Kd.int .u8) 5 w' w.heap.size (fun _ => True) v ((l.drop i.toNat).take n.toNat) ∧ IsCur w' g l (i + n) ∧ KeepBut w w' g none ∧ Below g w w' := by
  obtain ⟨A, c, hb, hC, hc, hne, hnz⟩ := id h
  have HI := Aside0.mk h
  have c0 := blk_cell hb 0
  have c1 := blk_cell hb 1
  have f1 := blk_frozen hb 1
  simp at c0 c1
  have d1 : decide (n < 0) = false := decide_eq_false (by omega)
  have d2 : decide ((l.length : Int) - i < n) = false := decide_eq_false (by omega)
  have hnl : i + n ≤ 140737488355327 := by omega
  obtain ⟨i0, hi0, _, hi1, _⟩ := info_parts info_u8
  obtain ⟨A', hsl, hrd⟩ := run_mid3 (P := Try.prog) 23 5 Try.underlying23 hi0 hi1 A c l i (i + n) h0 (by omega) (by omega) hc hnz
  rw [show i + n - i = n from by omega] at hsl hrd
  have HRD := Aside0.mk (hrd w (readsInt_of.2 (Kd.reads_of_C (d := (0 : Int)) hC))).1
  have HNE := Aside0.mk (show ∀ ad', A' = some ad' → ad'.block ≠ g from fun ad' e => by
    obtain ⟨ad, e1, e2⟩ := (hrd w (readsInt_of.2 (Kd.reads_of_C (d := (0 : Int)) hC))).2 ad' e
    rw [e2]
    exact hne ad e1)
  have HLT := Aside0.mk (show ((l.drop i.toNat).take n.toNat).length < 140737488355328 from by rw [List.length_take, List.length_drop]; omega)
  obtain ⟨L, hL⟩ : ∃ L, L = (l.drop i.toNat).take n.toNat := ⟨_, rfl⟩
  rw [← hL] at hsl HRD HLT ⊢
  have HLL := Aside0.mk hL
  clear hb hC hne hnz h hrd hi0 hi1 hc hL
  go_enter Try.func23, Try.ntmps23
  go_wp2_with (go_at_call 20; refine (left_at _ g l i HI.out h0 h1 (by omega)).mono ?_; rintro e w' ⟨rfl, ⟨m, rfl⟩⟩)
  go_quiet (fail)
  go_wp2_with fail
  refine (clone_any _ _ L (Bs.far (Bs.drewN HRD.out _) g 1 _ (fun ad n c e => by injection e with e1; exact HNE.out ad e1)) HLT.out).mono ?_
  rintro e w1 ⟨v1, rfl, hR, hB⟩
  have HR := Aside0.mk hR
  have HB := Aside0.mk hB
  clear hR hB
  go_wp2
  go_ret2
  have hsz : ((w.drewN (m + nq)).setCell ⟨g, 1, none⟩ (Value.int .i64 (i + n))).heap.size = w.heap.size := by simp [World.setCell]
  refine ⟨v1, rfl, ?_, (IsCur.set (IsCur.drewN HI.out _) _).below HB.out, ?_, ?_⟩
  · have h := HR.out
    rw [hsz] at h
    exact h
  · refine KeepBut.trans (keep_set1 w _ g _) (KeepBut.of_below HB.out g none) (.inl rfl)
  · exact (below_set1 w _ g _).trans (HB.out.mono (by rw [hsz]; exact Nat.le_of_lt HI.out.lt))

/-- What a reading of a text tells: .inl: the code; .inr: the text's bytes, and how many bytes were read. -/
def txt (r : List Int) (limit : Int) : Int ⊕ (List Int × Nat) :=
  match num r with
  | .inl c => .inl c
  | .inr (n, k) => if limit < 0 ∨ limit < n then .inl 15 else if (r.length : Int) - k < n then .inl 1 else .inr ((r.drop k).take n.toNat, k + n.toNat)
def txtE : Int ⊕ (List Int × Nat) → Value
  | .inl c => .tuple #[.string ⟨#[]⟩, errW (some c)]
  | .inr (s, _) => .tuple #[.string (strOfNums s), errW none]
def txtAt (i : Int) : Int ⊕ (List Int × Nat) → Int
  | .inl _ => i
  | .inr (_, n) => i + n

theorem txt_inl {r : List Int} {limit c : Int} (h : num r = .inl c) : txt r limit = .inl c := by simp [txt, h]
theorem txt_limit {r : List Int} {limit n : Int} {k : Nat} (h : num r = .inr (n, k)) (hl : limit < 0 ∨ limit < n) : txt r limit = .inl 15 := by
  unfold txt; rw [h]; simp only; rw [if_pos hl]
theorem txt_short {r : List Int} {limit n : Int} {k : Nat} (h : num r = .inr (n, k)) (hl : ¬ (limit < 0 ∨ limit < n)) (hs : (r.length : Int) - k < n) : txt r limit = .inl 1 := by
  unfold txt; rw [h]; simp only; rw [if_neg hl, if_pos hs]
theorem txt_ok {r : List Int} {limit n : Int} {k : Nat} (h : num r = .inr (n, k)) (hl : ¬ (limit < 0 ∨ limit < n)) (hs : ¬ (r.length : Int) - k < n) : txt r limit = .inr ((r.drop k).take n.toNat, k + n.toNat) := by
  unfold txt; rw [h]; simp only; rw [if_neg hl, if_neg hs]

theorem txt_err {r : List Int} {limit c : Int} (h : txt r limit = .inl c) : c = 1 ∨ c = 2 ∨ c = 3 ∨ c = 15 := by
  unfold txt at h
  cases hn : num r with
  | inl d =>
    rw [hn] at h
    have := num_err hn
    simp only [Sum.inl.injEq] at h
    omega
  | inr p =>
    rw [hn] at h
    simp only at h
    split at h
    · simp only [Sum.inl.injEq] at h; omega
    · split at h
      · simp only [Sum.inl.injEq] at h; omega
      · cases h

set_option maxHeartbeats 4000000 in
theorem text_at (w : World) (g : Nat) (l : List Int) (i limit : Int) (h : IsCur w g l i) (h0 : 0 ≤ i) (h1 : i ≤ l.length) (hl : l.length ≤ 140737488355327) (hb : ∀ x ∈ l, 0 ≤ x ∧ x < 256) (hlim : limit ≤ 9223372036854775807) :
    Calls Try.prog 14 #[.pointer (some ⟨g, 0, none⟩), .int .i64 limit] w fun e w' => e = .returned (txtE (txt (l.drop i.toNat) limit)) ∧ IsCur w' g l (txtAt i (txt (l.drop i.toNat) limit)) ∧ KeepBut w w' g none ∧ Below g w w' := by
  have HI := Aside0.mk h
  have HB := Aside0.mk hb
  have hbd : ∀ x ∈ l.drop i.toNat, 0 ≤ x ∧ x < 256 := fun x hx => hb x (List.mem_of_mem_drop hx)
  have HBD := Aside0.mk hbd
  have HLIM := Aside0.mk hlim
  clear h hb hbd hlim
  go_enter Try.func14, Try.ntmps14
  go_wp2_with (go_at_call 19; refine (at_at _ g l i HI.out).mono ?_; rintro e w' ⟨rfl, ⟨m, rfl⟩⟩)
  refine (number_at _ g l i (IsCur.drewN HI.out _) h0 h1 (by omega) HB.out).mono ?_
  rintro e w1 ⟨rfl, hI, hk, hB⟩
  have HK1 := Aside0.mk (KeepBut.trans (KeepBut.of_below (pw_below_drewN (B0 w) m) g none) hk (.inl rfl))
  have HB1 := Aside0.mk ((pw_below_drewN (Below.refl g w) m).trans hB)
  cases hnum : num (l.drop i.toNat) with
  | inl c =>
    rw [hnum] at hI
    simp only [numE, numAt, errW] at hI ⊢
    have HI1 := Aside0.mk hI
    have HT := Aside0.mk (txt_inl (limit := limit) hnum)
    clear hI hk hB hnum
    go_wp2
    go_ret2
    rw [HT.out]
    exact ⟨rfl, HI1.out, HK1.out, HB1.out⟩
  | inr p =>
    obtain ⟨n, k⟩ := p
    rw [hnum] at hI
    simp only [numE, numAt, errW] at hI ⊢
    obtain ⟨n0, n1, k0, k1, k2⟩ := num_ok HBD.out hnum
    have hdl : ((l.drop i.toNat).length : Int) = l.length - i := by rw [List.length_drop]; omega
    have HI1 := Aside0.mk hI
    have HNUM := Aside0.mk hnum
    have HDL := Aside0.mk hdl
    have HKK := Aside0.mk (And.intro k0 (And.intro k1 n1))
    have HBK := Aside0.mk (show Below g w (w1.setCell ⟨g, 1, none⟩ (.int .i64 i)) from HB1.out.setCell (p := ⟨g, 1, none⟩) (Nat.le_refl _) _)
    have HKK2 := Aside0.mk (show KeepBut w (w1.setCell ⟨g, 1, none⟩ (.int .i64 i)) g none from HK1.out.set_ 1 _)
    have HIK := Aside0.mk (show IsCur (w1.setCell ⟨g, 1, none⟩ (.int .i64 i)) g l i from HI1.out.set i)
    obtain ⟨A1, c1, hb1, _⟩ := id hI
    have fr1 := blk_frozen hb1 1
    have ce1 := blk_cell hb1 1
    simp at ce1
    clear hI hk hB hnum hdl k0 k1 n1 hb1
    by_cases hneg : limit < 0
    · have d1 : decide (limit < 0) = true := decide_eq_true hneg
      have HT := Aside0.mk (txt_limit (limit := limit) HNUM.out (.inl hneg))
      clear hneg
      go_wp2
      go_ret2
      rw [HT.out]
      exact ⟨rfl, HIK.out, HKK2.out, HBK.out⟩
    · have d1 : decide (limit < 0) = false := decide_eq_false hneg
      have hw : IntKind.u64.wrap limit = limit := by have := HLIM.out; rw [IntKind.wrap_u64]; omega
      by_cases hlm : limit < n
      · have d2 : decide (limit < n) = true := decide_eq_true hlm
        have HT := Aside0.mk (txt_limit (limit := limit) HNUM.out (.inr hlm))
        clear hneg hlm
        go_wp2
        go_ret2
        rw [HT.out]
        exact ⟨rfl, HIK.out, HKK2.out, HBK.out⟩
      · have d2 : decide (limit < n) = false := decide_eq_false hlm
        have HLN := Aside0.mk (show ¬ (limit < 0 ∨ limit < n) from by omega)
        clear hneg hlm
        have hik0 : 0 ≤ i + (k : Int) := by omega
        have hik1 : i + (k : Int) ≤ l.length := by have := HKK.out; have := HDL.out; omega
        have hw2 : IntKind.u64.wrap ((l.length : Int) - (i + k)) = (l.length : Int) - (i + k) := by rw [IntKind.wrap_u64]; omega
        by_cases hsh : (l.length : Int) - (i + k) < n
        · have d3 : decide ((l.length : Int) - (i + k) < n) = true := decide_eq_true hsh
          have HT := Aside0.mk (txt_short (limit := limit) HNUM.out HLN.out (by have := HDL.out; omega))
          clear hsh
          go_wp2_with fail
          refine (left_at _ g l (i + k) HI1.out hik0 hik1 (by omega)).mono ?_
          rintro e w2 ⟨rfl, ⟨m2, rfl⟩⟩
          have fr2 : (w1.drewN m2).frozen? ⟨g, 1, none⟩ = false := fr1
          go_wp2
          go_ret2
          rw [HT.out]
          exact ⟨rfl, IsCur.set (IsCur.drewN HI1.out m2) i, KeepBut.set_ (keep_drewN HK1.out m2) 1 _, Below.setCell (p := ⟨g, 1, none⟩) (pw_below_drewN HB1.out m2) (Nat.le_refl _) _⟩
        · have d3 : decide ((l.length : Int) - (i + k) < n) = false := decide_eq_false hsh
          have HT := Aside0.mk (txt_ok (limit := limit) HNUM.out HLN.out (by have := HDL.out; omega))
          have hn2 : n ≤ 140737488355327 := by omega
          have hn3 : n ≤ (l.length : Int) - (i + k) := by omega
          clear hsh
          go_wp2_with fail
          refine (left_at _ g l (i + k) HI1.out hik0 hik1 (by omega)).mono ?_
          rintro e w2 ⟨rfl, ⟨m2, rfl⟩⟩
          go_wp2_with fail
          refine (take_good _ g l (i + k) n (IsCur.drewN HI1.out m2) hik0 hik1 hl n0 hn3).mono ?_
          rintro e w3 ⟨v3, rfl, hR, hI3, hk3, hB3⟩
          have hcv : (convert 23 9 v3).run Try.prog w3 = .ok (.string (strOfNums ((l.drop (i + (k : Int)).toNat).take n.toNat))) w3 := own_string Try.underlying23 Try.underlying5 Try.underlying9 (Kd.own_of_R hR)
          have HT2 := Aside0.mk (show (l.drop (i + (k : Int)).toNat).take n.toNat = ((l.drop i.toNat).drop k).take n.toNat from by rw [List.drop_drop, show (i + (k : Int)).toNat = i.toNat + k from by omega])
          have HI3 := Aside0.mk hI3
          have HK3 := Aside0.mk (KeepBut.trans (keep_drewN HK1.out m2) hk3 (.inl rfl))
          have HB3 := Aside0.mk ((pw_below_drewN HB1.out m2).trans hB3)
          clear hR hI3 hk3 hB3
          simp only [errW]
          go_wp2
          go_ret2
          rw [HT.out]
          refine ⟨?_, ?_, HK3.out, HB3.out⟩
          · rw [HT2.out]
            rfl
          · have h := HI3.out
            rw [show i + (k : Int) + n = i + ((k + n.toNat : Nat) : Int) from by omega] at h
            exact h

end Go.Proofs.Ytbijboolhkjpjaa.HCur
