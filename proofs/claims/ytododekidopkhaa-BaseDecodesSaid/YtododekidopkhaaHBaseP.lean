/- The plain law of base: no program here. -/
import Derived.Test.YtododekidopkhaaHRef04d
namespace Go.Proofs.Ytododekidopkhaa.HBaseP
open Go.RowKit Go.Proofs.YtododekidopkhaaW.PrintWords Go.Proofs.Ytododekidopkhaa.HLib Go.Proofs.Ytododekidopkhaa.HBaseS Go.Proofs.Ytododekidopkhaa.HBase Go.Proofs.Ytododekidopkhaa.HEnc Go.Proofs.Ytododekidopkhaa.HDec Go.Proofs.Ytododekidopkhaa.HBaseL Go.Proofs.Ytododekidopkhaa.HRef04 Go.Proofs.Ytododekidopkhaa.HRef04d
set_option linter.unusedVariables false

theorem u8_back (x : Int) (h : 0 ≤ x ∧ x < 256) : ((UInt8.ofNat x.toNat).toNat : Int) = x := by
  rw [UInt8.toNat_ofNat']; omega
theorem bt_str (xs : List Int) (h : ∀ x ∈ xs, 0 ≤ x ∧ x < 256) (i : Nat) (hi : i < xs.length) : bt (strOfNums xs) i = xs[i] := by
  rw [← rd_bytesOf, rd, Go.Proofs.YtododekidopkhaaW.PrintWords.bytesOf, strOfNums_data, List.map_map, List.getD_eq_getElem?_getD, List.getElem?_map, show ((i : Nat) : Int).toNat = i from rfl, List.getElem?_eq_getElem hi]
  exact u8_back _ (h _ (List.getElem_mem hi))
theorem str_inj (xs ys : List Int) (hx : ∀ x ∈ xs, 0 ≤ x ∧ x < 256) (hy : ∀ x ∈ ys, 0 ≤ x ∧ x < 256) (h : strOfNums xs = strOfNums ys) : xs = ys := by
  have hl : xs.length = ys.length := by rw [← strOfNums_size xs, ← strOfNums_size ys, h]
  refine List.ext_getElem hl fun i h1 h2 => ?_
  rw [← bt_str xs hx i h1, ← bt_str ys hy i h2, h]
theorem str_of_bt (s : ByteArray) : s = strOfNums ((List.range s.size).map fun (i : Nat) => bt s i) := by
  apply ByteArray.ext
  apply Array.toList_inj.1
  rw [strOfNums_data, List.map_map]
  refine List.ext_getElem (by rw [List.length_map, List.length_range, data_length]) fun i h1 h2 => ?_
  rw [List.getElem_map, List.getElem_range]
  have hi : i < s.size := by rw [data_length] at h1; exact h1
  simp only [Function.comp]
  unfold bt
  rw [dif_pos (show ((i : Nat) : Int).toNat < s.size from hi)]
  apply UInt8.toNat_inj.1
  rw [UInt8.toNat_ofNat']
  have := s.data[i].toNat_lt
  show s.data[i].toNat = _
  have e : (s[((i : Nat) : Int).toNat]'hi) = s.data[i] := rfl
  rw [e]
  omega

theorem sign_bound (l : List Int) : ∀ x ∈ l.map sign, 0 ≤ x ∧ x < 256 := by
  intro x hx
  obtain ⟨v, _, rfl⟩ := List.mem_map.1 hx
  exact sign_byte v
theorem sign_inj (xs ys : List Int) (hx : ∀ x ∈ xs, 0 ≤ x ∧ x < 64) (hy : ∀ x ∈ ys, 0 ≤ x ∧ x < 64) (h : xs.map sign = ys.map sign) : xs = ys := by
  have h2 := congrArg (List.map vidx) h
  rw [List.map_map, List.map_map] at h2
  have e : ∀ l : List Int, (∀ x ∈ l, 0 ≤ x ∧ x < 64) → l.map (vidx ∘ sign) = l := fun l hl => by
    conv => rhs; rw [← List.map_id l]
    exact List.map_congr_left fun x hx => vidx_sign x (hl x hx).1 (hl x hx).2
  rw [e xs hx, e ys hy] at h2
  exact h2

theorem pad_01 (tw : Nat) (l : List Int) (h : ∀ x ∈ l, x = 0 ∨ x = 1) : ∀ x ∈ pad tw l, x = 0 ∨ x = 1 := by
  intro x hx
  rcases List.mem_append.1 hx with hx | hx
  · exact h x hx
  · exact .inl (List.eq_of_mem_replicate hx)
theorem pad_len6 (l : List Int) : (pad 6 l).length % 6 = 0 ∧ (pad 6 l).length = 6 * ((l.length + 5) / 6) := by
  rw [pad, List.length_append, List.length_replicate, padn]
  omega

theorem encS_eq (b : List Int) (h : ∀ x ∈ b, 0 ≤ x ∧ x < 256) : encS b = strOfNums ((chs 6 (pad 6 (b.flatMap (bts 8)))).map sign) := by
  rw [encS, ← rg_all (by decide) (by decide) b (fun v hv => h v hv), List.map_map]
  rfl
theorem encS_size (b : List Int) (h : ∀ x ∈ b, 0 ≤ x ∧ x < 256) : (encS b).size = (8 * b.length + 5) / 6 := by
  rw [encS_eq b h, strOfNums_size, List.length_map, chs_len, (pad_len6 _).2, flat_len]
  omega
theorem vids_enc (b : List Int) (h : ∀ x ∈ b, 0 ≤ x ∧ x < 256) : vids (encS b) = chs 6 (pad 6 (b.flatMap (bts 8))) := by
  have hr := chs_range (tw := 6) (by decide) (pad 6 (b.flatMap (bts 8))) (pad_01 6 _ (flat_01 8 b))
  rw [encS_eq b h]
  refine List.ext_getElem (by rw [vids_len, strOfNums_size, List.length_map]) fun i h1 h2 => ?_
  have hi : i < ((chs 6 (pad 6 (b.flatMap (bts 8)))).map sign).length := by rw [List.length_map]; exact h2
  have e := vids_get (strOfNums ((chs 6 (pad 6 (b.flatMap (bts 8)))).map sign)) i (by rw [strOfNums_size]; exact hi)
  rw [List.getD_eq_getElem?_getD, List.getElem?_eq_getElem h1] at e
  refine Eq.trans e ?_
  rw [bt_str _ (sign_bound _) i hi, List.getElem_map]
  have := hr _ (List.getElem_mem h2)
  exact vidx_sign _ this.1 this.2
theorem outOf_eq (s : ByteArray) (h : ∀ i : Nat, i < s.size → 0 ≤ vidx (bt s i)) : outOf s = chs 8 ((vids s).flatMap (bts 6)) := by
  refine rg_full (by decide) (by decide) (vids s) fun v hv => ?_
  obtain ⟨i, hi, rfl⟩ := List.mem_map.1 hv
  exact ⟨h i (List.mem_range.1 hi), (vidx_lt _).2⟩
theorem valid_enc (b : List Int) (h : ∀ x ∈ b, 0 ≤ x ∧ x < 256) : ∀ i : Nat, i < (encS b).size → 0 ≤ vidx (bt (encS b) i) := by
  intro i hi
  have hr := chs_range (tw := 6) (by decide) (pad 6 (b.flatMap (bts 8))) (pad_01 6 _ (flat_01 8 b))
  have e := vids_get (encS b) i hi
  rw [vids_enc b h] at e
  rw [← e]
  have hl : i < (chs 6 (pad 6 (b.flatMap (bts 8)))).length := by rw [← vids_enc b h, vids_len]; exact hi
  rw [List.getD_eq_getElem?_getD, List.getElem?_eq_getElem hl]
  exact (hr _ (List.getElem_mem hl)).1
theorem flat_chs {tw : Nat} (h0 : 0 < tw) (l : List Int) (h : ∀ x ∈ l, x = 0 ∨ x = 1) (hm : l.length % tw = 0) : (chs tw l).flatMap (bts tw) = l := by
  have := chs_split h0 (l.length / tw) l rfl h
  rw [List.drop_of_length_le (by have := Nat.div_add_mod l.length tw; omega), List.append_nil] at this
  exact this.symm
/-- What is encoded is decoded. -/
theorem dec_enc (b : List Int) (h : ∀ x ∈ b, 0 ≤ x ∧ x < 256) : decP (encS b) = (b, -1) := by
  have ho : outOf (encS b) = b := by
    rw [outOf_eq _ (valid_enc b h), vids_enc b h, flat_chs (by decide) _ (pad_01 6 _ (flat_01 8 b)) (pad_len6 _).1, pad]
    refine chs_of_bts (by decide) _ ?_ b h
    rw [List.length_replicate, padn]
    omega
  rw [decP, badAt_none (valid_enc b h)]
  simp only [ho, if_true]

theorem zeros_iff : ∀ (l : List Int), (∀ x ∈ l, x = 0 ∨ x = 1) → (¬ 0 < l.sum ↔ l = List.replicate l.length 0) := by
  intro l
  induction l with
  | nil => intro _; simp
  | cons x l ih =>
    intro h
    have h1 := ih (fun y hy => h y (List.mem_cons_of_mem _ hy))
    have h2 := h x (List.mem_cons_self ..)
    have h3 := (sum_01 l (fun y hy => h y (List.mem_cons_of_mem _ hy))).1
    rw [List.sum_cons, List.length_cons, List.replicate_succ, List.cons.injEq]
    rcases h2 with rfl | rfl
    · rw [← h1]; simp
    · constructor
      · intro h4; omega
      · intro h4; exact absurd h4.1 (by decide)

/-- Both decoders say the same. -/
theorem dec_ref (s : ByteArray) : decP s = refP s := by
  rw [decP, refP]
  cases hb : badAt s with
  | some i => rfl
  | none =>
    have hv : ∀ i : Nat, i < s.size → 0 ≤ vidx (bt s i) := by
      intro i hi
      unfold badAt at hb
      have := List.find?_eq_none.1 hb i (List.mem_range.2 hi)
      simp only [decide_eq_true_eq] at this
      omega
    have hV : ∀ v ∈ vids s, 0 ≤ v ∧ v < 64 := fun v hv' => by
      obtain ⟨i, hi, rfl⟩ := List.mem_map.1 hv'
      exact ⟨hv i (List.mem_range.1 hi), (vidx_lt _).2⟩
    have hs : s = strOfNums ((vids s).map sign) := by
      conv => lhs; rw [str_of_bt s]
      congr 1
      rw [vids, List.map_map]
      refine List.map_congr_left fun i hi => ?_
      exact (sign_vidx _ (by have := bt_range s i; omega) (hv i (List.mem_range.1 hi))).symm
    have ho := outOf_eq s hv
    have hob := outOf_bound s hv
    simp only [ho] at hob ⊢
    obtain ⟨L, hL⟩ : ∃ L, L = (vids s).flatMap (bts 6) := ⟨_, rfl⟩
    have hL01 : ∀ x ∈ L, x = 0 ∨ x = 1 := by rw [hL]; exact flat_01 6 _
    have hLl : L.length = 6 * s.size := by rw [hL, flat_len, vids_len]
    have hVL : chs 6 L = vids s := by
      have := chs_of_bts (tw := 6) (by decide) [] (by decide) (vids s) hV
      rw [List.append_nil] at this
      rw [hL]; exact this
    rw [← hL] at hob ⊢
    have hsp := chs_split (tw := 8) (by decide) (L.length / 8) L rfl hL01
    obtain ⟨R, hR⟩ : ∃ R, R = L.drop (8 * (L.length / 8)) := ⟨_, rfl⟩
    have hR01 : ∀ x ∈ R, x = 0 ∨ x = 1 := by rw [hR]; exact fun x hx => hL01 x (List.mem_of_mem_drop hx)
    have hRl : R.length = L.length - 8 * (L.length / 8) := by rw [hR, List.length_drop]
    obtain ⟨O, hO⟩ : ∃ O, O = (chs 8 L).flatMap (bts 8) := ⟨_, rfl⟩
    have hOl : O.length = 8 * (L.length / 8) := by rw [hO, flat_len, chs_len]
    have hO01 : ∀ x ∈ O, x = 0 ∨ x = 1 := by rw [hO]; exact flat_01 8 _
    rw [← hR, ← hO] at hsp
    have key : encS (chs 8 L) = s ↔ pad 6 O = L := by
      rw [encS_eq _ hob, ← hO]
      constructor
      · intro h
        rw [hs] at h
        have h1 := sign_inj _ _ (chs_range (by decide) _ (pad_01 6 _ hO01)) hV (str_inj _ _ (sign_bound _) (sign_bound _) h)
        have h2 := congrArg (List.flatMap (bts 6)) h1
        rw [flat_chs (by decide) _ (pad_01 6 _ hO01) (pad_len6 _).1, ← hL] at h2
        exact h2
      · intro h
        rw [h, hVL]
        exact hs.symm
    have key2 : pad 6 O = L ↔ ¬ (6 ≤ L.length - 8 * (L.length / 8) ∨ 0 < R.sum) := by
      rw [show (pad 6 O = L) = (O ++ List.replicate (padn 6 O.length) 0 = L) from rfl]
      conv => lhs; rw [hsp]
      rw [List.append_cancel_left_eq, not_or, zeros_iff R hR01, padn, hOl, hRl]
      constructor
      · intro h
        have h1 := congrArg List.length h
        rw [List.length_replicate, hRl] at h1
        refine ⟨by omega, ?_⟩
        rw [← h, ← h1]
      · rintro ⟨h1, h2⟩
        rw [h2]
        congr 1
        omega
    rw [← hLl, ← hR]
    by_cases c : encS (chs 8 L) = s
    · rw [if_pos c, if_neg (key2.1 (key.1 c))]
    · rw [if_neg c, if_pos (Classical.byContradiction fun h => c (key.2 (key2.2 h)))]

/-- A text that is decoded is that of its bytes. -/
theorem dec_good {s : ByteArray} (h : (decP s).2 < 0) : encS (decP s).1 = s ∧ (decP s).2 = -1 ∧ ∀ x ∈ (decP s).1, 0 ≤ x ∧ x < 256 := by
  rw [decP] at h ⊢
  cases hb : badAt s with
  | some i => rw [hb] at h; simp only at h; omega
  | none =>
    have hv : ∀ i : Nat, i < s.size → 0 ≤ vidx (bt s i) := by
      intro i hi
      unfold badAt at hb
      have := List.find?_eq_none.1 hb i (List.mem_range.2 hi)
      simp only [decide_eq_true_eq] at this
      omega
    rw [hb] at h
    simp only at h ⊢
    by_cases c : encS (outOf s) = s
    · rw [if_pos c]
      exact ⟨c, rfl, outOf_bound s hv⟩
    · rw [if_neg c] at h
      exfalso
      apply c
      have hz : s.size = 0 := by simp only at h; omega
      have h0 : s = strOfNums [] := by rw [str_of_bt s, hz]; rfl
      rw [h0]
      have : outOf (strOfNums []) = [] := by rfl
      rw [this]
      rfl
theorem dec_len (s : ByteArray) : (decP s).1.length ≤ s.size := by
  rw [dec_ref, refP]
  split
  · simp
  · split
    · simp
    · simp only [chs_len, flat_len, vids_len]; omega
theorem dec_bytes (s : ByteArray) : ∀ x ∈ (decP s).1, 0 ≤ x ∧ x < 256 := by
  by_cases h : (decP s).2 < 0
  · exact (dec_good h).2.2
  · intro x hx
    rw [dec_ref, refP] at h hx
    split at hx <;> rename_i hb
    · cases hx
    · rw [hb] at h
      simp only at h
      split at hx <;> rename_i hc
      · cases hx
      · rw [if_neg hc] at h; simp at h

end Go.Proofs.Ytododekidopkhaa.HBaseP
