/- The package name: allowed types; told. -/
import Derived.Test.YtpbkcfgcmknijaaDoorHName2
namespace Go.Proofs.YtpbkcfgcmknijaaDoor.HName
open Go.RowKit Go.Proofs.YtpbkcfgcmknijaaDoorW.PrintWords Go.Proofs.YtpbkcfgcmknijaaDoor.HLib Go.Proofs.YtpbkcfgcmknijaaDoor.HNameP Go.Proofs.YtpbkcfgcmknijaaDoor.HErr
set_option linter.unusedVariables false
set_option linter.unusedSimpArgs false

theorem two_cells {w1 : World} {g : Nat} {x y : Value} (a b : Value) (h0 : w1.cell? ⟨g, 0, none⟩ = some x) (h1 : w1.cell? ⟨g, 1, none⟩ = some y) :
    ((w1.setCell ⟨g, 0, none⟩ a).setCell ⟨g, 1, none⟩ b).cell? ⟨g, 0, none⟩ = some a ∧ ((w1.setCell ⟨g, 0, none⟩ a).setCell ⟨g, 1, none⟩ b).cell? ⟨g, 1, none⟩ = some b := by
  refine ⟨?_, ?_⟩
  · rw [World.cell?_setCell_other (h := by intro h; cases h)]
    exact World.cell?_setCell_same _ _ _ h0
  · refine World.cell?_setCell_same _ _ _ (u := y) ?_
    rw [World.cell?_setCell_other (h := by intro h; cases h)]
    exact h1

set_option maxHeartbeats 4000000 in
theorem cutlite_any (s : ByteArray) (c : UInt8) (k : Int) (hk : k.toNat.toUInt8 = c) (hk0 : 0 ≤ k ∧ k ≤ 255) (w : World) (hs : s.size ≤ 1099511627776) : Calls Tryd.prog 43 #[.string s, .string ⟨#[c]⟩] w fun e w' => e = .returned (.tuple #[.string (cutP s k).1, .string (cutP s k).2.1, .bool (cutP s k).2.2]) ∧ Below w.heap.size w w' := by
  have hge := find_ge s k
  have hlt := find_lt (s := s) hk0
  obtain ⟨F, hF⟩ : ∃ F, F = findP s k := ⟨_, rfl⟩
  have HF := Aside0.mk (show Lib.indexByte s.data.toList c = F from by rw [hF, ← hk]; rfl)
  rw [← hF] at hge hlt
  by_cases h1 : F = -1
  · have HR := Aside0.mk (show cutP s k = (s, ⟨#[]⟩, false) from by unfold cutP; rw [if_pos (by rw [← hF]; exact h1)])
    have hb1 : decide (0 ≤ F) = false := decide_eq_false (by omega)
    clear hF h1 hk hk0
    go_enter Tryd.func43, Tryd.ntmps43
    go_wp2_with fail
    refine (Tryd.stringslite_Index_one s c _).mono ?_
    rintro e w1 ⟨rfl, hw⟩
    subst hw
    rw [HF.out]
    go_wp2
    go_ret3
    rw [HR.out]
    exact ⟨rfl, B0 _⟩
  · have hF0 : 0 ≤ F := by omega
    have hF1 : F ≤ (s.size : Int) := by omega
    have hF2 : F ≤ 1099511627776 := by omega
    have hF3 : 0 ≤ F + 1 := by omega
    have hF4 : F + 1 ≤ (s.size : Int) := by omega
    have HR := Aside0.mk (show cutP s k = (s.extract 0 F.toNat, s.extract (F + 1).toNat s.size, true) from by unfold cutP; rw [← hF, if_neg h1])
    clear hF h1 hk hk0
    go_enter Tryd.func43, Tryd.ntmps43
    go_wp2_with fail
    refine (Tryd.stringslite_Index_one s c _).mono ?_
    rintro e w1 ⟨rfl, hw⟩
    subst hw
    rw [HF.out]
    go_wp2
    go_region
    go_wp2
    go_ret3
    rw [HR.out]
    exact ⟨rfl, below_drew1 (B0 _)⟩

set_option maxHeartbeats 4000000 in
theorem cut_any (s : ByteArray) (c : UInt8) (k : Int) (hk : k.toNat.toUInt8 = c) (hk0 : 0 ≤ k ∧ k ≤ 255) (w : World) (hs : s.size ≤ 1099511627776) : Calls Tryd.prog 34 #[.string s, .string ⟨#[c]⟩] w fun e w' => e = .returned (.tuple #[.string (cutP s k).1, .string (cutP s k).2.1, .bool (cutP s k).2.2]) ∧ Below w.heap.size w w' := by
  have HK := Aside0.mk (And.intro hk hk0)
  clear hk hk0
  go_enter Tryd.func34, Tryd.ntmps34
  go_wp2_with fail
  refine (cutlite_any s c k HK.out.1 HK.out.2 _ hs).mono ?_
  rintro e w1 ⟨rfl, hb⟩
  have HB := Aside0.mk hb
  clear hb
  go_wp2
  go_ret3
  exact ⟨rfl, HB.out⟩

set_option maxHeartbeats 4000000 in
theorem parseallowed_any (s : ByteArray) (w : World) (hs : s.size ≤ 1099511627776) (hG : ResG w) : Calls Tryd.prog 17 #[.string s] w fun e w' => e = .returned (.tuple #[.agg #[.string (parseA s).1, .string (parseA s).2.1], errV (parseA s).2.2]) ∧ Below w.heap.size w w' := by
  have HG := Aside0.mk hG
  have HGA : Aside0 (ResG (w.alloc (.cells #[.string ⟨#[]⟩, .string ⟨#[]⟩] 33))) := ⟨HG.out.below (below_alloc (B0 w) _) HG.out.1⟩
  have HTL := Aside0.mk (show (cutP s 35).1.size ≤ 1099511627776 from by
    unfold cutP
    split
    · exact hs
    · rw [ByteArray.size_extract]; omega)
  clear hG
  obtain ⟨t, rel, ok, hq⟩ : ∃ t rel ok, cutP s 35 = (t, rel, ok) := ⟨_, _, _, rfl⟩
  have HQ := Aside0.mk hq
  rw [hq] at HTL
  have HR0 := Aside0.mk (show parseA s = (if isP t = false then (⟨#[]⟩, ⟨#[]⟩, some (5, 0)) else if ok = true ∧ isP rel = false then (⟨#[]⟩, ⟨#[]⟩, some (5, (t.size : Int) + 1)) else (t, rel, none)) from by unfold parseA; rw [hq])
  clear hq
  have hT : t.size ≤ 1099511627776 := HTL.out
  have hc0 : ∀ W : World, ResG W → ∀ b : World, Below W.heap.size W b → ResG b := fun W h b hb => h.below hb h.1
  have HC0 := Aside0.mk hc0
  clear hc0
  cases h1 : isP t with
  | false =>
    have H1 := Aside0.mk h1
    have HR := Aside0.mk (show parseA s = (⟨#[]⟩, ⟨#[]⟩, some (5, 0)) from by rw [HR0.out, if_pos h1])
    clear h1
    go_enter Tryd.func17, Tryd.ntmps17
    go_wp2_with fail
    refine (cut_any s 35 35 rfl (by decide) _ hs).mono ?_
    rintro e w1 ⟨rfl, hb⟩
    rw [HQ.out]
    have HB := Aside0.mk hb
    have hA := (hb.cell (p := ⟨w.heap.size, 0, none⟩) (by simp)).trans (show _ = _ from World.cell?_alloc_at _ _ _ _ rfl)
    have hA1 := (hb.cell (p := ⟨w.heap.size, 1, none⟩) (by simp)).trans (show _ = _ from World.cell?_alloc_at _ _ _ _ rfl)
    have hA2 := (hb.frozen (p := ⟨w.heap.size, 0, none⟩) (by simp))
    have hA3 := (hb.frozen (p := ⟨w.heap.size, 1, none⟩) (by simp))
    clear hb
    go_wp2_with fail
    refine (is_any _ _ (HC0.out _ HGA.out _ HB.out)).mono ?_
    rintro e w1 ⟨rfl, rfl⟩
    rw [H1.out]
    go_wp2_with fail
    refine (new_any _ _ _).mono ?_
    rintro e w1 ⟨rfl, rfl⟩
    have h2 := two_cells (.string ⟨#[]⟩) (.string ⟨#[]⟩) hA hA1
    go_wp2
    refine bodyPost_ret (v := .tuple #[.agg #[.string (parseA s).1, .string (parseA s).2.1], errV (parseA s).2.2]) (by rw [HR.out]; simp [results, Tryd.results17, go_sem, errV, h2.1, h2.2]) rfl ⟨rfl, ?_⟩
    exact (((below_alloc (B0 w) _).trans (HB.out.mono (by simp))).setCell (p := ⟨w.heap.size, 0, none⟩) (Nat.le_refl _) _).setCell (p := ⟨w.heap.size, 1, none⟩) (Nat.le_refl _) _
  | true =>
    have H1 := Aside0.mk h1
    cases ok with
    | false =>
      have HR := Aside0.mk (show parseA s = (t, rel, none) from by rw [HR0.out, if_neg (by rw [h1]; simp), if_neg (by simp)])
      clear h1
      go_enter Tryd.func17, Tryd.ntmps17
      go_wp2_with fail
      refine (cut_any s 35 35 rfl (by decide) _ hs).mono ?_
      rintro e w1 ⟨rfl, hb⟩
      rw [HQ.out]
      have HB := Aside0.mk hb
      have hA := (hb.cell (p := ⟨w.heap.size, 0, none⟩) (by simp)).trans (show _ = _ from World.cell?_alloc_at _ _ _ _ rfl)
      have hA1 := (hb.cell (p := ⟨w.heap.size, 1, none⟩) (by simp)).trans (show _ = _ from World.cell?_alloc_at _ _ _ _ rfl)
      have hA2 := (hb.frozen (p := ⟨w.heap.size, 0, none⟩) (by simp))
      have hA3 := (hb.frozen (p := ⟨w.heap.size, 1, none⟩) (by simp))
      clear hb
      go_wp2_with fail
      refine (is_any _ _ (HC0.out _ HGA.out _ HB.out)).mono ?_
      rintro e w1 ⟨rfl, rfl⟩
      rw [H1.out]
      have h2 := two_cells (.string t) (.string rel) hA hA1
      go_wp2
      refine bodyPost_ret (v := .tuple #[.agg #[.string (parseA s).1, .string (parseA s).2.1], errV (parseA s).2.2]) (by rw [HR.out]; simp [results, Tryd.results17, go_sem, errV, h2.1, h2.2]) rfl ⟨rfl, ?_⟩
      exact (((below_alloc (B0 w) _).trans (HB.out.mono (by simp))).setCell (p := ⟨w.heap.size, 0, none⟩) (Nat.le_refl _) _).setCell (p := ⟨w.heap.size, 1, none⟩) (Nat.le_refl _) _
    | true =>
      cases h2 : isP rel with
      | false =>
        have HR := Aside0.mk (show parseA s = ((⟨#[]⟩ : ByteArray), (⟨#[]⟩ : ByteArray), some ((5 : Int), (t.size : Int) + 1)) from by rw [HR0.out, if_neg (by rw [h1]; simp), if_pos ⟨rfl, h2⟩])
        have H2 := Aside0.mk h2
        clear h1 h2
        go_enter Tryd.func17, Tryd.ntmps17
        go_wp2_with fail
        refine (cut_any s 35 35 rfl (by decide) _ hs).mono ?_
        rintro e w1 ⟨rfl, hb⟩
        rw [HQ.out]
        have HB := Aside0.mk hb
        have hA := (hb.cell (p := ⟨w.heap.size, 0, none⟩) (by simp)).trans (show _ = _ from World.cell?_alloc_at _ _ _ _ rfl)
        have hA1 := (hb.cell (p := ⟨w.heap.size, 1, none⟩) (by simp)).trans (show _ = _ from World.cell?_alloc_at _ _ _ _ rfl)
        have hA2 := (hb.frozen (p := ⟨w.heap.size, 0, none⟩) (by simp))
        have hA3 := (hb.frozen (p := ⟨w.heap.size, 1, none⟩) (by simp))
        clear hb
        go_wp2_with fail
        refine (is_any _ _ (HC0.out _ HGA.out _ HB.out)).mono ?_
        rintro e w1 ⟨rfl, rfl⟩
        rw [H1.out]
        go_wp2_with fail
        refine (is_any _ _ (HC0.out _ HGA.out _ HB.out)).mono ?_
        rintro e w1 ⟨rfl, rfl⟩
        rw [H2.out]
        go_wp2_with fail
        refine (new_any _ _ _).mono ?_
        rintro e w1 ⟨rfl, rfl⟩
        have h2 := two_cells (.string ⟨#[]⟩) (.string ⟨#[]⟩) hA hA1
        go_wp2
        refine bodyPost_ret (v := .tuple #[.agg #[.string (parseA s).1, .string (parseA s).2.1], errV (parseA s).2.2]) (by rw [HR.out]; simp [results, Tryd.results17, go_sem, errV, h2.1, h2.2]) rfl ⟨rfl, ?_⟩
        exact (((below_alloc (B0 w) _).trans (HB.out.mono (by simp))).setCell (p := ⟨w.heap.size, 0, none⟩) (Nat.le_refl _) _).setCell (p := ⟨w.heap.size, 1, none⟩) (Nat.le_refl _) _
      | true =>
        have HR := Aside0.mk (show parseA s = (t, rel, none) from by rw [HR0.out, if_neg (by rw [h1]; simp), if_neg (by rw [h2]; simp)])
        have H2 := Aside0.mk h2
        clear h1 h2
        go_enter Tryd.func17, Tryd.ntmps17
        go_wp2_with fail
        refine (cut_any s 35 35 rfl (by decide) _ hs).mono ?_
        rintro e w1 ⟨rfl, hb⟩
        rw [HQ.out]
        have HB := Aside0.mk hb
        have hA := (hb.cell (p := ⟨w.heap.size, 0, none⟩) (by simp)).trans (show _ = _ from World.cell?_alloc_at _ _ _ _ rfl)
        have hA1 := (hb.cell (p := ⟨w.heap.size, 1, none⟩) (by simp)).trans (show _ = _ from World.cell?_alloc_at _ _ _ _ rfl)
        have hA2 := (hb.frozen (p := ⟨w.heap.size, 0, none⟩) (by simp))
        have hA3 := (hb.frozen (p := ⟨w.heap.size, 1, none⟩) (by simp))
        clear hb
        go_wp2_with fail
        refine (is_any _ _ (HC0.out _ HGA.out _ HB.out)).mono ?_
        rintro e w1 ⟨rfl, rfl⟩
        rw [H1.out]
        go_wp2_with fail
        refine (is_any _ _ (HC0.out _ HGA.out _ HB.out)).mono ?_
        rintro e w1 ⟨rfl, rfl⟩
        rw [H2.out]
        have h2 := two_cells (.string t) (.string rel) hA hA1
        go_wp2
        refine bodyPost_ret (v := .tuple #[.agg #[.string (parseA s).1, .string (parseA s).2.1], errV (parseA s).2.2]) (by rw [HR.out]; simp [results, Tryd.results17, go_sem, errV, h2.1, h2.2]) rfl ⟨rfl, ?_⟩
        exact (((below_alloc (B0 w) _).trans (HB.out.mono (by simp))).setCell (p := ⟨w.heap.size, 0, none⟩) (Nat.le_refl _) _).setCell (p := ⟨w.heap.size, 1, none⟩) (Nat.le_refl _) _

set_option maxHeartbeats 4000000 in
theorem told_any (e : Option (Int × Int)) (c a : Int) (w : World) (hG : ErrG w) : Calls Tryd.prog 19 #[errV e, .int .i64 c, .int .i64 a] w fun r w' => r = .returned (.bool (toldP e c a)) ∧ Below w.heap.size w w' := by
  have HG := Aside0.mk hG
  clear hG
  cases e with
  | none =>
    by_cases hc : c = 0
    · subst hc
      go_enter Tryd.func19, Tryd.ntmps19
      unfold errV
      go_wp2
      go_ret
      exact ⟨rfl, B0 w⟩
    · have hc1 : (c == 0) = false := by simpa using hc
      have HT := Aside0.mk (show toldP none c a = false from decide_eq_false hc)
      clear hc
      go_enter Tryd.func19, Tryd.ntmps19
      unfold errV
      go_wp2_with fail
      refine (code_nil _).mono ?_
      rintro r w1 ⟨rfl, hb1⟩
      have HB1 := Aside0.mk hb1
      clear hb1
      go_wp2_with fail
      refine (at_nil _).mono ?_
      rintro r w2 ⟨rfl, hb2⟩
      have HB2 := Aside0.mk (below_step HB1.out hb2)
      clear hb2
      go_wp2
      go_ret
      exact ⟨by rw [HT.out]; rfl, HB2.out⟩
  | some p =>
    obtain ⟨n, m⟩ := p
    by_cases hc : c = 0
    · have hc1 : (c == 0) = true := by simpa using hc
      have HT := Aside0.mk (show toldP (some (n, m)) c a = false from by simp [toldP, hc])
      clear hc
      go_enter Tryd.func19, Tryd.ntmps19
      unfold errV
      go_wp2
      go_ret
      exact ⟨by rw [HT.out]; rfl, B0 w⟩
    · have hc1 : (c == 0) = false := by simpa using hc
      have HT := Aside0.mk (show toldP (some (n, m)) c a = (decide (n = c) && decide (m = a)) from by simp [toldP, hc])
      clear hc
      go_enter Tryd.func19, Tryd.ntmps19
      unfold errV
      go_wp2_with fail
      refine (code_F _ _ _ HG.out).mono ?_
      rintro r w1 ⟨rfl, hb1⟩
      have HB1 := Aside0.mk hb1
      clear hb1
      go_wp2_with fail
      refine (at_F _ _ _ (HG.out.below HB1.out HG.out.1)).mono ?_
      rintro r w2 ⟨rfl, hb2⟩
      have HB2 := Aside0.mk (below_step HB1.out hb2)
      clear hb2
      by_cases h1 : n = c
      · have d1 : (n == c) = true := by simpa using h1
        by_cases h2 : m = a
        · have d2 : (m == a) = true := by simpa using h2
          rw [decide_eq_true h1, decide_eq_true h2] at HT
          clear h1 h2
          go_wp2
          go_ret
          exact ⟨by rw [HT.out]; rfl, HB2.out⟩
        · have d2 : (m == a) = false := by simpa using h2
          rw [decide_eq_true h1, decide_eq_false h2] at HT
          clear h1 h2
          go_wp2
          go_ret
          exact ⟨by rw [HT.out]; rfl, HB2.out⟩
      · have d1 : (n == c) = false := by simpa using h1
        rw [decide_eq_false h1, Bool.false_and] at HT
        clear h1
        go_wp2
        go_ret
        exact ⟨by rw [HT.out]; rfl, HB2.out⟩

end Go.Proofs.YtpbkcfgcmknijaaDoor.HName
