/- The law LexComments. -/
import Derived.Test.YthefibpcepgoaaaDoorUB
import Derived.Test.YthefibpcepgoaaaDoorUI
import Derived.Deep.Cut
namespace Go.Proofs.YthefibpcepgoaaaDoor.HLexL5
open Go.RowKit Go.Proofs.YthefibpcepgoaaaDoorW.PrintWords Go.Proofs.YthefibpcepgoaaaDoor.HLib Go.Proofs.YthefibpcepgoaaaDoor.HErr Go.Proofs.YthefibpcepgoaaaDoor.HNameP Go.Proofs.YthefibpcepgoaaaDoor.HLexP Go.Proofs.YthefibpcepgoaaaDoor.HLexJ Go.Proofs.YthefibpcepgoaaaDoor.HLexI Go.Proofs.YthefibpcepgoaaaDoor.HLexS Go.Proofs.YthefibpcepgoaaaDoor.HLexT Go.Proofs.YthefibpcepgoaaaDoor.HLexM Go.Proofs.YthefibpcepgoaaaDoor.HLexK Go.Proofs.YthefibpcepgoaaaDoor.HLexQ Go.Proofs.YthefibpcepgoaaaDoor.HLexV Go.Proofs.YthefibpcepgoaaaDoor.HLexB Go.Proofs.YthefibpcepgoaaaDoor.HLexC Go.Proofs.YthefibpcepgoaaaDoor.HLexF Go.Proofs.YthefibpcepgoaaaDoor.HLexE Go.Proofs.YthefibpcepgoaaaDoor.HLexW Go.Proofs.YthefibpcepgoaaaDoor.HName Go.Proofs.YthefibpcepgoaaaDoor.PLexJoins
set_option linter.unusedVariables false
set_option linter.unusedSimpArgs false

theorem cc_eq : CC = ⟨#[47, 47]⟩ := rfl
theorem nn_eq : NN = ⟨#[10]⟩ := rfl
theorem nc_eq : NC = ⟨#[10, 47, 47]⟩ := rfl
theorem tok_told (s c bl : ByteArray) (h1 : s.size ≤ 1000) (h2 : c.size ≤ 300) (h3 : bl.size ≤ 100) (hc : ∀ k : Nat, k < c.size → bt c k ≠ 10) (hb : ∀ k : Nat, k < bl.size → spC (bt bl k) = true) :
    HLexJ.Told (bl.size + 3 + c.size) (lexP s) (lexP (bl ++ ⟨#[47, 47]⟩ ++ c ++ ⟨#[10]⟩ ++ s ++ ⟨#[10, 47, 47]⟩ ++ c ++ bl)) ∧ (bl ++ ⟨#[47, 47]⟩ ++ c ++ ⟨#[10]⟩ ++ s ++ ⟨#[10, 47, 47]⟩ ++ c ++ bl).size ≤ 65536 := by
  have h := around_text s c bl hc hb
  rw [cc_eq, nn_eq, nc_eq] at h
  have hz := h.size
  exact ⟨around_told h (by omega), by omega⟩
theorem tok_L (s c bl : ByteArray) (h1 : s.size ≤ 1000) (h2 : c.size ≤ 300) (h3 : bl.size ≤ 100) (hc : ∀ k : Nat, k < c.size → bt c k ≠ 10) (hb : ∀ k : Nat, k < bl.size → spC (bt bl k) = true) {k n : Int} (hl : lexP s = .inl (k, n)) (w : World) (hG : ResG w) :
    Calls Tryd.prog 9 #[.string (bl ++ ⟨#[47, 47]⟩ ++ c ++ ⟨#[10]⟩ ++ s ++ ⟨#[10, 47, 47]⟩ ++ c ++ bl)] w fun e w' => e = .returned (.tuple #[.slice none 0 0, fltV k (((bl.size + 3 + c.size : Nat) : Int) + n)]) ∧ Below w.heap.size w w' := by
  obtain ⟨ht, hz⟩ := tok_told s c bl h1 h2 h3 hc hb
  rw [hl] at ht
  exact tokens_L _ hz ht w hG
theorem tok_R (s c bl : ByteArray) (h1 : s.size ≤ 1000) (h2 : c.size ≤ 300) (h3 : bl.size ≤ 100) (hc : ∀ k : Nat, k < c.size → bt c k ≠ 10) (hb : ∀ k : Nat, k < bl.size → spC (bt bl k) = true) {l : List Tok} (hl : lexP s = .inr l) (w : World) (hG : ResG w) :
    Calls Tryd.prog 9 #[.string (bl ++ ⟨#[47, 47]⟩ ++ c ++ ⟨#[10]⟩ ++ s ++ ⟨#[10, 47, 47]⟩ ++ c ++ bl)] w fun e w' => ∃ (X : List S36) (A : Option Addr) (c : Nat), X.map kk = l.map kt ∧ e = .returned (.tuple #[.slice A X.length c, .nilIface]) ∧ Sl w' w.heap.size A c X ∧ Below w.heap.size w w' := by
  obtain ⟨ht, hz⟩ := tok_told s c bl h1 h2 h3 hc hb
  rw [hl] at ht
  obtain ⟨l', hl', hk⟩ := ht
  exact (tokens_R _ hz hl' w hG).mono fun e w' ⟨A, c, h⟩ => ⟨l'.map tk36, A, c, by rw [kk_tk, hk], h⟩
set_option maxRecDepth 100000 in
set_option maxHeartbeats 8000000 in
theorem near_L (s c bl : ByteArray) (h1 : s.size ≤ 1000) (h2 : c.size ≤ 300) (h3 : bl.size ≤ 100) (k n : Int) (hk : k ≠ 0) (hl : lexP s = .inl (k, n)) (w : World) (hG : GV w) : Calls Tryd.prog 7 #[.string s, .string c, .string bl] w fun e w' => e = .returned (.bool true) ∧ Below w.heap.size w w' := by
  have HG := Aside0.mk hG
  clear hG
  have d1 : decide (1000 < s.size) = false := decide_eq_false (by omega)
  have d2 : decide ((1000 : Int) < (s.size : Int)) = false := decide_eq_false (by omega)
  have d3 : decide (300 < c.size) = false := decide_eq_false (by omega)
  have d4 : decide ((300 : Int) < (c.size : Int)) = false := decide_eq_false (by omega)
  have d5 : decide (100 < bl.size) = false := decide_eq_false (by omega)
  have d6 : decide ((100 : Int) < (bl.size : Int)) = false := decide_eq_false (by omega)
  have H1 := Aside0.mk h1
  have H2 := Aside0.mk h2
  have H3 := Aside0.mk h3
  have HRT := Aside0.mk (fun w => ref_L0 s (by omega) hl w)
  have HNB := Aside0.mk (lexP_at (by omega) hl)
  have HTD := Aside0.mk (fun hc hb w hG => tok_L s c bl h1 h2 h3 hc hb hl w hG)
  have k0 : (k != 0) = true := by simpa using hk
  have HK := Aside0.mk hk
  clear hl hk
  clear h1 h2 h3
  go_enter Tryd.func7, Tryd.ntmps7
  go_wp2_with fail
  refine (awake_any w HG.out).mono ?_
  rintro e w1 ⟨rfl, hb1⟩
  have HB1 := Aside0.mk hb1
  clear hb1
  go_wp2
  go_loopg [7] c.size (fun kq v7 w' => ∃ (j : Nat), v7 = .int .i64 j ∧ Aside0 (kq + j = c.size) ∧ Aside0 (∀ k : Nat, k < j → bt c k ≠ 10) ∧ (w1 = w'))
  case atStart => exact ⟨0, rfl, ⟨by omega⟩, ⟨fun k h => absurd h (Nat.not_lt_zero k)⟩, rfl⟩
  case round =>
    obtain ⟨j, rfl, HJ, HN, rfl⟩ := hrel
    by_cases cj : j < c.size
    · have e1 : decide (j < c.size) = true := decide_eq_true cj
      have e2 : decide ((j : Int) < (c.size : Int)) = true := decide_eq_true (by omega)
      have e3 : (j : Int) < (c.size : Int) := by omega
      have e4 : (j : Int) ≤ 300 := by have := H2.out; omega
      have hbt : ∀ h : j < c.size, ((c[j]'h).toNat : Int) = bt c j := fun h => bt_at c j h
      by_cases c10 : bt c j = 10
      · have q1 : (bt c j == 10) = true := beq_iff_eq.2 c10
        clear c10
        go_wp2
        go_ret
        exact ⟨rfl, HB1.out⟩
      · have q1 : (bt c j == 10) = false := beq_eq_false_iff_ne.2 c10
        have HN1 := Aside0.mk (show ∀ k : Nat, k < j + 1 → bt c k ≠ 10 from fun k hk => by
          rcases Nat.lt_succ_iff_lt_or_eq.1 hk with h | h
          · exact HN.out k h
          · rw [h]; exact c10)
        clear c10
        go_wp2
        go_roundg (c.size - (j + 1))
        case measure => have := HJ.out; omega
        case rel => exact ⟨j + 1, rfl, ⟨by have := HJ.out; omega⟩, HN1, rfl⟩
    · have e1 : decide (j < c.size) = false := decide_eq_false cj
      have e2 : decide ((j : Int) < (c.size : Int)) = false := decide_eq_false (by omega)
      have HC := Aside0.mk (show ∀ k : Nat, k < c.size → bt c k ≠ 10 from fun k hk => HN.out k (by have := HJ.out; omega))
      clear HN HJ
      go_wp2
      go_loopg [8] bl.size (fun kq v8 w' => ∃ (j : Nat), v8 = .int .i64 j ∧ Aside0 (kq + j = bl.size) ∧ Aside0 (∀ k : Nat, k < j → spC (bt bl k) = true) ∧ (w1 = w'))
      case atStart => exact ⟨0, rfl, ⟨by omega⟩, ⟨fun k h => absurd h (Nat.not_lt_zero k)⟩, rfl⟩
      case round =>
        obtain ⟨i, rfl, HJ, HN, rfl⟩ := hrel
        by_cases cj : i < bl.size
        · have f1 : decide (i < bl.size) = true := decide_eq_true cj
          have f2 : decide ((i : Int) < (bl.size : Int)) = true := decide_eq_true (by omega)
          have f3 : (i : Int) < (bl.size : Int) := by omega
          have f4 : (i : Int) ≤ 300 := by have := H3.out; omega
          have hbt : ∀ h : i < bl.size, ((bl[i]'h).toNat : Int) = bt bl i := fun h => bt_at bl i h
          have HF := Aside0.mk cj
          clear cj e1 e2
          by_cases csp : spC (bt bl i) = true
          · have HN1 := Aside0.mk (show ∀ k : Nat, k < i + 1 → spC (bt bl k) = true from fun k hk => by
              rcases Nat.lt_succ_iff_lt_or_eq.1 hk with h | h
              · exact HN.out k h
              · rw [h]; exact csp)
            rcases (spC_iff _).1 csp with q | q | q | q
            all_goals
              clear csp
              go_wp2
              go_roundg (bl.size - (i + 1))
              case measure => have := HJ.out; omega
              case rel => exact ⟨i + 1, rfl, ⟨by have := HJ.out; omega⟩, HN1, rfl⟩
          · rw [spC_iff] at csp
            have q1 : (bt bl i != 32) = true := by rw [bne_iff_ne]; exact fun h => csp (.inl h)
            have q2 : (bt bl i != 9) = true := by rw [bne_iff_ne]; exact fun h => csp (.inr (.inl h))
            have q3 : (bt bl i != 10) = true := by rw [bne_iff_ne]; exact fun h => csp (.inr (.inr (.inl h)))
            have q4 : (bt bl i != 13) = true := by rw [bne_iff_ne]; exact fun h => csp (.inr (.inr (.inr h)))
            clear csp
            go_wp2
            go_ret
            exact ⟨rfl, HB1.out⟩
        · have f1 : decide (i < bl.size) = false := decide_eq_false cj
          have f2 : decide ((i : Int) < (bl.size : Int)) = false := decide_eq_false (by omega)
          have HS := Aside0.mk (show ∀ k : Nat, k < bl.size → spC (bt bl k) = true from fun k hk => HN.out k (by have := HJ.out; omega))
          clear HN HJ cj
          go_wp2_with fail
          refine (HRT.out w1).mono ?_
          rintro e w2 ⟨A', c', rfl, hS, hb2⟩
          have HB2 := Aside0.mk (below_step HB1.out hb2)
          have HY2 := Aside0.mk hS
          clear hb2 hS
          have hz1 := H1.out
          have hz2 := H2.out
          have hz3 := H3.out
          go_wp2_with fail
          obtain ⟨W4, hW4⟩ : ∃ W, W = w2.alloc (.cells #[.slice A' 0 c', .int .i64 k, .int .i64 n] 30) := ⟨_, rfl⟩
          rw [← hW4]
          have hb4 : Below w2.heap.size w2 W4 := by rw [hW4]; exact below_alloc (B0 w2) _
          have HB4 := Aside0.mk (below_step HB2.out hb4)
          have HY4 := Aside0.mk (HY2.out.below hb4)
          have HG4 := Aside0.mk (HG.out.below HB4.out)
          have F4 := Aside0.mk (show W4.heap[w2.heap.size]? = some (.cells #[.slice A' 0 c', .int .i64 k, .int .i64 n] 30 (0, 0)) from by rw [hW4]; exact blk_new w2 _)
          clear hb4 hW4
          refine (HTD.out HC.out HS.out W4 HG4.out.1).mono ?_
          rintro e w5 ⟨rfl, hb5⟩
          have HB5 := Aside0.mk (below_step HB4.out hb5)
          have F5 := Aside0.mk (blk_below F4.out hb5)
          clear hb5
          have cf0 := blk_cell F5.out 0
          have cf1 := blk_cell F5.out 1
          have cf2 := blk_cell F5.out 2
          simp only [List.getElem?_toArray, List.getElem?_cons_zero, List.getElem?_cons_succ] at cf0 cf1 cf2
          go_wp2_with fail
          rw [show wrap64 (n + (↑bl.size + 2 + ↑c.size + 1)) = (bl.size : Int) + 3 + (c.size : Int) + n from by rw [IntWalk.wrap64_in _ (by have := HNB.out; omega)]; omega]
          refine (told_F k _ HK.out w5 (HG.out.below HB5.out).2).mono ?_
          rintro e w6 ⟨rfl, hb6⟩
          have HB6 := Aside0.mk (below_step HB5.out hb6)
          clear hb6
          go_wp2
          go_ret
          exact ⟨rfl, HB6.out⟩
set_option maxRecDepth 100000 in
set_option maxHeartbeats 8000000 in
theorem near_R (s c bl : ByteArray) (h1 : s.size ≤ 1000) (h2 : c.size ≤ 300) (h3 : bl.size ≤ 100) (l : List Tok) (hl : lexP s = .inr l) (w : World) (hG : GV w) : Calls Tryd.prog 7 #[.string s, .string c, .string bl] w fun e w' => e = .returned (.bool true) ∧ Below w.heap.size w w' := by
  have HG := Aside0.mk hG
  clear hG
  have d1 : decide (1000 < s.size) = false := decide_eq_false (by omega)
  have d2 : decide ((1000 : Int) < (s.size : Int)) = false := decide_eq_false (by omega)
  have d3 : decide (300 < c.size) = false := decide_eq_false (by omega)
  have d4 : decide ((300 : Int) < (c.size : Int)) = false := decide_eq_false (by omega)
  have d5 : decide (100 < bl.size) = false := decide_eq_false (by omega)
  have d6 : decide ((100 : Int) < (bl.size : Int)) = false := decide_eq_false (by omega)
  have H1 := Aside0.mk h1
  have H2 := Aside0.mk h2
  have H3 := Aside0.mk h3
  have HRT := Aside0.mk (fun w => ref_R s (by omega) hl w)
  have hln := (lexP_facts (by omega) hl).1
  have HTD := Aside0.mk (fun hc hb w hG => tok_R s c bl h1 h2 h3 hc hb hl w hG)
  obtain ⟨Y, hY⟩ : ∃ Y, Y = l.map tk37 := ⟨_, rfl⟩
  have HYL := Aside0.mk (show Y.length ≤ 2001 from by rw [hY, List.length_map]; omega)
  have HYK := Aside0.mk (show Y.map kr = l.map kt from by rw [hY, kr_tk])
  rw [← hY] at HRT
  clear hl hY hln
  clear h1 h2 h3
  go_enter Tryd.func7, Tryd.ntmps7
  go_wp2_with fail
  refine (awake_any w HG.out).mono ?_
  rintro e w1 ⟨rfl, hb1⟩
  have HB1 := Aside0.mk hb1
  clear hb1
  go_wp2
  go_loopg [7] c.size (fun kq v7 w' => ∃ (j : Nat), v7 = .int .i64 j ∧ Aside0 (kq + j = c.size) ∧ Aside0 (∀ k : Nat, k < j → bt c k ≠ 10) ∧ (w1 = w'))
  case atStart => exact ⟨0, rfl, ⟨by omega⟩, ⟨fun k h => absurd h (Nat.not_lt_zero k)⟩, rfl⟩
  case round =>
    obtain ⟨j, rfl, HJ, HN, rfl⟩ := hrel
    by_cases cj : j < c.size
    · have e1 : decide (j < c.size) = true := decide_eq_true cj
      have e2 : decide ((j : Int) < (c.size : Int)) = true := decide_eq_true (by omega)
      have e3 : (j : Int) < (c.size : Int) := by omega
      have e4 : (j : Int) ≤ 300 := by have := H2.out; omega
      have hbt : ∀ h : j < c.size, ((c[j]'h).toNat : Int) = bt c j := fun h => bt_at c j h
      by_cases c10 : bt c j = 10
      · have q1 : (bt c j == 10) = true := beq_iff_eq.2 c10
        clear c10
        go_wp2
        go_ret
        exact ⟨rfl, HB1.out⟩
      · have q1 : (bt c j == 10) = false := beq_eq_false_iff_ne.2 c10
        have HN1 := Aside0.mk (show ∀ k : Nat, k < j + 1 → bt c k ≠ 10 from fun k hk => by
          rcases Nat.lt_succ_iff_lt_or_eq.1 hk with h | h
          · exact HN.out k h
          · rw [h]; exact c10)
        clear c10
        go_wp2
        go_roundg (c.size - (j + 1))
        case measure => have := HJ.out; omega
        case rel => exact ⟨j + 1, rfl, ⟨by have := HJ.out; omega⟩, HN1, rfl⟩
    · have e1 : decide (j < c.size) = false := decide_eq_false cj
      have e2 : decide ((j : Int) < (c.size : Int)) = false := decide_eq_false (by omega)
      have HC := Aside0.mk (show ∀ k : Nat, k < c.size → bt c k ≠ 10 from fun k hk => HN.out k (by have := HJ.out; omega))
      clear HN HJ
      go_wp2
      go_loopg [8] bl.size (fun kq v8 w' => ∃ (j : Nat), v8 = .int .i64 j ∧ Aside0 (kq + j = bl.size) ∧ Aside0 (∀ k : Nat, k < j → spC (bt bl k) = true) ∧ (w1 = w'))
      case atStart => exact ⟨0, rfl, ⟨by omega⟩, ⟨fun k h => absurd h (Nat.not_lt_zero k)⟩, rfl⟩
      case round =>
        obtain ⟨i, rfl, HJ, HN, rfl⟩ := hrel
        by_cases cj : i < bl.size
        · have f1 : decide (i < bl.size) = true := decide_eq_true cj
          have f2 : decide ((i : Int) < (bl.size : Int)) = true := decide_eq_true (by omega)
          have f3 : (i : Int) < (bl.size : Int) := by omega
          have f4 : (i : Int) ≤ 300 := by have := H3.out; omega
          have hbt : ∀ h : i < bl.size, ((bl[i]'h).toNat : Int) = bt bl i := fun h => bt_at bl i h
          have HF := Aside0.mk cj
          clear cj e1 e2
          by_cases csp : spC (bt bl i) = true
          · have HN1 := Aside0.mk (show ∀ k : Nat, k < i + 1 → spC (bt bl k) = true from fun k hk => by
              rcases Nat.lt_succ_iff_lt_or_eq.1 hk with h | h
              · exact HN.out k h
              · rw [h]; exact csp)
            rcases (spC_iff _).1 csp with q | q | q | q
            all_goals
              clear csp
              go_wp2
              go_roundg (bl.size - (i + 1))
              case measure => have := HJ.out; omega
              case rel => exact ⟨i + 1, rfl, ⟨by have := HJ.out; omega⟩, HN1, rfl⟩
          · rw [spC_iff] at csp
            have q1 : (bt bl i != 32) = true := by rw [bne_iff_ne]; exact fun h => csp (.inl h)
            have q2 : (bt bl i != 9) = true := by rw [bne_iff_ne]; exact fun h => csp (.inr (.inl h))
            have q3 : (bt bl i != 10) = true := by rw [bne_iff_ne]; exact fun h => csp (.inr (.inr (.inl h)))
            have q4 : (bt bl i != 13) = true := by rw [bne_iff_ne]; exact fun h => csp (.inr (.inr (.inr h)))
            clear csp
            go_wp2
            go_ret
            exact ⟨rfl, HB1.out⟩
        · have f1 : decide (i < bl.size) = false := decide_eq_false cj
          have f2 : decide ((i : Int) < (bl.size : Int)) = false := decide_eq_false (by omega)
          have HS := Aside0.mk (show ∀ k : Nat, k < bl.size → spC (bt bl k) = true from fun k hk => HN.out k (by have := HJ.out; omega))
          clear HN HJ cj
          go_wp2_with fail
          refine (HRT.out w1).mono ?_
          rintro e w2 ⟨A', c', rfl, hS, hb2⟩
          have HB2 := Aside0.mk (below_step HB1.out hb2)
          have HY2 := Aside0.mk hS
          clear hb2 hS
          have hz1 := H1.out
          have hz2 := H2.out
          have hz3 := H3.out
          go_wp2_with fail
          obtain ⟨W4, hW4⟩ : ∃ W, W = w2.alloc (.cells #[.slice A' Y.length c', .int .i64 0, .int .i64 0] 30) := ⟨_, rfl⟩
          rw [← hW4]
          have hb4 : Below w2.heap.size w2 W4 := by rw [hW4]; exact below_alloc (B0 w2) _
          have HB4 := Aside0.mk (below_step HB2.out hb4)
          have HY4 := Aside0.mk (HY2.out.below hb4)
          have HG4 := Aside0.mk (HG.out.below HB4.out)
          have F4 := Aside0.mk (show W4.heap[w2.heap.size]? = some (.cells #[.slice A' Y.length c', .int .i64 0, .int .i64 0] 30 (0, 0)) from by rw [hW4]; exact blk_new w2 _)
          clear hb4 hW4
          refine (HTD.out HC.out HS.out W4 HG4.out.1).mono ?_
          rintro e w5 ⟨X, A5, c5, hkk, rfl, hS5, hb5⟩
          have HB5 := Aside0.mk (below_step HB4.out hb5)
          have F5 := Aside0.mk (blk_below F4.out hb5)
          have HY5 := Aside0.mk (HY4.out.below hb5)
          have HX5 := Aside0.mk hS5
          have HKK := Aside0.mk hkk
          clear hb5 hS5 hkk
          have cf0 := blk_cell F5.out 0
          have cf1 := blk_cell F5.out 1
          have cf2 := blk_cell F5.out 2
          simp only [List.getElem?_toArray, List.getElem?_cons_zero, List.getElem?_cons_succ] at cf0 cf1 cf2
          go_wp2_with fail
          have hXl : X.length = Y.length := by have := congrArg List.length (HKK.out.trans HYK.out.symm); simpa using this
          have HBK := Aside0.mk (fun (w : World) (h : Sl w W4.heap.size A5 c5 X) => back_S h (by have := HYL.out; omega))
          have HSM := Aside0.mk (show ∀ (w : World) A7 c7, Sr w A7 c7 (X.map to37) → Sr w A' c' Y → Calls Tryd.prog 12 #[.slice A7 (X.map to37).length c7, .slice A' Y.length c'] w fun e w' => e = .returned (.bool true) ∧ Drawn0 w w' from fun w A7 c7 h h' => by
            have := refsame_any w A7 c7 (X.map to37) h.cells h.cap A' c' Y h'.cells h'.cap (by rw [List.length_map]; have := HYL.out; omega)
            rw [decide_eq_true (show (X.map to37).map kr = Y.map kr from by rw [kr_37, HKK.out, HYK.out])] at this
            exact this)
          obtain ⟨X7, hX7e⟩ : ∃ x, x = X.map to37 := ⟨_, rfl⟩
          rw [← hX7e] at HBK HSM
          clear hXl hX7e cf0 cf1 cf2
          refine wp_region_held_drew (S := fun w' => Below w5.heap.size w5 w') (by kernel_rfl) (below_drew1 (B0 w5)) (fun hHeld => ?_)
          generalize w5.drew = Wd at hHeld ⊢
          refine wpAnyH_take (i := 0) (v := .nilIface) rfl (by kernel_rfl) (by kernel_rfl) (by kernel_rfl) (fun _ _ _ h => h) (Or.inl ⟨by rfl, ?hy0⟩) hHeld ?_
          case hy0 => intro w' hSw; go_simp
          simp only [List.getElem_toArray, List.getElem_cons_succ, List.getElem_cons_zero, Act.put, List.setIfInBounds_toArray, List.set_cons_zero, List.set_cons_succ]
          refine wpAnyH_take (i := 1) (v := .bool true) rfl (by kernel_rfl) (by kernel_rfl) (by kernel_rfl) (fun _ _ _ h => h) (Or.inl ⟨by rfl, ?hy1⟩) hHeld ?_
          case hy1 => intro w' hSw; go_simp
          simp only [List.getElem_toArray, List.getElem_cons_succ, List.getElem_cons_zero, Act.put, List.setIfInBounds_toArray, List.set_cons_zero, List.set_cons_succ]
          refine wpAnyH_take (i := 2) (v := .bool true) rfl (by kernel_rfl) (by kernel_rfl) (by kernel_rfl) (fun _ _ _ h => h) (Or.inl ⟨by rfl, ?hy2⟩) hHeld ?_
          case hy2 => intro w' hSw; go_simp
          simp only [List.getElem_toArray, List.getElem_cons_succ, List.getElem_cons_zero, Act.put, List.setIfInBounds_toArray, List.set_cons_zero, List.set_cons_succ]
          refine wpAnyH_take (i := 3) (v := .slice A5 X.length c5) rfl (by kernel_rfl) (by kernel_rfl) (by kernel_rfl) (fun _ _ _ h => h) (Or.inl ⟨by rfl, ?hy3⟩) hHeld ?_
          case hy3 => intro w' hSw; go_simp
          simp only [List.getElem_toArray, List.getElem_cons_succ, List.getElem_cons_zero, Act.put, List.setIfInBounds_toArray, List.set_cons_zero, List.set_cons_succ]
          refine wpAnyH_take (i := 5) (v := .pointer (some ⟨w2.heap.size, 0, none⟩)) rfl (by kernel_rfl) (by kernel_rfl) (by kernel_rfl) (fun _ _ _ h => h) (Or.inl ⟨by rfl, ?hy5⟩) hHeld ?_
          case hy5 => intro w' hSw; go_simp
          simp only [List.getElem_toArray, List.getElem_cons_succ, List.getElem_cons_zero, Act.put, List.setIfInBounds_toArray, List.set_cons_zero, List.set_cons_succ]
          refine wpAnyH_take (i := 6) (v := .slice A' Y.length c') rfl (by kernel_rfl) (by kernel_rfl) (by kernel_rfl) (fun _ _ _ h => h) (Or.inl ⟨by rfl, ?hy6⟩) hHeld ?_
          case hy6 => intro w' hSw; have cc : w'.cell? ⟨w2.heap.size, 0, none⟩ = some (.slice A' Y.length c') := (blk_cell (blk_below F5.out hSw) 0).trans (show _ = some _ from rfl); go_simp
          simp only [List.getElem_toArray, List.getElem_cons_succ, List.getElem_cons_zero, Act.put, List.setIfInBounds_toArray, List.set_cons_zero, List.set_cons_succ]
          refine wpAnyH_ready (rs := [4]) (by kernel_rfl) (by simp) ?_
          refine AllReadyH.cons rfl (fun K hK => ?_) AllReadyH.nil
          simp only [List.getElem_toArray, List.getElem_cons_succ, List.getElem_cons_zero]
          rw [if_pos (by rfl)]
          go_simp
          refine (HBK.out _ (HX5.out.below hHeld)).mono ?_
          rintro e x2 ⟨A7, c7, rfl, hS, hb⟩
          have HS7 := Aside0.mk hS
          clear hS
          refine hK.out _ _ (below_step hHeld hb) (fun hHeld => ?_)
          clear hK K
          refine wpAnyH_ready (rs := [7]) (by kernel_rfl) (by simp) ?_
          refine AllReadyH.cons rfl (fun K hK => ?_) AllReadyH.nil
          simp only [List.getElem_toArray, List.getElem_cons_succ, List.getElem_cons_zero]
          rw [if_pos (by rfl)]
          go_simp
          refine (HSM.out _ A7 c7 HS7.out (HY5.out.below hHeld)).mono ?_
          rintro e x3 ⟨rfl, ⟨⟨m, rfl⟩⟩⟩
          refine hK.out _ _ (pw_below_drewN hHeld m) (fun hHeld => ?_)
          clear hK K
          refine wpAnyH_take (i := 8) (v := .bool true) rfl (by kernel_rfl) (by kernel_rfl) (by kernel_rfl) (fun _ _ _ h => h) (Or.inl ⟨by rfl, ?hy8⟩) hHeld ?_
          case hy8 => intro w' hSw; go_simp
          simp only [List.getElem_toArray, List.getElem_cons_succ, List.getElem_cons_zero, Act.put, List.setIfInBounds_toArray, List.set_cons_zero, List.set_cons_succ]
          refine wpAnyH_take (i := 9) (v := .bool true) rfl (by kernel_rfl) (by kernel_rfl) (by kernel_rfl) (fun _ _ _ h => h) (Or.inl ⟨by rfl, ?hy9⟩) hHeld ?_
          case hy9 => intro w' hSw; go_simp
          simp only [List.getElem_toArray, List.getElem_cons_succ, List.getElem_cons_zero, Act.put, List.setIfInBounds_toArray, List.set_cons_zero, List.set_cons_succ]
          refine wpAnyH_done (by kernel_rfl) ?_ _
          generalize x2.drewN m = W6 at hHeld ⊢
          have HB6 := Aside0.mk (below_step HB5.out hHeld)
          clear hHeld
          go_wp2
          go_ret
          exact ⟨rfl, HB6.out⟩
set_option maxRecDepth 100000 in
set_option maxHeartbeats 4000000 in
theorem far0 (s c bl : ByteArray) (h1 : 1000 < s.size) (w : World) (hG : GV w) : Calls Tryd.prog 7 #[.string s, .string c, .string bl] w fun e w' => e = .returned (.bool true) ∧ Below w.heap.size w w' := by
  have HG := Aside0.mk hG
  have d0 : decide (1000 < s.size) = true := decide_eq_true h1
  have e0 : decide ((1000 : Int) < (s.size : Int)) = true := decide_eq_true (by omega)
  clear hG h1
  go_enter Tryd.func7, Tryd.ntmps7
  go_wp2_with fail
  refine (awake_any w HG.out).mono ?_
  rintro e w1 ⟨rfl, hb1⟩
  have HB1 := Aside0.mk hb1
  clear hb1
  go_wp2_with fail
  refine (awake_any w1 (HG.out.below HB1.out)).mono ?_
  rintro e w2 ⟨rfl, hb2⟩
  have HB2 := Aside0.mk (below_step HB1.out hb2)
  clear hb2
  go_wp2
  go_ret
  exact ⟨rfl, HB2.out⟩
set_option maxRecDepth 100000 in
set_option maxHeartbeats 4000000 in
theorem far1 (s c bl : ByteArray) (h1 : ¬ 1000 < s.size) (h2 : 300 < c.size) (w : World) (hG : GV w) : Calls Tryd.prog 7 #[.string s, .string c, .string bl] w fun e w' => e = .returned (.bool true) ∧ Below w.heap.size w w' := by
  have HG := Aside0.mk hG
  have d0 : decide (1000 < s.size) = false := decide_eq_false h1
  have e0 : decide ((1000 : Int) < (s.size : Int)) = false := decide_eq_false (by omega)
  have d1 : decide (300 < c.size) = true := decide_eq_true h2
  have e1 : decide ((300 : Int) < (c.size : Int)) = true := decide_eq_true (by omega)
  clear hG h1 h2
  go_enter Tryd.func7, Tryd.ntmps7
  go_wp2_with fail
  refine (awake_any w HG.out).mono ?_
  rintro e w1 ⟨rfl, hb1⟩
  have HB1 := Aside0.mk hb1
  clear hb1
  go_wp2_with fail
  refine (awake_any w1 (HG.out.below HB1.out)).mono ?_
  rintro e w2 ⟨rfl, hb2⟩
  have HB2 := Aside0.mk (below_step HB1.out hb2)
  clear hb2
  go_wp2
  go_ret
  exact ⟨rfl, HB2.out⟩
set_option maxRecDepth 100000 in
set_option maxHeartbeats 4000000 in
theorem far2 (s c bl : ByteArray) (h1 : ¬ 1000 < s.size) (h2 : ¬ 300 < c.size) (h3 : 100 < bl.size) (w : World) (hG : GV w) : Calls Tryd.prog 7 #[.string s, .string c, .string bl] w fun e w' => e = .returned (.bool true) ∧ Below w.heap.size w w' := by
  have HG := Aside0.mk hG
  have d0 : decide (1000 < s.size) = false := decide_eq_false h1
  have e0 : decide ((1000 : Int) < (s.size : Int)) = false := decide_eq_false (by omega)
  have d1 : decide (300 < c.size) = false := decide_eq_false h2
  have e1 : decide ((300 : Int) < (c.size : Int)) = false := decide_eq_false (by omega)
  have d2 : decide (100 < bl.size) = true := decide_eq_true h3
  have e2 : decide ((100 : Int) < (bl.size : Int)) = true := decide_eq_true (by omega)
  clear hG h1 h2 h3
  go_enter Tryd.func7, Tryd.ntmps7
  go_wp2_with fail
  refine (awake_any w HG.out).mono ?_
  rintro e w1 ⟨rfl, hb1⟩
  have HB1 := Aside0.mk hb1
  clear hb1
  go_wp2_with fail
  refine (awake_any w1 (HG.out.below HB1.out)).mono ?_
  rintro e w2 ⟨rfl, hb2⟩
  have HB2 := Aside0.mk (below_step HB1.out hb2)
  clear hb2
  go_wp2
  go_ret
  exact ⟨rfl, HB2.out⟩
theorem row_comments (s c bl : ByteArray) (W : World) (h0 : s.size ≤ maxLen) (h0' : c.size ≤ maxLen) (h0'' : bl.size ≤ maxLen) (hG : GV W) : Calls Tryd.prog 7 #[.string s, .string c, .string bl] W fun e w' => e = .returned (.bool true) ∧ Below W.heap.size W w' := by
  by_cases h1 : 1000 < s.size
  · exact far0 s c bl h1 W hG
  · by_cases h2 : 300 < c.size
    · exact far1 s c bl h1 h2 W hG
    · by_cases h3 : 100 < bl.size
      · exact far2 s c bl h1 h2 h3 W hG
      · cases hl : lexP s with
        | inl p =>
          obtain ⟨k, n⟩ := p
          refine near_L s c bl (by omega) (by omega) (by omega) k n ?_ hl W hG
          rcases lexP_err (by omega) hl with h | h <;> rw [h] <;> decide
        | inr l => exact near_R s c bl (by omega) (by omega) (by omega) l hl W hG
end Go.Proofs.YthefibpcepgoaaaDoor.HLexL5
