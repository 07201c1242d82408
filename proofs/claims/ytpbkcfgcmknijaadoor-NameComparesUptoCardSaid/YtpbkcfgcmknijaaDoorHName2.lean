/- The package name: objects and allowed types. -/
import Derived.Test.YtpbkcfgcmknijaaDoorHName
namespace Go.Proofs.YtpbkcfgcmknijaaDoor.HName
open Go.RowKit Go.Proofs.YtpbkcfgcmknijaaDoorW.PrintWords Go.Proofs.YtpbkcfgcmknijaaDoor.HLib Go.Proofs.YtpbkcfgcmknijaaDoor.HNameP Go.Proofs.YtpbkcfgcmknijaaDoor.HErr
set_option linter.unusedVariables false
set_option linter.unusedSimpArgs false

def errV : Option (Int × Int) → Value
  | none => .nilIface
  | some (n, m) => .iface 65 (.agg #[.int .i64 n, .int .i64 m])

theorem index_any (s : ByteArray) (c : UInt8) (k : Int) (hk : k.toNat.toUInt8 = c) (w : World) : Calls Tryd.prog 31 #[.string s, .string ⟨#[c]⟩] w fun e w' => e = .returned (.int .i64 (findP s k)) ∧ w = w' := by
  subst hk
  exact (Tryd.strings_Index_one s _ w).mono fun _ _ ⟨a, b⟩ => ⟨a, b.symm⟩

set_option maxHeartbeats 4000000 in
theorem parseobject_any (s : ByteArray) (w : World) (hs : s.size ≤ 1099511627776) (hG : ResG w) : Calls Tryd.prog 15 #[.string s] w fun e w' => e = .returned (.tuple #[.agg #[.string (parseO s).1, .string (parseO s).2.1], errV (parseO s).2.2]) ∧ Below w.heap.size w w' := by
  have HG := Aside0.mk hG
  have hc : (0 : Int) ≤ 58 ∧ (58 : Int) ≤ 255 := by decide
  have hge := find_ge s 58
  have hlt := find_lt (s := s) hc
  clear hG hc
  obtain ⟨F, hF⟩ : ∃ F, F = findP s 58 := ⟨_, rfl⟩
  have HF := Aside0.mk hF
  have HGA : Aside0 (ResG (w.alloc (.cells #[.string ⟨#[]⟩, .string ⟨#[]⟩] 25))) := ⟨HG.out.below (below_alloc (B0 w) _) HG.out.1⟩
  rw [← hF] at hge hlt
  by_cases h1 : F = -1
  · have HR := Aside0.mk (show parseO s = (⟨#[]⟩, ⟨#[]⟩, some (5, 0)) from by unfold parseO; rw [if_pos (by rw [← hF]; exact h1)])
    have hb1 : (F == -1) = true := by simpa using h1
    clear hF h1
    go_enter Tryd.func15, Tryd.ntmps15
    go_wp2_with fail
    refine (index_any s 58 58 rfl _).mono ?_
    rintro e w1 ⟨rfl, rfl⟩
    rw [← HF.out]
    go_wp2_with fail
    refine (new_any _ _ _).mono ?_
    rintro e w1 ⟨rfl, rfl⟩
    go_wp2
    refine bodyPost_ret (v := .tuple #[.agg #[.string (parseO s).1, .string (parseO s).2.1], errV (parseO s).2.2]) (by rw [HR.out]; simp [results, Tryd.results15, go_sem, errV]) rfl ⟨rfl, below_alloc (B0 w) _⟩
  · have hb1 : (F == -1) = false := by simpa using h1
    have hF0 : 0 ≤ F := by omega
    have hF1 : F ≤ (s.size : Int) := by omega
    have hF2 : F ≤ 1099511627776 := by omega
    have hF3 : 0 ≤ F + 1 := by omega
    have hF4 : F + 1 ≤ (s.size : Int) := by omega
    obtain ⟨t, ht⟩ : ∃ t, t = s.extract 0 F.toNat := ⟨_, rfl⟩
    obtain ⟨d, hd⟩ : ∃ t, t = s.extract (F + 1).toNat s.size := ⟨_, rfl⟩
    have HT := Aside0.mk ht
    have HD := Aside0.mk hd
    cases h2 : isP t with
    | false =>
      have HR := Aside0.mk (show parseO s = (⟨#[]⟩, ⟨#[]⟩, some (5, 0)) from by unfold parseO; rw [← hF, if_neg h1, ← ht, if_pos h2])
      have H2 := Aside0.mk h2
      clear hF h1 h2 ht hd
      go_enter Tryd.func15, Tryd.ntmps15
      go_wp2_with fail
      refine (index_any s 58 58 rfl _).mono ?_
      rintro e w1 ⟨rfl, rfl⟩
      rw [← HF.out]
      go_wp2_with fail
      rw [← HT.out]
      refine (is_any _ _ HGA.out).mono ?_
      rintro e w1 ⟨rfl, rfl⟩
      rw [H2.out]
      go_wp2_with fail
      refine (new_any _ _ _).mono ?_
      rintro e w1 ⟨rfl, rfl⟩
      go_wp2
      refine bodyPost_ret (v := .tuple #[.agg #[.string (parseO s).1, .string (parseO s).2.1], errV (parseO s).2.2]) (by rw [HR.out]; simp [results, Tryd.results15, go_sem, errV]) rfl ⟨rfl, below_alloc (B0 w) _⟩
    | true =>
      cases h3 : idP d with
      | false =>
        have HR := Aside0.mk (show parseO s = (⟨#[]⟩, ⟨#[]⟩, some (5, F + 1)) from by unfold parseO; rw [← hF, if_neg h1, ← ht, if_neg (by rw [h2]; simp), ← hd, if_pos h3])
        have H2 := Aside0.mk h2
        have H3 := Aside0.mk h3
        clear hF h1 h2 h3 ht hd
        go_enter Tryd.func15, Tryd.ntmps15
        go_wp2_with fail
        refine (index_any s 58 58 rfl _).mono ?_
        rintro e w1 ⟨rfl, rfl⟩
        rw [← HF.out]
        go_wp2_with fail
        rw [← HT.out]
        refine (is_any _ _ HGA.out).mono ?_
        rintro e w1 ⟨rfl, rfl⟩
        rw [H2.out]
        go_wp2_with fail
        rw [← HD.out]
        refine (isid_any _ _).mono ?_
        rintro e w1 ⟨rfl, rfl⟩
        rw [H3.out]
        go_wp2_with fail
        refine (new_any _ _ _).mono ?_
        rintro e w1 ⟨rfl, rfl⟩
        go_wp2
        refine bodyPost_ret (v := .tuple #[.agg #[.string (parseO s).1, .string (parseO s).2.1], errV (parseO s).2.2]) (by rw [HR.out]; simp [results, Tryd.results15, go_sem, errV]) rfl ⟨rfl, below_alloc (B0 w) _⟩
      | true =>
        have HR := Aside0.mk (show parseO s = (t, d, none) from by unfold parseO; rw [← hF, if_neg h1, ← ht, if_neg (by rw [h2]; simp), ← hd, if_neg (by rw [h3]; simp)])
        have H2 := Aside0.mk h2
        have H3 := Aside0.mk h3
        clear hF h1 h2 h3 ht hd
        go_enter Tryd.func15, Tryd.ntmps15
        go_wp2_with fail
        refine (index_any s 58 58 rfl _).mono ?_
        rintro e w1 ⟨rfl, rfl⟩
        rw [← HF.out]
        go_wp2_with fail
        rw [← HT.out]
        refine (is_any _ _ HGA.out).mono ?_
        rintro e w1 ⟨rfl, rfl⟩
        rw [H2.out]
        go_wp2_with fail
        rw [← HD.out]
        refine (isid_any _ _).mono ?_
        rintro e w1 ⟨rfl, rfl⟩
        rw [H3.out]
        go_wp2
        go_region
        go_wp2
        rw [← HT.out, ← HD.out]
        refine bodyPost_ret (v := .tuple #[.agg #[.string (parseO s).1, .string (parseO s).2.1], errV (parseO s).2.2]) (by rw [HR.out]; simp [results, Tryd.results15, go_sem, errV]) rfl ⟨rfl, below_drew1 (below_alloc (B0 w) _)⟩

end Go.Proofs.YtpbkcfgcmknijaaDoor.HName
