/- The reference's objects and allowed types. -/
import Derived.Test.YtpbkcfgcmknijaaDoorHNameJ
import Derived.Test.YtpbkcfgcmknijaaDoorHNameA
namespace Go.Proofs.YtpbkcfgcmknijaaDoor.HName5
open Go.RowKit Go.Proofs.YtpbkcfgcmknijaaDoorW.PrintWords Go.Proofs.YtpbkcfgcmknijaaDoor.HLib Go.Proofs.YtpbkcfgcmknijaaDoor.HNameP Go.Proofs.YtpbkcfgcmknijaaDoor.HErr Go.Proofs.YtpbkcfgcmknijaaDoor.HNameR Go.Proofs.YtpbkcfgcmknijaaDoor.HName Go.Proofs.YtpbkcfgcmknijaaDoor.HNameJ Go.Proofs.YtpbkcfgcmknijaaDoor.HNameA Go.Proofs.YtpbkcfgcmknijaaDoor.HPr
set_option linter.unusedVariables false
set_option linter.unusedSimpArgs false

theorem below_drawn {w0 w w1 : World} {n : Nat} (h : Below n w0 w) (hd : Drawn0 w w1) : Below n w0 w1 := by
  obtain ⟨⟨m, rfl⟩⟩ := hd
  exact pw_below_drewN h m
set_option maxHeartbeats 4000000 in
theorem rightobject_any (t d : ByteArray) (w : World) (hs : d.size ≤ 1099511627776) : Calls Tryd.prog 21 #[.agg #[.string t, .string d]] w fun e w' => e = .returned (.bool (objP t d)) ∧ Below w.heap.size w w' := by
  cases h1 : isP t with
  | false =>
    have HP := Aside0.mk (show objP t d = false from by unfold objP; rw [h1, Bool.false_and])
    have H1 := Aside0.mk h1
    clear h1
    go_enter Tryd.func21, Tryd.ntmps21
    go_wp2_with fail
    refine (refis_any _ _).mono ?_
    rintro e w1 ⟨rfl, hd⟩
    have HB := Aside0.mk (below_drawn (below_alloc (B0 w) _) hd)
    clear hd
    rw [H1.out]
    go_wp2
    go_ret
    exact ⟨by rw [HP.out]; rfl, HB.out⟩
  | true =>
    have HP := Aside0.mk (show objP t d = idP d from by unfold objP; rw [h1, Bool.true_and])
    have H1 := Aside0.mk h1
    clear h1
    go_enter Tryd.func21, Tryd.ntmps21
    go_wp2_with fail
    refine (refis_any _ _).mono ?_
    rintro e w1 ⟨rfl, hd⟩
    have HB := Aside0.mk (below_drawn (below_alloc (B0 w) _) hd)
    obtain ⟨⟨m, rfl⟩⟩ := hd
    rw [H1.out]
    go_wp2_with fail
    refine (refisid_any _ _ hs).mono ?_
    rintro e w2 ⟨rfl, hd⟩
    have HB2 := Aside0.mk (below_drawn HB.out hd)
    clear hd
    go_wp2
    go_ret
    exact ⟨by rw [HP.out]; rfl, HB2.out⟩

set_option maxHeartbeats 4000000 in
theorem rightallowed_any (t d : ByteArray) (w : World) (hs : d.size ≤ 1099511627776) : Calls Tryd.prog 23 #[.agg #[.string t, .string d]] w fun e w' => e = .returned (.bool (allP t d)) ∧ Below w.heap.size w w' := by
  cases h1 : isP t with
  | false =>
    have HP := Aside0.mk (show allP t d = false from by unfold allP; rw [h1, Bool.false_and])
    have H1 := Aside0.mk h1
    clear h1
    go_enter Tryd.func23, Tryd.ntmps23
    go_wp2_with fail
    refine (refis_any _ _).mono ?_
    rintro e w1 ⟨rfl, hd⟩
    have HB := Aside0.mk (below_drawn (below_alloc (B0 w) _) hd)
    clear hd
    rw [H1.out]
    go_wp2
    go_ret
    exact ⟨by rw [HP.out]; rfl, HB.out⟩
  | true =>
    have H1 := Aside0.mk h1
    by_cases h0 : d.size = 0
    · have HP := Aside0.mk (show allP t d = true from by unfold allP; rw [h1, decide_eq_true h0]; rfl)
      have he := nil_of_size h0
      have he2 : d.toList.isEmpty = true := by rw [he]; rfl
      clear h1 h0
      go_enter Tryd.func23, Tryd.ntmps23
      go_wp2_with fail
      refine (refis_any _ _).mono ?_
      rintro e w1 ⟨rfl, hd⟩
      have HB := Aside0.mk (below_drawn (below_alloc (B0 w) _) hd)
      obtain ⟨⟨m, rfl⟩⟩ := hd
      rw [H1.out]
      go_wp2
      go_ret
      exact ⟨by rw [HP.out]; rfl, HB.out⟩
    · have HP := Aside0.mk (show allP t d = isP d from by unfold allP; rw [h1, decide_eq_false h0, Bool.true_and, Bool.false_or])
      have he := ne_of_size (s := d) (by omega)
      have he2 : d.toList.isEmpty = false := by cases h : d.toList with
        | nil => exact absurd h he
        | cons a l => rfl
      clear h1 h0
      go_enter Tryd.func23, Tryd.ntmps23
      go_wp2_with fail
      refine (refis_any _ _).mono ?_
      rintro e w1 ⟨rfl, hd⟩
      have HB := Aside0.mk (below_drawn (below_alloc (B0 w) _) hd)
      obtain ⟨⟨m, rfl⟩⟩ := hd
      rw [H1.out]
      go_wp2_with fail
      refine (refis_any _ _).mono ?_
      rintro e w2 ⟨rfl, hd⟩
      have HB2 := Aside0.mk (below_drawn HB.out hd)
      clear hd
      go_wp2
      go_ret
      exact ⟨by rw [HP.out]; rfl, HB2.out⟩

set_option maxHeartbeats 4000000 in
theorem refallowed_any (t d : ByteArray) (w : World) (h1 : t.size ≤ 1099511627776) (h2 : d.size ≤ 1099511627776) : Calls Tryd.prog 24 #[.agg #[.string t, .string d]] w fun e w' => e = .returned (.string (allT t d)) ∧ Below w.heap.size w w' := by
  by_cases h0 : d.size = 0
  · have HT := Aside0.mk (show allT t d = t from if_pos h0)
    have he := nil_of_size h0
    have he2 : d.toList.isEmpty = true := by rw [he]; rfl
    clear h0
    go_enter Tryd.func24, Tryd.ntmps24
    go_wp2
    go_ret
    exact ⟨by rw [HT.out]; rfl, below_alloc (B0 w) _⟩
  · have HT := Aside0.mk (show allT t d = t ++ ⟨#[35]⟩ ++ d from if_neg h0)
    have he := ne_of_size (s := d) (by omega)
    have he2 : d.toList.isEmpty = false := by cases h : d.toList with
      | nil => exact absurd h he
      | cons a l => rfl
    have z1 : t.size + 1 ≤ 9223372036854775807 := by omega
    have z2 : (t ++ (⟨#[35]⟩ : ByteArray)).size + d.size ≤ 9223372036854775807 := by rw [ByteArray.size_append, show (⟨#[35]⟩ : ByteArray).size = 1 from rfl]; omega
    clear h0
    go_enter Tryd.func24, Tryd.ntmps24
    go_wp2
    go_ret
    exact ⟨by rw [HT.out]; rfl, below_alloc (B0 w) _⟩
end Go.Proofs.YtpbkcfgcmknijaaDoor.HName5
