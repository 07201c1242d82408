/- The package name: the texts of objects and of allowed types; the reference's. -/
import Derived.Test.YtpbkcfgcmknijaaDoorHName3
import Derived.Test.YtpbkcfgcmknijaaDoorHNameR
namespace Go.Proofs.YtpbkcfgcmknijaaDoor.HName
open Go.RowKit Go.Proofs.YtpbkcfgcmknijaaDoorW.PrintWords Go.Proofs.YtpbkcfgcmknijaaDoor.HLib Go.Proofs.YtpbkcfgcmknijaaDoor.HNameP Go.Proofs.YtpbkcfgcmknijaaDoor.HErr Go.Proofs.YtpbkcfgcmknijaaDoor.HNameR Go.Proofs.YtpbkcfgcmknijaaDoor.HPr
set_option linter.unusedVariables false
set_option linter.unusedSimpArgs false

theorem refis_any (s : ByteArray) (w : World) : Calls Tryd.prog 10 #[.string s] w fun e w' => e = .returned (.bool (isP s)) ∧ Drawn0 w w' :=
  vestryref08_Is.calls 70 s _ w (is_eq s 70 (by omega))
theorem refisid_any (s : ByteArray) (w : World) (hs : s.size ≤ 1099511627776) : Calls Tryd.prog 12 #[.string s] w fun e w' => e = .returned (.bool (idP s)) ∧ Drawn0 w w' :=
  vestryref08_IsID.calls (s.size + 1) s _ w (isid_eq s _ hs (by omega))
theorem reffind_any (s : ByteArray) (c : Int) (w : World) (hc : 0 ≤ c ∧ c ≤ 255) (hs : s.size ≤ 1099511627776) : Calls Tryd.prog 33 #[.string s, .int .u8 c] w fun e w' => e = .returned (.int .i64 (findP s c)) ∧ Drawn0 w w' :=
  vestryref08_Find.calls (s.size + 1) s c _ w (find_eq s c _ hc hs (by omega))
theorem refres_any (s : ByteArray) (w : World) : Calls Tryd.prog 14 #[.string s] w fun e w' => e = .returned (.bool (resP s)) ∧ Drawn0 w w' :=
  vestryref08_Reserved.calls s _ w (reserved_eq s)

def objP (t d : ByteArray) : Bool := isP t && idP d
def objS (t d : ByteArray) : ByteArray := if objP t d then t ++ ⟨#[58]⟩ ++ d else ⟨#[]⟩
def allP (t r : ByteArray) : Bool := isP t && (decide (r.size = 0) || isP r)
def allT (t r : ByteArray) : ByteArray := if r.size = 0 then t else t ++ ⟨#[35]⟩ ++ r
def allS (t r : ByteArray) : ByteArray := if allP t r then allT t r else ⟨#[]⟩

theorem isP_size {s : ByteArray} (h : isP s = true) : 1 ≤ s.size ∧ s.size ≤ 64 := by
  simp only [isP, Bool.and_eq_true, decide_eq_true_eq] at h
  exact ⟨h.1, h.2.1⟩
theorem idP_size {s : ByteArray} (h : idP s = true) : 1 ≤ s.size ∧ s.size ≤ 128 := by
  simp only [idP, Bool.and_eq_true, decide_eq_true_eq] at h
  exact ⟨h.1, h.2.1⟩

set_option maxHeartbeats 4000000 in
theorem object_any (t d : ByteArray) (w : World) (hG : ResG w) : Calls Tryd.prog 20 #[.agg #[.string t, .string d]] w fun e w' => e = .returned (.tuple #[.string (objS t d), .bool (objP t d)]) ∧ Below w.heap.size w w' := by
  have HGA : Aside0 (ResG (w.alloc (.cells #[.string t, .string d] 25))) := ⟨hG.below (below_alloc (B0 w) _) hG.1⟩
  clear hG
  cases h1 : isP t with
  | false =>
    have HP := Aside0.mk (show objP t d = false from by unfold objP; rw [h1, Bool.false_and])
    have H1 := Aside0.mk h1
    clear h1
    go_enter Tryd.func20, Tryd.ntmps20
    go_wp2_with fail
    refine (is_any _ _ HGA.out).mono ?_
    rintro e w1 ⟨rfl, rfl⟩
    rw [H1.out]
    go_wp2
    go_ret2
    unfold objS
    rw [HP.out]
    exact ⟨rfl, below_alloc (B0 w) _⟩
  | true =>
    cases h2 : idP d with
    | false =>
      have HP := Aside0.mk (show objP t d = false from by unfold objP; rw [h1, h2, Bool.and_false])
      have H1 := Aside0.mk h1
      have H2 := Aside0.mk h2
      clear h1 h2
      go_enter Tryd.func20, Tryd.ntmps20
      go_wp2_with fail
      refine (is_any _ _ HGA.out).mono ?_
      rintro e w1 ⟨rfl, rfl⟩
      rw [H1.out]
      go_wp2_with fail
      refine (isid_any _ _).mono ?_
      rintro e w1 ⟨rfl, rfl⟩
      rw [H2.out]
      go_wp2
      go_ret2
      unfold objS
      rw [HP.out]
      exact ⟨rfl, below_alloc (B0 w) _⟩
    | true =>
      have HP := Aside0.mk (show objP t d = true from by unfold objP; rw [h1, h2, Bool.and_true])
      have H1 := Aside0.mk h1
      have H2 := Aside0.mk h2
      have hs1 := isP_size h1
      have hs2 := idP_size h2
      have z1 : t.size + 1 ≤ 9223372036854775807 := by omega
      have z2 : (t ++ (⟨#[58]⟩ : ByteArray)).size + d.size ≤ 9223372036854775807 := by rw [ByteArray.size_append]; simp only [ByteArray.size]; have e1 : t.size = t.data.size := rfl; have e2 : d.size = d.data.size := rfl; simp; omega
      clear h1 h2 hs1 hs2
      go_enter Tryd.func20, Tryd.ntmps20
      go_wp2_with fail
      refine (is_any _ _ HGA.out).mono ?_
      rintro e w1 ⟨rfl, rfl⟩
      rw [H1.out]
      go_wp2_with fail
      refine (isid_any _ _).mono ?_
      rintro e w1 ⟨rfl, rfl⟩
      rw [H2.out]
      go_wp2
      go_ret2
      unfold objS
      rw [HP.out]
      exact ⟨rfl, below_alloc (B0 w) _⟩

set_option maxHeartbeats 4000000 in
theorem allowed_any (t d : ByteArray) (w : World) (hG : ResG w) : Calls Tryd.prog 22 #[.agg #[.string t, .string d]] w fun e w' => e = .returned (.tuple #[.string (allS t d), .bool (allP t d)]) ∧ Below w.heap.size w w' := by
  have HGA : Aside0 (ResG (w.alloc (.cells #[.string t, .string d] 33))) := ⟨hG.below (below_alloc (B0 w) _) hG.1⟩
  clear hG
  cases h1 : isP t with
  | false =>
    have HP := Aside0.mk (show allP t d = false from by unfold allP; rw [h1, Bool.false_and])
    have H1 := Aside0.mk h1
    clear h1
    go_enter Tryd.func22, Tryd.ntmps22
    go_wp2_with fail
    refine (is_any _ _ HGA.out).mono ?_
    rintro e w1 ⟨rfl, rfl⟩
    rw [H1.out]
    go_wp2
    go_ret2
    unfold allS
    rw [HP.out]
    exact ⟨rfl, below_alloc (B0 w) _⟩
  | true =>
    by_cases h0 : d.size = 0
    · have HP := Aside0.mk (show allP t d = true from by unfold allP; rw [h1, decide_eq_true h0]; rfl)
      have HT := Aside0.mk (show allT t d = t from if_pos h0)
      have H1 := Aside0.mk h1
      have he := nil_of_size h0
      clear h1 h0
      go_enter Tryd.func22, Tryd.ntmps22
      go_wp2_with fail
      refine (is_any _ _ HGA.out).mono ?_
      rintro e w1 ⟨rfl, rfl⟩
      rw [H1.out]
      go_wp2
      go_ret2
      unfold allS
      rw [HP.out, HT.out]
      exact ⟨rfl, below_alloc (B0 w) _⟩
    · have he := ne_of_size (s := d) (by omega)
      have he2 : d.toList.isEmpty = false := by cases h : d.toList with
        | nil => exact absurd h he
        | cons a l => rfl
      cases h2 : isP d with
      | false =>
        have HP := Aside0.mk (show allP t d = false from by unfold allP; rw [h1, h2, decide_eq_false h0]; rfl)
        have H1 := Aside0.mk h1
        have H2 := Aside0.mk h2
        clear h1 h2 h0
        go_enter Tryd.func22, Tryd.ntmps22
        go_wp2_with fail
        refine (is_any _ _ HGA.out).mono ?_
        rintro e w1 ⟨rfl, rfl⟩
        rw [H1.out]
        go_wp2_with fail
        refine (is_any _ _ HGA.out).mono ?_
        rintro e w1 ⟨rfl, rfl⟩
        rw [H2.out]
        go_wp2
        go_ret2
        unfold allS
        rw [HP.out]
        exact ⟨rfl, below_alloc (B0 w) _⟩
      | true =>
        have HP := Aside0.mk (show allP t d = true from by unfold allP; rw [h1, h2, decide_eq_false h0]; rfl)
        have HT := Aside0.mk (show allT t d = t ++ ⟨#[35]⟩ ++ d from if_neg h0)
        have H1 := Aside0.mk h1
        have H2 := Aside0.mk h2
        have hs1 := isP_size h1
        have hs2 := isP_size h2
        have z1 : t.size + 1 ≤ 9223372036854775807 := by omega
        have z2 : (t ++ (⟨#[35]⟩ : ByteArray)).size + d.size ≤ 9223372036854775807 := by rw [ByteArray.size_append]; simp only [ByteArray.size]; have e1 : t.size = t.data.size := rfl; have e2 : d.size = d.data.size := rfl; simp; omega
        clear h1 h2 hs1 hs2 h0
        go_enter Tryd.func22, Tryd.ntmps22
        go_wp2_with fail
        refine (is_any _ _ HGA.out).mono ?_
        rintro e w1 ⟨rfl, rfl⟩
        rw [H1.out]
        go_wp2_with fail
        refine (is_any _ _ HGA.out).mono ?_
        rintro e w1 ⟨rfl, rfl⟩
        rw [H2.out]
        go_wp2
        go_ret2
        unfold allS
        rw [HP.out, HT.out]
        exact ⟨rfl, below_alloc (B0 w) _⟩

end Go.Proofs.YtpbkcfgcmknijaaDoor.HName
