/- The reference Same. -/
import Derived.Test.YthhckkfdcnddfaaDoorHLib
namespace Go.Proofs.YthhckkfdcnddfaaDoor.HSame
open Go.RowKit Go.Proofs.YthhckkfdcnddfaaDoorW.PrintWords Go.Proofs.YthhckkfdcnddfaaDoor.HLib
set_option linter.unusedVariables false
set_option linter.unusedSimpArgs false

theorem same_len (w : World) (a b : Value) (xs ys : List Int) (ha : (∃ A c, a = .slice A xs.length c ∧ xs.length ≤ c ∧ Kd.C (Kd.int .u8) w A xs.length xs)) (hb : (∃ A c, b = .slice A ys.length c ∧ ys.length ≤ c ∧ Kd.C (Kd.int .u8) w A ys.length ys)) (h : xs.length ≠ ys.length) :
    Calls Tryd.prog 14 #[a, b] w fun e w' => e = .returned (.bool false) ∧ Drawn0 w w' := by
  obtain ⟨A, c, rfl, hc, hC⟩ := ha
  obtain ⟨B, d, rfl, hd, hD⟩ := hb
  have h1 : (xs.length == ys.length) = false := by simpa using h
  have h2 : ((xs.length : Int) == (ys.length : Int)) = false := by simp; omega
  have h3 : ((xs.length : Int) != (ys.length : Int)) = true := by simp; omega
  clear hc hC hd hD h
  go_enter Tryd.func14, Tryd.ntmps14
  go_wp2
  go_ret
  exact ⟨rfl, Drawn0.refl _⟩

theorem same_bv (w : World) (a b : Value) (xs ys : List Int) (ha : (∃ A c, a = .slice A xs.length c ∧ xs.length ≤ c ∧ Kd.C (Kd.int .u8) w A xs.length xs)) (hb : (∃ A c, b = .slice A ys.length c ∧ ys.length ≤ c ∧ Kd.C (Kd.int .u8) w A ys.length ys)) (hl : xs.length < 140737488355328) :
    Calls Tryd.prog 14 #[a, b] w fun e w' => e = .returned (.bool (decide (xs = ys))) ∧ Drawn0 w w' := by
  by_cases hn : xs.length = ys.length
  · have ha' := ha
    have hb' := hb
    obtain ⟨A, c, rfl, hc, hC⟩ := ha'
    obtain ⟨B, d, rfl, hd, hD⟩ := hb'
    have h1 : (xs.length == ys.length) = true := by simpa using hn
    have h2 : ((xs.length : Int) == (ys.length : Int)) = true := by simp; omega
    have h3 : ((xs.length : Int) != (ys.length : Int)) = false := by simp; omega
    have HN := Aside0.mk hn
    have HC := Aside0.mk hC
    have HD := Aside0.mk hD
    clear hn hc hC hd hD ha hb
    go_enter Tryd.func14, Tryd.ntmps14
    go_wp2
    clear h1 h2 h3
    go_loopg [5] xs.length (fun kq v5 w' => ∃ (j : Int), v5 = .int .i64 j ∧ Aside0 (0 ≤ j ∧ (kq : Int) + j = xs.length ∧ xs.take j.toNat = ys.take j.toNat) ∧ Drawn0 w w')
    case atStart => exact ⟨0, rfl, ⟨⟨by omega, by omega, by simp⟩⟩, Drawn0.refl _⟩
    case round =>
      obtain ⟨j, rfl, HA, ⟨m, rfl⟩⟩ := hrel
      by_cases hlt : j < xs.length
      · have hj0 : 0 ≤ j := HA.out.1
        have hj1 : j < ys.length := by have := HN.out; omega
        obtain ⟨ad, rfl, hx⟩ := Kd.at_int HC.out j hj0 hlt
        obtain ⟨bd, rfl, hy⟩ := Kd.at_int HD.out j hj0 hj1
        have d1 : decide (j < xs.length) = true := decide_eq_true hlt
        have d2 : decide (j < ys.length) = true := decide_eq_true hj1
        by_cases heq : rd xs j = rd ys j
        · have e1 : (rd xs j == rd ys j) = true := by simpa using heq
          have e2 : (rd xs j != rd ys j) = false := by simpa using heq
          have HE := Aside0.mk heq
          clear heq
          go_wp2
          repeat (go_quiet (fail); try go_wp2)
          go_roundg (xs.length - (j + 1).toNat)
          case measure => have := HA.out; omega
          case rel =>
            refine ⟨j + 1, rfl, ⟨⟨by omega, by omega, ?_⟩⟩, by repeat (first | exact Drawn0.refl _ | apply Drawn0.step)⟩
            rw [show (j + 1).toNat = j.toNat + 1 from by omega, List.take_add_one, List.take_add_one, HA.out.2.2]
            have h1 := HE.out
            unfold rd at h1
            rw [List.getD_eq_getElem?_getD, List.getD_eq_getElem?_getD, List.getElem?_eq_getElem (show j.toNat < xs.length by omega), List.getElem?_eq_getElem (show j.toNat < ys.length by omega)] at h1
            rw [List.getElem?_eq_getElem (show j.toNat < xs.length by omega), List.getElem?_eq_getElem (show j.toNat < ys.length by omega)]
            simp only [Option.getD_some] at h1
            rw [h1]
        · have e1 : (rd xs j == rd ys j) = false := by simpa using heq
          have e2 : (rd xs j != rd ys j) = true := by simpa using heq
          have HE := Aside0.mk (show decide (xs = ys) = false from decide_eq_false (fun z => heq (by rw [z])))
          clear heq
          go_wp2
          repeat (go_quiet (fail); try go_wp2)
          go_ret
          rw [HE.out]
          exact ⟨rfl, by repeat (first | exact Drawn0.refl _ | apply Drawn0.step)⟩
      · have d1 : decide (j < xs.length) = false := decide_eq_false hlt
        have HE := Aside0.mk (show decide (xs = ys) = true from decide_eq_true (by
          have h := HA.out.2.2
          rwa [List.take_of_length_le (by omega), List.take_of_length_le (by have := HN.out; omega)] at h))
        go_wp2
        go_ret
        rw [HE.out]
        exact ⟨rfl, by repeat (first | exact Drawn0.refl _ | apply Drawn0.step)⟩
  · rw [decide_eq_false (fun z => hn (by rw [z]))]
    exact same_len w a b xs ys ha hb hn

theorem same_any (w : World) (a b : Value) (xs ys : List Int) (ha : Bs w a xs) (hb : Bs w b ys) (hl : xs.length < 140737488355328) :
    Calls Tryd.prog 14 #[a, b] w fun e w' => e = .returned (.bool (decide (xs = ys))) ∧ Drawn0 w w' := same_bv w a b xs ys (by obtain ⟨A, c, e, h1, h2, _⟩ := ha; exact ⟨A, c, e, h1, h2⟩) (by obtain ⟨A, c, e, h1, h2, _⟩ := hb; exact ⟨A, c, e, h1, h2⟩) hl

end Go.Proofs.YthhckkfdcnddfaaDoor.HSame
