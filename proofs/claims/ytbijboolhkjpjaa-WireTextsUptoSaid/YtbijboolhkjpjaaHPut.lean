/- The walks of what writes numbers and texts, and of the references beside them. -/
import Derived.Test.YtbijboolhkjpjaaHWire
namespace Go.Proofs.Ytbijboolhkjpjaa.HPut
open Go.RowKit Go.Proofs.YtbijboolhkjpjaaW.PrintWords Go.Proofs.Ytbijboolhkjpjaa.HLib Go.Proofs.Ytbijboolhkjpjaa.HWireS Go.Proofs.Ytbijboolhkjpjaa.HWire
set_option linter.unusedVariables false
set_option linter.unusedSimpArgs false

theorem or128 (y : Nat) : bits .or .u8 ((y : Int) % 256) 128 = ((y % 128 + 128 : Nat) : Int) := by
  have h := u8_or_nat (y % 256) 128 (by omega) (by decide)
  rw [show (((y % 256 : Nat) : Int)) = (y : Int) % 256 from by omega] at h
  rw [show ((128 : Nat) : Int) = 128 from rfl] at h
  rw [h]
  congr 1
  have e : y % 256 = y % 256 / 128 * 128 + y % 128 := by omega
  have h2 : y % 256 / 128 = 0 ∨ y % 256 / 128 = 1 := by omega
  rcases h2 with h2 | h2
  · have e2 : y % 256 = y % 128 := by omega
    rw [e2, Nat.or_comm]
    have := nat_join 7 128 (y % 128) (by decide) (by omega)
    omega
  · have e2 : y % 256 = 128 + y % 128 := by omega
    have h3 := nat_join 7 128 (y % 128) (by decide) (by omega)
    rw [e2, ← h3, Nat.or_comm, ← Nat.or_assoc, Nat.or_self]; omega

theorem put_any (w : World) (x : Nat) (hx : x < 18446744073709551616) :
    Calls Try.prog 7 #[.int .u64 x] w fun e w' => ∃ v, e = .returned v ∧ Kd.R (Kd.int .u8) 5 w' w.heap.size (fun _ => True) v (enc x) ∧ Below w.heap.size w w' := by
  have HX := Aside0.mk hx
  clear hx
  go_enter Try.func7, Try.ntmps7
  go_wp2
  go_loopg [0, 3] x (fun kq v0 v3 w' => ∃ (y : Nat) (out : List Int), v0 = .int .u64 y ∧ Aside0 (kq = y ∧ out ++ enc y = enc x ∧ y < 18446744073709551616) ∧ Aside0 (Kd.R (Kd.int .u8) 5 w' w.heap.size (fun _ => True) v3 out) ∧ Aside0 (Below w.heap.size w w'))
  case atStart => exact ⟨x, [], rfl, ⟨⟨rfl, rfl, HX.out⟩⟩, ⟨Kd.R_nil _ _ _ _ _⟩, ⟨Below.refl _ _⟩⟩
  case round =>
    obtain ⟨y, out, rfl, HA, HO, HB⟩ := hrel
    have HL := Aside0.mk (show out.length ≤ 10 from by
      have h1 := enc_len10 x HX.out
      have h2 := congrArg List.length HA.out.2.1
      rw [List.length_append] at h2
      omega)
    by_cases c : 128 ≤ y
    · have cb : decide ((128 : Int) ≤ (y : Int)) = true := decide_eq_true (by omega)
      clear c
      go_wp2_with (at_builtin; refine Kd.R_append (Kd.int .u8) (w0 := w) w.heap.size rfl (.tmp 8) (.tmp 12) 23 5 (.int .u8 0) 1 rfl Try.underlying23 info_u8 rfl (by decide) (by omega) u3 out (Go.bits .or .u8 ((y : Int) % 256) 128) [.int .u8 (Go.bits .or .u8 ((y : Int) % 256) 128)] (fun _ => True) (fun _ => False) rfl rfl ?aP (fun _ hk => hk.elim) (fun _ _ => trivial) ?aO ?aB ?aS ?aL ?_; (case aP => exact rfl); (case aB => exact HB.out); (case aO => exact HO.out); (case aS => exact below_size HB.out); (case aL => have := HL.out; omega); intro v1 w1 ho hb hg hat; have HO1 := Aside0.mk ho; have HB1 := Aside0.mk hb; clear ho hb hg hat)
      go_roundg (y / 128)
      case measure => rw [HA.out.1]; have := of_decide_eq_true cb; omega
      case rel =>
        refine ⟨y / 128, _, by simp, ⟨rfl, ?_, by have := HA.out.2.2; omega⟩, HO1, HB1⟩
        rw [or128, List.append_assoc, ← HA.out.2.1, enc_big (x := y) (by have := of_decide_eq_true cb; omega)]
        rfl
    · have cb : decide ((128 : Int) ≤ (y : Int)) = false := decide_eq_false (by omega)
      have HS := Aside0.mk (show enc y = [(y : Int)] from enc_small (by omega))
      have hy : (y : Int) < 128 := by omega
      clear c
      go_wp2_with (at_builtin; refine Kd.R_append (Kd.int .u8) (w0 := w) w.heap.size rfl (.tmp 14) (.tmp 17) 23 5 (.int .u8 0) 1 rfl Try.underlying23 info_u8 rfl (by decide) (by omega) u3 out (y : Int) [.int .u8 (y : Int)] (fun _ => True) (fun _ => False) rfl rfl ?aP (fun _ hk => hk.elim) (fun _ _ => trivial) ?aO ?aB ?aS ?aL ?_; (case aP => exact rfl); (case aB => exact HB.out); (case aO => exact HO.out); (case aS => exact below_size HB.out); (case aL => have := HL.out; omega); intro v1 w1 ho hb hg hat; have HO1 := Aside0.mk ho; have HB1 := Aside0.mk hb; clear ho hb hg hat)
      go_ret
      refine ⟨_, rfl, ?_, HB1.out⟩
      rw [← HA.out.2.1, HS.out]
      exact HO1.out

theorem refput_any (w : World) (x : Nat) (hx : x < 18446744073709551616) :
    Calls Try.prog 9 #[.int .u64 x] w fun e w' => ∃ v, e = .returned v ∧ Kd.R (Kd.int .u8) 5 w' w.heap.size (fun _ => True) v (enc x) ∧ Below w.heap.size w w' := by
  have HX := Aside0.mk hx
  clear hx
  go_enter Try.func9, Try.ntmps9
  go_wp2
  go_loopg [0, 3] x (fun kq v0 v3 w' => ∃ (y : Nat) (out : List Int), v0 = .int .u64 y ∧ Aside0 (kq = y ∧ out ++ enc y = enc x ∧ y < 18446744073709551616) ∧ Aside0 (Kd.R (Kd.int .u8) 5 w' w.heap.size (fun _ => True) v3 out) ∧ Aside0 (Below w.heap.size w w'))
  case atStart => exact ⟨x, [], rfl, ⟨⟨rfl, rfl, HX.out⟩⟩, ⟨Kd.R_nil _ _ _ _ _⟩, ⟨Below.refl _ _⟩⟩
  case round =>
    obtain ⟨y, out, rfl, HA, HO, HB⟩ := hrel
    have HL := Aside0.mk (show out.length ≤ 10 from by
      have h1 := enc_len10 x HX.out
      have h2 := congrArg List.length HA.out.2.1
      rw [List.length_append] at h2
      omega)
    have hw : IntKind.u64.wrap ((y : Int) / 128) = ((y / 128 : Nat) : Int) := by
      have := HA.out.2.2
      rw [IntKind.wrap_u64]; omega
    by_cases c : 128 ≤ y
    · have cb : (((y / 128 : Nat) : Int) == 0) = false := by simp; omega
      have HC := Aside0.mk c
      clear c
      go_wp2_with (at_builtin; refine Kd.R_append (Kd.int .u8) (w0 := w) w.heap.size rfl (.tmp 16) (.tmp 19) 23 5 (.int .u8 0) 1 rfl Try.underlying23 info_u8 rfl (by decide) (by omega) u3 out ((y : Int) % 128 + 128) [.int .u8 ((y : Int) % 128 + 128)] (fun _ => True) (fun _ => False) rfl rfl ?aP (fun _ hk => hk.elim) (fun _ _ => trivial) ?aO ?aB ?aS ?aL ?_; (case aP => exact rfl); (case aB => exact HB.out); (case aO => exact HO.out); (case aS => exact below_size HB.out); (case aL => have := HL.out; omega); intro v1 w1 ho hb hg hat; have HO1 := Aside0.mk ho; have HB1 := Aside0.mk hb; clear ho hb hg hat)
      go_roundg (y / 128)
      case measure => rw [HA.out.1]; have := HC.out; omega
      case rel =>
        refine ⟨y / 128, _, by simp, ⟨rfl, ?_, by have := HA.out.2.2; omega⟩, HO1, HB1⟩
        rw [List.append_assoc, ← HA.out.2.1, enc_big (x := y) HC.out]
        congr 1
    · have cb : (((y / 128 : Nat) : Int) == 0) = true := by simp; omega
      have HC := Aside0.mk c
      clear c
      go_wp2_with (at_builtin; refine Kd.R_append (Kd.int .u8) (w0 := w) w.heap.size rfl (.tmp 12) (.tmp 14) 23 5 (.int .u8 0) 1 rfl Try.underlying23 info_u8 rfl (by decide) (by omega) u3 out ((y : Int) % 128) [.int .u8 ((y : Int) % 128)] (fun _ => True) (fun _ => False) rfl rfl ?aP (fun _ hk => hk.elim) (fun _ _ => trivial) ?aO ?aB ?aS ?aL ?_; (case aP => exact rfl); (case aB => exact HB.out); (case aO => exact HO.out); (case aS => exact below_size HB.out); (case aL => have := HL.out; omega); intro v1 w1 ho hb hg hat; have HO1 := Aside0.mk ho; have HB1 := Aside0.mk hb; clear ho hb hg hat)
      go_ret
      refine ⟨_, rfl, ?_, HB1.out⟩
      rw [← HA.out.2.1, enc_small (x := y) (by have := HC.out; omega)]
      have h := HO1.out
      rw [show (y : Int) % 128 = y from by have := HC.out; omega] at h
      exact h

theorem same_len (w : World) (a b : Value) (xs ys : List Int) (ha : Bs w a xs) (hb : Bs w b ys) (h : xs.length ≠ ys.length) :
    Calls Try.prog 8 #[a, b] w fun e w' => e = .returned (.bool false) ∧ Drawn0 w w' := by
  obtain ⟨A, c, rfl, hc, hC, _⟩ := ha
  obtain ⟨B, d, rfl, hd, hD, _⟩ := hb
  have h1 : (xs.length == ys.length) = false := by simpa using h
  have h2 : ((xs.length : Int) == (ys.length : Int)) = false := by simp; omega
  have h3 : ((xs.length : Int) != (ys.length : Int)) = true := by simp; omega
  clear hc hC hd hD h
  go_enter Try.func8, Try.ntmps8
  go_wp2
  go_ret
  exact ⟨rfl, Drawn0.refl _⟩

theorem same_any (w : World) (a b : Value) (xs ys : List Int) (ha : Bs w a xs) (hb : Bs w b ys) (hl : xs.length < 140737488355328) :
    Calls Try.prog 8 #[a, b] w fun e w' => e = .returned (.bool (decide (xs = ys))) ∧ Drawn0 w w' := by
  by_cases hn : xs.length = ys.length
  · have ha' := ha
    have hb' := hb
    obtain ⟨A, c, rfl, hc, hC, _⟩ := ha'
    obtain ⟨B, d, rfl, hd, hD, _⟩ := hb'
    have h1 : (xs.length == ys.length) = true := by simpa using hn
    have h2 : ((xs.length : Int) == (ys.length : Int)) = true := by simp; omega
    have h3 : ((xs.length : Int) != (ys.length : Int)) = false := by simp; omega
    have HN := Aside0.mk hn
    have HC := Aside0.mk hC
    have HD := Aside0.mk hD
    clear hn hc hC hd hD ha hb
    go_enter Try.func8, Try.ntmps8
    go_wp2
    clear h1 h2 h3
    go_loopg [5] xs.length (fun kq v5 w' => ∃ (j : Int), v5 = .int .i64 j ∧ Aside0 (0 ≤ j ∧ (kq : Int) + j = xs.length ∧ xs.take j.toNat = ys.take j.toNat) ∧ Drawn0 w w')
    case atStart => exact ⟨0, rfl, ⟨⟨by omega, by omega, by simp⟩⟩, Drawn0.refl _⟩
    case round =>
      obtain ⟨j, rfl, HA, ⟨m, rfl⟩⟩ := hrel
      by_cases hlt : j < xs.length
      · have hj0 : 0 ≤ j := HA.out.1
        have hj1 : j < ys.length := by have := HN.out; omega
        obtain ⟨ad, rfl, hx⟩ := Kd.at_int HC.out j hj0 hlt
        obtain ⟨bd, rfl, hy⟩ := Kd.at_int HD.out j hj0 hj1
        have d1 : decide (j < xs.length) = true := decide_eq_true hlt
        have d2 : decide (j < ys.length) = true := decide_eq_true hj1
        by_cases heq : rd xs j = rd ys j
        · have e1 : (rd xs j == rd ys j) = true := by simpa using heq
          have e2 : (rd xs j != rd ys j) = false := by simpa using heq
          have HE := Aside0.mk heq
          clear heq
          go_wp2
          repeat (go_quiet (fail); try go_wp2)
          go_roundg (xs.length - (j + 1).toNat)
          case measure => have := HA.out; omega
          case rel =>
            refine ⟨j + 1, rfl, ⟨⟨by omega, by omega, ?_⟩⟩, by repeat (first | exact Drawn0.refl _ | apply Drawn0.step)⟩
            rw [show (j + 1).toNat = j.toNat + 1 from by omega, List.take_add_one, List.take_add_one, HA.out.2.2]
            have h1 := HE.out
            unfold rd at h1
            rw [List.getD_eq_getElem?_getD, List.getD_eq_getElem?_getD, List.getElem?_eq_getElem (show j.toNat < xs.length by omega), List.getElem?_eq_getElem (show j.toNat < ys.length by omega)] at h1
            rw [List.getElem?_eq_getElem (show j.toNat < xs.length by omega), List.getElem?_eq_getElem (show j.toNat < ys.length by omega)]
            simp only [Option.getD_some] at h1
            rw [h1]
        · have e1 : (rd xs j == rd ys j) = false := by simpa using heq
          have e2 : (rd xs j != rd ys j) = true := by simpa using heq
          have HE := Aside0.mk (show decide (xs = ys) = false from decide_eq_false (fun z => heq (by rw [z])))
          clear heq
          go_wp2
          repeat (go_quiet (fail); try go_wp2)
          go_ret
          rw [HE.out]
          exact ⟨rfl, by repeat (first | exact Drawn0.refl _ | apply Drawn0.step)⟩
      · have d1 : decide (j < xs.length) = false := decide_eq_false hlt
        have HE := Aside0.mk (show decide (xs = ys) = true from decide_eq_true (by
          have h := HA.out.2.2
          rwa [List.take_of_length_le (by omega), List.take_of_length_le (by have := HN.out; omega)] at h))
        go_wp2
        go_ret
        rw [HE.out]
        exact ⟨rfl, by repeat (first | exact Drawn0.refl _ | apply Drawn0.step)⟩
  · rw [decide_eq_false (fun z => hn (by rw [z]))]
    exact same_len w a b xs ys ha hb hn

theorem bs_R {w : World} {b : Nat} {v : Value} {l : List Int} (h : Kd.R (Kd.int .u8) 5 w b (fun _ => True) v l) : Bs w v l := Bs.of_R h

/-- The bytes of a text. -/
def encText (s : ByteArray) : List Int := enc s.size ++ bytesOf s

theorem text_any (w : World) (s : ByteArray) (hs : s.size ≤ 140737488351232) :
    Calls Try.prog 13 #[.string s] w fun e w' => ∃ v, e = .returned v ∧ Kd.R (Kd.int .u8) 5 w' w.heap.size (fun _ => True) v (encText s) ∧ Below w.heap.size w w' := by
  have hz : IntKind.u64.wrap (s.size : Int) = s.size := by rw [IntKind.wrap_u64]; omega
  have HS := Aside0.mk hs
  clear hs
  go_enter Try.func13, Try.ntmps13
  go_wp2_with (first | (go_at_call 7; refine (put_any _ s.size (by have := HS.out; omega)).mono ?_; rintro e w1 ⟨v1, rfl, hR, hB⟩; have HR := Aside0.mk hR; have HB := Aside0.mk hB; clear hR hB) | (at_builtin; refine print_append_str (w0 := w) w.heap.size rfl (.tmp 6) (.tmp 7) 23 9 5 rfl Try.underlying23 Try.underlying9 info_u8 v1 (enc s.size) s rfl rfl ?aO ?aB ?aS ?aL ?_; (case aO => exact Kd.own_of_R HR.out); (case aB => exact HB.out); (case aS => exact HB.out.size); (case aL => have := HS.out; have := enc_len10 s.size (by omega); omega); intro v2 w2 ho hb hg; have HO := Aside0.mk ho; have HB2 := Aside0.mk hb; clear ho hb hg))
  go_ret
  exact ⟨_, rfl, Kd.R_of_own (h1 := fun _ => rfl) HO.out (fun _ _ => trivial), HB2.out⟩

theorem reftext_any (w : World) (s : ByteArray) (hs : s.size ≤ 140737488351232) :
    Calls Try.prog 16 #[.string s] w fun e w' => ∃ v, e = .returned v ∧ Kd.R (Kd.int .u8) 5 w' w.heap.size (fun _ => True) v (encText s) ∧ Below w.heap.size w w' := by
  have hz : IntKind.u64.wrap (s.size : Int) = s.size := by rw [IntKind.wrap_u64]; omega
  have HS := Aside0.mk hs
  clear hs
  go_enter Try.func16, Try.ntmps16
  go_wp2_with (first | (go_at_call 9; refine (refput_any _ s.size (by have := HS.out; omega)).mono ?_; rintro e w1 ⟨v1, rfl, hR, hB⟩; have HR := Aside0.mk hR; have HB := Aside0.mk hB; clear hR hB) | (at_builtin; refine print_append_str (w0 := w) w.heap.size rfl (.tmp 6) (.tmp 7) 23 9 5 rfl Try.underlying23 Try.underlying9 info_u8 v1 (enc s.size) s rfl rfl ?aO ?aB ?aS ?aL ?_; (case aO => exact Kd.own_of_R HR.out); (case aB => exact HB.out); (case aS => exact HB.out.size); (case aL => have := HS.out; have := enc_len10 s.size (by omega); omega); intro v2 w2 ho hb hg; have HO := Aside0.mk ho; have HB2 := Aside0.mk hb; clear ho hb hg))
  go_ret
  exact ⟨_, rfl, Kd.R_of_own (h1 := fun _ => rfl) HO.out (fun _ _ => trivial), HB2.out⟩

end Go.Proofs.Ytbijboolhkjpjaa.HPut
