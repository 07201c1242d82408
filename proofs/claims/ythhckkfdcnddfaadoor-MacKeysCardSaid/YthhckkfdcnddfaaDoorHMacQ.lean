/- mac.Equal, mac.Check. -/
import Derived.Test.YthhckkfdcnddfaaDoorHMacR
namespace Go.Proofs.YthhckkfdcnddfaaDoor.HMacQ
open Go.RowKit Go.Proofs.YthhckkfdcnddfaaDoorW.PrintWords Go.Proofs.YthhckkfdcnddfaaDoorW.PrintMore Go.Proofs.YthhckkfdcnddfaaDoor.HLib Go.Proofs.YthhckkfdcnddfaaDoor.HSha Go.Proofs.YthhckkfdcnddfaaDoor.HShaS Go.Proofs.YthhckkfdcnddfaaDoor.HShaU Go.Proofs.YthhckkfdcnddfaaDoor.HShaV Go.Proofs.YthhckkfdcnddfaaDoor.HShaW Go.Proofs.YthhckkfdcnddfaaDoor.HShaB Go.Proofs.YthhckkfdcnddfaaDoor.HShaX Go.Proofs.YthhckkfdcnddfaaDoor.HMac Go.Proofs.YthhckkfdcnddfaaDoor.HMacC Go.Proofs.YthhckkfdcnddfaaDoor.HMacS Go.Proofs.YthhckkfdcnddfaaDoor.HMacR Go.Proofs.YthhckkfdcnddfaaDoor.PMacChecks
set_option linter.unusedVariables false
set_option linter.unusedSimpArgs false

theorem u8_in (x : Int) (h0 : 0 ≤ x) (h1 : x < 256) : IntKind.u8.wrap x = x := by rw [IntKind.wrap_u8]; omega
theorem u8_nat_or (a b : Nat) (ha : a < 256) (hb : b < 256) : bits .or .u8 (a : Int) (b : Int) = ((a ||| b : Nat) : Int) := by
  have hx : a ||| b < 2 ^ 8 := Nat.or_lt_two_pow (by omega) (by omega)
  have ha2 : (BitVec.ofInt 8 (a : Int)).toNat = a := by simp; omega
  have hb2 : (BitVec.ofInt 8 (b : Int)).toNat = b := by simp; omega
  show IntKind.u8.wrap ((BitVec.ofInt 8 (a : Int) ||| BitVec.ofInt 8 (b : Int)).toNat : Int) = _
  rw [BitVec.toNat_or, ha2, hb2]
  exact u8_in _ (by omega) (by omega)
theorem u8_nat_xor (a b : Nat) (ha : a < 256) (hb : b < 256) : bits .xor .u8 (a : Int) (b : Int) = ((a ^^^ b : Nat) : Int) := by
  have hx : a ^^^ b < 2 ^ 8 := Nat.xor_lt_two_pow (by omega) (by omega)
  have ha2 : (BitVec.ofInt 8 (a : Int)).toNat = a := by simp; omega
  have hb2 : (BitVec.ofInt 8 (b : Int)).toNat = b := by simp; omega
  show IntKind.u8.wrap ((BitVec.ofInt 8 (a : Int) ^^^ BitVec.ofInt 8 (b : Int)).toNat : Int) = _
  rw [BitVec.toNat_xor, ha2, hb2]
  exact u8_in _ (by omega) (by omega)
theorem nat_xor_zero (a b : Nat) (h : a ^^^ b = 0) : a = b := by
  have h2 : (a ^^^ b) ^^^ b = 0 ^^^ b := by rw [h]
  rwa [Nat.xor_assoc, Nat.xor_self, Nat.xor_zero, Nat.zero_xor] at h2
/-- diff behind one more byte. -/
theorem diff_step (d x y : Int) (hd : 0 ≤ d ∧ d < 256) (hx : 0 ≤ x ∧ x < 256) (hy : 0 ≤ y ∧ y < 256) : (0 ≤ bits .or .u8 d (bits .xor .u8 x y) ∧ bits .or .u8 d (bits .xor .u8 x y) < 256) ∧ (bits .or .u8 d (bits .xor .u8 x y) = 0 ↔ d = 0 ∧ x = y) := by
  obtain ⟨D, rfl⟩ := Int.eq_ofNat_of_zero_le hd.1
  obtain ⟨X, rfl⟩ := Int.eq_ofNat_of_zero_le hx.1
  obtain ⟨Y, rfl⟩ := Int.eq_ofNat_of_zero_le hy.1
  have hxy : X ^^^ Y < 2 ^ 8 := Nat.xor_lt_two_pow (by omega) (by omega)
  have hor : D ||| (X ^^^ Y) < 2 ^ 8 := Nat.or_lt_two_pow (by omega) hxy
  rw [u8_nat_xor X Y (by omega) (by omega), u8_nat_or D (X ^^^ Y) (by omega) (by omega)]
  refine ⟨⟨by omega, by omega⟩, fun h => ?_, fun ⟨h1, h2⟩ => ?_⟩
  · have h3 : D ||| (X ^^^ Y) = 0 := by omega
    have h4 := Nat.or_eq_zero_iff.1 h3
    have := nat_xor_zero X Y h4.2
    omega
  · have e1 : D = 0 := by omega
    have e2 : X = Y := by omega
    rw [e1, e2, Nat.xor_self]
    rfl
theorem equal_step (xs ys : List Int) (hn : xs.length = ys.length) (hl : xs.length ≤ 4294967296) (hx : ∀ x ∈ xs, 0 ≤ x ∧ x < 256) (hy : ∀ x ∈ ys, 0 ≤ x ∧ x < 256) :
    ∀ (n i : Nat) (d : Int), i + n = xs.length → (0 ≤ d ∧ d < 256) → (d = 0 ↔ xs.take i = ys.take i) → mac_Equal.l0 (n + 1) xs ys d (xs.length : Int) (i : Int) = some (decide (xs = ys)) := by
  intro n
  induction n with
  | zero =>
    intro i d hi hd hz
    obtain rfl : i = xs.length := by omega
    rw [mac_Equal.l0, if_neg (by omega)]
    rw [List.take_of_length_le (Nat.le_refl _), List.take_of_length_le (by omega)] at hz
    congr 1
    by_cases h : d = 0
    · rw [decide_eq_true (hz.1 h), h]; rfl
    · rw [decide_eq_false (fun e => h (hz.2 e))]; simpa using h
  | succ n ih =>
    intro i d hi hd hz
    have e : wrap64 ((i : Int) + 1) = ((i + 1 : Nat) : Int) := by rw [IntWalk.wrap64_in _ (by omega)]; omega
    have hxi : rd xs (i : Int) = xs[i]'(by omega) := by
      rw [rd, show ((i : Int)).toNat = i from by omega, List.getD_eq_getElem?_getD, List.getElem?_eq_getElem (by omega)]; rfl
    have hyi : rd ys (i : Int) = ys[i]'(by omega) := by
      rw [rd, show ((i : Int)).toNat = i from by omega, List.getD_eq_getElem?_getD, List.getElem?_eq_getElem (by omega)]; rfl
    have hst := diff_step d (xs[i]'(by omega)) (ys[i]'(by omega)) hd (hx _ (List.getElem_mem _)) (hy _ (List.getElem_mem _))
    rw [mac_Equal.l0, if_pos (by omega), if_pos (by omega), if_pos (by omega), if_pos (by omega), e, hxi, hyi]
    refine ih (i + 1) _ (by omega) hst.1 ?_
    rw [hst.2, hz, List.take_add_one, List.take_add_one, List.getElem?_eq_getElem (show i < xs.length by omega), List.getElem?_eq_getElem (show i < ys.length by omega)]
    constructor
    · rintro ⟨h1, h2⟩
      rw [h1, h2]
    · intro h
      have h1 := List.append_inj h (by rw [List.length_take, List.length_take]; omega)
      exact ⟨h1.1, by simpa using h1.2⟩
theorem equal_any (w : World) (a b : Value) (xs ys : List Int) (ha : Bv w a xs) (hb : Bv w b ys) (hx : ∀ x ∈ xs, 0 ≤ x ∧ x < 256) (hy : ∀ x ∈ ys, 0 ≤ x ∧ x < 256) (hl : xs.length ≤ 4294967296) :
    Calls Tryd.prog 13 #[a, b] w fun e w' => e = .returned (.bool (decide (xs = ys))) ∧ Below w.heap.size w w' := by
  obtain ⟨A, c, rfl, hc, hC⟩ := ha
  obtain ⟨B, d, rfl, hd, hD⟩ := hb
  have hf : mac_Equal.f (xs.length + 1) xs ys = some (decide (xs = ys)) := by
    unfold mac_Equal.f
    by_cases h : xs.length = ys.length
    · rw [if_pos (by omega)]
      exact equal_step xs ys h hl hx hy xs.length 0 0 (Nat.zero_add _) (by decide) (by simp)
    · rw [if_neg (by omega), decide_eq_false (fun e => h (by rw [e]))]
  refine (mac_Equal.calls (xs.length + 1) A c xs B d ys _ w hC hc hD hd hf).mono ?_
  rintro e w' ⟨he, ⟨m, rfl⟩⟩
  exact ⟨he, pw_below_drewN (B0 w) m⟩

end Go.Proofs.YthhckkfdcnddfaaDoor.HMacQ
