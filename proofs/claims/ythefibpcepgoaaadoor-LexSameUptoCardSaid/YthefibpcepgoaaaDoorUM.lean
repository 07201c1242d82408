/- Tokens compared: lex.Same, slices.EqualFunc at tokens, the reference's Same. -/
import Derived.Test.YthefibpcepgoaaaDoorUS
import Derived.Test.YthefibpcepgoaaaDoorUP
import Derived.Test.YthefibpcepgoaaaDoorHNameP
import Derived.Test.YthefibpcepgoaaaDoorShelf
import Derived.Deep.Cut
import Derived.Test.YthefibpcepgoaaaDoorUN
namespace Go.Proofs.YthefibpcepgoaaaDoor.HLexM
open Go.RowKit Go.Proofs.YthefibpcepgoaaaDoorW.PrintWords Go.Proofs.YthefibpcepgoaaaDoor.HLib Go.Proofs.YthefibpcepgoaaaDoor.HNameP Go.Proofs.YthefibpcepgoaaaDoor.HPr Go.Proofs.YthefibpcepgoaaaDoor.HLexP Go.Proofs.YthefibpcepgoaaaDoor.HLexJ Go.Proofs.YthefibpcepgoaaaDoor.HLexS Go.Proofs.YthefibpcepgoaaaDoor.PLexJoins
set_option linter.unusedVariables false
set_option linter.unusedSimpArgs false

def kk (t : S36) : Int × ByteArray := (t.f0, t.f1)
theorem str_eqv (a b : ByteArray) (h : a = b) : (a.toList == b.toList) = true := by rw [h]; exact beq_self_eq_true _
theorem str_nev (a b : ByteArray) (h : a ≠ b) : (a.toList == b.toList) = false := by
  rw [beq_eq_false_iff_ne, ByteArray.toList_eq, ByteArray.toList_eq]; exact fun e => h (ByteArray.ext (Array.toList_inj.mp e))
set_option maxHeartbeats 1000000 in
theorem one_any (x y : S36) (w : World) : Calls Tryd.prog 35 #[.agg #[.int .i64 x.f0, .string x.f1, .int .i64 x.f2], .agg #[.int .i64 y.f0, .string y.f1, .int .i64 y.f2]] w fun e w' => e = .returned (.bool (decide (kk x = kk y))) ∧ Below w.heap.size w w' := by
  obtain ⟨a, b, c⟩ := x
  obtain ⟨a', b', c'⟩ := y
  by_cases h1 : a = a'
  · subst h1
    by_cases h2 : b = b'
    · have e2 := str_eqv b b' h2
      rw [decide_eq_true (show kk ⟨a, b, c⟩ = kk ⟨a, b', c'⟩ from by rw [kk, kk, h2])]
      clear h2
      go_enter Tryd.func35, Tryd.ntmps35
      go_wp2
      go_ret
      exact ⟨rfl, below_alloc (below_alloc (B0 w) _) _⟩
    · have e2 := str_nev b b' h2
      rw [decide_eq_false (show ¬ kk ⟨a, b, c⟩ = kk ⟨a, b', c'⟩ from fun h => h2 (by injection h))]
      clear h2
      go_enter Tryd.func35, Tryd.ntmps35
      go_wp2
      go_ret
      exact ⟨rfl, below_alloc (below_alloc (B0 w) _) _⟩
  · have e1 : (a == a') = false := by simpa using h1
    rw [decide_eq_false (show ¬ kk ⟨a, b, c⟩ = kk ⟨a', b', c'⟩ from fun h => h1 (by injection h))]
    clear h1
    go_enter Tryd.func35, Tryd.ntmps35
    go_wp2
    go_ret
    exact ⟨rfl, below_alloc (below_alloc (B0 w) _) _⟩
theorem take_map {xs ys : List S36} {j : Nat} (h1 : j < xs.length) (h2 : j < ys.length) (h : (xs.take j).map kk = (ys.take j).map kk) (he : kk (rd_T36 xs j) = kk (rd_T36 ys j)) : (xs.take (j + 1)).map kk = (ys.take (j + 1)).map kk := by
  unfold rd_T36 at he
  rw [Int.toNat_natCast, List.getD_eq_getElem?_getD, List.getD_eq_getElem?_getD, List.getElem?_eq_getElem h1, List.getElem?_eq_getElem h2] at he
  rw [List.take_succ_eq_append_getElem h1, List.take_succ_eq_append_getElem h2, List.map_append, List.map_append, h]
  simp only [List.map_cons, List.map_nil]
  rw [show kk xs[j] = kk ys[j] from he]
set_option maxHeartbeats 8000000 in
theorem eqf_any (w : World) (A : Option Addr) (c : Nat) (xs : List S36) (hA : Kd.C k36 w A xs.length xs) (hc : xs.length ≤ c) (B : Option Addr) (d : Nat) (ys : List S36) (hB : Kd.C k36 w B ys.length ys) (hd : ys.length ≤ d) (hl : xs.length ≤ 1000000) :
    Calls Tryd.prog 34 #[.slice A xs.length c, .slice B ys.length d, .func (.func 35) #[] #[]] w fun e w' => e = .returned (.bool (decide (xs.map kk = ys.map kk))) ∧ Below w.heap.size w w' := by
  have HA := Aside0.mk hA
  have HB := Aside0.mk hB
  have HL := Aside0.mk hl
  clear hA hB
  by_cases hn : xs.length = ys.length
  · have e1 : ((xs.length : Int) == (ys.length : Int)) = true := by rw [hn]; exact beq_self_eq_true _
    have e2 : ((xs.length : Int) != (ys.length : Int)) = false := by rw [hn]; simp
    have e3 : (xs.length == ys.length) = true := by simpa using hn
    have HN := Aside0.mk hn
    clear hn
    go_enter Tryd.func34, Tryd.ntmps34
    go_wp2
    clear e1 e2 e3
    go_loopg [17] xs.length (fun kq v17 w' => ∃ (j : Nat), v17 = .int .i64 j ∧ Aside0 (kq + j = xs.length ∧ (xs.take j).map kk = (ys.take j).map kk) ∧ Aside0 (Below w.heap.size w w'))
    case atStart => exact ⟨0, rfl, ⟨by omega, by simp⟩, ⟨B0 w⟩⟩
    case round =>
      obtain ⟨j, rfl, HJ, HW⟩ := hrel
      by_cases cj : j < xs.length
      · have d1 : decide (j < xs.length) = true := decide_eq_true cj
        have d2 : decide ((j : Int) < (xs.length : Int)) = true := decide_eq_true (by omega)
        have d3 : (j : Int) < (xs.length : Int) := by omega
        have d4 : (j : Int) < (ys.length : Int) := by have := HN.out; omega
        have d5 : j < ys.length := by have := HN.out; omega
        have d6 : (j : Int) ≤ 1000000 := by have := HL.out; omega
        obtain ⟨ad, hAd, a1, a2, a3⟩ := at_T36 (Kd.C_below HA.out HW.out) j (by omega) (by omega)
        obtain ⟨x, hx⟩ : ∃ x, x = rd_T36 xs j := ⟨_, rfl⟩
        obtain ⟨bd, hBd, b1, b2, b3⟩ := at_T36 (Kd.C_alloc (Kd.C_below HB.out HW.out) (.cells #[.int .i64 x.f0, .string x.f1, .int .i64 x.f2] 36)) j (by omega) (by omega)
        subst hAd hBd
        obtain ⟨y, hy⟩ : ∃ y, y = rd_T36 ys j := ⟨_, rfl⟩
        rw [← hx, Int.toNat_natCast] at a1 a2 a3
        rw [← hy, Int.toNat_natCast] at b1 b2 b3
        have HX := Aside0.mk hx
        have HY := Aside0.mk hy
        clear hx hy
        go_wp2_with fail
        refine (one_any x y _).mono ?_
        rintro e w1 ⟨rfl, hb1⟩
        have HW1 := Aside0.mk (below_step (below_alloc (below_alloc HW.out _) _) hb1)
        clear hb1 a1 a2 a3 b1 b2 b3
        cases hk : decide (kk x = kk y) with
        | true =>
          have HK := Aside0.mk (of_decide_eq_true hk)
          clear hk
          go_wp2
          go_roundg (xs.length - (j + 1))
          case measure => have := HJ.out; omega
          case rel => exact ⟨j + 1, rfl, ⟨by have := HJ.out; omega, take_map (by omega) (by omega) HJ.out.2 (by rw [← HX.out, ← HY.out]; exact HK.out)⟩, ⟨HW1.out⟩⟩
        | false =>
          have HK := Aside0.mk (show decide (xs.map kk = ys.map kk) = false from decide_eq_false (fun h => of_decide_eq_false hk (by
            rw [HX.out, HY.out]
            unfold rd_T36
            rw [Int.toNat_natCast, List.getD_eq_getElem?_getD, List.getD_eq_getElem?_getD, List.getElem?_eq_getElem (show j < xs.length by omega), List.getElem?_eq_getElem d5]
            have := congrArg (fun l => l[j]?) h
            simp only [List.getElem?_map, List.getElem?_eq_getElem (show j < xs.length by omega), List.getElem?_eq_getElem d5, Option.map_some, Option.some.injEq] at this
            exact this)))
          clear hk
          go_wp2
          go_ret
          exact ⟨by rw [HK.out]; rfl, HW1.out⟩
      · have d1 : decide (j < xs.length) = false := decide_eq_false cj
        have d2 : decide ((j : Int) < (xs.length : Int)) = false := decide_eq_false (by omega)
        have HK := Aside0.mk (show decide (xs.map kk = ys.map kk) = true from decide_eq_true (by
          have h := HJ.out.2
          rwa [List.take_of_length_le (by omega), List.take_of_length_le (by have := HN.out; omega)] at h))
        go_wp2
        go_ret
        exact ⟨by rw [HK.out]; rfl, HW.out⟩
  · have e1 : ((xs.length : Int) == (ys.length : Int)) = false := by simp; omega
    have e2 : ((xs.length : Int) != (ys.length : Int)) = true := by simp; omega
    have e3 : (xs.length == ys.length) = false := by simpa using hn
    have HK := Aside0.mk (show decide (xs.map kk = ys.map kk) = false from decide_eq_false (fun h => hn (by have := congrArg List.length h; simpa using this)))
    clear hn
    go_enter Tryd.func34, Tryd.ntmps34
    go_wp2
    go_ret
    exact ⟨by rw [HK.out]; rfl, B0 w⟩
theorem same_any (w : World) (A : Option Addr) (c : Nat) (xs : List S36) (hA : Kd.C k36 w A xs.length xs) (hc : xs.length ≤ c) (B : Option Addr) (d : Nat) (ys : List S36) (hB : Kd.C k36 w B ys.length ys) (hd : ys.length ≤ d) (hl : xs.length ≤ 1000000) :
    Calls Tryd.prog 16 #[.slice A xs.length c, .slice B ys.length d] w fun e w' => e = .returned (.bool (decide (xs.map kk = ys.map kk))) ∧ Below w.heap.size w w' := by
  have HE := Aside0.mk (eqf_any w A c xs hA hc B d ys hB hd hl)
  clear hA hB
  go_enter Tryd.func16, Tryd.ntmps16
  go_wp2_with fail
  refine HE.out.mono ?_
  rintro e w1 ⟨rfl, hb⟩
  have HB := Aside0.mk hb
  clear hb HE
  go_wp2
  go_ret
  exact ⟨rfl, HB.out⟩
end Go.Proofs.YthefibpcepgoaaaDoor.HLexM
/- The reference's names: the printed functions are the plain ones. -/
namespace Go.Proofs.YthefibpcepgoaaaDoor.HNameR
open Go.RowKit Go.Proofs.YthefibpcepgoaaaDoorW.PrintWords Go.Proofs.YthefibpcepgoaaaDoor.HNameP Go.Proofs.YthefibpcepgoaaaDoor.HPr
set_option linter.unusedVariables false
set_option linter.unusedSimpArgs false

theorem small_eq (c : Int) : vestryref08_small.f c = some (smallC c) := by
  unfold vestryref08_small.f smallC
  by_cases h : c ≥ 97
  · rw [if_pos h, decide_eq_true (show 97 ≤ c from h), Bool.true_and]
  · rw [if_neg h, decide_eq_false (show ¬ 97 ≤ c from h), Bool.false_and]
theorem digit_eq (c : Int) : vestryref08_digit.f c = some (digitC c) := by
  unfold vestryref08_digit.f digitC
  by_cases h : c ≥ 48
  · rw [if_pos h, decide_eq_true (show 48 ≤ c from h), Bool.true_and]
  · rw [if_neg h, decide_eq_false (show ¬ 48 ≤ c from h), Bool.false_and]
theorem list_eq (s : ByteArray) (l : Array UInt8) : (s.toList = l.toList) ↔ s = ⟨l⟩ := by
  rw [ByteArray.toList_eq]
  constructor
  · intro h
    exact ByteArray.ext (Array.toList_inj.mp h)
  · rintro rfl
    rfl
theorem reserved_eq (s : ByteArray) : vestryref08_Reserved.f s = some (resP s) := by
  unfold vestryref08_Reserved.f
  rw [res_or]
  have e1 : s.toList = ([100, 101, 102, 105, 110, 105, 116, 105, 111, 110] : List UInt8) ↔ s = DEF := list_eq s #[100, 101, 102, 105, 110, 105, 116, 105, 111, 110]
  have e2 : s.toList = ([114, 101, 108, 97, 116, 105, 111, 110] : List UInt8) ↔ s = REL := list_eq s #[114, 101, 108, 97, 116, 105, 111, 110]
  have e3 : s.toList = ([112, 101, 114, 109, 105, 115, 115, 105, 111, 110] : List UInt8) ↔ s = PERM := list_eq s #[112, 101, 114, 109, 105, 115, 115, 105, 111, 110]
  by_cases h1 : s = DEF
  · rw [if_pos (e1.2 h1), decide_eq_true h1, Bool.true_or]
  · rw [if_neg (fun h => h1 (e1.1 h)), decide_eq_false h1, Bool.false_or]
    by_cases h2 : s = REL
    · rw [if_pos (e2.2 h2), decide_eq_true h2, Bool.true_or]
    · rw [if_neg (fun h => h2 (e2.1 h)), decide_eq_false h2, Bool.false_or]
      congr 1
      rw [Bool.eq_iff_iff, beq_iff_eq, decide_eq_true_eq]
      exact e3
/-- A loop over the bytes from j on. -/
def allFrom (p : Int → Bool) (s : ByteArray) (j : Nat) : Bool := (List.range (s.size - j)).all fun (i : Nat) => p (bt s ((j + i : Nat) : Int))
theorem allFrom_zero (p : Int → Bool) (s : ByteArray) : allFrom p s 0 = allC p s := by simp [allFrom, allC]
theorem allFrom_done (p : Int → Bool) (s : ByteArray) (j : Nat) (h : s.size ≤ j) : allFrom p s j = true := by
  unfold allFrom
  rw [show s.size - j = 0 from by omega]
  rfl
theorem allFrom_step (p : Int → Bool) (s : ByteArray) (j : Nat) (h : j < s.size) : allFrom p s j = (p (bt s j) && allFrom p s (j + 1)) := by
  unfold allFrom
  rw [show s.size - j = (s.size - (j + 1)) + 1 from by omega, List.range_succ_eq_map, List.all_cons, List.all_map]
  congr 2
  funext i
  simp only [Function.comp]
  rw [show j + Nat.succ i = j + 1 + i from by omega]
theorem is_l0 (s : ByteArray) (hs : s.size ≤ 1099511627776) : ∀ (d j k : Nat), s.size - j = d → d < k → j ≤ s.size → vestryref08_Is.l0 k s j = some (allFrom nameC s j) := by
  intro d
  induction d with
  | zero =>
    intro j k h hk hj
    obtain ⟨k, rfl⟩ : ∃ q, k = q + 1 := ⟨k - 1, by omega⟩
    rw [vestryref08_Is.l0, if_neg (by omega), allFrom_done _ _ _ (by omega)]
  | succ d ih =>
    intro j k h hk hj
    obtain ⟨k, rfl⟩ : ∃ q, k = q + 1 := ⟨k - 1, by omega⟩
    have e : wrap64 ((j : Int) + 1) = ((j + 1 : Nat) : Int) := by rw [IntWalk.wrap64_in _ (by omega)]; omega
    rw [vestryref08_Is.l0, if_pos (by omega), if_pos (by omega), small_eq, Option.bind_some, digit_eq, Option.bind_some, e, ih (j + 1) k (by omega) (by omega) (by omega), allFrom_step nameC s j (by omega)]
    unfold nameC
    cases smallC (bt s j) <;> cases digitC (bt s j) <;> by_cases h95 : bt s j = 95 <;> simp [h95]
theorem is_eq (s : ByteArray) (k : Nat) (hk : 70 ≤ k) : vestryref08_Is.f k s = some (isP s) := by
  unfold vestryref08_Is.f
  obtain ⟨k, rfl⟩ : ∃ q, k = q + 1 := ⟨k - 1, by omega⟩
  by_cases h1 : s.size = 0
  · rw [if_pos (by omega), vestryref08_Is.j0, if_pos rfl, isP_no s (.inl h1)]
  rw [if_neg (by omega)]
  by_cases h2 : 64 < s.size
  · rw [if_pos (by omega), vestryref08_Is.j0, if_pos rfl, isP_no s (.inr h2)]
  rw [if_neg (by omega), if_pos (by omega), small_eq, Option.bind_some, reserved_eq, Option.bind_some, vestryref08_Is.j0, vestryref08_Is.j0, isP_eq s (by omega) (by omega)]
  have hl := is_l0 s (by omega) s.size 0 k (by omega) (by omega) (by omega)
  rw [allFrom_zero] at hl
  rw [show vestryref08_Is.l0 k s 0 = _ from hl]
  cases smallC (bt s 0) <;> cases resP s <;> cases allC nameC s <;> rfl
theorem find_l0 (s : ByteArray) (c : Int) (hc : 0 ≤ c ∧ c ≤ 255) (hs : s.size ≤ 1099511627776) : ∀ (d j k : Nat), s.size - j = d → d < k → j ≤ s.size → (∀ i : Nat, i < j → bt s i ≠ c) → vestryref08_Find.l0 k s c j = some (findP s c) := by
  intro d
  induction d with
  | zero =>
    intro j k h hk hj hb
    obtain ⟨k, rfl⟩ : ∃ q, k = q + 1 := ⟨k - 1, by omega⟩
    rw [vestryref08_Find.l0, if_neg (by omega), find_miss hc (fun i hi => hb i (by omega))]
  | succ d ih =>
    intro j k h hk hj hb
    obtain ⟨k, rfl⟩ : ∃ q, k = q + 1 := ⟨k - 1, by omega⟩
    have e : wrap64 ((j : Int) + 1) = ((j + 1 : Nat) : Int) := by rw [IntWalk.wrap64_in _ (by omega)]; omega
    rw [vestryref08_Find.l0, if_pos (by omega), if_pos (by omega), e]
    by_cases he : bt s j = c
    · rw [if_pos he, find_hit j (by omega) hc he hb]
    · rw [if_neg he]
      refine ih (j + 1) k (by omega) (by omega) (by omega) (fun i hi => ?_)
      by_cases hij : i = j
      · rw [hij]; exact he
      · exact hb i (by omega)
theorem find_eq (s : ByteArray) (c : Int) (k : Nat) (hc : 0 ≤ c ∧ c ≤ 255) (hs : s.size ≤ 1099511627776) (hk : s.size < k) : vestryref08_Find.f k s c = some (findP s c) :=
  find_l0 s c hc hs s.size 0 k (by omega) hk (by omega) (fun i hi => absurd hi (by omega))

def ecode : Option (Int × Int) → Int
  | none => 0
  | some (n, _) => n
def eat : Option (Int × Int) → Int
  | none => 0
  | some (_, m) => m
theorem told_self (e : Option (Int × Int)) (h : ∀ n m, e = some (n, m) → n ≠ 0) : toldP e (ecode e) (eat e) = true := by
  cases e with
  | none => rfl
  | some p => obtain ⟨n, m⟩ := p; simp [toldP, ecode, eat, h n m rfl]
theorem ext_size (s : ByteArray) (a b : Nat) : (s.extract a b).size ≤ s.size := by rw [ByteArray.size_extract]; omega
theorem parseO_code (s : ByteArray) (n m : Int) (h : (parseO s).2.2 = some (n, m)) : n ≠ 0 := by
  unfold parseO at h
  split at h
  · cases h; decide
  · split at h
    · cases h; decide
    · split at h
      · cases h; decide
      · cases h
theorem parseA_code (s : ByteArray) (n m : Int) (h : (parseA s).2.2 = some (n, m)) : n ≠ 0 := by
  unfold parseA at h
  split at h
  · cases h; decide
  · split at h
    · cases h; decide
    · cases h
end Go.Proofs.YthefibpcepgoaaaDoor.HNameR
/- The reference's Tokens is the plain one. -/
namespace Go.Proofs.YthefibpcepgoaaaDoor.HLexV
open Go.RowKit Go.Proofs.YthefibpcepgoaaaDoorW.PrintWords Go.Proofs.YthefibpcepgoaaaDoor.HNameP Go.Proofs.YthefibpcepgoaaaDoor.HPr Go.Proofs.YthefibpcepgoaaaDoor.HNameR Go.Proofs.YthefibpcepgoaaaDoor.HLexP Go.Proofs.YthefibpcepgoaaaDoor.HLexJ Go.Proofs.YthefibpcepgoaaaDoor.HLexS Go.Proofs.YthefibpcepgoaaaDoor.PLexJoins
set_option linter.unusedVariables false

def LET : ByteArray := ⟨#[97, 98, 99, 100, 101, 102, 103, 104, 105, 106, 107, 108, 109, 110, 111, 112, 113, 114, 115, 116, 117, 118, 119, 120, 121, 122, 65, 66, 67, 68, 69, 70, 71, 72, 73, 74, 75, 76, 77, 78, 79, 80, 81, 82, 83, 84, 85, 86, 87, 88, 89, 90, 48, 49, 50, 51, 52, 53, 54, 55, 56, 57, 95]⟩
theorem mem_let (c : Int) (h0 : 0 ≤ c) (h1 : c ≤ 255) : memC LET c = inW c := mem_all _ _ (by decide +kernel) c h0 h1
theorem in_eq (k : Nat) (set : ByteArray) (p : Int → Bool) (hm : ∀ c : Int, 0 ≤ c → c ≤ 255 → memC set c = p c) (hs : set.size ≤ 64) (hk : 70 ≤ k) (s : ByteArray) (i : Int) : vestryref09_in.f k set (bt s i) = some (p (bt s i)) := by
  have hr := bt_range s i
  rw [vestryref09_in.f, find_eq set (bt s i) k hr (by omega) (by omega), ← hm _ hr.1 hr.2]
  rfl
def tk37 (t : Tok) : S37 := ⟨t.1, t.2.1, t.2.2⟩
def toR : (Int × Int) ⊕ List Tok → List S37 × Int × Int
  | .inl (c, n) => ([], c, n)
  | .inr l => (l.map tk37, 0, 0)
theorem w1 (i : Nat) (h : i ≤ 65540) : wrap64 ((i : Int) + 1) = ((i + 1 : Nat) : Int) := by rw [IntWalk.wrap64_in _ (by omega)]; omega
theorem w2 (i : Nat) (h : i ≤ 65540) : wrap64 ((i : Int) + 2) = ((i + 2 : Nat) : Int) := by rw [IntWalk.wrap64_in _ (by omega)]; omega
theorem nat_ext (s : ByteArray) (i m : Nat) (h : i + m ≤ s.size) : s.extract ((i : Nat) : Int).toNat ((i + m : Nat) : Int).toNat = (rest s i).extract 0 m := by
  have h1 : (s.extract i (i + m)).size = m := by rw [ByteArray.size_extract]; omega
  refine ba_ext (by rw [HLexJ.ext_size s i m h]; exact h1) (fun k hk => ?_)
  have hk' : k < m := by have : k < (s.extract i (i + m)).size := hk; omega
  rw [ext_bt s i m k h hk']
  exact bt_ext s i (i + m) h k (by omega)
theorem l1_eq (s : ByteArray) (hs : s.size ≤ 65536) (i : Nat) (hi : i ≤ s.size) (c : Int) (out : List S37) (a b : Int) : ∀ (d j k : Nat), i + runLn inW (rest s i) = j + d → i ≤ j → 70 ≤ k →
    vestryref09_Tokens.l1 (k + d + 1) s LET i c j out a b = vestryref09_Tokens.j2 k s LET i c ((i + runLn inW (rest s i) : Nat) : Int) out a b := by
  intro d
  have hle := runLn_le inW (rest s i)
  rw [rest_size] at hle
  induction d with
  | zero =>
    intro j k he hij hk
    rw [Nat.add_zero] at he
    rw [vestryref09_Tokens.l1, he]
    by_cases hj : j < s.size
    · rw [if_pos (by omega), if_pos (by omega), in_eq k LET inW mem_let (by decide) hk]
      have hend := run_end inW s i (by omega)
      rw [he] at hend
      rw [hend]
      rw [Option.bind_some, if_neg (by simp)]
    · rw [if_neg (by omega)]
  | succ d ih =>
    intro j k he hij hk
    have hj : j < s.size := by omega
    have hw := run_bt inW s i (j - i) hi (by omega)
    rw [show i + (j - i) = j from by omega] at hw
    rw [show k + (d + 1) + 1 = (k + d + 1) + 1 from rfl, vestryref09_Tokens.l1, if_pos (by omega), if_pos (by omega), in_eq (k + d + 1) LET inW mem_let (by decide) (by omega), hw]
    rw [Option.bind_some, if_pos rfl, w1 j (by omega)]
    exact ih (j + 1) k (by omega) (by omega) hk
theorem l2_eq (s : ByteArray) (hs : s.size ≤ 65536) (i : Nat) (hi : i ≤ s.size) (out : List S37) (a b : Int) : ∀ (d j k : Nat), i + runLn notNL (rest s i) = j + d → i ≤ j →
    vestryref09_Tokens.l2 (k + d + 1) s LET j out a b = vestryref09_Tokens.l0 k s LET ((i + runLn notNL (rest s i) : Nat) : Int) out a b := by
  intro d
  have hle := runLn_le notNL (rest s i)
  rw [rest_size] at hle
  induction d with
  | zero =>
    intro j k he hij
    rw [Nat.add_zero] at he
    rw [vestryref09_Tokens.l2, he]
    by_cases hj : j < s.size
    · have hend := run_end notNL s i (by omega)
      rw [he] at hend
      have h10 : bt s (j : Nat) = 10 := by simpa [notNL] using hend
      rw [if_pos (by omega), if_pos (by omega), if_pos h10]
    · rw [if_neg (by omega)]
  | succ d ih =>
    intro j k he hij
    have hj : j < s.size := by omega
    have hw := run_bt notNL s i (j - i) hi (by omega)
    rw [show i + (j - i) = j from by omega] at hw
    have h10 : ¬ bt s (j : Nat) = 10 := by simpa [notNL] using hw
    rw [show k + (d + 1) + 1 = (k + d + 1) + 1 from rfl, vestryref09_Tokens.l2, if_pos (by omega), if_pos (by omega), if_neg h10, w1 j (by omega)]
    exact ih (j + 1) k (by omega) (by omega)
theorem mem_sp' : ∀ c : Int, 0 ≤ c → c ≤ 255 → memC (⟨#[32, 9, 10, 13]⟩ : ByteArray) c = spC c := mem_sp
theorem mem_sign' : ∀ c : Int, 0 ≤ c → c ≤ 255 → memC (⟨#[123, 125, 40, 41, 58, 59, 61, 124, 35, 43, 38, 45]⟩ : ByteArray) c = signC c := mem_sign
theorem map_snoc (out : List Tok) (t : Tok) : (out ++ [t]).map tk37 = out.map tk37 ++ [tk37 t] := by rw [List.map_append]; rfl

theorem j6_eq (s : ByteArray) (hs : s.size ≤ 65536) (i : Nat) (hi : i < s.size) (k : Nat) (hk : 70 ≤ k) (c : Bool) (hc : c = two s i 45 62) (out : List Tok) (ho : out.length ≤ i) :
    vestryref09_Tokens.j6 (k + 1) s LET i (bt s i) c (out.map tk37) 0 0 =
      if two s i 45 62 = true then vestryref09_Tokens.l0 k s LET ((i + 2 : Nat) : Int) ((out ++ [(2, ARROW, (i : Int))]).map tk37) 0 0
      else if signC (bt s i) = true then vestryref09_Tokens.l0 k s LET ((i + 1 : Nat) : Int) ((out ++ [(2, (rest s i).extract 0 1, (i : Int))]).map tk37) 0 0
      else some ([], 6, (i : Int)) := by
  rw [vestryref09_Tokens.j6, hc]
  have hlen : (out.map tk37).length < 4398046511104 := by rw [List.length_map]; omega
  by_cases h : two s i 45 62 = true
  · rw [if_pos h, if_pos h, if_pos hlen, w2 i (by omega), map_snoc]
    rfl
  · rw [if_neg h, if_neg h, in_eq k _ signC mem_sign' (by decide) hk]
    simp only [Option.bind_some]
    by_cases hg : signC (bt s i) = true
    · rw [if_pos hg, if_pos hg, w1 i (by omega), if_pos (by omega), if_pos (by omega), if_pos (by omega), if_pos hlen, map_snoc, nat_ext s i 1 (by omega)]
      rfl
    · rw [if_neg hg, if_neg hg]
theorem two_if (s : ByteArray) (i : Nat) (hi : i < s.size) (a b nx : Int) (hb : b ≠ 0) (hnx : nx = if i + 1 < s.size then bt s (i + 1 : Nat) else 0) : (if bt s i = a then (nx == b) else false) = two s i a b := by
  rw [Bool.eq_iff_iff, two_iff]
  by_cases h1 : bt s i = a
  · rw [if_pos h1, beq_iff_eq, hnx]
    by_cases h2 : i + 1 < s.size
    · rw [if_pos h2]; exact ⟨fun h => ⟨h2, h1, h⟩, fun h => h.2.2⟩
    · rw [if_neg h2]; exact ⟨fun h => absurd h.symm hb, fun h => absurd h.1 h2⟩
  · rw [if_neg h1]; exact ⟨fun h => (by cases h), fun h => absurd h.2.1 h1⟩
theorem j4_eq (s : ByteArray) (hs : s.size ≤ 65536) (i : Nat) (hi : i < s.size) (k : Nat) (hk : 70 ≤ k) (nx : Int) (hnx : nx = if i + 1 < s.size then bt s (i + 1 : Nat) else 0) (c : Bool) (hc : c = two s i 47 47) (out : List Tok) (ho : out.length ≤ i) :
    vestryref09_Tokens.j4 (k + runLn notNL (rest s i) + 2) s LET i (bt s i) nx c (out.map tk37) 0 0 =
      if two s i 47 47 = true then vestryref09_Tokens.l0 k s LET ((i + runLn notNL (rest s i) : Nat) : Int) (out.map tk37) 0 0
      else vestryref09_Tokens.j6 (k + runLn notNL (rest s i) + 1) s LET i (bt s i) (two s i 45 62) (out.map tk37) 0 0 := by
  rw [vestryref09_Tokens.j4, hc]
  by_cases h : two s i 47 47 = true
  · rw [if_pos h, if_pos h]
    exact l2_eq s hs i (by omega) _ 0 0 _ i k rfl (Nat.le_refl _)
  · rw [if_neg h, if_neg h]
    have e := two_if s i hi 45 62 nx (by decide) hnx
    by_cases h2 : bt s i = 45
    · rw [if_pos h2] at e ⊢; rw [e]
    · rw [if_neg h2] at e ⊢; rw [e]
theorem j3_eq (s : ByteArray) (hs : s.size ≤ 65536) (i : Nat) (hi : i < s.size) (k : Nat) (nx : Int) (hnx : nx = if i + 1 < s.size then bt s (i + 1 : Nat) else 0) (out : List Tok) :
    vestryref09_Tokens.j3 (k + 1) s LET i (bt s i) nx (out.map tk37) 0 0 = vestryref09_Tokens.j4 k s LET i (bt s i) nx (two s i 47 47) (out.map tk37) 0 0 := by
  rw [vestryref09_Tokens.j3]
  have e := two_if s i hi 47 47 nx (by decide) hnx
  by_cases h2 : bt s i = 47
  · rw [if_pos h2] at e ⊢; rw [e]
  · rw [if_neg h2] at e ⊢; rw [e]

theorem l0_eq (s : ByteArray) (hs : s.size ≤ 65536) : ∀ (f i k : Nat) (out : List Tok), s.size < i + f → i ≤ s.size → 10 * (s.size - i) + 100 ≤ k → out.length ≤ i →
    vestryref09_Tokens.l0 k s LET i (out.map tk37) 0 0 = some (toR (lexG s f i out)) := by
  intro f
  induction f with
  | zero => intro i k out h1 h2; omega
  | succ f ih =>
    intro i k out hf hi hk ho
    obtain ⟨k, rfl⟩ : ∃ m, k = m + 1 := ⟨k - 1, by omega⟩
    have hlen : (out.map tk37).length < 4398046511104 := by rw [List.length_map]; omega
    rw [vestryref09_Tokens.l0, lexG]
    by_cases c0 : s.size ≤ i
    · rw [if_pos c0, if_neg (by omega), if_pos hlen]
      show some (_, _, _) = some (_, _, _)
      rw [map_snoc]
      rfl
    · have hlt : i < s.size := by omega
      have hle := runLn_le inW (rest s i)
      rw [rest_size] at hle
      rw [if_neg c0, if_pos (by omega), if_pos (by omega)]
      obtain ⟨k2, hk2⟩ : ∃ m, k = m + runLn inW (rest s i) + 1 := ⟨k - runLn inW (rest s i) - 1, by omega⟩
      rw [hk2, l1_eq s hs i hi (bt s i) _ 0 0 (runLn inW (rest s i)) i k2 rfl (Nat.le_refl _) (by omega)]
      obtain ⟨k2, rfl⟩ : ∃ m, k2 = m + 1 := ⟨k2 - 1, by omega⟩
      rw [vestryref09_Tokens.j2, if_pos (by omega), if_pos (by omega), if_pos (by omega)]
      by_cases c3 : 0 < runLn inW (rest s i)
      · have hw := (runLn_pos hlt).1 c3
        have hno := word_not hw
        have htw : ¬ two s i 47 47 = true := fun h => hno.2.1 (two_at h).2.1
        rw [if_pos (show ((i + runLn inW (rest s i) : Nat) : Int) > (i : Int) by omega), if_neg hno.1, if_neg htw, if_pos c3, nat_ext s i _ (by omega), is_eq _ k2 (by omega), reserved_eq]
        obtain ⟨wd, hwd⟩ : ∃ x, x = (rest s i).extract 0 (runLn inW (rest s i)) := ⟨_, rfl⟩
        rw [← hwd]
        simp only [Option.bind_some]
        have hgo : vestryref09_Tokens.l0 k2 s LET ((i + runLn inW (rest s i) : Nat) : Int) (out.map tk37 ++ [⟨1, wd, (i : Int)⟩]) 0 0 = some (toR (lexG s f (i + runLn inW (rest s i)) (out ++ [(1, wd, (i : Int))]))) := by
          have := ih (i + runLn inW (rest s i)) k2 (out ++ [(1, wd, (i : Int))]) (by omega) (by omega) (by omega) (by rw [List.length_append, List.length_singleton]; omega)
          rw [map_snoc] at this
          exact this
        cases hp : isP wd with
        | true => rw [if_pos rfl, if_pos hlen, hgo]; rfl
        | false =>
          rw [if_neg (by simp)]
          cases hr : resP wd with
          | true => rw [if_pos rfl, if_pos hlen, hgo]; rfl
          | false => rw [if_neg (by simp)]; rfl
      · have h0 : runLn inW (rest s i) = 0 := by omega
        rw [if_neg (show ¬ ((i + runLn inW (rest s i) : Nat) : Int) > (i : Int) by omega), in_eq k2 _ spC mem_sp' (by decide) (by omega)]
        simp only [Option.bind_some]
        by_cases c1 : spC (bt s i) = true
        · rw [if_pos c1, if_pos c1, w1 i (by omega)]
          exact ih (i + 1) k2 out (by omega) (by omega) (by omega) (by omega)
        · rw [if_neg c1, if_neg c1, if_neg c3, w1 i (by omega)]
          have hle2 := runLn_le notNL (rest s i)
          rw [rest_size] at hle2
          obtain ⟨k3, hk3⟩ : ∃ m, k2 = (m + runLn notNL (rest s i) + 2) + 1 := ⟨k2 - runLn notNL (rest s i) - 3, by omega⟩
          have main : ∀ nx : Int, nx = (if i + 1 < s.size then bt s (i + 1 : Nat) else 0) → vestryref09_Tokens.j3 k2 s LET i (bt s i) nx (out.map tk37) 0 0 = some (toR (if two s i 47 47 = true then lexG s f (i + runLn notNL (rest s i)) out else if two s i 45 62 = true then lexG s f (i + 2) (out ++ [(2, ARROW, (i : Int))]) else if signC (bt s i) = true then lexG s f (i + 1) (out ++ [(2, (rest s i).extract 0 1, (i : Int))]) else .inl (6, (i : Int)))) := by
            intro nx hnx
            rw [hk3, j3_eq s hs i hlt _ nx hnx out, j4_eq s hs i hlt k3 (by omega) nx hnx _ rfl out ho]
            by_cases c2 : two s i 47 47 = true
            · have hp : 0 < runLn notNL (rest s i) := (runLn_pos hlt).2 (by rw [(two_at c2).2.1]; rfl)
              rw [if_pos c2, if_pos c2]
              exact ih _ k3 out (by omega) (by omega) (by omega) (by omega)
            · rw [if_neg c2, if_neg c2, j6_eq s hs i hlt (k3 + runLn notNL (rest s i)) (by omega) _ rfl out ho]
              by_cases c5 : two s i 45 62 = true
              · have := (two_at c5).1
                rw [if_pos c5, if_pos c5]
                exact ih _ _ _ (by omega) (by omega) (by omega) (by rw [List.length_append, List.length_singleton]; omega)
              · rw [if_neg c5, if_neg c5]
                by_cases c6 : signC (bt s i) = true
                · rw [if_pos c6, if_pos c6]
                  exact ih _ _ _ (by omega) (by omega) (by omega) (by rw [List.length_append, List.length_singleton]; omega)
                · rw [if_neg c6, if_neg c6]; rfl
          by_cases hn : i + 1 < s.size
          · rw [if_pos (by omega), if_pos (by omega)]
            exact main _ (by rw [if_pos hn])
          · rw [if_neg (by omega)]
            exact main 0 (by rw [if_neg hn])
theorem ref_eq (s : ByteArray) (hs : s.size ≤ 65536) : vestryref09_Tokens.f (10 * s.size + 100) s = some (toR (lexP s)) := by
  rw [vestryref09_Tokens.f, if_neg (by omega), lexP, if_neg (by omega)]
  exact l0_eq s hs (s.size + 1) 0 _ [] (by omega) (by omega) (by omega) (by decide)
theorem reftokens_any (s : ByteArray) (hs : s.size ≤ 65536) (w : World) : Calls Tryd.prog 10 #[.string s] w fun e w' => ∃ v, e = .returned (.agg #[v, .int .i64 (toR (lexP s)).2.1, .int .i64 (toR (lexP s)).2.2]) ∧ Kd.R k37 37 w' w.heap.size (fun _ => True) v (toR (lexP s)).1 ∧ Below w.heap.size w w' :=
  vestryref09_Tokens.calls _ s _ _ _ w (ref_eq s hs)
end Go.Proofs.YthefibpcepgoaaaDoor.HLexV
/- The reference's Same and Join are plain. -/
namespace Go.Proofs.YthefibpcepgoaaaDoor.HLexK
open Go.RowKit Go.Proofs.YthefibpcepgoaaaDoorW.PrintWords Go.Proofs.YthefibpcepgoaaaDoor.HNameP Go.Proofs.YthefibpcepgoaaaDoor.HPr Go.Proofs.YthefibpcepgoaaaDoor.HLexP Go.Proofs.YthefibpcepgoaaaDoor.HLexJ Go.Proofs.YthefibpcepgoaaaDoor.HLexM Go.Proofs.YthefibpcepgoaaaDoor.HLexV Go.Proofs.YthefibpcepgoaaaDoor.PLexJoins
set_option linter.unusedVariables false

def kr (t : S37) : Int × ByteArray := (t.f0, t.f1)
theorem rd_at (xs : List S37) (j : Nat) (h : j < xs.length) : rd_T37 xs j = xs[j] := by
  unfold rd_T37
  rw [Int.toNat_natCast, List.getD_eq_getElem?_getD, List.getElem?_eq_getElem h]
  rfl
theorem wj (j : Nat) (h : j ≤ 1000000) : wrap64 ((j : Int) + 1) = ((j + 1 : Nat) : Int) := by rw [IntWalk.wrap64_in _ (by omega)]; omega
theorem same_l0 (xs ys : List S37) (hl : xs.length ≤ 1000000) (hn : xs.length = ys.length) : ∀ (d j k : Nat), xs.length - j = d → d < k → j ≤ xs.length → (xs.take j).map kr = (ys.take j).map kr →
    vestryref09_Same.l0 k xs ys j = some (decide (xs.map kr = ys.map kr)) := by
  intro d
  induction d with
  | zero =>
    intro j k hd hk hj ht
    obtain ⟨k, rfl⟩ : ∃ m, k = m + 1 := ⟨k - 1, by omega⟩
    rw [vestryref09_Same.l0, if_neg (by omega)]
    rw [List.take_of_length_le (by omega), List.take_of_length_le (by omega)] at ht
    rw [decide_eq_true ht]
  | succ d ih =>
    intro j k hd hk hj ht
    obtain ⟨k, rfl⟩ : ∃ m, k = m + 1 := ⟨k - 1, by omega⟩
    have h1 : j < xs.length := by omega
    have h2 : j < ys.length := by omega
    rw [vestryref09_Same.l0, if_pos (by omega), if_pos (by omega), if_pos (by omega), rd_at xs j h1, rd_at ys j h2, wj j (by omega)]
    have hne : kr xs[j] ≠ kr ys[j] → decide (xs.map kr = ys.map kr) = false := fun hk' => decide_eq_false (fun h => hk' (by
      have := congrArg (fun l => l[j]?) h
      simpa only [List.getElem?_map, List.getElem?_eq_getElem h1, List.getElem?_eq_getElem h2, Option.map_some, Option.some.injEq] using this))
    by_cases a1 : xs[j].f0 = ys[j].f0
    · rw [if_pos a1]
      by_cases a2 : xs[j].f1.toList = ys[j].f1.toList
      · rw [if_pos a2]
        refine ih (j + 1) k (by omega) (by omega) (by omega) ?_
        rw [List.take_succ_eq_append_getElem h1, List.take_succ_eq_append_getElem h2, List.map_append, List.map_append, ht]
        have e2 : xs[j].f1 = ys[j].f1 := by
          rw [ByteArray.toList_eq, ByteArray.toList_eq] at a2
          exact ByteArray.ext (Array.toList_inj.mp a2)
        simp only [List.map_cons, List.map_nil, kr, a1, e2]
      · rw [if_neg a2, hne (fun h => a2 (by rw [show xs[j].f1 = ys[j].f1 from congrArg Prod.snd h]))]
    · rw [if_neg a1, hne (fun h => a1 (congrArg Prod.fst h))]
theorem same_eq (xs ys : List S37) (hl : xs.length ≤ 1000000) : vestryref09_Same.f (xs.length + 2) xs ys = some (decide (xs.map kr = ys.map kr)) := by
  rw [vestryref09_Same.f]
  by_cases hn : xs.length = ys.length
  · rw [if_pos (by omega)]
    exact same_l0 xs ys hl hn xs.length 0 _ (by omega) (by omega) (by omega) (by simp)
  · rw [if_neg (by omega), decide_eq_false (fun h => hn (by have := congrArg List.length h; simpa using this))]
/-- Texts of tokens joined, as the reference does. -/
def jq : List (Int × ByteArray) → ByteArray → Bool → ByteArray
  | [], x, _ => x
  | t :: ts, x, first => if t.1 = 3 then jq ts x first else if first = true then jq ts (x ++ t.2) false else jq ts ((x ++ (⟨#[32]⟩ : ByteArray)) ++ t.2) false
def tot (l : List (Int × ByteArray)) : Nat := (l.map fun t => t.2.size + 1).sum
theorem join_l0 (xs : List S37) (hl : xs.length ≤ 1000000) : ∀ (d j k : Nat) (x : ByteArray) (first : Bool), xs.length - j = d → d < k → j ≤ xs.length → x.size + tot ((xs.drop j).map kr) ≤ 9223372036854775807 →
    vestryref09_Join.l0 k xs x first j = some (jq ((xs.drop j).map kr) x first) := by
  intro d
  induction d with
  | zero =>
    intro j k x first hd hk hj ht
    obtain ⟨k, rfl⟩ : ∃ m, k = m + 1 := ⟨k - 1, by omega⟩
    rw [vestryref09_Join.l0, if_neg (by omega), List.drop_of_length_le (by omega)]
    rfl
  | succ d ih =>
    intro j k x first hd hk hj ht
    obtain ⟨k, rfl⟩ : ∃ m, k = m + 1 := ⟨k - 1, by omega⟩
    have h1 : j < xs.length := by omega
    have hdrop : xs.drop j = xs[j] :: xs.drop (j + 1) := List.drop_eq_getElem_cons h1
    rw [hdrop, List.map_cons] at ht ⊢
    have htt : tot (kr xs[j] :: (xs.drop (j + 1)).map kr) = xs[j].f1.size + 1 + tot ((xs.drop (j + 1)).map kr) := by simp [tot, kr]
    rw [htt] at ht
    rw [vestryref09_Join.l0, if_pos (by omega), if_pos (by omega), rd_at xs j h1, wj j (by omega), jq]
    by_cases a1 : xs[j].f0 = 3
    · rw [if_pos a1, if_pos (show (kr xs[j]).1 = 3 from a1)]
      exact ih (j + 1) k x first (by omega) (by omega) (by omega) (by omega)
    · rw [if_neg a1, if_neg (show ¬ (kr xs[j]).1 = 3 from a1)]
      by_cases a2 : first = true
      · rw [if_pos a2, if_pos a2, if_pos (by omega)]
        exact ih (j + 1) k _ false (by omega) (by omega) (by omega) (by rw [ByteArray.size_append]; omega)
      · have hs1 : (x ++ (⟨#[32]⟩ : ByteArray)).size = x.size + 1 := by rw [ByteArray.size_append]; rfl
        rw [if_neg a2, if_neg a2, if_pos (by omega), if_pos (by rw [hs1]; omega)]
        exact ih (j + 1) k _ false (by omega) (by omega) (by omega) (by rw [ByteArray.size_append, hs1]; show x.size + 1 + xs[j].f1.size + _ ≤ _; omega)
theorem join_eq (xs : List S37) (hl : xs.length ≤ 1000000) (ht : tot (xs.map kr) ≤ 1000000000) : vestryref09_Join.f (xs.length + 2) xs = some (jq (xs.map kr) ⟨#[]⟩ true) := by
  rw [vestryref09_Join.f]
  have := join_l0 xs hl xs.length 0 (xs.length + 2) ⟨#[]⟩ true (by omega) (by omega) (by omega) (by rw [List.drop_zero]; show 0 + _ ≤ _; omega)
  rw [List.drop_zero] at this
  exact this
theorem refsame_any (w : World) (A : Option Addr) (c : Nat) (xs : List S37) (hA : Kd.C k37 w A xs.length xs) (hc : xs.length ≤ c) (B : Option Addr) (d : Nat) (ys : List S37) (hB : Kd.C k37 w B ys.length ys) (hd : ys.length ≤ d) (hl : xs.length ≤ 1000000) :
    Calls Tryd.prog 12 #[.slice A xs.length c, .slice B ys.length d] w fun e w' => e = .returned (.bool (decide (xs.map kr = ys.map kr))) ∧ Drawn0 w w' :=
  vestryref09_Same.calls _ A c xs B d ys _ w hA hc hB hd (same_eq xs ys hl)
theorem refjoin_any (w : World) (A : Option Addr) (c : Nat) (xs : List S37) (hA : Kd.C k37 w A xs.length xs) (hc : xs.length ≤ c) (hl : xs.length ≤ 1000000) (ht : tot (xs.map kr) ≤ 1000000000) :
    Calls Tryd.prog 15 #[.slice A xs.length c] w fun e w' => e = .returned (.string (jq (xs.map kr) ⟨#[]⟩ true)) ∧ Drawn0 w w' :=
  vestryref09_Join.calls _ A c xs _ w hA hc (join_eq xs hl ht)
end Go.Proofs.YthefibpcepgoaaaDoor.HLexK
/- lex.Join. -/
namespace Go.Proofs.YthefibpcepgoaaaDoor.HLexQ
open Go.RowKit Go.Proofs.YthefibpcepgoaaaDoorW.PrintWords Go.Proofs.YthefibpcepgoaaaDoor.HLib Go.Proofs.YthefibpcepgoaaaDoor.HNameP Go.Proofs.YthefibpcepgoaaaDoor.HLexP Go.Proofs.YthefibpcepgoaaaDoor.HLexJ Go.Proofs.YthefibpcepgoaaaDoor.HLexM Go.Proofs.YthefibpcepgoaaaDoor.HLexK Go.Proofs.YthefibpcepgoaaaDoor.PLexJoins
set_option linter.unusedVariables false
set_option linter.unusedSimpArgs false

def texts (l : List (Int × ByteArray)) : List ByteArray := (l.filter fun t => !(t.1 == 3)).map (·.2)
theorem texts_cons (t : Int × ByteArray) (l : List (Int × ByteArray)) : texts (t :: l) = if t.1 = 3 then texts l else t.2 :: texts l := by
  unfold texts
  rw [List.filter_cons]
  by_cases h : t.1 = 3
  · rw [if_pos h, if_neg (by simp [h])]
  · rw [if_neg h, if_pos (by simp [h])]; rfl
theorem texts_append (a b : List (Int × ByteArray)) : texts (a ++ b) = texts a ++ texts b := by simp [texts]
theorem jq_list : ∀ (l : List (Int × ByteArray)) (x : ByteArray), (jq l x true).data.toList = x.data.toList ++ Lib.join ((texts l).map (·.data.toList)) [32] ∧ (jq l x false).data.toList = x.data.toList ++ Lib.joinTail [32] ((texts l).map (·.data.toList)) := by
  intro l
  induction l with
  | nil => intro x; simp [jq, texts, Lib.join_nil, Lib.joinTail]
  | cons t l ih =>
    intro x
    rw [jq, jq, texts_cons]
    by_cases h : t.1 = 3
    · rw [if_pos h, if_pos h, if_pos h]; exact ih x
    · rw [if_neg h, if_neg h, if_neg h, if_pos rfl, if_neg (by simp)]
      have ht : Lib.joinTail [32] ((t.2 :: texts l).map (·.data.toList)) = 32 :: t.2.data.toList ++ Lib.joinTail [32] ((texts l).map (·.data.toList)) := by simp [Lib.joinTail]
      have hj : Lib.join ((t.2 :: texts l).map (·.data.toList)) [32] = t.2.data.toList ++ Lib.joinTail [32] ((texts l).map (·.data.toList)) := by rw [List.map_cons, Lib.join_cons]
      rw [ht, hj, (ih _).2, (ih _).2]
      refine ⟨?_, ?_⟩
      · rw [ByteArray.data_append, Array.toList_append, List.append_assoc]
      · rw [ByteArray.data_append, ByteArray.data_append, Array.toList_append, Array.toList_append, List.append_assoc, List.append_assoc]; rfl
theorem jq_lib (l : List (Int × ByteArray)) : (⟨(Lib.join ((texts l).map (·.data.toList)) [32]).toArray⟩ : ByteArray) = jq l ⟨#[]⟩ true := by
  have h := (jq_list l ⟨#[]⟩).1
  apply ByteArray.ext
  apply Array.toList_inj.1
  rw [h]
  simp
theorem jq_size : ∀ (l : List (Int × ByteArray)) (x : ByteArray) (b : Bool), (jq l x b).size ≤ x.size + tot l := by
  intro l
  induction l with
  | nil => intro x b; rw [jq]; omega
  | cons t l ih =>
    intro x b
    have ht : tot (t :: l) = t.2.size + 1 + tot l := by simp [tot]
    have h32 : (x ++ (⟨#[32]⟩ : ByteArray)).size = x.size + 1 := by rw [ByteArray.size_append]; rfl
    rw [jq, ht]
    split
    · have := ih x b; omega
    · split
      · have := ih (x ++ t.2) false; rw [ByteArray.size_append] at this; omega
      · have := ih ((x ++ (⟨#[32]⟩ : ByteArray)) ++ t.2) false; rw [ByteArray.size_append, h32] at this; omega
theorem texts_take (xs : List S36) (j : Nat) (h : j < xs.length) : texts ((xs.take (j + 1)).map kk) = if (rd_T36 xs j).f0 = 3 then texts ((xs.take j).map kk) else texts ((xs.take j).map kk) ++ [(rd_T36 xs j).f1] := by
  have hr : rd_T36 xs j = xs[j] := by
    unfold rd_T36
    rw [Int.toNat_natCast, List.getD_eq_getElem?_getD, List.getElem?_eq_getElem h]
    rfl
  rw [List.take_succ_eq_append_getElem h, List.map_append, texts_append, hr, List.map_cons, List.map_nil, texts_cons]
  show _ ++ (if xs[j].f0 = 3 then texts [] else xs[j].f1 :: texts []) = _
  by_cases c : xs[j].f0 = 3
  · rw [if_pos c, if_pos c]; simp [texts]
  · rw [if_neg c, if_neg c]; rfl
theorem info_st : (Tryd.prog.info? 9).map (fun i => (i.zero, i.size, i.bytes)) = some (some (.string ⟨#[]⟩), 1, 16) := by kernel_rfl
set_option maxRecDepth 100000 in
set_option maxHeartbeats 8000000 in
theorem join_any (w : World) (A : Option Addr) (c : Nat) (xs : List S36) (hA : Kd.C k36 w A xs.length xs) (hc : xs.length ≤ c) (hl : xs.length ≤ 1000000) (ht : tot (xs.map kk) ≤ 1000000000) :
    Calls Tryd.prog 14 #[.slice A xs.length c] w fun e w' => e = .returned (.string (jq (xs.map kk) ⟨#[]⟩ true)) ∧ Below w.heap.size w w' := by
  have HA := Aside0.mk hA
  have HL := Aside0.mk hl
  have HT := Aside0.mk ht
  clear hA hl ht
  go_enter Tryd.func14, Tryd.ntmps14
  go_wp2
  go_loopg [3, 8] xs.length (fun kq v3 v8 w' => ∃ (j : Nat), v8 = .int .i64 j ∧ Aside0 (kq + j = xs.length) ∧ Aside0 (Kd.R Kd.string 9 w' w.heap.size (fun _ => True) v3 (texts ((xs.take j).map kk))) ∧ Aside0 (Below w.heap.size w w'))
  case atStart => exact ⟨0, rfl, ⟨by omega⟩, ⟨Kd.R_nil _ _ _ _ _⟩, ⟨B0 w⟩⟩
  case round =>
    obtain ⟨j, rfl, HJ, HR, HW⟩ := hrel
    by_cases cj : j < xs.length
    · have d1 : decide (j < xs.length) = true := decide_eq_true cj
      have d2 : decide ((j : Int) < (xs.length : Int)) = true := decide_eq_true (by omega)
      have d3 : (j : Int) < (xs.length : Int) := by omega
      have d6 : (j : Int) ≤ 1000000 := by have := HL.out; omega
      obtain ⟨ad, hAd, a1, a2, a3⟩ := at_T36 (Kd.C_below HA.out HW.out) j (by omega) (by omega)
      subst hAd
      have HTT := Aside0.mk (texts_take xs j cj)
      obtain ⟨x, hx⟩ : ∃ x, x = rd_T36 xs j := ⟨_, rfl⟩
      rw [← hx] at HTT
      rw [← hx, Int.toNat_natCast] at a1 a2 a3
      clear hx
      obtain ⟨W1, hW1⟩ : ∃ W, W = wr.alloc (.cells #[.int .i64 x.f0, .string x.f1, .int .i64 x.f2] 36) := ⟨_, rfl⟩
      have HB1 := Aside0.mk (show Below w.heap.size w W1 from by rw [hW1]; exact below_alloc HW.out _)
      have HR1 := Aside0.mk (show Kd.R Kd.string 9 W1 w.heap.size (fun _ => True) u3 (texts ((xs.take j).map kk)) from by rw [hW1]; exact Kd.R_alloc HR.out _)
      by_cases c3 : x.f0 = 3
      · have e3 : (x.f0 == 3) = true := by simpa using c3
        have e4 : (x.f0 != 3) = false := by simpa using c3
        rw [if_pos c3] at HTT
        clear c3
        go_wp2
        go_roundg (xs.length - (j + 1))
        case measure => have := HJ.out; omega
        case rel => exact ⟨j + 1, rfl, ⟨by have := HJ.out; omega⟩, ⟨by rw [HTT.out, ← hW1]; exact HR1.out⟩, ⟨by rw [← hW1]; exact HB1.out⟩⟩
      · have e3 : (x.f0 == 3) = false := by simpa using c3
        have e4 : (x.f0 != 3) = true := by simpa using c3
        rw [if_neg c3] at HTT
        clear c3
        have HTL := Aside0.mk (show (texts ((xs.take j).map kk)).length ≤ 1000000 from by
          unfold texts
          rw [List.length_map]
          have h1 := List.length_filter_le (fun t : Int × ByteArray => !(t.1 == 3)) ((xs.take j).map kk)
          rw [List.length_map, List.length_take] at h1
          have := HL.out
          omega)
        obtain ⟨ws, hws⟩ : ∃ ws, ws = texts ((xs.take j).map kk) := ⟨_, rfl⟩
        rw [← hws] at HTT HTL HR1
        clear hws HR
        go_upto_region 6 with fail
        rw [← hW1]
        have F1 := blk_new wr (.cells #[.int .i64 x.f0, .string x.f1, .int .i64 x.f2] 36)
        rw [← hW1] at F1
        have k1 := (blk_cell F1 1).trans (show _ = some _ from rfl)
        clear hW1 a1 a2 a3
        go_wp2_with (at_builtin; refine Kd.R_append Kd.string (w0 := w) w.heap.size rfl (.tmp 15) (.tmp 18) 58 9 (.string ⟨#[]⟩) 16 rfl Tryd.underlying58 info_st rfl (by decide) (by omega) u3 ws x.f1 [.string x.f1] (fun _ => True) (fun _ => False) rfl rfl ?aP (fun _ hk => hk.elim) (fun _ _ => trivial) HR1.out HB1.out HB1.out.size ?aL ?_; (case aP => exact rfl); (case aL => (have := HTL.out; omega)); intro v1 w1 ho hb hg hat; have HO1 := Aside0.mk ho; have HB2 := Aside0.mk hb; clear ho hb hg hat)
        go_roundg (xs.length - (j + 1))
        case measure => have := HJ.out; omega
        case rel => exact ⟨j + 1, rfl, ⟨by have := HJ.out; omega⟩, ⟨by rw [HTT.out]; exact HO1.out⟩, ⟨HB2.out⟩⟩
    · have d1 : decide (j < xs.length) = false := decide_eq_false cj
      have d2 : decide ((j : Int) < (xs.length : Int)) = false := decide_eq_false (by omega)
      have hall : xs.take j = xs := List.take_of_length_le (by have := HJ.out; omega)
      rw [hall] at HR
      have HRR := Aside0.mk HR.out
      clear HR hall
      have HQ := Aside0.mk (jq_lib (xs.map kk))
      have HQS := Aside0.mk (show (jq (xs.map kk) ⟨#[]⟩ true).size ≤ 1000000000 from by have := jq_size (xs.map kk) ⟨#[]⟩ true; have := HT.out; show (jq (xs.map kk) ⟨#[]⟩ true).size ≤ _; have h0 : (⟨#[]⟩ : ByteArray).size = 0 := rfl; omega)
      have HTL := Aside0.mk (show (texts (xs.map kk)).length ≤ 1000000 from by
        unfold texts
        rw [List.length_map]
        have h1 := List.length_filter_le (fun t : Int × ByteArray => !(t.1 == 3)) (xs.map kk)
        rw [List.length_map] at h1
        have := HL.out
        omega)
      obtain ⟨Q, hQ⟩ : ∃ Q, Q = jq (xs.map kk) ⟨#[]⟩ true := ⟨_, rfl⟩
      have HQE := Aside0.mk hQ
      rw [← hQ] at HQ HQS
      clear hQ
      obtain ⟨ws, hws⟩ : ∃ ws, ws = texts (xs.map kk) := ⟨_, rfl⟩
      rw [← hws] at HQ HRR HTL
      clear hws
      cases ws with
      | nil =>
        obtain ⟨A3, c3, hv, _, _⟩ := Kd.R_reads HRR.out
        subst hv
        rw [show ([] : List ByteArray).length = 0 from rfl]
        go_wp2_with fail
        refine (Tryd.strings_Join_none A3 c3 ⟨#[32]⟩ wr).mono ?_
        rintro e w1 ⟨rfl, rfl⟩
        go_wp2
        go_ret
        exact ⟨by rw [← HQE.out, ← HQ.out]; rfl, HW.out⟩
      | cons y ys =>
        obtain ⟨g, cp, hv, hg, hlt, _⟩ := Kd.R_form HRR.out (by simp)
        subst hv
        have hrd := Kd.R_reads' HRR.out
        have hjl : (Lib.join ((y :: ys).map (·.data.toList)) [32]).length ≤ 1000000000 := by
          have h1 := HQ.out
          have h2 := HQS.out
          rw [← h1] at h2
          simpa [ByteArray.size] using h2
        have HJN := Aside0.mk (Tryd.strings_Join g 0 cp (y :: ys) ⟨#[32]⟩ wr (fun q z hz => by
          obtain ⟨ad, cc, e1, _, hK, hc0⟩ := Kd.C_get hrd.2.2 ByteArray.empty q (by omega) (by have := (List.getElem?_eq_some_iff.1 hz).1; omega)
          injection e1 with e1
          subst e1
          have hzz : ((y :: ys).getD (q : Int).toNat ByteArray.empty) = z := by rw [Int.toNat_natCast, List.getD_eq_getElem?_getD, hz]; rfl
          rw [hzz] at hK
          have hk2 : cc = [.string z] := hK
          subst hk2
          have h3 := hc0 0 (.string z) rfl
          rw [Int.toNat_natCast, show (Kd.string).sz = 1 from rfl, Nat.mul_one, Nat.add_zero, Go.Proofs.YthefibpcepgoaaaDoorW.PrintWords.add_plain] at h3
          rw [Nat.zero_add]
          exact h3) hlt (by have := HTL.out; omega) hrd.2.1 (by rw [show (⟨#[32]⟩ : ByteArray).data.toList = [32] from rfl]; omega))
        obtain ⟨n, hn⟩ : ∃ n, n = (y :: ys).length := ⟨_, rfl⟩
        rw [← hn] at HJN
        rw [← hn]
        clear hn hrd hjl hg hlt
        go_wp2_with fail
        refine HJN.out.mono ?_
        rintro e w1 ⟨rfl, hb⟩
        rw [HQ.out]
        have HB1 := Aside0.mk (below_step HW.out hb)
        clear hb HJN
        go_wp2
        go_ret
        exact ⟨by rw [← HQE.out]; rfl, HB1.out⟩
end Go.Proofs.YthefibpcepgoaaaDoor.HLexQ
/- awake of the laws of tokens: it returns true. -/
namespace Go.Proofs.YthefibpcepgoaaaDoor.HLexW
open Go.RowKit Go.Proofs.YthefibpcepgoaaaDoorW.PrintWords Go.Proofs.YthefibpcepgoaaaDoor.HLib Go.Proofs.YthefibpcepgoaaaDoor.HErr Go.Proofs.YthefibpcepgoaaaDoor.HLexP Go.Proofs.YthefibpcepgoaaaDoor.HLexS Go.Proofs.YthefibpcepgoaaaDoor.HLexT Go.Proofs.YthefibpcepgoaaaDoor.HLexE Go.Proofs.YthefibpcepgoaaaDoor.HLexN Go.Proofs.YthefibpcepgoaaaDoor.HLexM Go.Proofs.YthefibpcepgoaaaDoor.HLexK Go.Proofs.YthefibpcepgoaaaDoor.HLexQ Go.Proofs.YthefibpcepgoaaaDoor.HName Go.Proofs.YthefibpcepgoaaaDoor.PLexJoins
set_option linter.unusedVariables false
set_option linter.unusedSimpArgs false

def T4 : List Tok := [(1, ⟨#[97]⟩, 0), (2, ⟨#[45, 62]⟩, 1), (1, ⟨#[98]⟩, 3), (3, ⟨#[]⟩, 9)]
theorem lex_a : lexP ⟨#[97, 45, 62, 98, 32, 47, 47, 32, 99]⟩ = .inr T4 := by decide +kernel
theorem lex_b : lexP ⟨#[97, 32, 65]⟩ = .inl (5, 2) := by decide +kernel
theorem line_a : lineP ⟨#[97, 10, 98, 99]⟩ 3 = (2, 2) := by decide +kernel
theorem join_a : jq ((T4.map tk36).map kk) ⟨#[]⟩ true = ⟨#[97, 32, 45, 62, 32, 98]⟩ := by decide +kernel
theorem tok_a {w : World} (hs : True) (B : Nat) : True := trivial
def GV (w : World) : Prop := ResG w ∧ ErrG w
theorem GV.below {w w1 : World} (h : GV w) (hb : Below w.heap.size w w1) : GV w1 := ⟨h.1.below hb h.1.1, h.2.below hb h.2.1⟩
theorem tokens_A (w : World) (hG : ResG w) : Calls Tryd.prog 9 #[.string ⟨#[97, 45, 62, 98, 32, 47, 47, 32, 99]⟩] w fun e w' => ∃ v, e = .returned (.tuple #[v, .nilIface]) ∧ Kd.R k36 36 w' w.heap.size (fun _ => True) v (T4.map tk36) ∧ Below w.heap.size w w' :=
  (tokens_any _ (by decide) w hG).mono fun e w' ⟨h, hb⟩ => by
    rw [lex_a] at h
    obtain ⟨v, h1, h2⟩ := h
    exact ⟨v, h1, h2, hb⟩
theorem tokens_B (w : World) (hG : ResG w) : Calls Tryd.prog 9 #[.string ⟨#[97, 32, 65]⟩] w fun e w' => e = .returned (.tuple #[.slice none 0 0, fltV 5 2]) ∧ Below w.heap.size w w' :=
  (tokens_any _ (by decide) w hG).mono fun e w' ⟨h, hb⟩ => by
    rw [lex_b] at h
    exact ⟨h, hb⟩
theorem cells_T4 {w : World} {g c : Nat} (h : Kd.C k36 w (some ⟨g, 0, none⟩) 4 (T4.map tk36)) : w.cell? ⟨g, 3, none⟩ = some (.int .i64 2) ∧ w.cell? ⟨g, 4, none⟩ = some (.string ⟨#[45, 62]⟩) ∧ w.cell? ⟨g, 8, none⟩ = some (.int .i64 3) ∧ w.cell? ⟨g, 9, none⟩ = some (.int .i64 3) ∧ w.cell? ⟨g, 11, none⟩ = some (.int .i64 9) := by
  obtain ⟨a1, e1, x1, x2, _⟩ := at_T36 h 1 (by decide) (by decide)
  obtain ⟨a2, e2, _, _, y3⟩ := at_T36 h 2 (by decide) (by decide)
  obtain ⟨a3, e3, z1, _, z3⟩ := at_T36 h 3 (by decide) (by decide)
  injection e1 with e1
  injection e2 with e2
  injection e3 with e3
  subst e1
  rw [← e2] at y3
  rw [← e3] at z1 z3
  exact ⟨x1, x2, y3, z1, z3⟩
theorem join_A (w : World) (A : Option Addr) (c : Nat) (h : Kd.C k36 w A 4 (T4.map tk36)) (hc : 4 ≤ c) : Calls Tryd.prog 14 #[.slice A 4 c] w fun e w' => e = .returned (.string ⟨#[97, 32, 45, 62, 32, 98]⟩) ∧ Below w.heap.size w w' := by
  have := join_any w A c (T4.map tk36) h hc (by decide) (by decide +kernel)
  rw [join_a] at this
  exact this
theorem same_A (w : World) (A : Option Addr) (c : Nat) (h : Kd.C k36 w A 4 (T4.map tk36)) (hc : 4 ≤ c) : Calls Tryd.prog 16 #[.slice A 4 c, .slice A 4 c] w fun e w' => e = .returned (.bool true) ∧ Below w.heap.size w w' := by
  have := same_any w A c (T4.map tk36) h hc A c (T4.map tk36) h hc (by decide)
  rw [decide_eq_true rfl] at this
  exact this
set_option maxRecDepth 100000 in
set_option maxHeartbeats 8000000 in
theorem awake_any (w : World) (hG : GV w) : Calls Tryd.prog 8 #[] w fun e w' => e = .returned (.bool true) ∧ Below w.heap.size w w' := by
  have HG := Aside0.mk hG
  clear hG
  go_enter Tryd.func8, Tryd.ntmps8
  go_wp2_with fail
  refine (tokens_A w HG.out.1).mono ?_
  rintro e w1 ⟨v, rfl, hR, hb1⟩
  have HB1 := Aside0.mk hb1
  obtain ⟨g, cp, hv, hg, hlt, _⟩ := Kd.R_form hR (by decide)
  have hv2 : v = .slice (some ⟨g, 0, none⟩) 4 cp := hv
  subst hv2
  have hRR := Kd.R_reads' hR
  have HC1 := Aside0.mk (show Kd.C k36 w1 (some ⟨g, 0, none⟩) 4 (T4.map tk36) from hRR.2.2)
  have HCP := Aside0.mk (show 4 ≤ cp from hRR.2.1)
  clear hv hR hb1 hRR hg hlt
  go_wp2_with fail
  refine (tokens_B w1 (HG.out.below HB1.out).1).mono ?_
  rintro e w2 ⟨rfl, hb2⟩
  have HB2 := Aside0.mk (below_step HB1.out hb2)
  have HC2 := Aside0.mk (Kd.C_below HC1.out hb2)
  clear hb2
  go_wp2_with fail
  refine (line_any ⟨#[97, 10, 98, 99]⟩ 3 (by decide) w2).mono ?_
  rw [line_a]
  rintro e w3 ⟨rfl, hb3⟩
  have HB3 := Aside0.mk (below_step HB2.out hb3)
  have HC3 := Aside0.mk (Kd.C_below HC2.out hb3)
  clear hb3
  obtain ⟨k1, k2, k3, k4, k5⟩ := cells_T4 (c := cp) HC3.out
  go_wp2_with fail
  clear k1 k2 k3 k4 k5
  refine (told_F 5 2 (by decide) w3 (HG.out.below HB3.out).2).mono ?_
  rintro e w4 ⟨rfl, hb4⟩
  have HB4 := Aside0.mk (below_step HB3.out hb4)
  have HC4 := Aside0.mk (Kd.C_below HC3.out hb4)
  clear hb4
  go_wp2_with fail
  refine (join_A w4 _ cp HC4.out HCP.out).mono ?_
  rintro e w5 ⟨rfl, hb5⟩
  have HB5 := Aside0.mk (below_step HB4.out hb5)
  have HC5 := Aside0.mk (Kd.C_below HC4.out hb5)
  clear hb5
  go_wp2_with fail
  refine (same_A w5 _ cp HC5.out HCP.out).mono ?_
  rintro e w6 ⟨rfl, hb6⟩
  have HB6 := Aside0.mk (below_step HB5.out hb6)
  clear hb6
  go_wp2
  go_ret
  exact ⟨rfl, HB6.out⟩
end Go.Proofs.YthefibpcepgoaaaDoor.HLexW
