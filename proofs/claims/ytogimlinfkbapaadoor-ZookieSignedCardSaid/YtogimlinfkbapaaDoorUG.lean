/- A strings.Builder that the call itself made: its writing method. (Lines of the shelf's worked walks, turned to this seat's numbers.) -/
import Derived.Test.YtogimlinfkbapaaDoorUA
import Derived.Lib.Builder
import Derived.Shelf.Strings.Builder1
import Derived.IntWalk
import Derived.Shelf.Small.Strs
import Derived.Shelf.Strings.BuilderF
import Derived.Shelf.Strings.BuilderK
import Derived.Shelf.Strings.Search1
import Derived.Shelf.Strings.BuilderCap
import Derived.Test.YtogimlinfkbapaaDoorProg
namespace Go.Proofs.YtogimlinfkbapaaDoor.HBuild
open Go.RowKit Go.Proofs.YtogimlinfkbapaaDoorW.PrintWords Go.Proofs.YtogimlinfkbapaaDoor.HLib
set_option linter.unusedVariables false
set_option linter.unusedSimpArgs false

theorem sizeBuilder : (Tryd.prog.info? 86).map (·.size) = some 2 := by kernel_rfl

set_option maxHeartbeats 1000000 in
set_option maxRecDepth 100000 in
theorem copy_used (b : Nat) (w : World) (h0 : w.cell? ⟨b, 0, none⟩ = some (.pointer (some ⟨b, 0, none⟩))) :
    Calls Tryd.prog 66 #[.pointer (some ⟨b, 0, none⟩)] w fun e w' => e = .returned (.tuple #[]) ∧ w' = w := by
  obtain ⟨j, hj, _⟩ := Option.map_eq_some_iff.1 sizeBuilder
  go_enter Tryd.func66, Tryd.ntmps66
  go_wp2
  rw [Lib.run_neq_ptr_same w _ Tryd.underlying84 hj]
  go_wp2
  go_end0
  exact ⟨rfl, rfl⟩

set_option maxHeartbeats 1000000 in
set_option maxRecDepth 100000 in
theorem copy_fresh (b : Nat) (w : World) (h0 : w.cell? ⟨b, 0, none⟩ = some (.pointer none)) (hsh : w.shape? b = some (86, 2)) (hfz : w.frozen? ⟨b, 0, none⟩ = false) :
    Calls Tryd.prog 66 #[.pointer (some ⟨b, 0, none⟩)] w fun e w' => e = .returned (.tuple #[]) ∧ w' = w.setCell ⟨b, 0, none⟩ (.pointer (some ⟨b, 0, none⟩)) := by
  obtain ⟨j, hj, hjs⟩ := Option.map_eq_some_iff.1 sizeBuilder
  go_enter Tryd.func66, Tryd.ntmps66
  go_wp2
  rw [Lib.run_to_unsafe w ⟨b, 0, none⟩ Tryd.underlying84 Tryd.underlying113 hj (by rw [hjs]; decide) hsh (Nat.zero_lt_succ 1)]
  simp only [Result.andThen]
  rw [Oper.upon_value]
  go_wp2
  rw [run_callFunc_extern Tryd.func77 (by kernel_rfl) (by kernel_rfl) (by kernel_rfl) (e := Extern.AbiNoEscape.same) (by kernel_rfl)]
  rw [Lib.run_noEscape]
  simp only [Result.andThen]
  rw [Oper.upon_value]
  go_wp2
  rw [Lib.run_from_unsafe w ⟨b, 0, none⟩ Tryd.underlying113 Tryd.underlying84 hj hsh (by kernel_rfl)]
  simp only [Result.andThen]
  rw [Oper.upon_value]
  go_wp2
  go_end0
  exact ⟨rfl, rfl⟩

theorem copyCheck_any (B b : Nat) (bs : List Value) (w : World) (h : Lib.IsBuilder 86 5 B b bs w) :
    Calls Tryd.prog 66 #[.pointer (some ⟨b, 0, none⟩)] w fun e w' => e = .returned (.tuple #[]) ∧ (Lib.BuilderAt 86 5 B b (.pointer (some ⟨b, 0, none⟩)) bs w' ∧ Below B w w') := by
  rcases h with h | h
  · refine (copy_fresh b w h.cell0 h.shape h.frozen0).mono ?_
    rintro e w' ⟨rfl, rfl⟩
    exact ⟨rfl, h.used _, (Below.refl B w).setCell (p := ⟨b, 0, none⟩) h.1 _⟩
  · refine (copy_used b w h.cell0).mono ?_
    rintro e w' ⟨rfl, rfl⟩
    exact ⟨rfl, h, Below.refl B _⟩

set_option maxHeartbeats 2000000 in
set_option maxRecDepth 100000 in
theorem writeByte_any (B b : Nat) (bs : List Value) (c : Int) (w : World) (h : Lib.IsBuilder 86 5 B b bs w) (hlen : bs.length + 1 ≤ 140737488355328) (hBw : B ≤ w.heap.size) :
    Calls Tryd.prog 50 #[.pointer (some ⟨b, 0, none⟩), .int .u8 c] w fun e w' => e = .returned .nilIface ∧ (Lib.BuilderAt 86 5 B b (.pointer (some ⟨b, 0, none⟩)) (bs ++ [.int .u8 c]) w' ∧ Below B w w') := by
  obtain ⟨i0, hi, hz0, hz1, hz2⟩ := info_parts info_u8
  go_enter Tryd.func50, Tryd.ntmps50
  go_wp2_with (go_at_call 66; refine (copyCheck_any B b bs _ h).mono ?_)
  rintro e w1 ⟨rfl, h1, hb1⟩
  obtain ⟨hB, v, hbk, hown, hne⟩ := h1
  have c0 : w1.cell? ⟨b, 0, none⟩ = some (.pointer (some ⟨b, 0, none⟩)) := by rw [Lib.cell_of_heap hbk]; rfl
  have c1 : w1.cell? ⟨b, 1, none⟩ = some v := by rw [Lib.cell_of_heap hbk]; rfl
  go_wp2_with (at_builtin; refine wpList_append_own _ rfl _ _ 22 rfl B 5 i0 (.int .u8 0) 1 1 Tryd.underlying22 hi hz0 hz1 hz2 rfl (by decide) _ _ _ rfl (hown.alloc _) ⟨w1.heap.size, 0, none⟩ 1 1 [.int .u8 c] rfl rfl ?c1 ?c2 ?c3 ?c4 ?c5 ?_)
  case c1 =>
    intro j u hj
    match j, hj with
    | 0, hj => simp at hj; subst hj; simp [Addr.add]
  case c2 => intro u hu; simp at hu; subst hu; rfl
  case c3 => unfold maxLen; omega
  case c4 => omega
  case c5 => have := hb1.size; simp; omega
  intro v' w2 hown' hgrow _
  have hlt : b < w1.heap.size := by
    rcases Nat.lt_or_ge b w1.heap.size with h' | h'
    · exact h'
    · simp [Array.getElem?_eq_none h'] at hbk
  have hb2 : w2.heap[b]? = some (.cells #[.pointer (some ⟨b, 0, none⟩), v] 86 (0, 0)) := by
    rw [hgrow.block b (by simp; omega) (fun e => hne e.symm), Lib.alloc_old w1 _ b hlt]
    exact hbk
  have d0 : w2.cell? ⟨b, 0, none⟩ = some (.pointer (some ⟨b, 0, none⟩)) := by rw [Lib.cell_of_heap hb2]; rfl
  have d1 : w2.cell? ⟨b, 1, none⟩ = some v := by rw [Lib.cell_of_heap hb2]; rfl
  have f1 : w2.frozen? ⟨b, 1, none⟩ = false := Lib.frozen_of_heap hb2 1
  obtain ⟨g, cap, rfl⟩ : ∃ g cap, v' = .slice (some ⟨g, 0, none⟩) (bs.length + 1) cap := by
    rcases hown'.2 with ⟨_, h0⟩ | ⟨g, cap, cur, hv, _⟩
    · omega
    · exact ⟨g, cap, hv⟩
  go_wp2
  go_ret
  refine ⟨rfl, ?_, ?_⟩
  · exact Lib.BuilderAt.put (T := 86) (e := 5) hB hb2 (bs' := bs ++ [.int .u8 c]) (by simpa using hown') (by decide)
  · exact ((hb1.alloc (by have := hb1.size; omega) _).grown hgrow (by have := hb1.size; simp; omega) (fun k hk => (hown.lt k hk).1)).setCell (p := ⟨b, 1, none⟩) hB _

end Go.Proofs.YtogimlinfkbapaaDoor.HBuild
/- Bits regrouped: no program here. -/
namespace Go.Proofs.YtogimlinfkbapaaDoor.HBaseS
open Go.RowKit Go.Proofs.YtogimlinfkbapaaDoorW.PrintWords
set_option linter.unusedVariables false

/-- Groups taken off the front of n bits a. -/
def drn (tw : Nat) : Nat → Int → Nat → List Int × Int × Nat
  | 0, a, n => ([], a, n)
  | f + 1, a, n => if tw ≤ n then (a / 2 ^ (n - tw) :: (drn tw f (a % 2 ^ (n - tw)) (n - tw)).1, (drn tw f (a % 2 ^ (n - tw)) (n - tw)).2) else ([], a, n)
/-- All groups, the last one filled up with zeros (false). -/
def rg (fr tw : Nat) : List Int → Int → Nat → List (Int × Bool)
  | [], a, n => if 0 < n then [(a * 2 ^ (tw - n), false)] else []
  | v :: vs, a, n => ((drn tw 16 (a * 2 ^ fr + v) (n + fr)).1.map fun x => (x, true)) ++ rg fr tw vs (drn tw 16 (a * 2 ^ fr + v) (n + fr)).2.1 (drn tw 16 (a * 2 ^ fr + v) (n + fr)).2.2

theorem drn_done {tw f n : Nat} {a : Int} (h : n < tw) : drn tw f a n = ([], a, n) := by
  cases f with
  | zero => rfl
  | succ f => rw [drn, if_neg (by omega)]
theorem drn_step {tw f n : Nat} {a : Int} (h : tw ≤ n) : drn tw (f + 1) a n = (a / 2 ^ (n - tw) :: (drn tw f (a % 2 ^ (n - tw)) (n - tw)).1, (drn tw f (a % 2 ^ (n - tw)) (n - tw)).2) := by
  rw [drn, if_pos h]
/-- Enough fuel. -/
theorem drn_fuel {tw : Nat} (h0 : 0 < tw) : ∀ f n a, n ≤ f → drn tw f a n = drn tw (f + 1) a n := by
  intro f
  induction f with
  | zero => intro n a h; rw [drn_done (by omega), drn_done (by omega)]
  | succ f ih =>
    intro n a h
    by_cases c : tw ≤ n
    · rw [drn_step c, drn_step c, ih (n - tw) _ (by omega)]
    · rw [drn_done (by omega), drn_done (by omega)]
/-- What is left is less than a group. -/
theorem drn_rest {tw : Nat} (h0 : 0 < tw) : ∀ f n (a : Int), n ≤ f → 0 ≤ a → a < 2 ^ n → 0 ≤ (drn tw f a n).2.1 ∧ (drn tw f a n).2.1 < 2 ^ (drn tw f a n).2.2 ∧ (drn tw f a n).2.2 < tw ∧ (∀ x ∈ (drn tw f a n).1, 0 ≤ x ∧ x < 2 ^ tw) := by
  intro f
  induction f with
  | zero => intro n a h h1 h2; rw [drn_done (by omega)]; exact ⟨h1, h2, by simp; omega, fun x hx => by cases hx⟩
  | succ f ih =>
    intro n a h h1 h2
    by_cases c : tw ≤ n
    · rw [drn_step c]
      have hp : (0 : Int) < 2 ^ (n - tw) := Int.pow_pos (by decide)
      obtain ⟨q1, q2, q3, q4⟩ := ih (n - tw) (a % 2 ^ (n - tw)) (by omega) (Int.emod_nonneg _ (by omega)) (Int.emod_lt_of_pos _ hp)
      refine ⟨q1, q2, q3, fun x hx => ?_⟩
      simp only [List.mem_cons] at hx
      rcases hx with rfl | hx
      · refine ⟨Int.ediv_nonneg h1 (by omega), Int.ediv_lt_of_lt_mul hp ?_⟩
        rw [← Int.pow_add, show tw + (n - tw) = n from by omega]
        exact h2
      · exact q4 x hx
    · rw [drn_done (by omega)]; exact ⟨h1, h2, by simp; omega, fun x hx => by cases hx⟩
theorem drn_len {tw : Nat} (h0 : 0 < tw) : ∀ f n (a : Int), (drn tw f a n).1.length ≤ n := by
  intro f
  induction f with
  | zero => intro n a; simp [drn]
  | succ f ih =>
    intro n a
    by_cases c : tw ≤ n
    · rw [drn_step c]; have := ih (n - tw) (a % 2 ^ (n - tw)); simp only [List.length_cons]; omega
    · rw [drn_done (by omega)]; simp

theorem i64_nat_or (a b : Nat) (ha : a < 9223372036854775808) (hb : b < 9223372036854775808) : bits .or .i64 (a : Int) (b : Int) = ((a ||| b : Nat) : Int) := by
  have hx : a ||| b < 2 ^ 63 := Nat.or_lt_two_pow (by omega) (by omega)
  show IntKind.i64.wrap ((BitVec.ofInt 64 (a : Int) ||| BitVec.ofInt 64 (b : Int)).toNat : Int) = _
  rw [BitVec.toNat_or, ofInt_u64 a (by omega), ofInt_u64 b (by omega)]
  exact IntWalk.i64_in _ (by omega)
theorem i64_nat_and (a b : Nat) (ha : a < 9223372036854775808) (hb : b < 9223372036854775808) : bits .and .i64 (a : Int) (b : Int) = ((a &&& b : Nat) : Int) := by
  have hx : a &&& b ≤ a := Nat.and_le_left
  show IntKind.i64.wrap ((BitVec.ofInt 64 (a : Int) &&& BitVec.ofInt 64 (b : Int)).toNat : Int) = _
  rw [BitVec.toNat_and, ofInt_u64 a (by omega), ofInt_u64 b (by omega)]
  exact IntWalk.i64_in _ (by omega)
theorem or_low (a v : Int) (f : Nat) (M : Int) (hM : M = 2 ^ f) (ha : 0 ≤ a) (ha2 : a * M < 9223372036854775808) (hv : 0 ≤ v) (hv2 : v < M) (hM2 : M ≤ 9223372036854775808) : bits .or .i64 (a * M) v = a * M + v := by
  obtain ⟨A, rfl⟩ := Int.eq_ofNat_of_zero_le ha
  obtain ⟨V, rfl⟩ := Int.eq_ofNat_of_zero_le hv
  subst hM
  have e : (A : Int) * 2 ^ f = ((A * 2 ^ f : Nat) : Int) := by rw [Int.natCast_mul, Int.natCast_pow]; rfl
  have hv3 : V < 2 ^ f := by
    have h : (V : Int) < ((2 ^ f : Nat) : Int) := by rw [Int.natCast_pow]; exact hv2
    omega
  rw [e] at ha2 ⊢
  rw [i64_nat_or _ _ (by omega) (by omega), nat_join f (A * 2 ^ f) V (Nat.mul_mod_left _ _) hv3, Int.natCast_add]
theorem and_low (a : Int) (n : Nat) (M : Int) (hM : M = 2 ^ n) (ha : 0 ≤ a) (ha2 : a < 9223372036854775808) (hM2 : M ≤ 9223372036854775808) : bits .and .i64 a (M - 1) = a % M := by
  obtain ⟨A, rfl⟩ := Int.eq_ofNat_of_zero_le ha
  subst hM
  have hp : 0 < 2 ^ n := Nat.pow_pos (by decide)
  have e : (2 : Int) ^ n = ((2 ^ n : Nat) : Int) := by rw [Int.natCast_pow]; rfl
  rw [e] at hM2 ⊢
  rw [show ((2 ^ n : Nat) : Int) - 1 = ((2 ^ n - 1 : Nat) : Int) from by omega, i64_nat_and _ _ (by omega) (by omega), Nat.and_two_pow_sub_one_eq_mod]
  rfl
theorem pow_le (m k : Nat) (h : m ≤ k) : (2 : Int) ^ m ≤ 2 ^ k := by
  have := Nat.pow_le_pow_right (show 0 < 2 by decide) h
  have h3 : ((2 ^ m : Nat) : Int) ≤ ((2 ^ k : Nat) : Int) := Int.ofNat_le.2 this
  rwa [Int.natCast_pow, Int.natCast_pow] at h3

theorem drn_fuel_len {tw : Nat} : ∀ f n (a : Int), (drn tw f a n).1.length ≤ f := by
  intro f
  induction f with
  | zero => intro n a; simp [drn]
  | succ f ih =>
    intro n a
    rw [drn]
    split
    · have := ih (n - tw) (a % 2 ^ (n - tw)); simp only [List.length_cons]; omega
    · simp
theorem rg_len (fr tw : Nat) : ∀ (vs : List Int) (a : Int) (n : Nat), (rg fr tw vs a n).length ≤ 16 * vs.length + 1 := by
  intro vs
  induction vs with
  | nil => intro a n; rw [rg]; split <;> simp
  | cons v vs ih =>
    intro a n
    rw [rg, List.length_append, List.length_map, List.length_cons]
    have := ih (drn tw 16 (a * 2 ^ fr + v) (n + fr)).2.1 (drn tw 16 (a * 2 ^ fr + v) (n + fr)).2.2
    have := drn_fuel_len (tw := tw) 16 (n + fr) (a * 2 ^ fr + v)
    omega
theorem rg_bound (fr tw : Nat) (h0 : 0 < tw) (h16 : tw + fr ≤ 16) : ∀ (vs : List Int) (a : Int) (n : Nat), (∀ v ∈ vs, 0 ≤ v ∧ v < 2 ^ fr) → 0 ≤ a → a < 2 ^ n → n < tw → ∀ p ∈ rg fr tw vs a n, 0 ≤ p.1 ∧ p.1 < 2 ^ tw := by
  intro vs
  induction vs with
  | nil =>
    intro a n _ h1 h2 h3 p hp
    rw [rg] at hp
    split at hp
    · simp only [List.mem_singleton] at hp
      subst hp
      have hq : (0 : Int) < 2 ^ (tw - n) := Int.pow_pos (by decide)
      refine ⟨Int.mul_nonneg h1 (by omega), ?_⟩
      have := Int.mul_lt_mul_of_pos_right h2 hq
      rw [← Int.pow_add, show n + (tw - n) = tw from by omega] at this
      exact this
    · cases hp
  | cons v vs ih =>
    intro a n hv h1 h2 h3 p hp
    have hvv := hv v (List.mem_cons_self ..)
    have hq : (0 : Int) < 2 ^ fr := Int.pow_pos (by decide)
    have hlt : a * 2 ^ fr + v < 2 ^ (n + fr) := by
      rw [Int.pow_add]
      have : (a + 1) * 2 ^ fr ≤ 2 ^ n * 2 ^ fr := Int.mul_le_mul_of_nonneg_right (by omega) (by omega)
      rw [Int.add_mul, Int.one_mul] at this
      omega
    have hge : 0 ≤ a * 2 ^ fr + v := by have := Int.mul_nonneg h1 (Int.le_of_lt hq); omega
    obtain ⟨q1, q2, q3, q4⟩ := drn_rest h0 16 (n + fr) (a * 2 ^ fr + v) (by omega) hge hlt
    rw [rg, List.mem_append] at hp
    rcases hp with hp | hp
    · obtain ⟨x, hx, rfl⟩ := List.mem_map.1 hp
      exact q4 x hx
    · exact ih _ _ (fun y hy => hv y (List.mem_cons_of_mem _ hy)) q1 q2 q3 p hp

end Go.Proofs.YtogimlinfkbapaaDoor.HBaseS
/-
  DERIVED: THE SHELF's CONTRACTS AT THIS DUMP, IN PLAIN WORDS (tools/lay-plain.mjs out of 'TrydShelf.lean', which tools/lay-shelf.mjs wrote): THE SAME DECLARATIONS UNDER THE SAME NAMES: 'import', 'namespace', 'open', 'def', 'theorem' AND NOTHING ELSE: no command of the shelf's: FOR A HAND-IN. Each laying: the table of numbers ('.._ren') and one theorem, a field a fact of the dump's own or the kernel's comparison; each contract: ONE APPLICATION.
-/
namespace Go.Proofs
open Go.Shelf
def Tryd.lays169_ren : Go.Shelf.Ren := ⟨fun | 169 => 51 | n => n, fun | 70 => 84 | 9 => 9 | 0 => 0 | 72 => 86 | 37 => 22 | 127 => 111 | 3 => 3 | 5 => 5 | n => n, fun | n => n⟩
theorem Tryd.lays169 : Go.Proofs.Lays.n169 Tryd.prog Tryd.lays169_ren := {
  mixed := by kernel_rfl
  f169 := Tryd.func51.trans (congrArg some (by kernel_rfl))
  t0 := Tryd.underlying0
  a0 := Tryd.isAgg0
  z0 := Tryd.sizeOf0
  v0 := Tryd.zeroValue0
  t3 := Tryd.underlying3
  a3 := Tryd.isAgg3
  z3 := Tryd.sizeOf3
  v3 := Tryd.zeroValue3
  t9 := Tryd.underlying9
  a9 := Tryd.isAgg9
  z9 := Tryd.sizeOf9
  v9 := Tryd.zeroValue9
  t37 := Tryd.underlying22
  a37 := Tryd.isAgg22
  z37 := Tryd.sizeOf22
  v37 := Tryd.zeroValue22
  t70 := Tryd.underlying84
  a70 := Tryd.isAgg84
  z70 := Tryd.sizeOf84
  v70 := Tryd.zeroValue84
  t72 := Tryd.underlying86
  a72 := Tryd.isAgg86
  z72 := Tryd.sizeOf86
  v72 := Tryd.zeroValue86
  t127 := Tryd.underlying111
  a127 := Tryd.isAgg111
  z127 := Tryd.sizeOf111
  v127 := Tryd.zeroValue111 }
theorem Tryd.Builder_Extra_169 : Builder.Extra Tryd.prog Tryd.lays169_ren := {
  sizeBuilder := by kernel_rfl
  liesBuilder := by kernel_rfl
  t5 := Tryd.underlying5
  a5 := Tryd.isAgg5
  z5 := Tryd.sizeOf5
  v5 := Tryd.zeroValue5
  infoByte := by kernel_rfl
  cellsByte := by kernel_rfl
  sizeByte := by kernel_rfl
  neB5 := by decide }
open Go.RowKit in
/-- (*strings.Builder).String: "String returns the accumulated string.": OF A BUILDER THAT HOLDS AT LEAST ONE BYTE. ✋ THE MODEL FREEZES THOSE BYTES IN THE BUFFER (unsafe.String): a later write INTO them ends the model's run without an answer; a later append BEHIND them goes on. The statement's order of evaluation is drawn: one draw. (LAID: no walk: one application.) -/
theorem Tryd.Builder_String (B b : Nat) (l : List UInt8) (w : World) (h : Lib.IsBuilder 86 5 B b (Lib.byteCells l) w) (h0 : l ≠ []) :
    Calls Tryd.prog 51 #[.pointer (some ⟨b, 0, none⟩)] w fun e w' => e = .returned (.string ⟨l.toArray⟩) ∧ Below B w w' := Any.Builder_String Tryd.lays169 Tryd.Builder_Extra_169 B b l w h h0
open Go.RowKit in
/-- (*strings.Builder).String OF A BUILDER THAT HOLDS NO BYTE: the empty string. (Its buffer is nil, or a row of which it has taken nothing yet; where that row has NO capacity the model lays one new block for unsafe.SliceData's 'some address'.) One draw. (LAID: no walk: one application.) -/
theorem Tryd.Builder_String_empty (B b : Nat) (w : World) (h : Lib.IsBuilder 86 5 B b [] w) (hBw : B ≤ w.heap.size) :
    Calls Tryd.prog 51 #[.pointer (some ⟨b, 0, none⟩)] w fun e w' => e = .returned (.string ⟨#[]⟩) ∧ Below B w w' := Any.Builder_String_empty Tryd.lays169 Tryd.Builder_Extra_169 B b w h hBw
open Go.RowKit in
/-- (*strings.Builder).String: "String returns the accumulated string.": WHATEVER THE BUILDER HOLDS. (LAID: no walk: one application.) -/
theorem Tryd.Builder_String_any (B b : Nat) (l : List UInt8) (w : World) (h : Lib.IsBuilder 86 5 B b (Lib.byteCells l) w) (hBw : B ≤ w.heap.size) :
    Calls Tryd.prog 51 #[.pointer (some ⟨b, 0, none⟩)] w fun e w' => e = .returned (.string ⟨l.toArray⟩) ∧ Below B w w' := Any.Builder_String_any Tryd.lays169 Tryd.Builder_Extra_169 B b l w h hBw
def Tryd.lays137_ren : Go.Shelf.Ren := ⟨fun | 137 => 67 | 217 => 78 | 266 => 84 | n => n, fun | 9 => 9 | 5 => 5 | 3 => 3 | n => n, fun | n => n⟩
theorem Tryd.lays137 : Go.Proofs.Lays.n137 Tryd.prog Tryd.lays137_ren := {
  mixed := by kernel_rfl
  f137 := Tryd.func67.trans (congrArg some (by kernel_rfl))
  f217 := Tryd.func78.trans (congrArg some (by kernel_rfl))
  f266 := Tryd.func84.trans (congrArg some (by kernel_rfl))
  t3 := Tryd.underlying3
  a3 := Tryd.isAgg3
  z3 := Tryd.sizeOf3
  v3 := Tryd.zeroValue3
  t5 := Tryd.underlying5
  a5 := Tryd.isAgg5
  z5 := Tryd.sizeOf5
  v5 := Tryd.zeroValue5
  t9 := Tryd.underlying9
  a9 := Tryd.isAgg9
  z9 := Tryd.sizeOf9
  v9 := Tryd.zeroValue9 }
open Go.RowKit in
/-- strings.IndexByte: "IndexByte returns the index of the first instance of c in s, or -1 if c is not present in s.": IT RETURNS 'Lib.indexByte s c'; the world is as it was. (LAID: no walk: one application.) -/
theorem Tryd.strings_IndexByte (s : ByteArray) (c : Int) (w : World) :
    Calls Tryd.prog 67 #[.string s, .int .u8 c] w fun e w' => e = .returned (.int .i64 (Lib.indexByte s.data.toList c.toNat.toUInt8)) ∧ w' = w := Any.strings_IndexByte Tryd.lays137 s c w
open Go.RowKit in
/-- (*strings.Builder).String: "String returns the accumulated string.": OF A BUILDER THAT HOLDS AT LEAST ONE BYTE. ✋ THE MODEL FREEZES THOSE BYTES IN THE BUFFER (unsafe.String): a later write INTO them ends the model's run without an answer; a later append BEHIND them goes on. The statement's order of evaluation is drawn: one draw. THE FORM '_f': IT SAYS BESIDES THAT THE BUILDER IS A BUILDER STILL ('Lib.IsBuilderF', the same bytes): SO IT CAN BE WRITTEN ON: 'b.WriteString(b.String()[:k])'. (LAID: no walk: one application.) -/
theorem Tryd.Builder_String_f (B b : Nat) (l : List UInt8) (w : World) (h : Lib.IsBuilderF 86 5 B b (Lib.byteCells l) w) (h0 : l ≠ []) :
    Calls Tryd.prog 51 #[.pointer (some ⟨b, 0, none⟩)] w fun e w' => e = .returned (.string ⟨l.toArray⟩) ∧ (Lib.IsBuilderF 86 5 B b (Lib.byteCells l) w' ∧ Below B w w') := Any.Builder_String_f Tryd.lays169 Tryd.Builder_Extra_169 B b l w h h0
open Go.RowKit in
/-- (*strings.Builder).String OF A BUILDER THAT HOLDS NO BYTE: the empty string; THE FORM '_f': a builder still. (LAID: no walk: one application.) -/
theorem Tryd.Builder_String_empty_f (B b : Nat) (w : World) (h : Lib.IsBuilderF 86 5 B b [] w) (hBw : B ≤ w.heap.size) :
    Calls Tryd.prog 51 #[.pointer (some ⟨b, 0, none⟩)] w fun e w' => e = .returned (.string ⟨#[]⟩) ∧ (Lib.IsBuilderF 86 5 B b [] w' ∧ Below B w w') := Any.Builder_String_empty_f Tryd.lays169 Tryd.Builder_Extra_169 B b w h hBw
open Go.RowKit in
/-- (*strings.Builder).String: "String returns the accumulated string.": WHATEVER THE BUILDER HOLDS; THE FORM '_f': OF A BUILDER THAT MAY HAVE BEEN READ BEFORE; AND IT IS A BUILDER STILL, holding the same bytes: it can be written on. (LAID: no walk: one application.) -/
theorem Tryd.Builder_String_any_f (B b : Nat) (l : List UInt8) (w : World) (h : Lib.IsBuilderF 86 5 B b (Lib.byteCells l) w) (hBw : B ≤ w.heap.size) :
    Calls Tryd.prog 51 #[.pointer (some ⟨b, 0, none⟩)] w fun e w' => e = .returned (.string ⟨l.toArray⟩) ∧ (Lib.IsBuilderF 86 5 B b (Lib.byteCells l) w' ∧ Below B w w') := Any.Builder_String_any_f Tryd.lays169 Tryd.Builder_Extra_169 B b l w h hBw
open Go.RowKit in
/-- (*strings.Builder).String: "String returns the accumulated string.": OF A BUILDER THAT HOLDS AT LEAST ONE BYTE. ✋ THE MODEL FREEZES THOSE BYTES IN THE BUFFER (unsafe.String): a later write INTO them ends the model's run without an answer; a later append BEHIND them goes on. The statement's order of evaluation is drawn: one draw. THE FORM '_k': OVER 'Lib.IsBuilderF' (a builder that 'String()' may have read), AND WITH THE FRAME THAT REACHES ABOVE THE BUILDER: 'Lib.OthersKept': every block that is not b and is no row of uint8's stands as it stood: the iterator of a range among them. (LAID: no walk: one application.) -/
theorem Tryd.Builder_String_k (B b : Nat) (l : List UInt8) (w : World) (h : Lib.IsBuilderF 86 5 B b (Lib.byteCells l) w) (h0 : l ≠ []) :
    Calls Tryd.prog 51 #[.pointer (some ⟨b, 0, none⟩)] w fun e w' => e = .returned (.string ⟨l.toArray⟩) ∧ (Lib.IsBuilderF 86 5 B b (Lib.byteCells l) w' ∧ Below B w w' ∧ Lib.OthersKept 5 (some b) w w') := Any.Builder_String_k Tryd.lays169 Tryd.Builder_Extra_169 B b l w h h0
open Go.RowKit in
/-- (*strings.Builder).String OF A BUILDER THAT HOLDS NO BYTE: the empty string; THE FORM '_k': OVER 'Lib.IsBuilderF' (a builder that 'String()' may have read), AND WITH THE FRAME THAT REACHES ABOVE THE BUILDER: 'Lib.OthersKept': every block that is not b and is no row of uint8's stands as it stood: the iterator of a range among them. (LAID: no walk: one application.) -/
theorem Tryd.Builder_String_empty_k (B b : Nat) (w : World) (h : Lib.IsBuilderF 86 5 B b [] w) (hBw : B ≤ w.heap.size) :
    Calls Tryd.prog 51 #[.pointer (some ⟨b, 0, none⟩)] w fun e w' => e = .returned (.string ⟨#[]⟩) ∧ (Lib.IsBuilderF 86 5 B b [] w' ∧ Below B w w' ∧ Lib.OthersKept 5 (some b) w w') := Any.Builder_String_empty_k Tryd.lays169 Tryd.Builder_Extra_169 B b w h hBw
open Go.RowKit in
/-- (*strings.Builder).String: "String returns the accumulated string.": WHATEVER THE BUILDER HOLDS; THE FORM '_k': OVER 'Lib.IsBuilderF' (a builder that 'String()' may have read), AND WITH THE FRAME THAT REACHES ABOVE THE BUILDER: 'Lib.OthersKept': every block that is not b and is no row of uint8's stands as it stood: the iterator of a range among them. (LAID: no walk: one application.) -/
theorem Tryd.Builder_String_any_k (B b : Nat) (l : List UInt8) (w : World) (h : Lib.IsBuilderF 86 5 B b (Lib.byteCells l) w) (hBw : B ≤ w.heap.size) :
    Calls Tryd.prog 51 #[.pointer (some ⟨b, 0, none⟩)] w fun e w' => e = .returned (.string ⟨l.toArray⟩) ∧ (Lib.IsBuilderF 86 5 B b (Lib.byteCells l) w' ∧ Below B w w' ∧ Lib.OthersKept 5 (some b) w w') := Any.Builder_String_any_k Tryd.lays169 Tryd.Builder_Extra_169 B b l w h hBw
def Tryd.lays217_ren : Go.Shelf.Ren := ⟨fun | 217 => 78 | 266 => 84 | n => n, fun | 9 => 9 | 5 => 5 | 3 => 3 | n => n, fun | n => n⟩
theorem Tryd.lays217 : Go.Proofs.Lays.n217 Tryd.prog Tryd.lays217_ren := {
  mixed := by kernel_rfl
  f217 := Tryd.func78.trans (congrArg some (by kernel_rfl))
  f266 := Tryd.func84.trans (congrArg some (by kernel_rfl))
  t3 := Tryd.underlying3
  a3 := Tryd.isAgg3
  z3 := Tryd.sizeOf3
  v3 := Tryd.zeroValue3
  t5 := Tryd.underlying5
  a5 := Tryd.isAgg5
  z5 := Tryd.sizeOf5
  v5 := Tryd.zeroValue5
  t9 := Tryd.underlying9
  a9 := Tryd.isAgg9
  z9 := Tryd.sizeOf9
  v9 := Tryd.zeroValue9 }
open Go.RowKit Go.Lib in
/-- internal/stringslite.IndexByte (what strings.IndexByte calls): IT RETURNS 'Lib.indexByte s c'; the world is as it was. (LAID: no walk: one application.) -/
theorem Tryd.stringslite_IndexByte (s : ByteArray) (c : Int) (w : World) :
    Calls Tryd.prog 78 #[.string s, .int .u8 c] w fun e w' => e = .returned (.int .i64 (Lib.indexByte s.data.toList c.toNat.toUInt8)) ∧ w' = w := Any.stringslite_IndexByte Tryd.lays217 s c w
end Go.Proofs
/- The walks of the package base. -/
namespace Go.Proofs.YtogimlinfkbapaaDoor.HBase
open Go.RowKit Go.Proofs.YtogimlinfkbapaaDoorW.PrintWords Go.Proofs.YtogimlinfkbapaaDoor.HLib Go.Proofs.YtogimlinfkbapaaDoor.HBuild Go.Proofs.YtogimlinfkbapaaDoor.HBaseS
set_option linter.unusedVariables false
set_option linter.unusedSimpArgs false

def alpha : ByteArray := ⟨#[65, 66, 67, 68, 69, 70, 71, 72, 73, 74, 75, 76, 77, 78, 79, 80, 81, 82, 83, 84, 85, 86, 87, 88, 89, 90, 97, 98, 99, 100, 101, 102, 103, 104, 105, 106, 107, 108, 109, 110, 111, 112, 113, 114, 115, 116, 117, 118, 119, 120, 121, 122, 48, 49, 50, 51, 52, 53, 54, 55, 56, 57, 45, 95]⟩
def sign (v : Int) : Int := bt alpha v
theorem sign_byte (v : Int) : 0 ≤ sign v ∧ sign v < 256 := by
  have := bt_range alpha v
  unfold sign
  omega

set_option maxHeartbeats 1000000 in
theorem emit_enc (B g : Nat) (bs : List Value) (v : Int) (b : Bool) (w : World) (h : Lib.IsBuilder 86 5 B g bs w) (h0 : 0 ≤ v) (h1 : v < 64) (hl : bs.length + 1 ≤ 140737488355328) (hB : B ≤ w.heap.size) :
    Calls Tryd.prog 49 #[.int .i64 v, .bool b, .pointer (some ⟨g, 0, none⟩)] w fun e w' => e = .returned (.tuple #[]) ∧ Lib.BuilderAt 86 5 B g (.pointer (some ⟨g, 0, none⟩)) (bs ++ [.int .u8 (sign v)]) w' ∧ Below B w w' := by
  go_enter Tryd.func49, Tryd.ntmps49
  go_wp2_with fail
  rw [bt_at _ v]
  refine (writeByte_any B g bs (sign v) _ h hl hB).mono ?_
  rintro e w1 ⟨rfl, h1, hb1⟩
  have H1 := Aside0.mk h1
  have HB1 := Aside0.mk hb1
  clear h1 hb1 h
  go_wp2
  go_end0
  exact ⟨rfl, H1.out, HB1.out⟩

set_option maxHeartbeats 4000000 in
/-- regroup from 8 to 6 bits, over the writer of signs. -/
theorem regroup_enc (B g : Nat) (A : Option Addr) (c : Nat) (vs : List Int) (w : World) (hC : Kd.C (Kd.int .i64) w A vs.length vs) (hv : ∀ v ∈ vs, 0 ≤ v ∧ v < 256) (hA : ∀ ad, A = some ad → ad.block < B)
    (h : Lib.IsBuilder 86 5 B g ([]) w) (hB : B ≤ w.heap.size) (hl : vs.length ≤ 17592186044416) :
    Calls Tryd.prog 48 #[.slice A vs.length c, .int .i64 8, .int .i64 6, .func (.func 49) #[] #[.pointer (some ⟨g, 0, none⟩)]] w fun e w' =>
      e = .returned (.tuple #[]) ∧ Lib.IsBuilder 86 5 B g ((rg 8 6 vs 0 0).map fun p => .int .u8 (sign p.1)) w' ∧ Below B w w' := by
  have HC := Aside0.mk hC
  have HV := Aside0.mk hv
  have HA := Aside0.mk hA
  have HL := Aside0.mk hl
  have HI := Aside0.mk h
  have HS := Aside0.mk hB
  clear hC hv hA h hB hl
  go_enter Tryd.func48, Tryd.ntmps48
  go_wp2
  go_loopg [8, 9, 11, 14] vs.length (fun kq v8 v9 v11 v14 w' => ∃ (acc n j : Int) (es : List (Int × Bool)), v8 = .int .i64 acc ∧ v9 = .int .i64 n ∧ v14 = .int .i64 j ∧
    Aside0 (0 ≤ j ∧ (kq : Int) + j = vs.length ∧ 0 ≤ n ∧ n < 6 ∧ 0 ≤ acc ∧ acc < 2 ^ n.toNat ∧ es ++ rg 8 6 (vs.drop j.toNat) acc n.toNat = rg 8 6 vs 0 0 ∧ es.length ≤ 2 * j.toNat) ∧
    Aside0 (Lib.IsBuilder 86 5 B g (es.map fun p => .int .u8 (sign p.1)) w') ∧ Aside0 (Below B w w'))
  case atStart => exact ⟨0, 0, 0, [], rfl, rfl, rfl, ⟨⟨by omega, by omega, by omega, by omega, by omega, by decide, rfl, by simp⟩⟩, HI, ⟨Below.refl _ _⟩⟩
  case round =>
    obtain ⟨acc, n, j, es, rfl, rfl, rfl, HR, HBu, HBe⟩ := hrel
    have hj0 : 0 ≤ j := HR.out.1
    have hn0 : 0 ≤ n := HR.out.2.2.1
    have hn6 : n < 6 := HR.out.2.2.2.1
    have ha0 : 0 ≤ acc := HR.out.2.2.2.2.1
    have ha1 : acc < 64 := Int.lt_of_lt_of_le HR.out.2.2.2.2.2.1 (show (2 : Int) ^ n.toNat ≤ 2 ^ 6 from pow_le _ _ (by omega))
    have hjm : j ≤ 17592186044416 := by have := HL.out; have := HR.out; omega
    by_cases c1 : j < vs.length
    · have d1 : decide (j < (vs.length : Int)) = true := decide_eq_true c1
      obtain ⟨ad, rfl, hx⟩ := Kd.at_int HC.out j hj0 c1
      have hx2 : wr.cell? (ad.add j.toNat) = some (.int .i64 (rd vs j)) := (HBe.out.cell (p := ad.add j.toNat) (by
        have h1 := HA.out ad rfl
        have h2 : (ad.add j.toNat).block = ad.block := by unfold Addr.add; split <;> rfl
        omega)).trans hx
      obtain ⟨v, hve⟩ : ∃ v, v = rd vs j := ⟨_, rfl⟩
      have hvb : 0 ≤ v ∧ v < 256 := by
        rw [hve]
        refine HV.out _ ?_
        unfold rd
        rw [List.getD_eq_getElem?_getD, List.getElem?_eq_getElem (show j.toNat < vs.length by omega)]
        exact List.getElem_mem _
      rw [← hve] at hx2
      obtain ⟨hv0, hv1⟩ := hvb
      have hor : bits .or .i64 (acc * 256) v = acc * 256 + v := or_low acc v 8 256 rfl ha0 (by omega) hv0 hv1 (by decide)
      have HVE := Aside0.mk (show vs.drop j.toNat = v :: vs.drop (j.toNat + 1) from by
        rw [List.drop_eq_getElem_cons (show j.toNat < vs.length by omega)]
        congr 1
        rw [hve]
        unfold rd
        rw [List.getD_eq_getElem?_getD, List.getElem?_eq_getElem (show j.toNat < vs.length by omega)]
        rfl)
      clear hve hx
      have HA1 := Aside0.mk (show acc * 256 + v < 2 ^ (n.toNat + 8) from by
        rw [Int.pow_add, show (2 : Int) ^ 8 = 256 from rfl]
        have := HR.out.2.2.2.2.2.1
        generalize (2 : Int) ^ n.toNat = q at this ⊢
        omega)
      go_wp2
      go_loopg [8, 9] 16 (fun kq v8 v9 w' => ∃ (a m : Int) (xs : List Int), v8 = .int .i64 a ∧ v9 = .int .i64 m ∧
        Aside0 (0 ≤ m ∧ m ≤ kq ∧ 0 ≤ a ∧ a < 2 ^ m.toNat ∧ m ≤ 13 ∧ xs ++ (drn 6 kq a m.toNat).1 = (drn 6 16 (acc * 256 + v) (n.toNat + 8)).1 ∧ (drn 6 kq a m.toNat).2 = (drn 6 16 (acc * 256 + v) (n.toNat + 8)).2 ∧ xs.length * 6 + m ≤ 13) ∧
        Aside0 (Lib.IsBuilder 86 5 B g ((es ++ xs.map fun x => (x, true)).map fun p => .int .u8 (sign p.1)) w') ∧ Aside0 (Below B w w'))
      case atStart =>
        refine ⟨acc * 256 + v, n + 8, [], rfl, rfl, ⟨⟨by omega, by omega, by omega, ?_, by omega, ?_, ?_, by simp; omega⟩⟩, ⟨by simpa using HBu.out⟩, HBe⟩
        all_goals rw [show (n + 8).toNat = n.toNat + 8 from by omega]
        · exact HA1.out
        · rfl
      case round =>
        obtain ⟨a, m, xs, rfl, rfl, HR2, HBu2, HBe2⟩ := hrel
        have hm0 : 0 ≤ m := HR2.out.1
        have hm1 : m ≤ 13 := HR2.out.2.2.2.2.1
        have hea0 : 0 ≤ a := HR2.out.2.2.1
        have hea1 : a < 8192 := Int.lt_of_lt_of_le HR2.out.2.2.2.1 (show (2 : Int) ^ m.toNat ≤ 2 ^ 13 from pow_le _ _ (by omega))
        by_cases c2 : 6 ≤ m
        · have d2 : decide (6 ≤ m) = true := decide_eq_true c2
          obtain ⟨f, rfl⟩ : ∃ f, gk = f + 1 := ⟨gk - 1, by have := HR2.out.2.1; omega⟩
          have hmt : (m - 6).toNat = m.toNat - 6 := by omega
          have hp : (0 : Int) < 2 ^ (m - 6).toNat := Int.pow_pos (by decide)
          have hq : (2 : Int) ^ (m - 6).toNat ≤ 2 ^ 7 := pow_le _ _ (by omega)
          have hq2 : (2 : Int) ^ (m - 6).toNat ≤ 128 := hq
          have he0 : 0 ≤ a / 2 ^ (m - 6).toNat := Int.ediv_nonneg hea0 (by omega)
          have he1 : a / 2 ^ (m - 6).toNat < 64 := by
            refine Int.ediv_lt_of_lt_mul hp ?_
            rw [show (64 : Int) = 2 ^ 6 from rfl, ← Int.pow_add, hmt, show 6 + (m.toNat - 6) = m.toNat from by omega]
            exact HR2.out.2.2.2.1
          have hstep := drn_step (tw := 6) (f := f) (n := m.toNat) (a := a) (by omega)
          rw [← hmt] at hstep
          have hand : bits .and .i64 a (2 ^ (m - 6).toNat - 1) = a % 2 ^ (m - 6).toNat := and_low a (m - 6).toNat _ rfl hea0 (by omega) (by omega)
          have HST := Aside0.mk hstep
          have HMT := Aside0.mk hmt
          have HEM := Aside0.mk (And.intro (Int.emod_nonneg a (show (2 : Int) ^ (m - 6).toNat ≠ 0 from by omega)) (Int.emod_lt_of_pos a hp))
          clear hstep hmt hq
          go_wp2_with fail
          refine (emit_enc B g _ _ true _ HBu2.out he0 he1 (by have h1 := HR.out.2.2.2.2.2.2.2; have h2 := HR2.out.2.2.2.2.2.2.2; simp; omega) (Nat.le_trans HS.out HBe2.out.size)).mono ?_
          rintro e w1 ⟨rfl, hb1, hbe1⟩
          have HBu3 := Aside0.mk hb1
          have HBe3 := Aside0.mk (HBe2.out.trans hbe1)
          clear hb1 hbe1
          go_wp2
          go_roundg f
          case measure => omega
          case rel =>
            refine ⟨a % 2 ^ (m - 6).toNat, m - 6, xs ++ [a / 2 ^ (m - 6).toNat], rfl, rfl, ⟨?_⟩, ⟨?_⟩, HBe3⟩
            · have h := HR2.out
              rw [HST.out] at h
              refine ⟨by omega, by omega, HEM.out.1, HEM.out.2, by omega, ?_, h.2.2.2.2.2.2.1, ?_⟩
              · rw [← h.2.2.2.2.2.1]
                simp
              · rw [List.length_append, List.length_singleton]
                have := h.2.2.2.2.2.2.2
                omega
            · have h := HBu3.out
              exact .inr (by simpa using h)
        · have d2 : decide (6 ≤ m) = false := decide_eq_false c2
          have hm6 : m < 6 := by omega
          have hdone := drn_done (tw := 6) (f := gk) (n := m.toNat) (a := a) (by omega)
          have HD := Aside0.mk hdone
          clear hdone c2
          go_wp2
          go_roundg (vs.length - (j + 1).toNat)
          case measure => have := HR.out; omega
          case rel =>
            have h := HR2.out
            rw [HD.out] at h
            refine ⟨a, m, j + 1, es ++ xs.map fun x => (x, true), rfl, rfl, rfl, ⟨⟨by omega, by omega, by omega, by have := h.2.2.2.2.2.2.2; omega, h.2.2.1, h.2.2.2.1, ?_, ?_⟩⟩, HBu2, HBe2⟩
            · rw [← HR.out.2.2.2.2.2.2.1, HVE.out, rg, show (2 : Int) ^ 8 = 256 from rfl, ← h.2.2.2.2.2.2.1, ← h.2.2.2.2.2.1]
              simp [show (j + 1).toNat = j.toNat + 1 from by omega]
            · rw [List.length_append, List.length_map]
              have := HR.out.2.2.2.2.2.2.2
              have := h.2.2.2.2.2.2.2
              omega
    · have d1 : decide (j < (vs.length : Int)) = false := decide_eq_false c1
      have hd : vs.drop j.toNat = [] := List.drop_eq_nil_of_le (by omega)
      have HD := Aside0.mk hd
      clear hd c1
      by_cases c3 : 0 < n
      · have d3 : decide (0 < n) = true := decide_eq_true c3
        have he0 : 0 ≤ acc * 2 ^ (6 - n).toNat := Int.mul_nonneg ha0 (Int.le_of_lt (Int.pow_pos (by decide)))
        have he1 : acc * 2 ^ (6 - n).toNat < 64 := by
          have h1 := HR.out.2.2.2.2.2.1
          have hp : (0 : Int) < 2 ^ (6 - n).toNat := Int.pow_pos (by decide)
          have h2 := Int.mul_lt_mul_of_pos_right h1 hp
          rw [← Int.pow_add, show n.toNat + (6 - n).toNat = 6 from by omega] at h2
          exact h2
        have HTN := Aside0.mk (show (6 - n).toNat = 6 - n.toNat from by omega)
        go_wp2_with fail
        refine (emit_enc B g _ _ false _ HBu.out he0 he1 (by have h1 := HR.out.2.2.2.2.2.2.2; simp; omega) (Nat.le_trans HS.out HBe.out.size)).mono ?_
        rintro e w1 ⟨rfl, hb1, hbe1⟩
        have HBu3 := Aside0.mk hb1
        have HBe3 := Aside0.mk (HBe.out.trans hbe1)
        clear hb1 hbe1
        go_wp2
        go_end0
        refine ⟨rfl, ?_, HBe3.out⟩
        rw [← HR.out.2.2.2.2.2.2.1, HD.out, rg, if_pos (by omega), ← HTN.out]
        exact .inr (by simpa using HBu3.out)
      · have d3 : decide (0 < n) = false := decide_eq_false c3
        go_wp2
        go_end0
        refine ⟨rfl, ?_, HBe.out⟩
        rw [← HR.out.2.2.2.2.2.2.1, HD.out, rg, if_neg (by omega), List.append_nil]
        exact HBu.out

/-- The collected bytes: a variable in block g that holds a row of the call's own. -/
def IsOut (B g : Nat) (xs : List Int) (w : World) : Prop :=
  B ≤ g ∧ ∃ v, w.heap[g]? = some (.cells #[v] 22 (0, 0)) ∧ Kd.R (Kd.int .u8) 5 w B (fun k => k ≠ g) v xs

theorem emit_dec_no (B g : Nat) (xs : List Int) (v : Int) (w : World) (h : IsOut B g xs w) :
    Calls Tryd.prog 55 #[.int .i64 v, .bool false, .pointer (some ⟨g, 0, none⟩)] w fun e w' => e = .returned (.tuple #[]) ∧ IsOut B g xs w' ∧ Below B w w' := by
  have HI := Aside0.mk h
  clear h
  go_enter Tryd.func55, Tryd.ntmps55
  go_wp2
  go_end0
  exact ⟨rfl, HI.out, Below.refl _ _⟩

set_option maxHeartbeats 1000000 in
theorem emit_dec_yes (B g : Nat) (xs : List Int) (v : Int) (w : World) (h : IsOut B g xs w) (h0 : 0 ≤ v) (h1 : v < 256) (hl : xs.length + 1 ≤ 140737488355328) :
    Calls Tryd.prog 55 #[.int .i64 v, .bool true, .pointer (some ⟨g, 0, none⟩)] w fun e w' => e = .returned (.tuple #[]) ∧ IsOut B g (xs ++ [v]) w' ∧ Below B w w' := by
  obtain ⟨hB, u, hb, hR⟩ := h
  have HG := Aside0.mk (blk_lt hb)
  have HB0 := Aside0.mk hB
  have HBL := Aside0.mk hb
  have HR := Aside0.mk hR
  have HL := Aside0.mk hl
  have c0 : w.cell? ⟨g, 0, none⟩ = some u := (blk_cell hb 0).trans rfl
  have f0 := blk_frozen hb 0
  clear hB hb hR hl
  go_enter Tryd.func55, Tryd.ntmps55
  go_wp2_with (at_builtin; refine Kd.R_append (Kd.int .u8) (w0 := w) B rfl (.tmp 6) (.tmp 9) 22 5 (.int .u8 0) 1 rfl Tryd.underlying22 info_u8 rfl (by decide) (by omega) u xs v [.int .u8 v] (fun k => k ≠ g) (fun _ => False) rfl rfl ?aP (fun _ hk => hk.elim) ?aF ?aO ?aB ?aS ?aL ?_; (case aP => exact rfl); (case aF => exact fun k hk => by have := HG.out; omega); (case aO => exact HR.out); (case aB => exact Below.refl _ _); (case aS => have := HG.out; have := HB0.out; omega); (case aL => have := HL.out; omega); intro v1 w1 ho hbe hg hat; obtain ⟨A1, k1, rfl, _, _⟩ := Kd.R_reads ho; have HO := Aside0.mk ho; have HB1 := Aside0.mk hbe; have HBL1 := Aside0.mk (blk_grown HBL.out hg (fun e => HR.out.1 g e.symm rfl)); have c1 := (blk_cell HBL1.out 0).trans (show _ = some u from rfl); have f1 := blk_frozen HBL1.out 0; clear ho hbe hg hat)
  go_end0
  refine ⟨rfl, ⟨HB0.out, _, by simpa using blk_set HBL1.out 0 _, Kd.R_far HO.out (fun k hk => hk) _⟩, HB1.out.setCell (p := ⟨g, 0, none⟩) HB0.out _⟩

set_option maxHeartbeats 4000000 in
/-- regroup from 6 to 8 bits, over the collector of bytes. -/
theorem regroup_dec (B g : Nat) (A : Option Addr) (c : Nat) (vs : List Int) (w : World) (hC : Kd.C (Kd.int .i64) w A vs.length vs) (hv : ∀ v ∈ vs, 0 ≤ v ∧ v < 64) (hA : ∀ ad, A = some ad → ad.block < B)
    (h : IsOut B g ([]) w) (hB : B ≤ w.heap.size) (hl : vs.length ≤ 17592186044416) :
    Calls Tryd.prog 48 #[.slice A vs.length c, .int .i64 6, .int .i64 8, .func (.func 55) #[] #[.pointer (some ⟨g, 0, none⟩)]] w fun e w' =>
      e = .returned (.tuple #[]) ∧ IsOut B g (((rg 6 8 vs 0 0).filter (·.2)).map (·.1)) w' ∧ Below B w w' := by
  have HC := Aside0.mk hC
  have HV := Aside0.mk hv
  have HA := Aside0.mk hA
  have HL := Aside0.mk hl
  have HI := Aside0.mk h
  have HS := Aside0.mk hB
  clear hC hv hA h hB hl
  go_enter Tryd.func48, Tryd.ntmps48
  go_wp2
  go_loopg [8, 9, 11, 14] vs.length (fun kq v8 v9 v11 v14 w' => ∃ (acc n j : Int) (es : List (Int × Bool)), v8 = .int .i64 acc ∧ v9 = .int .i64 n ∧ v14 = .int .i64 j ∧
    Aside0 (0 ≤ j ∧ (kq : Int) + j = vs.length ∧ 0 ≤ n ∧ n < 8 ∧ 0 ≤ acc ∧ acc < 2 ^ n.toNat ∧ es ++ rg 6 8 (vs.drop j.toNat) acc n.toNat = rg 6 8 vs 0 0 ∧ es.length ≤ 2 * j.toNat) ∧
    Aside0 (IsOut B g ((es.filter (·.2)).map (·.1)) w') ∧ Aside0 (Below B w w'))
  case atStart => exact ⟨0, 0, 0, [], rfl, rfl, rfl, ⟨⟨by omega, by omega, by omega, by omega, by omega, by decide, rfl, by simp⟩⟩, HI, ⟨Below.refl _ _⟩⟩
  case round =>
    obtain ⟨acc, n, j, es, rfl, rfl, rfl, HR, HBu, HBe⟩ := hrel
    have hj0 : 0 ≤ j := HR.out.1
    have hn0 : 0 ≤ n := HR.out.2.2.1
    have hn6 : n < 8 := HR.out.2.2.2.1
    have ha0 : 0 ≤ acc := HR.out.2.2.2.2.1
    have ha1 : acc < 256 := Int.lt_of_lt_of_le HR.out.2.2.2.2.2.1 (show (2 : Int) ^ n.toNat ≤ 2 ^ 8 from pow_le _ _ (by omega))
    have hjm : j ≤ 17592186044416 := by have := HL.out; have := HR.out; omega
    by_cases c1 : j < vs.length
    · have d1 : decide (j < (vs.length : Int)) = true := decide_eq_true c1
      obtain ⟨ad, rfl, hx⟩ := Kd.at_int HC.out j hj0 c1
      have hx2 : wr.cell? (ad.add j.toNat) = some (.int .i64 (rd vs j)) := (HBe.out.cell (p := ad.add j.toNat) (by
        have h1 := HA.out ad rfl
        have h2 : (ad.add j.toNat).block = ad.block := by unfold Addr.add; split <;> rfl
        omega)).trans hx
      obtain ⟨v, hve⟩ : ∃ v, v = rd vs j := ⟨_, rfl⟩
      have hvb : 0 ≤ v ∧ v < 64 := by
        rw [hve]
        refine HV.out _ ?_
        unfold rd
        rw [List.getD_eq_getElem?_getD, List.getElem?_eq_getElem (show j.toNat < vs.length by omega)]
        exact List.getElem_mem _
      rw [← hve] at hx2
      obtain ⟨hv0, hv1⟩ := hvb
      have hor : bits .or .i64 (acc * 64) v = acc * 64 + v := or_low acc v 6 64 rfl ha0 (by omega) hv0 hv1 (by decide)
      have HVE := Aside0.mk (show vs.drop j.toNat = v :: vs.drop (j.toNat + 1) from by
        rw [List.drop_eq_getElem_cons (show j.toNat < vs.length by omega)]
        congr 1
        rw [hve]
        unfold rd
        rw [List.getD_eq_getElem?_getD, List.getElem?_eq_getElem (show j.toNat < vs.length by omega)]
        rfl)
      clear hve hx
      have HA1 := Aside0.mk (show acc * 64 + v < 2 ^ (n.toNat + 6) from by
        rw [Int.pow_add, show (2 : Int) ^ 6 = 64 from rfl]
        have := HR.out.2.2.2.2.2.1
        generalize (2 : Int) ^ n.toNat = q at this ⊢
        omega)
      go_wp2
      go_loopg [8, 9] 16 (fun kq v8 v9 w' => ∃ (a m : Int) (xs : List Int), v8 = .int .i64 a ∧ v9 = .int .i64 m ∧
        Aside0 (0 ≤ m ∧ m ≤ kq ∧ 0 ≤ a ∧ a < 2 ^ m.toNat ∧ m ≤ 13 ∧ xs ++ (drn 8 kq a m.toNat).1 = (drn 8 16 (acc * 64 + v) (n.toNat + 6)).1 ∧ (drn 8 kq a m.toNat).2 = (drn 8 16 (acc * 64 + v) (n.toNat + 6)).2 ∧ xs.length * 8 + m ≤ 13) ∧
        Aside0 (IsOut B g (((es ++ xs.map fun x => (x, true)).filter (·.2)).map (·.1)) w') ∧ Aside0 (Below B w w'))
      case atStart =>
        refine ⟨acc * 64 + v, n + 6, [], rfl, rfl, ⟨⟨by omega, by omega, by omega, ?_, by omega, ?_, ?_, by simp; omega⟩⟩, ⟨by simpa using HBu.out⟩, HBe⟩
        all_goals rw [show (n + 6).toNat = n.toNat + 6 from by omega]
        · exact HA1.out
        · rfl
      case round =>
        obtain ⟨a, m, xs, rfl, rfl, HR2, HBu2, HBe2⟩ := hrel
        have hm0 : 0 ≤ m := HR2.out.1
        have hm1 : m ≤ 13 := HR2.out.2.2.2.2.1
        have hea0 : 0 ≤ a := HR2.out.2.2.1
        have hea1 : a < 8192 := Int.lt_of_lt_of_le HR2.out.2.2.2.1 (show (2 : Int) ^ m.toNat ≤ 2 ^ 13 from pow_le _ _ (by omega))
        by_cases c2 : 8 ≤ m
        · have d2 : decide (8 ≤ m) = true := decide_eq_true c2
          obtain ⟨f, rfl⟩ : ∃ f, gk = f + 1 := ⟨gk - 1, by have := HR2.out.2.1; omega⟩
          have hmt : (m - 8).toNat = m.toNat - 8 := by omega
          have hp : (0 : Int) < 2 ^ (m - 8).toNat := Int.pow_pos (by decide)
          have hq : (2 : Int) ^ (m - 8).toNat ≤ 2 ^ 7 := pow_le _ _ (by omega)
          have hq2 : (2 : Int) ^ (m - 8).toNat ≤ 128 := hq
          have he0 : 0 ≤ a / 2 ^ (m - 8).toNat := Int.ediv_nonneg hea0 (by omega)
          have he1 : a / 2 ^ (m - 8).toNat < 256 := by
            refine Int.ediv_lt_of_lt_mul hp ?_
            rw [show (256 : Int) = 2 ^ 8 from rfl, ← Int.pow_add, hmt, show 8 + (m.toNat - 8) = m.toNat from by omega]
            exact HR2.out.2.2.2.1
          have hstep := drn_step (tw := 8) (f := f) (n := m.toNat) (a := a) (by omega)
          rw [← hmt] at hstep
          have hand : bits .and .i64 a (2 ^ (m - 8).toNat - 1) = a % 2 ^ (m - 8).toNat := and_low a (m - 8).toNat _ rfl hea0 (by omega) (by omega)
          have HST := Aside0.mk hstep
          have HMT := Aside0.mk hmt
          have HEM := Aside0.mk (And.intro (Int.emod_nonneg a (show (2 : Int) ^ (m - 8).toNat ≠ 0 from by omega)) (Int.emod_lt_of_pos a hp))
          clear hstep hmt hq
          go_wp2_with fail
          refine (emit_dec_yes B g _ _ _ HBu2.out he0 he1 (by have h1 := HR.out.2.2.2.2.2.2.2; have h2 := HR2.out.2.2.2.2.2.2.2; have h3 := List.length_filter_le (fun p : Int × Bool => p.2) (es ++ xs.map fun x => (x, true)); rw [List.length_append, List.length_map] at h3; rw [List.length_map]; omega)).mono ?_
          rintro e w1 ⟨rfl, hb1, hbe1⟩
          have HBu3 := Aside0.mk hb1
          have HBe3 := Aside0.mk (HBe2.out.trans hbe1)
          clear hb1 hbe1
          go_wp2
          go_roundg f
          case measure => omega
          case rel =>
            refine ⟨a % 2 ^ (m - 8).toNat, m - 8, xs ++ [a / 2 ^ (m - 8).toNat], rfl, rfl, ⟨?_⟩, ⟨?_⟩, HBe3⟩
            · have h := HR2.out
              rw [HST.out] at h
              refine ⟨by omega, by omega, HEM.out.1, HEM.out.2, by omega, ?_, h.2.2.2.2.2.2.1, ?_⟩
              · rw [← h.2.2.2.2.2.1]
                simp
              · rw [List.length_append, List.length_singleton]
                have := h.2.2.2.2.2.2.2
                omega
            · have h := HBu3.out
              simpa using h
        · have d2 : decide (8 ≤ m) = false := decide_eq_false c2
          have hm6 : m < 8 := by omega
          have hdone := drn_done (tw := 8) (f := gk) (n := m.toNat) (a := a) (by omega)
          have HD := Aside0.mk hdone
          clear hdone c2
          go_wp2
          go_roundg (vs.length - (j + 1).toNat)
          case measure => have := HR.out; omega
          case rel =>
            have h := HR2.out
            rw [HD.out] at h
            refine ⟨a, m, j + 1, es ++ xs.map fun x => (x, true), rfl, rfl, rfl, ⟨⟨by omega, by omega, by omega, by have := h.2.2.2.2.2.2.2; omega, h.2.2.1, h.2.2.2.1, ?_, ?_⟩⟩, HBu2, HBe2⟩
            · rw [← HR.out.2.2.2.2.2.2.1, HVE.out, rg, show (2 : Int) ^ 6 = 64 from rfl, ← h.2.2.2.2.2.2.1, ← h.2.2.2.2.2.1]
              simp [show (j + 1).toNat = j.toNat + 1 from by omega]
            · rw [List.length_append, List.length_map]
              have := HR.out.2.2.2.2.2.2.2
              have := h.2.2.2.2.2.2.2
              omega
    · have d1 : decide (j < (vs.length : Int)) = false := decide_eq_false c1
      have hd : vs.drop j.toNat = [] := List.drop_eq_nil_of_le (by omega)
      have HD := Aside0.mk hd
      clear hd c1
      by_cases c3 : 0 < n
      · have d3 : decide (0 < n) = true := decide_eq_true c3
        have he0 : 0 ≤ acc * 2 ^ (8 - n).toNat := Int.mul_nonneg ha0 (Int.le_of_lt (Int.pow_pos (by decide)))
        have he1 : acc * 2 ^ (8 - n).toNat < 256 := by
          have h1 := HR.out.2.2.2.2.2.1
          have hp : (0 : Int) < 2 ^ (8 - n).toNat := Int.pow_pos (by decide)
          have h2 := Int.mul_lt_mul_of_pos_right h1 hp
          rw [← Int.pow_add, show n.toNat + (8 - n).toNat = 8 from by omega] at h2
          exact h2
        have HTN := Aside0.mk (show (8 - n).toNat = 8 - n.toNat from by omega)
        go_wp2_with fail
        refine (emit_dec_no B g _ _ _ HBu.out).mono ?_
        rintro e w1 ⟨rfl, hb1, hbe1⟩
        have HBu3 := Aside0.mk hb1
        have HBe3 := Aside0.mk (HBe.out.trans hbe1)
        clear hb1 hbe1
        go_wp2
        go_end0
        refine ⟨rfl, ?_, HBe3.out⟩
        rw [← HR.out.2.2.2.2.2.2.1, HD.out, rg, if_pos (by omega), ← HTN.out]
        simpa using HBu3.out
      · have d3 : decide (0 < n) = false := decide_eq_false c3
        go_wp2
        go_end0
        refine ⟨rfl, ?_, HBe.out⟩
        rw [← HR.out.2.2.2.2.2.2.1, HD.out, rg, if_neg (by omega), List.append_nil]
        exact HBu.out

end Go.Proofs.YtogimlinfkbapaaDoor.HBase
/- base.Encode, base.Decode, the signs. -/
namespace Go.Proofs.YtogimlinfkbapaaDoor.HEnc
open Go.RowKit Go.Proofs.YtogimlinfkbapaaDoorW.PrintWords Go.Proofs.YtogimlinfkbapaaDoor.HLib Go.Proofs.YtogimlinfkbapaaDoor.HBuild Go.Proofs.YtogimlinfkbapaaDoor.HBaseS Go.Proofs.YtogimlinfkbapaaDoor.HBase
set_option linter.unusedVariables false
set_option linter.unusedSimpArgs false

theorem info_int : (Tryd.prog.info? 3).map (fun i => (i.zero, i.size, i.bytes)) = some (some (.int .i64 0), 1, 8) := by kernel_rfl

/-- The text of bytes. -/
def encS (b : List Int) : ByteArray := strOfNums ((rg 8 6 b 0 0).map fun p => sign p.1)

theorem cells_bytes (xs : List Int) (h : ∀ x ∈ xs, 0 ≤ x ∧ x < 256) : (xs.map fun x => Value.int .u8 x) = Lib.byteCells (xs.map fun n => UInt8.ofNat n.toNat) := by
  unfold Lib.byteCells
  rw [List.map_map]
  refine List.map_congr_left fun x hx => ?_
  have := h x hx
  simp only [Function.comp]
  congr 1
  have : (UInt8.ofNat x.toNat).toNat = x.toNat := by
    rw [UInt8.toNat_ofNat']
    omega
  omega

theorem put_list (b : List Int) (j : Nat) (h : j < b.length) : (b.take j ++ List.replicate (b.length - j) 0).set j (b.getD j 0) = b.take (j + 1) ++ List.replicate (b.length - (j + 1)) 0 := by
  have hl : (b.take j).length = j := by rw [List.length_take]; omega
  rw [List.set_append_right (h := by omega), hl, Nat.sub_self, show b.length - j = (b.length - (j + 1)) + 1 from by omega, List.replicate_succ, List.set_cons_zero, List.take_add_one, List.append_assoc, List.getD_eq_getElem?_getD, List.getElem?_eq_getElem h]
  rfl

set_option maxHeartbeats 4000000 in
theorem encode_any (w : World) (v : Value) (b : List Int) (h : Bs w v b) (hb : ∀ x ∈ b, 0 ≤ x ∧ x < 256) (hl : b.length ≤ 1099511627776) :
    Calls Tryd.prog 26 #[v] w fun e w' => e = .returned (.string (encS b)) ∧ Below w.heap.size w w' := by
  obtain ⟨A, c, rfl, hc, hC, hn⟩ := h
  have HC := Aside0.mk hC
  have HBY := Aside0.mk hb
  have HL := Aside0.mk hl
  have hmk := print_make (P := Tryd.prog) 83 3 .i64 8 Tryd.underlying83 info_int (by decide) b.length (by omega)
  clear hC hb hc hn hl
  go_enter Tryd.func26, Tryd.ntmps26
  go_wp2
  go_loopg [4, 5, 12] b.length (fun kq v4 v5 v12 w' => ∃ (j : Int), v12 = .int .i64 j ∧ Aside0 (0 ≤ j ∧ (kq : Int) + j = b.length) ∧
    Aside0 (Kd.R (Kd.int .i64) 3 w' w.heap.size (fun _ => True) (.slice (some ⟨w.heap.size, 0, none⟩) b.length b.length) (b.take j.toNat ++ List.replicate (b.length - j.toNat) 0)) ∧ Aside0 (Below w.heap.size w w') ∧ Aside0 (w'.heap.size = w.heap.size + 1))
  case atStart =>
    refine ⟨0, rfl, ⟨⟨by omega, by omega⟩⟩, ⟨?_⟩, ⟨below_alloc (B0 w) _⟩, ⟨by simp⟩⟩
    have h := own_made w w.heap.size 3 .i64 b.length (Nat.le_refl _) (by have := HL.out; omega)
    refine Kd.R_of_own (enc := Value.int .i64) (h1 := fun _ => rfl) (ok := fun _ => True) ?_ (fun _ _ => trivial)
    rw [show b.take (0 : Int).toNat ++ List.replicate (b.length - (0 : Int).toNat) 0 = List.replicate b.length (0 : Int) from rfl, List.length_replicate]
    exact h
  case round =>
    obtain ⟨j, rfl, HA, HO, HB, HZ⟩ := hrel
    have hj0 := HA.out.1
    have hjm : j ≤ 1099511627776 := by have := HA.out; have := HL.out; omega
    by_cases c1 : j < b.length
    · have d1 : decide (j < (b.length : Int)) = true := decide_eq_true c1
      obtain ⟨ad, rfl, hx⟩ := Kd.at_int (Kd.C_below HC.out HB.out) j hj0 c1
      have hbb : 0 ≤ rd b j ∧ rd b j < 256 := by
        refine HBY.out _ ?_
        unfold rd
        rw [List.getD_eq_getElem?_getD, List.getElem?_eq_getElem (show j.toNat < b.length by omega)]
        exact List.getElem_mem _
      obtain ⟨hb0, hb1⟩ := hbb
      obtain ⟨hcc, hfz⟩ := Kd.R_celln (0 : Int) HO.out j hj0 c1
      have HP := Aside0.mk (Kd.R_putn HO.out j (rd b j))
      have HSZ := Aside0.mk (show ∀ u, (wr.setCell ⟨w.heap.size, j.toNat, none⟩ u).heap.size = w.heap.size + 1 from fun u => by simp [World.setCell, HZ.out])
      go_wp2
      repeat (go_quiet (fail); try go_wp2)
      go_roundg (b.length - (j + 1).toNat)
      case measure => have := HA.out; omega
      case rel =>
        refine ⟨j + 1, rfl, ⟨⟨by omega, by omega⟩⟩, ⟨?_⟩, ⟨HB.out.setCell (p := ⟨w.heap.size, j.toNat, none⟩) (Nat.le_refl _) _⟩, ⟨HSZ.out _⟩⟩
        have h := HP.out
        rw [show rd b j = b.getD j.toNat 0 from rfl, put_list b j.toNat (by omega)] at h
        rw [show (j + 1).toNat = j.toNat + 1 from by omega]
        exact h
    · have d1 : decide (j < (b.length : Int)) = false := decide_eq_false c1
      have HE := Aside0.mk (show b.take j.toNat ++ List.replicate (b.length - j.toNat) 0 = b from by
        rw [List.take_of_length_le (by have := HA.out; omega), show b.length - j.toNat = 0 from by have := HA.out; omega]
        simp)
      have HRd := Aside0.mk (Kd.R_reads HO.out)
      clear c1
      go_wp2_with fail
      obtain ⟨A2, c2, hv2, hc2, hC2⟩ := HRd.out
      injection hv2 with e1 e2 e3
      rw [HE.out] at hC2
      have HC2 := Aside0.mk hC2
      have HLe := Aside0.mk e2
      clear hC2 e2 hc2
      subst e1 e3
      refine (regroup_enc wr.heap.size wr.heap.size _ _ b _ (Kd.C_alloc HC2.out _) HBY.out (by rintro ad h; injection h with h; subst h; have := HZ.out; show w.heap.size < _; omega) (Lib.fresh_isBuilder _ _ wr) (by rw [World.size_alloc]; omega) (by have := HL.out; omega)).mono ?_
      rintro e w1 ⟨rfl, hbu, hbe⟩
      have HBu := Aside0.mk hbu
      have HBe := Aside0.mk hbe
      clear hbu hbe
      go_wp2_with fail
      have hq : ((rg 8 6 b 0 0).map fun p => Value.int .u8 (sign p.1)) = Lib.byteCells (((rg 8 6 b 0 0).map fun p => sign p.1).map fun n => UInt8.ofNat n.toNat) := by
        rw [← cells_bytes _ (fun x hx => ?_), List.map_map]
        · rfl
        · obtain ⟨p, _, rfl⟩ := List.mem_map.1 hx
          exact sign_byte _
      have hbu := HBu.out
      rw [hq] at hbu
      have hsz := HBe.out.size
      rw [World.size_alloc] at hsz
      have hcs : Calls Tryd.prog 51 #[.pointer (some ⟨wr.heap.size, 0, none⟩)] w1 fun e w' => e = .returned (.string (encS b)) ∧ Below wr.heap.size w1 w' := Tryd.Builder_String_any wr.heap.size wr.heap.size _ w1 hbu (by omega)
      refine hcs.mono ?_
      rintro e w2 ⟨rfl, hb2⟩
      have HB2 := Aside0.mk hb2
      have HSB := Aside0.mk hsz
      clear hb2 hsz hbu hq
      go_wp2
      go_ret
      refine ⟨rfl, (below_alloc HB.out _).trans ((HBe.out.trans HB2.out).mono HB.out.size)⟩

theorem info_u8' : (Tryd.prog.info? 22).map (fun i => (i.zero, i.size)) = some (some (.slice none 0 0), 1) := by kernel_rfl

def vidx (c : Int) : Int := Lib.indexByte alpha.data.toList c.toNat.toUInt8
set_option maxHeartbeats 1000000 in
theorem value_any (c : Int) (w : World) : Calls Tryd.prog 54 #[.int .u8 c] w fun e w' => e = .returned (.tuple #[.int .i64 (max (vidx c) 0), .bool (decide (0 ≤ vidx c))]) ∧ w' = w := by
  go_enter Tryd.func54, Tryd.ntmps54
  go_wp2_with fail
  have hcs : Calls Tryd.prog 67 #[.string alpha, .int .u8 c] w fun e w' => e = .returned (.int .i64 (vidx c)) ∧ w' = w := Tryd.strings_IndexByte alpha c w
  refine hcs.mono ?_
  rintro e w1 ⟨rfl, rfl⟩
  go_wp2
  go_ret2
  exact ⟨rfl, rfl⟩

theorem vidx_lt (c : Int) : -1 ≤ vidx c ∧ vidx c < 64 := by
  refine ⟨Lib.indexByte_ge _ _, ?_⟩
  by_cases h : vidx c < 64
  · exact h
  · obtain ⟨o, ho⟩ := Int.eq_ofNat_of_zero_le (show 0 ≤ vidx c by omega)
    have h2 := (Lib.indexByte_some (o := o) ho).1
    have h3 : o < alpha.data.toList.length := by
      by_cases h4 : o < alpha.data.toList.length
      · exact h4
      · rw [List.getElem?_eq_none (by omega)] at h2; cases h2
    have h4 : alpha.data.toList.length = 64 := rfl
    omega

end Go.Proofs.YtogimlinfkbapaaDoor.HEnc
/- base.Decode. -/
namespace Go.Proofs.YtogimlinfkbapaaDoor.HDec
open Go.RowKit Go.Proofs.YtogimlinfkbapaaDoorW.PrintWords Go.Proofs.YtogimlinfkbapaaDoor.HLib Go.Proofs.YtogimlinfkbapaaDoor.HBuild Go.Proofs.YtogimlinfkbapaaDoor.HBaseS Go.Proofs.YtogimlinfkbapaaDoor.HBase Go.Proofs.YtogimlinfkbapaaDoor.HEnc
set_option linter.unusedVariables false
set_option linter.unusedSimpArgs false

/-- The values of a text's signs. -/
def vids (s : ByteArray) : List Int := (List.range s.size).map fun (i : Nat) => vidx (bt s i)
def badAt (s : ByteArray) : Option Nat := (List.range s.size).find? fun (i : Nat) => decide (vidx (bt s i) < 0)
def outOf (s : ByteArray) : List Int := ((rg 6 8 (vids s) 0 0).filter (·.2)).map (·.1)
def decP (s : ByteArray) : List Int × Int :=
  match badAt s with
  | some i => ([], i)
  | none => if encS (outOf s) = s then (outOf s, -1) else ([], s.size - 1)

theorem vids_len (s : ByteArray) : (vids s).length = s.size := by simp [vids]
theorem vids_get (s : ByteArray) (j : Nat) (h : j < s.size) : (vids s).getD j 0 = vidx (bt s j) := by
  rw [List.getD_eq_getElem?_getD, List.getElem?_eq_getElem (by rw [vids_len]; exact h)]
  simp [vids]
theorem decP_bad {s : ByteArray} {j : Nat} (h : ∀ i : Nat, i < j → 0 ≤ vidx (bt s i)) (hj : j < s.size) (hb : vidx (bt s j) < 0) : decP s = ([], (j : Int)) := by
  have : badAt s = some j := by
    unfold badAt
    rw [List.find?_range_eq_some]
    exact ⟨decide_eq_true hb, List.mem_range.2 hj, fun i hi => by have := h i hi; simp; omega⟩
  rw [decP, this]
theorem badAt_none {s : ByteArray} (h : ∀ i : Nat, i < s.size → 0 ≤ vidx (bt s i)) : badAt s = none := by
  unfold badAt
  rw [List.find?_eq_none]
  intro i hi
  have := h i (List.mem_range.1 hi)
  simp
  omega
theorem outOf_bound (s : ByteArray) (h : ∀ i : Nat, i < s.size → 0 ≤ vidx (bt s i)) : ∀ x ∈ outOf s, 0 ≤ x ∧ x < 256 := by
  intro x hx
  obtain ⟨p, hp, rfl⟩ := List.mem_map.1 hx
  refine rg_bound 6 8 (by decide) (by decide) (vids s) 0 0 (fun v hv => ?_) (by decide) (by decide) (by decide) p (List.mem_filter.1 hp).1
  obtain ⟨i, hi, rfl⟩ := List.mem_map.1 hv
  have h1 := h i (List.mem_range.1 hi)
  have h2 := vidx_lt (bt s i)
  have h3 : (2 : Int) ^ 6 = 64 := rfl
  omega
theorem outOf_len (s : ByteArray) : (outOf s).length ≤ 16 * s.size + 1 := by
  have h1 := rg_len 6 8 (vids s) 0 0
  rw [vids_len] at h1
  have h2 := List.length_filter_le (·.2) (rg 6 8 (vids s) 0 0)
  rw [outOf, List.length_map]
  omega

set_option maxHeartbeats 4000000 in
theorem decode_any (w : World) (s : ByteArray) (hl : s.size ≤ 17592186044) :
    Calls Tryd.prog 34 #[.string s] w fun e w' => ∃ v, e = .returned (.tuple #[v, .int .i64 (decP s).2]) ∧ Bs w' v (decP s).1 ∧ Below w.heap.size w w' := by
  have HL := Aside0.mk hl
  have hmk := print_make (P := Tryd.prog) 83 3 .i64 8 Tryd.underlying83 info_int (by decide) s.size (by omega)
  clear hl
  go_enter Tryd.func34, Tryd.ntmps34
  go_wp2
  go_loopg [5, 6, 7, 14] s.size (fun kq v5 v6 v7 v14 w' => ∃ (j : Int), v14 = .int .i64 j ∧ Aside0 (0 ≤ j ∧ (kq : Int) + j = s.size ∧ ∀ i : Nat, i < j.toNat → 0 ≤ vidx (bt s i)) ∧
    Aside0 (Kd.R (Kd.int .i64) 3 w' w.heap.size (fun _ => True) (.slice (some ⟨w.heap.size, 0, none⟩) s.size s.size) ((vids s).take j.toNat ++ List.replicate (s.size - j.toNat) 0)) ∧ Aside0 (Below w.heap.size w w') ∧ Aside0 (w'.heap.size = w.heap.size + 1))
  case atStart =>
    refine ⟨0, rfl, ⟨⟨by omega, by omega, fun i hi => by omega⟩⟩, ⟨?_⟩, ⟨below_alloc (B0 w) _⟩, ⟨by simp⟩⟩
    have h := own_made w w.heap.size 3 .i64 s.size (Nat.le_refl _) (by have := HL.out; omega)
    refine Kd.R_of_own (enc := Value.int .i64) (h1 := fun _ => rfl) (ok := fun _ => True) ?_ (fun _ _ => trivial)
    rw [show (vids s).take (0 : Int).toNat ++ List.replicate (s.size - (0 : Int).toNat) 0 = List.replicate s.size (0 : Int) from rfl, List.length_replicate]
    exact h
  case round =>
    obtain ⟨j, rfl, HA, HO, HB, HZ⟩ := hrel
    have hj0 := HA.out.1
    have hjm : j ≤ 1099511627776 := by have := HA.out; have := HL.out; omega
    by_cases c1 : j < s.size
    · have d1 : decide (j < (s.size : Int)) = true := decide_eq_true c1
      go_wp2_with fail
      rw [bt_at s j]
      refine (value_any _ _).mono ?_
      rintro e w1 ⟨rfl, rfl⟩
      have HV := Aside0.mk (show (vids s).getD j.toNat 0 = vidx (bt s j) from by
        rw [vids_get s j.toNat (by omega), show ((j.toNat : Nat) : Int) = j from by omega])
      obtain ⟨V, hV⟩ : ∃ V, V = vidx (bt s j) := ⟨_, rfl⟩
      have HVE := Aside0.mk hV
      rw [← hV]
      clear hV
      by_cases c2 : 0 ≤ V
      · have d2 : decide (0 ≤ V) = true := decide_eq_true c2
        have d3 : max V 0 = V := by omega
        obtain ⟨hcc, hfz⟩ := Kd.R_celln (0 : Int) HO.out j hj0 c1
        have HP := Aside0.mk (Kd.R_putn HO.out j V)
        have HSZ := Aside0.mk (show ∀ u, (w1.setCell ⟨w.heap.size, j.toNat, none⟩ u).heap.size = w.heap.size + 1 from fun u => by simp [World.setCell, HZ.out])
        rw [d2, d3]
        go_wp2
        repeat (go_quiet (fail); try go_wp2)
        go_roundg (s.size - (j + 1).toNat)
        case measure => have := HA.out; omega
        case rel =>
          refine ⟨j + 1, rfl, ⟨⟨by omega, by omega, fun i hi => ?_⟩⟩, ⟨?_⟩, ⟨HB.out.setCell (p := ⟨w.heap.size, j.toNat, none⟩) (Nat.le_refl _) _⟩, ⟨HSZ.out _⟩⟩
          · by_cases hij : i < j.toNat
            · exact HA.out.2.2 i hij
            · rw [show i = j.toNat from by omega, show ((j.toNat : Nat) : Int) = j from by omega, ← HVE.out]
              exact c2
          · have h := HP.out
            have h2 := put_list (vids s) j.toNat (by rw [vids_len]; omega)
            rw [vids_len, HV.out, ← HVE.out] at h2
            rw [h2] at h
            rw [show (j + 1).toNat = j.toNat + 1 from by omega]
            exact h
      · have d2 : decide (0 ≤ V) = false := decide_eq_false c2
        have HD := Aside0.mk (decP_bad (s := s) (j := j.toNat) HA.out.2.2 (by omega) (by rw [show ((j.toNat : Nat) : Int) = j from by omega, ← HVE.out]; omega))
        have HJ := Aside0.mk (show ((j.toNat : Nat) : Int) = j from by omega)
        rw [d2]
        go_wp2
        go_ret2
        rw [HD.out, HJ.out]
        exact ⟨_, rfl, Bs.nil _, HB.out⟩
    · have d1 : decide (j < (s.size : Int)) = false := decide_eq_false c1
      have hsz1 : (s.size : Int) ≤ 17592186044 := by have := HL.out; omega
      have hjs : j.toNat = s.size := by have := HA.out; omega
      have hgood : ∀ i : Nat, i < s.size → 0 ≤ vidx (bt s i) := fun i hi => HA.out.2.2 i (by omega)
      have HE := Aside0.mk (show (vids s).take j.toNat ++ List.replicate (s.size - j.toNat) 0 = vids s from by
        rw [List.take_of_length_le (by rw [vids_len]; omega), show s.size - j.toNat = 0 from by omega]
        simp)
      have HBN := Aside0.mk (badAt_none hgood)
      have HOB := Aside0.mk (outOf_bound s hgood)
      have HVB := Aside0.mk (show ∀ v ∈ vids s, 0 ≤ v ∧ v < 64 from fun v hv => by
        obtain ⟨i, hi, rfl⟩ := List.mem_map.1 hv
        exact ⟨hgood i (List.mem_range.1 hi), (vidx_lt _).2⟩)
      have HRd := Aside0.mk (Kd.R_reads HO.out)
      clear c1 hgood hjs
      go_wp2_with fail
      obtain ⟨A2, c2, hv2, hc2, hC2⟩ := HRd.out
      injection hv2 with e1 e2 e3
      rw [HE.out, vids_len] at hC2
      have HC2 := Aside0.mk hC2
      clear hC2 hc2 e2
      subst e1 e3
      have HC3 := Aside0.mk (Kd.C_alloc HC2.out (.cells #[.slice none 0 0] 22 (0, 0)))
      have hcall := regroup_dec wr.heap.size wr.heap.size (some ⟨w.heap.size, 0, none⟩) s.size (vids s) (wr.alloc (.cells #[.slice none 0 0] 22 (0, 0))) (by rw [vids_len]; exact HC3.out) HVB.out (by rintro ad h; injection h with h; subst h; have := HZ.out; show w.heap.size < _; omega) ⟨Nat.le_refl _, _, blk_new _ _, Kd.R_nil _ _ _ _ _⟩ (by rw [World.size_alloc]; omega) (by rw [vids_len]; have := HL.out; omega)
      rw [vids_len] at hcall
      refine hcall.mono ?_
      rintro e w1 ⟨rfl, ⟨hgB, v, hg, hR⟩, hbe⟩
      obtain ⟨os, hos⟩ : ∃ os, os = outOf s := ⟨_, rfl⟩
      have HOS := Aside0.mk hos
      have hR : Kd.R (Kd.int .u8) 5 w1 wr.heap.size (fun k => k ≠ wr.heap.size) v os := hos ▸ hR
      clear hos
      have HBe := Aside0.mk hbe
      have HBs := Aside0.mk (Bs.of_R hR)
      obtain ⟨A3, c3, rfl, _, _⟩ := Kd.R_reads hR
      have HG := Aside0.mk hg
      have f1 := (blk_cell hg 0).trans (show _ = some _ from rfl)
      have HW1 := Aside0.mk (show w.heap.size ≤ w1.heap.size from by have h1 := hbe.size; rw [World.size_alloc] at h1; have h2 := HB.out.size; omega)
      clear hbe hcall hR hgB hg
      go_wp2_with fail
      refine (encode_any w1 _ os HBs.out (by rw [HOS.out]; exact HOB.out) (by rw [HOS.out]; have := outOf_len s; have := HL.out; omega)).mono ?_
      rintro e w2 ⟨rfl, hb2⟩
      have HB2 := Aside0.mk hb2
      have f2 := (blk_cell (blk_below HG.out hb2) 0).trans (show _ = some _ from rfl)
      have HBs2 := Aside0.mk (HBs.out.below hb2)
      have HBW := Aside0.mk (((below_alloc HB.out _).trans (HBe.out.mono HB.out.size)).trans (hb2.mono HW1.out))
      clear hb2
      obtain ⟨E, hE⟩ : ∃ E, E = encS os := ⟨_, rfl⟩
      have HE2 := Aside0.mk (show E = encS (outOf s) from by rw [hE, HOS.out])
      rw [← hE]
      clear hE
      by_cases ce : E = s
      · have HD := Aside0.mk (show decP s = (outOf s, -1) from by rw [decP, HBN.out]; exact if_pos (HE2.out ▸ ce))
        have ce2 : (E.toList == s.toList) = true := by rw [beq_iff_eq, ce]
        clear ce
        go_wp2
        go_ret2
        rw [HD.out, ← HOS.out]
        exact ⟨_, rfl, HBs2.out, HBW.out⟩
      · have HD := Aside0.mk (show decP s = ([], (s.size : Int) - 1) from by rw [decP, HBN.out]; exact if_neg (HE2.out ▸ ce))
        have ce2 : (E.toList == s.toList) = false := by rw [beq_eq_false_iff_ne, ByteArray.toList_eq, ByteArray.toList_eq]; exact fun h => ce (ByteArray.ext (Array.toList_inj.mp h))
        clear ce
        go_wp2
        go_ret2
        rw [HD.out]
        exact ⟨_, rfl, Bs.nil _, HBW.out⟩

end Go.Proofs.YtogimlinfkbapaaDoor.HDec
/- The plain law of base: groups of bts. No program here. -/
namespace Go.Proofs.YtogimlinfkbapaaDoor.HBaseL
open Go.RowKit Go.Proofs.YtogimlinfkbapaaDoorW.PrintWords Go.Proofs.YtogimlinfkbapaaDoor.HBaseS
set_option linter.unusedVariables false

def bts : Nat → Int → List Int
  | 0, _ => []
  | m + 1, v => bts m (v / 2) ++ [v % 2]
def val (l : List Int) : Int := l.foldl (fun a x => 2 * a + x) 0
/-- Full groups. -/
def chs (tw : Nat) (l : List Int) : List Int := (List.range (l.length / tw)).map fun i => val ((l.drop (tw * i)).take tw)
def padn (tw n : Nat) : Nat := (tw - n % tw) % tw
def pad (tw : Nat) (l : List Int) : List Int := l ++ List.replicate (padn tw l.length) 0

theorem bts_len (m : Nat) : ∀ v, (bts m v).length = m := by
  induction m with
  | zero => intro v; rfl
  | succ m ih => intro v; rw [bts, List.length_append, ih]; rfl
theorem bts_01 (m : Nat) : ∀ v, ∀ x ∈ bts m v, x = 0 ∨ x = 1 := by
  induction m with
  | zero => intro v x h; cases h
  | succ m ih =>
    intro v x h
    rw [bts, List.mem_append, List.mem_singleton] at h
    rcases h with h | h
    · exact ih _ x h
    · omega
theorem val_snoc (l : List Int) (x : Int) : val (l ++ [x]) = 2 * val l + x := by simp [val, List.foldl_append]
theorem val_bts (m : Nat) : ∀ v : Int, 0 ≤ v → v < 2 ^ m → val (bts m v) = v := by
  induction m with
  | zero => intro v h0 h1; simp [bts, val]; simp at h1; omega
  | succ m ih =>
    intro v h0 h1
    rw [Int.pow_succ] at h1
    rw [bts, val_snoc, ih (v / 2) (by omega) (by omega)]
    omega
theorem val_zeros (l : List Int) (k : Nat) : val (l ++ List.replicate k 0) = val l * 2 ^ k := by
  induction k with
  | zero => simp
  | succ k ih => rw [List.replicate_succ', ← List.append_assoc, val_snoc, ih, Int.pow_succ]; rw [Int.add_zero, Int.mul_left_comm, Int.mul_comm 2]
theorem bts_append (n m : Nat) : ∀ (a v : Int), 0 ≤ v → v < 2 ^ m → bts (n + m) (a * 2 ^ m + v) = bts n a ++ bts m v := by
  induction m with
  | zero => intro a v h0 h1; simp at h1; have : v = 0 := by omega
            subst this; simp [bts]
  | succ m ih =>
    intro a v h0 h1
    rw [Int.pow_succ] at h1
    rw [show n + (m + 1) = (n + m) + 1 from rfl, bts, bts, ← List.append_assoc, ← ih a (v / 2) (by omega) (by omega)]
    rw [Int.pow_succ, ← Int.mul_assoc]
    congr 2
    · congr 1; omega
    · omega
theorem val_range {tw : Nat} : ∀ (l : List Int), (∀ x ∈ l, x = 0 ∨ x = 1) → l.length = tw → 0 ≤ val l ∧ val l < 2 ^ tw ∧ bts tw (val l) = l := by
  induction tw with
  | zero => intro l _ h; rw [List.length_eq_zero_iff.1 h]; simp [val, bts]
  | succ tw ih =>
    intro l h h2
    obtain ⟨l', x, rfl⟩ : ∃ l' x, l = l' ++ [x] := ⟨l.dropLast, l.getLast (by intro e; rw [e] at h2; cases h2), (List.dropLast_concat_getLast _).symm⟩
    have hx := h x (by simp)
    obtain ⟨q1, q2, q3⟩ := ih l' (fun y hy => h y (by simp [hy])) (by simpa using h2)
    rw [val_snoc, bts, Int.pow_succ]
    refine ⟨by omega, by omega, ?_⟩
    rw [show (2 * val l' + x) / 2 = val l' from by omega, show (2 * val l' + x) % 2 = x from by omega, q3]
theorem flat_len (fr : Nat) (vs : List Int) : (vs.flatMap (bts fr)).length = fr * vs.length := by
  induction vs with
  | nil => simp
  | cons v vs ih => rw [List.flatMap_cons, List.length_append, bts_len, ih, List.length_cons, Nat.mul_succ, Nat.add_comm]
theorem flat_01 (fr : Nat) (vs : List Int) : ∀ x ∈ vs.flatMap (bts fr), x = 0 ∨ x = 1 := by
  intro x hx
  obtain ⟨v, _, h⟩ := List.mem_flatMap.1 hx
  exact bts_01 _ _ x h

theorem chs_cons {tw : Nat} (h0 : 0 < tw) {l : List Int} (h : tw ≤ l.length) : chs tw l = val (l.take tw) :: chs tw (l.drop tw) := by
  unfold chs
  have e : l.length / tw = (l.drop tw).length / tw + 1 := by
    rw [List.length_drop, Nat.div_eq_sub_div h0 h]
  rw [e, List.range_succ_eq_map, List.map_cons, List.map_map]
  simp only [Nat.mul_zero, List.drop_zero]
  congr 1
  refine List.map_congr_left fun i _ => ?_
  simp only [Function.comp, List.drop_drop]
  rw [show tw * Nat.succ i = tw + tw * i from by rw [Nat.mul_succ, Nat.add_comm]]
theorem chs_short {tw : Nat} {l : List Int} (h : l.length < tw) : chs tw l = [] := by
  unfold chs
  rw [Nat.div_eq_of_lt h]
  rfl

def G (tw : Nat) (l : List Int) : List (Int × Bool) :=
  (chs tw l).map (fun x => (x, true)) ++ if l.length % tw = 0 then [] else [(val (l.drop (tw * (l.length / tw)) ++ List.replicate (tw - l.length % tw) 0), false)]
theorem G_cons {tw : Nat} (h0 : 0 < tw) {l : List Int} (h : tw ≤ l.length) : G tw l = (val (l.take tw), true) :: G tw (l.drop tw) := by
  unfold G
  have e1 : (l.drop tw).length % tw = l.length % tw := by rw [List.length_drop]; exact (Nat.mod_eq_sub_mod h).symm
  have e2 : l.length / tw = (l.drop tw).length / tw + 1 := by rw [List.length_drop, Nat.div_eq_sub_div h0 h]
  rw [chs_cons h0 h, e1, e2, List.map_cons, List.cons_append, List.drop_drop, Nat.mul_succ, Nat.add_comm (tw * _) tw]
theorem drn_G {tw : Nat} (h0 : 0 < tw) (r : List Int) : ∀ f n (a : Int), n ≤ f → 0 ≤ a → a < 2 ^ n →
    G tw (bts n a ++ r) = (drn tw f a n).1.map (fun x => (x, true)) ++ G tw (bts (drn tw f a n).2.2 (drn tw f a n).2.1 ++ r) := by
  intro f
  induction f with
  | zero => intro n a h h1 h2; rw [drn_done (by omega)]; rfl
  | succ f ih =>
    intro n a h h1 h2
    by_cases c : tw ≤ n
    · rw [drn_step c]
      have hp : (0 : Int) < 2 ^ (n - tw) := Int.pow_pos (by decide)
      have q1 := Int.emod_nonneg a (show (2 : Int) ^ (n - tw) ≠ 0 by omega)
      have q2 := Int.emod_lt_of_pos a hp
      have e : bts n a = bts tw (a / 2 ^ (n - tw)) ++ bts (n - tw) (a % 2 ^ (n - tw)) := by
        rw [← bts_append tw (n - tw) _ _ q1 q2, show tw + (n - tw) = n from by omega]
        congr 1
        rw [Int.mul_comm]
        exact (Int.mul_ediv_add_emod a (2 ^ (n - tw))).symm
      have hd : a / 2 ^ (n - tw) < 2 ^ tw := Int.ediv_lt_of_lt_mul hp (by rw [← Int.pow_add, show tw + (n - tw) = n from by omega]; exact h2)
      rw [e, List.append_assoc, G_cons h0 (by rw [List.length_append, bts_len]; omega)]
      rw [List.take_left' (bts_len _ _), List.drop_left' (bts_len _ _), val_bts tw _ (Int.ediv_nonneg h1 (by omega)) hd, ih (n - tw) _ (by omega) q1 q2]
      rfl
    · rw [drn_done (by omega)]; rfl
theorem rg_G {fr tw : Nat} (h0 : 0 < tw) (h16 : tw + fr ≤ 16) : ∀ (vs : List Int) (a : Int) (n : Nat), (∀ v ∈ vs, 0 ≤ v ∧ v < 2 ^ fr) → 0 ≤ a → a < 2 ^ n → n < tw →
    rg fr tw vs a n = G tw (bts n a ++ vs.flatMap (bts fr)) := by
  intro vs
  induction vs with
  | nil =>
    intro a n _ h1 h2 h3
    rw [List.flatMap_nil, List.append_nil, rg, G, chs_short (by rw [bts_len]; exact h3), bts_len, Nat.mod_eq_of_lt h3, Nat.div_eq_of_lt h3]
    by_cases c : n = 0
    · rw [if_neg (by omega), if_pos c]; rfl
    · rw [if_pos (by omega), if_neg c, Nat.mul_zero, List.drop_zero, val_zeros, val_bts n a h1 h2]; rfl
  | cons v vs ih =>
    intro a n hv h1 h2 h3
    have hvv := hv v (List.mem_cons_self ..)
    have hq : (0 : Int) < 2 ^ fr := Int.pow_pos (by decide)
    have hlt : a * 2 ^ fr + v < 2 ^ (n + fr) := by
      rw [Int.pow_add]
      have : (a + 1) * 2 ^ fr ≤ 2 ^ n * 2 ^ fr := Int.mul_le_mul_of_nonneg_right (by omega) (by omega)
      rw [Int.add_mul, Int.one_mul] at this
      omega
    have hge : 0 ≤ a * 2 ^ fr + v := by have := Int.mul_nonneg h1 (Int.le_of_lt hq); omega
    obtain ⟨q1, q2, q3, q4⟩ := drn_rest h0 16 (n + fr) (a * 2 ^ fr + v) (by omega) hge hlt
    rw [rg, List.flatMap_cons, ← List.append_assoc, ← bts_append n fr a v hvv.1 hvv.2, drn_G h0 _ 16 (n + fr) _ (by omega) hge hlt,
      ih _ _ (fun y hy => hv y (List.mem_cons_of_mem _ hy)) q1 q2 q3]

theorem rg_full {fr tw : Nat} (h0 : 0 < tw) (h16 : tw + fr ≤ 16) (vs : List Int) (hv : ∀ v ∈ vs, 0 ≤ v ∧ v < 2 ^ fr) :
    ((rg fr tw vs 0 0).filter (·.2)).map (·.1) = chs tw (vs.flatMap (bts fr)) := by
  rw [rg_G h0 h16 vs 0 0 hv (by decide) (by decide) h0, show bts 0 0 = [] from rfl, List.nil_append, G, List.filter_append, List.map_append]
  have e1 : ∀ l : List Int, ((l.map fun x => (x, true)).filter (·.2)).map (·.1) = l := by
    intro l
    induction l with
    | nil => rfl
    | cons x l ih => simp only [List.map_cons, List.filter_cons_of_pos, ih]
  rw [e1]
  split <;> simp
theorem chs_append_full {tw : Nat} (h0 : 0 < tw) : ∀ (k : Nat) (l r : List Int), l.length = tw * k → chs tw (l ++ r) = chs tw l ++ chs tw r := by
  intro k
  induction k with
  | zero => intro l r h; have e : l = [] := List.length_eq_zero_iff.1 (by simpa using h)
            rw [e, chs_short (l := []) (by simpa using h0)]; rfl
  | succ k ih =>
    intro l r h
    rw [Nat.mul_succ] at h
    rw [chs_cons h0 (l := l ++ r) (by rw [List.length_append]; omega), chs_cons h0 (l := l) (by omega), List.take_append_of_le_length (by omega), List.drop_append_of_le_length (by omega),
      ih _ _ (by rw [List.length_drop]; omega)]
    rfl
theorem chs_one {tw : Nat} (h0 : 0 < tw) {l : List Int} (h : l.length = tw) : chs tw l = [val l] := by
  rw [chs_cons h0 (by omega), chs_short (by rw [List.length_drop]; omega), List.take_of_length_le (by omega)]
theorem rg_all {fr tw : Nat} (h0 : 0 < tw) (h16 : tw + fr ≤ 16) (vs : List Int) (hv : ∀ v ∈ vs, 0 ≤ v ∧ v < 2 ^ fr) :
    (rg fr tw vs 0 0).map (·.1) = chs tw (pad tw (vs.flatMap (bts fr))) := by
  rw [rg_G h0 h16 vs 0 0 hv (by decide) (by decide) h0, show bts 0 0 = [] from rfl, List.nil_append, G, List.map_append, List.map_map]
  generalize vs.flatMap (bts fr) = l
  rw [show (chs tw l).map ((·.1) ∘ fun x => (x, true)) = chs tw l from by rw [show ((·.1) ∘ fun x : Int => (x, true)) = id from rfl, List.map_id]]
  have hm := Nat.mod_lt l.length h0
  by_cases c : l.length % tw = 0
  · rw [if_pos c, pad, padn, c, Nat.sub_zero, Nat.mod_self]
    simp
  · have hd := Nat.div_add_mod l.length tw
    rw [if_neg c, pad, padn, Nat.mod_eq_of_lt (show tw - l.length % tw < tw by omega)]
    have e : l ++ List.replicate (tw - l.length % tw) 0 = l.take (tw * (l.length / tw)) ++ (l.drop (tw * (l.length / tw)) ++ List.replicate (tw - l.length % tw) 0) := by
      rw [← List.append_assoc, List.take_append_drop]
    have e2 : chs tw (l.take (tw * (l.length / tw))) = chs tw l := by
      have h := chs_append_full h0 (l.length / tw) (l.take (tw * (l.length / tw))) (l.drop (tw * (l.length / tw))) (by rw [List.length_take]; omega)
      rw [List.take_append_drop, chs_short (l := l.drop _) (by rw [List.length_drop]; omega), List.append_nil] at h
      exact h.symm
    rw [e, chs_append_full h0 (l.length / tw) _ _ (by rw [List.length_take]; omega), e2, chs_one h0 (l := l.drop _ ++ _) (by rw [List.length_append, List.length_drop, List.length_replicate]; omega)]
    rfl
/-- Back. -/
theorem chs_of_bts {tw : Nat} (h0 : 0 < tw) (r : List Int) (hr : r.length < tw) : ∀ (xs : List Int), (∀ x ∈ xs, 0 ≤ x ∧ x < 2 ^ tw) → chs tw (xs.flatMap (bts tw) ++ r) = xs := by
  intro xs
  induction xs with
  | nil => intro _; rw [List.flatMap_nil, List.nil_append, chs_short hr]
  | cons x xs ih =>
    intro h
    rw [List.flatMap_cons, List.append_assoc, chs_cons h0 (by rw [List.length_append, bts_len]; omega), List.take_left' (bts_len _ _), List.drop_left' (bts_len _ _),
      ih (fun y hy => h y (List.mem_cons_of_mem _ hy)), val_bts tw x (h x (List.mem_cons_self ..)).1 (h x (List.mem_cons_self ..)).2]
theorem chs_split {tw : Nat} (h0 : 0 < tw) : ∀ (k : Nat) (l : List Int), l.length / tw = k → (∀ x ∈ l, x = 0 ∨ x = 1) → l = (chs tw l).flatMap (bts tw) ++ l.drop (tw * k) := by
  intro k
  induction k with
  | zero => intro l h _; rw [chs_short ((Nat.div_eq_zero_iff_lt h0).1 h)]; simp
  | succ k ih =>
    intro l h h1
    have hl : tw ≤ l.length := by
      have := Nat.div_add_mod l.length tw
      rw [h, Nat.mul_succ] at this
      omega
    obtain ⟨_, _, q⟩ := val_range (tw := tw) (l.take tw) (fun x hx => h1 x (List.mem_of_mem_take hx)) (by rw [List.length_take]; omega)
    have hk : (l.drop tw).length / tw = k := by
      rw [List.length_drop]
      have := Nat.div_eq_sub_div h0 hl
      omega
    rw [chs_cons h0 hl, List.flatMap_cons, q, List.append_assoc]
    have := ih (l.drop tw) hk (fun x hx => h1 x (List.mem_of_mem_drop hx))
    rw [List.drop_drop] at this
    rw [Nat.mul_succ, Nat.add_comm (tw * k) tw, ← this, List.take_append_drop]
theorem chs_range {tw : Nat} (h0 : 0 < tw) (l : List Int) (h : ∀ x ∈ l, x = 0 ∨ x = 1) : ∀ x ∈ chs tw l, 0 ≤ x ∧ x < 2 ^ tw := by
  intro x hx
  obtain ⟨i, hi, rfl⟩ := List.mem_map.1 hx
  have hi := List.mem_range.1 hi
  have h2 : (i + 1) * tw ≤ l.length := Nat.le_trans (Nat.mul_le_mul_right _ hi) (Nat.div_mul_le_self _ _)
  rw [Nat.succ_mul, Nat.mul_comm] at h2
  obtain ⟨q1, q2, _⟩ := val_range (tw := tw) ((l.drop (tw * i)).take tw) (fun x hx => h x (List.mem_of_mem_drop (List.mem_of_mem_take hx))) (by rw [List.length_take, List.length_drop]; omega)
  exact ⟨q1, q2⟩

end Go.Proofs.YtogimlinfkbapaaDoor.HBaseL
/- The reference of base. -/
namespace Go.Proofs.YtogimlinfkbapaaDoor.HRef04
open Go.RowKit Go.Proofs.YtogimlinfkbapaaDoorW.PrintWords Go.Proofs.YtogimlinfkbapaaDoor.HLib Go.Proofs.YtogimlinfkbapaaDoor.HBaseS Go.Proofs.YtogimlinfkbapaaDoor.HBase Go.Proofs.YtogimlinfkbapaaDoor.HEnc Go.Proofs.YtogimlinfkbapaaDoor.HDec Go.Proofs.YtogimlinfkbapaaDoor.HBaseL
set_option linter.unusedVariables false
set_option linter.unusedSimpArgs false

theorem alpha_get (k : Nat) (c : Int) (hc : 0 ≤ c ∧ c < 256) (hk : k < 64) : alpha.data.toList[k]? = some c.toNat.toUInt8 ↔ bt alpha k = c := by
  have hl : alpha.data.toList.length = 64 := rfl
  have hs : alpha.size = 64 := rfl
  rw [List.getElem?_eq_getElem (by omega), bt, dif_pos (show ((k : Nat) : Int).toNat < alpha.size by omega)]
  have e : alpha[((k : Nat) : Int).toNat]'(by omega) = alpha.data.toList[k]'(by omega) := rfl
  rw [e]
  constructor
  · intro h
    injection h with h
    rw [h, show c.toNat.toUInt8.toNat = c.toNat % 256 from rfl]
    omega
  · intro h
    congr 1
    apply UInt8.toNat_inj.1
    rw [show c.toNat.toUInt8.toNat = c.toNat % 256 from rfl]
    omega
theorem vidx_at (c : Int) (hc : 0 ≤ c ∧ c < 256) (j : Nat) (hj : j < 64) (h1 : bt alpha j = c) (h2 : ∀ k : Nat, k < j → bt alpha k ≠ c) : vidx c = j := by
  have hl : alpha.data.toList.length = 64 := rfl
  have hj1 := (alpha_get j c hc hj).2 h1
  rcases Int.lt_or_le (vidx c) 0 with h | h
  · have hv : vidx c = -1 := by have := vidx_lt c; omega
    exact absurd hj1 (Lib.indexByte_none hv j)
  · obtain ⟨o, ho⟩ := Int.eq_ofNat_of_zero_le h
    obtain ⟨q1, q2⟩ := Lib.indexByte_some (o := o) ho
    have ho64 : o < 64 := by have := vidx_lt c; omega
    rcases Nat.lt_trichotomy o j with h3 | h3 | h3
    · exact absurd ((alpha_get o c hc ho64).1 q1) (h2 o h3)
    · rw [ho, h3]
    · exact absurd hj1 (q2 j h3)
theorem vidx_none (c : Int) (hc : 0 ≤ c ∧ c < 256) (h : ∀ k : Nat, k < 64 → bt alpha k ≠ c) : vidx c = -1 := by
  rcases Int.lt_or_le (vidx c) 0 with h0 | h0
  · have := vidx_lt c; omega
  · obtain ⟨o, ho⟩ := Int.eq_ofNat_of_zero_le h0
    obtain ⟨q1, _⟩ := Lib.indexByte_some (o := o) ho
    have ho64 : o < 64 := by have := vidx_lt c; omega
    exact absurd ((alpha_get o c hc ho64).1 q1) (h o ho64)
theorem sign_vidx (c : Int) (hc : 0 ≤ c ∧ c < 256) (h0 : 0 ≤ vidx c) : sign (vidx c) = c := by
  obtain ⟨o, ho⟩ := Int.eq_ofNat_of_zero_le h0
  obtain ⟨q1, _⟩ := Lib.indexByte_some (o := o) ho
  have ho64 : o < 64 := by have := vidx_lt c; omega
  rw [ho]
  exact (alpha_get o c hc ho64).1 q1
theorem vidx_sign_all : ∀ v : Fin 64, vidx (sign (v.val : Int)) = (v.val : Int) := of_decide_eq_true (by kernel_rfl)
theorem vidx_sign (v : Int) (h0 : 0 ≤ v) (h1 : v < 64) : vidx (sign v) = v := by
  have := vidx_sign_all ⟨v.toNat, by omega⟩
  simp only at this
  rw [show ((v.toNat : Nat) : Int) = v from by omega] at this
  exact this

theorem alphabet_any (w : World) : Calls Tryd.prog 59 #[] w fun e w' => e = .returned (.string alpha) ∧ w' = w := by
  go_enter Tryd.func59, Tryd.ntmps59
  go_wp2
  go_ret
  exact ⟨rfl, rfl⟩

set_option maxHeartbeats 2000000 in
theorem refValue_any (c : Int) (w : World) (hc : 0 ≤ c ∧ c < 256) : Calls Tryd.prog 57 #[.int .u8 c] w fun e w' => e = .returned (.int .i64 (vidx c)) ∧ ∃ m, w' = w.drewN m := by
  have HC := Aside0.mk hc
  clear hc
  go_enter Tryd.func57, Tryd.ntmps57
  go_wp2_with fail
  refine (alphabet_any _).mono ?_
  rintro e w1 ⟨rfl, rfl⟩
  obtain ⟨S, hS⟩ : ∃ S, S = alpha := ⟨_, rfl⟩
  have HS := Aside0.mk hS
  have HZ := Aside0.mk (show S.size = 64 from by rw [hS]; rfl)
  rw [← hS]
  clear hS
  go_wp2
  go_loopg [4] 64 (fun kq v4 w' => ∃ (j : Int), v4 = .int .i64 j ∧ Aside0 (0 ≤ j ∧ (kq : Int) + j = 64 ∧ ∀ k : Nat, k < j.toNat → bt alpha k ≠ c) ∧ ∃ m, w' = w1.drewN m)
  case atStart => exact ⟨0, rfl, ⟨⟨by omega, by omega, fun k hk => by omega⟩⟩, 0, rfl⟩
  case round =>
    obtain ⟨j, rfl, HA, m, rfl⟩ := hrel
    have hj0 := HA.out.1
    have hjm : j ≤ 64 := by have := HA.out; omega
    by_cases c1 : j < S.size
    · have d1 : decide (j < (S.size : Int)) = true := decide_eq_true c1
      have HJ64 := Aside0.mk (show j.toNat < 64 from by have := HZ.out; omega)
      by_cases c2 : bt S j = c
      · have d2 : (bt S j == c) = true := beq_iff_eq.2 c2
        have HV := Aside0.mk (vidx_at c HC.out j.toNat HJ64.out (by rw [← HS.out, show ((j.toNat : Nat) : Int) = j from by omega]; exact c2) HA.out.2.2)
        go_wp2_with (rw [bt_at S j])
        go_ret
        rw [HV.out, show ((j.toNat : Nat) : Int) = j from by omega]
        exact ⟨rfl, _, rfl⟩
      · have d2 : (bt S j == c) = false := beq_false_of_ne c2
        have HN := Aside0.mk c2
        clear c2
        go_wp2_with (rw [bt_at S j])
        go_roundg (64 - (j + 1).toNat)
        case measure => have := HA.out; have := HJ64.out; omega
        case rel =>
          refine ⟨j + 1, rfl, ⟨⟨by omega, by have := HJ64.out; omega, fun k hk => ?_⟩⟩, _, rfl⟩
          by_cases hkj : k < j.toNat
          · exact HA.out.2.2 k hkj
          · rw [show k = j.toNat from by omega, show ((j.toNat : Nat) : Int) = j from by omega, ← HS.out]
            exact HN.out
    · have d1 : decide (j < (S.size : Int)) = false := decide_eq_false c1
      have HV := Aside0.mk (vidx_none c HC.out (fun k hk => HA.out.2.2 k (by have := HZ.out; omega)))
      go_wp2
      go_ret
      rw [HV.out]
      exact ⟨rfl, _, rfl⟩

theorem put_bit (m : Nat) (v : Int) : bts (m + 1) v = bts m (v / 2) ++ [v % 2] := rfl

theorem chs_get {tw : Nat} (l : List Int) (q : Nat) (h : q < l.length / tw) : (chs tw l)[q]? = some (val ((l.drop (tw * q)).take tw)) := by
  unfold chs
  rw [List.getElem?_map, List.getElem?_range h]
  rfl
theorem chs_len (tw : Nat) (l : List Int) : (chs tw l).length = l.length / tw := by simp [chs]
theorem chs_take_succ {tw : Nat} (l : List Int) (q : Nat) (h : q < l.length / tw) : (chs tw l).take (q + 1) = (chs tw l).take q ++ [val ((l.drop (tw * q)).take tw)] := by
  rw [List.take_add_one, chs_get l q h]
  rfl
theorem take_succ_rd (l : List Int) (q k : Nat) (h : q + k < l.length) : val ((l.drop q).take (k + 1)) = 2 * val ((l.drop q).take k) + l.getD (q + k) 0 := by
  rw [List.take_add_one, List.getElem?_drop, List.getElem?_eq_getElem h, List.getD_eq_getElem?_getD, List.getElem?_eq_getElem h]
  exact val_snoc _ _
theorem val_take_range (l : List Int) (q k : Nat) (h : ∀ x ∈ l, x = 0 ∨ x = 1) (h2 : q + k ≤ l.length) : 0 ≤ val ((l.drop q).take k) ∧ val ((l.drop q).take k) < 2 ^ k := by
  obtain ⟨a, b, _⟩ := val_range (tw := k) ((l.drop q).take k) (fun x hx => h x (List.mem_of_mem_drop (List.mem_of_mem_take hx))) (by rw [List.length_take, List.length_drop]; omega)
  exact ⟨a, b⟩
theorem getD_01 (l : List Int) (q : Nat) (h : ∀ x ∈ l, x = 0 ∨ x = 1) : 0 ≤ l.getD q 0 ∧ l.getD q 0 ≤ 1 := by
  rw [List.getD_eq_getElem?_getD]
  by_cases hq : q < l.length
  · rw [List.getElem?_eq_getElem hq]
    have := h _ (List.getElem_mem hq)
    simp only [Option.getD_some]
    omega
  · rw [List.getElem?_eq_none (by omega)]; decide

set_option maxHeartbeats 8000000 in
theorem refEncode_any (w : World) (v : Value) (b : List Int) (h : Bs w v b) (hb : ∀ x ∈ b, 0 ≤ x ∧ x < 256) (hl : b.length ≤ 1099511627) :
    Calls Tryd.prog 43 #[v] w fun e w' => e = .returned (.string (strOfNums ((chs 6 (pad 6 (b.flatMap (bts 8)))).map sign))) ∧ Below w.heap.size w w' := by
  obtain ⟨A, c, rfl, hc, hC, hn⟩ := h
  have HC := Aside0.mk hC
  have HBY := Aside0.mk hb
  have HL := Aside0.mk hl
  clear hC hb hc hn hl
  go_enter Tryd.func43, Tryd.ntmps43
  go_wp2
  go_loopg [3, 4, 5] b.length (fun kq v3 v4 v5 w' => ∃ (j : Int), v4 = .int .i64 j ∧ Aside0 (0 ≤ j ∧ (kq : Int) + j = b.length) ∧
    Aside0 (Kd.R (Kd.int .i64) 3 w' w.heap.size (fun _ => True) v3 ((b.take j.toNat).flatMap (bts 8))) ∧ Aside0 (Below w.heap.size w w'))
  case atStart => exact ⟨0, rfl, ⟨⟨by omega, by omega⟩⟩, ⟨Kd.R_nil _ _ _ _ _⟩, ⟨B0 w⟩⟩
  case round =>
    obtain ⟨j, rfl, HA, HO, HB⟩ := hrel
    have hj0 := HA.out.1
    have hjm : j ≤ 1099511627 := by have := HA.out; have := HL.out; omega
    by_cases c1 : j < b.length
    · have d1 : decide (j < (b.length : Int)) = true := decide_eq_true c1
      obtain ⟨X, hX⟩ : ∃ X, X = rd b j := ⟨_, rfl⟩
      have HX := Aside0.mk hX
      have hbb : 0 ≤ X ∧ X < 256 := by
        rw [hX]
        refine HBY.out _ ?_
        unfold rd
        rw [List.getD_eq_getElem?_getD, List.getElem?_eq_getElem (show j.toNat < b.length by omega)]
        exact List.getElem_mem _
      clear hX
      obtain ⟨hb0, hb1⟩ := hbb
      go_wp2
      go_loopg [3, 5] 8 (fun kq v3 v5 w' => ∃ (k : Int), v5 = .int .i64 k ∧ Aside0 (-1 ≤ k ∧ k ≤ 7 ∧ (kq : Int) = k + 1) ∧
        Aside0 (Kd.R (Kd.int .i64) 3 w' w.heap.size (fun _ => True) v3 ((b.take j.toNat).flatMap (bts 8) ++ bts (7 - k).toNat (X / 2 ^ (k + 1).toNat))) ∧ Aside0 (Below w.heap.size w w'))
      case atStart =>
        refine ⟨7, rfl, ⟨⟨by omega, by omega, by omega⟩⟩, ⟨?_⟩, HB⟩
        have := HO.out
        rw [show (7 - (7 : Int)).toNat = 0 from rfl, bts, List.append_nil]
        exact this
      case round =>
        obtain ⟨k, rfl, HK, HO2, HB2⟩ := hrel
        have hk0 := HK.out.1
        have hk7 := HK.out.2.1
        by_cases c2 : 0 ≤ k
        · have d2 : decide (0 ≤ k) = true := decide_eq_true c2
          obtain ⟨ad, rfl, hx⟩ := Kd.at_int (Kd.C_below HC.out HB2.out) j hj0 c1
          rw [← HX.out] at hx
          have hp0 : (0 : Int) < 2 ^ k.toNat := Int.pow_pos (by decide)
          have hy0 : 0 ≤ X / 2 ^ k.toNat := Int.ediv_nonneg hb0 (by omega)
          have hy1 : X / 2 ^ k.toNat < 256 := Int.lt_of_le_of_lt (Int.ediv_le_self _ hb0) hb1
          have HLN := Aside0.mk (show ((b.take j.toNat).flatMap (bts 8) ++ bts (7 - k).toNat (X / 2 ^ (k + 1).toNat)).length ≤ 9000000000 from by
            rw [List.length_append, flat_len, bts_len, List.length_take]; omega)
          clear hp0
          go_wp2_with (at_builtin; refine Kd.R_append (Kd.int .i64) (w0 := w) w.heap.size rfl (.tmp 20) (.tmp 30) 83 3 (.int .i64 0) 8 rfl Tryd.underlying83 info_int rfl (by decide) (by omega) u3 ((b.take j.toNat).flatMap (bts 8) ++ bts (7 - k).toNat (X / 2 ^ (k + 1).toNat)) (X / 2 ^ k.toNat % 2) [.int .i64 (X / 2 ^ k.toNat % 2)] (fun _ => True) (fun _ => False) rfl rfl ?aP (fun _ hk => hk.elim) (fun _ _ => trivial) ?aO ?aB ?aS ?aL ?_; (case aP => exact rfl); (case aB => exact HB2.out); (case aO => exact HO2.out); (case aS => exact HB2.out.size); (case aL => (have := HLN.out; omega)); intro v3 w3 ho hb hg hat; have HO3 := Aside0.mk ho; have HB3 := Aside0.mk hb; clear ho hb hg hat)
          go_roundg k.toNat
          case measure => have := HK.out; omega
          case rel =>
            refine ⟨k - 1, rfl, ⟨⟨by omega, by omega, by omega⟩⟩, ⟨?_⟩, HB3⟩
            have h := HO3.out
            rw [List.append_assoc] at h
            have e : bts (7 - (k - 1)).toNat (X / 2 ^ (k - 1 + 1).toNat) = bts (7 - k).toNat (X / 2 ^ (k + 1).toNat) ++ [X / 2 ^ k.toNat % 2] := by
              rw [show (7 - (k - 1)).toNat = (7 - k).toNat + 1 from by omega, show (k - 1 + 1) = k from by omega, bts, show (k + 1).toNat = k.toNat + 1 from by omega, Int.pow_succ, Int.ediv_ediv_of_nonneg (by exact Int.le_of_lt (Int.pow_pos (by decide)))]
            rw [e]
            exact h
        · have d2 : decide (0 ≤ k) = false := decide_eq_false c2
          have HF := Aside0.mk (show (b.take (j + 1).toNat).flatMap (bts 8) = (b.take j.toNat).flatMap (bts 8) ++ bts (7 - k).toNat (X / 2 ^ (k + 1).toNat) from by
            rw [show k = -1 from by omega, show (7 - (-1 : Int)).toNat = 8 from rfl, show ((-1 : Int) + 1).toNat = 0 from rfl, show (j + 1).toNat = j.toNat + 1 from by omega, List.take_add_one, List.getElem?_eq_getElem (show j.toNat < b.length by omega), List.flatMap_append]
            simp [HX.out, rd, List.getD_eq_getElem?_getD, List.getElem?_eq_getElem (show j.toNat < b.length by omega)])
          go_wp2
          go_roundg (b.length - (j + 1).toNat)
          case measure => have := HA.out; omega
          case rel =>
            refine ⟨j + 1, rfl, ⟨⟨by omega, by omega⟩⟩, ⟨?_⟩, HB2⟩
            rw [HF.out]
            exact HO2.out
    · have d1 : decide (j < (b.length : Int)) = false := decide_eq_false c1
      have HE := Aside0.mk (show b.take j.toNat = b from List.take_of_length_le (by have := HA.out; omega))
      obtain ⟨L, hL⟩ : ∃ L, L = b.flatMap (bts 8) := ⟨_, rfl⟩
      have HLE := Aside0.mk hL
      have HO1 : Aside0 (Kd.R (Kd.int .i64) 3 wr w.heap.size (fun _ => True) u3 L) := ⟨by have h := HO.out; rw [HE.out, ← hL] at h; exact h⟩
      have HLL := Aside0.mk (show L.length = 8 * b.length from by rw [hL, flat_len])
      have HL0 := Aside0.mk (show ∀ x ∈ L, x = 0 ∨ x = 1 from by rw [hL]; exact flat_01 8 b)
      clear hL HO c1
      go_wp2
      go_loopg [3] (padn 6 L.length) (fun kq v3 w' => ∃ (p : Nat), Aside0 (kq = padn 6 (L.length + p) ∧ p + kq = padn 6 L.length) ∧
        Aside0 (Kd.R (Kd.int .i64) 3 w' w.heap.size (fun _ => True) v3 (L ++ List.replicate p 0)) ∧ Aside0 (Below w.heap.size w w'))
      case atStart => exact ⟨0, ⟨⟨rfl, Nat.zero_add _⟩⟩, ⟨by rw [List.replicate_zero, List.append_nil]; exact HO1.out⟩, HB⟩
      case round =>
        obtain ⟨p, HA2, HO2, HB2⟩ := hrel
        obtain ⟨P, hP⟩ : ∃ P, P = L ++ List.replicate p 0 := ⟨_, rfl⟩
        have HP := Aside0.mk hP
        rw [← hP] at HO2
        have HPL := Aside0.mk (show P.length = L.length + p from by rw [hP, List.length_append, List.length_replicate])
        have HPS := Aside0.mk (show (P.length : Int) ≤ 9000000000 from by have := HPL.out; have := HLL.out; have := HL.out; have := HA2.out.2; have : padn 6 L.length < 6 := Nat.mod_lt _ (by decide); omega)
        clear hP
        obtain ⟨A3, c3, rfl, _, _⟩ := Kd.R_reads HO2.out
        by_cases c2 : P.length % 6 = 0
        · have d2 : ((P.length : Int) % 6 != 0) = false := by simp; omega
          have hp0 := HPS.out
          go_wp2
          obtain ⟨wL, rfl⟩ : ∃ x, x = wr := ⟨_, rfl⟩
          have HPP := Aside0.mk (show P = pad 6 L from by
            have h1 := HA2.out.1; rw [← HPL.out] at h1
            rw [HP.out, pad, ← HA2.out.2, h1, padn, c2]; rfl)
          have HP01 := Aside0.mk (show ∀ x ∈ P, x = 0 ∨ x = 1 from by
            rw [HP.out]; intro x hx
            rcases List.mem_append.1 hx with hx | hx
            · exact HL0.out x hx
            · exact .inl (List.eq_of_mem_replicate hx))
          have HPM := Aside0.mk c2
          have HPC := Aside0.mk (Kd.R_reads' HO2.out).2.2
          clear c2
          go_loopg [6, 7, 8, 9] (P.length / 6) (fun kq v6 v7 v8 v9 w' => ∃ (I : Int) (q : Nat), v7 = .int .i64 I ∧ Aside0 (q + kq = P.length / 6 ∧ I = 6 * (q : Int)) ∧
            Aside0 (Kd.R (Kd.int .u8) 5 w' wL.heap.size (fun _ => True) v6 (((chs 6 P).take q).map sign)) ∧ Aside0 (Below wL.heap.size wL w'))
          case atStart => exact ⟨0, 0, rfl, ⟨by omega, by omega⟩, ⟨Kd.R_nil _ _ _ _ _⟩, ⟨B0 wL⟩⟩
          case round =>
            obtain ⟨I, q, rfl, HQ, HO4, HB4⟩ := hrel
            have hI0 : 0 ≤ I := by have := HQ.out; omega
            have hI1 : I ≤ 9000000006 := by have := HQ.out; have := HPS.out; omega
            by_cases c3 : I < P.length
            · have d3 : decide (I < (P.length : Int)) = true := decide_eq_true c3
              have HQP := Aside0.mk (show q < P.length / 6 from by have := HQ.out; have := HPM.out; omega)
              have HQ6 := Aside0.mk (show 6 * q + 6 ≤ P.length from by have := HQ.out; have := HPM.out; omega)
              clear c3
              go_wp2
              go_loopg [8, 9] 6 (fun kq v8 v9 w' => ∃ (K : Int) (k : Nat), v9 = .int .i64 K ∧ v8 = .int .i64 (val ((P.drop (6 * q)).take k)) ∧ Aside0 (k + kq = 6 ∧ K = k) ∧ w' = wr)
              case atStart => exact ⟨0, 0, rfl, rfl, ⟨by omega, rfl⟩, rfl⟩
              case round =>
                obtain ⟨K, k, rfl, rfl, HK, rfl⟩ := hrel
                have hk6 : K ≤ 6 := by have := HK.out; omega
                have hk0 : 0 ≤ K := by have := HK.out; omega
                obtain ⟨V, hV⟩ : ∃ V, V = val ((P.drop (6 * q)).take k) := ⟨_, rfl⟩
                have HV := Aside0.mk hV
                have hVr := val_take_range P (6 * q) k HP01.out (by have := HQ6.out; have := HK.out; omega)
                rw [← hV] at hVr
                have hV64 : V < 64 := Int.lt_of_lt_of_le hVr.2 (pow_le k 6 (by have := HK.out; omega))
                have hV0 := hVr.1
                clear hVr
                rw [← hV]
                clear hV
                by_cases c4 : K < 6
                · have d4 : decide (K < 6) = true := decide_eq_true c4
                  have hi0 : 0 ≤ I + K := by omega
                  have hi1 : I + K < P.length := by have := HQ6.out; have := HQ.out; omega
                  obtain ⟨ad, rfl, hx⟩ := Kd.at_int (Kd.C_below HPC.out HB4.out) (I + K) hi0 hi1
                  obtain ⟨Y, hY⟩ : ∃ Y, Y = rd P (I + K) := ⟨_, rfl⟩
                  have HY := Aside0.mk (show val ((P.drop (6 * q)).take (k + 1)) = 2 * V + Y from by
                    have := HQ.out; have := HK.out
                    rw [take_succ_rd P (6 * q) k (by have := HQ6.out; omega), HV.out, hY, rd, show (I + K).toNat = 6 * q + k from by omega])
                  have hYr := getD_01 P (I + K).toNat HP01.out
                  rw [← hY] at hx
                  obtain ⟨hY0, hY1⟩ : 0 ≤ Y ∧ Y ≤ 1 := by rw [hY]; exact hYr
                  clear hY hYr
                  go_wp2
                  go_roundg (6 - (k + 1))
                  case measure => have := HK.out; omega
                  case rel => exact ⟨K + 1, k + 1, by simp, by rw [HY.out], ⟨by have := HK.out; omega, by have := HK.out; omega⟩, rfl⟩
                · have d4 : decide (K < 6) = false := decide_eq_false c4
                  have HK6 := Aside0.mk (show k = 6 from by have := HK.out; omega)
                  clear c4
                  go_wp2_with fail
                  refine (alphabet_any _).mono ?_
                  rintro e w1 ⟨rfl, hw1⟩
                  obtain ⟨S, hS⟩ : ∃ S, S = alpha := ⟨_, rfl⟩
                  have HS := Aside0.mk (show bt S V = sign V from by rw [hS]; rfl)
                  have HZ := Aside0.mk (show S.size = 64 from by rw [hS]; rfl)
                  rw [← hS]
                  clear hS
                  have hVS : V < S.size := by have := HZ.out; omega
                  have HSL := Aside0.mk (show (((chs 6 P).take q).map sign).length ≤ 9000000000 from by rw [List.length_map, List.length_take, chs_len]; have := HPS.out; omega)
                  have HB5 := Aside0.mk (show Below wL.heap.size wL w1 from by rw [hw1]; exact HB4.out)
                  have HO5 := Aside0.mk (show Kd.R (Kd.int .u8) 5 w1 wL.heap.size (fun _ => True) u6 (((chs 6 P).take q).map sign) from by rw [hw1]; exact HO4.out)
                  clear hw1
                  have HO6 : Aside0 (Kd.R (Kd.int .u8) 5 w1 wL.heap.size (fun _ => True) u6 (((chs 6 P).take q).map sign)) := HO5
                  go_wp2_with (first | rw [bt_at S V] | (at_builtin; refine Kd.R_append (Kd.int .u8) (w0 := wL) wL.heap.size rfl (.tmp 58) (.tmp 62) 22 5 (.int .u8 0) 1 rfl Tryd.underlying22 info_u8 rfl (by decide) (by omega) u6 (((chs 6 P).take q).map sign) (bt S V) [.int .u8 (bt S V)] (fun _ => True) (fun _ => False) rfl rfl ?aP (fun _ hk => hk.elim) (fun _ _ => trivial) ?aO ?aB ?aS ?aL ?_; (case aP => exact rfl); (case aB => exact HB5.out); (case aO => exact HO6.out); (case aS => exact HB5.out.size); (case aL => (have := HSL.out; omega)); intro v7 w7 ho hb hg hat; have HO7 := Aside0.mk ho; have HB7 := Aside0.mk hb; clear ho hb hg hat))
                  go_roundg (P.length / 6 - (q + 1))
                  case measure => have := HQ.out; have := HQP.out; omega
                  case rel =>
                    refine ⟨I + 6, q + 1, rfl, ⟨by have := HQP.out; omega, by have := HQ.out; omega⟩, ⟨?_⟩, HB7⟩
                    have h := HO7.out
                    rw [HS.out, HV.out, HK6.out] at h
                    rw [chs_take_succ P q HQP.out, List.map_append]
                    exact h
            · have d3 : decide (I < (P.length : Int)) = false := decide_eq_false c3
              obtain ⟨X, hX⟩ : ∃ X, X = ((chs 6 P).take q).map sign := ⟨_, rfl⟩
              have HX := Aside0.mk (show X = (chs 6 (pad 6 (b.flatMap (bts 8)))).map sign from by
                rw [hX, ← HLE.out, ← HPP.out, List.take_of_length_le (by rw [chs_len]; have := HPM.out; have := HQ.out; omega)])
              rw [← hX] at HO4
              clear hX
              obtain ⟨A6, c6, rfl, _, hC6⟩ := Kd.R_reads HO4.out
              have hcv := Kd.C_string (P := Tryd.prog) Tryd.underlying22 Tryd.underlying5 Tryd.underlying9 (c := c6) hC6
              clear c3 hC6
              go_wp2
              go_ret
              rw [HX.out]
              exact ⟨rfl, HB2.out.trans (HB4.out.mono HB2.out.size)⟩
        · have d2 : ((P.length : Int) % 6 == 0) = false := by rw [beq_eq_false_iff_ne]; omega
          have hp0 := HPS.out
          have HND := Aside0.mk c2
          clear c2
          go_wp2_with (at_builtin; refine Kd.R_append (Kd.int .i64) (w0 := w) w.heap.size rfl (.tmp 36) (.tmp 37) 83 3 (.int .i64 0) 8 rfl Tryd.underlying83 info_int rfl (by decide) (by omega) (.slice A3 P.length c3) P (0) [.int .i64 (0)] (fun _ => True) (fun _ => False) rfl rfl ?aP (fun _ hk => hk.elim) (fun _ _ => trivial) ?aO ?aB ?aS ?aL ?_; (case aP => exact rfl); (case aB => exact HB2.out); (case aO => exact HO2.out); (case aS => exact HB2.out.size); (case aL => (have := HPS.out; omega)); intro v3 w3 ho hb hg hat; have HO3 := Aside0.mk ho; have HB3 := Aside0.mk hb; clear ho hb hg hat)
          go_roundg (gk - 1)
          case measure => have h1 := HA2.out; have h2 := HND.out; have h3 := HPL.out; rw [h3] at h2; unfold padn at h1; omega
          case rel =>
            refine ⟨p + 1, ⟨?_⟩, ⟨?_⟩, HB3⟩
            · have h1 := HA2.out; have h2 := HND.out; have h3 := HPL.out; rw [h3] at h2; unfold padn at h1 ⊢; omega
            · have h := HO3.out
              rw [HP.out, List.append_assoc, ← List.replicate_succ'] at h
              exact h

end Go.Proofs.YtogimlinfkbapaaDoor.HRef04
/- The reference of base: Decode. -/
namespace Go.Proofs.YtogimlinfkbapaaDoor.HRef04d
open Go.RowKit Go.Proofs.YtogimlinfkbapaaDoorW.PrintWords Go.Proofs.YtogimlinfkbapaaDoor.HLib Go.Proofs.YtogimlinfkbapaaDoor.HBaseS Go.Proofs.YtogimlinfkbapaaDoor.HBase Go.Proofs.YtogimlinfkbapaaDoor.HEnc Go.Proofs.YtogimlinfkbapaaDoor.HDec Go.Proofs.YtogimlinfkbapaaDoor.HBaseL Go.Proofs.YtogimlinfkbapaaDoor.HRef04
set_option linter.unusedVariables false
set_option linter.unusedSimpArgs false

def refP (s : ByteArray) : List Int × Int :=
  match badAt s with
  | some i => ([], i)
  | none => if 6 ≤ 6 * s.size - 8 * (6 * s.size / 8) ∨ 0 < (((vids s).flatMap (bts 6)).drop (8 * (6 * s.size / 8))).sum then ([], (s.size : Int) - 1) else (chs 8 ((vids s).flatMap (bts 6)), -1)

theorem refP_bad {s : ByteArray} {j : Nat} (h : ∀ i : Nat, i < j → 0 ≤ vidx (bt s i)) (hj : j < s.size) (hb : vidx (bt s j) < 0) : refP s = ([], (j : Int)) := by
  have : badAt s = some j := by
    unfold badAt
    rw [List.find?_range_eq_some]
    exact ⟨decide_eq_true hb, List.mem_range.2 hj, fun i hi => by have := h i hi; simp; omega⟩
  rw [refP, this]
theorem sum_take_succ (l : List Int) (q k : Nat) (h : q + k < l.length) : ((l.drop q).take (k + 1)).sum = ((l.drop q).take k).sum + l.getD (q + k) 0 := by
  rw [List.take_add_one, List.getElem?_drop, List.getElem?_eq_getElem h, List.getD_eq_getElem?_getD, List.getElem?_eq_getElem h, List.sum_append]
  simp
theorem sum_01 : ∀ (l : List Int), (∀ x ∈ l, x = 0 ∨ x = 1) → 0 ≤ l.sum ∧ l.sum ≤ l.length := by
  intro l
  induction l with
  | nil => intro _; simp
  | cons x l ih =>
    intro h
    have h1 := ih (fun y hy => h y (List.mem_cons_of_mem _ hy))
    have h2 := h x (List.mem_cons_self ..)
    rw [List.sum_cons, List.length_cons]
    omega

set_option maxHeartbeats 8000000 in
theorem refDecode_any (w : World) (s : ByteArray) (hl : s.size ≤ 1099511627) :
    Calls Tryd.prog 41 #[.string s] w fun e w' => ∃ v, e = .returned (.tuple #[v, .int .i64 (refP s).2]) ∧ Bs w' v (refP s).1 ∧ Below w.heap.size w w' := by
  have HL := Aside0.mk hl
  clear hl
  go_enter Tryd.func41, Tryd.ntmps41
  go_wp2
  go_loopg [4, 5, 6, 7] s.size (fun kq v4 v5 v6 v7 w' => ∃ (j : Int), v5 = .int .i64 j ∧ Aside0 (0 ≤ j ∧ (kq : Int) + j = s.size ∧ ∀ i : Nat, i < j.toNat → 0 ≤ vidx (bt s i)) ∧
    Aside0 (Kd.R (Kd.int .i64) 3 w' w.heap.size (fun _ => True) v4 (((vids s).take j.toNat).flatMap (bts 6))) ∧ Aside0 (Below w.heap.size w w'))
  case atStart => exact ⟨0, rfl, ⟨⟨by omega, by omega, fun i hi => by omega⟩⟩, ⟨Kd.R_nil _ _ _ _ _⟩, ⟨B0 w⟩⟩
  case round =>
    obtain ⟨j, rfl, HA, HO, HB⟩ := hrel
    have hj0 := HA.out.1
    have hjm : j ≤ 1099511627 := by have := HA.out; have := HL.out; omega
    by_cases c1 : j < s.size
    · have d1 : decide (j < (s.size : Int)) = true := decide_eq_true c1
      go_wp2_with (rw [bt_at s j])
      refine (refValue_any _ _ (by have := bt_range s j; omega)).mono ?_
      rintro e w1 ⟨rfl, m, hw1⟩
      have HV := Aside0.mk (show (vids s).getD j.toNat 0 = vidx (bt s j) from by
        rw [vids_get s j.toNat (by omega), show ((j.toNat : Nat) : Int) = j from by omega])
      obtain ⟨V, hV⟩ : ∃ V, V = vidx (bt s j) := ⟨_, rfl⟩
      have HVE := Aside0.mk hV
      have hv64 : V < 64 := by rw [hV]; exact (vidx_lt _).2
      rw [← hV]
      have HB1 : Aside0 (Below w.heap.size w w1) := ⟨by rw [hw1]; exact pw_below_drewN HB.out m⟩
      have HO1 : Aside0 (Kd.R (Kd.int .i64) 3 w1 w.heap.size (fun _ => True) u4 (((vids s).take j.toNat).flatMap (bts 6))) := ⟨by rw [hw1]; exact HO.out⟩
      clear hV hw1 HO HB
      by_cases c2 : V < 0
      · have d2 : decide (V < 0) = true := decide_eq_true c2
        have HD := Aside0.mk (refP_bad (s := s) (j := j.toNat) HA.out.2.2 (by omega) (by rw [show ((j.toNat : Nat) : Int) = j from by omega, ← HVE.out]; omega))
        have HJ := Aside0.mk (show ((j.toNat : Nat) : Int) = j from by omega)
        go_wp2
        go_ret2
        rw [HD.out, HJ.out]
        exact ⟨_, rfl, Bs.nil _, HB1.out⟩
      · have d2 : decide (V < 0) = false := decide_eq_false c2
        have hv0 : 0 ≤ V := by omega
        clear c2
        go_wp2
        go_loopg [4, 7] 6 (fun kq v4 v7 w' => ∃ (k : Int), v7 = .int .i64 k ∧ Aside0 (-1 ≤ k ∧ k ≤ 5 ∧ (kq : Int) = k + 1) ∧
          Aside0 (Kd.R (Kd.int .i64) 3 w' w.heap.size (fun _ => True) v4 (((vids s).take j.toNat).flatMap (bts 6) ++ bts (5 - k).toNat (V / 2 ^ (k + 1).toNat))) ∧ Aside0 (Below w.heap.size w w'))
        case atStart =>
          refine ⟨5, rfl, ⟨⟨by omega, by omega, by omega⟩⟩, ⟨?_⟩, HB1⟩
          have := HO1.out
          rw [show (5 - (5 : Int)).toNat = 0 from rfl, bts, List.append_nil]
          exact this
        case round =>
          obtain ⟨k, rfl, HK, HO2, HB2⟩ := hrel
          have hk0 := HK.out.1
          have hk7 := HK.out.2.1
          by_cases c2 : 0 ≤ k
          · have d2 : decide (0 ≤ k) = true := decide_eq_true c2
            have hp0 : (0 : Int) < 2 ^ k.toNat := Int.pow_pos (by decide)
            have hy0 : 0 ≤ V / 2 ^ k.toNat := Int.ediv_nonneg hv0 (by omega)
            have hy1 : V / 2 ^ k.toNat < 64 := Int.lt_of_le_of_lt (Int.ediv_le_self _ hv0) hv64
            have HLN := Aside0.mk (show (((vids s).take j.toNat).flatMap (bts 6) ++ bts (5 - k).toNat (V / 2 ^ (k + 1).toNat)).length ≤ 9000000000 from by
              rw [List.length_append, flat_len, bts_len, List.length_take, vids_len]; omega)
            clear hp0
            go_wp2_with (at_builtin; refine Kd.R_append (Kd.int .i64) (w0 := w) w.heap.size rfl (.tmp 32) (.tmp 38) 83 3 (.int .i64 0) 8 rfl Tryd.underlying83 info_int rfl (by decide) (by omega) u4 (((vids s).take j.toNat).flatMap (bts 6) ++ bts (5 - k).toNat (V / 2 ^ (k + 1).toNat)) (V / 2 ^ k.toNat % 2) [.int .i64 (V / 2 ^ k.toNat % 2)] (fun _ => True) (fun _ => False) rfl rfl ?aP (fun _ hk => hk.elim) (fun _ _ => trivial) ?aO ?aB ?aS ?aL ?_; (case aP => exact rfl); (case aB => exact HB2.out); (case aO => exact HO2.out); (case aS => exact HB2.out.size); (case aL => (have := HLN.out; omega)); intro v3 w3 ho hb hg hat; have HO3 := Aside0.mk ho; have HB3 := Aside0.mk hb; clear ho hb hg hat)
            go_roundg k.toNat
            case measure => have := HK.out; omega
            case rel =>
              refine ⟨k - 1, rfl, ⟨⟨by omega, by omega, by omega⟩⟩, ⟨?_⟩, HB3⟩
              have h := HO3.out
              rw [List.append_assoc] at h
              have e : bts (5 - (k - 1)).toNat (V / 2 ^ (k - 1 + 1).toNat) = bts (5 - k).toNat (V / 2 ^ (k + 1).toNat) ++ [V / 2 ^ k.toNat % 2] := by
                rw [show (5 - (k - 1)).toNat = (5 - k).toNat + 1 from by omega, show (k - 1 + 1) = k from by omega, bts, show (k + 1).toNat = k.toNat + 1 from by omega, Int.pow_succ, Int.ediv_ediv_of_nonneg (by exact Int.le_of_lt (Int.pow_pos (by decide)))]
              rw [e]
              exact h
          · have d2 : decide (0 ≤ k) = false := decide_eq_false c2
            have HF := Aside0.mk (show ((vids s).take (j + 1).toNat).flatMap (bts 6) = ((vids s).take j.toNat).flatMap (bts 6) ++ bts (5 - k).toNat (V / 2 ^ (k + 1).toNat) from by
              have hx := HV.out
              rw [List.getD_eq_getElem?_getD] at hx
              have hlt : j.toNat < (vids s).length := by rw [vids_len]; omega
              rw [List.getElem?_eq_getElem hlt] at hx
              rw [show k = -1 from by omega, show (5 - (-1 : Int)).toNat = 6 from rfl, show ((-1 : Int) + 1).toNat = 0 from rfl, show (j + 1).toNat = j.toNat + 1 from by omega, List.take_add_one, List.getElem?_eq_getElem hlt, List.flatMap_append]
              simp at hx
              simp [hx, HVE.out])
            have HVP := Aside0.mk (show 0 ≤ vidx (bt s j) from by rw [← HVE.out]; exact hv0)
            go_wp2
            go_roundg (s.size - (j + 1).toNat)
            case measure => have := HA.out; omega
            case rel =>
              refine ⟨j + 1, rfl, ⟨⟨by omega, by omega, fun i hi => ?_⟩⟩, ⟨?_⟩, HB2⟩
              · by_cases hij : i < j.toNat
                · exact HA.out.2.2 i hij
                · rw [show i = j.toNat from by omega, show ((j.toNat : Nat) : Int) = j from by omega]
                  exact HVP.out
              · rw [HF.out]
                exact HO2.out
    · have d1 : decide (j < (s.size : Int)) = false := decide_eq_false c1
      have HGD := Aside0.mk (show ∀ i : Nat, i < s.size → 0 ≤ vidx (bt s i) from fun i hi => HA.out.2.2 i (by have := HA.out; omega))
      have HBN := Aside0.mk (badAt_none HGD.out)
      obtain ⟨L, hL⟩ : ∃ L, L = (vids s).flatMap (bts 6) := ⟨_, rfl⟩
      have HLE := Aside0.mk hL
      have HO1 : Aside0 (Kd.R (Kd.int .i64) 3 wr w.heap.size (fun _ => True) u4 L) := ⟨by
        have h := HO.out
        rw [List.take_of_length_le (by rw [vids_len]; have := HA.out; omega), ← hL] at h
        exact h⟩
      have HLL := Aside0.mk (show L.length = 6 * s.size from by rw [hL, flat_len, vids_len])
      have HL0 := Aside0.mk (show ∀ x ∈ L, x = 0 ∨ x = 1 from by rw [hL]; exact flat_01 6 _)
      have hLs : (L.length : Int) ≤ 9000000000 := by have := HLL.out; have := HL.out; omega
      obtain ⟨A3, c3, rfl, _, hC3⟩ := Kd.R_reads HO1.out
      have HC3 := Aside0.mk hC3
      have hq : (L.length : Int).tdiv 8 = (L.length : Int) / 8 := Int.tdiv_eq_ediv_of_nonneg (by omega)
      clear hL HO c1 hC3
      go_wp2
      clear hq
      go_loopg [9, 10] (L.length - 8 * (L.length / 8)) (fun kq v9 v10 w' => ∃ (I : Int) (t : Nat), v10 = .int .i64 I ∧ v9 = .int .i64 ((L.drop (8 * (L.length / 8))).take t).sum ∧ Aside0 (t + kq = L.length - 8 * (L.length / 8) ∧ I = 8 * ((L.length : Int) / 8) + t) ∧ w' = wr)
      case atStart => exact ⟨_, 0, rfl, rfl, ⟨by omega, by omega⟩, rfl⟩
      case round =>
        obtain ⟨I, t, rfl, rfl, HT, rfl⟩ := hrel
        have hI0 : 0 ≤ I := by have := HT.out; omega
        have hI1 : I ≤ 9000000000 := by have := HT.out; omega
        obtain ⟨S, hS⟩ : ∃ S, S = ((L.drop (8 * (L.length / 8))).take t).sum := ⟨_, rfl⟩
        have HS := Aside0.mk hS
        have hSr := sum_01 ((L.drop (8 * (L.length / 8))).take t) (fun x hx => HL0.out x (List.mem_of_mem_drop (List.mem_of_mem_take hx)))
        rw [← hS] at hSr
        have hS1 : S ≤ 9000000000 := by have h := hSr.2; rw [List.length_take, List.length_drop] at h; omega
        have hS0 := hSr.1
        rw [← hS]
        clear hS hSr
        by_cases c2 : I < L.length
        · have d2 : decide (I < (L.length : Int)) = true := decide_eq_true c2
          obtain ⟨ad, rfl, hx⟩ := Kd.at_int HC3.out I hI0 c2
          obtain ⟨Y, hY⟩ : ∃ Y, Y = rd L I := ⟨_, rfl⟩
          have HY := Aside0.mk (show ((L.drop (8 * (L.length / 8))).take (t + 1)).sum = S + Y from by
            have := HT.out
            rw [sum_take_succ L _ t (by omega), HS.out, hY, rd, show I.toNat = 8 * (L.length / 8) + t from by omega])
          have hYr := getD_01 L I.toNat HL0.out
          rw [← hY] at hx
          obtain ⟨hY0, hY1⟩ : 0 ≤ Y ∧ Y ≤ 1 := by rw [hY]; exact hYr
          clear hY hYr
          go_wp2
          go_roundg (L.length - 8 * (L.length / 8) - (t + 1))
          case measure => have := HT.out; omega
          case rel => exact ⟨I + 1, t + 1, rfl, by rw [HY.out], ⟨by have := HT.out; omega, by have := HT.out; omega⟩, rfl⟩
        · have d2 : decide (I < (L.length : Int)) = false := decide_eq_false c2
          have HSE := Aside0.mk (show S = (L.drop (8 * (L.length / 8))).sum from by
            rw [HS.out, List.take_of_length_le (by rw [List.length_drop]; have := HT.out; omega)])
          clear c2
          by_cases c4 : 6 ≤ L.length - 8 * (L.length / 8) ∨ 0 < S
          · have HR := Aside0.mk (show refP s = ([], (s.size : Int) - 1) from by
              rw [refP, HBN.out, ← HLE.out, ← HLL.out, ← HSE.out]
              exact if_pos c4)
            have hsz : (s.size : Int) ≤ 1099511627 := by have := HL.out; omega
            by_cases c5 : 6 ≤ (L.length : Int) - 8 * ((L.length : Int) / 8)
            · have d5 : decide (6 ≤ (L.length : Int) - 8 * ((L.length : Int) / 8)) = true := decide_eq_true c5
              clear c5 c4
              go_wp2
              go_ret2
              rw [HR.out]
              exact ⟨_, rfl, Bs.nil _, HB.out⟩
            · have d5 : decide (6 ≤ (L.length : Int) - 8 * ((L.length : Int) / 8)) = false := decide_eq_false c5
              have d6 : decide (0 < S) = true := decide_eq_true (by omega)
              clear c5 c4
              go_wp2
              go_ret2
              rw [HR.out]
              exact ⟨_, rfl, Bs.nil _, HB.out⟩
          · have HR := Aside0.mk (show refP s = (chs 8 L, -1) from by
              rw [refP, HBN.out, ← HLE.out, ← HLL.out, ← HSE.out]
              exact if_neg c4)
            have d5 : decide (6 ≤ (L.length : Int) - 8 * ((L.length : Int) / 8)) = false := decide_eq_false (by omega)
            have d6 : decide (0 < S) = false := decide_eq_false (by omega)
            clear c4
            obtain ⟨wL, rfl⟩ : ∃ x, x = wr := ⟨_, rfl⟩
            go_wp2
            go_loopg [11, 12, 13, 14] (L.length / 8) (fun kq v11 v12 v13 v14 w' => ∃ (I : Int) (q : Nat), v12 = .int .i64 I ∧ Aside0 (q + kq = L.length / 8 ∧ I = (q : Int)) ∧
              Aside0 (Kd.R (Kd.int .u8) 5 w' wL.heap.size (fun _ => True) v11 ((chs 8 L).take q)) ∧ Aside0 (Below wL.heap.size wL w'))
            case atStart => exact ⟨0, 0, rfl, ⟨by omega, by omega⟩, ⟨Kd.R_nil _ _ _ _ _⟩, ⟨B0 wL⟩⟩
            case round =>
              obtain ⟨J, q, rfl, HQ, HO4, HB4⟩ := hrel
              have hJ0 : 0 ≤ J := by have := HQ.out; omega
              have hJ1 : J ≤ 9000000006 := by have := HQ.out; omega
              by_cases c3 : J < (L.length : Int) / 8
              · have d3 : decide (J < (L.length : Int) / 8) = true := decide_eq_true c3
                have HQP := Aside0.mk (show q < L.length / 8 from by have := HQ.out; omega)
                have HQ6 := Aside0.mk (show 8 * q + 8 ≤ L.length from by have := HQP.out; omega)
                clear c3
                go_wp2
                go_loopg [13, 14] 8 (fun kq v13 v14 w' => ∃ (K : Int) (k : Nat), v14 = .int .i64 K ∧ v13 = .int .i64 (val ((L.drop (8 * q)).take k)) ∧ Aside0 (k + kq = 8 ∧ K = k) ∧ w' = wr)
                case atStart => exact ⟨0, 0, rfl, rfl, ⟨by omega, rfl⟩, rfl⟩
                case round =>
                  obtain ⟨K, k, rfl, rfl, HK, rfl⟩ := hrel
                  have hk6 : K ≤ 8 := by have := HK.out; omega
                  have hk0 : 0 ≤ K := by have := HK.out; omega
                  obtain ⟨V, hV⟩ : ∃ V, V = val ((L.drop (8 * q)).take k) := ⟨_, rfl⟩
                  have HV := Aside0.mk hV
                  have hVr := val_take_range L (8 * q) k HL0.out (by have := HQ6.out; have := HK.out; omega)
                  rw [← hV] at hVr
                  have hV64 : V < 256 := Int.lt_of_lt_of_le hVr.2 (pow_le k 8 (by have := HK.out; omega))
                  have hV0 := hVr.1
                  clear hVr
                  rw [← hV]
                  clear hV
                  by_cases c4 : K < 8
                  · have d4 : decide (K < 8) = true := decide_eq_true c4
                    have hi0 : 0 ≤ 8 * J + K := by omega
                    have hi1 : 8 * J + K < L.length := by have := HQ6.out; have := HQ.out; omega
                    obtain ⟨ad, rfl, hx⟩ := Kd.at_int (Kd.C_below HC3.out HB4.out) (8 * J + K) hi0 hi1
                    obtain ⟨Y, hY⟩ : ∃ Y, Y = rd L (8 * J + K) := ⟨_, rfl⟩
                    have HY := Aside0.mk (show val ((L.drop (8 * q)).take (k + 1)) = 2 * V + Y from by
                      have := HQ.out; have := HK.out
                      rw [take_succ_rd L (8 * q) k (by have := HQ6.out; omega), HV.out, hY, rd, show (8 * J + K).toNat = 8 * q + k from by omega])
                    have hYr := getD_01 L (8 * J + K).toNat HL0.out
                    rw [← hY] at hx
                    obtain ⟨hY0, hY1⟩ : 0 ≤ Y ∧ Y ≤ 1 := by rw [hY]; exact hYr
                    clear hY hYr
                    go_wp2
                    go_roundg (8 - (k + 1))
                    case measure => have := HK.out; omega
                    case rel => exact ⟨K + 1, k + 1, by simp, by rw [HY.out], ⟨by have := HK.out; omega, by have := HK.out; omega⟩, rfl⟩
                  · have d4 : decide (K < 8) = false := decide_eq_false c4
                    have HK6 := Aside0.mk (show k = 8 from by have := HK.out; omega)
                    have HSL := Aside0.mk (show ((chs 8 L).take q).length ≤ 9000000000 from by rw [List.length_take, chs_len]; omega)
                    clear c4
                    go_wp2_with (at_builtin; refine Kd.R_append (Kd.int .u8) (w0 := wL) wL.heap.size rfl (.tmp 89) (.tmp 92) 22 5 (.int .u8 0) 1 rfl Tryd.underlying22 info_u8 rfl (by decide) (by omega) u11 ((chs 8 L).take q) V [.int .u8 V] (fun _ => True) (fun _ => False) rfl rfl ?aP (fun _ hk => hk.elim) (fun _ _ => trivial) ?aO ?aB ?aS ?aL ?_; (case aP => exact rfl); (case aB => exact HB4.out); (case aO => exact HO4.out); (case aS => exact HB4.out.size); (case aL => (have := HSL.out; omega)); intro v7 w7 ho hb hg hat; have HO7 := Aside0.mk ho; have HB7 := Aside0.mk hb; clear ho hb hg hat)
                    go_roundg (L.length / 8 - (q + 1))
                    case measure => have := HQ.out; have := HQP.out; omega
                    case rel =>
                      refine ⟨J + 1, q + 1, rfl, ⟨by have := HQP.out; omega, by have := HQ.out; omega⟩, ⟨?_⟩, HB7⟩
                      have h := HO7.out
                      rw [HV.out, HK6.out] at h
                      rw [chs_take_succ L q HQP.out]
                      exact h
              · have d3 : decide (J < (L.length : Int) / 8) = false := decide_eq_false c3
                have HX := Aside0.mk (show (chs 8 L).take q = chs 8 L from List.take_of_length_le (by rw [chs_len]; have := HQ.out; omega))
                have HBs := Aside0.mk (Bs.of_R HO4.out)
                clear c3
                go_wp2
                go_ret2
                rw [HR.out]
                refine ⟨_, rfl, ?_, HB.out.trans (HB4.out.mono HB.out.size)⟩
                rw [← HX.out]
                exact HBs.out

end Go.Proofs.YtogimlinfkbapaaDoor.HRef04d
/- The plain law of base: no program here. -/
namespace Go.Proofs.YtogimlinfkbapaaDoor.HBaseP
open Go.RowKit Go.Proofs.YtogimlinfkbapaaDoorW.PrintWords Go.Proofs.YtogimlinfkbapaaDoor.HLib Go.Proofs.YtogimlinfkbapaaDoor.HBaseS Go.Proofs.YtogimlinfkbapaaDoor.HBase Go.Proofs.YtogimlinfkbapaaDoor.HEnc Go.Proofs.YtogimlinfkbapaaDoor.HDec Go.Proofs.YtogimlinfkbapaaDoor.HBaseL Go.Proofs.YtogimlinfkbapaaDoor.HRef04 Go.Proofs.YtogimlinfkbapaaDoor.HRef04d
set_option linter.unusedVariables false

theorem u8_back (x : Int) (h : 0 ≤ x ∧ x < 256) : ((UInt8.ofNat x.toNat).toNat : Int) = x := by
  rw [UInt8.toNat_ofNat']; omega
theorem bt_str (xs : List Int) (h : ∀ x ∈ xs, 0 ≤ x ∧ x < 256) (i : Nat) (hi : i < xs.length) : bt (strOfNums xs) i = xs[i] := by
  rw [← rd_bytesOf, rd, Go.Proofs.YtogimlinfkbapaaDoorW.PrintWords.bytesOf, strOfNums_data, List.map_map, List.getD_eq_getElem?_getD, List.getElem?_map, show ((i : Nat) : Int).toNat = i from rfl, List.getElem?_eq_getElem hi]
  exact u8_back _ (h _ (List.getElem_mem hi))
theorem str_inj (xs ys : List Int) (hx : ∀ x ∈ xs, 0 ≤ x ∧ x < 256) (hy : ∀ x ∈ ys, 0 ≤ x ∧ x < 256) (h : strOfNums xs = strOfNums ys) : xs = ys := by
  have hl : xs.length = ys.length := by rw [← strOfNums_size xs, ← strOfNums_size ys, h]
  refine List.ext_getElem hl fun i h1 h2 => ?_
  rw [← bt_str xs hx i h1, ← bt_str ys hy i h2, h]
theorem str_of_bt (s : ByteArray) : s = strOfNums ((List.range s.size).map fun (i : Nat) => bt s i) := by
  apply ByteArray.ext
  apply Array.toList_inj.1
  rw [strOfNums_data, List.map_map]
  refine List.ext_getElem (by rw [List.length_map, List.length_range, data_length]) fun i h1 h2 => ?_
  rw [List.getElem_map, List.getElem_range]
  have hi : i < s.size := by rw [data_length] at h1; exact h1
  simp only [Function.comp]
  unfold bt
  rw [dif_pos (show ((i : Nat) : Int).toNat < s.size from hi)]
  apply UInt8.toNat_inj.1
  rw [UInt8.toNat_ofNat']
  have := s.data[i].toNat_lt
  show s.data[i].toNat = _
  have e : (s[((i : Nat) : Int).toNat]'hi) = s.data[i] := rfl
  rw [e]
  omega

theorem sign_bound (l : List Int) : ∀ x ∈ l.map sign, 0 ≤ x ∧ x < 256 := by
  intro x hx
  obtain ⟨v, _, rfl⟩ := List.mem_map.1 hx
  exact sign_byte v
theorem sign_inj (xs ys : List Int) (hx : ∀ x ∈ xs, 0 ≤ x ∧ x < 64) (hy : ∀ x ∈ ys, 0 ≤ x ∧ x < 64) (h : xs.map sign = ys.map sign) : xs = ys := by
  have h2 := congrArg (List.map vidx) h
  rw [List.map_map, List.map_map] at h2
  have e : ∀ l : List Int, (∀ x ∈ l, 0 ≤ x ∧ x < 64) → l.map (vidx ∘ sign) = l := fun l hl => by
    conv => rhs; rw [← List.map_id l]
    exact List.map_congr_left fun x hx => vidx_sign x (hl x hx).1 (hl x hx).2
  rw [e xs hx, e ys hy] at h2
  exact h2

theorem pad_01 (tw : Nat) (l : List Int) (h : ∀ x ∈ l, x = 0 ∨ x = 1) : ∀ x ∈ pad tw l, x = 0 ∨ x = 1 := by
  intro x hx
  rcases List.mem_append.1 hx with hx | hx
  · exact h x hx
  · exact .inl (List.eq_of_mem_replicate hx)
theorem pad_len6 (l : List Int) : (pad 6 l).length % 6 = 0 ∧ (pad 6 l).length = 6 * ((l.length + 5) / 6) := by
  rw [pad, List.length_append, List.length_replicate, padn]
  omega

theorem encS_eq (b : List Int) (h : ∀ x ∈ b, 0 ≤ x ∧ x < 256) : encS b = strOfNums ((chs 6 (pad 6 (b.flatMap (bts 8)))).map sign) := by
  rw [encS, ← rg_all (by decide) (by decide) b (fun v hv => h v hv), List.map_map]
  rfl
theorem encS_size (b : List Int) (h : ∀ x ∈ b, 0 ≤ x ∧ x < 256) : (encS b).size = (8 * b.length + 5) / 6 := by
  rw [encS_eq b h, strOfNums_size, List.length_map, chs_len, (pad_len6 _).2, flat_len]
  omega
theorem vids_enc (b : List Int) (h : ∀ x ∈ b, 0 ≤ x ∧ x < 256) : vids (encS b) = chs 6 (pad 6 (b.flatMap (bts 8))) := by
  have hr := chs_range (tw := 6) (by decide) (pad 6 (b.flatMap (bts 8))) (pad_01 6 _ (flat_01 8 b))
  rw [encS_eq b h]
  refine List.ext_getElem (by rw [vids_len, strOfNums_size, List.length_map]) fun i h1 h2 => ?_
  have hi : i < ((chs 6 (pad 6 (b.flatMap (bts 8)))).map sign).length := by rw [List.length_map]; exact h2
  have e := vids_get (strOfNums ((chs 6 (pad 6 (b.flatMap (bts 8)))).map sign)) i (by rw [strOfNums_size]; exact hi)
  rw [List.getD_eq_getElem?_getD, List.getElem?_eq_getElem h1] at e
  refine Eq.trans e ?_
  rw [bt_str _ (sign_bound _) i hi, List.getElem_map]
  have := hr _ (List.getElem_mem h2)
  exact vidx_sign _ this.1 this.2
theorem outOf_eq (s : ByteArray) (h : ∀ i : Nat, i < s.size → 0 ≤ vidx (bt s i)) : outOf s = chs 8 ((vids s).flatMap (bts 6)) := by
  refine rg_full (by decide) (by decide) (vids s) fun v hv => ?_
  obtain ⟨i, hi, rfl⟩ := List.mem_map.1 hv
  exact ⟨h i (List.mem_range.1 hi), (vidx_lt _).2⟩
theorem valid_enc (b : List Int) (h : ∀ x ∈ b, 0 ≤ x ∧ x < 256) : ∀ i : Nat, i < (encS b).size → 0 ≤ vidx (bt (encS b) i) := by
  intro i hi
  have hr := chs_range (tw := 6) (by decide) (pad 6 (b.flatMap (bts 8))) (pad_01 6 _ (flat_01 8 b))
  have e := vids_get (encS b) i hi
  rw [vids_enc b h] at e
  rw [← e]
  have hl : i < (chs 6 (pad 6 (b.flatMap (bts 8)))).length := by rw [← vids_enc b h, vids_len]; exact hi
  rw [List.getD_eq_getElem?_getD, List.getElem?_eq_getElem hl]
  exact (hr _ (List.getElem_mem hl)).1
theorem flat_chs {tw : Nat} (h0 : 0 < tw) (l : List Int) (h : ∀ x ∈ l, x = 0 ∨ x = 1) (hm : l.length % tw = 0) : (chs tw l).flatMap (bts tw) = l := by
  have := chs_split h0 (l.length / tw) l rfl h
  rw [List.drop_of_length_le (by have := Nat.div_add_mod l.length tw; omega), List.append_nil] at this
  exact this.symm
/-- What is encoded is decoded. -/
theorem dec_enc (b : List Int) (h : ∀ x ∈ b, 0 ≤ x ∧ x < 256) : decP (encS b) = (b, -1) := by
  have ho : outOf (encS b) = b := by
    rw [outOf_eq _ (valid_enc b h), vids_enc b h, flat_chs (by decide) _ (pad_01 6 _ (flat_01 8 b)) (pad_len6 _).1, pad]
    refine chs_of_bts (by decide) _ ?_ b h
    rw [List.length_replicate, padn]
    omega
  rw [decP, badAt_none (valid_enc b h)]
  simp only [ho, if_true]

theorem zeros_iff : ∀ (l : List Int), (∀ x ∈ l, x = 0 ∨ x = 1) → (¬ 0 < l.sum ↔ l = List.replicate l.length 0) := by
  intro l
  induction l with
  | nil => intro _; simp
  | cons x l ih =>
    intro h
    have h1 := ih (fun y hy => h y (List.mem_cons_of_mem _ hy))
    have h2 := h x (List.mem_cons_self ..)
    have h3 := (sum_01 l (fun y hy => h y (List.mem_cons_of_mem _ hy))).1
    rw [List.sum_cons, List.length_cons, List.replicate_succ, List.cons.injEq]
    rcases h2 with rfl | rfl
    · rw [← h1]; simp
    · constructor
      · intro h4; omega
      · intro h4; exact absurd h4.1 (by decide)

/-- Both decoders say the same. -/
theorem dec_ref (s : ByteArray) : decP s = refP s := by
  rw [decP, refP]
  cases hb : badAt s with
  | some i => rfl
  | none =>
    have hv : ∀ i : Nat, i < s.size → 0 ≤ vidx (bt s i) := by
      intro i hi
      unfold badAt at hb
      have := List.find?_eq_none.1 hb i (List.mem_range.2 hi)
      simp only [decide_eq_true_eq] at this
      omega
    have hV : ∀ v ∈ vids s, 0 ≤ v ∧ v < 64 := fun v hv' => by
      obtain ⟨i, hi, rfl⟩ := List.mem_map.1 hv'
      exact ⟨hv i (List.mem_range.1 hi), (vidx_lt _).2⟩
    have hs : s = strOfNums ((vids s).map sign) := by
      conv => lhs; rw [str_of_bt s]
      congr 1
      rw [vids, List.map_map]
      refine List.map_congr_left fun i hi => ?_
      exact (sign_vidx _ (by have := bt_range s i; omega) (hv i (List.mem_range.1 hi))).symm
    have ho := outOf_eq s hv
    have hob := outOf_bound s hv
    simp only [ho] at hob ⊢
    obtain ⟨L, hL⟩ : ∃ L, L = (vids s).flatMap (bts 6) := ⟨_, rfl⟩
    have hL01 : ∀ x ∈ L, x = 0 ∨ x = 1 := by rw [hL]; exact flat_01 6 _
    have hLl : L.length = 6 * s.size := by rw [hL, flat_len, vids_len]
    have hVL : chs 6 L = vids s := by
      have := chs_of_bts (tw := 6) (by decide) [] (by decide) (vids s) hV
      rw [List.append_nil] at this
      rw [hL]; exact this
    rw [← hL] at hob ⊢
    have hsp := chs_split (tw := 8) (by decide) (L.length / 8) L rfl hL01
    obtain ⟨R, hR⟩ : ∃ R, R = L.drop (8 * (L.length / 8)) := ⟨_, rfl⟩
    have hR01 : ∀ x ∈ R, x = 0 ∨ x = 1 := by rw [hR]; exact fun x hx => hL01 x (List.mem_of_mem_drop hx)
    have hRl : R.length = L.length - 8 * (L.length / 8) := by rw [hR, List.length_drop]
    obtain ⟨O, hO⟩ : ∃ O, O = (chs 8 L).flatMap (bts 8) := ⟨_, rfl⟩
    have hOl : O.length = 8 * (L.length / 8) := by rw [hO, flat_len, chs_len]
    have hO01 : ∀ x ∈ O, x = 0 ∨ x = 1 := by rw [hO]; exact flat_01 8 _
    rw [← hR, ← hO] at hsp
    have key : encS (chs 8 L) = s ↔ pad 6 O = L := by
      rw [encS_eq _ hob, ← hO]
      constructor
      · intro h
        rw [hs] at h
        have h1 := sign_inj _ _ (chs_range (by decide) _ (pad_01 6 _ hO01)) hV (str_inj _ _ (sign_bound _) (sign_bound _) h)
        have h2 := congrArg (List.flatMap (bts 6)) h1
        rw [flat_chs (by decide) _ (pad_01 6 _ hO01) (pad_len6 _).1, ← hL] at h2
        exact h2
      · intro h
        rw [h, hVL]
        exact hs.symm
    have key2 : pad 6 O = L ↔ ¬ (6 ≤ L.length - 8 * (L.length / 8) ∨ 0 < R.sum) := by
      rw [show (pad 6 O = L) = (O ++ List.replicate (padn 6 O.length) 0 = L) from rfl]
      conv => lhs; rw [hsp]
      rw [List.append_cancel_left_eq, not_or, zeros_iff R hR01, padn, hOl, hRl]
      constructor
      · intro h
        have h1 := congrArg List.length h
        rw [List.length_replicate, hRl] at h1
        refine ⟨by omega, ?_⟩
        rw [← h, ← h1]
      · rintro ⟨h1, h2⟩
        rw [h2]
        congr 1
        omega
    rw [← hLl, ← hR]
    by_cases c : encS (chs 8 L) = s
    · rw [if_pos c, if_neg (key2.1 (key.1 c))]
    · rw [if_neg c, if_pos (Classical.byContradiction fun h => c (key.2 (key2.2 h)))]

/-- A text that is decoded is that of its bytes. -/
theorem dec_good {s : ByteArray} (h : (decP s).2 < 0) : encS (decP s).1 = s ∧ (decP s).2 = -1 ∧ ∀ x ∈ (decP s).1, 0 ≤ x ∧ x < 256 := by
  rw [decP] at h ⊢
  cases hb : badAt s with
  | some i => rw [hb] at h; simp only at h; omega
  | none =>
    have hv : ∀ i : Nat, i < s.size → 0 ≤ vidx (bt s i) := by
      intro i hi
      unfold badAt at hb
      have := List.find?_eq_none.1 hb i (List.mem_range.2 hi)
      simp only [decide_eq_true_eq] at this
      omega
    rw [hb] at h
    simp only at h ⊢
    by_cases c : encS (outOf s) = s
    · rw [if_pos c]
      exact ⟨c, rfl, outOf_bound s hv⟩
    · rw [if_neg c] at h
      exfalso
      apply c
      have hz : s.size = 0 := by simp only at h; omega
      have h0 : s = strOfNums [] := by rw [str_of_bt s, hz]; rfl
      rw [h0]
      have : outOf (strOfNums []) = [] := by rfl
      rw [this]
      rfl
theorem dec_len (s : ByteArray) : (decP s).1.length ≤ s.size := by
  rw [dec_ref, refP]
  split
  · simp
  · split
    · simp
    · simp only [chs_len, flat_len, vids_len]; omega
theorem dec_bytes (s : ByteArray) : ∀ x ∈ (decP s).1, 0 ≤ x ∧ x < 256 := by
  by_cases h : (decP s).2 < 0
  · exact (dec_good h).2.2
  · intro x hx
    rw [dec_ref, refP] at h hx
    split at hx <;> rename_i hb
    · cases hx
    · rw [hb] at h
      simp only at h
      split at hx <;> rename_i hc
      · cases hx
      · rw [if_neg hc] at h; simp at h

end Go.Proofs.YtogimlinfkbapaaDoor.HBaseP
