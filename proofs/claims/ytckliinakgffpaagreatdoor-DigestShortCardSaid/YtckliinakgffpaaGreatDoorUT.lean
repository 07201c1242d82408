/- Names, plain: bytes of names and identifiers. -/
import Derived.Test.YtckliinakgffpaaGreatDoorWWords
import Derived.Lib.Bytealg
import Derived.Lib.SlicesS
import Derived.Lib.IndexLaws
import Derived.Test.YtckliinakgffpaaGreatDoorProg
import Derived.WalkSpells
import Derived.Lib.IfaceEq
import Derived.Lib.IfaceNeq
import Derived.Laws.BitsAllLaws
namespace Go.Proofs.YtckliinakgffpaaGreatDoor.HNameP
open Go.RowKit Go.Proofs.YtckliinakgffpaaGreatDoorW.PrintWords
set_option linter.unusedVariables false

def smallC (c : Int) : Bool := decide (97 ≤ c) && decide (c ≤ 122)
def digitC (c : Int) : Bool := decide (48 ≤ c) && decide (c ≤ 57)
def nameC (c : Int) : Bool := smallC c || (digitC c || c == 95)
def idC (c : Int) : Bool := nameC c || ((decide (65 ≤ c) && decide (c ≤ 90)) || (c == 45 || (c == 46 || (c == 47 || c == 61))))
def allC (p : Int → Bool) (s : ByteArray) : Bool := (List.range s.size).all fun (i : Nat) => p (bt s i)
def SMALL : ByteArray := ⟨#[97, 98, 99, 100, 101, 102, 103, 104, 105, 106, 107, 108, 109, 110, 111, 112, 113, 114, 115, 116, 117, 118, 119, 120, 121, 122]⟩
def INNAME : ByteArray := ⟨#[97, 98, 99, 100, 101, 102, 103, 104, 105, 106, 107, 108, 109, 110, 111, 112, 113, 114, 115, 116, 117, 118, 119, 120, 121, 122, 48, 49, 50, 51, 52, 53, 54, 55, 56, 57, 95]⟩
def INID : ByteArray := ⟨#[97, 98, 99, 100, 101, 102, 103, 104, 105, 106, 107, 108, 109, 110, 111, 112, 113, 114, 115, 116, 117, 118, 119, 120, 121, 122, 48, 49, 50, 51, 52, 53, 54, 55, 56, 57, 95, 65, 66, 67, 68, 69, 70, 71, 72, 73, 74, 75, 76, 77, 78, 79, 80, 81, 82, 83, 84, 85, 86, 87, 88, 89, 90, 45, 46, 47, 61]⟩
def memC (set : ByteArray) (c : Int) : Bool := decide (0 ≤ Lib.indexByte set.data.toList c.toNat.toUInt8)

theorem mem_all (set : ByteArray) (p : Int → Bool) (h : (List.range 256).all (fun (c : Nat) => memC set c == p c) = true) (c : Int) (h0 : 0 ≤ c) (h1 : c ≤ 255) : memC set c = p c := by
  have := List.all_eq_true.1 h c.toNat (List.mem_range.2 (by omega))
  rw [show ((c.toNat : Nat) : Int) = c from by omega] at this
  exact beq_iff_eq.1 this
theorem mem_small (c : Int) (h0 : 0 ≤ c) (h1 : c ≤ 255) : memC SMALL c = smallC c := mem_all _ _ (by decide +kernel) c h0 h1
theorem mem_name (c : Int) (h0 : 0 ≤ c) (h1 : c ≤ 255) : memC INNAME c = nameC c := mem_all _ _ (by decide +kernel) c h0 h1
theorem mem_id (c : Int) (h0 : 0 ≤ c) (h1 : c ≤ 255) : memC INID c = idC c := mem_all _ _ (by decide +kernel) c h0 h1
theorem allC_congr {p q : Int → Bool} (s : ByteArray) (h : ∀ c : Int, 0 ≤ c → c ≤ 255 → p c = q c) : allC p s = allC q s := by
  unfold allC
  congr 1
  funext i
  exact h _ (bt_range s i).1 (bt_range s i).2

def DEF : ByteArray := ⟨#[100, 101, 102, 105, 110, 105, 116, 105, 111, 110]⟩
def REL : ByteArray := ⟨#[114, 101, 108, 97, 116, 105, 111, 110]⟩
def PERM : ByteArray := ⟨#[112, 101, 114, 109, 105, 115, 115, 105, 111, 110]⟩
def resP (s : ByteArray) : Bool := Lib.containsS [DEF, REL, PERM] s
def isP (s : ByteArray) : Bool := decide (1 ≤ s.size) && (decide (s.size ≤ 64) && (smallC (bt s 0) && (allC nameC s && !resP s)))
def idP (s : ByteArray) : Bool := decide (1 ≤ s.size) && (decide (s.size ≤ 128) && allC idC s)
/-- The first place of a byte, -1 if there is none. -/
def findP (s : ByteArray) (c : Int) : Int := Lib.indexByte s.data.toList c.toNat.toUInt8

theorem res_or (s : ByteArray) : resP s = (decide (s = DEF) || (decide (s = REL) || decide (s = PERM))) := by
  rw [Bool.eq_iff_iff, resP, Lib.containsS_iff]
  simp
theorem id_of_name {s : ByteArray} (h : isP s = true) : idP s = true := by
  simp only [isP, idP, Bool.and_eq_true, decide_eq_true_eq] at h ⊢
  refine ⟨h.1, by omega, ?_⟩
  have := h.2.2.2.1
  unfold allC at this ⊢
  rw [List.all_eq_true] at this ⊢
  intro i hi
  have := this i hi
  unfold idC
  rw [this]
  rfl
theorem allC_true {p : Int → Bool} {s : ByteArray} (h : ∀ i : Nat, i < s.size → p (bt s i) = true) : allC p s = true := by
  unfold allC
  rw [List.all_eq_true]
  exact fun i hi => h i (List.mem_range.1 hi)
theorem allC_false {p : Int → Bool} {s : ByteArray} (i : Nat) (hi : i < s.size) (h : p (bt s i) = false) : allC p s = false := by
  unfold allC
  rw [List.all_eq_false]
  exact ⟨i, List.mem_range.2 hi, by rw [h]; simp⟩
theorem all_small (s : ByteArray) : allC (memC SMALL) s = allC smallC s := allC_congr s mem_small
theorem all_name (s : ByteArray) : allC (memC INNAME) s = allC nameC s := allC_congr s mem_name
theorem all_id (s : ByteArray) : allC (memC INID) s = allC idC s := allC_congr s mem_id
theorem first_small (s : ByteArray) (h : 1 ≤ s.size) : allC (memC SMALL) (s.extract 0 1) = smallC (bt s 0) := by
  rw [all_small]
  have hl : (s.extract 0 1).size = 1 := by rw [ByteArray.size_extract]; omega
  have hb : bt (s.extract 0 1) 0 = bt s 0 := by
    unfold bt
    have e0 : (0 : Int).toNat = 0 := rfl
    rw [dif_pos (by rw [hl]; decide), dif_pos (by rw [e0]; omega)]
    congr 2
    simp [ByteArray.getElem_extract]
  unfold allC
  rw [hl, show List.range 1 = [0] from rfl]
  simp [hb]
theorem isP_eq (s : ByteArray) (h1 : 1 ≤ s.size) (h2 : s.size ≤ 64) : isP s = (smallC (bt s 0) && (allC nameC s && !resP s)) := by
  unfold isP
  rw [decide_eq_true h1, decide_eq_true h2, Bool.true_and, Bool.true_and]
theorem idP_eq (s : ByteArray) (h1 : 1 ≤ s.size) (h2 : s.size ≤ 128) : idP s = allC idC s := by
  unfold idP
  rw [decide_eq_true h1, decide_eq_true h2, Bool.true_and, Bool.true_and]
theorem isP_no (s : ByteArray) (h : s.size = 0 ∨ 64 < s.size) : isP s = false := by
  unfold isP
  rcases h with h | h
  · rw [decide_eq_false (by omega), Bool.false_and]
  · rw [decide_eq_false (show ¬ s.size ≤ 64 by omega), Bool.false_and, Bool.and_false]
theorem idP_no (s : ByteArray) (h : s.size = 0 ∨ 128 < s.size) : idP s = false := by
  unfold idP
  rcases h with h | h
  · rw [decide_eq_false (by omega), Bool.false_and]
  · rw [decide_eq_false (show ¬ s.size ≤ 128 by omega), Bool.false_and, Bool.and_false]
theorem nil_of_size {s : ByteArray} (h : s.size = 0) : s.toList = [] := by
  rw [ByteArray.toList_eq]
  exact List.eq_nil_of_length_eq_zero (by rw [Array.length_toList]; exact h)
theorem ne_of_size {s : ByteArray} (h : 1 ≤ s.size) : ¬ s.toList = [] := fun e => by
  rw [ByteArray.toList_eq] at e
  have : s.data.toList.length = 0 := by rw [e]; rfl
  rw [Array.length_toList] at this
  have h2 : s.data.size = s.size := rfl
  omega
theorem bt_get (s : ByteArray) (i : Nat) (c : Int) (hc : 0 ≤ c ∧ c ≤ 255) : s.data.toList[i]? = some c.toNat.toUInt8 ↔ i < s.size ∧ bt s i = c := by
  have hl : s.data.toList.length = s.size := by rw [Array.length_toList]; rfl
  by_cases h : i < s.size
  · rw [List.getElem?_eq_getElem (by omega), Option.some.injEq]
    have e : bt s i = ((s.data.toList[i]'(by omega)).toNat : Int) := by
      rw [← bt_at s i h]
      rfl
    rw [e]
    have hn : c.toNat.toUInt8.toNat = c.toNat := by
      rw [Nat.toUInt8, UInt8.toNat_ofNat']
      omega
    constructor
    · intro h2
      rw [h2, hn]
      omega
    · rintro ⟨_, h2⟩
      apply UInt8.toNat_inj.1
      rw [hn]
      omega
  · rw [List.getElem?_eq_none (by omega)]
    simp [h]
theorem find_ge (s : ByteArray) (c : Int) : -1 ≤ findP s c := Lib.indexByte_ge _ _
theorem find_none {s : ByteArray} {c : Int} (hc : 0 ≤ c ∧ c ≤ 255) (h : findP s c = -1) (i : Nat) (hi : i < s.size) : bt s i ≠ c := fun e =>
  Lib.indexByte_none h i ((bt_get s i c hc).2 ⟨hi, e⟩)
theorem find_some {s : ByteArray} {c : Int} (hc : 0 ≤ c ∧ c ≤ 255) {o : Nat} (h : findP s c = o) : o < s.size ∧ bt s o = c ∧ ∀ k : Nat, k < o → bt s k ≠ c := by
  obtain ⟨h1, h2⟩ := Lib.indexByte_some h
  obtain ⟨h3, h4⟩ := (bt_get s o c hc).1 h1
  exact ⟨h3, h4, fun k hk e => h2 k hk ((bt_get s k c hc).2 ⟨by omega, e⟩)⟩
theorem find_lt {s : ByteArray} {c : Int} (hc : 0 ≤ c ∧ c ≤ 255) : findP s c < s.size := by
  by_cases h : findP s c = -1
  · omega
  · have := find_ge s c
    have := (find_some (s := s) hc (o := (findP s c).toNat) (by omega)).1
    omega
theorem find_hit {s : ByteArray} {c : Int} (j : Nat) (hj : j < s.size) (hc : 0 ≤ c ∧ c ≤ 255) (he : bt s j = c) (hb : ∀ i : Nat, i < j → bt s i ≠ c) : findP s c = j := by
  by_cases h : findP s c = -1
  · exact absurd he (find_none hc h j hj)
  · have h0 := find_ge s c
    obtain ⟨h1, h2, h3⟩ := find_some (s := s) hc (o := (findP s c).toNat) (by omega)
    rcases Nat.lt_trichotomy (findP s c).toNat j with h4 | h4 | h4
    · exact absurd h2 (hb _ h4)
    · omega
    · exact absurd he (h3 j h4)
theorem find_miss {s : ByteArray} {c : Int} (hc : 0 ≤ c ∧ c ≤ 255) (hb : ∀ i : Nat, i < s.size → bt s i ≠ c) : findP s c = -1 := by
  apply Classical.byContradiction
  intro h
  have h0 := find_ge s c
  obtain ⟨h1, h2, _⟩ := find_some (s := s) hc (o := (findP s c).toNat) (by omega)
  exact hb _ h1 h2

/-- An error: none, or a fault with a code and an offset. -/
def parseO (s : ByteArray) : ByteArray × ByteArray × Option (Int × Int) :=
  if findP s 58 = -1 then (⟨#[]⟩, ⟨#[]⟩, some (5, 0))
  else if isP (s.extract 0 (findP s 58).toNat) = false then (⟨#[]⟩, ⟨#[]⟩, some (5, 0))
  else if idP (s.extract (findP s 58 + 1).toNat s.size) = false then (⟨#[]⟩, ⟨#[]⟩, some (5, findP s 58 + 1))
  else (s.extract 0 (findP s 58).toNat, s.extract (findP s 58 + 1).toNat s.size, none)
/-- strings.Cut at one byte. -/
def cutP (s : ByteArray) (c : Int) : ByteArray × ByteArray × Bool :=
  if findP s c = -1 then (s, ⟨#[]⟩, false) else (s.extract 0 (findP s c).toNat, s.extract (findP s c + 1).toNat s.size, true)
def parseA (s : ByteArray) : ByteArray × ByteArray × Option (Int × Int) :=
  if isP (cutP s 35).1 = false then (⟨#[]⟩, ⟨#[]⟩, some (5, 0))
  else if (cutP s 35).2.2 = true ∧ isP (cutP s 35).2.1 = false then (⟨#[]⟩, ⟨#[]⟩, some (5, (cutP s 35).1.size + 1))
  else ((cutP s 35).1, (cutP s 35).2.1, none)
/-- told: an error has a code and an offset; 0 means no error. -/
def toldP (e : Option (Int × Int)) (c a : Int) : Bool :=
  match e with
  | none => decide (c = 0)
  | some (n, m) => decide (c ≠ 0) && (decide (n = c) && decide (m = a))
end Go.Proofs.YtckliinakgffpaaGreatDoor.HNameP
/- Words of this seat's own: byte slices, steps of the world. -/
namespace Go.Proofs.YtckliinakgffpaaGreatDoor.HLib
open Go.RowKit Go.Proofs.YtckliinakgffpaaGreatDoorW.PrintWords
set_option linter.unusedVariables false

/-- A value that is read as bytes. -/
def Bs (w : World) (v : Value) (xs : List Int) : Prop :=
  ∃ A c, v = .slice A xs.length c ∧ xs.length ≤ c ∧ Kd.C (Kd.int .u8) w A xs.length xs ∧ (A = none → c = 0)

theorem Bs.below {w w1 : World} {v : Value} {xs : List Int} (h : Bs w v xs) (hb : Below w.heap.size w w1) : Bs w1 v xs := by
  obtain ⟨A, c, e, hc, hC, hn⟩ := h
  exact ⟨A, c, e, hc, Kd.C_below hC hb, hn⟩
theorem Bs.drewN {w : World} {v : Value} {xs : List Int} (h : Bs w v xs) (m : Nat) : Bs (w.drewN m) v xs := h
theorem Bs.drew {w : World} {v : Value} {xs : List Int} (h : Bs w v xs) : Bs w.drew v xs := h
theorem Bs.of_R {e : Nat} {w : World} {base : Nat} {ok : Nat → Prop} {v : Value} {xs : List Int} (h : Kd.R (Kd.int .u8) e w base ok v xs) : Bs w v xs := by
  obtain ⟨inner, ho, _⟩ := h.2
  obtain ⟨A, c, e1, hc, hC⟩ := Kd.R_reads h
  refine ⟨A, c, e1, hc, hC, ?_⟩
  rintro rfl
  rcases ho.2 with ⟨h1, h2⟩ | ⟨g, cap, cur, h1, _⟩
  · rw [h1] at e1; injection e1 with _ _ h3; exact h3.symm
  · rw [h1] at e1; injection e1 with h3; cases h3
theorem Bs.nil (w : World) : Bs w (.slice none 0 0) [] := ⟨none, 0, rfl, Nat.le_refl _, Kd.C_nil _ _, fun _ => rfl⟩

theorem B0 (w : World) : Below w.heap.size w w := Below.refl _ _
theorem Drawn0.trans {w w1 w2 : World} (h : Drawn0 w w1) (k : Drawn0 w1 w2) : Drawn0 w w2 := by
  obtain ⟨⟨m, rfl⟩⟩ := k
  exact h.step m

theorem info_u8 : (Tryz.prog.info? 5).map (fun i => (i.zero, i.size, i.bytes)) = some (some (.int .u8 0), 1, 1) := by kernel_rfl

/-- A value that is read as bytes, cut at j. -/
theorem Bs.take {w : World} {A : Option Addr} {c : Nat} {xs : List Int} (h : Bs w (.slice A xs.length c) xs) (j : Nat) (hj : j ≤ xs.length) : Bs w (.slice A j c) (xs.take j) := by
  obtain ⟨A', c', e, hc, hC, hn⟩ := h
  injection e with e1 e2 e3
  subst e1 e3
  have hl : (xs.take j).length = j := by rw [List.length_take]; omega
  refine ⟨A, c, by rw [hl], by omega, ?_, hn⟩
  have hR := ReadsInt.take_ (readsInt_of.2 (Kd.reads_of_C (d := (0 : Int)) hC)) j hj
  rw [← hl] at hR
  exact Kd.C_of_reads (readsInt_of.1 (by rw [hl] at hR ⊢; exact hR))
theorem run_take (t e : TypeId) {P : Program} {i : TypeInfo} (ht : P.underlying t = some (.slice e)) (hi : P.info? e = some i) (hsz : i.size = 1) (A : Option Addr) (c : Nat) (xs : List Int) (j : Int) (h0 : 0 ≤ j) (hm : j ≤ xs.length) (hc : xs.length ≤ c) (W : World) :
    (Instr.slice t (.slice A xs.length c) none (some (.int .i64 j)) none).run P W = .ok (.slice A (xs.take j.toNat).length c) W := (print_take_int (k := .u8) t e ht hi hsz A c xs j h0 hm hc).1 W

/-- A slice of whole numbers that came in, as a row tells it. -/
def IsRow (k : IntKind) (w : World) (a : Option Addr) (len cap : Nat) (zs : List Int) : Prop :=
  (a = none ∧ len = 0 ∧ cap = 0 ∧ zs = []) ∨
  ∃ x, a = some x ∧ len ≤ cap ∧ cap ≤ maxLen ∧ zs.length = cap ∧ (∀ i, i < zs.length → w.cell? (x.add i) = some (.int k (zs.getD i 0))) ∧ ∀ n ∈ zs, (Lit.int k n).wf = true

theorem wf_range {k : IntKind} {n : Int} (h : (Lit.int k n).wf = true) : k.min ≤ n ∧ n ≤ k.max := by
  simp only [Lit.wf, Bool.and_eq_true, decide_eq_true_eq] at h
  exact h
theorem wf_u8 {n : Int} (h : (Lit.int .u8 n).wf = true) : 0 ≤ n ∧ n < 256 := by
  have := wf_range h
  have h1 : IntKind.u8.min = 0 := rfl
  have h2 : IntKind.u8.max = 255 := rfl
  omega
theorem wf_u64 {n : Int} (h : (Lit.int .u64 n).wf = true) : ∃ m : Nat, n = m ∧ m < 18446744073709551616 := by
  have := wf_range h
  have h1 : IntKind.u64.min = 0 := rfl
  have h2 : IntKind.u64.max = 18446744073709551615 := rfl
  exact ⟨n.toNat, by omega, by omega⟩
theorem wf_u32 {n : Int} (h : (Lit.int .u32 n).wf = true) : ∃ m : Nat, n = m ∧ m < 4294967296 := by
  have := wf_range h
  have h1 : IntKind.u32.min = 0 := rfl
  have h2 : IntKind.u32.max = 4294967295 := rfl
  exact ⟨n.toNat, by omega, by omega⟩
theorem wf_i64 {n : Int} (h : (Lit.int .i64 n).wf = true) : -9223372036854775808 ≤ n ∧ n ≤ 9223372036854775807 := by
  have := wf_range h
  have h1 : IntKind.i64.min = -9223372036854775808 := rfl
  have h2 : IntKind.i64.max = 9223372036854775807 := rfl
  omega

/-- What came in is read as bytes. -/
theorem bs_row {w : World} {a : Option Addr} {len cap : Nat} {zs : List Int} (h : IsRow .u8 w a len cap zs) : ∃ xs, xs.length = len ∧ Bs w (.slice a len cap) xs ∧ ∀ b ∈ xs, 0 ≤ b ∧ b < 256 := by
  obtain ⟨l, rfl, hR, hm, hw⟩ := ReadsInt.ofRow h
  refine ⟨l, rfl, ⟨a, cap, rfl, ?_, Kd.C_of_reads (d := (0 : Int)) (readsInt_of.1 hR), ?_⟩, fun b hb => wf_u8 (hw b hb)⟩
  · rcases h with ⟨_, h1, _, _⟩ | ⟨x, _, hl, _⟩ <;> omega
  · rintro rfl
    rcases h with ⟨_, _, h1, _⟩ | ⟨x, hx, _⟩
    · exact h1
    · cases hx

/-- x[i:j:j] of what is read as bytes. -/
theorem run_mid3 (t e : TypeId) {P : Program} {i0 : TypeInfo} (ht : P.underlying t = some (.slice e)) (hi0 : P.info? e = some i0) (hsz : i0.size = 1) (A : Option Addr) (c : Nat) (xs : List Int) (i j : Int) (h0 : 0 ≤ i) (h1 : i ≤ j) (h2 : j ≤ xs.length) (hc : xs.length ≤ c) (hn : A = none → c = 0) :
    ∃ A', (∀ W : World, (Instr.slice t (.slice A xs.length c) (some (.int .i64 i)) (some (.int .i64 j)) (some (.int .i64 j))).run P W = .ok (.slice A' ((xs.drop i.toNat).take (j - i).toNat).length ((xs.drop i.toNat).take (j - i).toNat).length) W) ∧
      ∀ w : World, ReadsInt w .u8 A xs.length xs → Bs w (.slice A' ((xs.drop i.toNat).take (j - i).toNat).length ((xs.drop i.toNat).take (j - i).toNat).length) ((xs.drop i.toNat).take (j - i).toNat) ∧ ∀ ad', A' = some ad' → ∃ ad, A = some ad ∧ ad'.block = ad.block := by
  have hl : ((xs.drop i.toNat).take (j - i).toNat).length = (j - i).toNat := by rw [List.length_take, List.length_drop]; omega
  refine ⟨if j.toNat = i.toNat then A else A.map (·.add i.toNat), fun W => ?_, fun w h => ⟨?_, fun ad' hA => ?_⟩⟩
  · have hel : P.elem t = e := by simp [Program.elem, ht]
    have hu : P.underlying t = some (.slice (P.elem t)) := by rw [hel]; exact ht
    rw [run_slice_lhm W t A xs.length c hu .i64 .i64 .i64 i j j h0 h1 (by omega) (by omega), hel, hl]
    simp only [sizeOf, typeInfo]
    simp [hi0, hsz, sliced, Result.andThen, show j.toNat - i.toNat = (j - i).toNat from by omega]
  · rw [hl]
    by_cases z : j.toNat = i.toNat
    · rw [if_pos z]
      have hz : (xs.drop i.toNat).take (j - i).toNat = [] := by rw [show (j - i).toNat = 0 from by omega]; rfl
      have hz2 : (j - i).toNat = 0 := by omega
      rw [hz, hz2]
      exact ⟨A, 0, rfl, Nat.le_refl _, Kd.C_of_reads (d := (0 : Int)) (readsInt_of.1 ⟨rfl, by simp, fun h => absurd h (by simp)⟩), fun _ => rfl⟩
    · rw [if_neg z]
      have hd := ReadsInt.drop_ (c := c) h i.toNat (by omega) hc
      rw [if_neg (show ¬ c = i.toNat from by omega)] at hd
      have ht2 := ReadsInt.take_ hd (j - i).toNat (by omega)
      refine ⟨_, _, by rw [hl], by rw [hl]; exact Nat.le_refl _, Kd.C_of_reads (d := (0 : Int)) (readsInt_of.1 (by rw [hl]; exact ht2)), fun hA => ?_⟩
      cases A with
      | none => have := hn rfl; omega
      | some a => cases hA
  · split at hA
    · exact ⟨ad', hA, rfl⟩
    · cases A with
      | none => cases hA
      | some a => exact ⟨a, rfl, by injection hA with hA; rw [← hA]; unfold Addr.add; split <;> rfl⟩

/-- A store into another block. -/
theorem Bs.far {w : World} {v : Value} {xs : List Int} (h : Bs w v xs) (g j : Nat) (u : Value) (hne : ∀ ad n c, v = .slice (some ad) n c → ad.block ≠ g) : Bs (w.setCell ⟨g, j, none⟩ u) v xs := by
  obtain ⟨A, c, rfl, hc, hC, hn⟩ := h
  refine ⟨A, c, rfl, hc, Kd.C_of_reads (d := (0 : Int)) (readsInt_of.1 (ReadsInt.keep (g := g) (readsInt_of.2 (Kd.reads_of_C (d := (0 : Int)) hC)) ((KeepBut.refl w g none).set_ j u) (fun ad e _ => hne ad _ _ (by rw [e])))), hn⟩

/-- x[i:j] of what is read as bytes. -/
theorem run_mid2 (t e : TypeId) {P : Program} {i0 : TypeInfo} (ht : P.underlying t = some (.slice e)) (hi0 : P.info? e = some i0) (hsz : i0.size = 1) (A : Option Addr) (c : Nat) (xs : List Int) (i j : Int) (h0 : 0 ≤ i) (h1 : i ≤ j) (h2 : j ≤ xs.length) (hc : xs.length ≤ c) (hn : A = none → c = 0) :
    ∃ A', (∀ W : World, (Instr.slice t (.slice A xs.length c) (some (.int .i64 i)) (some (.int .i64 j)) none).run P W = .ok (.slice A' ((xs.drop i.toNat).take (j - i).toNat).length (c - i.toNat)) W) ∧
      ∀ w : World, ReadsInt w .u8 A xs.length xs → ReadsInt w .u8 A' ((xs.drop i.toNat).take (j - i).toNat).length ((xs.drop i.toNat).take (j - i).toNat) ∧ Bs w (.slice A' ((xs.drop i.toNat).take (j - i).toNat).length (c - i.toNat)) ((xs.drop i.toNat).take (j - i).toNat) := by
  have hl : ((xs.drop i.toNat).take (j - i).toNat).length = (j - i).toNat := by rw [List.length_take, List.length_drop]; omega
  have key : ∀ w : World, ReadsInt w .u8 A xs.length xs → ReadsInt w .u8 (if c = i.toNat then A else A.map (·.add i.toNat)) ((xs.drop i.toNat).take (j - i).toNat).length ((xs.drop i.toNat).take (j - i).toNat) := fun w h => by
    have hd := ReadsInt.drop_ (c := c) h i.toNat (by omega) hc
    have ht2 := ReadsInt.take_ hd (j - i).toNat (by omega)
    rw [hl]
    exact ht2
  refine ⟨if c = i.toNat then A else A.map (·.add i.toNat), fun W => ?_, fun w h => ⟨key w h, ?_⟩⟩
  · have hel : P.elem t = e := by simp [Program.elem, ht]
    have hu : P.underlying t = some (.slice (P.elem t)) := by rw [hel]; exact ht
    rw [run_slice_lh W t A xs.length c hu .i64 .i64 i j h0 h1 (by omega), hel, hl]
    simp only [sizeOf, typeInfo]
    simp [hi0, hsz, sliced, Result.andThen, show j.toNat - i.toNat = (j - i).toNat from by omega]
  · refine ⟨_, _, by rw [hl], by omega, Kd.C_of_reads (d := (0 : Int)) (readsInt_of.1 (key w h)), fun hA => ?_⟩
    split at hA
    · omega
    · cases A with
      | none => have := hn rfl; omega
      | some a => cases hA

end Go.Proofs.YtckliinakgffpaaGreatDoor.HLib
