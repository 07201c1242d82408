/- The walk of sha.Block. -/
import Derived.Test.YtogimlinfkbapaaDoorUA
import Derived.Deep.RegionHeld3
import Derived.IntWalk
namespace Go.Proofs.YtogimlinfkbapaaDoor.HSha
open Go.RowKit Go.Proofs.YtogimlinfkbapaaDoorW.PrintWords Go.Proofs.YtogimlinfkbapaaDoor.HLib
set_option linter.unusedVariables false
set_option linter.unusedSimpArgs false

/-- A word turned to the right. -/
def rot (x : Int) (n : Nat) : Int := bits .or .u32 (x * 2 ^ (32 - n) % 4294967296) (x / 2 ^ n)

theorem and31_all : ∀ n : Fin 32, n.val = 0 ∨ bits .and .u64 (IntKind.u64.wrap (-(n.val : Int))) 31 = 32 - (n.val : Int) := of_decide_eq_true (by kernel_rfl)
theorem and31 (n : Nat) (h0 : 0 < n) (h1 : n < 32) : bits .and .u64 (IntKind.u64.wrap (-(n : Int))) 31 = 32 - (n : Int) := by
  rcases and31_all ⟨n, h1⟩ with h | h
  · simp at h; omega
  · exact h

theorem left_any (x n : Int) (w : World) (h0 : 0 < n) (h1 : n < 32) : Calls Tryd.prog 83 #[.int .u32 x, .int .i64 (-n)] w fun e w' => e = .returned (.int .u32 (rot x n.toNat)) ∧ w' = w := by
  have ha : bits .and .u64 (IntKind.u64.wrap (-n)) 31 = 32 - n := by
    have := and31 n.toNat (by omega) (by omega)
    rwa [show ((n.toNat : Nat) : Int) = n from by omega] at this
  have HT := Aside0.mk (show (32 - n).toNat = 32 - n.toNat from by omega)
  have h3 : 32 - (32 - n) = n := by omega
  go_enter Tryd.func83, Tryd.ntmps83
  go_wp2
  go_ret
  rw [HT.out]
  exact ⟨rfl, rfl⟩
theorem rot_any (x n : Int) (w : World) (h0 : 0 < n) (h1 : n < 32) : Calls Tryd.prog 76 #[.int .u32 x, .int .i64 n] w fun e w' => e = .returned (.int .u32 (rot x n.toNat)) ∧ w' = w := by
  go_enter Tryd.func76, Tryd.ntmps76
  go_wp2_with fail
  refine (left_any x n _ h0 h1).mono ?_
  rintro e w1 ⟨rfl, rfl⟩
  go_wp2
  go_ret
  exact ⟨rfl, rfl⟩

/-! Arrays of whole numbers, each a block of its own. -/
def IsArr (w : World) (g : Nat) (k : IntKind) (t : TypeId) (xs : List Int) : Prop := w.heap[g]? = some (.cells (nums k xs).toArray t (0, 0))
theorem IsArr.cell {w : World} {g : Nat} {k : IntKind} {t : TypeId} {xs : List Int} (h : IsArr w g k t xs) (i : Int) (h0 : 0 ≤ i) (hi : i < xs.length) : w.cell? ⟨g, i.toNat, none⟩ = some (.int k (rd xs i)) := by
  refine (blk_cell h i.toNat).trans ?_
  simp [nums, rd, List.getElem?_eq_getElem (show i.toNat < xs.length by omega), List.getD_eq_getElem?_getD]
theorem IsArr.frozen {w : World} {g : Nat} {k : IntKind} {t : TypeId} {xs : List Int} (h : IsArr w g k t xs) (i : Nat) : w.frozen? ⟨g, i, none⟩ = false := blk_frozen h i
theorem IsArr.put {w : World} {g : Nat} {k : IntKind} {t : TypeId} {xs : List Int} (h : IsArr w g k t xs) (i : Nat) (x : Int) : IsArr (w.setCell ⟨g, i, none⟩ (.int k x)) g k t (xs.set i x) := by
  have e : (nums k xs).toArray.setIfInBounds i (.int k x) = (nums k (xs.set i x)).toArray := by simp [nums, List.map_set]
  unfold IsArr
  rw [← e]
  exact blk_set h i _
theorem IsArr.far {w : World} {g : Nat} {k : IntKind} {t : TypeId} {xs : List Int} (h : IsArr w g k t xs) {p : Addr} (hp : g ≠ p.block) (u : Value) : IsArr (w.setCell p u) g k t xs := blk_far h hp u
theorem IsArr.drew {w : World} {g : Nat} {k : IntKind} {t : TypeId} {xs : List Int} (h : IsArr w g k t xs) : IsArr w.drew g k t xs := h
theorem IsArr.drewN {w : World} {g : Nat} {k : IntKind} {t : TypeId} {xs : List Int} (h : IsArr w g k t xs) (m : Nat) : IsArr (w.drewN m) g k t xs := h
theorem IsArr.alloc {w : World} {g : Nat} {k : IntKind} {t : TypeId} {xs : List Int} (h : IsArr w g k t xs) (o : Obj) : IsArr (w.alloc o) g k t xs := blk_alloc h o
theorem IsArr.below {w w1 : World} {g : Nat} {k : IntKind} {t : TypeId} {xs : List Int} (h : IsArr w g k t xs) {B : Nat} (hb : Below B w w1) (hg : g < B) : IsArr w1 g k t xs := (hb.block g hg).trans h

theorem cell_set_far {W : World} {p a : Addr} {u v : Value} (hp : p.block ≠ a.block) (h : W.cell? a = some v) : ((W.setCell p u).drew).cell? a = some v := by
  show (W.setCell p u).cell? a = some v
  exact (World.cell?_setCell_far W p a u hp).trans h
theorem cell_set_other {W : World} {g i j : Nat} {u v : Value} (hp : i ≠ j) (h : W.cell? ⟨g, j, none⟩ = some v) : ((W.setCell ⟨g, i, none⟩ u).drew).cell? ⟨g, j, none⟩ = some v := by
  show (W.setCell ⟨g, i, none⟩ u).cell? ⟨g, j, none⟩ = some v
  rw [World.cell?_setCell_other]
  · exact h
  · exact fun e => hp (by injection e)
theorem u32_in (x : Int) (h0 : 0 ≤ x) (h1 : x < 4294967296) : IntKind.u32.wrap x = x := by rw [IntKind.wrap_u32]; omega
theorem u32_nat_or (a b : Nat) (ha : a < 4294967296) (hb : b < 4294967296) : bits .or .u32 (a : Int) (b : Int) = ((a ||| b : Nat) : Int) := by
  have hx : a ||| b < 2 ^ 32 := Nat.or_lt_two_pow (by omega) (by omega)
  have ha2 : (BitVec.ofInt 32 (a : Int)).toNat = a := by simp; omega
  have hb2 : (BitVec.ofInt 32 (b : Int)).toNat = b := by simp; omega
  show IntKind.u32.wrap ((BitVec.ofInt 32 (a : Int) ||| BitVec.ofInt 32 (b : Int)).toNat : Int) = _
  rw [BitVec.toNat_or, ha2, hb2]
  exact u32_in _ (by omega) (by omega)
theorem or_low32 (a v : Int) (f : Nat) (m : Int) (hm : m = 2 ^ f) (ha : 0 ≤ a) (ha2 : a * m < 4294967296) (hv : 0 ≤ v) (hv2 : v < m) (hm2 : m ≤ 4294967296) : bits .or .u32 (a * m) v = a * m + v := by
  obtain ⟨A, rfl⟩ := Int.eq_ofNat_of_zero_le ha
  obtain ⟨V, rfl⟩ := Int.eq_ofNat_of_zero_le hv
  subst hm
  have e : (A : Int) * 2 ^ f = ((A * 2 ^ f : Nat) : Int) := by rw [Int.natCast_mul, Int.natCast_pow]; rfl
  have hv3 : V < 2 ^ f := by
    have h : (V : Int) < ((2 ^ f : Nat) : Int) := by rw [Int.natCast_pow]; exact hv2
    omega
  rw [e] at ha2 ⊢
  rw [u32_nat_or _ _ (by omega) (by omega), nat_join f (A * 2 ^ f) V (Nat.mul_mod_left _ _) hv3, Int.natCast_add]
theorem word_eq (x0 x1 x2 x3 : Int) (p0 : 0 ≤ x0) (q0 : x0 < 256) (p1 : 0 ≤ x1) (q1 : x1 < 256) (p2 : 0 ≤ x2) (q2 : x2 < 256) (p3 : 0 ≤ x3) (q3 : x3 < 256) :
    bits .or .u32 (bits .or .u32 (bits .or .u32 (x0 * 16777216) (x1 * 65536)) (x2 * 256)) x3 = ((x0 * 256 + x1) * 256 + x2) * 256 + x3 := by
  rw [or_low32 x0 (x1 * 65536) 24 16777216 rfl (by omega) (by omega) (by omega) (by omega) (by decide)]
  rw [show x0 * 16777216 + x1 * 65536 = (x0 * 256 + x1) * 65536 from by omega, or_low32 (x0 * 256 + x1) (x2 * 256) 16 65536 rfl (by omega) (by omega) (by omega) (by omega) (by decide)]
  rw [show (x0 * 256 + x1) * 65536 + x2 * 256 = ((x0 * 256 + x1) * 256 + x2) * 256 from by omega, or_low32 ((x0 * 256 + x1) * 256 + x2) x3 8 256 rfl (by omega) (by omega) (by omega) (by omega) (by decide)]
def M : Int := 4294967296
def sg0 (x : Int) : Int := bits .xor .u32 (bits .xor .u32 (rot x 7) (rot x 18)) (x / 2 ^ 3)
def sg1 (x : Int) : Int := bits .xor .u32 (bits .xor .u32 (rot x 17) (rot x 19)) (x / 2 ^ 10)
/-- The words of a block: the first n. -/
def first (bl : List Int) (n : Nat) : Int := ((bl.getD (4 * n) 0 * 256 + bl.getD (4 * n + 1) 0) * 256 + bl.getD (4 * n + 2) 0) * 256 + bl.getD (4 * n + 3) 0
def later (l : List Int) (n : Nat) : Int := (((l.getD (n - 16) 0 + sg0 (l.getD (n - 15) 0)) % 4294967296 + l.getD (n - 7) 0) % 4294967296 + sg1 (l.getD (n - 2) 0)) % 4294967296
def sched (bl : List Int) : Nat → List Int
  | 0 => []
  | n + 1 => sched bl n ++ [if n < 16 then first bl n else later (sched bl n) n]
theorem sched_len (bl : List Int) (n : Nat) : (sched bl n).length = n := by
  induction n with
  | zero => rfl
  | succ n ih => rw [sched, List.length_append, ih]; rfl

theorem rd_byte (bl : List Int) (h : ∀ x ∈ bl, 0 ≤ x ∧ x < 256) (i : Int) : 0 ≤ rd bl i ∧ rd bl i < 256 := by
  unfold rd
  rw [List.getD_eq_getElem?_getD]
  by_cases hi : i.toNat < bl.length
  · rw [List.getElem?_eq_getElem hi]; exact h _ (List.getElem_mem hi)
  · rw [List.getElem?_eq_none (by omega)]; decide
theorem set_next (l : List Int) (j : Nat) (x : Int) (hl : l.length = j) (hj : j < 64) : (l ++ List.replicate (64 - j) 0).set j x = l ++ ([x] ++ List.replicate (64 - (j + 1)) 0) := by
  rw [List.set_append_right (h := by omega), hl, Nat.sub_self, show 64 - j = (64 - (j + 1)) + 1 from by omega, List.replicate_succ, List.set_cons_zero]
  rfl
theorem rd_left (l r : List Int) (i : Int) (h : i.toNat < l.length) : rd (l ++ r) i = l.getD i.toNat 0 := by
  rw [rd, List.getD_eq_getElem?_getD, List.getD_eq_getElem?_getD, List.getElem?_append_left h]
theorem later_eq (bl : List Int) (j x y z u : Int) (h : x = rd (sched bl j.toNat ++ List.replicate (64 - j.toNat) 0) (j - 15) ∧ y = rd (sched bl j.toNat ++ List.replicate (64 - j.toNat) 0) (j - 2) ∧ z = rd (sched bl j.toNat ++ List.replicate (64 - j.toNat) 0) (j - 16) ∧ u = rd (sched bl j.toNat ++ List.replicate (64 - j.toNat) 0) (j - 7)) (h0 : 16 ≤ j) (h1 : j < 64) :
    (((z + bits .xor .u32 (bits .xor .u32 (rot x 7) (rot x 18)) (x / 8)) % 4294967296 + u) % 4294967296 + bits .xor .u32 (bits .xor .u32 (rot y 17) (rot y 19)) (y / 1024)) % 4294967296 = later (sched bl j.toNat) j.toNat := by
  have hl := sched_len bl j.toNat
  rw [h.1, h.2.1, h.2.2.1, h.2.2.2, rd_left _ _ (j - 15) (by omega), rd_left _ _ (j - 2) (by omega), rd_left _ _ (j - 16) (by omega), rd_left _ _ (j - 7) (by omega), show (j - 15).toNat = j.toNat - 15 from by omega, show (j - 2).toNat = j.toNat - 2 from by omega, show (j - 16).toNat = j.toNat - 16 from by omega, show (j - 7).toNat = j.toNat - 7 from by omega]
  rfl
/-- The constants. -/
def KT : List Int := [1116352408, 1899447441, 3049323471, 3921009573, 961987163, 1508970993, 2453635748, 2870763221, 3624381080, 310598401, 607225278, 1426881987, 1925078388, 2162078206, 2614888103, 3248222580, 3835390401, 4022224774, 264347078, 604807628, 770255983, 1249150122, 1555081692, 1996064986, 2554220882, 2821834349, 2952996808, 3210313671, 3336571891, 3584528711, 113926993, 338241895, 666307205, 773529912, 1294757372, 1396182291, 1695183700, 1986661051, 2177026350, 2456956037, 2730485921, 2820302411, 3259730800, 3345764771, 3516065817, 3600352804, 4094571909, 275423344, 430227734, 506948616, 659060556, 883997877, 958139571, 1322822218, 1537002063, 1747873779, 1955562222, 2024104815, 2227730452, 2361852424, 2428436474, 2756734187, 3204031479, 3329325298]
def Glob (w : World) : Prop := 1 < w.heap.size ∧ ∀ i : Nat, i < 64 → w.cell? ⟨1, i, none⟩ = some (.int .u32 (KT.getD i 0))
theorem Glob.below {w w1 : World} (h : Glob w) (hb : Below w.heap.size w w1) : Glob w1 := ⟨Nat.lt_of_lt_of_le h.1 hb.size, fun i hi => (hb.cell (p := ⟨1, i, none⟩) h.1).trans (h.2 i hi)⟩
/-- One round. -/
def tsum (s7 s4 s5 s6 k wd : Int) : Int := s7 + bits .xor .u32 (bits .xor .u32 (rot s4 6) (rot s4 11)) (rot s4 25) + bits .xor .u32 (bits .and .u32 s4 s5) (bits .and .u32 (bits .xor .u32 IntKind.u32.max s4) s6) + k + wd
def usum (s0 s1 s2 : Int) : Int := bits .xor .u32 (bits .xor .u32 (rot s0 2) (rot s0 13)) (rot s0 22) + bits .xor .u32 (bits .xor .u32 (bits .and .u32 s0 s1) (bits .and .u32 s0 s2)) (bits .and .u32 s1 s2)
def rnd (k wd : Int) (s : List Int) : List Int :=
  [(tsum (s.getD 7 0) (s.getD 4 0) (s.getD 5 0) (s.getD 6 0) k wd + usum (s.getD 0 0) (s.getD 1 0) (s.getD 2 0)) % 4294967296, s.getD 0 0, s.getD 1 0, s.getD 2 0,
   (s.getD 3 0 + tsum (s.getD 7 0) (s.getD 4 0) (s.getD 5 0) (s.getD 6 0) k wd) % 4294967296, s.getD 4 0, s.getD 5 0, s.getD 6 0]
def rounds (ws st : List Int) : Nat → List Int
  | 0 => st
  | n + 1 => rnd (KT.getD n 0) (ws.getD n 0) (rounds ws st n)
theorem rounds_len (ws st : List Int) (h : st.length = 8) (n : Nat) : (rounds ws st n).length = 8 := by
  cases n with
  | zero => exact h
  | succ n => rfl
theorem list8 (st : List Int) (h : st.length = 8) : [rd st 0, rd st 1, rd st 2, rd st 3, rd st 4, rd st 5, rd st 6, rd st 7] = st := by
  match st, h with
  | [a, b, c, d, e, f, g, i], _ => rfl
theorem set8 (s : List Int) (h : s.length = 8) (a b c d e f g i : Int) : (((((((s.set 0 a).set 1 b).set 2 c).set 3 d).set 4 e).set 5 f).set 6 g).set 7 i = [a, b, c, d, e, f, g, i] := by
  match s, h with
  | [_, _, _, _, _, _, _, _], _ => rfl
theorem IsArr.put8 {w : World} {g : Nat} {k : IntKind} {t : TypeId} {s : List Int} (h : IsArr w g k t s) (hl : s.length = 8) (a b c d e f x i : Int) :
    IsArr ((((((((w.setCell ⟨g, 0, none⟩ (.int k a)).setCell ⟨g, 1, none⟩ (.int k b)).setCell ⟨g, 2, none⟩ (.int k c)).setCell ⟨g, 3, none⟩ (.int k d)).setCell ⟨g, 4, none⟩ (.int k e)).setCell ⟨g, 5, none⟩ (.int k f)).setCell ⟨g, 6, none⟩ (.int k x)).setCell ⟨g, 7, none⟩ (.int k i)) g k t [a, b, c, d, e, f, x, i] := by
  rw [← set8 s hl]
  exact (((((((h.put 0 a).put 1 b).put 2 c).put 3 d).put 4 e).put 5 f).put 6 x).put 7 i
theorem below8 {w0 w : World} {g B : Nat} (h : Below B w0 w) (hg : B ≤ g) (a b c d e f x i : Value) :
    Below B w0 ((((((((w.setCell ⟨g, 0, none⟩ a).setCell ⟨g, 1, none⟩ b).setCell ⟨g, 2, none⟩ c).setCell ⟨g, 3, none⟩ d).setCell ⟨g, 4, none⟩ e).setCell ⟨g, 5, none⟩ f).setCell ⟨g, 6, none⟩ x).setCell ⟨g, 7, none⟩ i) :=
  (((((((h.setCell (p := ⟨g, 0, none⟩) hg a).setCell (p := ⟨g, 1, none⟩) hg b).setCell (p := ⟨g, 2, none⟩) hg c).setCell (p := ⟨g, 3, none⟩) hg d).setCell (p := ⟨g, 4, none⟩) hg e).setCell (p := ⟨g, 5, none⟩) hg f).setCell (p := ⟨g, 6, none⟩) hg x).setCell (p := ⟨g, 7, none⟩) hg i
theorem size8 {w : World} {g : Nat} (a b c d e f x i : Value) :
    ((((((((w.setCell ⟨g, 0, none⟩ a).setCell ⟨g, 1, none⟩ b).setCell ⟨g, 2, none⟩ c).setCell ⟨g, 3, none⟩ d).setCell ⟨g, 4, none⟩ e).setCell ⟨g, 5, none⟩ f).setCell ⟨g, 6, none⟩ x).setCell ⟨g, 7, none⟩ i).heap.size = w.heap.size := by simp [World.setCell]
def addst (r st : List Int) : List Int := List.zipWith (fun a b => (a + b) % 4294967296) r st
theorem addst_len (r st : List Int) (h1 : r.length = 8) (h2 : st.length = 8) : (addst r st).length = 8 := by simp [addst, h1, h2]
theorem addst_get (r st : List Int) (h1 : r.length = 8) (h2 : st.length = 8) (i : Nat) (hi : i < 8) : (addst r st).getD i 0 = (r.getD i 0 + st.getD i 0) % 4294967296 := by
  simp [addst, List.getD_eq_getElem?_getD, List.getElem?_zipWith, List.getElem?_eq_getElem (show i < r.length by omega), List.getElem?_eq_getElem (show i < st.length by omega)]
theorem mix_len (a r : List Int) (ha : a.length = 8) (hr : r.length = 8) (i : Nat) (hi : i ≤ 8) : (a.take i ++ r.drop i).length = 8 := by simp; omega
theorem mix_set (a r : List Int) (ha : a.length = 8) (hr : r.length = 8) (i : Nat) (hi : i < 8) : (a.take i ++ r.drop i).set i (a.getD i 0) = a.take (i + 1) ++ r.drop (i + 1) := by
  have hl : (a.take i).length = i := by simp; omega
  rw [List.set_append_right (h := by omega), hl, Nat.sub_self, List.drop_eq_getElem_cons (show i < r.length by omega), List.set_cons_zero, List.take_add_one, List.getElem?_eq_getElem (show i < a.length by omega), List.getD_eq_getElem?_getD, List.getElem?_eq_getElem (show i < a.length by omega), List.append_assoc]
  rfl
theorem mix_get (a r : List Int) (ha : a.length = 8) (hr : r.length = 8) (i : Nat) (hi : i < 8) : (a.take i ++ r.drop i).getD i 0 = r.getD i 0 := by
  have hl : (a.take i).length = i := by simp; omega
  rw [List.getD_eq_getElem?_getD, List.getElem?_append_right (by omega), hl, Nat.sub_self, List.getElem?_drop, Nat.add_zero, List.getD_eq_getElem?_getD]
/-- What a block makes of a state. -/
def blockP (st bl : List Int) : List Int := addst (rounds (sched bl 64) st 64) st
theorem results_c {P : Program} {fn : Func} {p : Tmp} {ty : TypeId} (h : fn.results = #[.cell p ty]) (tmps : Array Value) (w : World) (g : Nat) (t : TypeId) (cs : Array Value) (fr : Nat × Nat) (d : TypeDesc)
    (hp : tmps.getD p undef = .pointer (some ⟨g, 0, none⟩)) (hg : w.heap[g]? = some (.cells cs t fr))
    (hu : P.underlying ty = some d) (hd : (match d with | .struct _ | .array _ _ => true | _ => false) = true) (hi : (P.info? ty).map (·.size) = some cs.size) :
    (results fn tmps).run P w = .ok (.agg cs) w := by
  have hp' : tmps[p]?.getD undef = .pointer (some ⟨g, 0, none⟩) := by simpa using hp
  simp [results, h, hp', asAddr, run_loadVar_row w g t ty cs fr d hg hu hd hi]
theorem size_st : (Tryd.prog.info? 104).map (·.size) = some 8 := by kernel_rfl
def Inv (w : World) (st bl ws : List Int) (w' : World) : Prop :=
  IsArr w' w.heap.size .u32 104 st ∧ IsArr w' (w.heap.size + 1) .u8 80 bl ∧ IsArr w' (w.heap.size + 1 + 1) .u32 104 (List.replicate 8 0) ∧
  IsArr w' (w.heap.size + 1 + 1 + 1) .u32 125 ws ∧ Below w.heap.size w w' ∧ w'.heap.size = w.heap.size + 1 + 1 + 1 + 1

set_option maxRecDepth 100000 in
set_option maxHeartbeats 8000000 in
theorem block_any (w : World) (st bl : List Int) (hs : st.length = 8) (hb : bl.length = 64) (hb2 : ∀ x ∈ bl, 0 ≤ x ∧ x < 256) (hg : Glob w) :
    Calls Tryd.prog 63 #[.agg (nums .u32 st).toArray, .agg (nums .u8 bl).toArray] w fun e w' => e = .returned (.agg (nums .u32 (blockP st bl)).toArray) ∧ Below w.heap.size w w' := by
  have HS := Aside0.mk hs
  have HBL := Aside0.mk hb
  have HBY := Aside0.mk hb2
  have HG := Aside0.mk hg
  clear hs hb hb2 hg
  go_enter Tryd.func63, Tryd.ntmps63
  go_wp2
  go_loopg [6, 7, 8, 16] 64 (fun kq v6 v7 v8 v16 w' => ∃ (j : Int), v16 = .int .i64 j ∧ Aside0 (0 ≤ j ∧ (kq : Int) + j = 64) ∧ Aside0 (Inv w st bl (sched bl j.toNat ++ List.replicate (64 - j.toNat) 0) w'))
  case atStart =>
    refine ⟨0, rfl, ⟨⟨by omega, by omega⟩⟩, ⟨?_, ?_, ?_, ?_, ?_, ?_⟩⟩
    · exact (((show IsArr (w.alloc _) w.heap.size .u32 104 st from blk_new w _).alloc _).alloc _).alloc _
    · have h : IsArr ((w.alloc (.cells (nums .u32 st).toArray 104)).alloc (.cells (nums .u8 bl).toArray 80)) (w.alloc (.cells (nums .u32 st).toArray 104)).heap.size .u8 80 bl := blk_new _ _
      rw [World.size_alloc] at h
      exact (h.alloc _).alloc _
    · have h := blk_new ((w.alloc (.cells (nums .u32 st).toArray 104)).alloc (.cells (nums .u8 bl).toArray 80)) (.cells (nums .u32 (List.replicate 8 0)).toArray 104)
      rw [World.size_alloc, World.size_alloc] at h
      exact (show IsArr _ (w.heap.size + 1 + 1) .u32 104 (List.replicate 8 0) from h).alloc _
    · have h := blk_new (((w.alloc (.cells (nums .u32 st).toArray 104)).alloc (.cells (nums .u8 bl).toArray 80)).alloc (.cells (nums .u32 (List.replicate 8 0)).toArray 104)) (.cells (nums .u32 (List.replicate 64 0)).toArray 125)
      rw [World.size_alloc, World.size_alloc, World.size_alloc] at h
      exact h
    · exact below_alloc (below_alloc (below_alloc (below_alloc (B0 w) _) _) _) _
    · simp
  case round =>
    obtain ⟨j, rfl, HA, HI⟩ := hrel
    have hj0 : 0 ≤ j := HA.out.1
    have hjm : j ≤ 64 := by have := HA.out; omega
    by_cases c1 : j < 64
    · have d1 : decide (j < 64) = true := decide_eq_true c1
      --<<L1
      by_cases c2 : j < 16
      · have d2 : decide (j < 16) = true := decide_eq_true c2
        have hl : bl.length = 64 := HBL.out
        have e0 := HI.out.2.1.cell (4 * j) (by omega) (by omega)
        have e1 := HI.out.2.1.cell (4 * j + 1) (by omega) (by omega)
        have e2 := HI.out.2.1.cell (4 * j + 2) (by omega) (by omega)
        have e3 := HI.out.2.1.cell (4 * j + 3) (by omega) (by omega)
        have f5 := HI.out.2.2.2.1.frozen j.toNat
        have e5 := HI.out.2.2.2.1.cell j (by omega) (by rw [List.length_append, sched_len, List.length_replicate]; omega)
        clear hl
        obtain ⟨x0, hx0⟩ : ∃ x, x = rd bl (4 * j) := ⟨_, rfl⟩
        obtain ⟨x1, hx1⟩ : ∃ x, x = rd bl (4 * j + 1) := ⟨_, rfl⟩
        obtain ⟨x2, hx2⟩ : ∃ x, x = rd bl (4 * j + 2) := ⟨_, rfl⟩
        obtain ⟨x3, hx3⟩ : ∃ x, x = rd bl (4 * j + 3) := ⟨_, rfl⟩
        rw [← hx0] at e0
        rw [← hx1] at e1
        rw [← hx2] at e2
        rw [← hx3] at e3
        have b0 := rd_byte bl HBY.out (4 * j)
        have b1 := rd_byte bl HBY.out (4 * j + 1)
        have b2 := rd_byte bl HBY.out (4 * j + 2)
        have b3 := rd_byte bl HBY.out (4 * j + 3)
        rw [← hx0] at b0
        rw [← hx1] at b1
        rw [← hx2] at b2
        rw [← hx3] at b3
        obtain ⟨p0, q0⟩ := b0
        obtain ⟨p1, q1⟩ := b1
        obtain ⟨p2, q2⟩ := b2
        obtain ⟨p3, q3⟩ := b3
        have HX := Aside0.mk (And.intro hx0 (And.intro hx1 (And.intro hx2 hx3)))
        obtain ⟨y5, hy5⟩ : ∃ y, y = rd (sched bl j.toNat ++ List.replicate (64 - j.toNat) 0) j := ⟨_, rfl⟩
        rw [← hy5] at e5
        clear hx0 hx1 hx2 hx3 hy5
        have i0 : 0 ≤ 4 * j := by omega
        have i1 : 4 * j < 64 := by omega
        have i2 : 0 ≤ 4 * j + 1 := by omega
        have i3 : 4 * j + 1 < 64 := by omega
        have i4 : 0 ≤ 4 * j + 2 := by omega
        have i5 : 4 * j + 2 < 64 := by omega
        have i6 : 0 ≤ 4 * j + 3 := by omega
        have i7 : 4 * j + 3 < 64 := by omega
        have k0 : IntKind.i64.wrap (4 * j) = 4 * j := IntWalk.i64_in _ (by omega)
        have k1 : IntKind.i64.wrap (4 * j + 1) = 4 * j + 1 := IntWalk.i64_in _ (by omega)
        have k2 : IntKind.i64.wrap (4 * j + 2) = 4 * j + 2 := IntWalk.i64_in _ (by omega)
        have k3 : IntKind.i64.wrap (4 * j + 3) = 4 * j + 3 := IntWalk.i64_in _ (by omega)
        go_wp2
        go_region_held3 (fun w' => w'.cell? ⟨w.heap.size + 1, (4 * j).toNat, none⟩ = some (.int .u8 x0) ∧ w'.cell? ⟨w.heap.size + 1, (4 * j + 1).toNat, none⟩ = some (.int .u8 x1) ∧ w'.cell? ⟨w.heap.size + 1, (4 * j + 2).toNat, none⟩ = some (.int .u8 x2) ∧ w'.cell? ⟨w.heap.size + 1, (4 * j + 3).toNat, none⟩ = some (.int .u8 x3)) (first | (refine ⟨?_, ?_, ?_, ?_⟩ <;> exact cell_set_far (by dsimp only; omega) (by assumption)) | go_keep) (fail)
        go_wp2
        go_roundg (64 - (j + 1).toNat)
        case measure => have := HA.out; omega
        case rel =>
          refine ⟨j + 1, rfl, ⟨⟨by omega, by omega⟩⟩, ⟨?_⟩⟩
          rw [word_eq x0 x1 x2 x3 p0 q0 p1 q1 p2 q2 p3 q3]
          have hI := HI.out
          have hput := hI.2.2.2.1.put j.toNat (((x0 * 256 + x1) * 256 + x2) * 256 + x3)
          have e1 : ((x0 * 256 + x1) * 256 + x2) * 256 + x3 = first bl j.toNat := by
            rw [HX.out.1, HX.out.2.1, HX.out.2.2.1, HX.out.2.2.2, first, rd, rd, rd, rd, show (4 * j).toNat = 4 * j.toNat from by omega, show (4 * j + 1).toNat = 4 * j.toNat + 1 from by omega, show (4 * j + 2).toNat = 4 * j.toNat + 2 from by omega, show (4 * j + 3).toNat = 4 * j.toNat + 3 from by omega]
          rw [e1] at hput ⊢
          rw [set_next _ _ _ (sched_len _ _) (by omega)] at hput
          rw [show (j + 1).toNat = j.toNat + 1 from by omega, sched, if_pos (by omega), List.append_assoc]
          exact ⟨hI.1.far (by dsimp only; omega) _, hI.2.1.far (by dsimp only; omega) _, hI.2.2.1.far (by dsimp only; omega) _, hput, (hI.2.2.2.2.1.setCell (p := ⟨w.heap.size + 1 + 1 + 1, j.toNat, none⟩) (by dsimp only; omega) _).drew, by rw [show ∀ (x : World), x.drew.heap = x.heap from fun _ => rfl]; simp [World.setCell, hI.2.2.2.2.2]⟩
      · have d2 : decide (j < 16) = false := decide_eq_false c2
        have hw : (sched bl j.toNat ++ List.replicate (64 - j.toNat) 0).length = 64 := by rw [List.length_append, sched_len, List.length_replicate]; omega
        have e15 := HI.out.2.2.2.1.cell (j - 15) (by omega) (by omega)
        have e2 := HI.out.2.2.2.1.cell (j - 2) (by omega) (by omega)
        have e16 := HI.out.2.2.2.1.cell (j - 16) (by omega) (by omega)
        have e7 := HI.out.2.2.2.1.cell (j - 7) (by omega) (by omega)
        have f5 := HI.out.2.2.2.1.frozen j.toNat
        have e5 := HI.out.2.2.2.1.cell j (by omega) (by omega)
        obtain ⟨x, hx⟩ : ∃ x, x = rd (sched bl j.toNat ++ List.replicate (64 - j.toNat) 0) (j - 15) := ⟨_, rfl⟩
        obtain ⟨y, hy⟩ : ∃ x, x = rd (sched bl j.toNat ++ List.replicate (64 - j.toNat) 0) (j - 2) := ⟨_, rfl⟩
        obtain ⟨z, hz⟩ : ∃ x, x = rd (sched bl j.toNat ++ List.replicate (64 - j.toNat) 0) (j - 16) := ⟨_, rfl⟩
        obtain ⟨u, hu⟩ : ∃ x, x = rd (sched bl j.toNat ++ List.replicate (64 - j.toNat) 0) (j - 7) := ⟨_, rfl⟩
        obtain ⟨y5, hy5⟩ : ∃ y, y = rd (sched bl j.toNat ++ List.replicate (64 - j.toNat) 0) j := ⟨_, rfl⟩
        rw [← hx] at e15
        rw [← hy] at e2
        rw [← hz] at e16
        rw [← hu] at e7
        rw [← hy5] at e5
        have HX := Aside0.mk (And.intro hx (And.intro hy (And.intro hz hu)))
        clear hw hx hy hz hu hy5
        have i0 : 0 ≤ j - 15 := by omega
        have i1 : j - 15 < 64 := by omega
        have i2 : 0 ≤ j - 2 := by omega
        have i3 : j - 2 < 64 := by omega
        have i4 : 0 ≤ j - 16 := by omega
        have i5 : j - 16 < 64 := by omega
        have i8 : 7 ≤ j := by omega
        have i9 : 16 ≤ j := by omega
        have i6 : 0 ≤ j - 7 := by omega
        have i7 : j - 7 < 64 := by omega
        have k0 : IntKind.i64.wrap (j - 15) = j - 15 := IntWalk.i64_in _ (by omega)
        have k1 : IntKind.i64.wrap (j - 2) = j - 2 := IntWalk.i64_in _ (by omega)
        have k2 : IntKind.i64.wrap (j - 16) = j - 16 := IntWalk.i64_in _ (by omega)
        have k3 : IntKind.i64.wrap (j - 7) = j - 7 := IntWalk.i64_in _ (by omega)
        go_wp2
        go_quiet (fail)
        go_wp2
        generalize hq_wB : wr.drewN nq = wB
        have e16 : wB.cell? ⟨w.heap.size + 1 + 1 + 1, (j - 16).toNat, none⟩ = some (.int .u32 z) := by rw [← hq_wB]; exact e16
        have e7 : wB.cell? ⟨w.heap.size + 1 + 1 + 1, (j - 7).toNat, none⟩ = some (.int .u32 u) := by rw [← hq_wB]; exact e7
        have e5 : wB.cell? ⟨w.heap.size + 1 + 1 + 1, j.toNat, none⟩ = some (.int .u32 y5) := by rw [← hq_wB]; exact e5
        have f5 : wB.frozen? ⟨w.heap.size + 1 + 1 + 1, j.toNat, none⟩ = false := by rw [← hq_wB]; exact f5
        have HIB : Aside0 (Inv w st bl (sched bl j.toNat ++ List.replicate (64 - j.toNat) 0) wB) := ⟨by rw [← hq_wB]; exact ⟨HI.out.1.drewN _, HI.out.2.1.drewN _, HI.out.2.2.1.drewN _, HI.out.2.2.2.1.drewN _, pw_below_drewN HI.out.2.2.2.2.1 _, HI.out.2.2.2.2.2⟩⟩
        clear hq_wB
        go_region_held3 (fun w' => w'.cell? ⟨w.heap.size + 1 + 1 + 1, (j - 16).toNat, none⟩ = some (.int .u32 z) ∧ w'.cell? ⟨w.heap.size + 1 + 1 + 1, (j - 7).toNat, none⟩ = some (.int .u32 u)) (first | assumption | (refine ⟨?_, ?_⟩ <;> exact cell_set_other (by omega) (by assumption)) | go_keep) (first | (go_at_call 76; refine (rot_any _ _ _ (by decide) (by decide)).mono ?_; rintro e w1 ⟨rfl, rfl⟩))
        all_goals go_wp2
        all_goals
          go_roundg (64 - (j + 1).toNat)
          case measure => have := HA.out; omega
          case rel =>
            refine ⟨j + 1, rfl, ⟨⟨by omega, by omega⟩⟩, ⟨?_⟩⟩
            have hI := HIB.out
            have e1 := later_eq bl j x y z u HX.out (by omega) (by omega)
            rw [e1]
            have hput := (hI.2.2.2.1.drew).put j.toNat (later (sched bl j.toNat) j.toNat)
            rw [set_next _ _ _ (sched_len _ _) (by omega)] at hput
            rw [show (j + 1).toNat = j.toNat + 1 from by omega, sched, if_neg (by omega), List.append_assoc]
            exact ⟨hI.1.drew.far (by dsimp only; omega) _, hI.2.1.drew.far (by dsimp only; omega) _, hI.2.2.1.drew.far (by dsimp only; omega) _, hput, (below_drew1 hI.2.2.2.2.1).setCell (p := ⟨w.heap.size + 1 + 1 + 1, j.toNat, none⟩) (by dsimp only; omega) _, by simp [World.setCell, hI.2.2.2.2.2]⟩
      -->>L1
    · have d1 : decide (j < 64) = false := decide_eq_false c1
      have HJ := Aside0.mk (show j = 64 from by omega)
      have hI := HI.out
      rw [HJ.out, show (64 : Int).toNat = 64 from rfl, Nat.sub_self, List.replicate_zero, List.append_nil] at hI
      have HI2 := Aside0.mk hI
      have hsl : st.length = 8 := HS.out
      have s0 : wr.cell? ⟨w.heap.size, 0, none⟩ = some (.int .u32 (rd st 0)) := hI.1.cell 0 (by omega) (by omega)
      have s1 : wr.cell? ⟨w.heap.size, 1, none⟩ = some (.int .u32 (rd st 1)) := hI.1.cell 1 (by omega) (by omega)
      have s2 : wr.cell? ⟨w.heap.size, 2, none⟩ = some (.int .u32 (rd st 2)) := hI.1.cell 2 (by omega) (by omega)
      have s3 : wr.cell? ⟨w.heap.size, 3, none⟩ = some (.int .u32 (rd st 3)) := hI.1.cell 3 (by omega) (by omega)
      have s4 : wr.cell? ⟨w.heap.size, 4, none⟩ = some (.int .u32 (rd st 4)) := hI.1.cell 4 (by omega) (by omega)
      have s5 : wr.cell? ⟨w.heap.size, 5, none⟩ = some (.int .u32 (rd st 5)) := hI.1.cell 5 (by omega) (by omega)
      have s6 : wr.cell? ⟨w.heap.size, 6, none⟩ = some (.int .u32 (rd st 6)) := hI.1.cell 6 (by omega) (by omega)
      have s7 : wr.cell? ⟨w.heap.size, 7, none⟩ = some (.int .u32 (rd st 7)) := hI.1.cell 7 (by omega) (by omega)
      clear c1
      clear hI hsl
      obtain ⟨wA, rfl⟩ : ∃ x, x = wr := ⟨_, rfl⟩
      go_wp2
      go_loopg [10, 11, 12, 13, 14, 91] 64 (fun kq v10 v11 v12 v13 v14 v91 w' => ∃ (i : Int), v91 = .int .i64 i ∧ Aside0 (0 ≤ i ∧ (kq : Int) + i = 64) ∧ Aside0 (IsArr w' wA.heap.size .u32 104 (rounds (sched bl 64) st i.toNat)) ∧ Aside0 (Below wA.heap.size wA w' ∧ w'.heap.size = wA.heap.size + 1))
      case atStart =>
        refine ⟨0, rfl, ⟨⟨by omega, by omega⟩⟩, ⟨?_⟩, ⟨⟨below_alloc (B0 wA) _, by simp⟩⟩⟩
        have h := blk_new wA (.cells (nums .u32 [rd st 0, rd st 1, rd st 2, rd st 3, rd st 4, rd st 5, rd st 6, rd st 7]).toArray 104)
        rw [list8 st HS.out] at h
        have h2 : IsArr _ wA.heap.size .u32 104 st := h
        have e : rounds (sched bl 64) st (0 : Int).toNat = st := rfl
        rw [e]
        have e2 : (nums .u32 st).toArray = #[Value.int .u32 (rd st 0), .int .u32 (rd st 1), .int .u32 (rd st 2), .int .u32 (rd st 3), .int .u32 (rd st 4), .int .u32 (rd st 5), .int .u32 (rd st 6), .int .u32 (rd st 7)] := by
          conv => lhs; rw [← list8 st HS.out]
          rfl
        rw [← e2]
        exact h2
      case round =>
        obtain ⟨i, rfl, HA2, HR, HB2⟩ := hrel
        have hi0 : 0 ≤ i := HA2.out.1
        have him : i ≤ 64 := by have := HA2.out; omega
        clear s0 s1 s2 s3 s4 s5 s6 s7
        by_cases c3 : i < 64
        · have d3 : decide (i < 64) = true := decide_eq_true c3
          --<<L2
          obtain ⟨s, hs⟩ : ∃ s, s = rounds (sched bl 64) st i.toNat := ⟨_, rfl⟩
          have HSE := Aside0.mk hs
          have hsl : s.length = 8 := by rw [hs]; exact rounds_len _ _ HS.out _
          have HR2 : Aside0 (IsArr wr wA.heap.size .u32 104 s) := ⟨by rw [hs]; exact HR.out⟩
          have e0 : wr.cell? ⟨wA.heap.size, 0, none⟩ = some (.int .u32 (s.getD 0 0)) := HR2.out.cell 0 (by omega) (by omega)
          have f0 := HR2.out.frozen 0
          obtain ⟨s0, hs0⟩ : ∃ x, x = s.getD 0 0 := ⟨_, rfl⟩
          rw [← hs0] at e0
          have e1 : wr.cell? ⟨wA.heap.size, 1, none⟩ = some (.int .u32 (s.getD 1 0)) := HR2.out.cell 1 (by omega) (by omega)
          have f1 := HR2.out.frozen 1
          obtain ⟨s1, hs1⟩ : ∃ x, x = s.getD 1 0 := ⟨_, rfl⟩
          rw [← hs1] at e1
          have e2 : wr.cell? ⟨wA.heap.size, 2, none⟩ = some (.int .u32 (s.getD 2 0)) := HR2.out.cell 2 (by omega) (by omega)
          have f2 := HR2.out.frozen 2
          obtain ⟨s2, hs2⟩ : ∃ x, x = s.getD 2 0 := ⟨_, rfl⟩
          rw [← hs2] at e2
          have e3 : wr.cell? ⟨wA.heap.size, 3, none⟩ = some (.int .u32 (s.getD 3 0)) := HR2.out.cell 3 (by omega) (by omega)
          have f3 := HR2.out.frozen 3
          obtain ⟨s3, hs3⟩ : ∃ x, x = s.getD 3 0 := ⟨_, rfl⟩
          rw [← hs3] at e3
          have e4 : wr.cell? ⟨wA.heap.size, 4, none⟩ = some (.int .u32 (s.getD 4 0)) := HR2.out.cell 4 (by omega) (by omega)
          have f4 := HR2.out.frozen 4
          obtain ⟨s4, hs4⟩ : ∃ x, x = s.getD 4 0 := ⟨_, rfl⟩
          rw [← hs4] at e4
          have e5 : wr.cell? ⟨wA.heap.size, 5, none⟩ = some (.int .u32 (s.getD 5 0)) := HR2.out.cell 5 (by omega) (by omega)
          have f5 := HR2.out.frozen 5
          obtain ⟨s5, hs5⟩ : ∃ x, x = s.getD 5 0 := ⟨_, rfl⟩
          rw [← hs5] at e5
          have e6 : wr.cell? ⟨wA.heap.size, 6, none⟩ = some (.int .u32 (s.getD 6 0)) := HR2.out.cell 6 (by omega) (by omega)
          have f6 := HR2.out.frozen 6
          obtain ⟨s6, hs6⟩ : ∃ x, x = s.getD 6 0 := ⟨_, rfl⟩
          rw [← hs6] at e6
          have e7 : wr.cell? ⟨wA.heap.size, 7, none⟩ = some (.int .u32 (s.getD 7 0)) := HR2.out.cell 7 (by omega) (by omega)
          have f7 := HR2.out.frozen 7
          obtain ⟨s7, hs7⟩ : ∃ x, x = s.getD 7 0 := ⟨_, rfl⟩
          rw [← hs7] at e7
          have HSX := Aside0.mk (And.intro hs0 (And.intro hs1 (And.intro hs2 (And.intro hs3 (And.intro hs4 (And.intro hs5 (And.intro hs6 hs7)))))))
          have hz := HI2.out.2.2.2.2.2
          have ew : wr.cell? ⟨w.heap.size + 1 + 1 + 1, i.toNat, none⟩ = some (.int .u32 (rd (sched bl 64) i)) := (HI2.out.2.2.2.1.below HB2.out.1 (by omega)).cell i hi0 (by rw [sched_len]; exact c3)
          have ek : wr.cell? ⟨1, i.toNat, none⟩ = some (.int .u32 (KT.getD i.toNat 0)) := (HB2.out.1.cell (p := ⟨1, i.toNat, none⟩) (by dsimp only; omega)).trans ((HI2.out.2.2.2.2.1.cell (p := ⟨1, i.toNat, none⟩) HG.out.1).trans (HG.out.2 i.toNat (by omega)))
          obtain ⟨kx, hkx⟩ : ∃ x, x = KT.getD i.toNat 0 := ⟨_, rfl⟩
          obtain ⟨wx, hwx⟩ : ∃ x, x = rd (sched bl 64) i := ⟨_, rfl⟩
          rw [← hwx] at ew
          rw [← hkx] at ek
          have HKW := Aside0.mk (And.intro hkx hwx)
          clear hs hsl hs0 hs1 hs2 hs3 hs4 hs5 hs6 hs7 hz hkx hwx
          go_wp2
          go_quiet (fail)
          generalize hq_wB : wr.drewN nq = wB
          have e0 : wB.cell? ⟨wA.heap.size, 0, none⟩ = some (.int .u32 s0) := by rw [← hq_wB]; exact e0
          have f0 : wB.frozen? ⟨wA.heap.size, 0, none⟩ = false := by rw [← hq_wB]; exact f0
          have e1 : wB.cell? ⟨wA.heap.size, 1, none⟩ = some (.int .u32 s1) := by rw [← hq_wB]; exact e1
          have f1 : wB.frozen? ⟨wA.heap.size, 1, none⟩ = false := by rw [← hq_wB]; exact f1
          have e2 : wB.cell? ⟨wA.heap.size, 2, none⟩ = some (.int .u32 s2) := by rw [← hq_wB]; exact e2
          have f2 : wB.frozen? ⟨wA.heap.size, 2, none⟩ = false := by rw [← hq_wB]; exact f2
          have e3 : wB.cell? ⟨wA.heap.size, 3, none⟩ = some (.int .u32 s3) := by rw [← hq_wB]; exact e3
          have f3 : wB.frozen? ⟨wA.heap.size, 3, none⟩ = false := by rw [← hq_wB]; exact f3
          have e4 : wB.cell? ⟨wA.heap.size, 4, none⟩ = some (.int .u32 s4) := by rw [← hq_wB]; exact e4
          have f4 : wB.frozen? ⟨wA.heap.size, 4, none⟩ = false := by rw [← hq_wB]; exact f4
          have e5 : wB.cell? ⟨wA.heap.size, 5, none⟩ = some (.int .u32 s5) := by rw [← hq_wB]; exact e5
          have f5 : wB.frozen? ⟨wA.heap.size, 5, none⟩ = false := by rw [← hq_wB]; exact f5
          have e6 : wB.cell? ⟨wA.heap.size, 6, none⟩ = some (.int .u32 s6) := by rw [← hq_wB]; exact e6
          have f6 : wB.frozen? ⟨wA.heap.size, 6, none⟩ = false := by rw [← hq_wB]; exact f6
          have e7 : wB.cell? ⟨wA.heap.size, 7, none⟩ = some (.int .u32 s7) := by rw [← hq_wB]; exact e7
          have f7 : wB.frozen? ⟨wA.heap.size, 7, none⟩ = false := by rw [← hq_wB]; exact f7
          have ew : wB.cell? ⟨w.heap.size + 1 + 1 + 1, i.toNat, none⟩ = some (.int .u32 wx) := by rw [← hq_wB]; exact ew
          have ek : wB.cell? ⟨1, i.toNat, none⟩ = some (.int .u32 kx) := by rw [← hq_wB]; exact ek
          have HR2 : Aside0 (IsArr wB wA.heap.size .u32 104 s) := ⟨by rw [← hq_wB]; exact HR2.out.drewN _⟩
          have HB2 : Aside0 (Below wA.heap.size wA wB ∧ wB.heap.size = wA.heap.size + 1) := ⟨by rw [← hq_wB]; exact ⟨pw_below_drewN HB2.out.1 _, HB2.out.2⟩⟩
          clear hq_wB
          go_wp2
          go_quiet (first | (go_at_call 76; refine Calls.quiet_of_same (rot_any _ _ _ (by decide) (by decide))))
          generalize hq_wC : wB.drewN nq = wC
          have e0 : wC.cell? ⟨wA.heap.size, 0, none⟩ = some (.int .u32 s0) := by rw [← hq_wC]; exact e0
          have f0 : wC.frozen? ⟨wA.heap.size, 0, none⟩ = false := by rw [← hq_wC]; exact f0
          have e1 : wC.cell? ⟨wA.heap.size, 1, none⟩ = some (.int .u32 s1) := by rw [← hq_wC]; exact e1
          have f1 : wC.frozen? ⟨wA.heap.size, 1, none⟩ = false := by rw [← hq_wC]; exact f1
          have e2 : wC.cell? ⟨wA.heap.size, 2, none⟩ = some (.int .u32 s2) := by rw [← hq_wC]; exact e2
          have f2 : wC.frozen? ⟨wA.heap.size, 2, none⟩ = false := by rw [← hq_wC]; exact f2
          have e3 : wC.cell? ⟨wA.heap.size, 3, none⟩ = some (.int .u32 s3) := by rw [← hq_wC]; exact e3
          have f3 : wC.frozen? ⟨wA.heap.size, 3, none⟩ = false := by rw [← hq_wC]; exact f3
          have e4 : wC.cell? ⟨wA.heap.size, 4, none⟩ = some (.int .u32 s4) := by rw [← hq_wC]; exact e4
          have f4 : wC.frozen? ⟨wA.heap.size, 4, none⟩ = false := by rw [← hq_wC]; exact f4
          have e5 : wC.cell? ⟨wA.heap.size, 5, none⟩ = some (.int .u32 s5) := by rw [← hq_wC]; exact e5
          have f5 : wC.frozen? ⟨wA.heap.size, 5, none⟩ = false := by rw [← hq_wC]; exact f5
          have e6 : wC.cell? ⟨wA.heap.size, 6, none⟩ = some (.int .u32 s6) := by rw [← hq_wC]; exact e6
          have f6 : wC.frozen? ⟨wA.heap.size, 6, none⟩ = false := by rw [← hq_wC]; exact f6
          have e7 : wC.cell? ⟨wA.heap.size, 7, none⟩ = some (.int .u32 s7) := by rw [← hq_wC]; exact e7
          have f7 : wC.frozen? ⟨wA.heap.size, 7, none⟩ = false := by rw [← hq_wC]; exact f7
          have ew : wC.cell? ⟨w.heap.size + 1 + 1 + 1, i.toNat, none⟩ = some (.int .u32 wx) := by rw [← hq_wC]; exact ew
          have ek : wC.cell? ⟨1, i.toNat, none⟩ = some (.int .u32 kx) := by rw [← hq_wC]; exact ek
          have HR2 : Aside0 (IsArr wC wA.heap.size .u32 104 s) := ⟨by rw [← hq_wC]; exact HR2.out.drewN _⟩
          have HB2 : Aside0 (Below wA.heap.size wA wC ∧ wC.heap.size = wA.heap.size + 1) := ⟨by rw [← hq_wC]; exact ⟨pw_below_drewN HB2.out.1 _, HB2.out.2⟩⟩
          clear hq_wC
          go_wp2
          go_quiet (first | (go_at_call 76; refine Calls.quiet_of_same (rot_any _ _ _ (by decide) (by decide))))
          generalize hq_wD : wC.drewN nq = wD
          have e0 : wD.cell? ⟨wA.heap.size, 0, none⟩ = some (.int .u32 s0) := by rw [← hq_wD]; exact e0
          have f0 : wD.frozen? ⟨wA.heap.size, 0, none⟩ = false := by rw [← hq_wD]; exact f0
          have e1 : wD.cell? ⟨wA.heap.size, 1, none⟩ = some (.int .u32 s1) := by rw [← hq_wD]; exact e1
          have f1 : wD.frozen? ⟨wA.heap.size, 1, none⟩ = false := by rw [← hq_wD]; exact f1
          have e2 : wD.cell? ⟨wA.heap.size, 2, none⟩ = some (.int .u32 s2) := by rw [← hq_wD]; exact e2
          have f2 : wD.frozen? ⟨wA.heap.size, 2, none⟩ = false := by rw [← hq_wD]; exact f2
          have e3 : wD.cell? ⟨wA.heap.size, 3, none⟩ = some (.int .u32 s3) := by rw [← hq_wD]; exact e3
          have f3 : wD.frozen? ⟨wA.heap.size, 3, none⟩ = false := by rw [← hq_wD]; exact f3
          have e4 : wD.cell? ⟨wA.heap.size, 4, none⟩ = some (.int .u32 s4) := by rw [← hq_wD]; exact e4
          have f4 : wD.frozen? ⟨wA.heap.size, 4, none⟩ = false := by rw [← hq_wD]; exact f4
          have e5 : wD.cell? ⟨wA.heap.size, 5, none⟩ = some (.int .u32 s5) := by rw [← hq_wD]; exact e5
          have f5 : wD.frozen? ⟨wA.heap.size, 5, none⟩ = false := by rw [← hq_wD]; exact f5
          have e6 : wD.cell? ⟨wA.heap.size, 6, none⟩ = some (.int .u32 s6) := by rw [← hq_wD]; exact e6
          have f6 : wD.frozen? ⟨wA.heap.size, 6, none⟩ = false := by rw [← hq_wD]; exact f6
          have e7 : wD.cell? ⟨wA.heap.size, 7, none⟩ = some (.int .u32 s7) := by rw [← hq_wD]; exact e7
          have f7 : wD.frozen? ⟨wA.heap.size, 7, none⟩ = false := by rw [← hq_wD]; exact f7
          have ew : wD.cell? ⟨w.heap.size + 1 + 1 + 1, i.toNat, none⟩ = some (.int .u32 wx) := by rw [← hq_wD]; exact ew
          have ek : wD.cell? ⟨1, i.toNat, none⟩ = some (.int .u32 kx) := by rw [← hq_wD]; exact ek
          have HR2 : Aside0 (IsArr wD wA.heap.size .u32 104 s) := ⟨by rw [← hq_wD]; exact HR2.out.drewN _⟩
          have HB2 : Aside0 (Below wA.heap.size wA wD ∧ wD.heap.size = wA.heap.size + 1) := ⟨by rw [← hq_wD]; exact ⟨pw_below_drewN HB2.out.1 _, HB2.out.2⟩⟩
          clear hq_wD
          go_wp2
          go_roundg (64 - (i + 1).toNat)
          case measure => have := HA2.out; omega
          case rel =>
            refine ⟨i + 1, rfl, ⟨⟨by omega, by omega⟩⟩, ⟨?_⟩, ⟨?_⟩⟩
            · have h := HR2.out.put8 (by rw [HSE.out]; exact rounds_len _ _ HS.out _) ((tsum s7 s4 s5 s6 kx wx + usum s0 s1 s2) % 4294967296) s0 s1 s2 ((s3 + tsum s7 s4 s5 s6 kx wx) % 4294967296) s4 s5 s6
              have e : rounds (sched bl 64) st (i + 1).toNat = [(tsum s7 s4 s5 s6 kx wx + usum s0 s1 s2) % 4294967296, s0, s1, s2, (s3 + tsum s7 s4 s5 s6 kx wx) % 4294967296, s4, s5, s6] := by
                obtain ⟨q0, q1, q2, q3, q4, q5, q6, q7⟩ := HSX.out
                rw [show (i + 1).toNat = i.toNat + 1 from by omega, rounds, ← HSE.out, q0, q1, q2, q3, q4, q5, q6, q7, HKW.out.1, HKW.out.2]
                rfl
              rw [e]
              exact h
            · exact ⟨below8 HB2.out.1 (Nat.le_refl _) _ _ _ _ _ _ _ _, (size8 _ _ _ _ _ _ _ _).trans HB2.out.2⟩
          -->>L2
        · have d3 : decide (i < 64) = false := decide_eq_false c3
          have HJ2 := Aside0.mk (show i = 64 from by omega)
          clear c3
          go_wp2
          clear d1 d3
          have HRL := Aside0.mk (show (rounds (sched bl 64) st i.toNat).length = 8 from rounds_len _ _ HS.out _)
          have HR3 : Aside0 (IsArr wr wA.heap.size .u32 104 (rounds (sched bl 64) st 64)) := ⟨by have h := HR.out; rw [HJ2.out] at h; exact h⟩
          have HRL3 := Aside0.mk (rounds_len (sched bl 64) st HS.out 64)
          go_loopg [15, 171] 8 (fun kq v15 v171 w' => ∃ (q : Int), v171 = .int .i64 q ∧ Aside0 (0 ≤ q ∧ (kq : Int) + q = 8) ∧ Aside0 (IsArr w' wA.heap.size .u32 104 ((blockP st bl).take q.toNat ++ (rounds (sched bl 64) st 64).drop q.toNat)) ∧ Aside0 (Below wA.heap.size wA w' ∧ w'.heap.size = wA.heap.size + 1))
          case atStart => exact ⟨0, rfl, ⟨⟨by omega, by omega⟩⟩, HR3, HB2⟩
          case round =>
            obtain ⟨q, rfl, HA3, HR4, HB3⟩ := hrel
            have hq0 : 0 ≤ q := HA3.out.1
            have hqm : q ≤ 8 := by have := HA3.out; omega
            by_cases c4 : q < 8
            · have d4 : decide (q < 8) = true := decide_eq_true c4
              have hz := HI2.out.2.2.2.2.2
              have hBL := addst_len _ st HRL3.out HS.out
              have e9 := HR4.out.cell q hq0 (by rw [mix_len (blockP st bl) _ hBL HRL3.out _ (by omega)]; exact c4)
              have f9 := HR4.out.frozen q.toNat
              have e2 : wr.cell? ⟨w.heap.size, q.toNat, none⟩ = some (.int .u32 (rd st q)) := (HI2.out.1.below HB3.out.1 (by omega)).cell q hq0 (by rw [HS.out]; exact c4)
              have hv : rd ((blockP st bl).take q.toNat ++ (rounds (sched bl 64) st 64).drop q.toNat) q = (rounds (sched bl 64) st 64).getD q.toNat 0 := mix_get _ _ hBL HRL3.out _ (by omega)
              rw [hv] at e9
              obtain ⟨x, hx⟩ : ∃ x, x = (rounds (sched bl 64) st 64).getD q.toNat 0 := ⟨_, rfl⟩
              obtain ⟨y, hy⟩ : ∃ x, x = rd st q := ⟨_, rfl⟩
              rw [← hx] at e9
              rw [← hy] at e2
              have HXY := Aside0.mk (And.intro hx hy)
              clear hz hBL hv hx hy
              go_wp2
              go_region
              all_goals go_wp2
              go_roundg (8 - (q + 1).toNat)
              case measure => have := HA3.out; omega
              case rel =>
                have h := (HR4.out.drew).put q.toNat ((x + y) % 4294967296)
                have hA := addst_get (rounds (sched bl 64) st 64) st HRL3.out HS.out q.toNat (by omega)
                have hm := mix_set (blockP st bl) (rounds (sched bl 64) st 64) (addst_len _ st HRL3.out HS.out) HRL3.out q.toNat (by omega)
                rw [show (blockP st bl).getD q.toNat 0 = (x + y) % 4294967296 from by rw [HXY.out.1, HXY.out.2]; exact hA] at hm
                rw [hm] at h
                refine ⟨q + 1, rfl, ⟨⟨by omega, by omega⟩⟩, ⟨?_⟩, ⟨?_⟩⟩
                · rw [show (q + 1).toNat = q.toNat + 1 from by omega]
                  exact h
                · exact ⟨(below_drew1 HB3.out.1).setCell (p := ⟨wA.heap.size, q.toNat, none⟩) (Nat.le_refl _) _, by simp [World.setCell]; exact HB3.out.2⟩
            · have d4 : decide (q < 8) = false := decide_eq_false c4
              have hBL := addst_len _ st HRL3.out HS.out
              have HF : Aside0 (IsArr wr wA.heap.size .u32 104 (blockP st bl)) := ⟨by
                have h := HR4.out
                rw [show q.toNat = 8 from by omega, List.take_of_length_le (by rw [show blockP st bl = addst (rounds (sched bl 64) st 64) st from rfl, hBL]; decide), List.drop_of_length_le (by rw [HRL3.out]; decide), List.append_nil] at h
                exact h⟩
              have hz := HI2.out.2.2.2.2.2
              have HO : Aside0 (IsArr wr (w.heap.size + 1 + 1) .u32 104 (List.replicate 8 0)) := ⟨HI2.out.2.2.1.below HB3.out.1 (by omega)⟩
              have HBL8 := Aside0.mk (show (blockP st bl).length = 8 from hBL)
              clear hBL hz
              have e0 : wr.cell? ⟨wA.heap.size, 0, none⟩ = some (.int .u32 (rd (blockP st bl) 0)) := HF.out.cell 0 (by omega) (by rw [HBL8.out]; decide)
              have o0 : wr.cell? ⟨w.heap.size + 1 + 1, 0, none⟩ = some (.int .u32 0) := HO.out.cell 0 (by omega) (by decide)
              have f0 := HO.out.frozen 0
              have e1 : wr.cell? ⟨wA.heap.size, 1, none⟩ = some (.int .u32 (rd (blockP st bl) 1)) := HF.out.cell 1 (by omega) (by rw [HBL8.out]; decide)
              have o1 : wr.cell? ⟨w.heap.size + 1 + 1, 1, none⟩ = some (.int .u32 0) := HO.out.cell 1 (by omega) (by decide)
              have f1 := HO.out.frozen 1
              have e2 : wr.cell? ⟨wA.heap.size, 2, none⟩ = some (.int .u32 (rd (blockP st bl) 2)) := HF.out.cell 2 (by omega) (by rw [HBL8.out]; decide)
              have o2 : wr.cell? ⟨w.heap.size + 1 + 1, 2, none⟩ = some (.int .u32 0) := HO.out.cell 2 (by omega) (by decide)
              have f2 := HO.out.frozen 2
              have e3 : wr.cell? ⟨wA.heap.size, 3, none⟩ = some (.int .u32 (rd (blockP st bl) 3)) := HF.out.cell 3 (by omega) (by rw [HBL8.out]; decide)
              have o3 : wr.cell? ⟨w.heap.size + 1 + 1, 3, none⟩ = some (.int .u32 0) := HO.out.cell 3 (by omega) (by decide)
              have f3 := HO.out.frozen 3
              have e4 : wr.cell? ⟨wA.heap.size, 4, none⟩ = some (.int .u32 (rd (blockP st bl) 4)) := HF.out.cell 4 (by omega) (by rw [HBL8.out]; decide)
              have o4 : wr.cell? ⟨w.heap.size + 1 + 1, 4, none⟩ = some (.int .u32 0) := HO.out.cell 4 (by omega) (by decide)
              have f4 := HO.out.frozen 4
              have e5 : wr.cell? ⟨wA.heap.size, 5, none⟩ = some (.int .u32 (rd (blockP st bl) 5)) := HF.out.cell 5 (by omega) (by rw [HBL8.out]; decide)
              have o5 : wr.cell? ⟨w.heap.size + 1 + 1, 5, none⟩ = some (.int .u32 0) := HO.out.cell 5 (by omega) (by decide)
              have f5 := HO.out.frozen 5
              have e6 : wr.cell? ⟨wA.heap.size, 6, none⟩ = some (.int .u32 (rd (blockP st bl) 6)) := HF.out.cell 6 (by omega) (by rw [HBL8.out]; decide)
              have o6 : wr.cell? ⟨w.heap.size + 1 + 1, 6, none⟩ = some (.int .u32 0) := HO.out.cell 6 (by omega) (by decide)
              have f6 := HO.out.frozen 6
              have e7 : wr.cell? ⟨wA.heap.size, 7, none⟩ = some (.int .u32 (rd (blockP st bl) 7)) := HF.out.cell 7 (by omega) (by rw [HBL8.out]; decide)
              have o7 : wr.cell? ⟨w.heap.size + 1 + 1, 7, none⟩ = some (.int .u32 0) := HO.out.cell 7 (by omega) (by decide)
              have f7 := HO.out.frozen 7
              clear c4
              go_wp2
              have hout := HO.out.put8 (by decide) (rd (blockP st bl) 0) (rd (blockP st bl) 1) (rd (blockP st bl) 2) (rd (blockP st bl) 3) (rd (blockP st bl) 4) (rd (blockP st bl) 5) (rd (blockP st bl) 6) (rd (blockP st bl) 7)
              rw [list8 _ HBL8.out] at hout
              refine bodyPost_ret (v := .agg (nums .u32 (blockP st bl)).toArray) ?_ ?_ ?_
              · exact results_c rfl _ _ (w.heap.size + 1 + 1) 104 _ (0, 0) _ rfl hout Tryd.underlying104 rfl (by rw [size_st]; simp [nums, HBL8.out])
              · rfl
              · exact ⟨rfl, below8 (HI2.out.2.2.2.2.1.trans (HB3.out.1.mono HI2.out.2.2.2.2.1.size)) (by omega) _ _ _ _ _ _ _ _⟩

end Go.Proofs.YtogimlinfkbapaaDoor.HSha
/- The walk of the reference's Block. -/
namespace Go.Proofs.YtogimlinfkbapaaDoor.HShaR
open Go.RowKit Go.Proofs.YtogimlinfkbapaaDoorW.PrintWords Go.Proofs.YtogimlinfkbapaaDoor.HLib Go.Proofs.YtogimlinfkbapaaDoor.HSha
set_option linter.unusedVariables false
set_option linter.unusedSimpArgs false

theorem or_comm32 (a b : Int) : bits .or .u32 a b = bits .or .u32 b a := by
  show IntKind.u32.wrap ((BitVec.ofInt 32 a ||| BitVec.ofInt 32 b).toNat : Int) = IntKind.u32.wrap ((BitVec.ofInt 32 b ||| BitVec.ofInt 32 a).toNat : Int)
  rw [BitVec.or_comm]
theorem refrot_any (x n : Int) (w : World) (h0 : 0 < n) (h1 : n < 32) : Calls Tryd.prog 82 #[.int .u32 x, .int .u64 n] w fun e w' => e = .returned (.int .u32 (rot x n.toNat)) ∧ w' = w := by
  have HT := Aside0.mk (show (32 - n).toNat = 32 - n.toNat from by omega)
  go_enter Tryd.func82, Tryd.ntmps82
  go_wp2
  go_ret
  rw [HT.out]
  refine ⟨?_, rfl⟩
  rw [rot, or_comm32]
  rfl

/-- A word, its first k bytes. -/
def part (bl : List Int) (n : Nat) : Nat → Int
  | 0 => 0
  | k + 1 => part bl n k * 256 + bl.getD (4 * n + k) 0
theorem part4 (bl : List Int) (n : Nat) : part bl n 4 = first bl n := by simp [part, first]
theorem part_bound (bl : List Int) (h : ∀ x ∈ bl, 0 ≤ x ∧ x < 256) (n : Nat) : ∀ k, 0 ≤ part bl n k ∧ part bl n k < 256 ^ k := by
  intro k
  induction k with
  | zero => simp [part]
  | succ k ih =>
    have := rd_byte bl h ((4 * n + k : Nat) : Int)
    rw [rd, show ((4 * n + k : Nat) : Int).toNat = 4 * n + k from by omega] at this
    rw [part, Int.pow_succ]
    omega
theorem set_at (l : List Int) (j m : Nat) (a x : Int) (hl : l.length = j) : (l ++ ([a] ++ List.replicate m 0)).set j x = l ++ ([x] ++ List.replicate m 0) := by
  rw [List.set_append_right (h := by omega), hl, Nat.sub_self]
  rfl
theorem get_at (l : List Int) (j m : Nat) (a : Int) (hl : l.length = j) : (l ++ ([a] ++ List.replicate m 0)).getD j 0 = a := by
  rw [List.getD_eq_getElem?_getD, List.getElem?_append_right (by omega), hl, Nat.sub_self]
  rfl

def shl8 (s : List Int) (k : Nat) : List Int := s.take (k + 1) ++ (s.drop k).take (7 - k)
theorem shl8_len (s : List Int) (h : s.length = 8) (k : Nat) (hk : k ≤ 7) : (shl8 s k).length = 8 := by simp [shl8, h]; omega
theorem shl8_get (s : List Int) (h : s.length = 8) (k : Nat) (hk : k ≤ 7) (h0 : 0 < k) : (shl8 s k).getD (k - 1) 0 = s.getD (k - 1) 0 := by
  rw [shl8, List.getD_eq_getElem?_getD, List.getElem?_append_left (by rw [List.length_take]; omega), List.getElem?_take, if_pos (by omega), List.getD_eq_getElem?_getD]
theorem shl8_set (s : List Int) (h : s.length = 8) (k : Nat) (hk : k ≤ 7) (h0 : 0 < k) : (shl8 s k).set k (s.getD (k - 1) 0) = shl8 s (k - 1) := by
  match s, h with
  | [_, _, _, _, _, _, _, _], _ =>
    match k, hk, h0 with
    | 1, _, _ => rfl
    | 2, _, _ => rfl
    | 3, _, _ => rfl
    | 4, _, _ => rfl
    | 5, _, _ => rfl
    | 6, _, _ => rfl
    | 7, _, _ => rfl
theorem shl8_end (s : List Int) (h : s.length = 8) (a b : Int) : ((shl8 s 0).set 4 a).set 0 b = [b, s.getD 0 0, s.getD 1 0, s.getD 2 0, a, s.getD 4 0, s.getD 5 0, s.getD 6 0] ∧ (shl8 s 0).getD 4 0 = s.getD 3 0 := by
  match s, h with
  | [_, _, _, _, _, _, _, _], _ => exact ⟨rfl, rfl⟩
theorem shl8_start (s : List Int) (h : s.length = 8) : shl8 s 7 = s := by
  match s, h with
  | [_, _, _, _, _, _, _, _], _ => rfl
def InvR (w : World) (st bl ws : List Int) (w' : World) : Prop :=
  IsArr w' w.heap.size .u32 104 st ∧ IsArr w' (w.heap.size + 1) .u8 80 bl ∧ IsArr w' (w.heap.size + 1 + 1) .u32 125 KT ∧ IsArr w' (w.heap.size + 1 + 1 + 1) .u32 104 (List.replicate 8 0) ∧
  IsArr w' (w.heap.size + 1 + 1 + 1 + 1) .u32 125 ws ∧ Below w.heap.size w w' ∧ w'.heap.size = w.heap.size + 1 + 1 + 1 + 1 + 1
theorem InvR.put {w : World} {st bl ws : List Int} {w' : World} (h : InvR w st bl ws w') (i : Nat) (x : Int) : InvR w st bl (ws.set i x) (w'.setCell ⟨w.heap.size + 1 + 1 + 1 + 1, i, none⟩ (.int .u32 x)) :=
  ⟨h.1.far (by dsimp only; omega) _, h.2.1.far (by dsimp only; omega) _, h.2.2.1.far (by dsimp only; omega) _, h.2.2.2.1.far (by dsimp only; omega) _, h.2.2.2.2.1.put i x, h.2.2.2.2.2.1.setCell (p := ⟨w.heap.size + 1 + 1 + 1 + 1, i, none⟩) (by dsimp only; omega) _, by simp [World.setCell, h.2.2.2.2.2.2]⟩
theorem InvR.drewN {w : World} {st bl ws : List Int} {w' : World} (h : InvR w st bl ws w') (m : Nat) : InvR w st bl ws (w'.drewN m) := ⟨h.1, h.2.1, h.2.2.1, h.2.2.2.1, h.2.2.2.2.1, pw_below_drewN h.2.2.2.2.2.1 m, h.2.2.2.2.2.2⟩
theorem InvR.drew {w : World} {st bl ws : List Int} {w' : World} (h : InvR w st bl ws w') : InvR w st bl ws w'.drew := ⟨h.1, h.2.1, h.2.2.1, h.2.2.2.1, h.2.2.2.2.1, below_drew1 h.2.2.2.2.2.1, h.2.2.2.2.2.2⟩

set_option maxRecDepth 100000 in
set_option maxHeartbeats 8000000 in
theorem refblock_any (w : World) (st bl : List Int) (hs : st.length = 8) (hb : bl.length = 64) (hb2 : ∀ x ∈ bl, 0 ≤ x ∧ x < 256) :
    Calls Tryd.prog 75 #[.agg (nums .u32 st).toArray, .agg (nums .u8 bl).toArray, .agg (nums .u32 KT).toArray] w fun e w' => e = .returned (.agg (nums .u32 (blockP st bl)).toArray) ∧ Below w.heap.size w w' := by
  have HS := Aside0.mk hs
  have HBL := Aside0.mk hb
  have HBY := Aside0.mk hb2
  clear hs hb hb2
  obtain ⟨KK, hKK⟩ : ∃ x, x = KT := ⟨_, rfl⟩
  rw [← hKK]
  have HKK := Aside0.mk hKK
  clear hKK
  go_enter Tryd.func75, Tryd.ntmps75
  go_wp2
  go_loopg [8, 9] 16 (fun kq v8 v9 w' => ∃ (j : Int), v8 = .int .i64 j ∧ Aside0 (0 ≤ j ∧ (kq : Int) + j = 16) ∧ Aside0 (InvR w st bl (sched bl j.toNat ++ List.replicate (64 - j.toNat) 0) w'))
  case atStart =>
    refine ⟨0, rfl, ⟨⟨by omega, by omega⟩⟩, ⟨?_, ?_, ?_, ?_, ?_, ?_, ?_⟩⟩
    · exact ((((show IsArr (w.alloc _) w.heap.size .u32 104 st from blk_new w _).alloc _).alloc _).alloc _).alloc _
    · have h : IsArr ((w.alloc (.cells (nums .u32 st).toArray 104)).alloc (.cells (nums .u8 bl).toArray 80)) (w.alloc (.cells (nums .u32 st).toArray 104)).heap.size .u8 80 bl := blk_new _ _
      rw [World.size_alloc] at h
      exact ((h.alloc _).alloc _).alloc _
    · have h : IsArr (((w.alloc (.cells (nums .u32 st).toArray 104)).alloc (.cells (nums .u8 bl).toArray 80)).alloc (.cells (nums .u32 KK).toArray 125)) ((w.alloc (.cells (nums .u32 st).toArray 104)).alloc (.cells (nums .u8 bl).toArray 80)).heap.size .u32 125 KK := blk_new _ _
      rw [World.size_alloc, World.size_alloc] at h
      rw [← HKK.out]
      exact (h.alloc _).alloc _
    · have h := blk_new (((w.alloc (.cells (nums .u32 st).toArray 104)).alloc (.cells (nums .u8 bl).toArray 80)).alloc (.cells (nums .u32 KK).toArray 125)) (.cells (nums .u32 (List.replicate 8 0)).toArray 104)
      rw [World.size_alloc, World.size_alloc, World.size_alloc] at h
      exact (show IsArr _ (w.heap.size + 1 + 1 + 1) .u32 104 (List.replicate 8 0) from h).alloc _
    · have h := blk_new ((((w.alloc (.cells (nums .u32 st).toArray 104)).alloc (.cells (nums .u8 bl).toArray 80)).alloc (.cells (nums .u32 KK).toArray 125)).alloc (.cells (nums .u32 (List.replicate 8 0)).toArray 104)) (.cells (nums .u32 (List.replicate 64 0)).toArray 125)
      rw [World.size_alloc, World.size_alloc, World.size_alloc, World.size_alloc] at h
      exact h
    · exact below_alloc (below_alloc (below_alloc (below_alloc (below_alloc (B0 w) _) _) _) _) _
    · simp
  case round =>
    obtain ⟨j, rfl, HA, HI⟩ := hrel
    have hj0 : 0 ≤ j := HA.out.1
    have hjm : j ≤ 16 := by have := HA.out; omega
    by_cases c1 : j < 16
    · have d1 : decide (j < 16) = true := decide_eq_true c1
      go_wp2
      go_loopg [9] 4 (fun kq v9 w' => ∃ (k : Int), v9 = .int .i64 k ∧ Aside0 (0 ≤ k ∧ (kq : Int) + k = 4) ∧ Aside0 (InvR w st bl (sched bl j.toNat ++ ([part bl j.toNat k.toNat] ++ List.replicate (64 - (j.toNat + 1)) 0)) w'))
      case atStart =>
        refine ⟨0, rfl, ⟨⟨by omega, by omega⟩⟩, ⟨?_⟩⟩
        have h := HI.out
        rw [show 64 - j.toNat = (64 - (j.toNat + 1)) + 1 from by omega, List.replicate_succ] at h
        exact h
      case round =>
        obtain ⟨k, rfl, HK, HI2⟩ := hrel
        have hk0 : 0 ≤ k := HK.out.1
        have hkm : k ≤ 4 := by have := HK.out; omega
        by_cases c2 : k < 4
        · have d2 : decide (k < 4) = true := decide_eq_true c2
          have hl : bl.length = 64 := HBL.out
          have hw : (sched bl j.toNat ++ ([part bl j.toNat k.toNat] ++ List.replicate (64 - (j.toNat + 1)) 0)).length = 64 := by rw [List.length_append, List.length_append, sched_len, List.length_replicate, List.length_singleton]; omega
          have e1 := HI2.out.2.1.cell (4 * j + k) (by omega) (by omega)
          have e2 := HI2.out.2.2.2.2.1.cell j hj0 (by omega)
          have f2 := HI2.out.2.2.2.2.1.frozen j.toNat
          have hv : rd (sched bl j.toNat ++ ([part bl j.toNat k.toNat] ++ List.replicate (64 - (j.toNat + 1)) 0)) j = part bl j.toNat k.toNat := get_at _ _ _ _ (sched_len _ _)
          rw [hv] at e2
          obtain ⟨b0, b1⟩ := rd_byte bl HBY.out (4 * j + k)
          obtain ⟨p0, p1⟩ := part_bound bl HBY.out j.toNat k.toNat
          have hp : (256 : Int) ^ k.toNat ≤ 256 ^ 3 := by
            have := Nat.pow_le_pow_right (show 0 < 256 by decide) (show k.toNat ≤ 3 by omega)
            have h3 : ((256 ^ k.toNat : Nat) : Int) ≤ ((256 ^ 3 : Nat) : Int) := Int.ofNat_le.2 this
            rwa [Int.natCast_pow, Int.natCast_pow] at h3
          obtain ⟨x, hx⟩ : ∃ x, x = rd bl (4 * j + k) := ⟨_, rfl⟩
          obtain ⟨y, hy⟩ : ∃ x, x = part bl j.toNat k.toNat := ⟨_, rfl⟩
          rw [← hx] at e1 b0 b1
          rw [← hy] at e2 p0 p1
          have p2 : y < 16777216 := by omega
          have HXY := Aside0.mk (And.intro hx hy)
          clear hl hw hv hp p1 hx hy
          have i0 : 0 ≤ 4 * j + k := by omega
          have i1 : 4 * j + k < 64 := by omega
          go_wp2
          go_region
          all_goals go_wp2
          go_roundg (4 - (k + 1).toNat)
          case measure => have := HK.out; omega
          case rel =>
            refine ⟨k + 1, rfl, ⟨⟨by omega, by omega⟩⟩, ⟨?_⟩⟩
            have h := (HI2.out.drew).put j.toNat (y * 256 + x)
            rw [set_at _ _ _ _ _ (sched_len _ _)] at h
            have e : part bl j.toNat (k + 1).toNat = y * 256 + x := by
              rw [show (k + 1).toNat = k.toNat + 1 from by omega, part, HXY.out.1, HXY.out.2, rd, show (4 * j + k).toNat = 4 * j.toNat + k.toNat from by omega]
            rw [e]
            exact h
        · have d2 : decide (k < 4) = false := decide_eq_false c2
          go_wp2
          go_roundg (16 - (j + 1).toNat)
          case measure => have := HA.out; omega
          case rel =>
            refine ⟨j + 1, rfl, ⟨⟨by omega, by omega⟩⟩, ⟨?_⟩⟩
            have h := HI2.out
            rw [show k.toNat = 4 from by omega, part4] at h
            rw [show (j + 1).toNat = j.toNat + 1 from by omega, sched, if_pos (by omega), List.append_assoc]
            exact h
    · have d1 : decide (j < 16) = false := decide_eq_false c1
      have HJ := Aside0.mk (show j = 16 from by omega)
      have HI1 := Aside0.mk (show InvR w st bl (sched bl 16 ++ List.replicate 48 0) wr from by have h := HI.out; rw [HJ.out] at h; exact h)
      clear c1
      go_wp2
      go_loopg [10, 11, 12] 48 (fun kq v10 v11 v12 w' => ∃ (i : Int), v10 = .int .i64 i ∧ Aside0 (16 ≤ i ∧ (kq : Int) + i = 64) ∧ Aside0 (InvR w st bl (sched bl i.toNat ++ List.replicate (64 - i.toNat) 0) w'))
      case atStart => exact ⟨16, rfl, ⟨⟨by omega, by omega⟩⟩, HI1⟩
      case round =>
        obtain ⟨i, rfl, HA2, HI2⟩ := hrel
        have hi0 : 16 ≤ i := HA2.out.1
        have him : i ≤ 64 := by have := HA2.out; omega
        by_cases c3 : i < 64
        · have d3 : decide (i < 64) = true := decide_eq_true c3
          --<<L2
          have hw : (sched bl i.toNat ++ List.replicate (64 - i.toNat) 0).length = 64 := by rw [List.length_append, sched_len, List.length_replicate]; omega
          have e15 := HI2.out.2.2.2.2.1.cell (i - 15) (by omega) (by omega)
          have e2 := HI2.out.2.2.2.2.1.cell (i - 2) (by omega) (by omega)
          have e16 := HI2.out.2.2.2.2.1.cell (i - 16) (by omega) (by omega)
          have e7 := HI2.out.2.2.2.2.1.cell (i - 7) (by omega) (by omega)
          have f5 := HI2.out.2.2.2.2.1.frozen i.toNat
          have e5 := HI2.out.2.2.2.2.1.cell i (by omega) (by omega)
          obtain ⟨x, hx⟩ : ∃ x, x = rd (sched bl i.toNat ++ List.replicate (64 - i.toNat) 0) (i - 15) := ⟨_, rfl⟩
          obtain ⟨y, hy⟩ : ∃ x, x = rd (sched bl i.toNat ++ List.replicate (64 - i.toNat) 0) (i - 2) := ⟨_, rfl⟩
          obtain ⟨z, hz⟩ : ∃ x, x = rd (sched bl i.toNat ++ List.replicate (64 - i.toNat) 0) (i - 16) := ⟨_, rfl⟩
          obtain ⟨u, hu⟩ : ∃ x, x = rd (sched bl i.toNat ++ List.replicate (64 - i.toNat) 0) (i - 7) := ⟨_, rfl⟩
          obtain ⟨y5, hy5⟩ : ∃ y, y = rd (sched bl i.toNat ++ List.replicate (64 - i.toNat) 0) i := ⟨_, rfl⟩
          rw [← hx] at e15
          rw [← hy] at e2
          rw [← hz] at e16
          rw [← hu] at e7
          rw [← hy5] at e5
          have HX := Aside0.mk (And.intro hx (And.intro hy (And.intro hz hu)))
          clear hw hx hy hz hu hy5
          have i0 : 0 ≤ i - 15 := by omega
          have i1 : i - 15 < 64 := by omega
          have i2 : 0 ≤ i - 2 := by omega
          have i3 : i - 2 < 64 := by omega
          have i4 : 0 ≤ i - 16 := by omega
          have i5 : i - 16 < 64 := by omega
          have i6 : 0 ≤ i - 7 := by omega
          have i7 : i - 7 < 64 := by omega
          have i8 : 0 ≤ i := by omega
          have i9 : 7 ≤ i := by omega
          have k0 : IntKind.i64.wrap (i - 15) = i - 15 := IntWalk.i64_in _ (by omega)
          have k1 : IntKind.i64.wrap (i - 2) = i - 2 := IntWalk.i64_in _ (by omega)
          have k2 : IntKind.i64.wrap (i - 16) = i - 16 := IntWalk.i64_in _ (by omega)
          have k3 : IntKind.i64.wrap (i - 7) = i - 7 := IntWalk.i64_in _ (by omega)
          go_wp2
          go_region_held3 (fun w' => w'.cell? ⟨w.heap.size + 1 + 1 + 1 + 1, (i - 16).toNat, none⟩ = some (.int .u32 z) ∧ w'.cell? ⟨w.heap.size + 1 + 1 + 1 + 1, (i - 7).toNat, none⟩ = some (.int .u32 u)) (first | assumption | (refine ⟨?_, ?_⟩ <;> exact cell_set_other (by omega) (by assumption)) | go_keep) (first | (go_at_call 82; refine (refrot_any _ _ _ (by decide) (by decide)).mono ?_; rintro e w1 ⟨rfl, rfl⟩))
          all_goals go_wp2
          all_goals
            go_roundg (64 - (i + 1).toNat)
            case measure => have := HA2.out; omega
            case rel =>
              refine ⟨i + 1, rfl, ⟨⟨by omega, by omega⟩⟩, ⟨?_⟩⟩
              have e1 := later_eq bl i x y z u HX.out (by omega) (by omega)
              rw [e1]
              have hput := HI2.out.put i.toNat (later (sched bl i.toNat) i.toNat)
              rw [set_next _ _ _ (sched_len _ _) (by omega)] at hput
              rw [show (i + 1).toNat = i.toNat + 1 from by omega, sched, if_neg (by omega), List.append_assoc]
              exact hput.drew
          -->>L2
        · have d3 : decide (i < 64) = false := decide_eq_false c3
          have HJ2 := Aside0.mk (show i = 64 from by omega)
          have hI := HI2.out
          rw [HJ2.out, show (64 : Int).toNat = 64 from rfl, Nat.sub_self, List.replicate_zero, List.append_nil] at hI
          have HI3 := Aside0.mk hI
          have hsl : st.length = 8 := HS.out
          have s0 : wr.cell? ⟨w.heap.size, 0, none⟩ = some (.int .u32 (rd st 0)) := hI.1.cell 0 (by omega) (by omega)
          have s1 : wr.cell? ⟨w.heap.size, 1, none⟩ = some (.int .u32 (rd st 1)) := hI.1.cell 1 (by omega) (by omega)
          have s2 : wr.cell? ⟨w.heap.size, 2, none⟩ = some (.int .u32 (rd st 2)) := hI.1.cell 2 (by omega) (by omega)
          have s3 : wr.cell? ⟨w.heap.size, 3, none⟩ = some (.int .u32 (rd st 3)) := hI.1.cell 3 (by omega) (by omega)
          have s4 : wr.cell? ⟨w.heap.size, 4, none⟩ = some (.int .u32 (rd st 4)) := hI.1.cell 4 (by omega) (by omega)
          have s5 : wr.cell? ⟨w.heap.size, 5, none⟩ = some (.int .u32 (rd st 5)) := hI.1.cell 5 (by omega) (by omega)
          have s6 : wr.cell? ⟨w.heap.size, 6, none⟩ = some (.int .u32 (rd st 6)) := hI.1.cell 6 (by omega) (by omega)
          have s7 : wr.cell? ⟨w.heap.size, 7, none⟩ = some (.int .u32 (rd st 7)) := hI.1.cell 7 (by omega) (by omega)
          clear c3 hI hsl
          obtain ⟨wA, rfl⟩ : ∃ x, x = wr := ⟨_, rfl⟩
          obtain ⟨i0, rfl⟩ : ∃ x, x = i := ⟨_, rfl⟩
          go_wp2
          go_loopg [14, 15, 16, 17] 64 (fun kq v14 v15 v16 v17 w' => ∃ (i : Int), v14 = .int .i64 i ∧ Aside0 (0 ≤ i ∧ (kq : Int) + i = 64) ∧ Aside0 (IsArr w' wA.heap.size .u32 104 (rounds (sched bl 64) st i.toNat)) ∧ Aside0 (Below wA.heap.size wA w' ∧ w'.heap.size = wA.heap.size + 1))
          case atStart =>
            refine ⟨0, rfl, ⟨⟨by omega, by omega⟩⟩, ⟨?_⟩, ⟨⟨below_alloc (B0 wA) _, by simp⟩⟩⟩
            have h := blk_new wA (.cells (nums .u32 [rd st 0, rd st 1, rd st 2, rd st 3, rd st 4, rd st 5, rd st 6, rd st 7]).toArray 104)
            exact Eq.trans h (by rw [list8 st HS.out]; rfl)
          case round =>
            obtain ⟨i, rfl, HA3, HR, HB2⟩ := hrel
            have hi0 : 0 ≤ i := HA3.out.1
            have him : i ≤ 64 := by have := HA3.out; omega
            clear s0 s1 s2 s3 s4 s5 s6 s7
            by_cases c3 : i < 64
            · have d3 : decide (i < 64) = true := decide_eq_true c3
              --<<L3
              obtain ⟨s, hs⟩ : ∃ s, s = rounds (sched bl 64) st i.toNat := ⟨_, rfl⟩
              have HSE := Aside0.mk hs
              have hsl : s.length = 8 := by rw [hs]; exact rounds_len _ _ HS.out _
              have HSL := Aside0.mk hsl
              have HR2 : Aside0 (IsArr wr wA.heap.size .u32 104 s) := ⟨by rw [hs]; exact HR.out⟩
              have e0 : wr.cell? ⟨wA.heap.size, 0, none⟩ = some (.int .u32 (s.getD 0 0)) := HR2.out.cell 0 (by omega) (by omega)
              have f0 := HR2.out.frozen 0
              obtain ⟨s0, hs0⟩ : ∃ x, x = s.getD 0 0 := ⟨_, rfl⟩
              rw [← hs0] at e0
              have e1 : wr.cell? ⟨wA.heap.size, 1, none⟩ = some (.int .u32 (s.getD 1 0)) := HR2.out.cell 1 (by omega) (by omega)
              have f1 := HR2.out.frozen 1
              obtain ⟨s1, hs1⟩ : ∃ x, x = s.getD 1 0 := ⟨_, rfl⟩
              rw [← hs1] at e1
              have e2 : wr.cell? ⟨wA.heap.size, 2, none⟩ = some (.int .u32 (s.getD 2 0)) := HR2.out.cell 2 (by omega) (by omega)
              have f2 := HR2.out.frozen 2
              obtain ⟨s2, hs2⟩ : ∃ x, x = s.getD 2 0 := ⟨_, rfl⟩
              rw [← hs2] at e2
              have e3 : wr.cell? ⟨wA.heap.size, 3, none⟩ = some (.int .u32 (s.getD 3 0)) := HR2.out.cell 3 (by omega) (by omega)
              have f3 := HR2.out.frozen 3
              obtain ⟨s3, hs3⟩ : ∃ x, x = s.getD 3 0 := ⟨_, rfl⟩
              rw [← hs3] at e3
              have e4 : wr.cell? ⟨wA.heap.size, 4, none⟩ = some (.int .u32 (s.getD 4 0)) := HR2.out.cell 4 (by omega) (by omega)
              have f4 := HR2.out.frozen 4
              obtain ⟨s4, hs4⟩ : ∃ x, x = s.getD 4 0 := ⟨_, rfl⟩
              rw [← hs4] at e4
              have e5 : wr.cell? ⟨wA.heap.size, 5, none⟩ = some (.int .u32 (s.getD 5 0)) := HR2.out.cell 5 (by omega) (by omega)
              have f5 := HR2.out.frozen 5
              obtain ⟨s5, hs5⟩ : ∃ x, x = s.getD 5 0 := ⟨_, rfl⟩
              rw [← hs5] at e5
              have e6 : wr.cell? ⟨wA.heap.size, 6, none⟩ = some (.int .u32 (s.getD 6 0)) := HR2.out.cell 6 (by omega) (by omega)
              have f6 := HR2.out.frozen 6
              obtain ⟨s6, hs6⟩ : ∃ x, x = s.getD 6 0 := ⟨_, rfl⟩
              rw [← hs6] at e6
              have e7 : wr.cell? ⟨wA.heap.size, 7, none⟩ = some (.int .u32 (s.getD 7 0)) := HR2.out.cell 7 (by omega) (by omega)
              have f7 := HR2.out.frozen 7
              obtain ⟨s7, hs7⟩ : ∃ x, x = s.getD 7 0 := ⟨_, rfl⟩
              rw [← hs7] at e7
              have HSX := Aside0.mk (And.intro hs0 (And.intro hs1 (And.intro hs2 (And.intro hs3 (And.intro hs4 (And.intro hs5 (And.intro hs6 hs7)))))))
              have hz := HI3.out.2.2.2.2.2.2
              have ew : wr.cell? ⟨w.heap.size + 1 + 1 + 1 + 1, i.toNat, none⟩ = some (.int .u32 (rd (sched bl 64) i)) := (HI3.out.2.2.2.2.1.below HB2.out.1 (by omega)).cell i hi0 (by rw [sched_len]; exact c3)
              have ek : wr.cell? ⟨w.heap.size + 1 + 1, i.toNat, none⟩ = some (.int .u32 (rd KT i)) := (HI3.out.2.2.1.below HB2.out.1 (by omega)).cell i hi0 (by rw [show KT.length = 64 from rfl]; exact c3)
              obtain ⟨kx, hkx⟩ : ∃ x, x = rd KT i := ⟨_, rfl⟩
              obtain ⟨wx, hwx⟩ : ∃ x, x = rd (sched bl 64) i := ⟨_, rfl⟩
              rw [← hwx] at ew
              rw [← hkx] at ek
              have HKW := Aside0.mk (And.intro hkx hwx)
              clear hs hsl hs0 hs1 hs2 hs3 hs4 hs5 hs6 hs7 hz hkx hwx
              go_wp2
              go_quiet (first | (go_at_call 82; refine Calls.quiet_of_same (refrot_any _ _ _ (by decide) (by decide))))
              generalize hq_wB : wr.drewN nq = wB
              have e0 : wB.cell? ⟨wA.heap.size, 0, none⟩ = some (.int .u32 s0) := by rw [← hq_wB]; exact e0
              have f0 : wB.frozen? ⟨wA.heap.size, 0, none⟩ = false := by rw [← hq_wB]; exact f0
              have e1 : wB.cell? ⟨wA.heap.size, 1, none⟩ = some (.int .u32 s1) := by rw [← hq_wB]; exact e1
              have f1 : wB.frozen? ⟨wA.heap.size, 1, none⟩ = false := by rw [← hq_wB]; exact f1
              have e2 : wB.cell? ⟨wA.heap.size, 2, none⟩ = some (.int .u32 s2) := by rw [← hq_wB]; exact e2
              have f2 : wB.frozen? ⟨wA.heap.size, 2, none⟩ = false := by rw [← hq_wB]; exact f2
              have e3 : wB.cell? ⟨wA.heap.size, 3, none⟩ = some (.int .u32 s3) := by rw [← hq_wB]; exact e3
              have f3 : wB.frozen? ⟨wA.heap.size, 3, none⟩ = false := by rw [← hq_wB]; exact f3
              have e4 : wB.cell? ⟨wA.heap.size, 4, none⟩ = some (.int .u32 s4) := by rw [← hq_wB]; exact e4
              have f4 : wB.frozen? ⟨wA.heap.size, 4, none⟩ = false := by rw [← hq_wB]; exact f4
              have e5 : wB.cell? ⟨wA.heap.size, 5, none⟩ = some (.int .u32 s5) := by rw [← hq_wB]; exact e5
              have f5 : wB.frozen? ⟨wA.heap.size, 5, none⟩ = false := by rw [← hq_wB]; exact f5
              have e6 : wB.cell? ⟨wA.heap.size, 6, none⟩ = some (.int .u32 s6) := by rw [← hq_wB]; exact e6
              have f6 : wB.frozen? ⟨wA.heap.size, 6, none⟩ = false := by rw [← hq_wB]; exact f6
              have e7 : wB.cell? ⟨wA.heap.size, 7, none⟩ = some (.int .u32 s7) := by rw [← hq_wB]; exact e7
              have f7 : wB.frozen? ⟨wA.heap.size, 7, none⟩ = false := by rw [← hq_wB]; exact f7
              have ew : wB.cell? ⟨w.heap.size + 1 + 1 + 1 + 1, i.toNat, none⟩ = some (.int .u32 wx) := by rw [← hq_wB]; exact ew
              have ek : wB.cell? ⟨w.heap.size + 1 + 1, i.toNat, none⟩ = some (.int .u32 kx) := by rw [← hq_wB]; exact ek
              have HR2 : Aside0 (IsArr wB wA.heap.size .u32 104 s) := ⟨by rw [← hq_wB]; exact HR2.out.drewN _⟩
              have HB2 : Aside0 (Below wA.heap.size wA wB ∧ wB.heap.size = wA.heap.size + 1) := ⟨by rw [← hq_wB]; exact ⟨pw_below_drewN HB2.out.1 _, HB2.out.2⟩⟩
              clear hq_wB
              go_wp2
              go_quiet (first | (go_at_call 82; refine Calls.quiet_of_same (refrot_any _ _ _ (by decide) (by decide))))
              generalize hq_wC : wB.drewN nq = wC
              have e0 : wC.cell? ⟨wA.heap.size, 0, none⟩ = some (.int .u32 s0) := by rw [← hq_wC]; exact e0
              have f0 : wC.frozen? ⟨wA.heap.size, 0, none⟩ = false := by rw [← hq_wC]; exact f0
              have e1 : wC.cell? ⟨wA.heap.size, 1, none⟩ = some (.int .u32 s1) := by rw [← hq_wC]; exact e1
              have f1 : wC.frozen? ⟨wA.heap.size, 1, none⟩ = false := by rw [← hq_wC]; exact f1
              have e2 : wC.cell? ⟨wA.heap.size, 2, none⟩ = some (.int .u32 s2) := by rw [← hq_wC]; exact e2
              have f2 : wC.frozen? ⟨wA.heap.size, 2, none⟩ = false := by rw [← hq_wC]; exact f2
              have e3 : wC.cell? ⟨wA.heap.size, 3, none⟩ = some (.int .u32 s3) := by rw [← hq_wC]; exact e3
              have f3 : wC.frozen? ⟨wA.heap.size, 3, none⟩ = false := by rw [← hq_wC]; exact f3
              have e4 : wC.cell? ⟨wA.heap.size, 4, none⟩ = some (.int .u32 s4) := by rw [← hq_wC]; exact e4
              have f4 : wC.frozen? ⟨wA.heap.size, 4, none⟩ = false := by rw [← hq_wC]; exact f4
              have e5 : wC.cell? ⟨wA.heap.size, 5, none⟩ = some (.int .u32 s5) := by rw [← hq_wC]; exact e5
              have f5 : wC.frozen? ⟨wA.heap.size, 5, none⟩ = false := by rw [← hq_wC]; exact f5
              have e6 : wC.cell? ⟨wA.heap.size, 6, none⟩ = some (.int .u32 s6) := by rw [← hq_wC]; exact e6
              have f6 : wC.frozen? ⟨wA.heap.size, 6, none⟩ = false := by rw [← hq_wC]; exact f6
              have e7 : wC.cell? ⟨wA.heap.size, 7, none⟩ = some (.int .u32 s7) := by rw [← hq_wC]; exact e7
              have f7 : wC.frozen? ⟨wA.heap.size, 7, none⟩ = false := by rw [← hq_wC]; exact f7
              have ew : wC.cell? ⟨w.heap.size + 1 + 1 + 1 + 1, i.toNat, none⟩ = some (.int .u32 wx) := by rw [← hq_wC]; exact ew
              have ek : wC.cell? ⟨w.heap.size + 1 + 1, i.toNat, none⟩ = some (.int .u32 kx) := by rw [← hq_wC]; exact ek
              have HR2 : Aside0 (IsArr wC wA.heap.size .u32 104 s) := ⟨by rw [← hq_wC]; exact HR2.out.drewN _⟩
              have HB2 : Aside0 (Below wA.heap.size wA wC ∧ wC.heap.size = wA.heap.size + 1) := ⟨by rw [← hq_wC]; exact ⟨pw_below_drewN HB2.out.1 _, HB2.out.2⟩⟩
              clear hq_wC
              clear e0 e1 e2 e3 e4 e5 e6 e7 f0 f1 f2 f3 f4 f5 f6 f7 ew ek
              go_wp2
              obtain ⟨T, hT⟩ : ∃ T, T = tsum s7 s4 s5 s6 kx wx % 4294967296 := ⟨_, rfl⟩
              obtain ⟨U, hU⟩ : ∃ T, T = usum s0 s1 s2 % 4294967296 := ⟨_, rfl⟩
              have HT := Aside0.mk hT
              have HU := Aside0.mk hU
              unfold tsum at hT
              unfold usum at hU
              rw [← hT, ← hU]
              clear hT hU
              go_loopg [17] 7 (fun kq v17 w' => ∃ (k : Int), v17 = .int .i64 k ∧ Aside0 (0 ≤ k ∧ (kq : Int) = k ∧ k ≤ 7) ∧ Aside0 (IsArr w' wA.heap.size .u32 104 (shl8 s k.toNat)) ∧ Aside0 (Below wA.heap.size wA w' ∧ w'.heap.size = wA.heap.size + 1))
              case atStart => exact ⟨7, rfl, ⟨⟨by omega, by omega, by omega⟩⟩, ⟨by rw [show (7 : Int).toNat = 7 from rfl, shl8_start s HSL.out]; exact HR2.out⟩, HB2⟩
              case round =>
                obtain ⟨k, rfl, HK, HR4, HB4⟩ := hrel
                have hk0 : 0 ≤ k := HK.out.1
                have hk7 : k ≤ 7 := HK.out.2.2
                by_cases c5 : 0 < k
                · have d5 : decide (0 < k) = true := decide_eq_true c5
                  have hl := shl8_len s HSL.out k.toNat (by omega)
                  have g1 : wr.cell? ⟨wA.heap.size, (k - 1).toNat, none⟩ = some (.int .u32 (rd (shl8 s k.toNat) (k - 1))) := HR4.out.cell (k - 1) (by omega) (by omega)
                  have g2 : wr.cell? ⟨wA.heap.size, k.toNat, none⟩ = some (.int .u32 (rd (shl8 s k.toNat) k)) := HR4.out.cell k (by omega) (by omega)
                  have g3 := HR4.out.frozen k.toNat
                  have hv : rd (shl8 s k.toNat) (k - 1) = s.getD (k.toNat - 1) 0 := by rw [rd, show (k - 1).toNat = k.toNat - 1 from by omega]; exact shl8_get s HSL.out _ (by omega) (by omega)
                  rw [hv] at g1
                  obtain ⟨x, hx⟩ : ∃ x, x = s.getD (k.toNat - 1) 0 := ⟨_, rfl⟩
                  obtain ⟨y, hy⟩ : ∃ x, x = rd (shl8 s k.toNat) k := ⟨_, rfl⟩
                  rw [← hx] at g1
                  rw [← hy] at g2
                  have HX := Aside0.mk hx
                  clear hl hv hx hy
                  have g1' : wr.cell? ⟨wA.heap.size, k.toNat - 1, none⟩ = some (.int .u32 x) := by rw [show k.toNat - 1 = (k - 1).toNat from by omega]; exact g1
                  have i0 : 0 ≤ k - 1 := by omega
                  have i1 : k - 1 < 8 := by omega
                  have i2 : k < 8 := by omega
                  go_wp2
                  go_roundg (k - 1).toNat
                  case measure => have := HK.out; omega
                  case rel =>
                    refine ⟨k - 1, rfl, ⟨⟨by omega, by omega, by omega⟩⟩, ⟨?_⟩, ⟨?_⟩⟩
                    · have h := HR4.out.put k.toNat x
                      rw [HX.out, shl8_set s HSL.out k.toNat (by omega) (by omega)] at h
                      rw [show (k - 1).toNat = k.toNat - 1 from by omega, HX.out]
                      exact h
                    · exact ⟨HB4.out.1.setCell (p := ⟨wA.heap.size, k.toNat, none⟩) (Nat.le_refl _) _, by simp [World.setCell]; exact HB4.out.2⟩
                · have d5 : decide (0 < k) = false := decide_eq_false c5
                  have HR5 : Aside0 (IsArr wr wA.heap.size .u32 104 (shl8 s 0)) := ⟨by have h := HR4.out; rw [show k.toNat = 0 from by omega] at h; exact h⟩
                  have hl := shl8_len s HSL.out 0 (by omega)
                  have g4 : wr.cell? ⟨wA.heap.size, 4, none⟩ = some (.int .u32 ((shl8 s 0).getD 4 0)) := HR5.out.cell 4 (by omega) (by omega)
                  have g0 : wr.cell? ⟨wA.heap.size, 0, none⟩ = some (.int .u32 ((shl8 s 0).getD 0 0)) := HR5.out.cell 0 (by omega) (by omega)
                  have q4 := HR5.out.frozen 4
                  have q0 := HR5.out.frozen 0
                  rw [(shl8_end s HSL.out 0 0).2] at g4
                  obtain ⟨y4, hy4⟩ : ∃ x, x = s.getD 3 0 := ⟨_, rfl⟩
                  obtain ⟨y0, hy0⟩ : ∃ x, x = (shl8 s 0).getD 0 0 := ⟨_, rfl⟩
                  rw [← hy4] at g4
                  rw [← hy0] at g0
                  have HY := Aside0.mk hy4
                  clear c5 hl hy4 hy0
                  go_wp2
                  go_roundg (64 - (i + 1).toNat)
                  case measure => have := HA3.out; omega
                  case rel =>
                    refine ⟨i + 1, rfl, ⟨⟨by omega, by omega⟩⟩, ⟨?_⟩, ⟨?_⟩⟩
                    · have h := (HR5.out.put 4 ((y4 + T) % 4294967296)).put 0 ((T + U) % 4294967296)
                      rw [(shl8_end s HSL.out _ _).1] at h
                      have e : rounds (sched bl 64) st (i + 1).toNat = [(T + U) % 4294967296, s.getD 0 0, s.getD 1 0, s.getD 2 0, (y4 + T) % 4294967296, s.getD 4 0, s.getD 5 0, s.getD 6 0] := by
                        obtain ⟨q0, q1, q2, q3, q4, q5, q6, q7⟩ := HSX.out
                        have hk : KT.getD i.toNat 0 = kx := by rw [HKW.out.1]; rfl
                        have hwd : (sched bl 64).getD i.toNat 0 = wx := by rw [HKW.out.2]; rfl
                        rw [show (i + 1).toNat = i.toNat + 1 from by omega, rounds, ← HSE.out, hk, hwd, rnd, ← q0, ← q1, ← q2, ← q3, ← q4, ← q5, ← q6, ← q7, HY.out, ← q3, HT.out, HU.out]
                        have a1 : (tsum s7 s4 s5 s6 kx wx + usum s0 s1 s2) % 4294967296 = (tsum s7 s4 s5 s6 kx wx % 4294967296 + usum s0 s1 s2 % 4294967296) % 4294967296 := by omega
                        have a2 : (s3 + tsum s7 s4 s5 s6 kx wx) % 4294967296 = (s3 + tsum s7 s4 s5 s6 kx wx % 4294967296) % 4294967296 := by omega
                        rw [a1, a2]
                      rw [e]
                      exact h
                    · exact ⟨(HB4.out.1.setCell (p := ⟨wA.heap.size, 4, none⟩) (Nat.le_refl _) _).setCell (p := ⟨wA.heap.size, 0, none⟩) (Nat.le_refl _) _, by simp [World.setCell]; exact HB4.out.2⟩
              -->>L3
            · have d3 : decide (i < 64) = false := decide_eq_false c3
              have HJ3 := Aside0.mk (show i = 64 from by omega)
              have HR3 : Aside0 (IsArr wr wA.heap.size .u32 104 (rounds (sched bl 64) st 64)) := ⟨by have h := HR.out; rw [HJ3.out] at h; exact h⟩
              have HRL3 := Aside0.mk (rounds_len (sched bl 64) st HS.out 64)
              clear c3
              go_wp2
              go_loopg [18] 8 (fun kq v18 w' => ∃ (q : Int), v18 = .int .i64 q ∧ Aside0 (0 ≤ q ∧ (kq : Int) + q = 8) ∧ Aside0 (IsArr w' wA.heap.size .u32 104 ((blockP st bl).take q.toNat ++ (rounds (sched bl 64) st 64).drop q.toNat)) ∧ Aside0 (Below wA.heap.size wA w' ∧ w'.heap.size = wA.heap.size + 1))
              case atStart => exact ⟨0, rfl, ⟨⟨by omega, by omega⟩⟩, HR3, HB2⟩
              case round =>
                obtain ⟨q, rfl, HA4, HR4, HB3⟩ := hrel
                have hq0 : 0 ≤ q := HA4.out.1
                have hqm : q ≤ 8 := by have := HA4.out; omega
                by_cases c4 : q < 8
                · have d4 : decide (q < 8) = true := decide_eq_true c4
                  have hz := HI3.out.2.2.2.2.2.2
                  have hBL := addst_len _ st HRL3.out HS.out
                  have e9 := HR4.out.cell q hq0 (by rw [mix_len (blockP st bl) _ hBL HRL3.out _ (by omega)]; exact c4)
                  have f9 := HR4.out.frozen q.toNat
                  have e2 : wr.cell? ⟨w.heap.size, q.toNat, none⟩ = some (.int .u32 (rd st q)) := (HI3.out.1.below HB3.out.1 (by omega)).cell q hq0 (by rw [HS.out]; exact c4)
                  have hv : rd ((blockP st bl).take q.toNat ++ (rounds (sched bl 64) st 64).drop q.toNat) q = (rounds (sched bl 64) st 64).getD q.toNat 0 := mix_get _ _ hBL HRL3.out _ (by omega)
                  rw [hv] at e9
                  obtain ⟨x, hx⟩ : ∃ x, x = (rounds (sched bl 64) st 64).getD q.toNat 0 := ⟨_, rfl⟩
                  obtain ⟨y, hy⟩ : ∃ x, x = rd st q := ⟨_, rfl⟩
                  rw [← hx] at e9
                  rw [← hy] at e2
                  have HXY := Aside0.mk (And.intro hx hy)
                  clear hz hBL hv hx hy
                  go_wp2
                  go_region
                  all_goals go_wp2
                  go_roundg (8 - (q + 1).toNat)
                  case measure => have := HA4.out; omega
                  case rel =>
                    have h := (HR4.out.drew).put q.toNat ((x + y) % 4294967296)
                    have hA := addst_get (rounds (sched bl 64) st 64) st HRL3.out HS.out q.toNat (by omega)
                    have hm := mix_set (blockP st bl) (rounds (sched bl 64) st 64) (addst_len _ st HRL3.out HS.out) HRL3.out q.toNat (by omega)
                    rw [show (blockP st bl).getD q.toNat 0 = (x + y) % 4294967296 from by rw [HXY.out.1, HXY.out.2]; exact hA] at hm
                    rw [hm] at h
                    refine ⟨q + 1, rfl, ⟨⟨by omega, by omega⟩⟩, ⟨?_⟩, ⟨?_⟩⟩
                    · rw [show (q + 1).toNat = q.toNat + 1 from by omega]
                      exact h
                    · exact ⟨(below_drew1 HB3.out.1).setCell (p := ⟨wA.heap.size, q.toNat, none⟩) (Nat.le_refl _) _, by simp [World.setCell]; exact HB3.out.2⟩
                · have d4 : decide (q < 8) = false := decide_eq_false c4
                  have hBL := addst_len _ st HRL3.out HS.out
                  have HF : Aside0 (IsArr wr wA.heap.size .u32 104 (blockP st bl)) := ⟨by
                    have h := HR4.out
                    rw [show q.toNat = 8 from by omega, List.take_of_length_le (by rw [show blockP st bl = addst (rounds (sched bl 64) st 64) st from rfl, hBL]; decide), List.drop_of_length_le (by rw [HRL3.out]; decide), List.append_nil] at h
                    exact h⟩
                  have hz := HI3.out.2.2.2.2.2.2
                  have HO : Aside0 (IsArr wr (w.heap.size + 1 + 1 + 1) .u32 104 (List.replicate 8 0)) := ⟨HI3.out.2.2.2.1.below HB3.out.1 (by omega)⟩
                  have HBL8 := Aside0.mk (show (blockP st bl).length = 8 from hBL)
                  clear hBL hz
                  have e0 : wr.cell? ⟨wA.heap.size, 0, none⟩ = some (.int .u32 (rd (blockP st bl) 0)) := HF.out.cell 0 (by omega) (by rw [HBL8.out]; decide)
                  have o0 : wr.cell? ⟨w.heap.size + 1 + 1 + 1, 0, none⟩ = some (.int .u32 0) := HO.out.cell 0 (by omega) (by decide)
                  have f0 := HO.out.frozen 0
                  have e1 : wr.cell? ⟨wA.heap.size, 1, none⟩ = some (.int .u32 (rd (blockP st bl) 1)) := HF.out.cell 1 (by omega) (by rw [HBL8.out]; decide)
                  have o1 : wr.cell? ⟨w.heap.size + 1 + 1 + 1, 1, none⟩ = some (.int .u32 0) := HO.out.cell 1 (by omega) (by decide)
                  have f1 := HO.out.frozen 1
                  have e2 : wr.cell? ⟨wA.heap.size, 2, none⟩ = some (.int .u32 (rd (blockP st bl) 2)) := HF.out.cell 2 (by omega) (by rw [HBL8.out]; decide)
                  have o2 : wr.cell? ⟨w.heap.size + 1 + 1 + 1, 2, none⟩ = some (.int .u32 0) := HO.out.cell 2 (by omega) (by decide)
                  have f2 := HO.out.frozen 2
                  have e3 : wr.cell? ⟨wA.heap.size, 3, none⟩ = some (.int .u32 (rd (blockP st bl) 3)) := HF.out.cell 3 (by omega) (by rw [HBL8.out]; decide)
                  have o3 : wr.cell? ⟨w.heap.size + 1 + 1 + 1, 3, none⟩ = some (.int .u32 0) := HO.out.cell 3 (by omega) (by decide)
                  have f3 := HO.out.frozen 3
                  have e4 : wr.cell? ⟨wA.heap.size, 4, none⟩ = some (.int .u32 (rd (blockP st bl) 4)) := HF.out.cell 4 (by omega) (by rw [HBL8.out]; decide)
                  have o4 : wr.cell? ⟨w.heap.size + 1 + 1 + 1, 4, none⟩ = some (.int .u32 0) := HO.out.cell 4 (by omega) (by decide)
                  have f4 := HO.out.frozen 4
                  have e5 : wr.cell? ⟨wA.heap.size, 5, none⟩ = some (.int .u32 (rd (blockP st bl) 5)) := HF.out.cell 5 (by omega) (by rw [HBL8.out]; decide)
                  have o5 : wr.cell? ⟨w.heap.size + 1 + 1 + 1, 5, none⟩ = some (.int .u32 0) := HO.out.cell 5 (by omega) (by decide)
                  have f5 := HO.out.frozen 5
                  have e6 : wr.cell? ⟨wA.heap.size, 6, none⟩ = some (.int .u32 (rd (blockP st bl) 6)) := HF.out.cell 6 (by omega) (by rw [HBL8.out]; decide)
                  have o6 : wr.cell? ⟨w.heap.size + 1 + 1 + 1, 6, none⟩ = some (.int .u32 0) := HO.out.cell 6 (by omega) (by decide)
                  have f6 := HO.out.frozen 6
                  have e7 : wr.cell? ⟨wA.heap.size, 7, none⟩ = some (.int .u32 (rd (blockP st bl) 7)) := HF.out.cell 7 (by omega) (by rw [HBL8.out]; decide)
                  have o7 : wr.cell? ⟨w.heap.size + 1 + 1 + 1, 7, none⟩ = some (.int .u32 0) := HO.out.cell 7 (by omega) (by decide)
                  have f7 := HO.out.frozen 7
                  clear c4
                  go_wp2
                  have hout := HO.out.put8 (by decide) (rd (blockP st bl) 0) (rd (blockP st bl) 1) (rd (blockP st bl) 2) (rd (blockP st bl) 3) (rd (blockP st bl) 4) (rd (blockP st bl) 5) (rd (blockP st bl) 6) (rd (blockP st bl) 7)
                  rw [list8 _ HBL8.out] at hout
                  refine bodyPost_ret (v := .agg (nums .u32 (blockP st bl)).toArray) ?_ ?_ ?_
                  · exact results_c rfl _ _ (w.heap.size + 1 + 1 + 1) 104 _ (0, 0) _ rfl hout Tryd.underlying104 rfl (by rw [size_st]; simp [nums, HBL8.out])
                  · rfl
                  · exact ⟨rfl, below8 (HI3.out.2.2.2.2.2.1.trans (HB3.out.1.mono HI3.out.2.2.2.2.2.1.size)) (by omega) _ _ _ _ _ _ _ _⟩

end Go.Proofs.YtogimlinfkbapaaDoor.HShaR
