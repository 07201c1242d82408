/- The law's count and marked; the reference's Clone. -/
import Derived.Test.YtikgngcdgejgjaaDoorUED
import Derived.Test.YtikgngcdgejgjaaDoorUEC
import Derived.Test.YtikgngcdgejgjaaDoorUOO
import Derived.Test.YtikgngcdgejgjaaDoorUPM
namespace Go.Proofs.YtikgngcdgejgjaaDoor.HExMk
open Go.RowKit Go.Proofs.YtikgngcdgejgjaaDoorW.PrintWords Go.Proofs.YtikgngcdgejgjaaDoorW.PrintMore Go.Proofs.YtikgngcdgejgjaaDoor.HLib Go.Proofs.YtikgngcdgejgjaaDoor.HGr Go.Proofs.YtikgngcdgejgjaaDoor.HPr Go.Proofs.YtikgngcdgejgjaaDoor.HPe Go.Proofs.YtikgngcdgejgjaaDoor.HPf Go.Proofs.YtikgngcdgejgjaaDoor.HPm Go.Proofs.YtikgngcdgejgjaaDoor.HExP Go.Proofs.YtikgngcdgejgjaaDoor.HExR Go.Proofs.YtikgngcdgejgjaaDoor.HExQ Go.Proofs.YtikgngcdgejgjaaDoor.HExL Go.Proofs.YtikgngcdgejgjaaDoor.HExF Go.Proofs.YtikgngcdgejgjaaDoor.HExLc Go.Proofs.YtikgngcdgejgjaaDoor.HExM Go.Proofs.YtikgngcdgejgjaaDoor.HExN Go.Proofs.YtikgngcdgejgjaaDoor.HExLv
open Go.Proofs.YtikgngcdgejgjaaDoor.PExprMatchesReference
set_option linter.unusedVariables false
set_option linter.unusedSimpArgs false
/-- What count makes of a part. -/
def countF (y : Ex) : Ex := if 0 < y.f3.length then ⟨y.f0, y.f1, y.f2 ++ ⟨#[120]⟩, y.f3⟩ else ⟨wrap64 (y.f0 + 10), y.f1, y.f2, y.f3⟩
theorem countF_kids (y : Ex) : (countF y).f3 = y.f3 := by unfold countF; split <;> rfl
set_option maxRecDepth 100000 in
set_option maxHeartbeats 8000000 in
theorem count_any (y : Ex) (A : Option Addr) (c : Nat) (w : World) (hs : y.f2.size ≤ 100000) : Calls Tryd.prog 23 #[.agg #[.int .i64 y.f0, .string y.f1, .string y.f2, .slice A y.f3.length c]] w fun e w' =>
    e = .returned (.agg #[.int .i64 (countF y).f0, .string (countF y).f1, .string (countF y).f2, .slice A y.f3.length c]) ∧ Below w.heap.size w w' := by
  obtain ⟨W, hW, hgw, hsz, hx, hz⟩ := two_blocks w (.int .i64 y.f0) (.string y.f1) (.string y.f2) (.slice A y.f3.length c) 24 (.int .i64 0) (.string ⟨#[]⟩) (.string ⟨#[]⟩) (.slice none 0 0)
  have HBW := Aside0.mk hgw.below
  obtain ⟨n, hn⟩ : ∃ n, n = y.f3.length := ⟨_, rfl⟩
  obtain ⟨gb, hgb⟩ : ∃ g, g = w.heap.size := ⟨_, rfl⟩
  have HGB := Aside0.mk hgb
  rw [← hgb] at hx hz
  have hwr : w.heap.size ≤ gb + 1 := by omega
  have hwb : w.heap.size ≤ gb := by omega
  by_cases c0 : 0 < y.f3.length
  · have f0 : (countF y).f0 = y.f0 := by unfold countF; rw [if_pos c0]
    have f1 : (countF y).f1 = y.f1 := by unfold countF; rw [if_pos c0]
    have f2 : (countF y).f2 = y.f2 ++ ⟨#[120]⟩ := by unfold countF; rw [if_pos c0]
    rw [f0, f1, f2]
    rw [← hn] at hx hW c0 ⊢
    have HX := Aside0.mk hx
    have HZ := Aside0.mk hz
    have c1 : (0 : Int) < (n : Int) := by omega
    have c2 : decide ((0 : Int) < (n : Int)) = true := decide_eq_true c1
    obtain ⟨q0, q1, q2, q3⟩ := cells4 hx
    have e2 := blk_frozen hx 2
    have hsp : y.f2.size + 1 ≤ 9223372036854775807 := by omega
    have hsp2 : y.f2.size + (⟨#[120]⟩ : ByteArray).size ≤ 9223372036854775807 := by show y.f2.size + 1 ≤ _; omega
    have hsp3 : ¬ 9223372036854775807 < y.f2.size + (⟨#[120]⟩ : ByteArray).size := by omega
    obtain ⟨X1, hX1⟩ : ∃ X, X = W.setCell ⟨gb, 2, none⟩ (.string (y.f2 ++ ⟨#[120]⟩)) := ⟨_, rfl⟩
    have HB1 := Aside0.mk (show Below w.heap.size w X1 from by rw [hX1]; exact HBW.out.setCell (p := ⟨gb, 2, none⟩) hwb _)
    have hk1 : X1.heap[gb]? = some (.cells #[.int .i64 y.f0, .string y.f1, .string (y.f2 ++ ⟨#[120]⟩), .slice A n c] 24 (0, 0)) := by rw [hX1]; exact blk_put hx 2 _ rfl
    have hz1 : X1.heap[gb + 1]? = some (.cells #[.int .i64 0, .string ⟨#[]⟩, .string ⟨#[]⟩, .slice none 0 0] 24 (0, 0)) := by rw [hX1]; exact blk_far hz (by show gb + 1 ≠ gb; omega) _
    have HZ1 := Aside0.mk hz1
    obtain ⟨d0, d1, d2, d3⟩ := cells4 hk1
    have g0 := blk_frozen hz1 0
    have g1 := blk_frozen hz1 1
    have g2 := blk_frozen hz1 2
    have g3 := blk_frozen hz1 3
    obtain ⟨b0, b1, b2, b3⟩ := cells4 hz1
    clear f0 f1 f2 hgw hsz hx hz hn hk1 hz1 c0 hwb hsp
    go_enter Tryd.func23, Tryd.ntmps23
    go_upto_region 1 with fail
    rw [← hW, ← hgb]
    clear hW hgb
    go_upto_region 4 with fail
    rw [← hX1]
    clear hX1 q0 q1 q2 q3 e2
    go_wp2
    refine bodyPost_ret (results_cell_row rfl _ _ (gb + 1) 24 #[.int .i64 y.f0, .string y.f1, .string (y.f2 ++ ⟨#[120]⟩), .slice A n c] (0, 0) _ rfl ?blk Tryd.underlying24 rfl (by kernel_rfl)) rfl ?_
    case blk =>
      refine blk_put (cs := #[.int .i64 y.f0, .string y.f1, .string (y.f2 ++ ⟨#[120]⟩), .slice none 0 0]) ?_ 3 _ rfl
      refine blk_put (cs := #[.int .i64 y.f0, .string y.f1, .string ⟨#[]⟩, .slice none 0 0]) ?_ 2 _ rfl
      refine blk_put (cs := #[.int .i64 y.f0, .string ⟨#[]⟩, .string ⟨#[]⟩, .slice none 0 0]) ?_ 1 _ rfl
      refine blk_put (cs := #[.int .i64 0, .string ⟨#[]⟩, .string ⟨#[]⟩, .slice none 0 0]) ?_ 0 _ rfl
      exact HZ1.out
    exact ⟨rfl, (((HB1.out.setCell (p := ⟨gb + 1, 0, none⟩) hwr _).setCell (p := ⟨gb + 1, 1, none⟩) hwr _).setCell (p := ⟨gb + 1, 2, none⟩) hwr _).setCell (p := ⟨gb + 1, 3, none⟩) hwr _⟩
  · have f0 : (countF y).f0 = wrap64 (y.f0 + 10) := by unfold countF; rw [if_neg c0]
    have f1 : (countF y).f1 = y.f1 := by unfold countF; rw [if_neg c0]
    have f2 : (countF y).f2 = y.f2 := by unfold countF; rw [if_neg c0]
    rw [f0, f1, f2]
    rw [← hn] at hx hW c0 ⊢
    have HX := Aside0.mk hx
    have HZ := Aside0.mk hz
    have c1 : ¬ (0 : Int) < (n : Int) := by omega
    have c2 : decide ((0 : Int) < (n : Int)) = false := decide_eq_false c1
    obtain ⟨q0, q1, q2, q3⟩ := cells4 hx
    have e2 := blk_frozen hx 0
    have hwrap : IntKind.i64.wrap (y.f0 + 10) = wrap64 (y.f0 + 10) := by first | rfl | (rw [IntKind.wrap_i64]; first | rfl | (unfold wrap64; rfl))
    obtain ⟨v, hv⟩ : ∃ v, v = wrap64 (y.f0 + 10) := ⟨_, rfl⟩
    rw [← hv] at hwrap ⊢
    obtain ⟨X1, hX1⟩ : ∃ X, X = W.setCell ⟨gb, 0, none⟩ (.int .i64 v) := ⟨_, rfl⟩
    have HB1 := Aside0.mk (show Below w.heap.size w X1 from by rw [hX1]; exact HBW.out.setCell (p := ⟨gb, 0, none⟩) hwb _)
    have hk1 : X1.heap[gb]? = some (.cells #[.int .i64 v, .string y.f1, .string y.f2, .slice A n c] 24 (0, 0)) := by rw [hX1]; exact blk_put hx 0 _ rfl
    have hz1 : X1.heap[gb + 1]? = some (.cells #[.int .i64 0, .string ⟨#[]⟩, .string ⟨#[]⟩, .slice none 0 0] 24 (0, 0)) := by rw [hX1]; exact blk_far hz (by show gb + 1 ≠ gb; omega) _
    have HZ1 := Aside0.mk hz1
    obtain ⟨d0, d1, d2, d3⟩ := cells4 hk1
    have g0 := blk_frozen hz1 0
    have g1 := blk_frozen hz1 1
    have g2 := blk_frozen hz1 2
    have g3 := blk_frozen hz1 3
    obtain ⟨b0, b1, b2, b3⟩ := cells4 hz1
    clear f0 f1 f2 hgw hsz hx hz hn hk1 hz1 c0 hwb hv
    go_enter Tryd.func23, Tryd.ntmps23
    go_upto_region 1 with fail
    rw [← hW, ← hgb]
    clear hW hgb
    go_upto_region 4 with fail
    rw [← hX1]
    clear hX1 q0 q1 q2 q3 e2
    go_wp2
    refine bodyPost_ret (results_cell_row rfl _ _ (gb + 1) 24 #[.int .i64 v, .string y.f1, .string y.f2, .slice A n c] (0, 0) _ rfl ?blk Tryd.underlying24 rfl (by kernel_rfl)) rfl ?_
    case blk =>
      refine blk_put (cs := #[.int .i64 v, .string y.f1, .string y.f2, .slice none 0 0]) ?_ 3 _ rfl
      refine blk_put (cs := #[.int .i64 v, .string y.f1, .string ⟨#[]⟩, .slice none 0 0]) ?_ 2 _ rfl
      refine blk_put (cs := #[.int .i64 v, .string ⟨#[]⟩, .string ⟨#[]⟩, .slice none 0 0]) ?_ 1 _ rfl
      refine blk_put (cs := #[.int .i64 0, .string ⟨#[]⟩, .string ⟨#[]⟩, .slice none 0 0]) ?_ 0 _ rfl
      exact HZ1.out
    exact ⟨rfl, (((HB1.out.setCell (p := ⟨gb + 1, 0, none⟩) hwr _).setCell (p := ⟨gb + 1, 1, none⟩) hwr _).setCell (p := ⟨gb + 1, 2, none⟩) hwr _).setCell (p := ⟨gb + 1, 3, none⟩) hwr _⟩
theorem count_F : MapF 23 countF := ⟨countF_kids, fun y A c w h _ => count_any y A c w h⟩
def tup (x : Ex) : Int × ByteArray × ByteArray × List Ex := (x.f0, x.f1, x.f2, x.f3)
theorem count_ev (y : Ex) (h : y.f2.size ≤ 100000) : vestrylaw10_count.f y.f0 y.f1 y.f2 y.f3 = some (tup (countF y)) := by
  unfold vestrylaw10_count.f countF tup
  by_cases c0 : 0 < y.f3.length
  · rw [if_pos (by omega), if_pos (by omega), if_pos c0]
  · rw [if_neg (by omega), if_neg c0]
theorem marked_ev : (∀ x : Ex, nodE x ≤ 1000000 → strE 100000 x → Ev (fun k => vestrylaw10_marked.f k x.f0 x.f1 x.f2 x.f3) (tup (mapE countF x))) ∧
    ∀ ks : List Ex, ∀ (pre : List Ex) (a : Int) (b c : ByteArray), pre.length + nodL ks ≤ 1000000 → strL 100000 ks → c.size ≤ 100000 → Ev (fun k => vestrylaw10_marked.l0 k pre.length a b c (pre ++ ks)) (tup (countF ⟨a, b, c, pre ++ mapX countF ks⟩)) := by
  refine ex_ind (p := fun x => nodE x ≤ 1000000 → strE 100000 x → Ev (fun k => vestrylaw10_marked.f k x.f0 x.f1 x.f2 x.f3) (tup (mapE countF x)))
    (q := fun ks => ∀ (pre : List Ex) (a : Int) (b c : ByteArray), pre.length + nodL ks ≤ 1000000 → strL 100000 ks → c.size ≤ 100000 → Ev (fun k => vestrylaw10_marked.l0 k pre.length a b c (pre ++ ks)) (tup (countF ⟨a, b, c, pre ++ mapX countF ks⟩))) ?_ ?_ ?_
  · intro pre a b c h1 hs hc
    refine evAt (Ev.now _) fun k => ?_
    rw [vestrylaw10_marked.l0, List.append_nil, if_neg (by omega), mapX, List.append_nil, count_ev ⟨a, b, c, pre⟩ hc]
    rfl
  · intro x xs ihx ihs pre a b c h1 hs hc
    rw [nodL] at h1
    rw [strL] at hs
    have hn := nod_pos x
    have h5 := ihs (pre ++ [mapE countF x]) a b c (by rw [List.length_append, List.length_singleton]; omega) hs.2 hc
    rw [← app_next, ← app_next, List.length_append, List.length_singleton] at h5
    rw [mapX]
    refine evAt (Ev.bind (ihx (by omega) hs.1) (f := fun k t => vestrylaw10_marked.l0 k (wrap64 ((pre.length : Int) + 1)) a b c ((pre ++ x :: xs).set (pre.length : Int).toNat ⟨t.1, t.2.1, t.2.2.1, t.2.2.2⟩)) ?_) fun k => ?_
    · refine Ev.congr (fun k => ?_) h5
      rw [next_ (by omega)]
      show vestrylaw10_marked.l0 k _ a b c ((pre ++ x :: xs).set (pre.length : Int).toNat ⟨(mapE countF x).f0, (mapE countF x).f1, (mapE countF x).f2, (mapE countF x).f3⟩) = _
      rw [mk_eta, Int.toNat_natCast, List.set_append_right _ _ (Nat.le_refl _), Nat.sub_self, List.set_cons_zero]
    · rw [vestrylaw10_marked.l0, if_pos (by rw [len_app]; omega), if_pos (by omega), rd_app]
  · intro x ih h hs
    rw [nod_eq] at h
    rw [str_eq] at hs
    have h2 := ih [] x.f0 x.f1 x.f2 (by simp; omega) hs.2 hs.1.2
    rw [map_eq]
    refine evAt (Ev.bind (clone_ev.1 x (by rw [nod_eq]; omega)) (f := fun k t => vestrylaw10_marked.l0 k 0 t.1 t.2.1 t.2.2.1 t.2.2.2) (Ev.congr (fun k => rfl) h2)) fun k => ?_
    rw [vestrylaw10_marked.f]
theorem marked_any (x : Ex) (A : Option Addr) (c : Nat) (w : World) (hx : nodE x ≤ 1000000) (hs : strE 100000 x) (hR : Rd w A c x) : Calls Tryd.prog 25 #[.agg #[.int .i64 x.f0, .string x.f1, .string x.f2, .slice A x.f3.length c]] w fun e w' =>
    ∃ B d, e = .returned (.agg #[.int .i64 (mapE countF x).f0, .string (mapE countF x).f1, .string (mapE countF x).f2, .slice B (mapE countF x).f3.length d]) ∧ Rd w' B d (mapE countF x) ∧ Below w.heap.size w w' := by
  obtain ⟨k, hk⟩ := (marked_ev.1 x hx hs).rounds
  refine (vestrylaw10_marked.calls k x.f0 x.f1 x.f2 (fun _ => True) A c x.f3 _ _ _ _ w (foot_V hR) hk).mono ?_
  rintro e w' ⟨v3, rfl, hv, hb⟩
  obtain ⟨B, d, rfl⟩ := Kd.V_slice hv
  exact ⟨B, d, rfl, ⟨(Kd.V_reads' hv).2.2, (Kd.V_reads' hv).2.1⟩, hb⟩
theorem rclone_any (x : Ex) (A : Option Addr) (c : Nat) (w : World) (hx : nodE x ≤ 1000000) (hR : Rd w A c x) : Calls Tryd.prog 21 #[.agg #[.int .i64 x.f0, .string x.f1, .string x.f2, .slice A x.f3.length c]] w fun e w' =>
    ∃ B d, e = .returned (.agg #[.int .i64 x.f0, .string x.f1, .string x.f2, .slice B x.f3.length d]) ∧ Kd.R kE 24 w' w.heap.size (fun _ => True) (.slice B x.f3.length d) x.f3 ∧ Below w.heap.size w w' := by
  obtain ⟨k, hk⟩ := (clone_ev.1 x hx).rounds
  refine (vestryref10_Clone.calls k x.f0 x.f1 x.f2 A c x.f3 _ _ _ _ w hR.1 hR.2 hk).mono ?_
  rintro e w' ⟨v3, rfl, hv, hb⟩
  obtain ⟨B, d, rfl⟩ := Kd.R_slice hv
  exact ⟨B, d, rfl, hv, hb⟩
theorem mapX_nod (F : Ex → Ex) (hF : ∀ y, (F y).f3 = y.f3) : (∀ x : Ex, nodE (mapE F x) = nodE x) ∧ ∀ ks : List Ex, nodL (mapX F ks) = nodL ks := by
  refine ex_ind (p := fun x => nodE (mapE F x) = nodE x) (q := fun ks => nodL (mapX F ks) = nodL ks) (by rw [mapX]) ?_ ?_
  · intro x xs h1 h2
    rw [mapX, nodL, nodL, h1, h2]
  · intro x h
    rw [map_eq, nod_eq, hF, nod_eq]
    show nodL (mapX F x.f3) + 1 = _
    rw [h]
theorem map_str {m : Nat} : (∀ x : Ex, strE m x → strE (m + 1) (mapE countF x)) ∧ ∀ ks : List Ex, strL m ks → strL (m + 1) (mapX countF ks) := by
  refine ex_ind (p := fun x => strE m x → strE (m + 1) (mapE countF x)) (q := fun ks => strL m ks → strL (m + 1) (mapX countF ks)) (fun _ => by rw [mapX, strL]; trivial) ?_ ?_
  · intro x xs h1 h2 hs
    rw [strL] at hs
    rw [mapX, strL]
    exact ⟨h1 hs.1, h2 hs.2⟩
  · intro x h hs
    rw [str_eq] at hs
    rw [map_eq, str_eq, countF_kids]
    refine ⟨?_, h hs.2⟩
    unfold countF
    split
    · refine ⟨by show x.f1.size ≤ m + 1; omega, ?_⟩
      show (x.f2 ++ ⟨#[120]⟩ : ByteArray).size ≤ m + 1
      rw [ByteArray.size_append]
      show x.f2.size + 1 ≤ m + 1
      omega
    · exact ⟨by show x.f1.size ≤ m + 1; omega, by show x.f2.size ≤ m + 1; omega⟩
end Go.Proofs.YtikgngcdgejgjaaDoor.HExMk
/- The law's change: it turns whole numbers into whole numbers, in the rows of the expression that comes in. -/
namespace Go.Proofs.YtikgngcdgejgjaaDoor.HExH
open Go.RowKit Go.Proofs.YtikgngcdgejgjaaDoorW.PrintWords Go.Proofs.YtikgngcdgejgjaaDoor.HLib Go.Proofs.YtikgngcdgejgjaaDoor.HGr Go.Proofs.YtikgngcdgejgjaaDoor.HExP Go.Proofs.YtikgngcdgejgjaaDoor.HExR Go.Proofs.YtikgngcdgejgjaaDoor.HExQ Go.Proofs.YtikgngcdgejgjaaDoor.HExL Go.Proofs.YtikgngcdgejgjaaDoor.HExF Go.Proofs.YtikgngcdgejgjaaDoor.HExN
open Go.Proofs.YtikgngcdgejgjaaDoor.PExprMatchesReference
set_option linter.unusedVariables false
set_option linter.unusedSimpArgs false
/-- Between lo and hi whole numbers may have changed; all else stays. -/
structure IC (lo hi : Nat) (W W' : World) : Prop where
  below : Below lo W W'
  high : ∀ k, hi ≤ k → k < W.heap.size → W'.heap[k]? = W.heap[k]?
  cell : ∀ a v, W.cell? a = some v → (∀ z, v ≠ .int .i64 z) → W'.cell? a = some v
  int : ∀ a z, W.cell? a = some (.int .i64 z) → ∃ z', W'.cell? a = some (.int .i64 z')
  frozen : ∀ a, a.block < W.heap.size → W.frozen? a = false → W'.frozen? a = false
theorem IC.refl (lo hi : Nat) (W : World) : IC lo hi W W := ⟨Below.refl _ _, fun _ _ _ => rfl, fun _ _ h _ => h, fun _ z h => ⟨z, h⟩, fun _ _ h => h⟩
theorem IC.trans {lo hi : Nat} {A B C : World} (h : IC lo hi A B) (k : IC lo hi B C) : IC lo hi A C where
  below := h.below.trans k.below
  high q h1 h2 := (k.high q h1 (Nat.lt_of_lt_of_le h2 h.below.size)).trans (h.high q h1 h2)
  cell a v h1 h2 := k.cell a v (h.cell a v h1 h2) h2
  int a z h1 := by obtain ⟨z', h2⟩ := h.int a z h1; exact k.int a z' h2
  frozen a h1 h2 := k.frozen a (Nat.lt_of_lt_of_le h1 h.below.size) (h.frozen a h1 h2)
theorem IC.of_below {lo hi : Nat} {W W' : World} (hl : lo ≤ W.heap.size) (h : Below W.heap.size W W') : IC lo hi W W' where
  below := h.mono hl
  high k _ hk := h.block k hk
  cell a v h1 _ := (h.cell (p := a) (cell_lt h1)).trans h1
  int a z h1 := ⟨z, (h.cell (p := a) (cell_lt h1)).trans h1⟩
  frozen a h1 h2 := (h.frozen (p := a) h1).trans h2
theorem IC.store {lo hi : Nat} {W : World} {p : Addr} {z : Int} (hc : W.cell? p = some (.int .i64 z)) (h1 : lo ≤ p.block) (h2 : p.block < hi) (y : Int) : IC lo hi W (W.setCell p (.int .i64 y)) where
  below := (Below.refl lo W).setCell (p := p) h1 _
  high k hk _ := Below.heap_setCell W p _ k (fun e => by omega)
  cell a v ha hv := by
    have hne : p ≠ a := fun e => by subst e; rw [hc] at ha; injection ha with ha; exact hv z ha.symm
    exact (World.cell?_setCell_other W p a _ hne).trans ha
  int a q ha := by
    by_cases e : p = a
    · subst e; exact ⟨y, World.cell?_setCell_same W p _ hc⟩
    · exact ⟨q, (World.cell?_setCell_other W p a _ e).trans ha⟩
  frozen a _ h := by rw [World.frozen?_setCell]; exact h
/-- The shape of kids in rows between lo and hi, whatever their kinds. -/
def Sh (lo hi : Nat) (W : World) : Nat → Value → List Ex → Prop
  | 0, _, _ => False
  | m + 1, v, ks => ∃ A c, v = .slice A ks.length c ∧ ∀ (j : Nat) (hj : j < ks.length), ∃ g, A = some ⟨g, 0, none⟩ ∧ lo ≤ g ∧ g < hi ∧ ∃ z s1 s2 v3, W.cell? ⟨g, j * 4, none⟩ = some (.int .i64 z) ∧ W.cell? ⟨g, j * 4 + 1, none⟩ = some (.string s1) ∧ W.cell? ⟨g, j * 4 + 2, none⟩ = some (.string s2) ∧ W.cell? ⟨g, j * 4 + 3, none⟩ = some v3 ∧ W.frozen? ⟨g, j * 4, none⟩ = false ∧ Sh lo hi W m v3 ks[j].f3
theorem sh_slice {lo hi : Nat} {W : World} {m : Nat} {v : Value} {ks : List Ex} (h : Sh lo hi W m v ks) : ∃ A c, v = .slice A ks.length c := by
  cases m with
  | zero => exact h.elim
  | succ m => obtain ⟨A, c, h, _⟩ := h; exact ⟨A, c, h⟩
theorem sh_ic {lo hi : Nat} {W W' : World} (h : IC lo hi W W') : ∀ (m : Nat) (v : Value) (ks : List Ex), Sh lo hi W m v ks → Sh lo hi W' m v ks := by
  intro m
  induction m with
  | zero => exact fun _ _ h => h
  | succ m ih =>
    rintro v ks ⟨A, c, hv, hk⟩
    refine ⟨A, c, hv, fun j hj => ?_⟩
    obtain ⟨g, h1, h2, h3, z, s1, s2, v3, h4, h5, h6, h7, h8, h9⟩ := hk j hj
    obtain ⟨z', h10⟩ := h.int _ _ h4
    obtain ⟨A3, c3, e3⟩ := sh_slice h9
    exact ⟨g, h1, h2, h3, z', s1, s2, v3, h10, h.cell _ _ h5 (fun _ => by simp), h.cell _ _ h6 (fun _ => by simp), h.cell _ _ h7 (fun _ => by rw [e3]; simp), h.frozen _ (cell_lt h4) h8, ih v3 _ h9⟩
theorem sh_made {lo hi : Nat} {W : World} {base : Nat} {ok : Nat → Prop} (hok : ∀ k, ok k → lo ≤ k ∧ k < hi) : ∀ (m : Nat) (v : Value) (ks : List Ex), nodL ks < m → Kd.R kE 24 W base ok v ks → Sh lo hi W m v ks := by
  intro m
  induction m generalizing ok with
  | zero => intro _ _ h; omega
  | succ m ih =>
    intro v ks hm hR
    obtain ⟨A, c, rfl⟩ := Kd.R_slice hR
    refine ⟨A, c, rfl, fun j hj => ?_⟩
    obtain ⟨g, cap, e, hb, hg, _⟩ := Kd.R_form hR (by omega)
    injection e with e1 e2 e3
    subst e1
    have hg2 := hok g (hR.1 g (by simp [Value.ownBlock]))
    obtain ⟨cs, hcl, hM, hcell, hfr⟩ := Kd.R_elem hR ks[j] (j : Int) (by omega) (by omega)
    rw [Int.toNat_natCast] at hM hcell hfr
    rw [List.getD_eq_getElem?_getD, List.getElem?_eq_getElem hj, Option.getD_some] at hM
    obtain ⟨v3, rfl, g3⟩ := k24_openM hM
    have hn : nodL ks[j].f3 < m := by have := nod_mem (List.getElem_mem hj); rw [nod_eq] at this; omega
    have h0 : (g, j * kE.sz) = (g, j * 4) := rfl
    exact ⟨g, rfl, hg2.1, hg2.2, _, _, _, v3, hcell 0 _ rfl, hcell 1 _ rfl, hcell 2 _ rfl, hcell 3 _ rfl, hfr 0, ih (ok := fun k => ok k ∧ k ≠ g) (fun k hk => hok k hk.1) v3 _ hn g3⟩
set_option maxRecDepth 100000 in
set_option maxHeartbeats 8000000 in
theorem change_any (lo hi : Nat) : ∀ (m : Nat) (ks : List Ex), nodL ks < m → m ≤ 1000000 → ∀ (A : Option Addr) (c : Nat) (z : Int) (s1 s2 : ByteArray) (w : World), lo ≤ hi → hi ≤ w.heap.size → Sh lo hi w m (.slice A ks.length c) ks →
    Calls Tryd.prog 26 #[.agg #[.int .i64 z, .string s1, .string s2, .slice A ks.length c]] w fun e w' => e = .returned (.tuple #[]) ∧ IC lo hi w w' := by
  intro m
  induction m with
  | zero => intro ks h; omega
  | succ m ih =>
    intro ks hm hm2 A c z s1 s2 w hlh hw hS
    have hlen : ks.length ≤ 1000000 := by have := len_nod ks; omega
    obtain ⟨W, hW⟩ : ∃ W, W = w.alloc (.cells #[.int .i64 z, .string s1, .string s2, .slice A ks.length c] 24) := ⟨_, rfl⟩
    have hb : Below w.heap.size w W := by rw [hW]; exact below_alloc (B0 w) _
    have hk : W.heap[w.heap.size]? = some (.cells #[.int .i64 z, .string s1, .string s2, .slice A ks.length c] 24 (0, 0)) := by rw [hW]; exact blk_new w _
    have hsz : W.heap.size = w.heap.size + 1 := by rw [hW]; exact World.size_alloc _ _
    have HI := Aside0.mk (IC.of_below (lo := lo) (hi := hi) (by omega) hb)
    have HS := Aside0.mk (sh_ic HI.out _ _ _ hS)
    obtain ⟨gb, hgb⟩ : ∃ g, g = w.heap.size := ⟨_, rfl⟩
    have HGB := Aside0.mk (And.intro hgb hsz)
    rw [← hgb] at hk
    have HL := Aside0.mk (And.intro hlen (And.intro hlh hw))
    have HBX := Aside0.mk (show ∀ W', IC lo hi W W' → W'.heap[gb]? = some (.cells #[.int .i64 z, .string s1, .string s2, .slice A ks.length c] 24 (0, 0)) from fun W' h => (h.high gb (by omega) (by omega)).trans hk)
    have HKID := Aside0.mk (show ∀ (j : Nat) (hj : j < ks.length) (B : Option Addr) (d : Nat) (z' : Int) (t1 t2 : ByteArray) (W' : World), hi ≤ W'.heap.size → Sh lo hi W' m (.slice B ks[j].f3.length d) ks[j].f3 →
        Calls Tryd.prog 26 #[.agg #[.int .i64 z', .string t1, .string t2, .slice B ks[j].f3.length d]] W' fun e w' => e = .returned (.tuple #[]) ∧ IC lo hi W' w' from fun j hj B d z' t1 t2 W' h1 h2 => by
      have hn : nodL ks[j].f3 < m := by have := nod_mem (List.getElem_mem hj); rw [nod_eq] at this; omega
      exact ih _ hn (by omega) B d z' t1 t2 W' hlh h1 h2)
    obtain ⟨n, hn⟩ : ∃ n, n = ks.length := ⟨_, rfl⟩
    have HN := Aside0.mk hn
    rw [← hn] at HBX HS hW
    rw [← hn]
    obtain ⟨q0, q1, q2, q3⟩ := cells4 (HBX.out W (IC.refl _ _ _))
    clear ih hb hk hsz hS hlen hm hm2 hn hlh hw
    go_enter Tryd.func26, Tryd.ntmps26
    go_upto_region 1 with fail
    rw [← hW, ← hgb]
    clear hW hgb
    go_wp2
    go_loopg [2] n (fun kq v2 w' => ∃ (j : Nat), v2 = .int .i64 j ∧ Aside0 (kq + j = n) ∧ Aside0 (IC lo hi W w'))
    case atStart => exact ⟨0, rfl, ⟨by omega⟩, ⟨IC.refl _ _ _⟩⟩
    case round =>
      obtain ⟨j, rfl, HJ, HI1⟩ := hrel
      obtain ⟨x0, x1, x2, x3⟩ := cells4 (HBX.out wr HI1.out)
      by_cases cj : j < n
      · have f3 : (j : Int) < (n : Int) := by omega
        have f1 : decide ((j : Int) < (n : Int)) = true := decide_eq_true f3
        have f5 : (0 : Int) ≤ (j : Int) := by omega
        have f4 : IntKind.i64.wrap ((j : Int) + 1) = (j : Int) + 1 := by rw [IntKind.wrap_i64]; have := HL.out; have := HN.out; omega
        have hj : j < ks.length := by have := HN.out; omega
        obtain ⟨A', c', hv, hk⟩ := sh_ic HI1.out _ _ _ HS.out
        injection hv with e1 e2 e3
        subst e1
        obtain ⟨g, h1, h2, h3, z', t1, t2, v3, a0, a1, a2, a3, af, hsh⟩ := hk j hj
        subst h1
        obtain ⟨B, d, e4⟩ := sh_slice hsh
        subst e4
        have HMP := Aside0.mk (HKID.out j hj B d z' t1 t2 wr (by have := HI1.out.below.size; have := HL.out; have := HGB.out; omega) hsh)
        have HGG := Aside0.mk (And.intro h2 h3)
        have HNX := Aside0.mk (show ∀ W2, IC lo hi wr W2 → ∃ q, (W2.cell? ⟨g, j * 4, none⟩ = some (.int .i64 q) ∧ W2.frozen? ⟨g, j * 4, none⟩ = false) ∧ (W2.cell? ⟨gb, 0, none⟩ = some (.int .i64 z) ∧ W2.cell? ⟨gb, 1, none⟩ = some (.string s1) ∧ W2.cell? ⟨gb, 2, none⟩ = some (.string s2) ∧ W2.cell? ⟨gb, 3, none⟩ = some (.slice (some ⟨g, 0, none⟩) n c)) ∧ IC lo hi W (W2.setCell ⟨g, j * 4, none⟩ (.int .i64 99)) from fun W2 h => by
          obtain ⟨q, hq⟩ := h.int _ _ a0
          exact ⟨q, ⟨hq, h.frozen _ (cell_lt a0) af⟩, cells4 (HBX.out W2 (HI1.out.trans h)), (HI1.out.trans h).trans (IC.store hq HGG.out.1 HGG.out.2 99)⟩)
        obtain ⟨nk, hnk⟩ : ∃ n, n = ks[j].f3.length := ⟨_, rfl⟩
        rw [← hnk] at HMP a3
        clear hnk hj hk hsh h2 h3 e2 e3
        go_wp2_with ((refine (HMP.out).mono ?_; clear HMP; rintro e W2 ⟨rfl, h2⟩; obtain ⟨q, ⟨b0, bf⟩, ⟨y0, y1, y2, y3⟩, hend⟩ := HNX.out W2 h2; have HEND := Aside0.mk hend; clear h2 hend HNX a0 a1 a2 a3 af x0 x1 x2 x3))
        go_roundg (n - (j + 1))
        case measure => have := HJ.out; omega
        case rel => exact ⟨j + 1, by first | rfl | go_num, ⟨by have := HJ.out; omega⟩, ⟨HEND.out⟩⟩
      · obtain rfl : j = n := by have := HJ.out; omega
        have f3 : ¬ (j : Int) < (j : Int) := by omega
        go_wp2
        go_end0
        exact ⟨rfl, HI.out.trans HI1.out⟩
end Go.Proofs.YtikgngcdgejgjaaDoor.HExH
