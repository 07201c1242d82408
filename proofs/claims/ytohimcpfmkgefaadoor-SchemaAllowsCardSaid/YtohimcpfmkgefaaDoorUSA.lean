/- The schema of awake: what is found in it: walked in place, callees and loops too. -/
import Derived.Test.YtohimcpfmkgefaaDoorUEC
import Derived.Test.YtohimcpfmkgefaaDoorUN
import Derived.Test.YtohimcpfmkgefaaDoorUOO
import Derived.Handy
import Derived.Test.YtohimcpfmkgefaaDoorUV1
import Derived.Test.YtohimcpfmkgefaaDoorUEB
namespace Go.Proofs.YtohimcpfmkgefaaDoor.HSc1
open Go.RowKit Go.Proofs.YtohimcpfmkgefaaDoorW.PrintWords Go.Proofs.YtohimcpfmkgefaaDoor.HLib Go.Proofs.YtohimcpfmkgefaaDoor.HGr Go.Proofs.YtohimcpfmkgefaaDoor.HNameP Go.Proofs.YtohimcpfmkgefaaDoor.HName Go.Proofs.YtohimcpfmkgefaaDoor.HExP Go.Proofs.YtohimcpfmkgefaaDoor.HExL Go.Proofs.YtohimcpfmkgefaaDoor.HExF Go.Proofs.YtohimcpfmkgefaaDoor.HExN Go.Proofs.YtohimcpfmkgefaaDoor.HExO
open Go.Proofs.YtohimcpfmkgefaaDoor.PSchemaAllows
set_option linter.unusedVariables false
set_option linter.unusedSimpArgs false
/-- A row with a definition, one with a member, one with a type (or none). -/
structure Sc (w : World) (gd gm : Nat) (ts : Value) : Prop where
  d0 : w.cell? ⟨gd, 0, none⟩ = some (.string ⟨#[100]⟩)
  d1 : w.cell? ⟨gd, 1, none⟩ = some (.slice (some ⟨gm, 0, none⟩) 1 1)
  m0 : w.cell? ⟨gm, 0, none⟩ = some (.string ⟨#[97]⟩)
  m1 : w.cell? ⟨gm, 1, none⟩ = some (.int .i64 1)
  m2 : w.cell? ⟨gm, 2, none⟩ = some ts
  m3 : w.cell? ⟨gm, 3, none⟩ = some (.int .i64 0)
  m4 : w.cell? ⟨gm, 4, none⟩ = some (.string ⟨#[]⟩)
  m5 : w.cell? ⟨gm, 5, none⟩ = some (.string ⟨#[]⟩)
  m6 : w.cell? ⟨gm, 6, none⟩ = some (.slice none 0 0)
theorem Sc.below {w w' : World} {gd gm : Nat} {ts : Value} (h : Sc w gd gm ts) (hb : Below w.heap.size w w') : Sc w' gd gm ts where
  d0 := (hb.cell (p := ⟨gd, 0, none⟩) (cell_lt h.d0)).trans h.d0
  d1 := (hb.cell (p := ⟨gd, 1, none⟩) (cell_lt h.d1)).trans h.d1
  m0 := (hb.cell (p := ⟨gm, 0, none⟩) (cell_lt h.m0)).trans h.m0
  m1 := (hb.cell (p := ⟨gm, 1, none⟩) (cell_lt h.m1)).trans h.m1
  m2 := (hb.cell (p := ⟨gm, 2, none⟩) (cell_lt h.m2)).trans h.m2
  m3 := (hb.cell (p := ⟨gm, 3, none⟩) (cell_lt h.m3)).trans h.m3
  m4 := (hb.cell (p := ⟨gm, 4, none⟩) (cell_lt h.m4)).trans h.m4
  m5 := (hb.cell (p := ⟨gm, 5, none⟩) (cell_lt h.m5)).trans h.m5
  m6 := (hb.cell (p := ⟨gm, 6, none⟩) (cell_lt h.m6)).trans h.m6
/-- A type's row. -/
structure Ty (w : World) (gt : Nat) : Prop where
  t0 : w.cell? ⟨gt, 0, none⟩ = some (.string ⟨#[117, 115, 101, 114]⟩)
  t1 : w.cell? ⟨gt, 1, none⟩ = some (.string ⟨#[]⟩)
theorem Ty.below {w w' : World} {gt : Nat} (h : Ty w gt) (hb : Below w.heap.size w w') : Ty w' gt where
  t0 := (hb.cell (p := ⟨gt, 0, none⟩) (cell_lt h.t0)).trans h.t0
  t1 := (hb.cell (p := ⟨gt, 1, none⟩) (cell_lt h.t1)).trans h.t1
set_option maxRecDepth 100000 in
set_option maxHeartbeats 8000000 in
theorem member_a (gd gm gt : Nat) (A : Option Addr) (nt ct : Nat) (w : World) (h : Sc w gd gm (.slice A nt ct)) :
    Calls Tryd.prog 6 #[.agg #[.slice (some ⟨gd, 0, none⟩) 1 1], .string ⟨#[100]⟩, .string ⟨#[97]⟩] w fun e w' => e = .returned (.tuple #[.agg #[.string ⟨#[97]⟩, .int .i64 1, .slice A nt ct, .int .i64 0, .string ⟨#[]⟩, .string ⟨#[]⟩, .slice none 0 0], .bool true]) ∧ Below w.heap.size w w' := by
  obtain ⟨d0, d1, m0, m1, m2, m3, m4, m5, m6⟩ := h
  have ltgd := cell_lt d0
  dsimp only at ltgd
  have ltgd1 : gd < w.heap.size + 1 := by omega
  have ltgd2 : gd < w.heap.size + 1 + 1 := by omega
  have ltgd3 : gd < w.heap.size + 1 + 1 + 1 := by omega
  have ltgd4 : gd < w.heap.size + 1 + 1 + 1 + 1 := by omega
  have ltgd5 : gd < w.heap.size + 1 + 1 + 1 + 1 + 1 := by omega
  have ltgd6 : gd < w.heap.size + 1 + 1 + 1 + 1 + 1 + 1 := by omega
  have ltgd7 : gd < w.heap.size + 1 + 1 + 1 + 1 + 1 + 1 + 1 := by omega
  have ltgd8 : gd < w.heap.size + 1 + 1 + 1 + 1 + 1 + 1 + 1 + 1 := by omega
  have ltgd9 : gd < w.heap.size + 1 + 1 + 1 + 1 + 1 + 1 + 1 + 1 + 1 := by omega
  have ltgd10 : gd < w.heap.size + 1 + 1 + 1 + 1 + 1 + 1 + 1 + 1 + 1 + 1 := by omega
  have ltgd11 : gd < w.heap.size + 1 + 1 + 1 + 1 + 1 + 1 + 1 + 1 + 1 + 1 + 1 := by omega
  have ltgd12 : gd < w.heap.size + 1 + 1 + 1 + 1 + 1 + 1 + 1 + 1 + 1 + 1 + 1 + 1 := by omega
  have ltgd13 : gd < w.heap.size + 1 + 1 + 1 + 1 + 1 + 1 + 1 + 1 + 1 + 1 + 1 + 1 + 1 := by omega
  have ltgd14 : gd < w.heap.size + 1 + 1 + 1 + 1 + 1 + 1 + 1 + 1 + 1 + 1 + 1 + 1 + 1 + 1 := by omega
  have ltgm := cell_lt m0
  dsimp only at ltgm
  have ltgm1 : gm < w.heap.size + 1 := by omega
  have ltgm2 : gm < w.heap.size + 1 + 1 := by omega
  have ltgm3 : gm < w.heap.size + 1 + 1 + 1 := by omega
  have ltgm4 : gm < w.heap.size + 1 + 1 + 1 + 1 := by omega
  have ltgm5 : gm < w.heap.size + 1 + 1 + 1 + 1 + 1 := by omega
  have ltgm6 : gm < w.heap.size + 1 + 1 + 1 + 1 + 1 + 1 := by omega
  have ltgm7 : gm < w.heap.size + 1 + 1 + 1 + 1 + 1 + 1 + 1 := by omega
  have ltgm8 : gm < w.heap.size + 1 + 1 + 1 + 1 + 1 + 1 + 1 + 1 := by omega
  have ltgm9 : gm < w.heap.size + 1 + 1 + 1 + 1 + 1 + 1 + 1 + 1 + 1 := by omega
  have ltgm10 : gm < w.heap.size + 1 + 1 + 1 + 1 + 1 + 1 + 1 + 1 + 1 + 1 := by omega
  have ltgm11 : gm < w.heap.size + 1 + 1 + 1 + 1 + 1 + 1 + 1 + 1 + 1 + 1 + 1 := by omega
  have ltgm12 : gm < w.heap.size + 1 + 1 + 1 + 1 + 1 + 1 + 1 + 1 + 1 + 1 + 1 + 1 := by omega
  have ltgm13 : gm < w.heap.size + 1 + 1 + 1 + 1 + 1 + 1 + 1 + 1 + 1 + 1 + 1 + 1 + 1 := by omega
  have ltgm14 : gm < w.heap.size + 1 + 1 + 1 + 1 + 1 + 1 + 1 + 1 + 1 + 1 + 1 + 1 + 1 + 1 := by omega
  go_enter Tryd.func6, Tryd.ntmps6
  go_wp2
  refine wp_loop_rounds 2 ?_
  rw [rounds_succ]
  go_wp2
  refine wp_loop_rounds 2 ?_
  rw [rounds_succ]
  go_wp2
  go_returns
  exact ⟨rfl, by (repeat apply below_alloc); exact B0 w⟩
set_option maxRecDepth 100000 in
set_option maxHeartbeats 8000000 in
theorem member_b (gd gm gt : Nat) (A : Option Addr) (nt ct : Nat) (w : World) (h : Sc w gd gm (.slice A nt ct)) :
    Calls Tryd.prog 6 #[.agg #[.slice (some ⟨gd, 0, none⟩) 1 1], .string ⟨#[100]⟩, .string ⟨#[98]⟩] w fun e w' => e = .returned (.tuple #[.agg #[.string ⟨#[]⟩, .int .i64 0, .slice none 0 0, .int .i64 0, .string ⟨#[]⟩, .string ⟨#[]⟩, .slice none 0 0], .bool false]) ∧ Below w.heap.size w w' := by
  obtain ⟨d0, d1, m0, m1, m2, m3, m4, m5, m6⟩ := h
  have ltgd := cell_lt d0
  dsimp only at ltgd
  have ltgd1 : gd < w.heap.size + 1 := by omega
  have ltgd2 : gd < w.heap.size + 1 + 1 := by omega
  have ltgd3 : gd < w.heap.size + 1 + 1 + 1 := by omega
  have ltgd4 : gd < w.heap.size + 1 + 1 + 1 + 1 := by omega
  have ltgd5 : gd < w.heap.size + 1 + 1 + 1 + 1 + 1 := by omega
  have ltgd6 : gd < w.heap.size + 1 + 1 + 1 + 1 + 1 + 1 := by omega
  have ltgd7 : gd < w.heap.size + 1 + 1 + 1 + 1 + 1 + 1 + 1 := by omega
  have ltgd8 : gd < w.heap.size + 1 + 1 + 1 + 1 + 1 + 1 + 1 + 1 := by omega
  have ltgd9 : gd < w.heap.size + 1 + 1 + 1 + 1 + 1 + 1 + 1 + 1 + 1 := by omega
  have ltgd10 : gd < w.heap.size + 1 + 1 + 1 + 1 + 1 + 1 + 1 + 1 + 1 + 1 := by omega
  have ltgd11 : gd < w.heap.size + 1 + 1 + 1 + 1 + 1 + 1 + 1 + 1 + 1 + 1 + 1 := by omega
  have ltgd12 : gd < w.heap.size + 1 + 1 + 1 + 1 + 1 + 1 + 1 + 1 + 1 + 1 + 1 + 1 := by omega
  have ltgd13 : gd < w.heap.size + 1 + 1 + 1 + 1 + 1 + 1 + 1 + 1 + 1 + 1 + 1 + 1 + 1 := by omega
  have ltgd14 : gd < w.heap.size + 1 + 1 + 1 + 1 + 1 + 1 + 1 + 1 + 1 + 1 + 1 + 1 + 1 + 1 := by omega
  have ltgm := cell_lt m0
  dsimp only at ltgm
  have ltgm1 : gm < w.heap.size + 1 := by omega
  have ltgm2 : gm < w.heap.size + 1 + 1 := by omega
  have ltgm3 : gm < w.heap.size + 1 + 1 + 1 := by omega
  have ltgm4 : gm < w.heap.size + 1 + 1 + 1 + 1 := by omega
  have ltgm5 : gm < w.heap.size + 1 + 1 + 1 + 1 + 1 := by omega
  have ltgm6 : gm < w.heap.size + 1 + 1 + 1 + 1 + 1 + 1 := by omega
  have ltgm7 : gm < w.heap.size + 1 + 1 + 1 + 1 + 1 + 1 + 1 := by omega
  have ltgm8 : gm < w.heap.size + 1 + 1 + 1 + 1 + 1 + 1 + 1 + 1 := by omega
  have ltgm9 : gm < w.heap.size + 1 + 1 + 1 + 1 + 1 + 1 + 1 + 1 + 1 := by omega
  have ltgm10 : gm < w.heap.size + 1 + 1 + 1 + 1 + 1 + 1 + 1 + 1 + 1 + 1 := by omega
  have ltgm11 : gm < w.heap.size + 1 + 1 + 1 + 1 + 1 + 1 + 1 + 1 + 1 + 1 + 1 := by omega
  have ltgm12 : gm < w.heap.size + 1 + 1 + 1 + 1 + 1 + 1 + 1 + 1 + 1 + 1 + 1 + 1 := by omega
  have ltgm13 : gm < w.heap.size + 1 + 1 + 1 + 1 + 1 + 1 + 1 + 1 + 1 + 1 + 1 + 1 + 1 := by omega
  have ltgm14 : gm < w.heap.size + 1 + 1 + 1 + 1 + 1 + 1 + 1 + 1 + 1 + 1 + 1 + 1 + 1 + 1 := by omega
  go_enter Tryd.func6, Tryd.ntmps6
  go_wp2
  refine wp_loop_rounds 2 ?_
  rw [rounds_succ]
  go_wp2
  refine wp_loop_rounds 2 ?_
  rw [rounds_succ]
  go_wp2
  rw [rounds_succ]
  go_wp2
  go_returns
  exact ⟨rfl, by (repeat apply below_alloc); exact B0 w⟩
theorem cells7 {W : World} {g : Nat} {a b c d e f h : Value} {t : TypeId} (k : W.heap[g]? = some (.cells #[a, b, c, d, e, f, h] t (0, 0))) : W.cell? ⟨g, 0, none⟩ = some a ∧ W.cell? ⟨g, 1, none⟩ = some b ∧ W.cell? ⟨g, 2, none⟩ = some c ∧ W.cell? ⟨g, 3, none⟩ = some d ∧ W.cell? ⟨g, 4, none⟩ = some e ∧ W.cell? ⟨g, 5, none⟩ = some f ∧ W.cell? ⟨g, 6, none⟩ = some h :=
  ⟨(blk_cell k 0).trans rfl, (blk_cell k 1).trans rfl, (blk_cell k 2).trans rfl, (blk_cell k 3).trans rfl, (blk_cell k 4).trans rfl, (blk_cell k 5).trans rfl, (blk_cell k 6).trans rfl⟩
theorem two_blocks7 (w : World) (a b c d e f h : Value) (t : TypeId) (a' b' c' d' e' f' h' : Value) :
    ∃ W, W = (w.alloc (.cells #[a, b, c, d, e, f, h] t)).alloc (.cells #[a', b', c', d', e', f', h'] t) ∧ Gr w W ∧ W.heap.size = w.heap.size + 2 ∧ W.heap[w.heap.size]? = some (.cells #[a, b, c, d, e, f, h] t (0, 0)) ∧ W.heap[w.heap.size + 1]? = some (.cells #[a', b', c', d', e', f', h'] t (0, 0)) := by
  refine ⟨_, rfl, ((Gr.refl w).alloc _).alloc _, by rw [World.size_alloc, World.size_alloc], blk_alloc (blk_new w _) _, ?_⟩
  have k := blk_new (w.alloc (.cells #[a, b, c, d, e, f, h] t)) (.cells #[a', b', c', d', e', f', h'] t)
  rw [World.size_alloc] at k
  exact k
def X0 : Ex := ⟨0, ⟨#[]⟩, ⟨#[]⟩, []⟩
theorem x0_rd (w : World) : Rd w none 0 X0 := rd_made (Kd.R_nil kE 25 w 0 (fun _ => True))
theorem same_x0 (B : Option Addr) (d : Nat) (w : World) (hR : Rd w B d X0) : Calls Tryd.prog 20 #[.agg #[.int .i64 0, .string ⟨#[]⟩, .string ⟨#[]⟩, .slice B 0 d], .agg #[.int .i64 0, .string ⟨#[]⟩, .string ⟨#[]⟩, .slice none 0 0]] w fun e w' => e = .returned (.bool true) ∧ Below w.heap.size w w' := by
  have h := same_any X0 X0 B none d 0 w (by decide) (by decide) hR (x0_rd w)
  rw [self_E] at h
  exact h
theorem clone_x0 (w : World) : Calls Tryd.prog 25 #[.agg #[.int .i64 0, .string ⟨#[]⟩, .string ⟨#[]⟩, .slice none 0 0]] w fun e w' => ∃ B d, e = .returned (.agg #[.int .i64 0, .string ⟨#[]⟩, .string ⟨#[]⟩, .slice B 0 d]) ∧ Rd w' B d X0 ∧ Below w.heap.size w w' := by
  refine (clone_any X0 none 0 w (by decide) (by unfold X0; rw [strE, strL]; exact ⟨⟨by decide, by decide⟩, trivial⟩) (x0_rd w)).mono ?_
  rintro e w' ⟨B, d, rfl, hr, hb⟩
  exact ⟨B, d, rfl, rd_made hr, hb⟩
set_option maxRecDepth 100000 in
set_option maxHeartbeats 8000000 in
theorem equal_t (gt gs : Nat) (w : World) (h : Ty w gt) (k : Ty w gs) :
    Calls Tryd.prog 19 #[.slice (some ⟨gt, 0, none⟩) 1 1, .slice (some ⟨gs, 0, none⟩) 1 1] w fun e w' => e = .returned (.bool true) ∧ Below w.heap.size w w' := by
  obtain ⟨t0, t1⟩ := h
  obtain ⟨s0, s1⟩ := k
  go_enter Tryd.func19, Tryd.ntmps19
  go_wp2
  refine wp_loop_rounds 2 ?_
  rw [rounds_succ]
  go_wp2
  go_quiet (fail)
  go_wp2
  rw [rounds_succ]
  go_wp2
  go_ret
  exact ⟨rfl, by repeat (first | exact B0 w | apply pw_below_drewN | apply below_drew1)⟩
set_option maxRecDepth 100000 in
set_option maxHeartbeats 8000000 in
theorem same_m (gt gs : Nat) (B : Option Addr) (d : Nat) (w : World) (h : Ty w gt) (k : Ty w gs) (hR : Rd w B d X0) :
    Calls Tryd.prog 9 #[.agg #[.string ⟨#[97]⟩, .int .i64 1, .slice (some ⟨gt, 0, none⟩) 1 1, .int .i64 0, .string ⟨#[]⟩, .string ⟨#[]⟩, .slice B 0 d], .agg #[.string ⟨#[97]⟩, .int .i64 1, .slice (some ⟨gs, 0, none⟩) 1 1, .int .i64 0, .string ⟨#[]⟩, .string ⟨#[]⟩, .slice none 0 0]] w fun e w' => e = .returned (.bool true) ∧ Below w.heap.size w w' := by
  have HEQ := Aside0.mk (show ∀ W', Below w.heap.size w W' → Calls Tryd.prog 19 #[.slice (some ⟨gt, 0, none⟩) 1 1, .slice (some ⟨gs, 0, none⟩) 1 1] W' fun e w' => e = .returned (.bool true) ∧ Below W'.heap.size W' w' from fun W' hb => equal_t gt gs W' (h.below hb) (k.below hb))
  have HSX := Aside0.mk (show ∀ W', Below w.heap.size w W' → Calls Tryd.prog 20 #[.agg #[.int .i64 0, .string ⟨#[]⟩, .string ⟨#[]⟩, .slice B 0 d], .agg #[.int .i64 0, .string ⟨#[]⟩, .string ⟨#[]⟩, .slice none 0 0]] W' fun e w' => e = .returned (.bool true) ∧ Below W'.heap.size W' w' from fun W' hb => same_x0 B d W' (hR.below hb))
  obtain ⟨W, hW, hgw, hsz, hx, hz⟩ := two_blocks7 w (.string ⟨#[97]⟩) (.int .i64 1) (.slice (some ⟨gt, 0, none⟩) 1 1) (.int .i64 0) (.string ⟨#[]⟩) (.string ⟨#[]⟩) (.slice B 0 d) 27 (.string ⟨#[97]⟩) (.int .i64 1) (.slice (some ⟨gs, 0, none⟩) 1 1) (.int .i64 0) (.string ⟨#[]⟩) (.string ⟨#[]⟩) (.slice none 0 0)
  have HB0 := Aside0.mk hgw.below
  have HX := Aside0.mk hx
  have HZ := Aside0.mk hz
  obtain ⟨gb, hgb⟩ : ∃ g, g = w.heap.size := ⟨_, rfl⟩
  rw [← hgb] at HX HZ
  obtain ⟨x0, x1, x2, x3, x4, x5, x6⟩ := cells7 HX.out
  obtain ⟨z0, z1, z2, z3, z4, z5, z6⟩ := cells7 HZ.out
  clear h k hR hgw hsz hx hz
  go_enter Tryd.func9, Tryd.ntmps9
  go_upto_region 1 with fail
  rw [← hW, ← hgb]
  clear hW hgb
  go_wp2_with (first
    | (go_at_call 19; refine (HEQ.out _ HB0.out).mono ?_; rintro e W1 ⟨rfl, h1⟩; have HB1 := Aside0.mk (below_then HB0.out HB0.out.size h1); obtain ⟨x0, x1, x2, x3, x4, x5, x6⟩ := cells7 (blk_below HX.out h1); obtain ⟨z0, z1, z2, z3, z4, z5, z6⟩ := cells7 (blk_below HZ.out h1); clear h1)
    | (go_at_call 20; refine (HSX.out _ HB1.out).mono ?_; rintro e W2 ⟨rfl, h1⟩; have HB2 := Aside0.mk (below_then HB1.out HB1.out.size h1); clear h1))
  go_ret
  exact ⟨rfl, HB2.out⟩
end Go.Proofs.YtohimcpfmkgefaaDoor.HSc1
/- slices.Index, Contains at allowed types; schema.Allows. -/
namespace Go.Proofs.YtohimcpfmkgefaaDoor.HSc2
open Go.RowKit Go.Proofs.YtohimcpfmkgefaaDoorW.PrintWords Go.Proofs.YtohimcpfmkgefaaDoor.HLib Go.Proofs.YtohimcpfmkgefaaDoor.HGr Go.Proofs.YtohimcpfmkgefaaDoor.HNameP Go.Proofs.YtohimcpfmkgefaaDoor.HName Go.Proofs.YtohimcpfmkgefaaDoor.HExP Go.Proofs.YtohimcpfmkgefaaDoor.HExL Go.Proofs.YtohimcpfmkgefaaDoor.HExF Go.Proofs.YtohimcpfmkgefaaDoor.HExN Go.Proofs.YtohimcpfmkgefaaDoor.HSc1
open Go.Proofs.YtohimcpfmkgefaaDoor.PSchemaAllows
set_option linter.unusedVariables false
set_option linter.unusedSimpArgs false
abbrev Al := S29
abbrev kA : Kd Al := k29
def eqA (a b : Al) : Bool := a.f0.toList == b.f0.toList && a.f1.toList == b.f1.toList
def hasA (x : Al) (ks : List Al) : Bool := ks.any (eqA x)
theorem eqA_run (a b : Al) (w : World) : (Op.equalIn 10000 29 (.agg #[.string a.f0, .string a.f1]) (.agg #[.string b.f0, .string b.f1])).run Tryd.prog w = .ok (eqA a b) w := by
  rw [show (10000 : Nat) = 9998 + 2 from rfl, eqA29]
  rfl
theorem one_blk2 (w : World) (a b : Value) (t : TypeId) : ∃ W, W = w.alloc (.cells #[a, b] t) ∧ Below w.heap.size w W ∧ W.heap.size = w.heap.size + 1 ∧ W.heap[w.heap.size]? = some (.cells #[a, b] t (0, 0)) := ⟨_, rfl, below_alloc (B0 w) _, World.size_alloc _ _, blk_new w _⟩
theorem cells2 {W : World} {g : Nat} {a b : Value} {t : TypeId} (h : W.heap[g]? = some (.cells #[a, b] t (0, 0))) : W.cell? ⟨g, 0, none⟩ = some a ∧ W.cell? ⟨g, 1, none⟩ = some b := ⟨(blk_cell h 0).trans rfl, (blk_cell h 1).trans rfl⟩
theorem al_cells {w : World} {A : Option Addr} {ks : List Al} (hc : Kd.C kA w A ks.length ks) (j : Nat) (hj : j < ks.length) :
    ∃ ad, A = some ad ∧ ∀ w', Below w.heap.size w w' → w'.cell? (ad.add (j * 2)) = some (.string ks[j].f0) ∧ w'.cell? ⟨(ad.add (j * 2)).block, (ad.add (j * 2)).off + 1, none⟩ = some (.string ks[j].f1) := by
  obtain ⟨ad, hA, b1, b2⟩ := at_T29 hc (j : Int) (by omega) (by omega)
  rw [Int.toNat_natCast] at b1 b2
  have hx : rd_T29 ks (j : Int) = ks[j] := by
    unfold rd_T29
    rw [List.getD_eq_getElem?_getD, Int.toNat_natCast, List.getElem?_eq_getElem hj, Option.getD_some]
  rw [hx] at b1 b2
  refine ⟨ad, hA, fun w' hb => ?_⟩
  have hl := cell_lt b1
  exact ⟨(hb.cell (p := ad.add (j * 2)) hl).trans b1, (hb.cell (p := ⟨(ad.add (j * 2)).block, _, none⟩) hl).trans b2⟩
set_option maxRecDepth 20000 in
set_option maxHeartbeats 8000000 in
theorem index_al (x : Al) (ks : List Al) (A : Option Addr) (c : Nat) (w : World) (hl : ks.length ≤ 1000000) (hC : Kd.C kA w A ks.length ks) :
    Calls Tryd.prog 27 #[.slice A ks.length c, .agg #[.string x.f0, .string x.f1]] w fun e w' => ∃ r : Int, e = .returned (.int .i64 r) ∧ decide (0 ≤ r) = hasA x ks ∧ Below w.heap.size w w' := by
  obtain ⟨W, hW, hb, hsz, hk⟩ := one_blk2 w (.string x.f0) (.string x.f1) 29
  have HC := Aside0.mk (Kd.C_below hC hb)
  have HL := Aside0.mk hl
  have HB := Aside0.mk hb
  have HK := Aside0.mk hk
  obtain ⟨n, hn⟩ : ∃ n, n = ks.length := ⟨_, rfl⟩
  have HN := Aside0.mk hn
  rw [← hn]
  obtain ⟨gb, hgb⟩ : ∃ g, g = w.heap.size := ⟨_, rfl⟩
  rw [← hgb] at HK
  clear hC hl hn hb hsz hk
  go_enter Tryd.func27, Tryd.ntmps27
  go_upto_region 1 with fail
  rw [← hW, ← hgb]
  clear hW hgb
  go_wp2
  go_loopg [5, 8] n (fun gg _ s8 wr => ∃ kk : Nat, s8 = .int .i64 kk ∧ Aside0 (gg + kk = n) ∧ Aside0 (Below W.heap.size W wr) ∧ Aside0 ((ks.take kk).any (eqA x) = false))
  case atStart => exact ⟨0, rfl, ⟨by omega⟩, ⟨B0 W⟩, ⟨by simp⟩⟩
  case round =>
    obtain ⟨kk, rfl, HG, BW, HA⟩ := hrel
    by_cases hlt : kk < n
    · have f3 : (kk : Int) < (n : Int) := by omega
      have f1 : decide ((kk : Int) < (n : Int)) = true := decide_eq_true f3
      have f5 : (0 : Int) ≤ (kk : Int) := by omega
      have f4 : IntKind.i64.wrap ((kk : Int) + 1) = (kk : Int) + 1 := by rw [IntKind.wrap_i64]; have := HL.out; have := HN.out; omega
      have hj : kk < ks.length := by have := HN.out; omega
      obtain ⟨ad, hA, hcs⟩ := al_cells HC.out kk hj
      obtain ⟨a1, a2⟩ := hcs wr BW.out
      obtain ⟨q0, q1⟩ := cells2 (blk_below HK.out BW.out)
      obtain ⟨y, hy⟩ : ∃ y, y = ks[kk] := ⟨_, rfl⟩
      rw [← hy] at a1 a2
      have HY := Aside0.mk (show ∀ h : kk < ks.length, y = ks[kk] from fun _ => hy)
      subst hA
      clear hy hcs hj
      cases hq : eqA x y with
      | true =>
        have HQ := Aside0.mk hq
        have heq := fun w' => (eqA_run x y w').trans (by rw [hq])
        clear hq
        go_wp2
        go_quiet (fail)
        go_wp2
        go_ret
        refine ⟨_, rfl, ?_, below_then HB.out HB.out.size (by repeat (first | exact BW.out | apply pw_below_drewN | apply below_drew1))⟩
        have hj : kk < ks.length := by have := HN.out; omega
        rw [decide_eq_true (by omega)]
        symm
        unfold hasA
        rw [List.any_eq_true]
        exact ⟨ks[kk], List.getElem_mem hj, by rw [← HY.out hj]; exact HQ.out⟩
      | false =>
        have HQ := Aside0.mk hq
        have heq := fun w' => (eqA_run x y w').trans (by rw [hq])
        clear hq
        go_wp2
        go_quiet (fail)
        go_wp2
        go_roundg (n - (kk + 1))
        case measure => have := HG.out; omega
        case rel =>
          refine ⟨kk + 1, by first | rfl | go_num, ⟨by have := HG.out; omega⟩, ⟨by repeat (first | exact BW.out | apply pw_below_drewN | apply below_drew1)⟩, ⟨?_⟩⟩
          have hj : kk < ks.length := by have := HN.out; omega
          rw [List.take_succ_eq_append_getElem hj, List.any_append, HA.out, List.any_cons, List.any_nil, ← HY.out hj, HQ.out]
          rfl
    · obtain rfl : kk = n := by have := HG.out; omega
      have f3 : ¬ (kk : Int) < (kk : Int) := by omega
      have HE := Aside0.mk (show hasA x ks = false from by have h := HA.out; rw [HN.out, List.take_length] at h; exact h)
      go_wp2
      go_ret
      exact ⟨_, rfl, by rw [HE.out]; rfl, below_then HB.out HB.out.size BW.out⟩
set_option maxRecDepth 20000 in
set_option maxHeartbeats 8000000 in
theorem contains_al (x : Al) (ks : List Al) (A : Option Addr) (c : Nat) (w : World) (hl : ks.length ≤ 1000000) (hC : Kd.C kA w A ks.length ks) :
    Calls Tryd.prog 13 #[.slice A ks.length c, .agg #[.string x.f0, .string x.f1]] w fun e w' => e = .returned (.bool (hasA x ks)) ∧ Below w.heap.size w w' := by
  obtain ⟨W, hW, hb, hsz, hk⟩ := one_blk2 w (.string x.f0) (.string x.f1) 29
  have HI := Aside0.mk (index_al x ks A c W hl (Kd.C_below hC hb))
  have HB := Aside0.mk hb
  obtain ⟨q0, q1⟩ := cells2 hk
  obtain ⟨n, hn⟩ : ∃ n, n = ks.length := ⟨_, rfl⟩
  rw [← hn] at HI ⊢
  obtain ⟨gb, hgb⟩ : ∃ g, g = w.heap.size := ⟨_, rfl⟩
  rw [← hgb] at q0 q1
  obtain ⟨b, hbb⟩ : ∃ b, b = hasA x ks := ⟨_, rfl⟩
  rw [← hbb] at HI ⊢
  clear hC hl hn hb hsz hk hbb
  go_enter Tryd.func13, Tryd.ntmps13
  go_upto_region 1 with fail
  rw [← hW, ← hgb]
  clear hW hgb
  go_wp2_with (refine (HI.out).mono ?_; rintro e w' ⟨r, rfl, hr, hB⟩)
  go_ret
  exact ⟨rfl, below_then HB.out HB.out.size hB⟩
abbrev Sm := S27
abbrev kM : Kd Sm := k27
def allowsP (m : Sm) (a : Al) : Bool := decide (m.f1 = 1) && hasA a m.f2
theorem info_a7 (w : World) (a b c d e f h : Value) (t : TypeId) : ∃ W, W = w.alloc (.cells #[a, b, c, d, e, f, h] t) ∧ Below w.heap.size w W ∧ W.heap.size = w.heap.size + 1 ∧ W.heap[w.heap.size]? = some (.cells #[a, b, c, d, e, f, h] t (0, 0)) := ⟨_, rfl, below_alloc (B0 w) _, World.size_alloc _ _, blk_new w _⟩
set_option maxRecDepth 20000 in
set_option maxHeartbeats 8000000 in
theorem allows_any (m : Sm) (a : Al) (A A' : Option Addr) (c c' : Nat) (w : World) (hl : m.f2.length ≤ 1000000) (hC : Kd.C kA w A m.f2.length m.f2) :
    Calls Tryd.prog 5 #[.agg #[.string m.f0, .int .i64 m.f1, .slice A m.f2.length c, .int .i64 m.f3.f0, .string m.f3.f1, .string m.f3.f2, .slice A' m.f3.f3.length c'], .agg #[.string a.f0, .string a.f1]] w fun e w' => e = .returned (.bool (allowsP m a)) ∧ Below w.heap.size w w' := by
  obtain ⟨W1, hW1, hb1, hsz1, hk1⟩ := info_a7 w (.string m.f0) (.int .i64 m.f1) (.slice A m.f2.length c) (.int .i64 m.f3.f0) (.string m.f3.f1) (.string m.f3.f2) (.slice A' m.f3.f3.length c') 27
  obtain ⟨W, hW, hb, hsz, hk⟩ := one_blk2 W1 (.string a.f0) (.string a.f1) 29
  have hbw : Below w.heap.size w W := below_then hb1 hb1.size hb
  have HI := Aside0.mk (contains_al a m.f2 A c W hl (Kd.C_below hC hbw))
  have HB := Aside0.mk hbw
  obtain ⟨q0, q1, q2, q3, q4, q5, q6⟩ := cells7 (blk_below hk1 hb)
  obtain ⟨p0, p1⟩ := cells2 hk
  rw [hsz1] at p0 p1
  rw [hW1] at hW
  obtain ⟨n, hn⟩ : ∃ n, n = m.f2.length := ⟨_, rfl⟩
  rw [← hn] at HI hW q2 ⊢
  obtain ⟨gb, hgb⟩ : ∃ g, g = w.heap.size := ⟨_, rfl⟩
  rw [← hgb] at q0 q1 q2 q3 q4 q5 q6 p0 p1
  unfold allowsP
  obtain ⟨b, hbb⟩ : ∃ b, b = hasA a m.f2 := ⟨_, rfl⟩
  rw [← hbb] at HI ⊢
  by_cases ck : m.f1 = 1
  · rw [ck] at hW q1 ⊢
    clear hC hl hn hb hsz hk hbb hb1 hk1 hsz1 hW1 hbw ck
    go_enter Tryd.func5, Tryd.ntmps5
    go_upto_region 1 with fail
    rw [← hW, ← hgb]
    clear hW hgb
    go_wp2_with (refine (HI.out).mono ?_; rintro e w' ⟨rfl, hB⟩)
    go_ret
    exact ⟨by simp, below_then HB.out HB.out.size hB⟩
  · have c2 : decide (m.f1 = 1) = false := decide_eq_false ck
    have c3 : (m.f1 == 1) = false := by simpa using ck
    clear hC hl hn hb hsz hk hbb hb1 hk1 hsz1 hW1 hbw
    go_enter Tryd.func5, Tryd.ntmps5
    go_upto_region 1 with fail
    rw [← hW, ← hgb]
    clear hW hgb
    go_wp2
    go_ret
    exact ⟨by simp [c2], HB.out⟩
end Go.Proofs.YtohimcpfmkgefaaDoor.HSc2
/- schema.member at awake's members. -/
namespace Go.Proofs.YtohimcpfmkgefaaDoor.HSc3
open Go.RowKit Go.Proofs.YtohimcpfmkgefaaDoorW.PrintWords Go.Proofs.YtohimcpfmkgefaaDoor.HLib Go.Proofs.YtohimcpfmkgefaaDoor.HGr Go.Proofs.YtohimcpfmkgefaaDoor.HNameP Go.Proofs.YtohimcpfmkgefaaDoor.HName Go.Proofs.YtohimcpfmkgefaaDoor.HExP Go.Proofs.YtohimcpfmkgefaaDoor.HExL Go.Proofs.YtohimcpfmkgefaaDoor.HExF Go.Proofs.YtohimcpfmkgefaaDoor.HExN Go.Proofs.YtohimcpfmkgefaaDoor.HSc1 Go.Proofs.YtohimcpfmkgefaaDoor.HSc2
open Go.Proofs.YtohimcpfmkgefaaDoor.PSchemaAllows
set_option linter.unusedVariables false
set_option linter.unusedSimpArgs false
theorem is_a (w : World) (hG : ResG w) : Calls Tryd.prog 17 #[.string ⟨#[97]⟩] w fun e w' => e = .returned (.bool true) ∧ w = w' := by
  have h := is_any ⟨#[97]⟩ w hG
  rw [show isP ⟨#[97]⟩ = true from by decide] at h
  exact h
theorem is_d (w : World) (hG : ResG w) : Calls Tryd.prog 17 #[.string ⟨#[100]⟩] w fun e w' => e = .returned (.bool true) ∧ w = w' := by
  have h := is_any ⟨#[100]⟩ w hG
  rw [show isP ⟨#[100]⟩ = true from by decide] at h
  exact h
theorem allowed_user (w : World) (hG : ResG w) : Calls Tryd.prog 44 #[.agg #[.string ⟨#[117, 115, 101, 114]⟩, .string ⟨#[]⟩]] w fun e w' => (∃ s, e = .returned (.tuple #[.string s, .bool true])) ∧ Below w.heap.size w w' := by
  have h := allowed_any ⟨#[117, 115, 101, 114]⟩ ⟨#[]⟩ w hG
  rw [show allP ⟨#[117, 115, 101, 114]⟩ ⟨#[]⟩ = true from by decide] at h
  exact h.mono fun e w' ⟨h1, h2⟩ => ⟨⟨_, h1⟩, h2⟩
set_option maxRecDepth 100000 in
set_option maxHeartbeats 8000000 in
theorem memb_good (gt : Nat) (w : World) (hG : ResG w) (hT : Ty w gt) :
    Calls Tryd.prog 18 #[.agg #[.string ⟨#[97]⟩, .int .i64 1, .slice (some ⟨gt, 0, none⟩) 1 1, .int .i64 0, .string ⟨#[]⟩, .string ⟨#[]⟩, .slice none 0 0]] w fun e w' => e = .returned (.bool true) ∧ Below w.heap.size w w' := by
  obtain ⟨W, hW, hb, hsz, hk⟩ := info_a7 w (.string ⟨#[97]⟩) (.int .i64 1) (.slice (some ⟨gt, 0, none⟩) 1 1) (.int .i64 0) (.string ⟨#[]⟩) (.string ⟨#[]⟩) (.slice none 0 0) 27
  have HG := Aside0.mk (show ∀ W', Below W.heap.size W W' → ResG W' from fun W' h => hG.below (below_then hb hb.size h) hG.1)
  have HT := Aside0.mk (show ∀ W', Below W.heap.size W W' → Ty W' gt from fun W' h => hT.below (below_then hb hb.size h))
  have HB := Aside0.mk hb
  have HX := Aside0.mk (B0 W)
  obtain ⟨gb, hgb⟩ : ∃ g, g = w.heap.size := ⟨_, rfl⟩
  rw [← hgb] at hk
  have HK := Aside0.mk hk
  obtain ⟨q0, q1, q2, q3, q4, q5, q6⟩ := cells7 hk
  obtain ⟨t0, t1⟩ := HT.out W HX.out
  clear hG hT hb hsz hk
  go_enter Tryd.func18, Tryd.ntmps18
  go_upto_region 1 with fail
  rw [← hW, ← hgb]
  clear hW hgb
  go_wp2_with (first | (go_at_call 17; refine (is_a _ (HG.out _ HX.out)).mono ?_; rintro e W1 ⟨rfl, rfl⟩) | (go_at_call 33; go_enter Tryd.func33, Tryd.ntmps33) | (go_at_call 43; go_enter Tryd.func43, Tryd.ntmps43))
  refine wp_loop_rounds 2 ?_
  rw [rounds_succ]
  go_wp2_with (first | (go_at_call 34; go_enter Tryd.func34, Tryd.ntmps34) | (go_at_call 35; go_enter Tryd.func35, Tryd.ntmps35) | (go_at_call 44; refine (allowed_user _ (HG.out _ (by (repeat apply below_alloc); exact HX.out))).mono ?_; rintro e W2 ⟨⟨s, rfl⟩, h2⟩; have HX2 := Aside0.mk (below_step (show Below W.heap.size W _ from by (repeat apply below_alloc); exact HX.out) h2); clear h2 q0 q1 q2 q3 q4 q5 q6 t0 t1; obtain ⟨q0, q1, q2, q3, q4, q5, q6⟩ := cells7 (blk_below HK.out HX2.out)))
  rw [rounds_succ]
  go_wp2_with (go_at_call 20; refine (same_x0 none 0 _ (x0_rd _)).mono ?_; rintro e W3 ⟨rfl, h3⟩; have HX3 := Aside0.mk (below_step HX2.out h3); clear h3)
  go_ret
  exact ⟨rfl, below_then HB.out HB.out.size HX3.out⟩
set_option maxRecDepth 100000 in
set_option maxHeartbeats 8000000 in
theorem memb_bad (w : World) (hG : ResG w) :
    Calls Tryd.prog 18 #[.agg #[.string ⟨#[97]⟩, .int .i64 1, .slice none 0 0, .int .i64 0, .string ⟨#[]⟩, .string ⟨#[]⟩, .slice none 0 0]] w fun e w' => e = .returned (.bool false) ∧ Below w.heap.size w w' := by
  obtain ⟨W, hW, hb, hsz, hk⟩ := info_a7 w (.string ⟨#[97]⟩) (.int .i64 1) (.slice none 0 0) (.int .i64 0) (.string ⟨#[]⟩) (.string ⟨#[]⟩) (.slice none 0 0) 27
  have HG := Aside0.mk (hG.below hb hG.1)
  have HB := Aside0.mk hb
  obtain ⟨gb, hgb⟩ : ∃ g, g = w.heap.size := ⟨_, rfl⟩
  rw [← hgb] at hk
  obtain ⟨q0, q1, q2, q3, q4, q5, q6⟩ := cells7 hk
  clear hG hb hsz hk
  go_enter Tryd.func18, Tryd.ntmps18
  go_upto_region 1 with fail
  rw [← hW, ← hgb]
  clear hW hgb
  go_wp2_with (first | (go_at_call 17; refine (is_a _ HG.out).mono ?_; rintro e W1 ⟨rfl, rfl⟩) | (go_at_call 33; go_enter Tryd.func33, Tryd.ntmps33) | (go_at_call 43; go_enter Tryd.func43, Tryd.ntmps43))
  refine wp_loop_rounds 1 ?_
  rw [rounds_succ]
  go_wp2
  go_ret
  exact ⟨rfl, HB.out⟩
end Go.Proofs.YtohimcpfmkgefaaDoor.HSc3
/- The iterator over awake's members. -/
namespace Go.Proofs.YtohimcpfmkgefaaDoor.HSc4
open Go.RowKit Go.Shelf Go.Proofs.YtohimcpfmkgefaaDoorW.PrintWords Go.Proofs.YtohimcpfmkgefaaDoor.HLib Go.Proofs.YtohimcpfmkgefaaDoor.HGr Go.Proofs.YtohimcpfmkgefaaDoor.HNameP Go.Proofs.YtohimcpfmkgefaaDoor.HName Go.Proofs.YtohimcpfmkgefaaDoor.HExP Go.Proofs.YtohimcpfmkgefaaDoor.HExL Go.Proofs.YtohimcpfmkgefaaDoor.HExF Go.Proofs.YtohimcpfmkgefaaDoor.HExI Go.Proofs.YtohimcpfmkgefaaDoor.HExN Go.Proofs.YtohimcpfmkgefaaDoor.HSc1 Go.Proofs.YtohimcpfmkgefaaDoor.HSc2 Go.Proofs.YtohimcpfmkgefaaDoor.HSc3
open Go.Proofs.YtohimcpfmkgefaaDoor.PSchemaAllows
set_option linter.unusedVariables false
set_option linter.unusedSimpArgs false
attribute [local go_sem] Oper.semAt_some
theorem members_any (gd : Nat) (w : World) : Calls Tryd.prog 12 #[.agg #[.slice (some ⟨gd, 0, none⟩) 1 1]] w fun e w' => e = .returned (.func (.func 26) #[] #[.pointer (some ⟨w.heap.size, 0, none⟩)]) ∧ w' = w.alloc (.cells #[.slice (some ⟨gd, 0, none⟩) 1 1] 37) := by
  go_enter Tryd.func12, Tryd.ntmps12
  go_wp2
  go_ret
  exact ⟨rfl, rfl⟩
def encM (A : Option Addr) (nt ct : Nat) : Unit → Array Value := fun _ => #[.string ⟨#[100]⟩, .agg #[.string ⟨#[97]⟩, .int .i64 1, .slice A nt ct, .int .i64 0, .string ⟨#[]⟩, .string ⟨#[]⟩, .slice none 0 0]]
set_option maxRecDepth 100000 in
set_option maxHeartbeats 4000000 in
theorem members_stops (gd gm Be n : Nat) (A : Option Addr) (nt ct : Nat) (w : World) (hS : Sc w gd gm (.slice A nt ct)) (hc : w.heap[Be]? = some (.cells #[.slice (some ⟨gd, 0, none⟩) 1 1] 37 (0, 0))) :
    SeqStopsK Fence.wide n Tryd.prog 26 #[.pointer (some ⟨Be, 0, none⟩)] (encM A nt ct) (fun _ _ => True) (fun ys => ys.length = 1) (fun pre => pre.length = 1) 1 w := by
  intro l J Jx W hW hJ hJx hY h0
  obtain ⟨W2, hW2⟩ : ∃ W2, W2 = (W.alloc (.cells #[.string ⟨#[100]⟩, .slice (some ⟨gm, 0, none⟩) 1 1] 34)).alloc (.cells #[.string ⟨#[97]⟩, .int .i64 1, .slice A nt ct, .int .i64 0, .string ⟨#[]⟩, .string ⟨#[]⟩, .slice none 0 0] 27) := ⟨_, rfl⟩
  have hb2 : Below W.heap.size W W2 := by rw [hW2]; exact below_alloc (below_alloc (B0 W) _) _
  obtain ⟨fn, tmps, assign, body, hy, hR⟩ := hY [] () W2 (hJ [] W W2 none h0 (grown_of_below hb2 none) (fun r e => by cases e)) (by simp)
  have HR := Aside0.mk hR
  unfold encM at hy
  obtain ⟨d0, d1, m0, m1, m2, m3, m4, m5, m6⟩ := hS.below hW
  have cb := (blk_cell (blk_below hc hW) 0).trans rfl
  dsimp at cb
  have ltd := cell_lt d0
  have ltm := cell_lt m0
  dsimp only at ltd ltm
  have ltm1 : gm < W.heap.size + 1 := by omega
  have HJ := Aside0.mk (And.intro hW2 hb2)
  clear hR hY hJ hJx hW hc hS hb2 hW2
  have HB2 := Aside0.mk HJ.out.2
  have hw2 := HJ.out.1
  clear HJ
  subst hw2
  refine callsIn_of_wp Tryd.func26 rfl trivial ?_ rfl
  simp only [Tryd.ntmps26, List.size_toArray, List.length_cons, List.length_nil, Nat.reduceAdd, Nat.reduceSub, Array.replicate_succ, Array.replicate_zero, List.push_toArray, List.append_toArray, List.nil_append, List.cons_append]
  gi_wp2
  refine wpIn_loop_rounds 2 ?_
  rw [roundsIn_succ]
  gi_wp2
  refine wpIn_loop_rounds 2 ?_
  rw [roundsIn_succ]
  gi_wp2
  refine ⟨fun h => (by cases h), (HR.out).mono ?_⟩
  clear HR
  rintro e W3 (⟨rfl, hJ3, hk3⟩ | ⟨rfl, hJx3⟩)
  · have HJ3 := Aside0.mk hJ3
    clear hJ3 hk3
    gi_wp2
    rw [roundsIn_succ]
    gi_wp2
    rw [roundsIn_succ]
    gi_wp2
    go_end0
    exact ⟨⟨_, rfl⟩, .inl ⟨[()], rfl, HJ3.out⟩⟩
  · have HJ3 := Aside0.mk hJx3
    clear hJx3
    gi_wp2
    refine bodyPost_ret (results_none rfl _ _ _) rfl ?_
    exact ⟨⟨_, rfl⟩, .inr ⟨[()], rfl, HJ3.out⟩⟩
end Go.Proofs.YtohimcpfmkgefaaDoor.HSc4
