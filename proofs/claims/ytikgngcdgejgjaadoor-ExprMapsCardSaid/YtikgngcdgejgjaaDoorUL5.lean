/- The law ExprMaps. -/
import Derived.Test.YtikgngcdgejgjaaDoorUMK
import Derived.Test.YtikgngcdgejgjaaDoorUO
import Derived.Test.YtikgngcdgejgjaaDoorUOO
namespace Go.Proofs.YtikgngcdgejgjaaDoor.HExL5
open Go.RowKit Go.Proofs.YtikgngcdgejgjaaDoorW.PrintWords Go.Proofs.YtikgngcdgejgjaaDoorW.PrintMore Go.Proofs.YtikgngcdgejgjaaDoor.HLib Go.Proofs.YtikgngcdgejgjaaDoor.HGr Go.Proofs.YtikgngcdgejgjaaDoor.HNameP Go.Proofs.YtikgngcdgejgjaaDoor.HName Go.Proofs.YtikgngcdgejgjaaDoor.HExP Go.Proofs.YtikgngcdgejgjaaDoor.HExR Go.Proofs.YtikgngcdgejgjaaDoor.HExQ Go.Proofs.YtikgngcdgejgjaaDoor.HExL Go.Proofs.YtikgngcdgejgjaaDoor.HExF Go.Proofs.YtikgngcdgejgjaaDoor.HExK Go.Proofs.YtikgngcdgejgjaaDoor.HExLc Go.Proofs.YtikgngcdgejgjaaDoor.HExM Go.Proofs.YtikgngcdgejgjaaDoor.HExN Go.Proofs.YtikgngcdgejgjaaDoor.HExLv Go.Proofs.YtikgngcdgejgjaaDoor.HExOp Go.Proofs.YtikgngcdgejgjaaDoor.HExO Go.Proofs.YtikgngcdgejgjaaDoor.HExMk Go.Proofs.YtikgngcdgejgjaaDoor.HExH
open Go.Proofs.YtikgngcdgejgjaaDoor.PExprMatchesReference
set_option linter.unusedVariables false
set_option linter.unusedSimpArgs false
theorem one_box {W0 W3 : World} (hb : Below W0.heap.size W0 W3) (v0 v1 v2 v3 : Value) (t : TypeId) : ∃ X, X = W3.alloc (.cells #[v0, v1, v2, v3] t) ∧ Below W3.heap.size W3 X ∧ Below W0.heap.size W0 X ∧ X.heap.size = W3.heap.size + 1 ∧ X.heap[W3.heap.size]? = some (.cells #[v0, v1, v2, v3] t (0, 0)) :=
  ⟨_, rfl, below_alloc (B0 W3) _, below_then hb hb.size (below_alloc (B0 W3) _), World.size_alloc _ _, blk_new W3 _⟩
set_option maxRecDepth 100000 in
set_option maxHeartbeats 16000000 in
theorem maps_few (x : Ex) (A : Option Addr) (c : Nat) (hs : strE maxLen x) (cf : fewE x = true) (w : World) (hG : ResG w) (hR : Rd w A c x) :
    Calls Tryd.prog 7 #[.agg #[.int .i64 x.f0, .string x.f1, .string x.f2, .slice A x.f3.length c]] w fun e w' => e = .returned (.bool true) ∧ Below w.heap.size w w' := by
  obtain ⟨W, hW⟩ : ∃ W, W = w.alloc (.cells #[.int .i64 x.f0, .string x.f1, .string x.f2, .slice A x.f3.length c] 24) := ⟨_, rfl⟩
  have hb : Below w.heap.size w W := by rw [hW]; exact below_alloc (B0 w) _
  have hk : W.heap[w.heap.size]? = some (.cells #[.int .i64 x.f0, .string x.f1, .string x.f2, .slice A x.f3.length c] 24 (0, 0)) := by rw [hW]; exact blk_new w _
  have hsz : W.heap.size = w.heap.size + 1 := by rw [hW]; exact World.size_alloc _ _
  have hS := small_of_few hs cf
  obtain ⟨gb, hgb⟩ : ∃ g, g = w.heap.size := ⟨_, rfl⟩
  rw [← hgb] at hk
  have HBW := Aside0.mk (And.intro hb (And.intro hgb hsz))
  have hg : ∀ W', Below W.heap.size W W' → ResG W' := fun W' h => hG.below (below_then hb hb.size h) hG.1
  have hr : ∀ W', Below W.heap.size W W' → Rd W' A c x := fun W' h => hR.below (below_then hb hb.size h)
  have HX := Aside0.mk (B0 W)
  have HRD := Aside0.mk hr
  have HK := Aside0.mk hk
  have HZ := Aside0.mk (show ∀ W', Below W.heap.size W W' → (W'.cell? ⟨gb, 0, none⟩ = some (.int .i64 x.f0) ∧ W'.cell? ⟨gb, 1, none⟩ = some (.string x.f1) ∧ W'.cell? ⟨gb, 2, none⟩ = some (.string x.f2) ∧ W'.cell? ⟨gb, 3, none⟩ = some (.slice A x.f3.length c)) from fun W' h => cells4 (blk_below hk h))
  have HA := Aside0.mk (show ∀ W1, Below W.heap.size W W1 → Calls Tryd.prog 8 #[] W1 fun e W2 => e = .returned (.bool true) ∧ Below W.heap.size W W2 from fun W1 h => (awake_any W1 (hg W1 h)).mono fun e W2 ⟨h1, h2⟩ => ⟨h1, below_then h h.size h2⟩)
  have HF := Aside0.mk (show ∀ W1, Below W.heap.size W W1 → Calls Tryd.prog 9 #[.agg #[.int .i64 x.f0, .string x.f1, .string x.f2, .slice A x.f3.length c]] W1 fun e W2 => e = .returned (.bool true) ∧ Below W.heap.size W W2 from fun W1 h => (few_any x A c W1 hs (hr W1 h)).mono fun e W2 ⟨h1, h2⟩ => ⟨by rw [h1, cf], below_then h h.size h2⟩)
  have HCL := Aside0.mk (show ∀ W1, Below W.heap.size W W1 → Calls Tryd.prog 21 #[.agg #[.int .i64 x.f0, .string x.f1, .string x.f2, .slice A x.f3.length c]] W1 fun e W2 => ∃ B d, e = .returned (.agg #[.int .i64 x.f0, .string x.f1, .string x.f2, .slice B x.f3.length d]) ∧ Kd.R kE 24 W2 W1.heap.size (fun _ => True) (.slice B x.f3.length d) x.f3 ∧ Below W1.heap.size W1 W2 from fun W1 h => rclone_any x A c W1 (small_nod hS) (hr W1 h))
  have HMP := Aside0.mk (show ∀ (B : Option Addr) (d : Nat) (W1 : World), Rd W1 B d x → Calls Tryd.prog 22 #[.agg #[.int .i64 x.f0, .string x.f1, .string x.f2, .slice B x.f3.length d], .func (.func 23) #[] #[]] W1 fun e w' =>
      ∃ v3, e = .returned (.agg #[.int .i64 (mapE countF x).f0, .string (mapE countF x).f1, .string (mapE countF x).f2, v3]) ∧ Kd.R kE 24 w' W1.heap.size (fun _ => True) v3 (mapE countF x).f3 ∧ Below W1.heap.size W1 w' from fun B d W1 h => map_any 23 countF count_F (enters_of Tryd.func23 (by kernel_rfl) rfl) 1000000 x (small_nod hS) (Nat.le_refl _) (small_str hS) B d W1 h)
  have HCE := Aside0.mk (show ∀ (B : Option Addr) (d : Nat) (W1 : World), Rd W1 B d x → Calls Tryd.prog 24 #[.agg #[.int .i64 x.f0, .string x.f1, .string x.f2, .slice B x.f3.length d]] W1 fun e w' => ∃ B5 d5, e = .returned (.agg #[.int .i64 x.f0, .string x.f1, .string x.f2, .slice B5 x.f3.length d5]) ∧ Kd.R kE 24 w' W1.heap.size (fun _ => True) (.slice B5 x.f3.length d5) x.f3 ∧ Below W1.heap.size W1 w' from fun B d W1 h => clone_any x B d W1 (small_nod hS) (small_str hS) h)
  have HMK := Aside0.mk (show ∀ (W1 : World), Rd W1 A c x → Calls Tryd.prog 25 #[.agg #[.int .i64 x.f0, .string x.f1, .string x.f2, .slice A x.f3.length c]] W1 fun e w' => ∃ B d, e = .returned (.agg #[.int .i64 (mapE countF x).f0, .string (mapE countF x).f1, .string (mapE countF x).f2, .slice B (mapE countF x).f3.length d]) ∧ Rd w' B d (mapE countF x) ∧ Below W1.heap.size W1 w' from fun W1 h => marked_any x A c W1 (small_nod hS) (small_str hS) h)
  have hnp : nodE (mapE countF x) ≤ 1000000 := by rw [(mapX_nod countF countF_kids).1]; exact small_nod hS
  have hsp : strE 100000 (mapE countF x) := (str_mono (by decide)).1 _ (map_str.1 x hS.2)
  have HCP := Aside0.mk (show ∀ (B B' : Option Addr) (d d' : Nat) (W1 : World), Rd W1 B d (mapE countF x) → Rd W1 B' d' (mapE countF x) → Calls Tryd.prog 17 #[.agg #[.int .i64 (mapE countF x).f0, .string (mapE countF x).f1, .string (mapE countF x).f2, .slice B (mapE countF x).f3.length d], .agg #[.int .i64 (mapE countF x).f0, .string (mapE countF x).f1, .string (mapE countF x).f2, .slice B' (mapE countF x).f3.length d']] W1 fun e w' => e = .returned (.int .i64 0) ∧ Below W1.heap.size W1 w' from fun B B' d d' W1 h1 h2 => by
    have h := rcompare_any (mapE countF x) (mapE countF x) B B' d d' W1 hnp hsp hnp hsp h1 h2
    rw [self_E] at h
    exact h)
  have HCX := Aside0.mk (show ∀ (B B' : Option Addr) (d d' : Nat) (W1 : World), Rd W1 B d x → Rd W1 B' d' x → Calls Tryd.prog 17 #[.agg #[.int .i64 x.f0, .string x.f1, .string x.f2, .slice B x.f3.length d], .agg #[.int .i64 x.f0, .string x.f1, .string x.f2, .slice B' x.f3.length d']] W1 fun e w' => e = .returned (.int .i64 0) ∧ Below W1.heap.size W1 w' from fun B B' d d' W1 h1 h2 => by
    have h := rcompare_any x x B B' d d' W1 (small_nod hS) (small_str hS) (small_nod hS) (small_str hS) h1 h2
    rw [self_E] at h
    exact h)
  have HCH := Aside0.mk (show ∀ (lo hi : Nat) (B : Option Addr) (d : Nat) (W1 : World), lo ≤ hi → hi ≤ W1.heap.size → Sh lo hi W1 1000000 (.slice B x.f3.length d) x.f3 → Calls Tryd.prog 26 #[.agg #[.int .i64 x.f0, .string x.f1, .string x.f2, .slice B x.f3.length d]] W1 fun e w' => e = .returned (.tuple #[]) ∧ IC lo hi W1 w' from fun lo hi B d W1 h1 h2 h3 =>
    change_any lo hi 1000000 x.f3 (by have := hS.1; rw [nod_eq] at this; omega) (Nat.le_refl _) B d x.f0 x.f1 x.f2 W1 h1 h2 h3)
  have HND := Aside0.mk (show nodL x.f3 < 1000000 from by have := hS.1; rw [nod_eq] at this; omega)
  obtain ⟨p, hp⟩ : ∃ p, p = mapE countF x := ⟨_, rfl⟩
  rw [← hp] at HMP HMK
  rw [← hp] at HCP
  obtain ⟨q0, q1, q2, q3⟩ := HZ.out W HX.out
  clear hS hr hg hs cf hR hG hb hk hsz hp hnp hsp
  go_enter Tryd.func7, Tryd.ntmps7
  go_upto_region 1 with fail
  rw [← hW, ← hgb]
  clear hW hgb
  go_upto_region 3 with (first
    | (go_at_call 8; with_reducible refine (HA.out _ HX.out).mono ?_; rintro e W1 ⟨rfl, h'⟩; replace HX := Aside0.mk h'; clear h' q0 q1 q2 q3; obtain ⟨q0, q1, q2, q3⟩ := HZ.out W1 HX.out)
    | (go_at_call 9; with_reducible refine (HF.out _ HX.out).mono ?_; rintro e W2 ⟨rfl, h'⟩; replace HX := Aside0.mk h'; clear h' q0 q1 q2 q3; obtain ⟨q0, q1, q2, q3⟩ := HZ.out W2 HX.out))
  go_upto_region 4 with (go_at_call 21; with_reducible refine (HCL.out _ HX.out).mono ?_; rintro e W3 ⟨B, d, rfl, hr3, h'⟩; have HR3 := Aside0.mk hr3; have HB3 := Aside0.mk h'; clear h' hr3 q0 q1 q2 q3)
  obtain ⟨X3, hX3, hb3, hx3, hs3, hk3⟩ := one_box HB3.out (.int .i64 x.f0) (.string x.f1) (.string x.f2) (.slice B x.f3.length d) 24
  rw [← hX3]
  obtain ⟨g3, hg3⟩ : ∃ g, g = W3.heap.size := ⟨_, rfl⟩
  rw [← hg3] at hk3 hs3 ⊢
  have HX3 := Aside0.mk (And.intro hg3 (And.intro hb3 (And.intro hs3 (And.intro hk3 (below_then HX.out HX.out.size hx3)))))
  have HRO := Aside0.mk (show ∀ W', Below X3.heap.size X3 W' → Rd W' B d x from fun W' h => (rd_made HR3.out).below (below_then hb3 hb3.size h))
  obtain ⟨q0, q1, q2, q3⟩ := cells4 hk3
  clear hX3 hg3 hb3 hx3 hs3 hk3
  have HMP3 := Aside0.mk (HMP.out B d X3 (HRO.out X3 (B0 X3)))
  go_upto_region 5 with (go_at_call 22; with_reducible refine (HMP3.out).mono ?_; clear HMP3; rintro e W4 ⟨v3, rfl, hr4, h'⟩; obtain ⟨B4, d4, e4⟩ := Kd.R_slice hr4; subst e4; have HR4 := Aside0.mk hr4; have HB4 := Aside0.mk h'; clear h' hr4 q0 q1 q2 q3)
  obtain ⟨X4, hX4, hb4, hx4, hs4, hk4⟩ := one_box HB4.out (.int .i64 p.f0) (.string p.f1) (.string p.f2) (.slice B4 p.f3.length d4) 24
  rw [← hX4]
  obtain ⟨g4, hg4⟩ : ∃ g, g = W4.heap.size := ⟨_, rfl⟩
  rw [← hg4] at hk4 hs4 ⊢
  have HX4 := Aside0.mk (And.intro hx4 hk4)
  have HRM := Aside0.mk (show ∀ W', Below X4.heap.size X4 W' → Rd W' B4 d4 p from fun W' h => (rd_made HR4.out).below (below_then hb4 hb4.size h))
  obtain ⟨q0, q1, q2, q3⟩ := cells4 (blk_below HX3.out.2.2.2.1 hx4)
  clear hX4 hg4 hb4 hx4 hs4 hk4
  have HCE4 := Aside0.mk (HCE.out B d X4 (HRO.out X4 HX4.out.1))
  go_upto_region 6 with (go_at_call 24; with_reducible refine (HCE4.out).mono ?_; clear HCE4; rintro e W5 ⟨B5, d5, rfl, hr5, h'⟩; have HR5 := Aside0.mk hr5; have HB5 := Aside0.mk h'; clear h' hr5 q0 q1 q2 q3)
  obtain ⟨X5, hX5, hb5, hx5, hs5, hk5⟩ := one_box HB5.out (.int .i64 x.f0) (.string x.f1) (.string x.f2) (.slice B5 x.f3.length d5) 24
  rw [← hX5]
  obtain ⟨g5, hg5⟩ : ∃ g, g = W5.heap.size := ⟨_, rfl⟩
  rw [← hg5] at hk5 hs5 ⊢
  have hx35 : Below X3.heap.size X3 X5 := below_then HX4.out.1 HX4.out.1.size hx5
  have hxW5 : Below W.heap.size W X5 := below_then HX3.out.2.2.2.2 HX3.out.2.2.2.2.size hx35
  have HX5 := Aside0.mk (And.intro hg5 (And.intro hb5 (And.intro hs5 (And.intro hk5 (And.intro hx5 (And.intro hx35 hxW5))))))
  have HLM := Aside0.mk (fun W' h => box_read (blk_below HX4.out.2 hx5) W' h)
  have HLO := Aside0.mk (fun W' h => box_read (blk_below HX3.out.2.2.2.1 hx35) W' h)
  have HLE := Aside0.mk (fun W' h => box_read (blk_below HK.out hxW5) W' h)
  have HRM5 := Aside0.mk (show ∀ W', Below X5.heap.size X5 W' → Rd W' B4 d4 p from fun W' h => HRM.out W' (below_then hx5 hx5.size h))
  have HRO5 := Aside0.mk (show ∀ W', Below X5.heap.size X5 W' → Rd W' B d x from fun W' h => HRO.out W' (below_then hx35 hx35.size h))
  have HRE5 := Aside0.mk (show ∀ W', Below X5.heap.size X5 W' → Rd W' A c x from fun W' h => HRD.out W' (below_then hxW5 hxW5.size h))
  have HGO := Aside0.mk (show ∀ y, Below X5.heap.size X5 y → Calls Tryd.prog 26 #[.agg #[.int .i64 x.f0, .string x.f1, .string x.f2, .slice B x.f3.length d]] y fun e Wc => e = .returned (.tuple #[]) ∧ (Wc.cell? ⟨gb, 0, none⟩ = some (.int .i64 x.f0) ∧ Wc.cell? ⟨gb, 1, none⟩ = some (.string x.f1) ∧ Wc.cell? ⟨gb, 2, none⟩ = some (.string x.f2) ∧ Wc.cell? ⟨gb, 3, none⟩ = some (.slice A x.f3.length c)) ∧ (Wc.cell? ⟨g5, 0, none⟩ = some (.int .i64 x.f0) ∧ Wc.cell? ⟨g5, 1, none⟩ = some (.string x.f1) ∧ Wc.cell? ⟨g5, 2, none⟩ = some (.string x.f2) ∧ Wc.cell? ⟨g5, 3, none⟩ = some (.slice B5 x.f3.length d5)) ∧ Rd Wc A c x ∧ Rd Wc B5 d5 x ∧ Below w.heap.size w Wc from fun y hy => by
    have h2 : Below W3.heap.size W3 y := below_then HX3.out.2.1 HX3.out.2.1.size (below_then hx35 hx35.size hy)
    have h23 := HB3.out.size
    have hsh : Sh W2.heap.size W3.heap.size W3 1000000 (.slice B x.f3.length d) x.f3 := sh_made (ok := fun k => True ∧ W2.heap.size ≤ k ∧ k < W3.heap.size ∧ ∃ q, q ∈ 24 :: kE.E ∧ ∃ cells, W3.heap[k]? = some (.cells cells q (0, 0))) (fun k hk => ⟨hk.2.1, hk.2.2.1⟩) 1000000 _ _ HND.out (Kd.R_bound HR3.out)
    refine (HCH.out W2.heap.size W3.heap.size B d y h23 h2.size (sh_ic (IC.of_below h23 h2) _ _ _ hsh)).mono ?_
    rintro e Wc ⟨rfl, hic⟩
    have hW2y : Below W2.heap.size W2 y := below_then HB3.out HB3.out.size h2
    have hW2c : Below W2.heap.size W2 Wc := hW2y.trans hic.below
    have hWc : Below W.heap.size W Wc := below_then HX.out HX.out.size hW2c
    have h5y : Below W5.heap.size W5 y := below_then hb5 hb5.size hy
    have h34 : W3.heap.size ≤ X4.heap.size := by have := HX3.out.2.1.size; have := HX4.out.1.size; omega
    have h45 := HB5.out.size
    refine ⟨rfl, HZ.out Wc hWc, cells4 (((hic.high g5 (by omega) (by have := hs5; have := hy.size; omega)).trans (blk_below hk5 hy))), HRD.out Wc hWc, ?_, below_then HBW.out.1 HBW.out.1.size hWc⟩
    have hV := Kd.V_step (w1 := Wc) (Kd.R_V (base' := 0) (Kd.R_bound HR5.out)) (fun k hk hlt => (hic.high k (by have := hk.2.1; omega) (Nat.lt_of_lt_of_le hlt h5y.size)).trans (h5y.block k hlt))
    exact ⟨(Kd.V_reads' hV).2.2, (Kd.V_reads' hV).2.1⟩)
  have HZO := Aside0.mk (fun y (hy : Below X5.heap.size X5 y) => cells4 (blk_below (blk_below HX3.out.2.2.2.1 hx35) hy))
  have H5 := Aside0.mk (B0 X5)
  clear hX5 hg5 hb5 hx5 hs5 hk5 hx35 hxW5
  clear HA HF HCL HMP HCE HRD HK HZ HR3 HB3 HR4 HB4 HR5 HB5 HX3 HX4 HRO HRM
  refine wp_region_held_drew (S := fun w' => Below X5.heap.size X5 w') (by kernel_rfl) (pw_below_drewN H5.out 1) (fun hHeld => ?_)
  refine wpAnyH_take (i := 0) (v := .agg #[.int .i64 p.f0, .string p.f1, .string p.f2, .slice B4 p.f3.length d4]) rfl (by kernel_rfl) (by kernel_rfl) (by kernel_rfl) (fun _ _ _ h => h) (yieldsIf_load (by rfl) 24 (.tmp 4) rfl (.agg #[.int .i64 p.f0, .string p.f1, .string p.f2, .slice B4 p.f3.length d4]) (fun w' h => HLM.out w' h)) hHeld ?_
  simp only [List.getElem_toArray, List.getElem_cons_succ, List.getElem_cons_zero, Act.put, List.setIfInBounds_toArray, List.set_cons_zero, List.set_cons_succ]
  refine wpAnyH_take (i := 1) (v := .agg #[.int .i64 x.f0, .string x.f1, .string x.f2, .slice A x.f3.length c]) rfl (by kernel_rfl) (by kernel_rfl) (by kernel_rfl) (fun _ _ _ h => h) (yieldsIf_load (by rfl) 24 (.tmp 1) rfl (.agg #[.int .i64 x.f0, .string x.f1, .string x.f2, .slice A x.f3.length c]) (fun w' h => HLE.out w' h)) hHeld ?_
  simp only [List.getElem_toArray, List.getElem_cons_succ, List.getElem_cons_zero, Act.put, List.setIfInBounds_toArray, List.set_cons_zero, List.set_cons_succ]
  refine wpAnyH_ready (rs := [2]) (by kernel_rfl) (by simp) ?_
  refine AllReadyH.cons rfl (fun K hK => ?_) AllReadyH.nil
  simp only [List.getElem_toArray, List.getElem_cons_succ, List.getElem_cons_zero]
  rw [if_pos (by rfl)]
  go_simp
  with_reducible refine (HMK.out _ (HRE5.out _ hHeld)).mono ?_
  rintro e_ y1 ⟨B6, d6, rfl, hr6, hb⟩
  have HR6 := Aside0.mk hr6
  clear hr6
  refine hK.out _ _ (below_step hHeld hb) (fun hHeld => ?_)
  clear hK K
  refine wpAnyH_ready (rs := [3]) (by kernel_rfl) (by simp) ?_
  refine AllReadyH.cons rfl (fun K hK => ?_) AllReadyH.nil
  simp only [List.getElem_toArray, List.getElem_cons_succ, List.getElem_cons_zero]
  rw [if_pos (by rfl)]
  go_simp
  with_reducible refine (HCP.out _ _ _ _ _ (HRM5.out _ hHeld) HR6.out).mono ?_
  rintro e_ y2 ⟨rfl, hb⟩
  refine hK.out _ _ (below_step hHeld hb) (fun hHeld => ?_)
  clear hK K
  refine wpAnyH_take (i := 4) (v := .bool true) rfl (by kernel_rfl) (by kernel_rfl) (by kernel_rfl) (fun _ _ _ h => h) (Or.inl ⟨by rfl, ?hy4⟩) hHeld ?_
  case hy4 => intro w' hSw; go_simp
  simp only [List.getElem_toArray, List.getElem_cons_succ, List.getElem_cons_zero, Act.put, List.setIfInBounds_toArray, List.set_cons_zero, List.set_cons_succ]
  refine wpAnyH_take (i := 5) (v := .bool true) rfl (by kernel_rfl) (by kernel_rfl) (by kernel_rfl) (fun _ _ _ h => h) (Or.inl ⟨by rfl, ?hy5⟩) hHeld ?_
  case hy5 => intro w' hSw; go_simp
  simp only [List.getElem_toArray, List.getElem_cons_succ, List.getElem_cons_zero, Act.put, List.setIfInBounds_toArray, List.set_cons_zero, List.set_cons_succ]
  refine wpAnyH_take (i := 6) (v := .agg #[.int .i64 x.f0, .string x.f1, .string x.f2, .slice B x.f3.length d]) rfl (by kernel_rfl) (by kernel_rfl) (by kernel_rfl) (fun _ _ _ h => h) (yieldsIf_load (by rfl) 24 (.tmp 3) rfl (.agg #[.int .i64 x.f0, .string x.f1, .string x.f2, .slice B x.f3.length d]) (fun w' h => HLO.out w' h)) hHeld ?_
  simp only [List.getElem_toArray, List.getElem_cons_succ, List.getElem_cons_zero, Act.put, List.setIfInBounds_toArray, List.set_cons_zero, List.set_cons_succ]
  refine wpAnyH_take (i := 7) (v := .agg #[.int .i64 x.f0, .string x.f1, .string x.f2, .slice A x.f3.length c]) rfl (by kernel_rfl) (by kernel_rfl) (by kernel_rfl) (fun _ _ _ h => h) (yieldsIf_load (by rfl) 24 (.tmp 1) rfl (.agg #[.int .i64 x.f0, .string x.f1, .string x.f2, .slice A x.f3.length c]) (fun w' h => HLE.out w' h)) hHeld ?_
  simp only [List.getElem_toArray, List.getElem_cons_succ, List.getElem_cons_zero, Act.put, List.setIfInBounds_toArray, List.set_cons_zero, List.set_cons_succ]
  refine wpAnyH_ready (rs := [8]) (by kernel_rfl) (by simp) ?_
  refine AllReadyH.cons rfl (fun K hK => ?_) AllReadyH.nil
  simp only [List.getElem_toArray, List.getElem_cons_succ, List.getElem_cons_zero]
  rw [if_pos (by rfl)]
  go_simp
  with_reducible refine (HCX.out _ _ _ _ _ (HRO5.out _ hHeld) (HRE5.out _ hHeld)).mono ?_
  rintro e_ y3 ⟨rfl, hb⟩
  refine hK.out _ _ (below_step hHeld hb) (fun hHeld => ?_)
  clear hK K
  refine wpAnyH_take (i := 9) (v := .bool true) rfl (by kernel_rfl) (by kernel_rfl) (by kernel_rfl) (fun _ _ _ h => h) (Or.inl ⟨by rfl, ?hy9⟩) hHeld ?_
  case hy9 => intro w' hSw; go_simp
  simp only [List.getElem_toArray, List.getElem_cons_succ, List.getElem_cons_zero, Act.put, List.setIfInBounds_toArray, List.set_cons_zero, List.set_cons_succ]
  refine wpAnyH_take (i := 10) (v := .bool true) rfl (by kernel_rfl) (by kernel_rfl) (by kernel_rfl) (fun _ _ _ h => h) (Or.inl ⟨by rfl, ?hy10⟩) hHeld ?_
  case hy10 => intro w' hSw; go_simp
  simp only [List.getElem_toArray, List.getElem_cons_succ, List.getElem_cons_zero, Act.put, List.setIfInBounds_toArray, List.set_cons_zero, List.set_cons_succ]
  refine wpAnyH_take (i := 11) (v := .bool true) rfl (by kernel_rfl) (by kernel_rfl) (by kernel_rfl) (fun _ _ _ h => h) (Or.inl ⟨by rfl, ?hy11⟩) hHeld ?_
  case hy11 => intro w' hSw; go_simp
  simp only [List.getElem_toArray, List.getElem_cons_succ, List.getElem_cons_zero, Act.put, List.setIfInBounds_toArray, List.set_cons_zero, List.set_cons_succ]
  refine wpAnyH_done (by kernel_rfl) ?_ _
  have HGY := Aside0.mk (HGO.out _ hHeld)
  obtain ⟨q0, q1, q2, q3⟩ := HZO.out _ hHeld
  clear hHeld
  go_wp2_with (first
    | (go_at_call 26; with_reducible refine (HGY.out).mono ?_; rintro e Wc ⟨rfl, ⟨a0, a1, a2, a3⟩, ⟨b0, b1, b2, b3⟩, hra, hrb, hb'⟩; have HRA := Aside0.mk hra; have HRB := Aside0.mk hrb; have HBC := Aside0.mk hb'; clear hra hrb hb' q0 q1 q2 q3)
    | (go_at_call 17; with_reducible refine (HCX.out _ _ _ _ _ HRB.out HRA.out).mono ?_; rintro e Wd ⟨rfl, hb'⟩; have HBD := Aside0.mk (below_then HBC.out HBC.out.size hb'); clear hb' a0 a1 a2 a3 b0 b1 b2 b3))
  go_ret
  exact ⟨rfl, HBD.out⟩
set_option maxRecDepth 100000 in
set_option maxHeartbeats 8000000 in
theorem maps_not_few (x : Ex) (A : Option Addr) (c : Nat) (hs : strE maxLen x) (cf : fewE x = false) (w : World) (hG : ResG w) (hR : Rd w A c x) :
    Calls Tryd.prog 7 #[.agg #[.int .i64 x.f0, .string x.f1, .string x.f2, .slice A x.f3.length c]] w fun e w' => e = .returned (.bool true) ∧ Below w.heap.size w w' := by
  obtain ⟨W, hW⟩ : ∃ W, W = w.alloc (.cells #[.int .i64 x.f0, .string x.f1, .string x.f2, .slice A x.f3.length c] 24) := ⟨_, rfl⟩
  have hb : Below w.heap.size w W := by rw [hW]; exact below_alloc (B0 w) _
  have hk : W.heap[w.heap.size]? = some (.cells #[.int .i64 x.f0, .string x.f1, .string x.f2, .slice A x.f3.length c] 24 (0, 0)) := by rw [hW]; exact blk_new w _
  obtain ⟨gb, hgb⟩ : ∃ g, g = w.heap.size := ⟨_, rfl⟩
  rw [← hgb] at hk
  have HBW := Aside0.mk hb
  have hg : ∀ W', Below W.heap.size W W' → ResG W' := fun W' h => hG.below (below_then hb hb.size h) hG.1
  have hr : ∀ W', Below W.heap.size W W' → Rd W' A c x := fun W' h => hR.below (below_then hb hb.size h)
  have HX := Aside0.mk (B0 W)
  have HZ := Aside0.mk (show ∀ W', Below W.heap.size W W' → (W'.cell? ⟨gb, 0, none⟩ = some (.int .i64 x.f0) ∧ W'.cell? ⟨gb, 1, none⟩ = some (.string x.f1) ∧ W'.cell? ⟨gb, 2, none⟩ = some (.string x.f2) ∧ W'.cell? ⟨gb, 3, none⟩ = some (.slice A x.f3.length c)) from fun W' h => cells4 (blk_below hk h))
  have HA := Aside0.mk (show ∀ W1, Below W.heap.size W W1 → Calls Tryd.prog 8 #[] W1 fun e W2 => e = .returned (.bool true) ∧ Below W.heap.size W W2 from fun W1 h => (awake_any W1 (hg W1 h)).mono fun e W2 ⟨h1, h2⟩ => ⟨h1, below_then h h.size h2⟩)
  have HF := Aside0.mk (show ∀ W1, Below W.heap.size W W1 → Calls Tryd.prog 9 #[.agg #[.int .i64 x.f0, .string x.f1, .string x.f2, .slice A x.f3.length c]] W1 fun e W2 => e = .returned (.bool false) ∧ Below W.heap.size W W2 from fun W1 h => (few_any x A c W1 hs (hr W1 h)).mono fun e W2 ⟨h1, h2⟩ => ⟨by rw [h1, cf], below_then h h.size h2⟩)
  obtain ⟨q0, q1, q2, q3⟩ := HZ.out W HX.out
  clear hr hg hs cf hR hG hb hk
  go_enter Tryd.func7, Tryd.ntmps7
  go_upto_region 1 with fail
  rw [← hW, ← hgb]
  clear hW hgb
  go_wp2_with (first
    | (go_at_call 8; with_reducible refine (HA.out _ HX.out).mono ?_; rintro e W1 ⟨rfl, h'⟩; replace HX := Aside0.mk h'; clear h' q0 q1 q2 q3; obtain ⟨q0, q1, q2, q3⟩ := HZ.out W1 HX.out)
    | (go_at_call 9; with_reducible refine (HF.out _ HX.out).mono ?_; rintro e W2 ⟨rfl, h'⟩; replace HX := Aside0.mk h'; clear h' q0 q1 q2 q3; obtain ⟨q0, q1, q2, q3⟩ := HZ.out W2 HX.out))
  go_ret
  exact ⟨rfl, below_then HBW.out HBW.out.size HX.out⟩
theorem row_maps (v0 : Value) (a0 : Ex) (W : World) {base : Nat} (hv0 : Value.okWide Tryd.prog W .any base 24 v0) (k0 : kE.K W a0 v0.cells.toList) (ok0 : strE maxLen a0) (hG : ResG W) :
    Calls Tryd.prog 7 #[v0] W fun e w' => e = .returned (.bool true) ∧ Below W.heap.size W w' := by
  obtain ⟨A, c, rfl, hR⟩ := expr_of hv0 k0
  by_cases cf : fewE a0 = true
  · exact maps_few a0 A c ok0 cf W hG hR
  · exact maps_not_few a0 A c ok0 (by simpa using cf) W hG hR
end Go.Proofs.YtikgngcdgejgjaaDoor.HExL5
