/- expr.Compare. -/
import Derived.Test.YtohimcpfmkgefaaDoorUEB
namespace Go.Proofs.YtohimcpfmkgefaaDoor.HExC
open Go.RowKit Go.Proofs.YtohimcpfmkgefaaDoorW.PrintWords Go.Proofs.YtohimcpfmkgefaaDoor.HLib Go.Proofs.YtohimcpfmkgefaaDoor.HGr Go.Proofs.YtohimcpfmkgefaaDoor.HNameP Go.Proofs.YtohimcpfmkgefaaDoor.HName Go.Proofs.YtohimcpfmkgefaaDoor.HPr Go.Proofs.YtohimcpfmkgefaaDoor.HPe Go.Proofs.YtohimcpfmkgefaaDoor.HExP Go.Proofs.YtohimcpfmkgefaaDoor.HExR Go.Proofs.YtohimcpfmkgefaaDoor.HExQ Go.Proofs.YtohimcpfmkgefaaDoor.HExL Go.Proofs.YtohimcpfmkgefaaDoor.HExA Go.Proofs.YtohimcpfmkgefaaDoor.HExF Go.Proofs.YtohimcpfmkgefaaDoor.HExW Go.Proofs.YtohimcpfmkgefaaDoor.HExI Go.Proofs.YtohimcpfmkgefaaDoor.HExT
open Go.Proofs.YtohimcpfmkgefaaDoor.PSchemaAllows
set_option linter.unusedVariables false
set_option linter.unusedSimpArgs false

/-- The first that is not zero. -/
def orL : List Int → Int
  | [] => 0
  | x :: l => if x = 0 then orL l else x
theorem or_l0 (l : List Int) (hl : l.length ≤ 1000) : ∀ (d j k : Nat), l.length - j = d → d < k → j ≤ l.length → cmp_Or_int.l0 k 0 l (l.length : Int) j = some (orL (l.drop j)) := by
  intro d
  induction d with
  | zero =>
    intro j k hd hk hj
    obtain ⟨k, rfl⟩ : ∃ k', k = k' + 1 := ⟨k - 1, by omega⟩
    rw [cmp_Or_int.l0, if_neg (by omega), List.drop_of_length_le (by omega)]
    rfl
  | succ d ih =>
    intro j k hd hk hj
    obtain ⟨k, rfl⟩ : ∃ k', k = k' + 1 := ⟨k - 1, by omega⟩
    have hjl : j < l.length := by omega
    have hr : rd l (j : Int) = l[j] := by simp [rd, hjl]
    have hw : wrap64 ((j : Int) + 1) = ((j + 1 : Nat) : Int) := by rw [IntWalk.wrap64_in _ (by omega)]; omega
    rw [cmp_Or_int.l0, if_pos (by omega), if_pos (by omega), if_pos (by omega), hr, hw, List.drop_eq_getElem_cons hjl, orL, ih (j + 1) k (by omega) (by omega) (by omega)]
    split <;> rfl
theorem or_eq (l : List Int) (hl : l.length ≤ 1000) : cmp_Or_int.f 1001 l = some (orL l) := or_l0 l hl _ 0 1001 rfl (by omega) (by omega)
theorem or_any (A : Option Addr) (c : Nat) (l : List Int) (w : World) (h : Kd.C (Kd.int .i64) w A l.length l) (hc : l.length ≤ c) (hl : l.length ≤ 1000) : Calls Tryd.prog 48 #[.slice A l.length c] w fun e w' => e = .returned (.int .i64 (orL l)) ∧ Gr w w' :=
  (cmp_Or_int.calls 1001 A c l _ w h hc (or_eq l hl)).mono fun e w' ⟨he, hw⟩ => ⟨he, Gr.drawn0 hw⟩
theorem lit_C (w : World) (xs : List Int) (hl : xs.length ≤ 1000) : Kd.C (Kd.int .i64) (w.alloc (.cells (nums .i64 xs).toArray 3)) (some ⟨w.heap.size, 0, none⟩) xs.length xs :=
  (Kd.R_reads' (Kd.R_of_own (h1 := fun _ => rfl) (ok := fun _ => True) (own_lit w 0 3 .i64 xs (Nat.zero_le _) (by omega)) (fun _ _ => trivial))).2.2
theorem cmpi_any (a b : Int) (w : World) : Calls Tryd.prog 49 #[.int .i64 a, .int .i64 b] w fun e w' => e = .returned (.int .i64 (cmpI a b)) ∧ Gr w w' :=
  (cmp_Compare_int.calls a b (cmpI a b) w (by
    have h : ∀ z : Int, cmp_isNaN_int.f z = some false := fun z => by unfold cmp_isNaN_int.f; simp
    unfold cmp_Compare_int.f cmpI
    rw [h, h, Option.bind_some, Option.bind_some, if_neg (by simp), if_neg (by simp)]
    by_cases h1 : a < b
    · rw [if_pos h1, if_pos h1]
    · rw [if_neg h1, if_neg h1]
      by_cases h2 : b < a
      · rw [if_pos h2, if_pos h2]
      · rw [if_neg h2, if_neg h2])).mono fun e w' ⟨he, hw⟩ => ⟨he, Gr.drawn0 hw⟩
theorem load_int {P : Program} {W : World} {a : Addr} {x : Int} {k : IntKind} {ty : TypeId} (hu : P.underlying ty = some (.int k)) (h : W.cell? a = some (.int k x)) :
    (Instr.loadAt ty (.pointer (some a))).run P W = .ok (.int k x) W := by
  simp [Instr.loadAt, Instr.sureAddr, loadVar, isAgg, run_underlying hu, Result.andThen, run_load, h]

/-- What a comparison handed to CompareFunc answers. -/
def CmpE (ks ls : List Ex) (w : World) : Prop :=
  ∀ (j : Nat) (h : j < ks.length) (h2 : j < ls.length) (B B' : Option Addr) (d d' : Nat) (W : World), Below w.heap.size w W → Rd W B d ks[j] → Rd W B' d' ls[j] →
    Calls Tryd.prog 37 #[.agg #[.int .i64 ks[j].f0, .string ks[j].f1, .string ks[j].f2, .slice B ks[j].f3.length d], .agg #[.int .i64 ls[j].f0, .string ls[j].f1, .string ls[j].f2, .slice B' ls[j].f3.length d']] W fun e w' => e = .returned (.int .i64 (cmpE ks[j] ls[j])) ∧ Below W.heap.size W w'
set_option maxRecDepth 20000 in
set_option maxHeartbeats 8000000 in
theorem comparefunc_any (ks ls : List Ex) (A A' : Option Addr) (c c' : Nat) (w : World) (hl : ks.length ≤ 1000000) (hl2 : ls.length ≤ 1000000) (hC : Kd.C kE w A ks.length ks) (hC2 : Kd.C kE w A' ls.length ls) (hp : CmpE ks ls w) :
    Calls Tryd.prog 51 #[.slice A ks.length c, .slice A' ls.length c', .func (.func 37) #[] #[]] w fun e w' => e = .returned (.int .i64 (cmpX ks ls)) ∧ Below w.heap.size w w' := by
  have HC := Aside0.mk hC
  have HC2 := Aside0.mk hC2
  have HP := Aside0.mk hp
  have HL := Aside0.mk (And.intro hl hl2)
  obtain ⟨n, hn⟩ : ∃ n, n = ks.length := ⟨_, rfl⟩
  obtain ⟨m, hm⟩ : ∃ n, n = ls.length := ⟨_, rfl⟩
  have HN := Aside0.mk (And.intro hn hm)
  rw [← hn, ← hm]
  have eg := enters_of Tryd.func37 (by kernel_rfl) rfl
  clear hC hC2 hp hl hl2 hn hm
  go_enter Tryd.func51, Tryd.ntmps51
  go_wp2
  go_loopg [13] n (fun gg s13 wr => ∃ kk : Nat, s13 = .int .i64 kk ∧ Aside0 (gg + kk = n) ∧ Aside0 (kk ≤ m) ∧ Aside0 (Below w.heap.size w wr) ∧ Aside0 (cmpX ks ls = cmpX (ks.drop kk) (ls.drop kk)))
  case atStart => exact ⟨0, rfl, ⟨by omega⟩, ⟨Nat.zero_le _⟩, ⟨B0 w⟩, ⟨rfl⟩⟩
  case round =>
    obtain ⟨kk, rfl, HG, HM, BW, HE⟩ := hrel
    by_cases hlt : kk < n
    · have f3 : (kk : Int) < (n : Int) := by omega
      have f1 : decide ((kk : Int) < (n : Int)) = true := decide_eq_true f3
      have f5 : (0 : Int) ≤ (kk : Int) := by omega
      have f4 : IntKind.i64.wrap ((kk : Int) + 1) = (kk : Int) + 1 := by rw [IntKind.wrap_i64]; have := HL.out; have := HN.out; omega
      have hj : kk < ks.length := by have := HN.out; omega
      obtain ⟨ad, B, d, hA, hR, hcs⟩ := kid_cells HC.out kk hj
      obtain ⟨a1, a2, a3, a4⟩ := hcs wr BW.out
      subst hA
      obtain ⟨W1, hW1⟩ : ∃ W1, W1 = wr.alloc (.cells #[.int .i64 ks[kk].f0, .string ks[kk].f1, .string ks[kk].f2, .slice B ks[kk].f3.length d] 25) := ⟨_, rfl⟩
      have hb1 : Below wr.heap.size wr W1 := by rw [hW1]; exact below_alloc (B0 wr) _
      have hx1 : Below w.heap.size w W1 := below_then BW.out BW.out.size hb1
      have hk1 : W1.heap[wr.heap.size]? = some (.cells #[.int .i64 ks[kk].f0, .string ks[kk].f1, .string ks[kk].f2, .slice B ks[kk].f3.length d] 25 (0, 0)) := by rw [hW1]; exact blk_new wr _
      have hs1 : W1.heap.size = wr.heap.size + 1 := by rw [hW1]; exact World.size_alloc _ _
      by_cases cm : kk < m
      · have g3 : ¬ (m : Int) ≤ (kk : Int) := by omega
        have g1 : decide ((m : Int) ≤ (kk : Int)) = false := decide_eq_false g3
        have g4 : (kk : Int) < (m : Int) := by omega
        have hj2 : kk < ls.length := by have := HN.out; omega
        obtain ⟨ad2, B2, d2, hA2, hR2, hcs2⟩ := kid_cells HC2.out kk hj2
        subst hA2
        obtain ⟨b1, b2, b3, b4⟩ := hcs2 W1 hx1
        obtain ⟨W2, hW2⟩ : ∃ W2, W2 = W1.alloc (.cells #[.int .i64 ls[kk].f0, .string ls[kk].f1, .string ls[kk].f2, .slice B2 ls[kk].f3.length d2] 25) := ⟨_, rfl⟩
        have hb2 : Below W1.heap.size W1 W2 := by rw [hW2]; exact below_alloc (B0 W1) _
        have hx2 : Below w.heap.size w W2 := below_then hx1 hx1.size hb2
        have hk2 : W2.heap[W1.heap.size]? = some (.cells #[.int .i64 ls[kk].f0, .string ls[kk].f1, .string ls[kk].f2, .slice B2 ls[kk].f3.length d2] 25 (0, 0)) := by rw [hW2]; exact blk_new W1 _
        have hk12 := blk_below hk1 hb2
        have hcall := HP.out kk hj hj2 B B2 d d2 W2 hx2 (hR.below hx2) (hR2.below hx2)
        have hdx : cmpX (ks.drop kk) (ls.drop kk) = orI (cmpE ks[kk] ls[kk]) (cmpX (ks.drop (kk + 1)) (ls.drop (kk + 1))) := by
          rw [List.drop_eq_getElem_cons hj, List.drop_eq_getElem_cons hj2, cmpX]
        obtain ⟨x, hx⟩ : ∃ x, x = ks[kk] := ⟨_, rfl⟩
        obtain ⟨y, hy⟩ : ∃ x, x = ls[kk] := ⟨_, rfl⟩
        rw [← hx, ← hy] at hcall hdx
        rw [← hx] at hk12 hW1 a1 a2 a3 a4
        rw [← hy] at hk2 hW2 b1 b2 b3 b4
        obtain ⟨v, hv⟩ : ∃ v, v = cmpE x y := ⟨_, rfl⟩
        rw [← hv] at hcall hdx
        have HD := Aside0.mk (HE.out.trans hdx)
        have HX2 := Aside0.mk hx2
        have HCALL := Aside0.mk hcall
        obtain ⟨nx, hnx⟩ : ∃ v, v = x.f3.length := ⟨_, rfl⟩
        obtain ⟨ny, hny⟩ : ∃ v, v = y.f3.length := ⟨_, rfl⟩
        rw [← hnx, ← hny] at HCALL
        rw [← hnx] at hk12 hW1 a4
        rw [← hny] at hk2 hW2 b4
        obtain ⟨g, hg⟩ : ∃ g, g = wr.heap.size := ⟨_, rfl⟩
        obtain ⟨g', hg'⟩ : ∃ g, g = W1.heap.size := ⟨_, rfl⟩
        rw [← hg] at hk12
        rw [← hg'] at hk2
        obtain ⟨c0, c1, c2, c3⟩ := cells4 hk12
        obtain ⟨d0, d1, d2', d3⟩ := cells4 hk2
        have HGS := Aside0.mk (And.intro hW1 (And.intro hg (And.intro hW2 hg')))
        clear hcall hdx hx hy hv hnx hny hk12 hk2 hk1 hb1 hb2 hx1 hx2 hR hR2 hcs hcs2 hj hj2 HE hs1 hW1 hW2 hg hg'
        go_upto_region 6 with fail
        rw [← HGS.out.1, ← HGS.out.2.1]
        go_upto_region 7 with fail
        rw [← HGS.out.2.2.1, ← HGS.out.2.2.2]
        clear HGS a1 a2 a3 a4 b1 b2 b3 b4
        by_cases c0v : v = 0
        · subst c0v
          go_wp2_with (refine (HCALL.out).mono ?_; clear HCALL; rintro e w' ⟨rfl, hb'⟩; have HB2 := Aside0.mk hb'; clear hb')
          go_roundg (n - (kk + 1))
          case measure => have := HG.out; omega
          case rel => exact ⟨kk + 1, by first | rfl | go_num, ⟨by have := HG.out; omega⟩, ⟨by omega⟩, ⟨below_then HX2.out HX2.out.size HB2.out⟩, ⟨by rw [HD.out]; rfl⟩⟩
        · have e0 : (v != 0) = true := by simpa using c0v
          have e1 : (v == 0) = false := by simpa using c0v
          go_wp2_with (refine (HCALL.out).mono ?_; clear HCALL; rintro e w' ⟨rfl, hb'⟩; have HB2 := Aside0.mk hb'; clear hb')
          go_ret
          refine ⟨?_, below_then HX2.out HX2.out.size HB2.out⟩
          rw [HD.out, show orI v (cmpX (ks.drop (kk + 1)) (ls.drop (kk + 1))) = v from if_neg c0v]
          rfl
      · obtain rfl : kk = m := by have := HM.out; omega
        have g3 : (kk : Int) ≤ (kk : Int) := by omega
        have g1 : decide ((kk : Int) ≤ (kk : Int)) = true := decide_eq_true g3
        have HD := Aside0.mk (show cmpX ks ls = 1 from by
          rw [HE.out, List.drop_eq_getElem_cons hj, show ls.drop kk = [] from by rw [HN.out.2]; exact List.drop_length, cmpX])
        have HX1 := Aside0.mk hx1
        obtain ⟨x, hx⟩ : ∃ x, x = ks[kk] := ⟨_, rfl⟩
        rw [← hx] at hW1 a1 a2 a3 a4
        obtain ⟨nx, hnx⟩ : ∃ v, v = x.f3.length := ⟨_, rfl⟩
        rw [← hnx] at hW1 a4
        have HGS := Aside0.mk hW1
        clear hk1 hx hnx hx1 hb1 hs1 hR hcs hj hW1
        go_upto_region 4 with fail
        rw [← HGS.out]
        go_wp2
        go_ret
        exact ⟨by rw [HD.out]; rfl, HX1.out⟩
    · obtain rfl : kk = n := by have := HG.out; omega
      have f3 : ¬ (kk : Int) < (kk : Int) := by omega
      have hd0 : ks.drop kk = [] := by rw [HN.out.1]; exact List.drop_length
      have HD := Aside0.mk (show cmpX ks ls = cmpX [] (ls.drop kk) from by rw [HE.out, hd0])
      clear hd0
      by_cases cm : kk < m
      · have g3 : (kk : Int) < (m : Int) := by omega
        have g1 : decide ((kk : Int) < (m : Int)) = true := decide_eq_true g3
        have HV := Aside0.mk (show cmpX ks ls = -1 from by
          rw [HD.out]
          have hj2 : kk < ls.length := by have := HN.out; omega
          rw [List.drop_eq_getElem_cons hj2, cmpX])
        go_wp2
        go_ret
        exact ⟨by rw [HV.out]; rfl, BW.out⟩
      · obtain rfl : kk = m := by have := HM.out; omega
        have HV := Aside0.mk (show cmpX ks ls = 0 from by
          rw [HD.out, show ls.drop kk = [] from by rw [HN.out.2]; exact List.drop_length, cmpX])
        go_wp2
        go_ret
        exact ⟨by rw [HV.out]; rfl, BW.out⟩

set_option maxRecDepth 20000 in
set_option maxHeartbeats 8000000 in
theorem compare_any : ∀ (q : Nat) (x : Ex), nodE x ≤ q → q ≤ 1000000 → ∀ (y : Ex), nodE y ≤ 1000000 → ∀ (A A' : Option Addr) (c c' : Nat) (w : World), Rd w A c x → Rd w A' c' y →
    Calls Tryd.prog 37 #[.agg #[.int .i64 x.f0, .string x.f1, .string x.f2, .slice A x.f3.length c], .agg #[.int .i64 y.f0, .string y.f1, .string y.f2, .slice A' y.f3.length c']] w fun e w' => e = .returned (.int .i64 (cmpE x y)) ∧ Below w.heap.size w w' := by
  intro q
  induction q with
  | zero => intro x h; rw [nod_eq] at h; omega
  | succ q ih =>
    intro x hq hq2 y hy A A' c c' w hR hR2
    have hlx : x.f3.length ≤ 1000000 := by have := len_nod x.f3; rw [nod_eq] at hq; omega
    have hly : y.f3.length ≤ 1000000 := by have := len_nod y.f3; rw [nod_eq] at hy; omega
    obtain ⟨W, hW⟩ : ∃ W, W = (w.alloc (.cells #[.int .i64 x.f0, .string x.f1, .string x.f2, .slice A x.f3.length c] 25)).alloc (.cells #[.int .i64 y.f0, .string y.f1, .string y.f2, .slice A' y.f3.length c'] 25) := ⟨_, rfl⟩
    have hgw : Gr w W := by rw [hW]; exact ((Gr.refl w).alloc _).alloc _
    have hbw := hgw.below
    have HBW := Aside0.mk hbw
    have HSZ := Aside0.mk (show W.heap.size = w.heap.size + 2 from by rw [hW, World.size_alloc, World.size_alloc])
    have HX := Aside0.mk (show W.heap[w.heap.size]? = some (.cells #[.int .i64 x.f0, .string x.f1, .string x.f2, .slice A x.f3.length c] 25 (0, 0)) from by rw [hW]; exact blk_alloc (blk_new w _) _)
    have HY := Aside0.mk (show W.heap[w.heap.size + 1]? = some (.cells #[.int .i64 y.f0, .string y.f1, .string y.f2, .slice A' y.f3.length c'] 25 (0, 0)) from by
      rw [hW]
      have h := blk_new (w.alloc (.cells #[.int .i64 x.f0, .string x.f1, .string x.f2, .slice A x.f3.length c] 25)) (.cells #[.int .i64 y.f0, .string y.f1, .string y.f2, .slice A' y.f3.length c'] 25)
      rw [World.size_alloc] at h
      exact h)
    have HCF := Aside0.mk (show ∀ W', Below W.heap.size W W' → Calls Tryd.prog 51 #[.slice A x.f3.length c, .slice A' y.f3.length c', .func (.func 37) #[] #[]] W' fun e w' => e = .returned (.int .i64 (cmpX x.f3 y.f3)) ∧ Below W'.heap.size W' w' from fun W' hb => by
      have hb2 := below_then hbw hbw.size hb
      refine comparefunc_any x.f3 y.f3 A A' c c' W' hlx hly (hR.below hb2).1 (hR2.below hb2).1 ?_
      intro j hj hj2 B B' d d' W2 hW2 r1 r2
      have n1 : nodE x.f3[j] ≤ q := by have := nod_mem (List.getElem_mem hj); rw [nod_eq] at hq; omega
      have n2 : nodE y.f3[j] ≤ 1000000 := by have := nod_mem (List.getElem_mem hj2); rw [nod_eq] at hy; omega
      exact ih _ n1 (by omega) _ n2 B B' d d' W2 r1 r2)
    rw [cmp_eq]
    obtain ⟨g, hg⟩ : ∃ g, g = w.heap.size := ⟨_, rfl⟩
    rw [← hg] at HX HSZ HY
    obtain ⟨nx, hnx⟩ : ∃ v, v = x.f3.length := ⟨_, rfl⟩
    obtain ⟨ny, hny⟩ : ∃ v, v = y.f3.length := ⟨_, rfl⟩
    obtain ⟨cx, hcx⟩ : ∃ v, v = cmpX x.f3 y.f3 := ⟨_, rfl⟩
    rw [← hnx] at HX
    rw [← hny] at HY
    rw [← hnx, ← hny] at hW
    rw [← hnx, ← hny, ← hcx] at HCF
    rw [← hnx, ← hny, ← hcx]
    obtain ⟨k, hk⟩ : ∃ v, v = x.f0 := ⟨_, rfl⟩
    obtain ⟨k', hk'⟩ : ∃ v, v = y.f0 := ⟨_, rfl⟩
    obtain ⟨a, ha⟩ : ∃ v, v = x.f1 := ⟨_, rfl⟩
    obtain ⟨a', ha'⟩ : ∃ v, v = y.f1 := ⟨_, rfl⟩
    obtain ⟨b, hb⟩ : ∃ v, v = x.f2 := ⟨_, rfl⟩
    obtain ⟨b', hb'⟩ : ∃ v, v = y.f2 := ⟨_, rfl⟩
    rw [← hk, ← ha, ← hb] at HX
    rw [← hk', ← ha', ← hb'] at HY
    rw [← hk, ← ha, ← hb, ← hk', ← ha', ← hb'] at hW
    rw [← hk, ← ha, ← hb, ← hk', ← ha', ← hb']
    obtain ⟨r, hr⟩ : ∃ r, r = orI (cmpI k k') (orI (HCmp.cmpS a a') (orI (HCmp.cmpS b b') cx)) := ⟨_, rfl⟩
    rw [← hr]
    have HRR := Aside0.mk hr
    clear hr ih hR hR2 hlx hly hq hq2 hy hgw hbw hnx hny hcx hk hk' ha ha' hb hb'
    go_enter Tryd.func37, Tryd.ntmps37
    go_upto_region 1 with fail
    rw [← hW, ← hg]
    clear hW hg
    refine wp_region_held_drew (S := fun w' => Gr W w') (by kernel_rfl) (Gr.refl W).drew (fun hHeld => ?_)
    refine wpAnyH_take (i := 0) (v := .pointer (some ⟨g, 0, none⟩)) rfl (by kernel_rfl) (by kernel_rfl) (by kernel_rfl) (fun _ _ _ h => h) (Or.inl ⟨by rfl, ?hy0⟩) hHeld ?_
    case hy0 => intro w' hSw; go_simp
    simp only [List.getElem_toArray, List.getElem_cons_succ, List.getElem_cons_zero, Act.put, List.setIfInBounds_toArray, List.set_cons_zero, List.set_cons_succ]
    refine wpAnyH_take (i := 1) (v := .int .i64 k) rfl (by kernel_rfl) (by kernel_rfl) (by kernel_rfl) (fun _ _ _ h => h) (yieldsIf_load (by rfl) 3 (.tmp 6) rfl (.int .i64 k) (fun w' h => load_int Tryd.underlying3 (h.cell (by show g < W.heap.size; rw [HSZ.out]; omega) ((blk_cell HX.out 0).trans rfl)))) hHeld ?_
    simp only [List.getElem_toArray, List.getElem_cons_succ, List.getElem_cons_zero, Act.put, List.setIfInBounds_toArray, List.set_cons_zero, List.set_cons_succ]
    refine wpAnyH_take (i := 2) (v := .pointer (some ⟨g + 1, 0, none⟩)) rfl (by kernel_rfl) (by kernel_rfl) (by kernel_rfl) (fun _ _ _ h => h) (Or.inl ⟨by rfl, ?hy2⟩) hHeld ?_
    case hy2 => intro w' hSw; go_simp
    simp only [List.getElem_toArray, List.getElem_cons_succ, List.getElem_cons_zero, Act.put, List.setIfInBounds_toArray, List.set_cons_zero, List.set_cons_succ]
    refine wpAnyH_take (i := 3) (v := .int .i64 k') rfl (by kernel_rfl) (by kernel_rfl) (by kernel_rfl) (fun _ _ _ h => h) (yieldsIf_load (by rfl) 3 (.tmp 8) rfl (.int .i64 k') (fun w' h => load_int Tryd.underlying3 (h.cell (by show g + 1 < W.heap.size; rw [HSZ.out]; omega) ((blk_cell HY.out 0).trans rfl)))) hHeld ?_
    simp only [List.getElem_toArray, List.getElem_cons_succ, List.getElem_cons_zero, Act.put, List.setIfInBounds_toArray, List.set_cons_zero, List.set_cons_succ]
    refine wpAnyH_take (i := 5) (v := .pointer (some ⟨g, 1, none⟩)) rfl (by kernel_rfl) (by kernel_rfl) (by kernel_rfl) (fun _ _ _ h => h) (Or.inl ⟨by rfl, ?hy5⟩) hHeld ?_
    case hy5 => intro w' hSw; go_simp
    simp only [List.getElem_toArray, List.getElem_cons_succ, List.getElem_cons_zero, Act.put, List.setIfInBounds_toArray, List.set_cons_zero, List.set_cons_succ]
    refine wpAnyH_take (i := 6) (v := .string a) rfl (by kernel_rfl) (by kernel_rfl) (by kernel_rfl) (fun _ _ _ h => h) (yieldsIf_load (by rfl) 9 (.tmp 11) rfl (.string a) (fun w' h => load_str Tryd.underlying9 (h.cell (by show g < W.heap.size; rw [HSZ.out]; omega) ((blk_cell HX.out 1).trans rfl)))) hHeld ?_
    simp only [List.getElem_toArray, List.getElem_cons_succ, List.getElem_cons_zero, Act.put, List.setIfInBounds_toArray, List.set_cons_zero, List.set_cons_succ]
    refine wpAnyH_take (i := 7) (v := .pointer (some ⟨g + 1, 1, none⟩)) rfl (by kernel_rfl) (by kernel_rfl) (by kernel_rfl) (fun _ _ _ h => h) (Or.inl ⟨by rfl, ?hy7⟩) hHeld ?_
    case hy7 => intro w' hSw; go_simp
    simp only [List.getElem_toArray, List.getElem_cons_succ, List.getElem_cons_zero, Act.put, List.setIfInBounds_toArray, List.set_cons_zero, List.set_cons_succ]
    refine wpAnyH_take (i := 8) (v := .string a') rfl (by kernel_rfl) (by kernel_rfl) (by kernel_rfl) (fun _ _ _ h => h) (yieldsIf_load (by rfl) 9 (.tmp 13) rfl (.string a') (fun w' h => load_str Tryd.underlying9 (h.cell (by show g + 1 < W.heap.size; rw [HSZ.out]; omega) ((blk_cell HY.out 1).trans rfl)))) hHeld ?_
    simp only [List.getElem_toArray, List.getElem_cons_succ, List.getElem_cons_zero, Act.put, List.setIfInBounds_toArray, List.set_cons_zero, List.set_cons_succ]
    refine wpAnyH_take (i := 10) (v := .pointer (some ⟨g, 2, none⟩)) rfl (by kernel_rfl) (by kernel_rfl) (by kernel_rfl) (fun _ _ _ h => h) (Or.inl ⟨by rfl, ?hy10⟩) hHeld ?_
    case hy10 => intro w' hSw; go_simp
    simp only [List.getElem_toArray, List.getElem_cons_succ, List.getElem_cons_zero, Act.put, List.setIfInBounds_toArray, List.set_cons_zero, List.set_cons_succ]
    refine wpAnyH_take (i := 11) (v := .string b) rfl (by kernel_rfl) (by kernel_rfl) (by kernel_rfl) (fun _ _ _ h => h) (yieldsIf_load (by rfl) 9 (.tmp 16) rfl (.string b) (fun w' h => load_str Tryd.underlying9 (h.cell (by show g < W.heap.size; rw [HSZ.out]; omega) ((blk_cell HX.out 2).trans rfl)))) hHeld ?_
    simp only [List.getElem_toArray, List.getElem_cons_succ, List.getElem_cons_zero, Act.put, List.setIfInBounds_toArray, List.set_cons_zero, List.set_cons_succ]
    refine wpAnyH_take (i := 12) (v := .pointer (some ⟨g + 1, 2, none⟩)) rfl (by kernel_rfl) (by kernel_rfl) (by kernel_rfl) (fun _ _ _ h => h) (Or.inl ⟨by rfl, ?hy12⟩) hHeld ?_
    case hy12 => intro w' hSw; go_simp
    simp only [List.getElem_toArray, List.getElem_cons_succ, List.getElem_cons_zero, Act.put, List.setIfInBounds_toArray, List.set_cons_zero, List.set_cons_succ]
    refine wpAnyH_take (i := 13) (v := .string b') rfl (by kernel_rfl) (by kernel_rfl) (by kernel_rfl) (fun _ _ _ h => h) (yieldsIf_load (by rfl) 9 (.tmp 18) rfl (.string b') (fun w' h => load_str Tryd.underlying9 (h.cell (by show g + 1 < W.heap.size; rw [HSZ.out]; omega) ((blk_cell HY.out 2).trans rfl)))) hHeld ?_
    simp only [List.getElem_toArray, List.getElem_cons_succ, List.getElem_cons_zero, Act.put, List.setIfInBounds_toArray, List.set_cons_zero, List.set_cons_succ]
    refine wpAnyH_ready (rs := [4]) (by kernel_rfl) (by simp) ?_
    refine AllReadyH.cons rfl (fun K hK => ?_) AllReadyH.nil
    simp only [List.getElem_toArray, List.getElem_cons_succ, List.getElem_cons_zero]
    rw [if_pos (by rfl)]
    go_simp
    refine (cmpi_any k k' _).mono ?_
    rintro e_ x1 ⟨rfl, hx1⟩
    refine hK.out _ _ (hHeld.trans hx1) (fun hHeld => ?_)
    clear hK K
    refine wpAnyH_ready (rs := [9]) (by kernel_rfl) (by simp) ?_
    refine AllReadyH.cons rfl (fun K hK => ?_) AllReadyH.nil
    simp only [List.getElem_toArray, List.getElem_cons_succ, List.getElem_cons_zero]
    rw [if_pos (by rfl)]
    go_simp
    clear hx1
    refine (HCmp.cmp_any a a' _).mono ?_
    rintro e_ x2 ⟨rfl, rfl⟩
    refine hK.out _ _ (hHeld) (fun hHeld => ?_)
    clear hK K
    refine wpAnyH_ready (rs := [14]) (by kernel_rfl) (by simp) ?_
    refine AllReadyH.cons rfl (fun K hK => ?_) AllReadyH.nil
    simp only [List.getElem_toArray, List.getElem_cons_succ, List.getElem_cons_zero]
    rw [if_pos (by rfl)]
    go_simp
    refine (HCmp.cmp_any b b' _).mono ?_
    rintro e_ x3 ⟨rfl, rfl⟩
    refine hK.out _ _ (hHeld) (fun hHeld => ?_)
    clear hK K
    refine wpAnyH_ready (rs := [15]) (by kernel_rfl) (by simp) ?_
    refine AllReadyH.cons rfl (fun K hK => ?_) AllReadyH.nil
    simp only [List.getElem_toArray, List.getElem_cons_succ, List.getElem_cons_zero]
    rw [if_pos (by rfl)]
    go_simp
    refine hK.out _ _ (hHeld.alloc _) (fun hHeld => ?_)
    clear hK K
    refine wpAnyH_ready (rs := [16]) (by kernel_rfl) (by simp) ?_
    refine AllReadyH.cons rfl (fun K hK => ?_) AllReadyH.nil
    simp only [List.getElem_toArray, List.getElem_cons_succ, List.getElem_cons_zero]
    rw [if_pos (by rfl)]
    go_simp
    refine (or_any _ 3 [cmpI k k', HCmp.cmpS a a', HCmp.cmpS b b'] _ (lit_C x1 [cmpI k k', HCmp.cmpS a a', HCmp.cmpS b b'] (show (3 : Nat) ≤ 1000 by decide)) (show (3 : Nat) ≤ 3 by decide) (show (3 : Nat) ≤ 1000 by decide)).mono ?_
    rintro e_ x4 ⟨rfl, hx4⟩
    refine hK.out _ _ (hHeld.trans hx4) (fun hHeld => ?_)
    clear hK K
    refine wpAnyH_take (i := 17) (v := .int .i64 (orL [cmpI k k', HCmp.cmpS a a', HCmp.cmpS b b'])) rfl (by kernel_rfl) (by kernel_rfl) (by kernel_rfl) (fun _ _ _ h => h) (Or.inl ⟨by rfl, ?hy17⟩) hHeld ?_
    case hy17 => intro w' hSw; go_simp
    simp only [List.getElem_toArray, List.getElem_cons_succ, List.getElem_cons_zero, Act.put, List.setIfInBounds_toArray, List.set_cons_zero, List.set_cons_succ]
    refine wpAnyH_done (by kernel_rfl) ?_ _
    have HB4 := Aside0.mk hHeld.below
    clear hHeld hx4
    have hz1 := blk_below HX.out HB4.out
    have hz2 := blk_below HY.out HB4.out
    obtain ⟨c0, c1, c2, c3⟩ := cells4 hz1
    obtain ⟨d0, d1, d2, d3⟩ := cells4 hz2
    have HCG := Aside0.mk (HCF.out _ HB4.out)
    obtain ⟨v, hv⟩ : ∃ v, v = orL [cmpI k k', HCmp.cmpS a a', HCmp.cmpS b b'] := ⟨_, rfl⟩
    have HV := Aside0.mk (show orI (cmpI k k') (orI (HCmp.cmpS a a') (orI (HCmp.cmpS b b') cx)) = orI v cx from by
      rw [hv]
      simp only [orL, orI]
      repeat' split
      all_goals first | rfl | omega)
    rw [← hv]
    clear hv hz1 hz2 HX HY HCF
    by_cases c0v : v = 0
    · subst c0v
      go_wp2_with (refine (HCG.out).mono ?_; clear HCG; rintro e w' ⟨rfl, hb'⟩; have HB5 := Aside0.mk hb'; clear hb')
      go_ret
      exact ⟨by rw [HRR.out, HV.out]; rfl, below_then HBW.out HBW.out.size (below_then HB4.out HB4.out.size HB5.out)⟩
    · have e0 : (v != 0) = true := by simpa using c0v
      have e1 : (v == 0) = false := by simpa using c0v
      go_wp2
      go_ret
      exact ⟨by rw [HRR.out, HV.out, show orI v cx = v from if_neg c0v]; rfl, below_then HBW.out HBW.out.size HB4.out⟩
end Go.Proofs.YtohimcpfmkgefaaDoor.HExC
/- expr.Map, expr.Clone. -/
namespace Go.Proofs.YtohimcpfmkgefaaDoor.HExM
open Go.RowKit Go.Proofs.YtohimcpfmkgefaaDoorW.PrintWords Go.Proofs.YtohimcpfmkgefaaDoor.HLib Go.Proofs.YtohimcpfmkgefaaDoor.HGr Go.Proofs.YtohimcpfmkgefaaDoor.HPr Go.Proofs.YtohimcpfmkgefaaDoor.HPe Go.Proofs.YtohimcpfmkgefaaDoor.HExP Go.Proofs.YtohimcpfmkgefaaDoor.HExR Go.Proofs.YtohimcpfmkgefaaDoor.HExQ Go.Proofs.YtohimcpfmkgefaaDoor.HExL Go.Proofs.YtohimcpfmkgefaaDoor.HExA Go.Proofs.YtohimcpfmkgefaaDoor.HExF Go.Proofs.YtohimcpfmkgefaaDoor.HExT Go.Proofs.YtohimcpfmkgefaaDoor.HExC
open Go.Proofs.YtohimcpfmkgefaaDoor.PSchemaAllows
set_option linter.unusedVariables false
set_option linter.unusedSimpArgs false
mutual
/-- All parts replaced, the innermost first. -/
def mapE (F : Ex → Ex) : Ex → Ex
  | ⟨k, v, n, ks⟩ => F ⟨k, v, n, mapX F ks⟩
def mapX (F : Ex → Ex) : List Ex → List Ex
  | [] => []
  | k :: ks => mapE F k :: mapX F ks
end
theorem map_eq (F : Ex → Ex) (x : Ex) : mapE F x = F ⟨x.f0, x.f1, x.f2, mapX F x.f3⟩ := by obtain ⟨k, v, n, ks⟩ := x; rw [mapE]
theorem mapX_map (F : Ex → Ex) : ∀ ks : List Ex, mapX F ks = ks.map (mapE F)
  | [] => by rw [mapX]; rfl
  | k :: ks => by rw [mapX, mapX_map F ks]; rfl
/-- What is handed to Map: it keeps the kids. -/
structure MapF (g : Nat) (F : Ex → Ex) : Prop where
  kids : ∀ y, (F y).f3 = y.f3
  calls : ∀ (y : Ex) (A : Option Addr) (c : Nat) (w : World), y.f2.size ≤ 100000 → y.f3.length ≤ 1000000 → Calls Tryd.prog g #[.agg #[.int .i64 y.f0, .string y.f1, .string y.f2, .slice A y.f3.length c]] w fun e w' =>
    e = .returned (.agg #[.int .i64 (F y).f0, .string (F y).f1, .string (F y).f2, .slice A y.f3.length c]) ∧ Below w.heap.size w w'
theorem info_ex : (Tryd.prog.info? 25).map (fun i => (i.zero, i.size, i.bytes)) = some (some (.agg #[(.int .i64 0), (.string ⟨#[]⟩), (.string ⟨#[]⟩), (.slice none 0 0)]), 4, 64) := by kernel_rfl
theorem kE_mkM_ (w : World) (base : Nat) {ok : Nat → Prop} (x : Ex) {v3 : Value} (g3 : Kd.R kE 25 w base ok v3 x.f3) : kE.M w base ok x [.int .i64 x.f0, .string x.f1, .string x.f2, v3] := k25_mkM w base ok x g3
set_option maxRecDepth 100000 in
set_option maxHeartbeats 8000000 in
theorem map_any (g : Nat) (F : Ex → Ex) (hF : MapF g F) (eg : ∀ args w, (callFunc g args).run Tryd.prog w = .ok (.enter g args) w) : ∀ (m : Nat) (x : Ex), nodE x ≤ m → m ≤ 1000000 → strE 100000 x → ∀ (A : Option Addr) (c : Nat) (w : World), Rd w A c x →
    Calls Tryd.prog 38 #[.agg #[.int .i64 x.f0, .string x.f1, .string x.f2, .slice A x.f3.length c], .func (.func g) #[] #[]] w fun e w' =>
      ∃ v3, e = .returned (.agg #[.int .i64 (mapE F x).f0, .string (mapE F x).f1, .string (mapE F x).f2, v3]) ∧ Kd.R kE 25 w' w.heap.size (fun _ => True) v3 (mapE F x).f3 ∧ Below w.heap.size w w' := by
  intro m
  induction m with
  | zero => intro x h; rw [nod_eq] at h; omega
  | succ m ih =>
    intro x hm hm2 hs A c w hR
    rw [str_eq] at hs
    have hlen : x.f3.length ≤ 1000000 := by have := len_nod x.f3; rw [nod_eq] at hm; omega
    obtain ⟨W, hW⟩ : ∃ W, W = (w.alloc (.cells #[.int .i64 x.f0, .string x.f1, .string x.f2, .slice A x.f3.length c] 25)).alloc (.cells #[.int .i64 0, .string ⟨#[]⟩, .string ⟨#[]⟩, .slice none 0 0] 25) := ⟨_, rfl⟩
    have hgw : Gr w W := by rw [hW]; exact ((Gr.refl w).alloc _).alloc _
    have hbw := hgw.below
    have HBW := Aside0.mk hbw
    have HSZ := Aside0.mk (show W.heap.size = w.heap.size + 2 from by rw [hW, World.size_alloc, World.size_alloc])
    have HX := Aside0.mk (show W.heap[w.heap.size]? = some (.cells #[.int .i64 x.f0, .string x.f1, .string x.f2, .slice A x.f3.length c] 25 (0, 0)) from by rw [hW]; exact blk_alloc (blk_new w _) _)
    have HZ := Aside0.mk (show W.heap[w.heap.size + 1]? = some (.cells #[.int .i64 0, .string ⟨#[]⟩, .string ⟨#[]⟩, .slice none 0 0] 25 (0, 0)) from by
      rw [hW]
      have h := blk_new (w.alloc (.cells #[.int .i64 x.f0, .string x.f1, .string x.f2, .slice A x.f3.length c] 25)) (.cells #[.int .i64 0, .string ⟨#[]⟩, .string ⟨#[]⟩, .slice none 0 0] 25)
      rw [World.size_alloc] at h
      exact h)
    have HC := Aside0.mk (show Kd.C kE W A x.f3.length x.f3 from (hR.below hbw).1)
    have HL := Aside0.mk hlen
    have HKID := Aside0.mk (show ∀ (j : Nat) (hj : j < x.f3.length) (B : Option Addr) (d : Nat) (W' : World), Rd W' B d x.f3[j] → Calls Tryd.prog 38 #[.agg #[.int .i64 x.f3[j].f0, .string x.f3[j].f1, .string x.f3[j].f2, .slice B x.f3[j].f3.length d], .func (.func g) #[] #[]] W' fun e w' =>
        ∃ v3, e = .returned (.agg #[.int .i64 (mapE F x.f3[j]).f0, .string (mapE F x.f3[j]).f1, .string (mapE F x.f3[j]).f2, v3]) ∧ Kd.R kE 25 w' W'.heap.size (fun _ => True) v3 (mapE F x.f3[j]).f3 ∧ Below W'.heap.size W' w' from fun j hj B d W' hR' => by
      have hny : nodE x.f3[j] ≤ m := by have := nod_mem (List.getElem_mem hj); rw [nod_eq] at hm; omega
      exact ih _ hny (by omega) (str_mem hs.2 (List.getElem_mem hj)) B d W' hR')
    have HFC := Aside0.mk (show ∀ (A' : Option Addr) (c' : Nat) (W' : World), Calls Tryd.prog g #[.agg #[.int .i64 x.f0, .string x.f1, .string x.f2, .slice A' x.f3.length c']] W' fun e w' =>
        e = .returned (.agg #[.int .i64 (mapE F x).f0, .string (mapE F x).f1, .string (mapE F x).f2, .slice A' x.f3.length c']) ∧ Below W'.heap.size W' w' from fun A' c' W' => by
      have h1 := hF.calls ⟨x.f0, x.f1, x.f2, mapX F x.f3⟩ A' c' W' hs.1.2 (by show (mapX F x.f3).length ≤ _; rw [mapX_map, List.length_map]; exact hlen)
      rw [show (⟨x.f0, x.f1, x.f2, mapX F x.f3⟩ : Ex).f3.length = x.f3.length from by show (mapX F x.f3).length = _; rw [mapX_map, List.length_map]] at h1
      rw [map_eq]
      exact h1)
    have HK3 := Aside0.mk (show (mapE F x).f3 = mapX F x.f3 from by rw [map_eq, hF.kids])
    obtain ⟨p, hp⟩ : ∃ p, p = mapE F x := ⟨_, rfl⟩
    rw [← hp] at HFC HK3 ⊢
    obtain ⟨ks, hks⟩ : ∃ n, n = x.f3 := ⟨_, rfl⟩
    rw [← hks] at HC HL hW HX HK3
    rw [← hks] at HKID
    rw [← hks] at HFC
    rw [← hks]
    obtain ⟨s0, hs0⟩ : ∃ n, n = x.f0 := ⟨_, rfl⟩
    obtain ⟨s1, hs1⟩ : ∃ n, n = x.f1 := ⟨_, rfl⟩
    obtain ⟨s2, hs2⟩ : ∃ n, n = x.f2 := ⟨_, rfl⟩
    rw [← hs0, ← hs1, ← hs2] at HX hW
    rw [← hs0, ← hs1, ← hs2] at HFC
    rw [← hs0, ← hs1, ← hs2]
    obtain ⟨n, hnn⟩ : ∃ n, n = ks.length := ⟨_, rfl⟩
    have HN := Aside0.mk hnn
    rw [← hnn] at HC HL hW HX
    rw [← hnn] at HFC
    rw [← hnn]
    obtain ⟨gb, hgb⟩ : ∃ g, g = w.heap.size := ⟨_, rfl⟩
    have HGB := Aside0.mk hgb
    rw [← hgb] at HX HZ
    obtain ⟨q0, q1, q2, q3⟩ := cells4 HX.out
    clear ih hR hs hm hm2 hgw hbw hlen hp hks hs0 hs1 hs2 hnn hF
    go_enter Tryd.func38, Tryd.ntmps38
    go_upto_region 1 with fail
    rw [← hW, ← hgb]
    clear hW hgb
    go_wp2
    go_loopg [5, 11] n (fun kq v5 v11 w' => ∃ (j : Nat), v11 = .int .i64 j ∧ Aside0 (kq + j = n) ∧ Aside0 (Kd.R kE 25 w' W.heap.size (fun _ => True) v5 (mapX F (ks.take j))) ∧ Aside0 (Below W.heap.size W w'))
    case atStart => exact ⟨0, rfl, ⟨by omega⟩, ⟨by rw [List.take_zero, mapX]; exact Kd.R_nil _ _ _ _ _⟩, ⟨B0 W⟩⟩
    case round =>
      obtain ⟨j, rfl, HJ, HR, HX1⟩ := hrel
      by_cases cj : j < n
      · have f3 : (j : Int) < (n : Int) := by omega
        have f1 : decide ((j : Int) < (n : Int)) = true := decide_eq_true f3
        have f5 : (0 : Int) ≤ (j : Int) := by omega
        have f4 : IntKind.i64.wrap ((j : Int) + 1) = (j : Int) + 1 := by rw [IntKind.wrap_i64]; have := HL.out; omega
        have hj : j < ks.length := by have := HN.out; omega
        have hC : Kd.C kE W A ks.length ks := by rw [← HN.out]; exact HC.out
        obtain ⟨ad, B, d, hA, hRk, hcs⟩ := kid_cells hC j hj
        obtain ⟨a1, a2, a3, a4⟩ := hcs wr HX1.out
        obtain ⟨W1, hW1⟩ : ∃ W1, W1 = wr.alloc (.cells #[.int .i64 ks[j].f0, .string ks[j].f1, .string ks[j].f2, .slice B ks[j].f3.length d] 25) := ⟨_, rfl⟩
        have hb1 : Below wr.heap.size wr W1 := by rw [hW1]; exact below_alloc (B0 wr) _
        have hk1 : W1.heap[wr.heap.size]? = some (.cells #[.int .i64 ks[j].f0, .string ks[j].f1, .string ks[j].f2, .slice B ks[j].f3.length d] 25 (0, 0)) := by rw [hW1]; exact blk_new wr _
        have hx1 : Below W.heap.size W W1 := below_then HX1.out HX1.out.size hb1
        obtain ⟨y0, y1, y2, y3⟩ := cells4 hk1
        obtain ⟨gk, hgk⟩ : ∃ g, g = wr.heap.size := ⟨_, rfl⟩
        rw [← hgk] at y0 y1 y2 y3
        have hmp := HKID.out j hj B d W1 (hRk.below hx1)
        have htk : mapX F (ks.take (j + 1)) = mapX F (ks.take j) ++ [mapE F ks[j]] := by rw [mapX_map, mapX_map, List.take_succ_eq_append_getElem hj, List.map_append]; rfl
        obtain ⟨y, hy⟩ : ∃ y, y = ks[j] := ⟨_, rfl⟩
        obtain ⟨P, hP⟩ : ∃ P, P = mapE F ks[j] := ⟨_, rfl⟩
        rw [← hP] at hmp htk
        rw [← hy] at a1 a2 a3 a4 hW1 hmp y0 y1 y2 y3
        have HTK := Aside0.mk htk
        have HR1 := Aside0.mk (Kd.R_below HR.out hb1)
        have HXX := Aside0.mk hx1
        have HMP := Aside0.mk hmp
        obtain ⟨nk, hnk⟩ : ∃ n, n = y.f3.length := ⟨_, rfl⟩
        rw [← hnk] at HMP hW1 a4 y3
        have HTJ := Aside0.mk (show (mapX F (ks.take j)).length ≤ 1000000 from by rw [mapX_map, List.length_map, List.length_take]; have := HL.out; omega)
        obtain ⟨ws, hws⟩ : ∃ ws, ws = mapX F (ks.take j) := ⟨_, rfl⟩
        rw [← hws] at HTJ HR1 HTK
        subst hA
        clear hws hnk hy hP hmp htk hx1 hb1 hk1 hRk hcs hC hj HR
        go_upto_region 5 with fail
        rw [← hW1, ← hgk]
        clear hW1 hgk a1 a2 a3 a4
        go_wp2_with (first
          | (go_at_call 38; refine (HMP.out).mono ?_; clear HMP; rintro e W2 ⟨v3, rfl, hr2, h2⟩; have HB2 := Aside0.mk h2; have HR2 := Aside0.mk (Kd.R_below HR1.out h2); have HP2 := Aside0.mk (kE_mkM_ W2 W.heap.size P (Kd.R_lower (Kd.R_new' (u := u5) hr2 (Kd.R_lt HR1.out)) HXX.out.size)); have HX2 := Aside0.mk (below_then HXX.out HXX.out.size h2); clear h2 hr2 y0 y1 y2 y3)
          | (at_builtin; refine Kd.R_append kE (w0 := W) W.heap.size rfl (.tmp 15) (.tmp 19) 23 25 (.agg #[(.int .i64 0), (.string ⟨#[]⟩), (.string ⟨#[]⟩), (.slice none 0 0)]) 64 rfl Tryd.underlying23 info_ex rfl (by decide) (by omega) u5 ws P [.int .i64 P.f0, .string P.f1, .string P.f2, v3] (fun _ => True) (fun k => True ∧ some k ≠ u5.ownBlock) rfl rfl HP2.out (fun _ hk => hk) (fun _ _ => trivial) HR2.out HX2.out HX2.out.size ?aL ?_; (case aL => (have := HTJ.out; omega)); intro v1 w1 ho hb hg hat; have HO1 := Aside0.mk ho; have HB4 := Aside0.mk hb; clear ho hb hg hat))
        go_roundg (n - (j + 1))
        case measure => have := HJ.out; omega
        case rel => exact ⟨j + 1, by first | rfl | go_num, ⟨by have := HJ.out; omega⟩, ⟨by rw [HTK.out]; exact HO1.out⟩, ⟨HB4.out⟩⟩
      · obtain rfl : j = n := by have := HJ.out; omega
        have f3 : ¬ (j : Int) < (j : Int) := by omega
        have hall : mapX F (ks.take j) = p.f3 := by rw [HN.out, List.take_length, ← HK3.out]
        have hR := HR.out
        rw [hall] at hR
        obtain ⟨Ao, co, hv⟩ := Kd.R_slice hR
        subst hv
        have hpl : p.f3.length = j := by rw [HK3.out, mapX_map, List.length_map, ← HN.out]
        rw [hpl] at hR ⊢
        have hbx := blk_below HX.out HX1.out
        have hbz := blk_below HZ.out HX1.out
        have HRR := Aside0.mk (Kd.R_mono (Kd.R_bound hR) (ok' := fun k => W.heap.size ≤ k) (fun k hk => hk.2.1))
        have hnb : ∀ k, W.heap.size ≤ k → k ≠ gb := fun k hk => by have := HSZ.out; have := HGB.out; omega
        have hnr : ∀ k, W.heap.size ≤ k → k ≠ gb + 1 := fun k hk => by have := HSZ.out; have := HGB.out; omega
        have hwb : w.heap.size ≤ gb := by have := HGB.out; omega
        obtain ⟨X1, hX1⟩ : ∃ X, X = wr.setCell ⟨gb, 3, none⟩ (.slice Ao j co) := ⟨_, rfl⟩
        have HB1 := Aside0.mk (show Below w.heap.size w X1 from by rw [hX1]; exact (below_then HBW.out HBW.out.size HX1.out).setCell (p := ⟨gb, 3, none⟩) hwb _)
        have hk1 : X1.heap[gb]? = some (.cells #[.int .i64 s0, .string s1, .string s2, .slice Ao j co] 25 (0, 0)) := by rw [hX1]; exact blk_put hbx 3 _ rfl
        have hz1 : X1.heap[gb + 1]? = some (.cells #[.int .i64 0, .string ⟨#[]⟩, .string ⟨#[]⟩, .slice none 0 0] 25 (0, 0)) := by rw [hX1]; exact blk_far hbz (by show gb + 1 ≠ gb; omega) _
        have HR1 := Aside0.mk (show Kd.R kE 25 X1 W.heap.size (fun k => W.heap.size ≤ k) (.slice Ao j co) p.f3 from by rw [hX1]; exact Kd.R_far (p := ⟨gb, 3, none⟩) HRR.out hnb _)
        have HCL := Aside0.mk (show Calls Tryd.prog g #[.agg #[.int .i64 s0, .string s1, .string s2, .slice Ao j co]] X1 fun e w' => e = .returned (.agg #[.int .i64 p.f0, .string p.f1, .string p.f2, .slice Ao j co]) ∧ Below w.heap.size w w' ∧ Kd.R kE 25 w' W.heap.size (fun k => W.heap.size ≤ k) (.slice Ao j co) p.f3 ∧ w'.heap[gb + 1]? = some (.cells #[.int .i64 0, .string ⟨#[]⟩, .string ⟨#[]⟩, .slice none 0 0] 25 (0, 0)) from
          (HFC.out Ao co X1).mono fun e w' ⟨h1, h2⟩ => ⟨h1, below_then HB1.out HB1.out.size h2, Kd.R_below HR1.out h2, blk_below hz1 h2⟩)
        obtain ⟨c0, c1, c2, c3⟩ := cells4 hk1
        obtain ⟨b0, b1, b2, b3⟩ := cells4 hbx
        have bf := blk_frozen hbx 3
        clear hbx hbz hk1 hz1 hpl hR hall HRR HKID HFC q0 q1 q2 q3
        go_upto_region 8 with fail
        rw [← hX1]
        clear hX1 b0 b1 b2 b3 bf
        go_upto_region 8 with fail
        go_wp2_with (refine (HCL.out).mono ?_; clear HCL; rintro e W2 ⟨rfl, h2, hr2, hz2⟩; have HB2 := Aside0.mk h2; have HR2 := Aside0.mk hr2; have HZ2 := Aside0.mk hz2; obtain ⟨d0, d1, d2, d3⟩ := cells4 hz2; have e0 := blk_frozen hz2 0; have e1 := blk_frozen hz2 1; have e2 := blk_frozen hz2 2; have e3 := blk_frozen hz2 3; clear h2 hr2 hz2 c0 c1 c2 c3)
        refine bodyPost_ret (results_cell_row rfl _ _ (gb + 1) 25 #[.int .i64 p.f0, .string p.f1, .string p.f2, .slice Ao j co] (0, 0) _ rfl ?blk Tryd.underlying25 rfl (by kernel_rfl)) rfl ?_
        case blk =>
          refine blk_put (cs := #[.int .i64 p.f0, .string p.f1, .string p.f2, .slice none 0 0]) ?_ 3 _ rfl
          refine blk_put (cs := #[.int .i64 p.f0, .string p.f1, .string ⟨#[]⟩, .slice none 0 0]) ?_ 2 _ rfl
          refine blk_put (cs := #[.int .i64 p.f0, .string ⟨#[]⟩, .string ⟨#[]⟩, .slice none 0 0]) ?_ 1 _ rfl
          refine blk_put (cs := #[.int .i64 0, .string ⟨#[]⟩, .string ⟨#[]⟩, .slice none 0 0]) ?_ 0 _ rfl
          exact HZ2.out
        have hwr : w.heap.size ≤ gb + 1 := by omega
        refine ⟨_, rfl, ?_, ?_⟩
        · exact Kd.R_lower (Kd.R_mono (Kd.R_far (p := ⟨gb + 1, 3, none⟩) (Kd.R_far (p := ⟨gb + 1, 2, none⟩) (Kd.R_far (p := ⟨gb + 1, 1, none⟩) (Kd.R_far (p := ⟨gb + 1, 0, none⟩) HR2.out hnr _) hnr _) hnr _) hnr _) (fun _ _ => trivial)) HBW.out.size
        · exact (((HB2.out.setCell (p := ⟨gb + 1, 0, none⟩) hwr _).setCell (p := ⟨gb + 1, 1, none⟩) hwr _).setCell (p := ⟨gb + 1, 2, none⟩) hwr _).setCell (p := ⟨gb + 1, 3, none⟩) hwr _
end Go.Proofs.YtohimcpfmkgefaaDoor.HExM
/- expr.Clone, expr.Same, expr.Text. -/
namespace Go.Proofs.YtohimcpfmkgefaaDoor.HExN
open Go.RowKit Go.Proofs.YtohimcpfmkgefaaDoorW.PrintWords Go.Proofs.YtohimcpfmkgefaaDoor.HLib Go.Proofs.YtohimcpfmkgefaaDoor.HGr Go.Proofs.YtohimcpfmkgefaaDoor.HNameP Go.Proofs.YtohimcpfmkgefaaDoor.HName Go.Proofs.YtohimcpfmkgefaaDoor.HPr Go.Proofs.YtohimcpfmkgefaaDoor.HPe Go.Proofs.YtohimcpfmkgefaaDoor.HExP Go.Proofs.YtohimcpfmkgefaaDoor.HExR Go.Proofs.YtohimcpfmkgefaaDoor.HExQ Go.Proofs.YtohimcpfmkgefaaDoor.HExL Go.Proofs.YtohimcpfmkgefaaDoor.HExA Go.Proofs.YtohimcpfmkgefaaDoor.HExF Go.Proofs.YtohimcpfmkgefaaDoor.HExT Go.Proofs.YtohimcpfmkgefaaDoor.HExX Go.Proofs.YtohimcpfmkgefaaDoor.HExC Go.Proofs.YtohimcpfmkgefaaDoor.HExM
open Go.Proofs.YtohimcpfmkgefaaDoor.PSchemaAllows
set_option linter.unusedVariables false
set_option linter.unusedSimpArgs false
theorem two_blocks (w : World) (a b c d : Value) (t : TypeId) (a' b' c' d' : Value) :
    ∃ W, W = (w.alloc (.cells #[a, b, c, d] t)).alloc (.cells #[a', b', c', d'] t) ∧ Gr w W ∧ W.heap.size = w.heap.size + 2 ∧ W.heap[w.heap.size]? = some (.cells #[a, b, c, d] t (0, 0)) ∧ W.heap[w.heap.size + 1]? = some (.cells #[a', b', c', d'] t (0, 0)) := by
  refine ⟨_, rfl, ((Gr.refl w).alloc _).alloc _, by rw [World.size_alloc, World.size_alloc], blk_alloc (blk_new w _) _, ?_⟩
  have h := blk_new (w.alloc (.cells #[a, b, c, d] t)) (.cells #[a', b', c', d'] t)
  rw [World.size_alloc] at h
  exact h
set_option maxRecDepth 100000 in
set_option maxHeartbeats 8000000 in
theorem id_any (y : Ex) (A : Option Addr) (c : Nat) (w : World) : Calls Tryd.prog 39 #[.agg #[.int .i64 y.f0, .string y.f1, .string y.f2, .slice A y.f3.length c]] w fun e w' =>
    e = .returned (.agg #[.int .i64 y.f0, .string y.f1, .string y.f2, .slice A y.f3.length c]) ∧ Below w.heap.size w w' := by
  obtain ⟨W, hW, hgw, hsz, hx, hz⟩ := two_blocks w (.int .i64 y.f0) (.string y.f1) (.string y.f2) (.slice A y.f3.length c) 25 (.int .i64 0) (.string ⟨#[]⟩) (.string ⟨#[]⟩) (.slice none 0 0)
  have HBW := Aside0.mk hgw.below
  have HX := Aside0.mk hx
  have HZ := Aside0.mk hz
  obtain ⟨n, hn⟩ : ∃ n, n = y.f3.length := ⟨_, rfl⟩
  rw [← hn] at HX hW ⊢
  obtain ⟨gb, hgb⟩ : ∃ g, g = w.heap.size := ⟨_, rfl⟩
  have HGB := Aside0.mk hgb
  rw [← hgb] at HX HZ
  obtain ⟨q0, q1, q2, q3⟩ := cells4 HX.out
  obtain ⟨z0, z1, z2, z3⟩ := cells4 HZ.out
  have e0 := blk_frozen HZ.out 0
  have e1 := blk_frozen HZ.out 1
  have e2 := blk_frozen HZ.out 2
  have e3 := blk_frozen HZ.out 3
  clear hgw hsz hx hz hn
  go_enter Tryd.func39, Tryd.ntmps39
  go_upto_region 1 with fail
  rw [← hW, ← hgb]
  clear hW hgb
  go_wp2
  refine bodyPost_ret (results_cell_row rfl _ _ (gb + 1) 25 #[.int .i64 y.f0, .string y.f1, .string y.f2, .slice A n c] (0, 0) _ rfl ?blk Tryd.underlying25 rfl (by kernel_rfl)) rfl ?_
  case blk =>
    refine blk_put (cs := #[.int .i64 y.f0, .string y.f1, .string y.f2, .slice none 0 0]) ?_ 3 _ rfl
    refine blk_put (cs := #[.int .i64 y.f0, .string y.f1, .string ⟨#[]⟩, .slice none 0 0]) ?_ 2 _ rfl
    refine blk_put (cs := #[.int .i64 y.f0, .string ⟨#[]⟩, .string ⟨#[]⟩, .slice none 0 0]) ?_ 1 _ rfl
    refine blk_put (cs := #[.int .i64 0, .string ⟨#[]⟩, .string ⟨#[]⟩, .slice none 0 0]) ?_ 0 _ rfl
    exact HZ.out
  have hwr : w.heap.size ≤ gb + 1 := by have := HGB.out; omega
  exact ⟨rfl, (((HBW.out.setCell (p := ⟨gb + 1, 0, none⟩) hwr _).setCell (p := ⟨gb + 1, 1, none⟩) hwr _).setCell (p := ⟨gb + 1, 2, none⟩) hwr _).setCell (p := ⟨gb + 1, 3, none⟩) hwr _⟩
theorem id_map : (∀ x : Ex, mapE (fun y => y) x = x) ∧ ∀ ks : List Ex, mapX (fun y => y) ks = ks := by
  refine ex_ind (p := fun x => mapE (fun y => y) x = x) (q := fun ks => mapX (fun y => y) ks = ks) ?_ ?_ ?_
  · rw [mapX]
  · intro x xs h1 h2
    rw [mapX, h1, h2]
  · intro x h
    rw [map_eq, h, mk_eta]
theorem id_F : MapF 39 (fun y => y) := ⟨fun _ => rfl, fun y A c w _ _ => id_any y A c w⟩
set_option maxRecDepth 100000 in
set_option maxHeartbeats 8000000 in
theorem clone_any (x : Ex) (A : Option Addr) (c : Nat) (w : World) (hx : nodE x ≤ 1000000) (hs : strE 100000 x) (hR : Rd w A c x) :
    Calls Tryd.prog 25 #[.agg #[.int .i64 x.f0, .string x.f1, .string x.f2, .slice A x.f3.length c]] w fun e w' =>
      ∃ B d, e = .returned (.agg #[.int .i64 x.f0, .string x.f1, .string x.f2, .slice B x.f3.length d]) ∧ Kd.R kE 25 w' w.heap.size (fun _ => True) (.slice B x.f3.length d) x.f3 ∧ Below w.heap.size w w' := by
  obtain ⟨W, hW, hgw, hsz, hx1, hz⟩ := two_blocks w (.int .i64 x.f0) (.string x.f1) (.string x.f2) (.slice A x.f3.length c) 25 (.int .i64 0) (.string ⟨#[]⟩) (.string ⟨#[]⟩) (.slice none 0 0)
  have hbw := hgw.below
  have HBW := Aside0.mk hbw
  have HX := Aside0.mk hx1
  have HSZ := Aside0.mk hsz
  obtain ⟨gb, hgb⟩ : ∃ g, g = w.heap.size := ⟨_, rfl⟩
  have HGB := Aside0.mk hgb
  rw [← hgb] at HX hz
  have hm := map_any 39 (fun y => y) id_F (enters_of Tryd.func39 (by kernel_rfl) rfl) 1000000 x hx (Nat.le_refl _) hs A c W (hR.below hbw)
  rw [id_map.1 x] at hm
  have HM := Aside0.mk (hm.mono (R' := fun e w' => ∃ B d, e = .returned (.agg #[.int .i64 x.f0, .string x.f1, .string x.f2, .slice B x.f3.length d]) ∧ Kd.R kE 25 w' W.heap.size (fun k => W.heap.size ≤ k) (.slice B x.f3.length d) x.f3 ∧ Below w.heap.size w w' ∧ w'.heap[gb + 1]? = some (.cells #[.int .i64 0, .string ⟨#[]⟩, .string ⟨#[]⟩, .slice none 0 0] 25 (0, 0))) (by
    rintro e w' ⟨v3, rfl, hr, hb⟩
    obtain ⟨B, d, rfl⟩ := Kd.R_slice hr
    exact ⟨B, d, rfl, Kd.R_mono (Kd.R_bound hr) (fun k hk => hk.2.1), below_then hbw hbw.size hb, blk_below hz hb⟩))
  obtain ⟨q0, q1, q2, q3⟩ := cells4 HX.out
  obtain ⟨n, hn⟩ : ∃ n, n = x.f3.length := ⟨_, rfl⟩
  rw [← hn] at hW q3 ⊢
  rw [← hn] at HM
  clear hgw hsz hx1 hz hn hbw hm hx hs hR HX
  go_enter Tryd.func25, Tryd.ntmps25
  go_upto_region 1 with fail
  rw [← hW, ← hgb]
  clear hW hgb
  go_wp2_with (refine (HM.out).mono ?_; clear HM; rintro e W2 ⟨B, d, rfl, hr2, h2, hz2⟩; have HB2 := Aside0.mk h2; have HR2 := Aside0.mk hr2; have HZ2 := Aside0.mk hz2; obtain ⟨d0, d1, d2, d3⟩ := cells4 hz2; have e0 := blk_frozen hz2 0; have e1 := blk_frozen hz2 1; have e2 := blk_frozen hz2 2; have e3 := blk_frozen hz2 3; clear h2 hr2 hz2)
  refine bodyPost_ret (results_cell_row rfl _ _ (gb + 1) 25 #[.int .i64 x.f0, .string x.f1, .string x.f2, .slice B n d] (0, 0) _ rfl ?blk Tryd.underlying25 rfl (by kernel_rfl)) rfl ?_
  case blk =>
    refine blk_put (cs := #[.int .i64 x.f0, .string x.f1, .string x.f2, .slice none 0 0]) ?_ 3 _ rfl
    refine blk_put (cs := #[.int .i64 x.f0, .string x.f1, .string ⟨#[]⟩, .slice none 0 0]) ?_ 2 _ rfl
    refine blk_put (cs := #[.int .i64 x.f0, .string ⟨#[]⟩, .string ⟨#[]⟩, .slice none 0 0]) ?_ 1 _ rfl
    refine blk_put (cs := #[.int .i64 0, .string ⟨#[]⟩, .string ⟨#[]⟩, .slice none 0 0]) ?_ 0 _ rfl
    exact HZ2.out
  have hwr : w.heap.size ≤ gb + 1 := by have := HGB.out; omega
  have hnr : ∀ k, W.heap.size ≤ k → k ≠ gb + 1 := fun k hk => by have := HSZ.out; have := HGB.out; omega
  refine ⟨B, d, rfl, ?_, ?_⟩
  · exact Kd.R_lower (Kd.R_mono (Kd.R_far (p := ⟨gb + 1, 3, none⟩) (Kd.R_far (p := ⟨gb + 1, 2, none⟩) (Kd.R_far (p := ⟨gb + 1, 1, none⟩) (Kd.R_far (p := ⟨gb + 1, 0, none⟩) HR2.out hnr _) hnr _) hnr _) hnr _) (fun _ _ => trivial)) HBW.out.size
  · exact (((HB2.out.setCell (p := ⟨gb + 1, 0, none⟩) hwr _).setCell (p := ⟨gb + 1, 1, none⟩) hwr _).setCell (p := ⟨gb + 1, 2, none⟩) hwr _).setCell (p := ⟨gb + 1, 3, none⟩) hwr _
theorem rd_made {w : World} {base : Nat} {ok : Nat → Prop} {B : Option Addr} {d : Nat} {x : Ex} (h : Kd.R kE 25 w base ok (.slice B x.f3.length d) x.f3) : Rd w B d x := ⟨(Kd.R_reads' h).2.2, (Kd.R_reads' h).2.1⟩
set_option maxRecDepth 100000 in
set_option maxHeartbeats 8000000 in
theorem same_any (x y : Ex) (A A' : Option Addr) (c c' : Nat) (w : World) (hx : nodE x ≤ 1000000) (hy : nodE y ≤ 1000000) (hR : Rd w A c x) (hR2 : Rd w A' c' y) :
    Calls Tryd.prog 20 #[.agg #[.int .i64 x.f0, .string x.f1, .string x.f2, .slice A x.f3.length c], .agg #[.int .i64 y.f0, .string y.f1, .string y.f2, .slice A' y.f3.length c']] w fun e w' => e = .returned (.bool (decide (cmpE x y = 0))) ∧ Below w.heap.size w w' := by
  obtain ⟨W, hW, hgw, hsz, hx1, hz⟩ := two_blocks w (.int .i64 x.f0) (.string x.f1) (.string x.f2) (.slice A x.f3.length c) 25 (.int .i64 y.f0) (.string y.f1) (.string y.f2) (.slice A' y.f3.length c')
  have hbw := hgw.below
  have HBW := Aside0.mk hbw
  obtain ⟨gb, hgb⟩ : ∃ g, g = w.heap.size := ⟨_, rfl⟩
  rw [← hgb] at hx1 hz
  have HC := Aside0.mk (compare_any 1000000 x hx (Nat.le_refl _) y hy A A' c c' W (hR.below hbw) (hR2.below hbw))
  obtain ⟨q0, q1, q2, q3⟩ := cells4 hx1
  obtain ⟨z0, z1, z2, z3⟩ := cells4 hz
  obtain ⟨n, hn⟩ : ∃ n, n = x.f3.length := ⟨_, rfl⟩
  obtain ⟨m, hm⟩ : ∃ n, n = y.f3.length := ⟨_, rfl⟩
  rw [← hn, ← hm] at hW HC ⊢
  rw [← hn] at q3
  rw [← hm] at z3
  obtain ⟨v, hv⟩ : ∃ v, v = cmpE x y := ⟨_, rfl⟩
  rw [← hv] at HC ⊢
  clear hgw hsz hx1 hz hn hm hbw hx hy hR hR2 hv
  have hdec : (v == 0) = decide (v = 0) := by rw [Bool.eq_iff_iff, beq_iff_eq, decide_eq_true_eq]
  rw [← hdec]
  clear hdec
  go_enter Tryd.func20, Tryd.ntmps20
  go_upto_region 1 with fail
  rw [← hW, ← hgb]
  clear hW hgb
  go_wp2_with (refine (HC.out).mono ?_; clear HC; rintro e W2 ⟨rfl, h2⟩; have HB2 := Aside0.mk h2; clear h2)
  go_ret
  exact ⟨rfl, below_then HBW.out HBW.out.size HB2.out⟩
def textE (x : Ex) : List UInt8 := if rightE x = true then txE x else []
theorem right_frm {x : Ex} (h : rightE x = true) : frmE x = true := by
  unfold rightE at h
  rw [Bool.and_eq_true, Bool.and_eq_true] at h
  exact h.2.1
end Go.Proofs.YtohimcpfmkgefaaDoor.HExN
