/- The reference's text of an expression. -/
import Derived.Test.YtikgngcdgejgjaaDoorUEB
import Derived.Test.YtikgngcdgejgjaaDoorUEC
namespace Go.Proofs.YtikgngcdgejgjaaDoor.HExRt
open Go.RowKit Go.Proofs.YtikgngcdgejgjaaDoorW.PrintWords Go.Proofs.YtikgngcdgejgjaaDoor.HLib Go.Proofs.YtikgngcdgejgjaaDoor.HGr Go.Proofs.YtikgngcdgejgjaaDoor.HNameP Go.Proofs.YtikgngcdgejgjaaDoor.HName Go.Proofs.YtikgngcdgejgjaaDoor.HPe Go.Proofs.YtikgngcdgejgjaaDoor.HPf Go.Proofs.YtikgngcdgejgjaaDoor.HExP Go.Proofs.YtikgngcdgejgjaaDoor.HExR Go.Proofs.YtikgngcdgejgjaaDoor.HExQ Go.Proofs.YtikgngcdgejgjaaDoor.HExL Go.Proofs.YtikgngcdgejgjaaDoor.HExA Go.Proofs.YtikgngcdgejgjaaDoor.HExF Go.Proofs.YtikgngcdgejgjaaDoor.HExW Go.Proofs.YtikgngcdgejgjaaDoor.HExI Go.Proofs.YtikgngcdgejgjaaDoor.HExT Go.Proofs.YtikgngcdgejgjaaDoor.HExX
open Go.Proofs.YtikgngcdgejgjaaDoor.PExprMatchesReference
set_option linter.unusedVariables false
set_option linter.unusedSimpArgs false
theorem join_snoc (sep x : List UInt8) : ∀ (xs : List (List UInt8)), xs ≠ [] → Lib.join (xs ++ [x]) sep = Lib.join xs sep ++ (sep ++ x)
  | [], h => absurd rfl h
  | [y], _ => by simp [Lib.join, List.intercalate]
  | y :: z :: ys, _ => by
    have ih := join_snoc sep x (z :: ys) (by simp)
    have e : ∀ (a : List UInt8) (l : List (List UInt8)), l ≠ [] → Lib.join (a :: l) sep = a ++ (sep ++ Lib.join l sep) := by
      intro a l hl
      cases l with
      | nil => exact absurd rfl hl
      | cons b l => simp [Lib.join, List.intercalate]
    rw [List.cons_append, e y _ (by simp), ih, e y (z :: ys) (by simp)]
    simp
theorem bs_lit (c : UInt8) : (⟨#[c]⟩ : ByteArray) = bs [c] := rfl
def jn (k : Int) (ks : List Ex) : List UInt8 := Lib.join (opL ks) (sgnK k)
theorem jn_first (k : Int) (x : Ex) : jn k [x] = opE x := by rw [jn, op_cons, opL]; simp [Lib.join, List.intercalate]
theorem jn_next (k : Int) (ks : List Ex) (x : Ex) (h : ks ≠ []) : jn k (ks ++ [x]) = jn k ks ++ (sgnK k ++ opE x) := by
  unfold jn
  rw [op_map, op_map, List.map_append]
  exact join_snoc _ _ _ (by simpa using h)
theorem jn_len (k : Int) (ks : List Ex) (h : frmL ks = true) : (jn k ks).length ≤ 300 * nodL ks := by
  have h1 := join_len (sgnK k) (opL ks)
  rw [show (sgnK k).length = 3 from rfl] at h1
  exact Nat.le_trans h1 (tx_bound.2 ks h)
theorem frm_take : ∀ (ks : List Ex) (j : Nat), frmL ks = true → frmL (ks.take j) = true
  | [], j, h => by rw [List.take_nil]; exact h
  | x :: xs, 0, h => by rw [List.take_zero, frmL]
  | x :: xs, j + 1, h => by
    rw [frmL, Bool.and_eq_true] at h
    rw [List.take_succ_cons, frmL, h.1, frm_take xs j h.2]
    rfl
theorem nod_take : ∀ (ks : List Ex) (j : Nat), nodL (ks.take j) ≤ nodL ks
  | [], j => by rw [List.take_nil]; exact Nat.le_refl _
  | x :: xs, 0 => by rw [List.take_zero, nodL]; exact Nat.zero_le _
  | x :: xs, j + 1 => by
    rw [List.take_succ_cons, nodL, nodL]
    have := nod_take xs j
    omega
theorem rleaf_any (x : Ex) (A : Option Addr) (c : Nat) (w : World) (hR : Rd w A c x) : Calls Tryd.prog 29 #[.agg #[.int .i64 x.f0, .string x.f1, .string x.f2, .slice A x.f3.length c]] w fun e w' => e = .returned (.bool (leafK x.f0)) ∧ Below w.heap.size w w' :=
  vestryref10_Leaf.calls x.f0 x.f1 x.f2 A c x.f3 (leafK x.f0) w hR.1 hR.2 (leaf_ev x)
set_option maxRecDepth 100000 in
set_option maxHeartbeats 16000000 in
theorem rtext_any : ∀ (m : Nat) (x : Ex), nodE x ≤ m → m ≤ 1000000 → frmE x = true → ∀ (A : Option Addr) (c : Nat) (w : World), Rd w A c x →
    Calls Tryd.prog 11 #[.agg #[.int .i64 x.f0, .string x.f1, .string x.f2, .slice A x.f3.length c]] w fun e w' => e = .returned (.string (bs (txE x))) ∧ Below w.heap.size w w' := by
  intro m
  induction m with
  | zero => intro x h; rw [nod_eq] at h; omega
  | succ m ih =>
    intro x hm hm2 hf A c w hR
    have hlen : x.f3.length ≤ 1000000 := by have := len_nod x.f3; rw [nod_eq] at hm; omega
    obtain ⟨W, hW⟩ : ∃ W, W = w.alloc (.cells #[.int .i64 x.f0, .string x.f1, .string x.f2, .slice A x.f3.length c] 24) := ⟨_, rfl⟩
    have hb : Below w.heap.size w W := by rw [hW]; exact below_alloc (B0 w) _
    have HBW := Aside0.mk hb
    have HK := Aside0.mk (show W.heap[w.heap.size]? = some (.cells #[.int .i64 x.f0, .string x.f1, .string x.f2, .slice A x.f3.length c] 24 (0, 0)) from by rw [hW]; exact blk_new w _)
    obtain ⟨gb, hgb⟩ : ∃ g, g = w.heap.size := ⟨_, rfl⟩
    rw [← hgb] at HK
    obtain ⟨q0, q1, q2, q3⟩ := cells4 HK.out
    have hkr := kind_range hf
    have hn : namesK x.f0 x.f1 x.f2 = true := by rw [frm_eq, Bool.and_eq_true] at hf; exact hf.1
    have htx := tx_eq x
    by_cases c1 : x.f0 = 1
    · rw [if_pos c1] at htx
      rw [htx, bs_of]
      rw [c1] at hW q0 ⊢
      clear ih hR hlen htx hkr hn hf hm hm2 hb HK c1
      obtain ⟨nk, hnk⟩ : ∃ n, n = x.f3.length := ⟨_, rfl⟩
      rw [← hnk] at hW q3 ⊢
      clear hnk
      go_enter Tryd.func11, Tryd.ntmps11
      go_upto_region 1 with fail
      rw [← hW, ← hgb]
      clear hW hgb
      go_wp2
      go_ret
      exact ⟨rfl, HBW.out⟩
    · by_cases c2 : x.f0 = 2
      · rw [if_neg c1, if_pos c2] at htx
        have hn2 : isP x.f1 = true ∧ isP x.f2 = true := by
          unfold namesK at hn
          rw [if_neg c1, if_pos c2, Bool.and_eq_true] at hn
          exact hn
        have z1 := (name_size hn2.1).2
        have z2 := (name_size hn2.2).2
        have HE := Aside0.mk (show bs (txE x) = (x.f1 ++ ⟨#[45, 62]⟩) ++ x.f2 from by
          rw [htx]
          apply ByteArray.ext
          simp [bs, ByteArray.data_append])
        rw [HE.out]
        rw [c2] at hW q0 ⊢
        obtain ⟨nk, hnk⟩ : ∃ n, n = x.f3.length := ⟨_, rfl⟩
        obtain ⟨s1, hs1⟩ : ∃ n, n = x.f1 := ⟨_, rfl⟩
        obtain ⟨s2, hs2⟩ : ∃ n, n = x.f2 := ⟨_, rfl⟩
        rw [← hnk, ← hs1, ← hs2] at hW
        rw [← hnk] at q3
        rw [← hs1] at q1 z1
        rw [← hs2] at q2 z2
        rw [← hnk, ← hs1, ← hs2]
        have g1 : ¬ 9223372036854775807 < s1.size + 2 := by omega
        have g2 : ¬ 9223372036854775807 < s1.size + 2 + s2.size := by omega
        clear ih hR hlen htx hkr hn hf hm hm2 hb HK c1 hn2 z1 z2 hnk hs1 hs2 HE c2
        go_enter Tryd.func11, Tryd.ntmps11
        go_upto_region 1 with fail
        rw [← hW, ← hgb]
        clear hW hgb
        go_wp2
        go_ret
        exact ⟨rfl, HBW.out⟩
      · have hk3 : (x.f0 = 3 ∨ x.f0 = 4 ∨ x.f0 = 5) ∧ 2 ≤ x.f3.length := by
          rcases hkr with h | h | h
          · exact absurd h c1
          · exact absurd h c2
          · exact h
        rw [if_neg c1, if_neg c2] at htx
        have e1 : (x.f0 == 1) = false := by simpa using c1
        have e2 : (x.f0 == 2) = false := by simpa using c2
        have hfl : frmL x.f3 = true := by rw [frm_eq, Bool.and_eq_true, Bool.and_eq_true] at hf; exact hf.2.2
        have HKID := Aside0.mk (show ∀ (j : Nat) (hj : j < x.f3.length) (B : Option Addr) (d : Nat) (W' : World), Rd W' B d x.f3[j] → Calls Tryd.prog 11 #[.agg #[.int .i64 x.f3[j].f0, .string x.f3[j].f1, .string x.f3[j].f2, .slice B x.f3[j].f3.length d]] W' fun e w' => e = .returned (.string (bs (txE x.f3[j]))) ∧ Below W'.heap.size W' w' from fun j hj B d W' hR' => by
          have hny : nodE x.f3[j] ≤ m := by have := nod_mem (List.getElem_mem hj); rw [nod_eq] at hm; omega
          exact ih _ hny (by omega) (frm_mem hfl (List.getElem_mem hj)) B d W' hR')
        have HTB := Aside0.mk (show ∀ (j : Nat) (hj : j < x.f3.length), (txE x.f3[j]).length ≤ 300000000 from fun j hj => by
          have hny : nodE x.f3[j] ≤ m := by have := nod_mem (List.getElem_mem hj); rw [nod_eq] at hm; omega
          have := tx_bound.1 _ (frm_mem hfl (List.getElem_mem hj))
          omega)
        have HJB := Aside0.mk (show ∀ j, (jn x.f0 (x.f3.take j)).length ≤ 300000000 from fun j => by
          have h1 := jn_len x.f0 _ (frm_take x.f3 j hfl)
          have h2 := nod_take x.f3 j
          rw [nod_eq] at hm
          omega)
        have HC := Aside0.mk (show Kd.C kE W A x.f3.length x.f3 from (hR.below hb).1)
        have HL := Aside0.mk hlen
        have HJ0 := Aside0.mk (show txE x = jn x.f0 x.f3 from htx)
        have HK3 := Aside0.mk hk3.1
        rw [HJ0.out]
        clear ih hR htx hkr hn hf hm hm2 hb hfl hk3 hlen HJ0
        obtain ⟨ks, hks⟩ : ∃ n, n = x.f3 := ⟨_, rfl⟩
        rw [← hks] at HTB HC HL hW q3
        rw [← hks] at HKID
        rw [← hks] at HJB
        rw [← hks] at HK
        rw [← hks]
        obtain ⟨s0, hs0⟩ : ∃ n, n = x.f0 := ⟨_, rfl⟩
        obtain ⟨s1, hs1⟩ : ∃ n, n = x.f1 := ⟨_, rfl⟩
        obtain ⟨s2, hs2⟩ : ∃ n, n = x.f2 := ⟨_, rfl⟩
        rw [← hs0, ← hs1, ← hs2] at HK hW
        rw [← hs0] at q0 c1 c2 e1 e2 HK3
        rw [← hs0] at HJB
        rw [← hs1] at q1
        rw [← hs2] at q2
        rw [← hs0, ← hs1, ← hs2]
        clear hks hs0 hs1 hs2
        obtain ⟨n, hnn⟩ : ∃ n, n = ks.length := ⟨_, rfl⟩
        have HN := Aside0.mk hnn
        rw [← hnn] at HC HL hW q3 HK
        rw [← hnn]
        clear hnn
        obtain ⟨r, hr⟩ : ∃ r, r = bs (jn s0 ks) := ⟨_, rfl⟩
        have HRR := Aside0.mk hr
        rw [← hr]
        clear hr
        go_enter Tryd.func11, Tryd.ntmps11
        go_upto_region 1 with fail
        rw [← hW, ← hgb]
        clear hW hgb
        go_wp2
        go_loopg [3, 4] n (fun kq v3 v4 w' => ∃ (j : Nat), v4 = .int .i64 j ∧ v3 = .string (bs (jn s0 (ks.take j))) ∧ Aside0 (kq + j = n) ∧ Aside0 (Below W.heap.size W w'))
        case atStart => exact ⟨0, rfl, by rw [List.take_zero, jn, opL]; rfl, ⟨by omega⟩, ⟨B0 W⟩⟩
        case round =>
          obtain ⟨j, rfl, rfl, HJ, HX⟩ := hrel
          obtain ⟨q0, q1, q2, q3⟩ := cells4 (blk_below HK.out HX.out)
          by_cases cj : j < n
          · have f3 : (j : Int) < (n : Int) := by omega
            have f1 : decide ((j : Int) < (n : Int)) = true := decide_eq_true f3
            have f5 : (0 : Int) ≤ (j : Int) := by omega
            have f4 : IntKind.i64.wrap ((j : Int) + 1) = (j : Int) + 1 := by rw [IntKind.wrap_i64]; have := HL.out; omega
            have hj : j < ks.length := by have := HN.out; omega
            have hC : Kd.C kE W A ks.length ks := by rw [← HN.out]; exact HC.out
            obtain ⟨ad, B, d, hA, hRk, hcs⟩ := kid_cells hC j hj
            have HCS := Aside0.mk (show ∀ w', Below W.heap.size W w' → (w'.cell? ⟨gb, 0, none⟩ = some (.int .i64 s0) ∧ w'.cell? ⟨gb, 1, none⟩ = some (.string s1) ∧ w'.cell? ⟨gb, 2, none⟩ = some (.string s2) ∧ w'.cell? ⟨gb, 3, none⟩ = some (.slice A n c)) ∧ w'.cell? (ad.add (j * 4)) = some (.int .i64 ks[j].f0) ∧ w'.cell? ⟨(ad.add (j * 4)).block, (ad.add (j * 4)).off + 1, none⟩ = some (.string ks[j].f1) ∧ w'.cell? ⟨(ad.add (j * 4)).block, (ad.add (j * 4)).off + 2, none⟩ = some (.string ks[j].f2) ∧ w'.cell? ⟨(ad.add (j * 4)).block, (ad.add (j * 4)).off + 3, none⟩ = some (.slice B ks[j].f3.length d) from fun w' h => ⟨cells4 (blk_below HK.out h), hcs w' h⟩)
            have htx := fun W' (h : Below W.heap.size W W') => HKID.out j hj B d W' (hRk.below h)
            have hlv := fun W' (h : Below W.heap.size W W') => rleaf_any ks[j] B d W' (hRk.below h)
            have htb := HTB.out j hj
            have htk : ks.take (j + 1) = ks.take j ++ [ks[j]] := List.take_succ_eq_append_getElem hj
            have hjb := HJB.out j
            have hne : 0 < j → ks.take j ≠ [] := fun h e => by have := congrArg List.length e; rw [List.length_take, List.length_nil] at this; omega
            have ht0 : j = 0 → ks.take j = [] := fun h => by rw [h, List.take_zero]
            obtain ⟨y, hy⟩ : ∃ y, y = ks[j] := ⟨_, rfl⟩
            rw [← hy] at htb htk
            rw [← hy] at HCS
            rw [← hy] at htx
            rw [← hy] at hlv
            obtain ⟨T, hT⟩ : ∃ T, T = txE y := ⟨_, rfl⟩
            rw [← hT] at htx htb
            have HTY := Aside0.mk hT.symm
            obtain ⟨nk, hnk⟩ : ∃ n, n = y.f3.length := ⟨_, rfl⟩
            rw [← hnk] at htx
            rw [← hnk] at hlv
            rw [← hnk] at HCS
            have HTX := Aside0.mk htx
            have HLV := Aside0.mk hlv
            have HTK := Aside0.mk htk
            obtain ⟨ts, hts⟩ : ∃ ts, ts = ks.take j := ⟨_, rfl⟩
            rw [← hts] at HTK hjb hne ht0 ⊢
            have HNE := Aside0.mk (And.intro hne ht0)
            have HSZ := Aside0.mk (And.intro htb hjb)
            obtain ⟨J, hJ⟩ : ∃ J, J = jn s0 ts := ⟨_, rfl⟩
            rw [← hJ] at HSZ ⊢
            have HJJ := Aside0.mk hJ
            obtain ⟨⟨q0, q1, q2, q3⟩, a1, a2, a3, a4⟩ := HCS.out wr HX.out
            subst hA
            clear hts hJ hnk hT hy htx hlv htb htk hjb hne ht0 hRk hcs hC hj
            by_cases cz : j = 0
            · have g0 : ¬ (0 : Int) < (j : Int) := by omega
              have g1 : decide ((0 : Int) < (j : Int)) = false := decide_eq_false g0
              have HT0 := Aside0.mk (show ts = [] from HNE.out.2 cz)
              have HJ1 := Aside0.mk (show J = [] from by rw [HJJ.out, HT0.out, jn, opL]; rfl)
              have HS := Aside0.mk (show jn s0 (ks.take (j + 1)) = opE y from by rw [HTK.out, HT0.out]; exact jn_first s0 y)
              clear cz
              by_cases cl : leafK y.f0 = true
              · have hlf : leafK y.f0 = true := by simpa using cl
                have HOP := Aside0.mk (show opE y = T from by rw [← HTY.out]; unfold opE; rw [if_pos cl])
                have HEQ := Aside0.mk (show bs (jn s0 (ks.take (j + 1))) = (bs J ++ bs T) from by rw [HS.out, HOP.out, HJ1.out]; apply ByteArray.ext; simp [bs, ByteArray.data_append])
                rw [hlf] at HLV
                clear cl hlf
                have w1 : ¬ 9223372036854775807 < (bs J).size + (bs T).size := by rw [bs_size, bs_size]; have := HSZ.out; omega
                go_wp2_with (first | (go_at_call 29; refine (HLV.out _ HX.out).mono ?_; clear HLV; rintro e W3 ⟨rfl, h3⟩; have HX3 := Aside0.mk (below_then HX.out HX.out.size h3); clear h3 q0 q1 q2 q3 a1 a2 a3 a4; obtain ⟨⟨q0, q1, q2, q3⟩, a1, a2, a3, a4⟩ := HCS.out W3 HX3.out) | (go_at_call 11; refine (HTX.out _ HX3.out).mono ?_; clear HTX; rintro e W4 ⟨rfl, h4⟩; have HX4 := Aside0.mk (below_then HX3.out HX3.out.size h4); clear h4))
                go_roundg (n - (j + 1))
                case measure => have := HJ.out; omega
                case rel => exact ⟨j + 1, by first | rfl | go_num, by rw [HEQ.out], ⟨by have := HJ.out; omega⟩, HX4⟩
              · have hlf : leafK y.f0 = false := by simpa using cl
                have HOP := Aside0.mk (show opE y = 40 :: (T ++ [41]) from by rw [← HTY.out]; unfold opE; rw [if_neg cl])
                have HEQ := Aside0.mk (show bs (jn s0 (ks.take (j + 1))) = (((bs J ++ (⟨#[40]⟩ : ByteArray)) ++ bs T) ++ (⟨#[41]⟩ : ByteArray)) from by rw [HS.out, HOP.out, HJ1.out]; apply ByteArray.ext; simp [bs, ByteArray.data_append])
                rw [hlf] at HLV
                clear cl hlf
                have w1 : ¬ 9223372036854775807 < (bs J).size + 1 := by rw [bs_size]; have := HSZ.out; omega
                have w2 : ¬ 9223372036854775807 < (bs J).size + 1 + (bs T).size := by rw [bs_size, bs_size]; have := HSZ.out; omega
                have w3 : ¬ 9223372036854775807 < (bs J).size + 1 + (bs T).size + 1 := by rw [bs_size, bs_size]; have := HSZ.out; omega
                go_wp2_with (first | (go_at_call 29; refine (HLV.out _ HX.out).mono ?_; clear HLV; rintro e W3 ⟨rfl, h3⟩; have HX3 := Aside0.mk (below_then HX.out HX.out.size h3); clear h3 q0 q1 q2 q3 a1 a2 a3 a4; obtain ⟨⟨q0, q1, q2, q3⟩, a1, a2, a3, a4⟩ := HCS.out W3 HX3.out) | (go_at_call 11; refine (HTX.out _ HX3.out).mono ?_; clear HTX; rintro e W4 ⟨rfl, h4⟩; have HX4 := Aside0.mk (below_then HX3.out HX3.out.size h4); clear h4))
                go_roundg (n - (j + 1))
                case measure => have := HJ.out; omega
                case rel => exact ⟨j + 1, by first | rfl | go_num, by rw [HEQ.out], ⟨by have := HJ.out; omega⟩, HX4⟩
            · have g0 : (0 : Int) < (j : Int) := by omega
              have g1 : decide ((0 : Int) < (j : Int)) = true := decide_eq_true g0
              have HS := Aside0.mk (show jn s0 (ks.take (j + 1)) = J ++ (sgnK s0 ++ opE y) from by rw [HTK.out, HJJ.out]; exact jn_next s0 ts y (HNE.out.1 (by omega)))
              have z1 : ¬ 9223372036854775807 < (bs J).size + 1 := by rw [bs_size]; have := HSZ.out; omega
              have z2 : ¬ 9223372036854775807 < (bs J).size + 1 + 1 := by rw [bs_size]; have := HSZ.out; omega
              have z3 : ¬ 9223372036854775807 < (bs J).size + 1 + 1 + 1 := by rw [bs_size]; have := HSZ.out; omega
              rcases HK3.out with rfl | rfl | rfl
              · skip
                by_cases cl : leafK y.f0 = true
                · have hlf : leafK y.f0 = true := by simpa using cl
                  have HOP := Aside0.mk (show opE y = T from by rw [← HTY.out]; unfold opE; rw [if_pos cl])
                  have HEQ := Aside0.mk (show bs (jn _ (ks.take (j + 1))) = ((((bs J ++ (⟨#[32]⟩ : ByteArray)) ++ (⟨#[43]⟩ : ByteArray)) ++ (⟨#[32]⟩ : ByteArray)) ++ bs T) from by rw [HS.out, HOP.out]; apply ByteArray.ext; simp [bs, sgnK, ByteArray.data_append])
                  rw [hlf] at HLV
                  clear cl hlf
                  have w1 : ¬ 9223372036854775807 < (bs J).size + 1 + 1 + 1 + (bs T).size := by rw [bs_size, bs_size]; have := HSZ.out; omega
                  have hxa : Below W.heap.size W (wr.alloc (.cells #[.string ⟨#[43]⟩, .string ⟨#[38]⟩, .string ⟨#[45]⟩] 9)) := below_then HX.out HX.out.size (below_alloc (B0 wr) _)
                  obtain ⟨⟨p0, p1, p2, p3⟩, _, _, _, _⟩ := HCS.out _ hxa
                  clear hxa
                  go_upto_region 11 with fail
                  obtain ⟨X0, hX0⟩ : ∃ X, X = wr.alloc (.cells #[.string ⟨#[43]⟩, .string ⟨#[38]⟩, .string ⟨#[45]⟩] 9) := ⟨_, rfl⟩
                  have HX0 := Aside0.mk (show Below W.heap.size W X0 from by rw [hX0]; exact below_then HX.out HX.out.size (below_alloc (B0 wr) _))
                  rw [← hX0]
                  clear hX0 p0 p1 p2 p3 q0 q1 q2 q3 a1 a2 a3 a4
                  obtain ⟨⟨q0, q1, q2, q3⟩, a1, a2, a3, a4⟩ := HCS.out X0 HX0.out
                  go_wp2_with (first | (go_at_call 29; refine (HLV.out _ HX0.out).mono ?_; clear HLV; rintro e W3 ⟨rfl, h3⟩; have HX3 := Aside0.mk (below_then HX0.out HX0.out.size h3); clear h3 q0 q1 q2 q3 a1 a2 a3 a4; obtain ⟨⟨q0, q1, q2, q3⟩, a1, a2, a3, a4⟩ := HCS.out W3 HX3.out) | (go_at_call 11; refine (HTX.out _ HX3.out).mono ?_; clear HTX; rintro e W4 ⟨rfl, h4⟩; have HX4 := Aside0.mk (below_then HX3.out HX3.out.size h4); clear h4))
                  go_roundg (n - (j + 1))
                  case measure => have := HJ.out; omega
                  case rel => exact ⟨j + 1, by first | rfl | go_num, by rw [HEQ.out], ⟨by have := HJ.out; omega⟩, HX4⟩
                · have hlf : leafK y.f0 = false := by simpa using cl
                  have HOP := Aside0.mk (show opE y = 40 :: (T ++ [41]) from by rw [← HTY.out]; unfold opE; rw [if_neg cl])
                  have HEQ := Aside0.mk (show bs (jn _ (ks.take (j + 1))) = ((((((bs J ++ (⟨#[32]⟩ : ByteArray)) ++ (⟨#[43]⟩ : ByteArray)) ++ (⟨#[32]⟩ : ByteArray)) ++ (⟨#[40]⟩ : ByteArray)) ++ bs T) ++ (⟨#[41]⟩ : ByteArray)) from by rw [HS.out, HOP.out]; apply ByteArray.ext; simp [bs, sgnK, ByteArray.data_append])
                  rw [hlf] at HLV
                  clear cl hlf
                  have w1 : ¬ 9223372036854775807 < (bs J).size + 1 + 1 + 1 + 1 := by rw [bs_size]; have := HSZ.out; omega
                  have w2 : ¬ 9223372036854775807 < (bs J).size + 1 + 1 + 1 + 1 + (bs T).size := by rw [bs_size, bs_size]; have := HSZ.out; omega
                  have w3 : ¬ 9223372036854775807 < (bs J).size + 1 + 1 + 1 + 1 + (bs T).size + 1 := by rw [bs_size, bs_size]; have := HSZ.out; omega
                  have hxa : Below W.heap.size W (wr.alloc (.cells #[.string ⟨#[43]⟩, .string ⟨#[38]⟩, .string ⟨#[45]⟩] 9)) := below_then HX.out HX.out.size (below_alloc (B0 wr) _)
                  obtain ⟨⟨p0, p1, p2, p3⟩, _, _, _, _⟩ := HCS.out _ hxa
                  clear hxa
                  go_upto_region 11 with fail
                  obtain ⟨X0, hX0⟩ : ∃ X, X = wr.alloc (.cells #[.string ⟨#[43]⟩, .string ⟨#[38]⟩, .string ⟨#[45]⟩] 9) := ⟨_, rfl⟩
                  have HX0 := Aside0.mk (show Below W.heap.size W X0 from by rw [hX0]; exact below_then HX.out HX.out.size (below_alloc (B0 wr) _))
                  rw [← hX0]
                  clear hX0 p0 p1 p2 p3 q0 q1 q2 q3 a1 a2 a3 a4
                  obtain ⟨⟨q0, q1, q2, q3⟩, a1, a2, a3, a4⟩ := HCS.out X0 HX0.out
                  go_wp2_with (first | (go_at_call 29; refine (HLV.out _ HX0.out).mono ?_; clear HLV; rintro e W3 ⟨rfl, h3⟩; have HX3 := Aside0.mk (below_then HX0.out HX0.out.size h3); clear h3 q0 q1 q2 q3 a1 a2 a3 a4; obtain ⟨⟨q0, q1, q2, q3⟩, a1, a2, a3, a4⟩ := HCS.out W3 HX3.out) | (go_at_call 11; refine (HTX.out _ HX3.out).mono ?_; clear HTX; rintro e W4 ⟨rfl, h4⟩; have HX4 := Aside0.mk (below_then HX3.out HX3.out.size h4); clear h4))
                  go_roundg (n - (j + 1))
                  case measure => have := HJ.out; omega
                  case rel => exact ⟨j + 1, by first | rfl | go_num, by rw [HEQ.out], ⟨by have := HJ.out; omega⟩, HX4⟩
              · skip
                by_cases cl : leafK y.f0 = true
                · have hlf : leafK y.f0 = true := by simpa using cl
                  have HOP := Aside0.mk (show opE y = T from by rw [← HTY.out]; unfold opE; rw [if_pos cl])
                  have HEQ := Aside0.mk (show bs (jn _ (ks.take (j + 1))) = ((((bs J ++ (⟨#[32]⟩ : ByteArray)) ++ (⟨#[38]⟩ : ByteArray)) ++ (⟨#[32]⟩ : ByteArray)) ++ bs T) from by rw [HS.out, HOP.out]; apply ByteArray.ext; simp [bs, sgnK, ByteArray.data_append])
                  rw [hlf] at HLV
                  clear cl hlf
                  have w1 : ¬ 9223372036854775807 < (bs J).size + 1 + 1 + 1 + (bs T).size := by rw [bs_size, bs_size]; have := HSZ.out; omega
                  have hxa : Below W.heap.size W (wr.alloc (.cells #[.string ⟨#[43]⟩, .string ⟨#[38]⟩, .string ⟨#[45]⟩] 9)) := below_then HX.out HX.out.size (below_alloc (B0 wr) _)
                  obtain ⟨⟨p0, p1, p2, p3⟩, _, _, _, _⟩ := HCS.out _ hxa
                  clear hxa
                  go_upto_region 11 with fail
                  obtain ⟨X0, hX0⟩ : ∃ X, X = wr.alloc (.cells #[.string ⟨#[43]⟩, .string ⟨#[38]⟩, .string ⟨#[45]⟩] 9) := ⟨_, rfl⟩
                  have HX0 := Aside0.mk (show Below W.heap.size W X0 from by rw [hX0]; exact below_then HX.out HX.out.size (below_alloc (B0 wr) _))
                  rw [← hX0]
                  clear hX0 p0 p1 p2 p3 q0 q1 q2 q3 a1 a2 a3 a4
                  obtain ⟨⟨q0, q1, q2, q3⟩, a1, a2, a3, a4⟩ := HCS.out X0 HX0.out
                  go_wp2_with (first | (go_at_call 29; refine (HLV.out _ HX0.out).mono ?_; clear HLV; rintro e W3 ⟨rfl, h3⟩; have HX3 := Aside0.mk (below_then HX0.out HX0.out.size h3); clear h3 q0 q1 q2 q3 a1 a2 a3 a4; obtain ⟨⟨q0, q1, q2, q3⟩, a1, a2, a3, a4⟩ := HCS.out W3 HX3.out) | (go_at_call 11; refine (HTX.out _ HX3.out).mono ?_; clear HTX; rintro e W4 ⟨rfl, h4⟩; have HX4 := Aside0.mk (below_then HX3.out HX3.out.size h4); clear h4))
                  go_roundg (n - (j + 1))
                  case measure => have := HJ.out; omega
                  case rel => exact ⟨j + 1, by first | rfl | go_num, by rw [HEQ.out], ⟨by have := HJ.out; omega⟩, HX4⟩
                · have hlf : leafK y.f0 = false := by simpa using cl
                  have HOP := Aside0.mk (show opE y = 40 :: (T ++ [41]) from by rw [← HTY.out]; unfold opE; rw [if_neg cl])
                  have HEQ := Aside0.mk (show bs (jn _ (ks.take (j + 1))) = ((((((bs J ++ (⟨#[32]⟩ : ByteArray)) ++ (⟨#[38]⟩ : ByteArray)) ++ (⟨#[32]⟩ : ByteArray)) ++ (⟨#[40]⟩ : ByteArray)) ++ bs T) ++ (⟨#[41]⟩ : ByteArray)) from by rw [HS.out, HOP.out]; apply ByteArray.ext; simp [bs, sgnK, ByteArray.data_append])
                  rw [hlf] at HLV
                  clear cl hlf
                  have w1 : ¬ 9223372036854775807 < (bs J).size + 1 + 1 + 1 + 1 := by rw [bs_size]; have := HSZ.out; omega
                  have w2 : ¬ 9223372036854775807 < (bs J).size + 1 + 1 + 1 + 1 + (bs T).size := by rw [bs_size, bs_size]; have := HSZ.out; omega
                  have w3 : ¬ 9223372036854775807 < (bs J).size + 1 + 1 + 1 + 1 + (bs T).size + 1 := by rw [bs_size, bs_size]; have := HSZ.out; omega
                  have hxa : Below W.heap.size W (wr.alloc (.cells #[.string ⟨#[43]⟩, .string ⟨#[38]⟩, .string ⟨#[45]⟩] 9)) := below_then HX.out HX.out.size (below_alloc (B0 wr) _)
                  obtain ⟨⟨p0, p1, p2, p3⟩, _, _, _, _⟩ := HCS.out _ hxa
                  clear hxa
                  go_upto_region 11 with fail
                  obtain ⟨X0, hX0⟩ : ∃ X, X = wr.alloc (.cells #[.string ⟨#[43]⟩, .string ⟨#[38]⟩, .string ⟨#[45]⟩] 9) := ⟨_, rfl⟩
                  have HX0 := Aside0.mk (show Below W.heap.size W X0 from by rw [hX0]; exact below_then HX.out HX.out.size (below_alloc (B0 wr) _))
                  rw [← hX0]
                  clear hX0 p0 p1 p2 p3 q0 q1 q2 q3 a1 a2 a3 a4
                  obtain ⟨⟨q0, q1, q2, q3⟩, a1, a2, a3, a4⟩ := HCS.out X0 HX0.out
                  go_wp2_with (first | (go_at_call 29; refine (HLV.out _ HX0.out).mono ?_; clear HLV; rintro e W3 ⟨rfl, h3⟩; have HX3 := Aside0.mk (below_then HX0.out HX0.out.size h3); clear h3 q0 q1 q2 q3 a1 a2 a3 a4; obtain ⟨⟨q0, q1, q2, q3⟩, a1, a2, a3, a4⟩ := HCS.out W3 HX3.out) | (go_at_call 11; refine (HTX.out _ HX3.out).mono ?_; clear HTX; rintro e W4 ⟨rfl, h4⟩; have HX4 := Aside0.mk (below_then HX3.out HX3.out.size h4); clear h4))
                  go_roundg (n - (j + 1))
                  case measure => have := HJ.out; omega
                  case rel => exact ⟨j + 1, by first | rfl | go_num, by rw [HEQ.out], ⟨by have := HJ.out; omega⟩, HX4⟩
              · skip
                by_cases cl : leafK y.f0 = true
                · have hlf : leafK y.f0 = true := by simpa using cl
                  have HOP := Aside0.mk (show opE y = T from by rw [← HTY.out]; unfold opE; rw [if_pos cl])
                  have HEQ := Aside0.mk (show bs (jn _ (ks.take (j + 1))) = ((((bs J ++ (⟨#[32]⟩ : ByteArray)) ++ (⟨#[45]⟩ : ByteArray)) ++ (⟨#[32]⟩ : ByteArray)) ++ bs T) from by rw [HS.out, HOP.out]; apply ByteArray.ext; simp [bs, sgnK, ByteArray.data_append])
                  rw [hlf] at HLV
                  clear cl hlf
                  have w1 : ¬ 9223372036854775807 < (bs J).size + 1 + 1 + 1 + (bs T).size := by rw [bs_size, bs_size]; have := HSZ.out; omega
                  have hxa : Below W.heap.size W (wr.alloc (.cells #[.string ⟨#[43]⟩, .string ⟨#[38]⟩, .string ⟨#[45]⟩] 9)) := below_then HX.out HX.out.size (below_alloc (B0 wr) _)
                  obtain ⟨⟨p0, p1, p2, p3⟩, _, _, _, _⟩ := HCS.out _ hxa
                  clear hxa
                  go_upto_region 11 with fail
                  obtain ⟨X0, hX0⟩ : ∃ X, X = wr.alloc (.cells #[.string ⟨#[43]⟩, .string ⟨#[38]⟩, .string ⟨#[45]⟩] 9) := ⟨_, rfl⟩
                  have HX0 := Aside0.mk (show Below W.heap.size W X0 from by rw [hX0]; exact below_then HX.out HX.out.size (below_alloc (B0 wr) _))
                  rw [← hX0]
                  clear hX0 p0 p1 p2 p3 q0 q1 q2 q3 a1 a2 a3 a4
                  obtain ⟨⟨q0, q1, q2, q3⟩, a1, a2, a3, a4⟩ := HCS.out X0 HX0.out
                  go_wp2_with (first | (go_at_call 29; refine (HLV.out _ HX0.out).mono ?_; clear HLV; rintro e W3 ⟨rfl, h3⟩; have HX3 := Aside0.mk (below_then HX0.out HX0.out.size h3); clear h3 q0 q1 q2 q3 a1 a2 a3 a4; obtain ⟨⟨q0, q1, q2, q3⟩, a1, a2, a3, a4⟩ := HCS.out W3 HX3.out) | (go_at_call 11; refine (HTX.out _ HX3.out).mono ?_; clear HTX; rintro e W4 ⟨rfl, h4⟩; have HX4 := Aside0.mk (below_then HX3.out HX3.out.size h4); clear h4))
                  go_roundg (n - (j + 1))
                  case measure => have := HJ.out; omega
                  case rel => exact ⟨j + 1, by first | rfl | go_num, by rw [HEQ.out], ⟨by have := HJ.out; omega⟩, HX4⟩
                · have hlf : leafK y.f0 = false := by simpa using cl
                  have HOP := Aside0.mk (show opE y = 40 :: (T ++ [41]) from by rw [← HTY.out]; unfold opE; rw [if_neg cl])
                  have HEQ := Aside0.mk (show bs (jn _ (ks.take (j + 1))) = ((((((bs J ++ (⟨#[32]⟩ : ByteArray)) ++ (⟨#[45]⟩ : ByteArray)) ++ (⟨#[32]⟩ : ByteArray)) ++ (⟨#[40]⟩ : ByteArray)) ++ bs T) ++ (⟨#[41]⟩ : ByteArray)) from by rw [HS.out, HOP.out]; apply ByteArray.ext; simp [bs, sgnK, ByteArray.data_append])
                  rw [hlf] at HLV
                  clear cl hlf
                  have w1 : ¬ 9223372036854775807 < (bs J).size + 1 + 1 + 1 + 1 := by rw [bs_size]; have := HSZ.out; omega
                  have w2 : ¬ 9223372036854775807 < (bs J).size + 1 + 1 + 1 + 1 + (bs T).size := by rw [bs_size, bs_size]; have := HSZ.out; omega
                  have w3 : ¬ 9223372036854775807 < (bs J).size + 1 + 1 + 1 + 1 + (bs T).size + 1 := by rw [bs_size, bs_size]; have := HSZ.out; omega
                  have hxa : Below W.heap.size W (wr.alloc (.cells #[.string ⟨#[43]⟩, .string ⟨#[38]⟩, .string ⟨#[45]⟩] 9)) := below_then HX.out HX.out.size (below_alloc (B0 wr) _)
                  obtain ⟨⟨p0, p1, p2, p3⟩, _, _, _, _⟩ := HCS.out _ hxa
                  clear hxa
                  go_upto_region 11 with fail
                  obtain ⟨X0, hX0⟩ : ∃ X, X = wr.alloc (.cells #[.string ⟨#[43]⟩, .string ⟨#[38]⟩, .string ⟨#[45]⟩] 9) := ⟨_, rfl⟩
                  have HX0 := Aside0.mk (show Below W.heap.size W X0 from by rw [hX0]; exact below_then HX.out HX.out.size (below_alloc (B0 wr) _))
                  rw [← hX0]
                  clear hX0 p0 p1 p2 p3 q0 q1 q2 q3 a1 a2 a3 a4
                  obtain ⟨⟨q0, q1, q2, q3⟩, a1, a2, a3, a4⟩ := HCS.out X0 HX0.out
                  go_wp2_with (first | (go_at_call 29; refine (HLV.out _ HX0.out).mono ?_; clear HLV; rintro e W3 ⟨rfl, h3⟩; have HX3 := Aside0.mk (below_then HX0.out HX0.out.size h3); clear h3 q0 q1 q2 q3 a1 a2 a3 a4; obtain ⟨⟨q0, q1, q2, q3⟩, a1, a2, a3, a4⟩ := HCS.out W3 HX3.out) | (go_at_call 11; refine (HTX.out _ HX3.out).mono ?_; clear HTX; rintro e W4 ⟨rfl, h4⟩; have HX4 := Aside0.mk (below_then HX3.out HX3.out.size h4); clear h4))
                  go_roundg (n - (j + 1))
                  case measure => have := HJ.out; omega
                  case rel => exact ⟨j + 1, by first | rfl | go_num, by rw [HEQ.out], ⟨by have := HJ.out; omega⟩, HX4⟩
          · obtain rfl : j = n := by have := HJ.out; omega
            have f3 : ¬ (j : Int) < (j : Int) := by omega
            have HE := Aside0.mk (show bs (jn s0 (ks.take j)) = r from by rw [HRR.out, HN.out, List.take_length])
            rw [HE.out]
            go_wp2
            go_ret
            exact ⟨rfl, below_then HBW.out HBW.out.size HX.out⟩
end Go.Proofs.YtikgngcdgejgjaaDoor.HExRt
/- awake of the laws of expressions: it returns true. -/
namespace Go.Proofs.YtikgngcdgejgjaaDoor.HExK
open Go.RowKit Go.Proofs.YtikgngcdgejgjaaDoorW.PrintWords Go.Proofs.YtikgngcdgejgjaaDoor.HLib Go.Proofs.YtikgngcdgejgjaaDoor.HGr Go.Proofs.YtikgngcdgejgjaaDoor.HNameP Go.Proofs.YtikgngcdgejgjaaDoor.HName Go.Proofs.YtikgngcdgejgjaaDoor.HPe Go.Proofs.YtikgngcdgejgjaaDoor.HPf Go.Proofs.YtikgngcdgejgjaaDoor.HExP Go.Proofs.YtikgngcdgejgjaaDoor.HExR Go.Proofs.YtikgngcdgejgjaaDoor.HExQ Go.Proofs.YtikgngcdgejgjaaDoor.HExL Go.Proofs.YtikgngcdgejgjaaDoor.HExA Go.Proofs.YtikgngcdgejgjaaDoor.HExF Go.Proofs.YtikgngcdgejgjaaDoor.HExW Go.Proofs.YtikgngcdgejgjaaDoor.HExI Go.Proofs.YtikgngcdgejgjaaDoor.HExT Go.Proofs.YtikgngcdgejgjaaDoor.HExX Go.Proofs.YtikgngcdgejgjaaDoor.HExC Go.Proofs.YtikgngcdgejgjaaDoor.HExM Go.Proofs.YtikgngcdgejgjaaDoor.HExN
open Go.Proofs.YtikgngcdgejgjaaDoor.PExprMatchesReference
set_option linter.unusedVariables false
set_option linter.unusedSimpArgs false
abbrev e1 : Ex := ⟨1, ⟨#[]⟩, ⟨#[97]⟩, []⟩
abbrev e2 : Ex := ⟨1, ⟨#[]⟩, ⟨#[98]⟩, []⟩
abbrev e3 : Ex := ⟨2, ⟨#[99]⟩, ⟨#[100]⟩, []⟩
abbrev e5 : Ex := ⟨5, ⟨#[]⟩, ⟨#[]⟩, [e2, e3]⟩
abbrev ee : Ex := ⟨3, ⟨#[]⟩, ⟨#[]⟩, [e1, e5]⟩
abbrev e0 : Ex := ⟨0, ⟨#[]⟩, ⟨#[]⟩, []⟩
theorem ee_right : rightE ee = true := by decide +kernel
theorem ee_text : textE ee = [97, 32, 43, 32, 40, 98, 32, 45, 32, 99, 45, 62, 100, 41] := by decide +kernel
theorem ee_depth : depE ee = 3 := by decide +kernel
theorem e0_right : rightE e0 = false := by decide +kernel
theorem e0_text : textE e0 = [] := by decide +kernel
theorem ee_same : cmpE ee ee = 0 := by decide +kernel
theorem ee_cmp : cmpE ee e1 = 1 := by decide +kernel
theorem ee_nod : nodE ee = 5 := by decide +kernel
theorem e1_nod : nodE e1 = 1 := by decide +kernel
theorem e0_nod : nodE e0 = 1 := by decide +kernel
theorem ee_str : strE 100000 ee := by simp only [strE, strL]; decide
theorem rows_two {w : World} {g : Nat} {x y : Ex} {c d : List Value} {t : TypeId} (h : w.heap[g]? = some (.cells (c ++ d).toArray t (0, 0))) (hc : kE.K w x c) (hd : kE.K w y d) : Kd.C kE w (some ⟨g, 0, none⟩) 2 [x, y] := by
  have hcl : c.length = 4 := kE.K_len hc
  have hdl : d.length = 4 := kE.K_len hd
  refine ⟨rfl, by decide, fun _ => ⟨_, rfl, fun j p hj => ?_⟩⟩
  have hcell : ∀ i, w.cell? ⟨g, i, none⟩ = (c ++ d)[i]? := fun i => (blk_cell h i).trans (by simp)
  match j, hj with
  | 0, hj =>
    obtain rfl : x = p := by simpa using hj
    refine ⟨c, hcl, hc, fun i u hu => ?_⟩
    rw [add_plain, hcell]
    have hi : i < c.length := (List.getElem?_eq_some_iff.1 hu).1
    rw [show 0 * kE.sz + i = i from by omega, List.getElem?_append_left hi]
    exact hu
  | 1, hj =>
    obtain rfl : y = p := by simpa using hj
    refine ⟨d, hdl, hd, fun i u hu => ?_⟩
    rw [add_plain, hcell, show 1 * kE.sz + i = c.length + i from by rw [hcl]; show 1 * 4 + i = _; omega, List.getElem?_append_right (by omega), Nat.add_sub_cancel_left]
    exact hu
  | j + 2, hj => simp at hj
theorem leaf_K (w : World) (k : Int) (v n : ByteArray) : kE.K w ⟨k, v, n, []⟩ [.int .i64 k, .string v, .string n, .slice none 0 0] := k24_mk w ⟨k, v, n, []⟩ (Nat.le_refl 0) (Kd.C_nil _ _)
theorem eqIn_func {P : Program} {t : TypeId} {ps rs : Array TypeId} {vr : Bool} (ht : P.underlying t = some (.func ps rs vr)) (d : Nat) (f : Fn) (lb : Array Value) (w : World) : (Op.equalIn (d + 1) t (.func f #[] lb) .nilFunc).run P w = .ok false w := by
  simp [Op.equalIn, run_underlying ht, Result.andThen]
theorem neq_func {P : Program} {t : TypeId} {ps rs : Array TypeId} {vr : Bool} (ht : P.underlying t = some (.func ps rs vr)) (f : Fn) (lb : Array Value) (w : World) : (binOp .neq t (.func f #[] lb) .nilFunc).run P w = .ok (.bool true) w := by
  have h := eqIn_func ht 9999 f lb w
  simp only [binOp]
  simp [Op.equal, Op.maxDepth, h, Result.andThen]
set_option maxRecDepth 100000 in
set_option maxHeartbeats 8000000 in
theorem awake_any (w : World) (hG : ResG w) : Calls Tryd.prog 8 #[] w fun e w' => e = .returned (.bool true) ∧ Below w.heap.size w w' := by
  obtain ⟨Wa, hWa⟩ : ∃ W, W = w.alloc (.cells #[.int .i64 1, .string ⟨#[]⟩, .string ⟨#[98]⟩, .slice none 0 0, .int .i64 2, .string ⟨#[99]⟩, .string ⟨#[100]⟩, .slice none 0 0] 24) := ⟨_, rfl⟩
  obtain ⟨Wb, hWb⟩ : ∃ W, W = Wa.alloc (.cells #[.int .i64 1, .string ⟨#[]⟩, .string ⟨#[97]⟩, .slice none 0 0, .int .i64 5, .string ⟨#[]⟩, .string ⟨#[]⟩, .slice (some ⟨w.heap.size, 0, none⟩) 2 2] 24) := ⟨_, rfl⟩
  have sa : Wa.heap.size = w.heap.size + 1 := by rw [hWa]; exact World.size_alloc _ _
  have sb : Wb.heap.size = w.heap.size + 2 := by rw [hWb, World.size_alloc, sa]
  obtain ⟨W, hW⟩ : ∃ W, W = Wb.alloc (.cells #[.int .i64 3, .string ⟨#[]⟩, .string ⟨#[]⟩, .slice (some ⟨w.heap.size + 1, 0, none⟩) 2 2] 24) := ⟨_, rfl⟩
  have ba : Below w.heap.size w Wa := by rw [hWa]; exact below_alloc (B0 w) _
  have bb : Below Wa.heap.size Wa Wb := by rw [hWb]; exact below_alloc (B0 Wa) _
  have bc : Below Wb.heap.size Wb W := by rw [hW]; exact below_alloc (B0 Wb) _
  have bac := below_then bb bb.size bc
  have hb : Below w.heap.size w W := below_then ba ba.size bac
  have ka : W.heap[w.heap.size]? = some (.cells #[.int .i64 1, .string ⟨#[]⟩, .string ⟨#[98]⟩, .slice none 0 0, .int .i64 2, .string ⟨#[99]⟩, .string ⟨#[100]⟩, .slice none 0 0] 24 (0, 0)) := blk_below (by rw [hWa]; exact blk_new w _) bac
  have kb : W.heap[w.heap.size + 1]? = some (.cells #[.int .i64 1, .string ⟨#[]⟩, .string ⟨#[97]⟩, .slice none 0 0, .int .i64 5, .string ⟨#[]⟩, .string ⟨#[]⟩, .slice (some ⟨w.heap.size, 0, none⟩) 2 2] 24 (0, 0)) := blk_below (by rw [hWb, ← sa]; exact blk_new Wa _) bc
  have kc : W.heap[w.heap.size + 2]? = some (.cells #[.int .i64 3, .string ⟨#[]⟩, .string ⟨#[]⟩, .slice (some ⟨w.heap.size + 1, 0, none⟩) 2 2] 24 (0, 0)) := by rw [hW, ← sb]; exact blk_new Wb _
  have r5 : Kd.C kE W (some ⟨w.heap.size, 0, none⟩) 2 [e2, e3] := rows_two (c := [.int .i64 1, .string ⟨#[]⟩, .string ⟨#[98]⟩, .slice none 0 0]) (d := [.int .i64 2, .string ⟨#[99]⟩, .string ⟨#[100]⟩, .slice none 0 0]) ka (leaf_K W 1 _ _) (leaf_K W 2 _ _)
  have k5 : kE.K W e5 [.int .i64 5, .string ⟨#[]⟩, .string ⟨#[]⟩, .slice (some ⟨w.heap.size, 0, none⟩) 2 2] := k24_mk W e5 (Nat.le_refl 2) r5
  have hE : Rd W (some ⟨w.heap.size + 1, 0, none⟩) 2 ee := ⟨rows_two (c := [.int .i64 1, .string ⟨#[]⟩, .string ⟨#[97]⟩, .slice none 0 0]) (d := [.int .i64 5, .string ⟨#[]⟩, .string ⟨#[]⟩, .slice (some ⟨w.heap.size, 0, none⟩) 2 2]) kb (leaf_K W 1 _ _) k5, Nat.le_refl 2⟩
  have hE0 : ∀ W', Rd W' none 0 e0 := fun W' => ⟨Kd.C_nil _ _, Nat.le_refl 0⟩
  have hE1 : ∀ W', Rd W' none 0 e1 := fun W' => ⟨Kd.C_nil _ _, Nat.le_refl 0⟩
  obtain ⟨gA, hgA⟩ : ∃ A : Option Addr, A = some ⟨w.heap.size + 1, 0, none⟩ := ⟨_, rfl⟩
  obtain ⟨gc, hgc⟩ : ∃ g, g = w.heap.size + 2 := ⟨_, rfl⟩
  obtain ⟨ve, hve⟩ : ∃ v : Value, v = .agg #[.int .i64 3, .string ⟨#[]⟩, .string ⟨#[]⟩, .slice (some ⟨w.heap.size + 1, 0, none⟩) 2 2] := ⟨_, rfl⟩
  obtain ⟨v0, hv0⟩ : ∃ v : Value, v = .agg #[.int .i64 0, .string ⟨#[]⟩, .string ⟨#[]⟩, .slice none 0 0] := ⟨_, rfl⟩
  obtain ⟨v1, hv1⟩ : ∃ v : Value, v = .agg #[.int .i64 1, .string ⟨#[]⟩, .string ⟨#[97]⟩, .slice none 0 0] := ⟨_, rfl⟩
  have HBW := Aside0.mk hb
  have HG := Aside0.mk (show ∀ W', Below W.heap.size W W' → ResG W' from fun W' h => hG.below (below_then hb hb.size h) hG.1)
  have HLE := Aside0.mk (show ∀ W', Below W.heap.size W W' → (Instr.loadAt 24 (.pointer (some ⟨gc, 0, none⟩))).run Tryd.prog W' = .ok ve W' from fun W' h => by
    rw [hve, hgc]
    obtain ⟨c0, c1, c2, c3⟩ := cells4 (blk_below kc h)
    exact load_E (x := ee) (ad := ⟨w.heap.size + 2, 0, none⟩) c0 c1 c2 c3)
  have HLS := Aside0.mk (show ∀ W', Below W.heap.size W W' → (Instr.loadAt 22 (.pointer (some ⟨gc, 3, none⟩))).run Tryd.prog W' = .ok (.slice (some ⟨w.heap.size + 1, 0, none⟩) 2 2) W' from fun W' h => by
    rw [hgc]
    obtain ⟨c0, c1, c2, c3⟩ := cells4 (blk_below kc h)
    go_simp)
  have HL1 := Aside0.mk (show ∀ W', Below W.heap.size W W' → (Instr.loadAt 24 (.pointer (some ⟨w.heap.size + 1, 0, none⟩))).run Tryd.prog W' = .ok v1 W' from fun W' h => by
    rw [hv1]
    have hk := blk_below kb h
    exact load_E (x := e1) (ad := ⟨w.heap.size + 1, 0, none⟩) ((blk_cell hk 0).trans rfl) ((blk_cell hk 1).trans rfl) ((blk_cell hk 2).trans rfl) ((blk_cell hk 3).trans rfl))
  have HT := Aside0.mk (show ∀ W', Below W.heap.size W W' → Calls Tryd.prog 15 #[ve] W' fun e w' => e = .returned (.string ⟨#[97, 32, 43, 32, 40, 98, 32, 45, 32, 99, 45, 62, 100, 41]⟩) ∧ Below W'.heap.size W' w' from fun W' h => by
    have := Text_any ee (some ⟨w.heap.size + 1, 0, none⟩) 2 W' (by rw [ee_nod]; decide) (HG.out W' h) (hE.below h)
    rw [ee_text] at this
    rw [hve]; exact this)
  have HRT := Aside0.mk (show ∀ W', Below W.heap.size W W' → Calls Tryd.prog 12 #[ve] W' fun e w' => e = .returned (.bool true) ∧ Below W'.heap.size W' w' from fun W' h => by
    have := right_any ee (some ⟨w.heap.size + 1, 0, none⟩) 2 W' (by rw [ee_nod]; decide) (HG.out W' h) (hE.below h)
    rw [ee_right] at this
    rw [hve]; exact this)
  have HDP := Aside0.mk (show ∀ W', Below W.heap.size W W' → Calls Tryd.prog 13 #[ve] W' fun e w' => e = .returned (.int .i64 3) ∧ Below W'.heap.size W' w' from fun W' h => by
    have := depth_any ee (some ⟨w.heap.size + 1, 0, none⟩) 2 W' (by rw [ee_nod]; decide) (hE.below h)
    rw [ee_depth] at this
    rw [hve]; exact this)
  have HR0 := Aside0.mk (show ∀ W', Below W.heap.size W W' → Calls Tryd.prog 12 #[v0] W' fun e w' => e = .returned (.bool false) ∧ Below W'.heap.size W' w' from fun W' h => by
    have := right_any e0 none 0 W' (by rw [e0_nod]; decide) (HG.out W' h) (hE0 W')
    rw [e0_right] at this
    rw [hv0]; exact this)
  have HT0 := Aside0.mk (show ∀ W', Below W.heap.size W W' → Calls Tryd.prog 15 #[v0] W' fun e w' => e = .returned (.string ⟨#[]⟩) ∧ Below W'.heap.size W' w' from fun W' h => by
    have := Text_any e0 none 0 W' (by rw [e0_nod]; decide) (HG.out W' h) (hE0 W')
    rw [e0_text] at this
    rw [hv0]; exact this)
  have HCL := Aside0.mk (show ∀ W', Below W.heap.size W W' → Calls Tryd.prog 24 #[ve] W' fun e w' => ∃ B d, e = .returned (.agg #[.int .i64 3, .string ⟨#[]⟩, .string ⟨#[]⟩, .slice B 2 d]) ∧ Rd w' B d ee ∧ Below W'.heap.size W' w' from fun W' h => by
    have := clone_any ee (some ⟨w.heap.size + 1, 0, none⟩) 2 W' (by rw [ee_nod]; decide) ee_str (hE.below h)
    rw [hve]
    exact this.mono fun e w' ⟨B, d, h1, h2, h3⟩ => ⟨B, d, h1, rd_made h2, h3⟩)
  have HSM := Aside0.mk (show ∀ W' B d, Below W.heap.size W W' → Rd W' B d ee → Calls Tryd.prog 18 #[ve, .agg #[.int .i64 3, .string ⟨#[]⟩, .string ⟨#[]⟩, .slice B 2 d]] W' fun e w' => e = .returned (.bool true) ∧ Below W'.heap.size W' w' from fun W' B d h hB => by
    have := same_any ee ee (some ⟨w.heap.size + 1, 0, none⟩) B 2 d W' (by rw [ee_nod]; decide) (by rw [ee_nod]; decide) (hE.below h) hB
    rw [ee_same] at this
    rw [hve]; exact this)
  have HLV := Aside0.mk (show ∀ W', Calls Tryd.prog 20 #[ve] W' fun e w' => ∃ f lb, e = .returned (.func (.func f) #[] lb) ∧ Below W'.heap.size W' w' from fun W' => by
    rw [hve]
    exact (leaves_any ee (some ⟨w.heap.size + 1, 0, none⟩) 2 W').mono fun e w' ⟨h1, h2⟩ => ⟨_, _, h1, by rw [h2]; exact below_alloc (B0 W') _⟩)
  have HCP := Aside0.mk (show ∀ W', Below W.heap.size W W' → Calls Tryd.prog 16 #[ve, v1] W' fun e w' => e = .returned (.int .i64 1) ∧ Below W'.heap.size W' w' from fun W' h => by
    have := compare_any 1000000 ee (by rw [ee_nod]; decide) (Nat.le_refl _) e1 (by rw [e1_nod]; decide) (some ⟨w.heap.size + 1, 0, none⟩) none 2 0 W' (hE.below h) (hE1 W')
    rw [ee_cmp] at this
    rw [hve, hv1]; exact this)
  have HW := Aside0.mk (And.intro hW (And.intro hWb (And.intro hWa (And.intro sa (And.intro sb hgc)))))
  have HV0 := Aside0.mk hv0
  clear hW hWb hWa hG hE hE0 hE1 sa sb ba bb bc bac hb ka kb kc r5 k5 hgA hve hv0 hv1 hgc
  go_enter Tryd.func8, Tryd.ntmps8
  go_upto_region 2 with fail
  rw [← HW.out.2.2.1, ← HW.out.2.1, ← HW.out.1, ← HW.out.2.2.2.2.2]
  clear HW
  refine wp_region_held_drew (S := fun w' => Below W.heap.size W w') (by kernel_rfl) (pw_below_drewN (B0 W) 1) (fun hHeld => ?_)
  refine wpAnyH_take (i := 0) (v := ve) rfl (by kernel_rfl) (by kernel_rfl) (by kernel_rfl) (fun _ _ _ h => h) (yieldsIf_load (by rfl) 24 (.tmp 1) rfl (ve) (fun w' h => HLE.out w' h)) hHeld ?_
  simp only [List.getElem_toArray, List.getElem_cons_succ, List.getElem_cons_zero, Act.put, List.setIfInBounds_toArray, List.set_cons_zero, List.set_cons_succ]
  refine wpAnyH_ready (rs := [1]) (by kernel_rfl) (by simp) ?_
  refine AllReadyH.cons rfl (fun K hK => ?_) AllReadyH.nil
  simp only [List.getElem_toArray, List.getElem_cons_succ, List.getElem_cons_zero]
  rw [if_pos (by rfl)]
  go_simp
  refine (HT.out _ hHeld).mono ?_
  rintro e_ y1 ⟨rfl, hb⟩
  refine hK.out _ _ (below_step hHeld hb) (fun hHeld => ?_)
  clear hK K
  refine wpAnyH_take (i := 2) (v := .bool true) rfl (by kernel_rfl) (by kernel_rfl) (by kernel_rfl) (fun _ _ _ h => h) (Or.inl ⟨by rfl, ?hy2⟩) hHeld ?_
  case hy2 => intro w' hSw; go_simp
  simp only [List.getElem_toArray, List.getElem_cons_succ, List.getElem_cons_zero, Act.put, List.setIfInBounds_toArray, List.set_cons_zero, List.set_cons_succ]
  refine wpAnyH_take (i := 3) (v := .bool true) rfl (by kernel_rfl) (by kernel_rfl) (by kernel_rfl) (fun _ _ _ h => h) (Or.inl ⟨by rfl, ?hy3⟩) hHeld ?_
  case hy3 => intro w' hSw; go_simp
  simp only [List.getElem_toArray, List.getElem_cons_succ, List.getElem_cons_zero, Act.put, List.setIfInBounds_toArray, List.set_cons_zero, List.set_cons_succ]
  refine wpAnyH_take (i := 4) (v := ve) rfl (by kernel_rfl) (by kernel_rfl) (by kernel_rfl) (fun _ _ _ h => h) (yieldsIf_load (by rfl) 24 (.tmp 1) rfl (ve) (fun w' h => HLE.out w' h)) hHeld ?_
  simp only [List.getElem_toArray, List.getElem_cons_succ, List.getElem_cons_zero, Act.put, List.setIfInBounds_toArray, List.set_cons_zero, List.set_cons_succ]
  refine wpAnyH_ready (rs := [5]) (by kernel_rfl) (by simp) ?_
  refine AllReadyH.cons rfl (fun K hK => ?_) AllReadyH.nil
  simp only [List.getElem_toArray, List.getElem_cons_succ, List.getElem_cons_zero]
  rw [if_pos (by rfl)]
  go_simp
  refine (HRT.out _ hHeld).mono ?_
  rintro e_ y2 ⟨rfl, hb⟩
  refine hK.out _ _ (below_step hHeld hb) (fun hHeld => ?_)
  clear hK K
  refine wpAnyH_take (i := 6) (v := .bool true) rfl (by kernel_rfl) (by kernel_rfl) (by kernel_rfl) (fun _ _ _ h => h) (Or.inl ⟨by rfl, ?hy6⟩) hHeld ?_
  case hy6 => intro w' hSw; go_simp
  simp only [List.getElem_toArray, List.getElem_cons_succ, List.getElem_cons_zero, Act.put, List.setIfInBounds_toArray, List.set_cons_zero, List.set_cons_succ]
  refine wpAnyH_take (i := 7) (v := .bool true) rfl (by kernel_rfl) (by kernel_rfl) (by kernel_rfl) (fun _ _ _ h => h) (Or.inl ⟨by rfl, ?hy7⟩) hHeld ?_
  case hy7 => intro w' hSw; go_simp
  simp only [List.getElem_toArray, List.getElem_cons_succ, List.getElem_cons_zero, Act.put, List.setIfInBounds_toArray, List.set_cons_zero, List.set_cons_succ]
  refine wpAnyH_take (i := 8) (v := ve) rfl (by kernel_rfl) (by kernel_rfl) (by kernel_rfl) (fun _ _ _ h => h) (yieldsIf_load (by rfl) 24 (.tmp 1) rfl (ve) (fun w' h => HLE.out w' h)) hHeld ?_
  simp only [List.getElem_toArray, List.getElem_cons_succ, List.getElem_cons_zero, Act.put, List.setIfInBounds_toArray, List.set_cons_zero, List.set_cons_succ]
  refine wpAnyH_ready (rs := [9]) (by kernel_rfl) (by simp) ?_
  refine AllReadyH.cons rfl (fun K hK => ?_) AllReadyH.nil
  simp only [List.getElem_toArray, List.getElem_cons_succ, List.getElem_cons_zero]
  rw [if_pos (by rfl)]
  go_simp
  refine (HDP.out _ hHeld).mono ?_
  rintro e_ y3 ⟨rfl, hb⟩
  refine hK.out _ _ (below_step hHeld hb) (fun hHeld => ?_)
  clear hK K
  refine wpAnyH_take (i := 10) (v := .bool true) rfl (by kernel_rfl) (by kernel_rfl) (by kernel_rfl) (fun _ _ _ h => h) (Or.inl ⟨by rfl, ?hy10⟩) hHeld ?_
  case hy10 => intro w' hSw; go_simp
  simp only [List.getElem_toArray, List.getElem_cons_succ, List.getElem_cons_zero, Act.put, List.setIfInBounds_toArray, List.set_cons_zero, List.set_cons_succ]
  refine wpAnyH_take (i := 11) (v := .bool true) rfl (by kernel_rfl) (by kernel_rfl) (by kernel_rfl) (fun _ _ _ h => h) (Or.inl ⟨by rfl, ?hy11⟩) hHeld ?_
  case hy11 => intro w' hSw; go_simp
  simp only [List.getElem_toArray, List.getElem_cons_succ, List.getElem_cons_zero, Act.put, List.setIfInBounds_toArray, List.set_cons_zero, List.set_cons_succ]
  refine wpAnyH_take (i := 12) (v := .bool true) rfl (by kernel_rfl) (by kernel_rfl) (by kernel_rfl) (fun _ _ _ h => h) (Or.inl ⟨by rfl, ?hy12⟩) hHeld ?_
  case hy12 => intro w' hSw; go_simp
  simp only [List.getElem_toArray, List.getElem_cons_succ, List.getElem_cons_zero, Act.put, List.setIfInBounds_toArray, List.set_cons_zero, List.set_cons_succ]
  refine wpAnyH_take (i := 13) (v := v0) rfl (by kernel_rfl) (by kernel_rfl) (by kernel_rfl) (fun _ _ _ h => h) (Or.inl ⟨by rfl, ?hy13⟩) hHeld ?_
  case hy13 => intro w' hSw; rw [HV0.out]; go_simp
  simp only [List.getElem_toArray, List.getElem_cons_succ, List.getElem_cons_zero, Act.put, List.setIfInBounds_toArray, List.set_cons_zero, List.set_cons_succ]
  refine wpAnyH_ready (rs := [14]) (by kernel_rfl) (by simp) ?_
  refine AllReadyH.cons rfl (fun K hK => ?_) AllReadyH.nil
  simp only [List.getElem_toArray, List.getElem_cons_succ, List.getElem_cons_zero]
  rw [if_pos (by rfl)]
  go_simp
  refine (HR0.out _ hHeld).mono ?_
  rintro e_ y4 ⟨rfl, hb⟩
  refine hK.out _ _ (below_step hHeld hb) (fun hHeld => ?_)
  clear hK K
  refine wpAnyH_take (i := 15) (v := .bool true) rfl (by kernel_rfl) (by kernel_rfl) (by kernel_rfl) (fun _ _ _ h => h) (Or.inl ⟨by rfl, ?hy15⟩) hHeld ?_
  case hy15 => intro w' hSw; go_simp
  simp only [List.getElem_toArray, List.getElem_cons_succ, List.getElem_cons_zero, Act.put, List.setIfInBounds_toArray, List.set_cons_zero, List.set_cons_succ]
  refine wpAnyH_take (i := 16) (v := .bool true) rfl (by kernel_rfl) (by kernel_rfl) (by kernel_rfl) (fun _ _ _ h => h) (Or.inl ⟨by rfl, ?hy16⟩) hHeld ?_
  case hy16 => intro w' hSw; go_simp
  simp only [List.getElem_toArray, List.getElem_cons_succ, List.getElem_cons_zero, Act.put, List.setIfInBounds_toArray, List.set_cons_zero, List.set_cons_succ]
  refine wpAnyH_take (i := 17) (v := .bool true) rfl (by kernel_rfl) (by kernel_rfl) (by kernel_rfl) (fun _ _ _ h => h) (Or.inl ⟨by rfl, ?hy17⟩) hHeld ?_
  case hy17 => intro w' hSw; go_simp
  simp only [List.getElem_toArray, List.getElem_cons_succ, List.getElem_cons_zero, Act.put, List.setIfInBounds_toArray, List.set_cons_zero, List.set_cons_succ]
  refine wpAnyH_take (i := 18) (v := v0) rfl (by kernel_rfl) (by kernel_rfl) (by kernel_rfl) (fun _ _ _ h => h) (Or.inl ⟨by rfl, ?hy18⟩) hHeld ?_
  case hy18 => intro w' hSw; rw [HV0.out]; go_simp
  simp only [List.getElem_toArray, List.getElem_cons_succ, List.getElem_cons_zero, Act.put, List.setIfInBounds_toArray, List.set_cons_zero, List.set_cons_succ]
  refine wpAnyH_ready (rs := [19]) (by kernel_rfl) (by simp) ?_
  refine AllReadyH.cons rfl (fun K hK => ?_) AllReadyH.nil
  simp only [List.getElem_toArray, List.getElem_cons_succ, List.getElem_cons_zero]
  rw [if_pos (by rfl)]
  go_simp
  refine (HT0.out _ hHeld).mono ?_
  rintro e_ y5 ⟨rfl, hb⟩
  refine hK.out _ _ (below_step hHeld hb) (fun hHeld => ?_)
  clear hK K
  refine wpAnyH_take (i := 20) (v := .bool true) rfl (by kernel_rfl) (by kernel_rfl) (by kernel_rfl) (fun _ _ _ h => h) (Or.inl ⟨by rfl, ?hy20⟩) hHeld ?_
  case hy20 => intro w' hSw; go_simp
  simp only [List.getElem_toArray, List.getElem_cons_succ, List.getElem_cons_zero, Act.put, List.setIfInBounds_toArray, List.set_cons_zero, List.set_cons_succ]
  refine wpAnyH_take (i := 21) (v := .bool true) rfl (by kernel_rfl) (by kernel_rfl) (by kernel_rfl) (fun _ _ _ h => h) (Or.inl ⟨by rfl, ?hy21⟩) hHeld ?_
  case hy21 => intro w' hSw; go_simp
  simp only [List.getElem_toArray, List.getElem_cons_succ, List.getElem_cons_zero, Act.put, List.setIfInBounds_toArray, List.set_cons_zero, List.set_cons_succ]
  refine wpAnyH_take (i := 22) (v := .bool true) rfl (by kernel_rfl) (by kernel_rfl) (by kernel_rfl) (fun _ _ _ h => h) (Or.inl ⟨by rfl, ?hy22⟩) hHeld ?_
  case hy22 => intro w' hSw; go_simp
  simp only [List.getElem_toArray, List.getElem_cons_succ, List.getElem_cons_zero, Act.put, List.setIfInBounds_toArray, List.set_cons_zero, List.set_cons_succ]
  refine wpAnyH_take (i := 23) (v := ve) rfl (by kernel_rfl) (by kernel_rfl) (by kernel_rfl) (fun _ _ _ h => h) (yieldsIf_load (by rfl) 24 (.tmp 1) rfl (ve) (fun w' h => HLE.out w' h)) hHeld ?_
  simp only [List.getElem_toArray, List.getElem_cons_succ, List.getElem_cons_zero, Act.put, List.setIfInBounds_toArray, List.set_cons_zero, List.set_cons_succ]
  refine wpAnyH_take (i := 24) (v := ve) rfl (by kernel_rfl) (by kernel_rfl) (by kernel_rfl) (fun _ _ _ h => h) (yieldsIf_load (by rfl) 24 (.tmp 1) rfl (ve) (fun w' h => HLE.out w' h)) hHeld ?_
  simp only [List.getElem_toArray, List.getElem_cons_succ, List.getElem_cons_zero, Act.put, List.setIfInBounds_toArray, List.set_cons_zero, List.set_cons_succ]
  refine wpAnyH_ready (rs := [25]) (by kernel_rfl) (by simp) ?_
  refine AllReadyH.cons rfl (fun K hK => ?_) AllReadyH.nil
  simp only [List.getElem_toArray, List.getElem_cons_succ, List.getElem_cons_zero]
  rw [if_pos (by rfl)]
  go_simp
  refine (HCL.out _ hHeld).mono ?_
  rintro e_ y6 ⟨cB, cd, rfl, hcl, hb⟩
  have HCC := Aside0.mk hcl
  clear hcl
  refine hK.out _ _ (below_step hHeld hb) (fun hHeld => ?_)
  clear hK K
  refine wpAnyH_ready (rs := [26]) (by kernel_rfl) (by simp) ?_
  refine AllReadyH.cons rfl (fun K hK => ?_) AllReadyH.nil
  simp only [List.getElem_toArray, List.getElem_cons_succ, List.getElem_cons_zero]
  rw [if_pos (by rfl)]
  go_simp
  refine (HSM.out _ cB cd hHeld HCC.out).mono ?_
  rintro e_ y7 ⟨rfl, hb⟩
  refine hK.out _ _ (below_step hHeld hb) (fun hHeld => ?_)
  clear hK K
  refine wpAnyH_take (i := 27) (v := .bool true) rfl (by kernel_rfl) (by kernel_rfl) (by kernel_rfl) (fun _ _ _ h => h) (Or.inl ⟨by rfl, ?hy27⟩) hHeld ?_
  case hy27 => intro w' hSw; go_simp
  simp only [List.getElem_toArray, List.getElem_cons_succ, List.getElem_cons_zero, Act.put, List.setIfInBounds_toArray, List.set_cons_zero, List.set_cons_succ]
  refine wpAnyH_take (i := 28) (v := .bool true) rfl (by kernel_rfl) (by kernel_rfl) (by kernel_rfl) (fun _ _ _ h => h) (Or.inl ⟨by rfl, ?hy28⟩) hHeld ?_
  case hy28 => intro w' hSw; go_simp
  simp only [List.getElem_toArray, List.getElem_cons_succ, List.getElem_cons_zero, Act.put, List.setIfInBounds_toArray, List.set_cons_zero, List.set_cons_succ]
  refine wpAnyH_take (i := 29) (v := ve) rfl (by kernel_rfl) (by kernel_rfl) (by kernel_rfl) (fun _ _ _ h => h) (yieldsIf_load (by rfl) 24 (.tmp 1) rfl (ve) (fun w' h => HLE.out w' h)) hHeld ?_
  simp only [List.getElem_toArray, List.getElem_cons_succ, List.getElem_cons_zero, Act.put, List.setIfInBounds_toArray, List.set_cons_zero, List.set_cons_succ]
  refine wpAnyH_ready (rs := [30]) (by kernel_rfl) (by simp) ?_
  refine AllReadyH.cons rfl (fun K hK => ?_) AllReadyH.nil
  simp only [List.getElem_toArray, List.getElem_cons_succ, List.getElem_cons_zero]
  rw [if_pos (by rfl)]
  go_simp
  refine (HLV.out _).mono ?_
  rintro e_ y8 ⟨fl, lb, rfl, hb⟩
  refine hK.out _ _ (below_step hHeld hb) (fun hHeld => ?_)
  clear hK K
  refine wpAnyH_take (i := 31) (v := .bool true) rfl (by kernel_rfl) (by kernel_rfl) (by kernel_rfl) (fun _ _ _ h => h) (Or.inl ⟨by rfl, ?hy31⟩) hHeld ?_
  case hy31 => intro w' hSw; have hq := neq_func (P := Tryd.prog) Tryd.underlying34 (.func fl) lb w'; go_simp
  simp only [List.getElem_toArray, List.getElem_cons_succ, List.getElem_cons_zero, Act.put, List.setIfInBounds_toArray, List.set_cons_zero, List.set_cons_succ]
  refine wpAnyH_take (i := 32) (v := .bool true) rfl (by kernel_rfl) (by kernel_rfl) (by kernel_rfl) (fun _ _ _ h => h) (Or.inl ⟨by rfl, ?hy32⟩) hHeld ?_
  case hy32 => intro w' hSw; go_simp
  simp only [List.getElem_toArray, List.getElem_cons_succ, List.getElem_cons_zero, Act.put, List.setIfInBounds_toArray, List.set_cons_zero, List.set_cons_succ]
  refine wpAnyH_take (i := 33) (v := .bool true) rfl (by kernel_rfl) (by kernel_rfl) (by kernel_rfl) (fun _ _ _ h => h) (Or.inl ⟨by rfl, ?hy33⟩) hHeld ?_
  case hy33 => intro w' hSw; go_simp
  simp only [List.getElem_toArray, List.getElem_cons_succ, List.getElem_cons_zero, Act.put, List.setIfInBounds_toArray, List.set_cons_zero, List.set_cons_succ]
  refine wpAnyH_take (i := 34) (v := ve) rfl (by kernel_rfl) (by kernel_rfl) (by kernel_rfl) (fun _ _ _ h => h) (yieldsIf_load (by rfl) 24 (.tmp 1) rfl (ve) (fun w' h => HLE.out w' h)) hHeld ?_
  simp only [List.getElem_toArray, List.getElem_cons_succ, List.getElem_cons_zero, Act.put, List.setIfInBounds_toArray, List.set_cons_zero, List.set_cons_succ]
  refine wpAnyH_take (i := 35) (v := .pointer (some ⟨gc, 3, none⟩)) rfl (by kernel_rfl) (by kernel_rfl) (by kernel_rfl) (fun _ _ _ h => h) (Or.inl ⟨by rfl, ?hy35⟩) hHeld ?_
  case hy35 => intro w' hSw; go_simp
  simp only [List.getElem_toArray, List.getElem_cons_succ, List.getElem_cons_zero, Act.put, List.setIfInBounds_toArray, List.set_cons_zero, List.set_cons_succ]
  refine wpAnyH_take (i := 36) (v := .slice (some ⟨w.heap.size + 1, 0, none⟩) 2 2) rfl (by kernel_rfl) (by kernel_rfl) (by kernel_rfl) (fun _ _ _ h => h) (yieldsIf_load (by rfl) 22 (.tmp 44) rfl (.slice (some ⟨w.heap.size + 1, 0, none⟩) 2 2) (fun w' h => HLS.out w' h)) hHeld ?_
  simp only [List.getElem_toArray, List.getElem_cons_succ, List.getElem_cons_zero, Act.put, List.setIfInBounds_toArray, List.set_cons_zero, List.set_cons_succ]
  refine wpAnyH_take (i := 37) (v := .pointer (some ⟨w.heap.size + 1, 0, none⟩)) rfl (by kernel_rfl) (by kernel_rfl) (by kernel_rfl) (fun _ _ _ h => h) (Or.inl ⟨by rfl, ?hy37⟩) hHeld ?_
  case hy37 => intro w' hSw; go_simp
  simp only [List.getElem_toArray, List.getElem_cons_succ, List.getElem_cons_zero, Act.put, List.setIfInBounds_toArray, List.set_cons_zero, List.set_cons_succ]
  refine wpAnyH_take (i := 38) (v := v1) rfl (by kernel_rfl) (by kernel_rfl) (by kernel_rfl) (fun _ _ _ h => h) (yieldsIf_load (by rfl) 24 (.tmp 46) rfl (v1) (fun w' h => HL1.out w' h)) hHeld ?_
  simp only [List.getElem_toArray, List.getElem_cons_succ, List.getElem_cons_zero, Act.put, List.setIfInBounds_toArray, List.set_cons_zero, List.set_cons_succ]
  refine wpAnyH_ready (rs := [39]) (by kernel_rfl) (by simp) ?_
  refine AllReadyH.cons rfl (fun K hK => ?_) AllReadyH.nil
  simp only [List.getElem_toArray, List.getElem_cons_succ, List.getElem_cons_zero]
  rw [if_pos (by rfl)]
  go_simp
  refine (HCP.out _ hHeld).mono ?_
  rintro e_ y9 ⟨rfl, hb⟩
  refine hK.out _ _ (below_step hHeld hb) (fun hHeld => ?_)
  clear hK K
  refine wpAnyH_take (i := 40) (v := .bool true) rfl (by kernel_rfl) (by kernel_rfl) (by kernel_rfl) (fun _ _ _ h => h) (Or.inl ⟨by rfl, ?hy40⟩) hHeld ?_
  case hy40 => intro w' hSw; go_simp
  simp only [List.getElem_toArray, List.getElem_cons_succ, List.getElem_cons_zero, Act.put, List.setIfInBounds_toArray, List.set_cons_zero, List.set_cons_succ]
  refine wpAnyH_take (i := 41) (v := .bool true) rfl (by kernel_rfl) (by kernel_rfl) (by kernel_rfl) (fun _ _ _ h => h) (Or.inl ⟨by rfl, ?hy41⟩) hHeld ?_
  case hy41 => intro w' hSw; go_simp
  simp only [List.getElem_toArray, List.getElem_cons_succ, List.getElem_cons_zero, Act.put, List.setIfInBounds_toArray, List.set_cons_zero, List.set_cons_succ]
  refine wpAnyH_take (i := 42) (v := .bool true) rfl (by kernel_rfl) (by kernel_rfl) (by kernel_rfl) (fun _ _ _ h => h) (Or.inl ⟨by rfl, ?hy42⟩) hHeld ?_
  case hy42 => intro w' hSw; go_simp
  simp only [List.getElem_toArray, List.getElem_cons_succ, List.getElem_cons_zero, Act.put, List.setIfInBounds_toArray, List.set_cons_zero, List.set_cons_succ]
  refine wpAnyH_done (by kernel_rfl) ?_ _
  go_wp2
  go_ret
  exact ⟨rfl, below_step HBW.out hHeld⟩
end Go.Proofs.YtikgngcdgejgjaaDoor.HExK
/- The laws of expressions: what they call. -/
namespace Go.Proofs.YtikgngcdgejgjaaDoor.HExLc
open Go.RowKit Go.Proofs.YtikgngcdgejgjaaDoorW.PrintWords Go.Proofs.YtikgngcdgejgjaaDoor.HLib Go.Proofs.YtikgngcdgejgjaaDoor.HGr Go.Proofs.YtikgngcdgejgjaaDoor.HNameP Go.Proofs.YtikgngcdgejgjaaDoor.HName Go.Proofs.YtikgngcdgejgjaaDoor.HPe Go.Proofs.YtikgngcdgejgjaaDoor.HPf Go.Proofs.YtikgngcdgejgjaaDoor.HExP Go.Proofs.YtikgngcdgejgjaaDoor.HExR Go.Proofs.YtikgngcdgejgjaaDoor.HExQ Go.Proofs.YtikgngcdgejgjaaDoor.HExL Go.Proofs.YtikgngcdgejgjaaDoor.HExA Go.Proofs.YtikgngcdgejgjaaDoor.HExF Go.Proofs.YtikgngcdgejgjaaDoor.HExW Go.Proofs.YtikgngcdgejgjaaDoor.HExI Go.Proofs.YtikgngcdgejgjaaDoor.HExT Go.Proofs.YtikgngcdgejgjaaDoor.HExX Go.Proofs.YtikgngcdgejgjaaDoor.HExC Go.Proofs.YtikgngcdgejgjaaDoor.HExM Go.Proofs.YtikgngcdgejgjaaDoor.HExN Go.Proofs.YtikgngcdgejgjaaDoor.HExRt Go.Proofs.YtikgngcdgejgjaaDoor.HExK
open Go.Proofs.YtikgngcdgejgjaaDoor.PExprMatchesReference
set_option linter.unusedVariables false
set_option linter.unusedSimpArgs false
theorem few_any (x : Ex) (A : Option Addr) (c : Nat) (w : World) (hs : strE maxLen x) (hR : Rd w A c x) : Calls Tryd.prog 9 #[.agg #[.int .i64 x.f0, .string x.f1, .string x.f2, .slice A x.f3.length c]] w fun e w' => e = .returned (.bool (fewE x)) ∧ Below w.heap.size w w' := by
  obtain ⟨k, hk⟩ := (few_ev x hs).rounds
  exact vestryref10_Few.calls k x.f0 x.f1 x.f2 A c x.f3 (fewE x) w hR.1 hR.2 hk
theorem rright_any (x : Ex) (A : Option Addr) (c : Nat) (w : World) (hx : nodE x ≤ 1000000) (hR : Rd w A c x) : Calls Tryd.prog 10 #[.agg #[.int .i64 x.f0, .string x.f1, .string x.f2, .slice A x.f3.length c]] w fun e w' => e = .returned (.bool (rightE x)) ∧ Below w.heap.size w w' := by
  obtain ⟨k, hk⟩ := (rright_ev x hx).rounds
  exact vestryref10_Right.calls k x.f0 x.f1 x.f2 A c x.f3 (rightE x) w hR.1 hR.2 hk
theorem rdepth_any (x : Ex) (A : Option Addr) (c : Nat) (w : World) (hx : nodE x ≤ 1000000) (hR : Rd w A c x) : Calls Tryd.prog 14 #[.agg #[.int .i64 x.f0, .string x.f1, .string x.f2, .slice A x.f3.length c]] w fun e w' => e = .returned (.int .i64 (depE x)) ∧ Below w.heap.size w w' := by
  obtain ⟨k, hk⟩ := (rdepth_ev.1 x hx).rounds
  exact vestryref10_Depth.calls k x.f0 x.f1 x.f2 A c x.f3 (depE x) w hR.1 hR.2 hk
theorem rcompare_any (x y : Ex) (A A' : Option Addr) (c c' : Nat) (w : World) (hx : nodE x ≤ 1000000) (hsx : strE 100000 x) (hy : nodE y ≤ 1000000) (hsy : strE 100000 y) (hR : Rd w A c x) (hR2 : Rd w A' c' y) :
    Calls Tryd.prog 17 #[.agg #[.int .i64 x.f0, .string x.f1, .string x.f2, .slice A x.f3.length c], .agg #[.int .i64 y.f0, .string y.f1, .string y.f2, .slice A' y.f3.length c']] w fun e w' => e = .returned (.int .i64 (cmpE x y)) ∧ Below w.heap.size w w' := by
  obtain ⟨k, hk⟩ := (compare_ev.1 x hx hsx y hy hsy).rounds
  exact vestryref10_Compare.calls k x.f0 x.f1 x.f2 A c x.f3 y.f0 y.f1 y.f2 A' c' y.f3 (cmpE x y) w hR.1 hR.2 hR2.1 hR2.2 hk
theorem str_mono {m n : Nat} (h : m ≤ n) : (∀ x : Ex, strE m x → strE n x) ∧ ∀ ks : List Ex, strL m ks → strL n ks := by
  refine ex_ind (p := fun x => strE m x → strE n x) (q := fun ks => strL m ks → strL n ks) ?_ ?_ ?_
  · intro _; rw [strL]; trivial
  · intro x xs h1 h2 hs
    rw [strL] at hs ⊢
    exact ⟨h1 hs.1, h2 hs.2⟩
  · intro x ih hs
    rw [str_eq] at hs ⊢
    exact ⟨⟨Nat.le_trans hs.1.1 h, Nat.le_trans hs.1.2 h⟩, ih hs.2⟩
theorem small_nod {x : Ex} (h : Small x) : nodE x ≤ 1000000 := Nat.le_trans h.1 (by decide)
theorem small_str {x : Ex} (h : Small x) : strE 100000 x := (str_mono (by decide)).1 x h.2
/-- The value of an argument, as a box holds it. -/
theorem box_read {W : World} {g : Nat} {x : Ex} {A : Option Addr} {c : Nat} (h : W.heap[g]? = some (.cells #[.int .i64 x.f0, .string x.f1, .string x.f2, .slice A x.f3.length c] 24 (0, 0))) (W' : World) (hb : Below W.heap.size W W') :
    (Instr.loadAt 24 (.pointer (some ⟨g, 0, none⟩))).run Tryd.prog W' = .ok (.agg #[.int .i64 x.f0, .string x.f1, .string x.f2, .slice A x.f3.length c]) W' := by
  obtain ⟨c0, c1, c2, c3⟩ := cells4 (blk_below h hb)
  exact load_E (x := x) (ad := ⟨g, 0, none⟩) c0 c1 c2 c3
end Go.Proofs.YtikgngcdgejgjaaDoor.HExLc
