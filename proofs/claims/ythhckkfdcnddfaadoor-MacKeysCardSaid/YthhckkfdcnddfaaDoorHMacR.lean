/- The reference's code. -/
import Derived.Test.YthhckkfdcnddfaaDoorHMacS
namespace Go.Proofs.YthhckkfdcnddfaaDoor.HMacR
open Go.RowKit Go.Proofs.YthhckkfdcnddfaaDoorW.PrintWords Go.Proofs.YthhckkfdcnddfaaDoor.HLib Go.Proofs.YthhckkfdcnddfaaDoor.HSha Go.Proofs.YthhckkfdcnddfaaDoor.HShaS Go.Proofs.YthhckkfdcnddfaaDoor.HShaU Go.Proofs.YthhckkfdcnddfaaDoor.HShaV Go.Proofs.YthhckkfdcnddfaaDoor.HShaW Go.Proofs.YthhckkfdcnddfaaDoor.HShaB Go.Proofs.YthhckkfdcnddfaaDoor.HShaX Go.Proofs.YthhckkfdcnddfaaDoor.HMac Go.Proofs.YthhckkfdcnddfaaDoor.HMacC Go.Proofs.YthhckkfdcnddfaaDoor.HMacS
set_option linter.unusedVariables false
set_option linter.unusedSimpArgs false

/-- Two rows that are not the same block. -/
def Dis (a b : Value) : Prop := ∀ k, a.ownBlock = some k → b.ownBlock ≠ some k
theorem Dis.ne {a b : Value} (h : Dis a b) : b.ownBlock = none ∨ b.ownBlock ≠ a.ownBlock := by
  cases hb : b.ownBlock with
  | none => exact .inl rfl
  | some k => exact .inr (fun e => h k e.symm hb)
theorem Dis.symm {a b : Value} (h : Dis a b) : Dis b a := fun k hk ha => h k ha hk
theorem Dis.grown {a a' b : Value} {W : World} (h : Dis a b) (hat : a'.ownBlock = a.ownBlock ∨ ∃ k, a'.ownBlock = some k ∧ W.heap.size ≤ k) (hb : ∀ k, b.ownBlock = some k → k < W.heap.size) : Dis a' b := by
  intro k hk hbk
  rcases hat with e | ⟨q, e, hq⟩
  · exact h k (e ▸ hk) hbk
  · rw [e] at hk
    injection hk with hk
    subst hk
    have := hb _ hbk
    omega
theorem reads_one {w : World} (x : Int) : ReadsInt (w.alloc (.cells #[.int .u8 x] 5)) .u8 (some ⟨w.heap.size, 0, none⟩) 1 [x] := by
  refine ⟨rfl, by decide, fun _ => ⟨_, rfl, fun j hj => ?_⟩⟩
  obtain rfl : j = 0 := by omega
  have e : (⟨w.heap.size, 0, none⟩ : Addr).add 0 = ⟨w.heap.size, 0, none⟩ := by unfold Addr.add; split <;> simp_all
  rw [e]
  exact blk_cell (blk_new w _) 0
theorem xr_take (c : Int) (K : List Int) (i : Nat) (h : i < K.length) : xr c (K.take i) ++ [bits .xor .u8 (K.getD i 0) c] = xr c (K.take (i + 1)) := by
  unfold xr
  rw [List.take_add_one, List.map_append, List.getElem?_eq_getElem h, List.getD_eq_getElem?_getD, List.getElem?_eq_getElem h]
  rfl
theorem key64_get (k : List Int) (i : Nat) (h : i < k.length) : (k ++ List.replicate (64 - k.length) 0).getD i 0 = k.getD i 0 := by
  rw [List.getD_eq_getElem?_getD, List.getElem?_append_left h, List.getD_eq_getElem?_getD]
theorem key64_zero (k : List Int) (i : Nat) (h : k.length ≤ i) : (k ++ List.replicate (64 - k.length) (0 : Int)).getD i 0 = 0 := by
  rw [List.getD_eq_getElem?_getD, List.getElem?_append_right h]
  by_cases hq : i - k.length < 64 - k.length
  · rw [List.getElem?_eq_getElem (by simpa using hq)]; simp
  · rw [List.getElem?_eq_none (by simpa using hq)]; rfl

set_option maxRecDepth 100000 in
set_option maxHeartbeats 16000000 in
theorem refmac_any (w : World) (vk : Value) (key : List Int) (hvk : Bv w vk key) (hkb : ∀ x ∈ key, 0 ≤ x ∧ x < 256) (hkl : key.length ≤ 4294960000) (vb : Value) (bs : List Int) (hvb : Bv w vb bs) (hbb : ∀ x ∈ bs, 0 ≤ x ∧ x < 256) (hbl : bs.length ≤ 4294960000) :
    Calls Tryd.prog 11 #[vk, vb] w fun e w' => e = .returned (.agg (nums .u8 (macP key bs)).toArray) ∧ Below w.heap.size w w' := by
  obtain ⟨Ak, ck, rfl, hck, hCk⟩ := hvk
  obtain ⟨Ab, cb, rfl, hcb, hCb⟩ := hvb
  have HCK := Aside0.mk hCk
  have HKB := Aside0.mk hkb
  have HKL := Aside0.mk hkl
  have HCB := Aside0.mk hCb
  have HBB := Aside0.mk hbb
  have HBL := Aside0.mk hbl
  clear hCk hkb hkl hCb hbb hbl hck hcb
  have HOL := Aside0.mk (own_lit (w.alloc (.cells (nums .u8 (List.replicate 32 0)).toArray 26)) (w.heap.size + 1) 5 .u8 [] (by rw [World.size_alloc]; exact Nat.le_refl _) (by decide))
  rw [World.size_alloc] at HOL
  have HR0 : Aside0 (IsArr (w.alloc (.cells (nums .u8 (List.replicate 32 0)).toArray 26)) w.heap.size .u8 26 (List.replicate 32 0)) := ⟨blk_new w _⟩
  have HBL0 : Aside0 (Below (w.heap.size + 1) (w.alloc (.cells (nums .u8 (List.replicate 32 0)).toArray 26)) ((w.alloc (.cells (nums .u8 (List.replicate 32 0)).toArray 26)).alloc (.cells (nums .u8 []).toArray 5))) := ⟨by have := below_alloc (B0 (w.alloc (.cells (nums .u8 (List.replicate 32 0)).toArray 26))) (.cells (nums .u8 []).toArray 5); rwa [World.size_alloc] at this⟩
  have HSZ0 : Aside0 (w.heap.size + 1 ≤ ((w.alloc (.cells (nums .u8 (List.replicate 32 0)).toArray 26)).alloc (.cells (nums .u8 []).toArray 5)).heap.size) := ⟨by rw [World.size_alloc, World.size_alloc]; omega⟩
  by_cases c1 : 64 < key.length
  · have d1 : decide (64 < key.length) = true := decide_eq_true c1
    have d2 : decide ((64 : Int) < (key.length : Int)) = true := decide_eq_true (by omega)
    have HKE := Aside0.mk (show key64 key = sumP key ++ List.replicate (64 - (sumP key).length) 0 from by unfold key64; rw [if_pos c1])
    clear c1
    go_enter Tryd.func11, Tryd.ntmps11
    go_wp2_with (first | (at_builtin; refine print_append_row (w0 := (w.alloc (.cells (nums .u8 (List.replicate 32 0)).toArray 26))) (w.heap.size + 1) rfl (.tmp 12) (.tmp 13) 22 5 .u8 1 rfl Tryd.underlying22 info_u8 (by decide) (.slice (some ⟨w.heap.size + 1, 0, none⟩) 0 0) ([]) (key) (Ak) _ (ck) rfl rfl ?aO ?aR ?aB ?aS ?aL ?_; (case aO => exact HOL.out); (case aR => exact ((readsInt_of.2 (Kd.reads_of_C (d := (0 : Int)) HCK.out)).below (below_alloc (B0 _) _)).below (below_alloc (B0 _) _)); (case aB => exact HBL0.out); (case aS => exact HSZ0.out); (case aL => (have := HKL.out; simp; omega)); intro v1 w1 ho hb hg hat; obtain ⟨A1, c1', rfl, hc1, hC1, hn1⟩ := Bs.of_R (Kd.R_of_own (enc := Value.int .u8) (h1 := fun _ => rfl) (ok := fun _ => True) ho (fun _ _ => trivial)); rw [List.nil_append] at hC1 hc1 ⊢; have HC1 := Aside0.mk hC1; have HN1 := Aside0.mk (And.intro hc1 hn1); have HB1 := Aside0.mk hb; clear ho hb hg hat hC1 hc1 hn1) | fail)
    have hs1 : w.heap.size + 1 ≤ w1.heap.size := by have := HB1.out.size; rw [World.size_alloc] at this; exact this
    refine (refsum_any w1 _ key ⟨A1, c1', rfl, HN1.out.1, HC1.out, HN1.out.2⟩ HKB.out (by have := HKL.out; omega)).mono ?_
    rintro e w3 ⟨rfl, hb3⟩
    have hW03 : Below (w.heap.size + 1) (w.alloc (.cells (nums .u8 (List.replicate 32 0)).toArray 26)) w3 := HB1.out.trans (hb3.mono hs1)
    have HST0 := Aside0.mk (run_storeAt_new (P := Tryd.prog) w3 26 (nums .u8 (List.replicate 32 0)).toArray (nums .u8 (sumP key)).toArray (by rw [size_out]; simp [nums, sumP_len]) (by simp [nums, sumP_len]) (by simp [nums, Value.oneCell']))
    obtain ⟨We, hWe⟩ : ∃ W, W = w3.alloc (.cells (nums .u8 (sumP key)).toArray 26) := ⟨_, rfl⟩
    have hs3 : w.heap.size + 1 ≤ w3.heap.size := Nat.le_trans hs1 hb3.size
    have HRWe : Aside0 (IsArr We w.heap.size .u8 26 (List.replicate 32 0)) := ⟨by rw [hWe]; exact blk_alloc (HR0.out.below hW03 (Nat.lt_succ_self _)) _⟩
    have HWe : Aside0 (Below w.heap.size w We) := ⟨by rw [hWe]; exact below_alloc ((below_alloc (B0 w) _).trans (hW03.mono (Nat.le_succ _))) _⟩
    have HKC : Aside0 ((Kd.int .u8).C We (some ⟨w3.heap.size, 0, none⟩) (sumP key).length (sumP key)) := ⟨by rw [hWe]; exact bytes_C (blk_new w3 _) (by rw [sumP_len]; decide)⟩
    have hst0 := HST0.out
    rw [← hWe] at hst0
    have HST := Aside0.mk hst0
    have HSL := Aside0.mk (sumP_len key)
    clear hb3 hW03 hst0 hs3 hs1 hWe HST0
    go_wp2_with (refine store_event rfl (t := 26) (p := 6) (v := .tmp 19) rfl rfl (w1 := We) ?hr ?_; (case hr => exact run_store_of rfl HST.out); intro w5 hw5; have hw6 := hw5.symm; subst hw6)
    have HKK := Aside0.mk (key64_len key)
    obtain ⟨K, hK⟩ : ∃ K, K = key64 key := ⟨_, rfl⟩
    have HME := Aside0.mk (show macP key bs = sumP (xr 92 K ++ sumP (xr 54 K ++ bs)) from by rw [hK]; rfl)
    rw [← hK] at HKE HKK
    clear hK
    go_loopg [7, 8, 9] 64 (fun kq v7 v8 v9 w' => ∃ (i : Int), v9 = .int .i64 i ∧ Aside0 (0 ≤ i ∧ (kq : Int) + i = 64) ∧ Aside0 (w'.ownsRow We.heap.size 5 1 v7 (xr 54 (K.take i.toNat)).length (nums .u8 (xr 54 (K.take i.toNat)))) ∧ Aside0 (w'.ownsRow We.heap.size 5 1 v8 (xr 92 (K.take i.toNat)).length (nums .u8 (xr 92 (K.take i.toNat)))) ∧ Aside0 (Dis v7 v8) ∧ Aside0 (Below We.heap.size We w'))
    case atStart => exact ⟨0, rfl, ⟨⟨by omega, by omega⟩⟩, ⟨⟨rfl, .inl ⟨rfl, rfl⟩⟩⟩, ⟨⟨rfl, .inl ⟨rfl, rfl⟩⟩⟩, ⟨fun k hk => by simp [Value.ownBlock] at hk⟩, ⟨B0 We⟩⟩
    case round =>
      obtain ⟨i, rfl, HA, HO7, HO8, HD, HB⟩ := hrel
      have hi0 : 0 ≤ i := HA.out.1
      have him : i ≤ 64 := by have := HA.out; omega
      by_cases c2 : i < 64
      · have e1 : decide (i < 64) = true := decide_eq_true c2
        have HT7 := Aside0.mk (xr_take 54 K i.toNat (by rw [HKK.out]; omega))
        have HT8 := Aside0.mk (xr_take 92 K i.toNat (by rw [HKK.out]; omega))
        have HL7 := Aside0.mk (show (xr 54 (K.take i.toNat)).length ≤ 64 ∧ (xr 92 (K.take i.toNat)).length ≤ 64 from by rw [xr_len, xr_len, List.length_take]; omega)
        obtain ⟨y, hy⟩ : ∃ y, y = K.getD i.toNat 0 := ⟨_, rfl⟩
        rw [← hy] at HT7 HT8
        by_cases c3 : i < 32
        · have e2 : decide (i < 32) = true := decide_eq_true c3
          have hyk : y = rd (sumP key) i := by rw [hy, HKE.out, key64_get _ _ (by have := HSL.out; omega)]; rfl
          obtain ⟨ad, ea, hx⟩ := Kd.at_int (Kd.C_below HKC.out HB.out) i hi0 (by have := HSL.out; omega)
          rw [← hyk] at hx
          injection ea with ea
          subst ea
          have ha0 : (⟨w3.heap.size, 0, none⟩ : Addr).add i.toNat = ⟨w3.heap.size, i.toNat, none⟩ := by unfold Addr.add; split <;> simp_all
          rw [ha0] at hx
          clear ha0
          clear hy hyk
          go_wp2_with (first | (at_builtin; refine print_append_row (w0 := We) (We.heap.size) rfl (.tmp 33) (.tmp 36) 22 5 .u8 1 rfl Tryd.underlying22 info_u8 (by decide) (u7) (xr 54 (K.take i.toNat)) ([bits .xor .u8 y 54]) (some ⟨wr.heap.size, 0, none⟩) _ (1) rfl rfl ?aO ?aR ?aB ?aS ?aL ?_; (case aO => exact pw_own_below HO7.out (below_alloc (B0 wr) _)); (case aR => exact reads_one _); (case aB => exact HB.out.alloc HB.out.size _); (case aS => exact (by rw [World.size_alloc]; exact Nat.le_succ_of_le HB.out.size)); (case aL => (have := HL7.out; omega)); intro v7 w7 ho hb hg hat; have HO8a := Aside0.mk (own_other (pw_own_below HO8.out (below_alloc (B0 wr) (.cells #[.int .u8 (bits .xor .u8 y 54)] 5))) hg (Dis.ne HD.out)); have HDa := Aside0.mk (Dis.grown HD.out hat (fun k hk => own_lt (pw_own_below HO8.out (below_alloc (B0 wr) (.cells #[.int .u8 (bits .xor .u8 y 54)] 5))) k hk)); have HO7a := Aside0.mk ho; have HBa := Aside0.mk hb; clear ho hb hg hat) | (at_builtin; refine print_append_row (w0 := We) (We.heap.size) rfl (.tmp 38) (.tmp 41) 22 5 .u8 1 rfl Tryd.underlying22 info_u8 (by decide) (u8) (xr 92 (K.take i.toNat)) ([bits .xor .u8 y 92]) (some ⟨w7.heap.size, 0, none⟩) _ (1) rfl rfl ?aO ?aR ?aB ?aS ?aL ?_; (case aO => exact pw_own_below HO8a.out (below_alloc (B0 w7) _)); (case aR => exact reads_one _); (case aB => exact HBa.out.alloc HBa.out.size _); (case aS => exact (by rw [World.size_alloc]; exact Nat.le_succ_of_le HBa.out.size)); (case aL => (have := HL7.out; omega)); intro v8 w8 ho hb hg hat; have HO7b := Aside0.mk (own_other (pw_own_below HO7a.out (below_alloc (B0 w7) (.cells #[.int .u8 (bits .xor .u8 y 92)] 5))) hg (Dis.ne (Dis.symm HDa.out))); have HDb := Aside0.mk (Dis.symm (Dis.grown (Dis.symm HDa.out) hat (fun k hk => own_lt (pw_own_below HO7a.out (below_alloc (B0 w7) (.cells #[.int .u8 (bits .xor .u8 y 92)] 5))) k hk))); have HO8b := Aside0.mk ho; have HBb := Aside0.mk hb; clear ho hb hg hat) | fail)
          go_roundg (64 - (i + 1).toNat)
          case measure => have := HA.out; omega
          case rel =>
            refine ⟨i + 1, rfl, ⟨⟨by omega, by omega⟩⟩, ⟨?_⟩, ⟨?_⟩, HDb, HBb⟩
            · rw [show (i + 1).toNat = i.toNat + 1 from by omega, ← HT7.out]; exact HO7b.out
            · rw [show (i + 1).toNat = i.toNat + 1 from by omega, ← HT8.out]; exact HO8b.out
        · have e2 : decide (i < 32) = false := decide_eq_false c3
          obtain rfl : y = 0 := by rw [hy, HKE.out]; exact key64_zero _ _ (by have := HSL.out; omega)
          clear hy
          go_wp2_with (first | (at_builtin; refine print_append_row (w0 := We) (We.heap.size) rfl (.tmp 33) (.tmp 36) 22 5 .u8 1 rfl Tryd.underlying22 info_u8 (by decide) (u7) (xr 54 (K.take i.toNat)) ([bits .xor .u8 0 54]) (some ⟨wr.heap.size, 0, none⟩) _ (1) rfl rfl ?aO ?aR ?aB ?aS ?aL ?_; (case aO => exact pw_own_below HO7.out (below_alloc (B0 wr) _)); (case aR => exact reads_one _); (case aB => exact HB.out.alloc HB.out.size _); (case aS => exact (by rw [World.size_alloc]; exact Nat.le_succ_of_le HB.out.size)); (case aL => (have := HL7.out; omega)); intro v7 w7 ho hb hg hat; have HO8a := Aside0.mk (own_other (pw_own_below HO8.out (below_alloc (B0 wr) (.cells #[.int .u8 (bits .xor .u8 0 54)] 5))) hg (Dis.ne HD.out)); have HDa := Aside0.mk (Dis.grown HD.out hat (fun k hk => own_lt (pw_own_below HO8.out (below_alloc (B0 wr) (.cells #[.int .u8 (bits .xor .u8 0 54)] 5))) k hk)); have HO7a := Aside0.mk ho; have HBa := Aside0.mk hb; clear ho hb hg hat) | (at_builtin; refine print_append_row (w0 := We) (We.heap.size) rfl (.tmp 38) (.tmp 41) 22 5 .u8 1 rfl Tryd.underlying22 info_u8 (by decide) (u8) (xr 92 (K.take i.toNat)) ([bits .xor .u8 0 92]) (some ⟨w7.heap.size, 0, none⟩) _ (1) rfl rfl ?aO ?aR ?aB ?aS ?aL ?_; (case aO => exact pw_own_below HO8a.out (below_alloc (B0 w7) _)); (case aR => exact reads_one _); (case aB => exact HBa.out.alloc HBa.out.size _); (case aS => exact (by rw [World.size_alloc]; exact Nat.le_succ_of_le HBa.out.size)); (case aL => (have := HL7.out; omega)); intro v8 w8 ho hb hg hat; have HO7b := Aside0.mk (own_other (pw_own_below HO7a.out (below_alloc (B0 w7) (.cells #[.int .u8 (bits .xor .u8 0 92)] 5))) hg (Dis.ne (Dis.symm HDa.out))); have HDb := Aside0.mk (Dis.symm (Dis.grown (Dis.symm HDa.out) hat (fun k hk => own_lt (pw_own_below HO7a.out (below_alloc (B0 w7) (.cells #[.int .u8 (bits .xor .u8 0 92)] 5))) k hk))); have HO8b := Aside0.mk ho; have HBb := Aside0.mk hb; clear ho hb hg hat) | fail)
          go_roundg (64 - (i + 1).toNat)
          case measure => have := HA.out; omega
          case rel =>
            refine ⟨i + 1, rfl, ⟨⟨by omega, by omega⟩⟩, ⟨?_⟩, ⟨?_⟩, HDb, HBb⟩
            · rw [show (i + 1).toNat = i.toNat + 1 from by omega, ← HT7.out]; exact HO7b.out
            · rw [show (i + 1).toNat = i.toNat + 1 from by omega, ← HT8.out]; exact HO8b.out
      · have e1 : decide (i < 64) = false := decide_eq_false c2
        rw [show K.take i.toNat = K from List.take_of_length_le (by rw [HKK.out]; omega)] at HO7 HO8
        have HCBr := Aside0.mk (Kd.C_below (Kd.C_below HCB.out HWe.out) HB.out)
        have HXL := Aside0.mk (show (xr 54 K).length = 64 ∧ (xr 92 K).length = 64 from by rw [xr_len, xr_len]; exact ⟨HKK.out, HKK.out⟩)
        go_wp2_with (first | (at_builtin; refine print_append_row (w0 := We) (We.heap.size) rfl (.tmp 43) (.tmp 44) 22 5 .u8 1 rfl Tryd.underlying22 info_u8 (by decide) (u7) (xr 54 K) (bs) (Ab) _ (cb) rfl rfl ?aO ?aR ?aB ?aS ?aL ?_; (case aO => exact HO7.out); (case aR => exact readsInt_of.2 (Kd.reads_of_C (d := (0 : Int)) HCBr.out)); (case aB => exact HB.out); (case aS => exact HB.out.size); (case aL => (have := HXL.out; have := HBL.out; omega)); intro v9 w9 ho hb hg hat; have HO8a := Aside0.mk (own_other HO8.out hg (Dis.ne HD.out)); have HO9 := Aside0.mk ho; have HB9 := Aside0.mk hb; clear ho hb hg hat) | fail)
        have hIB : ∀ x ∈ xr 54 K ++ bs, 0 ≤ x ∧ x < 256 := fun x hx => (List.mem_append.1 hx).elim (xr_byte _ _ x) (HBB.out x)
        refine (refsum_any w9 _ (xr 54 K ++ bs) (Bs.of_R (Kd.R_of_own (h1 := fun _ => rfl) (ok := fun _ => True) HO9.out (fun _ _ => trivial))) hIB (by rw [List.length_append]; have := HXL.out; have := HBL.out; omega)).mono ?_
        rintro e w10 ⟨rfl, hb10⟩
        obtain ⟨inner, hin⟩ : ∃ q, q = sumP (xr 54 K ++ bs) := ⟨_, rfl⟩
        have HIL := Aside0.mk (show inner.length = 32 from by rw [hin]; exact sumP_len _)
        have HIB := Aside0.mk (show ∀ x ∈ inner, 0 ≤ x ∧ x < 256 from by rw [hin]; exact sumP_byte _)
        rw [← hin] at HME ⊢
        clear hin hIB
        have HO10 := Aside0.mk (pw_own_below HO8a.out hb10)
        have HB10 := Aside0.mk (HB9.out.trans (hb10.mono HB9.out.size))
        have HST := Aside0.mk (run_storeAt_new (P := Tryd.prog) w10 26 (nums .u8 (List.replicate 32 0)).toArray (nums .u8 inner).toArray (by rw [size_out]; simp [nums, HIL.out]) (by simp [nums, HIL.out]) (by simp [nums, Value.oneCell']))
        have HCI : Aside0 ((Kd.int .u8).C (w10.alloc (.cells (nums .u8 inner).toArray 26)) (some ⟨w10.heap.size, 0, none⟩) inner.length inner) := ⟨bytes_C (blk_new w10 _) (by rw [HIL.out]; decide)⟩
        rw [HIL.out] at HCI
        clear hb10
        go_wp2_with (first | (refine store_event rfl (t := 26) (p := 11) (v := .tmp 46) rfl rfl (w1 := w10.alloc (.cells (nums .u8 inner).toArray 26)) ?hr ?_; (case hr => exact run_store_of rfl HST.out); intro w5 hw5; subst hw5) | (at_builtin; refine print_append_row (w0 := We) (We.heap.size) rfl (.tmp 47) (.tmp 48) 22 5 .u8 1 rfl Tryd.underlying22 info_u8 (by decide) (u8) (xr 92 K) (inner) (some ⟨w10.heap.size, 0, none⟩) _ (32) rfl rfl ?aO ?aR ?aB ?aS ?aL ?_; (case aO => exact pw_own_below HO10.out (below_alloc (B0 w10) _)); (case aR => exact (readsInt_of.2 (Kd.reads_of_C (d := (0 : Int)) HCI.out))); (case aB => exact HB10.out.alloc HB10.out.size _); (case aS => exact (by rw [World.size_alloc]; exact Nat.le_succ_of_le HB10.out.size)); (case aL => (have := HXL.out; omega)); intro v11 w11 ho hb hg hat; have HO11 := Aside0.mk ho; have HB11 := Aside0.mk hb; clear ho hb hg hat) | fail)
        have hOB : ∀ x ∈ xr 92 K ++ inner, 0 ≤ x ∧ x < 256 := fun x hx => (List.mem_append.1 hx).elim (xr_byte _ _ x) (HIB.out x)
        refine (refsum_any w11 _ (xr 92 K ++ inner) (Bs.of_R (Kd.R_of_own (h1 := fun _ => rfl) (ok := fun _ => True) HO11.out (fun _ _ => trivial))) hOB (by rw [List.length_append]; have := HXL.out; have := HIL.out; omega)).mono ?_
        rintro e w12 ⟨rfl, hb12⟩
        rw [← HME.out]
        have HBF := Aside0.mk (HB11.out.trans (hb12.mono HB11.out.size))
        have HRF := Aside0.mk (HRWe.out.below HBF.out (arr_lt HRWe.out))
        have HSF := Aside0.mk (arr_store (P := Tryd.prog) (ys := macP key bs) HRF.out (by rw [size_out]; rfl) (by unfold macP; rw [sumP_len]; rfl))
        clear hb12 hOB
        go_wp2_with (refine store_event rfl (t := 26) (p := 4) (v := .tmp 50) rfl rfl (w1 := w12.setRow w.heap.size (nums .u8 (macP key bs)).toArray) ?hr ?_; (case hr => exact run_store_of rfl HSF.out); intro w2 hw2; subst hw2)
        refine bodyPost_ret (v := .agg (nums .u8 (macP key bs)).toArray) ?_ ?_ ?_
        · exact results_c rfl _ _ w.heap.size 26 _ (0, 0) _ rfl (arr_row HRF.out _) Tryd.underlying26 rfl (by rw [size_out]; simp [nums, macP, sumP_len])
        · rfl
        · exact ⟨rfl, below_row (HWe.out.trans (HBF.out.mono HWe.out.size)) (Nat.le_refl _) _⟩
  · have d1 : decide (64 < key.length) = false := decide_eq_false c1
    have d2 : decide ((64 : Int) < (key.length : Int)) = false := decide_eq_false (by omega)
    have HKE := Aside0.mk (show key64 key = key ++ List.replicate (64 - key.length) 0 from by unfold key64; rw [if_neg c1])
    clear c1
    go_enter Tryd.func11, Tryd.ntmps11
    go_wp2_with (first | (at_builtin; refine print_append_row (w0 := (w.alloc (.cells (nums .u8 (List.replicate 32 0)).toArray 26))) (w.heap.size + 1) rfl (.tmp 12) (.tmp 13) 22 5 .u8 1 rfl Tryd.underlying22 info_u8 (by decide) (.slice (some ⟨w.heap.size + 1, 0, none⟩) 0 0) ([]) (key) (Ak) _ (ck) rfl rfl ?aO ?aR ?aB ?aS ?aL ?_; (case aO => exact HOL.out); (case aR => exact ((readsInt_of.2 (Kd.reads_of_C (d := (0 : Int)) HCK.out)).below (below_alloc (B0 _) _)).below (below_alloc (B0 _) _)); (case aB => exact HBL0.out); (case aS => exact HSZ0.out); (case aL => (have := HKL.out; simp; omega)); intro v1 w1 ho hb hg hat; obtain ⟨A1, c1', rfl, hc1, hC1, hn1⟩ := Bs.of_R (Kd.R_of_own (enc := Value.int .u8) (h1 := fun _ => rfl) (ok := fun _ => True) ho (fun _ _ => trivial)); rw [List.nil_append] at hC1 hc1 ⊢; have HC1 := Aside0.mk hC1; have HN1 := Aside0.mk (And.intro hc1 hn1); have HB1 := Aside0.mk hb; clear ho hb hg hat hC1 hc1 hn1) | fail)
    obtain ⟨We, rfl⟩ : ∃ x, x = w1 := ⟨_, rfl⟩
    have HRWe : Aside0 (IsArr We w.heap.size .u8 26 (List.replicate 32 0)) := ⟨HR0.out.below HB1.out (Nat.lt_succ_self _)⟩
    have HWe : Aside0 (Below w.heap.size w We) := ⟨(below_alloc (B0 w) _).trans (HB1.out.mono (Nat.le_succ _))⟩
    have HKC := HC1
    have HKK := Aside0.mk (key64_len key)
    obtain ⟨K, hK⟩ : ∃ K, K = key64 key := ⟨_, rfl⟩
    have HME := Aside0.mk (show macP key bs = sumP (xr 92 K ++ sumP (xr 54 K ++ bs)) from by rw [hK]; rfl)
    rw [← hK] at HKE HKK
    clear hK
    go_loopg [7, 8, 9] 64 (fun kq v7 v8 v9 w' => ∃ (i : Int), v9 = .int .i64 i ∧ Aside0 (0 ≤ i ∧ (kq : Int) + i = 64) ∧ Aside0 (w'.ownsRow We.heap.size 5 1 v7 (xr 54 (K.take i.toNat)).length (nums .u8 (xr 54 (K.take i.toNat)))) ∧ Aside0 (w'.ownsRow We.heap.size 5 1 v8 (xr 92 (K.take i.toNat)).length (nums .u8 (xr 92 (K.take i.toNat)))) ∧ Aside0 (Dis v7 v8) ∧ Aside0 (Below We.heap.size We w'))
    case atStart => exact ⟨0, rfl, ⟨⟨by omega, by omega⟩⟩, ⟨⟨rfl, .inl ⟨rfl, rfl⟩⟩⟩, ⟨⟨rfl, .inl ⟨rfl, rfl⟩⟩⟩, ⟨fun k hk => by simp [Value.ownBlock] at hk⟩, ⟨B0 We⟩⟩
    case round =>
      obtain ⟨i, rfl, HA, HO7, HO8, HD, HB⟩ := hrel
      have hi0 : 0 ≤ i := HA.out.1
      have him : i ≤ 64 := by have := HA.out; omega
      by_cases c2 : i < 64
      · have e1 : decide (i < 64) = true := decide_eq_true c2
        have HT7 := Aside0.mk (xr_take 54 K i.toNat (by rw [HKK.out]; omega))
        have HT8 := Aside0.mk (xr_take 92 K i.toNat (by rw [HKK.out]; omega))
        have HL7 := Aside0.mk (show (xr 54 (K.take i.toNat)).length ≤ 64 ∧ (xr 92 (K.take i.toNat)).length ≤ 64 from by rw [xr_len, xr_len, List.length_take]; omega)
        obtain ⟨y, hy⟩ : ∃ y, y = K.getD i.toNat 0 := ⟨_, rfl⟩
        rw [← hy] at HT7 HT8
        by_cases c3 : i < (key.length : Int)
        · have e2 : decide (i < (key.length : Int)) = true := decide_eq_true c3
          have hyk : y = rd (key) i := by rw [hy, HKE.out, key64_get _ _ (by omega)]; rfl
          obtain ⟨ad, ea, hx⟩ := Kd.at_int (Kd.C_below HKC.out HB.out) i hi0 (by omega)
          rw [← hyk] at hx
          subst ea
          clear hy hyk
          go_wp2_with (first | (at_builtin; refine print_append_row (w0 := We) (We.heap.size) rfl (.tmp 33) (.tmp 36) 22 5 .u8 1 rfl Tryd.underlying22 info_u8 (by decide) (u7) (xr 54 (K.take i.toNat)) ([bits .xor .u8 y 54]) (some ⟨wr.heap.size, 0, none⟩) _ (1) rfl rfl ?aO ?aR ?aB ?aS ?aL ?_; (case aO => exact pw_own_below HO7.out (below_alloc (B0 wr) _)); (case aR => exact reads_one _); (case aB => exact HB.out.alloc HB.out.size _); (case aS => exact (by rw [World.size_alloc]; exact Nat.le_succ_of_le HB.out.size)); (case aL => (have := HL7.out; omega)); intro v7 w7 ho hb hg hat; have HO8a := Aside0.mk (own_other (pw_own_below HO8.out (below_alloc (B0 wr) (.cells #[.int .u8 (bits .xor .u8 y 54)] 5))) hg (Dis.ne HD.out)); have HDa := Aside0.mk (Dis.grown HD.out hat (fun k hk => own_lt (pw_own_below HO8.out (below_alloc (B0 wr) (.cells #[.int .u8 (bits .xor .u8 y 54)] 5))) k hk)); have HO7a := Aside0.mk ho; have HBa := Aside0.mk hb; clear ho hb hg hat) | (at_builtin; refine print_append_row (w0 := We) (We.heap.size) rfl (.tmp 38) (.tmp 41) 22 5 .u8 1 rfl Tryd.underlying22 info_u8 (by decide) (u8) (xr 92 (K.take i.toNat)) ([bits .xor .u8 y 92]) (some ⟨w7.heap.size, 0, none⟩) _ (1) rfl rfl ?aO ?aR ?aB ?aS ?aL ?_; (case aO => exact pw_own_below HO8a.out (below_alloc (B0 w7) _)); (case aR => exact reads_one _); (case aB => exact HBa.out.alloc HBa.out.size _); (case aS => exact (by rw [World.size_alloc]; exact Nat.le_succ_of_le HBa.out.size)); (case aL => (have := HL7.out; omega)); intro v8 w8 ho hb hg hat; have HO7b := Aside0.mk (own_other (pw_own_below HO7a.out (below_alloc (B0 w7) (.cells #[.int .u8 (bits .xor .u8 y 92)] 5))) hg (Dis.ne (Dis.symm HDa.out))); have HDb := Aside0.mk (Dis.symm (Dis.grown (Dis.symm HDa.out) hat (fun k hk => own_lt (pw_own_below HO7a.out (below_alloc (B0 w7) (.cells #[.int .u8 (bits .xor .u8 y 92)] 5))) k hk))); have HO8b := Aside0.mk ho; have HBb := Aside0.mk hb; clear ho hb hg hat) | fail)
          go_roundg (64 - (i + 1).toNat)
          case measure => have := HA.out; omega
          case rel =>
            refine ⟨i + 1, rfl, ⟨⟨by omega, by omega⟩⟩, ⟨?_⟩, ⟨?_⟩, HDb, HBb⟩
            · rw [show (i + 1).toNat = i.toNat + 1 from by omega, ← HT7.out]; exact HO7b.out
            · rw [show (i + 1).toNat = i.toNat + 1 from by omega, ← HT8.out]; exact HO8b.out
        · have e2 : decide (i < (key.length : Int)) = false := decide_eq_false c3
          obtain rfl : y = 0 := by rw [hy, HKE.out]; exact key64_zero _ _ (by omega)
          clear hy
          go_wp2_with (first | (at_builtin; refine print_append_row (w0 := We) (We.heap.size) rfl (.tmp 33) (.tmp 36) 22 5 .u8 1 rfl Tryd.underlying22 info_u8 (by decide) (u7) (xr 54 (K.take i.toNat)) ([bits .xor .u8 0 54]) (some ⟨wr.heap.size, 0, none⟩) _ (1) rfl rfl ?aO ?aR ?aB ?aS ?aL ?_; (case aO => exact pw_own_below HO7.out (below_alloc (B0 wr) _)); (case aR => exact reads_one _); (case aB => exact HB.out.alloc HB.out.size _); (case aS => exact (by rw [World.size_alloc]; exact Nat.le_succ_of_le HB.out.size)); (case aL => (have := HL7.out; omega)); intro v7 w7 ho hb hg hat; have HO8a := Aside0.mk (own_other (pw_own_below HO8.out (below_alloc (B0 wr) (.cells #[.int .u8 (bits .xor .u8 0 54)] 5))) hg (Dis.ne HD.out)); have HDa := Aside0.mk (Dis.grown HD.out hat (fun k hk => own_lt (pw_own_below HO8.out (below_alloc (B0 wr) (.cells #[.int .u8 (bits .xor .u8 0 54)] 5))) k hk)); have HO7a := Aside0.mk ho; have HBa := Aside0.mk hb; clear ho hb hg hat) | (at_builtin; refine print_append_row (w0 := We) (We.heap.size) rfl (.tmp 38) (.tmp 41) 22 5 .u8 1 rfl Tryd.underlying22 info_u8 (by decide) (u8) (xr 92 (K.take i.toNat)) ([bits .xor .u8 0 92]) (some ⟨w7.heap.size, 0, none⟩) _ (1) rfl rfl ?aO ?aR ?aB ?aS ?aL ?_; (case aO => exact pw_own_below HO8a.out (below_alloc (B0 w7) _)); (case aR => exact reads_one _); (case aB => exact HBa.out.alloc HBa.out.size _); (case aS => exact (by rw [World.size_alloc]; exact Nat.le_succ_of_le HBa.out.size)); (case aL => (have := HL7.out; omega)); intro v8 w8 ho hb hg hat; have HO7b := Aside0.mk (own_other (pw_own_below HO7a.out (below_alloc (B0 w7) (.cells #[.int .u8 (bits .xor .u8 0 92)] 5))) hg (Dis.ne (Dis.symm HDa.out))); have HDb := Aside0.mk (Dis.symm (Dis.grown (Dis.symm HDa.out) hat (fun k hk => own_lt (pw_own_below HO7a.out (below_alloc (B0 w7) (.cells #[.int .u8 (bits .xor .u8 0 92)] 5))) k hk))); have HO8b := Aside0.mk ho; have HBb := Aside0.mk hb; clear ho hb hg hat) | fail)
          go_roundg (64 - (i + 1).toNat)
          case measure => have := HA.out; omega
          case rel =>
            refine ⟨i + 1, rfl, ⟨⟨by omega, by omega⟩⟩, ⟨?_⟩, ⟨?_⟩, HDb, HBb⟩
            · rw [show (i + 1).toNat = i.toNat + 1 from by omega, ← HT7.out]; exact HO7b.out
            · rw [show (i + 1).toNat = i.toNat + 1 from by omega, ← HT8.out]; exact HO8b.out
      · have e1 : decide (i < 64) = false := decide_eq_false c2
        rw [show K.take i.toNat = K from List.take_of_length_le (by rw [HKK.out]; omega)] at HO7 HO8
        have HCBr := Aside0.mk (Kd.C_below (Kd.C_below HCB.out HWe.out) HB.out)
        have HXL := Aside0.mk (show (xr 54 K).length = 64 ∧ (xr 92 K).length = 64 from by rw [xr_len, xr_len]; exact ⟨HKK.out, HKK.out⟩)
        go_wp2_with (first | (at_builtin; refine print_append_row (w0 := We) (We.heap.size) rfl (.tmp 43) (.tmp 44) 22 5 .u8 1 rfl Tryd.underlying22 info_u8 (by decide) (u7) (xr 54 K) (bs) (Ab) _ (cb) rfl rfl ?aO ?aR ?aB ?aS ?aL ?_; (case aO => exact HO7.out); (case aR => exact readsInt_of.2 (Kd.reads_of_C (d := (0 : Int)) HCBr.out)); (case aB => exact HB.out); (case aS => exact HB.out.size); (case aL => (have := HXL.out; have := HBL.out; omega)); intro v9 w9 ho hb hg hat; have HO8a := Aside0.mk (own_other HO8.out hg (Dis.ne HD.out)); have HO9 := Aside0.mk ho; have HB9 := Aside0.mk hb; clear ho hb hg hat) | fail)
        have hIB : ∀ x ∈ xr 54 K ++ bs, 0 ≤ x ∧ x < 256 := fun x hx => (List.mem_append.1 hx).elim (xr_byte _ _ x) (HBB.out x)
        refine (refsum_any w9 _ (xr 54 K ++ bs) (Bs.of_R (Kd.R_of_own (h1 := fun _ => rfl) (ok := fun _ => True) HO9.out (fun _ _ => trivial))) hIB (by rw [List.length_append]; have := HXL.out; have := HBL.out; omega)).mono ?_
        rintro e w10 ⟨rfl, hb10⟩
        obtain ⟨inner, hin⟩ : ∃ q, q = sumP (xr 54 K ++ bs) := ⟨_, rfl⟩
        have HIL := Aside0.mk (show inner.length = 32 from by rw [hin]; exact sumP_len _)
        have HIB := Aside0.mk (show ∀ x ∈ inner, 0 ≤ x ∧ x < 256 from by rw [hin]; exact sumP_byte _)
        rw [← hin] at HME ⊢
        clear hin hIB
        have HO10 := Aside0.mk (pw_own_below HO8a.out hb10)
        have HB10 := Aside0.mk (HB9.out.trans (hb10.mono HB9.out.size))
        have HST := Aside0.mk (run_storeAt_new (P := Tryd.prog) w10 26 (nums .u8 (List.replicate 32 0)).toArray (nums .u8 inner).toArray (by rw [size_out]; simp [nums, HIL.out]) (by simp [nums, HIL.out]) (by simp [nums, Value.oneCell']))
        have HCI : Aside0 ((Kd.int .u8).C (w10.alloc (.cells (nums .u8 inner).toArray 26)) (some ⟨w10.heap.size, 0, none⟩) inner.length inner) := ⟨bytes_C (blk_new w10 _) (by rw [HIL.out]; decide)⟩
        rw [HIL.out] at HCI
        clear hb10
        go_wp2_with (first | (refine store_event rfl (t := 26) (p := 11) (v := .tmp 46) rfl rfl (w1 := w10.alloc (.cells (nums .u8 inner).toArray 26)) ?hr ?_; (case hr => exact run_store_of rfl HST.out); intro w5 hw5; subst hw5) | (at_builtin; refine print_append_row (w0 := We) (We.heap.size) rfl (.tmp 47) (.tmp 48) 22 5 .u8 1 rfl Tryd.underlying22 info_u8 (by decide) (u8) (xr 92 K) (inner) (some ⟨w10.heap.size, 0, none⟩) _ (32) rfl rfl ?aO ?aR ?aB ?aS ?aL ?_; (case aO => exact pw_own_below HO10.out (below_alloc (B0 w10) _)); (case aR => exact (readsInt_of.2 (Kd.reads_of_C (d := (0 : Int)) HCI.out))); (case aB => exact HB10.out.alloc HB10.out.size _); (case aS => exact (by rw [World.size_alloc]; exact Nat.le_succ_of_le HB10.out.size)); (case aL => (have := HXL.out; omega)); intro v11 w11 ho hb hg hat; have HO11 := Aside0.mk ho; have HB11 := Aside0.mk hb; clear ho hb hg hat) | fail)
        have hOB : ∀ x ∈ xr 92 K ++ inner, 0 ≤ x ∧ x < 256 := fun x hx => (List.mem_append.1 hx).elim (xr_byte _ _ x) (HIB.out x)
        refine (refsum_any w11 _ (xr 92 K ++ inner) (Bs.of_R (Kd.R_of_own (h1 := fun _ => rfl) (ok := fun _ => True) HO11.out (fun _ _ => trivial))) hOB (by rw [List.length_append]; have := HXL.out; have := HIL.out; omega)).mono ?_
        rintro e w12 ⟨rfl, hb12⟩
        rw [← HME.out]
        have HBF := Aside0.mk (HB11.out.trans (hb12.mono HB11.out.size))
        have HRF := Aside0.mk (HRWe.out.below HBF.out (arr_lt HRWe.out))
        have HSF := Aside0.mk (arr_store (P := Tryd.prog) (ys := macP key bs) HRF.out (by rw [size_out]; rfl) (by unfold macP; rw [sumP_len]; rfl))
        clear hb12 hOB
        go_wp2_with (refine store_event rfl (t := 26) (p := 4) (v := .tmp 50) rfl rfl (w1 := w12.setRow w.heap.size (nums .u8 (macP key bs)).toArray) ?hr ?_; (case hr => exact run_store_of rfl HSF.out); intro w2 hw2; subst hw2)
        refine bodyPost_ret (v := .agg (nums .u8 (macP key bs)).toArray) ?_ ?_ ?_
        · exact results_c rfl _ _ w.heap.size 26 _ (0, 0) _ rfl (arr_row HRF.out _) Tryd.underlying26 rfl (by rw [size_out]; simp [nums, macP, sumP_len])
        · rfl
        · exact ⟨rfl, below_row (HWe.out.trans (HBF.out.mono HWe.out.size)) (Nat.le_refl _) _⟩

end Go.Proofs.YthhckkfdcnddfaaDoor.HMacR
