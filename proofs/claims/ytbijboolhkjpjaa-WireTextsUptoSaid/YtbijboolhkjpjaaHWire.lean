/- The walks of the package wire: what its functions come to. -/
import Derived.Test.YtbijboolhkjpjaaHWireS
namespace Go.Proofs.Ytbijboolhkjpjaa.HWire
open Go.RowKit Go.Proofs.YtbijboolhkjpjaaW.PrintWords Go.Proofs.Ytbijboolhkjpjaa.HLib Go.Proofs.Ytbijboolhkjpjaa.HWireS
set_option linter.unusedVariables false
set_option linter.unusedSimpArgs false

/-- An error of this program: nil, or a code. -/
def errW : Option Int → Value
  | none => .nilIface
  | some c => .iface 33 (.int .i64 c)

/-- A cursor at block g of W: it reads the bytes l, at byte i. -/
def IsCur (W : World) (g : Nat) (l : List Int) (i : Int) : Prop :=
  ∃ A c, W.heap[g]? = some (.cells #[.slice A l.length c, .int .i64 i] 51 (0, 0)) ∧ Kd.C (Kd.int .u8) W A l.length l ∧ l.length ≤ c ∧ (∀ ad, A = some ad → ad.block ≠ g) ∧ (A = none → c = 0)
theorem IsCur.drewN {W : World} {g : Nat} {l : List Int} {i : Int} (h : IsCur W g l i) (m : Nat) : IsCur (W.drewN m) g l i := h
theorem IsCur.drawn {W W1 : World} {g : Nat} {l : List Int} {i : Int} (h : IsCur W g l i) (hd : Drawn0 W W1) : IsCur W1 g l i := by
  obtain ⟨⟨m, rfl⟩⟩ := hd
  exact h
theorem IsCur.lt {W : World} {g : Nat} {l : List Int} {i : Int} (h : IsCur W g l i) : g < W.heap.size := by
  obtain ⟨A, c, hb, _⟩ := h
  exact blk_lt hb
theorem IsCur.below {W W1 : World} {g : Nat} {l : List Int} {i : Int} (h : IsCur W g l i) (hb : Below W.heap.size W W1) : IsCur W1 g l i := by
  obtain ⟨A, c, hB, hC, hr⟩ := h
  exact ⟨A, c, (hb.block g (blk_lt hB)).trans hB, Kd.C_below hC hb, hr⟩
/-- The cursor goes on to byte j. -/
theorem IsCur.set {W : World} {g : Nat} {l : List Int} {i : Int} (h : IsCur W g l i) (j : Int) : IsCur (W.setCell ⟨g, 1, none⟩ (.int .i64 j)) g l j := by
  obtain ⟨A, c, hB, hC, hc, hne, hn⟩ := h
  refine ⟨A, c, by simpa using blk_set hB 1 (.int .i64 j), ?_, hc, hne, hn⟩
  have hR := (Kd.reads_of_C (d := (0 : Int)) hC)
  have hR2 := ReadsInt.keep (W := W.setCell ⟨g, 1, none⟩ (.int .i64 j)) (readsInt_of.2 hR) ((KeepBut.refl W g none).set_ 1 _) (fun ad e _ => hne ad e)
  exact Kd.C_of_reads (readsInt_of.1 hR2)

theorem left_nil (w : World) : Calls Try.prog 20 #[.pointer none] w fun e w' => e = .returned (.int .i64 0) ∧ w' = w := by
  go_enter Try.func20, Try.ntmps20
  go_wp2
  go_ret
  exact ⟨rfl, rfl⟩

theorem left_at (w : World) (g : Nat) (l : List Int) (i : Int) (h : IsCur w g l i) (h0 : 0 ≤ i) (h1 : i ≤ l.length) (hl : l.length ≤ 140737488355328) :
    Calls Try.prog 20 #[.pointer (some ⟨g, 0, none⟩)] w fun e w' => e = .returned (.int .i64 (l.length - i)) ∧ Drawn0 w w' := by
  obtain ⟨A, c, hb, hC, hc, hne, hn⟩ := h
  have c0 := blk_cell hb 0
  have c1 := blk_cell hb 1
  simp at c0 c1
  clear hb hC hc hne hn
  go_enter Try.func20, Try.ntmps20
  go_wp2
  repeat (go_quiet (fail); try go_wp2)
  go_ret
  exact ⟨rfl, by repeat (first | exact Drawn0.refl _ | apply Drawn0.step)⟩

theorem at_at (w : World) (g : Nat) (l : List Int) (i : Int) (h : IsCur w g l i) :
    Calls Try.prog 19 #[.pointer (some ⟨g, 0, none⟩)] w fun e w' => e = .returned (.int .i64 i) ∧ Drawn0 w w' := by
  obtain ⟨A, c, hb, hC, hc, hne, hn⟩ := h
  have c0 := blk_cell hb 0
  have c1 := blk_cell hb 1
  simp at c0 c1
  clear hb hC hc hne hn
  go_enter Try.func19, Try.ntmps19
  go_wp2
  repeat (go_quiet (fail); try go_wp2)
  go_ret
  exact ⟨rfl, by repeat (first | exact Drawn0.refl _ | apply Drawn0.step)⟩

theorem end_nil (w : World) : Calls Try.prog 21 #[.pointer none] w fun e w' => e = .returned .nilIface ∧ w' = w := by
  go_enter Try.func21, Try.ntmps21
  go_wp2_with (go_at_call 20; refine (left_nil _).mono ?_; rintro e w' ⟨rfl, rfl⟩)
  go_ret
  exact ⟨rfl, rfl⟩

theorem end_at (w : World) (g : Nat) (l : List Int) (i : Int) (h : IsCur w g l i) (h0 : 0 ≤ i) (h1 : i ≤ l.length) (hl : l.length ≤ 140737488355328) :
    Calls Try.prog 21 #[.pointer (some ⟨g, 0, none⟩)] w fun e w' => e = .returned (errW (if i < l.length then some 16 else none)) ∧ Drawn0 w w' := by
  by_cases hi : i < l.length
  · rw [if_pos hi]
    have hd : decide (0 < (l.length : Int) - i) = true := by simp; omega
    go_enter Try.func21, Try.ntmps21
    go_wp2_with (go_at_call 20; refine (left_at _ g l i h h0 h1 hl).mono ?_; rintro e w' ⟨rfl, ⟨m, rfl⟩⟩)
    go_ret
    exact ⟨rfl, by repeat (first | exact Drawn0.refl _ | apply Drawn0.step)⟩
  · rw [if_neg hi]
    have hd : decide (0 < (l.length : Int) - i) = false := by simp; omega
    go_enter Try.func21, Try.ntmps21
    go_wp2_with (go_at_call 20; refine (left_at _ g l i h h0 h1 hl).mono ?_; rintro e w' ⟨rfl, ⟨m, rfl⟩⟩)
    go_ret
    exact ⟨rfl, by repeat (first | exact Drawn0.refl _ | apply Drawn0.step)⟩

theorem clone_nil (w : World) : Calls Try.prog 22 #[.slice none 0 0] w fun e w' => ∃ v, e = .returned v ∧ Kd.R (Kd.int .u8) 5 w' w.heap.size (fun _ => True) v [] ∧ Below w.heap.size w w' := by
  have hn := fun w => Lib.run_eql_slice_nil (P := Try.prog) w 23 5 none 0 0 0 0 Try.underlying23
  go_enter Try.func22, Try.ntmps22
  go_wp2
  go_ret
  exact ⟨_, rfl, Kd.R_nil _ _ _ _ _, Below.refl _ _⟩

theorem clone_some (w : World) (ad : Addr) (c : Nat) (l : List Int) (hC : Kd.C (Kd.int .u8) w (some ad) l.length l) (hc : l.length ≤ c) (hl : l.length < 140737488355328) :
    Calls Try.prog 22 #[.slice (some ad) l.length c] w fun e w' => ∃ v, e = .returned v ∧ Kd.R (Kd.int .u8) 5 w' w.heap.size (fun _ => True) v l ∧ Below w.heap.size w w' := by
  have hn := fun w => Lib.run_eql_slice_nil (P := Try.prog) w 23 5 (some ad) l.length c 0 0 Try.underlying23
  have HR := Aside0.mk (Kd.reads_of_C (d := (0 : Int)) hC)
  have HL := Aside0.mk hl
  clear hC hc hl
  go_enter Try.func22, Try.ntmps22
  go_wp2_with (at_builtin; refine print_append_row (w0 := w) w.heap.size rfl (.tmp 5) (.tmp 6) 23 5 .u8 1 rfl Try.underlying23 info_u8 (by decide) (.slice (some ⟨w.heap.size, 0, none⟩) 0 0) [] l (some ad) l.length c rfl rfl (own_lit w w.heap.size 5 .u8 [] (Nat.le_refl _) (by decide)) ?aR ?aB ?aS ?aL ?_; (case aR => exact (readsInt_of.2 HR.out).below ((Below.refl _ _).alloc (Nat.le_refl _) _)); (case aB => exact (Below.refl _ _).alloc (Nat.le_refl _) _); (case aS => simp); (case aL => have := HL.out; simp; omega); intro v1 w1 ho hb hg hat; have HO := Aside0.mk ho; have HB := Aside0.mk hb; clear ho hb hg hat)
  go_ret
  exact ⟨_, rfl, Kd.R_of_own (h1 := fun _ => rfl) HO.out (fun _ _ => trivial), HB.out⟩

theorem clone_any (w : World) (v : Value) (l : List Int) (h : Bs w v l) (hl : l.length < 140737488355328) :
    Calls Try.prog 22 #[v] w fun e w' => ∃ v, e = .returned v ∧ Kd.R (Kd.int .u8) 5 w' w.heap.size (fun _ => True) v l ∧ Below w.heap.size w w' := by
  obtain ⟨A, c, rfl, hc, hC, hn⟩ := h
  cases A with
  | none =>
    obtain rfl := hn rfl
    have : l = [] := List.eq_nil_of_length_eq_zero (by omega)
    subst this
    exact clone_nil w
  | some ad => exact clone_some w ad c l hC hc hl

theorem new_any (w : World) (v : Value) (l : List Int) (h : Bs w v l) (hl : l.length < 140737488355328) :
    Calls Try.prog 10 #[v] w fun e w' => ∃ g, e = .returned (.pointer (some ⟨g, 0, none⟩)) ∧ w.heap.size ≤ g ∧ IsCur w' g l 0 ∧ Below w.heap.size w w' := by
  go_enter Try.func10, Try.ntmps10
  go_wp2_with (go_at_call 22; refine (clone_any _ v l h hl).mono ?_; rintro e w1 ⟨v1, rfl, hR, hB⟩; obtain ⟨A, c, rfl, hc, hC, hn⟩ := Bs.of_R hR; have HA := Aside0.mk (And.intro hc (And.intro hC hn)); have HB := Aside0.mk hB; have HL := Aside0.mk (fun ad (e : A = some ad) => Kd.R_lt hR ad.block (by rw [e]; rfl)); clear hc hC hn hB hR)
  go_ret
  obtain ⟨hc, hC, hn⟩ := HA.out
  refine ⟨w1.heap.size, rfl, HB.out.size, ⟨A, c, by simpa using heap_alloc_new w1 _, Kd.C_below hC (below_alloc (Below.refl _ _) _), hc, fun ad e => ?_, hn⟩, HB.out.alloc HB.out.size _⟩
  have := HL.out ad e
  omega

theorem below_set1 (w : World) (n g : Nat) (v : Value) : Below g w ((w.drewN n).setCell ⟨g, 1, none⟩ v) := Below.setCell (p := ⟨g, 1, none⟩) (pw_below_drewN (Below.refl _ _) n) (Nat.le_refl _) v
theorem keep_set1 (w : World) (n g : Nat) (v : Value) : KeepBut w ((w.drewN n).setCell ⟨g, 1, none⟩ v) g none := KeepBut.set_ (KeepBut.of_below (pw_below_drewN (Below.refl _ _) n) _ _) 1 v

def numE : Int ⊕ (Int × Nat) → Value
  | .inl c => .tuple #[.int .u64 0, errW (some c)]
  | .inr (x, _) => .tuple #[.int .u64 x, errW none]
def numAt (i : Int) : Int ⊕ (Int × Nat) → Int
  | .inl _ => i
  | .inr (_, n) => i + n

theorem num_end {l : List Int} {k j : Nat} {x : Int} (h : numGo l (k + 1) j x = num l) (hj : l.length ≤ j) : num l = .inl 1 := by rw [← h, numGo_end hj]

theorem rd_drop (l : List Int) (i : Int) (h0 : 0 ≤ i) (j : Nat) : (l.drop i.toNat).getD j 0 = rd l (i + j) := by
  unfold rd
  rw [show (i + (j : Int)).toNat = i.toNat + j from by omega]
  simp [List.getD_eq_getElem?_getD]

theorem number_nil (w : World) : Calls Try.prog 11 #[.pointer none] w fun e w' => e = .returned (numE (.inl 1)) ∧ w' = w := by
  go_enter Try.func11, Try.ntmps11
  go_wp2
  refine wp_loop_rounds 1 ?_
  rw [rounds_succ]
  go_wp2_with (go_at_call 20; refine (left_nil _).mono ?_; rintro e w' ⟨rfl, rfl⟩)
  go_ret2
  exact ⟨rfl, rfl⟩

set_option maxHeartbeats 4000000 in
theorem number_at (w : World) (g : Nat) (l : List Int) (i : Int) (h : IsCur w g l i) (h0 : 0 ≤ i) (h1 : i ≤ l.length) (hl : l.length ≤ 140737488355328) (hb : ∀ x ∈ l, 0 ≤ x ∧ x < 256) :
    Calls Try.prog 11 #[.pointer (some ⟨g, 0, none⟩)] w fun e w' => e = .returned (numE (num (l.drop i.toNat))) ∧ IsCur w' g l (numAt i (num (l.drop i.toNat))) ∧ KeepBut w w' g none ∧ Below g w w' := by
  have Hb := Aside0.mk hb
  clear hb
  go_enter Try.func11, Try.ntmps11
  go_wp2
  go_loopg [4, 5, 6] 11 (fun kq v4 v5 v6 w' => ∃ (x : Int) (J : Int), v4 = .int .u64 x ∧ v5 = .int .i64 J ∧ Aside0 (numGo (l.drop i.toNat) kq J.toNat x = num (l.drop i.toNat) ∧ kq + J.toNat = 11 ∧ 0 ≤ J ∧ J ≤ 9 ∧ 0 ≤ x ∧ x < 2 ^ (7 * J.toNat)) ∧ Drawn0 w w')
  case atStart => exact ⟨0, 0, rfl, rfl, ⟨⟨rfl, rfl, by omega, by omega, by decide, by decide⟩⟩, Drawn0.refl _⟩
  case round =>
    obtain ⟨x, J, rfl, rfl, HA, ⟨m, rfl⟩⟩ := hrel
    cases gk with
    | zero => obtain ⟨_, h1, h2, _⟩ := HA.out; omega
    | succ k1 =>
      have hJ0 : 0 ≤ J := HA.out.2.2.1
      have hJ9 : J ≤ 9 := HA.out.2.2.2.1
      by_cases hj : (l.drop i.toNat).length ≤ J.toNat
      · have hd : decide ((l.length : Int) - i ≤ J) = true := by simp at hj ⊢; omega
        have Hn := Aside0.mk (num_end HA.out.1 hj)
        go_wp2_with (go_at_call 20; refine (left_at _ g l i (IsCur.drewN h _) h0 h1 hl).mono ?_; rintro e w' ⟨rfl, ⟨m, rfl⟩⟩)
        go_ret2
        rw [Hn.out]
        exact ⟨rfl, IsCur.drewN h _, KeepBut.of_below (by repeat (first | exact Below.refl _ _ | apply pw_below_drewN)) _ _, by repeat (first | exact Below.refl _ _ | apply pw_below_drewN)⟩
      · have hd : decide ((l.length : Int) - i ≤ J) = false := by simp at hj ⊢; omega
        obtain ⟨A, c, hB, hC, hc, hne, hn⟩ := h
        have hj' : J < l.length - i := by simp at hj; omega
        obtain ⟨ad, rfl, hx⟩ := Kd.at_int hC (i + J) (by omega) (by omega)
        have c0 := blk_cell hB 0
        have c1 := blk_cell hB 1
        have f1 := blk_frozen hB 1
        simp at c0 c1
        have hbb : 0 ≤ rd l (i + J) ∧ rd l (i + J) < 256 := by
          refine Hb.out _ ?_
          unfold rd
          rw [List.getD_eq_getElem?_getD, List.getElem?_eq_getElem (show (i + J).toNat < l.length by omega)]
          exact List.getElem_mem _
        obtain ⟨b, hbe⟩ : ∃ b, b = rd l (i + J) := ⟨_, rfl⟩
        rw [← hbe] at hx hbb
        have HBD := Aside0.mk (show (l.drop i.toNat).getD J.toNat 0 = b by rw [rd_drop l i h0 J.toNat, hbe, show ((J.toNat : Nat) : Int) = J from by omega])
        have HI := Aside0.mk (show IsCur w g l i from ⟨_, _, hB, hC, hc, hne, hn⟩)
        have HJ := Aside0.mk (show J.toNat < (l.drop i.toNat).length by omega)
        obtain ⟨hb0, hb1⟩ := hbb
        have hi0 : 0 ≤ i + J := by omega
        have hi1 : i + J < l.length := by omega
        have hdd : decide (i + J < l.length) = true := decide_eq_true hi1
        clear hbe hB hC hc hne hn hj
        by_cases e9 : J = 9 ∧ 1 < b
        · obtain ⟨rfl, e9⟩ := e9
          have Hn := Aside0.mk (HA.out.1.symm.trans (numGo_long HJ.out (by rw [show (9 : Int).toNat = 9 from rfl] at HBD; rw [HBD.out]; exact e9)))
          have eb : decide (1 < b) = true := decide_eq_true e9
          go_wp2_with (go_at_call 20; refine (left_at _ g l i (IsCur.drewN HI.out _) h0 h1 hl).mono ?_; rintro e w' ⟨rfl, ⟨m, rfl⟩⟩)
          repeat (go_quiet (fail); try go_wp2)
          go_ret2
          rw [Hn.out]
          exact ⟨rfl, IsCur.drewN HI.out _, KeepBut.of_below (by repeat (first | exact Below.refl _ _ | apply pw_below_drewN)) _ _, by repeat (first | exact Below.refl _ _ | apply pw_below_drewN)⟩
        · by_cases e0 : 0 < J ∧ b = 0
          · obtain ⟨e0, rfl⟩ := e0
            have Hn := Aside0.mk (HA.out.1.symm.trans (numGo_min HJ.out (by omega) HBD.out))
            have eb : decide (0 < J) = true := by simp; omega
            have e9a : J = 9 ∨ (J == 9) = false := by
              by_cases z : J = 9
              · exact .inl z
              · right; simp; omega
            rcases e9a with rfl | e9a
            all_goals
              go_wp2_with (go_at_call 20; refine (left_at _ g l i (IsCur.drewN HI.out _) h0 h1 hl).mono ?_; rintro e w' ⟨rfl, ⟨m, rfl⟩⟩)
              repeat (go_quiet (fail); try go_wp2)
              go_ret2
              rw [Hn.out]
              exact ⟨rfl, IsCur.drewN HI.out _, KeepBut.of_below (by repeat (first | exact Below.refl _ _ | apply pw_below_drewN)) _ _, by repeat (first | exact Below.refl _ _ | apply pw_below_drewN)⟩
          · have hJ := HJ.out
            have h9 : J.toNat = 9 → ¬ 1 < (l.drop i.toNat).getD J.toNat 0 := by rw [HBD.out]; exact fun z z2 => e9 ⟨by omega, z2⟩
            have h00 : 0 < J.toNat → (l.drop i.toNat).getD J.toNat 0 ≠ 0 := by rw [HBD.out]; exact fun z z2 => e0 ⟨by omega, z2⟩
            have HO := Aside0.mk (join_group x b J.toNat HA.out.2.2.2.2.1 HA.out.2.2.2.2.2 hb0 hb1 (by omega) (fun z => by have := fun z2 => e9 ⟨by omega, z2⟩; omega))
            have HG := Aside0.mk (group_lt x b J.toNat HA.out.2.2.2.2.2)
            have HP := Aside0.mk (show 0 ≤ x + b % 128 * 2 ^ (7 * J.toNat) from by
              have h1 := HA.out.2.2.2.2.1
              have h2 : (0 : Int) ≤ b % 128 * 2 ^ (7 * J.toNat) := Int.mul_nonneg (by omega) (Int.le_of_lt (Int.pow_pos (by decide)))
              omega)
            have h70 : 0 ≤ 7 * J := by omega
            have h7 : (7 * J).toNat = 7 * J.toNat := by omega
            have H7 := Aside0.mk h7
            clear h7
            have e9a : J = 9 ∧ decide (1 < b) = false ∨ (J == 9) = false := by
              by_cases z : J = 9
              · left; exact ⟨z, by simp; have := fun z2 => e9 ⟨z, z2⟩; omega⟩
              · right; simp; omega
            have e0a : decide (0 < J) = true ∧ (b == 0) = false ∨ decide (0 < J) = false := by
              by_cases z : 0 < J
              · left; exact ⟨by simp; omega, by simp; exact fun z2 => e0 ⟨z, z2⟩⟩
              · right; simp; omega
            by_cases h128 : b < 128
            · have Hn := Aside0.mk (HA.out.1.symm.trans (numGo_last hJ h9 h00 (by rw [HBD.out]; exact h128)))
              have ed : decide (b < 128) = true := decide_eq_true h128
              clear hJ h9 h00 e9 e0
              rcases e9a with ⟨rfl, e9b⟩ | e9a
              · rcases e0a with ⟨e0a, e0b⟩ | e0a
                · rw [pow63] at HO Hn
                  rw [HBD.out] at Hn
                  go_wp2_with (go_at_call 20; refine (left_at _ g l i (IsCur.drewN HI.out _) h0 h1 hl).mono ?_; rintro e w' ⟨rfl, ⟨m, rfl⟩⟩)
                  repeat (go_quiet (fail); try go_wp2)
                  go_ret2
                  rw [Hn.out]
                  refine ⟨?_, ?_, keep_set1 w _ g _, below_set1 w _ g _⟩
                  · refine congrArg Ending.returned ?_
                    refine congrArg Value.tuple ?_
                    show #[Value.int .u64 (bits .or .u64 x _), Value.nilIface] = #[Value.int .u64 _, Value.nilIface]
                    rw [HO.out]
                  · show IsCur _ g l (i + (10 : Int))
                    exact IsCur.set (IsCur.drewN HI.out _) _
                · exfalso; revert e0a; decide
              · rw [← H7.out] at HO Hn
                rw [HBD.out] at Hn
                have HT := Aside0.mk (show i + ((J.toNat + 1 : Nat) : Int) = i + (J + 1) from by omega)
                rcases e0a with ⟨e0a, e0b⟩ | e0a
                all_goals
                  go_wp2_with (go_at_call 20; refine (left_at _ g l i (IsCur.drewN HI.out _) h0 h1 hl).mono ?_; rintro e w' ⟨rfl, ⟨m, rfl⟩⟩)
                  repeat (go_quiet (fail); try go_wp2)
                  go_ret2
                  rw [Hn.out]
                  refine ⟨?_, ?_, keep_set1 w _ g _, below_set1 w _ g _⟩
                  · refine congrArg Ending.returned ?_
                    refine congrArg Value.tuple ?_
                    show #[Value.int .u64 (bits .or .u64 x _), Value.nilIface] = #[Value.int .u64 _, Value.nilIface]
                    rw [HO.out]
                  · show IsCur _ g l (i + ((J.toNat + 1 : Nat) : Int))
                    rw [HT.out]
                    exact IsCur.set (IsCur.drewN HI.out _) _
            · have Hn := Aside0.mk ((numGo_more (x := x) (k := k1) hJ h9 h00 (by rw [HBD.out]; exact h128)).symm.trans HA.out.1)
              have ed : decide (b < 128) = false := decide_eq_false h128
              have HKJ := Aside0.mk HA.out.2.1
              have HJT := Aside0.mk (show (J + 1).toNat = J.toNat + 1 from by omega)
              rcases e9a with ⟨rfl, e9b⟩ | e9a
              · exfalso
                have := of_decide_eq_false e9b
                omega
              · have hJ8 : J ≤ 8 := by have : J ≠ 9 := by simpa using e9a
                                       omega
                clear hJ h9 h00 e9 e0
                rw [← H7.out] at HO Hn HG HP
                rw [HBD.out] at Hn
                rcases e0a with ⟨e0a, e0b⟩ | e0a
                all_goals
                  go_wp2_with (go_at_call 20; refine (left_at _ g l i (IsCur.drewN HI.out _) h0 h1 hl).mono ?_; rintro e w' ⟨rfl, ⟨m, rfl⟩⟩)
                  repeat (go_quiet (fail); try go_wp2)
                  go_roundg k1
                  case measure => omega
                  case rel =>
                    refine ⟨_, J + 1, rfl, rfl, ⟨?_⟩, by repeat (first | exact Drawn0.refl _ | apply Drawn0.step)⟩
                    rw [HO.out, HJT.out]
                    exact ⟨Hn.out, by have := HKJ.out; omega, by omega, by omega, HP.out, HG.out⟩

end Go.Proofs.Ytbijboolhkjpjaa.HWire
