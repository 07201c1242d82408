/- The walks of the package base. -/
import Derived.Test.YtododekidopkhaaHBuild
import Derived.Test.YtododekidopkhaaHBaseS
import Derived.Test.YtododekidopkhaaShelf
namespace Go.Proofs.Ytododekidopkhaa.HBase
open Go.RowKit Go.Proofs.YtododekidopkhaaW.PrintWords Go.Proofs.Ytododekidopkhaa.HLib Go.Proofs.Ytododekidopkhaa.HBuild Go.Proofs.Ytododekidopkhaa.HBaseS
set_option linter.unusedVariables false
set_option linter.unusedSimpArgs false

def alpha : ByteArray := ⟨#[65, 66, 67, 68, 69, 70, 71, 72, 73, 74, 75, 76, 77, 78, 79, 80, 81, 82, 83, 84, 85, 86, 87, 88, 89, 90, 97, 98, 99, 100, 101, 102, 103, 104, 105, 106, 107, 108, 109, 110, 111, 112, 113, 114, 115, 116, 117, 118, 119, 120, 121, 122, 48, 49, 50, 51, 52, 53, 54, 55, 56, 57, 45, 95]⟩
def sign (v : Int) : Int := bt alpha v
theorem sign_byte (v : Int) : 0 ≤ sign v ∧ sign v < 256 := by
  have := bt_range alpha v
  unfold sign
  omega

set_option maxHeartbeats 1000000 in
theorem emit_enc (B g : Nat) (bs : List Value) (v : Int) (b : Bool) (w : World) (h : Lib.IsBuilder 43 5 B g bs w) (h0 : 0 ≤ v) (h1 : v < 64) (hl : bs.length + 1 ≤ 140737488355328) (hB : B ≤ w.heap.size) :
    Calls Try.prog 19 #[.int .i64 v, .bool b, .pointer (some ⟨g, 0, none⟩)] w fun e w' => e = .returned (.tuple #[]) ∧ Lib.BuilderAt 43 5 B g (.pointer (some ⟨g, 0, none⟩)) (bs ++ [.int .u8 (sign v)]) w' ∧ Below B w w' := by
  go_enter Try.func19, Try.ntmps19
  go_wp2_with fail
  rw [bt_at _ v]
  refine (writeByte_any B g bs (sign v) _ h hl hB).mono ?_
  rintro e w1 ⟨rfl, h1, hb1⟩
  have H1 := Aside0.mk h1
  have HB1 := Aside0.mk hb1
  clear h1 hb1 h
  go_wp2
  go_end0
  exact ⟨rfl, H1.out, HB1.out⟩

set_option maxHeartbeats 4000000 in
/-- regroup from 8 to 6 bits, over the writer of signs. -/
theorem regroup_enc (B g : Nat) (A : Option Addr) (c : Nat) (vs : List Int) (w : World) (hC : Kd.C (Kd.int .i64) w A vs.length vs) (hv : ∀ v ∈ vs, 0 ≤ v ∧ v < 256) (hA : ∀ ad, A = some ad → ad.block < B)
    (h : Lib.IsBuilder 43 5 B g ([]) w) (hB : B ≤ w.heap.size) (hl : vs.length ≤ 17592186044416) :
    Calls Try.prog 18 #[.slice A vs.length c, .int .i64 8, .int .i64 6, .func (.func 19) #[] #[.pointer (some ⟨g, 0, none⟩)]] w fun e w' =>
      e = .returned (.tuple #[]) ∧ Lib.IsBuilder 43 5 B g ((rg 8 6 vs 0 0).map fun p => .int .u8 (sign p.1)) w' ∧ Below B w w' := by
  have HC := Aside0.mk hC
  have HV := Aside0.mk hv
  have HA := Aside0.mk hA
  have HL := Aside0.mk hl
  have HI := Aside0.mk h
  have HS := Aside0.mk hB
  clear hC hv hA h hB hl
  go_enter Try.func18, Try.ntmps18
  go_wp2
  go_loopg [8, 9, 11, 14] vs.length (fun kq v8 v9 v11 v14 w' => ∃ (acc n j : Int) (es : List (Int × Bool)), v8 = .int .i64 acc ∧ v9 = .int .i64 n ∧ v14 = .int .i64 j ∧
    Aside0 (0 ≤ j ∧ (kq : Int) + j = vs.length ∧ 0 ≤ n ∧ n < 6 ∧ 0 ≤ acc ∧ acc < 2 ^ n.toNat ∧ es ++ rg 8 6 (vs.drop j.toNat) acc n.toNat = rg 8 6 vs 0 0 ∧ es.length ≤ 2 * j.toNat) ∧
    Aside0 (Lib.IsBuilder 43 5 B g (es.map fun p => .int .u8 (sign p.1)) w') ∧ Aside0 (Below B w w'))
  case atStart => exact ⟨0, 0, 0, [], rfl, rfl, rfl, ⟨⟨by omega, by omega, by omega, by omega, by omega, by decide, rfl, by simp⟩⟩, HI, ⟨Below.refl _ _⟩⟩
  case round =>
    obtain ⟨acc, n, j, es, rfl, rfl, rfl, HR, HBu, HBe⟩ := hrel
    have hj0 : 0 ≤ j := HR.out.1
    have hn0 : 0 ≤ n := HR.out.2.2.1
    have hn6 : n < 6 := HR.out.2.2.2.1
    have ha0 : 0 ≤ acc := HR.out.2.2.2.2.1
    have ha1 : acc < 64 := Int.lt_of_lt_of_le HR.out.2.2.2.2.2.1 (show (2 : Int) ^ n.toNat ≤ 2 ^ 6 from pow_le _ _ (by omega))
    have hjm : j ≤ 17592186044416 := by have := HL.out; have := HR.out; omega
    by_cases c1 : j < vs.length
    · have d1 : decide (j < (vs.length : Int)) = true := decide_eq_true c1
      obtain ⟨ad, rfl, hx⟩ := Kd.at_int HC.out j hj0 c1
      have hx2 : wr.cell? (ad.add j.toNat) = some (.int .i64 (rd vs j)) := (HBe.out.cell (p := ad.add j.toNat) (by
        have h1 := HA.out ad rfl
        have h2 : (ad.add j.toNat).block = ad.block := by unfold Addr.add; split <;> rfl
        omega)).trans hx
      obtain ⟨v, hve⟩ : ∃ v, v = rd vs j := ⟨_, rfl⟩
      have hvb : 0 ≤ v ∧ v < 256 := by
        rw [hve]
        refine HV.out _ ?_
        unfold rd
        rw [List.getD_eq_getElem?_getD, List.getElem?_eq_getElem (show j.toNat < vs.length by omega)]
        exact List.getElem_mem _
      rw [← hve] at hx2
      obtain ⟨hv0, hv1⟩ := hvb
      have hor : bits .or .i64 (acc * 256) v = acc * 256 + v := or_low acc v 8 256 rfl ha0 (by omega) hv0 hv1 (by decide)
      have HVE := Aside0.mk (show vs.drop j.toNat = v :: vs.drop (j.toNat + 1) from by
        rw [List.drop_eq_getElem_cons (show j.toNat < vs.length by omega)]
        congr 1
        rw [hve]
        unfold rd
        rw [List.getD_eq_getElem?_getD, List.getElem?_eq_getElem (show j.toNat < vs.length by omega)]
        rfl)
      clear hve hx
      have HA1 := Aside0.mk (show acc * 256 + v < 2 ^ (n.toNat + 8) from by
        rw [Int.pow_add, show (2 : Int) ^ 8 = 256 from rfl]
        have := HR.out.2.2.2.2.2.1
        generalize (2 : Int) ^ n.toNat = q at this ⊢
        omega)
      go_wp2
      go_loopg [8, 9] 16 (fun kq v8 v9 w' => ∃ (a m : Int) (xs : List Int), v8 = .int .i64 a ∧ v9 = .int .i64 m ∧
        Aside0 (0 ≤ m ∧ m ≤ kq ∧ 0 ≤ a ∧ a < 2 ^ m.toNat ∧ m ≤ 13 ∧ xs ++ (drn 6 kq a m.toNat).1 = (drn 6 16 (acc * 256 + v) (n.toNat + 8)).1 ∧ (drn 6 kq a m.toNat).2 = (drn 6 16 (acc * 256 + v) (n.toNat + 8)).2 ∧ xs.length * 6 + m ≤ 13) ∧
        Aside0 (Lib.IsBuilder 43 5 B g ((es ++ xs.map fun x => (x, true)).map fun p => .int .u8 (sign p.1)) w') ∧ Aside0 (Below B w w'))
      case atStart =>
        refine ⟨acc * 256 + v, n + 8, [], rfl, rfl, ⟨⟨by omega, by omega, by omega, ?_, by omega, ?_, ?_, by simp; omega⟩⟩, ⟨by simpa using HBu.out⟩, HBe⟩
        all_goals rw [show (n + 8).toNat = n.toNat + 8 from by omega]
        · exact HA1.out
        · rfl
      case round =>
        obtain ⟨a, m, xs, rfl, rfl, HR2, HBu2, HBe2⟩ := hrel
        have hm0 : 0 ≤ m := HR2.out.1
        have hm1 : m ≤ 13 := HR2.out.2.2.2.2.1
        have hea0 : 0 ≤ a := HR2.out.2.2.1
        have hea1 : a < 8192 := Int.lt_of_lt_of_le HR2.out.2.2.2.1 (show (2 : Int) ^ m.toNat ≤ 2 ^ 13 from pow_le _ _ (by omega))
        by_cases c2 : 6 ≤ m
        · have d2 : decide (6 ≤ m) = true := decide_eq_true c2
          obtain ⟨f, rfl⟩ : ∃ f, gk = f + 1 := ⟨gk - 1, by have := HR2.out.2.1; omega⟩
          have hmt : (m - 6).toNat = m.toNat - 6 := by omega
          have hp : (0 : Int) < 2 ^ (m - 6).toNat := Int.pow_pos (by decide)
          have hq : (2 : Int) ^ (m - 6).toNat ≤ 2 ^ 7 := pow_le _ _ (by omega)
          have hq2 : (2 : Int) ^ (m - 6).toNat ≤ 128 := hq
          have he0 : 0 ≤ a / 2 ^ (m - 6).toNat := Int.ediv_nonneg hea0 (by omega)
          have he1 : a / 2 ^ (m - 6).toNat < 64 := by
            refine Int.ediv_lt_of_lt_mul hp ?_
            rw [show (64 : Int) = 2 ^ 6 from rfl, ← Int.pow_add, hmt, show 6 + (m.toNat - 6) = m.toNat from by omega]
            exact HR2.out.2.2.2.1
          have hstep := drn_step (tw := 6) (f := f) (n := m.toNat) (a := a) (by omega)
          rw [← hmt] at hstep
          have hand : bits .and .i64 a (2 ^ (m - 6).toNat - 1) = a % 2 ^ (m - 6).toNat := and_low a (m - 6).toNat _ rfl hea0 (by omega) (by omega)
          have HST := Aside0.mk hstep
          have HMT := Aside0.mk hmt
          have HEM := Aside0.mk (And.intro (Int.emod_nonneg a (show (2 : Int) ^ (m - 6).toNat ≠ 0 from by omega)) (Int.emod_lt_of_pos a hp))
          clear hstep hmt hq
          go_wp2_with fail
          refine (emit_enc B g _ _ true _ HBu2.out he0 he1 (by have h1 := HR.out.2.2.2.2.2.2.2; have h2 := HR2.out.2.2.2.2.2.2.2; simp; omega) (Nat.le_trans HS.out HBe2.out.size)).mono ?_
          rintro e w1 ⟨rfl, hb1, hbe1⟩
          have HBu3 := Aside0.mk hb1
          have HBe3 := Aside0.mk (HBe2.out.trans hbe1)
          clear hb1 hbe1
          go_wp2
          go_roundg f
          case measure => omega
          case rel =>
            refine ⟨a % 2 ^ (m - 6).toNat, m - 6, xs ++ [a / 2 ^ (m - 6).toNat], rfl, rfl, ⟨?_⟩, ⟨?_⟩, HBe3⟩
            · have h := HR2.out
              rw [HST.out] at h
              refine ⟨by omega, by omega, HEM.out.1, HEM.out.2, by omega, ?_, h.2.2.2.2.2.2.1, ?_⟩
              · rw [← h.2.2.2.2.2.1]
                simp
              · rw [List.length_append, List.length_singleton]
                have := h.2.2.2.2.2.2.2
                omega
            · have h := HBu3.out
              exact .inr (by simpa using h)
        · have d2 : decide (6 ≤ m) = false := decide_eq_false c2
          have hm6 : m < 6 := by omega
          have hdone := drn_done (tw := 6) (f := gk) (n := m.toNat) (a := a) (by omega)
          have HD := Aside0.mk hdone
          clear hdone c2
          go_wp2
          go_roundg (vs.length - (j + 1).toNat)
          case measure => have := HR.out; omega
          case rel =>
            have h := HR2.out
            rw [HD.out] at h
            refine ⟨a, m, j + 1, es ++ xs.map fun x => (x, true), rfl, rfl, rfl, ⟨⟨by omega, by omega, by omega, by have := h.2.2.2.2.2.2.2; omega, h.2.2.1, h.2.2.2.1, ?_, ?_⟩⟩, HBu2, HBe2⟩
            · rw [← HR.out.2.2.2.2.2.2.1, HVE.out, rg, show (2 : Int) ^ 8 = 256 from rfl, ← h.2.2.2.2.2.2.1, ← h.2.2.2.2.2.1]
              simp [show (j + 1).toNat = j.toNat + 1 from by omega]
            · rw [List.length_append, List.length_map]
              have := HR.out.2.2.2.2.2.2.2
              have := h.2.2.2.2.2.2.2
              omega
    · have d1 : decide (j < (vs.length : Int)) = false := decide_eq_false c1
      have hd : vs.drop j.toNat = [] := List.drop_eq_nil_of_le (by omega)
      have HD := Aside0.mk hd
      clear hd c1
      by_cases c3 : 0 < n
      · have d3 : decide (0 < n) = true := decide_eq_true c3
        have he0 : 0 ≤ acc * 2 ^ (6 - n).toNat := Int.mul_nonneg ha0 (Int.le_of_lt (Int.pow_pos (by decide)))
        have he1 : acc * 2 ^ (6 - n).toNat < 64 := by
          have h1 := HR.out.2.2.2.2.2.1
          have hp : (0 : Int) < 2 ^ (6 - n).toNat := Int.pow_pos (by decide)
          have h2 := Int.mul_lt_mul_of_pos_right h1 hp
          rw [← Int.pow_add, show n.toNat + (6 - n).toNat = 6 from by omega] at h2
          exact h2
        have HTN := Aside0.mk (show (6 - n).toNat = 6 - n.toNat from by omega)
        go_wp2_with fail
        refine (emit_enc B g _ _ false _ HBu.out he0 he1 (by have h1 := HR.out.2.2.2.2.2.2.2; simp; omega) (Nat.le_trans HS.out HBe.out.size)).mono ?_
        rintro e w1 ⟨rfl, hb1, hbe1⟩
        have HBu3 := Aside0.mk hb1
        have HBe3 := Aside0.mk (HBe.out.trans hbe1)
        clear hb1 hbe1
        go_wp2
        go_end0
        refine ⟨rfl, ?_, HBe3.out⟩
        rw [← HR.out.2.2.2.2.2.2.1, HD.out, rg, if_pos (by omega), ← HTN.out]
        exact .inr (by simpa using HBu3.out)
      · have d3 : decide (0 < n) = false := decide_eq_false c3
        go_wp2
        go_end0
        refine ⟨rfl, ?_, HBe.out⟩
        rw [← HR.out.2.2.2.2.2.2.1, HD.out, rg, if_neg (by omega), List.append_nil]
        exact HBu.out

/-- The collected bytes: a variable in block g that holds a row of the call's own. -/
def IsOut (B g : Nat) (xs : List Int) (w : World) : Prop :=
  B ≤ g ∧ ∃ v, w.heap[g]? = some (.cells #[v] 22 (0, 0)) ∧ Kd.R (Kd.int .u8) 5 w B (fun k => k ≠ g) v xs

theorem emit_dec_no (B g : Nat) (xs : List Int) (v : Int) (w : World) (h : IsOut B g xs w) :
    Calls Try.prog 22 #[.int .i64 v, .bool false, .pointer (some ⟨g, 0, none⟩)] w fun e w' => e = .returned (.tuple #[]) ∧ IsOut B g xs w' ∧ Below B w w' := by
  have HI := Aside0.mk h
  clear h
  go_enter Try.func22, Try.ntmps22
  go_wp2
  go_end0
  exact ⟨rfl, HI.out, Below.refl _ _⟩

set_option maxHeartbeats 1000000 in
theorem emit_dec_yes (B g : Nat) (xs : List Int) (v : Int) (w : World) (h : IsOut B g xs w) (h0 : 0 ≤ v) (h1 : v < 256) (hl : xs.length + 1 ≤ 140737488355328) :
    Calls Try.prog 22 #[.int .i64 v, .bool true, .pointer (some ⟨g, 0, none⟩)] w fun e w' => e = .returned (.tuple #[]) ∧ IsOut B g (xs ++ [v]) w' ∧ Below B w w' := by
  obtain ⟨hB, u, hb, hR⟩ := h
  have HG := Aside0.mk (blk_lt hb)
  have HB0 := Aside0.mk hB
  have HBL := Aside0.mk hb
  have HR := Aside0.mk hR
  have HL := Aside0.mk hl
  have c0 : w.cell? ⟨g, 0, none⟩ = some u := (blk_cell hb 0).trans rfl
  have f0 := blk_frozen hb 0
  clear hB hb hR hl
  go_enter Try.func22, Try.ntmps22
  go_wp2_with (at_builtin; refine Kd.R_append (Kd.int .u8) (w0 := w) B rfl (.tmp 6) (.tmp 9) 22 5 (.int .u8 0) 1 rfl Try.underlying22 info_u8 rfl (by decide) (by omega) u xs v [.int .u8 v] (fun k => k ≠ g) (fun _ => False) rfl rfl ?aP (fun _ hk => hk.elim) ?aF ?aO ?aB ?aS ?aL ?_; (case aP => exact rfl); (case aF => exact fun k hk => by have := HG.out; omega); (case aO => exact HR.out); (case aB => exact Below.refl _ _); (case aS => have := HG.out; have := HB0.out; omega); (case aL => have := HL.out; omega); intro v1 w1 ho hbe hg hat; obtain ⟨A1, k1, rfl, _, _⟩ := Kd.R_reads ho; have HO := Aside0.mk ho; have HB1 := Aside0.mk hbe; have HBL1 := Aside0.mk (blk_grown HBL.out hg (fun e => HR.out.1 g e.symm rfl)); have c1 := (blk_cell HBL1.out 0).trans (show _ = some u from rfl); have f1 := blk_frozen HBL1.out 0; clear ho hbe hg hat)
  go_end0
  refine ⟨rfl, ⟨HB0.out, _, by simpa using blk_set HBL1.out 0 _, Kd.R_far HO.out (fun k hk => hk) _⟩, HB1.out.setCell (p := ⟨g, 0, none⟩) HB0.out _⟩

set_option maxHeartbeats 4000000 in
/-- regroup from 6 to 8 bits, over the collector of bytes. -/
theorem regroup_dec (B g : Nat) (A : Option Addr) (c : Nat) (vs : List Int) (w : World) (hC : Kd.C (Kd.int .i64) w A vs.length vs) (hv : ∀ v ∈ vs, 0 ≤ v ∧ v < 64) (hA : ∀ ad, A = some ad → ad.block < B)
    (h : IsOut B g ([]) w) (hB : B ≤ w.heap.size) (hl : vs.length ≤ 17592186044416) :
    Calls Try.prog 18 #[.slice A vs.length c, .int .i64 6, .int .i64 8, .func (.func 22) #[] #[.pointer (some ⟨g, 0, none⟩)]] w fun e w' =>
      e = .returned (.tuple #[]) ∧ IsOut B g (((rg 6 8 vs 0 0).filter (·.2)).map (·.1)) w' ∧ Below B w w' := by
  have HC := Aside0.mk hC
  have HV := Aside0.mk hv
  have HA := Aside0.mk hA
  have HL := Aside0.mk hl
  have HI := Aside0.mk h
  have HS := Aside0.mk hB
  clear hC hv hA h hB hl
  go_enter Try.func18, Try.ntmps18
  go_wp2
  go_loopg [8, 9, 11, 14] vs.length (fun kq v8 v9 v11 v14 w' => ∃ (acc n j : Int) (es : List (Int × Bool)), v8 = .int .i64 acc ∧ v9 = .int .i64 n ∧ v14 = .int .i64 j ∧
    Aside0 (0 ≤ j ∧ (kq : Int) + j = vs.length ∧ 0 ≤ n ∧ n < 8 ∧ 0 ≤ acc ∧ acc < 2 ^ n.toNat ∧ es ++ rg 6 8 (vs.drop j.toNat) acc n.toNat = rg 6 8 vs 0 0 ∧ es.length ≤ 2 * j.toNat) ∧
    Aside0 (IsOut B g ((es.filter (·.2)).map (·.1)) w') ∧ Aside0 (Below B w w'))
  case atStart => exact ⟨0, 0, 0, [], rfl, rfl, rfl, ⟨⟨by omega, by omega, by omega, by omega, by omega, by decide, rfl, by simp⟩⟩, HI, ⟨Below.refl _ _⟩⟩
  case round =>
    obtain ⟨acc, n, j, es, rfl, rfl, rfl, HR, HBu, HBe⟩ := hrel
    have hj0 : 0 ≤ j := HR.out.1
    have hn0 : 0 ≤ n := HR.out.2.2.1
    have hn6 : n < 8 := HR.out.2.2.2.1
    have ha0 : 0 ≤ acc := HR.out.2.2.2.2.1
    have ha1 : acc < 256 := Int.lt_of_lt_of_le HR.out.2.2.2.2.2.1 (show (2 : Int) ^ n.toNat ≤ 2 ^ 8 from pow_le _ _ (by omega))
    have hjm : j ≤ 17592186044416 := by have := HL.out; have := HR.out; omega
    by_cases c1 : j < vs.length
    · have d1 : decide (j < (vs.length : Int)) = true := decide_eq_true c1
      obtain ⟨ad, rfl, hx⟩ := Kd.at_int HC.out j hj0 c1
      have hx2 : wr.cell? (ad.add j.toNat) = some (.int .i64 (rd vs j)) := (HBe.out.cell (p := ad.add j.toNat) (by
        have h1 := HA.out ad rfl
        have h2 : (ad.add j.toNat).block = ad.block := by unfold Addr.add; split <;> rfl
        omega)).trans hx
      obtain ⟨v, hve⟩ : ∃ v, v = rd vs j := ⟨_, rfl⟩
      have hvb : 0 ≤ v ∧ v < 64 := by
        rw [hve]
        refine HV.out _ ?_
        unfold rd
        rw [List.getD_eq_getElem?_getD, List.getElem?_eq_getElem (show j.toNat < vs.length by omega)]
        exact List.getElem_mem _
      rw [← hve] at hx2
      obtain ⟨hv0, hv1⟩ := hvb
      have hor : bits .or .i64 (acc * 64) v = acc * 64 + v := or_low acc v 6 64 rfl ha0 (by omega) hv0 hv1 (by decide)
      have HVE := Aside0.mk (show vs.drop j.toNat = v :: vs.drop (j.toNat + 1) from by
        rw [List.drop_eq_getElem_cons (show j.toNat < vs.length by omega)]
        congr 1
        rw [hve]
        unfold rd
        rw [List.getD_eq_getElem?_getD, List.getElem?_eq_getElem (show j.toNat < vs.length by omega)]
        rfl)
      clear hve hx
      have HA1 := Aside0.mk (show acc * 64 + v < 2 ^ (n.toNat + 6) from by
        rw [Int.pow_add, show (2 : Int) ^ 6 = 64 from rfl]
        have := HR.out.2.2.2.2.2.1
        generalize (2 : Int) ^ n.toNat = q at this ⊢
        omega)
      go_wp2
      go_loopg [8, 9] 16 (fun kq v8 v9 w' => ∃ (a m : Int) (xs : List Int), v8 = .int .i64 a ∧ v9 = .int .i64 m ∧
        Aside0 (0 ≤ m ∧ m ≤ kq ∧ 0 ≤ a ∧ a < 2 ^ m.toNat ∧ m ≤ 13 ∧ xs ++ (drn 8 kq a m.toNat).1 = (drn 8 16 (acc * 64 + v) (n.toNat + 6)).1 ∧ (drn 8 kq a m.toNat).2 = (drn 8 16 (acc * 64 + v) (n.toNat + 6)).2 ∧ xs.length * 8 + m ≤ 13) ∧
        Aside0 (IsOut B g (((es ++ xs.map fun x => (x, true)).filter (·.2)).map (·.1)) w') ∧ Aside0 (Below B w w'))
      case atStart =>
        refine ⟨acc * 64 + v, n + 6, [], rfl, rfl, ⟨⟨by omega, by omega, by omega, ?_, by omega, ?_, ?_, by simp; omega⟩⟩, ⟨by simpa using HBu.out⟩, HBe⟩
        all_goals rw [show (n + 6).toNat = n.toNat + 6 from by omega]
        · exact HA1.out
        · rfl
      case round =>
        obtain ⟨a, m, xs, rfl, rfl, HR2, HBu2, HBe2⟩ := hrel
        have hm0 : 0 ≤ m := HR2.out.1
        have hm1 : m ≤ 13 := HR2.out.2.2.2.2.1
        have hea0 : 0 ≤ a := HR2.out.2.2.1
        have hea1 : a < 8192 := Int.lt_of_lt_of_le HR2.out.2.2.2.1 (show (2 : Int) ^ m.toNat ≤ 2 ^ 13 from pow_le _ _ (by omega))
        by_cases c2 : 8 ≤ m
        · have d2 : decide (8 ≤ m) = true := decide_eq_true c2
          obtain ⟨f, rfl⟩ : ∃ f, gk = f + 1 := ⟨gk - 1, by have := HR2.out.2.1; omega⟩
          have hmt : (m - 8).toNat = m.toNat - 8 := by omega
          have hp : (0 : Int) < 2 ^ (m - 8).toNat := Int.pow_pos (by decide)
          have hq : (2 : Int) ^ (m - 8).toNat ≤ 2 ^ 7 := pow_le _ _ (by omega)
          have hq2 : (2 : Int) ^ (m - 8).toNat ≤ 128 := hq
          have he0 : 0 ≤ a / 2 ^ (m - 8).toNat := Int.ediv_nonneg hea0 (by omega)
          have he1 : a / 2 ^ (m - 8).toNat < 256 := by
            refine Int.ediv_lt_of_lt_mul hp ?_
            rw [show (256 : Int) = 2 ^ 8 from rfl, ← Int.pow_add, hmt, show 8 + (m.toNat - 8) = m.toNat from by omega]
            exact HR2.out.2.2.2.1
          have hstep := drn_step (tw := 8) (f := f) (n := m.toNat) (a := a) (by omega)
          rw [← hmt] at hstep
          have hand : bits .and .i64 a (2 ^ (m - 8).toNat - 1) = a % 2 ^ (m - 8).toNat := and_low a (m - 8).toNat _ rfl hea0 (by omega) (by omega)
          have HST := Aside0.mk hstep
          have HMT := Aside0.mk hmt
          have HEM := Aside0.mk (And.intro (Int.emod_nonneg a (show (2 : Int) ^ (m - 8).toNat ≠ 0 from by omega)) (Int.emod_lt_of_pos a hp))
          clear hstep hmt hq
          go_wp2_with fail
          refine (emit_dec_yes B g _ _ _ HBu2.out he0 he1 (by have h1 := HR.out.2.2.2.2.2.2.2; have h2 := HR2.out.2.2.2.2.2.2.2; have h3 := List.length_filter_le (fun p : Int × Bool => p.2) (es ++ xs.map fun x => (x, true)); rw [List.length_append, List.length_map] at h3; rw [List.length_map]; omega)).mono ?_
          rintro e w1 ⟨rfl, hb1, hbe1⟩
          have HBu3 := Aside0.mk hb1
          have HBe3 := Aside0.mk (HBe2.out.trans hbe1)
          clear hb1 hbe1
          go_wp2
          go_roundg f
          case measure => omega
          case rel =>
            refine ⟨a % 2 ^ (m - 8).toNat, m - 8, xs ++ [a / 2 ^ (m - 8).toNat], rfl, rfl, ⟨?_⟩, ⟨?_⟩, HBe3⟩
            · have h := HR2.out
              rw [HST.out] at h
              refine ⟨by omega, by omega, HEM.out.1, HEM.out.2, by omega, ?_, h.2.2.2.2.2.2.1, ?_⟩
              · rw [← h.2.2.2.2.2.1]
                simp
              · rw [List.length_append, List.length_singleton]
                have := h.2.2.2.2.2.2.2
                omega
            · have h := HBu3.out
              simpa using h
        · have d2 : decide (8 ≤ m) = false := decide_eq_false c2
          have hm6 : m < 8 := by omega
          have hdone := drn_done (tw := 8) (f := gk) (n := m.toNat) (a := a) (by omega)
          have HD := Aside0.mk hdone
          clear hdone c2
          go_wp2
          go_roundg (vs.length - (j + 1).toNat)
          case measure => have := HR.out; omega
          case rel =>
            have h := HR2.out
            rw [HD.out] at h
            refine ⟨a, m, j + 1, es ++ xs.map fun x => (x, true), rfl, rfl, rfl, ⟨⟨by omega, by omega, by omega, by have := h.2.2.2.2.2.2.2; omega, h.2.2.1, h.2.2.2.1, ?_, ?_⟩⟩, HBu2, HBe2⟩
            · rw [← HR.out.2.2.2.2.2.2.1, HVE.out, rg, show (2 : Int) ^ 6 = 64 from rfl, ← h.2.2.2.2.2.2.1, ← h.2.2.2.2.2.1]
              simp [show (j + 1).toNat = j.toNat + 1 from by omega]
            · rw [List.length_append, List.length_map]
              have := HR.out.2.2.2.2.2.2.2
              have := h.2.2.2.2.2.2.2
              omega
    · have d1 : decide (j < (vs.length : Int)) = false := decide_eq_false c1
      have hd : vs.drop j.toNat = [] := List.drop_eq_nil_of_le (by omega)
      have HD := Aside0.mk hd
      clear hd c1
      by_cases c3 : 0 < n
      · have d3 : decide (0 < n) = true := decide_eq_true c3
        have he0 : 0 ≤ acc * 2 ^ (8 - n).toNat := Int.mul_nonneg ha0 (Int.le_of_lt (Int.pow_pos (by decide)))
        have he1 : acc * 2 ^ (8 - n).toNat < 256 := by
          have h1 := HR.out.2.2.2.2.2.1
          have hp : (0 : Int) < 2 ^ (8 - n).toNat := Int.pow_pos (by decide)
          have h2 := Int.mul_lt_mul_of_pos_right h1 hp
          rw [← Int.pow_add, show n.toNat + (8 - n).toNat = 8 from by omega] at h2
          exact h2
        have HTN := Aside0.mk (show (8 - n).toNat = 8 - n.toNat from by omega)
        go_wp2_with fail
        refine (emit_dec_no B g _ _ _ HBu.out).mono ?_
        rintro e w1 ⟨rfl, hb1, hbe1⟩
        have HBu3 := Aside0.mk hb1
        have HBe3 := Aside0.mk (HBe.out.trans hbe1)
        clear hb1 hbe1
        go_wp2
        go_end0
        refine ⟨rfl, ?_, HBe3.out⟩
        rw [← HR.out.2.2.2.2.2.2.1, HD.out, rg, if_pos (by omega), ← HTN.out]
        simpa using HBu3.out
      · have d3 : decide (0 < n) = false := decide_eq_false c3
        go_wp2
        go_end0
        refine ⟨rfl, ?_, HBe.out⟩
        rw [← HR.out.2.2.2.2.2.2.1, HD.out, rg, if_neg (by omega), List.append_nil]
        exact HBu.out

end Go.Proofs.Ytododekidopkhaa.HBase
