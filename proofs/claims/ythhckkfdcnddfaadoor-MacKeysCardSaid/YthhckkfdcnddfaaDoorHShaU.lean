/- The digest of bytes: the closure of sha.Sum. -/
import Derived.Test.YthhckkfdcnddfaaDoorHShaP
namespace Go.Proofs.YthhckkfdcnddfaaDoor.HShaU
open Go.RowKit Go.Proofs.YthhckkfdcnddfaaDoorW.PrintWords Go.Proofs.YthhckkfdcnddfaaDoorW.PrintMore Go.Proofs.YthhckkfdcnddfaaDoor.HLib Go.Proofs.YthhckkfdcnddfaaDoor.HSha Go.Proofs.YthhckkfdcnddfaaDoor.HShaR Go.Proofs.YthhckkfdcnddfaaDoor.HShaS Go.Proofs.YthhckkfdcnddfaaDoor.HShaP
set_option linter.unusedVariables false
set_option linter.unusedSimpArgs false

theorem load_ev {P : Program} {ops : Array Oper} {rest : List Oper} {o : Oper} {a : Act} {Q : Exit → Act → World → Prop} {W : World} (hgd : o.guard = none) {t : TypeId} {p : Operand} {v : Value} (ho : o.op = .load t p) (hr : (Instr.loadAt t (a.eval p)).run P W = .ok v W) (h : wpList P ops Q rest (a.put o.dst v) W) : wpList P ops Q (o :: rest) a W :=
  Kd.event_run hgd (by simp [execOp, ho, hr, Result.andThen]) h
theorem arr_load {P : Program} {w : World} {g : Nat} {k : IntKind} {t : TypeId} {xs : List Int} (h : IsArr w g k t xs) {d : TypeDesc} (hu : P.underlying t = some d) (hd : (match d with | .struct _ | .array _ _ => true | _ => false) = true) (hi : (P.info? t).map (·.size) = some xs.length) :
    (Instr.loadAt t (.pointer (some ⟨g, 0, none⟩))).run P w = .ok (.agg (nums k xs).toArray) w := by
  simp only [Instr.loadAt, Instr.sureAddr, Sem.run_bind, Sem.run_pure, Result.andThen_ok]
  exact run_loadVar_row w g t t _ (0, 0) d h hu hd (by rw [hi]; simp [nums])
theorem arr_store {P : Program} {w : World} {g : Nat} {k : IntKind} {t : TypeId} {xs ys : List Int} (h : IsArr w g k t xs) (hi : (P.info? t).map (·.size) = some xs.length) (hl : ys.length = xs.length) :
    (Instr.storeAt t (.pointer (some ⟨g, 0, none⟩)) (.agg (nums k ys).toArray)).run P w = .ok () (w.setRow g (nums k ys).toArray) := by
  simp only [Instr.storeAt, Instr.sureAddr, Sem.run_bind, Sem.run_pure, Result.andThen_ok]
  exact run_storeVar_row w g t t _ _ h (by rw [hi]; simp [nums, hl]) (by simp [nums, hl]) (by simp [nums, Value.oneCell'])
theorem arr_row {w : World} {g : Nat} {k : IntKind} {t : TypeId} {xs : List Int} (h : IsArr w g k t xs) (ys : List Int) : IsArr (w.setRow g (nums k ys).toArray) g k t ys := setRow_heap w g _ _ t (0, 0) h
theorem arr_rowfar {w : World} {g : Nat} {k : IntKind} {t : TypeId} {xs : List Int} (h : IsArr w g k t xs) {q : Nat} (hq : g ≠ q) (cs : Array Value) : IsArr (w.setRow q cs) g k t xs := (setRow_other w q g cs hq).trans h
theorem below_row {B : Nat} {w0 w : World} (h : Below B w0 w) {g : Nat} (hg : B ≤ g) (cs : Array Value) : Below B w0 (w.setRow g cs) :=
  ⟨h.os, h.tape, h.output, by rw [setRow_size]; exact h.size, fun k hk => (setRow_other w g k cs (by omega)).trans (h.block k hk)⟩
/-- A value that is read as bytes (what a nil one has for a capacity is not told). -/
def Bv (w : World) (v : Value) (xs : List Int) : Prop := ∃ A c, v = .slice A xs.length c ∧ xs.length ≤ c ∧ Kd.C (Kd.int .u8) w A xs.length xs
theorem Bs.bv {w : World} {v : Value} {xs : List Int} (h : Bs w v xs) : Bv w v xs := by obtain ⟨A, c, e, h1, h2, _⟩ := h; exact ⟨A, c, e, h1, h2⟩
theorem Bv.below {w w1 : World} {v : Value} {xs : List Int} (h : Bv w v xs) (hb : Below w.heap.size w w1) : Bv w1 v xs := by
  obtain ⟨A, c, e, hc, hC⟩ := h
  exact ⟨A, c, e, hc, Kd.C_below hC hb⟩
theorem bs_row_far {w : World} {v : Value} {xs : List Int} (h : Bv w v xs) (g : Nat) (cs : Array Value) (hne : ∀ ad n c, v = .slice (some ad) n c → 0 < n → ad.block ≠ g) : Bv (w.setRow g cs) v xs := by
  obtain ⟨A, c, rfl, hc, hC⟩ := h
  refine ⟨A, c, rfl, hc, Kd.C_of_reads (d := (0 : Int)) (readsInt_of.1 (ReadsInt.keep (g := g) (readsInt_of.2 (Kd.reads_of_C (d := (0 : Int)) hC)) (W := w.setRow g cs) ⟨by rw [setRow_size]; exact Nat.le_refl _, fun i _ hi _ => setRow_other w g i cs hi⟩ (fun ad e hq => hne ad _ _ (by rw [e]) hq)))⟩
theorem bs_far {w : World} {v : Value} {xs : List Int} (h : Bv w v xs) (g j : Nat) (u : Value) (hne : ∀ ad n c, v = .slice (some ad) n c → 0 < n → ad.block ≠ g) : Bv (w.setCell ⟨g, j, none⟩ u) v xs := by
  obtain ⟨A, c, rfl, hc, hC⟩ := h
  exact ⟨A, c, rfl, hc, Kd.C_of_reads (d := (0 : Int)) (readsInt_of.1 (ReadsInt.keep (g := g) (readsInt_of.2 (Kd.reads_of_C (d := (0 : Int)) hC)) ((KeepBut.refl w g none).set_ j u) (fun ad e hq => hne ad _ _ (by rw [e]) hq)))⟩
theorem arr_lt {w : World} {g : Nat} {k : IntKind} {t : TypeId} {xs : List Int} (h : IsArr w g k t xs) : g < w.heap.size := blk_lt h
theorem glob_below {w w1 : World} {B : Nat} (h : Glob w) (hB : 0 < B) (hb : Below B w w1) : Glob w1 := ⟨Nat.lt_of_lt_of_le h.1 hb.size, fun i hi => (hb.cell (p := ⟨0, i, none⟩) hB).trans (h.2 i hi)⟩

abbrev Sta := List Int × List Int × Int
def stepP (a : Sta) (c : Int) : Sta :=
  (if (a.2.2 + 1) % 64 = 0 then blockP a.1 (a.2.1.set (a.2.2 % 64).toNat c) else a.1, a.2.1.set (a.2.2 % 64).toNat c, a.2.2 + 1)
def feed (a : Sta) (bs : List Int) : Sta := bs.foldl stepP a
def OkU (a : Sta) : Prop := a.1.length = 8 ∧ a.2.1.length = 64 ∧ (∀ x ∈ a.2.1, 0 ≤ x ∧ x < 256) ∧ 0 ≤ a.2.2
theorem blockP_len (st bl : List Int) (h : st.length = 8) : (blockP st bl).length = 8 := addst_len _ st (rounds_len _ _ h _) h
theorem set_byte (bl : List Int) (h : ∀ x ∈ bl, 0 ≤ x ∧ x < 256) (i : Nat) (c : Int) (hc : 0 ≤ c ∧ c < 256) : ∀ x ∈ bl.set i c, 0 ≤ x ∧ x < 256 := by
  intro x hx
  rcases List.mem_or_eq_of_mem_set hx with h1 | h1
  · exact h x h1
  · rw [h1]; exact hc
theorem step_ok (a : Sta) (c : Int) (h : OkU a) (hc : 0 ≤ c ∧ c < 256) : OkU (stepP a c) := by
  obtain ⟨h1, h2, h3, h4⟩ := h
  refine ⟨?_, ?_, set_byte _ h3 _ _ hc, ?_⟩
  · unfold stepP
    dsimp only
    split
    · exact blockP_len _ _ h1
    · exact h1
  · show (a.2.1.set _ c).length = 64
    rw [List.length_set]; exact h2
  · show 0 ≤ a.2.2 + 1
    omega
theorem feed_ok (bs : List Int) : ∀ a : Sta, OkU a → (∀ x ∈ bs, 0 ≤ x ∧ x < 256) → OkU (feed a bs) := by
  induction bs with
  | nil => exact fun a h _ => h
  | cons c bs ih => exact fun a h hb => ih _ (step_ok a c h (hb c (List.mem_cons_self ..))) (fun x hx => hb x (List.mem_cons_of_mem _ hx))
theorem feed_n (bs : List Int) : ∀ a : Sta, (feed a bs).2.2 = a.2.2 + bs.length := by
  induction bs with
  | nil => exact fun a => by simp [feed]
  | cons c bs ih =>
      intro a
      show (feed (stepP a c) bs).2.2 = _
      rw [ih]
      show a.2.2 + 1 + _ = _
      rw [List.length_cons]; omega
theorem feed_append (a : Sta) (xs ys : List Int) : feed a (xs ++ ys) = feed (feed a xs) ys := by simp [feed]
theorem feed_take (a : Sta) (bs : List Int) (j : Nat) (h : j < bs.length) : feed a (bs.take (j + 1)) = stepP (feed a (bs.take j)) (bs.getD j 0) := by
  rw [List.take_add_one, feed_append, List.getElem?_eq_getElem h, List.getD_eq_getElem?_getD, List.getElem?_eq_getElem h]
  rfl

def InvU (w : World) (gb gn gs : Nat) (a : Sta) : Prop := IsArr w gb .u8 41 a.2.1 ∧ IsArr w gn .i64 3 [a.2.2] ∧ IsArr w gs .u32 47 a.1
theorem size_bl : (Tryd.prog.info? 41).map (·.size) = some 64 := by kernel_rfl
theorem rd_bytes {bs : List Int} (h : ∀ x ∈ bs, 0 ≤ x ∧ x < 256) (j : Int) (h0 : 0 ≤ j) (h1 : j < bs.length) : 0 ≤ rd bs j ∧ rd bs j < 256 := by
  refine h _ ?_
  unfold rd
  rw [List.getD_eq_getElem?_getD, List.getElem?_eq_getElem (show j.toNat < bs.length by omega)]
  exact List.getElem_mem _

set_option maxHeartbeats 4000000 in
theorem add_any (w : World) (B : Nat) (v : Value) (bs : List Int) (gb gn gs : Nat) (a : Sta) (hv : Bv w v bs) (hby : ∀ x ∈ bs, 0 ≤ x ∧ x < 256) (hI : InvU w gb gn gs a) (hok : OkU a) (hn : a.2.2 + bs.length < 4611686018427387904) (hG : Glob w) (hB0 : 0 < B) (hBb : B ≤ gb) (hBn : B ≤ gn) (hBs : B ≤ gs)
    (h12 : gb ≠ gn) (h13 : gb ≠ gs) (h23 : gn ≠ gs) (hne : ∀ ad n c, v = .slice (some ad) n c → 0 < n → ad.block ≠ gb ∧ ad.block ≠ gn ∧ ad.block ≠ gs) :
    Calls Tryd.prog 24 #[v, .pointer (some ⟨gb, 0, none⟩), .pointer (some ⟨gn, 0, none⟩), .pointer (some ⟨gs, 0, none⟩)] w fun e w' => e = .returned (.tuple #[]) ∧ InvU w' gb gn gs (feed a bs) ∧ Below B w w' := by
  have hv' := hv
  obtain ⟨A, c, rfl, hc, hC⟩ := hv'
  have HV := Aside0.mk hv
  have HBY := Aside0.mk hby
  have HI0 := Aside0.mk hI
  have HOK := Aside0.mk hok
  have HN := Aside0.mk hn
  have HG := Aside0.mk hG
  have HB := Aside0.mk (And.intro hB0 (And.intro hBb (And.intro hBn hBs)))
  have HD := Aside0.mk (And.intro h12 (And.intro h13 h23))
  have HNE := Aside0.mk hne
  clear hv hby hI hok hn hG hB0 hBb hBn hBs hne hc hC h12 h13 h23
  go_enter Tryd.func24, Tryd.ntmps24
  go_wp2
  go_loopg [6, 9] bs.length (fun kq v6 v9 w' => ∃ (j : Int), v9 = .int .i64 j ∧ Aside0 (0 ≤ j ∧ (kq : Int) + j = bs.length) ∧ Aside0 (InvU w' gb gn gs (feed a (bs.take j.toNat))) ∧ Aside0 (Bv w' (.slice A bs.length c) bs) ∧ Aside0 (Below B w w'))
  case atStart => exact ⟨0, rfl, ⟨⟨by omega, by omega⟩⟩, ⟨by rw [show (0 : Int).toNat = 0 from rfl, List.take_zero]; exact HI0.out⟩, HV, ⟨Below.refl _ _⟩⟩
  case round =>
    obtain ⟨j, rfl, HA, HI, HR, HBW⟩ := hrel
    have hj0 := HA.out.1
    have hjm : j < 4611686018427387904 := by have := HA.out; have := HN.out; have := HOK.out.2.2.2; omega
    by_cases c1 : j < bs.length
    · have d1 : decide (j < (bs.length : Int)) = true := decide_eq_true c1
      have HS := Aside0.mk (feed_take a bs j.toNat (by omega))
      have HOK1 := Aside0.mk (feed_ok (bs.take j.toNat) a HOK.out (fun x hx => HBY.out x (List.mem_of_mem_take hx)))
      have HN1 := Aside0.mk (feed_n (bs.take j.toNat) a)
      obtain ⟨F, hF⟩ : ∃ x, x = feed a (bs.take j.toNat) := ⟨_, rfl⟩
      rw [← hF] at HI HS HOK1 HN1
      obtain ⟨st, bl, n⟩ := F
      obtain ⟨x, hx⟩ : ∃ x, x = rd bs j := ⟨_, rfl⟩
      have hxb := rd_bytes HBY.out j hj0 c1
      rw [← hx] at hxb
      have HXB := Aside0.mk hxb
      rw [show bs.getD j.toNat 0 = x from hx.symm] at HS
      obtain ⟨A', c', hvv, _, hC⟩ := HR.out
      injection hvv with q1 q2 q3
      subst q1 q3
      obtain ⟨ad, rfl, hcx⟩ := Kd.at_int hC j hj0 c1
      rw [← hx] at hcx
      have hadd : ∀ k : Nat, (ad.add k).block = ad.block := fun k => by unfold Addr.add; split <;> rfl
      have hn0 : 0 ≤ n := HOK1.out.2.2.2
      have hlt : n < 4611686018427387904 := by
        have h1 : n = a.2.2 + _ := HN1.out
        rw [List.length_take] at h1
        have := HN.out
        omega
      have en : wr.cell? ⟨gn, 0, none⟩ = some (.int .i64 n) := HI.out.2.1.cell 0 (by omega) (by simp)
      have fn := HI.out.2.1.frozen 0
      have hm0 : 0 ≤ n % 64 := by omega
      have hm1 : n % 64 < 64 := by omega
      have eb := HI.out.1.cell (n % 64) hm0 (by rw [HOK1.out.2.1]; exact hm1)
      have fb := HI.out.1.frozen (n % 64).toNat
      have h12 : gb ≠ gn := HD.out.1
      have h13 : gb ≠ gs := HD.out.2.1
      have h23 : gn ≠ gs := HD.out.2.2
      have HW1n := Aside0.mk (HI.out.2.1.far (p := ⟨gb, (n % 64).toNat, none⟩) h12.symm (.int .u8 x))
      have HW1b := Aside0.mk (HI.out.1.put (n % 64).toNat x)
      have HW1s := Aside0.mk (HI.out.2.2.far (p := ⟨gb, (n % 64).toNat, none⟩) h13.symm (.int .u8 x))
      have en1 : (wr.setCell ⟨gb, (n % 64).toNat, none⟩ (.int .u8 x)).cell? ⟨gn, 0, none⟩ = some (.int .i64 n) := HW1n.out.cell 0 (by omega) (by simp)
      have fn1 := HW1n.out.frozen 0
      have HW2n := Aside0.mk (HW1n.out.put 0 (n + 1))
      have HW2b := Aside0.mk (HW1b.out.far (p := ⟨gn, 0, none⟩) h12 (.int .i64 (n + 1)))
      have HW2s := Aside0.mk (HW1s.out.far (p := ⟨gn, 0, none⟩) h23.symm (.int .i64 (n + 1)))
      have en2 : ((wr.setCell ⟨gb, (n % 64).toNat, none⟩ (.int .u8 x)).setCell ⟨gn, 0, none⟩ (.int .i64 (n + 1))).cell? ⟨gn, 0, none⟩ = some (.int .i64 (n + 1)) := HW2n.out.cell 0 (by omega) (by simp)
      have HNE2 := Aside0.mk (show ∀ ad' n' c', (Value.slice (some ad) bs.length c) = .slice (some ad') n' c' → 0 < n' → ad'.block ≠ gb ∧ ad'.block ≠ gn ∧ ad'.block ≠ gs from HNE.out)
      have HR2 := Aside0.mk (bs_far (bs_far HR.out gb (n % 64).toNat (.int .u8 x) (fun a b c h q => (HNE2.out a b c h q).1)) gn 0 (.int .i64 (n + 1)) (fun a b c h q => (HNE2.out a b c h q).2.1))
      have HB2 := Aside0.mk ((HBW.out.setCell (p := ⟨gb, (n % 64).toNat, none⟩) HB.out.2.1 (.int .u8 x)).setCell (p := ⟨gn, 0, none⟩) HB.out.2.2.1 (.int .i64 (n + 1)))
      have HOK2 := Aside0.mk (step_ok _ x HOK1.out hxb)
      clear hF hx hxb hC h12 h13 h23
      obtain ⟨W2, hW2⟩ : ∃ W, W = (wr.setCell ⟨gb, (n % 64).toNat, none⟩ (.int .u8 x)).setCell ⟨gn, 0, none⟩ (.int .i64 (n + 1)) := ⟨_, rfl⟩
      have HW2 := Aside0.mk hW2
      by_cases c2 : (n + 1) % 64 = 0
      · have d2 : ((n + 1) % 64 == 0) = true := by simpa using c2
        have C2 := Aside0.mk c2
        clear c2 hW2
        have HL1 := Aside0.mk (arr_load (P := Tryd.prog) HW2s.out Tryd.underlying47 rfl (by rw [size_st, HOK1.out.1]))
        have HL2 := Aside0.mk (arr_load (P := Tryd.prog) HW2b.out Tryd.underlying41 rfl (by rw [size_bl, List.length_set, HOK1.out.2.1]))
        go_wp2_with (first | (refine load_ev (t := 47) (p := .tmp 3) rfl rfl HL1.out ?_) | (refine load_ev (t := 41) (p := .tmp 1) rfl rfl HL2.out ?_))
        have HGW : Glob ((wr.setCell ⟨gb, (n % 64).toNat, none⟩ (.int .u8 x)).setCell ⟨gn, 0, none⟩ (.int .i64 (n + 1))) := glob_below HG.out HB.out.1 HB2.out
        refine (block_any ((wr.setCell ⟨gb, (n % 64).toNat, none⟩ (.int .u8 x)).setCell ⟨gn, 0, none⟩ (.int .i64 (n + 1))) st (bl.set (n % 64).toNat x) HOK1.out.1 (by rw [List.length_set]; exact HOK1.out.2.1) (set_byte _ HOK1.out.2.2.1 _ _ HXB.out) HGW).mono ?_
        rintro e w1 ⟨rfl, hbe⟩
        have HBE := Aside0.mk hbe
        have HSL := Aside0.mk (show ((wr.setCell ⟨gb, (n % 64).toNat, none⟩ (.int .u8 x)).setCell ⟨gn, 0, none⟩ (.int .i64 (n + 1))).heap.size = wr.heap.size from by simp [World.setCell])
        have HA3s := Aside0.mk (HW2s.out.below hbe (arr_lt HW2s.out))
        have HA3n := Aside0.mk (HW2n.out.below hbe (arr_lt HW2n.out))
        have HA3b := Aside0.mk (HW2b.out.below hbe (arr_lt HW2b.out))
        have HST := Aside0.mk (arr_store (P := Tryd.prog) (ys := blockP st (bl.set (n % 64).toNat x)) HA3s.out (by rw [size_st, HOK1.out.1]) (by rw [blockP_len _ _ HOK1.out.1, HOK1.out.1]))
        clear hbe HGW
        go_wp2_with (refine store_event rfl (t := 47) (p := 3) (v := .tmp 24) rfl rfl (w1 := w1.setRow gs (nums .u32 (blockP st (bl.set (n % 64).toNat x))).toArray) ?hr ?_; (case hr => exact run_store_of rfl HST.out); intro w2 hw2; subst hw2)
        go_roundg (bs.length - (j + 1).toNat)
        case measure => have := HA.out; omega
        case rel =>
          refine ⟨j + 1, rfl, ⟨⟨by omega, by omega⟩⟩, ⟨?_⟩, ⟨bs_row_far (Bv.below HR2.out HBE.out) gs _ (fun a b c h q => (HNE2.out a b c h q).2.2)⟩, ⟨?_⟩⟩
          · rw [show (j + 1).toNat = j.toNat + 1 from by omega, HS.out]
            unfold stepP
            dsimp only
            rw [if_pos C2.out]
            exact ⟨arr_rowfar HA3b.out HD.out.2.1 _, arr_rowfar HA3n.out HD.out.2.2 _, arr_row HA3s.out _⟩
          · exact below_row (HB2.out.trans (HBE.out.mono (Nat.le_of_lt (Nat.lt_of_le_of_lt HB.out.2.1 (arr_lt HW2b.out))))) HB.out.2.2.2 _
      · have d2 : ((n + 1) % 64 == 0) = false := by simpa using c2
        have C2 := Aside0.mk c2
        clear c2 hW2
        go_wp2
        go_roundg (bs.length - (j + 1).toNat)
        case measure => have := HA.out; omega
        case rel =>
          refine ⟨j + 1, rfl, ⟨⟨by omega, by omega⟩⟩, ⟨?_⟩, HR2, HB2⟩
          rw [show (j + 1).toNat = j.toNat + 1 from by omega, HS.out]
          unfold stepP
          dsimp only
          rw [if_neg C2.out]
          exact ⟨HW2b.out, HW2n.out, HW2s.out⟩
    · have d1 : decide (j < (bs.length : Int)) = false := decide_eq_false c1
      have HE := Aside0.mk (show bs.take j.toNat = bs from List.take_of_length_le (by have := HA.out; omega))
      go_wp2
      go_end0
      rw [HE.out] at HI
      exact ⟨rfl, HI.out, HBW.out⟩

end Go.Proofs.YthhckkfdcnddfaaDoor.HShaU
