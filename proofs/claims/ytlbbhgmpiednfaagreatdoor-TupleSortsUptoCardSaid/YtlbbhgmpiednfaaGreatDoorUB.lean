/- tuple.Put. -/
import Derived.Test.YtlbbhgmpiednfaaGreatDoorUG
import Derived.Test.YtlbbhgmpiednfaaGreatDoorUI
import Derived.Laws.EntriesVeiled
namespace Go.Proofs.YtlbbhgmpiednfaaGreatDoor.HTupB
open Go.RowKit Go.Proofs.YtlbbhgmpiednfaaGreatDoorW.PrintWords Go.Proofs.YtlbbhgmpiednfaaGreatDoor.HLib Go.Proofs.YtlbbhgmpiednfaaGreatDoor.HGr Go.Proofs.YtlbbhgmpiednfaaGreatDoor.HErr Go.Proofs.YtlbbhgmpiednfaaGreatDoor.HNameP Go.Proofs.YtlbbhgmpiednfaaGreatDoor.HName Go.Proofs.YtlbbhgmpiednfaaGreatDoor.HTupP Go.Proofs.YtlbbhgmpiednfaaGreatDoor.HTupR Go.Proofs.YtlbbhgmpiednfaaGreatDoor.HTupX Go.Proofs.YtlbbhgmpiednfaaGreatDoor.HTupG Go.Proofs.YtlbbhgmpiednfaaGreatDoor.HPut
set_option linter.unusedVariables false
set_option linter.unusedSimpArgs false

def outp (t : Tp) (j : Nat) : List Int := (List.range j).flatMap fun i => encText (str t i)
theorem outp_succ (t : Tp) (j : Nat) : outp t (j + 1) = outp t j ++ encText (str t j) := by simp [outp, List.range_succ]
theorem outp_put (t : Tp) : outp t 6 = putP t := by
  simp [outp_succ, outp, putP, str, List.range_succ]
theorem enc_text_len {s : ByteArray} (h : s.size ≤ 128) : (encText s).length ≤ 138 := by
  unfold encText
  rw [List.length_append]
  have h1 := HWireS.enc_len10 s.size (by omega)
  have h2 : (bytesOf s).length = s.size := by simp [bytesOf]
  omega
theorem chk_size (t : Tp) (j : Nat) (h : chk t j = true) : (str t j).size ≤ 128 := by
  unfold chk str at *
  split at h
  · have := isP_size h; omega
  · have := idP_size h; omega
  · have := isP_size h; omega
  · have := isP_size h; omega
  · have := idP_size h; omega
  · have := opt_size h; omega
theorem outp_len (t : Tp) (h : ∀ j, (str t j).size ≤ 128) : ∀ j, (outp t j).length ≤ 138 * j
  | 0 => by simp [outp]
  | j + 1 => by
    rw [outp_succ, List.length_append]
    have := outp_len t h j
    have := enc_text_len (h j)
    omega
set_option maxRecDepth 20000 in
set_option maxHeartbeats 4000000 in
theorem put_wrong (t : Tp) (w : World) (hG : ResG w) (hr : rightP t = false) : Calls Tryz.prog 18 #[tvv t] w fun e w' => e = .returned (.tuple #[.slice none 0 0, .bool false]) ∧ Below w.heap.size w w' := by
  obtain ⟨W, hW⟩ : ∃ W, W = w.alloc (.cells #[.string t.a, .string t.b, .string t.c, .string t.d, .string t.e, .string t.f] 32) := ⟨_, rfl⟩
  have HB := Aside0.mk (show Below w.heap.size w W from by rw [hW]; exact below_alloc (B0 w) _)
  have hT : TupAt W w.heap.size t := by rw [hW]; exact tup_new w t
  have HR := Aside0.mk (right_any t W (hG.below HB.out hG.1))
  rw [hr] at HR
  clear hG hr
  obtain ⟨B, hB⟩ : ∃ B, B = w.heap.size := ⟨_, rfl⟩
  rw [← hB] at hT
  obtain ⟨a, b, c, d, e, f⟩ := t
  have c0 : W.cell? ⟨B, 0, none⟩ = some (.string a) := hT 0 (by decide)
  have c1 : W.cell? ⟨B, 1, none⟩ = some (.string b) := hT 1 (by decide)
  have c2 : W.cell? ⟨B, 2, none⟩ = some (.string c) := hT 2 (by decide)
  have c3 : W.cell? ⟨B, 3, none⟩ = some (.string d) := hT 3 (by decide)
  have c4 : W.cell? ⟨B, 4, none⟩ = some (.string e) := hT 4 (by decide)
  have c5 : W.cell? ⟨B, 5, none⟩ = some (.string f) := hT 5 (by decide)
  clear hT
  go_enter Tryz.func18, Tryz.ntmps18
  go_upto_region 1 with fail
  rw [← hW, ← hB]
  clear hW hB
  go_wp2_with fail
  refine HR.out.mono ?_
  rintro e w1 ⟨rfl, hg⟩
  have HG1 := Aside0.mk (below_step HB.out hg.below)
  clear hg c0 c1 c2 c3 c4 c5
  go_wp2
  go_ret2
  exact ⟨rfl, HG1.out⟩
set_option maxRecDepth 20000 in
set_option maxHeartbeats 4000000 in
theorem put_right (t : Tp) (w : World) (hG : ResG w) (hr : rightP t = true) : Calls Tryz.prog 18 #[tvv t] w fun e w' => ∃ v, e = .returned (.tuple #[v, .bool true]) ∧ Kd.R (Kd.int .u8) 5 w' w.heap.size (fun _ => True) v (putP t) ∧ Below w.heap.size w w' := by
  obtain ⟨W, hW⟩ : ∃ W, W = w.alloc (.cells #[.string t.a, .string t.b, .string t.c, .string t.d, .string t.e, .string t.f] 32) := ⟨_, rfl⟩
  have HB := Aside0.mk (show Below w.heap.size w W from by rw [hW]; exact below_alloc (B0 w) _)
  have hT : TupAt W w.heap.size t := by rw [hW]; exact tup_new w t
  have HG := Aside0.mk (show ResG W from hG.below HB.out hG.1)
  have HR := Aside0.mk (right_any t W HG.out)
  rw [hr] at HR
  have HSZ := Aside0.mk (show ∀ j, (str t j).size ≤ 128 from fun j => chk_size t j (by
    obtain ⟨r0, r1, r2, r3, r4, r5⟩ := (upto_right.rightP_iff' t).1 hr
    unfold chk
    split <;> assumption))
  clear hG hr
  obtain ⟨g, hg⟩ : ∃ g, g = w.heap.size := ⟨_, rfl⟩
  rw [← hg] at hT
  have HT := Aside0.mk hT
  have c0 : W.cell? ⟨g, 0, none⟩ = some (.string t.a) := hT 0 (by decide)
  have c1 : W.cell? ⟨g, 1, none⟩ = some (.string t.b) := hT 1 (by decide)
  have c2 : W.cell? ⟨g, 2, none⟩ = some (.string t.c) := hT 2 (by decide)
  have c3 : W.cell? ⟨g, 3, none⟩ = some (.string t.d) := hT 3 (by decide)
  have c4 : W.cell? ⟨g, 4, none⟩ = some (.string t.e) := hT 4 (by decide)
  have c5 : W.cell? ⟨g, 5, none⟩ = some (.string t.f) := hT 5 (by decide)
  clear hT
  go_enter Tryz.func18, Tryz.ntmps18
  go_upto_region 1 with fail
  rw [← hW, ← hg]
  clear hW hg
  go_wp2_with fail
  refine HR.out.mono ?_
  rintro e w1 ⟨rfl, hg⟩
  have HB1 := Aside0.mk (below_step HB.out hg.below)
  have HT1 := Aside0.mk (HT.out.gr hg)
  clear hg c0 c1 c2 c3 c4 c5 HB HT HG HR
  go_wp2_with fail
  refine (parts_any g w1).mono ?_
  rintro e w2 ⟨B, rfl, hB, hP, hg⟩
  have HB2 := Aside0.mk (below_step HB1.out hg.below)
  have HT2 := Aside0.mk (HT1.out.gr hg)
  have HP := Aside0.mk hP
  clear hg hB hP HB1 HT1
  rename World => w3
  go_wp2
  go_loopg [4, 6, 12] 6 (fun kq v4 v6 v12 w' => ∃ j : Nat, v12 = .int .i64 j ∧ Aside0 (kq + j = 6) ∧ Aside0 (Kd.R (Kd.int .u8) 5 w' w3.heap.size (fun _ => True) v4 (outp t j)) ∧ Aside0 (Below w3.heap.size w3 w'))
  case atStart => exact ⟨0, rfl, ⟨rfl⟩, ⟨Kd.R_nil _ _ _ _ _⟩, ⟨B0 _⟩⟩
  case round =>
    obtain ⟨j, rfl, HJ, HO, HW⟩ := hrel
    by_cases cj : j < 6
    · have f1 : decide (j < 6) = true := decide_eq_true cj
      have f2 : decide ((j : Int) < 6) = true := decide_eq_true (by omega)
      have f3 : (j : Int) < 6 := by omega
      have f4 : IntKind.i64.wrap ((j : Int) + 1) = (j : Int) + 1 := by rw [IntKind.wrap_i64]; omega
      obtain ⟨p1, p2, p3⟩ := parts_at (blk_below HP.out HW.out) j cj
      have s1 : wr.cell? ⟨g, j, none⟩ = some (.string (str t j)) := HT2.out.below HW.out j cj
      have HS := Aside0.mk (outp_succ t j)
      have HZ := Aside0.mk (HSZ.out j)
      have HZL := Aside0.mk (outp_len t HSZ.out j)
      generalize mov j = mo at p2
      generalize fnv j = fn at p3
      generalize str t j = s at s1 HS HZ
      obtain ⟨o, ho⟩ : ∃ o, o = outp t j := ⟨_, rfl⟩
      rw [← ho] at HO HS HZL
      clear ho
      have HEL := Aside0.mk (enc_text_len HZ.out)
      have HTX := Aside0.mk (fun (w : World) => text_any w s (by have := HZ.out; omega))
      obtain ⟨V, hV⟩ : ∃ V, V = wr.alloc (.cells #[.pointer (some ⟨g, j, none⟩), .int .i64 mo, .func (.func fn) #[] #[]] 74) := ⟨_, rfl⟩
      have HOV := Aside0.mk (show Kd.R (Kd.int .u8) 5 V w3.heap.size (fun _ => True) u4 o from by rw [hV]; exact Kd.R_alloc HO.out _)
      have HWV := Aside0.mk (show Below w3.heap.size w3 V from by rw [hV]; exact HW.out.alloc HW.out.size _)
      have hlt : g < wr.heap.size := cell_lt s1
      have hne : g ≠ wr.heap.size := Nat.ne_of_lt hlt
      go_wp2_with fail
      rw [← hV]
      clear hV hlt hne
      refine (HTX.out V).mono ?_
      rintro e w4 ⟨v1, rfl, hR, hb⟩
      obtain ⟨A1, k1, rfl⟩ := Kd.R_slice hR
      have HRD := Aside0.mk (readsInt_of.2 (Kd.reads_of_C (d := (0 : Int)) (Kd.R_reads' hR).2.2))
      have HOV2 := Aside0.mk (Kd.R_below HOV.out hb)
      have HWV2 := Aside0.mk (below_step HWV.out hb)
      clear hR hb p1 p2 p3 s1 HO HW HOV HWV
      go_wp2_with (at_builtin; refine print_append_row (w0 := w3) w3.heap.size rfl (.tmp 16) (.tmp 21) 36 5 .u8 1 rfl Tryz.underlying36 info_u8 (by decide) u4 o (encText s) A1 _ k1 rfl rfl ?aO ?aR ?aB ?aS ?aL ?_; (case aO => exact Kd.own_of_R HOV2.out); (case aR => exact HRD.out); (case aB => exact HWV2.out); (case aS => exact HWV2.out.size); (case aL => have h1 := HZL.out; have h2 := HEL.out; omega); intro v2 w2 ho hb hg hat; have HO2 := Aside0.mk ho; have HB3 := Aside0.mk hb; clear ho hb hg hat)
      go_roundg (6 - (j + 1))
      case measure => have := HJ.out; omega
      case rel => exact ⟨j + 1, rfl, ⟨by have := HJ.out; omega⟩, ⟨by rw [HS.out]; exact Kd.R_of_own (h1 := fun _ => rfl) HO2.out (fun _ _ => trivial)⟩, HB3⟩
    · obtain rfl : j = 6 := by have := HJ.out; omega
      rw [outp_put] at HO
      have HF := Aside0.mk (show Kd.R (Kd.int .u8) 5 wr w.heap.size (fun _ => True) u4 (putP t) from Kd.R_lower HO.out HB2.out.size)
      have HBF := Aside0.mk (below_step HB2.out HW.out)
      go_wp2
      go_ret2
      exact ⟨_, rfl, HF.out, HBF.out⟩
end Go.Proofs.YtlbbhgmpiednfaaGreatDoor.HTupB
/- tuple.peek. -/
namespace Go.Proofs.YtlbbhgmpiednfaaGreatDoor.HTupI
open Go.RowKit Go.Proofs.YtlbbhgmpiednfaaGreatDoorW.PrintWords Go.Proofs.YtlbbhgmpiednfaaGreatDoor.HLib Go.Proofs.YtlbbhgmpiednfaaGreatDoor.HGr Go.Proofs.YtlbbhgmpiednfaaGreatDoor.HErr Go.Proofs.YtlbbhgmpiednfaaGreatDoor.HNameP Go.Proofs.YtlbbhgmpiednfaaGreatDoor.HName Go.Proofs.YtlbbhgmpiednfaaGreatDoor.HTupP Go.Proofs.YtlbbhgmpiednfaaGreatDoor.HTupR Go.Proofs.YtlbbhgmpiednfaaGreatDoor.HTupX Go.Proofs.YtlbbhgmpiednfaaGreatDoor.HTupG Go.Proofs.YtlbbhgmpiednfaaGreatDoor.HWire Go.Proofs.YtlbbhgmpiednfaaGreatDoor.HCur
set_option linter.unusedVariables false
set_option linter.unusedSimpArgs false

/-- A cursor at block g; its bytes lie in an elder block. -/
def CurB (w : World) (g : Nat) (l : List Int) (i : Int) : Prop :=
  ∃ A c, w.heap[g]? = some (.cells #[.slice A l.length c, .int .i64 i] 95 (0, 0)) ∧ Kd.C (Kd.int .u8) w A l.length l ∧ l.length ≤ c ∧ (∀ ad, A = some ad → ad.block ≠ g ∧ ad.block < w.heap.size) ∧ (A = none → c = 0)
theorem CurB.cur {w : World} {g : Nat} {l : List Int} {i : Int} (h : CurB w g l i) : IsCur w g l i := by
  obtain ⟨A, c, h1, h2, h3, h4, h5⟩ := h
  exact ⟨A, c, h1, h2, h3, fun ad e => (h4 ad e).1, h5⟩
theorem CurB.lt {w : World} {g : Nat} {l : List Int} {i : Int} (h : CurB w g l i) : g < w.heap.size := h.cur.lt
theorem CurB.below {w w' : World} {g : Nat} {l : List Int} {i : Int} (h : CurB w g l i) (hb : Below w.heap.size w w') : CurB w' g l i := by
  obtain ⟨A, c, h1, h2, h3, h4, h5⟩ := h
  exact ⟨A, c, blk_below h1 hb, Kd.C_below h2 hb, h3, fun ad e => ⟨(h4 ad e).1, Nat.lt_of_lt_of_le (h4 ad e).2 hb.size⟩, h5⟩
theorem new_B (w : World) (v : Value) (l : List Int) (h : Bs w v l) (hl : l.length < 140737488355328) :
    Calls Tryz.prog 28 #[v] w fun e w' => ∃ g, e = .returned (.pointer (some ⟨g, 0, none⟩)) ∧ w.heap.size ≤ g ∧ CurB w' g l 0 ∧ Below w.heap.size w w' := by
  go_enter Tryz.func28, Tryz.ntmps28
  go_wp2_with (go_at_call 57; refine (clone_any _ v l h hl).mono ?_; rintro e w1 ⟨v1, rfl, hR, hB⟩; obtain ⟨A, c, rfl, hc, hC, hn⟩ := Bs.of_R hR; have HA := Aside0.mk (And.intro hc (And.intro hC hn)); have HB := Aside0.mk hB; have HL := Aside0.mk (fun ad (e : A = some ad) => Kd.R_lt hR ad.block (by rw [e]; rfl)); clear hc hC hn hB hR)
  go_ret
  obtain ⟨hc, hC, hn⟩ := HA.out
  exact ⟨w1.heap.size, rfl, HB.out.size, ⟨A, c, by simpa using heap_alloc_new w1 _, Kd.C_below hC (below_alloc (Below.refl _ _) _), hc, fun ad e => by have := HL.out ad e; rw [World.size_alloc]; omega, hn⟩, HB.out.alloc HB.out.size _⟩
/-- Part j's rule. -/
def chkS (j : Nat) (s : ByteArray) : Bool := match j with | 0 => isP s | 1 => idP s | 2 => isP s | 3 => isP s | 4 => idP s | _ => optP s
theorem fn_any (j : Nat) (s : ByteArray) (w : World) (hG : ResG w) : Calls Tryz.prog (fnv j) #[.string s] w fun e w' => e = .returned (.bool (chkS j s)) ∧ w = w' := by
  match j with
  | 0 => exact is_any s w hG
  | 1 => exact isid_any s w
  | 2 => exact is_any s w hG
  | 3 => exact is_any s w hG
  | 4 => exact isid_any s w
  | n + 5 => exact opt_any s w hG
theorem mov_le (j : Nat) : mov j ≤ 128 ∧ 0 ≤ mov j := by unfold mov; split <;> decide
theorem fn_goes (j : Nat) : ∀ (args : Array Value) (w : World), (callFunc (fnv j) args).run Tryz.prog w = .ok (.enter (fnv j) args) w := by
  unfold fnv
  split
  · exact enters_of Tryz.func49 (by kernel_rfl) rfl
  · exact enters_of Tryz.func68 (by kernel_rfl) rfl
  · exact enters_of Tryz.func49 (by kernel_rfl) rfl
  · exact enters_of Tryz.func49 (by kernel_rfl) rfl
  · exact enters_of Tryz.func68 (by kernel_rfl) rfl
  · exact enters_of Tryz.func69 (by kernel_rfl) rfl
set_option maxRecDepth 20000 in
set_option maxHeartbeats 4000000 in
theorem peek_a (w : World) (g gt j : Nat) (l : List Int) (i : Int) (hC : CurB w g l i) (h0 : 0 ≤ i) (h1 : i ≤ l.length) (hl : l.length ≤ 1000000) (hb : ∀ x ∈ l, 0 ≤ x ∧ x < 256) (n : Int) (hT : txt (l.drop i.toNat) (mov j) = .inl n) :
    Calls Tryz.prog 58 #[.pointer (some ⟨g, 0, none⟩), .agg #[.pointer (some ⟨gt, j, none⟩), .int .i64 (mov j), .func (.func (fnv j)) #[] #[]]] w fun e w' => e = .returned (errW (some n)) ∧ Below w.heap.size w w' := by
  have hlt := hC.lt
  obtain ⟨A, c, k1, k2, k3, k4, k5⟩ := hC
  obtain ⟨W, hW⟩ : ∃ W, W = w.alloc (.cells #[.pointer (some ⟨gt, j, none⟩), .int .i64 (mov j), .func (.func (fnv j)) #[] #[]] 74) := ⟨_, rfl⟩
  obtain ⟨V, hV⟩ : ∃ V, V = W.alloc (.cells #[.slice A l.length c, .int .i64 i] 95) := ⟨_, rfl⟩
  have hbW : Below w.heap.size w W := by rw [hW]; exact below_alloc (B0 w) _
  have hbV : Below W.heap.size W V := by rw [hV]; exact below_alloc (B0 W) _
  have HB := Aside0.mk (below_step hbW hbV)
  have hsW : W.heap.size = w.heap.size + 1 := by rw [hW]; exact World.size_alloc _ _
  have hP : W.heap[w.heap.size]? = some (.cells #[.pointer (some ⟨gt, j, none⟩), .int .i64 (mov j), .func (.func (fnv j)) #[] #[]] 74 (0, 0)) := by rw [hW]; exact blk_new w _
  have hK : V.heap[W.heap.size]? = some (.cells #[.slice A l.length c, .int .i64 i] 95 (0, 0)) := by rw [hV]; exact blk_new W _
  have HI := Aside0.mk (show IsCur V W.heap.size l i from ⟨A, c, hK, Kd.C_below (Kd.C_below k2 hbW) hbV, k3, fun ad e => by have := (k4 ad e).2; omega, k5⟩)
  have HT := Aside0.mk (text_at V W.heap.size l i (mov j) HI.out h0 h1 (by omega) hb (by have := mov_le j; omega))
  rw [hT] at HT
  have c0 : W.cell? ⟨g, 0, none⟩ = some (.slice A l.length c) := ((blk_cell (blk_below k1 hbW) 0).trans rfl)
  have c1 : W.cell? ⟨g, 1, none⟩ = some (.int .i64 i) := ((blk_cell (blk_below k1 hbW) 1).trans rfl)
  have p1 : V.cell? ⟨w.heap.size, 1, none⟩ = some (.int .i64 (mov j)) := ((blk_cell (blk_below hP hbV) 1).trans rfl)
  obtain ⟨b, hb2⟩ : ∃ b, b = w.heap.size := ⟨_, rfl⟩
  obtain ⟨h, hh⟩ : ∃ h, h = W.heap.size := ⟨_, rfl⟩
  have HGE := Aside0.mk (show w.heap.size ≤ h from by omega)
  rw [← hb2] at p1
  rw [← hh] at HT
  clear k1 k2 k3 k4 k5 hbW hbV hsW hP hK hT h0 h1 hl hb hlt HI
  generalize mov j = mo at *
  generalize fnv j = fn at *
  go_enter Tryz.func58, Tryz.ntmps58
  go_upto_region 1 with fail
  rw [← hW, ← hb2]
  clear hW hb2
  go_upto_region 2 with fail
  rw [← hV, ← hh]
  clear hV hh
  go_wp2_with fail
  refine HT.out.mono ?_
  rintro e w3 ⟨rfl, hI, hkp, hbb⟩
  have HB3 := Aside0.mk (HB.out.trans (hbb.mono HGE.out))
  clear hI hkp hbb HT p1 c0 c1
  dsimp only [txtE, errW]
  go_wp2
  go_ret
  exact ⟨rfl, HB3.out⟩
set_option maxRecDepth 20000 in
set_option maxHeartbeats 4000000 in
theorem peek_b (w : World) (g gt j : Nat) (l : List Int) (i : Int) (hC : CurB w g l i) (h0 : 0 ≤ i) (h1 : i ≤ l.length) (hl : l.length ≤ 1000000) (hb : ∀ x ∈ l, 0 ≤ x ∧ x < 256) (bs : List Int) (k : Nat) (hT : txt (l.drop i.toNat) (mov j) = .inr (bs, k)) (hS : chkS j (strOfNums bs) = false) (hG : ResG w) :
    Calls Tryz.prog 58 #[.pointer (some ⟨g, 0, none⟩), .agg #[.pointer (some ⟨gt, j, none⟩), .int .i64 (mov j), .func (.func (fnv j)) #[] #[]]] w fun e w' => e = .returned (errW (some 5)) ∧ Below w.heap.size w w' := by
  have hlt := hC.lt
  obtain ⟨A, c, k1, k2, k3, k4, k5⟩ := hC
  obtain ⟨W, hW⟩ : ∃ W, W = w.alloc (.cells #[.pointer (some ⟨gt, j, none⟩), .int .i64 (mov j), .func (.func (fnv j)) #[] #[]] 74) := ⟨_, rfl⟩
  obtain ⟨V, hV⟩ : ∃ V, V = W.alloc (.cells #[.slice A l.length c, .int .i64 i] 95) := ⟨_, rfl⟩
  have hbW : Below w.heap.size w W := by rw [hW]; exact below_alloc (B0 w) _
  have hbV : Below W.heap.size W V := by rw [hV]; exact below_alloc (B0 W) _
  have HB := Aside0.mk (below_step hbW hbV)
  have hsW : W.heap.size = w.heap.size + 1 := by rw [hW]; exact World.size_alloc _ _
  have hP : W.heap[w.heap.size]? = some (.cells #[.pointer (some ⟨gt, j, none⟩), .int .i64 (mov j), .func (.func (fnv j)) #[] #[]] 74 (0, 0)) := by rw [hW]; exact blk_new w _
  have hPV := blk_below hP hbV
  have hK : V.heap[W.heap.size]? = some (.cells #[.slice A l.length c, .int .i64 i] 95 (0, 0)) := by rw [hV]; exact blk_new W _
  have HI := Aside0.mk (show IsCur V W.heap.size l i from ⟨A, c, hK, Kd.C_below (Kd.C_below k2 hbW) hbV, k3, fun ad e => by have := (k4 ad e).2; omega, k5⟩)
  have HT := Aside0.mk (text_at V W.heap.size l i (mov j) HI.out h0 h1 (by omega) hb (by have := mov_le j; omega))
  rw [hT] at HT
  have HG := Aside0.mk (hG.below HB.out hG.1)
  have HFN := Aside0.mk (fun (w : World) (hG : ResG w) => fn_any j (strOfNums bs) w hG)
  rw [hS] at HFN
  have c0 : W.cell? ⟨g, 0, none⟩ = some (.slice A l.length c) := ((blk_cell (blk_below k1 hbW) 0).trans rfl)
  have c1 : W.cell? ⟨g, 1, none⟩ = some (.int .i64 i) := ((blk_cell (blk_below k1 hbW) 1).trans rfl)
  have p1 : V.cell? ⟨w.heap.size, 1, none⟩ = some (.int .i64 (mov j)) := ((blk_cell hPV 1).trans rfl)
  have HPV := Aside0.mk hPV
  have HGL := Aside0.mk (show 0 < W.heap.size from by have := hG.1; omega)
  have HPL := Aside0.mk (show w.heap.size < W.heap.size from by omega)
  have HGO := Aside0.mk (fn_goes j)
  obtain ⟨b, hb2⟩ : ∃ b, b = w.heap.size := ⟨_, rfl⟩
  obtain ⟨h, hh⟩ : ∃ h, h = W.heap.size := ⟨_, rfl⟩
  have HGE := Aside0.mk (show w.heap.size ≤ h from by omega)
  rw [← hb2] at p1 HPV HPL
  rw [← hh] at HT HGL HPL
  clear k1 k2 k3 k4 k5 hbW hbV hsW hP hPV hK hT h0 h1 hl hb hlt HI hG hS
  generalize mov j = mo at *
  generalize fnv j = fn at *
  go_enter Tryz.func58, Tryz.ntmps58
  go_upto_region 1 with fail
  rw [← hW, ← hb2]
  clear hW hb2
  go_upto_region 2 with fail
  rw [← hV, ← hh]
  clear hV hh
  go_wp2_with fail
  refine HT.out.mono ?_
  rintro e w3 ⟨rfl, hI, hkp, hbb⟩
  have HB3 := Aside0.mk (HB.out.trans (hbb.mono HGE.out))
  have HG3 := Aside0.mk (HG.out.below hbb HGL.out)
  have p2 : w3.cell? ⟨b, 2, none⟩ = some (.func (.func fn) #[] #[]) := (blk_cell ((hbb.block b HPL.out).trans HPV.out) 2).trans rfl
  clear hI hkp hbb HT p1 c0 c1
  dsimp only [txtE, errW]
  have hgo := HGO.out
  go_wp2_with fail
  refine (HFN.out w3 HG3.out).mono ?_
  rintro e w4 ⟨rfl, rfl⟩
  go_wp2
  go_ret
  exact ⟨rfl, HB3.out⟩
set_option maxRecDepth 20000 in
set_option maxHeartbeats 4000000 in
theorem peek_c (w : World) (g gt j : Nat) (l : List Int) (i : Int) (hC : CurB w g l i) (h0 : 0 ≤ i) (h1 : i ≤ l.length) (hl : l.length ≤ 1000000) (hb : ∀ x ∈ l, 0 ≤ x ∧ x < 256) (bs : List Int) (k : Nat) (hT : txt (l.drop i.toNat) (mov j) = .inr (bs, k)) (hS : chkS j (strOfNums bs) = true) (hG : ResG w)
    (cs : Array Value) (ht : w.heap[gt]? = some (.cells cs 32 (0, 0))) (hcs : cs.size = 6) (hcv : ∀ (o : Nat) (v : Value) (n : Int), cs[o]? = some v → v ≠ .int .u8 n) (hj : j < 6) (hgt : g < gt) :
    Calls Tryz.prog 58 #[.pointer (some ⟨g, 0, none⟩), .agg #[.pointer (some ⟨gt, j, none⟩), .int .i64 (mov j), .func (.func (fnv j)) #[] #[]]] w fun e w' => e = .returned .nilIface ∧ w'.heap[gt]? = some (.cells (cs.setIfInBounds j (.string (strOfNums bs))) 32 (0, 0)) ∧ CurB w' g l (i + k) ∧ Below g w w' ∧ ∀ b, b < w.heap.size → b ≠ g → b ≠ gt → w'.heap[b]? = w.heap[b]? := by
  have hlt := hC.lt
  obtain ⟨A, c, k1, k2, k3, k4, k5⟩ := hC
  obtain ⟨W, hW⟩ : ∃ W, W = w.alloc (.cells #[.pointer (some ⟨gt, j, none⟩), .int .i64 (mov j), .func (.func (fnv j)) #[] #[]] 74) := ⟨_, rfl⟩
  obtain ⟨V, hV⟩ : ∃ V, V = W.alloc (.cells #[.slice A l.length c, .int .i64 i] 95) := ⟨_, rfl⟩
  have hbW : Below w.heap.size w W := by rw [hW]; exact below_alloc (B0 w) _
  have hbV : Below W.heap.size W V := by rw [hV]; exact below_alloc (B0 W) _
  have HB := Aside0.mk (below_step hbW hbV)
  have hsW : W.heap.size = w.heap.size + 1 := by rw [hW]; exact World.size_alloc _ _
  have hP : W.heap[w.heap.size]? = some (.cells #[.pointer (some ⟨gt, j, none⟩), .int .i64 (mov j), .func (.func (fnv j)) #[] #[]] 74 (0, 0)) := by rw [hW]; exact blk_new w _
  have hPV := blk_below hP hbV
  have hK : V.heap[W.heap.size]? = some (.cells #[.slice A l.length c, .int .i64 i] 95 (0, 0)) := by rw [hV]; exact blk_new W _
  have HI := Aside0.mk (show IsCur V W.heap.size l i from ⟨A, c, hK, Kd.C_below (Kd.C_below k2 hbW) hbV, k3, fun ad e => by have := (k4 ad e).2; omega, k5⟩)
  have HT := Aside0.mk (text_at V W.heap.size l i (mov j) HI.out h0 h1 (by omega) hb (by have := mov_le j; omega))
  rw [hT] at HT
  have HG := Aside0.mk (hG.below HB.out hG.1)
  have HFN := Aside0.mk (fun (w : World) (hG : ResG w) => fn_any j (strOfNums bs) w hG)
  rw [hS] at HFN
  have c0 : W.cell? ⟨g, 0, none⟩ = some (.slice A l.length c) := ((blk_cell (blk_below k1 hbW) 0).trans rfl)
  have c1 : W.cell? ⟨g, 1, none⟩ = some (.int .i64 i) := ((blk_cell (blk_below k1 hbW) 1).trans rfl)
  have p1 : V.cell? ⟨w.heap.size, 1, none⟩ = some (.int .i64 (mov j)) := ((blk_cell hPV 1).trans rfl)
  have HPV := Aside0.mk hPV
  have HGL := Aside0.mk (show 0 < W.heap.size from by have := hG.1; omega)
  have HPL := Aside0.mk (show w.heap.size < W.heap.size from by omega)
  have HCW := Aside0.mk (blk_below k1 HB.out)
  have HTW := Aside0.mk (blk_below ht HB.out)
  have HCG := Aside0.mk (show g < W.heap.size ∧ gt < W.heap.size ∧ w.heap.size ≤ W.heap.size from ⟨by omega, by have := blk_lt ht; omega, by omega⟩)
  have HNL := Aside0.mk (show 0 < l.length from by
    cases l with
    | nil => rw [List.drop_nil] at hT; cases hT
    | cons x l => simp)
  have HGO := Aside0.mk (fn_goes j)
  have HWV := Aside0.mk (show ∀ b, b < w.heap.size → V.heap[b]? = w.heap[b]? from fun b hb => HB.out.block b hb)
  obtain ⟨s, hs⟩ : ∃ s, s = strOfNums bs := ⟨_, rfl⟩
  rw [← hs] at HFN
  have HTS := Aside0.mk hs
  obtain ⟨b, hb2⟩ : ∃ b, b = w.heap.size := ⟨_, rfl⟩
  obtain ⟨h, hh⟩ : ∃ h, h = W.heap.size := ⟨_, rfl⟩
  have HGE := Aside0.mk (show w.heap.size ≤ h from by omega)
  have HSV := Aside0.mk (show g < w.heap.size ∧ gt < w.heap.size from ⟨hlt, blk_lt ht⟩)
  rw [← hb2] at p1 HPV HPL
  rw [← hh] at HT HGL HPL HCG
  have HCS := Aside0.mk hcs
  have HCV := Aside0.mk hcv
  have HJ := Aside0.mk hj
  have HGT := Aside0.mk hgt
  clear k1 k2 k3 k4 k5 hbW hbV hsW hP hPV hK hT h0 h1 hl hb hlt HI hG hS ht hcs hcv hj hgt hs
  generalize mov j = mo at *
  generalize fnv j = fn at *
  go_enter Tryz.func58, Tryz.ntmps58
  go_upto_region 1 with fail
  rw [← hW, ← hb2]
  clear hW hb2
  go_upto_region 2 with fail
  rw [← hV, ← hh]
  clear hV hh
  go_wp2_with fail
  refine HT.out.mono ?_
  rintro e w3 ⟨rfl, hI, hkp, hbb⟩
  have HG3 := Aside0.mk (HG.out.below hbb HGL.out)
  have HBB := Aside0.mk hbb
  have HP3 := Aside0.mk ((hbb.block b HPL.out).trans HPV.out)
  have HC3 := Aside0.mk ((hbb.block g HCG.out.1).trans HCW.out)
  have HT3 := Aside0.mk ((hbb.block gt HCG.out.2.1).trans HTW.out)
  obtain ⟨A', c', q1, q2, q3, q4, q5⟩ := hI
  have HQ := Aside0.mk q1
  obtain ⟨ad', had, hcc⟩ := q2.2.2 HNL.out
  subst had
  have hfirst : ∃ n, w3.cell? ad' = some (.int .u8 n) := by
    obtain ⟨c9, hc1, hc2, hc3⟩ := hcc 0 (l[0]'HNL.out) (List.getElem?_eq_getElem _)
    have hc2' : c9 = [.int .u8 (l[0]'HNL.out)] := hc2
    subst hc2'
    refine ⟨l[0]'HNL.out, ?_⟩
    have := hc3 0 _ rfl
    rw [show ad'.add (0 * (Kd.int .u8).sz + 0) = ad' from by rw [Nat.zero_mul]; unfold Addr.add; split <;> simp_all] at this
    exact this
  obtain ⟨n9, hn9⟩ := hfirst
  have hspot : ad'.spot = none := by
    cases hsp : ad'.spot with
    | none => rfl
    | some z =>
      exfalso
      unfold World.cell? at hn9
      rw [hsp] at hn9
      split at hn9 <;> simp at hn9
  have hadE : ad' = ⟨ad'.block, ad'.off, none⟩ := by rw [← hspot]
  have hne1 : ad'.block ≠ g := fun e => by
    rw [hadE, e] at hn9
    have h := (blk_cell HC3.out ad'.off).symm.trans hn9
    match ad'.off, h with
    | 0, h => simp at h
    | 1, h => simp at h
    | o + 2, h => simp at h
  have hne2 : ad'.block ≠ gt := fun e => by
    rw [hadE, e] at hn9
    exact HCV.out ad'.off _ n9 ((blk_cell HT3.out ad'.off).symm.trans hn9) rfl
  have HA' := Aside0.mk (show Kd.C (Kd.int .u8) w3 (some ad') l.length l ∧ l.length ≤ c' ∧ ad'.block ≠ g ∧ ad'.block ≠ gt ∧ ad'.block < w3.heap.size from ⟨q2, q3, hne1, hne2, cell_lt hn9⟩)
  have p2 : w3.cell? ⟨b, 2, none⟩ = some (.func (.func fn) #[] #[]) := (blk_cell HP3.out 2).trans rfl
  have p0 : w3.cell? ⟨b, 0, none⟩ = some (.pointer (some ⟨gt, j, none⟩)) := (blk_cell HP3.out 0).trans rfl
  clear hkp hbb HT p1 c0 c1 q1 q2 q3 q4 q5 hcc hn9 hspot hadE hne1 hne2
  dsimp only [txtE, errW, txtAt]
  dsimp only [txtAt] at HQ
  rw [← HTS.out]
  have r0 : w3.cell? ⟨h, 0, none⟩ = some (.slice (some ad') l.length c') := (blk_cell HQ.out 0).trans rfl
  have r1 : w3.cell? ⟨h, 1, none⟩ = some (.int .i64 (i + (k : Int))) := (blk_cell HQ.out 1).trans rfl
  have g0 : w3.cell? ⟨g, 0, none⟩ = some (.slice A l.length c) := (blk_cell HC3.out 0).trans rfl
  have g1 : w3.cell? ⟨g, 1, none⟩ = some (.int .i64 i) := (blk_cell HC3.out 1).trans rfl
  have gf0 := blk_frozen HC3.out 0
  have gf1 := blk_frozen HC3.out 1
  have t1 : (w3.cell? ⟨gt, j, none⟩).isSome = true := by rw [blk_cell HT3.out j, Array.getElem?_eq_getElem (by rw [HCS.out]; exact HJ.out)]; rfl
  have tf := blk_frozen HT3.out j
  have ne1 : gt ≠ g := by have := HGT.out; omega
  have ne2 : g ≠ gt := by omega
  obtain ⟨u, hu⟩ := Option.isSome_iff_exists.1 t1
  clear t1
  have hgo := HGO.out
  go_wp2_with fail
  refine (HFN.out w3 HG3.out).mono ?_
  rintro e w4 ⟨rfl, rfl⟩
  go_wp2
  go_ret
  have hs := HTS.out
  subst hs
  have a2 := HA'.out.2.2.1
  have a3 := HA'.out.2.2.2.1
  refine ⟨rfl, ?_, ?_, ?_, ?_⟩
  · exact blk_far (p := ⟨g, 1, none⟩) (blk_far (p := ⟨g, 0, none⟩) (blk_set HT3.out j _) ne1 _) ne1 _
  · refine ⟨some ad', c', by simpa using blk_set (blk_set (blk_far (p := ⟨gt, j, none⟩) HC3.out ne2 (.string (strOfNums bs))) 0 (.slice (some ad') l.length c')) 1 (.int .i64 (i + (k : Int))), ?_, HA'.out.2.1, fun ad e => ?_, fun e => by cases e⟩
    · have hR := readsInt_of.2 (Kd.reads_of_C (d := (0 : Int)) HA'.out.1)
      have hR1 := ReadsInt.keep (W := w3.setCell ⟨gt, j, none⟩ (.string (strOfNums bs))) hR ((KeepBut.refl w3 gt none).set_ j _) (fun ad e _ => by cases e; exact a3)
      have hR2 := ReadsInt.keep (W := (w3.setCell ⟨gt, j, none⟩ (.string (strOfNums bs))).setCell ⟨g, 0, none⟩ (.slice (some ad') l.length c')) hR1 ((KeepBut.refl _ g none).set_ 0 _) (fun ad e _ => by cases e; exact a2)
      have hR3 := ReadsInt.keep (W := ((w3.setCell ⟨gt, j, none⟩ (.string (strOfNums bs))).setCell ⟨g, 0, none⟩ (.slice (some ad') l.length c')).setCell ⟨g, 1, none⟩ (.int .i64 (i + (k : Int)))) hR2 ((KeepBut.refl _ g none).set_ 1 _) (fun ad e _ => by cases e; exact a2)
      exact Kd.C_of_reads (readsInt_of.1 hR3)
    · cases e
      refine ⟨a2, ?_⟩
      have := HA'.out.2.2.2.2
      simpa [World.setCell] using this
  · have h1 := HCG.out
    have h2 := HSV.out
    have h3 := HGT.out
    exact ((((HB.out.mono (B' := g) (by omega)).trans (HBB.out.mono (B' := g) (by omega))).setCell (p := ⟨gt, j, none⟩) (by show g ≤ gt; omega) _).setCell (p := ⟨g, 0, none⟩) (Nat.le_refl _) _).setCell (p := ⟨g, 1, none⟩) (Nat.le_refl _) _
  · intro b' hb' hbg hbt
    have h1 := HCG.out
    rw [Below.heap_setCell _ _ _ _ hbg, Below.heap_setCell _ _ _ _ hbg, Below.heap_setCell _ _ _ _ hbt, HBB.out.block b' (by omega)]
    exact HWV.out b' hb'
end Go.Proofs.YtlbbhgmpiednfaaGreatDoor.HTupI
/- tuple.Read. -/
namespace Go.Proofs.YtlbbhgmpiednfaaGreatDoor.HTupL
open Go.RowKit Go.Proofs.YtlbbhgmpiednfaaGreatDoorW.PrintWords Go.Proofs.YtlbbhgmpiednfaaGreatDoor.HLib Go.Proofs.YtlbbhgmpiednfaaGreatDoor.HGr Go.Proofs.YtlbbhgmpiednfaaGreatDoor.HErr Go.Proofs.YtlbbhgmpiednfaaGreatDoor.HNameP Go.Proofs.YtlbbhgmpiednfaaGreatDoor.HName Go.Proofs.YtlbbhgmpiednfaaGreatDoor.HTupP Go.Proofs.YtlbbhgmpiednfaaGreatDoor.HTupR Go.Proofs.YtlbbhgmpiednfaaGreatDoor.HTupX Go.Proofs.YtlbbhgmpiednfaaGreatDoor.HTupG Go.Proofs.YtlbbhgmpiednfaaGreatDoor.HWireS Go.Proofs.YtlbbhgmpiednfaaGreatDoor.HWire Go.Proofs.YtlbbhgmpiednfaaGreatDoor.HCur Go.Proofs.YtlbbhgmpiednfaaGreatDoor.HTupI
set_option linter.unusedVariables false
set_option linter.unusedSimpArgs false

def setS (t : Tp) (j : Nat) (s : ByteArray) : Tp := match j with | 0 => { t with a := s } | 1 => { t with b := s } | 2 => { t with c := s } | 3 => { t with d := s } | 4 => { t with e := s } | _ => { t with f := s }
theorem row_set (t : Tp) (j : Nat) (hj : j < 6) (s : ByteArray) : (rowc t).setIfInBounds j (.string s) = rowc (setS t j s) := by
  match j, hj with
  | 0, _ | 1, _ | 2, _ | 3, _ | 4, _ | 5, _ => rfl
/-- What Read gives from part j, byte i on. -/
def readK (l : List Int) : Nat → Nat → Int → Tp → Tp × Option Int × Int
  | 0, _, i, t => (t, none, i)
  | n + 1, j, i, t => match txt (l.drop i.toNat) (mov j) with
    | .inl c => (Tp.nil, some c, i)
    | .inr (bs, k) => if chkS j (strOfNums bs) then readK l n (j + 1) (i + k) (setS t j (strOfNums bs)) else (Tp.nil, some 5, i)
theorem readK_inl {l : List Int} {n j : Nat} {i c : Int} {t : Tp} (h : txt (l.drop i.toNat) (mov j) = .inl c) : readK l (n + 1) j i t = (Tp.nil, some c, i) := by
  rw [readK, h]
theorem readK_bad {l : List Int} {n j k : Nat} {i : Int} {t : Tp} {bs : List Int} (h : txt (l.drop i.toNat) (mov j) = .inr (bs, k)) (hS : chkS j (strOfNums bs) = false) : readK l (n + 1) j i t = (Tp.nil, some 5, i) := by
  rw [readK, h]
  simp only
  rw [hS]
  rfl
theorem readK_ok {l : List Int} {n j k : Nat} {i : Int} {t : Tp} {bs : List Int} (h : txt (l.drop i.toNat) (mov j) = .inr (bs, k)) (hS : chkS j (strOfNums bs) = true) : readK l (n + 1) j i t = readK l n (j + 1) (i + k) (setS t j (strOfNums bs)) := by
  rw [readK, h]
  simp only
  rw [hS]
  rfl
theorem txt_le {r : List Int} (hb : ∀ x ∈ r, 0 ≤ x ∧ x < 256) {limit : Int} {bs : List Int} {k : Nat} (h : txt r limit = .inr (bs, k)) : k ≤ r.length := by
  unfold txt at h
  cases hn : num r with
  | inl c => rw [hn] at h; cases h
  | inr p =>
    obtain ⟨n, q⟩ := p
    rw [hn] at h
    simp only at h
    have h2 := num_ok hb hn
    split at h
    · cases h
    · split at h
      · cases h
      · injection h with h
        injection h with _ h
        omega
def ferr (c : Option Int) (at_ : Int) : Value := match c with | none => .nilIface | some c => fltV c at_
theorem row_str (t : Tp) (o : Nat) (v : Value) (n : Int) (h : (rowc t)[o]? = some v) : v ≠ .int .u8 n := by
  intro e
  subst e
  match o, h with
  | 0, h | 1, h | 2, h | 3, h | 4, h | 5, h => simp at h
  | o + 6, h => simp at h
theorem cur_fin {w : World} {g gr : Nat} {l : List Int} {i : Int} (h : CurB w g l i) (hg : g < gr) (x : Tp) (hr : w.heap[gr]? = some (.cells zc 32 (0, 0))) :
    CurB ((((((w.setCell ⟨gr, 0, none⟩ (.string x.a)).setCell ⟨gr, 1, none⟩ (.string x.b)).setCell ⟨gr, 2, none⟩ (.string x.c)).setCell ⟨gr, 3, none⟩ (.string x.d)).setCell ⟨gr, 4, none⟩ (.string x.e)).setCell ⟨gr, 5, none⟩ (.string x.f)) g l i := by
  have step : ∀ (W : World) (o : Nat) (s : ByteArray), (∀ (q : Nat) (v : Value), W.cell? ⟨gr, q, none⟩ = some v → ∃ s, v = .string s) → CurB W g l i → CurB (W.setCell ⟨gr, o, none⟩ (.string s)) g l i := by
    intro W o s hs h
    obtain ⟨A, c, k1, k2, k3, k4, k5⟩ := h
    refine ⟨A, c, blk_far (p := ⟨gr, o, none⟩) k1 (by show g ≠ gr; omega) _, ?_, k3, fun ad e => ⟨(k4 ad e).1, by have := (k4 ad e).2; simpa [World.setCell] using this⟩, k5⟩
    have hR := readsInt_of.2 (Kd.reads_of_C (d := (0 : Int)) k2)
    refine Kd.C_of_reads (readsInt_of.1 (ReadsInt.keep (W := W.setCell ⟨gr, o, none⟩ (.string s)) hR ((KeepBut.refl W gr none).set_ o _) (fun ad e h0 eb => ?_)))
    obtain ⟨ad', e', hc⟩ := k2.2.2 h0
    rw [e] at e'
    injection e' with e'
    subst e'
    obtain ⟨c9, hc1, hc2, hc3⟩ := hc 0 (l[0]'h0) (List.getElem?_eq_getElem _)
    have hc2' : c9 = [.int .u8 (l[0]'h0)] := hc2
    subst hc2'
    have h3 := hc3 0 _ rfl
    rw [show ad.add (0 * (Kd.int .u8).sz + 0) = ad from by rw [Nat.zero_mul]; unfold Addr.add; split <;> simp_all] at h3
    have hspot : ad.spot = none := by
      cases hsp : ad.spot with
      | none => rfl
      | some z =>
        exfalso
        unfold World.cell? at h3
        rw [hsp] at h3
        split at h3 <;> simp at h3
    rw [show ad = ⟨ad.block, ad.off, none⟩ from by rw [← hspot], eb] at h3
    obtain ⟨s9, h9⟩ := hs ad.off _ h3
    cases h9
  have row : ∀ (y : Tp) (W : World), W.heap[gr]? = some (.cells (rowc y) 32 (0, 0)) → ∀ (q : Nat) (v : Value), W.cell? ⟨gr, q, none⟩ = some v → ∃ s, v = .string s := by
    intro y W hW q v hv
    have h9 := (blk_cell hW q).symm.trans hv
    match q, h9 with
    | 0, h9 | 1, h9 | 2, h9 | 3, h9 | 4, h9 | 5, h9 => exact ⟨_, (by simpa using h9.symm)⟩
    | o + 6, h9 => simp at h9
  have r0 := row Tp.nil w hr
  have b1 := blk_set hr 0 (.string x.a)
  have r1 := row ⟨x.a, ⟨#[]⟩, ⟨#[]⟩, ⟨#[]⟩, ⟨#[]⟩, ⟨#[]⟩⟩ _ b1
  have b2 := blk_set b1 1 (.string x.b)
  have r2 := row ⟨x.a, x.b, ⟨#[]⟩, ⟨#[]⟩, ⟨#[]⟩, ⟨#[]⟩⟩ _ b2
  have b3 := blk_set b2 2 (.string x.c)
  have r3 := row ⟨x.a, x.b, x.c, ⟨#[]⟩, ⟨#[]⟩, ⟨#[]⟩⟩ _ b3
  have b4 := blk_set b3 3 (.string x.d)
  have r4 := row ⟨x.a, x.b, x.c, x.d, ⟨#[]⟩, ⟨#[]⟩⟩ _ b4
  have b5 := blk_set b4 4 (.string x.e)
  have r5 := row ⟨x.a, x.b, x.c, x.d, x.e, ⟨#[]⟩⟩ _ b5
  exact step _ 5 _ r5 (step _ 4 _ r4 (step _ 3 _ r3 (step _ 2 _ r2 (step _ 1 _ r1 (step _ 0 _ r0 h)))))
set_option maxRecDepth 20000 in
set_option maxHeartbeats 8000000 in
theorem read_any (w : World) (g : Nat) (l : List Int) (i : Int) (hC : CurB w g l i) (h0 : 0 ≤ i) (h1 : i ≤ l.length) (hl : l.length ≤ 1000000) (hb : ∀ x ∈ l, 0 ≤ x ∧ x < 256) (hG : GV w) (hgg : 0 < g ∧ 1 < g) :
    Calls Tryz.prog 29 #[.pointer (some ⟨g, 0, none⟩)] w fun e w' => e = .returned (.tuple #[tvv (readK l 6 0 i Tp.nil).1, ferr (readK l 6 0 i Tp.nil).2.1 (readK l 6 0 i Tp.nil).2.2]) ∧ CurB w' g l (readK l 6 0 i Tp.nil).2.2 ∧ Below g w w' := by
  obtain ⟨W, hW⟩ : ∃ W, W = w.alloc (.cells zc 32) := ⟨_, rfl⟩
  obtain ⟨V, hV⟩ : ∃ V, V = W.alloc (.cells zc 32) := ⟨_, rfl⟩
  have hbW : Below w.heap.size w W := by rw [hW]; exact below_alloc (B0 w) _
  have hbV : Below W.heap.size W V := by rw [hV]; exact below_alloc (B0 W) _
  have hsW : W.heap.size = w.heap.size + 1 := by rw [hW]; exact World.size_alloc _ _
  have hsV : V.heap.size = w.heap.size + 2 := by rw [hV, World.size_alloc, hsW]
  have hgl := hC.lt
  have HR := Aside0.mk (show V.heap[w.heap.size]? = some (.cells zc 32 (0, 0)) from by have h := blk_new w (.cells zc 32); rw [← hW] at h; exact blk_below h hbV)
  have HT := Aside0.mk (show V.heap[W.heap.size]? = some (.cells (rowc Tp.nil) 32 (0, 0)) from by rw [hV]; exact blk_new W _)
  have HB := Aside0.mk (show Below w.heap.size w V from below_step hbW hbV)
  have HC := Aside0.mk (show CurB V g l i from (hC.below hbW).below hbV)
  have HG := Aside0.mk (show GV V from (hG.below hbW).below hbV)
  obtain ⟨gr, hgr⟩ : ∃ gr, gr = w.heap.size := ⟨_, rfl⟩
  obtain ⟨gt, hgt⟩ : ∃ gt, gt = W.heap.size := ⟨_, rfl⟩
  have hg1 : gt = gr + 1 := by omega
  have HO := Aside0.mk (show g < gr ∧ gr < gt from ⟨by omega, by omega⟩)
  rw [← hgr] at HR
  rw [← hgt] at HT
  have HBG := Aside0.mk (show Below g w V from HB.out.mono (by omega))
  have HN := Aside0.mk (show gt < V.heap.size from by omega)
  have HGG := Aside0.mk hgg
  have HL := Aside0.mk hl
  have HBY := Aside0.mk hb
  have HI := Aside0.mk (show 0 ≤ i ∧ i ≤ l.length from ⟨h0, h1⟩)
  obtain ⟨r, hr⟩ : ∃ r, r = readK l 6 0 i Tp.nil := ⟨_, rfl⟩
  rw [← hr]
  have HK := Aside0.mk hr.symm
  clear hC h0 h1 hl hb hG hgg hbW hbV hsW hsV hgl hr HB
  go_enter Tryz.func29, Tryz.ntmps29
  go_upto_region 4 with fail
  rw [← hW, ← hgr, ← hg1, ← hV]
  clear hW hgr hgt hV hg1
  go_wp2_with fail
  refine (parts_any gt V).mono ?_
  rintro e w2 ⟨B, rfl, hB, hP, hg⟩
  have HP := Aside0.mk hP
  have HR2 := Aside0.mk (blk_below HR.out hg.below)
  have HT2 := Aside0.mk (blk_below HT.out hg.below)
  have HC2 := Aside0.mk (HC.out.below hg.below)
  have HG2 := Aside0.mk (HG.out.below hg.below)
  have HBG2 := Aside0.mk (show Below g w w2 from HBG.out.trans (hg.below.mono (by have := HO.out; have := HN.out; omega)))
  have HBO := Aside0.mk (show gt < B from Nat.lt_of_lt_of_le HN.out hB)
  clear hB hP hg HR HT HC HG HBG HN
  go_wp2
  go_loopg [6, 7, 14] 6 (fun kq v6 v7 v14 w' => ∃ (j : Nat) (i' : Int) (t : Tp), v14 = .int .i64 j ∧ Aside0 (kq + j = 6) ∧ Aside0 (readK l (6 - j) j i' t = r) ∧ Aside0 (0 ≤ i' ∧ i' ≤ l.length) ∧ Aside0 (CurB w' g l i') ∧ Aside0 (w'.heap[gr]? = some (.cells zc 32 (0, 0))) ∧ Aside0 (w'.heap[gt]? = some (.cells (rowc t) 32 (0, 0))) ∧ Aside0 (w'.heap[B]? = some (.cells (pc gt) 74 (0, 0))) ∧ Aside0 (Below g w w') ∧ Aside0 (GV w'))
  case atStart => exact ⟨0, i, Tp.nil, rfl, ⟨rfl⟩, HK, HI, HC2, HR2, HT2, HP, HBG2, HG2⟩
  case round =>
    obtain ⟨j, i', t, rfl, HJ, HKJ, HIJ, HCJ, HRJ, HTJ, HPJ, HBJ, HGJ⟩ := hrel
    clear HK HI HC2 HR2 HT2 HP HBG2 HG2
    by_cases cj : j < 6
    · have f1 : decide (j < 6) = true := decide_eq_true cj
      have f2 : decide ((j : Int) < 6) = true := decide_eq_true (by omega)
      have f3 : (j : Int) < 6 := by omega
      have f4 : IntKind.i64.wrap ((j : Int) + 1) = (j : Int) + 1 := by rw [IntKind.wrap_i64]; omega
      obtain ⟨p1, p2, p3⟩ := parts_at HPJ.out j cj
      obtain ⟨V2, hV2⟩ : ∃ V2, V2 = wr.alloc (.cells #[.pointer (some ⟨gt, j, none⟩), .int .i64 (mov j), .func (.func (fnv j)) #[] #[]] 74) := ⟨_, rfl⟩
      have hb2 : Below wr.heap.size wr V2 := by rw [hV2]; exact below_alloc (B0 wr) _
      have HQV := Aside0.mk (show V2.heap[wr.heap.size]? = some (.cells #[.pointer (some ⟨gt, j, none⟩), .int .i64 (mov j), .func (.func (fnv j)) #[] #[]] 74 (0, 0)) from by rw [hV2]; exact blk_new wr _)
      have HCV := Aside0.mk (HCJ.out.below hb2)
      have HRV := Aside0.mk (blk_below HRJ.out hb2)
      have HTV := Aside0.mk (blk_below HTJ.out hb2)
      have HPV := Aside0.mk (blk_below HPJ.out hb2)
      have HBV := Aside0.mk (show Below g w V2 from HBJ.out.trans (hb2.mono (Nat.le_of_lt HCJ.out.lt)))
      have HGV := Aside0.mk (HGJ.out.below hb2)
      clear hb2 HCJ HRJ HTJ HPJ HBJ HGJ
      obtain ⟨n, hn⟩ : ∃ n, 6 - j = n + 1 := ⟨5 - j, by omega⟩
      have HKN := Aside0.mk (show readK l (n + 1) j i' t = r from by rw [← hn]; exact HKJ.out)
      have HNJ := Aside0.mk hn
      clear hn HKJ
      have HMO := Aside0.mk (show mov j = mov j ∧ fnv j = fnv j from ⟨rfl, rfl⟩)
      cases hT : txt (l.drop i'.toNat) (mov j) with
      | inl c =>
        have HA := Aside0.mk (peek_a V2 g gt j l i' HCV.out HIJ.out.1 HIJ.out.2 HL.out HBY.out c hT)
        have HE := Aside0.mk (HKN.out.symm.trans (readK_inl hT))
        clear hT HMO
        generalize mov j = mo at *
        generalize fnv j = fn at *

        go_upto_region 7 with fail
        rw [← hV2]
        clear hV2
        have q0 : V2.cell? ⟨wr.heap.size, 0, none⟩ = some (.pointer (some ⟨gt, j, none⟩)) := (blk_cell HQV.out 0).trans rfl
        have q1 : V2.cell? ⟨wr.heap.size, 1, none⟩ = some (.int .i64 mo) := (blk_cell HQV.out 1).trans rfl
        have q2 : V2.cell? ⟨wr.heap.size, 2, none⟩ = some (.func (.func fn) #[] #[]) := (blk_cell HQV.out 2).trans rfl
        go_wp2_with fail
        refine HA.out.mono ?_
        rintro e w4 ⟨rfl, hb⟩
        dsimp only [errW]
        have HC4 := Aside0.mk (HCV.out.below hb)
        have HR4 := Aside0.mk (blk_below HRV.out hb)
        have HB4 := Aside0.mk (show Below g w w4 from HBV.out.trans (hb.mono (Nat.le_of_lt HCV.out.lt)))
        have HG4 := Aside0.mk (HGV.out.below hb)
        clear hb HCV HRV HTV HPV HBV HGV HQV HA q0 q1 q2 p1 p2 p3
        go_wp2_with fail
        refine (at_at w4 g l i' HC4.out.cur).mono ?_
        rintro e w5 ⟨rfl, ⟨⟨m, rfl⟩⟩⟩
        have hbm := pw_below_drewN (Below.refl w4.heap.size w4) m
        have HC5 := Aside0.mk (HC4.out.below hbm)
        have HR5 := Aside0.mk (blk_below HR4.out hbm)
        have HB5 := Aside0.mk (show Below g w (w4.drewN m) from pw_below_drewN HB4.out m)
        have HG5 := Aside0.mk (HG4.out.below hbm)
        clear hbm HC4 HR4 HB4 HG4
        go_wp2_with fail
        refine (shift_C c i' (by have := HIJ.out; have := HL.out; omega) _ HG5.out.2).mono ?_
        rintro e w6 ⟨rfl, hb⟩
        have HC6 := Aside0.mk (HC5.out.below hb)
        have HR6 := Aside0.mk (blk_below HR5.out hb)
        have HB6 := Aside0.mk (show Below g w w6 from HB5.out.trans (hb.mono (Nat.le_of_lt HC5.out.lt)))
        clear hb HC5 HR5 HB5 HG5
        have z0 : w6.cell? ⟨gr, 0, none⟩ = some (.string ⟨#[]⟩) := (blk_cell HR6.out 0).trans rfl
        have z1 : w6.cell? ⟨gr, 1, none⟩ = some (.string ⟨#[]⟩) := (blk_cell HR6.out 1).trans rfl
        have z2 : w6.cell? ⟨gr, 2, none⟩ = some (.string ⟨#[]⟩) := (blk_cell HR6.out 2).trans rfl
        have z3 : w6.cell? ⟨gr, 3, none⟩ = some (.string ⟨#[]⟩) := (blk_cell HR6.out 3).trans rfl
        have z4 : w6.cell? ⟨gr, 4, none⟩ = some (.string ⟨#[]⟩) := (blk_cell HR6.out 4).trans rfl
        have z5 : w6.cell? ⟨gr, 5, none⟩ = some (.string ⟨#[]⟩) := (blk_cell HR6.out 5).trans rfl
        have fz0 := blk_frozen HR6.out 0
        have fz1 := blk_frozen HR6.out 1
        have fz2 := blk_frozen HR6.out 2
        have fz3 := blk_frozen HR6.out 3
        have fz4 := blk_frozen HR6.out 4
        have fz5 := blk_frozen HR6.out 5
        go_wp2
        have hf := fin_row HR6.out (⟨⟨#[]⟩, ⟨#[]⟩, ⟨#[]⟩, ⟨#[]⟩, ⟨#[]⟩, ⟨#[]⟩⟩ : Tp)
        have hbf := fin_below (show g ≤ gr from Nat.le_of_lt HO.out.1) HB6.out (⟨⟨#[]⟩, ⟨#[]⟩, ⟨#[]⟩, ⟨#[]⟩, ⟨#[]⟩, ⟨#[]⟩⟩ : Tp)
        have hcf := cur_fin HC6.out HO.out.1 (⟨⟨#[]⟩, ⟨#[]⟩, ⟨#[]⟩, ⟨#[]⟩, ⟨#[]⟩, ⟨#[]⟩⟩ : Tp) HR6.out
        dsimp only [rowc] at hf hbf hcf
        generalize hW9 : ((((((w6.setCell ⟨gr, 0, none⟩ (.string ⟨#[]⟩)).setCell ⟨gr, 1, none⟩ (.string ⟨#[]⟩)).setCell ⟨gr, 2, none⟩ (.string ⟨#[]⟩)).setCell ⟨gr, 3, none⟩ (.string ⟨#[]⟩)).setCell ⟨gr, 4, none⟩ (.string ⟨#[]⟩)).setCell ⟨gr, 5, none⟩ (.string ⟨#[]⟩)) = W9 at hf hbf hcf ⊢
        clear hW9
        have d0 := (blk_cell hf 0).trans rfl
        have d1 := (blk_cell hf 1).trans rfl
        have d2 := (blk_cell hf 2).trans rfl
        have d3 := (blk_cell hf 3).trans rfl
        have d4 := (blk_cell hf 4).trans rfl
        have d5 := (blk_cell hf 5).trans rfl
        have he := HE.out
        subst he
        refine bodyPost_ret (v := .tuple #[tvv (Tp.nil), fltV c i']) (by simp [results, Tryz.results29, go_sem, d0, d1, d2, d3, d4, d5, Tp.nil]) rfl ⟨rfl, hcf, hbf⟩
      | inr p =>
        obtain ⟨bs, k⟩ := p
        cases hS : chkS j (strOfNums bs) with
        | false =>
          have HA := Aside0.mk (peek_b V2 g gt j l i' HCV.out HIJ.out.1 HIJ.out.2 HL.out HBY.out bs k hT hS HGV.out.1)
          have HE := Aside0.mk (HKN.out.symm.trans (readK_bad hT hS))
          clear hT hS HMO
          generalize mov j = mo at *
          generalize fnv j = fn at *
          go_upto_region 7 with fail
          rw [← hV2]
          clear hV2
          have q0 : V2.cell? ⟨wr.heap.size, 0, none⟩ = some (.pointer (some ⟨gt, j, none⟩)) := (blk_cell HQV.out 0).trans rfl
          have q1 : V2.cell? ⟨wr.heap.size, 1, none⟩ = some (.int .i64 mo) := (blk_cell HQV.out 1).trans rfl
          have q2 : V2.cell? ⟨wr.heap.size, 2, none⟩ = some (.func (.func fn) #[] #[]) := (blk_cell HQV.out 2).trans rfl
          go_wp2_with fail
          refine HA.out.mono ?_
          rintro e w4 ⟨rfl, hb⟩
          dsimp only [errW]
          have HC4 := Aside0.mk (HCV.out.below hb)
          have HR4 := Aside0.mk (blk_below HRV.out hb)
          have HB4 := Aside0.mk (show Below g w w4 from HBV.out.trans (hb.mono (Nat.le_of_lt HCV.out.lt)))
          have HG4 := Aside0.mk (HGV.out.below hb)
          clear hb HCV HRV HTV HPV HBV HGV HQV HA q0 q1 q2 p1 p2 p3
          go_wp2_with fail
          refine (at_at w4 g l i' HC4.out.cur).mono ?_
          rintro e w5 ⟨rfl, ⟨⟨m, rfl⟩⟩⟩
          have hbm := pw_below_drewN (Below.refl w4.heap.size w4) m
          have HC5 := Aside0.mk (HC4.out.below hbm)
          have HR5 := Aside0.mk (blk_below HR4.out hbm)
          have HB5 := Aside0.mk (show Below g w (w4.drewN m) from pw_below_drewN HB4.out m)
          have HG5 := Aside0.mk (HG4.out.below hbm)
          clear hbm HC4 HR4 HB4 HG4
          go_wp2_with fail
          refine (shift_C 5 i' (by have := HIJ.out; have := HL.out; omega) _ HG5.out.2).mono ?_
          rintro e w6 ⟨rfl, hb⟩
          have HC6 := Aside0.mk (HC5.out.below hb)
          have HR6 := Aside0.mk (blk_below HR5.out hb)
          have HB6 := Aside0.mk (show Below g w w6 from HB5.out.trans (hb.mono (Nat.le_of_lt HC5.out.lt)))
          clear hb HC5 HR5 HB5 HG5
          have z0 : w6.cell? ⟨gr, 0, none⟩ = some (.string ⟨#[]⟩) := (blk_cell HR6.out 0).trans rfl
          have z1 : w6.cell? ⟨gr, 1, none⟩ = some (.string ⟨#[]⟩) := (blk_cell HR6.out 1).trans rfl
          have z2 : w6.cell? ⟨gr, 2, none⟩ = some (.string ⟨#[]⟩) := (blk_cell HR6.out 2).trans rfl
          have z3 : w6.cell? ⟨gr, 3, none⟩ = some (.string ⟨#[]⟩) := (blk_cell HR6.out 3).trans rfl
          have z4 : w6.cell? ⟨gr, 4, none⟩ = some (.string ⟨#[]⟩) := (blk_cell HR6.out 4).trans rfl
          have z5 : w6.cell? ⟨gr, 5, none⟩ = some (.string ⟨#[]⟩) := (blk_cell HR6.out 5).trans rfl
          have fz0 := blk_frozen HR6.out 0
          have fz1 := blk_frozen HR6.out 1
          have fz2 := blk_frozen HR6.out 2
          have fz3 := blk_frozen HR6.out 3
          have fz4 := blk_frozen HR6.out 4
          have fz5 := blk_frozen HR6.out 5
          go_wp2
          have hf := fin_row HR6.out (⟨⟨#[]⟩, ⟨#[]⟩, ⟨#[]⟩, ⟨#[]⟩, ⟨#[]⟩, ⟨#[]⟩⟩ : Tp)
          have hbf := fin_below (show g ≤ gr from Nat.le_of_lt HO.out.1) HB6.out (⟨⟨#[]⟩, ⟨#[]⟩, ⟨#[]⟩, ⟨#[]⟩, ⟨#[]⟩, ⟨#[]⟩⟩ : Tp)
          have hcf := cur_fin HC6.out HO.out.1 (⟨⟨#[]⟩, ⟨#[]⟩, ⟨#[]⟩, ⟨#[]⟩, ⟨#[]⟩, ⟨#[]⟩⟩ : Tp) HR6.out
          dsimp only [rowc] at hf hbf hcf
          generalize hW9 : ((((((w6.setCell ⟨gr, 0, none⟩ (.string ⟨#[]⟩)).setCell ⟨gr, 1, none⟩ (.string ⟨#[]⟩)).setCell ⟨gr, 2, none⟩ (.string ⟨#[]⟩)).setCell ⟨gr, 3, none⟩ (.string ⟨#[]⟩)).setCell ⟨gr, 4, none⟩ (.string ⟨#[]⟩)).setCell ⟨gr, 5, none⟩ (.string ⟨#[]⟩)) = W9 at hf hbf hcf ⊢
          clear hW9
          have d0 := (blk_cell hf 0).trans rfl
          have d1 := (blk_cell hf 1).trans rfl
          have d2 := (blk_cell hf 2).trans rfl
          have d3 := (blk_cell hf 3).trans rfl
          have d4 := (blk_cell hf 4).trans rfl
          have d5 := (blk_cell hf 5).trans rfl
          have he := HE.out
          subst he
          refine bodyPost_ret (v := .tuple #[tvv (Tp.nil), fltV 5 i']) (by simp [results, Tryz.results29, go_sem, d0, d1, d2, d3, d4, d5, Tp.nil]) rfl ⟨rfl, hcf, hbf⟩
        | true =>
          have HA := Aside0.mk (peek_c V2 g gt j l i' HCV.out HIJ.out.1 HIJ.out.2 HL.out HBY.out bs k hT hS HGV.out.1 (rowc t) HTV.out rfl (row_str t) cj (by have := HO.out; omega))
          have HE := Aside0.mk ((readK_ok hT hS).symm.trans HKN.out)
          have HIK := Aside0.mk (show 0 ≤ i' + (k : Int) ∧ i' + (k : Int) ≤ l.length from by
            have h := txt_le (fun x hx => HBY.out x (List.mem_of_mem_drop hx)) hT
            rw [List.length_drop] at h
            have := HIJ.out
            omega)
          rw [row_set t j cj] at HA
          clear hT hS HMO
          generalize mov j = mo at *
          generalize fnv j = fn at *
          go_upto_region 7 with fail
          rw [← hV2]
          clear hV2
          have q0 : V2.cell? ⟨wr.heap.size, 0, none⟩ = some (.pointer (some ⟨gt, j, none⟩)) := (blk_cell HQV.out 0).trans rfl
          have q1 : V2.cell? ⟨wr.heap.size, 1, none⟩ = some (.int .i64 mo) := (blk_cell HQV.out 1).trans rfl
          have q2 : V2.cell? ⟨wr.heap.size, 2, none⟩ = some (.func (.func fn) #[] #[]) := (blk_cell HQV.out 2).trans rfl
          go_wp2_with fail
          refine HA.out.mono ?_
          rintro e w4 ⟨rfl, ht4, hc4, hb4, hk4⟩
          have HR4 := Aside0.mk ((hk4 gr (blk_lt HRV.out) (by have := HO.out; omega) (by have := HO.out; omega)).trans HRV.out)
          have HP4 := Aside0.mk ((hk4 B (blk_lt HPV.out) (by have := HO.out; have := HBO.out; omega) (by have := HBO.out; omega)).trans HPV.out)
          have HT4 := Aside0.mk ht4
          have HC4 := Aside0.mk hc4
          have HB4 := Aside0.mk (show Below g w w4 from HBV.out.trans hb4)
          have HG4 := Aside0.mk (show GV w4 from ⟨HGV.out.1.below hb4 HGG.out.1, HGV.out.2.below hb4 HGG.out.2⟩)
          clear ht4 hc4 hb4 hk4 HCV HRV HTV HPV HBV HGV HQV HA q0 q1 q2 p1 p2 p3
          go_wp2
          go_roundg (6 - (j + 1))
          case measure => have := HJ.out; omega
          case rel => exact ⟨j + 1, i' + (k : Int), setS t j (strOfNums bs), rfl, ⟨by have := HJ.out; omega⟩, ⟨by rw [show 6 - (j + 1) = n from by have := HNJ.out; omega]; exact HE.out⟩, HIK, HC4, HR4, HT4, HP4, HB4, HG4⟩
    · obtain rfl : j = 6 := by have := HJ.out; omega
      have HE := Aside0.mk (show r = (t, none, i') from HKJ.out.symm)
      have y0 : wr.cell? ⟨gt, 0, none⟩ = some (.string t.a) := (blk_cell HTJ.out 0).trans rfl
      have y1 : wr.cell? ⟨gt, 1, none⟩ = some (.string t.b) := (blk_cell HTJ.out 1).trans rfl
      have y2 : wr.cell? ⟨gt, 2, none⟩ = some (.string t.c) := (blk_cell HTJ.out 2).trans rfl
      have y3 : wr.cell? ⟨gt, 3, none⟩ = some (.string t.d) := (blk_cell HTJ.out 3).trans rfl
      have y4 : wr.cell? ⟨gt, 4, none⟩ = some (.string t.e) := (blk_cell HTJ.out 4).trans rfl
      have y5 : wr.cell? ⟨gt, 5, none⟩ = some (.string t.f) := (blk_cell HTJ.out 5).trans rfl
      have z0 : wr.cell? ⟨gr, 0, none⟩ = some (.string ⟨#[]⟩) := (blk_cell HRJ.out 0).trans rfl
      have z1 : wr.cell? ⟨gr, 1, none⟩ = some (.string ⟨#[]⟩) := (blk_cell HRJ.out 1).trans rfl
      have z2 : wr.cell? ⟨gr, 2, none⟩ = some (.string ⟨#[]⟩) := (blk_cell HRJ.out 2).trans rfl
      have z3 : wr.cell? ⟨gr, 3, none⟩ = some (.string ⟨#[]⟩) := (blk_cell HRJ.out 3).trans rfl
      have z4 : wr.cell? ⟨gr, 4, none⟩ = some (.string ⟨#[]⟩) := (blk_cell HRJ.out 4).trans rfl
      have z5 : wr.cell? ⟨gr, 5, none⟩ = some (.string ⟨#[]⟩) := (blk_cell HRJ.out 5).trans rfl
      have fz0 := blk_frozen HRJ.out 0
      have fz1 := blk_frozen HRJ.out 1
      have fz2 := blk_frozen HRJ.out 2
      have fz3 := blk_frozen HRJ.out 3
      have fz4 := blk_frozen HRJ.out 4
      have fz5 := blk_frozen HRJ.out 5
      go_wp2
      have hf := fin_row HRJ.out (⟨t.a, t.b, t.c, t.d, t.e, t.f⟩ : Tp)
      have hbf := fin_below (show g ≤ gr from Nat.le_of_lt HO.out.1) HBJ.out (⟨t.a, t.b, t.c, t.d, t.e, t.f⟩ : Tp)
      have hcf := cur_fin HCJ.out HO.out.1 (⟨t.a, t.b, t.c, t.d, t.e, t.f⟩ : Tp) HRJ.out
      dsimp only [rowc] at hf hbf hcf
      generalize hW9 : ((((((wr.setCell ⟨gr, 0, none⟩ (.string t.a)).setCell ⟨gr, 1, none⟩ (.string t.b)).setCell ⟨gr, 2, none⟩ (.string t.c)).setCell ⟨gr, 3, none⟩ (.string t.d)).setCell ⟨gr, 4, none⟩ (.string t.e)).setCell ⟨gr, 5, none⟩ (.string t.f)) = W9 at hf hbf hcf ⊢
      clear hW9
      have d0 := (blk_cell hf 0).trans rfl
      have d1 := (blk_cell hf 1).trans rfl
      have d2 := (blk_cell hf 2).trans rfl
      have d3 := (blk_cell hf 3).trans rfl
      have d4 := (blk_cell hf 4).trans rfl
      have d5 := (blk_cell hf 5).trans rfl
      have he := HE.out
      subst he
      refine bodyPost_ret (v := .tuple #[tvv (t), .nilIface]) (by simp [results, Tryz.results29, go_sem, d0, d1, d2, d3, d4, d5, Tp.nil]) rfl ⟨rfl, hcf, hbf⟩
end Go.Proofs.YtlbbhgmpiednfaaGreatDoor.HTupL
/- tuple.ParseBytes. -/
namespace Go.Proofs.YtlbbhgmpiednfaaGreatDoor.HTupM
open Go.RowKit Go.Proofs.YtlbbhgmpiednfaaGreatDoorW.PrintWords Go.Proofs.YtlbbhgmpiednfaaGreatDoor.HLib Go.Proofs.YtlbbhgmpiednfaaGreatDoor.HGr Go.Proofs.YtlbbhgmpiednfaaGreatDoor.HErr Go.Proofs.YtlbbhgmpiednfaaGreatDoor.HNameP Go.Proofs.YtlbbhgmpiednfaaGreatDoor.HName Go.Proofs.YtlbbhgmpiednfaaGreatDoor.HTupP Go.Proofs.YtlbbhgmpiednfaaGreatDoor.HTupR Go.Proofs.YtlbbhgmpiednfaaGreatDoor.HTupX Go.Proofs.YtlbbhgmpiednfaaGreatDoor.HTupG Go.Proofs.YtlbbhgmpiednfaaGreatDoor.HWireS Go.Proofs.YtlbbhgmpiednfaaGreatDoor.HWire Go.Proofs.YtlbbhgmpiednfaaGreatDoor.HCur Go.Proofs.YtlbbhgmpiednfaaGreatDoor.HTupI Go.Proofs.YtlbbhgmpiednfaaGreatDoor.HTupL
set_option linter.unusedVariables false
set_option linter.unusedSimpArgs false
theorem readK_off (l : List Int) (hb : ∀ x ∈ l, 0 ≤ x ∧ x < 256) : ∀ (n j : Nat) (i : Int) (t : Tp), 0 ≤ i ∧ i ≤ l.length → 0 ≤ (readK l n j i t).2.2 ∧ (readK l n j i t).2.2 ≤ l.length
  | 0, j, i, t, h => h
  | n + 1, j, i, t, h => by
    cases hT : txt (l.drop i.toNat) (mov j) with
    | inl c => rw [readK_inl hT]; exact h
    | inr p =>
      obtain ⟨bs, k⟩ := p
      cases hS : chkS j (strOfNums bs) with
      | false => rw [readK_bad hT hS]; exact h
      | true =>
        rw [readK_ok hT hS]
        refine readK_off l hb n (j + 1) _ _ ?_
        have h2 := txt_le (fun x hx => hb x (List.mem_of_mem_drop hx)) hT
        rw [List.length_drop] at h2
        omega
theorem readK_nil (l : List Int) : ∀ (n j : Nat) (i : Int) (t : Tp) (c : Int), (readK l n j i t).2.1 = some c → (readK l n j i t).1 = Tp.nil
  | 0, j, i, t, c, h => by cases h
  | n + 1, j, i, t, c, h => by
    cases hT : txt (l.drop i.toNat) (mov j) with
    | inl c => rw [readK_inl hT]
    | inr p =>
      obtain ⟨bs, k⟩ := p
      cases hS : chkS j (strOfNums bs) with
      | false => rw [readK_bad hT hS]
      | true =>
        rw [readK_ok hT hS] at h ⊢
        exact readK_nil l n (j + 1) _ _ c h
def parseB (l : List Int) : Tp × Option Int × Int :=
  let r := readK l 6 0 0 Tp.nil
  match r.2.1 with
  | some c => (Tp.nil, some c, r.2.2)
  | none => if r.2.2 < l.length then (Tp.nil, some 16, r.2.2) else (r.1, none, r.2.2)
set_option maxRecDepth 20000 in
set_option maxHeartbeats 8000000 in
theorem parsebytes_any (w : World) (v : Value) (l : List Int) (hv : Bs w v l) (hl : l.length ≤ 1000000) (hb : ∀ x ∈ l, 0 ≤ x ∧ x < 256) (hG : GV w) :
    Calls Tryz.prog 22 #[v] w fun e w' => e = .returned (.tuple #[tvv (parseB l).1, ferr (parseB l).2.1 (parseB l).2.2]) ∧ Below w.heap.size w w' := by
  obtain ⟨W, hW⟩ : ∃ W, W = w.alloc (.cells zc 32) := ⟨_, rfl⟩
  have hbW : Below w.heap.size w W := by rw [hW]; exact below_alloc (B0 w) _
  have hr : W.heap[w.heap.size]? = some (.cells zc 32 (0, 0)) := by rw [hW]; exact blk_new w _
  have HN := Aside0.mk (new_B W v l (hv.below hbW) (by omega))
  have HB := Aside0.mk hbW
  have HG := Aside0.mk (hG.below hbW)
  have HGL := Aside0.mk (show 0 < W.heap.size ∧ 1 < W.heap.size from ⟨HG.out.1.1, HG.out.2.1⟩)
  obtain ⟨gr, hgr⟩ : ∃ gr, gr = w.heap.size := ⟨_, rfl⟩
  rw [← hgr] at hr
  have HR := Aside0.mk hr
  have HGE := Aside0.mk (show w.heap.size ≤ gr from by omega)
  have HL := Aside0.mk hl
  have HBY := Aside0.mk hb
  have HOF := Aside0.mk (readK_off l hb 6 0 0 Tp.nil ⟨by omega, by omega⟩)
  obtain ⟨r, hrr⟩ : ∃ r, r = readK l 6 0 0 Tp.nil := ⟨_, rfl⟩
  have HRD := Aside0.mk (fun (w : World) (g : Nat) (hC : CurB w g l 0) (hG : GV w) (hgg : 0 < g ∧ 1 < g) => read_any w g l 0 hC (by omega) (by omega) hl hb hG hgg)
  have HPB := Aside0.mk (show parseB l = match r.2.1 with | some c => (Tp.nil, some c, r.2.2) | none => if r.2.2 < l.length then (Tp.nil, some 16, r.2.2) else (r.1, none, r.2.2) from by rw [hrr]; rfl)
  have HNN := Aside0.mk (fun c => readK_nil l 6 0 0 Tp.nil c)
  rw [← hrr] at HRD HOF HNN
  clear hv hl hb hG hbW hr hrr
  go_enter Tryz.func22, Tryz.ntmps22
  go_upto_region 1 with fail
  rw [← hW, ← hgr]
  clear hW hgr
  go_wp2_with fail
  refine HN.out.mono ?_
  rintro e w1 ⟨g, rfl, hg, hC, hb⟩
  have HR1 := Aside0.mk (blk_below HR.out hb)
  have HC1 := Aside0.mk hC
  have HB1 := Aside0.mk (below_step HB.out hb)
  have HG1 := Aside0.mk (HG.out.below hb)
  have HGG := Aside0.mk (show 0 < g ∧ 1 < g ∧ w.heap.size < g ∧ gr < g from by have := HGL.out; have := blk_lt HR.out; have := HB.out.size; have := HGE.out; omega)
  clear hb hC hg HR HB HG HN HGL
  go_wp2_with fail
  refine (HRD.out w1 g HC1.out HG1.out ⟨HGG.out.1, HGG.out.2.1⟩).mono ?_
  rintro e w2 ⟨rfl, hC, hb⟩
  have HR2 := Aside0.mk ((hb.block gr HGG.out.2.2.2).trans HR1.out)
  have HC2 := Aside0.mk hC
  have HB2 := Aside0.mk (show Below w.heap.size w w2 from HB1.out.trans (hb.mono (Nat.le_of_lt HGG.out.2.2.1)))
  have HG2 := Aside0.mk (show GV w2 from ⟨HG1.out.1.below hb HGG.out.1, HG1.out.2.below hb HGG.out.2.1⟩)
  clear hb hC HR1 HC1 HB1 HG1 HRD
  obtain ⟨⟨ta, tb, tc, td, te, tf⟩, ec, at_⟩ := r
  dsimp only at HPB HOF HNN HC2 ⊢
  obtain ⟨V, hV⟩ : ∃ V, V = w2.alloc (.cells #[.string ta, .string tb, .string tc, .string td, .string te, .string tf] 32) := ⟨_, rfl⟩
  have hb2 : Below w2.heap.size w2 V := by rw [hV]; exact below_alloc (B0 w2) _
  have HT := Aside0.mk (show V.heap[w2.heap.size]? = some (.cells #[.string ta, .string tb, .string tc, .string td, .string te, .string tf] 32 (0, 0)) from by rw [hV]; exact blk_new w2 _)
  have HR3 := Aside0.mk (blk_below HR2.out hb2)
  have HC3 := Aside0.mk (HC2.out.below hb2)
  have HB3 := Aside0.mk (below_step HB2.out hb2)
  have HG3 := Aside0.mk (HG2.out.below hb2)
  obtain ⟨gt, hgt⟩ : ∃ gt, gt = w2.heap.size := ⟨_, rfl⟩
  rw [← hgt] at HT
  clear hb2 HR2 HC2 HB2 HG2
  go_upto_region 3 with fail
  rw [← hV, ← hgt]
  clear hV hgt
  cases ec with
  | some c =>
    have HP := Aside0.mk (show parseB l = (Tp.nil, some c, at_) from HPB.out)
    dsimp only [ferr]

    have z0 : V.cell? ⟨gr, 0, none⟩ = some (.string ⟨#[]⟩) := (blk_cell HR3.out 0).trans rfl
    have z1 : V.cell? ⟨gr, 1, none⟩ = some (.string ⟨#[]⟩) := (blk_cell HR3.out 1).trans rfl
    have z2 : V.cell? ⟨gr, 2, none⟩ = some (.string ⟨#[]⟩) := (blk_cell HR3.out 2).trans rfl
    have z3 : V.cell? ⟨gr, 3, none⟩ = some (.string ⟨#[]⟩) := (blk_cell HR3.out 3).trans rfl
    have z4 : V.cell? ⟨gr, 4, none⟩ = some (.string ⟨#[]⟩) := (blk_cell HR3.out 4).trans rfl
    have z5 : V.cell? ⟨gr, 5, none⟩ = some (.string ⟨#[]⟩) := (blk_cell HR3.out 5).trans rfl
    have fz0 := blk_frozen HR3.out 0
    have fz1 := blk_frozen HR3.out 1
    have fz2 := blk_frozen HR3.out 2
    have fz3 := blk_frozen HR3.out 3
    have fz4 := blk_frozen HR3.out 4
    have fz5 := blk_frozen HR3.out 5
    go_wp2
    have hf := fin_row HR3.out (⟨⟨#[]⟩, ⟨#[]⟩, ⟨#[]⟩, ⟨#[]⟩, ⟨#[]⟩, ⟨#[]⟩⟩ : Tp)
    have hbf := fin_below HGE.out HB3.out (⟨⟨#[]⟩, ⟨#[]⟩, ⟨#[]⟩, ⟨#[]⟩, ⟨#[]⟩, ⟨#[]⟩⟩ : Tp)
    dsimp only [rowc] at hf hbf
    generalize hW9 : ((((((V.setCell ⟨gr, 0, none⟩ (.string ⟨#[]⟩)).setCell ⟨gr, 1, none⟩ (.string ⟨#[]⟩)).setCell ⟨gr, 2, none⟩ (.string ⟨#[]⟩)).setCell ⟨gr, 3, none⟩ (.string ⟨#[]⟩)).setCell ⟨gr, 4, none⟩ (.string ⟨#[]⟩)).setCell ⟨gr, 5, none⟩ (.string ⟨#[]⟩)) = W9 at hf hbf ⊢
    clear hW9
    have d0 := (blk_cell hf 0).trans rfl
    have d1 := (blk_cell hf 1).trans rfl
    have d2 := (blk_cell hf 2).trans rfl
    have d3 := (blk_cell hf 3).trans rfl
    have d4 := (blk_cell hf 4).trans rfl
    have d5 := (blk_cell hf 5).trans rfl
    rw [HP.out]
    refine bodyPost_ret (v := .tuple #[tvv (Tp.nil), fltV c at_]) (by simp [results, Tryz.results22, go_sem, d0, d1, d2, d3, d4, d5, Tp.nil]) rfl ⟨rfl, hbf⟩
  | none =>
    dsimp only [ferr]
    go_wp2_with fail
    refine (end_at V g l at_ HC3.out.cur HOF.out.1 HOF.out.2 (by have := HL.out; omega)).mono ?_
    rintro e w4 ⟨rfl, ⟨⟨m, rfl⟩⟩⟩
    have hbm := pw_below_drewN (Below.refl V.heap.size V) m
    have HR4 := Aside0.mk (blk_below HR3.out hbm)
    have HC4 := Aside0.mk (HC3.out.below hbm)
    have HB4 := Aside0.mk (below_step HB3.out hbm)
    have HG4 := Aside0.mk (HG3.out.below hbm)
    have HT4 := Aside0.mk (blk_below HT.out hbm)
    clear hbm HR3 HC3 HB3 HG3 HT
    generalize V.drewN m = w4 at *
    by_cases hlt : at_ < (l.length : Int)
    · have HP := Aside0.mk (show parseB l = (Tp.nil, some 16, at_) from by rw [HPB.out]; exact if_pos hlt)
      rw [if_pos hlt]
      clear hlt
      dsimp only [errW]
      go_wp2_with fail
      refine (at_at w4 g l at_ HC4.out.cur).mono ?_
      rintro e w5 ⟨rfl, ⟨⟨m2, rfl⟩⟩⟩
      have hbm := pw_below_drewN (Below.refl w4.heap.size w4) m2
      have HR5 := Aside0.mk (blk_below HR4.out hbm)
      have HB5 := Aside0.mk (below_step HB4.out hbm)
      have HG5 := Aside0.mk (HG4.out.below hbm)
      clear hbm
      generalize w4.drewN m2 = w5 at *
      go_wp2_with fail
      refine (shift_C 16 at_ (by have := HOF.out; have := HL.out; omega) w5 HG5.out.2).mono ?_
      rintro e w6 ⟨rfl, hb⟩
      have HR6 := Aside0.mk (blk_below HR5.out hb)
      have HB6 := Aside0.mk (below_step HB5.out hb)
      clear hb
      have z0 : w6.cell? ⟨gr, 0, none⟩ = some (.string ⟨#[]⟩) := (blk_cell HR6.out 0).trans rfl
      have z1 : w6.cell? ⟨gr, 1, none⟩ = some (.string ⟨#[]⟩) := (blk_cell HR6.out 1).trans rfl
      have z2 : w6.cell? ⟨gr, 2, none⟩ = some (.string ⟨#[]⟩) := (blk_cell HR6.out 2).trans rfl
      have z3 : w6.cell? ⟨gr, 3, none⟩ = some (.string ⟨#[]⟩) := (blk_cell HR6.out 3).trans rfl
      have z4 : w6.cell? ⟨gr, 4, none⟩ = some (.string ⟨#[]⟩) := (blk_cell HR6.out 4).trans rfl
      have z5 : w6.cell? ⟨gr, 5, none⟩ = some (.string ⟨#[]⟩) := (blk_cell HR6.out 5).trans rfl
      have fz0 := blk_frozen HR6.out 0
      have fz1 := blk_frozen HR6.out 1
      have fz2 := blk_frozen HR6.out 2
      have fz3 := blk_frozen HR6.out 3
      have fz4 := blk_frozen HR6.out 4
      have fz5 := blk_frozen HR6.out 5
      go_wp2
      have hf := fin_row HR6.out (⟨⟨#[]⟩, ⟨#[]⟩, ⟨#[]⟩, ⟨#[]⟩, ⟨#[]⟩, ⟨#[]⟩⟩ : Tp)
      have hbf := fin_below HGE.out HB6.out (⟨⟨#[]⟩, ⟨#[]⟩, ⟨#[]⟩, ⟨#[]⟩, ⟨#[]⟩, ⟨#[]⟩⟩ : Tp)
      dsimp only [rowc] at hf hbf
      generalize hW9 : ((((((w6.setCell ⟨gr, 0, none⟩ (.string ⟨#[]⟩)).setCell ⟨gr, 1, none⟩ (.string ⟨#[]⟩)).setCell ⟨gr, 2, none⟩ (.string ⟨#[]⟩)).setCell ⟨gr, 3, none⟩ (.string ⟨#[]⟩)).setCell ⟨gr, 4, none⟩ (.string ⟨#[]⟩)).setCell ⟨gr, 5, none⟩ (.string ⟨#[]⟩)) = W9 at hf hbf ⊢
      clear hW9
      have d0 := (blk_cell hf 0).trans rfl
      have d1 := (blk_cell hf 1).trans rfl
      have d2 := (blk_cell hf 2).trans rfl
      have d3 := (blk_cell hf 3).trans rfl
      have d4 := (blk_cell hf 4).trans rfl
      have d5 := (blk_cell hf 5).trans rfl
      rw [HP.out]
      refine bodyPost_ret (v := .tuple #[tvv (Tp.nil), fltV 16 at_]) (by simp [results, Tryz.results22, go_sem, d0, d1, d2, d3, d4, d5, Tp.nil]) rfl ⟨rfl, hbf⟩
    · have HP := Aside0.mk (show parseB l = ((⟨ta, tb, tc, td, te, tf⟩ : Tp), none, at_) from by rw [HPB.out]; exact if_neg hlt)
      rw [if_neg hlt]
      clear hlt
      dsimp only [errW]
      have y0 : w4.cell? ⟨gt, 0, none⟩ = some (.string ta) := (blk_cell HT4.out 0).trans rfl
      have y1 : w4.cell? ⟨gt, 1, none⟩ = some (.string tb) := (blk_cell HT4.out 1).trans rfl
      have y2 : w4.cell? ⟨gt, 2, none⟩ = some (.string tc) := (blk_cell HT4.out 2).trans rfl
      have y3 : w4.cell? ⟨gt, 3, none⟩ = some (.string td) := (blk_cell HT4.out 3).trans rfl
      have y4 : w4.cell? ⟨gt, 4, none⟩ = some (.string te) := (blk_cell HT4.out 4).trans rfl
      have y5 : w4.cell? ⟨gt, 5, none⟩ = some (.string tf) := (blk_cell HT4.out 5).trans rfl
      have z0 : w4.cell? ⟨gr, 0, none⟩ = some (.string ⟨#[]⟩) := (blk_cell HR4.out 0).trans rfl
      have z1 : w4.cell? ⟨gr, 1, none⟩ = some (.string ⟨#[]⟩) := (blk_cell HR4.out 1).trans rfl
      have z2 : w4.cell? ⟨gr, 2, none⟩ = some (.string ⟨#[]⟩) := (blk_cell HR4.out 2).trans rfl
      have z3 : w4.cell? ⟨gr, 3, none⟩ = some (.string ⟨#[]⟩) := (blk_cell HR4.out 3).trans rfl
      have z4 : w4.cell? ⟨gr, 4, none⟩ = some (.string ⟨#[]⟩) := (blk_cell HR4.out 4).trans rfl
      have z5 : w4.cell? ⟨gr, 5, none⟩ = some (.string ⟨#[]⟩) := (blk_cell HR4.out 5).trans rfl
      have fz0 := blk_frozen HR4.out 0
      have fz1 := blk_frozen HR4.out 1
      have fz2 := blk_frozen HR4.out 2
      have fz3 := blk_frozen HR4.out 3
      have fz4 := blk_frozen HR4.out 4
      have fz5 := blk_frozen HR4.out 5
      go_wp2
      have hf := fin_row HR4.out (⟨ta, tb, tc, td, te, tf⟩ : Tp)
      have hbf := fin_below HGE.out HB4.out (⟨ta, tb, tc, td, te, tf⟩ : Tp)
      dsimp only [rowc] at hf hbf
      generalize hW9 : ((((((w4.setCell ⟨gr, 0, none⟩ (.string ta)).setCell ⟨gr, 1, none⟩ (.string tb)).setCell ⟨gr, 2, none⟩ (.string tc)).setCell ⟨gr, 3, none⟩ (.string td)).setCell ⟨gr, 4, none⟩ (.string te)).setCell ⟨gr, 5, none⟩ (.string tf)) = W9 at hf hbf ⊢
      clear hW9
      have d0 := (blk_cell hf 0).trans rfl
      have d1 := (blk_cell hf 1).trans rfl
      have d2 := (blk_cell hf 2).trans rfl
      have d3 := (blk_cell hf 3).trans rfl
      have d4 := (blk_cell hf 4).trans rfl
      have d5 := (blk_cell hf 5).trans rfl
      rw [HP.out]
      refine bodyPost_ret (v := .tuple #[tvv (⟨ta, tb, tc, td, te, tf⟩), .nilIface]) (by simp [results, Tryz.results22, go_sem, d0, d1, d2, d3, d4, d5, Tp.nil]) rfl ⟨rfl, hbf⟩
end Go.Proofs.YtlbbhgmpiednfaaGreatDoor.HTupM
/- Tuples, plain: bytes lead back. -/
namespace Go.Proofs.YtlbbhgmpiednfaaGreatDoor.HTupN
open Go.RowKit Go.Proofs.YtlbbhgmpiednfaaGreatDoorW.PrintWords Go.Proofs.YtlbbhgmpiednfaaGreatDoor.HLib Go.Proofs.YtlbbhgmpiednfaaGreatDoor.HNameP Go.Proofs.YtlbbhgmpiednfaaGreatDoor.HName Go.Proofs.YtlbbhgmpiednfaaGreatDoor.HTupP Go.Proofs.YtlbbhgmpiednfaaGreatDoor.HTupR Go.Proofs.YtlbbhgmpiednfaaGreatDoor.HTupX Go.Proofs.YtlbbhgmpiednfaaGreatDoor.HWireS Go.Proofs.YtlbbhgmpiednfaaGreatDoor.HWire Go.Proofs.YtlbbhgmpiednfaaGreatDoor.HPut Go.Proofs.YtlbbhgmpiednfaaGreatDoor.HCur Go.Proofs.YtlbbhgmpiednfaaGreatDoor.HTupI Go.Proofs.YtlbbhgmpiednfaaGreatDoor.HTupL Go.Proofs.YtlbbhgmpiednfaaGreatDoor.HTupM Go.Proofs.YtlbbhgmpiednfaaGreatDoor.HTupB
set_option linter.unusedVariables false
set_option linter.unusedSimpArgs false

theorem nums_bytes (s : ByteArray) : strOfNums (bytesOf s) = s := by
  apply ByteArray.ext
  apply Array.toList_inj.mp
  rw [strOfNums_data]
  unfold bytesOf
  rw [List.map_map]
  conv => rhs; rw [← List.map_id s.data.toList]
  apply List.map_congr_left
  intro b _
  simp
theorem bytes_nums (xs : List Int) (h : ∀ x ∈ xs, 0 ≤ x ∧ x < 256) : bytesOf (strOfNums xs) = xs := by
  unfold bytesOf
  rw [strOfNums_data, List.map_map]
  conv => rhs; rw [← List.map_id xs]
  apply List.map_congr_left
  intro b hb
  have := h b hb
  simp only [Function.comp_apply, id_eq, UInt8.toNat_ofNat']
  omega
theorem bytes_byte (s : ByteArray) : ∀ b ∈ bytesOf s, 0 ≤ b ∧ b < 256 := by
  intro b hb
  simp only [bytesOf, List.mem_map] at hb
  obtain ⟨u, _, rfl⟩ := hb
  have := u.toNat_lt
  omega
theorem encText_byte (s : ByteArray) : ∀ b ∈ encText s, 0 ≤ b ∧ b < 256 := by
  intro b hb
  simp only [encText, List.mem_append] at hb
  rcases hb with hb | hb
  · exact enc_byte _ b hb
  · exact bytes_byte s b hb
theorem txt_enc (s : ByteArray) (rest : List Int) (limit : Int) (h : (s.size : Int) ≤ limit) (hs : s.size < 18446744073709551616) : txt (encText s ++ rest) limit = .inr (bytesOf s, (encText s).length) := by
  have hn : num (encText s ++ rest) = .inr ((s.size : Int), (enc s.size).length) := by
    unfold encText
    rw [List.append_assoc]
    exact num_enc s.size hs _
  have hl : (encText s).length = (enc s.size).length + s.size := by unfold encText; rw [List.length_append, bytesOf_length]
  rw [txt_ok hn (by omega) (by rw [List.length_append, hl]; omega)]
  have e1 : (encText s ++ rest).drop (enc s.size).length = bytesOf s ++ rest := by
    unfold encText
    rw [List.append_assoc, List.drop_left]
  rw [e1, show ((s.size : Int)).toNat = (bytesOf s).length from by rw [bytesOf_length]; omega, List.take_left, hl, bytesOf_length]
theorem txt_back {r : List Int} (hb : ∀ x ∈ r, 0 ≤ x ∧ x < 256) {limit : Int} {bs : List Int} {k : Nat} (h : txt r limit = .inr (bs, k)) : True := trivial
/-- The bytes from part j on. -/
def tailp (t : Tp) (n : Nat) : List Int := (List.range n).flatMap fun i => encText (str t (6 - n + i))
theorem tailp_succ (t : Tp) (n : Nat) (hn : n < 6) : tailp t (n + 1) = encText (str t (6 - (n + 1))) ++ tailp t n := by
  unfold tailp
  rw [List.range_succ_eq_map, List.flatMap_cons, List.flatMap_map, List.flatMap_def, List.flatMap_def]
  congr 2
  apply List.map_congr_left
  intro i _
  show encText (str t (6 - (n + 1) + (i + 1))) = encText (str t (6 - n + i))
  rw [show 6 - (n + 1) + (i + 1) = 6 - n + i from by omega]
theorem put_split (t : Tp) : ∀ n, n ≤ 6 → putP t = outp t (6 - n) ++ tailp t n
  | 0, _ => by rw [← outp_put]; simp [tailp]
  | n + 1, h => by
    rw [tailp_succ t n (by omega), put_split t n (by omega), show 6 - n = (6 - (n + 1)) + 1 from by omega, outp_succ, List.append_assoc]
theorem chk_str (t : Tp) (j : Nat) (hj : j < 6) : chkS j (str t j) = chk t j := by
  match j, hj with
  | 0, _ | 1, _ | 2, _ | 3, _ | 4, _ | 5, _ => rfl
def upT (t : Tp) (j : Nat) : Tp := match j with | 0 => Tp.nil | 1 => { Tp.nil with a := t.a } | 2 => { Tp.nil with a := t.a, b := t.b } | 3 => { Tp.nil with a := t.a, b := t.b, c := t.c } | 4 => { Tp.nil with a := t.a, b := t.b, c := t.c, d := t.d } | 5 => { Tp.nil with a := t.a, b := t.b, c := t.c, d := t.d, e := t.e } | _ => t
theorem upT_set (t : Tp) (j : Nat) (hj : j < 6) : setS (upT t j) j (str t j) = upT t (j + 1) := by
  match j, hj with
  | 0, _ | 1, _ | 2, _ | 3, _ | 4, _ | 5, _ => rfl
theorem chk_lim (t : Tp) (j : Nat) (hj : j < 6) (h : chk t j = true) : ((str t j).size : Int) ≤ mov j := by
  match j, hj with
  | 0, _ => have := isP_size (s := t.a) h; show (t.a.size : Int) ≤ 64; omega
  | 1, _ => have := idP_size (s := t.b) h; show (t.b.size : Int) ≤ 128; omega
  | 2, _ => have := isP_size (s := t.c) h; show (t.c.size : Int) ≤ 64; omega
  | 3, _ => have := isP_size (s := t.d) h; show (t.d.size : Int) ≤ 64; omega
  | 4, _ => have := idP_size (s := t.e) h; show (t.e.size : Int) ≤ 128; omega
  | 5, _ => have := opt_size (s := t.f) h; show (t.f.size : Int) ≤ 64; omega
theorem right_chk {t : Tp} (h : rightP t = true) (j : Nat) : chk t j = true := by
  obtain ⟨r0, r1, r2, r3, r4, r5⟩ := (upto_right.rightP_iff' t).1 h
  unfold chk
  split <;> assumption
theorem readK_put (t : Tp) (hr : rightP t = true) : ∀ n, n ≤ 6 → readK (putP t) n (6 - n) ((outp t (6 - n)).length : Int) (upT t (6 - n)) = (t, none, ((putP t).length : Int))
  | 0, _ => by
    show (upT t 6, none, ((outp t 6).length : Int)) = _
    rw [outp_put]
    rfl
  | n + 1, h => by
    have hc := right_chk hr (6 - (n + 1))
    have hz := chk_size t _ hc
    have hT : txt ((putP t).drop ((outp t (6 - (n + 1))).length : Int).toNat) (mov (6 - (n + 1))) = .inr (bytesOf (str t (6 - (n + 1))), (encText (str t (6 - (n + 1)))).length) := by
      rw [put_split t (n + 1) h, Int.toNat_natCast, List.drop_left, tailp_succ t n (by omega)]
      exact txt_enc _ _ _ (chk_lim t _ (by omega) hc) (by omega)
    rw [readK_ok hT (by rw [nums_bytes, chk_str t _ (by omega)]; exact hc), nums_bytes, upT_set t _ (by omega)]
    have e : 6 - (n + 1) + 1 = 6 - n := by omega
    have e2 : ((outp t (6 - (n + 1))).length : Int) + ((encText (str t (6 - (n + 1)))).length : Int) = ((outp t (6 - n)).length : Int) := by
      rw [← e, outp_succ, List.length_append]
      omega
    rw [e, e2]
    exact readK_put t hr n (by omega)
theorem parseB_put (t : Tp) (hr : rightP t = true) : parseB (putP t) = (t, none, ((putP t).length : Int)) := by
  have h := readK_put t hr 6 (Nat.le_refl _)
  have h' : readK (putP t) 6 0 0 Tp.nil = (t, none, ((putP t).length : Int)) := h
  unfold parseB
  rw [h']
  simp
theorem put_byte (t : Tp) : ∀ b ∈ putP t, 0 ≤ b ∧ b < 256 := by
  intro b hb
  rw [← outp_put] at hb
  simp only [outp, List.mem_flatMap] at hb
  obtain ⟨i, _, hi⟩ := hb
  exact encText_byte _ b hi
theorem put_len (t : Tp) (hr : rightP t = true) : (putP t).length ≤ 828 := by
  have h := outp_len t (fun j => chk_size t j (right_chk hr j)) 6
  rw [outp_put] at h
  exact h
end Go.Proofs.YtlbbhgmpiednfaaGreatDoor.HTupN
