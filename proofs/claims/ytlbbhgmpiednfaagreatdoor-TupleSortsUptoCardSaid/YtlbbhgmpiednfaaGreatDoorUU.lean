/- told. -/
import Derived.Test.YtlbbhgmpiednfaaGreatDoorUN
import Derived.Test.YtlbbhgmpiednfaaGreatDoorUY
import Derived.Test.YtlbbhgmpiednfaaGreatDoorUB
import Derived.Test.YtlbbhgmpiednfaaGreatDoorUS
import Derived.Test.YtlbbhgmpiednfaaGreatDoorUP
namespace Go.Proofs.YtlbbhgmpiednfaaGreatDoor.HTup
open Go.RowKit Go.Proofs.YtlbbhgmpiednfaaGreatDoorW.PrintWords Go.Proofs.YtlbbhgmpiednfaaGreatDoor.HLib Go.Proofs.YtlbbhgmpiednfaaGreatDoor.HNameP Go.Proofs.YtlbbhgmpiednfaaGreatDoor.HErr Go.Proofs.YtlbbhgmpiednfaaGreatDoor.HName
set_option linter.unusedVariables false
set_option linter.unusedSimpArgs false

set_option maxHeartbeats 4000000 in
theorem told_any (e : Option (Int × Int)) (c a : Int) (w : World) (hG : ErrG w) : Calls Tryz.prog 26 #[errV e, .int .i64 c, .int .i64 a] w fun r w' => r = .returned (.bool (toldP e c a)) ∧ Below w.heap.size w w' := by
  have HG := Aside0.mk hG
  clear hG
  cases e with
  | none =>
    by_cases hc : c = 0
    · subst hc
      go_enter Tryz.func26, Tryz.ntmps26
      unfold errV
      go_wp2
      go_ret
      exact ⟨rfl, B0 w⟩
    · have hc1 : (c == 0) = false := by simpa using hc
      have HT := Aside0.mk (show toldP none c a = false from decide_eq_false hc)
      clear hc
      go_enter Tryz.func26, Tryz.ntmps26
      unfold errV
      go_wp2_with fail
      refine (code_nil _).mono ?_
      rintro r w1 ⟨rfl, hb1⟩
      have HB1 := Aside0.mk hb1
      clear hb1
      go_wp2_with fail
      refine (at_nil _).mono ?_
      rintro r w2 ⟨rfl, hb2⟩
      have HB2 := Aside0.mk (below_step HB1.out hb2)
      clear hb2
      go_wp2
      go_ret
      exact ⟨by rw [HT.out]; rfl, HB2.out⟩
  | some p =>
    obtain ⟨n, m⟩ := p
    by_cases hc : c = 0
    · have hc1 : (c == 0) = true := by simpa using hc
      have HT := Aside0.mk (show toldP (some (n, m)) c a = false from by simp [toldP, hc])
      clear hc
      go_enter Tryz.func26, Tryz.ntmps26
      unfold errV
      go_wp2
      go_ret
      exact ⟨by rw [HT.out]; rfl, B0 w⟩
    · have hc1 : (c == 0) = false := by simpa using hc
      have HT := Aside0.mk (show toldP (some (n, m)) c a = (decide (n = c) && decide (m = a)) from by simp [toldP, hc])
      clear hc
      go_enter Tryz.func26, Tryz.ntmps26
      unfold errV
      go_wp2_with fail
      refine (code_F _ _ _ HG.out).mono ?_
      rintro r w1 ⟨rfl, hb1⟩
      have HB1 := Aside0.mk hb1
      clear hb1
      go_wp2_with fail
      refine (at_F _ _ _ (HG.out.below HB1.out HG.out.1)).mono ?_
      rintro r w2 ⟨rfl, hb2⟩
      have HB2 := Aside0.mk (below_step HB1.out hb2)
      clear hb2
      by_cases h1 : n = c
      · have d1 : (n == c) = true := by simpa using h1
        by_cases h2 : m = a
        · have d2 : (m == a) = true := by simpa using h2
          rw [decide_eq_true h1, decide_eq_true h2] at HT
          clear h1 h2
          go_wp2
          go_ret
          exact ⟨by rw [HT.out]; rfl, HB2.out⟩
        · have d2 : (m == a) = false := by simpa using h2
          rw [decide_eq_true h1, decide_eq_false h2] at HT
          clear h1 h2
          go_wp2
          go_ret
          exact ⟨by rw [HT.out]; rfl, HB2.out⟩
      · have d1 : (n == c) = false := by simpa using h1
        rw [decide_eq_false h1, Bool.false_and] at HT
        clear h1
        go_wp2
        go_ret
        exact ⟨by rw [HT.out]; rfl, HB2.out⟩

end Go.Proofs.YtlbbhgmpiednfaaGreatDoor.HTup
/- The laws of tuples: awake. -/
namespace Go.Proofs.YtlbbhgmpiednfaaGreatDoor.HTupU
open Go.RowKit Go.Proofs.YtlbbhgmpiednfaaGreatDoorW.PrintWords Go.Proofs.YtlbbhgmpiednfaaGreatDoor.HLib Go.Proofs.YtlbbhgmpiednfaaGreatDoor.HGr Go.Proofs.YtlbbhgmpiednfaaGreatDoor.HErr Go.Proofs.YtlbbhgmpiednfaaGreatDoor.HNameP Go.Proofs.YtlbbhgmpiednfaaGreatDoor.HName Go.Proofs.YtlbbhgmpiednfaaGreatDoor.HTupP Go.Proofs.YtlbbhgmpiednfaaGreatDoor.HTupR Go.Proofs.YtlbbhgmpiednfaaGreatDoor.HTupX Go.Proofs.YtlbbhgmpiednfaaGreatDoor.HTupG Go.Proofs.YtlbbhgmpiednfaaGreatDoor.HTupH Go.Proofs.YtlbbhgmpiednfaaGreatDoor.HTupJ Go.Proofs.YtlbbhgmpiednfaaGreatDoor.HWireS Go.Proofs.YtlbbhgmpiednfaaGreatDoor.HWire Go.Proofs.YtlbbhgmpiednfaaGreatDoor.HPut Go.Proofs.YtlbbhgmpiednfaaGreatDoor.HCur Go.Proofs.YtlbbhgmpiednfaaGreatDoor.HTupI Go.Proofs.YtlbbhgmpiednfaaGreatDoor.HTupL Go.Proofs.YtlbbhgmpiednfaaGreatDoor.HTupM Go.Proofs.YtlbbhgmpiednfaaGreatDoor.HTupB Go.Proofs.YtlbbhgmpiednfaaGreatDoor.HTupN Go.Proofs.YtlbbhgmpiednfaaGreatDoor.PTupleSorts
set_option linter.unusedVariables false
set_option linter.unusedSimpArgs false

abbrev S1 : ByteArray := ⟨#[100, 111, 99, 117, 109, 101, 110, 116, 58, 97, 35, 118, 105, 101, 119, 101, 114, 64, 103, 114, 111, 117, 112, 58, 98, 35, 109, 101, 109, 98, 101, 114]⟩
def T1 : Tp := ⟨⟨#[100, 111, 99, 117, 109, 101, 110, 116]⟩, ⟨#[97]⟩, ⟨#[118, 105, 101, 119, 101, 114]⟩, ⟨#[103, 114, 111, 117, 112]⟩, ⟨#[98]⟩, ⟨#[109, 101, 109, 98, 101, 114]⟩⟩
theorem right_T1 : rightP T1 = true := by decide +kernel
theorem text_T1 : textP T1 = S1 := by decide +kernel
theorem parse_T1 : parseT S1 = (T1, none) := by rw [← text_T1]; exact parse_text T1 right_T1
theorem parse_ab : parseT ⟨#[97, 58, 98]⟩ = (Tp.nil, some (6, 3)) := by
  have h : (cutP ⟨#[97, 58, 98]⟩ 64).2.2 = false := by decide +kernel
  unfold parseT
  dsimp only
  rw [if_pos (Or.inl h)]
  rfl
def s32 (t : Tp) : S32 := ⟨⟨t.a, t.b⟩, t.c, ⟨t.d, t.e⟩, t.f⟩
theorem srd_two (x : S32) : (HTupW.srd [x, x]).length = 1 := by
  have hp : (HTupW.srt [x, x]).Perm [x, x] := List.mergeSort_perm _ _
  have hl := HTupW.srt_len [x, x]
  unfold HTupW.srd
  match h : HTupW.srt [x, x], hl with
  | [a, b], _ =>
    rw [h] at hp
    have ha : a = x := by have := hp.mem_iff.1 (List.mem_cons_self (a := a)); simpa using this
    have hb : b = x := by have := hp.mem_iff.1 (show b ∈ [a, b] by simp); simpa using this
    subst ha
    subst hb
    simp [HTupD.dd, HTupD.ddF]
theorem two_C (w : World) (t : Tp) : Kd.C k32 (w.alloc (.cells #[.string t.a, .string t.b, .string t.c, .string t.d, .string t.e, .string t.f, .string t.a, .string t.b, .string t.c, .string t.d, .string t.e, .string t.f] 32)) (some ⟨w.heap.size, 0, none⟩) [s32 t, s32 t].length [s32 t, s32 t] := by
  have hb := blk_new w (.cells #[.string t.a, .string t.b, .string t.c, .string t.d, .string t.e, .string t.f, .string t.a, .string t.b, .string t.c, .string t.d, .string t.e, .string t.f] 32)
  refine ⟨rfl, show (2 : Nat) ≤ 9223372036854775807 by decide, fun hp => ⟨_, rfl, fun j p hj => ⟨[.string t.a, .string t.b, .string t.c, .string t.d, .string t.e, .string t.f], rfl, ?_, fun i u hu => ?_⟩⟩⟩
  · have : p = s32 t := by
      match j, hj with
      | 0, hj => exact (Option.some.inj hj).symm
      | 1, hj => exact (Option.some.inj hj).symm
    subst this
    exact k32_mk _ (s32 t)
  · have hj2 : j < 2 := (List.getElem?_eq_some_iff.1 hj).1
    rw [show ((⟨w.heap.size, 0, none⟩ : Addr).add (j * k32.sz + i)) = ⟨w.heap.size, j * 6 + i, none⟩ from by show (⟨w.heap.size, 0, none⟩ : Addr).add (j * 6 + i) = _; simp [Addr.add]; omega]
    refine (blk_cell hb _).trans ?_
    match j, hj2, i, hu with
    | 0, _, 0, hu | 0, _, 1, hu | 0, _, 2, hu | 0, _, 3, hu | 0, _, 4, hu | 0, _, 5, hu => simpa using hu
    | 1, _, 0, hu | 1, _, 1, hu | 1, _, 2, hu | 1, _, 3, hu | 1, _, 4, hu | 1, _, 5, hu => simpa using hu
theorem eq_self (t : Tp) (w : World) : (Op.equalIn 10000 32 (tvv t) (tvv t)).run Tryz.prog w = .ok true w := by
  rw [show (10000 : Nat) = 9997 + 3 from rfl, eqA32]
  simp
set_option maxRecDepth 20000 in
set_option maxHeartbeats 8000000 in
theorem awake_any (w : World) (hG : GV w) : Calls Tryz.prog 8 #[] w fun e w' => e = .returned (.bool true) ∧ Below w.heap.size w w' := by
  have HG := Aside0.mk hG
  clear hG
  obtain ⟨t, ht⟩ : ∃ t, t = T1 := ⟨_, rfl⟩
  have HP := Aside0.mk (show parseT S1 = (t, none) from by rw [ht]; exact parse_T1)
  have HR := Aside0.mk (show rightP t = true from by rw [ht]; exact right_T1)
  have HX := Aside0.mk (show textP t = S1 from by rw [ht]; exact text_T1)
  have hf : (t.f.toList == [109, 101, 109, 98, 101, 114]) = true := by rw [ht]; decide +kernel
  have HEQ := Aside0.mk (fun (w : World) => eq_self t w)
  clear ht
  go_enter Tryz.func8, Tryz.ntmps8
  go_wp2_with fail
  refine (parse_any S1 (by decide) w HG.out).mono ?_
  rintro e w1 ⟨rfl, hb⟩
  rw [HP.out]
  dsimp only [errV]
  obtain ⟨V1, hV1⟩ : ∃ V, V = w1.alloc (.cells (rowc t) 32) := ⟨_, rfl⟩
  have hb1 : Below w1.heap.size w1 V1 := by rw [hV1]; exact below_alloc (B0 w1) _
  have HT := Aside0.mk (show V1.heap[w1.heap.size]? = some (.cells (rowc t) 32 (0, 0)) from by rw [hV1]; exact blk_new w1 _)
  have HB1 := Aside0.mk (below_step hb hb1)
  have HG1 := Aside0.mk ((HG.out.below hb).below hb1)
  obtain ⟨g2, hg2⟩ : ∃ g, g = w1.heap.size := ⟨_, rfl⟩
  rw [← hg2] at HT
  clear hb hb1 HG
  go_upto_region 3 with fail
  rw [← hV1, ← hg2]
  clear hV1 hg2
  have c0 : V1.cell? ⟨g2, 0, none⟩ = some (.string t.a) := (blk_cell HT.out 0).trans rfl
  have c1 : V1.cell? ⟨g2, 1, none⟩ = some (.string t.b) := (blk_cell HT.out 1).trans rfl
  have c2 : V1.cell? ⟨g2, 2, none⟩ = some (.string t.c) := (blk_cell HT.out 2).trans rfl
  have c3 : V1.cell? ⟨g2, 3, none⟩ = some (.string t.d) := (blk_cell HT.out 3).trans rfl
  have c4 : V1.cell? ⟨g2, 4, none⟩ = some (.string t.e) := (blk_cell HT.out 4).trans rfl
  have c5 : V1.cell? ⟨g2, 5, none⟩ = some (.string t.f) := (blk_cell HT.out 5).trans rfl
  go_wp2_with fail
  refine (text_right t V1 HG1.out.1 HR.out).mono ?_
  rintro e w2 ⟨rfl, hb⟩
  rw [HX.out]
  have HT2 := Aside0.mk (blk_below HT.out hb)
  have HB2 := Aside0.mk (below_step HB1.out hb)
  have HG2 := Aside0.mk (HG1.out.below hb)
  clear hb HT HB1 HG1 c0 c1 c2 c3 c4 c5
  have c0 : w2.cell? ⟨g2, 0, none⟩ = some (.string t.a) := (blk_cell HT2.out 0).trans rfl
  have c1 : w2.cell? ⟨g2, 1, none⟩ = some (.string t.b) := (blk_cell HT2.out 1).trans rfl
  have c2 : w2.cell? ⟨g2, 2, none⟩ = some (.string t.c) := (blk_cell HT2.out 2).trans rfl
  have c3 : w2.cell? ⟨g2, 3, none⟩ = some (.string t.d) := (blk_cell HT2.out 3).trans rfl
  have c4 : w2.cell? ⟨g2, 4, none⟩ = some (.string t.e) := (blk_cell HT2.out 4).trans rfl
  have c5 : w2.cell? ⟨g2, 5, none⟩ = some (.string t.f) := (blk_cell HT2.out 5).trans rfl
  go_wp2_with fail
  refine (put_right t w2 HG2.out.1 HR.out).mono ?_
  rintro e w3 ⟨v, rfl, hR, hb⟩
  have HBS := Aside0.mk (Bs.of_R hR)
  have HT3 := Aside0.mk (blk_below HT2.out hb)
  have HB3 := Aside0.mk (below_step HB2.out hb)
  have HG3 := Aside0.mk (HG2.out.below hb)
  clear hR hb HT2 HB2 HG2 c0 c1 c2 c3 c4 c5
  go_wp2_with fail
  refine (parsebytes_any w3 v (putP t) HBS.out (by have := put_len t HR.out; omega) (put_byte t) HG3.out).mono ?_
  rintro e w4 ⟨rfl, hb⟩
  rw [parseB_put t HR.out]
  dsimp only [ferr]
  obtain ⟨V4, hV4⟩ : ∃ V, V = w4.alloc (.cells (rowc t) 32) := ⟨_, rfl⟩
  have hb1 : Below w4.heap.size w4 V4 := by rw [hV4]; exact below_alloc (B0 w4) _
  have HU := Aside0.mk (show V4.heap[w4.heap.size]? = some (.cells (rowc t) 32 (0, 0)) from by rw [hV4]; exact blk_new w4 _)
  have HT4 := Aside0.mk (blk_below (blk_below HT3.out hb) hb1)
  have HB4 := Aside0.mk (below_step (below_step HB3.out hb) hb1)
  have HG4 := Aside0.mk ((HG3.out.below hb).below hb1)
  obtain ⟨g8, hg8⟩ : ∃ g, g = w4.heap.size := ⟨_, rfl⟩
  rw [← hg8] at HU
  clear hb hb1 HT3 HB3 HG3 HBS
  go_upto_region 6 with fail
  rw [← hV4, ← hg8]
  clear hV4 hg8
  go_wp2_with fail
  refine (parse_any ⟨#[97, 58, 98]⟩ (by decide) V4 HG4.out).mono ?_
  rintro e w5 ⟨rfl, hb⟩
  rw [parse_ab]
  obtain ⟨V5, hV5⟩ : ∃ V, V = w5.alloc (.cells (rowc Tp.nil) 32) := ⟨_, rfl⟩
  have hb1 : Below w5.heap.size w5 V5 := by rw [hV5]; exact below_alloc (B0 w5) _
  have HT5 := Aside0.mk (blk_below (blk_below HT4.out hb) hb1)
  have HU5 := Aside0.mk (blk_below (blk_below HU.out hb) hb1)
  have HB5 := Aside0.mk (below_step (below_step HB4.out hb) hb1)
  have HG5 := Aside0.mk ((HG4.out.below hb).below hb1)
  clear hb hb1 HT4 HU HB4 HG4
  go_upto_region 7 with fail
  rw [← hV5]
  clear hV5
  have c0 : V5.cell? ⟨g2, 0, none⟩ = some (.string t.a) := (blk_cell HT5.out 0).trans rfl
  have c1 : V5.cell? ⟨g2, 1, none⟩ = some (.string t.b) := (blk_cell HT5.out 1).trans rfl
  have c2 : V5.cell? ⟨g2, 2, none⟩ = some (.string t.c) := (blk_cell HT5.out 2).trans rfl
  have c3 : V5.cell? ⟨g2, 3, none⟩ = some (.string t.d) := (blk_cell HT5.out 3).trans rfl
  have c4 : V5.cell? ⟨g2, 4, none⟩ = some (.string t.e) := (blk_cell HT5.out 4).trans rfl
  have c5 : V5.cell? ⟨g2, 5, none⟩ = some (.string t.f) := (blk_cell HT5.out 5).trans rfl
  have u0 : V5.cell? ⟨g8, 0, none⟩ = some (.string t.a) := (blk_cell HU5.out 0).trans rfl
  have u1 : V5.cell? ⟨g8, 1, none⟩ = some (.string t.b) := (blk_cell HU5.out 1).trans rfl
  have u2 : V5.cell? ⟨g8, 2, none⟩ = some (.string t.c) := (blk_cell HU5.out 2).trans rfl
  have u3 : V5.cell? ⟨g8, 3, none⟩ = some (.string t.d) := (blk_cell HU5.out 3).trans rfl
  have u4 : V5.cell? ⟨g8, 4, none⟩ = some (.string t.e) := (blk_cell HU5.out 4).trans rfl
  have u5 : V5.cell? ⟨g8, 5, none⟩ = some (.string t.f) := (blk_cell HU5.out 5).trans rfl
  have heq := HEQ.out
  go_wp2_with fail
  refine (HTup.told_any (some (6, 3)) 6 3 V5 HG5.out.2).mono ?_
  rintro e w6 ⟨rfl, hb⟩
  rw [show toldP (some (6, 3)) 6 3 = true from by decide]
  have HT6 := Aside0.mk (blk_below HT5.out hb)
  have HB6 := Aside0.mk (below_step HB5.out hb)
  have HG6 := Aside0.mk (HG5.out.below hb)
  clear hb HT5 HU5 HB5 HG5 c0 c1 c2 c3 c4 c5 u0 u1 u2 u3 u4 u5 heq HEQ
  have c0 : w6.cell? ⟨g2, 0, none⟩ = some (.string t.a) := (blk_cell HT6.out 0).trans rfl
  have c1 : w6.cell? ⟨g2, 1, none⟩ = some (.string t.b) := (blk_cell HT6.out 1).trans rfl
  have c2 : w6.cell? ⟨g2, 2, none⟩ = some (.string t.c) := (blk_cell HT6.out 2).trans rfl
  have c3 : w6.cell? ⟨g2, 3, none⟩ = some (.string t.d) := (blk_cell HT6.out 3).trans rfl
  have c4 : w6.cell? ⟨g2, 4, none⟩ = some (.string t.e) := (blk_cell HT6.out 4).trans rfl
  have c5 : w6.cell? ⟨g2, 5, none⟩ = some (.string t.f) := (blk_cell HT6.out 5).trans rfl
  go_wp2_with fail
  refine (right_any t w6 HG6.out.1).mono ?_
  rintro e w7 ⟨rfl, hg⟩
  rw [HR.out]
  have HT7 := Aside0.mk (blk_below HT6.out hg.below)
  have HB7 := Aside0.mk (below_step HB6.out hg.below)
  have HG7 := Aside0.mk (HG6.out.below hg.below)
  clear hg HT6 HB6 HG6 c0 c1 c2 c3 c4 c5
  go_wp2_with fail
  refine (right_any Tp.nil w7 HG7.out.1).mono ?_
  rintro e w8 ⟨rfl, hg⟩
  rw [show rightP Tp.nil = false from by decide +kernel]
  have HT8 := Aside0.mk (blk_below HT7.out hg.below)
  have HB8 := Aside0.mk (below_step HB7.out hg.below)
  clear hg HT7 HB7 HG7
  have c0 : w8.cell? ⟨g2, 0, none⟩ = some (.string t.a) := (blk_cell HT8.out 0).trans rfl
  have c1 : w8.cell? ⟨g2, 1, none⟩ = some (.string t.b) := (blk_cell HT8.out 1).trans rfl
  have c2 : w8.cell? ⟨g2, 2, none⟩ = some (.string t.c) := (blk_cell HT8.out 2).trans rfl
  have c3 : w8.cell? ⟨g2, 3, none⟩ = some (.string t.d) := (blk_cell HT8.out 3).trans rfl
  have c4 : w8.cell? ⟨g2, 4, none⟩ = some (.string t.e) := (blk_cell HT8.out 4).trans rfl
  have c5 : w8.cell? ⟨g2, 5, none⟩ = some (.string t.f) := (blk_cell HT8.out 5).trans rfl
  go_wp2_with fail
  refine (HTupC.compare_gr t.a t.b t.c t.d t.e t.f t.a t.b t.c t.d t.e t.f w8).mono ?_
  rintro e w9 ⟨rfl, hg⟩
  rw [HCmp.cmpS_self, HCmp.cmpS_self, HCmp.cmpS_self, HCmp.cmpS_self, HCmp.cmpS_self, HCmp.cmpS_self, show HTupC.orL [0, 0, 0, 0, 0, 0] = 0 from rfl]
  have HT9 := Aside0.mk (blk_below HT8.out hg.below)
  have HB9 := Aside0.mk (below_step HB8.out hg.below)
  clear hg HT8 HB8 c0 c1 c2 c3 c4 c5
  have c0 : w9.cell? ⟨g2, 0, none⟩ = some (.string t.a) := (blk_cell HT9.out 0).trans rfl
  have c1 : w9.cell? ⟨g2, 1, none⟩ = some (.string t.b) := (blk_cell HT9.out 1).trans rfl
  have c2 : w9.cell? ⟨g2, 2, none⟩ = some (.string t.c) := (blk_cell HT9.out 2).trans rfl
  have c3 : w9.cell? ⟨g2, 3, none⟩ = some (.string t.d) := (blk_cell HT9.out 3).trans rfl
  have c4 : w9.cell? ⟨g2, 4, none⟩ = some (.string t.e) := (blk_cell HT9.out 4).trans rfl
  have c5 : w9.cell? ⟨g2, 5, none⟩ = some (.string t.f) := (blk_cell HT9.out 5).trans rfl
  go_wp2_with fail
  refine (HTupW.sorted_any _ 2 [s32 t, s32 t] (show (2 : Nat) ≤ 1000000 by decide) _ (two_C w9 t)).mono ?_
  rintro e w10 ⟨A, k, rfl, _, hb⟩
  rw [srd_two]
  have HB10 := Aside0.mk (below_step (HB9.out.alloc HB9.out.size _) hb)
  clear hb
  go_wp2
  go_ret
  exact ⟨rfl, HB10.out⟩
end Go.Proofs.YtlbbhgmpiednfaaGreatDoor.HTupU
/- The reference's Short, Right. -/
namespace Go.Proofs.YtlbbhgmpiednfaaGreatDoor.HTupRf
open Go.RowKit Go.Proofs.YtlbbhgmpiednfaaGreatDoorW.PrintWords Go.Proofs.YtlbbhgmpiednfaaGreatDoor.HLib Go.Proofs.YtlbbhgmpiednfaaGreatDoor.HNameP Go.Proofs.YtlbbhgmpiednfaaGreatDoor.HName Go.Proofs.YtlbbhgmpiednfaaGreatDoor.HNameR Go.Proofs.YtlbbhgmpiednfaaGreatDoor.HTupP Go.Proofs.YtlbbhgmpiednfaaGreatDoor.HTupR Go.Proofs.YtlbbhgmpiednfaaGreatDoor.HPr Go.Proofs.YtlbbhgmpiednfaaGreatDoor.HPt Go.Proofs.YtlbbhgmpiednfaaGreatDoor.HPv
set_option linter.unusedVariables false
set_option linter.unusedSimpArgs false
def sumP (t : Tp) : Nat := t.a.size + t.b.size + t.c.size + t.d.size + t.e.size + t.f.size
def shortP (t : Tp) : Bool := decide (sumP t ≤ 1500)
theorem short_any (t : Tp) (h : sumP t ≤ 9223372036854775807) (w : World) : Calls Tryz.prog 15 #[tvv t] w fun e w' => e = .returned (.bool (shortP t)) ∧ Below w.heap.size w w' := by
  refine vestryref18_Short.calls t.a t.b t.c t.d t.e t.f _ w ?_
  unfold sumP at h
  unfold vestryref18_Short.f
  rw [if_pos (by omega), if_pos (by rw [ByteArray.size_append]; omega), if_pos (by rw [ByteArray.size_append, ByteArray.size_append]; omega), if_pos (by rw [ByteArray.size_append, ByteArray.size_append, ByteArray.size_append]; omega), if_pos (by rw [ByteArray.size_append, ByteArray.size_append, ByteArray.size_append, ByteArray.size_append]; omega)]
  congr 1
  unfold shortP sumP
  simp only [ByteArray.size_append]
  apply decide_eq_decide.2
  omega
theorem empty_list (s : ByteArray) : s.toList = ([] : List UInt8) ↔ s.size = 0 := by
  rw [ByteArray.toList_eq]
  constructor
  · intro h
    have := congrArg List.length h
    simpa using this
  · intro h
    have : s = ⟨#[]⟩ := ByteArray.ext (Array.eq_empty_of_size_eq_zero h)
    rw [this]
theorem refright_eq (t : Tp) (h : sumP t ≤ 1000000) : vestryref18_Right.f 2000000 t.a t.b t.c t.d t.e t.f = some (rightP t) := by
  unfold sumP at h
  have ho : ∀ a b : ByteArray, b.size ≤ 1000000 → vestryref08_RightObject.f 2000000 a b = some (isP a && idP b) := by
    intro a b hb
    unfold vestryref08_RightObject.f
    rw [is_eq a 2000000 (by omega), Option.bind_some]
    cases isP a with
    | false => rfl
    | true => rw [if_pos rfl, isid_eq b 2000000 (by omega) (by omega), Option.bind_some]; rfl
  unfold vestryref18_Right.f
  rw [ho t.a t.b (by omega), Option.bind_some, is_eq t.c 2000000 (by omega), ho t.d t.e (by omega), is_eq t.f 2000000 (by omega)]
  unfold rightP optP
  cases h1 : isP t.a <;> cases h2 : idP t.b <;> cases h3 : isP t.c <;> cases h4 : isP t.d <;> cases h5 : idP t.e <;> simp
  by_cases h6 : t.f.size = 0
  · rw [if_pos ((empty_list _).2 h6)]; simp; exact Or.inl (ByteArray.ext (Array.eq_empty_of_size_eq_zero h6))
  · rw [if_neg (fun e => h6 ((empty_list _).1 e))]; simp; intro e; exact absurd (by rw [e]; rfl) h6
theorem refright_any (t : Tp) (h : sumP t ≤ 1000000) (w : World) : Calls Tryz.prog 16 #[tvv t] w fun e w' => e = .returned (.bool (rightP t)) ∧ Below w.heap.size w w' :=
  vestryref18_Right.calls 2000000 t.a t.b t.c t.d t.e t.f _ w (refright_eq t h)
end Go.Proofs.YtlbbhgmpiednfaaGreatDoor.HTupRf
