/- The reference's Text, Put. -/
import Derived.Test.YtlbbhgmpiednfaaGreatDoorUU
namespace Go.Proofs.YtlbbhgmpiednfaaGreatDoor.HTupRt
open Go.RowKit Go.Proofs.YtlbbhgmpiednfaaGreatDoorW.PrintWords Go.Proofs.YtlbbhgmpiednfaaGreatDoor.HLib Go.Proofs.YtlbbhgmpiednfaaGreatDoor.HGr Go.Proofs.YtlbbhgmpiednfaaGreatDoor.HErr Go.Proofs.YtlbbhgmpiednfaaGreatDoor.HNameP Go.Proofs.YtlbbhgmpiednfaaGreatDoor.HName Go.Proofs.YtlbbhgmpiednfaaGreatDoor.HTupP Go.Proofs.YtlbbhgmpiednfaaGreatDoor.HTupR Go.Proofs.YtlbbhgmpiednfaaGreatDoor.HTupX Go.Proofs.YtlbbhgmpiednfaaGreatDoor.HTupG Go.Proofs.YtlbbhgmpiednfaaGreatDoor.HTupB Go.Proofs.YtlbbhgmpiednfaaGreatDoor.HPut
set_option linter.unusedVariables false
set_option linter.unusedSimpArgs false
theorem text_assoc (a b c d e f : ByteArray) : textP ⟨a, b, c, d, e, f⟩ = if f.size = 0 then a ++ ⟨#[58]⟩ ++ b ++ ⟨#[35]⟩ ++ c ++ ⟨#[64]⟩ ++ d ++ ⟨#[58]⟩ ++ e else a ++ ⟨#[58]⟩ ++ b ++ ⟨#[35]⟩ ++ c ++ ⟨#[64]⟩ ++ d ++ ⟨#[58]⟩ ++ e ++ ⟨#[35]⟩ ++ f := by
  unfold textP frontP
  dsimp only
  split <;> simp only [ByteArray.append_assoc]
set_option maxRecDepth 20000 in
set_option maxHeartbeats 4000000 in
theorem reftext_any (t : Tp) (hz : ∀ j, (str t j).size ≤ 1500) (w : World) : Calls Tryz.prog 23 #[tvv t] w fun e w' => e = .returned (.string (textP t)) ∧ Below w.heap.size w w' := by
  obtain ⟨W, hW⟩ : ∃ W, W = w.alloc (.cells #[.string t.a, .string t.b, .string t.c, .string t.d, .string t.e, .string t.f] 32) := ⟨_, rfl⟩
  have HB := Aside0.mk (show Below w.heap.size w W from by rw [hW]; exact below_alloc (B0 w) _)
  have hT : TupAt W w.heap.size t := by rw [hW]; exact tup_new w t
  obtain ⟨B, hB⟩ : ∃ B, B = w.heap.size := ⟨_, rfl⟩
  rw [← hB] at hT
  obtain ⟨a, b, c, d, e, f⟩ := t
  have z0 : a.size ≤ 1500 := hz 0
  have z1 : b.size ≤ 1500 := hz 1
  have z2 : c.size ≤ 1500 := hz 2
  have z3 : d.size ≤ 1500 := hz 3
  have z4 : e.size ≤ 1500 := hz 4
  have z5 : f.size ≤ 1500 := hz 5
  have s1 : (⟨#[58]⟩ : ByteArray).size = 1 := rfl
  have y1 : a.size + 1 ≤ 9223372036854775807 := by omega
  have y2 : (a ++ (⟨#[58]⟩ : ByteArray)).size + b.size ≤ 9223372036854775807 := by rw [ByteArray.size_append]; omega
  have y3 : a.size + 1 + b.size ≤ 9223372036854775807 := by omega
  have y4 : a.size + 1 + b.size + 1 ≤ 9223372036854775807 := by omega
  have y5 : a.size + 1 + b.size + 1 + c.size ≤ 9223372036854775807 := by omega
  have y6 : a.size + 1 + b.size + 1 + c.size + 1 ≤ 9223372036854775807 := by omega
  have y7 : a.size + 1 + b.size + 1 + c.size + 1 + d.size ≤ 9223372036854775807 := by omega
  have y8 : a.size + 1 + b.size + 1 + c.size + 1 + d.size + 1 ≤ 9223372036854775807 := by omega
  have y9 : a.size + 1 + b.size + 1 + c.size + 1 + d.size + 1 + e.size ≤ 9223372036854775807 := by omega
  have y10 : a.size + 1 + b.size + 1 + c.size + 1 + d.size + 1 + e.size + 1 ≤ 9223372036854775807 := by omega
  have y11 : a.size + 1 + b.size + 1 + c.size + 1 + d.size + 1 + e.size + 1 + f.size ≤ 9223372036854775807 := by omega
  have HTX := Aside0.mk (text_assoc a b c d e f)
  have HF := Aside0.mk (show f.size = 0 ∧ (f.toList == (#[] : Array UInt8).toList) = true ∨ ¬ f.size = 0 ∧ (f.toList == (#[] : Array UInt8).toList) = false from by
    by_cases h : f.size = 0
    · left
      obtain rfl : f = ⟨#[]⟩ := ByteArray.ext (Array.eq_empty_of_size_eq_zero h)
      exact ⟨h, by rw [ByteArray.toList_eq]; rfl⟩
    · right
      refine ⟨h, ?_⟩
      cases hb : f.toList == (#[] : Array UInt8).toList with
      | false => rfl
      | true =>
        exfalso
        have h1 := beq_iff_eq.1 hb
        rw [ByteArray.toList_eq] at h1
        apply h
        have := congrArg List.length h1
        simpa using this)
  clear hz z0 z1 z2 z3 z4 z5 s1
  have c0 : W.cell? ⟨B, 0, none⟩ = some (.string a) := hT 0 (by decide)
  have c1 : W.cell? ⟨B, 1, none⟩ = some (.string b) := hT 1 (by decide)
  have c2 : W.cell? ⟨B, 2, none⟩ = some (.string c) := hT 2 (by decide)
  have c3 : W.cell? ⟨B, 3, none⟩ = some (.string d) := hT 3 (by decide)
  have c4 : W.cell? ⟨B, 4, none⟩ = some (.string e) := hT 4 (by decide)
  have c5 : W.cell? ⟨B, 5, none⟩ = some (.string f) := hT 5 (by decide)
  clear hT
  go_enter Tryz.func23, Tryz.ntmps23
  go_upto_region 1 with fail
  rw [← hW, ← hB]
  clear hW hB
  rcases HF.out with ⟨hf, hf2⟩ | ⟨hf, hf2⟩
  · have HFF := Aside0.mk hf
    clear hf
    go_wp2
    go_ret
    rw [HTX.out, if_pos HFF.out]
    exact ⟨rfl, HB.out⟩
  · have HFF := Aside0.mk hf
    clear hf
    go_wp2
    go_ret
    rw [HTX.out, if_neg HFF.out]
    exact ⟨rfl, HB.out⟩
set_option maxRecDepth 20000 in
set_option maxHeartbeats 4000000 in
theorem refput_any (t : Tp) (hr : ∀ j, (str t j).size ≤ 128) (w : World) : Calls Tryz.prog 24 #[tvv t] w fun e w' => ∃ v, e = .returned v ∧ Kd.R (Kd.int .u8) 5 w' w.heap.size (fun _ => True) v (putP t) ∧ Below w.heap.size w w' := by
  obtain ⟨W, hW⟩ : ∃ W, W = w.alloc (.cells #[.string t.a, .string t.b, .string t.c, .string t.d, .string t.e, .string t.f] 32) := ⟨_, rfl⟩
  have HB := Aside0.mk (show Below w.heap.size w W from by rw [hW]; exact below_alloc (B0 w) _)
  have hT : TupAt W w.heap.size t := by rw [hW]; exact tup_new w t
  have HSZ := Aside0.mk hr
  clear hr
  obtain ⟨g, hg⟩ : ∃ g, g = w.heap.size := ⟨_, rfl⟩
  rw [← hg] at hT
  have c0 : W.cell? ⟨g, 0, none⟩ = some (.string t.a) := hT 0 (by decide)
  have c1 : W.cell? ⟨g, 1, none⟩ = some (.string t.b) := hT 1 (by decide)
  have c2 : W.cell? ⟨g, 2, none⟩ = some (.string t.c) := hT 2 (by decide)
  have c3 : W.cell? ⟨g, 3, none⟩ = some (.string t.d) := hT 3 (by decide)
  have c4 : W.cell? ⟨g, 4, none⟩ = some (.string t.e) := hT 4 (by decide)
  have c5 : W.cell? ⟨g, 5, none⟩ = some (.string t.f) := hT 5 (by decide)
  clear hT
  obtain ⟨V, hV⟩ : ∃ V, V = W.alloc (.cells #[.string t.a, .string t.b, .string t.c, .string t.d, .string t.e, .string t.f] 9) := ⟨_, rfl⟩
  have HL := Aside0.mk (show V.heap[W.heap.size]? = some (.cells #[.string t.a, .string t.b, .string t.c, .string t.d, .string t.e, .string t.f] 9 (0, 0)) from by rw [hV]; exact blk_new W _)
  have HBV := Aside0.mk (show Below w.heap.size w V from below_step HB.out (by rw [hV]; exact below_alloc (B0 W) _))
  obtain ⟨B, hB⟩ : ∃ B, B = W.heap.size := ⟨_, rfl⟩
  rw [← hB] at HL
  go_enter Tryz.func24, Tryz.ntmps24
  go_upto_region 1 with fail
  rw [← hW, ← hg]
  clear hW hg
  go_upto_region 3 with fail
  rw [← hV, ← hB]
  clear hV hB c0 c1 c2 c3 c4 c5 HB
  rename World => w3
  go_wp2
  go_loopg [3, 5] 6 (fun kq v3 v5 w' => ∃ j : Nat, v5 = .int .i64 j ∧ Aside0 (kq + j = 6) ∧ Aside0 (Kd.R (Kd.int .u8) 5 w' w3.heap.size (fun _ => True) v3 (outp t j)) ∧ Aside0 (Below w3.heap.size w3 w'))
  case atStart => exact ⟨0, rfl, ⟨rfl⟩, ⟨Kd.R_nil _ _ _ _ _⟩, ⟨B0 _⟩⟩
  case round =>
    obtain ⟨j, rfl, HJ, HO, HW⟩ := hrel
    by_cases cj : j < 6
    · have f1 : decide (j < 6) = true := decide_eq_true cj
      have f2 : decide ((j : Int) < 6) = true := decide_eq_true (by omega)
      have f3 : (j : Int) < 6 := by omega
      have f4 : IntKind.i64.wrap ((j : Int) + 1) = (j : Int) + 1 := by rw [IntKind.wrap_i64]; omega
      have s1 : wr.cell? ⟨B, j, none⟩ = some (.string (str t j)) := by
        refine (blk_cell (blk_below HL.out HW.out) j).trans ?_
        match j, cj with
        | 0, _ | 1, _ | 2, _ | 3, _ | 4, _ | 5, _ => rfl
      have HS := Aside0.mk (outp_succ t j)
      have HZ := Aside0.mk (HSZ.out j)
      have HZL := Aside0.mk (outp_len t HSZ.out j)
      generalize str t j = s at s1 HS HZ
      obtain ⟨o, ho⟩ : ∃ o, o = outp t j := ⟨_, rfl⟩
      rw [← ho] at HO HS HZL
      clear ho
      have HEL := Aside0.mk (enc_text_len HZ.out)
      have HTX := Aside0.mk (fun (w : World) => HPut.reftext_any w s (by have := HZ.out; omega))
      go_wp2_with fail
      refine (HTX.out wr).mono ?_
      rintro e w4 ⟨v1, rfl, hR, hb⟩
      obtain ⟨A1, k1, rfl⟩ := Kd.R_slice hR
      have HRD := Aside0.mk (readsInt_of.2 (Kd.reads_of_C (d := (0 : Int)) (Kd.R_reads' hR).2.2))
      have HOV2 := Aside0.mk (Kd.R_below HO.out hb)
      have HWV2 := Aside0.mk (below_step HW.out hb)
      clear hR hb s1 HO HW
      go_wp2_with (at_builtin; refine print_append_row (w0 := w3) w3.heap.size rfl (.tmp 27) (.tmp 32) 36 5 .u8 1 rfl Tryz.underlying36 info_u8 (by decide) u3 o (encText s) A1 _ k1 rfl rfl ?aO ?aR ?aB ?aS ?aL ?_; (case aO => exact Kd.own_of_R HOV2.out); (case aR => exact HRD.out); (case aB => exact HWV2.out); (case aS => exact HWV2.out.size); (case aL => have h1 := HZL.out; have h2 := HEL.out; omega); intro v2 w2 ho hb hg hat; have HO2 := Aside0.mk ho; have HB3 := Aside0.mk hb; clear ho hb hg hat)
      go_roundg (6 - (j + 1))
      case measure => have := HJ.out; omega
      case rel => exact ⟨j + 1, rfl, ⟨by have := HJ.out; omega⟩, ⟨by rw [HS.out]; exact Kd.R_of_own (h1 := fun _ => rfl) HO2.out (fun _ _ => trivial)⟩, HB3⟩
    · obtain rfl : j = 6 := by have := HJ.out; omega
      rw [outp_put] at HO
      have HF := Aside0.mk (show Kd.R (Kd.int .u8) 5 wr w.heap.size (fun _ => True) u3 (putP t) from Kd.R_lower HO.out HBV.out.size)
      have HBF := Aside0.mk (below_step HBV.out HW.out)
      go_wp2
      go_ret
      exact ⟨_, rfl, HF.out, HBF.out⟩
end Go.Proofs.YtlbbhgmpiednfaaGreatDoor.HTupRt
