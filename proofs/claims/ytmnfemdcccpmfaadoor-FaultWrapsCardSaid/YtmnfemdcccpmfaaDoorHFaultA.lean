/- Name, Text; awake of the laws of the package fault. -/
import Derived.Test.YtmnfemdcccpmfaaDoorHFault
namespace Go.Proofs.YtmnfemdcccpmfaaDoor.HFaultA
open Go.RowKit Go.Proofs.YtmnfemdcccpmfaaDoorW.PrintWords Go.Proofs.YtmnfemdcccpmfaaDoor.HLib Go.Proofs.YtmnfemdcccpmfaaDoor.HPr Go.Proofs.YtmnfemdcccpmfaaDoor.HErr Go.Proofs.YtmnfemdcccpmfaaDoor.HFaultP Go.Proofs.YtmnfemdcccpmfaaDoor.HFault
set_option linter.unusedVariables false
set_option linter.unusedSimpArgs false

def sDepth : ByteArray := ⟨#[100, 101, 112, 116, 104]⟩
def sTag : ByteArray := ⟨#[116, 97, 103]⟩
/-- What two places of the listed variable fault.names hold. -/
def NamG (w : World) : Prop := 0 < w.heap.size ∧ w.cell? ⟨0, 7, none⟩ = some (.string sDepth) ∧ w.cell? ⟨0, 12, none⟩ = some (.string sTag)
theorem NamG.below {w w1 : World} {n : Nat} (h : NamG w) (hb : Below n w w1) (hn : 0 < n) : NamG w1 :=
  ⟨by have := hb.size; have := h.1; omega, by rw [hb.cell (p := ⟨0, 7, none⟩) hn]; exact h.2.1, by rw [hb.cell (p := ⟨0, 12, none⟩) hn]; exact h.2.2⟩
def GV (w : World) : Prop := ErrG w ∧ TabG w ∧ NamG w
theorem GV.below {w w1 : World} (h : GV w) (hb : Below w.heap.size w w1) : GV w1 := ⟨h.1.below hb h.1.1, h.2.1.below hb h.2.1.1, h.2.2.below hb h.2.2.1⟩

theorem name_7 (w : World) (hG : NamG w) : Calls Tryd.prog 18 #[.int .i64 7] w fun e w' => e = .returned (.string sDepth) ∧ w = w' := by
  have k := hG.2.1
  clear hG
  go_enter Tryd.func18, Tryd.ntmps18
  go_wp2
  go_ret
  exact ⟨rfl, rfl⟩
theorem name_12 (w : World) (hG : NamG w) : Calls Tryd.prog 18 #[.int .i64 12] w fun e w' => e = .returned (.string sTag) ∧ w = w' := by
  have k := hG.2.2
  clear hG
  go_enter Tryd.func18, Tryd.ntmps18
  go_wp2
  go_ret
  exact ⟨rfl, rfl⟩
theorem text_nil (w : World) : Calls Tryd.prog 17 #[.nilIface] w fun e w' => e = .returned (.string ⟨#[111, 107]⟩) ∧ Below w.heap.size w w' := by
  go_enter Tryd.func17, Tryd.ntmps17
  go_wp2_with fail
  refine (code_nil _).mono ?_
  rintro e w1 ⟨rfl, hb⟩
  have HB := Aside0.mk hb
  clear hb
  go_wp2_with fail
  refine (at_nil _).mono ?_
  rintro e w2 ⟨rfl, hb⟩
  have HB2 := Aside0.mk (below_step HB.out hb)
  clear hb
  go_wp2
  go_ret
  exact ⟨rfl, HB2.out⟩
def sD7 : ByteArray := ⟨#[100, 101, 112, 116, 104, 32, 55]⟩
def sTuple : ByteArray := ⟨#[116, 117, 112, 108, 101]⟩
theorem v_itoa : itoaS 7 = ⟨#[55]⟩ := by unfold itoaS Lib.itoa; rw [if_neg (by decide), show (7 : Int).toNat = 7 from rfl, Lib.decDigits_one (by decide)]; rfl
theorem v_txt : txt 7 [sTuple] = ⟨#[116, 117, 112, 108, 101, 58, 32, 101, 114, 114, 111, 114, 32, 55]⟩ := by rw [txt, txt, errC, v_itoa]; rfl
set_option maxHeartbeats 4000000 in
theorem text_7 (w : World) (hG : GV w) : Calls Tryd.prog 17 #[wrapV (baseV true 7 7) [sTuple]] w fun e w' => e = .returned (.string sD7) ∧ Below w.heap.size w w' := by
  have HG := Aside0.mk hG
  clear hG
  obtain ⟨tt, tv, htv⟩ := wrap_iface true 7 7 [sTuple]
  have HTV := Aside0.mk htv
  rw [htv]
  clear htv
  go_enter Tryd.func17, Tryd.ntmps17
  go_wp2_with fail
  rw [← HTV.out]
  refine (code_ch true 7 7 [sTuple] _ HG.out.1).mono ?_
  rintro e w1 ⟨rfl, hb⟩
  have HB := Aside0.mk hb
  have HG1 := Aside0.mk (HG.out.below hb)
  clear hb
  go_wp2_with fail
  refine (at_ch true 7 7 [sTuple] _ HG1.out.1).mono ?_
  rintro e w2 ⟨rfl, hb⟩
  have HB2 := Aside0.mk (below_step HB.out hb)
  have HG2 := Aside0.mk (HG1.out.below hb)
  clear hb
  rw [if_pos rfl, HTV.out]
  go_wp2_with fail
  refine (name_7 _ HG2.out.2.2).mono ?_
  rintro e w3 ⟨rfl, rfl⟩
  have z1 : sDepth.size + 1 ≤ 9223372036854775807 := by decide
  go_wp2_with fail
  refine (itoa_any 7 (by decide) (by decide) _ HG2.out.2.1).mono ?_
  rintro e w3 ⟨rfl, hb⟩
  have HB3 := Aside0.mk (below_step HB2.out hb)
  clear hb
  rw [v_itoa]
  have z2 : (sDepth ++ (⟨#[32]⟩ : ByteArray)).size + 1 ≤ 9223372036854775807 := by decide
  have z3 : sDepth.size + 1 + 1 ≤ 9223372036854775807 := by decide
  go_wp2
  go_ret
  exact ⟨rfl, HB3.out⟩

set_option maxRecDepth 100000 in
set_option maxHeartbeats 8000000 in
theorem awake_any (w : World) (hG : GV w) : Calls Tryd.prog 6 #[] w fun e w' => e = .returned (.bool true) ∧ Below w.heap.size w w' := by
  have HG := Aside0.mk hG
  clear hG
  have mE := methodErrorI
  have HW := Aside0.mk (show wrapV (baseV true 7 7) [sTuple] = .iface 53 (.agg #[.string sTuple, .iface 47 (.agg #[.int .i64 7, .int .i64 7])]) from rfl)
  go_enter Tryd.func6, Tryd.ntmps6
  go_wp2_with fail
  refine (new_any _ _ _).mono ?_
  rintro e w1 ⟨rfl, rfl⟩
  go_wp2_with fail
  refine (in_any sTuple true 7 7 [] _).mono ?_
  rintro e w1 ⟨rfl, rfl⟩
  rw [HW.out]
  go_wp2_with fail
  refine (code_nil _).mono ?_
  rintro e w1 ⟨rfl, hb⟩
  have HB1 := Aside0.mk hb
  have HG1 := Aside0.mk (HG.out.below hb)
  clear hb
  go_wp2_with fail
  refine (error_I true 7 7 [] (by unfold I64; decide) sTuple (by rw [v_txt]; decide) _ HG1.out.2.1).mono ?_
  rintro e w2 ⟨rfl, hb⟩
  have HB2 := Aside0.mk (below_step HB1.out hb)
  have HG2 := Aside0.mk (HG1.out.below hb)
  clear hb
  rw [v_txt]
  go_wp2_with fail
  refine (text_7 _ HG2.out).mono ?_
  rintro e w3 ⟨rfl, hb⟩
  have HB3 := Aside0.mk (below_step HB2.out hb)
  have HG3 := Aside0.mk (HG2.out.below hb)
  clear hb
  have q1 : sD7.toList = [100, 101, 112, 116, 104, 32, 55] := by rw [ByteArray.toList_eq]; rfl
  go_wp2_with fail
  refine (in_nil _ _).mono ?_
  rintro e w4 ⟨rfl, rfl⟩
  go_wp2_with fail
  refine (shift_nil _ _).mono ?_
  rintro e w4 ⟨rfl, hb⟩
  have HB4 := Aside0.mk (below_step HB3.out hb)
  have HG4 := Aside0.mk (HG3.out.below hb)
  clear hb
  go_wp2_with fail
  refine (name_12 _ HG4.out.2.2).mono ?_
  rintro e w5 ⟨rfl, rfl⟩
  have q2 : sTag.toList = [116, 97, 103] := by rw [ByteArray.toList_eq]; rfl
  go_wp2_with fail
  refine (text_nil _).mono ?_
  rintro e w5 ⟨rfl, hb⟩
  have HB5 := Aside0.mk (below_step HB4.out hb)
  clear hb
  go_wp2
  go_ret
  exact ⟨rfl, HB5.out⟩

end Go.Proofs.YtmnfemdcccpmfaaDoor.HFaultA
