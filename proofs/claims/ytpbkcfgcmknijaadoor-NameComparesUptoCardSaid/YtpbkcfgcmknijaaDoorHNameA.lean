/- awake of the laws of the package name. -/
import Derived.Test.YtpbkcfgcmknijaaDoorHName4
namespace Go.Proofs.YtpbkcfgcmknijaaDoor.HNameA
open Go.RowKit Go.Proofs.YtpbkcfgcmknijaaDoorW.PrintWords Go.Proofs.YtpbkcfgcmknijaaDoor.HLib Go.Proofs.YtpbkcfgcmknijaaDoor.HNameP Go.Proofs.YtpbkcfgcmknijaaDoor.HErr Go.Proofs.YtpbkcfgcmknijaaDoor.HNameR Go.Proofs.YtpbkcfgcmknijaaDoor.HName
set_option linter.unusedVariables false
set_option linter.unusedSimpArgs false

def GV (w : World) : Prop := ResG w ∧ ErrG w
theorem GV.below {w w1 : World} (h : GV w) (hb : Below w.heap.size w w1) : GV w1 := ⟨h.1.below hb h.1.1, h.2.below hb h.2.1⟩

def sDoc : ByteArray := ⟨#[100, 111, 99, 117, 109, 101, 110, 116]⟩
def sA1 : ByteArray := ⟨#[97, 47, 49]⟩
def sUser : ByteArray := ⟨#[117, 115, 101, 114]⟩
def sMem : ByteArray := ⟨#[109, 101, 109, 98, 101, 114]⟩
theorem v1 : parseO ⟨#[100, 111, 99, 117, 109, 101, 110, 116, 58, 97, 47, 49]⟩ = (sDoc, sA1, none) := by decide +kernel
theorem v2 : parseA ⟨#[117, 115, 101, 114, 35, 109, 101, 109, 98, 101, 114]⟩ = (sUser, sMem, none) := by decide +kernel
theorem v3 : parseO ⟨#[100, 111, 99, 117, 109, 101, 110, 116]⟩ = (⟨#[]⟩, ⟨#[]⟩, some (5, 0)) := by decide +kernel
theorem v4 : isP ⟨#[97, 95, 49]⟩ = true := by decide +kernel
theorem v5 : isP ⟨#[65]⟩ = false := by decide +kernel
theorem v6 : isP ⟨#[114, 101, 108, 97, 116, 105, 111, 110]⟩ = false := by decide +kernel
theorem v7 : resP ⟨#[114, 101, 108, 97, 116, 105, 111, 110]⟩ = true := by decide +kernel
theorem v8 : idP ⟨#[114, 101, 108, 97, 116, 105, 111, 110]⟩ = true := by decide +kernel

set_option maxRecDepth 100000 in
set_option maxHeartbeats 4000000 in
theorem awake_any (w : World) (hG : GV w) : Calls Tryd.prog 8 #[] w fun e w' => e = .returned (.bool true) ∧ Below w.heap.size w w' := by
  have HG := Aside0.mk hG
  clear hG
  go_enter Tryd.func8, Tryd.ntmps8
  go_wp2_with fail
  refine (parseobject_any _ _ (by decide) HG.out.1).mono ?_
  rintro e w1 ⟨rfl, hb1⟩
  have HB1 := Aside0.mk hb1
  have HG1 := Aside0.mk (HG.out.below hb1)
  clear hb1
  rw [v1]
  unfold errV
  obtain ⟨W1, hW1⟩ : ∃ W, W = w1.alloc (.cells #[.string sDoc, .string sA1] 25) := ⟨_, rfl⟩
  have HA1 : Aside0 (Below w1.heap.size w1 W1) := ⟨by rw [hW1]; exact below_alloc (B0 w1) _⟩
  have F1 : Aside0 (W1.heap[w1.heap.size]? = some (.cells #[.string sDoc, .string sA1] 25 (0, 0))) := ⟨by rw [hW1]; exact blk_new w1 _⟩
  go_wp2_with fail
  rw [← hW1]
  refine (parseallowed_any _ _ (by decide) (HG1.out.below HA1.out).1).mono ?_
  rintro e w2 ⟨rfl, hb2⟩
  clear hW1
  have HB2 := Aside0.mk (below_step (below_step HB1.out HA1.out) hb2)
  have HG2 := Aside0.mk ((HG1.out.below HA1.out).below hb2)
  have F1 : Aside0 (w2.heap[w1.heap.size]? = some _) := ⟨blk_below F1.out hb2⟩
  clear hb2
  rw [v2]
  unfold errV
  obtain ⟨W2, hW2⟩ : ∃ W, W = w2.alloc (.cells #[.string sUser, .string sMem] 33) := ⟨_, rfl⟩
  have HA2 : Aside0 (Below w2.heap.size w2 W2) := ⟨by rw [hW2]; exact below_alloc (B0 w2) _⟩
  have F2 : Aside0 (W2.heap[w2.heap.size]? = some (.cells #[.string sUser, .string sMem] 33 (0, 0))) := ⟨by rw [hW2]; exact blk_new w2 _⟩
  have F1 : Aside0 (W2.heap[w1.heap.size]? = some _) := ⟨blk_below F1.out HA2.out⟩
  go_wp2_with fail
  rw [← hW2]
  refine (parseobject_any _ _ (by decide) (HG2.out.below HA2.out).1).mono ?_
  rintro e w3 ⟨rfl, hb3⟩
  clear hW2
  have HB3 := Aside0.mk (below_step (below_step HB2.out HA2.out) hb3)
  have HG3 := Aside0.mk ((HG2.out.below HA2.out).below hb3)
  have F1 : Aside0 (w3.heap[w1.heap.size]? = some _) := ⟨blk_below F1.out hb3⟩
  have F2 : Aside0 (w3.heap[w2.heap.size]? = some _) := ⟨blk_below F2.out hb3⟩
  clear hb3
  rw [v3]
  have q1 : sDoc.toList = [100, 111, 99, 117, 109, 101, 110, 116] := by rw [ByteArray.toList_eq]; rfl
  have q2 : sA1.toList = [97, 47, 49] := by rw [ByteArray.toList_eq]; rfl
  have q3 : sUser.toList = [117, 115, 101, 114] := by rw [ByteArray.toList_eq]; rfl
  have q4 : sMem.toList = [109, 101, 109, 98, 101, 114] := by rw [ByteArray.toList_eq]; rfl
  have HBA : Aside0 (Below w3.heap.size w3 (w3.alloc (.cells #[.string ⟨#[]⟩, .string ⟨#[]⟩] 25))) := ⟨below_alloc (B0 w3) _⟩
  have k1 := (blk_cell (blk_below F1.out HBA.out) 0).trans (show _ = some _ from rfl)
  have k2 := (blk_cell (blk_below F1.out HBA.out) 1).trans (show _ = some _ from rfl)
  have k3 := (blk_cell (blk_below F2.out HBA.out) 0).trans (show _ = some _ from rfl)
  have k4 := (blk_cell (blk_below F2.out HBA.out) 1).trans (show _ = some _ from rfl)
  go_wp2_with fail
  refine (told_any (some (5, 0)) 5 0 _ (HG3.out.below HBA.out).2).mono ?_
  rintro e w4 ⟨rfl, hb4⟩
  have HG4 := Aside0.mk ((HG3.out.below HBA.out).below hb4)
  have HB4 := Aside0.mk (below_step (below_step HB3.out HBA.out) hb4)
  clear hb4 k1 k2 k3 k4 q1 q2 q3 q4
  rw [show toldP (some (5, 0)) 5 0 = true from rfl]
  go_wp2_with fail
  refine (is_any _ _ HG4.out.1).mono ?_
  rintro e w5 ⟨rfl, rfl⟩
  rw [v4]
  go_wp2_with fail
  refine (is_any _ _ HG4.out.1).mono ?_
  rintro e w5 ⟨rfl, rfl⟩
  rw [v5]
  go_wp2_with fail
  refine (is_any _ _ HG4.out.1).mono ?_
  rintro e w5 ⟨rfl, rfl⟩
  rw [v6]
  go_wp2_with fail
  refine (reserved_any _ _ HG4.out.1).mono ?_
  rintro e w5 ⟨rfl, rfl⟩
  rw [v7]
  go_wp2_with fail
  refine (isid_any _ _).mono ?_
  rintro e w5 ⟨rfl, rfl⟩
  rw [v8]
  go_wp2
  go_ret
  exact ⟨rfl, HB4.out⟩

end Go.Proofs.YtpbkcfgcmknijaaDoor.HNameA
