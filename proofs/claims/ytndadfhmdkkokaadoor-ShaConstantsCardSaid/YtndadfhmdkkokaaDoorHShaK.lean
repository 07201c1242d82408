/- The roots and the primes of the constants. -/
import Derived.Test.YtndadfhmdkkokaaDoorHShaK1
import Derived.Test.YtndadfhmdkkokaaDoorHShaK2
import Derived.Test.YtndadfhmdkkokaaDoorHShaK3
import Derived.Test.YtndadfhmdkkokaaDoorHShaK4
import Derived.Test.YtndadfhmdkkokaaDoorHShaA
namespace Go.Proofs.YtndadfhmdkkokaaDoor.HShaK
open Go.RowKit Go.Proofs.YtndadfhmdkkokaaDoor.PShaConstants Go.Proofs.YtndadfhmdkkokaaDoor.HSha Go.Proofs.YtndadfhmdkkokaaDoor.HShaS
/-- The first primes. -/
def PR : List Int := [2, 3, 5, 7, 11, 13, 17, 19, 23, 29, 31, 37, 41, 43, 47, 53, 59, 61, 67, 71, 73, 79, 83, 89, 97, 101, 103, 107, 109, 113, 127, 131, 137, 139, 149, 151, 157, 163, 167, 173, 179, 181, 191, 193, 197, 199, 211, 223, 227, 229, 233, 239, 241, 251, 257, 263, 269, 271, 277, 281, 283, 293, 307, 311]
theorem pr_all : ∀ i : Fin 64, vestryref06_Prime.f 5000 (i.val : Int) = some (PR.getD i.val 0) := of_decide_eq_true (by kernel_rfl)
theorem rt3_all (i : Nat) (h : i < 64) : vestryref06_Root.f 300 (PR.getD i 0) 3 = some (KT.getD i 0) := by
  match i, h with
  | 0, _ => exact rt3_0
  | 1, _ => exact rt3_1
  | 2, _ => exact rt3_2
  | 3, _ => exact rt3_3
  | 4, _ => exact rt3_4
  | 5, _ => exact rt3_5
  | 6, _ => exact rt3_6
  | 7, _ => exact rt3_7
  | 8, _ => exact rt3_8
  | 9, _ => exact rt3_9
  | 10, _ => exact rt3_10
  | 11, _ => exact rt3_11
  | 12, _ => exact rt3_12
  | 13, _ => exact rt3_13
  | 14, _ => exact rt3_14
  | 15, _ => exact rt3_15
  | 16, _ => exact rt3_16
  | 17, _ => exact rt3_17
  | 18, _ => exact rt3_18
  | 19, _ => exact rt3_19
  | 20, _ => exact rt3_20
  | 21, _ => exact rt3_21
  | 22, _ => exact rt3_22
  | 23, _ => exact rt3_23
  | 24, _ => exact rt3_24
  | 25, _ => exact rt3_25
  | 26, _ => exact rt3_26
  | 27, _ => exact rt3_27
  | 28, _ => exact rt3_28
  | 29, _ => exact rt3_29
  | 30, _ => exact rt3_30
  | 31, _ => exact rt3_31
  | 32, _ => exact rt3_32
  | 33, _ => exact rt3_33
  | 34, _ => exact rt3_34
  | 35, _ => exact rt3_35
  | 36, _ => exact rt3_36
  | 37, _ => exact rt3_37
  | 38, _ => exact rt3_38
  | 39, _ => exact rt3_39
  | 40, _ => exact rt3_40
  | 41, _ => exact rt3_41
  | 42, _ => exact rt3_42
  | 43, _ => exact rt3_43
  | 44, _ => exact rt3_44
  | 45, _ => exact rt3_45
  | 46, _ => exact rt3_46
  | 47, _ => exact rt3_47
  | 48, _ => exact rt3_48
  | 49, _ => exact rt3_49
  | 50, _ => exact rt3_50
  | 51, _ => exact rt3_51
  | 52, _ => exact rt3_52
  | 53, _ => exact rt3_53
  | 54, _ => exact rt3_54
  | 55, _ => exact rt3_55
  | 56, _ => exact rt3_56
  | 57, _ => exact rt3_57
  | 58, _ => exact rt3_58
  | 59, _ => exact rt3_59
  | 60, _ => exact rt3_60
  | 61, _ => exact rt3_61
  | 62, _ => exact rt3_62
  | 63, _ => exact rt3_63
  | n + 64, h => exact absurd h (by omega)
theorem rt2_all (i : Nat) (h : i < 8) : vestryref06_Root.f 300 (PR.getD i 0) 2 = some (ST.getD i 0) := by
  match i, h with
  | 0, _ => exact rt2_0
  | 1, _ => exact rt2_1
  | 2, _ => exact rt2_2
  | 3, _ => exact rt2_3
  | 4, _ => exact rt2_4
  | 5, _ => exact rt2_5
  | 6, _ => exact rt2_6
  | 7, _ => exact rt2_7
  | n + 8, h => exact absurd h (by omega)
end Go.Proofs.YtndadfhmdkkokaaDoor.HShaK
