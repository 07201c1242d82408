/- Roots 16 to 31, reckoned by the kernel. -/
import Derived.Test.YtndadfhmdkkokaaDoorHShaG
namespace Go.Proofs.YtndadfhmdkkokaaDoor.HShaK
open Go.RowKit Go.Proofs.YtndadfhmdkkokaaDoor.PShaConstants
theorem rt3_16 : vestryref06_Root.f 300 59 3 = some 3835390401 := by kernel_rfl
theorem rt3_17 : vestryref06_Root.f 300 61 3 = some 4022224774 := by kernel_rfl
theorem rt3_18 : vestryref06_Root.f 300 67 3 = some 264347078 := by kernel_rfl
theorem rt3_19 : vestryref06_Root.f 300 71 3 = some 604807628 := by kernel_rfl
theorem rt3_20 : vestryref06_Root.f 300 73 3 = some 770255983 := by kernel_rfl
theorem rt3_21 : vestryref06_Root.f 300 79 3 = some 1249150122 := by kernel_rfl
theorem rt3_22 : vestryref06_Root.f 300 83 3 = some 1555081692 := by kernel_rfl
theorem rt3_23 : vestryref06_Root.f 300 89 3 = some 1996064986 := by kernel_rfl
theorem rt3_24 : vestryref06_Root.f 300 97 3 = some 2554220882 := by kernel_rfl
theorem rt3_25 : vestryref06_Root.f 300 101 3 = some 2821834349 := by kernel_rfl
theorem rt3_26 : vestryref06_Root.f 300 103 3 = some 2952996808 := by kernel_rfl
theorem rt3_27 : vestryref06_Root.f 300 107 3 = some 3210313671 := by kernel_rfl
theorem rt3_28 : vestryref06_Root.f 300 109 3 = some 3336571891 := by kernel_rfl
theorem rt3_29 : vestryref06_Root.f 300 113 3 = some 3584528711 := by kernel_rfl
theorem rt3_30 : vestryref06_Root.f 300 127 3 = some 113926993 := by kernel_rfl
theorem rt3_31 : vestryref06_Root.f 300 131 3 = some 338241895 := by kernel_rfl
theorem rt2_2 : vestryref06_Root.f 300 5 2 = some 1013904242 := by kernel_rfl
theorem rt2_3 : vestryref06_Root.f 300 7 2 = some 2773480762 := by kernel_rfl
end Go.Proofs.YtndadfhmdkkokaaDoor.HShaK
