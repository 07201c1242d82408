/- Roots 0 to 15, reckoned by the kernel. -/
import Derived.Test.YtndadfhmdkkokaaDoorHShaG
namespace Go.Proofs.YtndadfhmdkkokaaDoor.HShaK
open Go.RowKit Go.Proofs.YtndadfhmdkkokaaDoor.PShaConstants
theorem rt3_0 : vestryref06_Root.f 300 2 3 = some 1116352408 := by kernel_rfl
theorem rt3_1 : vestryref06_Root.f 300 3 3 = some 1899447441 := by kernel_rfl
theorem rt3_2 : vestryref06_Root.f 300 5 3 = some 3049323471 := by kernel_rfl
theorem rt3_3 : vestryref06_Root.f 300 7 3 = some 3921009573 := by kernel_rfl
theorem rt3_4 : vestryref06_Root.f 300 11 3 = some 961987163 := by kernel_rfl
theorem rt3_5 : vestryref06_Root.f 300 13 3 = some 1508970993 := by kernel_rfl
theorem rt3_6 : vestryref06_Root.f 300 17 3 = some 2453635748 := by kernel_rfl
theorem rt3_7 : vestryref06_Root.f 300 19 3 = some 2870763221 := by kernel_rfl
theorem rt3_8 : vestryref06_Root.f 300 23 3 = some 3624381080 := by kernel_rfl
theorem rt3_9 : vestryref06_Root.f 300 29 3 = some 310598401 := by kernel_rfl
theorem rt3_10 : vestryref06_Root.f 300 31 3 = some 607225278 := by kernel_rfl
theorem rt3_11 : vestryref06_Root.f 300 37 3 = some 1426881987 := by kernel_rfl
theorem rt3_12 : vestryref06_Root.f 300 41 3 = some 1925078388 := by kernel_rfl
theorem rt3_13 : vestryref06_Root.f 300 43 3 = some 2162078206 := by kernel_rfl
theorem rt3_14 : vestryref06_Root.f 300 47 3 = some 2614888103 := by kernel_rfl
theorem rt3_15 : vestryref06_Root.f 300 53 3 = some 3248222580 := by kernel_rfl
theorem rt2_0 : vestryref06_Root.f 300 2 2 = some 1779033703 := by kernel_rfl
theorem rt2_1 : vestryref06_Root.f 300 3 2 = some 3144134277 := by kernel_rfl
end Go.Proofs.YtndadfhmdkkokaaDoor.HShaK
