/- Roots 32 to 47, reckoned by the kernel. -/
import Derived.Test.YtndadfhmdkkokaaDoorHShaG
namespace Go.Proofs.YtndadfhmdkkokaaDoor.HShaK
open Go.RowKit Go.Proofs.YtndadfhmdkkokaaDoor.PShaConstants
theorem rt3_32 : vestryref06_Root.f 300 137 3 = some 666307205 := by kernel_rfl
theorem rt3_33 : vestryref06_Root.f 300 139 3 = some 773529912 := by kernel_rfl
theorem rt3_34 : vestryref06_Root.f 300 149 3 = some 1294757372 := by kernel_rfl
theorem rt3_35 : vestryref06_Root.f 300 151 3 = some 1396182291 := by kernel_rfl
theorem rt3_36 : vestryref06_Root.f 300 157 3 = some 1695183700 := by kernel_rfl
theorem rt3_37 : vestryref06_Root.f 300 163 3 = some 1986661051 := by kernel_rfl
theorem rt3_38 : vestryref06_Root.f 300 167 3 = some 2177026350 := by kernel_rfl
theorem rt3_39 : vestryref06_Root.f 300 173 3 = some 2456956037 := by kernel_rfl
theorem rt3_40 : vestryref06_Root.f 300 179 3 = some 2730485921 := by kernel_rfl
theorem rt3_41 : vestryref06_Root.f 300 181 3 = some 2820302411 := by kernel_rfl
theorem rt3_42 : vestryref06_Root.f 300 191 3 = some 3259730800 := by kernel_rfl
theorem rt3_43 : vestryref06_Root.f 300 193 3 = some 3345764771 := by kernel_rfl
theorem rt3_44 : vestryref06_Root.f 300 197 3 = some 3516065817 := by kernel_rfl
theorem rt3_45 : vestryref06_Root.f 300 199 3 = some 3600352804 := by kernel_rfl
theorem rt3_46 : vestryref06_Root.f 300 211 3 = some 4094571909 := by kernel_rfl
theorem rt3_47 : vestryref06_Root.f 300 223 3 = some 275423344 := by kernel_rfl
theorem rt2_4 : vestryref06_Root.f 300 11 2 = some 1359893119 := by kernel_rfl
theorem rt2_5 : vestryref06_Root.f 300 13 2 = some 2600822924 := by kernel_rfl
end Go.Proofs.YtndadfhmdkkokaaDoor.HShaK
