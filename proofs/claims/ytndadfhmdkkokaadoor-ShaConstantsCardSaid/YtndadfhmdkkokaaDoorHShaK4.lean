/- Roots 48 to 63, reckoned by the kernel. -/
import Derived.Test.YtndadfhmdkkokaaDoorHShaG
namespace Go.Proofs.YtndadfhmdkkokaaDoor.HShaK
open Go.RowKit Go.Proofs.YtndadfhmdkkokaaDoor.PShaConstants
theorem rt3_48 : vestryref06_Root.f 300 227 3 = some 430227734 := by kernel_rfl
theorem rt3_49 : vestryref06_Root.f 300 229 3 = some 506948616 := by kernel_rfl
theorem rt3_50 : vestryref06_Root.f 300 233 3 = some 659060556 := by kernel_rfl
theorem rt3_51 : vestryref06_Root.f 300 239 3 = some 883997877 := by kernel_rfl
theorem rt3_52 : vestryref06_Root.f 300 241 3 = some 958139571 := by kernel_rfl
theorem rt3_53 : vestryref06_Root.f 300 251 3 = some 1322822218 := by kernel_rfl
theorem rt3_54 : vestryref06_Root.f 300 257 3 = some 1537002063 := by kernel_rfl
theorem rt3_55 : vestryref06_Root.f 300 263 3 = some 1747873779 := by kernel_rfl
theorem rt3_56 : vestryref06_Root.f 300 269 3 = some 1955562222 := by kernel_rfl
theorem rt3_57 : vestryref06_Root.f 300 271 3 = some 2024104815 := by kernel_rfl
theorem rt3_58 : vestryref06_Root.f 300 277 3 = some 2227730452 := by kernel_rfl
theorem rt3_59 : vestryref06_Root.f 300 281 3 = some 2361852424 := by kernel_rfl
theorem rt3_60 : vestryref06_Root.f 300 283 3 = some 2428436474 := by kernel_rfl
theorem rt3_61 : vestryref06_Root.f 300 293 3 = some 2756734187 := by kernel_rfl
theorem rt3_62 : vestryref06_Root.f 300 307 3 = some 3204031479 := by kernel_rfl
theorem rt3_63 : vestryref06_Root.f 300 311 3 = some 3329325298 := by kernel_rfl
theorem rt2_6 : vestryref06_Root.f 300 17 2 = some 528734635 := by kernel_rfl
theorem rt2_7 : vestryref06_Root.f 300 19 2 = some 1541459225 := by kernel_rfl
end Go.Proofs.YtndadfhmdkkokaaDoor.HShaK
