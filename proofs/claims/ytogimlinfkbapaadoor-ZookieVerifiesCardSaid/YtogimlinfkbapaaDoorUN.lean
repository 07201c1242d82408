/- The law ZookieVerifies, as its row asks. -/
import Derived.Test.YtogimlinfkbapaaDoorUL
import Derived.Test.YtogimlinfkbapaaDoorUX
namespace Go.Proofs.YtogimlinfkbapaaDoor.HZookN3
open Go.RowKit Go.WideShapes Go.Proofs.YtogimlinfkbapaaDoorW.PrintWords Go.Proofs.YtogimlinfkbapaaDoor.HLib Go.Proofs.YtogimlinfkbapaaDoor.HSha Go.Proofs.YtogimlinfkbapaaDoor.HShaU Go.Proofs.YtogimlinfkbapaaDoor.HErr Go.Proofs.YtogimlinfkbapaaDoor.HZookO Go.Proofs.YtogimlinfkbapaaDoor.HZookB
set_option linter.unusedVariables false
set_option maxRecDepth 100000
theorem row_verifies (v0 : Value) (a0 : List Int) (s : ByteArray) (W : World) {base : Nat} (hv0 : Value.okWide Tryd.prog W .any base 22 v0) (k0 : KB W a0 v0.cells.toList) (ok0 : OKB a0) (hs : s.size ≤ maxLen) (hG : Glob W ∧ ErrG W) :
    Calls Tryd.prog 5 #[v0, .string s] W fun e w' => e = .returned (.bool true) ∧ Below W.heap.size W w' := by
  obtain ⟨A, c, rfl, hB⟩ := bs_of hv0 k0
  exact HZookL3.verifies_walk W A c a0 (Bs.bv hB) (byte_wf ok0) s hG.1 hG.2
end Go.Proofs.YtogimlinfkbapaaDoor.HZookN3
