-- PRINTED BY print.sh 35421559b90ae4d0a3588c463048766b98c2df88dd9212a6774a882060cdf62d: not written by this session
import Derived.Test.YtmnfemdcccpmfaaDoorProg
import Derived.Below
import Derived.Deep.Draws
import Derived.Deep.AppendLies
import Derived.Maps.AppendAt
import Derived.OwnWalk
import Derived.Laws.BytesArg
import Derived.Laws.MakeOwn
import Derived.Laws.OwnMore
import Derived.Deep.OwnRows
import Derived.Tactics
import Derived.Lib.ConvBytes
import Derived.Laws.Slices
import Derived.WalkKit
import Derived.KernelRfl
import Derived.RowKit3
import Derived.Deep.LoopGhost
import Derived.Deep.QuietTactic
import Derived.BigQuiet
import Derived.WideLaws
import Derived.Deep.DeepCutAuto
import Derived.Deep.CutBlock
import Derived.Deep.RegionHeld3
import Derived.Laws.Rows
import Derived.Lib.AppendStr
import Derived.ArgAppend
import Derived.Laws.IdiomCopy
import Derived.OrdersHeld
import Derived.Laws.BitsLemmas
import Derived.RowKit
import Derived.Test.YtmnfemdcccpmfaaDoorWWords
import Derived.Test.YtmnfemdcccpmfaaDoorWLast
import Derived.Test.YtmnfemdcccpmfaaDoorWTab
import Derived.Test.YtmnfemdcccpmfaaDoorWFour
import Derived.Test.YtmnfemdcccpmfaaDoorWQPut
import Derived.Test.YtmnfemdcccpmfaaDoorWApart
import Derived.Test.YtmnfemdcccpmfaaDoorWArr
import Derived.Test.YtmnfemdcccpmfaaDoorWZeros
import Derived.Test.YtmnfemdcccpmfaaDoorWFoot
import Derived.Test.YtmnfemdcccpmfaaDoorWKept
import Derived.Test.YtmnfemdcccpmfaaDoorWShare
import Derived.Test.YtmnfemdcccpmfaaDoorWN
import Derived.Test.YtmnfemdcccpmfaaDoorWFootNe
import Derived.Test.YtmnfemdcccpmfaaDoorWAt
import Derived.Test.YtmnfemdcccpmfaaDoorWEqStruct
import Derived.Test.YtmnfemdcccpmfaaDoorWRepsOne
import Derived.Test.YtmnfemdcccpmfaaDoorWInv
import Derived.Test.YtmnfemdcccpmfaaDoorWInvWords
import Derived.Test.YtmnfemdcccpmfaaDoorWGuard
import Derived.Test.YtmnfemdcccpmfaaDoorWNEv
import Derived.Test.YtmnfemdcccpmfaaDoorWMore
namespace Go.Proofs.YtmnfemdcccpmfaaDoor.PFaultFinds
open Go.RowKit Go.Proofs.YtmnfemdcccpmfaaDoorW.PrintWords Go.Proofs.YtmnfemdcccpmfaaDoorW.PrintLast Go.Proofs.YtmnfemdcccpmfaaDoorW.PrintMore
attribute [local go_sem] max2_int min2_int max_two min_two max_three min_three max_four min_four   -- for this text's walks alone
set_option linter.unusedVariables false
set_option linter.unusedSimpArgs false



def errW : Option Int → Value
  | none => .nilIface
  | some c => .iface 30 (.int .i64 c)
theorem errW_none : errW none = .nilIface := rfl
theorem errW_some (c : Int) : errW (some c) = .iface 30 (.int .i64 c) := rfl

-- the values' own types

end Go.Proofs.YtmnfemdcccpmfaaDoor.PFaultFinds
