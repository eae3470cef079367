-- Lines written by a program of this session (wip/tools/myprint.py); Lean checks them.
import Derived.Test.YtkohkcnajddcoaaProg
import Derived.Below
import Derived.Deep.Draws
import Derived.Deep.AppendLies
import Derived.Maps.AppendAt
import Derived.OwnWalk
import Derived.Laws.BytesArg
import Derived.Laws.MakeOwn
import Derived.Laws.OwnMore
import Derived.Deep.OwnRows
import Derived.Tactics
import Derived.Lib.ConvBytes
import Derived.Laws.Slices
import Derived.WalkKit
import Derived.KernelRfl
import Derived.RowKit3
import Derived.Deep.LoopGhost
import Derived.Deep.QuietTactic
import Derived.BigQuiet
import Derived.WideLaws
import Derived.Deep.DeepCutAuto
import Derived.Deep.CutBlock
import Derived.Deep.RegionHeld3
import Derived.Laws.Rows
import Derived.Lib.AppendStr
import Derived.ArgAppend
import Derived.Laws.IdiomCopy
import Derived.OrdersHeld
import Derived.Laws.BitsLemmas
import Derived.RowKit
import Derived.Test.YtkohkcnajddcoaaOwn
import Derived.Test.YtkohkcnajddcoaaWWords
import Derived.Test.YtkohkcnajddcoaaWLast
import Derived.Test.YtkohkcnajddcoaaWTab
import Derived.Test.YtkohkcnajddcoaaWFour
import Derived.Test.YtkohkcnajddcoaaWQPut
import Derived.Test.YtkohkcnajddcoaaWApart
import Derived.Test.YtkohkcnajddcoaaWArr
import Derived.Test.YtkohkcnajddcoaaWZeros
import Derived.Test.YtkohkcnajddcoaaWFoot
import Derived.Test.YtkohkcnajddcoaaWKept
import Derived.Test.YtkohkcnajddcoaaWShare
import Derived.Test.YtkohkcnajddcoaaWN
import Derived.Test.YtkohkcnajddcoaaWFootNe
import Derived.Test.YtkohkcnajddcoaaWAt
import Derived.Test.YtkohkcnajddcoaaWEqStruct
import Derived.Test.YtkohkcnajddcoaaWRepsOne
import Derived.Test.YtkohkcnajddcoaaWInv
import Derived.Test.YtkohkcnajddcoaaWInvWords
import Derived.Test.YtkohkcnajddcoaaWGuard
import Derived.Test.YtkohkcnajddcoaaWNEv
import Derived.Test.YtkohkcnajddcoaaWMore
namespace Go.Proofs.Ytkohkcnajddcoaa.QN
open Go.RowKit Go.Proofs.YtkohkcnajddcoaaW.PrintWords Go.Proofs.YtkohkcnajddcoaaW.PrintLast Go.Proofs.YtkohkcnajddcoaaW.PrintMore
attribute [local go_sem] max2_int min2_int max_two min_two max_three min_three max_four min_four   -- for this text's walks alone
set_option linter.unusedVariables false
set_option linter.unusedSimpArgs false



def errW : Option Int → Value
  | none => .nilIface
  | some c => .iface 0 (.int .i64 c)
theorem errW_none : errW none = .nilIface := rfl
theorem errW_some (c : Int) : errW (some c) = .iface 0 (.int .i64 c) := rfl

theorem info3 : (Try.prog.info? 3).map (fun i => (i.zero, i.size, i.bytes)) = some (some (.int .i64 0), 1, 8) := by kernel_rfl
-- the values' own types

end Go.Proofs.Ytkohkcnajddcoaa.QN
