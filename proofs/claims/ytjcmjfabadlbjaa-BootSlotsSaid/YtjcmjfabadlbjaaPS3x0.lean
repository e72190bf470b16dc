-- Written by a program of this session's (the kit's printer, some functions taken by contracts that this session proved).
import Derived.Test.YtjcmjfabadlbjaaProg
import Derived.Below
import Derived.Deep.Draws
import Derived.Deep.AppendLies
import Derived.Maps.AppendAt
import Derived.OwnWalk
import Derived.Laws.BytesArg
import Derived.Laws.MakeOwn
import Derived.Laws.OwnMore
import Derived.Deep.OwnRows
import Derived.Tactics
import Derived.Lib.ConvBytes
import Derived.Laws.Slices
import Derived.WalkKit
import Derived.KernelRfl
import Derived.RowKit3
import Derived.Deep.LoopGhost
import Derived.Deep.QuietTactic
import Derived.BigQuiet
import Derived.WideLaws
import Derived.Deep.DeepCutAuto
import Derived.Deep.CutBlock
import Derived.Deep.RegionHeld3
import Derived.Laws.Rows
import Derived.Lib.AppendStr
import Derived.ArgAppend
import Derived.Laws.IdiomCopy
import Derived.OrdersHeld
import Derived.Laws.BitsLemmas
import Derived.RowKit
import Derived.Test.YtjcmjfabadlbjaaPutRef
import Derived.Test.YtjcmjfabadlbjaaWWords
import Derived.Test.YtjcmjfabadlbjaaWLast
import Derived.Test.YtjcmjfabadlbjaaWTab
import Derived.Test.YtjcmjfabadlbjaaWFour
import Derived.Test.YtjcmjfabadlbjaaWQPut
import Derived.Test.YtjcmjfabadlbjaaWApart
import Derived.Test.YtjcmjfabadlbjaaWArr
import Derived.Test.YtjcmjfabadlbjaaWZeros
import Derived.Test.YtjcmjfabadlbjaaWFoot
import Derived.Test.YtjcmjfabadlbjaaWKept
import Derived.Test.YtjcmjfabadlbjaaWShare
import Derived.Test.YtjcmjfabadlbjaaWN
import Derived.Test.YtjcmjfabadlbjaaWFootNe
import Derived.Test.YtjcmjfabadlbjaaWAt
import Derived.Test.YtjcmjfabadlbjaaWEqStruct
import Derived.Test.YtjcmjfabadlbjaaWRepsOne
import Derived.Test.YtjcmjfabadlbjaaWInv
import Derived.Test.YtjcmjfabadlbjaaWInvWords
import Derived.Test.YtjcmjfabadlbjaaWGuard
import Derived.Test.YtjcmjfabadlbjaaWNEv
import Derived.Test.YtjcmjfabadlbjaaWMore
namespace Go.Proofs.Ytjcmjfabadlbjaa.PS3
open Go.RowKit Go.Proofs.YtjcmjfabadlbjaaW.PrintWords Go.Proofs.YtjcmjfabadlbjaaW.PrintLast Go.Proofs.YtjcmjfabadlbjaaW.PrintMore
attribute [local go_sem] max2_int min2_int max_two min_two max_three min_three max_four min_four   -- for this text's walks alone
set_option linter.unusedVariables false
set_option linter.unusedSimpArgs false



def errW : Option Int → Value
  | none => .nilIface
  | some c => .iface 0 (.int .i64 c)
theorem errW_none : errW none = .nilIface := rfl
theorem errW_some (c : Int) : errW (some c) = .iface 0 (.int .i64 c) := rfl

theorem info5 : (Try.prog.info? 5).map (fun i => (i.zero, i.size, i.bytes)) = some (some (.int .u8 0), 1, 1) := by kernel_rfl
-- the values' own types

end Go.Proofs.Ytjcmjfabadlbjaa.PS3
