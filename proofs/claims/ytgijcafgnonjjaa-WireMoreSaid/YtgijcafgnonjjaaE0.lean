/- What the Go functions answer, as Lean functions, and the proofs that they do: written by a program (printfl.py over the print). -/
import Derived.Test.YtgijcafgnonjjaaProg
import Derived.Test.YtgijcafgnonjjaaFl
import Derived.Below
import Derived.Deep.Draws
import Derived.Deep.AppendLies
import Derived.Maps.AppendAt
import Derived.OwnWalk
import Derived.Laws.BytesArg
import Derived.Laws.MakeOwn
import Derived.Laws.OwnMore
import Derived.Deep.OwnRows
import Derived.Tactics
import Derived.Lib.ConvBytes
import Derived.Laws.Slices
import Derived.WalkKit
import Derived.KernelRfl
import Derived.RowKit3
import Derived.Deep.LoopGhost
import Derived.Deep.QuietTactic
import Derived.BigQuiet
import Derived.WideLaws
import Derived.Deep.DeepCutAuto
import Derived.Deep.CutBlock
import Derived.Deep.RegionHeld3
import Derived.Laws.Rows
import Derived.Lib.AppendStr
import Derived.ArgAppend
import Derived.Laws.IdiomCopy
import Derived.OrdersHeld
import Derived.Laws.BitsLemmas
import Derived.RowKit
import Derived.Test.YtgijcafgnonjjaaWWords
import Derived.Test.YtgijcafgnonjjaaWLast
import Derived.Test.YtgijcafgnonjjaaWTab
import Derived.Test.YtgijcafgnonjjaaWQPut
import Derived.Test.YtgijcafgnonjjaaWApart
import Derived.Test.YtgijcafgnonjjaaWArr
import Derived.Test.YtgijcafgnonjjaaWZeros
import Derived.Test.YtgijcafgnonjjaaWFoot
import Derived.Test.YtgijcafgnonjjaaWKept
import Derived.Test.YtgijcafgnonjjaaWShare
import Derived.Test.YtgijcafgnonjjaaWN
import Derived.Test.YtgijcafgnonjjaaWRepsOne
import Derived.Test.YtgijcafgnonjjaaWGuard
import Derived.Test.YtgijcafgnonjjaaWNEv
import Derived.Test.YtgijcafgnonjjaaWMore
namespace Go.Proofs.Ytgijcafgnonjjaa.E
open Go.RowKit Go.Proofs.YtgijcafgnonjjaaW.PrintWords Go.Proofs.YtgijcafgnonjjaaW.PrintLast Go.Proofs.YtgijcafgnonjjaaW.PrintMore
attribute [local go_sem] max2_int min2_int max_two min_two max_three min_three max_four min_four   -- for this text's walks alone
attribute [local go_sem] Go.Proofs.Ytgijcafgnonjjaa.Fl.run_f64bits Go.Proofs.Ytgijcafgnonjjaa.Fl.run_f64from Go.Proofs.Ytgijcafgnonjjaa.Fl.unary_neg_float Go.Proofs.Ytgijcafgnonjjaa.Fl.run_fadd Go.Proofs.Ytgijcafgnonjjaa.Fl.run_fsub
set_option linter.unusedVariables false
set_option linter.unusedSimpArgs false



def errW : Option Int → Value
  | none => .nilIface
  | some c => .iface 0 (.int .i64 c)
theorem errW_none : errW none = .nilIface := rfl
theorem errW_some (c : Int) : errW (some c) = .iface 0 (.int .i64 c) := rfl

-- the values' own types

end Go.Proofs.Ytgijcafgnonjjaa.E
