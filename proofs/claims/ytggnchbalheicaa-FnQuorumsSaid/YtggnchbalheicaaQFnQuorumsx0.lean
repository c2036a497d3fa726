-- Written by a program of this session, for this claim.
import Derived.Test.YtggnchbalheicaaProg
import Derived.Below
import Derived.Deep.Draws
import Derived.Deep.AppendLies
import Derived.Maps.AppendAt
import Derived.OwnWalk
import Derived.Laws.BytesArg
import Derived.Laws.MakeOwn
import Derived.Laws.OwnMore
import Derived.Deep.OwnRows
import Derived.Tactics
import Derived.Lib.ConvBytes
import Derived.Laws.Slices
import Derived.WalkKit
import Derived.KernelRfl
import Derived.RowKit3
import Derived.Deep.LoopGhost
import Derived.Deep.QuietTactic
import Derived.BigQuiet
import Derived.WideLaws
import Derived.Deep.DeepCutAuto
import Derived.Deep.CutBlock
import Derived.Deep.RegionHeld3
import Derived.Laws.Rows
import Derived.Lib.AppendStr
import Derived.ArgAppend
import Derived.Laws.IdiomCopy
import Derived.OrdersHeld
import Derived.Laws.BitsLemmas
import Derived.RowKit
import Derived.Test.YtggnchbalheicaaWWords
import Derived.Test.YtggnchbalheicaaWLast
import Derived.Test.YtggnchbalheicaaWTab
import Derived.Test.YtggnchbalheicaaWFour
import Derived.Test.YtggnchbalheicaaWQPut
import Derived.Test.YtggnchbalheicaaWApart
import Derived.Test.YtggnchbalheicaaWArr
import Derived.Test.YtggnchbalheicaaWZeros
import Derived.Test.YtggnchbalheicaaWFoot
import Derived.Test.YtggnchbalheicaaWKept
import Derived.Test.YtggnchbalheicaaWShare
import Derived.Test.YtggnchbalheicaaWN
import Derived.Test.YtggnchbalheicaaWFootNe
import Derived.Test.YtggnchbalheicaaWAt
import Derived.Test.YtggnchbalheicaaWEqStruct
import Derived.Test.YtggnchbalheicaaWRepsOne
import Derived.Test.YtggnchbalheicaaWInv
import Derived.Test.YtggnchbalheicaaWInvWords
import Derived.Test.YtggnchbalheicaaWGuard
import Derived.Test.YtggnchbalheicaaWNEv
import Derived.Test.YtggnchbalheicaaWMore
namespace Go.Proofs.Ytggnchbalheicaa.QFnQuorums
open Go.RowKit Go.Proofs.YtggnchbalheicaaW.PrintWords Go.Proofs.YtggnchbalheicaaW.PrintLast Go.Proofs.YtggnchbalheicaaW.PrintMore
attribute [local go_sem] max2_int min2_int max_two min_two max_three min_three max_four min_four   -- for this text's walks alone
set_option linter.unusedVariables false
set_option linter.unusedSimpArgs false



def errW : Option Int → Value
  | none => .nilIface
  | some c => .iface 0 (.int .i64 c)
theorem errW_none : errW none = .nilIface := rfl
theorem errW_some (c : Int) : errW (some c) = .iface 0 (.int .i64 c) := rfl

theorem info3 : (Try.prog.info? 3).map (fun i => (i.zero, i.size, i.bytes)) = some (some (.int .i64 0), 1, 8) := by kernel_rfl
-- the values' own types

end Go.Proofs.Ytggnchbalheicaa.QFnQuorums
