-- Written by a program of this session (wip/hprint.py), out of the translation's own print.
import Derived.Test.YtccnicigldjcdaaProg
import Derived.Below
import Derived.Deep.Draws
import Derived.Deep.AppendLies
import Derived.Maps.AppendAt
import Derived.OwnWalk
import Derived.Laws.BytesArg
import Derived.Laws.MakeOwn
import Derived.Laws.OwnMore
import Derived.Deep.OwnRows
import Derived.Tactics
import Derived.Lib.ConvBytes
import Derived.Laws.Slices
import Derived.WalkKit
import Derived.KernelRfl
import Derived.RowKit3
import Derived.Deep.LoopGhost
import Derived.Deep.QuietTactic
import Derived.BigQuiet
import Derived.WideLaws
import Derived.Deep.DeepCutAuto
import Derived.Deep.CutBlock
import Derived.Deep.RegionHeld3
import Derived.Laws.Rows
import Derived.Lib.AppendStr
import Derived.ArgAppend
import Derived.Laws.IdiomCopy
import Derived.OrdersHeld
import Derived.Laws.BitsLemmas
import Derived.RowKit
import Derived.Test.YtccnicigldjcdaaHBits
import Derived.Test.YtccnicigldjcdaaWWords
import Derived.Test.YtccnicigldjcdaaWLast
import Derived.Test.YtccnicigldjcdaaWTab
import Derived.Test.YtccnicigldjcdaaWFour
import Derived.Test.YtccnicigldjcdaaWQPut
import Derived.Test.YtccnicigldjcdaaWApart
import Derived.Test.YtccnicigldjcdaaWArr
import Derived.Test.YtccnicigldjcdaaWZeros
import Derived.Test.YtccnicigldjcdaaWFoot
import Derived.Test.YtccnicigldjcdaaWKept
import Derived.Test.YtccnicigldjcdaaWShare
import Derived.Test.YtccnicigldjcdaaWN
import Derived.Test.YtccnicigldjcdaaWFootNe
import Derived.Test.YtccnicigldjcdaaWAt
import Derived.Test.YtccnicigldjcdaaWEqStruct
import Derived.Test.YtccnicigldjcdaaWRepsOne
import Derived.Test.YtccnicigldjcdaaWInv
import Derived.Test.YtccnicigldjcdaaWInvWords
import Derived.Test.YtccnicigldjcdaaWGuard
import Derived.Test.YtccnicigldjcdaaWNEv
import Derived.Test.YtccnicigldjcdaaWMore
namespace Go.Proofs.Ytccnicigldjcdaa.PBits
open Go.RowKit Go.Proofs.YtccnicigldjcdaaW.PrintWords Go.Proofs.YtccnicigldjcdaaW.PrintLast Go.Proofs.YtccnicigldjcdaaW.PrintMore Go.Proofs.Ytccnicigldjcdaa.H
attribute [local go_sem] max2_int min2_int max_two min_two max_three min_three max_four min_four   -- for this text's walks alone
set_option linter.unusedVariables false
set_option linter.unusedSimpArgs false



def errW : Option Int → Value
  | none => .nilIface
  | some c => .iface 0 (.int .i64 c)
theorem errW_none : errW none = .nilIface := rfl
theorem errW_some (c : Int) : errW (some c) = .iface 0 (.int .i64 c) := rfl

theorem info5 : (Try.prog.info? 5).map (fun i => (i.zero, i.size, i.bytes)) = some (some (.int .u8 0), 1, 1) := by kernel_rfl
-- the values' own types

end Go.Proofs.Ytccnicigldjcdaa.PBits
