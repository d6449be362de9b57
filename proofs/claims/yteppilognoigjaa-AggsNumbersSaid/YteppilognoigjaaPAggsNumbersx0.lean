-- PRINTED BY print.sh 35421559b90ae4d0a3588c463048766b98c2df88dd9212a6774a882060cdf62d: not written by this session
import Derived.Test.YteppilognoigjaaProg
import Derived.Below
import Derived.Deep.Draws
import Derived.Deep.AppendLies
import Derived.Maps.AppendAt
import Derived.OwnWalk
import Derived.Laws.BytesArg
import Derived.Laws.MakeOwn
import Derived.Laws.OwnMore
import Derived.Deep.OwnRows
import Derived.Tactics
import Derived.Lib.ConvBytes
import Derived.Laws.Slices
import Derived.WalkKit
import Derived.KernelRfl
import Derived.RowKit3
import Derived.Deep.LoopGhost
import Derived.Deep.QuietTactic
import Derived.BigQuiet
import Derived.WideLaws
import Derived.Deep.DeepCutAuto
import Derived.Deep.CutBlock
import Derived.Deep.RegionHeld3
import Derived.Laws.Rows
import Derived.Lib.AppendStr
import Derived.ArgAppend
import Derived.Laws.IdiomCopy
import Derived.OrdersHeld
import Derived.Laws.BitsLemmas
import Derived.RowKit
import Derived.Test.YteppilognoigjaaWWords
import Derived.Test.YteppilognoigjaaWLast
import Derived.Test.YteppilognoigjaaWTab
import Derived.Test.YteppilognoigjaaWFour
import Derived.Test.YteppilognoigjaaWQPut
import Derived.Test.YteppilognoigjaaWApart
import Derived.Test.YteppilognoigjaaWArr
import Derived.Test.YteppilognoigjaaWZeros
import Derived.Test.YteppilognoigjaaWFoot
import Derived.Test.YteppilognoigjaaWKept
import Derived.Test.YteppilognoigjaaWShare
import Derived.Test.YteppilognoigjaaWN
import Derived.Test.YteppilognoigjaaWFootNe
import Derived.Test.YteppilognoigjaaWAt
import Derived.Test.YteppilognoigjaaWEqStruct
import Derived.Test.YteppilognoigjaaWRepsOne
import Derived.Test.YteppilognoigjaaWInv
import Derived.Test.YteppilognoigjaaWInvWords
import Derived.Test.YteppilognoigjaaWGuard
import Derived.Test.YteppilognoigjaaWNEv
import Derived.Test.YteppilognoigjaaWMore
namespace Go.Proofs.Yteppilognoigjaa.PAggsNumbers
open Go.RowKit Go.Proofs.YteppilognoigjaaW.PrintWords Go.Proofs.YteppilognoigjaaW.PrintLast Go.Proofs.YteppilognoigjaaW.PrintMore
attribute [local go_sem] max2_int min2_int max_two min_two max_three min_three max_four min_four   -- for this text's walks alone
set_option linter.unusedVariables false
set_option linter.unusedSimpArgs false



def errW : Option Int → Value
  | none => .nilIface
  | some c => .iface 0 (.int .i64 c)
theorem errW_none : errW none = .nilIface := rfl
theorem errW_some (c : Int) : errW (some c) = .iface 0 (.int .i64 c) := rfl

theorem info2 : (Try.prog.info? 2).map (fun i => (i.zero, i.size, i.bytes)) = some (some (.int .i64 0), 1, 8) := by kernel_rfl
-- the values' own types

end Go.Proofs.Yteppilognoigjaa.PAggsNumbers
