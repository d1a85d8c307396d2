-- PRINTED BY print.sh 35421559b90ae4d0a3588c463048766b98c2df88dd9212a6774a882060cdf62d: not written by this session
import Derived.Test.YtidefefaealheaaProg
import Derived.Below
import Derived.Deep.Draws
import Derived.Deep.AppendLies
import Derived.Maps.AppendAt
import Derived.OwnWalk
import Derived.Laws.BytesArg
import Derived.Laws.MakeOwn
import Derived.Laws.OwnMore
import Derived.Deep.OwnRows
import Derived.Tactics
import Derived.Lib.ConvBytes
import Derived.Laws.Slices
import Derived.WalkKit
import Derived.KernelRfl
import Derived.RowKit3
import Derived.Deep.LoopGhost
import Derived.Deep.QuietTactic
import Derived.BigQuiet
import Derived.WideLaws
import Derived.Deep.DeepCutAuto
import Derived.Deep.CutBlock
import Derived.Deep.RegionHeld3
import Derived.Laws.Rows
import Derived.Lib.AppendStr
import Derived.ArgAppend
import Derived.Laws.IdiomCopy
import Derived.OrdersHeld
import Derived.Laws.BitsLemmas
import Derived.RowKit
import Derived.Test.YtidefefaealheaaWWords
import Derived.Test.YtidefefaealheaaWLast
import Derived.Test.YtidefefaealheaaWTab
import Derived.Test.YtidefefaealheaaWFour
import Derived.Test.YtidefefaealheaaWQPut
import Derived.Test.YtidefefaealheaaWApart
import Derived.Test.YtidefefaealheaaWArr
import Derived.Test.YtidefefaealheaaWZeros
import Derived.Test.YtidefefaealheaaWFoot
import Derived.Test.YtidefefaealheaaWKept
import Derived.Test.YtidefefaealheaaWShare
import Derived.Test.YtidefefaealheaaWN
import Derived.Test.YtidefefaealheaaWFootNe
import Derived.Test.YtidefefaealheaaWAt
import Derived.Test.YtidefefaealheaaWEqStruct
import Derived.Test.YtidefefaealheaaWRepsOne
import Derived.Test.YtidefefaealheaaWInv
import Derived.Test.YtidefefaealheaaWInvWords
import Derived.Test.YtidefefaealheaaWGuard
import Derived.Test.YtidefefaealheaaWNEv
import Derived.Test.YtidefefaealheaaWMore
namespace Go.Proofs.Ytidefefaealheaa.PAdmitPlays
open Go.RowKit Go.Proofs.YtidefefaealheaaW.PrintWords Go.Proofs.YtidefefaealheaaW.PrintLast Go.Proofs.YtidefefaealheaaW.PrintMore
attribute [local go_sem] max2_int min2_int max_two min_two max_three min_three max_four min_four   -- for this text's walks alone
set_option linter.unusedVariables false
set_option linter.unusedSimpArgs false



def errW : Option Int → Value
  | none => .nilIface
  | some c => .iface 0 (.int .i64 c)
theorem errW_none : errW none = .nilIface := rfl
theorem errW_some (c : Int) : errW (some c) = .iface 0 (.int .i64 c) := rfl

-- the values' own types

end Go.Proofs.Ytidefefaealheaa.PAdmitPlays
