-- Written by a program of this session (hprint.py, over the kit's print.py). Not trusted: Lean checks it.
import Derived.Test.YthlfhlnalmpmdaaProg
import Derived.Below
import Derived.Deep.Draws
import Derived.Deep.AppendLies
import Derived.Maps.AppendAt
import Derived.OwnWalk
import Derived.Laws.BytesArg
import Derived.Laws.MakeOwn
import Derived.Laws.OwnMore
import Derived.Deep.OwnRows
import Derived.Tactics
import Derived.Lib.ConvBytes
import Derived.Laws.Slices
import Derived.WalkKit
import Derived.KernelRfl
import Derived.RowKit3
import Derived.Deep.LoopGhost
import Derived.Deep.QuietTactic
import Derived.BigQuiet
import Derived.WideLaws
import Derived.Deep.DeepCutAuto
import Derived.Deep.CutBlock
import Derived.Deep.RegionHeld3
import Derived.Laws.Rows
import Derived.Lib.AppendStr
import Derived.ArgAppend
import Derived.Laws.IdiomCopy
import Derived.OrdersHeld
import Derived.Laws.BitsLemmas
import Derived.RowKit
import Derived.Test.YthlfhlnalmpmdaaHSpec3
import Derived.Test.YthlfhlnalmpmdaaWWords
import Derived.Test.YthlfhlnalmpmdaaWLast
import Derived.Test.YthlfhlnalmpmdaaWTab
import Derived.Test.YthlfhlnalmpmdaaWFour
import Derived.Test.YthlfhlnalmpmdaaWQPut
import Derived.Test.YthlfhlnalmpmdaaWApart
import Derived.Test.YthlfhlnalmpmdaaWArr
import Derived.Test.YthlfhlnalmpmdaaWZeros
import Derived.Test.YthlfhlnalmpmdaaWFoot
import Derived.Test.YthlfhlnalmpmdaaWKept
import Derived.Test.YthlfhlnalmpmdaaWShare
import Derived.Test.YthlfhlnalmpmdaaWN
import Derived.Test.YthlfhlnalmpmdaaWFootNe
import Derived.Test.YthlfhlnalmpmdaaWAt
import Derived.Test.YthlfhlnalmpmdaaWEqStruct
import Derived.Test.YthlfhlnalmpmdaaWRepsOne
import Derived.Test.YthlfhlnalmpmdaaWInv
import Derived.Test.YthlfhlnalmpmdaaWInvWords
import Derived.Test.YthlfhlnalmpmdaaWGuard
import Derived.Test.YthlfhlnalmpmdaaWNEv
import Derived.Test.YthlfhlnalmpmdaaWMore
namespace Go.Proofs.Ythlfhlnalmpmdaa.P1
open Go.Proofs.Ythlfhlnalmpmdaa.Hand
open Go.RowKit Go.Proofs.YthlfhlnalmpmdaaW.PrintWords Go.Proofs.YthlfhlnalmpmdaaW.PrintLast Go.Proofs.YthlfhlnalmpmdaaW.PrintMore
attribute [local go_sem] max2_int min2_int max_two min_two max_three min_three max_four min_four   -- for this text's walks alone
set_option linter.unusedVariables false
set_option linter.unusedSimpArgs false



def errW : Option Int → Value
  | none => .nilIface
  | some c => .iface 0 (.int .i64 c)
theorem errW_none : errW none = .nilIface := rfl
theorem errW_some (c : Int) : errW (some c) = .iface 0 (.int .i64 c) := rfl

theorem info5 : (Try.prog.info? 5).map (fun i => (i.zero, i.size, i.bytes)) = some (some (.int .u8 0), 1, 1) := by kernel_rfl
-- the values' own types

end Go.Proofs.Ythlfhlnalmpmdaa.P1
