-- Written by a program of this session (hprint.py, over the kit's print.py). Not trusted: Lean checks it.
import Derived.Test.YthnmgbmpbhdfcaaProg
import Derived.Test.YthnmgbmpbhdfcaaB0x5
import Derived.Below
import Derived.Deep.Draws
import Derived.Deep.AppendLies
import Derived.Maps.AppendAt
import Derived.OwnWalk
import Derived.Laws.BytesArg
import Derived.Laws.MakeOwn
import Derived.Laws.OwnMore
import Derived.Deep.OwnRows
import Derived.Tactics
import Derived.Lib.ConvBytes
import Derived.Laws.Slices
import Derived.WalkKit
import Derived.KernelRfl
import Derived.RowKit3
import Derived.Deep.LoopGhost
import Derived.Deep.QuietTactic
import Derived.BigQuiet
import Derived.WideLaws
import Derived.Deep.DeepCutAuto
import Derived.Deep.CutBlock
import Derived.Deep.RegionHeld3
import Derived.Laws.Rows
import Derived.Lib.AppendStr
import Derived.ArgAppend
import Derived.Laws.IdiomCopy
import Derived.OrdersHeld
import Derived.Laws.BitsLemmas
import Derived.RowKit
import Derived.Test.YthnmgbmpbhdfcaaHB5
import Derived.Test.YthnmgbmpbhdfcaaWWords
import Derived.Test.YthnmgbmpbhdfcaaWLast
import Derived.Test.YthnmgbmpbhdfcaaWTab
import Derived.Test.YthnmgbmpbhdfcaaHW
import Derived.Test.YthnmgbmpbhdfcaaWEqStruct
import Derived.Test.YthnmgbmpbhdfcaaWRepsOne
import Derived.Test.YthnmgbmpbhdfcaaWGuard
namespace Go.Proofs.Ythnmgbmpbhdfcaa.D0
open Go.Proofs.Ythnmgbmpbhdfcaa.Hand
open Go.Proofs.Ythnmgbmpbhdfcaa.B0
open Go.RowKit Go.Proofs.YthnmgbmpbhdfcaaW.PrintWords Go.Proofs.YthnmgbmpbhdfcaaW.PrintLast Go.Proofs.YthnmgbmpbhdfcaaW.PrintMore
attribute [local go_sem] max2_int min2_int max_two min_two max_three min_three max_four min_four   -- for this text's walks alone
set_option linter.unusedVariables false
set_option linter.unusedSimpArgs false




-- the values' own types
/-! #### struct type 47 -/

end Go.Proofs.Ythnmgbmpbhdfcaa.D0
