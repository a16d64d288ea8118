-- Written by a program of this session (hprint.py, over the kit's print.py). Not trusted: Lean checks it.
import Derived.Test.YtamiglolpchplaaProg
import Derived.Test.YtamiglolpchplaaR0x1
import Derived.Below
import Derived.Deep.Draws
import Derived.Deep.AppendLies
import Derived.Maps.AppendAt
import Derived.OwnWalk
import Derived.Laws.BytesArg
import Derived.Laws.MakeOwn
import Derived.Laws.OwnMore
import Derived.Deep.OwnRows
import Derived.Tactics
import Derived.Lib.ConvBytes
import Derived.Laws.Slices
import Derived.WalkKit
import Derived.KernelRfl
import Derived.RowKit3
import Derived.Deep.LoopGhost
import Derived.Deep.QuietTactic
import Derived.BigQuiet
import Derived.WideLaws
import Derived.Deep.DeepCutAuto
import Derived.Deep.CutBlock
import Derived.Deep.RegionHeld3
import Derived.Laws.Rows
import Derived.Lib.AppendStr
import Derived.ArgAppend
import Derived.Laws.IdiomCopy
import Derived.OrdersHeld
import Derived.Laws.BitsLemmas
import Derived.RowKit
import Derived.Test.YtamiglolpchplaaMA
import Derived.Test.YtamiglolpchplaaWWords
import Derived.Test.YtamiglolpchplaaWLast
import Derived.Test.YtamiglolpchplaaWTab
import Derived.Test.YtamiglolpchplaaWFour
import Derived.Test.YtamiglolpchplaaWQPut
import Derived.Test.YtamiglolpchplaaWApart
import Derived.Test.YtamiglolpchplaaWArr
import Derived.Test.YtamiglolpchplaaWZeros
import Derived.Test.YtamiglolpchplaaWFoot
import Derived.Test.YtamiglolpchplaaWKept
import Derived.Test.YtamiglolpchplaaWShare
import Derived.Test.YtamiglolpchplaaWN
import Derived.Test.YtamiglolpchplaaWFootNe
import Derived.Test.YtamiglolpchplaaWAt
import Derived.Test.YtamiglolpchplaaWEqStruct
import Derived.Test.YtamiglolpchplaaWRepsOne
import Derived.Test.YtamiglolpchplaaWInv
import Derived.Test.YtamiglolpchplaaWInvWords
import Derived.Test.YtamiglolpchplaaWGuard
import Derived.Test.YtamiglolpchplaaWNEv
import Derived.Test.YtamiglolpchplaaWMore
namespace Go.Proofs.Ytamiglolpchplaa.PHistoryLess
open Go.Proofs.Ytamiglolpchplaa.R0
open Go.Proofs.Ytamiglolpchplaa.Hand
open Go.Proofs.Ytamiglolpchplaa.R0
open Go.RowKit Go.Proofs.YtamiglolpchplaaW.PrintWords Go.Proofs.YtamiglolpchplaaW.PrintLast Go.Proofs.YtamiglolpchplaaW.PrintMore
attribute [local go_sem] max2_int min2_int max_two min_two max_three min_three max_four min_four   -- for this text's walks alone
set_option linter.unusedVariables false
set_option linter.unusedSimpArgs false




-- the values' own types

/-! #### struct type 34 -/
theorem k34_openF {W : World} {ok : Nat → Prop} {x : S34} {cs : List Value} (h : Kd.FK k34 W ok x cs) : ∃ A6 c6, cs = [.bool x.f0, .bool x.f1, .int .i64 x.f2, .int .i64 x.f3, .int .i64 x.f4, .string x.f5, .slice A6 x.f6.length c6] ∧ x.f6.length ≤ c6 ∧ Kd.F Kd.string W ok A6 x.f6.length x.f6 := by
  obtain ⟨A6, c6, rfl, l6, _⟩ := k34_open (Kd.FK_now h)
  exact ⟨A6, c6, rfl, l6, (fun W' hW => by obtain ⟨A6_, c6_, he, l6_, g6_⟩ := k34_open (h W' hW); injection (Option.some.inj (show some (Value.slice A6 x.f6.length c6) = some (Value.slice A6_ x.f6.length c6_) from congrArg (fun l => l[6]?) he)) with ha_ _ _; rw [ha_]; exact g6_)⟩
theorem k34_mkF (W : World) (ok : Nat → Prop) (x : S34) {A6 : Option Addr} {c6 : Nat} (l6 : x.f6.length ≤ c6) (g6 : Kd.F Kd.string W ok A6 x.f6.length x.f6) : Kd.FK k34 W ok x [.bool x.f0, .bool x.f1, .int .i64 x.f2, .int .i64 x.f3, .int .i64 x.f4, .string x.f5, .slice A6 x.f6.length c6] := fun W2 hW => k34_mk W2 x l6 (g6 W2 hW)

/-! #### struct type 35 -/
theorem k35_openF {W : World} {ok : Nat → Prop} {x : S35} {cs : List Value} (h : Kd.FK k35 W ok x cs) : ∃ A6 c6, cs = [.bool x.f0, .bool x.f1, .int .i64 x.f2, .int .i64 x.f3, .int .i64 x.f4, .string x.f5, .slice A6 x.f6.length c6] ∧ x.f6.length ≤ c6 ∧ Kd.F Kd.string W ok A6 x.f6.length x.f6 := by
  obtain ⟨A6, c6, rfl, l6, _⟩ := k35_open (Kd.FK_now h)
  exact ⟨A6, c6, rfl, l6, (fun W' hW => by obtain ⟨A6_, c6_, he, l6_, g6_⟩ := k35_open (h W' hW); injection (Option.some.inj (show some (Value.slice A6 x.f6.length c6) = some (Value.slice A6_ x.f6.length c6_) from congrArg (fun l => l[6]?) he)) with ha_ _ _; rw [ha_]; exact g6_)⟩
theorem k35_mkF (W : World) (ok : Nat → Prop) (x : S35) {A6 : Option Addr} {c6 : Nat} (l6 : x.f6.length ≤ c6) (g6 : Kd.F Kd.string W ok A6 x.f6.length x.f6) : Kd.FK k35 W ok x [.bool x.f0, .bool x.f1, .int .i64 x.f2, .int .i64 x.f3, .int .i64 x.f4, .string x.f5, .slice A6 x.f6.length c6] := fun W2 hW => k35_mk W2 x l6 (g6 W2 hW)

end Go.Proofs.Ytamiglolpchplaa.PHistoryLess
