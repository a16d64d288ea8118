/- step: a call on both nets answers true. -/
import Derived.Test.YtckeahjlfopaaaaHN21
import Derived.Test.YtckeahjlfopaaaaHN22
import Derived.Test.YtckeahjlfopaaaaHN23
import Derived.Test.YtckeahjlfopaaaaHN24
import Derived.Test.YtckeahjlfopaaaaHN25
namespace Go.Proofs.Ytckeahjlfopaaaa.Hand
open Go.RowKit Go.Proofs.Ytckeahjlfopaaaa Go.Proofs.YtckeahjlfopaaaaW.PrintWords Go.Proofs.YtckeahjlfopaaaaW.PrintLast
set_option linter.unusedVariables false
set_option linter.unusedSimpArgs false
set_option maxHeartbeats 40000000 in
set_option maxRecDepth 100000 in
theorem step_c {W : World} {F0 : Nat → Prop} {g r : Nat} {lu : List Int} {la : List (Int × List Int)} (h : PI W F0 g r lu la) (ki nn : Int) (A1 A2 : Option Addr) (c1 c2 : Nat) (b l : List Int) (hr1 : ∀ W', Fr F0 W W' → Kd.C (Kd.int .u8) W' A1 b.length b) (hr2 : ∀ W', Fr F0 W W' → Kd.C (Kd.int .i64) W' A2 l.length l)
    (hlu : (lu.length + l.length) * 8 ≤ 140737488355328) (hla : (la.length + 1) * 32 ≤ 140737488355328) (hb : b.length ≤ 140737488351232) (hm : ∀ m ∈ la, m.2.length ≤ 140737488351232) :
    Calls Try.prog 17 #[.pointer (some ⟨g, 0, none⟩), .pointer (some ⟨r, 0, none⟩), .agg #[.int .i64 ki, .int .i64 nn, .slice A1 b.length c1, .slice A2 l.length c2]] W (StepP F0 W g r (lu.length + l.length) (la.length + 1)) := by
  by_cases h0 : ki = 0
  · exact step_k0 h ki nn A1 A2 c1 c2 b l hr1 hr2 h0 hlu hla hb hm
  by_cases h1 : ki = 1
  · exact step_k1 h ki nn A1 A2 c1 c2 b l hr1 hr2 h1 hlu hla hb hm
  by_cases h2 : ki = 2
  · exact step_k2 h ki nn A1 A2 c1 c2 b l hr1 hr2 h2 hlu hla hb hm
  by_cases h3 : ki = 3
  · exact step_k3 h ki nn A1 A2 c1 c2 b l hr1 hr2 h3 hlu hla hb hm
  exact step_k4 h ki nn A1 A2 c1 c2 b l hr1 hr2 (by simpa using h0) (by simpa using h1) (by simpa using h2) (by simpa using h3) hlu hla hb hm
end Go.Proofs.Ytckeahjlfopaaaa.Hand
