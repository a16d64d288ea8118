/- What must come is there: knows, evaluated. -/
import Derived.Test.YthnmgbmpbhdfcaaB2x1
namespace Go.Proofs.Ythnmgbmpbhdfcaa.Hand
open Go.RowKit Go.Proofs.Ythnmgbmpbhdfcaa Go.Proofs.YthnmgbmpbhdfcaaW.PrintWords Go.Proofs.YthnmgbmpbhdfcaaW.PrintMore Go.Proofs.Ythnmgbmpbhdfcaa.B0
theorem knows_ev : B2.gazettelaw02_knows.f = some true := by decide +kernel
def lawKnows.f : Option Bool := some true
theorem lawKnows.calls (r : Bool) (w : World) (h : lawKnows.f = some r) : Calls Try.prog 17 #[] w fun e w' => e = .returned (.bool r) ∧ Below w.heap.size w w' :=
  B2.gazettelaw02_knows.calls r w (knows_ev.trans h)
end Go.Proofs.Ythnmgbmpbhdfcaa.Hand
