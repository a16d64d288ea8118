/- Which batches may be, and how many offsets they take. -/
import Derived.Test.YthnmgbmpbhdfcaaPBatchChecksx1
namespace Go.Proofs.Ythnmgbmpbhdfcaa.Pure
open Go.RowKit Go.Proofs.Ythnmgbmpbhdfcaa.Hand Go.Proofs.Ythnmgbmpbhdfcaa.B0 Go.Proofs.Ythnmgbmpbhdfcaa.PBatchChecks Go.Proofs.YthnmgbmpbhdfcaaW.PrintWords

theorem copied_ev (k p e s : Int) (t : Bool) (l : List S47) (h : l.length * 40 ≤ 140737488351232) : gazettelaw02_Copied.f k p e s t l = some (k, p, e, s, t, l) := by
  unfold gazettelaw02_Copied.f
  rw [Option.bind_some, if_pos (by rw [List.length_nil]; omega), List.nil_append]
theorem recsSame_refl : ∀ l : List S47, recsSame l l = true
  | [] => rfl
  | x :: l => by simp [recsSame, recSame, recsSame_refl l]
theorem BatchChecks (k p e s : Int) (t : Bool) (l : List S47) (h : l.length * 40 ≤ 140737488351232) : gazettelaw02_BatchChecks.f k p e s t l = some true := by
  unfold gazettelaw02_BatchChecks.f
  rw [copied_ev k p e s t l h, Option.bind_some]
  unfold batch_Check.f gazettelaw02_num.f refCheck.f batchLen.f refLen.f lawSame.f lawKnows.f
  simp only [Option.bind_some, if_true, sameF, recsSame_refl, decide_true, Bool.and_self]
end Go.Proofs.Ythnmgbmpbhdfcaa.Pure
