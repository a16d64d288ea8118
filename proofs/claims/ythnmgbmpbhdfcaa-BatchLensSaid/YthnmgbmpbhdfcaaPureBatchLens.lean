/- A batch takes as many offsets as it has records; a marker one. -/
import Derived.Test.YthnmgbmpbhdfcaaPBatchLensx1
namespace Go.Proofs.Ythnmgbmpbhdfcaa.Pure
open Go.RowKit Go.Proofs.Ythnmgbmpbhdfcaa.Hand Go.Proofs.Ythnmgbmpbhdfcaa.B0 Go.Proofs.Ythnmgbmpbhdfcaa.PBatchLens Go.Proofs.YthnmgbmpbhdfcaaW.PrintWords

theorem copied_ev2 (k p e s : Int) (t : Bool) (l : List S47) (h : l.length * 40 ≤ 140737488351232) : gazettelaw02_Copied.f k p e s t l = some (k, p, e, s, t, l) := by
  unfold gazettelaw02_Copied.f
  rw [Option.bind_some, if_pos (by rw [List.length_nil]; omega), List.nil_append]
theorem BatchLens (k p e s : Int) (t : Bool) (l : List S47) (h : l.length * 40 ≤ 140737488351232) : ∃ f, gazettelaw02_BatchLens.f f k p e s t l = some true := by
  refine ⟨1, ?_⟩
  unfold gazettelaw02_BatchLens.f
  rw [copied_ev2 k p e s t l h, Option.bind_some]
  unfold batchLen.f
  rw [Option.bind_some]
  unfold lenF markerB
  by_cases h2 : k = 2
  · rw [if_pos h2, if_pos h2, if_pos rfl, gazettelaw02_BatchLens.j0, if_pos rfl, if_pos rfl]; rfl
  · rw [if_neg h2, if_neg h2, gazettelaw02_BatchLens.j0]
    by_cases h3 : (k == 3) = true
    · rw [if_pos h3, if_pos h3, if_pos rfl]; rfl
    · rw [if_neg h3, if_neg h3, if_pos rfl]; rfl
end Go.Proofs.Ythnmgbmpbhdfcaa.Pure
