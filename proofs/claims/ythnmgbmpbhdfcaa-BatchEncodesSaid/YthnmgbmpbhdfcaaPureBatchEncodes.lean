/- Any batch as bytes, or why not. -/
import Derived.Test.YthnmgbmpbhdfcaaPBatchEncodesx1
namespace Go.Proofs.Ythnmgbmpbhdfcaa.Pure
open Go.RowKit Go.Proofs.Ythnmgbmpbhdfcaa.Hand Go.Proofs.Ythnmgbmpbhdfcaa.B0 Go.Proofs.Ythnmgbmpbhdfcaa.PBatchEncodes Go.Proofs.YthnmgbmpbhdfcaaW.PrintWords

theorem copied_ev3 (k p e s : Int) (t : Bool) (l : List S47) (h : l.length * 40 ≤ 140737488351232) : gazettelaw02_Copied.f k p e s t l = some (k, p, e, s, t, l) := by
  unfold gazettelaw02_Copied.f
  rw [Option.bind_some, if_pos (by rw [List.length_nil]; omega), List.nil_append]
theorem BatchEncodes (k p e s : Int) (t : Bool) (l : List S47) (h : l.length * 40 ≤ 140737488351232) : gazettelaw02_BatchEncodes.f k p e s t l = some true := by
  unfold gazettelaw02_BatchEncodes.f
  rw [copied_ev3 k p e s t l h, Option.bind_some]
  unfold batch_Encode.f refEncode.f gazettelaw02_num.f lawKnows.f
  simp only [Option.bind_some, if_true]
end Go.Proofs.Ythnmgbmpbhdfcaa.Pure
