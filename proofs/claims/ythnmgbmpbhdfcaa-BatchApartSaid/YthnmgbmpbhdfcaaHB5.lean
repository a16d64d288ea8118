/- The reference's write of a batch that may be, as a plain function. -/
import Derived.Test.YthnmgbmpbhdfcaaHB4
namespace Go.Proofs.Ythnmgbmpbhdfcaa.Hand
open Go.RowKit Go.Proofs.Ythnmgbmpbhdfcaa Go.Proofs.YthnmgbmpbhdfcaaW.PrintWords Go.Proofs.YthnmgbmpbhdfcaaW.PrintMore Go.Proofs.Ythnmgbmpbhdfcaa.B0

def refWrite.f (k p e s : Int) (t : Bool) (l : List S47) : Option (List Int) := if checkF k p e s t l = 0 then some (encB k p e s t l) else none
theorem refWrite.calls (a0_0 : Int) (a0_1 : Int) (a0_2 : Int) (a0_3 : Int) (a0_4 : Bool) (A0_5 : Option Addr) (c0_5 : Nat) (l0_5 : List S47) (r : List Int) (w : World) (hr0_5 : Kd.C k47 w A0_5 l0_5.length l0_5) (hc0_5 : l0_5.length ≤ c0_5) (h : refWrite.f a0_0 a0_1 a0_2 a0_3 a0_4 l0_5 = some r) :
    Calls Try.prog 36 #[.agg #[.int .i64 a0_0, .int .i64 a0_1, .int .i64 a0_2, .int .i64 a0_3, .bool a0_4, .slice A0_5 l0_5.length c0_5]] w fun e w' => ∃ v0_ : Value, e = .returned v0_ ∧ Kd.R (Kd.int .u8) 5 w' w.heap.size (fun _ => True) v0_ r ∧ Below w.heap.size w w' := by
  unfold refWrite.f at h
  by_cases hc : checkF a0_0 a0_1 a0_2 a0_3 a0_4 l0_5 = 0
  · rw [if_pos hc] at h
    obtain ⟨f, hf⟩ := write_ev (valid_of hc)
    exact B3.gazetteref02_write.calls f _ _ _ _ _ _ _ _ _ w hr0_5 hc0_5 (hf.trans h)
  · rw [if_neg hc] at h; cases h
end Go.Proofs.Ythnmgbmpbhdfcaa.Hand
