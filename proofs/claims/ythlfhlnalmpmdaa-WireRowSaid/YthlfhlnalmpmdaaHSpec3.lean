/- The document's GetText: its contract in the printed texts' form. -/
import Derived.Test.YthlfhlnalmpmdaaHUnframe
namespace Go.Proofs.Ythlfhlnalmpmdaa.Hand
open Go.RowKit Go.Proofs.Ythlfhlnalmpmdaa Go.Proofs.YthlfhlnalmpmdaaW.PrintWords Go.Proofs.YthlfhlnalmpmdaaW.PrintMore
def gazetteref01_GetText.f (l : List Int) (p : Int) : Option (ByteArray × Int × Int) := wire_GetText.f l p
theorem gazetteref01_GetText.calls (A0 : Option Addr) (c0 : Nat) (l0 : List Int) (a1 : Int) (r1 : ByteArray) (r2 : Int) (r3 : Int) (w : World) (hr0 : Kd.C (Kd.int .u8) w A0 l0.length l0) (hc0 : l0.length ≤ c0) (h : gazetteref01_GetText.f l0 a1 = some (r1, r2, r3)) :
    Calls Try.prog 26 #[.slice A0 l0.length c0, .int .i64 a1] w fun e w' => e = .returned (.tuple #[.string r1, .int .i64 r2, .int .i64 r3]) ∧ Drawn0 w w' := by
  unfold gazetteref01_GetText.f wire_GetText.f at h
  by_cases hb : isB l0 = true
  · rw [if_pos hb] at h
    have e := Option.some.inj h
    have := refGetText_calls0 A0 c0 l0 a1 w hr0 hc0 ((isB_iff l0).1 hb)
    rw [e] at this
    exact this
  · rw [if_neg hb] at h; cases h
end Go.Proofs.Ythlfhlnalmpmdaa.Hand
