/- The document's sum and wire.GetText: contracts in the printed texts' form. -/
import Derived.Test.YthlfhlnalmpmdaaHSpec
import Derived.Test.YthlfhlnalmpmdaaHRefCrc
import Derived.Test.YthlfhlnalmpmdaaHGetText
namespace Go.Proofs.Ythlfhlnalmpmdaa.Hand
open Go.RowKit Go.Proofs.Ythlfhlnalmpmdaa Go.Proofs.YthlfhlnalmpmdaaW.PrintWords Go.Proofs.YthlfhlnalmpmdaaW.PrintMore
def gazetteref01_Crc.f (l : List Int) : Option Int := wire_Crc.f l
theorem gazetteref01_Crc.calls (A0 : Option Addr) (c0 : Nat) (l0 : List Int) (r : Int) (w : World) (hr0 : Kd.C (Kd.int .u8) w A0 l0.length l0) (_hc0 : l0.length ≤ c0) (h : gazetteref01_Crc.f l0 = some r) :
    Calls Try.prog 13 #[.slice A0 l0.length c0] w fun e w' => e = .returned (.int .u32 r) ∧ Below w.heap.size w w' := by
  unfold gazetteref01_Crc.f wire_Crc.f at h
  by_cases hb : isB l0 = true
  · rw [if_pos hb] at h
    obtain rfl := Option.some.inj h
    exact refCrc_calls0 A0 c0 l0 w hr0 ((isB_iff l0).1 hb)
  · rw [if_neg hb] at h; cases h
def wire_GetText.f (l : List Int) (p : Int) : Option (ByteArray × Int × Int) := if isB l = true then some (textF l p) else none
theorem wire_GetText.calls (A0 : Option Addr) (c0 : Nat) (l0 : List Int) (a1 : Int) (r1 : ByteArray) (r2 : Int) (r3 : Int) (w : World) (hr0 : Kd.C (Kd.int .u8) w A0 l0.length l0) (hc0 : l0.length ≤ c0) (h : wire_GetText.f l0 a1 = some (r1, r2, r3)) :
    Calls Try.prog 25 #[.slice A0 l0.length c0, .int .i64 a1] w fun e w' => e = .returned (.tuple #[.string r1, .int .i64 r2, .int .i64 r3]) ∧ Below w.heap.size w w' := by
  unfold wire_GetText.f at h
  by_cases hb : isB l0 = true
  · rw [if_pos hb] at h
    have e := Option.some.inj h
    have := GetText_calls0 A0 c0 l0 a1 w hr0 hc0 ((isB_iff l0).1 hb)
    rw [e] at this
    exact this
  · rw [if_neg hb] at h; cases h
end Go.Proofs.Ythlfhlnalmpmdaa.Hand
