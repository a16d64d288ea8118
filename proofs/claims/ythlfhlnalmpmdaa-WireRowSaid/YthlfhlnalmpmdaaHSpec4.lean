/- The document's texts and frames: what they answer, and their contracts. -/
import Derived.Test.YthlfhlnalmpmdaaHKnows
import Derived.Test.YthlfhlnalmpmdaaP1x1
namespace Go.Proofs.Ythlfhlnalmpmdaa.Hand
open Go.RowKit Go.Proofs.Ythlfhlnalmpmdaa Go.Proofs.YthlfhlnalmpmdaaW.PrintWords Go.Proofs.YthlfhlnalmpmdaaW.PrintMore
theorem refText_ev (s : ByteArray) (hs : s.size ≤ 140737488351232) : P1.gazetteref01_Text.f s = some (textEnc s) := by
  unfold P1.gazetteref01_Text.f textEnc
  by_cases h : 65535 < s.size
  · rw [if_pos (by omega), if_pos h]
  · rw [if_neg (by omega), if_neg h]
    unfold gazetteref01_Bytes.f wire_low.f
    rw [if_pos ⟨by omega, by omega, by omega⟩, Option.bind_some, if_pos (by rw [lowL_length]; omega)]
    rfl
theorem wrap_u32 (n : Nat) (h : n < 4294967296) : wrap64 (n : Int) = n := by unfold wrap64; omega
theorem refFrame_ev (kind : Int) (l : List Int) (hl : isB l = true) : ∃ k, P1.gazetteref01_Frame.f k kind l = some (frameF kind l) := by
  unfold P1.gazetteref01_Frame.f frameF
  refine ⟨1, ?_⟩
  by_cases h1 : kind < 0
  · rw [if_pos h1, if_pos h1, P1.gazetteref01_Frame.j0, if_pos rfl]
  rw [if_neg h1, if_neg h1, P1.gazetteref01_Frame.j0]
  by_cases h2 : 255 < kind
  · rw [if_pos h2, if_pos (by simpa using h2)]
  rw [if_neg h2, if_neg (by simpa using h2)]
  by_cases h3 : 65536 < l.length
  · rw [if_pos h3, if_pos (by omega)]
  rw [if_neg h3, if_neg (by omega)]
  have hb := (isB_iff l).1 hl
  have hbb := frameB_bytes (kind := kind) (by omega) (by omega) hb
  have hlen := frameB_length kind l
  have hcrc := crcOf_lt _ hbb
  unfold gazetteref01_Bytes.f wire_low.f gazetteref01_Crc.f wire_Crc.f
  rw [Option.bind_some, if_pos ⟨by omega, by omega, by omega⟩, Option.bind_some, Int.toNat_natCast, if_pos (by rw [lowL_length]; simp), Option.bind_some, if_pos (by simp [lowL_length]; omega), Option.bind_some]
  rw [show [kind % 256] ++ lowL l.length (Int.toNat 4) ++ l = frameB kind l by rw [show kind % 256 = kind by omega]; rfl]
  rw [if_pos ((isB_iff _).2 hbb), Option.bind_some, wrap_u32 _ hcrc, if_pos ⟨by omega, by omega, by omega⟩, Option.bind_some, Int.toNat_natCast, if_pos (by rw [lowL_length, hlen, show Int.toNat 4 = 4 from rfl]; omega)]
  rfl
theorem getF_in (l : List Int) (p k : Nat) (h1 : 1 ≤ k) (h2 : k ≤ 6) (h : p + k ≤ l.length) : getF l (p : Int) (k : Int) = (((leN ((l.take (p + k)).drop p) : Nat) : Int), (p : Int) + k, 0) := by
  unfold getF
  rw [if_neg (by omega), if_neg (by omega), if_neg (by omega), if_pos (by omega), if_pos (by omega), show ((p : Int) + k).toNat = p + k by omega, Int.toNat_natCast]
theorem wrap_nat (n : Nat) (h : n ≤ 9223372036854775807) : wrap64 (n : Int) = n := by unfold wrap64; omega
theorem refUnframe_ev (l : List Int) (hl : isB l = true) (hmax : l.length ≤ 1000000000000000) (p : Int) : ∃ k, P1.gazetteref01_Unframe.f k l p = some (unfF l p) := by
  have hb := (isB_iff l).1 hl
  unfold P1.gazetteref01_Unframe.f unfF
  refine ⟨1, ?_⟩
  by_cases h1 : p < 0
  · rw [if_pos h1, if_pos h1]
  rw [if_neg h1, if_neg h1]
  obtain ⟨q, rfl⟩ := Int.eq_ofNat_of_zero_le (show 0 ≤ p by omega)
  rw [Int.toNat_natCast]
  by_cases h2 : (q : Int) > l.length
  · rw [if_pos h2, P1.gazetteref01_Unframe.j0, if_pos rfl, if_neg (by omega)]
  rw [if_neg h2, P1.gazetteref01_Unframe.j0]
  have e1 : wrap64 ((l.length : Int) - q) = ((l.length - q : Nat) : Int) := by unfold wrap64; omega
  rw [e1]
  by_cases h3 : q + 5 ≤ l.length
  · rw [if_pos h3, if_neg (by simp; omega)]
    unfold unfN
    have e2 : wrap64 ((q : Int) + 1) = ((q + 1 : Nat) : Int) := by unfold wrap64; omega
    have g1 := getF_in l (q + 1) 4 (by omega) (by omega) (by omega)
    rw [show q + 1 + 4 = q + 5 by omega, show (((q + 1 : Nat) : Int) + ((4 : Nat) : Int)) = ((q + 5 : Nat) : Int) by omega] at g1
    have hn : leN ((l.take (q + 5)).drop (q + 1)) < 4294967296 := by
      have := leN_lt _ (fun x hx => hb x (List.mem_of_mem_take (List.mem_of_mem_drop hx)) : isBytes ((l.take (q + 5)).drop (q + 1)))
      rw [show ((l.take (q + 5)).drop (q + 1)).length = 4 by rw [List.length_drop, List.length_take]; omega] at this
      exact this
    generalize leN ((l.take (q + 5)).drop (q + 1)) = n at *
    unfold gazetteref01_Get.f wire_Get.f gazetteref01_Crc.f wire_Crc.f
    rw [if_pos hl, e2, show (4 : Int) = ((4 : Nat) : Int) from rfl, g1, Option.bind_some]
    dsimp only
    by_cases h4 : 65536 < n
    · rw [if_pos h4, if_pos (by omega)]
    rw [if_neg h4, if_neg (by omega)]
    have e3 : wrap64 ((l.length : Int) - ((q + 5 : Nat) : Int)) = ((l.length - (q + 5) : Nat) : Int) := by unfold wrap64; omega
    have e4 : wrap64 ((n : Int) + ((4 : Nat) : Int)) = ((n + 4 : Nat) : Int) := by unfold wrap64; omega
    have e5 : wrap64 (((q + 5 : Nat) : Int) + (n : Int)) = ((q + 5 + n : Nat) : Int) := by unfold wrap64; omega
    rw [e3, e4, e5]
    by_cases h5 : q + 9 + n ≤ l.length
    · rw [if_pos h5, if_neg (by omega)]
      have g2 := getF_in l (q + 5 + n) 4 (by omega) (by omega) (by omega)
      rw [show q + 5 + n + 4 = q + 9 + n by omega, show (((q + 5 + n : Nat) : Int) + ((4 : Nat) : Int)) = ((q + 9 + n : Nat) : Int) by omega] at g2
      have hb3 : isBytes ((l.take (q + 5 + n)).drop q) := fun x hx => hb x (List.mem_of_mem_take (List.mem_of_mem_drop hx))
      have hcrc := crcOf_lt _ hb3
      rw [if_pos hl, g2, Option.bind_some]
      dsimp only
      rw [if_pos (by omega), if_pos (by omega), if_pos (by omega), Int.toNat_natCast, Int.toNat_natCast, if_pos ((isB_iff _).2 hb3), Option.bind_some, wrap_u32 _ hcrc]
      by_cases h6 : leN ((l.take (q + 9 + n)).drop (q + 5 + n)) = crcOf ((l.take (q + 5 + n)).drop q)
      · rw [if_pos h6, if_pos (by omega), if_pos (by omega), Option.bind_some, if_pos (by omega), if_pos (by omega), Int.toNat_natCast]
        have hlen : ((l.take (q + 5 + n)).drop (q + 5)).length = n := by rw [List.length_drop, List.length_take]; omega
        have hk : ((leN ((l.take (q + 1)).drop q) : Nat) : Int) = wrap64 (rd l (q : Int)) := by
          have hq : q < l.length := by omega
          have hrb := rd_byte l hb (q : Int) (by omega) (by omega)
          have er : rd l (q : Int) = l[q] := by unfold rd; simp [hq]
          rw [er] at hrb ⊢
          have e : (l.take (q + 1)).drop q = [l[q]] := by
            rw [List.take_succ_eq_append_getElem hq, List.drop_append_of_le_length (by rw [List.length_take]; omega), List.drop_of_length_le (by rw [List.length_take]; omega)]; rfl
          rw [e, leN, leN]
          unfold wrap64; omega
        rw [if_pos (by rw [List.length_nil, hlen]; omega), hk]; rfl
      · rw [if_neg h6, if_neg (by omega)]
    · rw [if_neg h5, if_pos (by omega)]
  · rw [if_neg h3, if_pos (by simp; omega)]
def gazetteref01_Text.f (s : ByteArray) : Option (List Int × Int) := if s.size ≤ 140737488351232 then some (textEnc s) else none
theorem gazetteref01_Text.calls (a0 : ByteArray) (r1 : List Int) (r2 : Int) (w : World) (h : gazetteref01_Text.f a0 = some (r1, r2)) :
    Calls Try.prog 28 #[.string a0] w fun e w' => ∃ v0_ : Value, e = .returned (.tuple #[v0_, .int .i64 r2]) ∧ Kd.R (Kd.int .u8) 5 w' w.heap.size (fun _ => True) v0_ r1 ∧ Below w.heap.size w w' := by
  unfold gazetteref01_Text.f at h
  by_cases hs : a0.size ≤ 140737488351232
  · rw [if_pos hs] at h
    exact P1.gazetteref01_Text.calls a0 r1 r2 w ((refText_ev a0 hs).trans h)
  · rw [if_neg hs] at h; cases h
def gazetteref01_Frame.f (kind : Int) (l : List Int) : Option (List Int × Int) := wire_Frame.f kind l
theorem gazetteref01_Frame.calls (a0 : Int) (A1 : Option Addr) (c1 : Nat) (l1 : List Int) (r1 : List Int) (r2 : Int) (w : World) (hr1 : Kd.C (Kd.int .u8) w A1 l1.length l1) (hc1 : l1.length ≤ c1) (h : gazetteref01_Frame.f a0 l1 = some (r1, r2)) :
    Calls Try.prog 22 #[.int .i64 a0, .slice A1 l1.length c1] w fun e w' => ∃ v0_ : Value, e = .returned (.tuple #[v0_, .int .i64 r2]) ∧ Kd.R (Kd.int .u8) 5 w' w.heap.size (fun _ => True) v0_ r1 ∧ Below w.heap.size w w' := by
  unfold gazetteref01_Frame.f wire_Frame.f at h
  by_cases hb : isB l1 = true
  · rw [if_pos hb] at h
    obtain ⟨k, hk⟩ := refFrame_ev a0 l1 hb
    exact P1.gazetteref01_Frame.calls k a0 A1 c1 l1 r1 r2 w hr1 hc1 (hk.trans h)
  · rw [if_neg hb] at h; cases h
def gazetteref01_Unframe.f (l : List Int) (p : Int) : Option (Int × List Int × Int × Int) := if isB l = true ∧ l.length ≤ 1000000000000000 then some (unfF l p) else none
theorem gazetteref01_Unframe.calls (A0 : Option Addr) (c0 : Nat) (l0 : List Int) (a1 : Int) (r1 : Int) (r2 : List Int) (r3 : Int) (r4 : Int) (w : World) (hr0 : Kd.C (Kd.int .u8) w A0 l0.length l0) (hc0 : l0.length ≤ c0) (h : gazetteref01_Unframe.f l0 a1 = some (r1, r2, r3, r4)) :
    Calls Try.prog 24 #[.slice A0 l0.length c0, .int .i64 a1] w fun e w' => ∃ v1_ : Value, e = .returned (.tuple #[.int .i64 r1, v1_, .int .i64 r3, .int .i64 r4]) ∧ Kd.R (Kd.int .u8) 5 w' w.heap.size (fun _ => True) v1_ r2 ∧ Below w.heap.size w w' := by
  unfold gazetteref01_Unframe.f at h
  by_cases hb : isB l0 = true ∧ l0.length ≤ 1000000000000000
  · rw [if_pos hb] at h
    obtain ⟨k, hk⟩ := refUnframe_ev l0 hb.1 hb.2 a1
    exact P1.gazetteref01_Unframe.calls k A0 c0 l0 a1 r1 r2 r3 r4 w hr0 hc0 (hk.trans h)
  · rw [if_neg hb] at h; cases h
def gazettelaw01_num.f (a0 : Int) : Option Int := some a0
theorem gazettelaw01_num.calls (a0 : Int) (r : Int) (w : World) (h : gazettelaw01_num.f a0 = some r) :
    Calls Try.prog 19 #[.int .i64 a0] w fun e w' => e = .returned (.int .i64 r) ∧ Drawn0 w w' := P0.gazettelaw01_num.calls a0 r w h
end Go.Proofs.Ythlfhlnalmpmdaa.Hand
