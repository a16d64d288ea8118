/- The sum of any bytes is the document's, and a sum of bytes is not that of the same bytes with one of them turned. No condition. -/
import Derived.Test.YthlfhlnalmpmdaaPWireSumsx1
import Derived.Test.YthlfhlnalmpmdaaHPure
namespace Go.Proofs.Ythlfhlnalmpmdaa.Pure
open Go.RowKit Go.Proofs.Ythlfhlnalmpmdaa.Hand Go.Proofs.Ythlfhlnalmpmdaa.PWireSums Go.Proofs.YthlfhlnalmpmdaaW.PrintWords Go.Proofs.YthlfhlnalmpmdaaW.PrintLast

theorem lent_eq (l : List Int) (h : l.length ≤ 140737488351232) : gazettelaw01_Lent.f l = some l := by
  unfold gazettelaw01_Lent.f
  rw [Option.bind_some, if_pos (by rw [List.length_nil]; omega), Option.bind_some, Option.bind_some, if_pos (by rw [List.nil_append, show ([201, 202] : List Int).length = 2 from rfl]; omega), Option.bind_some, if_pos (by omega), if_pos (by simp; omega), Int.toNat_natCast]
  simp
theorem WireSums : gazettelaw01_WireSums.Pure := by
  intro l0 a1 a2 _ hlen hwf _ hw2
  have hb := isB_of_wf hwf
  have hb' := (isB_iff l0).1 hb
  have hx := bounds_u8 hw2
  refine ⟨1, ?_⟩
  unfold gazettelaw01_WireSums.f gazetteref01_Crc.f wire_Crc.f gazettelaw01_knows.f
  rw [lent_eq l0 (by omega), Option.bind_some, if_pos hb, Option.bind_some, Option.bind_some, if_pos rfl, Option.bind_some, gazettelaw01_WireSums.j0, if_neg (by simp)]
  by_cases h1 : (l0.length : Int) = 0
  · rw [if_pos h1]
  rw [if_neg h1]
  by_cases h2 : a2 = 0
  · rw [if_pos h2]
  rw [if_neg h2, Option.bind_some, if_pos (by rw [List.length_nil]; omega), Option.bind_some, List.nil_append]
  generalize hk : Int.tmod (wrap64 (Int.tmod a1 (l0.length : Int) + (l0.length : Int))) (l0.length : Int) = k
  have hk0 : 0 ≤ k ∧ k < l0.length := by
    rw [← hk, norm_mod _ _ (by omega) (by omega)]
    exact norm_mod_range _ _ (by omega)
  obtain ⟨q, rfl⟩ := Int.eq_ofNat_of_zero_le hk0.1
  rw [if_pos (by omega), if_pos (by omega), Int.toNat_natCast]
  have hq : q < l0.length := by omega
  have er : rd l0 (q : Int) = l0[q] := by unfold rd; simp [hq]
  have hbq := hb' _ (List.getElem_mem hq)
  rw [er]
  generalize hv : l0[q] = v at *
  obtain ⟨a, rfl⟩ := Int.eq_ofNat_of_zero_le hbq.1
  obtain ⟨x, rfl⟩ := Int.eq_ofNat_of_zero_le hx.1
  rw [bits_xor_u8 a x (by omega) (by omega)]
  have hlt : a ^^^ x < 256 := Nat.xor_lt_two_pow (n := 8) (by omega) (by omega)
  have hne : a ^^^ x ≠ a := by
    intro h
    have : x = 0 := by
      have h := congrArg (a ^^^ ·) h
      simpa [← Nat.xor_assoc] using h
    omega
  have hset := crcOf_set l0 hb' q hq ((a ^^^ x : Nat) : Int) ⟨by omega, by omega⟩ (by rw [hv]; omega)
  have hb2 : isB (l0.set q ((a ^^^ x : Nat) : Int)) = true := by
    rw [isB_iff]
    intro z hz
    rcases List.mem_or_eq_of_mem_set hz with hz | rfl
    · exact hb' z hz
    · omega
  unfold wire_Crc.f
  rw [if_pos hb2, Option.bind_some]
  congr 1
  rw [bne_iff_ne]
  omega
end Go.Proofs.Ythlfhlnalmpmdaa.Pure
