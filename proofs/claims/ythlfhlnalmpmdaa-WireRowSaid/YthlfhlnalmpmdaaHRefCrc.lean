/- The document's sum, bit by bit: the same number. -/
import Derived.Test.YthlfhlnalmpmdaaHCrc
namespace Go.Proofs.Ythlfhlnalmpmdaa.Hand
open Go.RowKit Go.Proofs.YthlfhlnalmpmdaaW.PrintWords

set_option maxHeartbeats 400000 in
set_option maxRecDepth 100000 in
theorem refCrc_calls0 (A0 : Option Addr) (c0 : Nat) (l0 : List Int) (w : World) (hr0 : Kd.C (Kd.int .u8) w A0 l0.length l0) (hb : isBytes l0) :
    Calls Try.prog 13 #[.slice A0 l0.length c0] w fun e w' => e = .returned (.int .u32 ((crcOf l0 : Nat) : Int)) ∧ Below w.heap.size w w' := by
  have HR2 := Aside0.mk hr0
  have hmax : l0.length ≤ 9223372036854775807 := Kd.C_max hr0
  clear hr0
  go_enter Try.func13, Try.ntmps13
  go_wp2_with fail
  go_loop [3, 4, 5, 6, 7] (fun c3 i4 x5 k6 u7 => ∃ k : Nat, k ≤ l0.length ∧ i4 = .int .i64 k ∧ c3 = .int .u32 ((crcL 4294967295 (l0.take k) : Nat) : Int)) (fun _ i4 _ _ _ => l0.length - (intOf i4).toNat)
  case atStart => exact ⟨0, by omega, rfl, rfl⟩
  case round =>
    obtain ⟨k, hk, rfl, rfl⟩ := hrel
    by_cases hlt : k < l0.length
    · obtain ⟨ad, rfl, hcell⟩ := Kd.at_int HR2.out k (by omega) (by omega)
      rw [Int.toNat_natCast] at hcell
      have hby := rd_byte l0 hb k (by omega) (by omega)
      have hc := crcL_lt_take l0 hb k
      have HS := Aside0.mk (crcL_take 4294967295 l0 k hlt)
      generalize crcL 4294967295 (l0.take k) = c at *
      obtain ⟨x, hx⟩ := Int.eq_ofNat_of_zero_le hby.1
      rw [hx] at hcell hby
      have HX := Aside0.mk hx
      clear hx
      have hx8 : x < 256 := by omega
      go_wp2_with fail
      go_loop [3, 5, 6, 7] (fun r3 x5 i6 u7 => ∃ j r y : Nat, j ≤ 8 ∧ r < 4294967296 ∧ y < 256 ∧ r3 = .int .u32 r ∧ x5 = .int .u32 y ∧ i6 = .int .i64 j ∧ Aside0 (r = refN j c x ∧ y = x / 2 ^ j)) (fun _ _ i6 _ => 8 - (intOf i6).toNat)
      case atStart => exact ⟨0, c, x, by omega, hc, hx8, rfl, rfl, rfl, ⟨rfl, by simp⟩⟩
      case round =>
        obtain ⟨j, r, y, hj, hr, hy, rfl, rfl, rfl, HJ⟩ := hrel
        by_cases hlt2 : j < 8
        · have hxy : r ^^^ y < 4294967296 := Nat.xor_lt_two_pow (n := 32) hr (by omega)
          have e1 := bits_xor_u32 r y hr (by omega)
          have e2 := bits_and1_u32 (r ^^^ y) hxy
          by_cases hbit : (r ^^^ y) % 2 = 1
          · have e3 : ((((r ^^^ y) % 2 : Nat) : Int) == 1) = true := by rw [hbit]; rfl
            have HB := Aside0.mk hbit
            clear hbit
            go_wp2_with fail
            go_round
            case rel => exact ⟨j + 1, refB r y, y / 2, by omega, refB_lt r y hr, by omega, by rw [refB_walk1 r y hr HB.out], by simp, by go_num, ⟨by rw [refN_succ, ← HJ.out.1, ← HJ.out.2], by rw [HJ.out.2, Nat.div_div_eq_div_mul, Nat.pow_succ]⟩⟩
            case measure => simp [intOf]; omega
          · have e3 : ((((r ^^^ y) % 2 : Nat) : Int) == 1) = false := by rw [show (r ^^^ y) % 2 = 0 by omega]; rfl
            have HB := Aside0.mk hbit
            clear hbit
            go_wp2_with fail
            go_round
            case rel => exact ⟨j + 1, refB r y, y / 2, by omega, refB_lt r y hr, by omega, by rw [refB_walk0 r y HB.out], by simp, by go_num, ⟨by rw [refN_succ, ← HJ.out.1, ← HJ.out.2], by rw [HJ.out.2, Nat.div_div_eq_div_mul, Nat.pow_succ]⟩⟩
            case measure => simp [intOf]; omega
        · go_wp2_with fail
          go_round
          case rel => exact ⟨k + 1, by omega, by go_num, by rw [HS.out, HX.out, Int.toNat_natCast, HJ.out.1, show j = 8 by omega, refN_byte c x hx8]⟩
          case measure => simp [intOf]; omega
    · have hk2 : k = l0.length := by omega
      go_wp2_with fail
      go_ret
      exact ⟨ret_u32 (bits_not_u32 _ (crcL_lt _ _ (by omega) hb)), Below.refl _ _⟩
end Go.Proofs.Ythlfhlnalmpmdaa.Hand
