/- The document's numbers and texts: what they compute. -/
import Derived.Test.YtpcoelimabojcaaHSpec
namespace Go.Proofs.Ytpcoelimabojcaa.Hand
open Go.RowKit Go.Proofs.Ytpcoelimabojcaa Go.Proofs.YtpcoelimabojcaaW.PrintWords Go.Proofs.YtpcoelimabojcaaW.PrintMore
theorem shl_byte (x i : Nat) (hx : x < 256) (hi : i < 6) : shl .i64 (wrap64 (x : Int)) ((8 * i : Nat) : Int) = ((x * 256 ^ i : Nat) : Int) := by
  have e : IntKind.i64.bits = 64 := rfl
  have hw : wrap64 (x : Int) = x := by unfold wrap64; omega
  unfold shl
  rw [e, Int.toNat_natCast, Nat.min_eq_left (by omega), hw, pow256]
  have h40 : 2 ^ (8 * i) ≤ 2 ^ 40 := Nat.pow_le_pow_right (by omega) (by omega)
  have hm : x * 2 ^ (8 * i) ≤ 255 * 2 ^ 40 := Nat.mul_le_mul (by omega) h40
  have ec : ((x : Int) * 2 ^ (8 * i)) = ((x * 2 ^ (8 * i) : Nat) : Int) := by rw [Int.natCast_mul, Int.natCast_pow]; rfl
  rw [ec]
  generalize x * 2 ^ (8 * i) = y at *
  rw [IntKind.wrap_i64]; omega
theorem refGet_ev (l : List Int) (hl : isBytes l) (hmax : l.length ≤ 9223372036854775807) (p size : Int) : ∃ k, P0.gazetteref01_Get.f k l p size = some (getF l p size) := by
  unfold getF P0.gazetteref01_Get.f
  by_cases h1 : size < 1
  · rw [if_pos h1]; refine ⟨1, ?_⟩; rw [if_pos h1, P0.gazetteref01_Get.j0, if_pos rfl]
  rw [if_neg h1]
  by_cases h2 : 6 < size
  · rw [if_pos h2]; refine ⟨1, ?_⟩; rw [if_neg h1, if_pos (by omega), P0.gazetteref01_Get.j0, if_pos rfl]
  rw [if_neg h2]
  by_cases h3 : p < 0
  · rw [if_pos h3]; refine ⟨1, ?_⟩; rw [if_neg h1, if_neg (by omega), P0.gazetteref01_Get.j0, if_pos (by simpa using h3)]
  rw [if_neg h3]
  have h3' : ¬ (decide (p < 0) = true) := by simpa using h3
  by_cases h4 : p ≤ l.length
  · rw [if_pos h4]
    have ew : wrap64 ((l.length : Int) - p) = l.length - p := by unfold wrap64; omega
    by_cases h5 : size ≤ l.length - p
    · rw [if_pos h5]
      obtain ⟨q, rfl⟩ := Int.eq_ofNat_of_zero_le (show 0 ≤ p by omega)
      obtain ⟨n, rfl⟩ := Int.eq_ofNat_of_zero_le (show 0 ≤ size by omega)
      rw [show ((q : Int) + n).toNat = q + n by omega, Int.toNat_natCast]
      have hlen : ((l.take (q + n)).drop q).length = n := by rw [List.length_drop, List.length_take]; omega
      have hseg : isBytes ((l.take (q + n)).drop q) := fun x hx => hl x (List.mem_of_mem_take (List.mem_of_mem_drop hx))
      have main : ∀ (d i : Nat), i + d = n → ∃ k, P0.gazetteref01_Get.l0 k l (q : Int) (n : Int) ((leN (((l.take (q + n)).drop q).take i) : Nat) : Int) (i : Int) = some ((((leN ((l.take (q + n)).drop q)) : Nat) : Int), (q : Int) + n, 0) := by
        intro d
        induction d with
        | zero =>
          intro i hi
          refine ⟨1, ?_⟩
          rw [P0.gazetteref01_Get.l0, if_neg (by omega), List.take_of_length_le (by omega)]
          have : wrap64 ((q : Int) + n) = q + n := by unfold wrap64; omega
          rw [this]
        | succ d ih =>
          intro i hi
          obtain ⟨k, hk⟩ := ih (i + 1) (by omega)
          have hs := leN_take ((l.take (q + n)).drop q) i (by omega)
          have hr : rd ((l.take (q + n)).drop q) (i : Int) = rd l ((q : Int) + i) := by
            unfold rd
            rw [show ((q : Int) + i).toNat = q + i by omega, Int.toNat_natCast, List.getD_eq_getElem?_getD, List.getD_eq_getElem?_getD, List.getElem?_drop, List.getElem?_take, if_pos (by omega)]
          have hb := rd_byte l hl ((q : Int) + i) (by omega) (by omega)
          rw [hr] at hs
          obtain ⟨x, hx⟩ := Int.eq_ofNat_of_zero_le hb.1
          rw [hx] at hs hb
          rw [Int.toNat_natCast] at hs
          have hlt : leN (((l.take (q + n)).drop q).take i) < 256 ^ i := by
            have := leN_lt (((l.take (q + n)).drop q).take i) (fun x hx => hseg x (List.mem_of_mem_take hx))
            rwa [List.length_take, Nat.min_eq_left (by omega)] at this
          have h40 : 256 ^ i ≤ 1099511627776 := Nat.le_trans (Nat.pow_le_pow_right (by omega) (show i ≤ 5 by omega)) (by decide)
          have hm : x * 256 ^ i ≤ 255 * 1099511627776 := Nat.mul_le_mul (by omega) h40
          have hlt2 : leN (((l.take (q + n)).drop q).take i) < 1099511627776 := Nat.lt_of_lt_of_le hlt h40
          clear hlt h40
          have e2 : wrap64 (((leN (((l.take (q + n)).drop q).take i) : Nat) : Int) + ((x * 256 ^ i : Nat) : Int)) = ((leN (((l.take (q + n)).drop q).take (i + 1)) : Nat) : Int) := by
            rw [hs]
            generalize x * 256 ^ i = y at *
            generalize leN (((l.take (q + n)).drop q).take i) = z at *
            unfold wrap64; omega
          clear hm hlt2
          refine ⟨k + 1, ?_⟩
          have e1 : wrap64 ((q : Int) + i) = q + i := by unfold wrap64; omega
          have f1 : (0 : Int) ≤ (q : Int) + i := Int.add_nonneg (Int.natCast_nonneg _) (Int.natCast_nonneg _)
          have f2 : (q : Int) + i < l.length := by clear hs hb hx e1 e2 hk; omega
          have f3 : (0 : Int) ≤ ((8 * i : Nat) : Int) := Int.natCast_nonneg _
          rw [P0.gazetteref01_Get.l0, if_pos (show (i : Int) < n by clear hs hb hx e1 e2 hk; omega), e1, if_pos f1, if_pos f2, wrap8 i (by omega), if_pos f3, hx, shl_byte x i (by omega) (by omega), wrap_succ i (by omega)]
          rw [e2]
          exact hk
      obtain ⟨k, hk⟩ := main n 0 (by omega)
      refine ⟨k + 1 + 1, ?_⟩
      have hk' : P0.gazetteref01_Get.l0 k l (q : Int) (n : Int) 0 0 = _ := hk
      rw [if_neg h1, if_neg (by omega), P0.gazetteref01_Get.j0, if_neg h3', if_neg (by omega), P0.gazetteref01_Get.j1, ew, if_neg (by simpa using h5)]
      exact hk'
    · rw [if_neg h5]
      refine ⟨1 + 1, ?_⟩
      rw [if_neg h1, if_neg (by omega), P0.gazetteref01_Get.j0, if_neg h3', if_neg (by omega), P0.gazetteref01_Get.j1, ew, if_pos (by simpa using h5)]
  · rw [if_neg h4]
    refine ⟨1 + 1, ?_⟩
    rw [if_neg h1, if_neg (by omega), P0.gazetteref01_Get.j0, if_neg h3', if_pos (by omega), P0.gazetteref01_Get.j1, if_pos rfl]
def gazetteref01_Get.f (l : List Int) (p size : Int) : Option (Int × Int × Int) := wire_Get.f l p size
theorem gazetteref01_Get.calls (A0 : Option Addr) (c0 : Nat) (l0 : List Int) (a1 : Int) (a2 : Int) (r1 : Int) (r2 : Int) (r3 : Int) (w : World) (hr0 : Kd.C (Kd.int .u8) w A0 l0.length l0) (hc0 : l0.length ≤ c0) (h : gazetteref01_Get.f l0 a1 a2 = some (r1, r2, r3)) :
    Calls Try.prog 55 #[.slice A0 l0.length c0, .int .i64 a1, .int .i64 a2] w fun e w' => e = .returned (.tuple #[.int .i64 r1, .int .i64 r2, .int .i64 r3]) ∧ Drawn0 w w' := by
  unfold gazetteref01_Get.f wire_Get.f at h
  by_cases hb : isB l0 = true
  · rw [if_pos hb] at h
    obtain ⟨k, hk⟩ := refGet_ev l0 ((isB_iff l0).1 hb) (Kd.C_max hr0) a1 a2
    exact P0.gazetteref01_Get.calls k A0 c0 l0 a1 a2 r1 r2 r3 w hr0 hc0 (hk.trans h)
  · rw [if_neg hb] at h; cases h
end Go.Proofs.Ytpcoelimabojcaa.Hand
