/- A burst of turned bits is told by the sum. -/
import Derived.Test.YthlfhlnalmpmdaaHPure
namespace Go.Proofs.Ythlfhlnalmpmdaa.Hand
open Go.RowKit Go.Proofs.Ythlfhlnalmpmdaa Go.Proofs.YthlfhlnalmpmdaaW.PrintWords Go.Proofs.YthlfhlnalmpmdaaW.PrintMore
/-! A burst of at most 32 turned bits is told by the sum: bytes as one great number, its lowest bit first. -/
theorem crcN_add : ∀ (a b c : Nat), crcN (a + b) c = crcN b (crcN a c)
  | 0, b, c => by rw [Nat.zero_add]; rfl
  | a + 1, b, c => by rw [Nat.succ_add]; exact crcN_add a b (crcB c)
theorem add_xor (x y : Nat) (h : x < 256) : x + 256 * y = x ^^^ (256 * y) := by
  have h1 := split_byte (x + 256 * y)
  rw [show (x + 256 * y) / 256 = y by omega, show (x + 256 * y) % 256 = x by omega] at h1
  rw [h1, Nat.xor_comm]
theorem crcL_big : ∀ (l : List Int) (s : Nat), isBytes l → crcL s l = crcN (8 * l.length) (s ^^^ leN l)
  | [], s, _ => by simp [crcL, leN, crcN]
  | x :: l, s, hl => by
    have hx := hl x (by simp)
    rw [crcL, crcL_big l _ (fun y hy => hl y (by simp [hy])), leN, List.length_cons, show 8 * (l.length + 1) = 8 + 8 * l.length by omega, crcN_add, add_xor _ _ (by omega), ← Nat.xor_assoc, crcN_xor 8, crcN_byte, show 256 * leN l = 2 ^ 8 * leN l from rfl, crcN_pow]
/-- Bytes that differ by a burst have unlike sums. -/
theorem burst (l m : List Int) (s at_ d : Nat) (hl : isBytes l) (hm : isBytes m) (hlen : l.length = m.length) (hat : at_ ≤ 8 * l.length) (hd : d < 4294967296) (h0 : d ≠ 0) (hx : leN m = leN l ^^^ (2 ^ at_ * d)) : crcL s m ≠ crcL s l := by
  intro h
  rw [crcL_big m s hm, crcL_big l s hl, ← hlen, hx, ← Nat.xor_assoc, crcN_xor] at h
  have h2 : crcN (8 * l.length) (2 ^ at_ * d) = 0 := by
    have h := congrArg (crcN (8 * l.length) (s ^^^ leN l) ^^^ ·) h
    simpa [← Nat.xor_assoc] using h
  rw [show 8 * l.length = at_ + (8 * l.length - at_) by omega, crcN_add, crcN_pow] at h2
  exact h0 (crcN_zero _ d hd h2)
theorem mul_xor (k a b : Nat) : 2 ^ k * (a ^^^ b) = (2 ^ k * a) ^^^ (2 ^ k * b) := by
  apply Nat.eq_of_testBit_eq
  intro i
  rw [Nat.testBit_xor, Nat.testBit_two_pow_mul, Nat.testBit_two_pow_mul, Nat.testBit_two_pow_mul, Nat.testBit_xor]
  by_cases h : k ≤ i <;> simp [h]
/-- A bit turned in a byte, as the number has it. -/
theorem leN_flip : ∀ (l : List Int) (i j : Nat) (v : Nat), isBytes l → i < l.length → j < 8 → l[i]? = some (v : Int) → leN (l.set i ((v ^^^ 2 ^ j : Nat) : Int)) = leN l ^^^ 2 ^ (8 * i + j)
  | [], i, _, _, _, hi, _, _ => by simp at hi
  | x :: l, 0, j, v, hl, _, hj, hv => by
    have hxv : x = (v : Int) := by simpa using hv
    have hx := hl x (by simp)
    subst hxv
    have hjb : 2 ^ j < 2 ^ 8 := Nat.pow_lt_pow_right (by omega) hj
    have hlt : v ^^^ 2 ^ j < 256 := Nat.xor_lt_two_pow (n := 8) (by omega) hjb
    rw [List.set_cons_zero, leN, leN, Int.toNat_natCast, Int.toNat_natCast, add_xor _ _ hlt, add_xor _ _ (by omega)]
    simp only [Nat.mul_zero, Nat.zero_add]
    ac_rfl
  | x :: l, i + 1, j, v, hl, hi, hj, hv => by
    have hx := hl x (by simp)
    have ih := leN_flip l i j v (fun y hy => hl y (by simp [hy])) (by simpa using hi) hj (by simpa using hv)
    rw [List.set_cons_succ, leN, leN, ih, add_xor _ _ (by omega), add_xor _ _ (by omega)]
    have e : 256 * (leN l ^^^ 2 ^ (8 * i + j)) = (256 * leN l) ^^^ 2 ^ (8 * (i + 1) + j) := by
      rw [show (256 : Nat) = 2 ^ 8 from rfl, mul_xor, ← Nat.pow_add]
      congr 2; omega
    rw [e]
    ac_rfl
end Go.Proofs.Ythlfhlnalmpmdaa.Hand
