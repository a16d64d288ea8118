/- Plain facts on bits and the sum's register, without any program. -/
import Derived.Laws.BitsLemmas
import Derived.WalkKit
namespace Go.Proofs.Ytpcoelimabojcaa.Hand
open Go

theorem bits_xor_u32 (a b : Nat) (ha : a < 4294967296) (hb : b < 4294967296) : bits .xor .u32 (a : Int) (b : Int) = ((a ^^^ b : Nat) : Int) := by
  have ha' : a % 2 ^ 32 = a := Nat.mod_eq_of_lt ha
  have hb' : b % 2 ^ 32 = b := Nat.mod_eq_of_lt hb
  have hx : a ^^^ b < 2 ^ 32 := Nat.xor_lt_two_pow ha hb
  have e : IntKind.u32.bits = 32 := rfl
  simp only [bits, e, BitVec.ofInt_natCast, BitVec.toNat_xor, BitVec.toNat_ofNat, ha', hb']
  rw [IntKind.wrap_u32]
  omega
theorem bits_xor_u8 (a b : Nat) (ha : a < 256) (hb : b < 256) : bits .xor .u8 (a : Int) (b : Int) = ((a ^^^ b : Nat) : Int) := by
  have ha' : a % 2 ^ 8 = a := Nat.mod_eq_of_lt ha
  have hb' : b % 2 ^ 8 = b := Nat.mod_eq_of_lt hb
  have hx : a ^^^ b < 2 ^ 8 := Nat.xor_lt_two_pow ha hb
  have e : IntKind.u8.bits = 8 := rfl
  simp only [bits, e, BitVec.ofInt_natCast, BitVec.toNat_xor, BitVec.toNat_ofNat, ha', hb']
  rw [IntKind.wrap_u8]
  omega
theorem bits_and1_u32 (a : Nat) (ha : a < 4294967296) : bits .and .u32 (a : Int) 1 = ((a % 2 : Nat) : Int) := by
  have ha' : a % 2 ^ 32 = a := Nat.mod_eq_of_lt ha
  have e : IntKind.u32.bits = 32 := rfl
  have hx := Nat.and_one_is_mod a
  rw [show (1 : Int) = ((1 : Nat) : Int) from rfl]
  simp only [bits, e, BitVec.ofInt_natCast, BitVec.toNat_and, BitVec.toNat_ofNat, ha']
  rw [show 1 % 2 ^ 32 = 1 from rfl, hx, IntKind.wrap_u32]
  omega
/-- one bit of the sum's step -/
def crcB (c : Nat) : Nat := (c / 2) ^^^ (2197175160 * (c % 2))
def crcN : Nat → Nat → Nat
  | 0, c => c
  | n + 1, c => crcN n (crcB c)
theorem crcB_lt (c : Nat) (h : c < 4294967296) : crcB c < 4294967296 := by
  unfold crcB
  have h2 : c % 2 = 0 ∨ c % 2 = 1 := by omega
  refine Nat.xor_lt_two_pow (n := 32) (by omega) ?_
  rcases h2 with e | e <;> rw [e] <;> decide
theorem crcN_lt : ∀ n c, c < 4294967296 → crcN n c < 4294967296
  | 0, _, h => h
  | n + 1, c, h => crcN_lt n _ (crcB_lt c h)
theorem crcN_succ : ∀ n c, crcN (n + 1) c = crcB (crcN n c)
  | 0, _ => rfl
  | n + 1, c => crcN_succ n (crcB c)
def tabv (j : Nat) : Nat := crcN 8 j
theorem tabv_lt (j : Nat) (h : j < 256) : tabv j < 4294967296 := crcN_lt 8 j (by omega)
/-- the step as the walk spells it -/
theorem crcB_walk (c : Nat) (h : c < 4294967296) : bits .xor .u32 ((c : Int) / 2) (2197175160 * bits .and .u32 (c : Int) 1 % 4294967296) = ((crcB c : Nat) : Int) := by
  have h2 : c % 2 = 0 ∨ c % 2 = 1 := by omega
  rw [bits_and1_u32 c h]
  have e1 : ((c : Int) / 2) = ((c / 2 : Nat) : Int) := by omega
  have e2 : (2197175160 * ((c % 2 : Nat) : Int) % 4294967296) = ((2197175160 * (c % 2) : Nat) : Int) := by omega
  rw [e1, e2, bits_xor_u32 _ _ (by omega) (by omega)]
  rfl
/-- one byte -/
def crcS (c x : Nat) : Nat := tabv ((c % 256) ^^^ x) ^^^ (c / 256)
theorem xor_byte (c x : Nat) (hx : x < 256) : (c % 256) ^^^ x < 256 := Nat.xor_lt_two_pow (n := 8) (by omega) hx
theorem crcS_lt (c x : Nat) (h : c < 4294967296) (hx : x < 256) : crcS c x < 4294967296 :=
  Nat.xor_lt_two_pow (n := 32) (tabv_lt _ (xor_byte c x hx)) (by omega)
def crcL (c : Nat) : List Int → Nat
  | [] => c
  | x :: l => crcL (crcS c x.toNat) l
theorem crcL_lt : ∀ (l : List Int) (c : Nat), c < 4294967296 → (∀ x ∈ l, 0 ≤ x ∧ x ≤ 255) → crcL c l < 4294967296
  | [], _, h, _ => h
  | x :: l, c, h, hl => crcL_lt l _ (crcS_lt c _ h (by have := hl x (by simp); omega)) (fun y hy => hl y (by simp [hy]))
theorem crcL_append : ∀ (l m : List Int) (c : Nat), crcL c (l ++ m) = crcL (crcL c l) m
  | [], _, _ => rfl
  | x :: l, m, c => crcL_append l m (crcS c x.toNat)
theorem div2_xor (a b : Nat) : (a ^^^ b) / 2 = a / 2 ^^^ b / 2 := by
  have h := Nat.shiftRight_xor_distrib (a := a) (b := b) (i := 1)
  simpa [Nat.shiftRight_eq_div_pow] using h
theorem mod2_cases (a : Nat) : a % 2 = 0 ∨ a % 2 = 1 := by omega
theorem xor_mod2 (a b : Nat) : (a ^^^ b) % 2 = (a % 2) ^^^ (b % 2) := by
  have := Nat.xor_mod_two_pow (a := a) (b := b) (n := 1); simpa using this
theorem crcB_xor (a b : Nat) : crcB (a ^^^ b) = crcB a ^^^ crcB b := by
  unfold crcB
  rw [div2_xor, xor_mod2]
  have e : 2197175160 * ((a % 2) ^^^ (b % 2)) = (2197175160 * (a % 2)) ^^^ (2197175160 * (b % 2)) := by
    rcases mod2_cases a with h | h <;> rcases mod2_cases b with h' | h' <;> rw [h, h'] <;> simp
  rw [e]
  ac_rfl
theorem crcN_xor : ∀ n a b, crcN n (a ^^^ b) = crcN n a ^^^ crcN n b
  | 0, _, _ => rfl
  | n + 1, a, b => by rw [crcN, crcN, crcN, crcB_xor, crcN_xor n]
theorem crcB_even (a : Nat) : crcB (2 * a) = a := by
  unfold crcB
  rw [Nat.mul_div_cancel_left _ (by omega), Nat.mul_mod_right]; simp
theorem crcN_pow : ∀ n a, crcN n (2 ^ n * a) = a
  | 0, a => by simp [crcN]
  | n + 1, a => by rw [crcN, show 2 ^ (n + 1) * a = 2 * (2 ^ n * a) by rw [Nat.pow_succ]; ac_rfl, crcB_even, crcN_pow n]
theorem split_byte (c : Nat) : c = (256 * (c / 256)) ^^^ (c % 256) := by
  have h := Nat.two_pow_add_eq_or_of_lt (i := 8) (b := c % 256) (by omega) (c / 256)
  have h2 : 2 ^ 8 * (c / 256) ||| c % 256 = 2 ^ 8 * (c / 256) ^^^ c % 256 := by
    apply Nat.eq_of_testBit_eq
    intro i
    rw [Nat.testBit_or, Nat.testBit_xor, Nat.testBit_two_pow_mul]
    by_cases hi : i < 8
    · rw [decide_eq_false (by omega)]; simp
    · have hz : (c % 256).testBit i = false := Nat.testBit_lt_two_pow (Nat.lt_of_lt_of_le (show c % 256 < 2 ^ 8 by omega) (Nat.pow_le_pow_right (by omega) (by omega)))
      rw [hz]; simp
  have e : (2 : Nat) ^ 8 = 256 := rfl
  rw [e] at h h2
  rw [← h2, ← h]; omega
/-- one byte, bit by bit -/
theorem crcN_byte (c x : Nat) : crcN 8 (c ^^^ x) = crcS c x := by
  have h := split_byte c
  have e : c ^^^ x = (256 * (c / 256)) ^^^ ((c % 256) ^^^ x) := by
    rw [← Nat.xor_assoc, ← h]
  rw [e, crcN_xor, show 256 * (c / 256) = 2 ^ 8 * (c / 256) from rfl, crcN_pow]
  unfold crcS tabv
  exact Nat.xor_comm _ _
/-- the document's way: a register and a byte, both go to the right -/
def refB (r x : Nat) : Nat := (r / 2) ^^^ (if (r ^^^ x) % 2 = 1 then 2197175160 else 0)
theorem refB_xor (r x : Nat) : refB r x ^^^ (x / 2) = crcB (r ^^^ x) := by
  unfold refB crcB
  rw [div2_xor]
  rcases mod2_cases (r ^^^ x) with h | h <;> rw [h] <;> simp <;> ac_rfl
theorem refB_lt (r x : Nat) (h : r < 4294967296) : refB r x < 4294967296 := by
  unfold refB
  refine Nat.xor_lt_two_pow (n := 32) (by omega) ?_
  split <;> omega
def refN : Nat → Nat → Nat → Nat
  | 0, r, _ => r
  | n + 1, r, x => refN n (refB r x) (x / 2)
theorem refN_xor : ∀ n r x, refN n r x ^^^ (x / 2 ^ n) = crcN n (r ^^^ x)
  | 0, r, x => by simp [refN, crcN]
  | n + 1, r, x => by
    rw [refN, crcN, ← refB_xor, ← refN_xor n (refB r x) (x / 2), Nat.div_div_eq_div_mul, Nat.pow_succ, Nat.mul_comm]
theorem refN_byte (r x : Nat) (hx : x < 256) : refN 8 r x = crcS r x := by
  have h := refN_xor 8 r x
  rw [crcN_byte, show x / 2 ^ 8 = 0 by omega, Nat.xor_zero] at h
  exact h
theorem refN_succ : ∀ n r x, refN (n + 1) r x = refB (refN n r x) (x / 2 ^ n)
  | 0, r, x => by simp [refN]
  | n + 1, r, x => by
    rw [refN, refN_succ n, refN, Nat.div_div_eq_div_mul, Nat.pow_succ, Nat.mul_comm (2 ^ n) 2]
theorem refN_lt : ∀ n r x, r < 4294967296 → refN n r x < 4294967296
  | 0, _, _, h => h
  | n + 1, r, x, h => refN_lt n _ _ (refB_lt r x h)
end Go.Proofs.Ytpcoelimabojcaa.Hand
