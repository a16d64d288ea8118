/- The sum's register: what is told of turned bytes. -/
import Derived.Test.YthlfhlnalmpmdaaHSpec4
import Derived.OpenShut
namespace Go.Proofs.Ythlfhlnalmpmdaa.Hand
open Go.RowKit Go.Proofs.Ythlfhlnalmpmdaa Go.Proofs.YthlfhlnalmpmdaaW.PrintWords Go.Proofs.YthlfhlnalmpmdaaW.PrintMore
theorem isB_of_wf {l : List Int} (h : ∀ x ∈ l, (Lit.int .u8 x).wf = true) : isB l = true := by
  rw [isB_iff]
  intro x hx
  exact bounds_u8 (h x hx)
/-! The sum's register: one bit, one byte, and what is turned. -/
theorem crcB_zero (d : Nat) (hd : d < 4294967296) (h : crcB d = 0) : d = 0 := by
  unfold crcB at h
  have h2 : d / 2 = 2197175160 * (d % 2) := by
    have := congrArg (· ^^^ (2197175160 * (d % 2))) h
    simpa [Nat.xor_assoc] using this
  omega
theorem crcN_zero : ∀ (n d : Nat), d < 4294967296 → crcN n d = 0 → d = 0
  | 0, _, _, h => h
  | n + 1, d, hd, h => crcB_zero d hd (crcN_zero n (crcB d) (crcB_lt d hd) h)
theorem xor_zero_eq {a b : Nat} (h : a ^^^ b = 0) : a = b := by
  have := congrArg (· ^^^ b) h
  simpa [Nat.xor_assoc] using this
theorem crcN_inj (n a b : Nat) (ha : a < 4294967296) (hb : b < 4294967296) (h : crcN n a = crcN n b) : a = b := by
  apply xor_zero_eq
  refine crcN_zero n _ (Nat.xor_lt_two_pow (n := 32) ha hb) ?_
  rw [crcN_xor, h, Nat.xor_self]
theorem crcS_inj (a b x y : Nat) (ha : a < 4294967296) (hb : b < 4294967296) (hx : x < 256) (hy : y < 256) (h : crcS a x = crcS b y) : a ^^^ x = b ^^^ y := by
  rw [← crcN_byte, ← crcN_byte] at h
  exact crcN_inj 8 _ _ (Nat.xor_lt_two_pow (n := 32) ha (by omega)) (Nat.xor_lt_two_pow (n := 32) hb (by omega)) h
theorem xor_right {a b x : Nat} (h : a ^^^ x = b ^^^ x) : a = b := by
  have := congrArg (· ^^^ x) h
  simpa [Nat.xor_assoc] using this
theorem xor_left {a b x : Nat} (h : x ^^^ a = x ^^^ b) : a = b := xor_right (x := x) (by rw [Nat.xor_comm a, Nat.xor_comm b]; exact h)
theorem crcL_inj : ∀ (l : List Int) (a b : Nat), a < 4294967296 → b < 4294967296 → isBytes l → crcL a l = crcL b l → a = b
  | [], _, _, _, _, _, h => h
  | x :: l, a, b, ha, hb, hl, h => by
    have hx := hl x (by simp)
    have h1 := crcL_inj l _ _ (crcS_lt a _ ha (by omega)) (crcS_lt b _ hb (by omega)) (fun y hy => hl y (by simp [hy])) h
    exact xor_right (crcS_inj a b _ _ ha hb (by omega) (by omega) h1)
theorem crcOf_inj_state {l m : List Int} (h : crcOf l = crcOf m) : crcL 4294967295 l = crcL 4294967295 m := xor_left h
/-- One byte turned: another sum. -/
theorem crcOf_set (l : List Int) (hl : isBytes l) (k : Nat) (hk : k < l.length) (y : Int) (hy : 0 ≤ y ∧ y ≤ 255) (hne : l[k] ≠ y) : crcOf (l.set k y) ≠ crcOf l := by
  intro h
  have h := crcOf_inj_state h
  have hs : l.set k y = l.take k ++ y :: l.drop (k + 1) := by rw [List.set_eq_take_append_cons_drop, if_pos hk]
  have ho : l = l.take k ++ l[k] :: l.drop (k + 1) := by
    rw [← List.drop_eq_getElem_cons hk, List.take_append_drop]
  rw [hs] at h
  rw [show crcL 4294967295 l = crcL 4294967295 (l.take k ++ l[k] :: l.drop (k + 1)) by rw [← ho]] at h
  rw [crcL_append, crcL_append, crcL, crcL] at h
  have hc := crcL_lt_take l hl k
  have hx := hl _ (List.getElem_mem hk)
  have h1 := crcL_inj _ _ _ (crcS_lt _ _ hc (by omega)) (crcS_lt _ _ hc (by omega)) (fun z hz => hl z (List.mem_of_mem_drop hz)) h
  have h2 := xor_left (crcS_inj _ _ _ _ hc hc (by omega) (by omega) h1)
  omega
/-- 'a % n', brought into its range, as Go texts do it. -/
theorem norm_mod (a n : Int) (h0 : 0 < n) (h1 : n ≤ 4611686018427387904) : Int.tmod (wrap64 (Int.tmod a n + n)) n = a % n := by
  have hlt := Int.tmod_lt_of_pos a h0
  have hgt := Int.lt_tmod_of_pos a h0
  have hw : wrap64 (Int.tmod a n + n) = Int.tmod a n + n := by unfold wrap64; omega
  rw [hw, Int.tmod_eq_emod_of_nonneg (by omega), Int.tmod_def, Int.add_emod_right, Int.sub_mul_emod_self_left]
theorem norm_mod_range (a n : Int) (h0 : 0 < n) : 0 ≤ a % n ∧ a % n < n := ⟨Int.emod_nonneg _ (by omega), Int.emod_lt_of_pos _ h0⟩
end Go.Proofs.Ythlfhlnalmpmdaa.Hand
