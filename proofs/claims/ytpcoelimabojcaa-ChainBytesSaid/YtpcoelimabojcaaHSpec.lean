/- What wire's small functions answer, and their contracts. -/
import Derived.Test.YtpcoelimabojcaaHGet
import Derived.Test.YtpcoelimabojcaaP0x1
namespace Go.Proofs.Ytpcoelimabojcaa.Hand
open Go.RowKit Go.Proofs.Ytpcoelimabojcaa Go.Proofs.YtpcoelimabojcaaW.PrintWords Go.Proofs.YtpcoelimabojcaaW.PrintMore

/-- The bytes of a number, the lowest first. -/
def lowL (n : Nat) : Nat → List Int
  | 0 => []
  | k + 1 => ((n % 256 : Nat) : Int) :: lowL (n / 256) k
theorem lowL_length (n k : Nat) : (lowL n k).length = k := by induction k generalizing n with
  | zero => rfl
  | succ k ih => simp [lowL, ih]
theorem lowL_bytes (n k : Nat) : isBytes (lowL n k) := by induction k generalizing n with
  | zero => intro x hx; simp [lowL] at hx
  | succ k ih =>
    intro x hx
    rw [lowL, List.mem_cons] at hx
    rcases hx with rfl | hx
    · omega
    · exact ih _ _ hx
theorem leN_lowL (n k : Nat) (h : n < 256 ^ k) : leN (lowL n k) = n := by induction k generalizing n with
  | zero => simp at h; simp [lowL, leN, h]
  | succ k ih =>
    rw [lowL, leN, ih _ (by rw [Nat.pow_succ] at h; omega)]
    omega
theorem lowL_get (n k i : Nat) (h : i < k) : (lowL n k)[i]? = some (((n / 256 ^ i % 256 : Nat)) : Int) := by induction k generalizing n i with
  | zero => omega
  | succ k ih =>
    rw [lowL]
    cases i with
    | zero => simp
    | succ i => rw [List.getElem?_cons_succ, ih _ _ (by omega), Nat.div_div_eq_div_mul, Nat.pow_succ, Nat.mul_comm]
theorem wrap8 (i : Nat) (h : i ≤ 6) : IntKind.u64.wrap (wrap64 (8 * (i : Int))) = ((8 * i : Nat) : Int) := by
  have e : wrap64 (8 * (i : Int)) = 8 * (i : Int) := by unfold wrap64; omega
  rw [e]
  have : i = 0 ∨ i = 1 ∨ i = 2 ∨ i = 3 ∨ i = 4 ∨ i = 5 ∨ i = 6 := by omega
  rcases this with rfl | rfl | rfl | rfl | rfl | rfl | rfl <;> rfl
theorem wrap_succ (i : Nat) (h : i < 4611686018427387904) : wrap64 ((i : Int) + 1) = ((i + 1 : Nat) : Int) := by unfold wrap64; omega
theorem shr_byte (n i : Nat) (h : i ≤ 6) : shr .i64 (n : Int) ((8 * i : Nat) : Int) % 256 = ((n / 256 ^ i % 256 : Nat) : Int) := by
  have e : IntKind.i64.bits = 64 := rfl
  unfold shr
  rw [e, Int.toNat_natCast, Nat.min_eq_left (by omega), pow256]
  have h2 : (n : Int) / 2 ^ (8 * i) = ((n / 2 ^ (8 * i) : Nat) : Int) := by rw [Int.natCast_ediv, Int.natCast_pow]; rfl
  rw [h2]; omega
theorem low_ev (n : Nat) (k : Nat) (hk : k ≤ 6) : ∃ r, P0.wire_low.f r (n : Int) (k : Int) = some (lowL n k) := by
  have main : ∀ (d i : Nat) (l : List Int), i + d = k → l.length = k → (∀ j, j < i → l[j]? = (lowL n k)[j]?) → ∃ r, P0.wire_low.l0 r (n : Int) l (k : Int) (i : Int) = some (lowL n k) := by
    intro d
    induction d with
    | zero =>
      intro i l hi hl hg
      refine ⟨1, ?_⟩
      rw [P0.wire_low.l0, if_neg (by omega)]
      congr 1
      apply List.ext_getElem?
      intro j
      by_cases hj : j < i
      · exact hg j hj
      · rw [List.getElem?_eq_none (by omega), List.getElem?_eq_none (by rw [lowL_length]; omega)]
    | succ d ih =>
      intro i l hi hl hg
      have hik : i < k := by omega
      obtain ⟨r, hr⟩ := ih (i + 1) (l.set i (((n / 256 ^ i % 256 : Nat)) : Int)) (by omega) (by simp [hl]) (by
        intro j hj
        by_cases e : i = j
        · subst e; rw [List.getElem?_set_self (by omega), lowL_get n k i hik]
        · rw [List.getElem?_set_ne e]; exact hg j (by omega))
      refine ⟨r + 1, ?_⟩
      rw [P0.wire_low.l0, if_pos (by omega), wrap8 i (by omega), if_pos (by omega), if_pos (by omega), if_pos (by omega), shr_byte n i (by omega), Int.toNat_natCast, wrap_succ i (by omega)]
      exact hr
  obtain ⟨r, hr⟩ := main k 0 (List.replicate k 0) (by omega) (by simp) (by omega)
  refine ⟨r, ?_⟩
  rw [P0.wire_low.f, if_pos (by omega), if_pos (by omega)]
  simpa using hr
theorem Bytes_ev (n : Nat) (k : Nat) (hk : k ≤ 6) : ∃ r, P0.gazetteref01_Bytes.f r (n : Int) (k : Int) = some (lowL n k) := by
  have main : ∀ (d i : Nat) (l : List Int), i + d = k → l = (lowL n k).take i → ∃ r, P0.gazetteref01_Bytes.l0 r (n : Int) (k : Int) l (i : Int) = some (lowL n k) := by
    intro d
    induction d with
    | zero =>
      intro i l hi hl
      refine ⟨1, ?_⟩
      rw [P0.gazetteref01_Bytes.l0, if_neg (by omega), hl, List.take_of_length_le (by rw [lowL_length]; omega)]
    | succ d ih =>
      intro i l hi hl
      have hik : i < k := by omega
      have hll : l.length = i := by rw [hl, List.length_take, lowL_length]; omega
      have hg := lowL_get n k i hik
      obtain ⟨r, hr⟩ := ih (i + 1) (l ++ [(((n / 256 ^ i % 256 : Nat)) : Int)]) (by omega) (by
        have hlt : i < (lowL n k).length := by rw [lowL_length]; exact hik
        rw [List.take_succ_eq_append_getElem hlt, ← hl]
        rw [List.getElem?_eq_getElem hlt] at hg
        rw [Option.some.inj hg])
      refine ⟨r + 1, ?_⟩
      rw [P0.gazetteref01_Bytes.l0, if_pos (by omega), wrap8 i (by omega), if_pos (by omega), if_pos (by omega), shr_byte n i (by omega), wrap_succ i (by omega)]
      exact hr
  obtain ⟨r, hr⟩ := main k 0 [] (by omega) (by simp)
  exact ⟨r, hr⟩
/-! What the functions answer, and their contracts in the printed texts' form. -/
def isB (l : List Int) : Bool := l.all fun x => decide (0 ≤ x) && decide (x ≤ 255)
theorem isB_iff (l : List Int) : isB l = true ↔ isBytes l := by simp [isB, isBytes]
theorem isBytes_append {l m : List Int} (h : isBytes l) (k : isBytes m) : isBytes (l ++ m) := fun x hx => by
  rcases List.mem_append.1 hx with hx | hx
  · exact h x hx
  · exact k x hx
def wire_low.f (n k : Int) : Option (List Int) := if 0 ≤ n ∧ 0 ≤ k ∧ k ≤ 6 then some (lowL n.toNat k.toNat) else none
theorem wire_low.calls (a0 : Int) (a1 : Int) (r : List Int) (w : World) (h : wire_low.f a0 a1 = some r) :
    Calls Try.prog 62 #[.int .i64 a0, .int .i64 a1] w fun e w' => ∃ v0_ : Value, e = .returned (v0_) ∧ Kd.R (Kd.int .u8) 5 w' w.heap.size (fun _ => True) v0_ r ∧ Below w.heap.size w w' := by
  unfold wire_low.f at h
  by_cases hb : 0 ≤ a0 ∧ 0 ≤ a1 ∧ a1 ≤ 6
  · rw [if_pos hb] at h
    obtain rfl := Option.some.inj h
    obtain ⟨n, rfl⟩ := Int.eq_ofNat_of_zero_le hb.1
    obtain ⟨k, rfl⟩ := Int.eq_ofNat_of_zero_le hb.2.1
    obtain ⟨q, hq⟩ := low_ev n k (by omega)
    exact P0.wire_low.calls q _ _ _ w hq
  · rw [if_neg hb] at h; cases h
def gazetteref01_Bytes.f (n k : Int) : Option (List Int) := wire_low.f n k
theorem gazetteref01_Bytes.calls (a0 : Int) (a1 : Int) (r : List Int) (w : World) (h : gazetteref01_Bytes.f a0 a1 = some r) :
    Calls Try.prog 57 #[.int .i64 a0, .int .i64 a1] w fun e w' => ∃ v0_ : Value, e = .returned (v0_) ∧ Kd.R (Kd.int .u8) 5 w' w.heap.size (fun _ => True) v0_ r ∧ Below w.heap.size w w' := by
  unfold gazetteref01_Bytes.f wire_low.f at h
  by_cases hb : 0 ≤ a0 ∧ 0 ≤ a1 ∧ a1 ≤ 6
  · rw [if_pos hb] at h
    obtain rfl := Option.some.inj h
    obtain ⟨n, rfl⟩ := Int.eq_ofNat_of_zero_le hb.1
    obtain ⟨k, rfl⟩ := Int.eq_ofNat_of_zero_le hb.2.1
    obtain ⟨q, hq⟩ := Bytes_ev n k (by omega)
    exact P0.gazetteref01_Bytes.calls q _ _ _ w hq
  · rw [if_neg hb] at h; cases h
/-- What wire.Put answers. -/
def putF (n size : Int) : List Int × Int :=
  if size < 1 then ([], 1) else if 6 < size then ([], 1) else if n < 0 then ([], 11) else if 256 ^ size.toNat ≤ n then ([], 11) else (lowL n.toNat size.toNat, 0)
theorem shl_one (k : Nat) (h : k ≤ 6) : shl .i64 1 ((8 * k : Nat) : Int) = 256 ^ k := by
  have : k = 0 ∨ k = 1 ∨ k = 2 ∨ k = 3 ∨ k = 4 ∨ k = 5 ∨ k = 6 := by omega
  rcases this with rfl | rfl | rfl | rfl | rfl | rfl | rfl <;> rfl
theorem Put_ev (n size : Int) : ∃ k, P0.wire_Put.f k n size = some (putF n size) := by
  unfold putF P0.wire_Put.f
  by_cases h1 : size < 1
  · rw [if_pos h1]; refine ⟨1, ?_⟩; rw [if_pos h1, P0.wire_Put.j0, if_pos (by simpa using h1)]
  rw [if_neg h1]
  by_cases h2 : 6 < size
  · rw [if_pos h2]; refine ⟨1, ?_⟩; rw [if_neg h1, P0.wire_Put.j0, if_pos (by simpa using h2)]
  rw [if_neg h2]
  obtain ⟨k, rfl⟩ := Int.eq_ofNat_of_zero_le (show 0 ≤ size by omega)
  have h2' : ¬ (decide ((k : Int) > 6) = true) := by simpa using h2
  by_cases h3 : n < 0
  · rw [if_pos h3]; refine ⟨1, ?_⟩; rw [if_neg h1, P0.wire_Put.j0, if_neg h2', if_pos h3]
  rw [if_neg h3]
  obtain ⟨m, rfl⟩ := Int.eq_ofNat_of_zero_le (show 0 ≤ n by omega)
  rw [Int.toNat_natCast]
  by_cases h4 : (256 : Int) ^ k ≤ m
  · rw [if_pos h4]; refine ⟨1, ?_⟩; rw [if_neg h1, P0.wire_Put.j0, if_neg h2', if_neg h3, wrap8 k (by omega), if_pos (by omega), shl_one k (by omega), if_pos (by omega)]
  rw [if_neg h4]
  obtain ⟨q, hq⟩ := low_ev m k (by omega)
  have hq1 := at_rounds (P0.wire_low.mono (m : Int) (k : Int)) (Nat.le_succ q) hq
  refine ⟨q + 1, ?_⟩
  rw [if_neg h1, P0.wire_Put.j0, if_neg h2', if_neg h3, wrap8 k (by omega), if_pos (by omega), shl_one k (by omega), if_neg (by omega), hq]; rfl
def wire_Put.f (n size : Int) : Option (List Int × Int) := some (putF n size)
theorem wire_Put.calls (a0 : Int) (a1 : Int) (r1 : List Int) (r2 : Int) (w : World) (h : wire_Put.f a0 a1 = some (r1, r2)) :
    Calls Try.prog 56 #[.int .i64 a0, .int .i64 a1] w fun e w' => ∃ v0_ : Value, e = .returned (.tuple #[v0_, .int .i64 r2]) ∧ Kd.R (Kd.int .u8) 5 w' w.heap.size (fun _ => True) v0_ r1 ∧ Below w.heap.size w w' := by
  obtain ⟨k, hk⟩ := Put_ev a0 a1
  exact P0.wire_Put.calls k _ _ _ _ w (hk.trans h)
def wire_Get.f (l : List Int) (p size : Int) : Option (Int × Int × Int) := if isB l = true then some (getF l p size) else none
theorem wire_Get.calls (A0 : Option Addr) (c0 : Nat) (l0 : List Int) (a1 : Int) (a2 : Int) (r1 : Int) (r2 : Int) (r3 : Int) (w : World) (hr0 : Kd.C (Kd.int .u8) w A0 l0.length l0) (hc0 : l0.length ≤ c0) (h : wire_Get.f l0 a1 a2 = some (r1, r2, r3)) :
    Calls Try.prog 54 #[.slice A0 l0.length c0, .int .i64 a1, .int .i64 a2] w fun e w' => e = .returned (.tuple #[.int .i64 r1, .int .i64 r2, .int .i64 r3]) ∧ Below w.heap.size w w' := by
  unfold wire_Get.f at h
  by_cases hb : isB l0 = true
  · rw [if_pos hb] at h
    have e := Option.some.inj h
    have := Get_calls0 A0 c0 l0 a1 a2 w hr0 hc0 ((isB_iff l0).1 hb)
    rw [e] at this
    exact this
  · rw [if_neg hb] at h; cases h
end Go.Proofs.Ytpcoelimabojcaa.Hand
