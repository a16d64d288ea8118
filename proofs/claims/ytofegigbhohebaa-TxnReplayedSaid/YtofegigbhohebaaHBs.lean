/- What wire's small functions answer, and their contracts. The document's sum, bit by bit: the same number. wire.GetText: what it computes. The document's sum and wire.GetText: contracts in the printed texts' form. wire.Text: what it computes; slices of slices. The document's numbers and texts: what they compute. wire.Unframe: what it computes. The document's GetText: its contract in the printed texts' form. wire.Frame: what it computes. -/
import Derived.Test.YtofegigbhohebaaHA
namespace Go.Proofs.Ytofegigbhohebaa.Hand
open Go.RowKit Go.Proofs.Ytofegigbhohebaa Go.Proofs.YtofegigbhohebaaW.PrintWords Go.Proofs.YtofegigbhohebaaW.PrintMore

/-- The bytes of a number, the lowest first. -/
def lowL (n : Nat) : Nat → List Int
  | 0 => []
  | k + 1 => ((n % 256 : Nat) : Int) :: lowL (n / 256) k
theorem lowL_length (n k : Nat) : (lowL n k).length = k := by induction k generalizing n with
  | zero => rfl
  | succ k ih => simp [lowL, ih]
theorem lowL_bytes (n k : Nat) : isBytes (lowL n k) := by induction k generalizing n with
  | zero => intro x hx; simp [lowL] at hx
  | succ k ih =>
    intro x hx
    rw [lowL, List.mem_cons] at hx
    rcases hx with rfl | hx
    · omega
    · exact ih _ _ hx
theorem leN_lowL (n k : Nat) (h : n < 256 ^ k) : leN (lowL n k) = n := by induction k generalizing n with
  | zero => simp at h; simp [lowL, leN, h]
  | succ k ih =>
    rw [lowL, leN, ih _ (by rw [Nat.pow_succ] at h; omega)]
    omega
theorem lowL_get (n k i : Nat) (h : i < k) : (lowL n k)[i]? = some (((n / 256 ^ i % 256 : Nat)) : Int) := by induction k generalizing n i with
  | zero => omega
  | succ k ih =>
    rw [lowL]
    cases i with
    | zero => simp
    | succ i => rw [List.getElem?_cons_succ, ih _ _ (by omega), Nat.div_div_eq_div_mul, Nat.pow_succ, Nat.mul_comm]
theorem wrap8 (i : Nat) (h : i ≤ 6) : IntKind.u64.wrap (wrap64 (8 * (i : Int))) = ((8 * i : Nat) : Int) := by
  have e : wrap64 (8 * (i : Int)) = 8 * (i : Int) := by unfold wrap64; omega
  rw [e]
  have : i = 0 ∨ i = 1 ∨ i = 2 ∨ i = 3 ∨ i = 4 ∨ i = 5 ∨ i = 6 := by omega
  rcases this with rfl | rfl | rfl | rfl | rfl | rfl | rfl <;> rfl
theorem wrap_succ (i : Nat) (h : i < 4611686018427387904) : wrap64 ((i : Int) + 1) = ((i + 1 : Nat) : Int) := by unfold wrap64; omega
theorem shr_byte (n i : Nat) (h : i ≤ 6) : shr .i64 (n : Int) ((8 * i : Nat) : Int) % 256 = ((n / 256 ^ i % 256 : Nat) : Int) := by
  have e : IntKind.i64.bits = 64 := rfl
  unfold shr
  rw [e, Int.toNat_natCast, Nat.min_eq_left (by omega), pow256]
  have h2 : (n : Int) / 2 ^ (8 * i) = ((n / 2 ^ (8 * i) : Nat) : Int) := by rw [Int.natCast_ediv, Int.natCast_pow]; rfl
  rw [h2]; omega
theorem low_ev (n : Nat) (k : Nat) (hk : k ≤ 6) : ∃ r, P0.wire_low.f r (n : Int) (k : Int) = some (lowL n k) := by
  have main : ∀ (d i : Nat) (l : List Int), i + d = k → l.length = k → (∀ j, j < i → l[j]? = (lowL n k)[j]?) → ∃ r, P0.wire_low.l0 r (n : Int) l (k : Int) (i : Int) = some (lowL n k) := by
    intro d
    induction d with
    | zero =>
      intro i l hi hl hg
      refine ⟨1, ?_⟩
      rw [P0.wire_low.l0, if_neg (by omega)]
      congr 1
      apply List.ext_getElem?
      intro j
      by_cases hj : j < i
      · exact hg j hj
      · rw [List.getElem?_eq_none (by omega), List.getElem?_eq_none (by rw [lowL_length]; omega)]
    | succ d ih =>
      intro i l hi hl hg
      have hik : i < k := by omega
      obtain ⟨r, hr⟩ := ih (i + 1) (l.set i (((n / 256 ^ i % 256 : Nat)) : Int)) (by omega) (by simp [hl]) (by
        intro j hj
        by_cases e : i = j
        · subst e; rw [List.getElem?_set_self (by omega), lowL_get n k i hik]
        · rw [List.getElem?_set_ne e]; exact hg j (by omega))
      refine ⟨r + 1, ?_⟩
      rw [P0.wire_low.l0, if_pos (by omega), wrap8 i (by omega), if_pos (by omega), if_pos (by omega), if_pos (by omega), shr_byte n i (by omega), Int.toNat_natCast, wrap_succ i (by omega)]
      exact hr
  obtain ⟨r, hr⟩ := main k 0 (List.replicate k 0) (by omega) (by simp) (by omega)
  refine ⟨r, ?_⟩
  rw [P0.wire_low.f, if_pos (by omega), if_pos (by omega)]
  simpa using hr
theorem Bytes_ev (n : Nat) (k : Nat) (hk : k ≤ 6) : ∃ r, P0.gazetteref01_Bytes.f r (n : Int) (k : Int) = some (lowL n k) := by
  have main : ∀ (d i : Nat) (l : List Int), i + d = k → l = (lowL n k).take i → ∃ r, P0.gazetteref01_Bytes.l0 r (n : Int) (k : Int) l (i : Int) = some (lowL n k) := by
    intro d
    induction d with
    | zero =>
      intro i l hi hl
      refine ⟨1, ?_⟩
      rw [P0.gazetteref01_Bytes.l0, if_neg (by omega), hl, List.take_of_length_le (by rw [lowL_length]; omega)]
    | succ d ih =>
      intro i l hi hl
      have hik : i < k := by omega
      have hll : l.length = i := by rw [hl, List.length_take, lowL_length]; omega
      have hg := lowL_get n k i hik
      obtain ⟨r, hr⟩ := ih (i + 1) (l ++ [(((n / 256 ^ i % 256 : Nat)) : Int)]) (by omega) (by
        have hlt : i < (lowL n k).length := by rw [lowL_length]; exact hik
        rw [List.take_succ_eq_append_getElem hlt, ← hl]
        rw [List.getElem?_eq_getElem hlt] at hg
        rw [Option.some.inj hg])
      refine ⟨r + 1, ?_⟩
      rw [P0.gazetteref01_Bytes.l0, if_pos (by omega), wrap8 i (by omega), if_pos (by omega), if_pos (by omega), shr_byte n i (by omega), wrap_succ i (by omega)]
      exact hr
  obtain ⟨r, hr⟩ := main k 0 [] (by omega) (by simp)
  exact ⟨r, hr⟩
theorem join_ev (ls : List (List Int)) (h : ls.flatten.length < 140737488355328) (h2 : ls.length < 4611686018427387904) : ∃ r, P0.wire_join.f r ls = some ls.flatten := by
  have main : ∀ (d i : Nat) (l : List Int), i + d = ls.length → l ++ (ls.drop i).flatten = ls.flatten → ∃ r, P0.wire_join.l0 r l ls (ls.length : Int) (i : Int) = some ls.flatten := by
    intro d
    induction d with
    | zero =>
      intro i l hi hl
      refine ⟨1, ?_⟩
      rw [List.drop_of_length_le (by omega)] at hl
      rw [P0.wire_join.l0, if_neg (by omega), ← hl]; simp
    | succ d ih =>
      intro i l hi hl
      have hik : i < ls.length := by omega
      rw [List.drop_eq_getElem_cons hik, List.flatten_cons, ← List.append_assoc] at hl
      have hlen := congrArg List.length hl
      simp only [List.length_append] at hlen
      obtain ⟨r, hr⟩ := ih (i + 1) (l ++ ls[i]) (by omega) hl
      have hrd : P0.rd_L1 ls (i : Int) = ls[i] := by unfold P0.rd_L1; simp [hik]
      refine ⟨r + 1, ?_⟩
      rw [P0.wire_join.l0, if_pos (by omega), if_pos (by omega), if_pos (by omega), hrd, if_pos (by omega), wrap_succ i (by omega)]
      exact hr
  obtain ⟨r, hr⟩ := main ls.length 0 [] (by omega) (by simp)
  exact ⟨r, hr⟩

/-! What the functions answer, and their contracts in the printed texts' form. -/
def isB (l : List Int) : Bool := l.all fun x => decide (0 ≤ x) && decide (x ≤ 255)
theorem isB_iff (l : List Int) : isB l = true ↔ isBytes l := by simp [isB, isBytes]
theorem isBytes_append {l m : List Int} (h : isBytes l) (k : isBytes m) : isBytes (l ++ m) := fun x hx => by
  rcases List.mem_append.1 hx with hx | hx
  · exact h x hx
  · exact k x hx
def wire_Crc.f (l : List Int) : Option Int := if isB l = true then some ((crcOf l : Nat) : Int) else none
theorem wire_Crc.calls (A0 : Option Addr) (c0 : Nat) (l0 : List Int) (r : Int) (w : World) (hr0 : Kd.C (Kd.int .u8) w A0 l0.length l0) (_hc0 : l0.length ≤ c0) (h : wire_Crc.f l0 = some r) :
    Calls Try.prog 83 #[.slice A0 l0.length c0] w fun e w' => e = .returned (.int .u32 r) ∧ Below w.heap.size w w' := by
  unfold wire_Crc.f at h
  by_cases hb : isB l0 = true
  · rw [if_pos hb] at h
    obtain rfl := Option.some.inj h
    exact Crc_calls0 A0 c0 l0 w hr0 ((isB_iff l0).1 hb)
  · rw [if_neg hb] at h; cases h
def wire_low.f (n k : Int) : Option (List Int) := if 0 ≤ n ∧ 0 ≤ k ∧ k ≤ 6 then some (lowL n.toNat k.toNat) else none
theorem wire_low.calls (a0 : Int) (a1 : Int) (r : List Int) (w : World) (h : wire_low.f a0 a1 = some r) :
    Calls Try.prog 81 #[.int .i64 a0, .int .i64 a1] w fun e w' => ∃ v0_ : Value, e = .returned (v0_) ∧ Kd.R (Kd.int .u8) 5 w' w.heap.size (fun _ => True) v0_ r ∧ Below w.heap.size w w' := by
  unfold wire_low.f at h
  by_cases hb : 0 ≤ a0 ∧ 0 ≤ a1 ∧ a1 ≤ 6
  · rw [if_pos hb] at h
    obtain rfl := Option.some.inj h
    obtain ⟨n, rfl⟩ := Int.eq_ofNat_of_zero_le hb.1
    obtain ⟨k, rfl⟩ := Int.eq_ofNat_of_zero_le hb.2.1
    obtain ⟨q, hq⟩ := low_ev n k (by omega)
    exact P0.wire_low.calls q _ _ _ w hq
  · rw [if_neg hb] at h; cases h
def gazetteref01_Bytes.f (n k : Int) : Option (List Int) := wire_low.f n k
theorem gazetteref01_Bytes.calls (a0 : Int) (a1 : Int) (r : List Int) (w : World) (h : gazetteref01_Bytes.f a0 a1 = some r) :
    Calls Try.prog 86 #[.int .i64 a0, .int .i64 a1] w fun e w' => ∃ v0_ : Value, e = .returned (v0_) ∧ Kd.R (Kd.int .u8) 5 w' w.heap.size (fun _ => True) v0_ r ∧ Below w.heap.size w w' := by
  unfold gazetteref01_Bytes.f wire_low.f at h
  by_cases hb : 0 ≤ a0 ∧ 0 ≤ a1 ∧ a1 ≤ 6
  · rw [if_pos hb] at h
    obtain rfl := Option.some.inj h
    obtain ⟨n, rfl⟩ := Int.eq_ofNat_of_zero_le hb.1
    obtain ⟨k, rfl⟩ := Int.eq_ofNat_of_zero_le hb.2.1
    obtain ⟨q, hq⟩ := Bytes_ev n k (by omega)
    exact P0.gazetteref01_Bytes.calls q _ _ _ w hq
  · rw [if_neg hb] at h; cases h
def wire_join.f (l : List (List Int)) : Option (List Int) := if l.flatten.length < 140737488355328 ∧ l.length < 4611686018427387904 then some l.flatten else none
theorem wire_join.calls (A0 : Option Addr) (c0 : Nat) (l0 : List (List Int)) (r : List Int) (w : World) (hr0 : Kd.C (Kd.slice 5 (Kd.int .u8)) w A0 l0.length l0) (hc0 : l0.length ≤ c0) (h : wire_join.f l0 = some r) :
    Calls Try.prog 82 #[.slice A0 l0.length c0] w fun e w' => ∃ v0_ : Value, e = .returned (v0_) ∧ Kd.R (Kd.int .u8) 5 w' w.heap.size (fun _ => True) v0_ r ∧ Below w.heap.size w w' := by
  unfold wire_join.f at h
  by_cases hb : l0.flatten.length < 140737488355328 ∧ l0.length < 4611686018427387904
  · rw [if_pos hb] at h
    obtain rfl := Option.some.inj h
    obtain ⟨q, hq⟩ := join_ev l0 hb.1 hb.2
    exact P0.wire_join.calls q A0 c0 l0 _ w hr0 hc0 hq
  · rw [if_neg hb] at h; cases h
/-- What wire.Put answers. -/
def putF (n size : Int) : List Int × Int :=
  if size < 1 then ([], 1) else if 6 < size then ([], 1) else if n < 0 then ([], 11) else if 256 ^ size.toNat ≤ n then ([], 11) else (lowL n.toNat size.toNat, 0)
theorem shl_one (k : Nat) (h : k ≤ 6) : shl .i64 1 ((8 * k : Nat) : Int) = 256 ^ k := by
  have : k = 0 ∨ k = 1 ∨ k = 2 ∨ k = 3 ∨ k = 4 ∨ k = 5 ∨ k = 6 := by omega
  rcases this with rfl | rfl | rfl | rfl | rfl | rfl | rfl <;> rfl
theorem Put_ev (n size : Int) : ∃ k, P0.wire_Put.f k n size = some (putF n size) := by
  unfold putF P0.wire_Put.f
  by_cases h1 : size < 1
  · rw [if_pos h1]; refine ⟨1, ?_⟩; rw [if_pos h1, P0.wire_Put.j0, if_pos (by simpa using h1)]
  rw [if_neg h1]
  by_cases h2 : 6 < size
  · rw [if_pos h2]; refine ⟨1, ?_⟩; rw [if_neg h1, P0.wire_Put.j0, if_pos (by simpa using h2)]
  rw [if_neg h2]
  obtain ⟨k, rfl⟩ := Int.eq_ofNat_of_zero_le (show 0 ≤ size by omega)
  have h2' : ¬ (decide ((k : Int) > 6) = true) := by simpa using h2
  by_cases h3 : n < 0
  · rw [if_pos h3]; refine ⟨1, ?_⟩; rw [if_neg h1, P0.wire_Put.j0, if_neg h2', if_pos h3]
  rw [if_neg h3]
  obtain ⟨m, rfl⟩ := Int.eq_ofNat_of_zero_le (show 0 ≤ n by omega)
  rw [Int.toNat_natCast]
  by_cases h4 : (256 : Int) ^ k ≤ m
  · rw [if_pos h4]; refine ⟨1, ?_⟩; rw [if_neg h1, P0.wire_Put.j0, if_neg h2', if_neg h3, wrap8 k (by omega), if_pos (by omega), shl_one k (by omega), if_pos (by omega)]
  rw [if_neg h4]
  obtain ⟨q, hq⟩ := low_ev m k (by omega)
  have hq1 := at_rounds (P0.wire_low.mono (m : Int) (k : Int)) (Nat.le_succ q) hq
  refine ⟨q + 1, ?_⟩
  rw [if_neg h1, P0.wire_Put.j0, if_neg h2', if_neg h3, wrap8 k (by omega), if_pos (by omega), shl_one k (by omega), if_neg (by omega), hq]; rfl
def wire_Put.f (n size : Int) : Option (List Int × Int) := some (putF n size)
theorem wire_Put.calls (a0 : Int) (a1 : Int) (r1 : List Int) (r2 : Int) (w : World) (h : wire_Put.f a0 a1 = some (r1, r2)) :
    Calls Try.prog 47 #[.int .i64 a0, .int .i64 a1] w fun e w' => ∃ v0_ : Value, e = .returned (.tuple #[v0_, .int .i64 r2]) ∧ Kd.R (Kd.int .u8) 5 w' w.heap.size (fun _ => True) v0_ r1 ∧ Below w.heap.size w w' := by
  obtain ⟨k, hk⟩ := Put_ev a0 a1
  exact P0.wire_Put.calls k _ _ _ _ w (hk.trans h)
def wire_Get.f (l : List Int) (p size : Int) : Option (Int × Int × Int) := if isB l = true then some (getF l p size) else none
theorem wire_Get.calls (A0 : Option Addr) (c0 : Nat) (l0 : List Int) (a1 : Int) (a2 : Int) (r1 : Int) (r2 : Int) (r3 : Int) (w : World) (hr0 : Kd.C (Kd.int .u8) w A0 l0.length l0) (hc0 : l0.length ≤ c0) (h : wire_Get.f l0 a1 a2 = some (r1, r2, r3)) :
    Calls Try.prog 53 #[.slice A0 l0.length c0, .int .i64 a1, .int .i64 a2] w fun e w' => e = .returned (.tuple #[.int .i64 r1, .int .i64 r2, .int .i64 r3]) ∧ Below w.heap.size w w' := by
  unfold wire_Get.f at h
  by_cases hb : isB l0 = true
  · rw [if_pos hb] at h
    have e := Option.some.inj h
    have := Get_calls0 A0 c0 l0 a1 a2 w hr0 hc0 ((isB_iff l0).1 hb)
    rw [e] at this
    exact this
  · rw [if_neg hb] at h; cases h
end Go.Proofs.Ytofegigbhohebaa.Hand
namespace Go.Proofs.Ytofegigbhohebaa.Hand
open Go.RowKit Go.Proofs.YtofegigbhohebaaW.PrintWords

set_option maxHeartbeats 400000 in
set_option maxRecDepth 100000 in
theorem refCrc_calls0 (A0 : Option Addr) (c0 : Nat) (l0 : List Int) (w : World) (hr0 : Kd.C (Kd.int .u8) w A0 l0.length l0) (hb : isBytes l0) :
    Calls Try.prog 92 #[.slice A0 l0.length c0] w fun e w' => e = .returned (.int .u32 ((crcOf l0 : Nat) : Int)) ∧ Below w.heap.size w w' := by
  have HR2 := Aside0.mk hr0
  have hmax : l0.length ≤ 9223372036854775807 := Kd.C_max hr0
  clear hr0
  go_enter Try.func92, Try.ntmps92
  go_wp2_with fail
  go_loop [3, 4, 5, 6, 7] (fun c3 i4 x5 k6 u7 => ∃ k : Nat, k ≤ l0.length ∧ i4 = .int .i64 k ∧ c3 = .int .u32 ((crcL 4294967295 (l0.take k) : Nat) : Int)) (fun _ i4 _ _ _ => l0.length - (intOf i4).toNat)
  case atStart => exact ⟨0, by omega, rfl, rfl⟩
  case round =>
    obtain ⟨k, hk, rfl, rfl⟩ := hrel
    by_cases hlt : k < l0.length
    · obtain ⟨ad, rfl, hcell⟩ := Kd.at_int HR2.out k (by omega) (by omega)
      rw [Int.toNat_natCast] at hcell
      have hby := rd_byte l0 hb k (by omega) (by omega)
      have hc := crcL_lt_take l0 hb k
      have HS := Aside0.mk (crcL_take 4294967295 l0 k hlt)
      generalize crcL 4294967295 (l0.take k) = c at *
      obtain ⟨x, hx⟩ := Int.eq_ofNat_of_zero_le hby.1
      rw [hx] at hcell hby
      have HX := Aside0.mk hx
      clear hx
      have hx8 : x < 256 := by omega
      go_wp2_with fail
      go_loop [3, 5, 6, 7] (fun r3 x5 i6 u7 => ∃ j r y : Nat, j ≤ 8 ∧ r < 4294967296 ∧ y < 256 ∧ r3 = .int .u32 r ∧ x5 = .int .u32 y ∧ i6 = .int .i64 j ∧ Aside0 (r = refN j c x ∧ y = x / 2 ^ j)) (fun _ _ i6 _ => 8 - (intOf i6).toNat)
      case atStart => exact ⟨0, c, x, by omega, hc, hx8, rfl, rfl, rfl, ⟨rfl, by simp⟩⟩
      case round =>
        obtain ⟨j, r, y, hj, hr, hy, rfl, rfl, rfl, HJ⟩ := hrel
        by_cases hlt2 : j < 8
        · have hxy : r ^^^ y < 4294967296 := Nat.xor_lt_two_pow (n := 32) hr (by omega)
          have e1 := bits_xor_u32 r y hr (by omega)
          have e2 := bits_and1_u32 (r ^^^ y) hxy
          by_cases hbit : (r ^^^ y) % 2 = 1
          · have e3 : ((((r ^^^ y) % 2 : Nat) : Int) == 1) = true := by rw [hbit]; rfl
            have HB := Aside0.mk hbit
            clear hbit
            go_wp2_with fail
            go_round
            case rel => exact ⟨j + 1, refB r y, y / 2, by omega, refB_lt r y hr, by omega, by rw [refB_walk1 r y hr HB.out], by simp, by go_num, ⟨by rw [refN_succ, ← HJ.out.1, ← HJ.out.2], by rw [HJ.out.2, Nat.div_div_eq_div_mul, Nat.pow_succ]⟩⟩
            case measure => simp [intOf]; omega
          · have e3 : ((((r ^^^ y) % 2 : Nat) : Int) == 1) = false := by rw [show (r ^^^ y) % 2 = 0 by omega]; rfl
            have HB := Aside0.mk hbit
            clear hbit
            go_wp2_with fail
            go_round
            case rel => exact ⟨j + 1, refB r y, y / 2, by omega, refB_lt r y hr, by omega, by rw [refB_walk0 r y HB.out], by simp, by go_num, ⟨by rw [refN_succ, ← HJ.out.1, ← HJ.out.2], by rw [HJ.out.2, Nat.div_div_eq_div_mul, Nat.pow_succ]⟩⟩
            case measure => simp [intOf]; omega
        · go_wp2_with fail
          go_round
          case rel => exact ⟨k + 1, by omega, by go_num, by rw [HS.out, HX.out, Int.toNat_natCast, HJ.out.1, show j = 8 by omega, refN_byte c x hx8]⟩
          case measure => simp [intOf]; omega
    · have hk2 : k = l0.length := by omega
      go_wp2_with fail
      go_ret
      exact ⟨ret_u32 (bits_not_u32 _ (crcL_lt _ _ (by omega) hb)), Below.refl _ _⟩
end Go.Proofs.Ytofegigbhohebaa.Hand
namespace Go.Proofs.Ytofegigbhohebaa.Hand
open Go.RowKit Go.Proofs.YtofegigbhohebaaW.PrintWords

/-- What is known of wire.Get's good answer. -/
theorem getF_ok (l : List Int) (p size : Int) (h : (getF l p size).2.2 = 0) : 0 ≤ p ∧ 1 ≤ size ∧ size ≤ 6 ∧ p + size ≤ l.length ∧ (getF l p size).2.1 = p + size ∧ 0 ≤ (getF l p size).1 := by
  unfold getF at h ⊢
  by_cases h1 : size < 1
  · rw [if_pos h1] at h; simp at h
  rw [if_neg h1] at h ⊢
  by_cases h2 : 6 < size
  · rw [if_pos h2] at h; simp at h
  rw [if_neg h2] at h ⊢
  by_cases h3 : p < 0
  · rw [if_pos h3] at h; simp at h
  rw [if_neg h3] at h ⊢
  by_cases h4 : p ≤ l.length
  · rw [if_pos h4] at h ⊢
    by_cases h5 : size ≤ l.length - p
    · rw [if_pos h5]
      exact ⟨by omega, by omega, by omega, by omega, rfl, Int.natCast_nonneg _⟩
    · rw [if_neg h5] at h; simp at h
  · rw [if_neg h4] at h; simp at h
/-- What wire.GetText answers. -/
def textF (l : List Int) (p : Int) : ByteArray × Int × Int :=
  if (getF l p 2).2.2 = 0 then (if (getF l p 2).1 ≤ l.length - (getF l p 2).2.1 then (strOfNums ((l.take ((getF l p 2).2.1 + (getF l p 2).1).toNat).drop (getF l p 2).2.1.toNat), (getF l p 2).2.1 + (getF l p 2).1, 0) else (⟨#[]⟩, 0, 20))
  else (⟨#[]⟩, 0, (getF l p 2).2.2)
set_option maxHeartbeats 400000 in
theorem GetText_calls0 (A0 : Option Addr) (c0 : Nat) (l0 : List Int) (p : Int) (w : World) (hr0 : Kd.C (Kd.int .u8) w A0 l0.length l0) (hc0 : l0.length ≤ c0) (hb : isBytes l0) :
    Calls Try.prog 54 #[.slice A0 l0.length c0, .int .i64 p] w fun e w' => e = .returned (.tuple #[.string (textF l0 p).1, .int .i64 (textF l0 p).2.1, .int .i64 (textF l0 p).2.2]) ∧ Below w.heap.size w w' := by
  have hmax : l0.length ≤ 9223372036854775807 := Kd.C_max hr0
  have HR := Aside0.mk hr0
  have HBy := Aside0.mk hb
  have HG := Aside0.mk (Get_calls0 A0 c0 l0 p 2 w hr0 hc0 hb)
  have hok := getF_ok l0 p 2
  unfold textF
  clear hr0 hb
  generalize hg : getF l0 p 2 = t at *
  clear hg
  obtain ⟨n, q, er⟩ := t
  dsimp only at *
  by_cases he : er = 0
  · rw [if_pos he]
    obtain ⟨hp, -, -, hpl, hq, hn0⟩ := hok he
    obtain ⟨m, rfl⟩ := Int.eq_ofNat_of_zero_le hn0
    obtain ⟨q, rfl⟩ := Int.eq_ofNat_of_zero_le (show 0 ≤ q by omega)
    subst he
    by_cases h5 : (m : Int) ≤ l0.length - q
    · rw [if_pos h5]
      have h5' : decide ((m : Int) ≤ (l0.length : Int) - q) = true := by simpa using h5
      have h6' : decide ((q : Int) ≤ (l0.length : Int)) = true := by simp; omega
      rw [show ((q : Int) + m).toNat = q + m by omega, Int.toNat_natCast]
      clear hok hq hn0
      go_enter Try.func54, Try.ntmps54
      go_wp2_with (first | (go_at_call 53; refine HG.out.mono ?_; rintro e w1 ⟨rfl, hb1⟩; have HB1 := Aside0.mk hb1; clear hb1) | (go_at_call 89; refine (has_calls w1.heap.size A0 l0.length c0 q m _ (new_reader _ _ _ _ rfl) (by omega) (by omega)).mono ?_; rintro e w2 ⟨rfl, hd2⟩; rw [h6', h5']; have HD2 := Aside0.mk hd2; clear hd2) | fail)
      have HBw2 := Aside0.mk (drawn_below (below_alloc HB1.out (.cells #[.slice A0 l0.length c0, .int .i64 q] 144 (0, 0))) HD2.out)
      have HBL2 := Aside0.mk (drawn_blk HD2.out (new_reader A0 l0.length c0 (q : Int) rfl))
      refine (take_calls w w1.heap.size A0 c0 l0 q m w2 HBL2.out HR.out hc0 (by omega)).mono ?_
      rintro e w3 ⟨A1, c1, rfl, hc1, hr1, hd3⟩
      have hcell : w3.cell? ⟨w1.heap.size, 1, none⟩ = some (.int .i64 ((q : Int) + m)) := by rw [blk_cell (drawn_blk hd3 (blk_set HBL2.out 1 _)) 1]; rfl
      have hB3 := drawn_below (HBw2.out.setCell HB1.out.size _) hd3
      have hcv := Kd.C_string (P := Try.prog) (c := c1) (dst := 9) Try.underlying64 Try.underlying5 Try.underlying9 (Kd.C_below hr1 hB3)
      have HB3 := Aside0.mk hB3
      clear hd3 hB3 hr1
      go_wp2_with fail
      go_quiet (fail)
      go_wp2_with fail
      go_ret3
      exact ⟨rfl, pw_below_drewN HB3.out _⟩
    · rw [if_neg h5]
      have h5' : decide ((m : Int) ≤ (l0.length : Int) - q) = false := by simpa using h5
      have h6' : decide ((q : Int) ≤ (l0.length : Int)) = true := by simp; omega
      clear hok hq hn0
      go_enter Try.func54, Try.ntmps54
      go_wp2_with (first | (go_at_call 53; refine HG.out.mono ?_; rintro e w1 ⟨rfl, hb1⟩; have HB1 := Aside0.mk hb1; clear hb1) | (go_at_call 89; refine (has_calls w1.heap.size A0 l0.length c0 q m _ (new_reader _ _ _ _ rfl) (by omega) (by omega)).mono ?_; rintro e w2 ⟨rfl, hd2⟩; rw [h6', h5']; have HD2 := Aside0.mk hd2; clear hd2) | fail)
      go_ret3
      exact ⟨rfl, drawn_below (below_alloc HB1.out _) HD2.out⟩
  · rw [if_neg he]
    have he' : (er != 0) = true := by simpa using he
    clear hok
    go_enter Try.func54, Try.ntmps54
    go_wp2_with (first | (go_at_call 53; refine HG.out.mono ?_; rintro e w1 ⟨rfl, hb1⟩; have HB1 := Aside0.mk hb1; clear hb1) | fail)
    go_ret3
    exact ⟨rfl, HB1.out⟩
end Go.Proofs.Ytofegigbhohebaa.Hand
namespace Go.Proofs.Ytofegigbhohebaa.Hand
open Go.RowKit Go.Proofs.Ytofegigbhohebaa Go.Proofs.YtofegigbhohebaaW.PrintWords Go.Proofs.YtofegigbhohebaaW.PrintMore
def gazetteref01_Crc.f (l : List Int) : Option Int := wire_Crc.f l
theorem gazetteref01_Crc.calls (A0 : Option Addr) (c0 : Nat) (l0 : List Int) (r : Int) (w : World) (hr0 : Kd.C (Kd.int .u8) w A0 l0.length l0) (_hc0 : l0.length ≤ c0) (h : gazetteref01_Crc.f l0 = some r) :
    Calls Try.prog 92 #[.slice A0 l0.length c0] w fun e w' => e = .returned (.int .u32 r) ∧ Below w.heap.size w w' := by
  unfold gazetteref01_Crc.f wire_Crc.f at h
  by_cases hb : isB l0 = true
  · rw [if_pos hb] at h
    obtain rfl := Option.some.inj h
    exact refCrc_calls0 A0 c0 l0 w hr0 ((isB_iff l0).1 hb)
  · rw [if_neg hb] at h; cases h
def wire_GetText.f (l : List Int) (p : Int) : Option (ByteArray × Int × Int) := if isB l = true then some (textF l p) else none
theorem wire_GetText.calls (A0 : Option Addr) (c0 : Nat) (l0 : List Int) (a1 : Int) (r1 : ByteArray) (r2 : Int) (r3 : Int) (w : World) (hr0 : Kd.C (Kd.int .u8) w A0 l0.length l0) (hc0 : l0.length ≤ c0) (h : wire_GetText.f l0 a1 = some (r1, r2, r3)) :
    Calls Try.prog 54 #[.slice A0 l0.length c0, .int .i64 a1] w fun e w' => e = .returned (.tuple #[.string r1, .int .i64 r2, .int .i64 r3]) ∧ Below w.heap.size w w' := by
  unfold wire_GetText.f at h
  by_cases hb : isB l0 = true
  · rw [if_pos hb] at h
    have e := Option.some.inj h
    have := GetText_calls0 A0 c0 l0 a1 w hr0 hc0 ((isB_iff l0).1 hb)
    rw [e] at this
    exact this
  · rw [if_neg hb] at h; cases h
end Go.Proofs.Ytofegigbhohebaa.Hand
namespace Go.Proofs.Ytofegigbhohebaa.Hand
open Go.RowKit Go.Proofs.Ytofegigbhohebaa Go.Proofs.YtofegigbhohebaaW.PrintWords Go.Proofs.YtofegigbhohebaaW.PrintMore
/-- Slices of bytes that lie in a block, each as it reads. -/
def Segs (w : World) : List Value → List (List Int) → Prop
  | [], [] => True
  | v :: vs, l :: ls => (∃ (A : Option Addr) (c : Nat), v = Value.slice A l.length c ∧ l.length ≤ c ∧ Kd.C (Kd.int .u8) w A l.length l) ∧ Segs w vs ls
  | _, _ => False
theorem Segs.get_ {w : World} : ∀ {vs : List Value} {ls : List (List Int)}, Segs w vs ls → ∀ (j : Nat) (l : List Int), ls[j]? = some l → ∃ (A : Option Addr) (c : Nat), vs[j]? = some (Value.slice A l.length c) ∧ l.length ≤ c ∧ Kd.C (Kd.int .u8) w A l.length l
  | [], [], _, j, l, h => by simp at h
  | v :: vs, m :: ls, h, j, l, hj => by
    cases j with
    | zero =>
      simp at hj; subst hj
      obtain ⟨A, c, rfl, hc, hr⟩ := h.1
      exact ⟨A, c, rfl, hc, hr⟩
    | succ j => rw [List.getElem?_cons_succ] at hj ⊢; exact Segs.get_ h.2 j l hj
  | [], _ :: _, h, _, _, _ => h.elim
  | _ :: _, [], h, _, _, _ => h.elim
theorem Segs.C {w : World} {vs : List Value} {ls : List (List Int)} (h : Segs w vs ls) (hn : ls.length ≤ 9223372036854775807) {g : Nat} {t : TypeId} (hg : w.heap[g]? = some (.cells vs.toArray t (0, 0))) : Kd.C (Kd.slice 5 (Kd.int .u8)) w (some ⟨g, 0, none⟩) ls.length ls := by
  refine ⟨rfl, hn, fun _ => ⟨_, rfl, fun j p hj => ?_⟩⟩
  obtain ⟨A, c, hv, hc, hr⟩ := h.get_ j p hj
  refine ⟨[.slice A p.length c], rfl, ⟨A, c, rfl, hc, hr⟩, fun i u hu => ?_⟩
  have hi : i = 0 := by
    rcases Nat.eq_zero_or_pos i with h | h
    · exact h
    · rw [List.getElem?_eq_none (by simp; omega)] at hu; cases hu
  subst hi
  have hu' : Value.slice A p.length c = u := by simpa using hu
  subst hu'
  rw [show (Kd.slice 5 (Kd.int IntKind.u8)).sz = 1 from rfl, Nat.mul_one, Nat.add_zero, add_plain, blk_cell hg]
  simpa using hv
set_option maxHeartbeats 400000 in
theorem Text_calls0 (s : ByteArray) (w : World) (hs : s.size ≤ 65535) :
    Calls Try.prog 48 #[.string s] w fun e w' => ∃ v0_ : Value, e = .returned (.tuple #[v0_, .int .i64 0]) ∧ Kd.R (Kd.int .u8) 5 w' w.heap.size (fun _ => True) v0_ (lowL s.size 2 ++ bytesOf s) ∧ Below w.heap.size w w' := by
  have hs' : decide (65535 < (s.size : Int)) = false := by simp; omega
  have HL := Aside0.mk (wire_low.calls (s.size : Int) 2 (lowL s.size 2) w (by unfold wire_low.f; rw [if_pos ⟨by omega, by omega, by omega⟩]; rfl))
  have kb := fun W => print_bytes (P := Try.prog) 9 64 5 Try.underlying9 Try.underlying64 Try.underlying5 s W
  go_enter Try.func48, Try.ntmps48
  go_wp2_with (first | (go_at_call 81; refine HL.out.mono ?_; rintro e w1 ⟨v1, rfl, ho1, hb1⟩; obtain ⟨A1, c1, e1⟩ := Kd.R_slice ho1; subst e1; have HO1 := Aside0.mk ho1; have HB1 := Aside0.mk hb1; clear ho1 hb1) | fail)
  have hb2 : Below w.heap.size w (Lib.bytesWorld w1 5 s) := bytes_below HB1.out HB1.out.size 5 s
  have hb21 : Below w1.heap.size w1 (Lib.bytesWorld w1 5 s) := bytes_below (Below.refl _ _) (Nat.le_refl _) 5 s
  generalize hW : Lib.bytesWorld w1 5 s = W2 at *
  have hsegs : Segs (W2.alloc (Obj.cells #[Value.slice A1 (lowL s.size 2).length c1, Value.slice (some ⟨w1.heap.size, 0, none⟩) s.size (grownCap w1 s.size 0 5)] 64)) [Value.slice A1 (lowL s.size 2).length c1, Value.slice (some ⟨w1.heap.size, 0, none⟩) s.size (grownCap w1 s.size 0 5)] [lowL s.size 2, bytesOf s] := by
    obtain ⟨-, hc1, hr1⟩ := Kd.R_reads' HO1.out
    have hby := bytes_reads w1 5 s (by omega)
    rw [hW] at hby
    refine ⟨⟨_, _, rfl, hc1, Kd.C_alloc (Kd.C_below hr1 hb21) _⟩, ⟨_, _, by rw [bytesOf_length], by rw [bytesOf_length]; exact grownCap_ge _ _ _ _, ?_⟩, trivial⟩
    rw [bytesOf_length]
    exact Kd.C_alloc (Kd.C_of_reads hby) _
  refine (wire_join.calls (some ⟨W2.heap.size, 0, none⟩) 2 [lowL s.size 2, bytesOf s] (lowL s.size 2 ++ bytesOf s) _ (hsegs.C (by simp) (heap_alloc_new _ _)) (by simp) ?_).mono ?_
  · unfold wire_join.f
    rw [if_pos]
    · simp
    · refine ⟨?_, by simp⟩
      simp only [List.flatten_cons, List.flatten_nil, List.append_nil, List.length_append, lowL_length, bytesOf_length]; omega
  rintro e w3 ⟨v3, rfl, ho3, hb3⟩
  have HBA := Aside0.mk (below_alloc hb2 (Obj.cells #[Value.slice A1 (lowL s.size 2).length c1, Value.slice (some ⟨w1.heap.size, 0, none⟩) s.size (grownCap w1 s.size 0 5)] 64))
  have HO3 := Aside0.mk ho3
  have HB3 := Aside0.mk hb3
  clear ho3 hb3
  go_wp2_with fail
  go_ret2
  exact ⟨v3, rfl, Kd.R_lower HO3.out (HBA.out.size), below_then hb2 hb2.size (below_then (below_alloc (Below.refl _ _) _) (by simp) HB3.out)⟩
theorem Text_calls1 (s : ByteArray) (w : World) (hs : 65535 < s.size) :
    Calls Try.prog 48 #[.string s] w fun e w' => e = .returned (.tuple #[.slice none 0 0, .int .i64 6]) ∧ w = w' := by
  have hs' : decide (65535 < (s.size : Int)) = true := by simp; omega
  go_enter Try.func48, Try.ntmps48
  go_wp2_with fail
  go_ret2
  exact ⟨rfl, rfl⟩
/-- What wire.Text answers. -/
def textEnc (s : ByteArray) : List Int × Int := if 65535 < s.size then ([], 6) else (lowL s.size 2 ++ bytesOf s, 0)
def wire_Text.f (s : ByteArray) : Option (List Int × Int) := some (textEnc s)
theorem wire_Text.calls (a0 : ByteArray) (r1 : List Int) (r2 : Int) (w : World) (h : wire_Text.f a0 = some (r1, r2)) :
    Calls Try.prog 48 #[.string a0] w fun e w' => ∃ v0_ : Value, e = .returned (.tuple #[v0_, .int .i64 r2]) ∧ Kd.R (Kd.int .u8) 5 w' w.heap.size (fun _ => True) v0_ r1 ∧ Below w.heap.size w w' := by
  unfold wire_Text.f textEnc at h
  by_cases hs : 65535 < a0.size
  · rw [if_pos hs] at h
    have h := Option.some.inj h
    simp only [Prod.mk.injEq] at h
    obtain ⟨rfl, rfl⟩ := h
    refine (Text_calls1 a0 w hs).mono ?_
    rintro e w' ⟨rfl, rfl⟩
    exact ⟨_, rfl, Kd.R_nil _ _ _ _ _, Below.refl _ _⟩
  · rw [if_neg hs] at h
    have h := Option.some.inj h
    simp only [Prod.mk.injEq] at h
    obtain ⟨rfl, rfl⟩ := h
    exact Text_calls0 a0 w (by omega)
end Go.Proofs.Ytofegigbhohebaa.Hand
namespace Go.Proofs.Ytofegigbhohebaa.Hand
open Go.RowKit Go.Proofs.Ytofegigbhohebaa Go.Proofs.YtofegigbhohebaaW.PrintWords Go.Proofs.YtofegigbhohebaaW.PrintMore
theorem shl_byte (x i : Nat) (hx : x < 256) (hi : i < 6) : shl .i64 (wrap64 (x : Int)) ((8 * i : Nat) : Int) = ((x * 256 ^ i : Nat) : Int) := by
  have e : IntKind.i64.bits = 64 := rfl
  have hw : wrap64 (x : Int) = x := by unfold wrap64; omega
  unfold shl
  rw [e, Int.toNat_natCast, Nat.min_eq_left (by omega), hw, pow256]
  have h40 : 2 ^ (8 * i) ≤ 2 ^ 40 := Nat.pow_le_pow_right (by omega) (by omega)
  have hm : x * 2 ^ (8 * i) ≤ 255 * 2 ^ 40 := Nat.mul_le_mul (by omega) h40
  have ec : ((x : Int) * 2 ^ (8 * i)) = ((x * 2 ^ (8 * i) : Nat) : Int) := by rw [Int.natCast_mul, Int.natCast_pow]; rfl
  rw [ec]
  generalize x * 2 ^ (8 * i) = y at *
  rw [IntKind.wrap_i64]; omega
theorem refGet_ev (l : List Int) (hl : isBytes l) (hmax : l.length ≤ 9223372036854775807) (p size : Int) : ∃ k, P0.gazetteref01_Get.f k l p size = some (getF l p size) := by
  unfold getF P0.gazetteref01_Get.f
  by_cases h1 : size < 1
  · rw [if_pos h1]; refine ⟨1, ?_⟩; rw [if_pos h1, P0.gazetteref01_Get.j0, if_pos rfl]
  rw [if_neg h1]
  by_cases h2 : 6 < size
  · rw [if_pos h2]; refine ⟨1, ?_⟩; rw [if_neg h1, if_pos (by omega), P0.gazetteref01_Get.j0, if_pos rfl]
  rw [if_neg h2]
  by_cases h3 : p < 0
  · rw [if_pos h3]; refine ⟨1, ?_⟩; rw [if_neg h1, if_neg (by omega), P0.gazetteref01_Get.j0, if_pos (by simpa using h3)]
  rw [if_neg h3]
  have h3' : ¬ (decide (p < 0) = true) := by simpa using h3
  by_cases h4 : p ≤ l.length
  · rw [if_pos h4]
    have ew : wrap64 ((l.length : Int) - p) = l.length - p := by unfold wrap64; omega
    by_cases h5 : size ≤ l.length - p
    · rw [if_pos h5]
      obtain ⟨q, rfl⟩ := Int.eq_ofNat_of_zero_le (show 0 ≤ p by omega)
      obtain ⟨n, rfl⟩ := Int.eq_ofNat_of_zero_le (show 0 ≤ size by omega)
      rw [show ((q : Int) + n).toNat = q + n by omega, Int.toNat_natCast]
      have hlen : ((l.take (q + n)).drop q).length = n := by rw [List.length_drop, List.length_take]; omega
      have hseg : isBytes ((l.take (q + n)).drop q) := fun x hx => hl x (List.mem_of_mem_take (List.mem_of_mem_drop hx))
      have main : ∀ (d i : Nat), i + d = n → ∃ k, P0.gazetteref01_Get.l0 k l (q : Int) (n : Int) ((leN (((l.take (q + n)).drop q).take i) : Nat) : Int) (i : Int) = some ((((leN ((l.take (q + n)).drop q)) : Nat) : Int), (q : Int) + n, 0) := by
        intro d
        induction d with
        | zero =>
          intro i hi
          refine ⟨1, ?_⟩
          rw [P0.gazetteref01_Get.l0, if_neg (by omega), List.take_of_length_le (by omega)]
          have : wrap64 ((q : Int) + n) = q + n := by unfold wrap64; omega
          rw [this]
        | succ d ih =>
          intro i hi
          obtain ⟨k, hk⟩ := ih (i + 1) (by omega)
          have hs := leN_take ((l.take (q + n)).drop q) i (by omega)
          have hr : rd ((l.take (q + n)).drop q) (i : Int) = rd l ((q : Int) + i) := by
            unfold rd
            rw [show ((q : Int) + i).toNat = q + i by omega, Int.toNat_natCast, List.getD_eq_getElem?_getD, List.getD_eq_getElem?_getD, List.getElem?_drop, List.getElem?_take, if_pos (by omega)]
          have hb := rd_byte l hl ((q : Int) + i) (by omega) (by omega)
          rw [hr] at hs
          obtain ⟨x, hx⟩ := Int.eq_ofNat_of_zero_le hb.1
          rw [hx] at hs hb
          rw [Int.toNat_natCast] at hs
          have hlt : leN (((l.take (q + n)).drop q).take i) < 256 ^ i := by
            have := leN_lt (((l.take (q + n)).drop q).take i) (fun x hx => hseg x (List.mem_of_mem_take hx))
            rwa [List.length_take, Nat.min_eq_left (by omega)] at this
          have h40 : 256 ^ i ≤ 1099511627776 := Nat.le_trans (Nat.pow_le_pow_right (by omega) (show i ≤ 5 by omega)) (by decide)
          have hm : x * 256 ^ i ≤ 255 * 1099511627776 := Nat.mul_le_mul (by omega) h40
          have hlt2 : leN (((l.take (q + n)).drop q).take i) < 1099511627776 := Nat.lt_of_lt_of_le hlt h40
          clear hlt h40
          have e2 : wrap64 (((leN (((l.take (q + n)).drop q).take i) : Nat) : Int) + ((x * 256 ^ i : Nat) : Int)) = ((leN (((l.take (q + n)).drop q).take (i + 1)) : Nat) : Int) := by
            rw [hs]
            generalize x * 256 ^ i = y at *
            generalize leN (((l.take (q + n)).drop q).take i) = z at *
            unfold wrap64; omega
          clear hm hlt2
          refine ⟨k + 1, ?_⟩
          have e1 : wrap64 ((q : Int) + i) = q + i := by unfold wrap64; omega
          have f1 : (0 : Int) ≤ (q : Int) + i := Int.add_nonneg (Int.natCast_nonneg _) (Int.natCast_nonneg _)
          have f2 : (q : Int) + i < l.length := by clear hs hb hx e1 e2 hk; omega
          have f3 : (0 : Int) ≤ ((8 * i : Nat) : Int) := Int.natCast_nonneg _
          rw [P0.gazetteref01_Get.l0, if_pos (show (i : Int) < n by clear hs hb hx e1 e2 hk; omega), e1, if_pos f1, if_pos f2, wrap8 i (by omega), if_pos f3, hx, shl_byte x i (by omega) (by omega), wrap_succ i (by omega)]
          rw [e2]
          exact hk
      obtain ⟨k, hk⟩ := main n 0 (by omega)
      refine ⟨k + 1 + 1, ?_⟩
      have hk' : P0.gazetteref01_Get.l0 k l (q : Int) (n : Int) 0 0 = _ := hk
      rw [if_neg h1, if_neg (by omega), P0.gazetteref01_Get.j0, if_neg h3', if_neg (by omega), P0.gazetteref01_Get.j1, ew, if_neg (by simpa using h5)]
      exact hk'
    · rw [if_neg h5]
      refine ⟨1 + 1, ?_⟩
      rw [if_neg h1, if_neg (by omega), P0.gazetteref01_Get.j0, if_neg h3', if_neg (by omega), P0.gazetteref01_Get.j1, ew, if_pos (by simpa using h5)]
  · rw [if_neg h4]
    refine ⟨1 + 1, ?_⟩
    rw [if_neg h1, if_neg (by omega), P0.gazetteref01_Get.j0, if_neg h3', if_pos (by omega), P0.gazetteref01_Get.j1, if_pos rfl]
def gazetteref01_Get.f (l : List Int) (p size : Int) : Option (Int × Int × Int) := wire_Get.f l p size
theorem gazetteref01_Get.calls (A0 : Option Addr) (c0 : Nat) (l0 : List Int) (a1 : Int) (a2 : Int) (r1 : Int) (r2 : Int) (r3 : Int) (w : World) (hr0 : Kd.C (Kd.int .u8) w A0 l0.length l0) (hc0 : l0.length ≤ c0) (h : gazetteref01_Get.f l0 a1 a2 = some (r1, r2, r3)) :
    Calls Try.prog 56 #[.slice A0 l0.length c0, .int .i64 a1, .int .i64 a2] w fun e w' => e = .returned (.tuple #[.int .i64 r1, .int .i64 r2, .int .i64 r3]) ∧ Drawn0 w w' := by
  unfold gazetteref01_Get.f wire_Get.f at h
  by_cases hb : isB l0 = true
  · rw [if_pos hb] at h
    obtain ⟨k, hk⟩ := refGet_ev l0 ((isB_iff l0).1 hb) (Kd.C_max hr0) a1 a2
    exact P0.gazetteref01_Get.calls k A0 c0 l0 a1 a2 r1 r2 r3 w hr0 hc0 (hk.trans h)
  · rw [if_neg hb] at h; cases h
theorem ret_text {s s' : ByteArray} {a b c : Int} (h : s = s') : Ending.returned (.tuple #[.string s, .int .i64 a, .int .i64 b, .int .i64 c]) = .returned (.tuple #[.string s', .int .i64 a, .int .i64 b, .int .i64 c]) := by rw [h]
set_option maxHeartbeats 1600000 in
set_option maxRecDepth 100000 in
theorem refGetText_calls0 (A0 : Option Addr) (c0 : Nat) (l0 : List Int) (p : Int) (w : World) (hr0 : Kd.C (Kd.int .u8) w A0 l0.length l0) (hc0 : l0.length ≤ c0) (hb : isBytes l0) :
    Calls Try.prog 57 #[.slice A0 l0.length c0, .int .i64 p] w fun e w' => e = .returned (.tuple #[.string (textF l0 p).1, .int .i64 (textF l0 p).2.1, .int .i64 (textF l0 p).2.2]) ∧ Drawn0 w w' := by
  have hmax : l0.length ≤ 9223372036854775807 := Kd.C_max hr0
  have HR := Aside0.mk hr0
  have HG := Aside0.mk (gazetteref01_Get.calls A0 c0 l0 p 2 _ _ _ w hr0 hc0 (by unfold gazetteref01_Get.f wire_Get.f; rw [if_pos ((isB_iff l0).2 hb)]))
  have hok := getF_ok l0 p 2
  unfold textF
  clear hr0 hb
  generalize hg : getF l0 p 2 = t at *
  clear hg
  obtain ⟨n, q, er⟩ := t
  dsimp only at *
  by_cases he : er = 0
  · rw [if_pos he]
    obtain ⟨hp, -, -, hpl, hq, hn0⟩ := hok he
    obtain ⟨m, rfl⟩ := Int.eq_ofNat_of_zero_le hn0
    obtain ⟨q, rfl⟩ := Int.eq_ofNat_of_zero_le (show 0 ≤ q by omega)
    subst he
    by_cases h5 : (m : Int) ≤ l0.length - q
    · rw [if_pos h5]
      have h5' : decide ((l0.length : Int) - q < m) = false := by simpa using h5
      rw [show ((q : Int) + m).toNat = q + m by omega, Int.toNat_natCast]
      have hq1 : (q : Int) ≤ l0.length := by omega
      have hmid := Kd.C_mid (lo := q) (hi := q + m) HR.out (by omega) (by omega) hc0
      have hlen : ((l0.take (q + m)).drop q).length = m := by rw [List.length_drop, List.length_take]; omega
      have hmm : q + m - q = m := by omega
      clear hok hq hn0
      by_cases hcq : c0 = q
      · subst hcq
        rw [if_pos rfl] at hmid
        obtain rfl : m = 0 := by omega
        rw [hlen] at hmid
        have es : (l0.take (c0 + 0)).drop c0 = [] := List.eq_nil_of_length_eq_zero hlen
        rw [es] at hmid ⊢
        rw [show ((c0 : Int) + ((0 : Nat) : Int)) = (c0 : Int) by omega]
        clear es
        have hcv := fun W (hW : Below w.heap.size w W) => Kd.C_string (P := Try.prog) (c := 0) (dst := 9) Try.underlying64 Try.underlying5 Try.underlying9 (Kd.C_below hmid hW)
        have HCV := Aside0.mk hcv
        clear hcv hmid
        go_enter Try.func57, Try.ntmps57
        go_wp2_with (first | (go_at_call 56; refine HG.out.mono ?_; rintro e w1 ⟨rfl, ⟨nd, rfl⟩⟩; have hcv := HCV.out (w.drewN nd) (pw_below_drewN (Below.refl _ _) nd)) | fail)
        go_ret3
        exact ⟨rfl, by repeat (first | exact Drawn0.refl _ | apply Drawn0.step)⟩
      · rw [if_neg hcq, hlen, show (Kd.int IntKind.u8).sz = 1 from rfl, Nat.mul_one] at hmid
        have hcv := fun W (hW : Below w.heap.size w W) => Kd.C_string (P := Try.prog) (c := c0 - q) (dst := 9) Try.underlying64 Try.underlying5 Try.underlying9 (Kd.C_below hmid hW)
        have HCV := Aside0.mk hcv
        clear hcv hmid
        go_enter Try.func57, Try.ntmps57
        go_wp2_with (first | (go_at_call 56; refine HG.out.mono ?_; rintro e w1 ⟨rfl, ⟨nd, rfl⟩⟩; have hcv := HCV.out (w.drewN nd) (pw_below_drewN (Below.refl _ _) nd)) | fail)
        go_ret3
        exact ⟨rfl, by repeat (first | exact Drawn0.refl _ | apply Drawn0.step)⟩
    · rw [if_neg h5]
      have h5' : decide ((l0.length : Int) - q < m) = true := by simpa using h5
      have hq1 : (q : Int) ≤ l0.length := by omega
      clear hok hq hn0
      go_enter Try.func57, Try.ntmps57
      go_wp2_with (first | (go_at_call 56; refine HG.out.mono ?_; rintro e w1 ⟨rfl, ⟨nd, rfl⟩⟩) | fail)
      go_ret3
      exact ⟨rfl, by repeat (first | exact Drawn0.refl _ | apply Drawn0.step)⟩
  · rw [if_neg he]
    have he' : (er != 0) = true := by simpa using he
    clear hok
    go_enter Try.func57, Try.ntmps57
    go_wp2_with (first | (go_at_call 56; refine HG.out.mono ?_; rintro e w1 ⟨rfl, ⟨nd, rfl⟩⟩) | fail)
    go_ret3
    exact ⟨rfl, by repeat (first | exact Drawn0.refl _ | apply Drawn0.step)⟩
end Go.Proofs.Ytofegigbhohebaa.Hand
namespace Go.Proofs.Ytofegigbhohebaa.Hand
open Go.RowKit Go.Proofs.Ytofegigbhohebaa Go.Proofs.YtofegigbhohebaaW.PrintWords Go.Proofs.YtofegigbhohebaaW.PrintMore
/-- The reader in the world W: at place p. -/
structure Rdr (w0 : World) (g : Nat) (A : Option Addr) (n c : Nat) (W : World) (p : Int) : Prop where
  below : Below w0.heap.size w0 W
  blk : W.heap[g]? = some (.cells #[.slice A n c, .int .i64 p] 144 (0, 0))
theorem Rdr.new {w : World} (A : Option Addr) (n c : Nat) (p : Int) : Rdr w w.heap.size A n c (w.alloc (.cells #[.slice A n c, .int .i64 p] 144)) p := ⟨below_alloc (Below.refl _ _) _, heap_alloc_new _ _⟩
theorem Rdr.drawn {w0 W W' : World} {g n c : Nat} {A : Option Addr} {p : Int} (h : Rdr w0 g A n c W p) (d : Drawn0 W W') : Rdr w0 g A n c W' p := ⟨drawn_below h.below d, drawn_blk d h.blk⟩
theorem Rdr.set {w0 W W' : World} {g n c : Nat} {A : Option Addr} {p q : Int} (h : Rdr w0 g A n c W p) (hg : w0.heap.size ≤ g) (d : Drawn0 (W.setCell ⟨g, 1, none⟩ (.int .i64 q)) W') : Rdr w0 g A n c W' q :=
  ⟨drawn_below (h.below.setCell hg _) d, drawn_blk d (by have := blk_set h.blk 1 (.int .i64 q); simpa using this)⟩
theorem Rdr.grow {w0 W W' : World} {g n c : Nat} {A : Option Addr} {p : Int} (h : Rdr w0 g A n c W p) (hb : Below W.heap.size W W') : Rdr w0 g A n c W' p := ⟨below_then h.below h.below.size hb, (hb.block g (blk_lt h.blk)).trans h.blk⟩
theorem Rdr.at {w0 W : World} {g n c : Nat} {A : Option Addr} {p : Int} (h : Rdr w0 g A n c W p) : W.cell? ⟨g, 1, none⟩ = some (.int .i64 p) := by rw [blk_cell h.blk 1]; rfl

theorem results_tmp4 {fn : Func} {t u v x : Tmp} (h : fn.results = #[.tmp t, .tmp u, .tmp v, .tmp x]) (tmps : Array Value) (P : Program) (w : World) :
    (results fn tmps).run P w = .ok (.tuple #[tmps.getD t undef, tmps.getD u undef, tmps.getD v undef, tmps.getD x undef]) w := by
  simp [results, h, go_sem]
/-- What wire.Unframe answers. -/
def unfN (l : List Int) (p : Nat) : Int × List Int × Int × Int :=
  if 65536 < leN ((l.take (p + 5)).drop (p + 1)) then (0, [], 0, 22)
  else if p + 9 + leN ((l.take (p + 5)).drop (p + 1)) ≤ l.length then
    (if leN ((l.take (p + 9 + leN ((l.take (p + 5)).drop (p + 1)))).drop (p + 5 + leN ((l.take (p + 5)).drop (p + 1)))) = crcOf ((l.take (p + 5 + leN ((l.take (p + 5)).drop (p + 1)))).drop p)
     then (((leN ((l.take (p + 1)).drop p) : Nat) : Int), (l.take (p + 5 + leN ((l.take (p + 5)).drop (p + 1)))).drop (p + 5), ((p + 9 + leN ((l.take (p + 5)).drop (p + 1)) : Nat) : Int), 0)
     else (0, [], 0, 21))
  else (0, [], 0, 20)
def unfF (l : List Int) (p : Int) : Int × List Int × Int × Int :=
  if p < 0 then (0, [], 0, 1) else if p.toNat + 5 ≤ l.length then unfN l p.toNat else (0, [], 0, 20)
set_option maxHeartbeats 400000 in
theorem Unframe_neg (A0 : Option Addr) (c0 : Nat) (l0 : List Int) (p : Int) (w : World) (hp : p < 0) :
    Calls Try.prog 52 #[.slice A0 l0.length c0, .int .i64 p] w fun e w' => e = .returned (.tuple #[.int .i64 0, .slice none 0 0, .int .i64 0, .int .i64 1]) ∧ Below w.heap.size w w' := by
  have hp' : decide (p < 0) = true := by simpa using hp
  go_enter Try.func52, Try.ntmps52
  go_wp2_with fail
  refine bodyPost_ret (results_tmp4 rfl _ _ _) rfl ?_
  exact ⟨rfl, below_alloc (Below.refl _ _) _⟩
set_option maxHeartbeats 400000 in
theorem Unframe_short (A0 : Option Addr) (c0 : Nat) (l0 : List Int) (p : Nat) (w : World) (hmax : l0.length ≤ 9223372036854775807) (hp : l0.length < p + 5) :
    Calls Try.prog 52 #[.slice A0 l0.length c0, .int .i64 p] w fun e w' => e = .returned (.tuple #[.int .i64 0, .slice none 0 0, .int .i64 0, .int .i64 20]) ∧ Below w.heap.size w w' := by
  have hh : (decide ((p : Int) ≤ l0.length) && decide (5 ≤ (l0.length : Int) - p)) = false := by simp; omega
  have R1 := Aside0.mk (Rdr.new (w := w) A0 l0.length c0 p)
  have HH := Aside0.mk (has_calls w.heap.size A0 l0.length c0 p 5 _ R1.out.blk (by omega) hmax)
  rw [hh] at HH
  go_enter Try.func52, Try.ntmps52
  go_wp2_with (first | (go_at_call 89; refine HH.out.mono ?_; rintro e w1 ⟨rfl, hd1⟩; have HD1 := Aside0.mk hd1; clear hd1) | fail)
  refine bodyPost_ret (results_tmp4 rfl _ _ _) rfl ?_
  exact ⟨rfl, (R1.out.drawn HD1.out).below⟩
theorem has_rdr {w0 W : World} {g c : Nat} {A : Option Addr} {l : List Int} {p : Nat} (h : Rdr w0 g A l.length c W p) (hmax : l.length ≤ 9223372036854775807) (n : Int) (b : Bool) (hb : (decide ((p : Int) ≤ l.length) && decide (n ≤ (l.length : Int) - p)) = b) :
    Calls Try.prog 89 #[.pointer (some ⟨g, 0, none⟩), .int .i64 n] W fun e w' => e = .returned (.bool b) ∧ Rdr w0 g A l.length c w' p := by
  refine (has_calls g A l.length c p n W h.blk (by omega) hmax).mono ?_
  rintro e w' ⟨rfl, hd⟩
  exact ⟨by rw [hb], h.drawn hd⟩
theorem number_rdr {w0 W : World} {g c : Nat} {A : Option Addr} {l : List Int} {p : Nat} (h : Rdr w0 g A l.length c W p) (hg : w0.heap.size ≤ g) (hr : Kd.C (Kd.int .u8) w0 A l.length l) (hc : l.length ≤ c) (hb : isBytes l) (n q : Nat) (hn : n ≤ 6) (hq : q = p + n) (hpn : q ≤ l.length) :
    Calls Try.prog 90 #[.pointer (some ⟨g, 0, none⟩), .int .i64 n] W fun e w' => e = .returned (.int .i64 ((leN ((l.take q).drop p) : Nat) : Int)) ∧ Rdr w0 g A l.length c w' q ∧ ∀ k, k ≠ g → w'.heap[k]? = W.heap[k]? := by
  subst hq
  refine (number_calls w0 g A c l p n W h.below hg h.blk hr hc hpn hn hb).mono ?_
  rintro e w' ⟨rfl, hd⟩
  refine ⟨rfl, h.set hg (by rw [Int.natCast_add]; exact hd), fun k hk => ?_⟩
  obtain ⟨m, rfl⟩ := hd.out
  exact heap_setCell_other W _ k _ hk
theorem take_rdr {w0 W : World} {g c : Nat} {A : Option Addr} {l : List Int} {p : Nat} (h : Rdr w0 g A l.length c W p) (hg : w0.heap.size ≤ g) (hr : Kd.C (Kd.int .u8) w0 A l.length l) (hc : l.length ≤ c) (n q : Nat) (hq : q = p + n) (hpn : q ≤ l.length) :
    Calls Try.prog 91 #[.pointer (some ⟨g, 0, none⟩), .int .i64 n] W fun e w' => ∃ A' c', e = .returned (.slice A' n c') ∧ n ≤ c' ∧ Kd.C (Kd.int .u8) w0 A' n ((l.take q).drop p) ∧ Rdr w0 g A l.length c w' q := by
  subst hq
  refine (take_calls w0 g A c l p n W h.blk hr hc hpn).mono ?_
  rintro e w' ⟨A', c', rfl, h1, h2, hd⟩
  exact ⟨A', c', rfl, h1, h2, h.set hg (by rw [Int.natCast_add]; exact hd)⟩
set_option maxHeartbeats 1000000 in
theorem Unframe_long (A0 : Option Addr) (c0 : Nat) (l0 : List Int) (p n : Nat) (w : World) (hr0 : Kd.C (Kd.int .u8) w A0 l0.length l0) (hc0 : l0.length ≤ c0) (hb : isBytes l0) (hp : p + 5 ≤ l0.length) (hn : leN ((l0.take (p + 5)).drop (p + 1)) = n) (h1 : 65536 < n) :
    Calls Try.prog 52 #[.slice A0 l0.length c0, .int .i64 p] w fun e w' => e = .returned (.tuple #[.int .i64 0, .slice none 0 0, .int .i64 0, .int .i64 22]) ∧ Below w.heap.size w w' := by
  have hmax : l0.length ≤ 9223372036854775807 := Kd.C_max hr0
  have R1 := Aside0.mk (Rdr.new (w := w) A0 l0.length c0 p)
  have HH := Aside0.mk (has_rdr R1.out hmax 5 true (by simp; omega))
  have HN1 := Aside0.mk (fun (W : World) (h : Rdr w w.heap.size A0 l0.length c0 W p) => number_rdr h (Nat.le_refl _) hr0 hc0 hb 1 (p + 1) (by omega) rfl (by omega))
  have HN2 := Aside0.mk (fun (W : World) (h : Rdr w w.heap.size A0 l0.length c0 W (p + 1 : Nat)) => number_rdr h (Nat.le_refl _) hr0 hc0 hb 4 (p + 5) (by omega) rfl (by omega))
  rw [hn] at HN2
  have h1' : decide (65536 < (n : Int)) = true := by simp; omega
  clear hn hr0 hb
  go_enter Try.func52, Try.ntmps52
  go_wp2_with (first | (go_at_call 89; refine HH.out.mono ?_; rintro e w1 ⟨rfl, hd1⟩; have HD1 := Aside0.mk hd1; clear hd1) | fail)
  refine (HN1.out w1 HD1.out).mono ?_
  rintro e w2 ⟨rfl, hd2, -⟩
  have HD2 := Aside0.mk hd2
  clear hd2
  go_wp2_with fail
  refine (HN2.out w2 HD2.out).mono ?_
  rintro e w3 ⟨rfl, hd3, -⟩
  have HD3 := Aside0.mk hd3
  clear hd3
  go_wp2_with fail
  refine bodyPost_ret (results_tmp4 rfl _ _ _) rfl ?_
  exact ⟨rfl, HD3.out.below⟩
set_option maxHeartbeats 1000000 in
theorem Unframe_cut (A0 : Option Addr) (c0 : Nat) (l0 : List Int) (p n : Nat) (w : World) (hr0 : Kd.C (Kd.int .u8) w A0 l0.length l0) (hc0 : l0.length ≤ c0) (hb : isBytes l0) (hp : p + 5 ≤ l0.length) (hn : leN ((l0.take (p + 5)).drop (p + 1)) = n) (h1 : n ≤ 65536) (h2 : l0.length < p + 9 + n) :
    Calls Try.prog 52 #[.slice A0 l0.length c0, .int .i64 p] w fun e w' => e = .returned (.tuple #[.int .i64 0, .slice none 0 0, .int .i64 0, .int .i64 20]) ∧ Below w.heap.size w w' := by
  have hmax : l0.length ≤ 9223372036854775807 := Kd.C_max hr0
  have R1 := Aside0.mk (Rdr.new (w := w) A0 l0.length c0 p)
  have HH := Aside0.mk (has_rdr R1.out hmax 5 true (by simp; omega))
  have HN1 := Aside0.mk (fun (W : World) (h : Rdr w w.heap.size A0 l0.length c0 W p) => number_rdr h (Nat.le_refl _) hr0 hc0 hb 1 (p + 1) (by omega) rfl (by omega))
  have HN2 := Aside0.mk (fun (W : World) (h : Rdr w w.heap.size A0 l0.length c0 W (p + 1 : Nat)) => number_rdr h (Nat.le_refl _) hr0 hc0 hb 4 (p + 5) (by omega) rfl (by omega))
  have HH2 := Aside0.mk (fun (W : World) (h : Rdr w w.heap.size A0 l0.length c0 W (p + 5 : Nat)) => has_rdr h hmax ((n : Int) + 4) false (by simp; omega))
  rw [hn] at HN2
  have h1' : decide (65536 < (n : Int)) = false := by simp; omega
  clear hn hr0 hb
  go_enter Try.func52, Try.ntmps52
  go_wp2_with (first | (go_at_call 89; refine HH.out.mono ?_; rintro e w1 ⟨rfl, hd1⟩; have HD1 := Aside0.mk hd1; clear hd1) | fail)
  refine (HN1.out w1 HD1.out).mono ?_
  rintro e w2 ⟨rfl, hd2, -⟩
  have HD2 := Aside0.mk hd2
  clear hd2
  go_wp2_with fail
  refine (HN2.out w2 HD2.out).mono ?_
  rintro e w3 ⟨rfl, hd3, -⟩
  have HD3 := Aside0.mk hd3
  clear hd3
  go_wp2_with fail
  refine (HH2.out w3 HD3.out).mono ?_
  rintro e w4 ⟨rfl, hd4⟩
  have HD4 := Aside0.mk hd4
  clear hd4
  go_wp2_with fail
  refine bodyPost_ret (results_tmp4 rfl _ _ _) rfl ?_
  exact ⟨rfl, HD4.out.below⟩
theorem Segs.one {W : World} {A : Option Addr} {n c : Nat} {l : List Int} (h : l.length = n) (hc : n ≤ c) (hr : Kd.C (Kd.int .u8) W A l.length l) : Segs W [Value.slice A n c] [l] := by
  subst h
  exact ⟨⟨A, c, rfl, hc, hr⟩, trivial⟩
theorem crcOf_lt (l : List Int) (h : isBytes l) : crcOf l < 4294967296 := Nat.xor_lt_two_pow (n := 32) (by decide) (crcL_lt _ _ (by decide) h)
theorem Crc_at {A : Option Addr} {c m : Nat} {l : List Int} {W : World} (hm : l.length = m) (hr : Kd.C (Kd.int .u8) W A l.length l) (hb : isBytes l) :
    Calls Try.prog 83 #[.slice A m c] W fun e w' => e = .returned (.int .u32 ((crcOf l : Nat) : Int)) ∧ Below W.heap.size W w' := by
  subst hm
  exact Crc_calls0 A c l W hr hb
set_option maxHeartbeats 1000000 in
theorem Unframe_good (A0 : Option Addr) (c0 : Nat) (l0 : List Int) (p n k : Nat) (w : World) (hr0 : Kd.C (Kd.int .u8) w A0 l0.length l0) (hc0 : l0.length ≤ c0) (hb : isBytes l0) (hn : leN ((l0.take (p + 5)).drop (p + 1)) = n) (hk : leN ((l0.take (p + 1)).drop p) = k) (h1 : n ≤ 65536) (h2 : p + 9 + n ≤ l0.length)
    (hs : leN ((l0.take (p + 9 + n)).drop (p + 5 + n)) = crcOf ((l0.take (p + 5 + n)).drop p)) :
    Calls Try.prog 52 #[.slice A0 l0.length c0, .int .i64 p] w fun e w' => ∃ v0_ : Value, e = .returned (.tuple #[.int .i64 k, v0_, .int .i64 ((p + 9 + n : Nat) : Int), .int .i64 0]) ∧ Kd.R (Kd.int .u8) 5 w' w.heap.size (fun _ => True) v0_ ((l0.take (p + 5 + n)).drop (p + 5)) ∧ Below w.heap.size w w' := by
  have hmax : l0.length ≤ 9223372036854775807 := Kd.C_max hr0
  have R1 := Aside0.mk (Rdr.new (w := w) A0 l0.length c0 p)
  have HH := Aside0.mk (has_rdr R1.out hmax 5 true (by simp; omega))
  have HN1 := Aside0.mk (fun (W : World) (h : Rdr w w.heap.size A0 l0.length c0 W p) => number_rdr h (Nat.le_refl _) hr0 hc0 hb 1 (p + 1) (by omega) rfl (by omega))
  have HN2 := Aside0.mk (fun (W : World) (h : Rdr w w.heap.size A0 l0.length c0 W (p + 1 : Nat)) => number_rdr h (Nat.le_refl _) hr0 hc0 hb 4 (p + 5) (by omega) rfl (by omega))
  have HH2 := Aside0.mk (fun (W : World) (h : Rdr w w.heap.size A0 l0.length c0 W (p + 5 : Nat)) => has_rdr h hmax ((n : Int) + 4) true (by simp; omega))
  have HT := Aside0.mk (fun (W : World) (h : Rdr w w.heap.size A0 l0.length c0 W (p + 5 : Nat)) => take_rdr h (Nat.le_refl _) hr0 hc0 n (p + 5 + n) rfl (by omega))
  have HN3 := Aside0.mk (fun (W : World) (h : Rdr w w.heap.size A0 l0.length c0 W (p + 5 + n : Nat)) => number_rdr h (Nat.le_refl _) hr0 hc0 hb 4 (p + 9 + n) (by omega) (by omega) h2)
  have hmid := Kd.C_mid (lo := p) (hi := p + 5 + n) hr0 (by omega) (by omega) hc0
  have hlen : ((l0.take (p + 5 + n)).drop p).length = n + 5 := by rw [List.length_drop, List.length_take]; omega
  have hlen2 : ((l0.take (p + 5 + n)).drop (p + 5)).length = n := by rw [List.length_drop, List.length_take]; omega
  have hb3 : isBytes ((l0.take (p + 5 + n)).drop p) := fun x hx => hb x (List.mem_of_mem_take (List.mem_of_mem_drop hx))
  rw [if_neg (by omega), show (Kd.int IntKind.u8).sz = 1 from rfl, Nat.mul_one] at hmid
  have HC := Aside0.mk (fun (W : World) (h : Below w.heap.size w W) => Crc_at (A := A0.map (·.add p)) (c := c0 - p) (m := p + 5 + n - p) (by omega) (Kd.C_below hmid h) hb3)
  have hcrc := crcOf_lt _ hb3
  have HJ := Aside0.mk (fun (W : World) (A1 : Option Addr) (c1 : Nat) (hc1 : n ≤ c1) (hr : Kd.C (Kd.int .u8) W A1 n ((l0.take (p + 5 + n)).drop (p + 5))) =>
    wire_join.calls (some ⟨W.heap.size, 0, none⟩) 1 [(l0.take (p + 5 + n)).drop (p + 5)] ((l0.take (p + 5 + n)).drop (p + 5)) (W.alloc (.cells #[.slice A1 n c1] 64))
      (Segs.C (vs := [.slice A1 n c1]) (Segs.one (by rw [hlen2]) (by omega) (by rw [hlen2]; exact Kd.C_alloc hr _)) (by simp) (heap_alloc_new _ _)) (by simp)
      (by unfold wire_join.f; rw [if_pos ⟨by simp only [List.flatten_cons, List.flatten_nil, List.append_nil, hlen2]; omega, by simp⟩]; simp))
  rw [hn] at HN2
  rw [hk] at HN1
  rw [hs] at HN3
  have h1' : decide (65536 < (n : Int)) = false := by simp; omega
  have HL := Aside0.mk hlen
  clear hn hr0 hb hk hs hmid hlen hlen2 hb3
  generalize hseg : (l0.take (p + 5 + n)).drop (p + 5) = seg at *
  generalize hfr : (l0.take (p + 5 + n)).drop p = fr at *
  clear hseg hfr
  generalize crcOf fr = crc at *
  clear HL
  go_enter Try.func52, Try.ntmps52
  go_wp2_with (first | (go_at_call 89; refine HH.out.mono ?_; rintro e w1 ⟨rfl, hd1⟩; have HD1 := Aside0.mk hd1; clear hd1) | fail)
  refine (HN1.out w1 HD1.out).mono ?_
  rintro e w2 ⟨rfl, hd2, -⟩
  have HD2 := Aside0.mk hd2
  clear hd2
  go_wp2_with fail
  refine (HN2.out w2 HD2.out).mono ?_
  rintro e w3 ⟨rfl, hd3, -⟩
  have HD3 := Aside0.mk hd3
  clear hd3
  go_wp2_with fail
  refine (HH2.out w3 HD3.out).mono ?_
  rintro e w4 ⟨rfl, hd4⟩
  have HD4 := Aside0.mk hd4
  clear hd4
  go_wp2_with fail
  refine (HT.out w4 HD4.out).mono ?_
  rintro e w5 ⟨A1, c1, rfl, hc1, hr1, hd5⟩
  have HD5 := Aside0.mk hd5
  have HR5 := Aside0.mk (Kd.C_below hr1 hd5.below)
  clear hd5 hr1
  go_wp2_with fail
  refine (HJ.out w5 A1 c1 hc1 HR5.out).mono ?_
  rintro e w6 ⟨v6, rfl, ho6, hb6⟩
  have hsz5 : w.heap.size < (w5.alloc (Obj.cells #[Value.slice A1 n c1] 64)).heap.size := Nat.lt_of_lt_of_le (blk_lt HD5.out.blk) (below_alloc (Below.refl _ _) _).size
  have HO6 := Aside0.mk (Kd.R_lower (Kd.R_mono (ok' := fun k => k ≠ w.heap.size) (Kd.R_bound ho6) (fun k hk => by omega)) (Nat.le_of_lt hsz5))
  have HD6 := Aside0.mk (HD5.out.grow (below_then (below_alloc (Below.refl _ _) _) (by simp) hb6))
  clear ho6 hb6
  have hcell := HD6.out.at
  go_wp2_with fail
  refine (HC.out w6 HD6.out.below).mono ?_
  rintro e w7 ⟨rfl, hb7⟩
  have HO7 := Aside0.mk (Kd.R_below HO6.out hb7)
  have HD7 := Aside0.mk (HD6.out.grow hb7)
  clear hb7 hcell
  go_wp2_with fail
  refine (HN3.out w7 HD7.out).mono ?_
  rintro e w8 ⟨rfl, hd8, hk8⟩
  have HD8 := Aside0.mk hd8
  have HO8 := Aside0.mk (Kd.R_mono (ok' := fun _ => True) (Kd.R_move HO7.out hk8) (fun _ _ => trivial))
  clear hd8 hk8
  have hcell := HD8.out.at
  go_wp2_with fail
  go_quiet (fail)
  go_wp2_with fail
  refine bodyPost_ret (results_tmp4 rfl _ _ _) rfl ?_
  exact ⟨v6, rfl, Kd.R_below HO8.out (pw_below_drewN (Below.refl _ _) _), pw_below_drewN HD8.out.below _⟩
set_option maxHeartbeats 1000000 in
theorem Unframe_sum (A0 : Option Addr) (c0 : Nat) (l0 : List Int) (p n k s : Nat) (w : World) (hr0 : Kd.C (Kd.int .u8) w A0 l0.length l0) (hc0 : l0.length ≤ c0) (hb : isBytes l0) (hn : leN ((l0.take (p + 5)).drop (p + 1)) = n) (hk : leN ((l0.take (p + 1)).drop p) = k) (h1 : n ≤ 65536) (h2 : p + 9 + n ≤ l0.length)
    (hs : leN ((l0.take (p + 9 + n)).drop (p + 5 + n)) = s) (hsc : s ≠ crcOf ((l0.take (p + 5 + n)).drop p)) :
    Calls Try.prog 52 #[.slice A0 l0.length c0, .int .i64 p] w fun e w' => e = .returned (.tuple #[.int .i64 0, .slice none 0 0, .int .i64 0, .int .i64 21]) ∧ Below w.heap.size w w' := by
  have hmax : l0.length ≤ 9223372036854775807 := Kd.C_max hr0
  have R1 := Aside0.mk (Rdr.new (w := w) A0 l0.length c0 p)
  have HH := Aside0.mk (has_rdr R1.out hmax 5 true (by simp; omega))
  have HN1 := Aside0.mk (fun (W : World) (h : Rdr w w.heap.size A0 l0.length c0 W p) => number_rdr h (Nat.le_refl _) hr0 hc0 hb 1 (p + 1) (by omega) rfl (by omega))
  have HN2 := Aside0.mk (fun (W : World) (h : Rdr w w.heap.size A0 l0.length c0 W (p + 1 : Nat)) => number_rdr h (Nat.le_refl _) hr0 hc0 hb 4 (p + 5) (by omega) rfl (by omega))
  have HH2 := Aside0.mk (fun (W : World) (h : Rdr w w.heap.size A0 l0.length c0 W (p + 5 : Nat)) => has_rdr h hmax ((n : Int) + 4) true (by simp; omega))
  have HT := Aside0.mk (fun (W : World) (h : Rdr w w.heap.size A0 l0.length c0 W (p + 5 : Nat)) => take_rdr h (Nat.le_refl _) hr0 hc0 n (p + 5 + n) rfl (by omega))
  have HN3 := Aside0.mk (fun (W : World) (h : Rdr w w.heap.size A0 l0.length c0 W (p + 5 + n : Nat)) => number_rdr h (Nat.le_refl _) hr0 hc0 hb 4 (p + 9 + n) (by omega) (by omega) h2)
  have hmid := Kd.C_mid (lo := p) (hi := p + 5 + n) hr0 (by omega) (by omega) hc0
  have hlen : ((l0.take (p + 5 + n)).drop p).length = n + 5 := by rw [List.length_drop, List.length_take]; omega
  have hlen2 : ((l0.take (p + 5 + n)).drop (p + 5)).length = n := by rw [List.length_drop, List.length_take]; omega
  have hb3 : isBytes ((l0.take (p + 5 + n)).drop p) := fun x hx => hb x (List.mem_of_mem_take (List.mem_of_mem_drop hx))
  rw [if_neg (by omega), show (Kd.int IntKind.u8).sz = 1 from rfl, Nat.mul_one] at hmid
  have HC := Aside0.mk (fun (W : World) (h : Below w.heap.size w W) => Crc_at (A := A0.map (·.add p)) (c := c0 - p) (m := p + 5 + n - p) (by omega) (Kd.C_below hmid h) hb3)
  have hcrc := crcOf_lt _ hb3
  have HJ := Aside0.mk (fun (W : World) (A1 : Option Addr) (c1 : Nat) (hc1 : n ≤ c1) (hr : Kd.C (Kd.int .u8) W A1 n ((l0.take (p + 5 + n)).drop (p + 5))) =>
    wire_join.calls (some ⟨W.heap.size, 0, none⟩) 1 [(l0.take (p + 5 + n)).drop (p + 5)] ((l0.take (p + 5 + n)).drop (p + 5)) (W.alloc (.cells #[.slice A1 n c1] 64))
      (Segs.C (vs := [.slice A1 n c1]) (Segs.one (by rw [hlen2]) (by omega) (by rw [hlen2]; exact Kd.C_alloc hr _)) (by simp) (heap_alloc_new _ _)) (by simp)
      (by unfold wire_join.f; rw [if_pos ⟨by simp only [List.flatten_cons, List.flatten_nil, List.append_nil, hlen2]; omega, by simp⟩]; simp))
  rw [hn] at HN2
  rw [hk] at HN1
  rw [hs] at HN3
  have h1' : decide (65536 < (n : Int)) = false := by simp; omega
  have HL := Aside0.mk hlen
  clear hn hr0 hb hk hs hmid hlen hlen2 hb3
  generalize hseg : (l0.take (p + 5 + n)).drop (p + 5) = seg at *
  generalize hfr : (l0.take (p + 5 + n)).drop p = fr at *
  clear hseg hfr
  generalize crcOf fr = crc at *
  have hne : ((s : Int) != (crc : Int)) = true := by rw [bne_iff_ne]; omega
  clear hsc
  clear HL
  go_enter Try.func52, Try.ntmps52
  go_wp2_with (first | (go_at_call 89; refine HH.out.mono ?_; rintro e w1 ⟨rfl, hd1⟩; have HD1 := Aside0.mk hd1; clear hd1) | fail)
  refine (HN1.out w1 HD1.out).mono ?_
  rintro e w2 ⟨rfl, hd2, -⟩
  have HD2 := Aside0.mk hd2
  clear hd2
  go_wp2_with fail
  refine (HN2.out w2 HD2.out).mono ?_
  rintro e w3 ⟨rfl, hd3, -⟩
  have HD3 := Aside0.mk hd3
  clear hd3
  go_wp2_with fail
  refine (HH2.out w3 HD3.out).mono ?_
  rintro e w4 ⟨rfl, hd4⟩
  have HD4 := Aside0.mk hd4
  clear hd4
  go_wp2_with fail
  refine (HT.out w4 HD4.out).mono ?_
  rintro e w5 ⟨A1, c1, rfl, hc1, hr1, hd5⟩
  have HD5 := Aside0.mk hd5
  have HR5 := Aside0.mk (Kd.C_below hr1 hd5.below)
  clear hd5 hr1
  go_wp2_with fail
  refine (HJ.out w5 A1 c1 hc1 HR5.out).mono ?_
  rintro e w6 ⟨v6, rfl, -, hb6⟩
  have HD6 := Aside0.mk (HD5.out.grow (below_then (below_alloc (Below.refl _ _) _) (by simp) hb6))
  clear hb6
  have hcell := HD6.out.at
  go_wp2_with fail
  refine (HC.out w6 HD6.out.below).mono ?_
  rintro e w7 ⟨rfl, hb7⟩
  have HD7 := Aside0.mk (HD6.out.grow hb7)
  clear hb7 hcell
  go_wp2_with fail
  refine (HN3.out w7 HD7.out).mono ?_
  rintro e w8 ⟨rfl, hd8, -⟩
  have HD8 := Aside0.mk hd8
  clear hd8
  have hcell := HD8.out.at
  go_wp2_with fail
  refine bodyPost_ret (results_tmp4 rfl _ _ _) rfl ?_
  exact ⟨rfl, HD8.out.below⟩
def wire_Unframe.f (l : List Int) (p : Int) : Option (Int × List Int × Int × Int) := if isB l = true then some (unfF l p) else none
theorem wire_Unframe.calls (A0 : Option Addr) (c0 : Nat) (l0 : List Int) (a1 : Int) (r1 : Int) (r2 : List Int) (r3 : Int) (r4 : Int) (w : World) (hr0 : Kd.C (Kd.int .u8) w A0 l0.length l0) (hc0 : l0.length ≤ c0) (h : wire_Unframe.f l0 a1 = some (r1, r2, r3, r4)) :
    Calls Try.prog 52 #[.slice A0 l0.length c0, .int .i64 a1] w fun e w' => ∃ v1_ : Value, e = .returned (.tuple #[.int .i64 r1, v1_, .int .i64 r3, .int .i64 r4]) ∧ Kd.R (Kd.int .u8) 5 w' w.heap.size (fun _ => True) v1_ r2 ∧ Below w.heap.size w w' := by
  unfold wire_Unframe.f at h
  by_cases hb : isB l0 = true
  · rw [if_pos hb] at h
    have h := Option.some.inj h
    have hb' := (isB_iff l0).1 hb
    have hmax := Kd.C_max hr0
    have low : ∀ {e : Ending} {w' : World} (x : Int), e = .returned (.tuple #[.int .i64 0, .slice none 0 0, .int .i64 0, .int .i64 x]) ∧ Below w.heap.size w w' → ∃ v1_ : Value, e = .returned (.tuple #[.int .i64 0, v1_, .int .i64 0, .int .i64 x]) ∧ Kd.R (Kd.int .u8) 5 w' w.heap.size (fun _ => True) v1_ [] ∧ Below w.heap.size w w' :=
      fun x ⟨he, hw⟩ => ⟨_, he, Kd.R_nil _ _ _ _ _, hw⟩
    unfold unfF at h
    by_cases h1 : a1 < 0
    · rw [if_pos h1] at h
      simp only [Prod.mk.injEq] at h
      obtain ⟨rfl, rfl, rfl, rfl⟩ := h
      exact (Unframe_neg A0 c0 l0 a1 w h1).mono fun e w' hh => low 1 hh
    · rw [if_neg h1] at h
      obtain ⟨p, rfl⟩ := Int.eq_ofNat_of_zero_le (show 0 ≤ a1 by omega)
      rw [Int.toNat_natCast] at h
      by_cases h2 : p + 5 ≤ l0.length
      · rw [if_pos h2] at h
        unfold unfN at h
        by_cases h3 : 65536 < leN ((l0.take (p + 5)).drop (p + 1))
        · rw [if_pos h3] at h
          simp only [Prod.mk.injEq] at h
          obtain ⟨rfl, rfl, rfl, rfl⟩ := h
          exact (Unframe_long A0 c0 l0 p _ w hr0 hc0 hb' h2 rfl h3).mono fun e w' hh => low 22 hh
        · rw [if_neg h3] at h
          by_cases h4 : p + 9 + leN ((l0.take (p + 5)).drop (p + 1)) ≤ l0.length
          · rw [if_pos h4] at h
            by_cases h5 : leN ((l0.take (p + 9 + leN ((l0.take (p + 5)).drop (p + 1)))).drop (p + 5 + leN ((l0.take (p + 5)).drop (p + 1)))) = crcOf ((l0.take (p + 5 + leN ((l0.take (p + 5)).drop (p + 1)))).drop p)
            · rw [if_pos h5] at h
              simp only [Prod.mk.injEq] at h
              obtain ⟨rfl, rfl, rfl, rfl⟩ := h
              exact Unframe_good A0 c0 l0 p _ _ w hr0 hc0 hb' rfl rfl (by omega) h4 h5
            · rw [if_neg h5] at h
              simp only [Prod.mk.injEq] at h
              obtain ⟨rfl, rfl, rfl, rfl⟩ := h
              exact (Unframe_sum A0 c0 l0 p _ _ _ w hr0 hc0 hb' rfl rfl (by omega) h4 rfl h5).mono fun e w' hh => low 21 hh
          · rw [if_neg h4] at h
            simp only [Prod.mk.injEq] at h
            obtain ⟨rfl, rfl, rfl, rfl⟩ := h
            exact (Unframe_cut A0 c0 l0 p _ w hr0 hc0 hb' h2 rfl (by omega) (by omega)).mono fun e w' hh => low 20 hh
      · rw [if_neg h2] at h
        simp only [Prod.mk.injEq] at h
        obtain ⟨rfl, rfl, rfl, rfl⟩ := h
        exact (Unframe_short A0 c0 l0 p w hmax (by omega)).mono fun e w' hh => low 20 hh
  · rw [if_neg hb] at h; cases h
end Go.Proofs.Ytofegigbhohebaa.Hand
namespace Go.Proofs.Ytofegigbhohebaa.Hand
open Go.RowKit Go.Proofs.Ytofegigbhohebaa Go.Proofs.YtofegigbhohebaaW.PrintWords Go.Proofs.YtofegigbhohebaaW.PrintMore
def gazetteref01_GetText.f (l : List Int) (p : Int) : Option (ByteArray × Int × Int) := wire_GetText.f l p
theorem gazetteref01_GetText.calls (A0 : Option Addr) (c0 : Nat) (l0 : List Int) (a1 : Int) (r1 : ByteArray) (r2 : Int) (r3 : Int) (w : World) (hr0 : Kd.C (Kd.int .u8) w A0 l0.length l0) (hc0 : l0.length ≤ c0) (h : gazetteref01_GetText.f l0 a1 = some (r1, r2, r3)) :
    Calls Try.prog 57 #[.slice A0 l0.length c0, .int .i64 a1] w fun e w' => e = .returned (.tuple #[.string r1, .int .i64 r2, .int .i64 r3]) ∧ Drawn0 w w' := by
  unfold gazetteref01_GetText.f wire_GetText.f at h
  by_cases hb : isB l0 = true
  · rw [if_pos hb] at h
    have e := Option.some.inj h
    have := refGetText_calls0 A0 c0 l0 a1 w hr0 hc0 ((isB_iff l0).1 hb)
    rw [e] at this
    exact this
  · rw [if_neg hb] at h; cases h
end Go.Proofs.Ytofegigbhohebaa.Hand
namespace Go.Proofs.Ytofegigbhohebaa.Hand
open Go.RowKit Go.Proofs.Ytofegigbhohebaa Go.Proofs.YtofegigbhohebaaW.PrintWords Go.Proofs.YtofegigbhohebaaW.PrintMore
/-- A frame ahead of its sum. -/
def frameB (kind : Int) (body : List Int) : List Int := kind :: (lowL body.length 4 ++ body)
/-- What wire.Frame answers. -/
def frameF (kind : Int) (body : List Int) : List Int × Int :=
  if kind < 0 then ([], 1) else if 255 < kind then ([], 1) else if 65536 < body.length then ([], 6) else (frameB kind body ++ lowL (crcOf (frameB kind body)) 4, 0)
theorem frameB_bytes {kind : Int} {body : List Int} (h0 : 0 ≤ kind) (h1 : kind ≤ 255) (hb : isBytes body) : isBytes (frameB kind body) := by
  intro x hx
  rcases List.mem_cons.1 hx with rfl | hx
  · exact ⟨h0, h1⟩
  · exact isBytes_append (lowL_bytes _ _) hb x hx
theorem frameB_length (kind : Int) (body : List Int) : (frameB kind body).length = body.length + 5 := by simp [frameB, lowL_length]; omega
theorem Segs.two {W : World} {A1 A2 : Option Addr} {n1 c1 n2 c2 : Nat} {l1 l2 : List Int} (h1 : l1.length = n1) (hc1 : n1 ≤ c1) (hr1 : Kd.C (Kd.int .u8) W A1 l1.length l1) (h2 : l2.length = n2) (hc2 : n2 ≤ c2) (hr2 : Kd.C (Kd.int .u8) W A2 l2.length l2) : Segs W [Value.slice A1 n1 c1, Value.slice A2 n2 c2] [l1, l2] := by
  subst h1 h2
  exact ⟨⟨A1, c1, rfl, hc1, hr1⟩, ⟨A2, c2, rfl, hc2, hr2⟩, trivial⟩
theorem Segs.three {W : World} {A1 A2 A3 : Option Addr} {n1 c1 n2 c2 n3 c3 : Nat} {l1 l2 l3 : List Int} (h1 : l1.length = n1) (hc1 : n1 ≤ c1) (hr1 : Kd.C (Kd.int .u8) W A1 l1.length l1) (h2 : l2.length = n2) (hc2 : n2 ≤ c2) (hr2 : Kd.C (Kd.int .u8) W A2 l2.length l2) (h3 : l3.length = n3) (hc3 : n3 ≤ c3) (hr3 : Kd.C (Kd.int .u8) W A3 l3.length l3) : Segs W [Value.slice A1 n1 c1, Value.slice A2 n2 c2, Value.slice A3 n3 c3] [l1, l2, l3] := by
  subst h1 h2 h3
  exact ⟨⟨A1, c1, rfl, hc1, hr1⟩, ⟨A2, c2, rfl, hc2, hr2⟩, ⟨A3, c3, rfl, hc3, hr3⟩, trivial⟩
theorem C_single {W : World} {g : Nat} {t : TypeId} {k : Int} (hg : W.heap[g]? = some (.cells #[.int .u8 k] t (0, 0))) : Kd.C (Kd.int .u8) W (some ⟨g, 0, none⟩) 1 [k] := by
  refine ⟨rfl, by omega, fun _ => ⟨_, rfl, fun j p hj => ?_⟩⟩
  obtain ⟨rfl, rfl⟩ : j = 0 ∧ p = k := by
    cases j with
    | zero => exact ⟨rfl, by simpa using hj.symm⟩
    | succ j => simp at hj
  refine ⟨[.int .u8 p], rfl, rfl, fun i u hu => ?_⟩
  obtain ⟨rfl, rfl⟩ : i = 0 ∧ u = .int .u8 p := by
    cases i with
    | zero => exact ⟨rfl, by simpa using hu.symm⟩
    | succ i => simp at hu
  rw [show (Kd.int IntKind.u8).sz = 1 from rfl, add_plain, blk_cell hg]; rfl
theorem join_segs {W : World} {vs : List Value} {ls : List (List Int)} {g : Nat} {t : TypeId} (n : Nat) (h : Segs W vs ls) (hg : W.heap[g]? = some (.cells vs.toArray t (0, 0))) (hn : ls.length = n) (hf : ls.flatten.length < 140737488355328) (hl : n < 4611686018427387904) :
    Calls Try.prog 82 #[.slice (some ⟨g, 0, none⟩) n n] W fun e w' => ∃ v0_ : Value, e = .returned (v0_) ∧ Kd.R (Kd.int .u8) 5 w' W.heap.size (fun _ => True) v0_ ls.flatten ∧ Below W.heap.size W w' := by
  subst hn
  exact wire_join.calls _ _ ls _ W (h.C (by omega) hg) (Nat.le_refl _) (by unfold wire_join.f; rw [if_pos ⟨hf, hl⟩])
set_option maxHeartbeats 1000000 in
theorem Frame_good (kind : Int) (A1 : Option Addr) (c1 : Nat) (l1 : List Int) (w : World) (hr1 : Kd.C (Kd.int .u8) w A1 l1.length l1) (hc1 : l1.length ≤ c1) (hb : isBytes l1) (h0 : 0 ≤ kind) (h1 : kind ≤ 255) (hl : l1.length ≤ 65536) :
    Calls Try.prog 49 #[.int .i64 kind, .slice A1 l1.length c1] w fun e w' => ∃ v0_ : Value, e = .returned (.tuple #[v0_, .int .i64 0]) ∧ Kd.R (Kd.int .u8) 5 w' w.heap.size (fun _ => True) v0_ (frameB kind l1 ++ lowL (crcOf (frameB kind l1)) 4) ∧ Below w.heap.size w w' := by
  have h0' : decide (kind < 0) = false := by simpa using h0
  have h1' : decide (255 < kind) = false := by simpa using h1
  have hl' : decide (65536 < (l1.length : Int)) = false := by simp; omega
  have hbb := frameB_bytes h0 h1 hb
  have hblen := frameB_length kind l1
  have hcrc := crcOf_lt _ hbb
  have HR1 := Aside0.mk hr1
  have HL1 := Aside0.mk (fun W => wire_low.calls (l1.length : Int) 4 (lowL l1.length 4) W (by unfold wire_low.f; rw [if_pos ⟨by omega, by omega, by omega⟩]; rfl))
  have HL2 := Aside0.mk (fun W => wire_low.calls ((crcOf (frameB kind l1) : Nat) : Int) 4 (lowL (crcOf (frameB kind l1)) 4) W (by unfold wire_low.f; rw [if_pos ⟨by omega, by omega, by omega⟩]; rfl))
  have HBB := Aside0.mk hbb
  have HBL := Aside0.mk hblen
  clear hr1 hbb hblen
  go_enter Try.func49, Try.ntmps49
  go_wp2_with fail
  refine (HL1.out _).mono ?_
  rintro e w2 ⟨v2, rfl, ho2, hb2⟩
  obtain ⟨A2, c2, e2⟩ := Kd.R_slice ho2
  subst e2
  have HO2 := Aside0.mk ho2
  have HB2 := Aside0.mk hb2
  clear ho2 hb2
  go_wp2_with fail
  have hbw2 : Below w.heap.size w w2 := below_then (below_alloc (Below.refl _ _) (.cells #[.int .u8 kind] 5)) (by simp) HB2.out
  have hk2 : w2.heap[w.heap.size]? = some (.cells #[.int .u8 kind] 5 (0, 0)) := (HB2.out.block _ (by simp)).trans (heap_alloc_new _ _)
  have hr2 := Kd.R_reads' HO2.out
  have HBW2 := Aside0.mk hbw2
  refine (join_segs 3 (Segs.three (l1 := [kind]) (l2 := lowL l1.length 4) (l3 := l1) rfl (Nat.le_refl _) (Kd.C_alloc (C_single hk2) _) rfl hr2.2.1 (Kd.C_alloc hr2.2.2 _) rfl hc1 (Kd.C_alloc (Kd.C_below HR1.out hbw2) _)) (heap_alloc_new _ _) rfl (by simp [lowL_length]; omega) (by omega)).mono ?_
  rintro e w3 ⟨v3, rfl, ho3, hb3⟩
  rw [show [[kind], lowL l1.length 4, l1].flatten = frameB kind l1 by simp [frameB]] at ho3
  obtain ⟨A3, c3, e3⟩ := Kd.R_slice ho3
  subst e3
  have HB3 := Aside0.mk (below_then (below_then hbw2 hbw2.size (below_alloc (Below.refl _ _) _)) (below_alloc hbw2 _).size hb3)
  have HO3 := Aside0.mk ho3
  clear ho3 hb3 hr2 hk2 hbw2
  generalize hfb : frameB kind l1 = fb at *
  go_wp2_with fail
  refine (Crc_calls0 A3 c3 fb w3 (Kd.R_reads' HO3.out).2.2 HBB.out).mono ?_
  rintro e w4 ⟨rfl, hb4⟩
  have HB4 := Aside0.mk hb4
  clear hb4
  go_wp2_with fail
  refine (HL2.out _).mono ?_
  rintro e w5 ⟨v5, rfl, ho5, hb5⟩
  obtain ⟨A5, c5, e5⟩ := Kd.R_slice ho5
  subst e5
  have HO5 := Aside0.mk ho5
  have HB5 := Aside0.mk (below_then HB4.out HB4.out.size hb5)
  clear ho5 hb5
  go_wp2_with fail
  have hr3 := Kd.R_reads' HO3.out
  have hr5 := Kd.R_reads' HO5.out
  have hlen5 : (lowL (crcOf fb) 4).length = 4 := lowL_length _ _
  have hblen := HBL.out
  refine (join_segs 2 (Segs.two (l1 := fb) (l2 := lowL (crcOf fb) 4) rfl hr3.2.1 (Kd.C_alloc (Kd.C_below hr3.2.2 HB5.out) _) rfl hr5.2.1 (Kd.C_alloc hr5.2.2 _)) (heap_alloc_new _ _) rfl (by simp [lowL_length]; omega) (by omega)).mono ?_
  rintro e w6 ⟨v6, rfl, ho6, hb6⟩
  rw [show [fb, lowL (crcOf fb) 4].flatten = fb ++ lowL (crcOf fb) 4 by simp] at ho6
  have HW5 := Aside0.mk (below_then HB3.out HB3.out.size HB5.out)
  have HO6 := Aside0.mk ho6
  have HB6 := Aside0.mk hb6
  clear ho6 hb6 hr3 hr5 hlen5 hblen
  go_wp2_with fail
  go_ret2
  rw [hfb]
  refine ⟨v6, rfl, Kd.R_lower HO6.out ((below_alloc HW5.out _).size), below_then (below_alloc HW5.out _) (below_alloc HW5.out _).size HB6.out⟩
theorem Frame_arg (kind : Int) (A1 : Option Addr) (n1 c1 : Nat) (w : World) (h : kind < 0 ∨ 255 < kind) :
    Calls Try.prog 49 #[.int .i64 kind, .slice A1 n1 c1] w fun e w' => e = .returned (.tuple #[.slice none 0 0, .int .i64 1]) ∧ w = w' := by
  by_cases h0 : kind < 0
  · have h0' : decide (kind < 0) = true := by simpa using h0
    go_enter Try.func49, Try.ntmps49
    go_wp2_with fail
    go_ret2
    exact ⟨rfl, rfl⟩
  · have h0' : decide (kind < 0) = false := by simpa using h0
    have h1' : decide (255 < kind) = true := by simp; omega
    go_enter Try.func49, Try.ntmps49
    go_wp2_with fail
    go_ret2
    exact ⟨rfl, rfl⟩
theorem Frame_size (kind : Int) (A1 : Option Addr) (n1 c1 : Nat) (w : World) (h0 : 0 ≤ kind) (h1 : kind ≤ 255) (hl : 65536 < n1) :
    Calls Try.prog 49 #[.int .i64 kind, .slice A1 n1 c1] w fun e w' => e = .returned (.tuple #[.slice none 0 0, .int .i64 6]) ∧ w = w' := by
  have h0' : decide (kind < 0) = false := by simpa using h0
  have h1' : decide (255 < kind) = false := by simpa using h1
  have hl' : decide (65536 < (n1 : Int)) = true := by simp; omega
  go_enter Try.func49, Try.ntmps49
  go_wp2_with fail
  go_ret2
  exact ⟨rfl, rfl⟩
def wire_Frame.f (kind : Int) (l : List Int) : Option (List Int × Int) := if isB l = true then some (frameF kind l) else none
theorem wire_Frame.calls (a0 : Int) (A1 : Option Addr) (c1 : Nat) (l1 : List Int) (r1 : List Int) (r2 : Int) (w : World) (hr1 : Kd.C (Kd.int .u8) w A1 l1.length l1) (hc1 : l1.length ≤ c1) (h : wire_Frame.f a0 l1 = some (r1, r2)) :
    Calls Try.prog 49 #[.int .i64 a0, .slice A1 l1.length c1] w fun e w' => ∃ v0_ : Value, e = .returned (.tuple #[v0_, .int .i64 r2]) ∧ Kd.R (Kd.int .u8) 5 w' w.heap.size (fun _ => True) v0_ r1 ∧ Below w.heap.size w w' := by
  unfold wire_Frame.f at h
  by_cases hb : isB l1 = true
  · rw [if_pos hb] at h
    have h := Option.some.inj h
    have hb' := (isB_iff l1).1 hb
    have low : ∀ {e : Ending} {w' : World} (x : Int), e = .returned (.tuple #[.slice none 0 0, .int .i64 x]) ∧ w = w' → ∃ v1_ : Value, e = .returned (.tuple #[v1_, .int .i64 x]) ∧ Kd.R (Kd.int .u8) 5 w' w.heap.size (fun _ => True) v1_ [] ∧ Below w.heap.size w w' := by
      rintro e w' x ⟨rfl, rfl⟩
      exact ⟨_, rfl, Kd.R_nil _ _ _ _ _, Below.refl _ _⟩
    unfold frameF at h
    by_cases h1 : a0 < 0
    · rw [if_pos h1] at h
      simp only [Prod.mk.injEq] at h
      obtain ⟨rfl, rfl⟩ := h
      exact (Frame_arg a0 A1 _ c1 w (.inl h1)).mono fun e w' hh => low 1 hh
    rw [if_neg h1] at h
    by_cases h2 : 255 < a0
    · rw [if_pos h2] at h
      simp only [Prod.mk.injEq] at h
      obtain ⟨rfl, rfl⟩ := h
      exact (Frame_arg a0 A1 _ c1 w (.inr h2)).mono fun e w' hh => low 1 hh
    rw [if_neg h2] at h
    by_cases h3 : 65536 < l1.length
    · rw [if_pos h3] at h
      simp only [Prod.mk.injEq] at h
      obtain ⟨rfl, rfl⟩ := h
      exact (Frame_size a0 A1 _ c1 w (by omega) (by omega) h3).mono fun e w' hh => low 6 hh
    rw [if_neg h3] at h
    simp only [Prod.mk.injEq] at h
    obtain ⟨rfl, rfl⟩ := h
    exact Frame_good a0 A1 c1 l1 w hr1 hc1 hb' (by omega) (by omega) (by omega)
  · rw [if_neg hb] at h; cases h
end Go.Proofs.Ytofegigbhohebaa.Hand
