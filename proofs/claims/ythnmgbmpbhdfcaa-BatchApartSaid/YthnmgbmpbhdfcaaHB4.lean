/- A batch that may be: what that says of its parts; the reference's bytes are the program's. -/
import Derived.Test.YthnmgbmpbhdfcaaHB2
import Derived.Test.YthnmgbmpbhdfcaaB3x1
namespace Go.Proofs.Ythnmgbmpbhdfcaa.Hand
open Go.RowKit Go.Proofs.Ythnmgbmpbhdfcaa Go.Proofs.YthnmgbmpbhdfcaaW.PrintWords Go.Proofs.YthnmgbmpbhdfcaaW.PrintMore Go.Proofs.Ythnmgbmpbhdfcaa.B0

structure Valid (k p e s : Int) (t : Bool) (l : List S47) : Prop where
  kind : k = 1 ∨ k = 2 ∨ k = 3
  prod : p = -1 ∨ (0 ≤ p ∧ p < 281474976710656)
  none : p = -1 → k = 1 ∧ e = 0 ∧ s = 0 ∧ t = false
  epoch : 0 ≤ e ∧ e < 2147483648
  seq : 0 ≤ s ∧ s ≤ 2147483648
  mark : markerB k = true → s = 0 ∧ t = false
  some_ : markerB k = true ↔ l = []
  len : l.length ≤ 64
  recs : ∀ r ∈ l, r.f0.size ≤ 1000 ∧ r.f1.size ≤ 4000 ∧ (r.f2 = true → r.f1.toList = [])
  size : recsSize l ≤ 65536
theorem valid_of {k p e s : Int} {t : Bool} {l : List S47} (h : checkF k p e s t l = 0) : Valid k p e s t l := by
  have hlen := check_len h
  simp only [checkF, qlist, pickQ] at h
  split at h
  · exact absurd h (by decide)
  rename_i h1
  split at h
  · exact absurd h (by decide)
  rename_i h2
  split at h
  · exact absurd h (by decide)
  rename_i h3
  split at h
  · exact absurd h (by decide)
  rename_i h4
  split at h
  · exact absurd h (by decide)
  rename_i h5
  split at h
  · exact absurd h (by decide)
  rename_i h6
  split at h
  · exact absurd h (by decide)
  rename_i h7
  simp only [Bool.or_eq_true, Bool.and_eq_true, decide_eq_true_eq, not_or, not_and, bne_iff_ne, beq_iff_eq, Bool.not_eq_true, Bool.not_eq_eq_eq_not, ne_eq] at h1 h2 h3 h4 h5 h6 h7
  have hm : markerB k = true ↔ (k = 2 ∨ k = 3) := by
    unfold markerB
    by_cases c : k = 2 <;> simp [c]
  have hL : 0 ≤ lenF k l ∧ lenF k l ≤ 64 := by unfold lenF; split <;> omega
  have hw : wrap64 (2147483648 - lenF k l) = 2147483648 - lenF k l := by unfold wrap64; omega
  rw [hw] at h6
  have h1' : ¬ k = 1 → markerB k = true := fun c => by
    have := h1 c
    cases hmk : markerB k
    · rw [hmk] at this; exact absurd rfl this
    · rfl
  refine ⟨?_, by omega, fun hp => ?_, by omega, ?_, fun m => ?_, ?_, hlen, fun r hr => ?_, by omega⟩
  · by_cases c : k = 1
    · exact .inl c
    · exact .inr (hm.1 (h1' c))
  · obtain ⟨⟨⟨m, e0⟩, s0⟩, t0⟩ := h2 hp
    refine ⟨?_, Classical.not_not.1 e0, Classical.not_not.1 s0, t0⟩
    by_cases c : k = 1
    · exact c
    · rw [h1' c] at m; cases m
  · omega
  · exact ⟨Classical.not_not.1 (h4.2 m).1, (h4.2 m).2⟩
  · have e := Classical.not_not.1 h5.1.1
    rw [e, beq_iff_eq, ← List.length_eq_zero_iff]
    omega
  · have hb := h5.2
    unfold recsBad at hb
    rw [List.any_eq_false] at hb
    have := hb r hr
    simp only [recBad, Bool.or_eq_true, Bool.and_eq_true, decide_eq_true_eq, not_or, not_and, Bool.not_eq_true', Bool.not_eq_false, List.isEmpty_iff] at this
    exact ⟨by omega, by omega, this.2⟩
theorem putF_ok (n k : Nat) (h1 : 1 ≤ k) (h6 : k ≤ 6) (hn : n < 256 ^ k) : putF (n : Int) (k : Int) = (lowL n k, 0) := by
  have e : (256 : Int) ^ k = ((256 ^ k : Nat) : Int) := by rw [Int.natCast_pow]; rfl
  unfold putF
  rw [if_neg (by omega), if_neg (by omega), if_neg (by omega), Int.toNat_natCast, Int.toNat_natCast, e, if_neg (by exact Int.not_le.2 (Int.ofNat_lt.2 hn))]
theorem rd_mem {l : List S47} {i : Nat} (h : i < l.length) : rd_T47 l (i : Int) ∈ l := by
  rw [rd_T47, Int.toNat_natCast, List.getD_eq_getElem?_getD, List.getElem?_eq_getElem h]; exact List.getElem_mem h
theorem refText_ok (s : ByteArray) (h : s.size ≤ 4000) : refText.f s = some (textEnc s) := by
  unfold refText.f; rw [if_pos (by omega)]
theorem write_l0 (l : List S47) (k p e s : Int) (t : Bool) (hl : l.length ≤ 64) (hr : ∀ r ∈ l, r.f0.size ≤ 1000 ∧ r.f1.size ≤ 4000) :
    ∀ m i acc, i + m = l.length → acc.length + m * 131075 ≤ 1000000000 → B3.gazetteref02_write.l0 (m + 1) acc (i : Int) k p e s t l = some (acc ++ ((l.drop i).map recB).flatten)
  | 0, i, acc, hi, _ => by
    rw [B3.gazetteref02_write.l0, if_neg (by omega), List.drop_of_length_le (by omega)]; simp
  | m + 1, i, acc, hi, ha => by
    have hr1 := hr _ (rd_mem (l := l) (i := i) (by omega))
    have hs := recB_short (rd_T47 l (i : Int))
    have ih := fun acc' h => write_l0 l k p e s t hl hr m (i + 1) acc' (by omega) h
    rw [B3.gazetteref02_write.l0, if_pos (by omega), if_pos (by omega), drop_cons (l := l) (i := i) (by omega), List.map_cons, List.flatten_cons]
    generalize rd_T47 l (i : Int) = r at hr1 hs ⊢
    have t0 := textEnc_short r.f0
    have t1 := textEnc_short r.f1
    rw [refText_ok _ (by omega), refText_ok _ (by omega), wrap_i i l.length (by omega) (by omega)]
    simp only [Option.bind_some]
    have hlen : ∀ x : Int, (acc ++ [x] ++ (textEnc r.f0).1 ++ (textEnc r.f1).1).length + m * 131075 ≤ 1000000000 := by
      intro x
      simp only [List.length_append, List.length_singleton]
      omega
    cases hf : r.f2
    · rw [if_neg (by decide), if_pos (by omega), if_pos (by rw [List.length_append, List.length_singleton]; omega), if_pos (by simp only [List.length_append, List.length_singleton]; omega), ih _ (hlen 0)]
      simp [recB, truthF, hf]
    · rw [if_pos rfl, if_pos (by omega), if_pos (by rw [List.length_append, List.length_singleton]; omega), if_pos (by simp only [List.length_append, List.length_singleton]; omega), ih _ (hlen 1)]
      simp [recB, truthF, hf]
theorem bytes_ok (n k : Nat) (h : k ≤ 6) : gazetteref01_Bytes.f (n : Int) (k : Int) = some (lowL n k) := by
  unfold gazetteref01_Bytes.f wire_low.f
  rw [if_pos ⟨by omega, by omega, by omega⟩]; rfl
theorem write_j1 (l : List S47) (k p : Int) (t : Bool) (fl : Int) (P E S : Nat) (hl : l.length ≤ 64) (hr : ∀ r ∈ l, r.f0.size ≤ 1000 ∧ r.f1.size ≤ 4000) :
    B3.gazetteref02_write.j1 (l.length + 1 + 1) fl (P : Int) k p (E : Int) (S : Int) t l = some ([k % 256, fl % 256] ++ lowL P 6 ++ lowL E 4 ++ lowL S 4 ++ lowL l.length 2 ++ (l.map recB).flatten) := by
  rw [B3.gazetteref02_write.j1, show (6 : Int) = ((6 : Nat) : Int) from rfl, show (4 : Int) = ((4 : Nat) : Int) from rfl, show (2 : Int) = ((2 : Nat) : Int) from rfl, bytes_ok P 6 (by omega), bytes_ok E 4 (by omega), bytes_ok S 4 (by omega), bytes_ok l.length 2 (by omega)]
  simp only [Option.bind_some]
  have h6 := lowL_length P 6
  have h4 := lowL_length E 4
  have h4' := lowL_length S 4
  have h2 := lowL_length l.length 2
  rw [if_pos (by simp only [List.length_cons, List.length_nil]; omega), if_pos (by simp only [List.length_append, List.length_cons, List.length_nil]; omega), if_pos (by simp only [List.length_append, List.length_cons, List.length_nil]; omega), if_pos (by simp only [List.length_append, List.length_cons, List.length_nil]; omega)]
  have := write_l0 l k p (E : Int) (S : Int) t hl hr l.length 0 ([k % 256, fl % 256] ++ lowL P 6 ++ lowL E 4 ++ lowL S 4 ++ lowL l.length 2) (by omega) (by simp only [List.length_append, List.length_cons, List.length_nil]; omega)
  rw [List.drop_zero] at this
  exact this
theorem flags_ev (p : Int) (t : Bool) : flagsF p t = (if p = -1 then 0 else 1) + (if t = true then 2 else 0) := by
  unfold flagsF truthF
  by_cases h : p = -1
  · have h1 : (p != -1) = false := by simpa using h
    rw [h1, if_pos h]; cases t <;> decide
  · have h1 : (p != -1) = true := by simpa using h
    rw [h1, if_neg h]; cases t <;> decide
theorem Valid.puts {k p e s : Int} {t : Bool} {l : List S47} (h : Valid k p e s t l) : ∃ P E S : Nat, mx p 0 = (P : Int) ∧ e = (E : Int) ∧ s = (S : Int) ∧ P < 281474976710656 ∧ putsL p e s l.length = [lowL P 6, lowL E 4, lowL S 4, lowL l.length 2] := by
  have hmx : 0 ≤ mx p 0 ∧ mx p 0 < 281474976710656 := by
    have := h.prod
    unfold mx; split <;> omega
  obtain ⟨P, hP⟩ := Int.eq_ofNat_of_zero_le hmx.1
  obtain ⟨E, hE⟩ := Int.eq_ofNat_of_zero_le h.epoch.1
  obtain ⟨S, hS⟩ := Int.eq_ofNat_of_zero_le h.seq.1
  have h1 := h.epoch.2
  have h2 := h.seq.2
  have h3 := h.len
  refine ⟨P, E, S, hP, hE, hS, by omega, ?_⟩
  unfold putsL
  rw [hP, hE, hS]
  have q6 := putF_ok P 6 (by omega) (by omega) (by omega)
  have q4 := putF_ok E 4 (by omega) (by omega) (by omega)
  have q4' := putF_ok S 4 (by omega) (by omega) (by omega)
  have q2 := putF_ok l.length 2 (by omega) (by omega) (by omega)
  rw [show (6 : Int) = ((6 : Nat) : Int) from rfl, show (4 : Int) = ((4 : Nat) : Int) from rfl, show (2 : Int) = ((2 : Nat) : Int) from rfl, q6, q4, q4', q2]
theorem Valid.head {k p e s : Int} {t : Bool} {l : List S47} (h : Valid k p e s t l) : headL (IntKind.u8.wrap k) p t = [k, flagsF p t] := by
  unfold headL
  rcases h.kind with rfl | rfl | rfl <;> rfl
theorem write_ev {k p e s : Int} {t : Bool} {l : List S47} (h : Valid k p e s t l) : ∃ f, B3.gazetteref02_write.f f k p e s t l = some (encB k p e s t l) := by
  refine ⟨l.length + 1 + 1 + 1, ?_⟩
  obtain ⟨P, E, S, hP, hE, hS, _, hputs⟩ := h.puts
  unfold encB
  rw [hputs, h.head, flags_ev]
  have hk : k % 256 = k := by rcases h.kind with rfl | rfl | rfl <;> rfl
  have J := fun fl => write_j1 l k p t fl P E S h.len fun r hr => ⟨(h.recs r hr).1, (h.recs r hr).2.1⟩
  rw [hk, ← hE, ← hS, ← hP] at J
  unfold B3.gazetteref02_write.f
  have j0 : ∀ x : Int, (x = 0 ∨ x = 1) → B3.gazetteref02_write.j0 (l.length + 1 + 1 + 1) x (mx p 0) k p e s t l = some ([k, x + (if t = true then 2 else 0)] ++ lowL P 6 ++ lowL E 4 ++ lowL S 4 ++ lowL l.length 2 ++ (l.map recB).flatten) := by
    intro x hx
    rw [B3.gazetteref02_write.j0]
    cases t
    · rw [if_neg (by decide), J, if_neg (by decide)]
      rcases hx with rfl | rfl <;> rfl
    · rw [if_pos rfl, J, if_pos rfl]
      rcases hx with rfl | rfl
      · rw [show wrap64 (0 + 2) % 256 = 0 + 2 by unfold wrap64; omega]
      · rw [show wrap64 (1 + 2) % 256 = 1 + 2 by unfold wrap64; omega]
  by_cases hp : p = -1
  · have hm : mx p 0 = 0 := by subst hp; rfl
    rw [hm] at j0
    rw [if_pos hp, if_pos hp, j0 0 (.inl rfl)]
    simp
  · have hm : mx p 0 = p := by have := h.prod; unfold mx; rw [if_neg (by omega)]
    rw [hm] at j0
    rw [if_neg hp, if_neg hp, j0 1 (.inr rfl)]
    simp
def refEncode.f (k p e s : Int) (t : Bool) (l : List S47) : Option (List Int × Int) := some (encF k p e s t l)
theorem refEncode_ev (k p e s : Int) (t : Bool) (l : List S47) : ∃ f, B3.gazetteref02_Encode.f f k p e s t l = some (encF k p e s t l) := by
  unfold B3.gazetteref02_Encode.f refCheck.f encF
  by_cases hc : checkF k p e s t l = 0
  · obtain ⟨f, hf⟩ := write_ev (valid_of hc)
    exact ⟨f, by rw [Option.bind_some, if_pos hc, hf, if_pos hc]; rfl⟩
  · exact ⟨0, by rw [Option.bind_some, if_neg hc, if_neg hc]⟩
theorem refEncode.calls (a0_0 : Int) (a0_1 : Int) (a0_2 : Int) (a0_3 : Int) (a0_4 : Bool) (A0_5 : Option Addr) (c0_5 : Nat) (l0_5 : List S47) (r1 : List Int) (r2 : Int) (w : World) (hr0_5 : Kd.C k47 w A0_5 l0_5.length l0_5) (hc0_5 : l0_5.length ≤ c0_5) (h : refEncode.f a0_0 a0_1 a0_2 a0_3 a0_4 l0_5 = some (r1, r2)) :
    Calls Try.prog 19 #[.agg #[.int .i64 a0_0, .int .i64 a0_1, .int .i64 a0_2, .int .i64 a0_3, .bool a0_4, .slice A0_5 l0_5.length c0_5]] w fun e w' => ∃ v0_ : Value, e = .returned (.tuple #[v0_, .int .i64 r2]) ∧ Kd.R (Kd.int .u8) 5 w' w.heap.size (fun _ => True) v0_ r1 ∧ Below w.heap.size w w' := by
  obtain ⟨k, hk⟩ := refEncode_ev a0_0 a0_1 a0_2 a0_3 a0_4 l0_5
  exact B3.gazetteref02_Encode.calls k _ _ _ _ _ _ _ _ _ _ w hr0_5 hc0_5 (hk.trans h)
end Go.Proofs.Ythnmgbmpbhdfcaa.Hand
