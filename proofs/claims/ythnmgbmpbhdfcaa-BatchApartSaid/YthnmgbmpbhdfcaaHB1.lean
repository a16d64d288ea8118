/- What batch's functions and the reference's answer, as plain functions, with their contracts. -/
import Derived.Test.YthnmgbmpbhdfcaaHEncode
import Derived.Test.YthnmgbmpbhdfcaaB0x5
import Derived.Test.YthnmgbmpbhdfcaaB0x2
import Derived.Test.YthnmgbmpbhdfcaaHRefGet
namespace Go.Proofs.Ythnmgbmpbhdfcaa.Hand
open Go.RowKit Go.Proofs.Ythnmgbmpbhdfcaa Go.Proofs.YthnmgbmpbhdfcaaW.PrintWords Go.Proofs.YthnmgbmpbhdfcaaW.PrintMore Go.Proofs.Ythnmgbmpbhdfcaa.B0

set_option linter.unusedVariables false
def recSame (x y : S47) : Bool := (x.f0.toList == y.f0.toList) && ((x.f1.toList == y.f1.toList) && (x.f2 == y.f2))
def recsSame : List S47 → List S47 → Bool
  | [], [] => true
  | x :: a, y :: b => recSame x y && recsSame a b
  | _, _ => false
theorem recsSame_len : ∀ {a b : List S47}, recsSame a b = true → a.length = b.length
  | [], [], _ => rfl
  | x :: a, y :: b, h => by
    simp only [recsSame, Bool.and_eq_true] at h
    simp [recsSame_len h.2]
def sameF (k p e s : Int) (t : Bool) (l : List S47) (k' p' e' s' : Int) (t' : Bool) (l' : List S47) : Bool :=
  decide (k = k') && decide (p = p') && decide (e = e') && decide (s = s') && decide (t = t') && recsSame l l'
theorem drop_cons {l : List S47} {i : Nat} (h : i < l.length) : l.drop i = rd_T47 l (i : Int) :: l.drop (i + 1) := by
  rw [List.drop_eq_getElem_cons h, rd_T47, Int.toNat_natCast, List.getD_eq_getElem?_getD, List.getElem?_eq_getElem h]; rfl
theorem wrap_i (i n : Nat) (h : i < n) (hn : n ≤ 9223372036854775807) : wrap64 ((i : Int) + 1) = ((i + 1 : Nat) : Int) := by unfold wrap64; omega
theorem Same_l0 (l l' : List S47) (k p e s : Int) (t : Bool) (k' p' e' s' : Int) (t' : Bool) (hlen : l.length = l'.length) (hmax : l.length ≤ 9223372036854775807) :
    ∀ m i, i + m = l.length → gazettelaw02_Same.l0 (m + 1) (i : Int) k p e s t l k' p' e' s' t' l' = some (recsSame (l.drop i) (l'.drop i))
  | 0, i, hi => by
    rw [gazettelaw02_Same.l0, if_neg (by omega), List.drop_of_length_le (by omega), List.drop_of_length_le (by omega)]; rfl
  | m + 1, i, hi => by
    have ih := Same_l0 l l' k p e s t k' p' e' s' t' hlen hmax m (i + 1) (by omega)
    rw [gazettelaw02_Same.l0, if_pos (by omega), if_pos (by omega), if_pos (by omega), wrap_i i l.length (by omega) hmax, drop_cons (l := l) (i := i) (by omega), drop_cons (l := l') (i := i) (by omega), recsSame, ih]
    unfold recSame
    cases h0 : ((rd_T47 l (i : Int)).f0.toList == (rd_T47 l' (i : Int)).f0.toList) <;> cases h1 : ((rd_T47 l (i : Int)).f1.toList == (rd_T47 l' (i : Int)).f1.toList) <;> cases h2 : ((rd_T47 l (i : Int)).f2 == (rd_T47 l' (i : Int)).f2) <;> simp
theorem Same_ev (l l' : List S47) (k p e s : Int) (t : Bool) (k' p' e' s' : Int) (t' : Bool) (hmax : l.length ≤ 9223372036854775807) :
    ∃ f, gazettelaw02_Same.f f k p e s t l k' p' e' s' t' l' = some (sameF k p e s t l k' p' e' s' t' l') := by
  refine ⟨l.length + 1 + 1, ?_⟩
  unfold gazettelaw02_Same.f sameF
  by_cases hk : k = k'
  · by_cases hp : p = p'
    · by_cases he : e = e'
      · by_cases hs : s = s'
        · rw [if_pos hk, if_pos hp, if_pos he, if_pos hs]
          by_cases ht : t = t'
          · have ht1 : (t != t') = false := by simpa using ht
            rw [ht1, if_neg (by decide), gazettelaw02_Same.j0]
            by_cases hl : l.length = l'.length
            · have hl1 : ((l.length : Int) != (l'.length : Int)) = false := bne_eq_false_iff_eq.mpr (by omega)
              rw [hl1, if_neg (by decide)]
              have := Same_l0 l l' k p e s t k' p' e' s' t' hl hmax l.length 0 (by omega)
              rw [List.drop_zero, List.drop_zero] at this
              rw [show (0 : Int) = ((0 : Nat) : Int) from rfl, this]
              simp [hk, hp, he, hs, ht]
            · have hl1 : ((l.length : Int) != (l'.length : Int)) = true := bne_iff_ne.mpr (by omega)
              rw [hl1, if_pos rfl]
              have : recsSame l l' = false := by
                cases h : recsSame l l'
                · rfl
                · exact absurd (recsSame_len h) hl
              simp [this]
          · have ht1 : (t != t') = true := by simpa using ht
            rw [ht1, if_pos rfl, gazettelaw02_Same.j0, if_pos rfl]
            simp [ht]
        · rw [if_pos hk, if_pos hp, if_pos he, if_neg hs, gazettelaw02_Same.j0, if_pos rfl]; simp [hs]
      · rw [if_pos hk, if_pos hp, if_neg he, gazettelaw02_Same.j0, if_pos rfl]; simp [he]
    · rw [if_pos hk, if_neg hp, gazettelaw02_Same.j0, if_pos rfl]; simp [hp]
  · rw [if_neg hk, gazettelaw02_Same.j0, if_pos rfl]; simp [hk]

theorem wrap_assoc (a b c : Int) : wrap64 (wrap64 (wrap64 (a + 5) + b) + c) = wrap64 (a + wrap64 (wrap64 (5 + b) + c)) := by unfold wrap64; omega
theorem size_l0 (l : List S47) (k p e s : Int) (t : Bool) (hmax : l.length ≤ 9223372036854775807) :
    ∀ m i acc, i + m = l.length → gazetteref02_size.l0 (m + 1) acc (i : Int) k p e s t l = some ((l.drop i).foldl recSize acc)
  | 0, i, acc, hi => by
    rw [gazetteref02_size.l0, if_neg (by omega), List.drop_of_length_le (by omega)]; rfl
  | m + 1, i, acc, hi => by
    rw [gazetteref02_size.l0, if_pos (by omega), if_pos (by omega), wrap_i i l.length (by omega) hmax, size_l0 l k p e s t hmax m (i + 1) _ (by omega), drop_cons (l := l) (i := i) (by omega), List.foldl_cons, wrap_assoc]
    rfl
theorem size_ev (l : List S47) (k p e s : Int) (t : Bool) (hmax : l.length ≤ 9223372036854775807) : gazetteref02_size.f (l.length + 1) k p e s t l = some (recsSize l) := by
  have := size_l0 l k p e s t hmax l.length 0 18 (by omega)
  rw [List.drop_zero] at this
  exact this
theorem refLen_ev (l : List S47) (k p e s : Int) (t : Bool) : gazetteref02_Len.f k p e s t l = some (lenF k l) := by
  unfold gazetteref02_Len.f lenF markerB
  by_cases h2 : k = 2
  · rw [if_pos h2, if_pos h2]; rfl
  · rw [if_neg h2, if_neg h2]
    by_cases h3 : k = 3
    · subst h3; rfl
    · rw [if_neg h3]; simp [h3]
/-- What is asked behind the records. -/
def tailF (k s : Int) (l : List S47) : Int := if (decide (s < 0) || decide (s > wrap64 (2147483648 - lenF k l))) = true then 53 else if recsSize l > 65536 then 6 else 0
theorem Check_l0 (l : List S47) (k p e s : Int) (t : Bool) (hmax : l.length ≤ 9223372036854775807) :
    ∀ m i, i + m = l.length → gazetteref02_Check.l0 (m + 1 + (l.length + 1 + 1)) (i : Int) k p e s t l = some (if recsBad (l.drop i) = true then 6 else tailF k s l)
  | 0, i, hi => by
    rw [show 0 + 1 + (l.length + 1 + 1) = (l.length + 1 + 1) + 1 by omega, gazetteref02_Check.l0, if_neg (by omega), List.drop_of_length_le (by omega), refLen_ev, Option.bind_some]
    have e0 : (if recsBad [] = true then 6 else tailF k s l) = tailF k s l := if_neg (by decide)
    rw [e0]
    unfold tailF
    by_cases hs : s < 0
    · rw [if_pos hs, gazetteref02_Check.j5, if_pos rfl]; simp [hs]
    · rw [if_neg hs, gazetteref02_Check.j5]
      by_cases h2 : s > wrap64 (2147483648 - lenF k l)
      · rw [if_pos (by simpa using h2), if_pos (by simp [h2])]
      · rw [if_neg (by simpa using h2), if_neg (by simp [h2, hs]), size_ev l k p e s t hmax, Option.bind_some]
        split <;> rfl
  | m + 1, i, hi => by
    have ih := Check_l0 l k p e s t hmax m (i + 1) (by omega)
    rw [show m + 1 + 1 + (l.length + 1 + 1) = (m + 1 + (l.length + 1 + 1)) + 1 by omega, gazetteref02_Check.l0, if_pos (by omega), if_pos (by omega), wrap_i i l.length (by omega) hmax, ih, drop_cons (l := l) (i := i) (by omega)]
    have e : recsBad (rd_T47 l (i : Int) :: l.drop (i + 1)) = (recBad (rd_T47 l (i : Int)) || recsBad (l.drop (i + 1))) := rfl
    rw [e]
    generalize rd_T47 l (i : Int) = r
    unfold recBad
    by_cases c0 : (r.f0.size : Int) > 1000
    · rw [if_pos c0]; simp [c0]
    · rw [if_neg c0]
      by_cases c1 : (r.f1.size : Int) > 4000
      · rw [if_pos c1]; simp [c1]
      · rw [if_neg c1]
        by_cases c2 : r.f2 = true
        · rw [if_pos c2]
          by_cases c3 : r.f1.toList = []
          · rw [if_pos c3]; simp [c0, c1, c3]
          · rw [if_neg c3]; simp [c2, c3]
        · rw [if_neg c2]; simp [c0, c1, c2]
theorem pick_tail (k p e s : Int) (t : Bool) (l : List S47) : pickQ ((qlist k p e s t (markerB k) l.length (recsBad l) (recsSize l) (lenF k l)).drop 5) = tailF k s l := by
  show (if (decide (s < 0) || decide (s > wrap64 (2147483648 - lenF k l))) = true then (53 : Int) else if decide (recsSize l > 65536) = true then 6 else 0) = tailF k s l
  unfold tailF
  split
  · rfl
  · by_cases h : recsSize l > 65536
    · simp [h]
    · simp [h]
theorem Check_j3 (l : List S47) (k p e s : Int) (t b : Bool) (hmax : l.length ≤ 9223372036854775807) :
    gazetteref02_Check.j3 (l.length + 1 + (l.length + 1 + 1) + 1) b k p e s t l = some (if (b || recsBad l) = true then 6 else tailF k s l) := by
  rw [gazetteref02_Check.j3]
  cases b with
  | true => rfl
  | false =>
    have := Check_l0 l k p e s t hmax l.length 0 (by omega)
    rw [List.drop_zero] at this
    rw [if_neg (by decide), show (0 : Int) = ((0 : Nat) : Int) from rfl, this, Bool.false_or]
theorem Check_j2 (l : List S47) (k p e s : Int) (t m : Bool) (hm : markerB k = m) (hmax : l.length ≤ 9223372036854775807) :
    gazetteref02_Check.j2 (l.length + 1 + (l.length + 1 + 1) + 1 + 1) m k p e s t l = some (pickQ ((qlist k p e s t (markerB k) l.length (recsBad l) (recsSize l) (lenF k l)).drop 4)) := by
  have e4 : pickQ ((qlist k p e s t (markerB k) l.length (recsBad l) (recsSize l) (lenF k l)).drop 4) = if ((m != ((l.length : Int) == 0)) || decide ((l.length : Int) > 64) || recsBad l) = true then 6 else tailF k s l := by
    rw [← pick_tail k p e s t l, ← hm]; rfl
  rw [e4, gazetteref02_Check.j2]
  have J := Check_j3 l k p e s t
  cases m with
  | true =>
    rw [if_pos rfl]
    by_cases h0 : (l.length : Int) > 0
    · rw [if_pos h0, J true hmax]
      have : ((l.length : Int) == 0) = false := by rw [beq_eq_false_iff_ne]; omega
      rw [this]; rfl
    · have hl : l = [] := List.length_eq_zero_iff.1 (by omega)
      subst hl
      rw [if_neg h0, J false hmax]; rfl
  | false =>
    rw [if_neg (by decide)]
    by_cases h0 : (l.length : Int) = 0
    · rw [if_pos h0, J true hmax]
      have : ((l.length : Int) == 0) = true := by rw [beq_iff_eq]; exact h0
      rw [this]; rfl
    · rw [if_neg h0, J _ hmax]
      have : ((l.length : Int) == 0) = false := by rw [beq_eq_false_iff_ne]; exact h0
      rw [this]; simp
theorem refCheck_ev (l : List S47) (k p e s : Int) (t : Bool) (hmax : l.length ≤ 9223372036854775807) : ∃ f, gazetteref02_Check.f f k p e s t l = some (checkF k p e s t l) := by
  refine ⟨l.length + 1 + (l.length + 1 + 1) + 1 + 1 + 1 + 1, ?_⟩
  have J2 := Check_j2 l k p e s t (markerB k) rfl hmax
  generalize l.length + 1 + (l.length + 1 + 1) + 1 + 1 = F at J2 ⊢
  have ec : checkF k p e s t l = if ((k != 1) && !(markerB k)) = true then 1 else if ((p == -1) && (markerB k || (e != 0) || (s != 0) || t)) = true then 1 else if (decide (p < -1) || decide (p ≥ 281474976710656)) = true then 1 else if (decide (e < 0) || decide (e ≥ 2147483648) || (markerB k && ((s != 0) || t))) = true then 1 else pickQ ((qlist k p e s t (markerB k) l.length (recsBad l) (recsSize l) (lenF k l)).drop 4) := rfl
  rw [ec]
  generalize pickQ ((qlist k p e s t (markerB k) l.length (recsBad l) (recsSize l) (lenF k l)).drop 4) = R at J2
  have J1 : gazetteref02_Check.j1 (F + 1) (markerB k) false k p e s t l = some (if ((p == -1) && (markerB k || (e != 0) || (s != 0) || t)) = true then 1 else if (decide (p < -1) || decide (p ≥ 281474976710656)) = true then 1 else if (decide (e < 0) || decide (e ≥ 2147483648) || (markerB k && ((s != 0) || t))) = true then 1 else R) := by
    rw [gazetteref02_Check.j1, if_neg (by decide)]
    generalize markerB k = m at J2
    by_cases hp : p = -1
    · subst hp
      rw [if_pos rfl]
      cases m with
      | true => rfl
      | false =>
        rw [if_neg (by decide)]
        by_cases he : e = 0
        · rw [if_pos he]
          by_cases hs : s = 0
          · rw [if_pos hs]
            cases t with
            | true => simp
            | false => rw [if_neg (by decide), J2]; simp [he, hs]
          · rw [if_neg hs]; simp [hs]
        · rw [if_neg he]; simp [he]
    · have hp1 : (p == -1) = false := by rw [beq_eq_false_iff_ne]; exact hp
      rw [if_neg hp, hp1]
      by_cases hp0 : p < 0
      · rw [if_pos hp0]
        have : p < -1 := by omega
        simp [this]
      · rw [if_neg hp0]
        have hn : ¬ p < -1 := by omega
        by_cases hp2 : p ≥ 281474976710656
        · rw [if_pos hp2]; simp [hp2]
        · rw [if_neg hp2]
          by_cases he0 : e < 0
          · rw [if_pos he0]; simp [he0, hn, hp2]
          · rw [if_neg he0]
            by_cases he1 : e ≥ 2147483648
            · rw [if_pos he1]; simp [he1, hn, hp2]
            · rw [if_neg he1]
              cases m with
              | true =>
                rw [if_pos rfl]
                by_cases hs : s = 0
                · rw [if_pos hs]
                  cases t with
                  | true => simp [hn, hp2]
                  | false => rw [if_neg (by decide), J2]; simp [hn, hp2, he0, he1, hs]
                · rw [if_neg hs]; simp [hs, hn, hp2]
              | false => rw [if_neg (by decide), J2]; simp [hn, hp2, he0, he1]
  unfold gazetteref02_Check.f
  have J0 : ∀ m, markerB k = m → gazetteref02_Check.j0 (F + 1 + 1) m k p e s t l = some (if ((k != 1) && !m) = true then 1 else if ((p == -1) && (m || (e != 0) || (s != 0) || t)) = true then 1 else if (decide (p < -1) || decide (p ≥ 281474976710656)) = true then 1 else if (decide (e < 0) || decide (e ≥ 2147483648) || (m && ((s != 0) || t))) = true then 1 else R) := by
    intro m hm
    rw [hm] at J1
    rw [gazetteref02_Check.j0]
    by_cases hk : k = 1
    · rw [if_pos hk, J1]; simp [hk]
    · rw [if_neg hk]
      cases m with
      | true => rw [show (!true) = false from rfl, J1]; simp
      | false => rw [show (!false) = true from rfl, gazetteref02_Check.j1, if_pos rfl]; simp [hk]
  by_cases h2 : k = 2
  · rw [if_pos h2]
    have hm : markerB k = true := by unfold markerB; rw [if_pos h2]
    rw [J0 true hm, hm]
  · rw [if_neg h2]
    have hm : markerB k = (k == 3) := by unfold markerB; rw [if_neg h2]
    rw [J0 _ hm, hm]
def batch_Check.f (a0_0 : Int) (a0_1 : Int) (a0_2 : Int) (a0_3 : Int) (a0_4 : Bool) (l0_5 : List S47) : Option Int := some (checkF a0_0 a0_1 a0_2 a0_3 a0_4 l0_5)
theorem batch_Check.calls (a0_0 : Int) (a0_1 : Int) (a0_2 : Int) (a0_3 : Int) (a0_4 : Bool) (A0_5 : Option Addr) (c0_5 : Nat) (l0_5 : List S47) (r : Int) (w : World) (hr0_5 : Kd.C k47 w A0_5 l0_5.length l0_5) (hc0_5 : l0_5.length ≤ c0_5) (h : batch_Check.f a0_0 a0_1 a0_2 a0_3 a0_4 l0_5 = some r) :
    Calls Try.prog 12 #[.agg #[.int .i64 a0_0, .int .i64 a0_1, .int .i64 a0_2, .int .i64 a0_3, .bool a0_4, .slice A0_5 l0_5.length c0_5]] w fun e w' => e = .returned (.int .i64 r) ∧ Below w.heap.size w w' := by
  obtain rfl := Option.some.inj h
  exact Check_calls a0_0 a0_1 a0_2 a0_3 a0_4 A0_5 c0_5 l0_5 w hr0_5 hc0_5
def refCheck.f (a0_0 : Int) (a0_1 : Int) (a0_2 : Int) (a0_3 : Int) (a0_4 : Bool) (l0_5 : List S47) : Option Int := some (checkF a0_0 a0_1 a0_2 a0_3 a0_4 l0_5)
theorem refCheck.calls (a0_0 : Int) (a0_1 : Int) (a0_2 : Int) (a0_3 : Int) (a0_4 : Bool) (A0_5 : Option Addr) (c0_5 : Nat) (l0_5 : List S47) (r : Int) (w : World) (hr0_5 : Kd.C k47 w A0_5 l0_5.length l0_5) (hc0_5 : l0_5.length ≤ c0_5) (h : refCheck.f a0_0 a0_1 a0_2 a0_3 a0_4 l0_5 = some r) :
    Calls Try.prog 13 #[.agg #[.int .i64 a0_0, .int .i64 a0_1, .int .i64 a0_2, .int .i64 a0_3, .bool a0_4, .slice A0_5 l0_5.length c0_5]] w fun e w' => e = .returned (.int .i64 r) ∧ Below w.heap.size w w' := by
  obtain ⟨k, hk⟩ := refCheck_ev l0_5 a0_0 a0_1 a0_2 a0_3 a0_4 (Kd.C_max hr0_5)
  exact gazetteref02_Check.calls k _ _ _ _ _ _ _ _ _ w hr0_5 hc0_5 (hk.trans h)
def batchLen.f (a0_0 : Int) (a0_1 : Int) (a0_2 : Int) (a0_3 : Int) (a0_4 : Bool) (l0_5 : List S47) : Option Int := some (lenF a0_0 l0_5)
theorem batchLen.calls (a0_0 : Int) (a0_1 : Int) (a0_2 : Int) (a0_3 : Int) (a0_4 : Bool) (A0_5 : Option Addr) (c0_5 : Nat) (l0_5 : List S47) (r : Int) (w : World) (hr0_5 : Kd.C k47 w A0_5 l0_5.length l0_5) (hc0_5 : l0_5.length ≤ c0_5) (h : batchLen.f a0_0 a0_1 a0_2 a0_3 a0_4 l0_5 = some r) :
    Calls Try.prog 14 #[.agg #[.int .i64 a0_0, .int .i64 a0_1, .int .i64 a0_2, .int .i64 a0_3, .bool a0_4, .slice A0_5 l0_5.length c0_5]] w fun e w' => e = .returned (.int .i64 r) ∧ Below w.heap.size w w' := by
  exact batch_Len.calls _ _ _ _ _ _ _ _ _ w hr0_5 hc0_5 ((Len_ev ..).trans h)
def refLen.f (a0_0 : Int) (a0_1 : Int) (a0_2 : Int) (a0_3 : Int) (a0_4 : Bool) (l0_5 : List S47) : Option Int := some (lenF a0_0 l0_5)
theorem refLen.calls (a0_0 : Int) (a0_1 : Int) (a0_2 : Int) (a0_3 : Int) (a0_4 : Bool) (A0_5 : Option Addr) (c0_5 : Nat) (l0_5 : List S47) (r : Int) (w : World) (hr0_5 : Kd.C k47 w A0_5 l0_5.length l0_5) (hc0_5 : l0_5.length ≤ c0_5) (h : refLen.f a0_0 a0_1 a0_2 a0_3 a0_4 l0_5 = some r) :
    Calls Try.prog 15 #[.agg #[.int .i64 a0_0, .int .i64 a0_1, .int .i64 a0_2, .int .i64 a0_3, .bool a0_4, .slice A0_5 l0_5.length c0_5]] w fun e w' => e = .returned (.int .i64 r) ∧ Below w.heap.size w w' := by
  exact gazetteref02_Len.calls _ _ _ _ _ _ _ _ _ w hr0_5 hc0_5 ((refLen_ev ..).trans h)
def lawSame.f (a0_0 : Int) (a0_1 : Int) (a0_2 : Int) (a0_3 : Int) (a0_4 : Bool) (l0_5 : List S47) (a1_0 : Int) (a1_1 : Int) (a1_2 : Int) (a1_3 : Int) (a1_4 : Bool) (l1_5 : List S47) : Option Bool := some (sameF a0_0 a0_1 a0_2 a0_3 a0_4 l0_5 a1_0 a1_1 a1_2 a1_3 a1_4 l1_5)
theorem lawSame.calls (a0_0 : Int) (a0_1 : Int) (a0_2 : Int) (a0_3 : Int) (a0_4 : Bool) (A0_5 : Option Addr) (c0_5 : Nat) (l0_5 : List S47) (a1_0 : Int) (a1_1 : Int) (a1_2 : Int) (a1_3 : Int) (a1_4 : Bool) (A1_5 : Option Addr) (c1_5 : Nat) (l1_5 : List S47) (r : Bool) (w : World) (hr0_5 : Kd.C k47 w A0_5 l0_5.length l0_5) (hc0_5 : l0_5.length ≤ c0_5) (hr1_5 : Kd.C k47 w A1_5 l1_5.length l1_5) (hc1_5 : l1_5.length ≤ c1_5) (h : lawSame.f a0_0 a0_1 a0_2 a0_3 a0_4 l0_5 a1_0 a1_1 a1_2 a1_3 a1_4 l1_5 = some r) :
    Calls Try.prog 16 #[.agg #[.int .i64 a0_0, .int .i64 a0_1, .int .i64 a0_2, .int .i64 a0_3, .bool a0_4, .slice A0_5 l0_5.length c0_5], .agg #[.int .i64 a1_0, .int .i64 a1_1, .int .i64 a1_2, .int .i64 a1_3, .bool a1_4, .slice A1_5 l1_5.length c1_5]] w fun e w' => e = .returned (.bool r) ∧ Below w.heap.size w w' := by
  obtain ⟨k, hk⟩ := Same_ev l0_5 l1_5 a0_0 a0_1 a0_2 a0_3 a0_4 a1_0 a1_1 a1_2 a1_3 a1_4 (Kd.C_max hr0_5)
  exact gazettelaw02_Same.calls k _ _ _ _ _ _ _ _ _ _ _ _ _ _ _ _ _ w hr0_5 hc0_5 hr1_5 hc1_5 (hk.trans h)
def batch_Encode.f (a0_0 : Int) (a0_1 : Int) (a0_2 : Int) (a0_3 : Int) (a0_4 : Bool) (l0_5 : List S47) : Option (List Int × Int) := some (encF a0_0 a0_1 a0_2 a0_3 a0_4 l0_5)
theorem batch_Encode.calls (a0_0 : Int) (a0_1 : Int) (a0_2 : Int) (a0_3 : Int) (a0_4 : Bool) (A0_5 : Option Addr) (c0_5 : Nat) (l0_5 : List S47) (r1 : List Int) (r2 : Int) (w : World) (hr0_5 : Kd.C k47 w A0_5 l0_5.length l0_5) (hc0_5 : l0_5.length ≤ c0_5) (h : batch_Encode.f a0_0 a0_1 a0_2 a0_3 a0_4 l0_5 = some (r1, r2)) :
    Calls Try.prog 18 #[.agg #[.int .i64 a0_0, .int .i64 a0_1, .int .i64 a0_2, .int .i64 a0_3, .bool a0_4, .slice A0_5 l0_5.length c0_5]] w fun e w' => ∃ v0_ : Value, e = .returned (.tuple #[v0_, .int .i64 r2]) ∧ Kd.R (Kd.int .u8) 5 w' w.heap.size (fun _ => True) v0_ r1 ∧ Below w.heap.size w w' := by
  have e := Option.some.inj h
  have := Encode_calls a0_0 a0_1 a0_2 a0_3 a0_4 A0_5 c0_5 l0_5 w hr0_5 hc0_5
  rw [e] at this
  exact this
theorem refText_ev (s : ByteArray) (hs : s.size ≤ 140737488351232) : gazetteref01_Text.f s = some (textEnc s) := by
  unfold gazetteref01_Text.f textEnc
  by_cases h : 65535 < s.size
  · rw [if_pos (by omega), if_pos h]
  · rw [if_neg (by omega), if_neg h]
    unfold gazetteref01_Bytes.f wire_low.f
    rw [if_pos ⟨by omega, by omega, by omega⟩, Option.bind_some, if_pos (by rw [lowL_length]; omega)]
    rfl
def refText.f (s : ByteArray) : Option (List Int × Int) := if s.size ≤ 140737488351232 then some (textEnc s) else none
theorem refText.calls (a0 : ByteArray) (r1 : List Int) (r2 : Int) (w : World) (h : refText.f a0 = some (r1, r2)) :
    Calls Try.prog 44 #[.string a0] w fun e w' => ∃ v0_ : Value, e = .returned (.tuple #[v0_, .int .i64 r2]) ∧ Kd.R (Kd.int .u8) 5 w' w.heap.size (fun _ => True) v0_ r1 ∧ Below w.heap.size w w' := by
  unfold refText.f at h
  by_cases hs : a0.size ≤ 140737488351232
  · rw [if_pos hs] at h
    exact gazetteref01_Text.calls a0 r1 r2 w ((refText_ev a0 hs).trans h)
  · rw [if_neg hs] at h; cases h
def gazetteref01_GetText.f (l : List Int) (p : Int) : Option (ByteArray × Int × Int) := wire_GetText.f l p
theorem gazetteref01_GetText.calls (A0 : Option Addr) (c0 : Nat) (l0 : List Int) (a1 : Int) (r1 : ByteArray) (r2 : Int) (r3 : Int) (w : World) (hr0 : Kd.C (Kd.int .u8) w A0 l0.length l0) (hc0 : l0.length ≤ c0) (h : gazetteref01_GetText.f l0 a1 = some (r1, r2, r3)) :
    Calls Try.prog 40 #[.slice A0 l0.length c0, .int .i64 a1] w fun e w' => e = .returned (.tuple #[.string r1, .int .i64 r2, .int .i64 r3]) ∧ Drawn0 w w' := by
  unfold gazetteref01_GetText.f wire_GetText.f at h
  by_cases hb : isB l0 = true
  · rw [if_pos hb] at h
    have e := Option.some.inj h
    have := refGetText_calls0 A0 c0 l0 a1 w hr0 hc0 ((isB_iff l0).1 hb)
    rw [e] at this
    exact this
  · rw [if_neg hb] at h; cases h
def refGet.f (l : List Int) (p size : Int) : Option (Int × Int × Int) := wire_Get.f l p size
theorem refGet.calls (A0 : Option Addr) (c0 : Nat) (l0 : List Int) (a1 : Int) (a2 : Int) (r1 : Int) (r2 : Int) (r3 : Int) (w : World) (hr0 : Kd.C (Kd.int .u8) w A0 l0.length l0) (hc0 : l0.length ≤ c0) (h : refGet.f l0 a1 a2 = some (r1, r2, r3)) :
    Calls Try.prog 39 #[.slice A0 l0.length c0, .int .i64 a1, .int .i64 a2] w fun e w' => e = .returned (.tuple #[.int .i64 r1, .int .i64 r2, .int .i64 r3]) ∧ Below w.heap.size w w' :=
  (gazetteref01_Get.calls A0 c0 l0 a1 a2 r1 r2 r3 w hr0 hc0 h).mono fun _ _ ⟨he, hd⟩ => ⟨he, hd.below⟩
def refGetText.f (l : List Int) (p : Int) : Option (ByteArray × Int × Int) := wire_GetText.f l p
theorem refGetText.calls (A0 : Option Addr) (c0 : Nat) (l0 : List Int) (a1 : Int) (r1 : ByteArray) (r2 : Int) (r3 : Int) (w : World) (hr0 : Kd.C (Kd.int .u8) w A0 l0.length l0) (hc0 : l0.length ≤ c0) (h : refGetText.f l0 a1 = some (r1, r2, r3)) :
    Calls Try.prog 40 #[.slice A0 l0.length c0, .int .i64 a1] w fun e w' => e = .returned (.tuple #[.string r1, .int .i64 r2, .int .i64 r3]) ∧ Below w.heap.size w w' :=
  (gazetteref01_GetText.calls A0 c0 l0 a1 r1 r2 r3 w hr0 hc0 h).mono fun _ _ ⟨he, hd⟩ => ⟨he, hd.below⟩
end Go.Proofs.Ythnmgbmpbhdfcaa.Hand
