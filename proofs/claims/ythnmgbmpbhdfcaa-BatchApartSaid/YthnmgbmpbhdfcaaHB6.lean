/- batch.Decode and the reference's Decode: one plain function. -/
import Derived.Test.YthnmgbmpbhdfcaaHDecode
import Derived.Test.YthnmgbmpbhdfcaaHB5
import Derived.Test.YthnmgbmpbhdfcaaD0x1
namespace Go.Proofs.Ythnmgbmpbhdfcaa.Hand
open Go.RowKit Go.Proofs.Ythnmgbmpbhdfcaa Go.Proofs.YthnmgbmpbhdfcaaW.PrintWords Go.Proofs.YthnmgbmpbhdfcaaW.PrintMore Go.Proofs.Ythnmgbmpbhdfcaa.B0

theorem getF_in {l : List Int} {p : Int} {k : Nat} (h0 : 0 ≤ p) (h1 : 1 ≤ k) (h6 : k ≤ 6) (h : p + k ≤ l.length) : getF l p k = (((leN ((l.take (p + k).toNat).drop p.toNat) : Nat) : Int), p + k, 0) := by
  unfold getF
  rw [if_neg (by omega), if_neg (by omega), if_neg (by omega), if_pos (by omega), if_pos (by omega)]
theorem getF_out {l : List Int} {p : Int} {k : Nat} (h0 : 0 ≤ p) (h1 : 1 ≤ k) (h6 : k ≤ 6) (h : l.length < p + k) : getF l p k = (0, 0, 20) := by
  unfold getF
  rw [if_neg (by omega), if_neg (by omega), if_neg (by omega)]
  split
  · rw [if_neg (by omega)]
  · rfl
theorem getF_byte {l : List Int} (hb : isB l = true) {p : Int} (h0 : 0 ≤ p) (h : p < l.length) : getF l p 1 = (rd l p, p + 1, 0) := by
  have this : getF l p 1 = (((leN ((l.take (p + 1).toNat).drop p.toNat) : Nat) : Int), p + 1, 0) := getF_in (k := 1) h0 (by omega) (by omega) (by omega)
  rw [this]
  obtain ⟨n, rfl⟩ := Int.eq_ofNat_of_zero_le h0
  have hn : n < l.length := by omega
  have e : (l.take ((n : Int) + 1).toNat).drop (n : Int).toNat = [l[n]] := by
    rw [show ((n : Int) + 1).toNat = n + 1 by omega, Int.toNat_natCast, List.take_succ_eq_append_getElem hn, List.drop_append_of_le_length (by rw [List.length_take]; omega), List.drop_of_length_le (by rw [List.length_take]; omega)]
    rfl
  have hx := (isB_iff l).1 hb l[n] (List.getElem_mem hn)
  rw [e, leN, leN]
  have er : rd l (n : Int) = l[n] := by
    unfold rd; rw [Int.toNat_natCast, List.getD_eq_getElem?_getD, List.getElem?_eq_getElem hn]; rfl
  rw [er]
  congr 1
  omega
theorem numS_err {l : List Int} {st : Int × Int} (h : st.2 ≠ 0) (n : Int) : numS l st n = st := by unfold numS; rw [if_neg h, if_neg h]
theorem txtS_err {l : List Int} {st : Int × Int} (h : st.2 ≠ 0) : txtS l st = st := by unfold txtS; rw [if_neg h, if_neg h]
theorem numS_in {l : List Int} {p : Int} {k : Nat} (h0 : 0 ≤ p) (h1 : 1 ≤ k) (h6 : k ≤ 6) (h : p + k ≤ l.length) : numS l (p, 0) k = (p + k, 0) := by
  unfold numS; rw [getF_in h0 h1 h6 h]; rfl
theorem numS_out {l : List Int} {p : Int} {k : Nat} (h0 : 0 ≤ p) (h1 : 1 ≤ k) (h6 : k ≤ 6) (h : l.length < p + k) : (numS l (p, 0) k).2 ≠ 0 := by
  unfold numS; rw [getF_out h0 h1 h6 h]; simp
theorem numS_step {l : List Int} {st : Int × Int} {p : Int} {k : Nat} (hst : st.2 ≠ 0 ∨ (st = (p, 0) ∧ p ≤ l.length)) (h0 : 0 ≤ p) (h1 : 1 ≤ k) (h6 : k ≤ 6) : (numS l st k).2 ≠ 0 ∨ (numS l st k = (p + k, 0) ∧ p + k ≤ l.length) := by
  rcases hst with h | ⟨rfl, h⟩
  · left; rw [numS_err h]; exact h
  · by_cases hk : p + k ≤ l.length
    · right; exact ⟨numS_in h0 h1 h6 hk, hk⟩
    · left; exact numS_out h0 h1 h6 (by omega)
theorem recsD_err {l : List Int} {st : Int × Int} (h : st.2 ≠ 0) : ∀ m, recsD l m st = ([], st)
  | 0 => rfl
  | m + 1 => by rw [recsD, if_neg h]
theorem heads (l : List Int) : ((st6 l).2 ≠ 0 ∧ l.length < 18) ∨ (18 ≤ l.length ∧ st1 l = (1, 0) ∧ st2 l = (2, 0) ∧ st3 l = (8, 0) ∧ st4 l = (12, 0) ∧ st5 l = (16, 0) ∧ st6 l = (18, 0)) := by
  by_cases h : 18 ≤ l.length
  · right
    have e1 : st1 l = (1, 0) := numS_in (k := 1) (by omega) (by omega) (by omega) (by omega)
    have e2 : st2 l = (2, 0) := by unfold st2; rw [e1]; exact numS_in (k := 1) (by omega) (by omega) (by omega) (by omega)
    have e3 : st3 l = (8, 0) := by unfold st3; rw [e2]; exact numS_in (k := 6) (by omega) (by omega) (by omega) (by omega)
    have e4 : st4 l = (12, 0) := by unfold st4; rw [e3]; exact numS_in (k := 4) (by omega) (by omega) (by omega) (by omega)
    have e5 : st5 l = (16, 0) := by unfold st5; rw [e4]; exact numS_in (k := 4) (by omega) (by omega) (by omega) (by omega)
    have e6 : st6 l = (18, 0) := by unfold st6; rw [e5]; exact numS_in (k := 2) (by omega) (by omega) (by omega) (by omega)
    exact ⟨h, e1, e2, e3, e4, e5, e6⟩
  · left
    refine ⟨?_, by omega⟩
    have h0 : ((0, 0) : Int × Int).2 ≠ 0 ∨ (((0, 0) : Int × Int) = (0, 0) ∧ (0 : Int) ≤ l.length) := .inr ⟨rfl, by omega⟩
    have h1 := numS_step (l := l) (k := 1) h0 (by omega) (by omega) (by omega)
    have h2 := numS_step (l := l) (k := 1) h1 (by omega) (by omega) (by omega)
    have h3 := numS_step (l := l) (k := 6) h2 (by omega) (by omega) (by omega)
    have h4 := numS_step (l := l) (k := 4) h3 (by omega) (by omega) (by omega)
    have h5 := numS_step (l := l) (k := 4) h4 (by omega) (by omega) (by omega)
    have h6 := numS_step (l := l) (k := 2) h5 (by omega) (by omega) (by omega)
    rcases h6 with h6 | ⟨_, h6⟩
    · exact h6
    · omega
theorem textF_in {l : List Int} {p : Int} (h : (textF l p).2.2 = 0) : 0 ≤ p ∧ p + 2 ≤ (textF l p).2.1 ∧ (textF l p).2.1 ≤ l.length := by
  unfold textF at h ⊢
  by_cases h1 : (getF l p 2).2.2 = 0
  · rw [if_pos h1] at h ⊢
    obtain ⟨a, _, _, b, c, d⟩ := getF_ok l p 2 h1
    by_cases h2 : (getF l p 2).1 ≤ l.length - (getF l p 2).2.1
    · rw [if_pos h2] at h ⊢
      exact ⟨a, by simp only; omega, by simp only; omega⟩
    · rw [if_neg h2] at h; simp at h
  · rw [if_neg h1] at h; exact absurd h h1
def outD (d : Dec × Int) : Int × Int × Int × Int × Bool × List S47 × Int := (d.1.k, d.1.p, d.1.e, d.1.s, d.1.t, d.1.l, d.2)
def tailD (l : List Int) (d : Dec) : Dec × Int := if (encD d).2 ≠ 0 then (zeroDec, 22) else if (strOfNums (encD d).1).toList = (strOfNums l).toList then (d, 0) else (zeroDec, 22)
theorem decF_tail (l : List Int) : decF l = if (rawD l).2.2 ≠ 0 then (zeroDec, 20) else tailD l (madeD l) := rfl
theorem refTail (l : List Int) (k p e s : Int) (t : Bool) (rs : List S47) :
    ((refCheck.f k p e s t rs).bind fun t128 => (if t128 = 0 then ((refWrite.f k p e s t rs).bind fun t129 => (if (strOfNums t129).toList = (strOfNums l).toList then (some (k, p, e, s, t, rs, 0)) else (some (0, 0, 0, 0, false, ([] : List (S47)), 22)))) else (some (0, 0, 0, 0, false, ([] : List (S47)), 22)))) = some (outD (tailD l ⟨k, p, e, s, t, rs⟩)) := by
  unfold refCheck.f refWrite.f tailD encD encF
  by_cases hc : checkF k p e s t rs = 0
  · simp only [hc, Option.bind_some, if_true, ne_eq, not_true_eq_false, if_false]
    split <;> rfl
  · simp only [hc, Option.bind_some, if_false, ne_eq, not_false_eq_true, if_true]
    rfl
theorem recs_l0 {l : List Int} (hb : isB l = true) (hmax : l.length ≤ 140737488355328) (n : Nat) (k p e s : Int) (t : Bool) (hn : n < 65536) :
    ∀ (m i : Nat) (q : Int) (acc : List S47), i + m = n → acc.length ≤ i → 0 ≤ q → q ≤ l.length →
      D0.gazetteref02_Decode.l0 (m + 1) l (n : Int) q (i : Int) k p e s t acc = some (outD (if (recsD l m (q, 0)).2.2 ≠ 0 then (zeroDec, 20) else tailD l ⟨k, p, e, s, t, acc ++ (recsD l m (q, 0)).1⟩))
  | 0, i, q, acc, hi, _, _, _ => by
    rw [D0.gazetteref02_Decode.l0, if_neg (by omega), refTail, recsD]
    simp
  | m + 1, i, q, acc, hi, ha, hq, hql => by
    have hget : ∀ z, refGetText.f l z = some (textF l z) := fun z => by unfold refGetText.f wire_GetText.f; rw [if_pos hb]
    rw [D0.gazetteref02_Decode.l0, if_pos (by omega), recsD, if_pos rfl]
    by_cases hend : q = (l.length : Int)
    · rw [if_pos hend]
      have hs : (numS l (q, 0) 1).2 ≠ 0 := numS_out (k := 1) hq (by omega) (by omega) (by omega)
      have hr : recS l (q, 0) = numS l (q, 0) 1 := by unfold recS; rw [txtS_err hs, txtS_err hs]
      rw [hr, recsD_err hs, if_pos hs]; rfl
    · rw [if_neg hend, if_pos hq, if_pos (by omega), hget]
      have hw : wrap64 (q + 1) = q + 1 := by unfold wrap64; omega
      have hnum : numS l (q, 0) 1 = (q + 1, 0) := numS_in (k := 1) hq (by omega) (by omega) (by omega)
      have hby := getF_byte hb hq (by omega)
      rw [hw, Option.bind_some]
      by_cases ht : (textF l (q + 1)).2.2 = 0
      · have hk := textF_in ht
        have htx : txtS l (q + 1, 0) = ((textF l (q + 1)).2.1, 0) := by unfold txtS; rw [if_pos rfl, if_pos rfl, ht]
        rw [if_pos ht, hget, Option.bind_some]
        by_cases ht2 : (textF l (textF l (q + 1)).2.1).2.2 = 0
        · have hk2 := textF_in ht2
          have htx2 : txtS l ((textF l (q + 1)).2.1, 0) = ((textF l (textF l (q + 1)).2.1).2.1, 0) := by unfold txtS; rw [if_pos rfl, if_pos rfl, ht2]
          have hrS : recS l (q, 0) = ((textF l (textF l (q + 1)).2.1).2.1, 0) := by unfold recS; rw [hnum, htx, htx2]
          have hrV : recV l (q, 0) = (⟨(textF l (q + 1)).1, (textF l (textF l (q + 1)).2.1).1, (rd l q) != 0⟩ : S47) := by unfold recV; rw [hnum, htx, hby]
          rw [if_pos ht2, if_pos (by omega), wrap_i i n (by omega) (by omega), recs_l0 hb hmax n k p e s t hn m (i + 1) _ _ (by omega) (by simp; omega) (by omega) hk2.2.2, hrS, hrV]
          simp
        · have hs : (txtS l ((textF l (q + 1)).2.1, 0)).2 ≠ 0 := by unfold txtS; rw [if_pos rfl, if_pos rfl]; exact ht2
          have hr : recS l (q, 0) = txtS l ((textF l (q + 1)).2.1, 0) := by unfold recS; rw [hnum, htx]
          rw [if_neg ht2, hr, recsD_err hs, if_pos hs]; rfl
      · have hs : (txtS l (q + 1, 0)).2 ≠ 0 := by unfold txtS; rw [if_pos rfl, if_pos rfl]; exact ht
        have hr : recS l (q, 0) = txtS l (q + 1, 0) := by unfold recS; rw [hnum, txtS_err hs]
        rw [if_neg ht, hr, recsD_err hs, if_pos hs]; rfl
theorem and_byte : ∀ b : Fin 256, bits .and .u8 ((b.val : Nat) : Int) 1 = bits .and .i64 ((b.val : Nat) : Int) 1 ∧ bits .and .u8 ((b.val : Nat) : Int) 2 = bits .and .i64 ((b.val : Nat) : Int) 2 := by decide +kernel
theorem and_rd {l : List Int} (hb : isB l = true) (i : Nat) (h : i < l.length) : bits .and .u8 (rd l i) 1 = bits .and .i64 (rd l i) 1 ∧ bits .and .u8 (rd l i) 2 = bits .and .i64 (rd l i) 2 := by
  have er : rd l (i : Int) = l[i] := by
    unfold rd; rw [Int.toNat_natCast, List.getD_eq_getElem?_getD, List.getElem?_eq_getElem h]; rfl
  have hx := (isB_iff l).1 hb l[i] (List.getElem_mem h)
  obtain ⟨n, hn⟩ := Int.eq_ofNat_of_zero_le hx.1
  rw [er, hn]
  exact and_byte ⟨n, by omega⟩
theorem refDecode_ev {l : List Int} (hb : isB l = true) (hmax : l.length ≤ 140737488355328) : ∃ f, D0.gazetteref02_Decode.f f l = some (outD (decF l)) := by
  unfold D0.gazetteref02_Decode.f
  have hget : ∀ p n, refGet.f l p n = some (getF l p n) := fun p n => by unfold refGet.f wire_Get.f; rw [if_pos hb]
  rcases heads l with ⟨h, hlt⟩ | ⟨h18, e1, e2, e3, e4, e5, e6⟩
  · refine ⟨0, ?_⟩
    have hr : (rawD l).2.2 ≠ 0 := by unfold rawD; rw [recsD_err h]; exact h
    rw [if_pos (by omega), decF_tail, if_pos hr]; rfl
  · obtain ⟨n, hn, hn2⟩ := getF_two hb 16
    refine ⟨n + 1 + 1, ?_⟩
    have hk := getF_byte hb (p := 0) (by omega) (by omega)
    have hf := getF_byte hb (p := 1) (by omega) (by omega)
    have h16 : getF l 16 2 = ((n : Int), 18, 0) := by
      have := getF_in (l := l) (p := 16) (k := 2) (by omega) (by omega) (by omega) (by omega)
      rw [show ((2 : Nat) : Int) = 2 from rfl] at this
      rw [this] at hn ⊢
      rw [← hn]; rfl
    have hraw : rawD l = recsD l n (18, 0) := by unfold rawD cntD; rw [e5, e6, h16]; rfl
    have hA : bits .and .u8 (rd l 1) 1 = bits .and .i64 (rd l 1) 1 ∧ bits .and .u8 (rd l 1) 2 = bits .and .i64 (rd l 1) 2 := and_rd hb 1 (by omega)
    have hx0 := (isB_iff l).1 hb (rd l 0) (by
      have er : rd l 0 = l[0]'(by omega) := by
        show l.getD (0 : Int).toNat 0 = _
        rw [List.getD_eq_getElem?_getD, show (0 : Int).toNat = 0 from rfl, List.getElem?_eq_getElem (by omega)]; rfl
      rw [er]; exact List.getElem_mem _)
    have hw : wrap64 (rd l 0) = rd l 0 := by unfold wrap64; omega
    have hflg : flgD l = rd l 1 := by unfold flgD; rw [e1, hf]
    have hmade : madeD l = ⟨rd l 0, if (bits .and .i64 (rd l 1) 1 == 0) = true then -1 else (getF l 2 6).1, (getF l 8 4).1, (getF l 12 4).1, bits .and .i64 (rd l 1) 2 != 0, (recsD l n (18, 0)).1⟩ := by
      unfold madeD; rw [hflg, e2, e3, e4, hraw, hk]
    rw [if_neg (by omega), if_pos (by omega), if_pos (by omega), hget, hget, hget, hget]
    simp only [Option.bind_some]
    rw [hA.1, hA.2, hw, h16]
    have L := fun p => recs_l0 hb hmax n (rd l 0) p (getF l 8 4).1 (getF l 12 4).1 (bits .and .i64 (rd l 1) 2 != 0) hn2 n 0 18 [] (by omega) (by simp) (by omega) (by omega)
    simp only [List.nil_append] at L
    rw [decF_tail, hraw, hmade]
    by_cases hz : bits .and .i64 (rd l 1) 1 = 0
    · have hz1 : (bits .and .i64 (rd l 1) 1 == 0) = true := by simpa using hz
      rw [if_pos hz, D0.gazetteref02_Decode.j0, if_pos hz1]; exact L _
    · have hz1 : ¬ (bits .and .i64 (rd l 1) 1 == 0) = true := by simpa using hz
      rw [if_neg hz, D0.gazetteref02_Decode.j0, if_neg hz1]; exact L _
def batch_Decode.f (l : List Int) : Option (Int × Int × Int × Int × Bool × List S47 × Int) := if isB l = true then some (outD (decF l)) else none
theorem batch_Decode.calls (A0 : Option Addr) (c0 : Nat) (l0 : List Int) (r1 : Int) (r2 : Int) (r3 : Int) (r4 : Int) (r5 : Bool) (r6 : List (S47)) (r7 : Int) (w : World) (hr0 : Kd.C (Kd.int .u8) w A0 l0.length l0) (hc0 : l0.length ≤ c0) (h : batch_Decode.f l0 = some (r1, r2, r3, r4, r5, r6, r7)) :
    Calls Try.prog 21 #[.slice A0 l0.length c0] w fun e w' => ∃ v5_ : Value, e = .returned (.tuple #[.agg #[.int .i64 r1, .int .i64 r2, .int .i64 r3, .int .i64 r4, .bool r5, v5_], .int .i64 r7]) ∧ Kd.R k47 47 w' w.heap.size (fun _ => True) v5_ r6 ∧ Below w.heap.size w w' := by
  unfold batch_Decode.f at h
  by_cases hb : isB l0 = true
  · rw [if_pos hb] at h
    have e := Option.some.inj h
    unfold outD at e
    simp only [Prod.mk.injEq] at e
    obtain ⟨rfl, rfl, rfl, rfl, rfl, rfl, rfl⟩ := e
    exact Decode_calls A0 c0 l0 w hr0 hc0 hb
  · rw [if_neg hb] at h; cases h
def refDecode.f (l : List Int) : Option (Int × Int × Int × Int × Bool × List S47 × Int) := if isB l = true ∧ l.length ≤ 140737488355328 then some (outD (decF l)) else none
theorem refDecode.calls (A0 : Option Addr) (c0 : Nat) (l0 : List Int) (r1 : Int) (r2 : Int) (r3 : Int) (r4 : Int) (r5 : Bool) (r6 : List (S47)) (r7 : Int) (w : World) (hr0 : Kd.C (Kd.int .u8) w A0 l0.length l0) (hc0 : l0.length ≤ c0) (h : refDecode.f l0 = some (r1, r2, r3, r4, r5, r6, r7)) :
    Calls Try.prog 22 #[.slice A0 l0.length c0] w fun e w' => ∃ v5_ : Value, e = .returned (.tuple #[.agg #[.int .i64 r1, .int .i64 r2, .int .i64 r3, .int .i64 r4, .bool r5, v5_], .int .i64 r7]) ∧ Kd.R k47 47 w' w.heap.size (fun _ => True) v5_ r6 ∧ Below w.heap.size w w' := by
  unfold refDecode.f at h
  by_cases hb : isB l0 = true ∧ l0.length ≤ 140737488355328
  · rw [if_pos hb] at h
    obtain ⟨k, hk⟩ := refDecode_ev hb.1 hb.2
    exact D0.gazetteref02_Decode.calls k A0 c0 l0 r1 r2 r3 r4 r5 r6 r7 w hr0 hc0 (hk.trans h)
  · rw [if_neg hb] at h; cases h
end Go.Proofs.Ythnmgbmpbhdfcaa.Hand
