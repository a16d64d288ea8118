/- A batch's bytes are read as they were written; what is read of bytes is read of longer ones too. Lent and Stays: bytes with marked room behind them. Short contracts of the functions that batch's laws call. The walks of BatchBack and BatchWhole: each answers true. The walk of BatchWhole: it answers true. The walk of BatchApart: it answers true. -/
import Derived.Test.YthnmgbmpbhdfcaaHB6
import Derived.Maps.AppendAt
import Derived.Deep.DeepAppendWide
namespace Go.Proofs.Ythnmgbmpbhdfcaa.Hand
open Go.RowKit Go.Proofs.Ythnmgbmpbhdfcaa Go.Proofs.YthnmgbmpbhdfcaaW.PrintWords Go.Proofs.YthnmgbmpbhdfcaaW.PrintMore Go.Proofs.Ythnmgbmpbhdfcaa.B0

theorem seg (pre m beh : List Int) (a b : Nat) (ha : a = pre.length) (hb : b = pre.length + m.length) : ((pre ++ m ++ beh).take b).drop a = m := by
  subst ha hb
  rw [List.take_append_of_le_length (by rw [List.length_append]; omega), List.take_of_length_le (by rw [List.length_append]; omega), List.drop_left]
theorem isB_append {l m : List Int} (h : isB l = true) (k : isB m = true) : isB (l ++ m) = true := (isB_iff _).2 (fun x hx => by
  rcases List.mem_append.1 hx with hx | hx
  · exact (isB_iff l).1 h x hx
  · exact (isB_iff m).1 k x hx)
theorem isB_lowL (n k : Nat) : isB (lowL n k) = true := (isB_iff _).2 (lowL_bytes n k)
theorem isBytes_bytesOf (s : ByteArray) : isBytes (bytesOf s) := by
  intro x hx
  unfold bytesOf at hx
  obtain ⟨b, _, rfl⟩ := List.mem_map.1 hx
  have := b.toNat_lt
  omega
theorem strOf_bytesOf (s : ByteArray) : strOfNums (bytesOf s) = s := by
  unfold strOfNums bytesOf
  rw [List.map_map]
  have : ((fun n : Int => UInt8.ofNat n.toNat) ∘ fun b : UInt8 => ((b.toNat : Nat) : Int)) = id := by
    funext b
    simp
  rw [this, List.map_id]
theorem bytesOf_strOf {l : List Int} (h : isB l = true) : bytesOf (strOfNums l) = l := by
  unfold strOfNums bytesOf
  simp only [List.map_map]
  have e : ∀ x ∈ l, ((fun b : UInt8 => ((b.toNat : Nat) : Int)) ∘ fun n : Int => UInt8.ofNat n.toNat) x = x := by
    intro x hx
    have := (isB_iff l).1 h x hx
    simp only [Function.comp, UInt8.toNat_ofNat']
    omega
  rw [List.map_congr_left e, List.map_id']
theorem strOf_inj {l m : List Int} (hl : isB l = true) (hm : isB m = true) (h : (strOfNums l).toList = (strOfNums m).toList) : l = m := by
  rw [ByteArray.toList_eq, ByteArray.toList_eq] at h
  have : strOfNums l = strOfNums m := by
    cases a : strOfNums l; cases b : strOfNums m
    rw [a, b] at h
    congr 1
    exact Array.toList_inj.1 h
  rw [← bytesOf_strOf hl, this, bytesOf_strOf hm]
theorem strOf_length (l : List Int) : (strOfNums l).toList.length = l.length := by
  rw [ByteArray.toList_eq]; simp [strOfNums]
theorem toList_inj {a b : ByteArray} (h : a.toList = b.toList) : a = b := by
  rw [ByteArray.toList_eq, ByteArray.toList_eq] at h
  cases a; cases b
  congr 1
  exact Array.toList_inj.1 h
theorem get_back (pre beh : List Int) (n k : Nat) (h1 : 1 ≤ k) (h6 : k ≤ 6) (hn : n < 256 ^ k) : getF (pre ++ lowL n k ++ beh) (pre.length : Int) (k : Int) = ((n : Int), (pre.length : Int) + k, 0) := by
  rw [getF_in (by omega) h1 h6 (by simp [lowL_length]; omega), seg pre (lowL n k) beh _ _ (by omega) (by rw [lowL_length]; omega), leN_lowL n k hn]
theorem text_back (pre beh : List Int) (s : ByteArray) (hs : s.size ≤ 65535) : textF (pre ++ (lowL s.size 2 ++ bytesOf s) ++ beh) (pre.length : Int) = (s, ((pre.length + (lowL s.size 2 ++ bytesOf s).length : Nat) : Int), 0) := by
  have hb := bytesOf_length s
  have hg : getF (pre ++ (lowL s.size 2 ++ bytesOf s) ++ beh) (pre.length : Int) 2 = ((s.size : Int), (pre.length : Int) + ((2 : Nat) : Int), 0) := by
    have := get_back pre (bytesOf s ++ beh) s.size 2 (by omega) (by omega) (by omega)
    rw [show pre ++ (lowL s.size 2 ++ bytesOf s) ++ beh = pre ++ lowL s.size 2 ++ (bytesOf s ++ beh) by simp [List.append_assoc]]
    exact this
  unfold textF
  rw [hg]
  dsimp only
  rw [if_pos rfl, if_pos (by simp [lowL_length, hb]; omega), show ((pre.length : Int) + ((2 : Nat) : Int) + (s.size : Int)).toNat = pre.length + 2 + s.size by omega, show ((pre.length : Int) + ((2 : Nat) : Int)).toNat = pre.length + 2 by omega]
  rw [show pre ++ (lowL s.size 2 ++ bytesOf s) ++ beh = (pre ++ lowL s.size 2) ++ bytesOf s ++ beh by simp [List.append_assoc]]
  rw [seg (pre ++ lowL s.size 2) (bytesOf s) beh _ _ (by simp [lowL_length]) (by simp [lowL_length, hb]), strOf_bytesOf]
  simp only [Prod.mk.injEq, and_true, true_and]
  simp [lowL_length, hb]
  omega
theorem textEnc_ok {s : ByteArray} (hs : s.size ≤ 65535) : (textEnc s).1 = lowL s.size 2 ++ bytesOf s := by
  unfold textEnc; rw [if_neg (by omega)]
theorem truth_low (b : Bool) : [truthF b 1] = lowL (if b = true then 1 else 0) 1 := by cases b <;> rfl
def recOk (r : S47) : Prop := r.f0.size ≤ 1000 ∧ r.f1.size ≤ 4000 ∧ (r.f2 = true → r.f1.toList = [])
theorem rec_back (pre beh : List Int) (r : S47) (h : recOk r) : recV (pre ++ recB r ++ beh) ((pre.length : Int), 0) = r ∧ recS (pre ++ recB r ++ beh) ((pre.length : Int), 0) = (((pre ++ recB r).length : Int), 0) := by
  obtain ⟨h0, h1, _⟩ := h
  have e0 := textEnc_ok (s := r.f0) (by omega)
  have e1 := textEnc_ok (s := r.f1) (by omega)
  have g : getF (pre ++ recB r ++ beh) (pre.length : Int) 1 = (((if r.f2 = true then 1 else 0 : Nat) : Int), (pre.length : Int) + ((1 : Nat) : Int), 0) := by
    have := get_back pre ((textEnc r.f0).1 ++ (textEnc r.f1).1 ++ beh) (if r.f2 = true then 1 else 0) 1 (by omega) (by omega) (by split <;> omega)
    rw [show pre ++ recB r ++ beh = pre ++ lowL (if r.f2 = true then 1 else 0) 1 ++ ((textEnc r.f0).1 ++ (textEnc r.f1).1 ++ beh) by unfold recB; rw [truth_low]; simp [List.append_assoc]]
    exact this
  have t0 := text_back (pre ++ [truthF r.f2 1]) ((textEnc r.f1).1 ++ beh) r.f0 (by omega)
  have t1 := text_back (pre ++ [truthF r.f2 1] ++ (textEnc r.f0).1) beh r.f1 (by omega)
  rw [← e0, show pre ++ [truthF r.f2 1] ++ (textEnc r.f0).1 ++ ((textEnc r.f1).1 ++ beh) = pre ++ recB r ++ beh by unfold recB; simp [List.append_assoc], show ((pre ++ [truthF r.f2 1]).length : Int) = (pre.length : Int) + ((1 : Nat) : Int) by simp] at t0
  rw [← e1, show pre ++ [truthF r.f2 1] ++ (textEnc r.f0).1 ++ (textEnc r.f1).1 ++ beh = pre ++ recB r ++ beh by unfold recB; simp [List.append_assoc]] at t1
  have hl : (pre ++ [truthF r.f2 1]).length + (textEnc r.f0).1.length = (pre ++ [truthF r.f2 1] ++ (textEnc r.f0).1).length := by simp only [List.length_append]
  rw [hl] at t0
  have n1 : numS (pre ++ recB r ++ beh) ((pre.length : Int), 0) 1 = ((pre.length : Int) + ((1 : Nat) : Int), 0) := by unfold numS; rw [g]; rfl
  have x1 : txtS (pre ++ recB r ++ beh) ((pre.length : Int) + ((1 : Nat) : Int), 0) = (((pre ++ [truthF r.f2 1] ++ (textEnc r.f0).1).length : Int), 0) := by unfold txtS; rw [t0]; rfl
  have x2 : txtS (pre ++ recB r ++ beh) (((pre ++ [truthF r.f2 1] ++ (textEnc r.f0).1).length : Int), 0) = (((pre ++ recB r).length : Int), 0) := by
    unfold txtS; rw [t1]
    simp only [if_true, Prod.mk.injEq, and_true]
    unfold recB; simp only [List.length_append]; omega
  constructor
  · unfold recV
    rw [n1, x1, t0, t1, g]
    cases r with
    | mk a b c => cases c <;> rfl
  · unfold recS
    rw [n1, x1, x2]
theorem recs_back (beh : List Int) : ∀ (rs : List S47) (pre : List Int), (∀ r ∈ rs, recOk r) → recsD (pre ++ (rs.map recB).flatten ++ beh) rs.length ((pre.length : Int), 0) = (rs, (((pre ++ (rs.map recB).flatten).length : Int), 0))
  | [], pre, _ => by simp [recsD]
  | r :: rs, pre, h => by
    have hr := rec_back pre ((rs.map recB).flatten ++ beh) r (h r List.mem_cons_self)
    have e : pre ++ ((r :: rs).map recB).flatten ++ beh = pre ++ recB r ++ ((rs.map recB).flatten ++ beh) := by simp [List.append_assoc]
    have e2 : pre ++ recB r ++ ((rs.map recB).flatten ++ beh) = (pre ++ recB r) ++ (rs.map recB).flatten ++ beh := by simp [List.append_assoc]
    have ih := recs_back beh rs (pre ++ recB r) (fun x hx => h x (List.mem_cons_of_mem _ hx))
    rw [e, List.length_cons, recsD, if_pos rfl, hr.1, hr.2, e2, ih]
    simp
theorem u8_low {k : Int} (h : 0 ≤ k ∧ k < 256) : [k] = lowL k.toNat 1 := by
  simp only [lowL, List.cons.injEq, and_true]; omega
theorem encB_len {k p e s : Int} {t : Bool} {l : List S47} (h : Valid k p e s t l) : 18 ≤ (encB k p e s t l).length := by
  obtain ⟨P, E, S, hP, hE, hS, hP2, hputs⟩ := h.puts
  unfold encB
  rw [hputs, h.head]
  simp [lowL_length]
  omega
theorem raw_back {k p e s : Int} {t : Bool} {l : List S47} (h : Valid k p e s t l) (beh : List Int) :
    rawD (encB k p e s t l ++ beh) = (l, ((encB k p e s t l).length : Int), 0) ∧ madeD (encB k p e s t l ++ beh) = ⟨k, p, e, s, t, l⟩ := by
  obtain ⟨P, E, S, hP, hE, hS, hP2, hputs⟩ := h.puts
  have hE2 := h.epoch.2
  have hS2 := h.seq.2
  have hlen := h.len
  have hk : 0 ≤ k ∧ k < 256 := by rcases h.kind with rfl | rfl | rfl <;> omega
  have hfl : 0 ≤ flagsF p t ∧ flagsF p t < 256 := by rw [flags_ev]; split <;> split <;> omega
  have e0 : encB k p e s t l = lowL k.toNat 1 ++ lowL (flagsF p t).toNat 1 ++ lowL P 6 ++ lowL E 4 ++ lowL S 4 ++ lowL l.length 2 ++ (l.map recB).flatten := by
    unfold encB
    rw [hputs, h.head, ← u8_low hk, ← u8_low hfl]
    simp
  have h18 : 18 ≤ (encB k p e s t l ++ beh).length := by have := encB_len h; rw [List.length_append]; omega
  rcases heads (encB k p e s t l ++ beh) with ⟨_, hlt⟩ | ⟨_, e1, e2, e3, e4, e5, e6⟩
  · omega
  have g0 : getF (encB k p e s t l ++ beh) 0 1 = (((k.toNat : Nat) : Int), 1, 0) := by
    have := get_back [] (lowL (flagsF p t).toNat 1 ++ lowL P 6 ++ lowL E 4 ++ lowL S 4 ++ lowL l.length 2 ++ (l.map recB).flatten ++ beh) k.toNat 1 (by omega) (by omega) (by omega)
    rw [e0]; simpa [List.append_assoc] using this
  have g1 : getF (encB k p e s t l ++ beh) 1 1 = ((((flagsF p t).toNat : Nat) : Int), 2, 0) := by
    have := get_back (lowL k.toNat 1) (lowL P 6 ++ lowL E 4 ++ lowL S 4 ++ lowL l.length 2 ++ (l.map recB).flatten ++ beh) (flagsF p t).toNat 1 (by omega) (by omega) (by omega)
    rw [e0]; simpa [List.append_assoc, lowL_length] using this
  have g2 : getF (encB k p e s t l ++ beh) 2 6 = ((P : Int), 8, 0) := by
    have := get_back (lowL k.toNat 1 ++ lowL (flagsF p t).toNat 1) (lowL E 4 ++ lowL S 4 ++ lowL l.length 2 ++ (l.map recB).flatten ++ beh) P 6 (by omega) (by omega) (by omega)
    rw [e0]; simpa [List.append_assoc, lowL_length] using this
  have g8 : getF (encB k p e s t l ++ beh) 8 4 = ((E : Int), 12, 0) := by
    have := get_back (lowL k.toNat 1 ++ lowL (flagsF p t).toNat 1 ++ lowL P 6) (lowL S 4 ++ lowL l.length 2 ++ (l.map recB).flatten ++ beh) E 4 (by omega) (by omega) (by omega)
    rw [e0]; simpa [List.append_assoc, lowL_length] using this
  have g12 : getF (encB k p e s t l ++ beh) 12 4 = ((S : Int), 16, 0) := by
    have := get_back (lowL k.toNat 1 ++ lowL (flagsF p t).toNat 1 ++ lowL P 6 ++ lowL E 4) (lowL l.length 2 ++ (l.map recB).flatten ++ beh) S 4 (by omega) (by omega) (by omega)
    rw [e0]; simpa [List.append_assoc, lowL_length] using this
  have g16 : getF (encB k p e s t l ++ beh) 16 2 = ((l.length : Int), 18, 0) := by
    have := get_back (lowL k.toNat 1 ++ lowL (flagsF p t).toNat 1 ++ lowL P 6 ++ lowL E 4 ++ lowL S 4) ((l.map recB).flatten ++ beh) l.length 2 (by omega) (by omega) (by omega)
    rw [e0]; simpa [List.append_assoc, lowL_length] using this
  have hraw : rawD (encB k p e s t l ++ beh) = (l, ((encB k p e s t l).length : Int), 0) := by
    unfold rawD cntD
    rw [e5, e6, g16]
    have := recs_back beh l (lowL k.toNat 1 ++ lowL (flagsF p t).toNat 1 ++ lowL P 6 ++ lowL E 4 ++ lowL S 4 ++ lowL l.length 2) (fun r hr => h.recs r hr)
    rw [← e0, show ((lowL k.toNat 1 ++ lowL (flagsF p t).toNat 1 ++ lowL P 6 ++ lowL E 4 ++ lowL S 4 ++ lowL l.length 2).length : Int) = 18 by simp [lowL_length]] at this
    simpa using this
  refine ⟨hraw, ?_⟩
  unfold madeD flgD
  rw [hraw, e1, e2, e3, e4, g0, g1, g2, g8, g12]
  have hk2 : ((k.toNat : Nat) : Int) = k := by omega
  have hf2 : (((flagsF p t).toNat : Nat) : Int) = flagsF p t := by omega
  simp only [hk2, hf2, ← hE, ← hS, ← hP]
  have hp := h.prod
  rw [flags_ev]
  by_cases hp1 : p = -1
  · rw [if_pos hp1]
    subst hp1
    cases t <;> rfl
  · rw [if_neg hp1]
    have hmx : mx p 0 = p := by unfold mx; rw [if_neg (by omega)]
    rw [hmx]
    cases t <;> rfl
/-! What was read is read of longer bytes too. -/
theorem getF_app {l m : List Int} {p n : Int} (h : (getF l p n).2.2 = 0) : getF (l ++ m) p n = getF l p n := by
  obtain ⟨h0, h1, h2, h3, _, _⟩ := getF_ok l p n h
  unfold getF
  have hl : (l ++ m).length = l.length + m.length := List.length_append
  rw [if_neg (by omega), if_neg (by omega), if_neg (by omega), if_pos (by omega), if_pos (by omega), if_neg (by omega), if_neg (by omega), if_neg (by omega), if_pos (by omega), if_pos (by omega), List.take_append_of_le_length (by omega)]
theorem textF_app {l m : List Int} {p : Int} (h : (textF l p).2.2 = 0) : textF (l ++ m) p = textF l p := by
  have hl : (l ++ m).length = l.length + m.length := List.length_append
  unfold textF at h ⊢
  by_cases h1 : (getF l p 2).2.2 = 0
  · rw [if_pos h1] at h
    have hg := getF_app (m := m) h1
    obtain ⟨a0, a1, a2, a3, a4, a5⟩ := getF_ok l p 2 h1
    by_cases h2 : (getF l p 2).1 ≤ l.length - (getF l p 2).2.1
    · rw [hg, if_pos h1, if_pos h1, if_pos h2, if_pos (by omega), List.take_append_of_le_length (by omega)]
    · rw [if_neg h2] at h; simp at h
  · rw [if_neg h1] at h; exact absurd h h1
theorem numS_app {l m : List Int} {st : Int × Int} {n : Int} (h : (numS l st n).2 = 0) : st.2 = 0 ∧ numS (l ++ m) st n = numS l st n ∧ getF (l ++ m) st.1 n = getF l st.1 n := by
  by_cases hs : st.2 = 0
  · have h2 : (getF l st.1 n).2.2 = 0 := by unfold numS at h; rw [if_pos hs, if_pos hs] at h; exact h
    have hg := getF_app (m := m) h2
    exact ⟨hs, by unfold numS; rw [hg], hg⟩
  · rw [numS_err hs] at h; exact absurd h hs
theorem txtS_app {l m : List Int} {st : Int × Int} (h : (txtS l st).2 = 0) : st.2 = 0 ∧ txtS (l ++ m) st = txtS l st ∧ textF (l ++ m) st.1 = textF l st.1 ∧ (txtS l st).1 ≤ l.length := by
  by_cases hs : st.2 = 0
  · have h2 : (textF l st.1).2.2 = 0 := by unfold txtS at h; rw [if_pos hs, if_pos hs] at h; exact h
    have hg := textF_app (m := m) h2
    refine ⟨hs, by unfold txtS; rw [hg], hg, ?_⟩
    unfold txtS; rw [if_pos hs]; exact (textF_in h2).2.2
  · rw [txtS_err hs] at h; exact absurd h hs
theorem recsD_app {l m : List Int} : ∀ (n : Nat) (st : Int × Int), (recsD l n st).2.2 = 0 → recsD (l ++ m) n st = recsD l n st ∧ (st.1 ≤ l.length → (recsD l n st).2.1 ≤ l.length)
  | 0, st, _ => ⟨rfl, fun h => h⟩
  | n + 1, st, h => by
    by_cases hs : st.2 = 0
    · rw [recsD, if_pos hs] at h
      have h1 : (recS l st).2 = 0 := by
        refine Classical.byContradiction fun hne => ?_
        rw [recsD_err hne] at h
        exact hne h
      have x2 := txtS_app (m := m) (show (txtS l (txtS l (numS l st 1))).2 = 0 from h1)
      have x1 := txtS_app (m := m) x2.1
      have x0 := numS_app (m := m) x1.1
      have ih := recsD_app (m := m) n (recS l st) h
      have hS : recS (l ++ m) st = recS l st := by unfold recS; rw [x0.2.1, x1.2.1, x2.2.1]
      have hV : recV (l ++ m) st = recV l st := by unfold recV; rw [x0.2.1, x1.2.1, x2.2.2.1, x1.2.2.1, x0.2.2]
      rw [recsD, if_pos hs, recsD, if_pos hs, hS, hV, ih.1]
      exact ⟨rfl, fun _ => ih.2 x2.2.2.2⟩
    · rw [recsD, if_neg hs, recsD, if_neg hs]
      exact ⟨rfl, fun h => h⟩
theorem raw_app {l m : List Int} (h : (rawD l).2.2 = 0) : rawD (l ++ m) = rawD l ∧ (rawD l).2.1 ≤ l.length := by
  rcases heads l with ⟨hs, _⟩ | ⟨h18, e1, e2, e3, e4, e5, e6⟩
  · unfold rawD at h; rw [recsD_err hs] at h; exact absurd h hs
  · rcases heads (l ++ m) with ⟨_, hlt⟩ | ⟨_, f1, f2, f3, f4, f5, f6⟩
    · rw [List.length_append] at hlt; omega
    · have hg : (getF l 16 2).2.2 = 0 := by
        have := getF_in (l := l) (p := 16) (k := 2) (by omega) (by omega) (by omega) (by omega)
        rw [show ((2 : Nat) : Int) = 2 from rfl] at this
        rw [this]
      have hg2 := getF_app (m := m) hg
      unfold rawD cntD at h ⊢
      rw [e5, e6] at h
      rw [e5, e6, f5, f6, hg2]
      have := recsD_app (m := m) _ _ h
      exact ⟨this.1, this.2 (by simp; omega)⟩
theorem dec_back {k p e s : Int} {t : Bool} {l : List S47} (h : checkF k p e s t l = 0) : decF (encB k p e s t l) = (⟨k, p, e, s, t, l⟩, 0) := by
  have hb := raw_back (valid_of h) []
  rw [List.append_nil] at hb
  rw [decF_tail, hb.1, hb.2, if_neg (by simp)]
  unfold tailD encD encF
  rw [if_pos h, if_neg (by simp), if_pos rfl]
theorem dec_more {k p e s : Int} {t : Bool} {l : List S47} (h : checkF k p e s t l = 0) {m : List Int} (hm : m ≠ []) : (decF (encB k p e s t l ++ m)).2 = 22 := by
  have hb := raw_back (valid_of h) m
  rw [decF_tail, hb.1, hb.2, if_neg (by simp)]
  unfold tailD encD encF
  rw [if_pos h, if_neg (by simp), if_neg ?_]
  intro hq
  have := congrArg List.length hq
  simp only [strOf_length, List.length_append] at this
  exact hm (List.length_eq_zero_iff.1 (by omega))
theorem dec_short {k p e s : Int} {t : Bool} {l : List S47} (h : checkF k p e s t l = 0) {x m : List Int} (hx : x ++ m = encB k p e s t l) (hm : m ≠ []) : decF x = (zeroDec, 20) := by
  have hb := raw_back (valid_of h) []
  rw [List.append_nil] at hb
  rw [decF_tail, if_pos]
  intro hz
  have ha := raw_app (m := m) hz
  rw [hx, hb.1] at ha
  have h2 := ha.2
  rw [← ha.1] at h2
  have h3 := congrArg List.length hx
  rw [List.length_append] at h3
  have : m.length ≠ 0 := fun e => hm (List.length_eq_zero_iff.1 e)
  simp only at h2
  omega
theorem isB_textEnc (s : ByteArray) : isB (textEnc s).1 = true := by
  unfold textEnc
  split
  · rfl
  · exact isB_append (isB_lowL _ _) ((isB_iff _).2 (isBytes_bytesOf s))
theorem isB_flat : ∀ {ls : List (List Int)}, (∀ x ∈ ls, isB x = true) → isB ls.flatten = true
  | [], _ => rfl
  | x :: ls, h => by
    rw [List.flatten_cons]
    exact isB_append (h x List.mem_cons_self) (isB_flat fun y hy => h y (List.mem_cons_of_mem _ hy))
theorem isB_encB {k p e s : Int} {t : Bool} {l : List S47} (h : checkF k p e s t l = 0) : isB (encB k p e s t l) = true := by
  have hv := valid_of h
  obtain ⟨P, E, S, hP, hE, hS, hP2, hputs⟩ := hv.puts
  have hk : 0 ≤ k ∧ k < 256 := by rcases hv.kind with rfl | rfl | rfl <;> omega
  have hfl : 0 ≤ flagsF p t ∧ flagsF p t < 256 := by rw [flags_ev]; split <;> split <;> omega
  unfold encB
  rw [hputs, hv.head]
  refine isB_append (isB_append ((isB_iff _).2 fun x hx => ?_) (isB_flat fun x hx => ?_)) (isB_flat fun x hx => ?_)
  · simp only [List.mem_cons, List.not_mem_nil, or_false] at hx
    rcases hx with rfl | rfl <;> omega
  · simp only [List.mem_cons, List.not_mem_nil, or_false] at hx
    rcases hx with rfl | rfl | rfl | rfl <;> exact isB_lowL _ _
  · obtain ⟨r, _, rfl⟩ := List.mem_map.1 hx
    unfold recB
    refine isB_append ((isB_iff _).2 fun x hx => ?_) (isB_append (isB_textEnc _) (isB_textEnc _))
    simp only [List.mem_singleton] at hx
    subst hx
    unfold truthF; split <;> omega
theorem recsSame_eq : ∀ {a b : List S47}, recsSame a b = true → a = b
  | [], [], _ => rfl
  | x :: a, y :: b, h => by
    simp only [recsSame, recSame, Bool.and_eq_true, beq_iff_eq] at h
    obtain ⟨⟨h0, h1, h2⟩, h3⟩ := h
    rw [recsSame_eq h3]
    congr 1
    cases x; cases y
    simp only at h0 h1 h2
    rw [toList_inj h0, toList_inj h1, h2]
  | [], _ :: _, h => by simp [recsSame] at h
  | _ :: _, [], h => by simp [recsSame] at h
theorem recsSame_rfl : ∀ l : List S47, recsSame l l = true
  | [] => rfl
  | x :: l => by simp [recsSame, recSame, recsSame_rfl l]
theorem sameF_rfl (k p e s : Int) (t : Bool) (l : List S47) : sameF k p e s t l k p e s t l = true := by simp [sameF, recsSame_rfl]
theorem sameF_iff {k p e s : Int} {t : Bool} {l : List S47} {k' p' e' s' : Int} {t' : Bool} {l' : List S47} (h : sameF k p e s t l k' p' e' s' t' l' = true) : k = k' ∧ p = p' ∧ e = e' ∧ s = s' ∧ t = t' ∧ l = l' := by
  simp only [sameF, Bool.and_eq_true, decide_eq_true_eq] at h
  obtain ⟨⟨⟨⟨⟨h0, h1⟩, h2⟩, h3⟩, h4⟩, h5⟩ := h
  exact ⟨h0, h1, h2, h3, h4, recsSame_eq h5⟩
end Go.Proofs.Ythnmgbmpbhdfcaa.Hand
namespace Go.Proofs.Ythnmgbmpbhdfcaa.Hand
open Go.RowKit Go.Proofs.Ythnmgbmpbhdfcaa Go.Proofs.YthnmgbmpbhdfcaaW.PrintWords Go.Proofs.YthnmgbmpbhdfcaaW.PrintLast Go.Proofs.YthnmgbmpbhdfcaaW.PrintMore
set_option linter.unusedVariables false
set_option linter.unusedSimpArgs false
theorem infoB : (Try.prog.info? 5).map (fun i => (i.zero, i.size, i.bytes)) = some (some (.int .u8 0), 1, 1) := by kernel_rfl
/-! ### gazettelaw01_Lent: function 12 -/
def lent.f (l0 : List Int) : Option (List Int) := (some (([] : List Int) : List Int)).bind fun y101 => (if y101.length + l0.length < 140737488355328 then ((some (y101 ++ l0 : List Int)).bind fun y104 => ((some (([201, 202] : List Int) : List Int)).bind fun y107 => (if y104.length + y107.length < 140737488355328 then ((some (y104 ++ y107 : List Int)).bind fun y110 => (if 0 ≤ (l0.length : Int) then (if (l0.length : Int) ≤ (y110.length : Int) then (some (y110.take ((l0.length : Int) : Int).toNat)) else (none)) else (none))) else (none)))) else (none))
set_option maxHeartbeats 8000000 in
set_option maxRecDepth 100000 in
theorem Lent_calls0 (A0 : Option Addr) (c0 : Nat) (l0 : List Int) (r : List Int) (w : World) (hr0 : Kd.C (Kd.int .u8) w A0 l0.length l0) (hc0 : l0.length ≤ c0) (h : lent.f l0 = some r) :
    Calls Try.prog 20 #[.slice A0 l0.length c0] w fun e w' => ∃ (A : Option Addr) (c : Nat), e = .returned (.slice A l0.length c) ∧ Kd.R (Kd.int .u8) 5 w' w.heap.size (fun _ => True) (.slice A (l0.length + 2) c) (l0 ++ [201, 202]) ∧ Below w.heap.size w w' := by
  have HR0 := Aside0.mk hr0
  have HC0 := Aside0.mk hc0
  clear hr0 hc0
  have HB := Aside0.mk (Below.refl w.heap.size w)
  have H : ((some (([] : List Int) : List Int)).bind fun y101 => (if y101.length + l0.length < 140737488355328 then ((some (y101 ++ l0 : List Int)).bind fun y104 => ((some (([201, 202] : List Int) : List Int)).bind fun y107 => (if y104.length + y107.length < 140737488355328 then ((some (y104 ++ y107 : List Int)).bind fun y110 => (if 0 ≤ (l0.length : Int) then (if (l0.length : Int) ≤ (y110.length : Int) then (some (y110.take ((l0.length : Int) : Int).toNat)) else (none)) else (none))) else (none)))) else (none))) = some r := h
  clear h
  obtain ⟨y101, hy101⟩ : ∃ y_ : List Int, y_ = (([] : List Int)) := ⟨_, rfl⟩
  replace H : (if y101.length + l0.length < 140737488355328 then ((some (y101 ++ l0 : List Int)).bind fun y104 => ((some (([201, 202] : List Int) : List Int)).bind fun y107 => (if y104.length + y107.length < 140737488355328 then ((some (y104 ++ y107 : List Int)).bind fun y110 => (if 0 ≤ (l0.length : Int) then (if (l0.length : Int) ≤ (y110.length : Int) then (some (y110.take ((l0.length : Int) : Int).toNat)) else (none)) else (none))) else (none)))) else (none)) = some r := by first | (rw [hy101]; with_reducible exact H) | (have H2_ := (Option.bind_some _ _).symm.trans H; rw [hy101]; with_reducible exact H2_) | (have H2_ := (Option.bind_some _ _).symm.trans H; with_reducible exact H2_) | with_reducible exact H | (rw [hy101]; exact H) | exact H
  have Ny101 := Aside0.mk hy101
  clear hy101
  by_cases c2 : y101.length + l0.length < 140737488355328
  · rw [if_pos c2] at H
    have LMc2 := Aside0.mk c2
    clear c2
    obtain ⟨y104, hy104⟩ : ∃ y_ : List Int, y_ = (y101 ++ l0) := ⟨_, rfl⟩
    replace H : ((some (([201, 202] : List Int) : List Int)).bind fun y107 => (if y104.length + y107.length < 140737488355328 then ((some (y104 ++ y107 : List Int)).bind fun y110 => (if 0 ≤ (l0.length : Int) then (if (l0.length : Int) ≤ (y110.length : Int) then (some (y110.take ((l0.length : Int) : Int).toNat)) else (none)) else (none))) else (none))) = some r := by first | (rw [hy104]; with_reducible exact H) | (have H2_ := (Option.bind_some _ _).symm.trans H; rw [hy104]; with_reducible exact H2_) | (have H2_ := (Option.bind_some _ _).symm.trans H; with_reducible exact H2_) | with_reducible exact H | (rw [hy104]; exact H) | exact H
    have Ny104 := Aside0.mk hy104
    clear hy104
    obtain ⟨y107, hy107⟩ : ∃ y_ : List Int, y_ = (([201, 202] : List Int)) := ⟨_, rfl⟩
    replace H : (if y104.length + y107.length < 140737488355328 then ((some (y104 ++ y107 : List Int)).bind fun y110 => (if 0 ≤ (l0.length : Int) then (if (l0.length : Int) ≤ (y110.length : Int) then (some (y110.take ((l0.length : Int) : Int).toNat)) else (none)) else (none))) else (none)) = some r := by first | (rw [hy107]; with_reducible exact H) | (have H2_ := (Option.bind_some _ _).symm.trans H; rw [hy107]; with_reducible exact H2_) | (have H2_ := (Option.bind_some _ _).symm.trans H; with_reducible exact H2_) | with_reducible exact H | (rw [hy107]; exact H) | exact H
    have Ny107 := Aside0.mk hy107
    clear hy107
    by_cases c3 : y104.length + y107.length < 140737488355328
    · rw [if_pos c3] at H
      have LMc3 := Aside0.mk c3
      clear c3
      obtain ⟨y110, hy110⟩ : ∃ y_ : List Int, y_ = (y104 ++ y107) := ⟨_, rfl⟩
      replace H : (if 0 ≤ (l0.length : Int) then (if (l0.length : Int) ≤ (y110.length : Int) then (some (y110.take ((l0.length : Int) : Int).toNat)) else (none)) else (none)) = some r := by first | (rw [hy110]; with_reducible exact H) | (have H2_ := (Option.bind_some _ _).symm.trans H; rw [hy110]; with_reducible exact H2_) | (have H2_ := (Option.bind_some _ _).symm.trans H; with_reducible exact H2_) | with_reducible exact H | (rw [hy110]; exact H) | exact H
      have Ny110 := Aside0.mk hy110
      clear hy110
      by_cases c4 : 0 ≤ (l0.length : Int)
      · rw [if_pos c4] at H
        have c4b0 := eq_true c4
        have c4b1 : decide (0 ≤ (l0.length : Int)) = true := decide_eq_true c4
        clear c4
        by_cases c5 : (l0.length : Int) ≤ (y110.length : Int)
        · rw [if_pos c5] at H
          have c5b0 := eq_true c5
          have c5b1 : decide ((l0.length : Int) ≤ (y110.length : Int)) = true := decide_eq_true c5
          clear c5
          obtain ⟨y113, hy113⟩ : ∃ y_ : List Int, y_ = (y110.take ((l0.length : Int) : Int).toNat) := ⟨_, rfl⟩
          replace H : (some y113) = some r := by first | (rw [hy113]; with_reducible exact H) | (have H2_ := (Option.bind_some _ _).symm.trans H; rw [hy113]; with_reducible exact H2_) | (have H2_ := (Option.bind_some _ _).symm.trans H; with_reducible exact H2_) | with_reducible exact H | (rw [hy113]; exact H) | exact H
          have Ny113 := Aside0.mk hy113
          clear hy113
          obtain rfl := Option.some.inj H
          go_enter Try.func20, Try.ntmps20
          go_wp2_with (first | ((with_reducible refine gate_dst (N := 4) rfl ?_); refine Kd.R_lit (Kd.int .u8) _ 5 ?hg (N := 4) ?hd (xs := ([] : List Int)) (inner := []) (ok := fun _ => True) (okp := fun _ => True) ?hr ?hp (fun _ hk => hk) trivial (Below.refl _ _) (Nat.le_refl _) (by simp) ?_; (case hd => rfl); (case hg => rfl); (case hr => first | (go_simp; done) | (go_simp; rfl)); (case hp => exact (Reps.none _ _)); intro v102 w6 ho7 hb hg_ hnew_; clear hg_ hnew_; (first | rw [← Ny101.out] at ho7 | (simp only [Int.reduceToNat] at ho7; rw [← Ny101.out] at ho7)); have n0_ := Aside0.mk (Kd.R_lower ho7 (below_size (by repeat (first | (with_reducible first | exact HB.out | apply below_alloc | apply pw_below_drewN | apply below_drew1) | exact HB.out)))); have n1_ := Aside0.mk (below_step (by repeat (first | (with_reducible first | exact HB.out | apply below_alloc | apply pw_below_drewN | apply below_drew1) | exact HB.out)) hb); clear HB; have HO103 := n0_; have HB := n1_; clear n0_ n1_; clear hb ho7) | ((with_reducible refine gate_builtin (b := .append) (xs := #[.tmp 4, .tmp 5]) rfl ?_); at_builtin; refine Kd.R_append_rows (Kd.int .u8) (w0 := w) w.heap.size rfl (.tmp 4) (.tmp 5) 33 5 (.int .u8 0) 1 rfl Try.underlying33 infoB rfl (by decide) (by omega) v102 y101 l0 _ _ _ (fun _ => True) (fun _ => False) rfl rfl ?aO ?aR (fun _ _ h => h) (fun _ h => h.elim) ?aF ?aB ?aS ?aL ?_; (case aR => repeat (first | exact (Kd.C_below HR0.out HB.out) | (with_reducible refine Kd.C_alloc ?_ _) | (with_reducible refine Kd.C_drewN ?_ _) | (with_reducible refine Kd.C_drew ?_))); (case aB => exact (by repeat (first | (with_reducible first | exact HB.out | apply below_alloc | apply pw_below_drewN | apply below_drew1) | exact HB.out))); (case aF => exact (fun _ _ => trivial)); (case aO => exact (by (with_reducible repeat (first | apply Kd.R_alloc | apply Kd.R_drewN | apply Kd.R_drew)); exact HO103.out)); (case aS => exact (below_size (by repeat (first | (with_reducible first | exact HB.out | apply below_alloc | apply pw_below_drewN | apply below_drew1) | exact HB.out)))); (case aL => have := LMc2.out; omega); intro v105 w8 ho hb hg hat; rw [← Ny104.out] at ho; have n0_ := Aside0.mk (hb); have n1_ := Aside0.mk (ho); clear HB; clear HO103; have HB := n0_; have HO106 := n1_; clear n0_ n1_; clear ho hb hg hat) | ((with_reducible refine gate_dst (N := 8) rfl ?_); refine Kd.R_lit (Kd.int .u8) _ 5 ?hg (N := 8) ?hd (xs := ([201, 202] : List Int)) (inner := [.int .u8 201, .int .u8 202]) (ok := fun _ => True) (okp := fun _ => True) ?hr ?hp (fun _ hk => hk) trivial (Below.refl _ _) (Nat.le_refl _) (by simp) ?_; (case hd => rfl); (case hg => rfl); (case hr => first | (go_simp; done) | (go_simp; rfl)); (case hp => exact (Reps.one (show Kd.M (Kd.int .u8) _ _ _ 201 [.int .u8 201] from rfl) (Reps.one (show Kd.M (Kd.int .u8) _ _ _ 202 [.int .u8 202] from rfl) (Reps.none _ _)))); intro v108 w9 ho10 hb hg_ hnew_; clear hg_ hnew_; (first | rw [← Ny107.out] at ho10 | (simp only [Int.reduceToNat] at ho10; rw [← Ny107.out] at ho10)); have n0_ := Aside0.mk (Kd.R_elder' (by (with_reducible repeat (first | apply Kd.R_alloc | apply Kd.R_drewN | apply Kd.R_drew)); exact HO106.out) (Kd.R_base ho10) hb); have n1_ := Aside0.mk (Kd.R_lower (Kd.R_new' ho10 (Kd.R_lt (by (with_reducible repeat (first | apply Kd.R_alloc | apply Kd.R_drewN | apply Kd.R_drew)); exact HO106.out))) (below_size (by repeat (first | (with_reducible first | exact HB.out | apply below_alloc | apply pw_below_drewN | apply below_drew1) | exact HB.out)))); have n2_ := Aside0.mk (below_step (by repeat (first | (with_reducible first | exact HB.out | apply below_alloc | apply pw_below_drewN | apply below_drew1) | exact HB.out)) hb); clear HO106; clear HB; have HO106 := n0_; have HO109 := n1_; have HB := n2_; clear n0_ n1_ n2_; clear hb ho10; obtain ⟨Ao12, co12, eo12⟩ := Kd.R_slice HO109.out; subst eo12) | ((with_reducible refine gate_builtin (b := .append) (xs := #[.tmp 7, .tmp 8]) rfl ?_); at_builtin; refine Kd.R_append_rows (Kd.int .u8) (w0 := w) w.heap.size rfl (.tmp 7) (.tmp 8) 33 5 (.int .u8 0) 1 rfl Try.underlying33 infoB rfl (by decide) (by omega) v105 y104 y107 _ _ _ (fun k_ => some k_ ≠ (.slice Ao12 y107.length co12 : Value).ownBlock) (fun _ => False) rfl rfl ?aO ?aR (fun _ _ h => h) (fun _ h => h.elim) ?aF ?aB ?aS ?aL ?_; (case aR => repeat (first | exact (Kd.R_reads' HO109.out).2.2 | (with_reducible refine Kd.C_alloc ?_ _) | (with_reducible refine Kd.C_drewN ?_ _) | (with_reducible refine Kd.C_drew ?_))); (case aB => exact (by repeat (first | (with_reducible first | exact HB.out | apply below_alloc | apply pw_below_drewN | apply below_drew1) | exact HB.out))); (case aF => exact (fun k_ hk => Kd.fresh' (Kd.R_lt (by (with_reducible repeat (first | apply Kd.R_alloc | apply Kd.R_drewN | apply Kd.R_drew)); exact HO109.out)) k_ hk)); (case aO => exact (by (with_reducible repeat (first | apply Kd.R_alloc | apply Kd.R_drewN | apply Kd.R_drew)); exact Kd.R_mono HO106.out (fun _ hk => hk.2))); (case aS => exact (below_size (by repeat (first | (with_reducible first | exact HB.out | apply below_alloc | apply pw_below_drewN | apply below_drew1) | exact HB.out)))); (case aL => have := LMc3.out; omega); intro v111 w11 ho hb hg hat; rw [← Ny110.out] at ho; have n0_ := Aside0.mk (Kd.R_after (ok := (fun _ => True)) (by (with_reducible repeat (first | apply Kd.R_alloc | apply Kd.R_drewN | apply Kd.R_drew)); exact HO109.out) hg hat); have n1_ := Aside0.mk (hb); have n2_ := Aside0.mk (ho); clear HO109; clear HB; clear HO106; have HO109 := n0_; have HB := n1_; have HO112 := n2_; clear n0_ n1_ n2_; clear ho hb hg hat; obtain ⟨Ao13, co13, eo13⟩ := Kd.R_slice HO112.out; subst eo13; have q14 : ((l0.length : Int) : Int) ≤ ((y110.length : Int) : Int) := of_decide_eq_true (by first | (with_reducible assumption) | assumption); obtain ⟨i014, hi014, _, hsz14, _⟩ := info_parts infoB; have hcut14 := cut_to (P := Try.prog) 33 5 .i64 Try.underlying33 hi014 Ao13 y110.length co13 (l0.length : Int) (of_decide_eq_true (by first | (with_reducible assumption) | assumption)) q14 (Kd.R_reads' HO112.out).2.1; have hr14 := Kd.R_take (m := ((l0.length : Int) : Int).toNat) HO112.out (by omega); have hy14 : y113.length = ((l0.length : Int) : Int).toNat := (by rw [Ny113.out, List.length_take]; omega); rw [← Ny113.out] at hr14; rw [← hy14] at hr14 hcut14; clear hi014 hsz14; have HY14 := Aside0.mk hy14; clear hy14; clear hr14; replace q14 := eq_true q14))
          go_ret
          have e110 : y110 = l0 ++ [201, 202] := by rw [Ny110.out, Ny104.out, Ny101.out, Ny107.out, List.nil_append]
          have h113 : y113.length = l0.length := by rw [HY14.out, Int.toNat_natCast]
          subst e110
          exact ⟨Ao13, co13, ret_slice h113, (by have h := Kd.R_mono (ok' := fun _ => True) HO112.out (fun _ _ => trivial); rwa [List.length_append] at h), by repeat (first | (with_reducible first | exact HB.out | apply below_alloc | apply pw_below_drewN | apply below_drew1) | exact HB.out)⟩
        · rw [if_neg c5] at H
          exact absurd H (by simp)
      · rw [if_neg c4] at H
        exact absurd H (by simp)
    · rw [if_neg c3] at H
      exact absurd H (by simp)
  · rw [if_neg c2] at H
    exact absurd H (by simp)

theorem Lent_calls (A0 : Option Addr) (c0 : Nat) (l0 : List Int) (w : World) (hr0 : Kd.C (Kd.int .u8) w A0 l0.length l0) (hc0 : l0.length ≤ c0) (h : l0.length ≤ 140737488351232) :
    Calls Try.prog 20 #[.slice A0 l0.length c0] w fun e w' => ∃ (A : Option Addr) (c : Nat), e = .returned (.slice A l0.length c) ∧ l0.length + 2 ≤ c ∧ Kd.C (Kd.int .u8) w' A (l0.length + 2) (l0 ++ [201, 202]) ∧ Below w.heap.size w w' := by
  refine (Lent_calls0 A0 c0 l0 l0 w hr0 hc0 ?_).mono ?_
  · unfold lent.f
    rw [Option.bind_some, if_pos (by rw [List.length_nil]; omega), Option.bind_some, Option.bind_some, if_pos (by rw [List.nil_append, show ([201, 202] : List Int).length = 2 from rfl]; omega), Option.bind_some, if_pos (by omega), if_pos (by simp; omega), Int.toNat_natCast]
    simp
  · rintro e w' ⟨A, c, he, hr, hb⟩
    obtain ⟨-, h1, h2⟩ := Kd.R_reads' hr
    rw [List.length_append] at h2
    exact ⟨A, c, he, h1, h2, hb⟩
/-- The lent bytes themselves. -/
theorem C_lent {W : World} {A : Option Addr} {l : List Int} (h : Kd.C (Kd.int .u8) W A (l.length + 2) (l ++ [201, 202])) : Kd.C (Kd.int .u8) W A l.length l := by
  have h' : Kd.C (Kd.int .u8) W A (l ++ [201, 202]).length (l ++ [201, 202]) := by rw [List.length_append]; exact h
  have := Kd.C_take (m := l.length) h' (by simp)
  rwa [List.take_left] at this
set_option maxHeartbeats 1000000 in
theorem Stays_calls (A : Option Addr) (c : Nat) (A1 : Option Addr) (c1 : Nat) (l : List Int) (w : World) (hr : Kd.C (Kd.int .u8) w A (l.length + 2) (l ++ [201, 202])) (hc : l.length + 2 ≤ c) (hr1 : Kd.C (Kd.int .u8) w A1 l.length l) :
    Calls Try.prog 23 #[.slice A l.length c, .slice A1 l.length c1] w fun e w' => e = .returned (.bool true) ∧ Drawn0 w w' := by
  have hmax : l.length + 2 ≤ 9223372036854775807 := Kd.C_max hr
  have hl := C_lent hr
  have hs1 := fun m => Kd.C_string (P := Try.prog) (c := c) (dst := 9) Try.underlying33 Try.underlying5 Try.underlying9 (Kd.C_drewN hl m)
  have hs2 := fun m => Kd.C_string (P := Try.prog) (c := c1) (dst := 9) Try.underlying33 Try.underlying5 Try.underlying9 (Kd.C_drewN hr1 m)
  obtain ⟨ad, rfl, g1⟩ := Kd.at_int hr (l.length : Int) (by omega) (by omega)
  obtain ⟨ad', e', g2⟩ := Kd.at_int hr ((l.length + 1 : Nat) : Int) (by omega) (by omega)
  injection e' with e'
  subst e'
  rw [show rd (l ++ [201, 202]) (l.length : Int) = 201 by simp [rd], Int.toNat_natCast] at g1
  rw [show rd (l ++ [201, 202]) ((l.length + 1 : Nat) : Int) = 202 by simp [rd], Int.toNat_natCast] at g2
  have g3 : w.cell? ⟨ad.block, ad.off + (l.length + 1), none⟩ = some (.int .u8 202) := by
    have h := g2
    unfold Addr.add at h
    rw [if_neg (by omega)] at h
    exact h
  clear hr hr1 hl
  go_enter Try.func23, Try.ntmps23
  go_wp2_with fail
  go_quiet (fail)
  go_wp2_with fail
  go_ret
  exact ⟨rfl, by repeat (first | exact Drawn0.refl _ | apply Drawn0.step)⟩
end Go.Proofs.Ythnmgbmpbhdfcaa.Hand
namespace Go.Proofs.Ythnmgbmpbhdfcaa.Hand
open Go.RowKit Go.Proofs.Ythnmgbmpbhdfcaa Go.Proofs.YthnmgbmpbhdfcaaW.PrintWords Go.Proofs.YthnmgbmpbhdfcaaW.PrintMore Go.Proofs.Ythnmgbmpbhdfcaa.B0

theorem copied_ev0 (k p e s : Int) (t : Bool) (l : List S47) (h : l.length * 40 ≤ 140737488351232) : gazettelaw02_Copied.f k p e s t l = some (k, p, e, s, t, l) := by
  unfold gazettelaw02_Copied.f
  rw [Option.bind_some, if_pos (by rw [List.length_nil]; omega), List.nil_append]
theorem copied_c (k p e s : Int) (t : Bool) (A : Option Addr) (c : Nat) (l : List S47) (W : World) (hr : Kd.C k47 W A l.length l) (hc : l.length ≤ c) (h : l.length * 40 ≤ 140737488351232) :
    Calls Try.prog 10 #[.agg #[.int .i64 k, .int .i64 p, .int .i64 e, .int .i64 s, .bool t, .slice A l.length c]] W fun e' W' => ∃ (A' : Option Addr) (c' : Nat), e' = .returned (.agg #[.int .i64 k, .int .i64 p, .int .i64 e, .int .i64 s, .bool t, .slice A' l.length c']) ∧ l.length ≤ c' ∧ Kd.C k47 W' A' l.length l ∧ Below W.heap.size W W' := by
  refine (gazettelaw02_Copied.calls _ _ _ _ _ _ _ _ _ _ _ _ _ _ W hr hc (copied_ev0 k p e s t l h)).mono ?_
  rintro e' W' ⟨v, rfl, hR, hb⟩
  obtain ⟨A', c', rfl⟩ := Kd.R_slice hR
  exact ⟨A', c', rfl, (Kd.R_reads' hR).2.1, (Kd.R_reads' hR).2.2, hb⟩
theorem encode_c (k p e s : Int) (t : Bool) (A : Option Addr) (c : Nat) (l : List S47) (W : World) (hr : Kd.C k47 W A l.length l) (hc : l.length ≤ c) :
    Calls Try.prog 18 #[.agg #[.int .i64 k, .int .i64 p, .int .i64 e, .int .i64 s, .bool t, .slice A l.length c]] W fun e' W' => ∃ (A' : Option Addr) (c' : Nat), e' = .returned (.tuple #[.slice A' (encF k p e s t l).1.length c', .int .i64 (encF k p e s t l).2]) ∧ (encF k p e s t l).1.length ≤ c' ∧ Kd.C (Kd.int .u8) W' A' (encF k p e s t l).1.length (encF k p e s t l).1 ∧ Below W.heap.size W W' := by
  refine (Encode_calls k p e s t A c l W hr hc).mono ?_
  rintro e' W' ⟨v, rfl, hR, hb⟩
  obtain ⟨A', c', rfl⟩ := Kd.R_slice hR
  exact ⟨A', c', rfl, (Kd.R_reads' hR).2.1, (Kd.R_reads' hR).2.2, hb⟩
theorem decode_c (A : Option Addr) (c : Nat) (x : List Int) (W : World) (hr : Kd.C (Kd.int .u8) W A x.length x) (hc : x.length ≤ c) (hb : isB x = true) :
    Calls Try.prog 21 #[.slice A x.length c] W fun e' W' => ∃ (A' : Option Addr) (c' : Nat), e' = .returned (.tuple #[.agg #[.int .i64 (decF x).1.k, .int .i64 (decF x).1.p, .int .i64 (decF x).1.e, .int .i64 (decF x).1.s, .bool (decF x).1.t, .slice A' (decF x).1.l.length c'], .int .i64 (decF x).2]) ∧ (decF x).1.l.length ≤ c' ∧ Kd.C k47 W' A' (decF x).1.l.length (decF x).1.l ∧ Below W.heap.size W W' := by
  refine (Decode_calls A c x W hr hc hb).mono ?_
  rintro e' W' ⟨v, rfl, hR, hb⟩
  obtain ⟨A', c', rfl⟩ := Kd.R_slice hR
  exact ⟨A', c', rfl, (Kd.R_reads' hR).2.1, (Kd.R_reads' hR).2.2, hb⟩
theorem refDecode_c (A : Option Addr) (c : Nat) (x : List Int) (W : World) (hr : Kd.C (Kd.int .u8) W A x.length x) (hc : x.length ≤ c) (hb : isB x = true) (hl : x.length ≤ 140737488355328) :
    Calls Try.prog 22 #[.slice A x.length c] W fun e' W' => ∃ (A' : Option Addr) (c' : Nat), e' = .returned (.tuple #[.agg #[.int .i64 (decF x).1.k, .int .i64 (decF x).1.p, .int .i64 (decF x).1.e, .int .i64 (decF x).1.s, .bool (decF x).1.t, .slice A' (decF x).1.l.length c'], .int .i64 (decF x).2]) ∧ (decF x).1.l.length ≤ c' ∧ Kd.C k47 W' A' (decF x).1.l.length (decF x).1.l ∧ Below W.heap.size W W' := by
  refine (refDecode.calls A c x (decF x).1.k (decF x).1.p (decF x).1.e (decF x).1.s (decF x).1.t (decF x).1.l (decF x).2 W hr hc (by unfold refDecode.f; exact if_pos ⟨hb, hl⟩)).mono ?_
  rintro e' W' ⟨v, rfl, hR, hb⟩
  obtain ⟨A', c', rfl⟩ := Kd.R_slice hR
  exact ⟨A', c', rfl, (Kd.R_reads' hR).2.1, (Kd.R_reads' hR).2.2, hb⟩
theorem same_c (k p e s : Int) (t : Bool) (A : Option Addr) (c : Nat) (l : List S47) (k' p' e' s' : Int) (t' : Bool) (A' : Option Addr) (c' : Nat) (l' : List S47) (W : World) (hr : Kd.C k47 W A l.length l) (hc : l.length ≤ c) (hr' : Kd.C k47 W A' l'.length l') (hc' : l'.length ≤ c') :
    Calls Try.prog 16 #[.agg #[.int .i64 k, .int .i64 p, .int .i64 e, .int .i64 s, .bool t, .slice A l.length c], .agg #[.int .i64 k', .int .i64 p', .int .i64 e', .int .i64 s', .bool t', .slice A' l'.length c']] W fun x W' => x = .returned (.bool (sameF k p e s t l k' p' e' s' t' l')) ∧ Below W.heap.size W W' :=
  lawSame.calls _ _ _ _ _ _ _ _ _ _ _ _ _ _ _ _ _ W hr hc hr' hc' rfl
theorem knows_c (W : World) : Calls Try.prog 17 #[] W fun e' W' => e' = .returned (.bool true) ∧ Below W.heap.size W W' := lawKnows.calls _ W rfl
theorem num_c2 (a : Int) (W : World) : Calls Try.prog 11 #[.int .i64 a] W fun e' W' => e' = .returned (.int .i64 a) ∧ Below W.heap.size W W' :=
  (gazettelaw02_num.calls a a W rfl).mono fun _ _ ⟨h, hd⟩ => ⟨h, hd.below⟩
theorem conv_c {W : World} {A : Option Addr} {x : List Int} (c : Nat) (h : Kd.C (Kd.int .u8) W A x.length x) : (convert 33 9 (.slice A x.length c)).run Try.prog W = .ok (.string (strOfNums x)) W :=
  Kd.C_string (P := Try.prog) (src := 33) (dst := 9) (e := 5) (by kernel_rfl) (by kernel_rfl) (by kernel_rfl) h
theorem encF_cases (k p e s : Int) (t : Bool) (l : List S47) : (checkF k p e s t l = 0 ∧ encF k p e s t l = (encB k p e s t l, 0)) ∨ (checkF k p e s t l ≠ 0 ∧ encF k p e s t l = ([], checkF k p e s t l)) := by
  unfold encF
  by_cases hc : checkF k p e s t l = 0
  · rw [if_pos hc]; exact .inl ⟨hc, rfl⟩
  · rw [if_neg hc]; exact .inr ⟨hc, rfl⟩
theorem decF_cases (x : List Int) : ((decF x).2 ≠ 0 ∧ (decF x).1 = zeroDec) ∨ ((decF x).2 = 0 ∧ (encD (decF x).1).2 = 0 ∧ (strOfNums (encD (decF x).1).1).toList = (strOfNums x).toList) := by
  rw [decF_tail]
  by_cases h1 : (rawD x).2.2 ≠ 0
  · rw [if_pos h1]; exact .inl ⟨by simp, rfl⟩
  · rw [if_neg h1]
    unfold tailD
    by_cases h2 : (encD (madeD x)).2 ≠ 0
    · rw [if_pos h2]; exact .inl ⟨by simp, rfl⟩
    · rw [if_neg h2]
      by_cases h3 : (strOfNums (encD (madeD x)).1).toList = (strOfNums x).toList
      · rw [if_pos h3]; exact .inr ⟨rfl, Classical.not_not.1 h2, h3⟩
      · rw [if_neg h3]; exact .inl ⟨by simp, rfl⟩
theorem apart {k p e s : Int} {t : Bool} {l : List S47} {k' p' e' s' : Int} {t' : Bool} {l' : List S47} (h : checkF k p e s t l = 0) (h' : checkF k' p' e' s' t' l' = 0) :
    ((strOfNums (encB k p e s t l)).toList == (strOfNums (encB k' p' e' s' t' l')).toList) = sameF k p e s t l k' p' e' s' t' l' := by
  cases hs : sameF k p e s t l k' p' e' s' t' l'
  · rw [beq_eq_false_iff_ne]
    intro hq
    have hx := strOf_inj (isB_encB h) (isB_encB h') hq
    have d1 := dec_back h
    rw [hx, dec_back h'] at d1
    simp only [Prod.mk.injEq, Dec.mk.injEq, and_true] at d1
    obtain ⟨rfl, rfl, rfl, rfl, rfl, rfl⟩ := d1
    rw [sameF_rfl] at hs; cases hs
  · obtain ⟨rfl, rfl, rfl, rfl, rfl, rfl⟩ := sameF_iff hs
    simp
set_option maxHeartbeats 2000000 in
set_option maxRecDepth 100000 in
/-- BatchDecodes: it answers true. -/
theorem lawDecodes (A0 : Option Addr) (c0 : Nat) (x : List Int) (w : World) (hr0 : Kd.C (Kd.int .u8) w A0 x.length x) (hc0 : x.length ≤ c0) (hb : isB x = true) (hl : x.length ≤ 140737488351232) :
    Calls Try.prog 7 #[.slice A0 x.length c0] w fun e w' => e = .returned (.bool true) ∧ Below w.heap.size w w' := by
  have HR := Aside0.mk hr0
  have HS := Aside0.mk (sameF_rfl (decF x).1.k (decF x).1.p (decF x).1.e (decF x).1.s (decF x).1.t (decF x).1.l)
  clear hr0
  go_enter Try.func7, Try.ntmps7
  go_wp2_with fail
  refine (Lent_calls A0 c0 x w HR.out hc0 hl).mono ?_
  rintro e w1 ⟨A1, c1, rfl, hc1, hr1, hb1⟩
  have HR1 := Aside0.mk hr1
  have HB1 := Aside0.mk hb1
  clear hr1 hb1
  go_wp2_with fail
  refine (decode_c A1 c1 x w1 (C_lent HR1.out) (by omega) hb).mono ?_
  rintro e w2 ⟨A2, c2, rfl, hc2, hr2, hb2⟩
  have HR1' := Aside0.mk (Kd.C_below HR1.out hb2)
  have HR2 := Aside0.mk hr2
  have HB2 := Aside0.mk (below_step HB1.out hb2)
  clear hr2 hb2 HR1 HB1
  go_wp2_with fail
  have BK2 := Aside0.mk (heap_alloc_new w2 (.cells #[.int .i64 (decF x).1.k, .int .i64 (decF x).1.p, .int .i64 (decF x).1.e, .int .i64 (decF x).1.s, .bool (decF x).1.t, .slice A2 (decF x).1.l.length c2] 24 (0, 0)))
  have HB3 := Aside0.mk (below_alloc HB2.out (.cells #[.int .i64 (decF x).1.k, .int .i64 (decF x).1.p, .int .i64 (decF x).1.e, .int .i64 (decF x).1.s, .bool (decF x).1.t, .slice A2 (decF x).1.l.length c2] 24 (0, 0)))
  refine (refDecode_c A0 c0 x _ (Kd.C_below HR.out HB3.out) hc0 hb (by omega)).mono ?_
  rintro e w3 ⟨A3, c3, rfl, hc3, hr3, hb3⟩
  have HR3 := Aside0.mk hr3
  have HB4 := Aside0.mk (below_step HB3.out hb3)
  have BK3 := Aside0.mk (blk_below BK2.out hb3)
  have HR2' := Aside0.mk (Kd.C_below (Kd.C_alloc HR2.out _) hb3)
  have HR1'' := Aside0.mk (Kd.C_below (Kd.C_alloc HR1'.out _) hb3)
  clear hr3 hb3 BK2 HR2 HR1' HB2 HB3
  generalize decF x = D at *
  obtain ⟨⟨k, p, e, s, t, rs⟩, f⟩ := D
  dsimp only at *
  generalize w2.heap.size = g2 at BK3 ⊢
  obtain ⟨b0, b1, b2, b3, b4, b5⟩ := b_cells (k := k) (p := p) (e := e) (s := s) (t := t) (A := A2) (n := rs.length) (c := c2) BK3.out
  obtain ⟨z0, z1, z2, z3, z4, z5⟩ := b_cells (k := k) (p := p) (e := e) (s := s) (t := t) (A := A2) (n := rs.length) (c := c2) (blk_alloc BK3.out (.cells #[.int .i64 k, .int .i64 p, .int .i64 e, .int .i64 s, .bool t, .slice A3 rs.length c3] 24 (0, 0)))
  go_wp2_with fail
  clear z0 z1 z2 z3 z4 z5
  have HR2'' := Aside0.mk (Kd.C_alloc HR2'.out (.cells #[.int .i64 k, .int .i64 p, .int .i64 e, .int .i64 s, .bool t, .slice A3 rs.length c3] 24 (0, 0)))
  have HR3'' := Aside0.mk (Kd.C_alloc HR3.out (.cells #[.int .i64 k, .int .i64 p, .int .i64 e, .int .i64 s, .bool t, .slice A3 rs.length c3] 24 (0, 0)))
  have HR1c := Aside0.mk (Kd.C_alloc HR1''.out (.cells #[.int .i64 k, .int .i64 p, .int .i64 e, .int .i64 s, .bool t, .slice A3 rs.length c3] 24 (0, 0)))
  have HB5 := Aside0.mk (below_alloc HB4.out (.cells #[.int .i64 k, .int .i64 p, .int .i64 e, .int .i64 s, .bool t, .slice A3 rs.length c3] 24 (0, 0)))
  clear b0 b1 b2 b3 b4 b5
  refine (same_c k p e s t A2 c2 rs k p e s t A3 c3 rs _ HR2''.out hc2 HR3''.out hc3).mono ?_
  rintro e' w4 ⟨rfl, hb4⟩
  rw [HS.out]
  have HB6 := Aside0.mk (below_step HB5.out hb4)
  have HR1d := Aside0.mk (Kd.C_below HR1c.out hb4)
  clear hb4 HB5 HR1c HR2'' HR3'' HR2' HR3 HR1'' HB4 BK3
  go_wp2_with fail
  refine (num_c2 f w4).mono ?_
  rintro e' w5 ⟨rfl, hb5⟩
  have HB7 := Aside0.mk (below_step HB6.out hb5)
  have HR1e := Aside0.mk (Kd.C_below HR1d.out hb5)
  clear hb5 HB6 HR1d
  go_wp2_with fail
  refine (Stays_calls A1 c1 A0 c0 x w5 HR1e.out hc1 (Kd.C_below HR.out HB7.out)).mono ?_
  rintro e' w6 ⟨rfl, hd6⟩
  have HB8 := Aside0.mk (below_step HB7.out hd6.below)
  clear hd6 HB7 HR1e
  go_wp2_with fail
  refine (knows_c w6).mono ?_
  rintro e' w7 ⟨rfl, hb7⟩
  have HB9 := Aside0.mk (below_step HB8.out hb7)
  clear hb7 HB8
  go_wp2_with fail
  go_ret
  exact ⟨rfl, HB9.out⟩
end Go.Proofs.Ythnmgbmpbhdfcaa.Hand
namespace Go.Proofs.Ythnmgbmpbhdfcaa.Hand
open Go.RowKit Go.Proofs.Ythnmgbmpbhdfcaa Go.Proofs.YthnmgbmpbhdfcaaW.PrintWords Go.Proofs.YthnmgbmpbhdfcaaW.PrintMore Go.Proofs.Ythnmgbmpbhdfcaa.B0
set_option linter.unusedVariables false
set_option linter.unusedSimpArgs false

set_option maxHeartbeats 2000000 in
set_option maxRecDepth 100000 in
theorem lawBack (k p e s : Int) (t : Bool) (A0 : Option Addr) (c0 : Nat) (l : List S47) (A1 : Option Addr) (c1 : Nat) (x : List Int) (w : World) (hr0 : Kd.C k47 w A0 l.length l) (hc0 : l.length ≤ c0) (hl : l.length * 40 ≤ 140737488351232)
    (hr1 : Kd.C (Kd.int .u8) w A1 x.length x) (hc1 : x.length ≤ c1) (hb : isB x = true) (hx : x.length ≤ 140737488351232) :
    Calls Try.prog 8 #[.agg #[.int .i64 k, .int .i64 p, .int .i64 e, .int .i64 s, .bool t, .slice A0 l.length c0], .slice A1 x.length c1] w fun e w' => e = .returned (.bool true) ∧ Below w.heap.size w w' := by
  have HR0 := Aside0.mk (hr0)
  have HR1 := Aside0.mk (hr1)
  have HB := Aside0.mk (Below.refl w.heap.size w)
  clear hr0 hr1
  go_enter Try.func8, Try.ntmps8
  have HR0_ := Aside0.mk (Kd.C_alloc HR0.out (.cells #[.int .i64 k, .int .i64 p, .int .i64 e, .int .i64 s, .bool t, .slice A0 l.length c0] 24 (0, 0)))
  have HR1_ := Aside0.mk (Kd.C_alloc HR1.out (.cells #[.int .i64 k, .int .i64 p, .int .i64 e, .int .i64 s, .bool t, .slice A0 l.length c0] 24 (0, 0)))
  have HB_ := Aside0.mk (below_alloc HB.out (.cells #[.int .i64 k, .int .i64 p, .int .i64 e, .int .i64 s, .bool t, .slice A0 l.length c0] 24 (0, 0)))
  clear HR0 HR1 HB
  have HR0 := HR0_
  have HR1 := HR1_
  have HB := HB_
  clear HR0_ HR1_ HB_
  have BK := Aside0.mk (heap_alloc_new w (.cells #[.int .i64 k, .int .i64 p, .int .i64 e, .int .i64 s, .bool t, .slice A0 l.length c0] 24 (0, 0)))
  obtain ⟨b0, b1, b2, b3, b4, b5⟩ := b_cells (k := k) (p := p) (e := e) (s := s) (t := t) (A := A0) (n := l.length) (c := c0) BK.out
  go_wp2_with fail
  refine (copied_c k p e s t A0 c0 l _ HR0.out hc0 hl).mono ?_
  rintro e' w1_ ⟨A2, c2, rfl, hc2, q_HR2, hb_⟩
  have HR0_ := Aside0.mk (Kd.C_below HR0.out hb_)
  have HR1_ := Aside0.mk (Kd.C_below HR1.out hb_)
  have HB_ := Aside0.mk (below_step HB.out hb_)
  have BK_ := Aside0.mk (blk_below BK.out hb_)
  clear HR0 HR1 HB BK
  have HR0 := HR0_
  have HR1 := HR1_
  have HB := HB_
  have BK := BK_
  clear HR0_ HR1_ HB_ BK_
  clear hb_
  have HR2 := Aside0.mk (q_HR2)
  clear q_HR2
  clear b0 b1 b2 b3 b4 b5
  go_wp2_with fail
  refine (encode_c k p e s t A2 c2 l _ HR2.out hc2).mono ?_
  rintro e' w2_ ⟨A3, c3, rfl, hc3, q_HR3, hb_⟩
  have HR0_ := Aside0.mk (Kd.C_below HR0.out hb_)
  have HR1_ := Aside0.mk (Kd.C_below HR1.out hb_)
  have HB_ := Aside0.mk (below_step HB.out hb_)
  have BK_ := Aside0.mk (blk_below BK.out hb_)
  have HR2_ := Aside0.mk (Kd.C_below HR2.out hb_)
  clear HR0 HR1 HB BK HR2
  have HR0 := HR0_
  have HR1 := HR1_
  have HB := HB_
  have BK := BK_
  have HR2 := HR2_
  clear HR0_ HR1_ HB_ BK_ HR2_
  clear hb_
  have HR3 := Aside0.mk (q_HR3)
  clear q_HR3
  clear HR2
  rcases encF_cases k p e s t l with ⟨hk, he⟩ | ⟨hk, he⟩
  · rw [he] at hc3 HR3 ⊢
    dsimp only at hc3 HR3 ⊢
    go_wp2_with fail
    refine (num_c2 0 _).mono ?_
    rintro e' w3_ ⟨rfl, hb_⟩
    have HR0_ := Aside0.mk (Kd.C_below HR0.out hb_)
    have HR1_ := Aside0.mk (Kd.C_below HR1.out hb_)
    have HB_ := Aside0.mk (below_step HB.out hb_)
    have BK_ := Aside0.mk (blk_below BK.out hb_)
    have HR3_ := Aside0.mk (Kd.C_below HR3.out hb_)
    clear HR0 HR1 HB BK HR3
    have HR0 := HR0_
    have HR1 := HR1_
    have HB := HB_
    have BK := BK_
    have HR3 := HR3_
    clear HR0_ HR1_ HB_ BK_ HR3_
    clear hb_
    go_wp2_with fail
    refine (decode_c A3 c3 (encB k p e s t l) _ HR3.out hc3 (isB_encB hk)).mono ?_
    rintro e' w4_ ⟨A4, c4, rfl, hc4, q_HR4, hb_⟩
    have HR0_ := Aside0.mk (Kd.C_below HR0.out hb_)
    have HR1_ := Aside0.mk (Kd.C_below HR1.out hb_)
    have HB_ := Aside0.mk (below_step HB.out hb_)
    have BK_ := Aside0.mk (blk_below BK.out hb_)
    have HR3_ := Aside0.mk (Kd.C_below HR3.out hb_)
    clear HR0 HR1 HB BK HR3
    have HR0 := HR0_
    have HR1 := HR1_
    have HB := HB_
    have BK := BK_
    have HR3 := HR3_
    clear HR0_ HR1_ HB_ BK_ HR3_
    clear hb_
    have HR4 := Aside0.mk (q_HR4)
    clear q_HR4
    rw [dec_back hk] at hc4 HR4 ⊢
    dsimp only at hc4 HR4 ⊢
    go_wp2_with fail
    have HR0_ := Aside0.mk (Kd.C_alloc HR0.out (.cells #[.int .i64 k, .int .i64 p, .int .i64 e, .int .i64 s, .bool t, .slice A4 l.length c4] 24 (0, 0)))
    have HR1_ := Aside0.mk (Kd.C_alloc HR1.out (.cells #[.int .i64 k, .int .i64 p, .int .i64 e, .int .i64 s, .bool t, .slice A4 l.length c4] 24 (0, 0)))
    have HB_ := Aside0.mk (below_alloc HB.out (.cells #[.int .i64 k, .int .i64 p, .int .i64 e, .int .i64 s, .bool t, .slice A4 l.length c4] 24 (0, 0)))
    have BK_ := Aside0.mk (blk_alloc BK.out (.cells #[.int .i64 k, .int .i64 p, .int .i64 e, .int .i64 s, .bool t, .slice A4 l.length c4] 24 (0, 0)))
    have HR3_ := Aside0.mk (Kd.C_alloc HR3.out (.cells #[.int .i64 k, .int .i64 p, .int .i64 e, .int .i64 s, .bool t, .slice A4 l.length c4] 24 (0, 0)))
    have HR4_ := Aside0.mk (Kd.C_alloc HR4.out (.cells #[.int .i64 k, .int .i64 p, .int .i64 e, .int .i64 s, .bool t, .slice A4 l.length c4] 24 (0, 0)))
    clear HR0 HR1 HB BK HR3 HR4
    have HR0 := HR0_
    have HR1 := HR1_
    have HB := HB_
    have BK := BK_
    have HR3 := HR3_
    have HR4 := HR4_
    clear HR0_ HR1_ HB_ BK_ HR3_ HR4_
    have BK4 := Aside0.mk (heap_alloc_new w4_ (.cells #[.int .i64 k, .int .i64 p, .int .i64 e, .int .i64 s, .bool t, .slice A4 l.length c4] 24 (0, 0)))
    refine (num_c2 0 _).mono ?_
    rintro e' w5_ ⟨rfl, hb_⟩
    have HR0_ := Aside0.mk (Kd.C_below HR0.out hb_)
    have HR1_ := Aside0.mk (Kd.C_below HR1.out hb_)
    have HB_ := Aside0.mk (below_step HB.out hb_)
    have BK_ := Aside0.mk (blk_below BK.out hb_)
    have HR3_ := Aside0.mk (Kd.C_below HR3.out hb_)
    have HR4_ := Aside0.mk (Kd.C_below HR4.out hb_)
    have BK4_ := Aside0.mk (blk_below BK4.out hb_)
    clear HR0 HR1 HB BK HR3 HR4 BK4
    have HR0 := HR0_
    have HR1 := HR1_
    have HB := HB_
    have BK := BK_
    have HR3 := HR3_
    have HR4 := HR4_
    have BK4 := BK4_
    clear HR0_ HR1_ HB_ BK_ HR3_ HR4_ BK4_
    clear hb_
    obtain ⟨b0, b1, b2, b3, b4, b5⟩ := b_cells (k := k) (p := p) (e := e) (s := s) (t := t) (A := A0) (n := l.length) (c := c0) BK.out
    obtain ⟨d0, d1, d2, d3, d4, d5⟩ := b_cells (k := k) (p := p) (e := e) (s := s) (t := t) (A := A4) (n := l.length) (c := c4) BK4.out
    go_wp2_with fail
    refine (same_c k p e s t A4 c4 l k p e s t A0 c0 l _ HR4.out hc4 HR0.out hc0).mono ?_
    rintro e' w6_ ⟨rfl, hb_⟩
    have HR0_ := Aside0.mk (Kd.C_below HR0.out hb_)
    have HR1_ := Aside0.mk (Kd.C_below HR1.out hb_)
    have HB_ := Aside0.mk (below_step HB.out hb_)
    have BK_ := Aside0.mk (blk_below BK.out hb_)
    have HR3_ := Aside0.mk (Kd.C_below HR3.out hb_)
    have HR4_ := Aside0.mk (Kd.C_below HR4.out hb_)
    have BK4_ := Aside0.mk (blk_below BK4.out hb_)
    clear HR0 HR1 HB BK HR3 HR4 BK4
    have HR0 := HR0_
    have HR1 := HR1_
    have HB := HB_
    have BK := BK_
    have HR3 := HR3_
    have HR4 := HR4_
    have BK4 := BK4_
    clear HR0_ HR1_ HB_ BK_ HR3_ HR4_ BK4_
    clear hb_
    clear b0 b1 b2 b3 b4 b5
    clear d0 d1 d2 d3 d4 d5
    rw [sameF_rfl]
    clear HR4 BK4 BK HR0 HR3
    have hlit_ := HR1.out
    go_wp2_with (first | ((with_reducible refine gate_dst (N := 37) rfl ?_); refine Kd.R_lit (Kd.int .u8) (w0 := w6_) w6_.heap.size 5 ?hg (N := 37) ?hd (xs := ([] : List Int)) (inner := []) (ok := fun _ => True) (okp := fun _ => True) ?hr ?hp (fun _ hk => hk) trivial (Below.refl _ _) (Nat.le_refl _) (by simp) ?_; (case hg => rfl); (case hd => rfl); (case hr => first | (go_simp; done) | (go_simp; rfl)); (case hp => exact Reps.none _ _); intro vl_ wl_ HOl_ hbl_ hgl_ hatl_; have HCl_ := Kd.C_below hlit_ hbl_; clear hgl_ hatl_) | (refine Kd.R_append_row (Value.int .u8) 0 w6_.heap.size rfl (.tmp 37) (.tmp 38) 33 5 (.int .u8 0) 1 rfl Try.underlying33 info5 rfl (by omega) vl_ [] x A1 _ c1 (fun _ => True) rfl rfl (fun _ _ => trivial) HOl_ HCl_ hbl_ (below_size hbl_) (by simp; omega) ?_; intro v1_ w7_ ho_ hb_ hg_ hat_; clear HOl_ HCl_ hbl_ hg_ hat_; obtain ⟨A5, c5, rfl⟩ := Kd.R_slice ho_))
    clear hlit_
    have HR1_ := Aside0.mk (Kd.C_below HR1.out hb_)
    have HB_ := Aside0.mk (below_step HB.out hb_)
    clear HR1 HB
    have HR1 := HR1_
    have HB := HB_
    clear HR1_ HB_
    clear hb_
    simp only [List.nil_append] at ho_ ⊢
    have hc5 := (Kd.R_reads' ho_).2.1
    have HR5 := Aside0.mk ((Kd.R_reads' ho_).2.2)
    clear ho_
    refine (decode_c A5 c5 x _ HR5.out hc5 hb).mono ?_
    rintro e' w8_ ⟨A6, c6, rfl, hc6, q_HR6, hb_⟩
    have HR1_ := Aside0.mk (Kd.C_below HR1.out hb_)
    have HB_ := Aside0.mk (below_step HB.out hb_)
    have HR5_ := Aside0.mk (Kd.C_below HR5.out hb_)
    clear HR1 HB HR5
    have HR1 := HR1_
    have HB := HB_
    have HR5 := HR5_
    clear HR1_ HB_ HR5_
    clear hb_
    have HR6 := Aside0.mk (q_HR6)
    clear q_HR6
    clear HR5
    rcases decF_cases x with ⟨h1, h2⟩ | ⟨h1, h2, h3⟩
    · have h4 : ((decF x).2 != 0) = true := by simpa using h1
      rw [h2] at hc6 HR6 ⊢
      generalize (decF x).2 = f at h4 ⊢
      clear h1 h2
      dsimp only [zeroDec] at hc6 HR6 ⊢
      go_wp2_with fail
      have HR1_ := Aside0.mk (Kd.C_alloc HR1.out (.cells #[.int .i64 0, .int .i64 0, .int .i64 0, .int .i64 0, .bool false, .slice A6 ([] : List S47).length c6] 24 (0, 0)))
      have HB_ := Aside0.mk (below_alloc HB.out (.cells #[.int .i64 0, .int .i64 0, .int .i64 0, .int .i64 0, .bool false, .slice A6 ([] : List S47).length c6] 24 (0, 0)))
      have HR6_ := Aside0.mk (Kd.C_alloc HR6.out (.cells #[.int .i64 0, .int .i64 0, .int .i64 0, .int .i64 0, .bool false, .slice A6 ([] : List S47).length c6] 24 (0, 0)))
      clear HR1 HB HR6
      have HR1 := HR1_
      have HB := HB_
      have HR6 := HR6_
      clear HR1_ HB_ HR6_
      have BK6 := Aside0.mk (heap_alloc_new w8_ (.cells #[.int .i64 0, .int .i64 0, .int .i64 0, .int .i64 0, .bool false, .slice A6 ([] : List S47).length c6] 24 (0, 0)))
      refine (num_c2 f _).mono ?_
      rintro e' w9_ ⟨rfl, hb_⟩
      have HR1_ := Aside0.mk (Kd.C_below HR1.out hb_)
      have HB_ := Aside0.mk (below_step HB.out hb_)
      have HR6_ := Aside0.mk (Kd.C_below HR6.out hb_)
      have BK6_ := Aside0.mk (blk_below BK6.out hb_)
      clear HR1 HB HR6 BK6
      have HR1 := HR1_
      have HB := HB_
      have HR6 := HR6_
      have BK6 := BK6_
      clear HR1_ HB_ HR6_ BK6_
      clear hb_
      clear HR1
      obtain ⟨d0, d1, d2, d3, d4, d5⟩ := b_cells (k := 0) (p := 0) (e := 0) (s := 0) (t := false) (A := A6) (n := ([] : List S47).length) (c := c6) BK6.out
      go_wp2_with fail
      refine (same_c 0 0 0 0 false A6 c6 [] 0 0 0 0 false none 0 [] _ HR6.out hc6 (Kd.R_reads' (Kd.R_nil k47 47 _ 0 (fun _ => True))).2.2 (Nat.le_refl _)).mono ?_
      rintro e' w10_ ⟨rfl, hb_⟩
      have HB_ := Aside0.mk (below_step HB.out hb_)
      have HR6_ := Aside0.mk (Kd.C_below HR6.out hb_)
      have BK6_ := Aside0.mk (blk_below BK6.out hb_)
      clear HB HR6 BK6
      have HB := HB_
      have HR6 := HR6_
      have BK6 := BK6_
      clear HB_ HR6_ BK6_
      clear hb_
      clear d0 d1 d2 d3 d4 d5
      rw [sameF_rfl]
      go_wp2_with fail
      refine (knows_c _).mono ?_
      rintro e' w11_ ⟨rfl, hb_⟩
      have HB_ := Aside0.mk (below_step HB.out hb_)
      have HR6_ := Aside0.mk (Kd.C_below HR6.out hb_)
      have BK6_ := Aside0.mk (blk_below BK6.out hb_)
      clear HB HR6 BK6
      have HB := HB_
      have HR6 := HR6_
      have BK6 := BK6_
      clear HB_ HR6_ BK6_
      clear hb_
      go_wp2_with fail
      go_ret
      exact ⟨rfl, HB.out⟩
    · have h4 : ((decF x).2 != 0) = false := by simpa using h1
      generalize decF x = D at *
      obtain ⟨⟨dk, dp, de, ds, dt, dl⟩, f⟩ := D
      dsimp only at *
      unfold encD at h2 h3
      dsimp only at h2 h3
      clear h1
      go_wp2_with fail
      have HR1_ := Aside0.mk (Kd.C_alloc HR1.out (.cells #[.int .i64 dk, .int .i64 dp, .int .i64 de, .int .i64 ds, .bool dt, .slice A6 dl.length c6] 24 (0, 0)))
      have HB_ := Aside0.mk (below_alloc HB.out (.cells #[.int .i64 dk, .int .i64 dp, .int .i64 de, .int .i64 ds, .bool dt, .slice A6 dl.length c6] 24 (0, 0)))
      have HR6_ := Aside0.mk (Kd.C_alloc HR6.out (.cells #[.int .i64 dk, .int .i64 dp, .int .i64 de, .int .i64 ds, .bool dt, .slice A6 dl.length c6] 24 (0, 0)))
      clear HR1 HB HR6
      have HR1 := HR1_
      have HB := HB_
      have HR6 := HR6_
      clear HR1_ HB_ HR6_
      have BK6 := Aside0.mk (heap_alloc_new w8_ (.cells #[.int .i64 dk, .int .i64 dp, .int .i64 de, .int .i64 ds, .bool dt, .slice A6 dl.length c6] 24 (0, 0)))
      refine (num_c2 f _).mono ?_
      rintro e' w9_ ⟨rfl, hb_⟩
      have HR1_ := Aside0.mk (Kd.C_below HR1.out hb_)
      have HB_ := Aside0.mk (below_step HB.out hb_)
      have HR6_ := Aside0.mk (Kd.C_below HR6.out hb_)
      have BK6_ := Aside0.mk (blk_below BK6.out hb_)
      clear HR1 HB HR6 BK6
      have HR1 := HR1_
      have HB := HB_
      have HR6 := HR6_
      have BK6 := BK6_
      clear HR1_ HB_ HR6_ BK6_
      clear hb_
      obtain ⟨d0, d1, d2, d3, d4, d5⟩ := b_cells (k := dk) (p := dp) (e := de) (s := ds) (t := dt) (A := A6) (n := dl.length) (c := c6) BK6.out
      go_wp2_with fail
      refine (encode_c dk dp de ds dt A6 c6 dl _ HR6.out hc6).mono ?_
      rintro e' w10_ ⟨A7, c7, rfl, hc7, q_HR7, hb_⟩
      have HR1_ := Aside0.mk (Kd.C_below HR1.out hb_)
      have HB_ := Aside0.mk (below_step HB.out hb_)
      have HR6_ := Aside0.mk (Kd.C_below HR6.out hb_)
      have BK6_ := Aside0.mk (blk_below BK6.out hb_)
      clear HR1 HB HR6 BK6
      have HR1 := HR1_
      have HB := HB_
      have HR6 := HR6_
      have BK6 := BK6_
      clear HR1_ HB_ HR6_ BK6_
      clear hb_
      have HR7 := Aside0.mk (q_HR7)
      clear q_HR7
      clear d0 d1 d2 d3 d4 d5
      clear HR6 BK6
      generalize encF dk dp de ds dt dl = E at *
      obtain ⟨y, g⟩ := E
      dsimp only at *
      subst h2
      go_wp2_with fail
      refine (num_c2 0 _).mono ?_
      rintro e' w11_ ⟨rfl, hb_⟩
      have HR1_ := Aside0.mk (Kd.C_below HR1.out hb_)
      have HB_ := Aside0.mk (below_step HB.out hb_)
      have HR7_ := Aside0.mk (Kd.C_below HR7.out hb_)
      clear HR1 HB HR7
      have HR1 := HR1_
      have HB := HB_
      have HR7 := HR7_
      clear HR1_ HB_ HR7_
      clear hb_
      have q1 := conv_c c7 HR7.out
      have q2 := conv_c c1 HR1.out
      have h5 : ((strOfNums y).toList == (strOfNums x).toList) = true := beq_iff_eq.mpr h3
      go_wp2_with fail
      clear q1 q2
      clear HR7 HR1
      refine (knows_c _).mono ?_
      rintro e' w12_ ⟨rfl, hb_⟩
      have HB_ := Aside0.mk (below_step HB.out hb_)
      clear HB
      have HB := HB_
      clear HB_
      clear hb_
      go_wp2_with fail
      go_ret
      exact ⟨rfl, HB.out⟩
  · rw [he] at hc3 HR3 ⊢
    dsimp only at hc3 HR3 ⊢
    have hk1 : (checkF k p e s t l == 0) = false := by simpa using hk
    go_wp2_with fail
    refine (num_c2 _ _).mono ?_
    rintro e' w3_ ⟨rfl, hb_⟩
    have HR0_ := Aside0.mk (Kd.C_below HR0.out hb_)
    have HR1_ := Aside0.mk (Kd.C_below HR1.out hb_)
    have HB_ := Aside0.mk (below_step HB.out hb_)
    have BK_ := Aside0.mk (blk_below BK.out hb_)
    have HR3_ := Aside0.mk (Kd.C_below HR3.out hb_)
    clear HR0 HR1 HB BK HR3
    have HR0 := HR0_
    have HR1 := HR1_
    have HB := HB_
    have BK := BK_
    have HR3 := HR3_
    clear HR0_ HR1_ HB_ BK_ HR3_
    clear hb_
    clear BK HR0 HR3
    have hlit_ := HR1.out
    go_wp2_with (first | ((with_reducible refine gate_dst (N := 37) rfl ?_); refine Kd.R_lit (Kd.int .u8) (w0 := w3_) w3_.heap.size 5 ?hg (N := 37) ?hd (xs := ([] : List Int)) (inner := []) (ok := fun _ => True) (okp := fun _ => True) ?hr ?hp (fun _ hk => hk) trivial (Below.refl _ _) (Nat.le_refl _) (by simp) ?_; (case hg => rfl); (case hd => rfl); (case hr => first | (go_simp; done) | (go_simp; rfl)); (case hp => exact Reps.none _ _); intro vl_ wl_ HOl_ hbl_ hgl_ hatl_; have HCl_ := Kd.C_below hlit_ hbl_; clear hgl_ hatl_) | (refine Kd.R_append_row (Value.int .u8) 0 w3_.heap.size rfl (.tmp 37) (.tmp 38) 33 5 (.int .u8 0) 1 rfl Try.underlying33 info5 rfl (by omega) vl_ [] x A1 _ c1 (fun _ => True) rfl rfl (fun _ _ => trivial) HOl_ HCl_ hbl_ (below_size hbl_) (by simp; omega) ?_; intro v1_ w4_ ho_ hb_ hg_ hat_; clear HOl_ HCl_ hbl_ hg_ hat_; obtain ⟨A5, c5, rfl⟩ := Kd.R_slice ho_))
    clear hlit_
    have HR1_ := Aside0.mk (Kd.C_below HR1.out hb_)
    have HB_ := Aside0.mk (below_step HB.out hb_)
    clear HR1 HB
    have HR1 := HR1_
    have HB := HB_
    clear HR1_ HB_
    clear hb_
    simp only [List.nil_append] at ho_ ⊢
    have hc5 := (Kd.R_reads' ho_).2.1
    have HR5 := Aside0.mk ((Kd.R_reads' ho_).2.2)
    clear ho_
    refine (decode_c A5 c5 x _ HR5.out hc5 hb).mono ?_
    rintro e' w5_ ⟨A6, c6, rfl, hc6, q_HR6, hb_⟩
    have HR1_ := Aside0.mk (Kd.C_below HR1.out hb_)
    have HB_ := Aside0.mk (below_step HB.out hb_)
    have HR5_ := Aside0.mk (Kd.C_below HR5.out hb_)
    clear HR1 HB HR5
    have HR1 := HR1_
    have HB := HB_
    have HR5 := HR5_
    clear HR1_ HB_ HR5_
    clear hb_
    have HR6 := Aside0.mk (q_HR6)
    clear q_HR6
    clear HR5
    rcases decF_cases x with ⟨h1, h2⟩ | ⟨h1, h2, h3⟩
    · have h4 : ((decF x).2 != 0) = true := by simpa using h1
      rw [h2] at hc6 HR6 ⊢
      generalize (decF x).2 = f at h4 ⊢
      clear h1 h2
      dsimp only [zeroDec] at hc6 HR6 ⊢
      go_wp2_with fail
      have HR1_ := Aside0.mk (Kd.C_alloc HR1.out (.cells #[.int .i64 0, .int .i64 0, .int .i64 0, .int .i64 0, .bool false, .slice A6 ([] : List S47).length c6] 24 (0, 0)))
      have HB_ := Aside0.mk (below_alloc HB.out (.cells #[.int .i64 0, .int .i64 0, .int .i64 0, .int .i64 0, .bool false, .slice A6 ([] : List S47).length c6] 24 (0, 0)))
      have HR6_ := Aside0.mk (Kd.C_alloc HR6.out (.cells #[.int .i64 0, .int .i64 0, .int .i64 0, .int .i64 0, .bool false, .slice A6 ([] : List S47).length c6] 24 (0, 0)))
      clear HR1 HB HR6
      have HR1 := HR1_
      have HB := HB_
      have HR6 := HR6_
      clear HR1_ HB_ HR6_
      have BK6 := Aside0.mk (heap_alloc_new w5_ (.cells #[.int .i64 0, .int .i64 0, .int .i64 0, .int .i64 0, .bool false, .slice A6 ([] : List S47).length c6] 24 (0, 0)))
      refine (num_c2 f _).mono ?_
      rintro e' w6_ ⟨rfl, hb_⟩
      have HR1_ := Aside0.mk (Kd.C_below HR1.out hb_)
      have HB_ := Aside0.mk (below_step HB.out hb_)
      have HR6_ := Aside0.mk (Kd.C_below HR6.out hb_)
      have BK6_ := Aside0.mk (blk_below BK6.out hb_)
      clear HR1 HB HR6 BK6
      have HR1 := HR1_
      have HB := HB_
      have HR6 := HR6_
      have BK6 := BK6_
      clear HR1_ HB_ HR6_ BK6_
      clear hb_
      clear HR1
      obtain ⟨d0, d1, d2, d3, d4, d5⟩ := b_cells (k := 0) (p := 0) (e := 0) (s := 0) (t := false) (A := A6) (n := ([] : List S47).length) (c := c6) BK6.out
      go_wp2_with fail
      refine (same_c 0 0 0 0 false A6 c6 [] 0 0 0 0 false none 0 [] _ HR6.out hc6 (Kd.R_reads' (Kd.R_nil k47 47 _ 0 (fun _ => True))).2.2 (Nat.le_refl _)).mono ?_
      rintro e' w7_ ⟨rfl, hb_⟩
      have HB_ := Aside0.mk (below_step HB.out hb_)
      have HR6_ := Aside0.mk (Kd.C_below HR6.out hb_)
      have BK6_ := Aside0.mk (blk_below BK6.out hb_)
      clear HB HR6 BK6
      have HB := HB_
      have HR6 := HR6_
      have BK6 := BK6_
      clear HB_ HR6_ BK6_
      clear hb_
      clear d0 d1 d2 d3 d4 d5
      rw [sameF_rfl]
      go_wp2_with fail
      refine (knows_c _).mono ?_
      rintro e' w8_ ⟨rfl, hb_⟩
      have HB_ := Aside0.mk (below_step HB.out hb_)
      have HR6_ := Aside0.mk (Kd.C_below HR6.out hb_)
      have BK6_ := Aside0.mk (blk_below BK6.out hb_)
      clear HB HR6 BK6
      have HB := HB_
      have HR6 := HR6_
      have BK6 := BK6_
      clear HB_ HR6_ BK6_
      clear hb_
      go_wp2_with fail
      go_ret
      exact ⟨rfl, HB.out⟩
    · have h4 : ((decF x).2 != 0) = false := by simpa using h1
      generalize decF x = D at *
      obtain ⟨⟨dk, dp, de, ds, dt, dl⟩, f⟩ := D
      dsimp only at *
      unfold encD at h2 h3
      dsimp only at h2 h3
      clear h1
      go_wp2_with fail
      have HR1_ := Aside0.mk (Kd.C_alloc HR1.out (.cells #[.int .i64 dk, .int .i64 dp, .int .i64 de, .int .i64 ds, .bool dt, .slice A6 dl.length c6] 24 (0, 0)))
      have HB_ := Aside0.mk (below_alloc HB.out (.cells #[.int .i64 dk, .int .i64 dp, .int .i64 de, .int .i64 ds, .bool dt, .slice A6 dl.length c6] 24 (0, 0)))
      have HR6_ := Aside0.mk (Kd.C_alloc HR6.out (.cells #[.int .i64 dk, .int .i64 dp, .int .i64 de, .int .i64 ds, .bool dt, .slice A6 dl.length c6] 24 (0, 0)))
      clear HR1 HB HR6
      have HR1 := HR1_
      have HB := HB_
      have HR6 := HR6_
      clear HR1_ HB_ HR6_
      have BK6 := Aside0.mk (heap_alloc_new w5_ (.cells #[.int .i64 dk, .int .i64 dp, .int .i64 de, .int .i64 ds, .bool dt, .slice A6 dl.length c6] 24 (0, 0)))
      refine (num_c2 f _).mono ?_
      rintro e' w6_ ⟨rfl, hb_⟩
      have HR1_ := Aside0.mk (Kd.C_below HR1.out hb_)
      have HB_ := Aside0.mk (below_step HB.out hb_)
      have HR6_ := Aside0.mk (Kd.C_below HR6.out hb_)
      have BK6_ := Aside0.mk (blk_below BK6.out hb_)
      clear HR1 HB HR6 BK6
      have HR1 := HR1_
      have HB := HB_
      have HR6 := HR6_
      have BK6 := BK6_
      clear HR1_ HB_ HR6_ BK6_
      clear hb_
      obtain ⟨d0, d1, d2, d3, d4, d5⟩ := b_cells (k := dk) (p := dp) (e := de) (s := ds) (t := dt) (A := A6) (n := dl.length) (c := c6) BK6.out
      go_wp2_with fail
      refine (encode_c dk dp de ds dt A6 c6 dl _ HR6.out hc6).mono ?_
      rintro e' w7_ ⟨A7, c7, rfl, hc7, q_HR7, hb_⟩
      have HR1_ := Aside0.mk (Kd.C_below HR1.out hb_)
      have HB_ := Aside0.mk (below_step HB.out hb_)
      have HR6_ := Aside0.mk (Kd.C_below HR6.out hb_)
      have BK6_ := Aside0.mk (blk_below BK6.out hb_)
      clear HR1 HB HR6 BK6
      have HR1 := HR1_
      have HB := HB_
      have HR6 := HR6_
      have BK6 := BK6_
      clear HR1_ HB_ HR6_ BK6_
      clear hb_
      have HR7 := Aside0.mk (q_HR7)
      clear q_HR7
      clear d0 d1 d2 d3 d4 d5
      clear HR6 BK6
      generalize encF dk dp de ds dt dl = E at *
      obtain ⟨y, g⟩ := E
      dsimp only at *
      subst h2
      go_wp2_with fail
      refine (num_c2 0 _).mono ?_
      rintro e' w8_ ⟨rfl, hb_⟩
      have HR1_ := Aside0.mk (Kd.C_below HR1.out hb_)
      have HB_ := Aside0.mk (below_step HB.out hb_)
      have HR7_ := Aside0.mk (Kd.C_below HR7.out hb_)
      clear HR1 HB HR7
      have HR1 := HR1_
      have HB := HB_
      have HR7 := HR7_
      clear HR1_ HB_ HR7_
      clear hb_
      have q1 := conv_c c7 HR7.out
      have q2 := conv_c c1 HR1.out
      have h5 : ((strOfNums y).toList == (strOfNums x).toList) = true := beq_iff_eq.mpr h3
      go_wp2_with fail
      clear q1 q2
      clear HR7 HR1
      refine (knows_c _).mono ?_
      rintro e' w9_ ⟨rfl, hb_⟩
      have HB_ := Aside0.mk (below_step HB.out hb_)
      clear HB
      have HB := HB_
      clear HB_
      clear hb_
      go_wp2_with fail
      go_ret
      exact ⟨rfl, HB.out⟩
end Go.Proofs.Ythnmgbmpbhdfcaa.Hand
namespace Go.Proofs.Ythnmgbmpbhdfcaa.Hand
open Go.RowKit Go.Proofs.Ythnmgbmpbhdfcaa Go.Proofs.YthnmgbmpbhdfcaaW.PrintWords Go.Proofs.YthnmgbmpbhdfcaaW.PrintMore Go.Proofs.Ythnmgbmpbhdfcaa.B0
set_option linter.unusedVariables false
set_option linter.unusedSimpArgs false
/-- append of bytes, up to a quarter more than what the print's law takes. -/
theorem append_wide {P : Program} {ops : Array Oper} {rest : List Oper} {o : Oper} {a : Act} {Q : Exit → Act → World → Prop} {w0 W : World} (base : Nat) (hgd : o.guard = none) (s x : Operand) (t e : TypeId) (z : Value)
    (ho : o.op = .call { callee := .builtin .append, args := #[s, x], argTypes := #[t, t] })
    (ht : P.underlying t = some (.slice e)) (hinfo : (P.info? e).map (fun i => (i.zero, i.size, i.bytes)) = some (some z, 1, 1)) (hz : z.cells.size = 1)
    (v : Value) (xs ys : List Int) (A : Option Addr) (m c : Nat) (ok : Nat → Prop) (hs : a.eval s = v) (hx : a.eval x = .slice A m c)
    (HO : (Kd.int .u8).R e W base ok v xs) (HR : (Kd.int .u8).C W A m ys) (HB : Below base w0 W) (hbase : base ≤ W.heap.size) (hl : (xs.length + m) + (xs.length + m) / 4 + 192 ≤ 281474976710656)
    (h : ∀ v1 w1, w1.ownsRow base e 1 v1 (xs ++ ys).length (encs (Value.int .u8) (xs ++ ys)) → Below base w0 w1 → wpList P ops Q rest (a.put o.dst v1) w1) :
    wpList P ops Q (o :: rest) a W := by
  obtain ⟨i0, hi, hzz⟩ := Option.map_eq_some_iff.1 hinfo
  simp only [Prod.mk.injEq] at hzz
  obtain ⟨hz0, hz1, hz2⟩ := hzz
  have HO' := Kd.own_of_R HO
  have HR' := Kd.reads_of_C (d := (0 : Int)) HR
  have hm : ys.length = m := HR'.1
  have hrun : ∃ v1 w1, (Builtin.append_ #[t, t] o.type #[v, .slice A m c]).run P W = .ok v1 w1 ∧ w1.ownsRow base e 1 v1 (xs ++ ys).length (encs (Value.int .u8) (xs ++ ys)) ∧ W.grownBy w1 v.ownBlock := by
    rcases A with _ | ad
    · have h0 : m = 0 := by
        rcases Nat.eq_zero_or_pos m with h0 | h0
        · exact h0
        · obtain ⟨ad, h, _⟩ := HR'.2.2 h0
          cases h
      subst h0
      obtain rfl : ys = [] := List.eq_nil_of_length_eq_zero hm
      refine ⟨v, W, ?_, by simpa using HO', World.grownBy.refl W _⟩
      rcases HO'.2 with ⟨rfl, hn⟩ | ⟨g, cap, cur, rfl, _, _, hnc, _⟩
      · simp [Builtin.append_, run_underlying ht, sizeOf, typeInfo, hi, Builtin.lenOf, Builtin.firstCells]
      · simp [Builtin.append_, run_underlying ht, sizeOf, typeInfo, hi, Builtin.lenOf, Builtin.firstCells, hnc, storeCells]
    · have hcells : ∀ j u, (encs (Value.int .u8) ys)[j]? = some u → W.cell? (ad.add j) = some u := by
        intro j u hu
        have hj : j < ys.length := by
          rcases Nat.lt_or_ge j ys.length with h | h
          · exact h
          · simp [encs, List.getElem?_eq_none h] at hu
        obtain ⟨ad', h', hc⟩ := HR'.2.2 (by omega)
        injection h' with h'
        subst h'
        rw [encs_get (d := (0 : Int)) ys j hj] at hu
        rw [← hu]
        exact hc j (by omega)
      obtain ⟨v1, w1, hr, h2, h3, _⟩ := run_append_own_wide (P := P) W base t o.type e i0 z 1 1 ht hi hz0 hz1 hz2 hz (by omega) v xs.length (encs (Value.int .u8) xs) HO' ad m c (encs (Value.int .u8) ys) (by simp [encs, hm]) hcells
        (by intro u hu; simp only [encs, List.mem_map] at hu; obtain ⟨q, _, rfl⟩ := hu; rfl) (by simp only [maxLen]; omega) (by omega) hbase
      exact ⟨v1, w1, hr, by simpa [encs, hm] using h2, h3⟩
  obtain ⟨v1, w1, hr, hown, hg⟩ := hrun
  refine wpList_plain hgd fun K hK => ?_
  unfold Oper.wp execOp
  simp only [ho, resolve, invoke, builtin, Sem.run_bind, Sem.run_pure, Result.andThen_ok, List.map_toArray, List.map_cons, List.map_nil, hs, hx, hr]
  exact hK _ _ (h v1 w1 hown (HB.grown hg hbase (own_base HO')))
theorem dec_last {k p e s : Int} {t : Bool} {l : List S47} (h : checkF k p e s t l = 0) : ∃ (y : List Int) (z : Int), encB k p e s t l = y ++ [z] := by
  have h18 := encB_len (valid_of h)
  generalize encB k p e s t l = E at h18
  refine ⟨E.dropLast, E.getLast (by intro h; rw [h] at h18; simp at h18), ?_⟩
  exact (List.dropLast_concat_getLast _).symm
theorem encB_short {k p e s : Int} {t : Bool} {l : List S47} (h : checkF k p e s t l = 0) : (encB k p e s t l).length ≤ 8400000 := by
  have h1 := check_len h
  have h2 := recsB_short l
  have h3 := puts_short p e s l.length
  simp only [encB, headL, List.length_append, List.length_cons, List.length_nil]; omega

set_option maxHeartbeats 2000000 in
set_option maxRecDepth 100000 in
theorem lawWhole (k p e s : Int) (t : Bool) (A0 : Option Addr) (c0 : Nat) (l : List S47) (A1 : Option Addr) (c1 : Nat) (x : List Int) (w : World) (hr0 : Kd.C k47 w A0 l.length l) (hc0 : l.length ≤ c0) (hl : l.length * 40 ≤ 140737488351232)
    (hr1 : Kd.C (Kd.int .u8) w A1 x.length x) (hc1 : x.length ≤ c1) (hb : isB x = true) (hx : x.length ≤ 140737488351232) :
    Calls Try.prog 9 #[.agg #[.int .i64 k, .int .i64 p, .int .i64 e, .int .i64 s, .bool t, .slice A0 l.length c0], .slice A1 x.length c1] w fun e w' => e = .returned (.bool true) ∧ Below w.heap.size w w' := by
  have HR0 := Aside0.mk (hr0)
  have HR1 := Aside0.mk (hr1)
  have HB := Aside0.mk (Below.refl w.heap.size w)
  clear hr0 hr1
  go_enter Try.func9, Try.ntmps9
  have HR0_ := Aside0.mk (Kd.C_alloc HR0.out (.cells #[.int .i64 k, .int .i64 p, .int .i64 e, .int .i64 s, .bool t, .slice A0 l.length c0] 24 (0, 0)))
  have HR1_ := Aside0.mk (Kd.C_alloc HR1.out (.cells #[.int .i64 k, .int .i64 p, .int .i64 e, .int .i64 s, .bool t, .slice A0 l.length c0] 24 (0, 0)))
  have HB_ := Aside0.mk (below_alloc HB.out (.cells #[.int .i64 k, .int .i64 p, .int .i64 e, .int .i64 s, .bool t, .slice A0 l.length c0] 24 (0, 0)))
  clear HR0 HR1 HB
  have HR0 := HR0_
  have HR1 := HR1_
  have HB := HB_
  clear HR0_ HR1_ HB_
  have BK := Aside0.mk (heap_alloc_new w (.cells #[.int .i64 k, .int .i64 p, .int .i64 e, .int .i64 s, .bool t, .slice A0 l.length c0] 24 (0, 0)))
  obtain ⟨b0, b1, b2, b3, b4, b5⟩ := b_cells (k := k) (p := p) (e := e) (s := s) (t := t) (A := A0) (n := l.length) (c := c0) BK.out
  go_wp2_with fail
  refine (copied_c k p e s t A0 c0 l _ HR0.out hc0 hl).mono ?_
  rintro e' w1_ ⟨A2, c2, rfl, hc2, q_HR2, hb_⟩
  have HR0_ := Aside0.mk (Kd.C_below HR0.out hb_)
  have HR1_ := Aside0.mk (Kd.C_below HR1.out hb_)
  have HB_ := Aside0.mk (below_step HB.out hb_)
  have BK_ := Aside0.mk (blk_below BK.out hb_)
  clear HR0 HR1 HB BK
  have HR0 := HR0_
  have HR1 := HR1_
  have HB := HB_
  have BK := BK_
  clear HR0_ HR1_ HB_ BK_
  clear hb_
  have HR2 := Aside0.mk (q_HR2)
  clear q_HR2
  clear b0 b1 b2 b3 b4 b5
  go_wp2_with fail
  refine (encode_c k p e s t A2 c2 l _ HR2.out hc2).mono ?_
  rintro e' w2_ ⟨A3, c3, rfl, hc3, q_HR3, hb_⟩
  have HR0_ := Aside0.mk (Kd.C_below HR0.out hb_)
  have HR1_ := Aside0.mk (Kd.C_below HR1.out hb_)
  have HB_ := Aside0.mk (below_step HB.out hb_)
  have BK_ := Aside0.mk (blk_below BK.out hb_)
  have HR2_ := Aside0.mk (Kd.C_below HR2.out hb_)
  clear HR0 HR1 HB BK HR2
  have HR0 := HR0_
  have HR1 := HR1_
  have HB := HB_
  have BK := BK_
  have HR2 := HR2_
  clear HR0_ HR1_ HB_ BK_ HR2_
  clear hb_
  have HR3 := Aside0.mk (q_HR3)
  clear q_HR3
  clear HR2
  clear HR0 BK
  rcases encF_cases k p e s t l with ⟨hk, he⟩ | ⟨hk, he⟩
  · obtain ⟨y, z, hy⟩ := dec_last hk
    have hsz := encB_short hk
    have hyl : (y ++ [z]).length = y.length + 1 := by simp
    rw [he] at hc3 HR3 ⊢
    dsimp only at hc3 HR3 ⊢
    have hshort := dec_short hk hy.symm (by simp)
    have hB := isB_encB hk
    have hD : ∀ m, decF (y ++ [z] ++ m) = decF (encB k p e s t l ++ m) := fun m => by rw [hy]
    have hgood := dec_back hk
    have hmore := fun m hm => dec_more hk (m := m) hm
    rw [hy] at hc3 HR3 hsz hB ⊢
    clear he
    go_wp2_with fail
    refine (num_c2 0 _).mono ?_
    rintro e' w3_ ⟨rfl, hb_⟩
    have HR1_ := Aside0.mk (Kd.C_below HR1.out hb_)
    have HB_ := Aside0.mk (below_step HB.out hb_)
    have HR3_ := Aside0.mk (Kd.C_below HR3.out hb_)
    clear HR1 HB HR3
    have HR1 := HR1_
    have HB := HB_
    have HR3 := HR3_
    clear HR1_ HB_ HR3_
    clear hb_
    go_wp2_with fail
    refine (knows_c _).mono ?_
    rintro e' w4_ ⟨rfl, hb_⟩
    have HR1_ := Aside0.mk (Kd.C_below HR1.out hb_)
    have HB_ := Aside0.mk (below_step HB.out hb_)
    have HR3_ := Aside0.mk (Kd.C_below HR3.out hb_)
    clear HR1 HB HR3
    have HR1 := HR1_
    have HB := HB_
    have HR3 := HR3_
    clear HR1_ HB_ HR3_
    clear hb_
    rw [hyl] at hc3 hsz
    have e1 : wrap64 (((y.length + 1 : Nat) : Int) - 1) = (y.length : Int) := by unfold wrap64; omega
    have e2 : (((y.length + 1 : Nat) : Int) == 0) = false := by rw [beq_eq_false_iff_ne]; omega
    have e3 : ((y.length : Int) + 1 == 0) = false := by rw [beq_eq_false_iff_ne]; omega
    have h3_ := HR3.out
    rw [hyl] at h3_
    have HX3 := Aside0.mk (h3_)
    clear h3_
    go_wp2_with fail
    refine (decode_c A3 c3 y _ (by have h := Kd.C_take (m := y.length) HR3.out (by simp); rwa [List.take_left] at h) (by omega) ((isB_iff _).2 fun q hq => (isB_iff _).1 hB q (List.mem_append_left _ hq))).mono ?_
    rintro e' w5_ ⟨A4, c4, rfl, hc4, q_HR4, hb_⟩
    have HR1_ := Aside0.mk (Kd.C_below HR1.out hb_)
    have HB_ := Aside0.mk (below_step HB.out hb_)
    have HR3_ := Aside0.mk (Kd.C_below HR3.out hb_)
    have HX3_ := Aside0.mk (Kd.C_below HX3.out hb_)
    clear HR1 HB HR3 HX3
    have HR1 := HR1_
    have HB := HB_
    have HR3 := HR3_
    have HX3 := HX3_
    clear HR1_ HB_ HR3_ HX3_
    clear hb_
    have HR4 := Aside0.mk (q_HR4)
    clear q_HR4
    clear HR4 HR3
    rw [hshort] at hc4 ⊢
    dsimp only [zeroDec] at hc4 ⊢
    have HR1_ := Aside0.mk (Kd.C_alloc HR1.out (.cells #[.int .i64 0, .int .i64 0, .int .i64 0, .int .i64 0, .bool false, .slice A4 ([] : List S47).length c4] 24 (0, 0)))
    have HB_ := Aside0.mk (below_alloc HB.out (.cells #[.int .i64 0, .int .i64 0, .int .i64 0, .int .i64 0, .bool false, .slice A4 ([] : List S47).length c4] 24 (0, 0)))
    have HX3_ := Aside0.mk (Kd.C_alloc HX3.out (.cells #[.int .i64 0, .int .i64 0, .int .i64 0, .int .i64 0, .bool false, .slice A4 ([] : List S47).length c4] 24 (0, 0)))
    clear HR1 HB HX3
    have HR1 := HR1_
    have HB := HB_
    have HX3 := HX3_
    clear HR1_ HB_ HX3_
    go_wp2_with (first | ((with_reducible refine gate_dst (N := 43) rfl ?_); refine Kd.R_lit (Kd.int .u8) (w0 := (w5_.alloc (.cells #[.int .i64 0, .int .i64 0, .int .i64 0, .int .i64 0, .bool false, .slice A4 ([] : List S47).length c4] 24 (0, 0)))) (w5_.alloc (.cells #[.int .i64 0, .int .i64 0, .int .i64 0, .int .i64 0, .bool false, .slice A4 ([] : List S47).length c4] 24 (0, 0))).heap.size 5 ?hg (N := 43) ?hd (xs := ([] : List Int)) (inner := []) (ok := fun _ => True) (okp := fun _ => True) ?hr ?hp (fun _ hk => hk) trivial (Below.refl _ _) (Nat.le_refl _) (by simp) ?_; (case hg => rfl); (case hd => rfl); (case hr => first | (go_simp; done) | (go_simp; rfl)); (case hp => exact Reps.none _ _); intro vl_ wl_ HOl_ hbl_ hgl_ hatl_; have HCl_ := Kd.C_below HX3.out hbl_; clear hgl_ hatl_) | (refine Kd.R_append_row (Value.int .u8) 0 (w5_.alloc (.cells #[.int .i64 0, .int .i64 0, .int .i64 0, .int .i64 0, .bool false, .slice A4 ([] : List S47).length c4] 24 (0, 0))).heap.size rfl (.tmp 43) (.tmp 44) 33 5 (.int .u8 0) 1 rfl Try.underlying33 info5 rfl (by omega) vl_ [] (y ++ [z]) A3 _ c3 (fun _ => True) rfl rfl (fun _ _ => trivial) HOl_ HCl_ hbl_ (below_size hbl_) (by simp; omega) ?_; intro v1_ wm_ ho_ hb_ hg_ hat_; clear HOl_ HCl_ hbl_ hg_ hat_; have HDl_ := Kd.C_below HR1.out hb_) | (refine append_wide (w5_.alloc (.cells #[.int .i64 0, .int .i64 0, .int .i64 0, .int .i64 0, .bool false, .slice A4 ([] : List S47).length c4] 24 (0, 0))).heap.size rfl (.tmp 45) (.tmp 46) 33 5 (.int .u8 0) rfl Try.underlying33 info5 rfl v1_ ([] ++ (y ++ [z])) x A1 _ c1 (fun _ => True) rfl rfl ho_ HDl_ hb_ (below_size hb_) (by simp; omega) ?_; intro v2_ w9_ hown_ hb2_; obtain ⟨A5, c5, rfl⟩ := Kd.R_slice (Kd.R_of_own (ok := fun _ => True) (h1 := fun _ => rfl) hown_ (fun _ _ => trivial))))
    have ho2_ := Kd.R_reads' (Kd.R_of_own (ok := fun _ => True) (h1 := fun _ => rfl) hown_ (fun _ _ => trivial))
    clear hown_ ho_ HDl_ hb_
    clear HX3
    have HR1_ := Aside0.mk (Kd.C_below HR1.out hb2_)
    have HB_ := Aside0.mk (below_step HB.out hb2_)
    clear HR1 HB
    have HR1 := HR1_
    have HB := HB_
    clear HR1_ HB_
    clear hb2_
    simp only [List.nil_append] at ho2_ ⊢
    have hc5 := ho2_.2.1
    have HR5 := Aside0.mk (ho2_.2.2)
    clear ho2_
    have hln : (y ++ [z] ++ x).length = y.length + (x.length + 1) := by simp
    rw [← hln]
    refine (decode_c A5 c5 (y ++ [z] ++ x) _ HR5.out hc5 (isB_append hB hb)).mono ?_
    rintro e' w6_ ⟨A6, c6, rfl, hc6, q_HR6, hb_⟩
    have HR1_ := Aside0.mk (Kd.C_below HR1.out hb_)
    have HB_ := Aside0.mk (below_step HB.out hb_)
    have HR5_ := Aside0.mk (Kd.C_below HR5.out hb_)
    clear HR1 HB HR5
    have HR1 := HR1_
    have HB := HB_
    have HR5 := HR5_
    clear HR1_ HB_ HR5_
    clear hb_
    have HR6 := Aside0.mk (q_HR6)
    clear q_HR6
    clear HR6 HR5 HR1
    have hval : (x = [] ∧ (decF (y ++ [z] ++ x)).2 = 0) ∨ (x ≠ [] ∧ (decF (y ++ [z] ++ x)).2 = 22) := by
      by_cases hx0 : x = []
      · subst hx0; exact .inl ⟨rfl, by rw [hD, List.append_nil, hgood]⟩
      · exact .inr ⟨hx0, by rw [hD]; exact hmore x hx0⟩
    generalize decF (y ++ [z] ++ x) = D at hval hc6 ⊢
    obtain ⟨⟨dk, dp, de, ds, dt, dl⟩, g⟩ := D
    dsimp only at hval hc6 ⊢
    clear hD hgood hmore hshort hy hB e1 e2 e3 hyl
    rcases hval with ⟨rfl, rfl⟩ | ⟨hx0, rfl⟩
    · go_wp2_with fail
      have HB_ := Aside0.mk (below_alloc HB.out (.cells #[.int .i64 dk, .int .i64 dp, .int .i64 de, .int .i64 ds, .bool dt, .slice A6 dl.length c6] 24 (0, 0)))
      clear HB
      have HB := HB_
      clear HB_
      refine (num_c2 20 _).mono ?_
      rintro e' w7_ ⟨rfl, hb_⟩
      have HB_ := Aside0.mk (below_step HB.out hb_)
      clear HB
      have HB := HB_
      clear HB_
      clear hb_
      go_wp2_with fail
      refine (num_c2 0 _).mono ?_
      rintro e' w8_ ⟨rfl, hb_⟩
      have HB_ := Aside0.mk (below_step HB.out hb_)
      clear HB
      have HB := HB_
      clear HB_
      clear hb_
      go_wp2_with fail
      go_ret
      exact ⟨rfl, HB.out⟩
    · have hxp : x.length ≠ 0 := fun h => hx0 (List.length_eq_zero_iff.1 h)
      have q1 : ((x.length : Int) == 0) = false := by rw [beq_eq_false_iff_ne]; omega
      have q2 : decide ((x.length : Int) > 0) = true := by rw [decide_eq_true_eq]; omega
      have q3 : decide (0 < (x.length : Int)) = true := by rw [decide_eq_true_eq]; omega
      have q4 : decide (0 < x.length) = true := by rw [decide_eq_true_eq]; omega
      go_wp2_with fail
      have HB_ := Aside0.mk (below_alloc HB.out (.cells #[.int .i64 dk, .int .i64 dp, .int .i64 de, .int .i64 ds, .bool dt, .slice A6 dl.length c6] 24 (0, 0)))
      clear HB
      have HB := HB_
      clear HB_
      refine (num_c2 20 _).mono ?_
      rintro e' w7_ ⟨rfl, hb_⟩
      have HB_ := Aside0.mk (below_step HB.out hb_)
      clear HB
      have HB := HB_
      clear HB_
      clear hb_
      go_wp2_with fail
      refine (num_c2 22 _).mono ?_
      rintro e' w8_ ⟨rfl, hb_⟩
      have HB_ := Aside0.mk (below_step HB.out hb_)
      clear HB
      have HB := HB_
      clear HB_
      clear hb_
      go_wp2_with fail
      go_ret
      exact ⟨rfl, HB.out⟩
  · rw [he] at hc3 HR3 ⊢
    dsimp only at hc3 HR3 ⊢
    have hk1 : (checkF k p e s t l != 0) = true := by simpa using hk
    go_wp2_with fail
    refine (num_c2 _ _).mono ?_
    rintro e' w3_ ⟨rfl, hb_⟩
    have HR1_ := Aside0.mk (Kd.C_below HR1.out hb_)
    have HB_ := Aside0.mk (below_step HB.out hb_)
    have HR3_ := Aside0.mk (Kd.C_below HR3.out hb_)
    clear HR1 HB HR3
    have HR1 := HR1_
    have HB := HB_
    have HR3 := HR3_
    clear HR1_ HB_ HR3_
    clear hb_
    go_wp2_with fail
    clear HR3 HR1
    refine (knows_c _).mono ?_
    rintro e' w4_ ⟨rfl, hb_⟩
    have HB_ := Aside0.mk (below_step HB.out hb_)
    clear HB
    have HB := HB_
    clear HB_
    clear hb_
    go_wp2_with fail
    go_ret
    exact ⟨rfl, HB.out⟩
end Go.Proofs.Ythnmgbmpbhdfcaa.Hand
namespace Go.Proofs.Ythnmgbmpbhdfcaa.Hand
open Go.RowKit Go.Proofs.Ythnmgbmpbhdfcaa Go.Proofs.YthnmgbmpbhdfcaaW.PrintWords Go.Proofs.YthnmgbmpbhdfcaaW.PrintMore Go.Proofs.YthnmgbmpbhdfcaaW.PrintLast Go.Proofs.Ythnmgbmpbhdfcaa.B0
set_option linter.unusedVariables false
set_option linter.unusedSimpArgs false

def TA5 : Bool × List (List Nat × List Nat) := (true, [([], []), ([0], [0]), ([], []), ([2], [2]), ([1, 3], [1, 3]), ([], []), ([], []), ([5, 6], [5, 6]), ([4, 7], [4, 7]), ([8, 7], [8]), ([9, 9], [9]), ([9, 10], [9, 10]), ([11, 10, 0, 1, 2, 3, 4, 5, 6, 7, 8, 9, 10, 11], [11])])
def BA5 : List Nat := [0, 1, 0, 4, 15, 0, 0, 96, 255, 511, 1023, 2047, 4095]
theorem tabA5 : rtab .any (opsOf Try.f5 5) = TA5 := by kernel_rfl
theorem bitsA5 : waitsOk TA5.2 BA5 = true := by kernel_rfl

set_option maxHeartbeats 2000000 in
set_option maxRecDepth 100000 in
theorem lawApart (k p e s : Int) (t : Bool) (A0 : Option Addr) (c0 : Nat) (l : List S47) (k' p' e_ s' : Int) (t' : Bool) (A1 : Option Addr) (c1 : Nat) (l' : List S47) (w : World) (hr0 : Kd.C k47 w A0 l.length l) (hc0 : l.length ≤ c0) (hl : l.length * 40 ≤ 140737488351232)
    (hr1 : Kd.C k47 w A1 l'.length l') (hc1 : l'.length ≤ c1) (hl1 : l'.length * 40 ≤ 140737488351232) :
    Calls Try.prog 5 #[.agg #[.int .i64 k, .int .i64 p, .int .i64 e, .int .i64 s, .bool t, .slice A0 l.length c0], .agg #[.int .i64 k', .int .i64 p', .int .i64 e_, .int .i64 s', .bool t', .slice A1 l'.length c1]] w fun e w' => e = .returned (.bool true) ∧ Below w.heap.size w w' := by
  have HR0 := Aside0.mk (hr0)
  have HR1 := Aside0.mk (hr1)
  have HB := Aside0.mk (Below.refl w.heap.size w)
  clear hr0 hr1
  go_enter Try.func5, Try.ntmps5
  have HR0_ := Aside0.mk (Kd.C_alloc HR0.out (.cells #[.int .i64 k, .int .i64 p, .int .i64 e, .int .i64 s, .bool t, .slice A0 l.length c0] 24 (0, 0)))
  have HR1_ := Aside0.mk (Kd.C_alloc HR1.out (.cells #[.int .i64 k, .int .i64 p, .int .i64 e, .int .i64 s, .bool t, .slice A0 l.length c0] 24 (0, 0)))
  have HB_ := Aside0.mk (below_alloc HB.out (.cells #[.int .i64 k, .int .i64 p, .int .i64 e, .int .i64 s, .bool t, .slice A0 l.length c0] 24 (0, 0)))
  clear HR0 HR1 HB
  have HR0 := HR0_
  have HR1 := HR1_
  have HB := HB_
  clear HR0_ HR1_ HB_
  have BK := Aside0.mk (heap_alloc_new w (.cells #[.int .i64 k, .int .i64 p, .int .i64 e, .int .i64 s, .bool t, .slice A0 l.length c0] 24 (0, 0)))
  have HR0_ := Aside0.mk (Kd.C_alloc HR0.out (.cells #[.int .i64 k', .int .i64 p', .int .i64 e_, .int .i64 s', .bool t', .slice A1 l'.length c1] 24 (0, 0)))
  have HR1_ := Aside0.mk (Kd.C_alloc HR1.out (.cells #[.int .i64 k', .int .i64 p', .int .i64 e_, .int .i64 s', .bool t', .slice A1 l'.length c1] 24 (0, 0)))
  have HB_ := Aside0.mk (below_alloc HB.out (.cells #[.int .i64 k', .int .i64 p', .int .i64 e_, .int .i64 s', .bool t', .slice A1 l'.length c1] 24 (0, 0)))
  have BK_ := Aside0.mk (blk_alloc BK.out (.cells #[.int .i64 k', .int .i64 p', .int .i64 e_, .int .i64 s', .bool t', .slice A1 l'.length c1] 24 (0, 0)))
  clear HR0 HR1 HB BK
  have HR0 := HR0_
  have HR1 := HR1_
  have HB := HB_
  have BK := BK_
  clear HR0_ HR1_ HB_ BK_
  have BK1 := Aside0.mk (heap_alloc2_new w (.cells #[.int .i64 k, .int .i64 p, .int .i64 e, .int .i64 s, .bool t, .slice A0 l.length c0] 24 (0, 0)) (.cells #[.int .i64 k', .int .i64 p', .int .i64 e_, .int .i64 s', .bool t', .slice A1 l'.length c1] 24 (0, 0)))
  obtain ⟨b0, b1, b2, b3, b4, b5⟩ := b_cells (k := k) (p := p) (e := e) (s := s) (t := t) (A := A0) (n := l.length) (c := c0) BK.out
  obtain ⟨d0, d1, d2, d3, d4, d5⟩ := b_cells (k := k') (p := p') (e := e_) (s := s') (t := t') (A := A1) (n := l'.length) (c := c1) BK1.out
  go_wp2_with fail
  refine (copied_c k p e s t A0 c0 l _ HR0.out hc0 hl).mono ?_
  rintro e' w1_ ⟨A2, c2, rfl, hc2, q_HR2, hb_⟩
  have HR0_ := Aside0.mk (Kd.C_below HR0.out hb_)
  have HR1_ := Aside0.mk (Kd.C_below HR1.out hb_)
  have HB_ := Aside0.mk (below_step HB.out hb_)
  have BK_ := Aside0.mk (blk_below BK.out hb_)
  have BK1_ := Aside0.mk (blk_below BK1.out hb_)
  clear HR0 HR1 HB BK BK1
  have HR0 := HR0_
  have HR1 := HR1_
  have HB := HB_
  have BK := BK_
  have BK1 := BK1_
  clear HR0_ HR1_ HB_ BK_ BK1_
  clear hb_
  have HR2 := Aside0.mk (q_HR2)
  clear q_HR2
  clear b0 b1 b2 b3 b4 b5
  clear d0 d1 d2 d3 d4 d5
  go_wp2_with fail
  refine (encode_c k p e s t A2 c2 l _ HR2.out hc2).mono ?_
  rintro e' w2_ ⟨A3, c3, rfl, hc3, q_HR3, hb_⟩
  have HR0_ := Aside0.mk (Kd.C_below HR0.out hb_)
  have HR1_ := Aside0.mk (Kd.C_below HR1.out hb_)
  have HB_ := Aside0.mk (below_step HB.out hb_)
  have BK_ := Aside0.mk (blk_below BK.out hb_)
  have BK1_ := Aside0.mk (blk_below BK1.out hb_)
  have HR2_ := Aside0.mk (Kd.C_below HR2.out hb_)
  clear HR0 HR1 HB BK BK1 HR2
  have HR0 := HR0_
  have HR1 := HR1_
  have HB := HB_
  have BK := BK_
  have BK1 := BK1_
  have HR2 := HR2_
  clear HR0_ HR1_ HB_ BK_ BK1_ HR2_
  clear hb_
  have HR3 := Aside0.mk (q_HR3)
  clear q_HR3
  clear HR2
  obtain ⟨b0, b1, b2, b3, b4, b5⟩ := b_cells (k := k) (p := p) (e := e) (s := s) (t := t) (A := A0) (n := l.length) (c := c0) BK.out
  obtain ⟨d0, d1, d2, d3, d4, d5⟩ := b_cells (k := k') (p := p') (e := e_) (s := s') (t := t') (A := A1) (n := l'.length) (c := c1) BK1.out
  go_wp2_with fail
  refine (copied_c k' p' e_ s' t' A1 c1 l' _ HR1.out hc1 hl1).mono ?_
  rintro e' w3_ ⟨A4, c4, rfl, hc4, q_HR4, hb_⟩
  have HR0_ := Aside0.mk (Kd.C_below HR0.out hb_)
  have HR1_ := Aside0.mk (Kd.C_below HR1.out hb_)
  have HB_ := Aside0.mk (below_step HB.out hb_)
  have BK_ := Aside0.mk (blk_below BK.out hb_)
  have BK1_ := Aside0.mk (blk_below BK1.out hb_)
  have HR3_ := Aside0.mk (Kd.C_below HR3.out hb_)
  clear HR0 HR1 HB BK BK1 HR3
  have HR0 := HR0_
  have HR1 := HR1_
  have HB := HB_
  have BK := BK_
  have BK1 := BK1_
  have HR3 := HR3_
  clear HR0_ HR1_ HB_ BK_ BK1_ HR3_
  clear hb_
  have HR4 := Aside0.mk (q_HR4)
  clear q_HR4
  clear b0 b1 b2 b3 b4 b5
  clear d0 d1 d2 d3 d4 d5
  go_wp2_with fail
  refine (encode_c k' p' e_ s' t' A4 c4 l' _ HR4.out hc4).mono ?_
  rintro e' w4_ ⟨A5, c5, rfl, hc5, q_HR5, hb_⟩
  have HR0_ := Aside0.mk (Kd.C_below HR0.out hb_)
  have HR1_ := Aside0.mk (Kd.C_below HR1.out hb_)
  have HB_ := Aside0.mk (below_step HB.out hb_)
  have BK_ := Aside0.mk (blk_below BK.out hb_)
  have BK1_ := Aside0.mk (blk_below BK1.out hb_)
  have HR3_ := Aside0.mk (Kd.C_below HR3.out hb_)
  have HR4_ := Aside0.mk (Kd.C_below HR4.out hb_)
  clear HR0 HR1 HB BK BK1 HR3 HR4
  have HR0 := HR0_
  have HR1 := HR1_
  have HB := HB_
  have BK := BK_
  have BK1 := BK1_
  have HR3 := HR3_
  have HR4 := HR4_
  clear HR0_ HR1_ HB_ BK_ BK1_ HR3_ HR4_
  clear hb_
  have HR5 := Aside0.mk (q_HR5)
  clear q_HR5
  clear HR4
  rcases encF_cases k p e s t l with ⟨hk, he⟩ | ⟨hk, he⟩
  · rw [he] at hc3 HR3 ⊢
    dsimp only at hc3 HR3 ⊢
    clear he
    go_wp2_with fail
    refine (num_c2 0 _).mono ?_
    rintro e' w5_ ⟨rfl, hb_⟩
    have HR0_ := Aside0.mk (Kd.C_below HR0.out hb_)
    have HR1_ := Aside0.mk (Kd.C_below HR1.out hb_)
    have HB_ := Aside0.mk (below_step HB.out hb_)
    have BK_ := Aside0.mk (blk_below BK.out hb_)
    have BK1_ := Aside0.mk (blk_below BK1.out hb_)
    have HR3_ := Aside0.mk (Kd.C_below HR3.out hb_)
    have HR5_ := Aside0.mk (Kd.C_below HR5.out hb_)
    clear HR0 HR1 HB BK BK1 HR3 HR5
    have HR0 := HR0_
    have HR1 := HR1_
    have HB := HB_
    have BK := BK_
    have BK1 := BK1_
    have HR3 := HR3_
    have HR5 := HR5_
    clear HR0_ HR1_ HB_ BK_ BK1_ HR3_ HR5_
    clear hb_
    rcases encF_cases k' p' e_ s' t' l' with ⟨hk', he⟩ | ⟨hk', he⟩
    · rw [he] at hc5 HR5 ⊢
      dsimp only at hc5 HR5 ⊢
      clear he
      go_wp2_with fail
      refine (num_c2 0 _).mono ?_
      rintro e' w6_ ⟨rfl, hb_⟩
      have HR0_ := Aside0.mk (Kd.C_below HR0.out hb_)
      have HR1_ := Aside0.mk (Kd.C_below HR1.out hb_)
      have HB_ := Aside0.mk (below_step HB.out hb_)
      have BK_ := Aside0.mk (blk_below BK.out hb_)
      have BK1_ := Aside0.mk (blk_below BK1.out hb_)
      have HR3_ := Aside0.mk (Kd.C_below HR3.out hb_)
      have HR5_ := Aside0.mk (Kd.C_below HR5.out hb_)
      clear HR0 HR1 HB BK BK1 HR3 HR5
      have HR0 := HR0_
      have HR1 := HR1_
      have HB := HB_
      have BK := BK_
      have BK1 := BK1_
      have HR3 := HR3_
      have HR5 := HR5_
      clear HR0_ HR1_ HB_ BK_ BK1_ HR3_ HR5_
      clear hb_
      have hap := apart hk hk'
      generalize encB k p e s t l = X at hc3 HR3 hap ⊢
      generalize encB k' p' e_ s' t' l' = Y at hc5 HR5 hap ⊢
      clear hk hk'
      go_wp2_with fail
      have HR0_ := Aside0.mk (Kd.C_drew HR0.out)
      have HR1_ := Aside0.mk (Kd.C_drew HR1.out)
      have HB_ := Aside0.mk (below_drew1 HB.out)
      have BK_ := Aside0.mk (blk_drew BK.out)
      have BK1_ := Aside0.mk (blk_drew BK1.out)
      have HR3_ := Aside0.mk (Kd.C_drew HR3.out)
      have HR5_ := Aside0.mk (Kd.C_drew HR5.out)
      clear HR0 HR1 HB BK BK1 HR3 HR5
      have HR0 := HR0_
      have HR1 := HR1_
      have HB := HB_
      have BK := BK_
      have BK1 := BK1_
      have HR3 := HR3_
      have HR5 := HR5_
      clear HR0_ HR1_ HB_ BK_ BK1_ HR3_ HR5_
      refine start_ (n := 13) (S := fun w' => w'.cell? ⟨w.heap.size, 0, none⟩ = some (.int .i64 k) ∧ w'.cell? ⟨w.heap.size, 1, none⟩ = some (.int .i64 p) ∧ w'.cell? ⟨w.heap.size, 2, none⟩ = some (.int .i64 e) ∧ w'.cell? ⟨w.heap.size, 3, none⟩ = some (.int .i64 s) ∧ w'.cell? ⟨w.heap.size, 4, none⟩ = some (.bool t) ∧ w'.cell? ⟨w.heap.size, 5, none⟩ = some (.slice A0 l.length c0) ∧ w'.cell? ⟨w.heap.size + 1, 0, none⟩ = some (.int .i64 k') ∧ w'.cell? ⟨w.heap.size + 1, 1, none⟩ = some (.int .i64 p') ∧ w'.cell? ⟨w.heap.size + 1, 2, none⟩ = some (.int .i64 e_) ∧ w'.cell? ⟨w.heap.size + 1, 3, none⟩ = some (.int .i64 s') ∧ w'.cell? ⟨w.heap.size + 1, 4, none⟩ = some (.bool t') ∧ w'.cell? ⟨w.heap.size + 1, 5, none⟩ = some (.slice A1 l'.length c1) ∧ (convert 33 9 (.slice A3 X.length c3)).run Try.prog w' = .ok (.string (strOfNums X)) w' ∧ (convert 33 9 (.slice A5 Y.length c5)).run Try.prog w' = .ok (.string (strOfNums Y)) w') (ds := []) #[false, false, false, false, false, false, false, false, false, false, false, false, false] (by kernel_rfl) rfl rfl ⟨(blk_cell BK.out 0).trans rfl, (blk_cell BK.out 1).trans rfl, (blk_cell BK.out 2).trans rfl, (blk_cell BK.out 3).trans rfl, (blk_cell BK.out 4).trans rfl, (blk_cell BK.out 5).trans rfl, (blk_cell BK1.out 0).trans rfl, (blk_cell BK1.out 1).trans rfl, (blk_cell BK1.out 2).trans rfl, (blk_cell BK1.out 3).trans rfl, (blk_cell BK1.out 4).trans rfl, (blk_cell BK1.out 5).trans rfl, conv_c c3 HR3.out, conv_c c5 HR5.out⟩ (fun hHeld => ?_); refine with_tabW tabA5 bitsA5 (fun HT_ HW_ => ?_)
      generalize w6_.drew = wd_ at HR0 HR1 HB BK BK1 HR3 HR5 hHeld ⊢
      refine pure_ (i := 0) (N := (some 30)) (v := ?_) (a' := ?_) #[true, false, false, false, false, false, false, false, false, false, false, false, false] rfl rfl (any_of HT_.out (by kernel_rfl)) (fun _ _ _ h => h) (Or.inl ⟨by rfl, ?_⟩) ?_ ?_
      rotate_left
      · intro w'
        go_simp
        with_reducible rfl
      rotate_left
      · simp only [Act.put, List.setIfInBounds_toArray, List.set_cons_zero, List.set_cons_succ, i64_w, i32_w]
        rfl
      refine take_ (i := 1) (N := (some 31)) (v := ?_) (a' := ?_) #[true, true, false, false, false, false, false, false, false, false, false, false, false] rfl rfl (take_ofW HT_.out HW_.out (by kernel_rfl)) (fun _ _ _ h => h) (Or.inl ⟨by rfl, ?_⟩) hHeld ?_ ?_
      rotate_left
      · rintro w' ⟨s0, s1, s2, s3, s4, s5, s6, s7, s8, s9, s10, s11, s12, s13⟩
        go_simp
        with_reducible rfl
      rotate_left
      · simp only [Act.put, List.setIfInBounds_toArray, List.set_cons_zero, List.set_cons_succ, i64_w, i32_w]
        rfl
      refine pure_ (i := 2) (N := (some 32)) (v := ?_) (a' := ?_) #[true, true, true, false, false, false, false, false, false, false, false, false, false] rfl rfl (any_of HT_.out (by kernel_rfl)) (fun _ _ _ h => h) (Or.inl ⟨by rfl, ?_⟩) ?_ ?_
      rotate_left
      · intro w'
        go_simp
        with_reducible rfl
      rotate_left
      · simp only [Act.put, List.setIfInBounds_toArray, List.set_cons_zero, List.set_cons_succ, i64_w, i32_w]
        rfl
      refine take_ (i := 3) (N := (some 33)) (v := ?_) (a' := ?_) #[true, true, true, true, false, false, false, false, false, false, false, false, false] rfl rfl (take_ofW HT_.out HW_.out (by kernel_rfl)) (fun _ _ _ h => h) (Or.inl ⟨by rfl, ?_⟩) hHeld ?_ ?_
      rotate_left
      · rintro w' ⟨s0, s1, s2, s3, s4, s5, s6, s7, s8, s9, s10, s11, s12, s13⟩
        go_simp
        with_reducible rfl
      rotate_left
      · simp only [Act.put, List.setIfInBounds_toArray, List.set_cons_zero, List.set_cons_succ, i64_w, i32_w]
        rfl
      refine pure_ (i := 4) (N := (some 34)) (v := ?_) (a' := ?_) #[true, true, true, true, true, false, false, false, false, false, false, false, false] rfl rfl (any_of HT_.out (by kernel_rfl)) (fun _ _ _ h => h) (Or.inl ⟨by rfl, ?_⟩) ?_ ?_
      rotate_left
      · intro w'
        go_simp
        with_reducible rfl
      rotate_left
      · simp only [Act.put, List.setIfInBounds_toArray, List.set_cons_zero, List.set_cons_succ, i64_w, i32_w]
        rfl
      refine take_ (i := 5) (N := (some 35)) (v := ?_) (a' := ?_) #[true, true, true, true, true, true, false, false, false, false, false, false, false] rfl rfl (take_ofW HT_.out HW_.out (by kernel_rfl)) (fun _ _ _ h => h) (Or.inl ⟨by rfl, ?_⟩) hHeld ?_ ?_
      rotate_left
      · rintro w' ⟨s0, s1, s2, s3, s4, s5, s6, s7, s8, s9, s10, s11, s12, s13⟩
        go_simp
        with_reducible rfl
      rotate_left
      · simp only [Act.put, List.setIfInBounds_toArray, List.set_cons_zero, List.set_cons_succ, i64_w, i32_w]
        rfl
      refine take_ (i := 6) (N := (some 36)) (v := ?_) (a' := ?_) #[true, true, true, true, true, true, true, false, false, false, false, false, false] rfl rfl (take_ofW HT_.out HW_.out (by kernel_rfl)) (fun _ _ _ h => h) (Or.inl ⟨by rfl, ?_⟩) hHeld ?_ ?_
      rotate_left
      · rintro w' ⟨s0, s1, s2, s3, s4, s5, s6, s7, s8, s9, s10, s11, s12, s13⟩
        go_simp
        with_reducible rfl
      rotate_left
      · simp only [Act.put, List.setIfInBounds_toArray, List.set_cons_zero, List.set_cons_succ, i64_w, i32_w]
        rfl
      refine one_ (i := 7) (N := (some 37)) #[true, true, true, true, true, true, true, true, false, false, false, false, false] rfl rfl (one_of HT_.out (by kernel_rfl)) (by decide) (fun K hK => ?_)
      refine goes_ Try.func16 (by kernel_rfl) rfl #[.agg #[.int .i64 k, .int .i64 p, .int .i64 e, .int .i64 s, .bool t, .slice A0 l.length c0], .agg #[.int .i64 k', .int .i64 p', .int .i64 e_, .int .i64 s', .bool t', .slice A1 l'.length c1]] (by rfl) rfl rfl (by (try simp only [List.map_toArray, List.map_cons, List.map_nil]); first | done | rfl) ?_
      refine (same_c k p e s t A0 c0 l k' p' e_ s' t' A1 c1 l' _ HR0.out hc0 HR1.out hc1).mono ?_
      rintro e' w7_ ⟨rfl, hb_⟩
      have HR0_ := Aside0.mk (Kd.C_below HR0.out hb_)
      have HR1_ := Aside0.mk (Kd.C_below HR1.out hb_)
      have HB_ := Aside0.mk (below_step HB.out hb_)
      have BK_ := Aside0.mk (blk_below BK.out hb_)
      have BK1_ := Aside0.mk (blk_below BK1.out hb_)
      have HR3_ := Aside0.mk (Kd.C_below HR3.out hb_)
      have HR5_ := Aside0.mk (Kd.C_below HR5.out hb_)
      clear HR0 HR1 HB BK BK1 HR3 HR5
      have HR0 := HR0_
      have HR1 := HR1_
      have HB := HB_
      have BK := BK_
      have BK1 := BK1_
      have HR3 := HR3_
      have HR5 := HR5_
      clear HR0_ HR1_ HB_ BK_ BK1_ HR3_ HR5_
      clear hb_
      refine ⟨_, rfl, ?_⟩
      refine hK.out _ _ ⟨(blk_cell BK.out 0).trans rfl, (blk_cell BK.out 1).trans rfl, (blk_cell BK.out 2).trans rfl, (blk_cell BK.out 3).trans rfl, (blk_cell BK.out 4).trans rfl, (blk_cell BK.out 5).trans rfl, (blk_cell BK1.out 0).trans rfl, (blk_cell BK1.out 1).trans rfl, (blk_cell BK1.out 2).trans rfl, (blk_cell BK1.out 3).trans rfl, (blk_cell BK1.out 4).trans rfl, (blk_cell BK1.out 5).trans rfl, conv_c c3 HR3.out, conv_c c5 HR5.out⟩ (fun hHeld => ?_)
      clear hK K
      refine norm_ (a' := ?_) ?_ ?_
      rotate_left
      · show Act.put _ (some 37) _ = _
        simp only [Act.put, List.setIfInBounds_toArray, List.set_cons_zero, List.set_cons_succ, i64_w, i32_w]
        rfl
      rw [← hap]
      have hbb : ((((strOfNums X).toList == (strOfNums Y).toList) == ((strOfNums X).toList == (strOfNums Y).toList)) : Bool) = true := by simp
      refine pure_ (i := 8) (N := (some 38)) (v := ?_) (a' := ?_) #[true, true, true, true, true, true, true, true, true, false, false, false, false] rfl rfl (any_of HT_.out (by kernel_rfl)) (fun _ _ _ h => h) (Or.inl ⟨by rfl, ?_⟩) ?_ ?_
      rotate_left
      · intro w'
        go_simp
        with_reducible rfl
      rotate_left
      · simp only [Act.put, List.setIfInBounds_toArray, List.set_cons_zero, List.set_cons_succ, i64_w, i32_w]
        rfl
      refine pure_ (i := 9) (N := (some 39)) (v := ?_) (a' := ?_) #[true, true, true, true, true, true, true, true, true, true, false, false, false] rfl rfl (any_of HT_.out (by kernel_rfl)) (fun _ _ _ h => h) (Or.inl ⟨by rfl, ?_⟩) ?_ ?_
      rotate_left
      · intro w'
        go_simp
        with_reducible rfl
      rotate_left
      · simp only [Act.put, List.setIfInBounds_toArray, List.set_cons_zero, List.set_cons_succ, i64_w, i32_w]
        rfl
      refine one_ (i := 10) (N := (some 40)) #[true, true, true, true, true, true, true, true, true, true, true, false, false] rfl rfl (one_of HT_.out (by kernel_rfl)) (by decide) (fun K hK => ?_)
      refine goes_ Try.func17 (by kernel_rfl) rfl #[] (by rfl) rfl rfl (by (try simp only [List.map_toArray, List.map_cons, List.map_nil]); first | done | rfl) ?_
      refine (knows_c _).mono ?_
      rintro e' w8_ ⟨rfl, hb_⟩
      have HR0_ := Aside0.mk (Kd.C_below HR0.out hb_)
      have HR1_ := Aside0.mk (Kd.C_below HR1.out hb_)
      have HB_ := Aside0.mk (below_step HB.out hb_)
      have BK_ := Aside0.mk (blk_below BK.out hb_)
      have BK1_ := Aside0.mk (blk_below BK1.out hb_)
      have HR3_ := Aside0.mk (Kd.C_below HR3.out hb_)
      have HR5_ := Aside0.mk (Kd.C_below HR5.out hb_)
      clear HR0 HR1 HB BK BK1 HR3 HR5
      have HR0 := HR0_
      have HR1 := HR1_
      have HB := HB_
      have BK := BK_
      have BK1 := BK1_
      have HR3 := HR3_
      have HR5 := HR5_
      clear HR0_ HR1_ HB_ BK_ BK1_ HR3_ HR5_
      clear hb_
      refine ⟨_, rfl, ?_⟩
      refine hK.out _ _ ⟨(blk_cell BK.out 0).trans rfl, (blk_cell BK.out 1).trans rfl, (blk_cell BK.out 2).trans rfl, (blk_cell BK.out 3).trans rfl, (blk_cell BK.out 4).trans rfl, (blk_cell BK.out 5).trans rfl, (blk_cell BK1.out 0).trans rfl, (blk_cell BK1.out 1).trans rfl, (blk_cell BK1.out 2).trans rfl, (blk_cell BK1.out 3).trans rfl, (blk_cell BK1.out 4).trans rfl, (blk_cell BK1.out 5).trans rfl, conv_c c3 HR3.out, conv_c c5 HR5.out⟩ (fun hHeld => ?_)
      clear hK K
      refine norm_ (a' := ?_) ?_ ?_
      rotate_left
      · show Act.put _ (some 40) _ = _
        simp only [Act.put, List.setIfInBounds_toArray, List.set_cons_zero, List.set_cons_succ, i64_w, i32_w]
        rfl
      refine pure_ (i := 11) (N := (some 41)) (v := ?_) (a' := ?_) #[true, true, true, true, true, true, true, true, true, true, true, true, false] rfl rfl (any_of HT_.out (by kernel_rfl)) (fun _ _ _ h => h) (Or.inl ⟨by rfl, ?_⟩) ?_ ?_
      rotate_left
      · intro w'
        go_simp
        with_reducible rfl
      rotate_left
      · simp only [Act.put, List.setIfInBounds_toArray, List.set_cons_zero, List.set_cons_succ, i64_w, i32_w]
        rfl
      refine pure_ (i := 12) (N := (some 4)) (v := ?_) (a' := ?_) #[true, true, true, true, true, true, true, true, true, true, true, true, true] rfl rfl (any_of HT_.out (by kernel_rfl)) (fun _ _ _ h => h) (Or.inl ⟨by rfl, ?_⟩) ?_ ?_
      rotate_left
      · intro w'
        go_simp
        with_reducible rfl
      rotate_left
      · simp only [Act.put, List.setIfInBounds_toArray, List.set_cons_zero, List.set_cons_succ, i64_w, i32_w]
        rfl
      refine done_ (done_of HT_.out (by kernel_rfl)) ?_
      clear hHeld
      go_wp2_with fail
      go_ret
      exact ⟨rfl, HB.out⟩
    · rw [he] at hc5 HR5 ⊢
      dsimp only at hc5 HR5 ⊢
      have hk1 : (checkF k' p' e_ s' t' l' != 0) = true := by simpa using hk'
      go_wp2_with fail
      refine (num_c2 _ _).mono ?_
      rintro e' w6_ ⟨rfl, hb_⟩
      have HR0_ := Aside0.mk (Kd.C_below HR0.out hb_)
      have HR1_ := Aside0.mk (Kd.C_below HR1.out hb_)
      have HB_ := Aside0.mk (below_step HB.out hb_)
      have BK_ := Aside0.mk (blk_below BK.out hb_)
      have BK1_ := Aside0.mk (blk_below BK1.out hb_)
      have HR3_ := Aside0.mk (Kd.C_below HR3.out hb_)
      have HR5_ := Aside0.mk (Kd.C_below HR5.out hb_)
      clear HR0 HR1 HB BK BK1 HR3 HR5
      have HR0 := HR0_
      have HR1 := HR1_
      have HB := HB_
      have BK := BK_
      have BK1 := BK1_
      have HR3 := HR3_
      have HR5 := HR5_
      clear HR0_ HR1_ HB_ BK_ BK1_ HR3_ HR5_
      clear hb_
      go_wp2_with fail
      clear HR3 HR5 HR0 HR1 BK BK1
      refine (knows_c _).mono ?_
      rintro e' w7_ ⟨rfl, hb_⟩
      have HB_ := Aside0.mk (below_step HB.out hb_)
      clear HB
      have HB := HB_
      clear HB_
      clear hb_
      go_wp2_with fail
      go_ret
      exact ⟨rfl, HB.out⟩
  · rw [he] at hc3 HR3 ⊢
    dsimp only at hc3 HR3 ⊢
    have hk1 : (checkF k p e s t l != 0) = true := by simpa using hk
    go_wp2_with fail
    refine (num_c2 _ _).mono ?_
    rintro e' w5_ ⟨rfl, hb_⟩
    have HR0_ := Aside0.mk (Kd.C_below HR0.out hb_)
    have HR1_ := Aside0.mk (Kd.C_below HR1.out hb_)
    have HB_ := Aside0.mk (below_step HB.out hb_)
    have BK_ := Aside0.mk (blk_below BK.out hb_)
    have BK1_ := Aside0.mk (blk_below BK1.out hb_)
    have HR3_ := Aside0.mk (Kd.C_below HR3.out hb_)
    have HR5_ := Aside0.mk (Kd.C_below HR5.out hb_)
    clear HR0 HR1 HB BK BK1 HR3 HR5
    have HR0 := HR0_
    have HR1 := HR1_
    have HB := HB_
    have BK := BK_
    have BK1 := BK1_
    have HR3 := HR3_
    have HR5 := HR5_
    clear HR0_ HR1_ HB_ BK_ BK1_ HR3_ HR5_
    clear hb_
    go_wp2_with fail
    clear HR3 HR5 HR0 HR1 BK BK1
    refine (knows_c _).mono ?_
    rintro e' w6_ ⟨rfl, hb_⟩
    have HB_ := Aside0.mk (below_step HB.out hb_)
    clear HB
    have HB := HB_
    clear HB_
    clear hb_
    go_wp2_with fail
    go_ret
    exact ⟨rfl, HB.out⟩
end Go.Proofs.Ythnmgbmpbhdfcaa.Hand
