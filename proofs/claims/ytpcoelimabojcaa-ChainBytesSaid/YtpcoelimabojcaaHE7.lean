/- A chain's bytes are read as they were written; bytes that are read are written the same. -/
import Derived.Test.YtpcoelimabojcaaHD4
import Derived.Test.YtpcoelimabojcaaHE6
namespace Go.Proofs.Ytpcoelimabojcaa.Hand
open Go.RowKit Go.Proofs.Ytpcoelimabojcaa Go.Proofs.YtpcoelimabojcaaW.PrintWords
set_option linter.unusedVariables false
set_option linter.unusedSimpArgs false
theorem segE (pre m beh : List Int) (a b : Nat) (ha : a = pre.length) (hb : b = pre.length + m.length) : ((pre ++ m ++ beh).take b).drop a = m := by
  subst ha hb
  rw [List.take_append_of_le_length (by rw [List.length_append]; omega), List.take_of_length_le (by rw [List.length_append]; omega), List.drop_left]
theorem getF_inE {l : List Int} {p : Int} {k : Nat} (h0 : 0 ≤ p) (h1 : 1 ≤ k) (h6 : k ≤ 6) (h : p + k ≤ l.length) : getF l p k = (((leN ((l.take (p + k).toNat).drop p.toNat) : Nat) : Int), p + k, 0) := by
  unfold getF
  rw [if_neg (by omega), if_neg (by omega), if_neg (by omega), if_pos (by omega), if_pos (by omega)]
theorem numD_back (pre beh : List Int) (n k : Nat) (h1 : 1 ≤ k) (h6 : k ≤ 6) (hn : n < 256 ^ k) : numD (pre ++ lowL n k ++ beh) (pre.length : Int) (k : Int) = some ((n : Int), ((pre ++ lowL n k).length : Int)) := by
  have e : getF (pre ++ lowL n k ++ beh) (pre.length : Int) (k : Int) = ((n : Int), (pre.length : Int) + k, 0) := by
    rw [getF_inE (by omega) h1 h6 (by simp [lowL_length]; omega), segE pre (lowL n k) beh _ _ (by omega) (by rw [lowL_length]; omega), leN_lowL n k hn]
  unfold numD
  rw [e, if_pos rfl, List.length_append, lowL_length]
  simp
/-- A number's byte. -/
def byteL (x : Int) : List Int := lowL x.toNat 1
theorem byteL_len (x : Int) : (byteL x).length = 1 := lowL_length _ _
def isN (x : Int) : Prop := 0 ≤ x ∧ x < 256
def isM (x : Int) : Prop := 0 ≤ x ∧ x < 281474976710656
theorem put_byte {x : Int} (h : isN x) : (putF x 1).1 = byteL x := by
  obtain ⟨h0, h1⟩ := h
  unfold putF
  rw [if_neg (by decide), if_neg (by decide), if_neg (by omega), if_neg (by show ¬ ((256 : Int) ^ 1 ≤ x); omega)]
  rfl
theorem put_six {x : Int} (h : isM x) : (putF x 6).1 = lowL x.toNat 6 := by
  obtain ⟨h0, h1⟩ := h
  unfold putF
  rw [if_neg (by decide), if_neg (by decide), if_neg (by omega), if_neg (by show ¬ ((256 : Int) ^ 6 ≤ x); omega)]
  rfl
theorem byte_back (pre beh : List Int) {x : Int} (h : isN x) : numD (pre ++ byteL x ++ beh) (pre.length : Int) 1 = some (x, ((pre ++ byteL x).length : Int)) := by
  have := numD_back pre beh x.toNat 1 (by decide) (by decide) (by have := h.1; have := h.2; omega)
  rw [Int.toNat_of_nonneg h.1] at this
  exact this
theorem six_back (pre beh : List Int) {x : Int} (h : isM x) : numD (pre ++ lowL x.toNat 6 ++ beh) (pre.length : Int) 6 = some (x, ((pre ++ lowL x.toNat 6).length : Int)) := by
  have := numD_back pre beh x.toNat 6 (by decide) (by decide) (by have := h.1; have := h.2; omega)
  rw [Int.toNat_of_nonneg h.1] at this
  exact this
def partOk (p : PartV) : Prop := isM p.first ∧ isM p.id ∧ p.nodes.length < 256 ∧ ∀ x ∈ p.nodes, isN x
def nodesB (ns : List Int) : List Int := ns.flatMap byteL
def partB (p : PartV) : List Int := lowL p.first.toNat 6 ++ lowL p.id.toNat 6 ++ byteL (p.nodes.length : Int) ++ nodesB p.nodes
def chainB (ow tr : Int) (ps : List PartV) : List Int := byteL ow ++ lowL tr.toNat 6 ++ byteL (ps.length : Int) ++ ps.flatMap partB
theorem nodesB_ev (b : List Int) {ns : List Int} (h : ∀ x ∈ ns, isN x) : numsF b 1 ns = b ++ nodesB ns := by
  unfold numsF nodesB
  congr 1
  induction ns with
  | nil => rfl
  | cons x l ih => rw [List.flatMap_cons, List.flatMap_cons, put_byte (h x List.mem_cons_self), ih (fun y hy => h y (List.mem_cons_of_mem _ hy))]
theorem partE_ev (b : List Int) {p : PartV} (h : partOk p) : partE b p = b ++ partB p := by
  obtain ⟨h1, h2, h3, h4⟩ := h
  unfold partE
  rw [nodesB_ev _ h4]
  unfold numsF partB
  rw [List.flatMap_cons, List.flatMap_cons, List.flatMap_nil, List.flatMap_cons, List.flatMap_nil, put_six h1, put_six h2, put_byte (show isN _ from ⟨by omega, by omega⟩)]
  simp [List.append_assoc]
theorem encL_ev {ow tr : Int} {ps : List PartV} (ho : isN ow) (ht : isM tr) (hl : ps.length < 256) (h : ∀ p ∈ ps, partOk p) : encL ow tr ps = chainB ow tr ps := by
  have hf : ∀ (qs : List PartV) (b : List Int), (∀ p ∈ qs, partOk p) → qs.foldl partE b = b ++ qs.flatMap partB := by
    intro qs
    induction qs with
    | nil => intro b _; simp
    | cons q qs ih => intro b hq; rw [List.foldl_cons, ih _ (fun p hp => hq p (List.mem_cons_of_mem _ hp)), partE_ev b (hq q List.mem_cons_self), List.flatMap_cons, List.append_assoc]
  unfold encL
  rw [hf ps _ h]
  unfold headE numsF chainB
  rw [List.flatMap_cons, List.flatMap_nil, List.flatMap_cons, List.flatMap_nil, List.flatMap_cons, List.flatMap_nil, put_byte ho, put_six ht, put_byte (show isN _ from ⟨by omega, by omega⟩)]
  simp [List.append_assoc]
theorem nodesD_back (beh : List Int) : ∀ (ns acc pre : List Int), (∀ x ∈ ns, isN x) → nodesD (pre ++ nodesB ns ++ beh) ns.length acc (pre.length : Int) = some (acc ++ ns, ((pre ++ nodesB ns).length : Int))
  | [], acc, pre, _ => by simp [nodesD, nodesB]
  | x :: ns, acc, pre, h => by
    have e : pre ++ nodesB (x :: ns) ++ beh = pre ++ byteL x ++ (nodesB ns ++ beh) := by simp [nodesB, List.append_assoc]
    have hb := byte_back pre (nodesB ns ++ beh) (h x List.mem_cons_self)
    have ih := nodesD_back beh ns (acc ++ [x]) (pre ++ byteL x) (fun y hy => h y (List.mem_cons_of_mem _ hy))
    rw [e, List.length_cons, nodesD, hb, Option.bind_some, show pre ++ byteL x ++ (nodesB ns ++ beh) = pre ++ byteL x ++ nodesB ns ++ beh by simp [List.append_assoc], ih]
    simp [nodesB, List.append_assoc]
theorem partD_back (beh pre : List Int) {p : PartV} (h : partOk p) : partD (pre ++ partB p ++ beh) (pre.length : Int) = some (p, ((pre ++ partB p).length : Int)) := by
  obtain ⟨h1, h2, h3, h4⟩ := h
  have a1 := six_back pre (lowL p.id.toNat 6 ++ byteL (p.nodes.length : Int) ++ nodesB p.nodes ++ beh) h1
  have a2 := six_back (pre ++ lowL p.first.toNat 6) (byteL (p.nodes.length : Int) ++ nodesB p.nodes ++ beh) h2
  have a3 := byte_back (pre ++ lowL p.first.toNat 6 ++ lowL p.id.toNat 6) (nodesB p.nodes ++ beh) (x := (p.nodes.length : Int)) ⟨by omega, by omega⟩
  have a4 := nodesD_back beh p.nodes [] (pre ++ lowL p.first.toNat 6 ++ lowL p.id.toNat 6 ++ byteL (p.nodes.length : Int)) h4
  have e : pre ++ partB p ++ beh = pre ++ lowL p.first.toNat 6 ++ lowL p.id.toNat 6 ++ byteL (p.nodes.length : Int) ++ nodesB p.nodes ++ beh := by simp [partB, List.append_assoc]
  rw [show pre ++ lowL p.first.toNat 6 ++ (lowL p.id.toNat 6 ++ byteL (p.nodes.length : Int) ++ nodesB p.nodes ++ beh) = pre ++ partB p ++ beh by rw [e]; simp [List.append_assoc]] at a1
  rw [show pre ++ lowL p.first.toNat 6 ++ lowL p.id.toNat 6 ++ (byteL (p.nodes.length : Int) ++ nodesB p.nodes ++ beh) = pre ++ partB p ++ beh by rw [e]; simp [List.append_assoc]] at a2
  rw [show pre ++ lowL p.first.toNat 6 ++ lowL p.id.toNat 6 ++ byteL (p.nodes.length : Int) ++ (nodesB p.nodes ++ beh) = pre ++ partB p ++ beh by rw [e]; simp [List.append_assoc]] at a3
  rw [← e] at a4
  unfold partD
  simp only [a1, a2, a3, Option.bind_some, Int.toNat_natCast, a4, List.nil_append]
  simp [partB, List.append_assoc]
theorem partsD_back (beh : List Int) : ∀ (ps acc : List PartV) (pre : List Int), (∀ p ∈ ps, partOk p) → partsD (pre ++ ps.flatMap partB ++ beh) ps.length acc (pre.length : Int) = some (acc ++ ps, ((pre ++ ps.flatMap partB).length : Int))
  | [], acc, pre, _ => by simp [partsD]
  | p :: ps, acc, pre, h => by
    have e : pre ++ (p :: ps).flatMap partB ++ beh = pre ++ partB p ++ (ps.flatMap partB ++ beh) := by simp [List.append_assoc]
    have hb := partD_back (ps.flatMap partB ++ beh) pre (h p List.mem_cons_self)
    have ih := partsD_back beh ps (acc ++ [p]) (pre ++ partB p) (fun y hy => h y (List.mem_cons_of_mem _ hy))
    rw [e, List.length_cons, partsD, hb, Option.bind_some, show pre ++ partB p ++ (ps.flatMap partB ++ beh) = pre ++ partB p ++ ps.flatMap partB ++ beh by simp [List.append_assoc], ih]
    simp [List.append_assoc]
theorem chainD_back {ow tr : Int} {ps : List PartV} (ho : isN ow) (ht : isM tr) (hl : ps.length < 256) (h : ∀ p ∈ ps, partOk p) : chainD (chainB ow tr ps) = some ((ow, tr, ps), ((chainB ow tr ps).length : Int)) := by
  have a1 := byte_back [] (lowL tr.toNat 6 ++ byteL (ps.length : Int) ++ ps.flatMap partB) ho
  have a2 := six_back (byteL ow) (byteL (ps.length : Int) ++ ps.flatMap partB) ht
  have a3 := byte_back (byteL ow ++ lowL tr.toNat 6) (ps.flatMap partB) (x := (ps.length : Int)) ⟨by omega, by omega⟩
  have a4 := partsD_back [] ps [] (byteL ow ++ lowL tr.toNat 6 ++ byteL (ps.length : Int)) h
  have e : chainB ow tr ps = byteL ow ++ lowL tr.toNat 6 ++ byteL (ps.length : Int) ++ ps.flatMap partB := rfl
  rw [show [] ++ byteL ow ++ (lowL tr.toNat 6 ++ byteL (ps.length : Int) ++ ps.flatMap partB) = chainB ow tr ps by rw [e]; simp [List.append_assoc]] at a1
  rw [show byteL ow ++ lowL tr.toNat 6 ++ (byteL (ps.length : Int) ++ ps.flatMap partB) = chainB ow tr ps by rw [e]; simp [List.append_assoc]] at a2
  rw [← e] at a3
  rw [List.append_nil, ← e] at a4
  unfold chainD
  rw [show ((([] : List Int).length : Nat) : Int) = 0 from rfl, List.nil_append] at a1
  simp only [a1, a2, a3, Option.bind_some, Int.toNat_natCast, a4, List.nil_append]
theorem lowL_leN : ∀ (s : List Int), isBytes s → lowL (leN s) s.length = s
  | [], _ => rfl
  | x :: s, h => by
    have hx := h x List.mem_cons_self
    have ih := lowL_leN s (fun y hy => h y (List.mem_cons_of_mem _ hy))
    rw [leN, List.length_cons, lowL, show (x.toNat + 256 * leN s) / 256 = leN s by omega, ih]
    congr 1
    omega
theorem numD_inv {l : List Int} (hb : isBytes l) {P k : Nat} (h1 : 1 ≤ k) (h6 : k ≤ 6) {m : Int × Int} (h : numD l (P : Int) (k : Int) = some m) : ∃ N : Nat, m = ((N : Int), ((P + k : Nat) : Int)) ∧ N < 256 ^ k ∧ l.take (P + k) = l.take P ++ lowL N k := by
  unfold numD at h
  by_cases hlen : P + k ≤ l.length
  · rw [getF_inE (by omega) h1 h6 (by omega), if_pos rfl] at h
    cases h
    have e1 : ((P : Int) + (k : Int)).toNat = P + k := by omega
    have e2 : (P : Int).toNat = P := by omega
    rw [e1, e2]
    have hs : isBytes ((l.take (P + k)).drop P) := fun x hx => hb x (List.mem_of_mem_take (List.mem_of_mem_drop hx))
    have hsl : ((l.take (P + k)).drop P).length = k := by rw [List.length_drop, List.length_take]; omega
    have h3 := leN_lt _ hs
    have h4 := lowL_leN _ hs
    rw [hsl] at h3 h4
    refine ⟨_, by rw [Int.natCast_add], h3, ?_⟩
    rw [h4]
    have h5 := List.take_append_drop P (l.take (P + k))
    rw [List.take_take, Nat.min_eq_left (by omega)] at h5
    exact h5.symm
  · exfalso
    have : (getF l (P : Int) (k : Int)).2.2 ≠ 0 := by
      unfold getF
      rw [if_neg (by omega), if_neg (by omega), if_neg (by omega)]
      split
      · rw [if_neg (by omega)]; decide
      · decide
    rw [if_neg this] at h
    cases h
theorem byte_inv {l : List Int} (hb : isBytes l) {P : Nat} {m : Int × Int} (h : numD l (P : Int) 1 = some m) : isN m.1 ∧ m.2 = ((P + 1 : Nat) : Int) ∧ l.take (P + 1) = l.take P ++ byteL m.1 := by
  obtain ⟨N, rfl, h2, h3⟩ := numD_inv (k := 1) hb (by decide) (by decide) h
  exact ⟨⟨by show (0 : Int) ≤ (N : Int); omega, by show (N : Int) < 256; omega⟩, rfl, by rw [h3]; unfold byteL; rw [Int.toNat_natCast]⟩
theorem six_inv {l : List Int} (hb : isBytes l) {P : Nat} {m : Int × Int} (h : numD l (P : Int) 6 = some m) : isM m.1 ∧ m.2 = ((P + 6 : Nat) : Int) ∧ l.take (P + 6) = l.take P ++ lowL m.1.toNat 6 := by
  obtain ⟨N, rfl, h2, h3⟩ := numD_inv (k := 6) hb (by decide) (by decide) h
  exact ⟨⟨by show (0 : Int) ≤ (N : Int); omega, by show (N : Int) < 281474976710656; omega⟩, rfl, by rw [h3, Int.toNat_natCast]⟩
theorem nodesD_inv {l : List Int} (hb : isBytes l) : ∀ (k : Nat) (acc : List Int) (P : Nat) {q : List Int × Int}, nodesD l k acc (P : Int) = some q → ∃ ns, q = (acc ++ ns, ((P + k : Nat) : Int)) ∧ ns.length = k ∧ (∀ x ∈ ns, isN x) ∧ l.take (P + k) = l.take P ++ nodesB ns
  | 0, acc, P, q, h => by cases h; exact ⟨[], by simp, rfl, (by intro x hx; cases hx), by simp [nodesB]⟩
  | k + 1, acc, P, q, h => by
    obtain ⟨m, hm, h⟩ := Option.bind_eq_some_iff.1 h
    obtain ⟨h1, h2, h3⟩ := byte_inv hb hm
    rw [h2] at h
    obtain ⟨ns, e1, e2, e3, e4⟩ := nodesD_inv hb k _ _ h
    refine ⟨m.1 :: ns, by rw [e1]; simp [Nat.add_assoc, Nat.add_comm 1 k], by rw [List.length_cons, e2], ?_, ?_⟩
    · intro x hx
      rcases List.mem_cons.1 hx with rfl | hx
      · exact h1
      · exact e3 x hx
    · rw [show P + (k + 1) = P + 1 + k by omega, e4, h3]; simp [nodesB, List.append_assoc]
theorem partD_inv {l : List Int} (hb : isBytes l) {P : Nat} {q : PartV × Int} (h : partD l (P : Int) = some q) : ∃ Q : Nat, q.2 = (Q : Int) ∧ partOk q.1 ∧ l.take Q = l.take P ++ partB q.1 := by
  obtain ⟨a, ha, h⟩ := Option.bind_eq_some_iff.1 h
  obtain ⟨a1, a2, a3⟩ := six_inv hb ha
  rw [a2] at h
  obtain ⟨b, hb2, h⟩ := Option.bind_eq_some_iff.1 h
  obtain ⟨b1, b2, b3⟩ := six_inv hb hb2
  rw [b2] at h
  obtain ⟨m, hm, h⟩ := Option.bind_eq_some_iff.1 h
  obtain ⟨m1, m2, m3⟩ := byte_inv hb hm
  rw [m2] at h
  obtain ⟨r, hr, h⟩ := Option.bind_eq_some_iff.1 h
  obtain ⟨ns, e1, e2, e3, e4⟩ := nodesD_inv hb _ _ _ hr
  cases h
  subst e1
  rw [List.nil_append]
  have hlen : (ns.length : Int) = m.1 := by have := m1.1; omega
  refine ⟨_, rfl, ⟨a1, b1, show ns.length < 256 by have := m1.2; omega, e3⟩, ?_⟩
  rw [e4, m3, b3, a3]
  unfold partB
  dsimp only
  rw [hlen]
  simp [List.append_assoc]
theorem partsD_inv {l : List Int} (hb : isBytes l) : ∀ (k : Nat) (acc : List PartV) (P : Nat) {q : List PartV × Int}, partsD l k acc (P : Int) = some q → ∃ (ps : List PartV) (Q : Nat), q = (acc ++ ps, (Q : Int)) ∧ ps.length = k ∧ (∀ x ∈ ps, partOk x) ∧ l.take Q = l.take P ++ ps.flatMap partB
  | 0, acc, P, q, h => by cases h; exact ⟨[], P, by simp, rfl, (by intro x hx; cases hx), by simp⟩
  | k + 1, acc, P, q, h => by
    obtain ⟨m, hm, h⟩ := Option.bind_eq_some_iff.1 h
    obtain ⟨Q, h1, h2, h3⟩ := partD_inv hb hm
    rw [h1] at h
    obtain ⟨ps, Q2, e1, e2, e3, e4⟩ := partsD_inv hb k _ _ h
    refine ⟨m.1 :: ps, Q2, by rw [e1]; simp, by rw [List.length_cons, e2], ?_, ?_⟩
    · intro x hx
      rcases List.mem_cons.1 hx with rfl | hx
      · exact h2
      · exact e3 x hx
    · rw [e4, h3]; simp [List.append_assoc]
theorem chainD_inv {l : List Int} (hb : isBytes l) {q : (Int × Int × List PartV) × Int} (h : chainD l = some q) : ∃ Q : Nat, q.2 = (Q : Int) ∧ isN q.1.1 ∧ isM q.1.2.1 ∧ q.1.2.2.length < 256 ∧ (∀ x ∈ q.1.2.2, partOk x) ∧ l.take Q = chainB q.1.1 q.1.2.1 q.1.2.2 := by
  obtain ⟨a, ha, h⟩ := Option.bind_eq_some_iff.1 h
  obtain ⟨a1, a2, a3⟩ := byte_inv (P := 0) hb ha
  rw [a2] at h
  obtain ⟨b, hb2, h⟩ := Option.bind_eq_some_iff.1 h
  obtain ⟨b1, b2, b3⟩ := six_inv hb hb2
  rw [b2] at h
  obtain ⟨m, hm, h⟩ := Option.bind_eq_some_iff.1 h
  obtain ⟨m1, m2, m3⟩ := byte_inv hb hm
  rw [m2] at h
  obtain ⟨r, hr, h⟩ := Option.bind_eq_some_iff.1 h
  obtain ⟨ps, Q, e1, e2, e3, e4⟩ := partsD_inv hb _ _ _ hr
  cases h
  subst e1
  rw [List.nil_append]
  have hlen : (ps.length : Int) = m.1 := by have := m1.1; omega
  refine ⟨Q, rfl, a1, b1, show ps.length < 256 by have := m1.2; omega, e3, ?_⟩
  rw [e4, m3, b3, a3]
  unfold chainB
  dsimp only
  rw [hlen]
  simp [List.append_assoc]
theorem cfgB_in {id n : Int} {l : List Int} (h : cfgB id l n = true) : isM id ∧ ∀ x ∈ l, 0 ≤ x ∧ x < n := by
  have key : ∀ (b : Bool) k, k ≤ l.length → nodesAt n l b k = true → b = true ∧ ∀ i, i < k → 0 ≤ l.getD i 0 ∧ l.getD i 0 < n := by
    intro b k
    induction k with
    | zero => intro _ h; exact ⟨h, fun i hi => by omega⟩
    | succ k ih =>
      intro hk h
      rw [nodesAt, Bool.and_eq_true] at h
      obtain ⟨h1, h2⟩ := h
      obtain ⟨hb, hi⟩ := ih (by omega) h1
      simp only [Bool.and_eq_true, decide_eq_true_eq] at h2
      refine ⟨hb, fun i hik => ?_⟩
      rcases Nat.lt_succ_iff_lt_or_eq.1 hik with h3 | h3
      · exact hi i h3
      · subst h3; exact ⟨h2.1, h2.2.1⟩
  obtain ⟨hb, hi⟩ := key _ _ (Nat.le_refl _) h
  simp only [Bool.and_eq_true, decide_eq_true_eq] at hb
  refine ⟨⟨hb.1, hb.2.1⟩, fun x hx => ?_⟩
  obtain ⟨i, hlt, rfl⟩ := List.mem_iff_getElem.1 hx
  have := hi i hlt
  rwa [List.getD_eq_getElem?_getD, List.getElem?_eq_getElem hlt, Option.getD_some] at this
theorem inB_iff {x : Int} : inB x = true ↔ isM x := by simp [inB, isM]
/-- What a chain that may be is made of. -/
theorem right_ok {ow tr n : Int} {ps : List PartV} (h : rightF ow tr ps n = true) (hn : n ≤ 256) : isN ow ∧ isM tr ∧ ps.length < 256 ∧ ∀ p ∈ ps, partOk p := by
  have hin := rightF_in h
  have h9 := rightF_nodes h
  unfold rightF headB at h
  simp only [Bool.and_eq_true, decide_eq_true_eq] at h
  refine ⟨⟨h.1.1, by omega⟩, inB_iff.1 h.1.2.2.1, by omega, fun p hp => ?_⟩
  obtain ⟨i, hlt, rfl⟩ := List.mem_iff_getElem.1 hp
  have h1 := hin.2 i hlt
  unfold partAt at h1
  rw [List.getD_eq_getElem?_getD, List.getElem?_eq_getElem hlt, Option.getD_some] at h1
  simp only [Bool.and_eq_true] at h1
  have h2 := cfgB_in h1.2.1
  have h3 := h9 i hlt
  exact ⟨inB_iff.1 h1.1, h2.1, by omega, fun x hx => ⟨(h2.2 x hx).1, by have := (h2.2 x hx).2; omega⟩⟩
theorem goodD_inv {l : List Int} (hb : isBytes l) {n o t : Int} {ps : List PartV} (h : goodD l n = some (o, t, ps)) : rightF o t ps n = true ∧ encL o t ps = l := by
  obtain ⟨⟨⟨o', t', ps'⟩, Q'⟩, hq, h⟩ := Option.bind_eq_some_iff.1 h
  split at h
  · rename_i hc
    cases h
    dsimp only at hc
    obtain ⟨Q, h1, h2, h3, h4, h5, h6⟩ := chainD_inv hb hq
    refine ⟨hc.2, ?_⟩
    rw [encL_ev h2 h3 h4 h5, ← h6]
    have : Q = l.length := by have := hc.1; omega
    rw [this, List.take_length]
  · cases h
/-- Bytes that are read are written the same. -/
theorem enc_dec {l : List Int} (hb : isBytes l) {n : Int} (h : (decF l n).2.2.2 = 0) : encF (decF l n).1 (decF l n).2.1 (decF l n).2.2.1 n = (l, 0) := by
  unfold decF at h ⊢
  by_cases hn : 256 < n
  · rw [if_pos hn] at h; cases h
  · rw [if_neg hn] at h ⊢
    cases hg : goodD l n with
    | none => rw [hg] at h; cases h
    | some q =>
      obtain ⟨o, t, ps⟩ := q
      obtain ⟨h1, h2⟩ := goodD_inv hb hg
      dsimp only
      unfold encF
      rw [if_pos h1, if_neg hn, h2]
/-- A chain that is written is read as it was. -/
theorem dec_enc {ow tr n : Int} {ps : List PartV} (h : (encF ow tr ps n).2 = 0) : decF (encF ow tr ps n).1 n = (ow, tr, ps, 0) := by
  unfold encF at h ⊢
  by_cases hr : rightF ow tr ps n = true
  · rw [if_pos hr] at h ⊢
    by_cases hn : 256 < n
    · rw [if_pos hn] at h; cases h
    · rw [if_neg hn] at h ⊢
      obtain ⟨h1, h2, h3, h4⟩ := right_ok hr (by omega)
      dsimp only
      rw [encL_ev h1 h2 h3 h4]
      have hc := chainD_back h1 h2 h3 h4
      unfold decF goodD
      rw [if_neg hn, hc, Option.bind_some, if_pos ⟨rfl, hr⟩]
  · rw [if_neg hr] at h; cases h
theorem lowL_isB (n k : Nat) : isBytes (lowL n k) := lowL_bytes n k
theorem encF_bytes (ow tr : Int) (ps : List PartV) (n : Int) : isBytes (encF ow tr ps n).1 := by
  have hput : ∀ x k, isBytes (putF x k).1 := by
    intro x k
    unfold putF
    split
    · intro y hy; cases hy
    split
    · intro y hy; cases hy
    split
    · intro y hy; cases hy
    split
    · intro y hy; cases hy
    · exact lowL_bytes _ _
  have hnum : ∀ b k l, isBytes b → isBytes (numsF b k l) := by
    intro b k l hb x hx
    unfold numsF at hx
    rcases List.mem_append.1 hx with h | h
    · exact hb x h
    · obtain ⟨y, _, hy⟩ := List.mem_flatMap.1 h
      exact hput y k x hy
  have hfold : ∀ (qs : List PartV) (b : List Int), isBytes b → isBytes (qs.foldl partE b) := by
    intro qs
    induction qs with
    | nil => intro b hb; exact hb
    | cons q qs ih => intro b hb; exact ih _ (hnum _ _ _ (hnum _ _ _ (hnum _ _ _ hb)))
  have h0 : isBytes ([] : List Int) := by intro x hx; cases hx
  unfold encF
  split
  · split
    · exact h0
    · exact hfold _ _ (hnum _ _ _ (hnum _ _ _ (hnum _ _ _ h0)))
  · exact h0
end Go.Proofs.Ytpcoelimabojcaa.Hand
