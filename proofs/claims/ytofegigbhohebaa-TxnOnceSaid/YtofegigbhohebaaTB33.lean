/- TxnOnce, in plain words. -/
import Derived.Test.YtofegigbhohebaaTB6
namespace Go.Proofs.Ytofegigbhohebaa.Hand
open Go.RowKit Go.Proofs.Ytofegigbhohebaa Go.Proofs.YtofegigbhohebaaW.PrintWords
set_option linter.unusedVariables false
set_option linter.unusedSimpArgs false
/-- What may become of a producer. -/
structure StepP (p q : ProdV) : Prop where
  ep : p.epoch ≤ q.epoch
  s2 : p.status = 2 → q.status = 2 ∨ q.status = 0
  s3 : p.status = 3 → q.status = 3 ∨ q.status = 0
  s0 : p.status = 0 → q.status = 0 ∨ q.status = 1
theorem StepP.refl (p : ProdV) : StepP p p := ⟨Int.le_refl _, fun h => .inl h, fun h => .inl h, fun h => .inl h⟩
theorem end_status (p : ProdV) (st : Int) : (endP p st).status = 0 ∨ (endP p st).status = st := by
  show (if p.places.length = 0 then 0 else st) = 0 ∨ (if p.places.length = 0 then 0 else st) = st
  split
  · exact .inl rfl
  · exact .inr rfl
theorem endsP_iff (p : ProdV) : endsP p = true ↔ p.status = 2 ∨ p.status = 3 := by simp [endsP]
/-- What may become of a book. -/
def StepB (ps qs : List ProdV) : Prop := ps.length ≤ qs.length ∧ (∀ i, i < ps.length → StepP (ps.getD i prod0) (qs.getD i prod0)) ∧ ∀ i, ps.length ≤ i → i < qs.length → (qs.getD i prod0).epoch = 0 ∧ (qs.getD i prod0).status = 0
theorem StepB.refl (ps : List ProdV) : StepB ps ps := ⟨Nat.le_refl _, fun i _ => StepP.refl _, fun i h1 h2 => by omega⟩
theorem StepB.set_ {ps : List ProdV} {j : Nat} (hj : j < ps.length) {q : ProdV} (h : StepP (ps.getD j prod0) q) : StepB ps (ps.set j q) := by
  refine ⟨by rw [List.length_set]; exact Nat.le_refl _, fun i hi => ?_, fun i h1 h2 => by rw [List.length_set] at h2; omega⟩
  by_cases e : j = i
  · subst e
    rw [show (ps.set j q).getD j prod0 = q by rw [List.getD_eq_getElem?_getD, List.getElem?_set_self hj]; rfl]
    exact h
  · rw [show (ps.set j q).getD i prod0 = ps.getD i prod0 by rw [List.getD_eq_getElem?_getD, List.getElem?_set_ne e, List.getD_eq_getElem?_getD]]
    exact StepP.refl _
theorem step_apply {ps : List ProdV} (hg : Good ps) (x : EvV) : StepB ps (applyF ps x) := by
  unfold applyF
  split
  · exact StepB.refl _
  rename_i hd
  have hd2 : (decideF ps x).2 = 0 := Classical.byContradiction fun e => hd (.inl e)
  have hd1 : (decideF ps x).1 = false := by
    cases e : (decideF ps x).1 with
    | false => rfl
    | true => exact absurd (.inr e) hd
  clear hd
  unfold decideF at hd1 hd2
  by_cases hr : rightE x = true
  rotate_left
  · rw [if_neg hr] at hd2; exact absurd hd2 (by decide)
  rw [if_pos hr] at hd1 hd2
  obtain ⟨hpr, hep, hpl, hti, hno⟩ := right_in hr
  unfold doesF
  by_cases h1 : x.kind = 1
  · rw [if_pos h1] at hd2 ⊢
    unfold grantF at hd2
    by_cases hm : x.name ∈ nmsOf ps
    · rw [if_pos hm] at hd2 ⊢
      obtain ⟨hlt, -⟩ := idx_lt hm
      dsimp only at hd2
      by_cases he : endsP (prodAt ps (idxV (nmsOf ps) x.name)) = true
      · rw [if_pos he] at hd2; exact absurd hd2 (by decide)
      refine StepB.set_ hlt ?_
      have hne : ¬ (prodAt ps (idxV (nmsOf ps) x.name)).status = 2 ∧ ¬ (prodAt ps (idxV (nmsOf ps) x.name)).status = 3 := by
        rw [endsP_iff] at he
        exact ⟨fun e => he (.inl e), fun e => he (.inr e)⟩
      have hpa : prodAt ps (idxV (nmsOf ps) x.name) = ps.getD (idxV (nmsOf ps) x.name).toNat prod0 := rfl
      rw [hpa] at hne ⊢
      generalize ps.getD (idxV (nmsOf ps) x.name).toNat prod0 = p at hne ⊢
      refine ⟨?_, fun h => absurd h hne.1, fun h => absurd h hne.2, fun h => ?_⟩
      · unfold beginP
        split
        · show p.epoch ≤ p.epoch + 1; omega
        · show p.epoch ≤ p.epoch + 1; omega
      · unfold beginP
        rw [if_neg (by omega)]
        exact .inl h
    · rw [if_neg hm]
      refine ⟨by rw [List.length_append]; omega, fun i hi => ?_, fun i h1 h2 => ?_⟩
      · rw [show (ps ++ [(⟨x.name, x.timeout, 0, 0, 0, []⟩ : ProdV)]).getD i prod0 = ps.getD i prod0 by rw [List.getD_eq_getElem?_getD, List.getElem?_append_left hi, List.getD_eq_getElem?_getD]]
        exact StepP.refl _
      · rw [List.length_append, List.length_singleton] at h2
        obtain rfl : i = ps.length := by omega
        rw [show (ps ++ [(⟨x.name, x.timeout, 0, 0, 0, []⟩ : ProdV)]).getD ps.length prod0 = ⟨x.name, x.timeout, 0, 0, 0, []⟩ by rw [List.getD_eq_getElem?_getD]; simp]
        exact ⟨rfl, rfl⟩
  rw [if_neg h1] at hd1 hd2 ⊢
  by_cases h5 : x.kind = 5
  · rw [if_neg (by omega), if_neg (by omega), if_neg (by omega)]
    refine ⟨by rw [List.length_map]; exact Nat.le_refl _, fun i hi => ?_, fun i h1 h2 => by rw [List.length_map] at h2; omega⟩
    rw [show (ps.map fun p => expP p x.now).getD i prod0 = expP (ps.getD i prod0) x.now by rw [List.getD_eq_getElem?_getD, List.getElem?_map, List.getElem?_eq_getElem hi, List.getD_eq_getElem?_getD, List.getElem?_eq_getElem hi]; rfl]
    have hgp := hg.at_ hi
    generalize ps.getD i prod0 = p at hgp
    unfold expP
    split
    · rename_i ho
      have hs : p.status = 1 := by
        unfold overP at ho
        simp only [Bool.and_eq_true, decide_eq_true_eq] at ho
        exact ho.1
      refine ⟨?_, fun h => by omega, fun h => by omega, fun h => by omega⟩
      show p.epoch ≤ min (p.epoch + 1) 2147483647
      have := hgp.e1
      omega
    · exact StepP.refl _
  rw [if_neg h5] at hd1 hd2
  by_cases hlen : (ps.length : Int) ≤ x.producer
  · rw [if_pos hlen] at hd2; exact absurd hd2 (by decide)
  rw [if_neg hlen] at hd1 hd2
  have hlt : x.producer.toNat < ps.length := by omega
  have hpa : prodAt ps x.producer = ps.getD x.producer.toNat prod0 := rfl
  rw [hpa] at hd1 hd2 ⊢
  unfold doneF at hd1 hd2
  by_cases he : (ps.getD x.producer.toNat prod0).epoch ≠ x.epoch
  · rw [if_pos he] at hd2; exact absurd hd2 (by decide)
  rw [if_neg he] at hd1 hd2
  by_cases h2 : x.kind = 2
  · rw [if_pos h2]
    rw [if_neg (by omega), if_pos h2] at hd1 hd2
    refine StepB.set_ hlt ?_
    generalize ps.getD x.producer.toNat prod0 = p at hd1 hd2 ⊢
    by_cases hen : endsP p = true
    · rw [if_pos hen] at hd2; exact absurd hd2 (by decide)
    have hne : ¬ p.status = 2 ∧ ¬ p.status = 3 := by
      rw [endsP_iff] at hen
      exact ⟨fun e => hen (.inl e), fun e => hen (.inr e)⟩
    refine ⟨?_, fun h => absurd h hne.1, fun h => absurd h hne.2, fun h => ?_⟩
    · unfold addP; split <;> exact Int.le_refl _
    · unfold addP; rw [if_pos h]; exact .inr rfl
  rw [if_neg h2]
  rw [if_neg h2] at hd1 hd2
  by_cases h3 : x.kind = 3
  · rw [if_pos h3]
    rw [if_neg (by omega)] at hd1 hd2
    refine StepB.set_ hlt ?_
    generalize ps.getD x.producer.toNat prod0 = p at hd1 hd2 ⊢
    by_cases hs1 : p.status = 1
    · exact ⟨Int.le_refl _, fun h => by omega, fun h => by omega, fun h => by omega⟩
    · rw [if_neg hs1] at hd1 hd2
      by_cases hs0 : p.status = 0
      · rw [if_pos hs0] at hd1; cases hd1
      rw [if_neg hs0] at hd1 hd2
      by_cases hy : x.yes = decide (p.status = 2)
      · rw [if_pos hy] at hd1; cases hd1
      · rw [if_neg hy] at hd2; exact absurd hd2 (by decide)
  rw [if_neg h3]
  by_cases h4 : x.kind = 4
  · rw [if_pos h4]
    refine StepB.set_ hlt ?_
    generalize ps.getD x.producer.toNat prod0 = p at hd1 hd2 ⊢
    unfold markP
    have hs := end_status { p with places := p.places.filter fun n => !decide (n = x.place) } p.status
    refine ⟨Int.le_refl _, fun h => ?_, fun h => ?_, fun h => ?_⟩ <;> rw [h] at hs ⊢ <;> omega
  · exfalso
    unfold rightE at hr
    rw [if_neg h1, if_neg h2, if_neg h3, if_neg h4, if_neg h5] at hr
    simp at hr
/-- What the law asks of one place. -/
theorem once_at {ps : List ProdV} (hg : Good ps) (x : EvV) (k : Nat) : (statusF ps k).2.1 ≤ (statusF (applyF ps x) k).2.1 ∧ ((statusF ps k).2.2 = true → (statusF (applyF ps x) k).2.2 = true) ∧ (0 ≤ (statusF (applyF ps x) k).1 ∧ (statusF (applyF ps x) k).1 ≤ 3) ∧
    ((statusF ps k).1 = 2 → (statusF (applyF ps x) k).1 = 2 ∨ (statusF (applyF ps x) k).1 = 0) ∧ ((statusF ps k).1 = 3 → (statusF (applyF ps x) k).1 = 3 ∨ (statusF (applyF ps x) k).1 = 0) ∧ ((statusF ps k).1 = 0 → (statusF (applyF ps x) k).1 ≤ 1) := by
  obtain ⟨h1, h2, h3⟩ := step_apply hg x
  have hg2 := hg.apply x
  generalize applyF ps x = qs at h1 h2 h3 hg2
  by_cases hk : k < ps.length
  · have e1 : statusF ps k = ((ps.getD k prod0).status, (ps.getD k prod0).epoch, true) := by
      unfold statusF prodAt; rw [if_pos (by omega), Int.toNat_natCast]
    have e2 : statusF qs k = ((qs.getD k prod0).status, (qs.getD k prod0).epoch, true) := by
      unfold statusF prodAt; rw [if_pos (by omega), Int.toNat_natCast]
    have hs := h2 k hk
    have hq := (hg2.at_ (show k < qs.length by omega)).st
    rw [e1, e2]
    exact ⟨hs.ep, fun _ => rfl, by show 0 ≤ (qs.getD k prod0).status ∧ (qs.getD k prod0).status ≤ 3; omega, hs.s2, hs.s3, fun h => by have := hs.s0 h; show (qs.getD k prod0).status ≤ 1; omega⟩
  · have e1 : statusF ps k = (0, 0, false) := by
      unfold statusF; rw [if_neg (by omega)]
    rw [e1]
    by_cases hq : k < qs.length
    · have e2 : statusF qs k = ((qs.getD k prod0).status, (qs.getD k prod0).epoch, true) := by
        unfold statusF prodAt; rw [if_pos (by omega), Int.toNat_natCast]
      obtain ⟨z1, z2⟩ := h3 k (by omega) hq
      rw [e2, z1, z2]
      simp
    · have e2 : statusF qs k = (0, 0, false) := by
        unfold statusF; rw [if_neg (by omega)]
      rw [e2]
      simp
end Go.Proofs.Ytofegigbhohebaa.Hand
