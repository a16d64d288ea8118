/- How great what Decode hands back may be. -/
import Derived.Test.YtpcoelimabojcaaHD4
namespace Go.Proofs.Ytpcoelimabojcaa.Hand
open Go.RowKit Go.Proofs.Ytpcoelimabojcaa Go.Proofs.YtpcoelimabojcaaW.PrintWords
set_option linter.unusedVariables false
set_option linter.unusedSimpArgs false
theorem numD_in {l : List Int} (hb : isBytes l) {p size : Int} {m : Int × Int} (h : numD l p size = some m) : ∃ N : Nat, m.1 = (N : Int) ∧ N < 256 ^ size.toNat := by
  unfold numD at h
  split at h
  · obtain ⟨N, h1, h2⟩ := getF_nat hb p size
    cases h
    exact ⟨N, h1, h2⟩
  · cases h
theorem nodesD_len {l : List Int} : ∀ (k : Nat) (acc : List Int) (p : Int) {q : List Int × Int}, nodesD l k acc p = some q → q.1.length = acc.length + k
  | 0, acc, p, q, h => by cases h; rfl
  | k + 1, acc, p, q, h => by
    obtain ⟨m, hm, h⟩ := Option.bind_eq_some_iff.1 h
    have := nodesD_len k _ _ h
    rw [this, List.length_append, List.length_singleton]; omega
theorem partD_in {l : List Int} (hb : isBytes l) {p : Int} {q : PartV × Int} (h : partD l p = some q) : q.1.nodes.length < 256 := by
  obtain ⟨a, ha, h⟩ := Option.bind_eq_some_iff.1 h
  obtain ⟨b, hb2, h⟩ := Option.bind_eq_some_iff.1 h
  obtain ⟨m, hm, h⟩ := Option.bind_eq_some_iff.1 h
  obtain ⟨r, hr, h⟩ := Option.bind_eq_some_iff.1 h
  cases h
  obtain ⟨N, h1, h2⟩ := numD_in hb hm
  have h2 : N < 256 := h2
  have := nodesD_len _ _ _ hr
  rw [List.length_nil, h1, Int.toNat_natCast] at this
  show r.1.length < 256
  omega
theorem partsD_in {l : List Int} (hb : isBytes l) : ∀ (k : Nat) (acc : List PartV) (p : Int) {q : List PartV × Int}, partsD l k acc p = some q → (∀ x ∈ acc, x.nodes.length < 256) → q.1.length = acc.length + k ∧ ∀ x ∈ q.1, x.nodes.length < 256
  | 0, acc, p, q, h, ha => by cases h; exact ⟨rfl, ha⟩
  | k + 1, acc, p, q, h, ha => by
    obtain ⟨m, hm, h⟩ := Option.bind_eq_some_iff.1 h
    have := partsD_in hb k _ _ h (fun x hx => by
      rcases List.mem_append.1 hx with h | h
      · exact ha x h
      · rw [List.mem_singleton] at h; subst h; exact partD_in hb hm)
    refine ⟨?_, this.2⟩
    rw [this.1, List.length_append, List.length_singleton]; omega
theorem chainD_in {l : List Int} (hb : isBytes l) {q : (Int × Int × List PartV) × Int} (h : chainD l = some q) : q.1.2.2.length < 256 ∧ ∀ x ∈ q.1.2.2, x.nodes.length < 256 := by
  obtain ⟨a, ha, h⟩ := Option.bind_eq_some_iff.1 h
  obtain ⟨b, hb2, h⟩ := Option.bind_eq_some_iff.1 h
  obtain ⟨m, hm, h⟩ := Option.bind_eq_some_iff.1 h
  obtain ⟨r, hr, h⟩ := Option.bind_eq_some_iff.1 h
  cases h
  obtain ⟨N, h1, h2⟩ := numD_in hb hm
  have h2 : N < 256 := h2
  have := partsD_in hb _ _ _ hr (by intro x hx; cases hx)
  rw [List.length_nil, h1, Int.toNat_natCast] at this
  exact ⟨show r.1.length < 256 by omega, this.2⟩
theorem decF_in {l : List Int} (hb : isBytes l) (n : Int) : (decF l n).2.2.1.length < 256 ∧ ∀ x ∈ (decF l n).2.2.1, x.nodes.length < 256 := by
  have z : ([] : List PartV).length < 256 ∧ ∀ x ∈ ([] : List PartV), x.nodes.length < 256 := ⟨by decide, by intro x hx; cases hx⟩
  unfold decF
  split
  · exact z
  · split
    · exact z
    · rename_i q hq
      obtain ⟨r, hr, h⟩ := Option.bind_eq_some_iff.1 hq
      split at h
      · cases h; exact chainD_in hb hr
      · cases h
end Go.Proofs.Ytpcoelimabojcaa.Hand
