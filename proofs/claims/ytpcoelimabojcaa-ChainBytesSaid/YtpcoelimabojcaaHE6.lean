/- What Encode answers. -/
import Derived.Test.YtpcoelimabojcaaHE5
import Derived.Test.YtpcoelimabojcaaHC11
namespace Go.Proofs.Ytpcoelimabojcaa.Hand
open Go.RowKit Go.Proofs.Ytpcoelimabojcaa Go.Proofs.YtpcoelimabojcaaW.PrintWords Go.Proofs.YtpcoelimabojcaaW.PrintLast
set_option linter.unusedVariables false
set_option linter.unusedSimpArgs false
/-- A part behind bytes. -/
def partE (b : List Int) (p : PartV) : List Int := numsF (numsF (numsF b 6 [p.first, p.id]) 1 [(p.nodes.length : Int)]) 1 p.nodes
def headE (ow tr : Int) (n : Nat) : List Int := numsF (numsF (numsF [] 1 [ow]) 6 [tr]) 1 [(n : Int)]
def encL (ow tr : Int) (ps : List PartV) : List Int := ps.foldl partE (headE ow tr ps.length)
/-- What Encode answers. -/
def encF (ow tr : Int) (ps : List PartV) (n : Int) : List Int × Int := if rightF ow tr ps n = true then (if 256 < n then ([], 6) else (encL ow tr ps, 0)) else ([], 1)
theorem headE_len (ow tr : Int) (n : Nat) : (headE ow tr n).length ≤ 18 := by
  unfold headE
  have h1 := numsF_len [] 1 [ow]
  have h2 := numsF_len (numsF [] 1 [ow]) 6 [tr]
  have h3 := numsF_len (numsF (numsF [] 1 [ow]) 6 [tr]) 1 [(n : Int)]
  simp only [List.length_nil, List.length_singleton] at h1 h2 h3
  omega
theorem partE_len (b : List Int) (p : PartV) : (partE b p).length ≤ b.length + 18 + 6 * p.nodes.length := by
  unfold partE
  have h1 := numsF_len b 6 [p.first, p.id]
  have h2 := numsF_len (numsF b 6 [p.first, p.id]) 1 [(p.nodes.length : Int)]
  have h3 := numsF_len (numsF (numsF b 6 [p.first, p.id]) 1 [(p.nodes.length : Int)]) 1 p.nodes
  simp only [List.length_cons, List.length_nil] at h1 h2 h3
  omega
theorem cfgB_len {id n : Int} {l : List Int} (h : cfgB id l n = true) : l.length ≤ 9 := by
  have : ∀ k, nodesAt n l (decide (0 ≤ id) && (decide (id < 281474976710656) && (decide ((1 : Int) ≤ l.length) && decide ((l.length : Int) ≤ 9)))) k = true → l.length ≤ 9 := by
    intro k
    induction k with
    | zero => intro h; simp [nodesAt] at h; omega
    | succ k ih => intro h; rw [nodesAt, Bool.and_eq_true] at h; exact ih h.1
  exact this _ h
theorem rightF_in {ow tr n : Int} {ps : List PartV} (h : rightF ow tr ps n = true) : ps.length ≤ 64 ∧ ∀ i, i < ps.length → partAt n ps i = true := by
  unfold rightF headB at h
  simp only [Bool.and_eq_true, decide_eq_true_eq] at h
  refine ⟨by omega, ?_⟩
  have : ∀ k, rightAt n ps k = true → ∀ i, i < k → partAt n ps i = true := by
    intro k
    induction k with
    | zero => intro _ i hi; omega
    | succ k ih =>
      intro h i hi
      rw [rightAt, Bool.and_eq_true] at h
      rcases Nat.lt_succ_iff_lt_or_eq.1 hi with h1 | h1
      · exact ih h.1 i h1
      · subst h1; exact h.2
  exact this _ h.2.1
theorem rightF_nodes {ow tr n : Int} {ps : List PartV} (h : rightF ow tr ps n = true) : ∀ i (hi : i < ps.length), ps[i].nodes.length ≤ 9 := by
  intro i hi
  have h1 := (rightF_in h).2 i hi
  unfold partAt at h1
  simp only [Bool.and_eq_true] at h1
  have h2 := cfgB_len h1.2.1
  rwa [List.getD_eq_getElem?_getD, List.getElem?_eq_getElem hi, Option.getD_some] at h2
theorem encAt_len {ow tr n : Int} {ps : List PartV} (h : rightF ow tr ps n = true) (i : Nat) (hi : i ≤ ps.length) : ((ps.take i).foldl partE (headE ow tr ps.length)).length ≤ 18 + 72 * i := by
  induction i with
  | zero => rw [List.take_zero]; exact headE_len ow tr _
  | succ i ih =>
    rw [List.take_add_one, List.getElem?_eq_getElem (show i < ps.length by omega), Option.toList_some, List.foldl_append, List.foldl_cons, List.foldl_nil]
    have h1 := partE_len ((ps.take i).foldl partE (headE ow tr ps.length)) ps[i]
    have h2 := rightF_nodes h i (by omega)
    have h3 := ih (by omega)
    omega
end Go.Proofs.Ytpcoelimabojcaa.Hand
