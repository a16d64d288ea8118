/- TxnMarks, in plain words. -/
import Derived.Test.YtofegigbhohebaaTB19
namespace Go.Proofs.Ytofegigbhohebaa.Hand
open Go.RowKit Go.Proofs.Ytofegigbhohebaa Go.Proofs.YtofegigbhohebaaW.PrintWords
set_option linter.unusedVariables false
set_option linter.unusedSimpArgs false
def mkA (p : Int) : EvV := ⟨2, ByteArray.empty, 0, 0, p, 0, 0, false⟩
def mkE (yes : Bool) : EvV := ⟨3, ByteArray.empty, 0, 0, 0, 0, 0, yes⟩
def mkM (p : Int) : EvV := ⟨4, ByteArray.empty, 0, 0, p, 0, 0, false⟩
def mkP (L : List Int) (st : Int) : List ProdV := [⟨nmX, 10, 0, st, 0, L⟩]
theorem rightA {p : Int} (h0 : 0 ≤ p) (h1 : p < 1000) : rightE (mkA p) = true := by
  unfold rightE mkA inE noName
  simp
  omega
theorem rightM {p : Int} (h0 : 0 ≤ p) (h1 : p < 1000) : rightE (mkM p) = true := by
  unfold rightE mkM inE noName
  simp
  omega
theorem addD {p : Int} (h0 : 0 ≤ p) (h1 : p < 1000) {L : List Int} {st : Int} (hst : st = 0 ∨ st = 1) (hl : L.length < 100) : decideF (mkP L st) (mkA p) = (decide (p ∈ L), 0) := by
  unfold decideF
  rw [rightA h0 h1, if_pos rfl]
  simp only [mkA, mkP, doneF, prodAt, endsP, List.length_singleton]
  rcases hst with rfl | rfl <;> by_cases hm : p ∈ L <;> simp [hm, show ¬ 100 ≤ L.length by omega]
theorem addA {p : Int} (h0 : 0 ≤ p) (h1 : p < 1000) {L : List Int} {st : Int} (hst : st = 0 ∨ st = 1) (hs0 : st = 0 ↔ L = []) (hl : L.length < 100) : applyF (mkP L st) (mkA p) = mkP (if p ∈ L then L else insertF L p) 1 := by
  unfold applyF
  rw [addD h0 h1 hst hl]
  by_cases hm : p ∈ L
  · have hst1 : st = 1 := hst.resolve_left (fun h => by rw [hs0.1 h] at hm; cases hm)
    simp [hm, hst1]
  · simp [hm, doesF, mkA, mkP, prodAt, addP]
    rcases hst with rfl | rfl <;> simp
theorem rightEnd (yes : Bool) : rightE (mkE yes) = true := by cases yes <;> kernel_rfl
theorem endD {L : List Int} {st : Int} (yes : Bool) (hst : st = 0 ∨ st = 1) : decideF (mkP L st) (mkE yes) = (decide (st = 0), 0) := by
  unfold decideF
  rw [rightEnd, if_pos rfl]
  simp only [mkE, mkP, doneF, prodAt, endsP, List.length_singleton]
  rcases hst with rfl | rfl <;> simp
def stE (L : List Int) (yes : Bool) : Int := if L.length = 0 then 0 else if yes = true then 2 else 3
theorem endA {L : List Int} {st : Int} (yes : Bool) (hst : st = 0 ∨ st = 1) (hs0 : st = 0 ↔ L = []) : applyF (mkP L st) (mkE yes) = mkP L (stE L yes) := by
  unfold applyF
  rw [endD yes hst]
  rcases hst with rfl | rfl
  · have := hs0.1 rfl
    subst this
    simp [stE]
  · have hL : L ≠ [] := fun h => by have := hs0.2 h; omega
    have h2 : doesF (mkP L 1) (mkE yes) = mkP L (stE L yes) := rfl
    simp [h2]
theorem markD {p : Int} (h0 : 0 ≤ p) (h1 : p < 1000) {L : List Int} {st : Int} (hst : st = 2 ∨ st = 3) (hm : p ∈ L) : decideF (mkP L st) (mkM p) = (false, 0) := by
  unfold decideF
  rw [rightM h0 h1, if_pos rfl]
  simp only [mkM, mkP, doneF, prodAt, endsP, List.length_singleton]
  rcases hst with rfl | rfl <;> simp [hm]
theorem markA {p : Int} (h0 : 0 ≤ p) (h1 : p < 1000) {L : List Int} {st : Int} (hst : st = 2 ∨ st = 3) (hm : p ∈ L) : applyF (mkP L st) (mkM p) = mkP (L.filter fun n => !decide (n = p)) (if (L.filter fun n => !decide (n = p)).length = 0 then 0 else st) := by
  unfold applyF
  rw [markD h0 h1 hst hm]
  have h2 : doesF (mkP L st) (mkM p) = mkP (L.filter fun n => !decide (n = p)) (if (L.filter fun n => !decide (n = p)).length = 0 then 0 else st) := rfl
  rw [h2, if_neg (by simp)]
theorem todosM {L : List Int} {st : Int} (hst : st = 2 ∨ st = 3) : todosF (mkP L st) = L.map fun n => ⟨0, 0, n, decide (st = 2)⟩ := by
  unfold todosF todosUpto mkP tdOf endsP
  rcases hst with rfl | rfl <;> simp
theorem todosM0 : todosF (mkP [] 0) = [] := by kernel_rfl
end Go.Proofs.Ytofegigbhohebaa.Hand
