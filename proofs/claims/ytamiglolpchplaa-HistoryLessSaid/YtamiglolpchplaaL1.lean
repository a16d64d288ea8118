/- The least rank of what begins then, in plain words. -/
import Derived.Test.YtamiglolpchplaaK4
namespace Go.Proofs.Ytamiglolpchplaa.Hand
set_option linter.unusedVariables false
set_option linter.unusedSimpArgs false
/-- As the document says it: over all calls that are done. -/
def leastL (n : Int) (b : Int) : List CallV → Int
  | [] => n
  | c :: cs => leastL (if c.done = true ∧ c.fin < b then max n (rankF c) else n) b cs
/-- As the program has it: in a row that is sorted by End, until one ends late. -/
def leastB (n : Int) (b : Int) : List CallV → Int
  | [] => n
  | c :: cs => if b ≤ c.fin then n else leastB (max n (rankF c)) b cs
theorem leastL_le (b : Int) : ∀ (l : List CallV) (n k : Int), leastL n b l ≤ k ↔ n ≤ k ∧ ∀ c ∈ l, c.done = true → c.fin < b → rankF c ≤ k
  | [], n, k => by simp [leastL]
  | c :: cs, n, k => by
    rw [leastL, leastL_le b cs]
    constructor
    · rintro ⟨h1, h2⟩
      refine ⟨?_, ?_⟩
      · split at h1 <;> omega
      · intro x hx hd hf
        rcases List.mem_cons.1 hx with rfl | hx
        · rw [if_pos ⟨hd, hf⟩] at h1; omega
        · exact h2 x hx hd hf
    · rintro ⟨h1, h2⟩
      refine ⟨?_, fun x hx => h2 x (.tail _ hx)⟩
      split
      · rename_i hc
        have := h2 c (.head _) hc.1 hc.2
        omega
      · exact h1
theorem leastB_le (b : Int) : ∀ (l : List CallV) (n k : Int), (∀ c ∈ l, c.done = true) → l.Pairwise (fun x y => x.fin ≤ y.fin) → (leastB n b l ≤ k ↔ n ≤ k ∧ ∀ c ∈ l, c.done = true → c.fin < b → rankF c ≤ k)
  | [], n, k, _, _ => by simp [leastB]
  | c :: cs, n, k, hd, hs => by
    rw [leastB]
    obtain ⟨hs1, hs2⟩ := List.pairwise_cons.1 hs
    split
    · rename_i hc
      constructor
      · intro h1
        refine ⟨h1, fun x hx _ hf => ?_⟩
        rcases List.mem_cons.1 hx with rfl | hx
        · omega
        · have := hs1 x hx; omega
      · exact fun h => h.1
    · rename_i hc
      rw [leastB_le b cs _ _ (fun x hx => hd x (.tail _ hx)) hs2]
      constructor
      · rintro ⟨h1, h2⟩
        refine ⟨by omega, fun x hx hxd hf => ?_⟩
        rcases List.mem_cons.1 hx with rfl | hx
        · omega
        · exact h2 x hx hxd hf
      · rintro ⟨h1, h2⟩
        have := h2 c (.head _) (hd c (.head _)) (by omega)
        exact ⟨by omega, fun x hx => h2 x (.tail _ hx)⟩
theorem le_all {a b : Int} (h : ∀ k, a ≤ k ↔ b ≤ k) : a = b := Int.le_antisymm ((h b).2 (Int.le_refl b)) ((h a).1 (Int.le_refl a))
theorem leastB_eq (n b : Int) (l : List CallV) (hd : ∀ c ∈ l, c.done = true) (hs : l.Pairwise (fun x y => x.fin ≤ y.fin)) : leastB n b l = leastL n b l :=
  le_all fun k => by rw [leastB_le b l n k hd hs, leastL_le]
theorem leastL_perm (n b : Int) {l l' : List CallV} (h : l.Perm l') : leastL n b l = leastL n b l' :=
  le_all fun k => by
    rw [leastL_le, leastL_le]
    exact and_congr_right fun _ => ⟨fun g c hc => g c (h.mem_iff.2 hc), fun g c hc => g c (h.mem_iff.1 hc)⟩
theorem leastL_done (n b : Int) (l : List CallV) : leastL n b (l.filter (·.done)) = leastL n b l :=
  le_all fun k => by
    rw [leastL_le, leastL_le]
    refine and_congr_right fun _ => ⟨fun g c hc hd => g c (List.mem_filter.2 ⟨hc, hd⟩) hd, fun g c hc hd => g c (List.mem_filter.1 hc).1 hd⟩
end Go.Proofs.Ytamiglolpchplaa.Hand
