/- The stable sort's merge, in plain words. -/
import Derived.Test.YtamiglolpchplaaJ1
import Derived.Sort.LotA
namespace Go.Proofs.Ytamiglolpchplaa.Hand
open Go.RowKit Go.Sort
set_option linter.unusedVariables false
set_option linter.unusedSimpArgs false
theorem swR_get (d : Array CallR) (a b : Nat) : ∀ n, a + n ≤ b → b + n ≤ d.size → ∀ t, (swR d a b n)[t]! = if a ≤ t ∧ t < a + n then d[b + (t - a)]! else if b ≤ t ∧ t < b + n then d[a + (t - b)]! else d[t]!
  | 0, _, _, t => by
    rw [swR, if_neg (by omega), if_neg (by omega)]
  | n + 1, h1, h2, t => by
    have ih := swR_get d a b n (by omega) (by omega)
    have hs := swR_size d a b n
    rw [swR, swp_get _ (by omega) (by omega), ih (a + n), ih (b + n), ih t]
    by_cases e1 : t = b + n
    · subst e1
      rw [if_pos rfl, if_neg (by omega), if_neg (by omega), if_neg (by omega), if_pos (by omega)]
      exact congrArg (fun q => d[q]!) (by omega)
    rw [if_neg e1]
    by_cases e2 : t = a + n
    · subst e2
      rw [if_pos rfl, if_neg (by omega), if_neg (by omega), if_pos (by omega)]
      exact congrArg (fun q => d[q]!) (by omega)
    rw [if_neg e2]
    by_cases c1 : a ≤ t ∧ t < a + n
    · rw [if_pos c1, if_pos (by omega)]
    by_cases c2 : b ≤ t ∧ t < b + n
    · rw [if_neg c1, if_pos c2, if_neg (by omega), if_pos (by omega)]
    · rw [if_neg c1, if_neg c2, if_neg (by omega), if_neg (by omega)]
theorem swR_perm (d : Array CallR) (a b lo hi : Nat) : ∀ n, lo ≤ a → a + n ≤ b → b + n ≤ hi → hi ≤ d.size → PermIn lo hi d (swR d a b n)
  | 0, _, _, _, _ => permIn_refl d lo hi
  | n + 1, h1, h2, h3, h4 => permIn_trans _ _ _ _ _ (swR_perm d a b lo hi n h1 (by omega) (by omega) h4) (swp_permIn _ _ _ _ _ (by omega) (by omega) (by omega) (by omega) (by rw [swR_size]; exact h4))
/-- [x, m) and [m, y) have changed places. -/
def Rot (d : Array CallR) (x m y : Nat) (d' : Array CallR) : Prop :=
  d'.size = d.size ∧ ∀ t, d'[t]! = if x ≤ t ∧ t < x + (y - m) then d[m + (t - x)]! else if x + (y - m) ≤ t ∧ t < y then d[x + (t - (x + (y - m)))]! else d[t]!
theorem Rot.left (e : Array CallR) (m i j : Nat) (hi : i ≤ m) (hj : 1 ≤ j) (hij : j < i) (hs : m + j ≤ e.size) (d' : Array CallR) (h : Rot (swR e (m - i) m j) (m - i + j) m (m + j) d') : Rot e (m - i) m (m + j) d' := by
  refine ⟨h.1.trans (swR_size _ _ _ _), fun t => ?_⟩
  have g := swR_get e (m - i) m j (by omega) (by omega)
  rw [h.2 t]
  by_cases c1 : m - i ≤ t ∧ t < m - i + j
  · rw [if_neg (by omega), if_neg (by omega), g, if_pos (by omega), if_pos (by omega)]
  by_cases c2 : m - i + j ≤ t ∧ t < m - i + j + j
  · rw [if_pos (by omega), g, if_neg (by omega), if_pos (by omega), if_neg (by omega), if_pos (by omega)]
    exact congrArg (fun q => e[q]!) (by omega)
  by_cases c3 : m - i + j + j ≤ t ∧ t < m + j
  · rw [if_neg (by omega), if_pos (by omega), g, if_neg (by omega), if_neg (by omega), if_neg (by omega), if_pos (by omega)]
    exact congrArg (fun q => e[q]!) (by omega)
  · rw [if_neg (by omega), if_neg (by omega), g, if_neg (by omega), if_neg (by omega), if_neg (by omega), if_neg (by omega)]
theorem Rot.right (e : Array CallR) (m i j : Nat) (hi : i ≤ m) (h1 : 1 ≤ i) (hij : i < j) (hs : m + j ≤ e.size) (d' : Array CallR) (h : Rot (swR e (m - i) (m + j - i) i) (m - i) m (m + (j - i)) d') : Rot e (m - i) m (m + j) d' := by
  refine ⟨h.1.trans (swR_size _ _ _ _), fun t => ?_⟩
  have g := swR_get e (m - i) (m + j - i) i (by omega) (by omega)
  rw [h.2 t]
  by_cases c1 : m - i ≤ t ∧ t < m - i + (j - i)
  · rw [if_pos (by omega), g, if_neg (by omega), if_neg (by omega), if_pos (by omega)]
  by_cases c2 : m - i + (j - i) ≤ t ∧ t < m + (j - i)
  · rw [if_neg (by omega), if_pos (by omega), g, if_pos (by omega), if_pos (by omega)]
    exact congrArg (fun q => e[q]!) (by omega)
  by_cases c3 : m + (j - i) ≤ t ∧ t < m + j
  · rw [if_neg (by omega), if_neg (by omega), g, if_neg (by omega), if_pos (by omega), if_neg (by omega), if_pos (by omega)]
    exact congrArg (fun q => e[q]!) (by omega)
  · rw [if_neg (by omega), if_neg (by omega), g, if_neg (by omega), if_neg (by omega), if_neg (by omega), if_neg (by omega)]
theorem Rot.both (e : Array CallR) (m i : Nat) (hi : i ≤ m) (hs : m + i ≤ e.size) : Rot e (m - i) m (m + i) (swR e (m - i) m i) := by
  refine ⟨swR_size _ _ _ _, fun t => ?_⟩
  rw [swR_get e (m - i) m i (by omega) (by omega)]
  by_cases c1 : m - i ≤ t ∧ t < m - i + i
  · rw [if_pos c1, if_pos (by omega)]
  by_cases c2 : m ≤ t ∧ t < m + i
  · rw [if_neg c1, if_pos c2, if_neg (by omega), if_pos (by omega)]
    exact congrArg (fun q => e[q]!) (by omega)
  · rw [if_neg c1, if_neg c2, if_neg (by omega), if_neg (by omega)]
theorem Rot.none_l (d : Array CallR) (m y : Nat) (h : m ≤ y) : Rot d m m y d := ⟨rfl, fun t => by
  by_cases c1 : m ≤ t ∧ t < m + (y - m)
  · rw [if_pos c1]; exact congrArg (fun q => d[q]!) (by omega)
  · rw [if_neg c1, if_neg (by omega)]⟩
theorem Rot.none_r (d : Array CallR) (x m : Nat) (h : x ≤ m) : Rot d x m m d := ⟨rfl, fun t => by
  by_cases c1 : x + (m - m) ≤ t ∧ t < m
  · rw [if_neg (by omega), if_pos c1]; exact congrArg (fun q => d[q]!) (by omega)
  · rw [if_neg (by omega), if_neg c1]⟩
section
variable {lt : CallR → CallR → Bool}
/-- Behind the rotation: two halves, each of two sorted parts, nothing on the right is less than anything on the left. -/
theorem merge_parts (hS : SWO lt) (d d1 : Array CallR) (a s m mid e b : Nat) (h1 : SortedIn lt a m d) (h2 : SortedIn lt m b d) (has : a ≤ s) (hsm : s ≤ m) (hme : m ≤ e) (heb : e ≤ b) (hmid : mid = s + (e - m))
    (c1 : s = a ∨ e = b ∨ lt d[e]! d[s - 1]! = false) (c2 : s = m ∨ e = m ∨ lt d[s]! d[e - 1]! = false) (hr : Rot d s m e d1) :
    SortedIn lt a s d1 ∧ SortedIn lt s mid d1 ∧ SortedIn lt mid e d1 ∧ SortedIn lt e b d1 ∧ ∀ i j, a ≤ i → i < mid → mid ≤ j → j < b → lt d1[j]! d1[i]! = false := by
  have g1 : ∀ t, a ≤ t → t < s → d1[t]! = d[t]! := fun t p q => by rw [hr.2 t, if_neg (by omega), if_neg (by omega)]
  have g2 : ∀ t, s ≤ t → t < mid → d1[t]! = d[m + (t - s)]! := fun t p q => by rw [hr.2 t, if_pos (by omega)]
  have g3 : ∀ t, mid ≤ t → t < e → d1[t]! = d[s + (t - mid)]! := fun t p q => by
    rw [hr.2 t, if_neg (by omega), if_pos (by omega)]
    exact congrArg (fun q => d[q]!) (by omega)
  have g4 : ∀ t, e ≤ t → t < b → d1[t]! = d[t]! := fun t p q => by rw [hr.2 t, if_neg (by omega), if_neg (by omega)]
  refine ⟨fun i j p q r => ?_, fun i j p q r => ?_, fun i j p q r => ?_, fun i j p q r => ?_, fun i j p q r z => ?_⟩
  · rw [g1 i (by omega) (by omega), g1 j (by omega) (by omega)]; exact h1 i j p q (by omega)
  · rw [g2 i (by omega) (by omega), g2 j (by omega) (by omega)]; exact h2 _ _ (by omega) (by omega) (by omega)
  · rw [g3 i (by omega) (by omega), g3 j (by omega) (by omega)]; exact h1 _ _ (by omega) (by omega) (by omega)
  · rw [g4 i (by omega) (by omega), g4 j (by omega) (by omega)]; exact h2 _ _ (by omega) (by omega) (by omega)
  · have s1 : ∀ u v, a ≤ u → u ≤ v → v < m → lt d[v]! d[u]! = false := fun u v p q r => by
      rcases Nat.eq_or_lt_of_le q with rfl | q
      · exact hS.irrefl _
      · exact h1 u v p q r
    have s2 : ∀ u v, m ≤ u → u ≤ v → v < b → lt d[v]! d[u]! = false := fun u v p q r => by
      rcases Nat.eq_or_lt_of_le q with rfl | q
      · exact hS.irrefl _
      · exact h2 u v p q r
    by_cases hi : i < s
    · rw [g1 i p hi]
      by_cases hj : j < e
      · rw [g3 j r hj]; exact s1 _ _ p (by omega) (by omega)
      · rw [g4 j (by omega) z]
        rcases c1 with c | c | c
        · omega
        · omega
        · exact hS.ntrans _ _ _ (s2 e j (by omega) (by omega) z) (hS.ntrans _ _ _ c (s1 i (s - 1) p (by omega) (by omega)))
    · rw [g2 i (by omega) q]
      by_cases hj : j < e
      · rw [g3 j r hj]
        rcases c2 with c | c | c
        · omega
        · omega
        · exact hS.ntrans _ _ _ (s1 s _ has (by omega) (by omega)) (hS.ntrans _ _ _ c (s2 _ (e - 1) (by omega) (by omega) (by omega)))
      · rw [g4 j (by omega) z]; exact s2 _ _ (by omega) (by omega) z
/-- Both halves sorted: the whole is. -/
theorem merge_done (d1 d2 d3 : Array CallR) (a mid b : Nat) (ham : a ≤ mid) (hmb : mid ≤ b) (hb : b ≤ d1.size) (hx : ∀ i j, a ≤ i → i < mid → mid ≤ j → j < b → lt d1[j]! d1[i]! = false)
    (p2 : PermIn a mid d1 d2) (s2 : SortedIn lt a mid d2) (p3 : PermIn mid b d2 d3) (s3 : SortedIn lt mid b d3) : SortedIn lt a b d3 := by
  have hs2 : d2.size = d1.size := p2.1
  have l3 : ∀ t, t < mid → d3[t]! = d2[t]! := fun t h => p3.2.1 t (.inl h)
  have r2 : ∀ t, mid ≤ t → d2[t]! = d1[t]! := fun t h => p2.2.1 t (.inr h)
  have q1 : ∀ j, mid ≤ j → j < b → ∀ i, a ≤ i → i < mid → lt d3[j]! d1[i]! = false := permIn_all d2 d3 mid b (fun y => ∀ i, a ≤ i → i < mid → lt y d1[i]! = false) (by omega) p3 (fun j h1 h2 i h3 h4 => by rw [r2 j h1]; exact hx i j h3 h4 h1 h2)
  have q2 : ∀ i, a ≤ i → i < mid → ∀ j, mid ≤ j → j < b → lt d3[j]! d2[i]! = false := permIn_all d1 d2 a mid (fun x => ∀ j, mid ≤ j → j < b → lt d3[j]! x = false) (by omega) p2 (fun i h1 h2 j h3 h4 => q1 j h3 h4 i h1 h2)
  intro i j p q r
  by_cases hj : j < mid
  · rw [l3 i (by omega), l3 j hj]; exact s2 i j p q hj
  · by_cases hi : i < mid
    · rw [l3 i hi]; exact q2 i p hi j (by omega) r
    · exact s3 i j (by omega) q r
end
end Go.Proofs.Ytamiglolpchplaa.Hand
