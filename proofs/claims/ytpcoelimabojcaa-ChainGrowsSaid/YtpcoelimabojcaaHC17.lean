/- A chain that is extended again and again: the plain law. -/
import Derived.Test.YtpcoelimabojcaaHC16
namespace Go.Proofs.Ytpcoelimabojcaa.Hand
open Go.RowKit Go.Proofs.Ytpcoelimabojcaa Go.Proofs.YtpcoelimabojcaaW.PrintWords
set_option linter.unusedVariables false
set_option linter.unusedSimpArgs false
/-- How long the next loglet is. -/
def stepL (x : Int) : Int := (x.tmod 4097 + 4097).tmod 4097
theorem stepL_in (x : Int) : 0 ≤ stepL x ∧ stepL x ≤ 4096 := by
  unfold stepL
  have h1 := Int.tmod_lt_of_pos x (show (0 : Int) < 4097 by decide)
  have h2 : -4097 < x.tmod 4097 := by
    have := Int.lt_tmod_of_pos x (show (0 : Int) < 4097 by decide)
    omega
  rw [Int.tmod_eq_emod_of_nonneg (by omega)]
  omega
/-- Where the ith loglet begins. -/
def endsF (l : List Int) : Nat → Int
  | 0 => 0
  | i + 1 => endsF l i + stepL (l.getD i 0)
theorem endsF_step (l : List Int) (i : Nat) : endsF l i ≤ endsF l (i + 1) ∧ endsF l (i + 1) ≤ endsF l i + 4096 := by
  have := stepL_in (l.getD i 0)
  rw [endsF]
  omega
theorem endsF_in (l : List Int) : ∀ i, 0 ≤ endsF l i ∧ endsF l i ≤ 4096 * i
  | 0 => by simp [endsF]
  | i + 1 => by have := endsF_in l i; have := endsF_step l i; omega
section
variable (F : Nat → Int)
/-- Those that keep addresses of their own, and the last. -/
def keptN : Nat → List Nat
  | 0 => [0]
  | k + 1 => (if F k = F (k + 1) then (keptN k).dropLast else keptN k) ++ [k + 1]
def partN (j : Nat) : PartV := ⟨F j, j, [0, 1, 2]⟩
def grown : Nat → List PartV
  | 0 => []
  | k + 1 => (keptN F k).map (partN F)
/-- What holds of those that are kept. -/
def KeptP (M : List Nat) (k : Nat) : Prop :=
  (∀ i, i + 1 < M.length → F (M.getD (i + 1) 0) = F (M.getD i 0 + 1) ∧ F (M.getD i 0) < F (M.getD (i + 1) 0) ∧ M.getD i 0 < M.getD (i + 1) 0) ∧ F (M.getD 0 0) = 0 ∧ M.getD (M.length - 1) 0 = k ∧ 0 < M.length ∧ M.length ≤ k + 1
variable {F}
theorem getD_snoc_lt {L : List Nat} {x i : Nat} (h : i < L.length) : (L ++ [x]).getD i 0 = L.getD i 0 := by
  simp [List.getD_eq_getElem?_getD, List.getElem?_append_left h]
theorem getD_snoc_eq {L : List Nat} {x : Nat} : (L ++ [x]).getD L.length 0 = x := by simp [List.getD_eq_getElem?_getD]
theorem getD_dropLast {L : List Nat} {i : Nat} (h : i + 1 < L.length) : L.dropLast.getD i 0 = L.getD i 0 := by
  rw [List.getD_eq_getElem?_getD, List.getD_eq_getElem?_getD, List.getElem?_dropLast, if_pos (by omega)]
theorem keptN_ok (h0 : F 0 = 0) (hm : ∀ i, F i ≤ F (i + 1)) : ∀ k, KeptP F (keptN F k) k
  | 0 => ⟨fun i hi => by simp [keptN] at hi, by simp [keptN, h0], by simp [keptN], by simp [keptN], by simp [keptN]⟩
  | k + 1 => by
    obtain ⟨h1, h2, h3, h4, h5⟩ := keptN_ok h0 hm k
    rw [keptN]
    by_cases he : F k = F (k + 1)
    · rw [if_pos he]
      have hl : (keptN F k).dropLast.length = (keptN F k).length - 1 := List.length_dropLast
      refine ⟨fun i hi => ?_, ?_, ?_, by simp, by simp; omega⟩
      · rw [List.length_append, hl, List.length_singleton] at hi
        rcases Nat.lt_or_ge (i + 1) ((keptN F k).length - 1) with h6 | h6
        · rw [getD_snoc_lt (i := i + 1) (by omega), getD_snoc_lt (i := i) (by omega), getD_dropLast (i := i + 1) (by omega), getD_dropLast (i := i) (by omega)]
          exact h1 i (by omega)
        · have e : i + 1 = (keptN F k).dropLast.length := by omega
          obtain ⟨g1, g2, g3⟩ := h1 i (by omega)
          have e2 : (keptN F k).getD (i + 1) 0 = k := by have h9 := h3; rw [show (keptN F k).length - 1 = i + 1 by omega] at h9; exact h9
          rw [e2] at g1 g2 g3
          rw [getD_snoc_lt (i := i) (by omega), getD_dropLast (i := i) (by omega), e, getD_snoc_eq]
          exact ⟨by rw [← he, g1], by rw [← he]; exact g2, by omega⟩
      · rcases Nat.eq_zero_or_pos ((keptN F k).length - 1) with h6 | h6
        · have e : (keptN F k).dropLast = [] := List.eq_nil_of_length_eq_zero (by omega)
          have e2 : (keptN F k).getD 0 0 = k := by have h9 := h3; rw [show (keptN F k).length - 1 = 0 by omega] at h9; exact h9
          rw [e]
          show F (k + 1) = 0
          rw [← he, ← e2, h2]
        · rw [getD_snoc_lt (i := 0) (by omega), getD_dropLast (i := 0) (by omega)]; exact h2
      · rw [List.length_append, List.length_singleton, Nat.add_sub_cancel, getD_snoc_eq]
    · rw [if_neg he]
      refine ⟨fun i hi => ?_, ?_, ?_, by simp, by simp; omega⟩
      · rw [List.length_append, List.length_singleton] at hi
        rcases Nat.lt_or_ge (i + 1) (keptN F k).length with h6 | h6
        · rw [getD_snoc_lt (i := i + 1) (by omega), getD_snoc_lt (i := i) (by omega)]
          exact h1 i (by omega)
        · have e : i + 1 = (keptN F k).length := by omega
          have e2 : (keptN F k).getD i 0 = k := by have h9 := h3; rw [show (keptN F k).length - 1 = i by omega] at h9; exact h9
          rw [getD_snoc_lt (i := i) (by omega), e, getD_snoc_eq, e2]
          have := hm k
          exact ⟨rfl, by omega, by omega⟩
      · rw [getD_snoc_lt (i := 0) (by omega)]; exact h2
      · rw [List.length_append, List.length_singleton, Nat.add_sub_cancel, getD_snoc_eq]
theorem keptN_mem (h0 : F 0 = 0) (hm : ∀ i, F i ≤ F (i + 1)) : ∀ k j, j ≤ k → (j = k ∨ F j ≠ F (j + 1)) → ∃ i, i < (keptN F k).length ∧ (keptN F k).getD i 0 = j
  | 0, j, hj, _ => ⟨0, by simp [keptN], by simp [keptN]; omega⟩
  | k + 1, j, hj, hc => by
    obtain ⟨-, -, h3, h4, h5⟩ := keptN_ok h0 hm k
    rw [keptN]
    rcases Nat.lt_or_ge j (k + 1) with h6 | h6
    · have hne : F j ≠ F (j + 1) := hc.resolve_left (by omega)
      obtain ⟨i, hi, hg⟩ := keptN_mem h0 hm k j (by omega) (.inr hne)
      by_cases he : F k = F (k + 1)
      · rw [if_pos he]
        have hl : (keptN F k).dropLast.length = (keptN F k).length - 1 := List.length_dropLast
        have hi2 : i + 1 < (keptN F k).length := by
          rcases Nat.lt_or_ge (i + 1) (keptN F k).length with h7 | h7
          · exact h7
          · have e : i = (keptN F k).length - 1 := by omega
            rw [e, h3] at hg
            subst hg
            exact absurd he hne
        exact ⟨i, by rw [List.length_append, hl]; omega, by rw [getD_snoc_lt (i := i) (by omega), getD_dropLast hi2, hg]⟩
      · rw [if_neg he]
        exact ⟨i, by rw [List.length_append]; omega, by rw [getD_snoc_lt hi, hg]⟩
    · obtain rfl : j = k + 1 := by omega
      exact ⟨_, by rw [List.length_append, List.length_singleton]; exact Nat.lt_succ_self _, getD_snoc_eq⟩
theorem kept_lt {M : List Nat} {k : Nat} (h : KeptP F M k) (i : Nat) : ∀ j, i < j → j < M.length → M.getD i 0 < M.getD j 0 ∧ F (M.getD i 0 + 1) ≤ F (M.getD j 0)
  | 0, h1, _ => by omega
  | j + 1, h1, h2 => by
    have g := h.1 j h2
    rcases Nat.lt_or_ge i j with h3 | h3
    · have := kept_lt h i j h3 (by omega)
      omega
    · obtain rfl : i = j := by omega
      omega
theorem part_get (M : List Nat) (i : Nat) (h : i < M.length) : (M.map (partN F)).getD i part0 = partN F (M.getD i 0) := by
  rw [List.getD_eq_getElem?_getD, List.getD_eq_getElem?_getD, List.getElem?_map, List.getElem?_eq_getElem h]
  rfl
theorem lastF_map (M : List Nat) (h : 0 < M.length) : lastF (M.map (partN F)) = F (M.getD (M.length - 1) 0) := by
  unfold lastF
  rw [List.getLast?_eq_getElem?, List.length_map, List.getElem?_map, List.getD_eq_getElem?_getD, List.getElem?_eq_getElem (show M.length - 1 < M.length by omega)]
  rfl
theorem kept_F {M : List Nat} {k : Nat} (h : KeptP F M k) (hB : ∀ i, 0 ≤ F i ∧ F i ≤ 4096 * i) (i : Nat) (hi : i < M.length) : M.getD i 0 ≤ k := by
  rcases Nat.lt_or_ge i (M.length - 1) with h1 | h1
  · have := (kept_lt h i (M.length - 1) h1 (by omega)).1
    rw [h.2.2.1] at this; omega
  · rw [show i = M.length - 1 by omega, h.2.2.1]; omega
theorem cfg012 (j : Nat) (hj : j ≤ 100) : cfgB (j : Int) [0, 1, 2] 3 = true := by
  have h2 : (j : Int) < 281474976710656 := by omega
  simp [cfgB, nodesAt, h2]
theorem grown_right (h0 : F 0 = 0) (hm : ∀ i, F i ≤ F (i + 1) ∧ F (i + 1) ≤ F i + 4096) (hB : ∀ i, 0 ≤ F i ∧ F i ≤ 4096 * i) (ow : Int) (ho : 0 ≤ ow ∧ ow < 16) (k : Nat) (hk : k ≤ 60) : rightF ow 0 (grown F k) 3 = true := by
  rcases k with _ | k
  · simp [rightF, grown, headB, rightAt, endB, inB, ho.1, ho.2]
  obtain hP := keptN_ok h0 (fun i => (hm i).1) k
  rw [grown]
  generalize keptN F k = M at hP
  have hlen : (M.map (partN F)).length = M.length := List.length_map _
  obtain ⟨h1, h2, h3, h4, h5⟩ := id hP
  have part : ∀ i, i < M.length → partAt 3 (M.map (partN F)) i = true := by
    intro i hi
    have hle := kept_F hP hB i hi
    have hb := hB (M.getD i 0)
    unfold partAt
    rw [part_get M i hi]
    have a1 : inB (partN F (M.getD i 0)).first = true := by
      show inB (F (M.getD i 0)) = true
      simp only [inB, Bool.and_eq_true, decide_eq_true_eq]; omega
    have a2 : cfgB (partN F (M.getD i 0)).id (partN F (M.getD i 0)).nodes 3 = true := cfg012 _ (by omega)
    have a3 : ¬ (partN F (M.getD i 0)).id ∈ ((M.map (partN F)).take i).map PartV.id := by
      intro hmem
      rw [← List.map_take, List.map_map, List.mem_map] at hmem
      obtain ⟨x, hx, hxe⟩ := hmem
      obtain ⟨t, ht, hte⟩ := List.mem_iff_getElem.1 hx
      rw [List.length_take] at ht
      rw [List.getElem_take] at hte
      have := (kept_lt hP t i (by omega) hi).1
      have e : M.getD t 0 = x := by rw [List.getD_eq_getElem?_getD, List.getElem?_eq_getElem (by omega)]; exact hte
      have : ((x : Nat) : Int) = (M.getD i 0 : Nat) := hxe
      omega
    rw [a1, a2, decide_eq_false a3]
    rcases Nat.eq_zero_or_pos i with h6 | h6
    · subst h6; rfl
    · have g := h1 (i - 1) (by omega)
      rw [show i - 1 + 1 = i by omega] at g
      have := hm (M.getD (i - 1) 0)
      rw [part_get M (i - 1) (by omega)]
      have b1 : decide ((partN F (M.getD (i - 1) 0)).first ≤ (partN F (M.getD i 0)).first) = true := decide_eq_true (show F _ ≤ F _ by omega)
      have b2 : decide ((partN F (M.getD i 0)).first - (partN F (M.getD (i - 1) 0)).first ≤ 4096) = true := decide_eq_true (show F _ - F _ ≤ 4096 by omega)
      rw [b1, b2]; simp
  have all : ∀ i, i ≤ M.length → rightAt 3 (M.map (partN F)) i = true := by
    intro i
    induction i with
    | zero => intro _; rfl
    | succ i ih => intro hi; rw [rightAt, ih (by omega), part i (by omega)]; rfl
  have hh : headB ow 0 (M.map (partN F)) = true := by
    simp only [headB, inB, hlen, Bool.and_eq_true, decide_eq_true_eq]; omega
  have he : endB 0 (M.map (partN F)) = true := by
    unfold endB
    rw [hlen, if_neg (by omega), part_get M 0 (by omega), lastF_map M (by omega), h3]
    have := hB k
    have c1 : decide ((partN F (M.getD 0 0)).first ≤ 0) = true := decide_eq_true (show F _ ≤ 0 by omega)
    have c2 : decide ((0 : Int) ≤ F k + 4096) = true := decide_eq_true (by omega)
    rw [c1, c2]
    by_cases h6 : M.length = 1
    · simp [h6]
    · have g := h1 0 (by omega)
      rw [part_get M 1 (by omega)]
      have c3 : decide ((0 : Int) < (partN F (M.getD 1 0)).first) = true := decide_eq_true (show 0 < F _ by rw [Nat.zero_add] at g; omega)
      rw [c3]; simp
  rw [rightF, hh, hlen, all _ (Nat.le_refl _), he]
  rfl
theorem ext_grown (h0 : F 0 = 0) (hm : ∀ i, F i ≤ F (i + 1)) (hB : ∀ i, 0 ≤ F i) (k : Nat) : extParts 0 (grown F k) (F k) (partN F k) = grown F (k + 1) := by
  rcases k with _ | k
  · simp [extParts, grown, keptN]
  have hP := keptN_ok h0 hm k
  have hlen : (grown F (k + 1)).length = (keptN F k).length := List.length_map _
  have hlast : lastF (grown F (k + 1)) = F k := by rw [grown, lastF_map _ hP.2.2.2.1, hP.2.2.1]
  rw [extParts, hlast, hlen, grown, grown, keptN, List.map_append]
  by_cases he : F k = F (k + 1)
  · rw [if_pos ⟨hP.2.2.2.1, .inl he⟩, if_pos he, List.dropLast_eq_take, List.map_take]
    rfl
  · rw [if_neg (fun h => ?_), if_neg he]
    · rfl
    · rcases h.2 with h1 | ⟨_, h1⟩
      · exact he h1
      · have := hm k; have := hB k; omega
theorem grown_where (h0 : F 0 = 0) (hm : ∀ i, F i ≤ F (i + 1) ∧ F (i + 1) ≤ F i + 4096) (hB : ∀ i, 0 ≤ F i ∧ F i ≤ 4096 * i) (k j : Nat) (hk : k ≤ 60) (hj : j < k) (addr : Int) (h1 : F j ≤ addr) (h2 : addr < F (j + 1)) : whereF 0 (grown F k) addr = ((j : Int), addr - F j, true) := by
  obtain ⟨k, rfl⟩ : ∃ m, k = m + 1 := ⟨k - 1, by omega⟩
  have hP := keptN_ok h0 (fun i => (hm i).1) k
  obtain ⟨i, hi, hg⟩ := keptN_mem h0 (fun i => (hm i).1) k j (by omega) (.inr (by omega))
  rw [grown]
  generalize keptN F k = M at hP hi hg
  have hlen : (M.map (partN F)).length = M.length := List.length_map _
  have hfi : ((M.map (partN F)).getD i part0) = partN F j := by rw [part_get M i hi, hg]
  have hb := hB j
  have hb2 := hm j
  have hat := findDown_at (M.map (partN F)) addr i (by rw [hfi]; exact h1) M.length hi (fun t ht1 ht2 => by
    rw [part_get M t ht2]
    have := (kept_lt hP i t ht1 ht2).2
    rw [hg] at this
    show addr < F _
    omega)
  rw [hfi] at hat
  have hw : wrap64 (addr - (partN F j).first) = addr - F j := by show wrap64 (addr - F j) = _; unfold wrap64; omega
  rw [hw, if_neg (by omega)] at hat
  have hf : findF 0 (M.map (partN F)) addr = ((i : Int), addr - F j, true) := by rw [findF, if_neg (by omega), hlen, hat]
  rw [whereF, hf]
  simp only [if_true, Int.toNat_natCast, hfi]
  rfl
end
end Go.Proofs.Ytpcoelimabojcaa.Hand
