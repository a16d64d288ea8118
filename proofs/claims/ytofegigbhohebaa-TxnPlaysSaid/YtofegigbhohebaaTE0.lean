/- The document's right: which events may be. -/
import Derived.Test.YtofegigbhohebaaPRs
import Derived.Test.YtofegigbhohebaaTB1
namespace Go.Proofs.Ytofegigbhohebaa.Hand
open Go.RowKit Go.Proofs.Ytofegigbhohebaa Go.Proofs.YtofegigbhohebaaW.PrintWords
set_option linter.unusedVariables false
set_option linter.unusedSimpArgs false
theorem tk1 (n : ByteArray) (a b c d e : Int) (y : Bool) : P3.gazetteref16_takes.f 8 1 n a b c d e y = some (1, n, 0, 0, 0, d, e, false) := by kernel_rfl
theorem tk2 (n : ByteArray) (a b c d e : Int) (y : Bool) : P3.gazetteref16_takes.f 8 2 n a b c d e y = some (2, ⟨#[]⟩, a, b, c, 0, e, false) := by kernel_rfl
theorem tk3 (n : ByteArray) (a b c d e : Int) (y : Bool) : P3.gazetteref16_takes.f 8 3 n a b c d e y = some (3, ⟨#[]⟩, a, b, 0, 0, 0, y) := by kernel_rfl
theorem tk4 (n : ByteArray) (a b c d e : Int) (y : Bool) : P3.gazetteref16_takes.f 8 4 n a b c d e y = some (4, ⟨#[]⟩, a, b, c, 0, 0, false) := by kernel_rfl
theorem tk5 (n : ByteArray) (a b c d e : Int) (y : Bool) : P3.gazetteref16_takes.f 8 5 n a b c d e y = some (5, ⟨#[]⟩, 0, 0, 0, 0, e, false) := by kernel_rfl
theorem in_inE (n b : Int) : P3.gazetteref16_in.f n b = some (inE n b) := by
  unfold P3.gazetteref16_in.f inE
  by_cases h : n ≥ 0
  · rw [if_pos h]; simp [h]
  · rw [if_neg h]; simp [h]
theorem rest5 (k : Nat) (K : Int) (n : ByteArray) (a b c d e : Int) (y : Bool) : P3.gazetteref16_right.j1 (k + 1) false K n a b c d e y = some (inE a 281474976710656 && inE b 2147483648 && inE c 281474976710656 && inE d 3601 && inE e 281474976710656) := by
  rw [P3.gazetteref16_right.j1, if_neg (by decide)]
  simp only [in_inE, Option.bind_some]
  cases inE a 281474976710656 <;> cases inE b 2147483648 <;> cases inE c 281474976710656 <;> cases inE d 3601 <;> cases inE e 281474976710656 <;> rfl
theorem nil_list (n : ByteArray) : (((⟨#[]⟩ : ByteArray).toList == n.toList) = n.toList.isEmpty) := by
  have : (⟨#[]⟩ : ByteArray).toList = [] := by kernel_rfl
  rw [this]
  cases n.toList <;> rfl
theorem empty_size (n : ByteArray) : n.toList.isEmpty = decide (n.size = 0) := by
  rw [ByteArray.toList_eq]
  obtain ⟨⟨l⟩⟩ := n
  cases l
  · rfl
  · simp [ByteArray.size]
theorem refRight1 (n : ByteArray) (a b c d e : Int) (y : Bool) : P3.gazetteref16_right.f 8 1 n a b c d e y = some (rightE ⟨1, n, a, b, c, d, e, y⟩) := by
  unfold P3.gazetteref16_right.f
  rw [if_neg (by decide), if_neg (by decide), tk1, Option.bind_some, P3.gazetteref16_right.j0]
  unfold rightE noName
  rw [empty_size]
  dsimp only
  by_cases h0 : a = 0 ∧ b = 0 ∧ c = 0 ∧ y = false
  · obtain ⟨rfl, rfl, rfl, rfl⟩ := h0
    rw [if_neg (by simp), if_pos rfl]
    by_cases h1 : (n.size : Int) < 1
    · rw [if_pos h1, P3.gazetteref16_right.j1, if_pos rfl]
      simp [show n.size = 0 by omega]
    rw [if_neg h1]
    by_cases h2 : (n.size : Int) > 64
    · rw [if_pos h2, P3.gazetteref16_right.j1, if_pos rfl]
      simp [show ¬ n.size ≤ 64 by omega]
    rw [if_neg h2]
    by_cases h3 : d < 1
    · rw [decide_eq_true h3, P3.gazetteref16_right.j1, if_pos rfl]
      simp [show ¬ 1 ≤ d by omega]
    · rw [decide_eq_false h3, rest5]
      simp [show 1 ≤ d by omega, show ¬ n.size = 0 by omega, show n.size ≤ 64 by omega]
  · rw [if_pos (by
      simp only [beq_self_eq_true, Bool.not_true, Bool.false_or, Bool.or_eq_true, Bool.not_eq_true', beq_eq_false_iff_ne, ne_eq]
      cases y <;> simp_all <;> omega)]
    simp
    intros
    cases y <;> simp_all
theorem refRight2 (n : ByteArray) (a b c d e : Int) (y : Bool) : P3.gazetteref16_right.f 8 2 n a b c d e y = some (rightE ⟨2, n, a, b, c, d, e, y⟩) := by
  unfold P3.gazetteref16_right.f
  rw [if_neg (by decide), if_neg (by decide), tk2, Option.bind_some, P3.gazetteref16_right.j0, nil_list]
  unfold rightE noName
  dsimp only
  by_cases h0 : n.toList.isEmpty = true ∧ d = 0 ∧ y = false
  · obtain ⟨hn, rfl, rfl⟩ := h0
    rw [if_neg (by simp [hn]), if_neg (by decide), rest5]
    simp [hn]
  · rw [if_pos (by
      simp only [beq_self_eq_true, Bool.not_true, Bool.false_or, Bool.or_eq_true, Bool.not_eq_true', beq_eq_false_iff_ne, ne_eq]
      generalize n.toList.isEmpty = q at h0 ⊢
      cases q <;> cases y <;> simp_all <;> omega)]
    simp
    intros
    cases n.toList.isEmpty <;> cases y <;> simp_all
theorem refRight3 (n : ByteArray) (a b c d e : Int) (y : Bool) : P3.gazetteref16_right.f 8 3 n a b c d e y = some (rightE ⟨3, n, a, b, c, d, e, y⟩) := by
  unfold P3.gazetteref16_right.f
  rw [if_neg (by decide), if_neg (by decide), tk3, Option.bind_some, P3.gazetteref16_right.j0, nil_list]
  unfold rightE noName
  dsimp only
  by_cases h0 : n.toList.isEmpty = true ∧ c = 0 ∧ d = 0 ∧ e = 0
  · obtain ⟨hn, rfl, rfl, rfl⟩ := h0
    rw [if_neg (by simp [hn]), if_neg (by decide), rest5]
    simp [hn]
  · rw [if_pos (by
      simp only [beq_self_eq_true, Bool.not_true, Bool.false_or, Bool.or_eq_true, Bool.not_eq_true', beq_eq_false_iff_ne, ne_eq]
      generalize n.toList.isEmpty = q at h0 ⊢
      cases q <;> cases y <;> simp_all <;> omega)]
    simp
    intros
    cases n.toList.isEmpty <;> cases y <;> simp_all
theorem refRight4 (n : ByteArray) (a b c d e : Int) (y : Bool) : P3.gazetteref16_right.f 8 4 n a b c d e y = some (rightE ⟨4, n, a, b, c, d, e, y⟩) := by
  unfold P3.gazetteref16_right.f
  rw [if_neg (by decide), if_neg (by decide), tk4, Option.bind_some, P3.gazetteref16_right.j0, nil_list]
  unfold rightE noName
  dsimp only
  by_cases h0 : n.toList.isEmpty = true ∧ d = 0 ∧ e = 0 ∧ y = false
  · obtain ⟨hn, rfl, rfl, rfl⟩ := h0
    rw [if_neg (by simp [hn]), if_neg (by decide), rest5]
    simp [hn]
  · rw [if_pos (by
      simp only [beq_self_eq_true, Bool.not_true, Bool.false_or, Bool.or_eq_true, Bool.not_eq_true', beq_eq_false_iff_ne, ne_eq]
      generalize n.toList.isEmpty = q at h0 ⊢
      cases q <;> cases y <;> simp_all <;> omega)]
    simp
    intros
    cases n.toList.isEmpty <;> cases y <;> simp_all
theorem refRight5 (n : ByteArray) (a b c d e : Int) (y : Bool) : P3.gazetteref16_right.f 8 5 n a b c d e y = some (rightE ⟨5, n, a, b, c, d, e, y⟩) := by
  unfold P3.gazetteref16_right.f
  rw [if_neg (by decide), if_neg (by decide), tk5, Option.bind_some, P3.gazetteref16_right.j0, nil_list]
  unfold rightE noName
  dsimp only
  by_cases h0 : n.toList.isEmpty = true ∧ a = 0 ∧ b = 0 ∧ c = 0 ∧ d = 0 ∧ y = false
  · obtain ⟨hn, rfl, rfl, rfl, rfl, rfl⟩ := h0
    rw [if_neg (by simp [hn]), if_neg (by decide), rest5]
    simp [hn]
  · rw [if_pos (by
      simp only [beq_self_eq_true, Bool.not_true, Bool.false_or, Bool.or_eq_true, Bool.not_eq_true', beq_eq_false_iff_ne, ne_eq]
      generalize n.toList.isEmpty = q at h0 ⊢
      cases q <;> cases y <;> simp_all <;> omega)]
    simp
    intros
    cases n.toList.isEmpty <;> cases y <;> simp_all
theorem refRight_ev (x : EvV) : P3.gazetteref16_right.f 8 x.kind x.name x.producer x.epoch x.place x.timeout x.now x.yes = some (rightE x) := by
  obtain ⟨K, n, a, b, c, d, e, y⟩ := x
  dsimp only
  by_cases h1 : K = 1
  · subst h1; exact refRight1 n a b c d e y
  by_cases h2 : K = 2
  · subst h2; exact refRight2 n a b c d e y
  by_cases h3 : K = 3
  · subst h3; exact refRight3 n a b c d e y
  by_cases h4 : K = 4
  · subst h4; exact refRight4 n a b c d e y
  by_cases h5 : K = 5
  · subst h5; exact refRight5 n a b c d e y
  have hr : rightE ⟨K, n, a, b, c, d, e, y⟩ = false := by
    unfold rightE
    rw [if_neg h1, if_neg h2, if_neg h3, if_neg h4, if_neg h5, Bool.and_false]
  rw [hr]
  unfold P3.gazetteref16_right.f
  by_cases h : K < 1
  · rw [if_pos h, P3.gazetteref16_right.j0, if_pos rfl]
  · rw [if_neg h, if_pos (by omega), P3.gazetteref16_right.j0, if_pos rfl]
theorem refRight_c (x : EvV) (w : World) : Calls Try.prog 50 #[evE x] w fun e w' => e = .returned (.bool (rightE x)) ∧ Below w.heap.size w w' :=
  P3.gazetteref16_right.calls 8 x.kind x.name x.producer x.epoch x.place x.timeout x.now x.yes _ w (refRight_ev x)
end Go.Proofs.Ytofegigbhohebaa.Hand
