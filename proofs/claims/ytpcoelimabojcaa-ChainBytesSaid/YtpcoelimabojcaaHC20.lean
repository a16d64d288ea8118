/- A part more, or parts less, leave each address that stays where it was: the plain law. -/
import Derived.Test.YtpcoelimabojcaaHC19
import Derived.Test.YtpcoelimabojcaaHC16
namespace Go.Proofs.Ytpcoelimabojcaa.Hand
open Go.RowKit Go.Proofs.Ytpcoelimabojcaa Go.Proofs.YtpcoelimabojcaaW.PrintWords
set_option linter.unusedVariables false
set_option linter.unusedSimpArgs false
theorem getD_app_lt {P Q : List PartV} {k : Nat} (h : k < P.length) : (P ++ Q).getD k part0 = P.getD k part0 := by
  rw [List.getD_eq_getElem?_getD, List.getD_eq_getElem?_getD, List.getElem?_append_left h]
theorem getD_app_eq {P : List PartV} {q : PartV} : (P ++ [q]).getD P.length part0 = q := by simp [List.getD_eq_getElem?_getD]
theorem findDown_app (P Q : List PartV) (addr : Int) : ∀ k, k ≤ P.length → findDown (P ++ Q) addr k = findDown P addr k
  | 0, _ => rfl
  | k + 1, h => by
    rw [findDown, findDown, getD_app_lt (by omega), findDown_app P Q addr k (by omega)]
theorem findDown_snoc_lt {P : List PartV} {q : PartV} {addr : Int} (h : addr < q.first) : findDown (P ++ [q]) addr (P ++ [q]).length = findDown P addr P.length := by
  rw [List.length_append, List.length_singleton, findDown, getD_app_eq, if_neg (by omega), findDown_app P [q] addr P.length (Nat.le_refl _)]
theorem whereF_of {tr tr' : Int} {ps qs : List PartV} {addr : Int} (h1 : findF tr ps addr = findF tr' qs addr) (h2 : (findF tr ps addr).2.2 = true → (ps.getD (findF tr ps addr).1.toNat part0).id = (qs.getD (findF tr ps addr).1.toNat part0).id) : whereF tr ps addr = whereF tr' qs addr := by
  unfold whereF
  rw [← h1]
  by_cases h : (findF tr ps addr).2.2 = true
  · rw [if_pos h, if_pos h, h2 h]
  · rw [if_neg h, if_neg h]
theorem whereF_snoc_lt {tr : Int} {P : List PartV} {q : PartV} {addr : Int} (h : addr < q.first) : whereF tr (P ++ [q]) addr = whereF tr P addr := by
  have hf : findF tr (P ++ [q]) addr = findF tr P addr := by
    unfold findF
    split
    · rfl
    · exact findDown_snoc_lt h
  refine whereF_of hf (fun hok => ?_)
  rw [hf] at hok ⊢
  obtain ⟨k, hk, hlt⟩ := findF_range hok
  rw [hk, Int.toNat_natCast, getD_app_lt hlt]
/-- What Extend's success says. -/
theorem ext_ok {ow tr n owner en : Int} {ps : List PartV} {nx : PartV} (h : extErr ow tr ps n owner en nx = 0) :
    rightF ow tr ps n = true ∧ (if ps.length = 0 then en = 0 else max (lastF ps) tr ≤ en ∧ en ≤ lastF ps + 4096) ∧ rightF owner tr (extParts tr ps en nx) n = true := by
  unfold extErr at h
  by_cases c1 : rightF ow tr ps n = false
  · rw [if_pos c1] at h; omega
  rw [if_neg c1] at h
  by_cases c2 : ¬ (ps.length < 64 ∨ 0 < ps.length ∧ lastF ps = en)
  · rw [if_pos c2] at h; omega
  rw [if_neg c2] at h
  by_cases c3 : (if ps.length = 0 then en = 0 else max (lastF ps) tr ≤ en ∧ en ≤ lastF ps + 4096)
  · rw [if_neg (fun h => h c3)] at h
    by_cases c4 : rightF owner tr (extParts tr ps en nx) n = false
    · rw [if_pos c4] at h; omega
    · exact ⟨by simpa using c1, c3, by simpa using c4⟩
  · rw [if_pos c3] at h; omega
theorem ext_ne {tr en : Int} {ps : List PartV} {nx : PartV} : 0 < (extParts tr ps en nx).length := by simp [extParts]
theorem lastF_snoc {P : List PartV} {q : PartV} : lastF (P ++ [q]) = q.first := by simp [lastF]
theorem ps_snoc {ps : List PartV} (h : 0 < ps.length) : ∃ P q, ps = P ++ [q] ∧ ps.take (ps.length - 1) = P := by
  obtain ⟨P, q, rfl⟩ : ∃ P q, ps = P ++ [q] := ⟨ps.dropLast, ps.getLast (List.ne_nil_of_length_pos h), (List.dropLast_concat_getLast _).symm⟩
  exact ⟨P, q, rfl, by simp⟩
/-- Addresses ahead of the new part stay. -/
theorem ext_stays {tr en addr : Int} {ps : List PartV} {nx : PartV} (hf : nx.first = en) (h : addr < en) : whereF tr (extParts tr ps en nx) addr = whereF tr ps addr := by
  unfold extParts
  rw [whereF_snoc_lt (by rw [hf]; exact h)]
  split
  · rename_i hc
    obtain ⟨P, q, rfl, hP⟩ := ps_snoc hc.1
    rw [hP]
    rcases hc.2 with h1 | ⟨h1, h2⟩
    · rw [lastF_snoc] at h1
      rw [whereF_snoc_lt (by rw [h1]; exact h)]
    · have hn : ∀ qs, findF tr qs addr = (0, 0, false) := fun qs => by rw [findF, if_pos (.inr (by omega))]
      exact whereF_of (by rw [hn, hn]) (fun hk => by rw [hn] at hk; cases hk)
  · rfl
/-- The new part has its own. -/
theorem ext_new {tr en addr : Int} {ps : List PartV} {nx : PartV} (hf : nx.first = en) (h0 : 0 ≤ en) (ht : tr ≤ en) (h : en ≤ addr) (h2 : addr - en < 4096) : whereF tr (extParts tr ps en nx) addr = (nx.id, addr - en, true) := by
  unfold extParts
  generalize (if 0 < ps.length ∧ (lastF ps = en ∨ ps.length = 1 ∧ tr = en) then ps.take (ps.length - 1) else ps) = P
  have hw : wrap64 (addr - nx.first) = addr - en := by rw [hf]; unfold wrap64; omega
  have hfi : findF tr (P ++ [nx]) addr = ((P.length : Int), addr - en, true) := by
    rw [findF, if_neg (by omega), List.length_append, List.length_singleton, findDown, getD_app_eq, if_pos (by omega), hw, if_neg (by omega)]
  rw [whereF, hfi]
  simp only [if_true, Int.toNat_natCast, getD_app_eq]
theorem right_trim {ow tr n : Int} {ps : List PartV} (h : rightF ow tr ps n = true) : 0 ≤ tr ∧ (ps.length = 0 → tr = 0) := by
  simp only [rightF, headB, inB, Bool.and_eq_true, decide_eq_true_eq] at h
  refine ⟨h.1.2.2.1.1, fun h0 => ?_⟩
  have h2 := h.2.2
  rw [endB, if_pos h0] at h2
  exact of_decide_eq_true h2
theorem cutN_spec (ps : List PartV) (addr : Int) : ∀ f m, ps.length ≤ f + m → (m < ps.length ∨ m = 0) →
    m ≤ cutN ps addr f m ∧ (cutN ps addr f m < ps.length ∨ cutN ps addr f m = 0) ∧ (m < cutN ps addr f m → (ps.getD (cutN ps addr f m) part0).first ≤ addr) ∧ ¬ (cutN ps addr f m + 1 < ps.length ∧ (ps.getD (cutN ps addr f m + 1) part0).first ≤ addr)
  | 0, m, hf, hm => by
    refine ⟨Nat.le_refl _, hm, fun h => absurd h (Nat.lt_irrefl _), fun h => ?_⟩
    have := h.1
    simp only [cutN] at this
    omega
  | f + 1, m, hf, hm => by
    by_cases hc : m + 1 < ps.length ∧ (ps.getD (m + 1) part0).first ≤ addr
    · rw [cutN_step hc]
      obtain ⟨h1, h2, h3, h4⟩ := cutN_spec ps addr f (m + 1) (by omega) (.inl hc.1)
      refine ⟨by omega, h2, fun _ => ?_, h4⟩
      rcases Nat.lt_or_ge (m + 1) (cutN ps addr f (m + 1)) with h | h
      · exact h3 h
      · rw [show cutN ps addr f (m + 1) = m + 1 by omega]; exact hc.2
    · rw [cutN_stop hc]
      exact ⟨Nat.le_refl _, hm, fun h => absurd h (Nat.lt_irrefl _), hc⟩
theorem getD_drop (ps : List PartV) (m i : Nat) : (ps.drop m).getD i part0 = ps.getD (m + i) part0 := by
  rw [List.getD_eq_getElem?_getD, List.getD_eq_getElem?_getD, List.getElem?_drop]
theorem lastF_drop {ps : List PartV} {m : Nat} (h : m < ps.length) : lastF (ps.drop m) = lastF ps := by
  unfold lastF
  rw [List.getLast?_eq_getElem?, List.getLast?_eq_getElem?, List.length_drop, List.getElem?_drop, show m + (ps.length - m - 1) = ps.length - 1 by omega]
theorem partAt_drop {n : Int} {ps : List PartV} {m i : Nat} (h : partAt n ps (m + i) = true) : partAt n (ps.drop m) i = true := by
  simp only [partAt, Bool.and_eq_true, Bool.not_eq_true', decide_eq_false_iff_not, Bool.or_eq_true, decide_eq_true_eq, getD_drop] at h ⊢
  obtain ⟨h1, h2, h3, h4⟩ := h
  refine ⟨h1, h2, fun hm => h3 ?_, ?_⟩
  · rw [List.mem_map] at hm ⊢
    obtain ⟨p, hp, he⟩ := hm
    refine ⟨p, ?_, he⟩
    obtain ⟨t, ht, hte⟩ := List.mem_iff_getElem.1 hp
    rw [List.length_take, List.length_drop] at ht
    rw [List.getElem_take, List.getElem_drop] at hte
    exact List.mem_iff_getElem.2 ⟨m + t, by rw [List.length_take]; omega, by rw [List.getElem_take]; exact hte⟩
  · by_cases h0 : i = 0
    · exact .inl h0
    · refine .inr ?_
      rw [show m + (i - 1) = m + i - 1 by omega]
      exact h4.resolve_left (by omega)
theorem rightAt_all {n : Int} {ps : List PartV} : ∀ {k : Nat}, rightAt n ps k = true ↔ ∀ i, i < k → partAt n ps i = true
  | 0 => by simp [rightAt]
  | k + 1 => by
    rw [rightAt, Bool.and_eq_true, rightAt_all (k := k)]
    constructor
    · rintro ⟨h1, h2⟩ i hi
      rcases Nat.lt_or_ge i k with h | h
      · exact h1 i h
      · rw [show i = k by omega]; exact h2
    · exact fun h => ⟨fun i hi => h i (by omega), h k (by omega)⟩
theorem cut_ok {ow tr n addr : Int} {ps : List PartV} (h : cutErr ow tr ps n addr = 0) : rightF ow tr ps n = true ∧ tr ≤ addr ∧ addr ≤ lastF ps := by
  unfold cutErr at h
  split at h
  · cases h
  · rename_i h1
    split at h
    · cases h
    · rename_i h2
      exact ⟨by simpa using h1, Classical.not_not.1 h2⟩
/-- What is left of a chain that is cut may be. -/
theorem cut_right {ow tr n addr : Int} {ps : List PartV} (h : cutErr ow tr ps n addr = 0) : rightF ow addr (cutParts ps addr) n = true := by
  obtain ⟨hr, h1, h2⟩ := cut_ok h
  obtain ⟨g1, g2, g3, g4⟩ := cutN_spec ps addr ps.length 0 (by omega) (by omega)
  unfold cutParts
  generalize cutN ps addr ps.length 0 = m at g1 g2 g3 g4
  have hr0 := hr
  simp only [rightF, Bool.and_eq_true] at hr
  obtain ⟨ha, hb, hc⟩ := hr
  have hall := rightAt_all.1 hb
  rcases Nat.eq_zero_or_pos ps.length with hz | hz
  · have hps : ps = [] := List.eq_nil_of_length_eq_zero hz
    subst hps
    have h3 := (right_trim hr0).2 rfl
    have h4 : addr = 0 := by
      have : lastF ([] : List PartV) = 0 := rfl
      omega
    subst h3 h4
    rw [List.drop_nil]
    exact hr0
  have hm : m < ps.length := by omega
  have hlen : (ps.drop m).length = ps.length - m := List.length_drop
  have hin := lastF_in hr0 hz
  have e1 : headB ow addr (ps.drop m) = true := by
    simp only [headB, inB, Bool.and_eq_true, decide_eq_true_eq] at ha ⊢
    rw [hlen]
    refine ⟨ha.1, ha.2.1, ⟨by omega, by omega⟩, by omega⟩
  have e2 : rightAt n (ps.drop m) (ps.drop m).length = true := rightAt_all.2 (fun i hi => partAt_drop (hall (m + i) (by omega)))
  have e3 : endB addr (ps.drop m) = true := by
    unfold endB at hc ⊢
    rw [if_neg (by omega)] at hc
    rw [if_neg (by omega)]
    simp only [Bool.and_eq_true, Bool.or_eq_true, decide_eq_true_eq, getD_drop, lastF_drop hm, hlen] at hc ⊢
    refine ⟨?_, by omega, ?_⟩
    · rcases Nat.eq_zero_or_pos m with h0 | h0
      · subst h0
        have := hc.1
        rw [Nat.zero_add]
        omega
      · exact g3 h0
    · by_cases h5 : m + 1 < ps.length
      · exact .inr (Int.not_le.1 (fun h6 => g4 ⟨h5, h6⟩))
      · exact .inl (by omega)
  simp only [rightF, Bool.and_eq_true]
  exact ⟨e1, e2, e3⟩
theorem findDown_drop (ps : List PartV) (addr : Int) (m : Nat) (h : (ps.getD m part0).first ≤ addr) : ∀ k, m < k → ∃ r : Nat × Int × Bool, (∃ b, findDown ps addr k = b ∧ findDown (ps.drop m) addr (k - m) = ((if b.2.2 = true then b.1 - m else 0), b.2)) := by
  intro k
  induction k with
  | zero => intro h; omega
  | succ k ih =>
    intro hk
    refine ⟨(0, 0, false), _, rfl, ?_⟩
    rw [show k + 1 - m = (k - m) + 1 by omega, findDown, findDown, getD_drop, show m + (k - m) = k by omega]
    by_cases h1 : (ps.getD k part0).first ≤ addr
    · rw [if_pos h1, if_pos h1]
      split
      · rfl
      · simp only [if_true]
        rw [show ((k - m : Nat) : Int) = (k : Int) - m by omega]
    · rw [if_neg h1, if_neg h1]
      have hne : m ≠ k := fun e => h1 (e ▸ h)
      obtain ⟨_, b, hb, hd⟩ := ih (by omega)
      rw [hb]; exact hd
/-- Addresses behind a cut stay. -/
theorem cut_stays {ow tr n en addr : Int} {ps : List PartV} (h : cutErr ow tr ps n en = 0) (ha : en ≤ addr) : whereF en (cutParts ps en) addr = whereF tr ps addr := by
  obtain ⟨hr, h1, h2⟩ := cut_ok h
  obtain ⟨g1, g2, g3, g4⟩ := cutN_spec ps en ps.length 0 (by omega) (by omega)
  unfold cutParts
  generalize cutN ps en ps.length 0 = m at g1 g2 g3 g4
  obtain ⟨t1, t2⟩ := right_trim hr
  rcases Nat.eq_zero_or_pos ps.length with hz | hz
  · have hps : ps = [] := List.eq_nil_of_length_eq_zero hz
    subst hps
    rw [List.drop_nil]
    exact whereF_of (by rw [findF, findF, if_neg (by omega), if_neg (by omega)]) (fun _ => rfl)
  have hm : m < ps.length := by omega
  have hmf : (ps.getD m part0).first ≤ addr := by
    rcases Nat.eq_zero_or_pos m with h0 | h0
    · subst h0
      simp only [rightF, Bool.and_eq_true] at hr
      have hc := hr.2.2
      unfold endB at hc
      rw [if_neg (by omega)] at hc
      simp only [Bool.and_eq_true, decide_eq_true_eq] at hc
      omega
    · have := g3 h0; omega
  obtain ⟨_, b, hb, hd⟩ := findDown_drop ps addr m hmf ps.length hm
  have f1 : findF tr ps addr = b := by rw [findF, if_neg (by omega), hb]
  have f2 : findF en (ps.drop m) addr = ((if b.2.2 = true then b.1 - m else 0), b.2) := by rw [findF, if_neg (by omega), List.length_drop, hd]
  rw [whereF, whereF, f1, f2]
  by_cases hk : b.2.2 = true
  · simp only [hk, if_true]
    have hrg := findF_range (tr := en) (ps := ps.drop m) (addr := addr) (by rw [f2]; exact hk)
    obtain ⟨k, hk1, hk2⟩ := hrg
    rw [f2] at hk1
    simp only [hk, if_true] at hk1
    rw [hk1, Int.toNat_natCast, getD_drop, show b.1.toNat = m + k by omega]
  · simp [hk]
theorem cut_gone {en addr : Int} {qs : List PartV} (h : addr < en) : whereF en qs addr = (0, 0, false) := by
  have : findF en qs addr = (0, 0, false) := by rw [findF, if_pos (.inr h)]
  rw [whereF, this, if_neg (by simp)]
end Go.Proofs.Ytpcoelimabojcaa.Hand
