/- The document's own, Cut and Extend. -/
import Derived.Test.YtpcoelimabojcaaHC23
namespace Go.Proofs.Ytpcoelimabojcaa.Hand
open Go.RowKit Go.Proofs.Ytpcoelimabojcaa Go.Proofs.YtpcoelimabojcaaW.PrintWords Go.Proofs.Ytpcoelimabojcaa.R0
set_option linter.unusedVariables false
set_option linter.unusedSimpArgs false
theorem own10_l0 (ow tr : Int) (ps : List PartV) (o2 t2 : Int) (hl : ps.length ≤ 3518437208883) (hn : ∀ p ∈ ps, p.nodes.length < 17592186044416) :
    ∀ m i, i + m = ps.length → ∀ F, m + 1 ≤ F → gazetteref10_own.l0 F (i : Int) ow tr (ps.map toS) o2 t2 ((ps.take i).map toS) = some (o2, t2, ps.map toS)
  | 0, i, h, F, hF => by
    obtain ⟨F, rfl⟩ : ∃ G, F = G + 1 := ⟨F - 1, by omega⟩
    rw [gazetteref10_own.l0, if_neg (by rw [List.length_map]; omega), List.take_of_length_le (by omega)]
  | m + 1, i, h, F, hF => by
    obtain ⟨F, rfl⟩ : ∃ G, F = G + 1 := ⟨F - 1, by omega⟩
    have hi : i < ps.length := by omega
    have hmem : ps.getD i part0 ∈ ps := by rw [List.getD_eq_getElem?_getD, List.getElem?_eq_getElem hi]; exact List.getElem_mem hi
    have hnn := hn _ hmem
    have ih := own10_l0 ow tr ps o2 t2 hl hn m (i + 1) (by omega) F (by omega)
    rw [gazetteref10_own.l0, if_pos (by rw [List.length_map]; omega), if_pos (by omega), Option.bind_some, rd_toS, if_pos (by show 0 + (ps.getD i part0).nodes.length < _; omega), if_pos (by rw [List.length_map, List.length_take]; omega), wrap_nat (by omega)]
    have e : ps.take (i + 1) = ps.take i ++ [ps.getD i part0] := by
      rw [List.take_add_one, List.getD_eq_getElem?_getD, List.getElem?_eq_getElem hi]; rfl
    rw [e, List.map_append] at ih
    exact ih
theorem own10_ev (ow tr : Int) (ps : List PartV) (hl : ps.length ≤ 3518437208883) (hn : ∀ p ∈ ps, p.nodes.length < 17592186044416) (F : Nat) (hF : ps.length + 1 ≤ F) : gazetteref10_own.f F ow tr (ps.map toS) = some (ow, tr, ps.map toS) :=
  own10_l0 ow tr ps ow tr hl hn ps.length 0 (by omega) F hF
theorem cut10_l0 (ow tr addr : Int) (ps : List PartV) :
    ∀ f m, ps.length ≤ f + m → ∀ F, f + 1 ≤ F → gazetteref10_Cut.l0 F addr ow tr ((ps.drop m).map toS) = some (ow, tr, (ps.drop (cutN ps addr f m)).map toS, 0)
  | f, m, hf, F, hF => by
    obtain ⟨F, rfl⟩ : ∃ G, F = G + 1 := ⟨F - 1, by omega⟩
    have r1 : rd_T68 ((ps.drop m).map toS) 1 = toS (ps.getD (m + 1) part0) := by
      have := rd_toS (ps.drop m) 1
      rw [getD_drop] at this
      exact this
    have hlen : (((ps.drop m).map toS).length : Int) = ((ps.length - m : Nat) : Int) := by rw [List.length_map, List.length_drop]
    rw [gazetteref10_Cut.l0, hlen]
    by_cases h1 : m + 1 < ps.length
    · rw [if_pos (by omega), if_pos (by omega), r1]
      by_cases h2 : (ps.getD (m + 1) part0).first ≤ addr
      · match f, hf, hF with
        | 0, hf, hF => omega
        | f + 1, hf, hF =>
          rw [if_pos (show (toS (ps.getD (m + 1) part0)).f0 ≤ addr from h2), if_pos (by omega), cutN_step ⟨h1, h2⟩]
          have ih := cut10_l0 ow tr addr ps f (m + 1) (by omega) F (by omega)
          rw [← ih]
          congr 1
          rw [show (1 : Int).toNat = 1 from rfl, ← List.map_drop, List.drop_drop]
      · rw [if_neg (show ¬ (toS (ps.getD (m + 1) part0)).f0 ≤ addr from h2), cutN_stop (fun h => h2 h.2)]
    · rw [if_neg (by omega), cutN_stop (fun h => h1 h.1)]
/-- What the document's Cut hands back. -/
theorem cut10_ev (n ow tr addr : Int) (ps : List PartV) (hl : ps.length ≤ 3518437208883) (hn : ∀ p ∈ ps, p.nodes.length < 17592186044416) (F : Nat) (hF : checkK ps + ps.length + 2 ≤ F) :
    gazetteref10_Cut.f F ow tr (ps.map toS) n addr = some (if cutErr ow tr ps n addr = 0 then (ow, addr, (cutParts ps addr).map toS, 0) else (0, 0, [], cutErr ow tr ps n addr)) := by
  obtain ⟨F, rfl⟩ : ∃ G, F = G + 1 := ⟨F - 1, by omega⟩
  have hlm : ((ps.map toS).length : Int) = (ps.length : Int) := by rw [List.length_map]
  have J1 : gazetteref10_Cut.j0 (F + 1) addr true ow tr (ps.map toS) = some (0, 0, [], 1) := by rw [gazetteref10_Cut.j0, if_pos rfl]
  have J0 : gazetteref10_Cut.j0 (F + 1) addr false ow tr (ps.map toS) = some (ow, addr, (cutParts ps addr).map toS, 0) := by
    rw [gazetteref10_Cut.j0, if_neg (by simp), own10_ev ow tr ps hl hn F (by omega), Option.bind_some]
    have := cut10_l0 ow addr addr ps ps.length 0 (by omega) F (by omega)
    rw [List.drop_zero] at this
    exact this
  unfold gazetteref10_Cut.f
  rw [hlm, check10_ev n ow tr ps (by omega) (fun p hp => by have := hn p hp; omega) (F + 1) (by omega), Option.bind_some]
  by_cases hr : rightF ow tr ps n = true
  rotate_left
  · have hr' : rightF ow tr ps n = false := by simpa using hr
    have he : cutErr ow tr ps n addr = 1 := by rw [cutErr, if_pos hr']
    rw [hr', if_neg (by decide), J1, he, if_neg (by decide)]
  rw [hr, if_pos (show errB true = 0 from rfl)]
  obtain ⟨t1, t2⟩ := right_trim hr
  have e0 : ∀ c : Prop, [Decidable c] → (c ↔ (tr ≤ addr ∧ addr ≤ lastF ps)) → cutErr ow tr ps n addr = (if c then 0 else 1) := by
    intro c _ hc
    rw [cutErr, if_neg (by rw [hr]; simp)]
    by_cases h : c
    · rw [if_neg (fun h2 => h2 (hc.1 h)), if_pos h]
    · rw [if_pos (fun h2 => h (hc.2 h2)), if_neg h]
  by_cases c0 : addr < tr
  · have he := e0 False (by constructor; exact False.elim; intro h; omega)
    rw [if_neg id] at he
    rw [if_pos c0, J1, he, if_neg (by decide)]
  rw [if_neg c0]
  by_cases c1 : (ps.length : Int) = 0
  · have hps : ps = [] := List.eq_nil_of_length_eq_zero (by omega)
    have hla : lastF ps = 0 := by rw [hps]; rfl
    rw [if_pos c1]
    by_cases c2 : addr = 0
    · have he := e0 True (by constructor; intro _; exact ⟨by omega, by omega⟩; intro _; trivial)
      rw [if_pos trivial] at he
      rw [if_pos c2, if_neg (by omega), J0, he, if_pos rfl]
    · have he := e0 False (by constructor; exact False.elim; intro h; have := t2 (by omega); omega)
      rw [if_neg id] at he
      rw [if_neg c2, J1, he, if_neg (by decide)]
  · have hw : wrap64 ((ps.length : Int) - 1) = ((ps.length - 1 : Nat) : Int) := by unfold wrap64; omega
    have hla : lastF ps = (ps.getD (ps.length - 1) part0).first := by
      unfold lastF
      rw [List.getLast?_eq_getElem?, List.getD_eq_getElem?_getD, List.getElem?_eq_getElem (show ps.length - 1 < ps.length by omega)]
      rfl
    rw [if_neg c1, if_pos (by omega), hw, if_pos (by omega), if_pos (by omega), rd_toS]
    by_cases c2 : addr > (ps.getD (ps.length - 1) part0).first
    · have he := e0 False (by constructor; exact False.elim; intro h; omega)
      rw [if_neg id] at he
      rw [decide_eq_true (show addr > (toS (ps.getD (ps.length - 1) part0)).f0 from c2), J1, he, if_neg (by decide)]
    · have he := e0 True (by constructor; intro _; exact ⟨by omega, by omega⟩; intro _; trivial)
      rw [if_pos trivial] at he
      rw [decide_eq_false (show ¬ addr > (toS (ps.getD (ps.length - 1) part0)).f0 from c2), J0, he, if_pos rfl]
/-- What the document's Extend hands back. -/
theorem ext10_ev (n ow tr owner en id : Int) (nl : List Int) (ps : List PartV) (hl : ps.length + 1 ≤ 3518437208883) (hn : ∀ p ∈ ps, p.nodes.length < 17592186044416) (hnl : nl.length < 17592186044416) : ∃ K, ∀ F, K ≤ F →
    gazetteref10_Extend.f F ow tr (ps.map toS) n owner en id nl = some (if extErr ow tr ps n owner en ⟨en, id, nl⟩ = 0 then (owner, tr, (extParts tr ps en ⟨en, id, nl⟩).map toS, 0) else (0, 0, [], extErr ow tr ps n owner en ⟨en, id, nl⟩)) := by
  refine ⟨checkK ps + checkK (extParts tr ps en ⟨en, id, nl⟩) + ps.length + 4, fun F hF => ?_⟩
  obtain ⟨F, rfl⟩ : ∃ G, F = G + 1 + 1 + 1 := ⟨F - 3, by omega⟩
  have hlm : ((ps.map toS).length : Int) = (ps.length : Int) := by rw [List.length_map]
  have hlE : (extParts tr ps en ⟨en, id, nl⟩).length ≤ ps.length + 1 := by
    unfold extParts
    rw [List.length_append, List.length_singleton]
    split
    · rw [List.length_take]; omega
    · omega
  have hnE : ∀ p ∈ extParts tr ps en ⟨en, id, nl⟩, p.nodes.length < 17592186044416 := by
    intro p hp
    unfold extParts at hp
    rcases List.mem_append.1 hp with h | h
    · split at h
      · exact hn p (List.mem_of_mem_take h)
      · exact hn p h
    · rw [List.mem_singleton] at h; rw [h]; exact hnl
  have hcE := check10_ev n owner tr (extParts tr ps en ⟨en, id, nl⟩) (by omega) (fun p hp => by have := hnE p hp; omega) F (by omega)
  have hw : 0 < ps.length → wrap64 ((ps.length : Int) - 1) = ((ps.length - 1 : Nat) : Int) := fun h => by unfold wrap64; omega
  have hla : 0 < ps.length → (rd_T68 (ps.map toS) ((ps.length - 1 : Nat) : Int)).f0 = lastF ps := fun h => by
    rw [rd_toS]
    unfold lastF
    rw [List.getLast?_eq_getElem?, List.getD_eq_getElem?_getD, List.getElem?_eq_getElem (show ps.length - 1 < ps.length by omega)]
    rfl
  unfold gazetteref10_Extend.f
  rw [hlm, check10_ev n ow tr ps (by omega) (fun p hp => by have := hn p hp; omega) (F + 1 + 1 + 1) (by omega), Option.bind_some]
  by_cases hr : rightF ow tr ps n = true
  rotate_left
  · have hr' : rightF ow tr ps n = false := by simpa using hr
    have he : extErr ow tr ps n owner en ⟨en, id, nl⟩ = 1 := by rw [extErr, if_pos hr']
    rw [hr', if_neg (by decide), he, if_neg (by decide)]
  rw [hr, if_pos (show errB true = 0 from rfl)]
  have hr64 : (ps.length : Int) ≤ 64 := by
    simp only [rightF, headB, Bool.and_eq_true, decide_eq_true_eq] at hr
    exact hr.1.2.2.2
  obtain ⟨t1, t2⟩ := right_trim hr
  have e1 : extErr ow tr ps n owner en ⟨en, id, nl⟩ = (if ¬ (ps.length < 64 ∨ 0 < ps.length ∧ lastF ps = en) then 7
      else if ¬ (if ps.length = 0 then en = 0 else max (lastF ps) tr ≤ en ∧ en ≤ lastF ps + 4096) then 1
      else if rightF owner tr (extParts tr ps en ⟨en, id, nl⟩) n = false then 1 else 0) := by rw [extErr, if_neg (by rw [hr]; simp)]
  obtain ⟨R, hR⟩ : ∃ R, (if extErr ow tr ps n owner en ⟨en, id, nl⟩ = 0 then (owner, tr, (extParts tr ps en ⟨en, id, nl⟩).map toS, (0 : Int)) else (0, 0, [], extErr ow tr ps n owner en ⟨en, id, nl⟩)) = R := ⟨_, rfl⟩
  rw [hR]
  -- the last piece: by whether the last part is dropped
  have J2 : ∀ b : Bool, (b = true ↔ (0 < ps.length ∧ (lastF ps = en ∨ ps.length = 1 ∧ tr = en))) → gazetteref10_Extend.j2 (F + 1) n en (ps.length : Int) b id nl owner tr (ps.map toS) = some (if rightF owner tr (extParts tr ps en ⟨en, id, nl⟩) n = true then (owner, tr, (extParts tr ps en ⟨en, id, nl⟩).map toS, 0) else (0, 0, [], 1)) := by
    intro b hb
    have fin : ((gazetteref10_Check.f F owner tr ((extParts tr ps en ⟨en, id, nl⟩).map toS) n).bind fun t => if t = 0 then some (owner, tr, (extParts tr ps en ⟨en, id, nl⟩).map toS, (0 : Int)) else some (0, 0, ([] : List S68), 1)) = some (if rightF owner tr (extParts tr ps en ⟨en, id, nl⟩) n = true then (owner, tr, (extParts tr ps en ⟨en, id, nl⟩).map toS, 0) else (0, 0, [], 1)) := by
      rw [hcE, Option.bind_some]
      cases rightF owner tr (extParts tr ps en ⟨en, id, nl⟩) n <;> rfl
    cases b with
    | true =>
      have hd := hb.1 rfl
      have hE : (extParts tr ps en ⟨en, id, nl⟩).map toS = (ps.map toS).take (ps.length - 1) ++ [(⟨en, ⟨id, [] ++ nl⟩⟩ : S68)] := by
        rw [extParts, if_pos hd, List.map_append, List.map_take]; rfl
      rw [gazetteref10_Extend.j2, if_pos rfl, hw hd.1, if_pos (by omega), if_pos (by rw [List.length_map]; omega), Option.bind_some, Option.bind_some, Int.toNat_natCast, if_pos (by show 0 + nl.length < _; omega), if_pos (by rw [List.length_take, List.length_map]; omega), Option.bind_some, ← hE]
      exact fin
    | false =>
      have hd : ¬ (0 < ps.length ∧ (lastF ps = en ∨ ps.length = 1 ∧ tr = en)) := fun h => by have := hb.2 h; cases this
      have hE : (extParts tr ps en ⟨en, id, nl⟩).map toS = ps.map toS ++ [(⟨en, ⟨id, [] ++ nl⟩⟩ : S68)] := by
        rw [extParts, if_neg hd, List.map_append]; rfl
      rw [gazetteref10_Extend.j2, if_neg (by simp), Option.bind_some, if_pos (by show 0 + nl.length < _; omega), if_pos (by rw [List.length_map]; omega), Option.bind_some, ← hE]
      exact fin
  have J1t : gazetteref10_Extend.j1 (F + 1 + 1) n owner en (ps.length : Int) true ow tr (ps.map toS) id nl = some (0, 0, [], 1) := by rw [gazetteref10_Extend.j1, if_pos rfl]
  have J1f : gazetteref10_Extend.j1 (F + 1 + 1) n owner en (ps.length : Int) false ow tr (ps.map toS) id nl = some (if rightF owner tr (extParts tr ps en ⟨en, id, nl⟩) n = true then (owner, tr, (extParts tr ps en ⟨en, id, nl⟩).map toS, 0) else (0, 0, [], 1)) := by
    rw [gazetteref10_Extend.j1, if_neg (by simp), own10_ev ow tr ps (by omega) hn (F + 1) (by omega), Option.bind_some]
    by_cases hz : 0 < ps.length
    · rw [if_pos (by omega), hw hz, if_pos (by omega), if_pos (by rw [List.length_map]; omega), hla hz]
      by_cases c1 : lastF ps = en
      · rw [if_pos c1]; exact J2 true ⟨fun _ => ⟨hz, .inl c1⟩, fun _ => rfl⟩
      · rw [if_neg c1]
        by_cases c2 : (ps.length : Int) = 1
        · rw [if_pos c2]
          exact J2 (tr == en) (by rw [beq_iff_eq]; constructor; exact fun h => ⟨hz, .inr ⟨by omega, h⟩⟩; exact fun h => h.2.elim (fun h => absurd h c1) (fun h => h.2))
        · rw [if_neg c2]
          exact J2 false (by constructor; intro h; cases h; intro h; exact h.2.elim (fun h => absurd h c1) (fun h => absurd h.1 (by omega)))
    · rw [if_neg (by omega), if_neg (by omega)]
      exact J2 false (by constructor; intro h; cases h; intro h; exact absurd h.1 hz)
  -- the bounds
  have J0 : (ps.length < 64 ∨ 0 < ps.length ∧ lastF ps = en) → gazetteref10_Extend.j0 (F + 1 + 1 + 1) n owner en (ps.length : Int) false ow tr (ps.map toS) id nl = some R := by
    intro hc
    have e2 : extErr ow tr ps n owner en ⟨en, id, nl⟩ = (if ¬ (if ps.length = 0 then en = 0 else max (lastF ps) tr ≤ en ∧ en ≤ lastF ps + 4096) then 1
      else if rightF owner tr (extParts tr ps en ⟨en, id, nl⟩) n = false then 1 else 0) := by rw [e1, if_neg (fun h => h hc)]
    have good : (if ps.length = 0 then en = 0 else max (lastF ps) tr ≤ en ∧ en ≤ lastF ps + 4096) → gazetteref10_Extend.j1 (F + 1 + 1) n owner en (ps.length : Int) false ow tr (ps.map toS) id nl = some R := by
      intro hb
      by_cases hq : rightF owner tr (extParts tr ps en ⟨en, id, nl⟩) n = true
      · have e3 : extErr ow tr ps n owner en ⟨en, id, nl⟩ = 0 := by
          rw [e2]
          exact (if_neg (fun h => h hb)).trans (if_neg (by rw [hq]; simp))
        rw [J1f, ← hR, if_pos e3, if_pos hq]
      · have e3 : extErr ow tr ps n owner en ⟨en, id, nl⟩ = 1 := by
          rw [e2]
          exact (if_neg (fun h => h hb)).trans (if_pos (by simpa using hq))
        rw [J1f, ← hR, e3, if_neg hq, if_neg (by decide)]
    have badj : ¬ (if ps.length = 0 then en = 0 else max (lastF ps) tr ≤ en ∧ en ≤ lastF ps + 4096) → gazetteref10_Extend.j1 (F + 1 + 1) n owner en (ps.length : Int) true ow tr (ps.map toS) id nl = some R := by
      intro hb
      have e3 : extErr ow tr ps n owner en ⟨en, id, nl⟩ = 1 := by
        rw [e2]
        exact if_pos hb
      rw [J1t, ← hR, e3, if_neg (by decide)]
    rw [gazetteref10_Extend.j0, if_neg (by simp)]
    by_cases c0 : (ps.length : Int) = 0
    · rw [if_pos c0]
      by_cases c1 : en = 0
      · rw [if_pos c1, if_neg (by omega)]
        exact good (by rw [if_pos (by omega)]; exact c1)
      · rw [if_neg c1]
        exact badj (by rw [if_pos (by omega)]; exact c1)
    · have hz : 0 < ps.length := by omega
      have hin := lastF_in hr hz
      have hw2 : wrap64 (lastF ps + 4096) = lastF ps + 4096 := by unfold wrap64; omega
      rw [if_neg c0, if_pos (by omega), hw hz, if_pos (by omega), if_pos (by rw [List.length_map]; omega), hla hz, hw2]
      have hne : ¬ ps.length = 0 := by omega
      by_cases c2 : en < lastF ps
      · rw [if_pos c2]
        exact badj (by rw [if_neg hne]; omega)
      · rw [if_neg c2]
        by_cases c3 : en > lastF ps + 4096
        · rw [if_pos c3]
          exact badj (by rw [if_neg hne]; omega)
        · rw [if_neg c3]
          by_cases c4 : en < tr
          · rw [decide_eq_true c4]
            exact badj (by rw [if_neg hne]; omega)
          · rw [decide_eq_false c4]
            exact good (by rw [if_neg hne]; omega)
  have J0t : ¬ (ps.length < 64 ∨ 0 < ps.length ∧ lastF ps = en) → gazetteref10_Extend.j0 (F + 1 + 1 + 1) n owner en (ps.length : Int) true ow tr (ps.map toS) id nl = some R := by
    intro hc
    rw [gazetteref10_Extend.j0, if_pos rfl, ← hR, e1, if_pos hc, if_neg (by decide)]
  by_cases c0 : (ps.length : Int) = 64
  · have hz : 0 < ps.length := by omega
    rw [if_pos c0, hw hz, if_pos (by omega), if_pos (by omega), hla hz]
    by_cases c1 : en = lastF ps
    · rw [show (en != lastF ps) = false by simpa using c1]
      exact J0 (.inr ⟨hz, c1.symm⟩)
    · rw [show (en != lastF ps) = true by simpa using c1]
      exact J0t (fun h => h.elim (fun h => by omega) (fun h => c1 h.2.symm))
  · rw [if_neg c0]
    exact J0 (.inl (by omega))
end Go.Proofs.Ytpcoelimabojcaa.Hand
