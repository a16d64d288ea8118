/- Taking one after the other, in plain words. What the first loop says of the calls that are done; orders of calls. If there can have been such a log, Check says so. If there can have been such a log, Check says so: the whole. What Check finds to be right can have been. P2004: Check says 0 just if there can have been such a log. Without a read; in any order. -/
import Derived.Test.YtamiglolpchplaaKC
import Derived.Test.YtamiglolpchplaaK17
namespace Go.Proofs.Ytamiglolpchplaa.Hand
set_option linter.unusedVariables false
set_option linter.unusedSimpArgs false
theorem eraseIdx_perm_ {α : Type} : ∀ (l : List α) (k : Nat) (h : k < l.length), (l[k] :: l.eraseIdx k).Perm l
  | [], k, h => by simp at h
  | x :: l, 0, h => .refl _
  | x :: l, k + 1, h => by
    have hk : k < l.length := by simpa using h
    have ih := eraseIdx_perm_ l k hk
    simp only [List.getElem_cons_succ, List.eraseIdx_cons_succ]
    exact (List.Perm.swap x l[k] _).trans (ih.cons x)
theorem takeV_some {q : CallV → Bool} {ps ps' : List CallV} (h : takeV q ps = some ps') : ∃ c, q c = true ∧ (c :: ps').Perm ps := by
  unfold takeV at h
  split at h
  · rename_i k hk
    injection h with h
    obtain ⟨hlt, hq, -⟩ := List.findIdx?_eq_some_iff_getElem.1 hk
    refine ⟨ps[k], hq, ?_⟩
    rw [← h]
    exact eraseIdx_perm_ ps k hlt
  · cases h
theorem takeV_none {q : CallV → Bool} {ps : List CallV} (h : takeV q ps = none) : ∀ c ∈ ps, q c = false := by
  unfold takeV at h
  split at h
  · cases h
  · rename_i hk
    exact fun c hc => by simpa using List.findIdx?_eq_none_iff.1 hk c hc
theorem takeV_is {q : CallV → Bool} {ps : List CallV} {c : CallV} (hc : c ∈ ps) (hq : q c = true) : ∃ ps', takeV q ps = some ps' := by
  cases h : takeV q ps with
  | some ps' => exact ⟨ps', rfl⟩
  | none => rw [takeV_none h c hc] at hq; cases hq
def seqTake : List (CallV → Bool) → List CallV → Option (List CallV)
  | [], ps => some ps
  | q :: qs, ps => match takeV q ps with
    | none => none
    | some ps' => seqTake qs ps'
inductive Sat : List (CallV → Bool) → List CallV → Prop
  | nil : Sat [] []
  | cons {q : CallV → Bool} {c : CallV} {Q : List (CallV → Bool)} {M : List CallV} (h : q c = true) (hs : Sat Q M) : Sat (q :: Q) (c :: M)
theorem Sat.split {Q : List (CallV → Bool)} {M2 : List CallV} {c : CallV} : ∀ {M1 : List CallV}, Sat Q (M1 ++ c :: M2) → ∃ Q1 q Q2, Q = Q1 ++ q :: Q2 ∧ Sat Q1 M1 ∧ q c = true ∧ Sat Q2 M2 := by
  intro M1
  induction M1 generalizing Q with
  | nil =>
    intro h
    cases h with
    | cons h hs => exact ⟨[], _, _, rfl, .nil, h, hs⟩
  | cons x M1 ih =>
    intro h
    cases h with
    | cons h hs =>
      obtain ⟨Q1, q, Q2, rfl, h1, h2, h3⟩ := ih hs
      exact ⟨_ :: Q1, q, Q2, rfl, .cons h h1, h2, h3⟩
theorem Sat.append {Q1 Q2 : List (CallV → Bool)} {M1 M2 : List CallV} (h1 : Sat Q1 M1) (h2 : Sat Q2 M2) : Sat (Q1 ++ Q2) (M1 ++ M2) := by
  induction h1 with
  | nil => exact h2
  | cons h _ ih => exact .cons h ih
theorem seqTake_sat : ∀ {Q : List (CallV → Bool)} {ps ps' : List CallV}, seqTake Q ps = some ps' → ∃ M, Sat Q M ∧ (M ++ ps').Perm ps
  | [], ps, ps', h => by
    injection h with h
    exact ⟨[], .nil, by rw [h]; exact .refl _⟩
  | q :: Q, ps, ps', h => by
    rw [seqTake] at h
    split at h
    · cases h
    · rename_i p1 hp
      obtain ⟨c, hc, hcp⟩ := takeV_some hp
      obtain ⟨M, hM, hMp⟩ := seqTake_sat h
      exact ⟨c :: M, .cons hc hM, (hMp.cons c).trans hcp⟩
/-- Each may be met by one alone. -/
theorem seqTake_one : ∀ {Q : List (CallV → Bool)} {M S P : List CallV}, Sat Q M → (M ++ S).Perm P → (∀ q ∈ Q, ∀ m ∈ P, ∀ x ∈ P, q m = true → q x = true → x = m) → ∃ P', seqTake Q P = some P' ∧ S.Perm P'
  | [], M, S, P, hs, hp, hu => by
    cases hs
    exact ⟨P, rfl, hp⟩
  | q :: Q, M, S, P, hs, hp, hu => by
    cases hs with
    | cons h hs =>
      rename_i m M
      have hm : m ∈ P := hp.mem_iff.1 (List.mem_cons_self)
      obtain ⟨P1, h1⟩ := takeV_is hm h
      obtain ⟨c, hc, hcp⟩ := takeV_some h1
      have hcm : c = m := hu q (.head _) m hm c (hcp.mem_iff.1 List.mem_cons_self) h hc
      subst hcm
      have hp1 : (M ++ S).Perm P1 := List.Perm.cons_inv (hp.trans hcp.symm)
      obtain ⟨P', h2, h3⟩ := seqTake_one hs hp1 (fun q' hq' m' hm' x hx => hu q' (.tail _ hq') m' (hcp.mem_iff.1 (.tail _ hm')) x (hcp.mem_iff.1 (.tail _ hx)))
      exact ⟨P', by rw [seqTake, h1]; exact h2, h3⟩
/-- What meets one meets all behind it. -/
theorem seqTake_nest : ∀ {Q : List (CallV → Bool)} {M R P : List CallV}, Sat Q M → (M ++ R).Perm P → Q.Pairwise (fun q q' => ∀ x, q x = true → q' x = true) → ∃ P', seqTake Q P = some P'
  | [], M, R, P, hs, hp, hn => ⟨P, rfl⟩
  | q :: Q, M, R, P, hs, hp, hn => by
    cases hs with
    | cons h hs =>
      rename_i m M
      obtain ⟨hn1, hn2⟩ := List.pairwise_cons.1 hn
      have hm : m ∈ P := hp.mem_iff.1 (List.mem_cons_self)
      obtain ⟨P1, h1⟩ := takeV_is hm h
      obtain ⟨c, hc, hcp⟩ := takeV_some h1
      have hex : ∃ M' R', Sat Q M' ∧ (M' ++ R').Perm P1 := by
        by_cases hcm : c = m
        · subst hcm
          exact ⟨M, R, hs, List.Perm.cons_inv (hp.trans hcp.symm)⟩
        · have hin : c ∈ m :: (M ++ R) := hp.mem_iff.2 (hcp.mem_iff.1 List.mem_cons_self)
          rcases List.mem_cons.1 hin with e | hin
          · exact absurd e hcm
          rcases List.mem_append.1 hin with hin | hin
          · obtain ⟨M1, M2, rfl⟩ := List.append_of_mem hin
            obtain ⟨Q1, q', Q2, rfl, a1, a2, a3⟩ := hs.split
            refine ⟨M1 ++ m :: M2, R, a1.append (.cons (hn1 q' (by simp) m h) a3), ?_⟩
            refine List.Perm.cons_inv (a := c) (.trans ?_ hcp.symm)
            refine .trans ?_ hp
            have e1 : (c :: (M1 ++ m :: M2 ++ R)).Perm (m :: (M1 ++ c :: M2 ++ R)) := by
              have b1 : (M1 ++ m :: M2 ++ R).Perm (m :: (M1 ++ M2 ++ R)) := by
                rw [List.append_assoc, List.cons_append, List.append_assoc]
                exact List.perm_middle
              have b2 : (M1 ++ c :: M2 ++ R).Perm (c :: (M1 ++ M2 ++ R)) := by
                rw [List.append_assoc, List.cons_append, List.append_assoc]
                exact List.perm_middle
              exact (b1.cons c).trans ((List.Perm.swap m c _).trans (b2.symm.cons m))
            exact e1
          · obtain ⟨R1, R2, rfl⟩ := List.append_of_mem hin
            refine ⟨M, m :: (R1 ++ R2), hs, ?_⟩
            refine List.Perm.cons_inv (a := c) (.trans ?_ hcp.symm)
            refine .trans ?_ hp
            have b1 : (M ++ m :: (R1 ++ R2)).Perm (m :: (M ++ (R1 ++ R2))) := List.perm_middle
            have b2 : (M ++ (R1 ++ c :: R2)).Perm (c :: (M ++ (R1 ++ R2))) := by
              rw [← List.append_assoc, ← List.append_assoc]
              exact List.perm_middle
            exact (b1.cons c).trans ((List.Perm.swap m c _).trans (b2.symm.cons m))
      obtain ⟨M', R', c1, c2⟩ := hex
      obtain ⟨P', h2⟩ := seqTake_nest c1 c2 hn2
      exact ⟨P', by rw [seqTake, h1]; exact h2⟩
/-- The places that wait. -/
def waits (known : Bool) (log : Int → Option ByteArray) (own : Int → Option Bool) (i : Nat) : Bool := !((own i).getD false) && ((log i).isSome == known)
theorem placesF_seq (known : Bool) (log : Int → Option ByteArray) (own : Int → Option Bool) (D : List CallV) : ∀ (k i : Nat) (ps : List CallV), placesF known log own D k i ps = seqTake (((List.range' i k).filter (waits known log own)).map fun (j : Nat) => fitF known ((log j).getD ⟨#[]⟩) j D) ps
  | 0, i, ps => rfl
  | k + 1, i, ps => by
    rw [placesF, List.range'_succ, List.filter_cons]
    by_cases h : (own i).getD false = true ∨ (log i).isSome ≠ known
    · have hw : waits known log own i = false := by
        unfold waits
        rcases h with h | h
        · rw [h]; rfl
        · rw [beq_eq_false_iff_ne.2 h, Bool.and_false]
      rw [if_pos h, hw, placesF_seq known log own D k (i + 1) ps]
      rfl
    · have hw : waits known log own i = true := by
        unfold waits
        have h1 : (own i).getD false = false := by
          cases e : (own i).getD false with
          | false => rfl
          | true => exact absurd (.inl e) h
        have h2 : (log i).isSome = known := Classical.byContradiction fun e => h (.inr e)
        rw [h1, h2, beq_self_eq_true]; rfl
      rw [if_neg h, hw, if_pos rfl, List.map_cons, seqTake]
      cases takeV (fitF known ((log i).getD ⟨#[]⟩) i D) ps with
      | none => rfl
      | some ps' => exact placesF_seq known log own D k (i + 1) ps'
end Go.Proofs.Ytamiglolpchplaa.Hand
namespace Go.Proofs.Ytamiglolpchplaa.Hand
set_option linter.unusedVariables false
set_option linter.unusedSimpArgs false
theorem putAll_some : ∀ (vals : List ByteArray) (a : Int) (log log' : Int → Option ByteArray), putAll a vals log = some log' → (∀ (k : Nat) v, vals[k]? = some v → log' (a + k) = some v) ∧ (∀ i v, log i = some v → log' i = some v) ∧ (∀ i v, log' i = some v → log i = some v ∨ ∃ k : Nat, vals[k]? = some v ∧ i = a + k)
  | [], a, log, log', h => by
    injection h with h
    subst h
    exact ⟨fun k v hk => by simp at hk, fun i v h => h, fun i v h => .inl h⟩
  | x :: vs, a, log, log', h => by
    rw [putAll] at h
    split at h
    · cases h
    rename_i hc
    obtain ⟨h1, h2, h3⟩ := putAll_some vs (a + 1) _ _ h
    have hx : putF log a x a = some x := putF_same _ _ _
    refine ⟨fun k v hk => ?_, fun i v hi => ?_, fun i v hi => ?_⟩
    · cases k with
      | zero =>
        have e : x = v := by simpa using hk
        subst e
        have e1 : a + ((0 : Nat) : Int) = a := by omega
        rw [e1]; exact h2 a x hx
      | succ k =>
        have := h1 k v (by simpa using hk)
        have e1 : a + ((k + 1 : Nat) : Int) = a + 1 + (k : Int) := by omega
        rw [e1]; exact this
    · refine h2 i v ?_
      by_cases e : i = a
      · subst e
        have e2 : v = x := Classical.byContradiction fun ne => hc ⟨by rw [hi]; rfl, by rw [hi]; exact ne⟩
        rw [e2]; exact hx
      · rw [putF_other _ _ e]; exact hi
    · rcases h3 i v hi with g | ⟨k, g1, g2⟩
      · by_cases e : i = a
        · subst e
          rw [hx] at g
          injection g with g
          subst g
          exact .inr ⟨0, rfl, by omega⟩
        · rw [putF_other _ _ e] at g; exact .inl g
      · exact .inr ⟨k + 1, by simpa using g1, by omega⟩
theorem putAll_ok : ∀ (vals : List ByteArray) (a : Int) (log : Int → Option ByteArray), (∀ (k : Nat) v, vals[k]? = some v → ∀ u, log (a + k) = some u → u = v) → ∃ log', putAll a vals log = some log'
  | [], a, log, h => ⟨log, rfl⟩
  | x :: vs, a, log, h => by
    have h0 : ¬ ((log a).isSome = true ∧ (log a).getD ⟨#[]⟩ ≠ x) := by
      rintro ⟨h1, h2⟩
      cases hl : log a with
      | none => rw [hl] at h1; cases h1
      | some u =>
        rw [hl] at h2
        refine h2 (h 0 x rfl u ?_)
        have e1 : a + ((0 : Nat) : Int) = a := by omega
        rw [e1]; exact hl
    rw [putAll, if_neg h0]
    refine putAll_ok vs (a + 1) _ fun k v hk u hu => ?_
    rw [putF_other _ _ (by omega)] at hu
    refine h (k + 1) v (by simpa using hk) u ?_
    have e1 : a + ((k + 1 : Nat) : Int) = a + 1 + (k : Int) := by omega
    rw [e1]; exact hu
/-- Place i is shown to hold v by c. -/
def ShowsAt (c : CallV) (i : Int) (v : ByteArray) : Prop := ∃ k : Nat, (showsF c).2[k]? = some v ∧ i = (showsF c).1 + k
structure DoneS (D cs : List CallV) (log : Int → Option ByteArray) (own : Int → Option Bool) (log' : Int → Option ByteArray) (own' : Int → Option Bool) : Prop where
  le : ∀ c ∈ cs, leastB 0 c.bgn D ≤ rankF c
  sh : ∀ c ∈ cs, ∀ i v, ShowsAt c i v → log' i = some v
  up : ∀ i v, log i = some v → log' i = some v
  dn : ∀ i v, log' i = some v → log i = some v ∨ ∃ c ∈ cs, ShowsAt c i v
  ow : ∀ o, (own' o).getD false = true ↔ (own o).getD false = true ∨ ∃ c ∈ cs, c.read = false ∧ c.offset = o
  ne : (cs.filter fun c => !c.read).Pairwise (fun x y => x.offset ≠ y.offset)
  nw : ∀ c ∈ cs, c.read = false → (own c.offset).getD false = false
theorem doneF_some (D : List CallV) : ∀ (cs : List CallV) (log log' : Int → Option ByteArray) (own own' : Int → Option Bool), doneF D cs log own = some (log', own') → DoneS D cs log own log' own'
  | [], log, log', own, own', h => by
    simp only [doneF, Option.some.injEq, Prod.mk.injEq] at h
    obtain ⟨rfl, rfl⟩ := h
    exact ⟨fun c hc => by simp at hc, fun c hc => by simp at hc, fun i v h => h, fun i v h => .inl h, fun o => ⟨.inl, fun h => h.elim id (fun ⟨c, hc, _⟩ => by simp at hc)⟩, .nil, fun c hc => by simp at hc⟩
  | x :: cs, log, log', own, own', h => by
    rw [doneF] at h
    split at h
    · cases h
    rename_i hb
    split at h
    · cases h
    rename_i log1 hp
    obtain ⟨p1, p2, p3⟩ := putAll_some _ _ _ _ hp
    have ih := doneF_some D cs _ _ _ _ h
    have hx1 : leastB 0 x.bgn D ≤ rankF x := Int.not_lt.1 (fun e => hb (.inl e))
    have hx2 : x.read = false → (own x.offset).getD false = false := fun hr => by
      cases e : (own x.offset).getD false with
      | false => rfl
      | true => exact absurd (.inr ⟨hr, e⟩) hb
    have hown : ∀ o, ((if x.read = true then own else putF own x.offset true) o).getD false = true ↔ (own o).getD false = true ∨ x.read = false ∧ x.offset = o := fun o => by
      cases hr : x.read with
      | true => simp
      | false =>
        simp only [Bool.false_eq_true, if_false, true_and]
        by_cases e : o = x.offset
        · subst e; rw [putF_same]; simp
        · rw [putF_other _ _ e]
          exact ⟨.inl, fun h => h.elim id (fun h => absurd h.symm e)⟩
    refine ⟨fun c hc => ?_, fun c hc i v hs => ?_, fun i v hi => ih.up i v (p2 i v hi), fun i v hi => ?_, fun o => ?_, ?_, fun c hc hr => ?_⟩
    · rcases List.mem_cons.1 hc with rfl | hc
      · exact hx1
      · exact ih.le c hc
    · rcases List.mem_cons.1 hc with rfl | hc
      · obtain ⟨k, hk, rfl⟩ := hs
        exact ih.up _ _ (p1 k v hk)
      · exact ih.sh c hc i v hs
    · rcases ih.dn i v hi with g | ⟨c, hc, g⟩
      · rcases p3 i v g with g | ⟨k, g1, g2⟩
        · exact .inl g
        · exact .inr ⟨x, .head _, k, g1, g2⟩
      · exact .inr ⟨c, .tail _ hc, g⟩
    · rw [ih.ow o, hown o]
      constructor
      · rintro ((h | h) | ⟨c, hc, h⟩)
        · exact .inl h
        · exact .inr ⟨x, .head _, h⟩
        · exact .inr ⟨c, .tail _ hc, h⟩
      · rintro (g | ⟨c, hc, g⟩)
        · exact .inl (.inl g)
        · rcases List.mem_cons.1 hc with rfl | hc
          · exact .inl (.inr g)
          · exact .inr ⟨c, hc, g⟩
    · rw [List.filter_cons]
      cases hr : x.read with
      | true => simpa using ih.ne
      | false =>
        simp only [Bool.not_false, if_true]
        refine List.pairwise_cons.2 ⟨fun y hy e => ?_, ih.ne⟩
        have hy1 := List.mem_filter.1 hy
        have hyr : y.read = false := by simpa using hy1.2
        have := ih.nw y hy1.1 hyr
        have h2 := (hown y.offset).2 (.inr ⟨hr, e⟩)
        rw [h2] at this
        cases this
    · rcases List.mem_cons.1 hc with rfl | hc
      · exact hx2 hr
      · have := ih.nw c hc hr
        cases e : (own c.offset).getD false with
        | false => rfl
        | true => rw [(hown c.offset).2 (.inl e)] at this; cases this
theorem doneF_ok (D : List CallV) (F : Int → Option ByteArray) : ∀ (cs : List CallV) (log : Int → Option ByteArray) (own : Int → Option Bool), (∀ c ∈ cs, leastB 0 c.bgn D ≤ rankF c) → (∀ c ∈ cs, ∀ i v, ShowsAt c i v → F i = some v) → (∀ i v, log i = some v → F i = some v) →
    (cs.filter fun c => !c.read).Pairwise (fun x y => x.offset ≠ y.offset) → (∀ c ∈ cs, c.read = false → (own c.offset).getD false = false) → ∃ r, doneF D cs log own = some r
  | [], log, own, _, _, _, _, _ => ⟨_, rfl⟩
  | x :: cs, log, own, h1, h2, h3, h4, h5 => by
    have hb : ¬ (rankF x < leastB 0 x.bgn D ∨ x.read = false ∧ (own x.offset).getD false = true) := by
      rintro (h | ⟨hr, h⟩)
      · have := h1 x (.head _); omega
      · rw [h5 x (.head _) hr] at h; cases h
    obtain ⟨log1, hp⟩ := putAll_ok (showsF x).2 (showsF x).1 log (fun k v hk u hu => by
      have g1 := h3 _ _ hu
      have g2 := h2 x (.head _) _ v ⟨k, hk, rfl⟩
      rw [g1] at g2
      injection g2)
    obtain ⟨p1, p2, p3⟩ := putAll_some _ _ _ _ hp
    rw [doneF, if_neg hb, hp]
    refine doneF_ok D F cs log1 _ (fun c hc => h1 c (.tail _ hc)) (fun c hc => h2 c (.tail _ hc)) (fun i v hi => ?_) ?_ (fun c hc hr => ?_)
    · rcases p3 i v hi with g | ⟨k, g1, g2⟩
      · exact h3 i v g
      · exact h2 x (.head _) i v ⟨k, g1, g2⟩
    · rw [List.filter_cons] at h4
      split at h4
      · exact (List.pairwise_cons.1 h4).2
      · exact h4
    · cases hx : x.read with
      | true => simpa using h5 c (.tail _ hc) hr
      | false =>
        simp only [Bool.false_eq_true, if_false]
        rw [List.filter_cons, hx] at h4
        simp only [Bool.not_false, if_true] at h4
        have hne := (List.pairwise_cons.1 h4).1 c (List.mem_filter.2 ⟨hc, by rw [hr]; rfl⟩)
        rw [putF_other _ _ (fun e => hne e.symm)]
        exact h5 c (.tail _ hc) hr
/-- The values that a run of calls appends. -/
def appV (s : List CallV) : List ByteArray := (s.filter fun c => !c.read).map CallV.value
/-- Each is told the truth, the log being so long ahead of it. -/
def Run : List CallV → List ByteArray → Prop
  | [], _ => True
  | c :: s, log => if c.read = true then c.values = log ∧ Run s log else (c.done = true → c.offset = (log.length : Int)) ∧ Run s (log ++ [c.value])
/-- There can have been such a log (P2004). -/
def Lin (l : List CallV) : Prop := ∃ s rest : List CallV, (s ++ rest).Perm l ∧ (∀ c ∈ rest, c.done = false) ∧ (∀ c ∈ s, c.read = true → c.done = true) ∧ Run s [] ∧ s.Pairwise (fun x y => ¬ (y.done = true ∧ y.fin < x.bgn))
theorem appV_append (a b : List CallV) : appV (a ++ b) = appV a ++ appV b := by simp [appV]
theorem appV_read {c : CallV} (h : c.read = true) (s : List CallV) : appV (c :: s) = appV s := by simp [appV, h]
theorem appV_app {c : CallV} (h : c.read = false) (s : List CallV) : appV (c :: s) = c.value :: appV s := by simp [appV, h]
theorem run_append : ∀ (a b : List CallV) (log : List ByteArray), Run (a ++ b) log ↔ Run a log ∧ Run b (log ++ appV a)
  | [], b, log => by simp [Run, appV]
  | c :: a, b, log => by
    rw [List.cons_append, Run, Run]
    cases hr : c.read with
    | true =>
      simp only [if_true]
      rw [run_append a b log, appV_read hr, and_assoc]
    | false =>
      simp only [Bool.false_eq_true, if_false]
      rw [run_append a b _, appV_app hr, and_assoc, List.append_assoc]
      rfl
theorem lin_perm {l l' : List CallV} (h : l.Perm l') (hl : Lin l) : Lin l' := by
  obtain ⟨s, rest, h1, h2⟩ := hl
  exact ⟨s, rest, h1.trans h, h2⟩
end Go.Proofs.Ytamiglolpchplaa.Hand
namespace Go.Proofs.Ytamiglolpchplaa.Hand
set_option linter.unusedVariables false
set_option linter.unusedSimpArgs false
theorem filter_split {α : Type} (p : α → Bool) : ∀ (l : List α) (i : Nat) (x : α), (l.filter p)[i]? = some x → ∃ l1 l2, l = l1 ++ x :: l2 ∧ (l1.filter p).length = i ∧ p x = true
  | [], i, x, h => by simp at h
  | y :: l, i, x, h => by
    rw [List.filter_cons] at h
    by_cases hy : p y = true
    · rw [if_pos hy] at h
      cases i with
      | zero =>
        have e : y = x := by simpa using h
        subst e
        exact ⟨[], l, rfl, rfl, hy⟩
      | succ i =>
        obtain ⟨l1, l2, e, h1, h2⟩ := filter_split p l i x (by simpa using h)
        exact ⟨y :: l1, l2, by rw [e]; rfl, by rw [List.filter_cons, if_pos hy, List.length_cons, h1], h2⟩
    · rw [if_neg hy] at h
      obtain ⟨l1, l2, e, h1, h2⟩ := filter_split p l i x h
      exact ⟨y :: l1, l2, by rw [e]; rfl, by rw [List.filter_cons, if_neg hy, h1], h2⟩
theorem sublist_rest {α : Type} {a b : List α} (h : a.Sublist b) : ∃ r, (a ++ r).Perm b := by
  induction h with
  | slnil => exact ⟨[], .refl _⟩
  | cons x _ ih =>
    obtain ⟨r, hr⟩ := ih
    exact ⟨x :: r, List.perm_middle.trans (hr.cons x)⟩
  | cons_cons x _ ih =>
    obtain ⟨r, hr⟩ := ih
    exact ⟨r, hr.cons x⟩
theorem filter_parts {α : Type} (p q : α → Bool) : ∀ l : List α, ((l.filter fun x => p x && q x) ++ (l.filter fun x => p x && !q x)).Perm (l.filter p)
  | [] => .refl _
  | x :: l => by
    have ih := filter_parts p q l
    simp only [List.filter_cons]
    cases hp : p x <;> cases hq : q x <;> simp only [Bool.false_and, Bool.true_and, Bool.not_true, Bool.not_false, if_true, Bool.false_eq_true, if_false]
    · exact ih
    · exact ih
    · exact List.perm_middle.trans (ih.cons x)
    · exact ih.cons x
theorem sat_map {U : List Nat} {q : Nat → CallV → Bool} {A : Nat → CallV} (h : ∀ i ∈ U, q i (A i) = true) : Sat (U.map q) (U.map A) := by
  induction U with
  | nil => exact .nil
  | cons i U ih => exact .cons (h i (.head _)) (ih (fun j hj => h j (.tail _ hj)))
theorem pair_eq {α : Type} {R : α → α → Prop} (hs : ∀ x y, R x y → R y x) : ∀ {l : List α}, l.Pairwise R → ∀ x ∈ l, ∀ y ∈ l, ¬ R x y → x = y
  | [], _, x, hx => by simp at hx
  | a :: l, h, x, hx => fun y hy hn => by
    obtain ⟨h1, h2⟩ := List.pairwise_cons.1 h
    rcases List.mem_cons.1 hx with ex | hx'
    · rcases List.mem_cons.1 hy with ey | hy'
      · rw [ex, ey]
      · rw [ex] at hn; exact absurd (h1 y hy') hn
    · rcases List.mem_cons.1 hy with ey | hy'
      · rw [ey] at hn; exact absurd (hs _ _ (h1 x hx')) hn
      · exact pair_eq hs h2 x hx' y hy' hn
theorem rightL_ne : ∀ (l : List CallV) (met : List ByteArray), rightL met l = true → (l.filter fun c => !c.read).Pairwise (fun x y => x.value ≠ y.value) ∧ ∀ c ∈ l, c.read = false → c.value ∉ met
  | [], met, _ => ⟨.nil, fun c hc => by simp at hc⟩
  | x :: l, met, h => by
    rw [rightL, Bool.and_eq_true, Bool.and_eq_true] at h
    obtain ⟨⟨ha, hb⟩, hc⟩ := h
    obtain ⟨h1, h2⟩ := rightL_ne l _ hc
    rw [List.filter_cons]
    cases hr : x.read with
    | true =>
      rw [hr] at h2
      simp only [if_true] at h2
      refine ⟨by simpa using h1, fun c hcm hcr => ?_⟩
      rcases List.mem_cons.1 hcm with rfl | hcm
      · rw [hr] at hcr; cases hcr
      · exact h2 c hcm hcr
    | false =>
      rw [hr] at h2 hb
      simp only [Bool.false_eq_true, if_false] at h2
      have hx : x.value ∉ met := by simpa using hb
      simp only [Bool.not_false, if_true]
      refine ⟨List.pairwise_cons.2 ⟨fun y hy e => ?_, h1⟩, fun c hcm hcr => ?_⟩
      · have hy1 := List.mem_filter.1 hy
        exact h2 y hy1.1 (by simpa using hy1.2) (by rw [e]; exact .head _)
      · rcases List.mem_cons.1 hcm with rfl | hcm
        · exact hx
        · exact fun e => h2 c hcm hcr (.tail _ e)
theorem right_one {l : List CallV} (h : rightF l = true) {x y : CallV} (hx : x ∈ l) (hy : y ∈ l) (hxr : x.read = false) (hyr : y.read = false) (e : x.value = y.value) : x = y := by
  rw [rightF, Bool.and_eq_true] at h
  exact pair_eq (fun _ _ h e => h e.symm) (rightL_ne l [] h.1).1 x (List.mem_filter.2 ⟨hx, by rw [hxr]; rfl⟩) y (List.mem_filter.2 ⟨hy, by rw [hyr]; rfl⟩) (fun h => h e)
theorem run_at {s1 s2 : List CallV} {c : CallV} {log : List ByteArray} (h : Run (s1 ++ c :: s2) log) : (c.read = true → c.values = log ++ appV s1) ∧ (c.read = false → c.done = true → c.offset = ((log ++ appV s1).length : Int)) := by
  have := ((run_append s1 (c :: s2) log).1 h).2
  rw [Run] at this
  constructor
  · intro hr; rw [if_pos hr] at this; exact this.1
  · intro hr; rw [if_neg (by rw [hr]; decide)] at this; exact this.1
theorem run_off : ∀ (s : List CallV) (log : List ByteArray), Run s log → (s.filter fun c => c.done && !c.read).Pairwise (fun x y => x.offset ≠ y.offset) ∧ ∀ c ∈ s, c.done = true → c.read = false → (log.length : Int) ≤ c.offset
  | [], log, _ => ⟨.nil, fun c hc => by simp at hc⟩
  | x :: s, log, h => by
    rw [Run] at h
    rw [List.filter_cons]
    cases hr : x.read with
    | true =>
      rw [hr, if_pos rfl] at h
      obtain ⟨h1, h2⟩ := run_off s log h.2
      refine ⟨by simpa using h1, fun c hc hd hcr => ?_⟩
      rcases List.mem_cons.1 hc with rfl | hc
      · rw [hr] at hcr; cases hcr
      · exact h2 c hc hd hcr
    | false =>
      rw [hr, if_neg (by decide)] at h
      obtain ⟨h1, h2⟩ := run_off s _ h.2
      simp only [List.length_append, List.length_singleton] at h2
      refine ⟨?_, fun c hc hd hcr => ?_⟩
      · cases hd : x.done with
        | false => simpa using h1
        | true =>
          simp only [Bool.not_false, Bool.and_self, if_true]
          refine List.pairwise_cons.2 ⟨fun y hy e => ?_, h1⟩
          obtain ⟨hy1, hy2⟩ := List.mem_filter.1 hy
          simp only [Bool.and_eq_true, Bool.not_eq_true'] at hy2
          have := h2 y hy1 hy2.1 hy2.2
          have := h.1 hd
          omega
      · rcases List.mem_cons.1 hc with rfl | hc
        · have := h.1 hd; omega
        · have := h2 c hc hd hcr; omega
theorem shownL_le (B : Int) : ∀ (l : List CallV) (n : Int), n ≤ B → (∀ c ∈ l, 0 < (showsF c).2.length → (showsF c).1 + ((showsF c).2.length : Int) ≤ B) → shownL n l ≤ B
  | [], n, h, _ => h
  | c :: l, n, h, hs => by
    refine shownL_le B l _ ?_ (fun x hx => hs x (.tail _ hx))
    split
    · rename_i hp
      have := hs c (.head _) hp
      omega
    · exact h
/-- All that an order of the calls gives. -/
structure LinX (l s rest D P : List CallV) : Prop where
  pm : (s ++ rest).Perm l
  rd : ∀ c ∈ rest, c.done = false
  sr : ∀ c ∈ s, c.read = true → c.done = true
  run : Run s []
  ord : s.Pairwise (fun x y => ¬ (y.done = true ∧ y.fin < x.bgn))
  dp : D.Perm (l.filter fun c => c.done)
  ds : D.Pairwise (fun x y => x.fin ≤ y.fin)
  pp : P = l.filter fun c => !c.done && !c.read
section
variable {l s rest D P : List CallV}
theorem LinX.mem (h : LinX l s rest D P) {c : CallV} : c ∈ D ↔ c ∈ s ∧ c.done = true := by
  rw [h.dp.mem_iff, List.mem_filter, ← h.pm.mem_iff, List.mem_append]
  constructor
  · rintro ⟨h1 | h1, h2⟩
    · exact ⟨h1, h2⟩
    · rw [h.rd c h1] at h2; cases h2
  · rintro ⟨h1, h2⟩
    exact ⟨.inl h1, h2⟩
theorem LinX.ofs (h : LinX l s rest D P) {c : CallV} (hc : c ∈ s) : c ∈ l := h.pm.mem_iff.1 (List.mem_append_left _ hc)
/-- What lies ahead has a smaller rank. -/
theorem LinX.ahead (h : LinX l s rest D P) {s1 s2 : List CallV} (e : s = s1 ++ s2) {c : CallV} (hc : c ∈ s1) (hd : c.done = true) : rankF c ≤ 2 * ((appV s1).length : Int) := by
  obtain ⟨t1, t2, rfl⟩ := List.append_of_mem hc
  have hr := h.run
  rw [e, List.append_assoc, List.cons_append] at hr
  obtain ⟨h1, h2⟩ := run_at hr
  rw [appV_append]
  unfold rankF
  cases hrd : c.read with
  | true =>
    rw [if_pos rfl, h1 hrd, List.nil_append, List.length_append]
    omega
  | false =>
    rw [if_neg (by decide), h2 hrd hd, List.nil_append, appV_app hrd, List.length_append, List.length_cons]
    omega
theorem LinX.le (h : LinX l s rest D P) {s1 s2 : List CallV} {c : CallV} (e : s = s1 ++ c :: s2) : leastB 0 c.bgn D ≤ 2 * ((appV s1).length : Int) + (if c.read = true then 0 else 1) := by
  rw [leastB_le c.bgn D 0 _ (fun x hx => (h.mem.1 hx).2) h.ds]
  refine ⟨by split <;> omega, fun x hx hd hf => ?_⟩
  have hxs := (h.mem.1 hx).1
  rw [e] at hxs
  rcases List.mem_append.1 hxs with hx1 | hx1
  · have := h.ahead e hx1 hd
    split <;> omega
  rcases List.mem_cons.1 hx1 with rfl | hx1
  · obtain ⟨a1, a2⟩ := run_at (e ▸ h.run)
    unfold rankF
    cases hrd : x.read with
    | true => rw [if_pos rfl, if_pos rfl, a1 hrd, List.nil_append]; omega
    | false => rw [if_neg (by decide), if_neg (by decide), a2 hrd hd, List.nil_append]; omega
  · have ho := h.ord
    rw [e] at ho
    have := (List.pairwise_cons.1 (List.pairwise_append.1 ho).2.1).1 x hx1
    exact absurd ⟨hd, hf⟩ this
theorem LinX.rank (h : LinX l s rest D P) {c : CallV} (hc : c ∈ D) : leastB 0 c.bgn D ≤ rankF c := by
  obtain ⟨hs, hd⟩ := h.mem.1 hc
  obtain ⟨s1, s2, e⟩ := List.append_of_mem hs
  have h1 := h.le e
  obtain ⟨a1, a2⟩ := run_at (e ▸ h.run)
  unfold rankF
  cases hrd : c.read with
  | true =>
    rw [hrd, if_pos rfl] at h1
    rw [if_pos rfl, a1 hrd, List.nil_append]; omega
  | false =>
    rw [hrd, if_neg (by decide)] at h1
    rw [if_neg (by decide), a2 hrd hd, List.nil_append]; omega
/-- The log at the end. -/
def logAt (s : List CallV) (i : Int) : Option ByteArray := if 0 ≤ i then (appV s)[i.toNat]? else none
theorem LinX.shows (h : LinX l s rest D P) {c : CallV} (hc : c ∈ D) {i : Int} {v : ByteArray} (hs : ShowsAt c i v) : logAt s i = some v := by
  obtain ⟨hcs, hd⟩ := h.mem.1 hc
  obtain ⟨s1, s2, e⟩ := List.append_of_mem hcs
  obtain ⟨a1, a2⟩ := run_at (e ▸ h.run)
  obtain ⟨k, hk, hi⟩ := hs
  unfold showsF at hk hi
  rw [if_pos hd] at hk hi
  rw [logAt, e, appV_append]
  cases hrd : c.read with
  | true =>
    rw [hrd, if_pos rfl] at hk hi
    dsimp only at hk hi
    rw [a1 hrd, List.nil_append] at hk
    have hlt := (List.getElem?_eq_some_iff.1 hk).1
    have e1 : i.toNat = k := by omega
    rw [if_pos (by omega), e1, List.getElem?_append_left hlt]
    exact hk
  | false =>
    rw [hrd, if_neg (by decide)] at hk hi
    dsimp only at hk hi
    have hk0 : k = 0 := by
      cases k with
      | zero => rfl
      | succ k => simp at hk
    subst hk0
    have hv : c.value = v := by simpa using hk
    rw [a2 hrd hd, List.nil_append] at hi
    have e1 : i.toNat = (appV s1).length := by omega
    rw [if_pos (by omega), e1, List.getElem?_append_right (Nat.le_refl _), Nat.sub_self, appV_app hrd, hv]
    rfl
theorem LinX.offs (h : LinX l s rest D P) : (D.filter fun c => !c.read).Pairwise (fun x y => x.offset ≠ y.offset) := by
  have h1 := (run_off s [] h.run).1
  have h2 : (D.filter fun c => !c.read).Perm (s.filter fun c => c.done && !c.read) := by
    have e1 : (s ++ rest).filter (fun c => c.done) = s.filter (fun c => c.done) := by
      rw [List.filter_append]
      have : rest.filter (fun c => c.done) = [] := by
        rw [List.filter_eq_nil_iff]
        intro c hc
        rw [h.rd c hc]; decide
      rw [this, List.append_nil]
    have e2 : D.Perm (s.filter fun c => c.done) := h.dp.trans ((h.pm.symm.filter _).trans (List.Perm.of_eq e1))
    have e3 := e2.filter fun c => !c.read
    rw [List.filter_filter] at e3
    refine e3.trans (List.Perm.of_eq ?_)
    exact List.filter_congr fun x _ => Bool.and_comm _ _
  exact (h2.pairwise_iff (fun h e => h e.symm)).2 h1
end
end Go.Proofs.Ytamiglolpchplaa.Hand
namespace Go.Proofs.Ytamiglolpchplaa.Hand
set_option linter.unusedVariables false
set_option linter.unusedSimpArgs false
/-- The i-th append. -/
def appAt (s : List CallV) (i : Nat) : CallV := (s.filter fun c => !c.read).getD i default
theorem appAt_split {s : List CallV} {i : Nat} (hi : i < (appV s).length) : ∃ s1 s2, s = s1 ++ appAt s i :: s2 ∧ (appV s1).length = i ∧ (appAt s i).read = false := by
  have hl : i < (s.filter fun c => !c.read).length := by rw [appV, List.length_map] at hi; exact hi
  have hx : (s.filter fun c => !c.read)[i]? = some (appAt s i) := by
    rw [appAt, List.getD_eq_getElem?_getD, List.getElem?_eq_getElem hl]; rfl
  obtain ⟨l1, l2, e, h1, h2⟩ := filter_split (fun c : CallV => !c.read) s i _ hx
  exact ⟨l1, l2, e, by rw [appV, List.length_map]; exact h1, by simpa using h2⟩
theorem appAt_val {s : List CallV} {i : Nat} (hi : i < (appV s).length) : (appV s)[i]? = some (appAt s i).value := by
  have hl : i < (s.filter fun c => !c.read).length := by rw [appV, List.length_map] at hi; exact hi
  rw [appV, List.getElem?_map, appAt, List.getD_eq_getElem?_getD, List.getElem?_eq_getElem hl]; rfl
theorem appAt_range (s : List CallV) : (List.range' 0 (appV s).length).map (appAt s) = s.filter fun c => !c.read := by
  have hl : (appV s).length = (s.filter fun c => !c.read).length := by rw [appV, List.length_map]
  apply List.ext_getElem
  · rw [List.length_map, List.length_range', hl]
  · intro i h1 h2
    rw [List.getElem_map, List.getElem_range']
    rw [appAt, List.getD_eq_getElem?_getD, show 0 + 1 * i = i by omega, List.getElem?_eq_getElem h2]; rfl
section
variable {l s rest D P : List CallV}
theorem LinX.shown (h : LinX l s rest D P) (hr : rightF l = true) : shownF l ≤ ((appV s).length : Int) := by
  rw [shownF, if_pos hr]
  refine shownL_le _ l 0 (by omega) fun c hc hp => ?_
  by_cases hd : c.done = true
  · have hcD : c ∈ D := h.dp.mem_iff.2 (List.mem_filter.2 ⟨hc, hd⟩)
    obtain ⟨k, hk⟩ : ∃ k, (showsF c).2.length = k + 1 := ⟨(showsF c).2.length - 1, by omega⟩
    have hlt : k < (showsF c).2.length := by omega
    have hs := h.shows hcD (i := (showsF c).1 + k) (v := (showsF c).2[k]) ⟨k, List.getElem?_eq_getElem hlt, rfl⟩
    rw [logAt] at hs
    split at hs
    · have := (List.getElem?_eq_some_iff.1 hs).1
      omega
    · cases hs
  · rw [showsF, if_neg hd] at hp
    simp at hp
/-- THE FIRST HALF OF P2004. -/
theorem LinX.zero (h : LinX l s rest D P) (hr : rightF l = true) : checkR D P (shownF l).toNat = 0 := by
  obtain ⟨⟨log, own⟩, hdone⟩ := doneF_ok D (logAt s) D (fun _ => none) (fun _ => none) (fun c hc => h.rank hc) (fun c hc i v hs => h.shows hc hs) (fun i v hi => by cases hi) h.offs (fun c hc _ => rfl)
  have hS := doneF_some D D _ _ _ _ hdone
  obtain ⟨N, hN⟩ : ∃ N, N = (shownF l).toNat := ⟨_, rfl⟩
  have hNs : N ≤ (appV s).length := by have := h.shown hr; omega
  rw [← hN]
  have hval : ∀ (i : Nat) v, log i = some v → i < (appV s).length → (appAt s i).value = v := fun i v hi hlt => by
    rcases hS.dn i v hi with h1 | ⟨c, hc, hs⟩
    · cases h1
    · have := h.shows hc hs
      rw [logAt, if_pos (by omega), Int.toNat_natCast, appAt_val hlt] at this
      injection this
  have hpend : ∀ i : Nat, i < N → (own i).getD false = false → (appAt s i).done = false := fun i hi ho => by
    obtain ⟨s1, s2, e, h1, h2⟩ := appAt_split (s := s) (i := i) (by omega)
    cases hd : (appAt s i).done with
    | false => rfl
    | true =>
      have hr2 := h.run
      rw [e] at hr2
      have hoff := (run_at hr2).2 h2 hd
      rw [List.nil_append, h1] at hoff
      have hm0 : appAt s i ∈ s1 ++ appAt s i :: s2 := by simp
      rw [← e] at hm0
      have hm : appAt s i ∈ D := h.mem.2 ⟨hm0, hd⟩
      have := (hS.ow (i : Int)).2 (.inr ⟨_, hm, h2, hoff⟩)
      rw [ho] at this
      cases this
  have hleast : ∀ i : Nat, i < N → leastB 0 (appAt s i).bgn D ≤ 2 * (i : Int) + 1 := fun i hi => by
    obtain ⟨s1, s2, e, h1, h2⟩ := appAt_split (s := s) (i := i) (by omega)
    have := h.le e
    rw [h1, h2, if_neg (by decide)] at this
    exact this
  obtain ⟨Uk, hUk⟩ : ∃ U, U = (List.range' 0 N).filter (waits true log own) := ⟨_, rfl⟩
  obtain ⟨Uu, hUu⟩ : ∃ U, U = (List.range' 0 N).filter (waits false log own) := ⟨_, rfl⟩
  have hin : ∀ known i, i ∈ (List.range' 0 N).filter (waits known log own) → i < N ∧ (own i).getD false = false ∧ (log i).isSome = known := fun known i hi => by
    obtain ⟨h1, h2⟩ := List.mem_filter.1 hi
    rw [List.mem_range'_1] at h1
    simp only [waits, Bool.and_eq_true, Bool.not_eq_true', beq_iff_eq] at h2
    exact ⟨by omega, h2.1, h2.2⟩
  have hsatk : Sat (Uk.map fun (j : Nat) => fitF true ((log j).getD ⟨#[]⟩) j D) (Uk.map (appAt s)) := sat_map fun i hi => by
    rw [hUk] at hi
    obtain ⟨h1, h2, h3⟩ := hin true i hi
    obtain ⟨v, hv⟩ := Option.isSome_iff_exists.1 h3
    rw [fitF, hv, hval i v hv (by omega), decide_eq_true (hleast i h1)]
    simp
  have hsatu : Sat (Uu.map fun (j : Nat) => fitF false ((log j).getD ⟨#[]⟩) j D) (Uu.map (appAt s)) := sat_map fun i hi => by
    rw [hUu] at hi
    obtain ⟨h1, h2, h3⟩ := hin false i hi
    rw [fitF, decide_eq_true (hleast i h1)]
    rfl
  have hperm : ∃ R, ((Uk.map (appAt s)) ++ ((Uu.map (appAt s)) ++ R)).Perm P := by
    have p1 : (Uk ++ Uu).Perm ((List.range' 0 N).filter fun (i : Nat) => !((own i).getD false)) := by
      have := filter_parts (fun i : Nat => !((own i).getD false)) (fun i : Nat => (log i).isSome) (List.range' 0 N)
      rw [hUk, hUu]
      refine List.Perm.trans (List.Perm.of_eq ?_) this
      congr 1
      · exact List.filter_congr fun i _ => by unfold waits; cases (log i).isSome <;> rfl
      · exact List.filter_congr fun i _ => by unfold waits; cases (log i).isSome <;> rfl
    have p2 : (((List.range' 0 N).filter fun (i : Nat) => !((own i).getD false)).map (appAt s)).Sublist ((s.filter fun c => !c.read).filter fun c => !c.done) := by
      have a1 : ((List.range' 0 N).filter fun (i : Nat) => !((own i).getD false)).Sublist (List.range' 0 (appV s).length) := by
        refine List.Sublist.trans List.filter_sublist ?_
        have e1 : List.range' 0 (appV s).length = List.range' 0 N ++ List.range' N ((appV s).length - N) := by
          have := List.range'_append_1 (s := 0) (m := N) (n := (appV s).length - N)
          rw [Nat.zero_add] at this
          rw [this]; congr 1; omega
        rw [e1]
        exact List.sublist_append_left _ _
      have a2 := a1.map (appAt s)
      rw [appAt_range] at a2
      have a3 := a2.filter fun c => !c.done
      have a4 : ((((List.range' 0 N).filter fun (i : Nat) => !((own i).getD false)).map (appAt s)).filter fun c => !c.done) = ((List.range' 0 N).filter fun (i : Nat) => !((own i).getD false)).map (appAt s) := by
        rw [List.filter_eq_self]
        intro c hc
        obtain ⟨i, hi, rfl⟩ := List.mem_map.1 hc
        obtain ⟨h1, h2⟩ := List.mem_filter.1 hi
        rw [List.mem_range'_1] at h1
        rw [hpend i (by omega) (by simpa using h2)]; rfl
      rw [a4] at a3
      exact a3
    obtain ⟨r, hrr⟩ := sublist_rest p2
    have p3 : ((s.filter fun c => !c.read).filter fun c => !c.done) = s.filter fun c => !c.done && !c.read := List.filter_filter
    have p4 : ((s ++ rest).filter fun c => !c.done && !c.read).Perm P := by rw [h.pp]; exact h.pm.filter _
    refine ⟨r ++ rest.filter fun c => !c.done && !c.read, ?_⟩
    rw [List.filter_append, ← p3] at p4
    refine List.Perm.trans ?_ p4
    rw [← List.append_assoc, ← List.append_assoc, ← List.map_append]
    exact (((p1.map (appAt s)).append_right r).trans hrr).append_right _
  obtain ⟨R, hR⟩ := hperm
  have hPl : ∀ m ∈ P, m ∈ l ∧ m.read = false := fun m hm => by
    rw [h.pp] at hm
    obtain ⟨a1, a2⟩ := List.mem_filter.1 hm
    simp only [Bool.and_eq_true, Bool.not_eq_true'] at a2
    exact ⟨a1, a2.2⟩
  obtain ⟨P1, t1, hp1⟩ := seqTake_one hsatk hR (fun q hq m hm x hx h1 h2 => by
    obtain ⟨i, hi, rfl⟩ := List.mem_map.1 hq
    simp only [fitF, Bool.not_true, Bool.false_or, Bool.and_eq_true, decide_eq_true_eq] at h1 h2
    obtain ⟨m1, m2⟩ := hPl m hm
    obtain ⟨x1, x2⟩ := hPl x hx
    exact right_one hr x1 m1 x2 m2 (h2.1.trans h1.1.symm))
  obtain ⟨P2, t2⟩ := seqTake_nest hsatu hp1 (by
    rw [List.pairwise_map, hUu]
    refine (List.Pairwise.filter _ (List.pairwise_lt_range' (s := 0) (n := N))).imp ?_
    intro i j hij x hx
    simp only [fitF, Bool.not_false, Bool.true_or, Bool.true_and, decide_eq_true_eq] at hx ⊢
    omega)
  have k1 : placesF true log own D N 0 P = some P1 := by rw [placesF_seq, ← hUk]; exact t1
  have k2 : placesF false log own D N 0 P1 = some P2 := by rw [placesF_seq, ← hUu]; exact t2
  simp only [checkR, hdone, k1, k2]
end
theorem check_of_lin {l : List CallV} {r : Int} (hr : rightF l = true) (hl : Lin l) (hc : CheckV l r) : r = 0 := by
  obtain ⟨s, rest, h1, h2, h3, h4, h5⟩ := hl
  rcases hc with ⟨h, _⟩ | ⟨_, D, d1, d2, e⟩
  · rw [hr] at h; cases h
  · rw [e]
    exact LinX.zero ⟨h1, h2, h3, h4, h5, d1, d2, rfl⟩ hr
end Go.Proofs.Ytamiglolpchplaa.Hand
namespace Go.Proofs.Ytamiglolpchplaa.Hand
set_option linter.unusedVariables false
set_option linter.unusedSimpArgs false
theorem map_of_nodup : ∀ (U : List Nat) (M : List CallV), U.Nodup → M.length = U.length → ∃ f : Nat → CallV, U.map f = M
  | [], M, _, h => ⟨fun _ => default, (List.eq_nil_of_length_eq_zero h).symm⟩
  | u :: U, [], _, h => by simp at h
  | u :: U, m :: M, hn, h => by
    obtain ⟨h1, h2⟩ := List.nodup_cons.1 hn
    obtain ⟨f, hf⟩ := map_of_nodup U M h2 (by simpa using h)
    refine ⟨fun i => if i = u then m else f i, ?_⟩
    rw [List.map_cons, if_pos rfl]
    congr 1
    rw [← hf]
    exact List.map_congr_left fun i hi => if_neg fun e => h1 (by rw [← e]; exact hi)
theorem sat_len {Q : List (CallV → Bool)} {M : List CallV} (h : Sat Q M) : M.length = Q.length := by
  induction h with
  | nil => rfl
  | cons _ _ ih => rw [List.length_cons, List.length_cons, ih]
theorem sat_of_map {U : List Nat} {q : Nat → CallV → Bool} {f : Nat → CallV} : Sat (U.map q) (U.map f) → ∀ i ∈ U, q i (f i) = true := by
  induction U with
  | nil => intro _ i hi; simp at hi
  | cons u U ih =>
    intro h i hi
    rw [List.map_cons, List.map_cons] at h
    cases h with
    | cons h hs =>
      rcases List.mem_cons.1 hi with rfl | hi
      · exact h
      · exact ih hs i hi
def readsOf (D : List CallV) (i : Nat) : List CallV := D.filter fun c => c.read && decide (c.values.length = i)
/-- Place by place: those that read so many values; what is appended then. -/
def segs (D : List CallV) (A : Nat → CallV) : Nat → Nat → List CallV
  | 0, i => readsOf D i
  | k + 1, i => readsOf D i ++ A i :: segs D A k (i + 1)
theorem segs_perm (D : List CallV) (A : Nat → CallV) : ∀ (k i : Nat), (segs D A k i).Perm ((D.filter fun c => c.read && (decide (i ≤ c.values.length) && decide (c.values.length ≤ i + k))) ++ (List.range' i k).map A)
  | 0, i => by
    rw [segs, readsOf, show List.range' i 0 = [] from rfl, List.map_nil, List.append_nil]
    refine List.Perm.of_eq (List.filter_congr fun c _ => ?_)
    congr 1
    rw [← Bool.decide_and]
    exact decide_eq_decide.2 (by omega)
  | k + 1, i => by
    have ih := segs_perm D A k (i + 1)
    rw [segs, List.range'_succ, List.map_cons]
    have h1 := filter_parts (fun c : CallV => c.read && (decide (i ≤ c.values.length) && decide (c.values.length ≤ i + (k + 1)))) (fun c => decide (c.values.length = i)) D
    have e1 : (D.filter fun c => (c.read && (decide (i ≤ c.values.length) && decide (c.values.length ≤ i + (k + 1)))) && decide (c.values.length = i)) = readsOf D i := by
      unfold readsOf
      refine List.filter_congr fun c _ => ?_
      rw [Bool.and_assoc]
      congr 1
      rw [← Bool.decide_and, ← Bool.decide_and]
      exact decide_eq_decide.2 (by omega)
    have e2 : (D.filter fun c => (c.read && (decide (i ≤ c.values.length) && decide (c.values.length ≤ i + (k + 1)))) && !decide (c.values.length = i)) = D.filter fun c => c.read && (decide (i + 1 ≤ c.values.length) && decide (c.values.length ≤ i + 1 + k)) := by
      refine List.filter_congr fun c _ => ?_
      rw [Bool.and_assoc]
      congr 1
      rw [← decide_not, ← Bool.decide_and, ← Bool.decide_and, ← Bool.decide_and]
      exact decide_eq_decide.2 (by omega)
    rw [e1, e2] at h1
    refine ((ih.cons (A i)).append_left (readsOf D i)).trans ?_
    refine (List.perm_middle.append_left _ |>.symm.trans ?_)
    rw [← List.append_assoc]
    exact h1.append_right _
/-- What Check's answer gives. -/
structure ZeroX (l D P : List CallV) (log : Int → Option ByteArray) (own : Int → Option Bool) (N : Nat) (A : Nat → CallV) (P2 : List CallV) : Prop where
  al : ∀ c ∈ l, aloneF c = true
  dp : D.Perm (l.filter fun c => c.done)
  ds : D.Pairwise (fun x y => x.fin ≤ y.fin)
  pp : P = l.filter fun c => !c.done && !c.read
  dn : DoneS D D (fun _ => none) (fun _ => none) log own
  ownA : ∀ i : Nat, i < N → (own i).getD false = true → A i ∈ D ∧ (A i).read = false ∧ (A i).offset = (i : Int)
  penA : ∀ i : Nat, i < N → (own i).getD false = false → A i ∈ P ∧ leastB 0 (A i).bgn D ≤ 2 * (i : Int) + 1 ∧ ∀ v, log i = some v → (A i).value = v
  part : (((List.range' 0 N).filter fun (i : Nat) => !((own i).getD false)).map A ++ P2).Perm P
  sh : ∀ c ∈ D, (c.read = true → c.values.length ≤ N) ∧ (c.read = false → c.offset < (N : Int))
section
variable {l D P : List CallV} {log : Int → Option ByteArray} {own : Int → Option Bool} {N : Nat} {A : Nat → CallV} {P2 : List CallV}
theorem ZeroX.memD (h : ZeroX l D P log own N A P2) {c : CallV} : c ∈ D ↔ c ∈ l ∧ c.done = true := by rw [h.dp.mem_iff, List.mem_filter]
theorem ZeroX.memP (h : ZeroX l D P log own N A P2) {c : CallV} (hc : c ∈ P) : c ∈ l ∧ c.done = false ∧ c.read = false := by
  rw [h.pp, List.mem_filter] at hc
  obtain ⟨h1, h2⟩ := hc
  simp only [Bool.and_eq_true, Bool.not_eq_true'] at h2
  exact ⟨h1, h2⟩
theorem ZeroX.app (h : ZeroX l D P log own N A P2) {i : Nat} (hi : i < N) : (A i).read = false := by
  cases ho : (own (i : Int)).getD false with
  | true => exact (h.ownA i hi ho).2.1
  | false => exact (h.memP (h.penA i hi ho).1).2.2
/-- A place's append that is done has its offset. -/
theorem ZeroX.appDone (h : ZeroX l D P log own N A P2) {i : Nat} (hi : i < N) (hd : (A i).done = true) : A i ∈ D ∧ (A i).offset = (i : Int) := by
  cases ho : (own (i : Int)).getD false with
  | true => exact ⟨(h.ownA i hi ho).1, (h.ownA i hi ho).2.2⟩
  | false =>
    have := (h.memP (h.penA i hi ho).1).2.1
    rw [hd] at this; cases this
theorem ZeroX.low (h : ZeroX l D P log own N A P2) : ∀ (k i : Nat), i + k = N → ∀ y ∈ segs D A k i, y.done = true → y ∈ D ∧ 2 * (i : Int) ≤ rankF y
  | 0, i, hk, y, hy, hd => by
    rw [segs, readsOf] at hy
    obtain ⟨h1, h2⟩ := List.mem_filter.1 hy
    simp only [Bool.and_eq_true, decide_eq_true_eq] at h2
    exact ⟨h1, by unfold rankF; rw [if_pos h2.1]; omega⟩
  | k + 1, i, hk, y, hy, hd => by
    rw [segs] at hy
    rcases List.mem_append.1 hy with hy | hy
    · rw [readsOf] at hy
      obtain ⟨h1, h2⟩ := List.mem_filter.1 hy
      simp only [Bool.and_eq_true, decide_eq_true_eq] at h2
      exact ⟨h1, by unfold rankF; rw [if_pos h2.1]; omega⟩
    rcases List.mem_cons.1 hy with rfl | hy
    · obtain ⟨h1, h2⟩ := h.appDone (i := i) (by omega) hd
      refine ⟨h1, ?_⟩
      unfold rankF
      rw [if_neg (by rw [h.app (i := i) (by omega)]; decide), h2]; omega
    · obtain ⟨h1, h2⟩ := h.low k (i + 1) (by omega) y hy hd
      exact ⟨h1, by omega⟩
theorem ZeroX.early (h : ZeroX l D P log own N A P2) {x y : CallV} {m : Int} (hx : leastB 0 x.bgn D ≤ m) (hy : y ∈ D) (hf : y.fin < x.bgn) : rankF y ≤ m :=
  ((leastB_le x.bgn D 0 m (fun c hc => (h.memD.1 hc).2) h.ds).1 hx).2 y hy (h.memD.1 hy).2 hf
theorem ZeroX.time (h : ZeroX l D P log own N A P2) {c : CallV} (hc : c ∈ D) : c.bgn < c.fin := by
  obtain ⟨h1, h2⟩ := h.memD.1 hc
  have := h.al c h1
  simp only [aloneF, toldF, if_pos h2, Bool.and_eq_true, decide_eq_true_eq] at this
  exact this.1.2.1
theorem ZeroX.ord (h : ZeroX l D P log own N A P2) : ∀ (k i : Nat), i + k = N → (segs D A k i).Pairwise (fun x y => ¬ (y.done = true ∧ y.fin < x.bgn)) := by
  have hreads : ∀ i, (readsOf D i).Pairwise (fun x y => ¬ (y.done = true ∧ y.fin < x.bgn)) := fun i => by
    unfold readsOf
    have h2 := h.ds.filter (fun c => c.read && decide (c.values.length = i))
    refine List.Pairwise.imp_of_mem ?_ h2
    intro x y hx hy hxy hbad
    have hxD := (List.mem_filter.1 hx).1
    have := hxy
    have := h.time hxD
    omega
  intro k
  induction k with
  | zero => intro i _; rw [segs]; exact hreads i
  | succ k ih =>
    intro i hk
    rw [segs]
    have hrd : ∀ x ∈ readsOf D i, x ∈ D ∧ rankF x = 2 * (i : Int) := fun x hx => by
      rw [readsOf] at hx
      obtain ⟨h1, h2⟩ := List.mem_filter.1 hx
      simp only [Bool.and_eq_true, decide_eq_true_eq] at h2
      exact ⟨h1, by unfold rankF; rw [if_pos h2.1]; omega⟩
    have hAi : leastB 0 (A i).bgn D ≤ 2 * (i : Int) + 1 := by
      cases ho : (own (i : Int)).getD false with
      | false => exact (h.penA i (by omega) ho).2.1
      | true =>
        obtain ⟨a1, a2, a3⟩ := h.ownA i (by omega) ho
        have := h.dn.le _ a1
        unfold rankF at this
        rw [if_neg (by rw [a2]; decide), a3] at this
        exact this
    refine List.pairwise_append.2 ⟨hreads i, List.pairwise_cons.2 ⟨fun y hy hbad => ?_, ih (i + 1) (by omega)⟩, fun x hx y hy hbad => ?_⟩
    · obtain ⟨b1, b2⟩ := h.low k (i + 1) (by omega) y hy hbad.1
      have := h.early hAi b1 hbad.2
      omega
    · obtain ⟨c1, c2⟩ := hrd x hx
      have hle := h.dn.le x c1
      rcases List.mem_cons.1 hy with rfl | hy
      · obtain ⟨b1, b2⟩ := h.appDone (i := i) (by omega) hbad.1
        have := h.early hle b1 hbad.2
        have hrk : rankF (A i) = 2 * (i : Int) + 1 := by unfold rankF; rw [if_neg (by rw [h.app (i := i) (by omega)]; decide), b2]
        omega
      · obtain ⟨b1, b2⟩ := h.low k (i + 1) (by omega) y hy hbad.1
        have := h.early hle b1 hbad.2
        omega
/-- The values of the first places. -/
def firsts (A : Nat → CallV) (i : Nat) : List ByteArray := (List.range' 0 i).map fun j => (A j).value
theorem firsts_len (A : Nat → CallV) (i : Nat) : (firsts A i).length = i := by rw [firsts, List.length_map, List.length_range']
theorem firsts_succ (A : Nat → CallV) (i : Nat) : firsts A (i + 1) = firsts A i ++ [(A i).value] := by
  rw [firsts, List.range'_concat, List.map_append]
  simp [firsts]
theorem ZeroX.val (h : ZeroX l D P log own N A P2) {j : Nat} (hj : j < N) {v : ByteArray} (hv : log j = some v) : (A j).value = v := by
  cases ho : (own (j : Int)).getD false with
  | false => exact (h.penA j hj ho).2.2 v hv
  | true =>
    obtain ⟨a1, a2, a3⟩ := h.ownA j hj ho
    have hd := (h.memD.1 a1).2
    have := h.dn.sh _ a1 (j : Int) (A j).value ⟨0, by unfold showsF; rw [if_pos hd, if_neg (by rw [a2]; decide)]; rfl, by unfold showsF; rw [if_pos hd, if_neg (by rw [a2]; decide)]; show (j : Int) = (A j).offset + ((0 : Nat) : Int); omega⟩
    rw [hv] at this
    injection this with this
    exact this.symm
theorem ZeroX.reads (h : ZeroX l D P log own N A P2) {i : Nat} {c : CallV} (hc : c ∈ readsOf D i) : c.read = true ∧ c.values = firsts A i := by
  rw [readsOf] at hc
  obtain ⟨h1, h2⟩ := List.mem_filter.1 hc
  simp only [Bool.and_eq_true, decide_eq_true_eq] at h2
  obtain ⟨h2, h3⟩ := h2
  have hd := (h.memD.1 h1).2
  have hN := (h.sh c h1).1 h2
  refine ⟨h2, List.ext_getElem (by rw [firsts_len, h3]) fun k k1 k2 => ?_⟩
  have hs := h.dn.sh c h1 (k : Int) c.values[k] ⟨k, by unfold showsF; rw [if_pos hd, if_pos h2]; exact List.getElem?_eq_getElem k1, by unfold showsF; rw [if_pos hd, if_pos h2]; show (k : Int) = 0 + (k : Int); omega⟩
  have := h.val (j := k) (by omega) hs
  rw [← this]
  simp [firsts]
theorem run_reads {rs : List CallV} {b : List CallV} {log : List ByteArray} (h : ∀ c ∈ rs, c.read = true ∧ c.values = log) (hb : Run b log) : Run (rs ++ b) log := by
  induction rs with
  | nil => exact hb
  | cons c rs ih =>
    rw [List.cons_append, Run, if_pos (h c (.head _)).1]
    exact ⟨(h c (.head _)).2, ih (fun x hx => h x (.tail _ hx))⟩
theorem ZeroX.run (h : ZeroX l D P log own N A P2) : ∀ (k i : Nat), i + k = N → Run (segs D A k i) (firsts A i)
  | 0, i, hk => by
    rw [segs]
    have := run_reads (b := []) (fun c hc => h.reads (i := i) hc) trivial
    rwa [List.append_nil] at this
  | k + 1, i, hk => by
    rw [segs]
    refine run_reads (fun c hc => h.reads (i := i) hc) ?_
    rw [Run, if_neg (by rw [h.app (i := i) (by omega)]; decide), firsts_len]
    refine ⟨fun hd => (h.appDone (i := i) (by omega) hd).2, ?_⟩
    rw [← firsts_succ]
    exact h.run k (i + 1) (by omega)
theorem ZeroX.whole (h : ZeroX l D P log own N A P2) : (segs D A N 0 ++ (P2 ++ l.filter fun c => !c.done && c.read)).Perm l := by
  have h1 := segs_perm D A N 0
  have e1 : (D.filter fun c => c.read && (decide (0 ≤ c.values.length) && decide (c.values.length ≤ 0 + N))) = D.filter fun c => c.read := by
    refine List.filter_congr fun c hc => ?_
    cases hr : c.read with
    | false => rfl
    | true =>
      have := (h.sh c hc).1 hr
      rw [decide_eq_true (Nat.zero_le _), decide_eq_true (by omega)]; rfl
  rw [e1] at h1
  have h2 := List.filter_append_perm (fun (i : Nat) => (own i).getD false) (List.range' 0 N)
  have hne : (D.filter fun c => !c.read).Pairwise (fun x y => x.offset ≠ y.offset) := h.dn.ne
  have h3 : (((List.range' 0 N).filter fun (i : Nat) => (own i).getD false).map A).Perm (D.filter fun c => !c.read) := by
    have hin : ∀ i ∈ (List.range' 0 N).filter (fun (i : Nat) => (own i).getD false), i < N ∧ (own (i : Int)).getD false = true := fun i hi => by
      obtain ⟨a1, a2⟩ := List.mem_filter.1 hi
      rw [List.mem_range'_1] at a1
      exact ⟨by omega, a2⟩
    refine (List.perm_ext_iff_of_nodup ?_ ?_).2 fun c => ?_
    · have hp : ((List.range' 0 N).filter fun (i : Nat) => (own i).getD false).Pairwise (fun i j => i < j) := (List.pairwise_lt_range' (s := 0) (n := N)).filter _
      refine List.pairwise_map.2 (List.Pairwise.imp_of_mem ?_ hp)
      intro i j hi hj hij e
      obtain ⟨a1, a2⟩ := hin i hi
      obtain ⟨b1, b2⟩ := hin j hj
      have c1 := (h.ownA i a1 a2).2.2
      have c2 := (h.ownA j b1 b2).2.2
      rw [e, c2] at c1
      omega
    · exact hne.imp fun h e => h (by rw [e])
    · constructor
      · intro hc
        obtain ⟨i, hi, rfl⟩ := List.mem_map.1 hc
        obtain ⟨a1, a2⟩ := hin i hi
        obtain ⟨b1, b2, b3⟩ := h.ownA i a1 a2
        exact List.mem_filter.2 ⟨b1, by rw [b2]; rfl⟩
      · intro hc
        obtain ⟨a1, a2⟩ := List.mem_filter.1 hc
        have hr : c.read = false := by simpa using a2
        have hsm := aloneF_small (h.al c (h.memD.1 a1).1)
        have h0 := hsm.o0
        have hlt := (h.sh c a1).2 hr
        have ho : (own ((c.offset.toNat : Nat) : Int)).getD false = true := (h.dn.ow _).2 (.inr ⟨c, a1, hr, by omega⟩)
        obtain ⟨b1, b2, b3⟩ := h.ownA c.offset.toNat (by omega) ho
        have : A c.offset.toNat = c := pair_eq (fun _ _ h e => h e.symm) hne _ (List.mem_filter.2 ⟨b1, by rw [b2]; rfl⟩) c hc (fun hh => hh (by rw [b3]; omega))
        exact List.mem_map.2 ⟨c.offset.toNat, List.mem_filter.2 ⟨by rw [List.mem_range'_1]; omega, ho⟩, this⟩
  have h4 : ((List.range' 0 N).map A ++ P2).Perm ((D.filter fun c => !c.read) ++ P) := by
    have a1 := (h2.symm.map A).append_right P2
    rw [List.map_append] at a1
    refine a1.trans ?_
    rw [List.append_assoc]
    exact (h3.append_right _).trans (h.part.append_left _)
  have h5 : (segs D A N 0 ++ P2).Perm (D ++ P) := by
    refine (h1.append_right P2).trans ?_
    rw [List.append_assoc]
    refine (h4.append_left _).trans ?_
    rw [← List.append_assoc]
    exact (List.filter_append_perm (fun c : CallV => c.read) D).append_right P
  rw [← List.append_assoc]
  refine (h5.append_right _).trans ?_
  rw [List.append_assoc, h.pp]
  have h6 := filter_parts (fun c : CallV => !c.done) (fun c => !c.read) l
  simp only [Bool.not_not] at h6
  refine ((h.dp.append_right _).trans (h6.append_left _)).trans ?_
  exact List.filter_append_perm (fun c : CallV => c.done) l
theorem ZeroX.lin (h : ZeroX l D P log own N A P2) : Lin l := by
  refine ⟨segs D A N 0, P2 ++ l.filter fun c => !c.done && c.read, h.whole, fun c hc => ?_, fun c hc hr => ?_, h.run N 0 (by omega), h.ord N 0 (by omega)⟩
  · rcases List.mem_append.1 hc with hc | hc
    · have : c ∈ P := h.part.mem_iff.1 (List.mem_append_right _ hc)
      exact (h.memP this).2.1
    · have := (List.mem_filter.1 hc).2
      simp only [Bool.and_eq_true, Bool.not_eq_true'] at this
      exact this.1
  · have := (segs_perm D A N 0).mem_iff.1 hc
    rcases List.mem_append.1 this with hc | hc
    · exact (h.memD.1 (List.mem_filter.1 hc).1).2
    · obtain ⟨i, hi, rfl⟩ := List.mem_map.1 hc
      rw [List.mem_range'_1] at hi
      rw [h.app (i := i) (by omega)] at hr
      cases hr
end
end Go.Proofs.Ytamiglolpchplaa.Hand
namespace Go.Proofs.Ytamiglolpchplaa.Hand
set_option linter.unusedVariables false
set_option linter.unusedSimpArgs false
theorem shownL_ge : ∀ (l : List CallV) (n : Int), n ≤ shownL n l ∧ ∀ c ∈ l, 0 < (showsF c).2.length → (showsF c).1 + ((showsF c).2.length : Int) ≤ shownL n l
  | [], n => ⟨Int.le_refl n, fun c hc => by simp at hc⟩
  | x :: l, n => by
    obtain ⟨h1, h2⟩ := shownL_ge l (if 0 < (showsF x).2.length then max n ((showsF x).1 + ((showsF x).2.length : Int)) else n)
    rw [shownL]
    refine ⟨?_, fun c hc hp => ?_⟩
    · split at h1 <;> split <;> omega
    · rcases List.mem_cons.1 hc with rfl | hc
      · rw [if_pos hp] at h1 ⊢; omega
      · exact h2 c hc hp
theorem lin_of_zero {l D P : List CallV} (hr : rightF l = true) (hd : D.Perm (l.filter fun c => c.done)) (hs : D.Pairwise (fun x y => x.fin ≤ y.fin)) (hp : P = l.filter fun c => !c.done && !c.read) (h : checkR D P (shownF l).toNat = 0) : Lin l := by
  have hal := rightF_alone hr
  rw [checkR] at h
  split at h
  · cases h
  rename_i log own hdone
  split at h
  · cases h
  rename_i P1 hk
  split at h
  · cases h
  rename_i P2 hu
  have hS := doneF_some D D _ _ _ _ hdone
  obtain ⟨N, hN⟩ : ∃ N, N = (shownF l).toNat := ⟨_, rfl⟩
  rw [← hN] at hk hu
  rw [placesF_seq] at hk hu
  obtain ⟨Uk, hUk⟩ : ∃ U, U = (List.range' 0 N).filter (waits true log own) := ⟨_, rfl⟩
  obtain ⟨Uu, hUu⟩ : ∃ U, U = (List.range' 0 N).filter (waits false log own) := ⟨_, rfl⟩
  rw [← hUk] at hk
  rw [← hUu] at hu
  obtain ⟨Mk, s1, p1⟩ := seqTake_sat hk
  obtain ⟨Mu, s2, p2⟩ := seqTake_sat hu
  have n1 : Uk.Nodup := by rw [hUk]; exact (List.nodup_range' (s := 0) (n := N)).filter _
  have n2 : Uu.Nodup := by rw [hUu]; exact (List.nodup_range' (s := 0) (n := N)).filter _
  obtain ⟨fk, hfk⟩ := map_of_nodup Uk Mk n1 (by rw [sat_len s1, List.length_map])
  obtain ⟨fu, hfu⟩ := map_of_nodup Uu Mu n2 (by rw [sat_len s2, List.length_map])
  have hin : ∀ known i, i ∈ (List.range' 0 N).filter (waits known log own) ↔ i < N ∧ (own (i : Int)).getD false = false ∧ (log (i : Int)).isSome = known := fun known i => by
    rw [List.mem_filter, List.mem_range'_1]
    simp only [waits, Bool.and_eq_true, Bool.not_eq_true', beq_iff_eq]
    exact ⟨fun h => ⟨by omega, h.2⟩, fun h => ⟨by omega, h.2⟩⟩
  have hown : ∀ i : Nat, i < N → (own (i : Int)).getD false = true → ∃ c, c ∈ D ∧ c.read = false ∧ c.offset = (i : Int) := fun i _ ho => by
    rcases (hS.ow (i : Int)).1 ho with h | ⟨c, h⟩
    · cases h
    · exact ⟨c, h⟩
  have hch : ∃ g : Nat → CallV, ∀ i : Nat, i < N → (own (i : Int)).getD false = true → g i ∈ D ∧ (g i).read = false ∧ (g i).offset = (i : Int) := by
    refine ⟨fun i => @Classical.epsilon CallV ⟨default⟩ (fun c => c ∈ D ∧ c.read = false ∧ c.offset = (i : Int)), fun i hi ho => ?_⟩
    exact @Classical.epsilon_spec CallV (fun c => c ∈ D ∧ c.read = false ∧ c.offset = (i : Int)) (hown i hi ho)
  obtain ⟨g, hg⟩ := hch
  obtain ⟨A, hA⟩ : ∃ A : Nat → CallV, A = fun (i : Nat) => if (own (i : Int)).getD false = true then g i else if (log (i : Int)).isSome = true then fk i else fu i := ⟨_, rfl⟩
  have hAk : Uk.map A = Mk := by
    rw [← hfk]
    refine List.map_congr_left fun i hi => ?_
    rw [hUk] at hi
    obtain ⟨a1, a2, a3⟩ := (hin true i).1 hi
    rw [hA]; dsimp only
    rw [if_neg (by rw [a2]; decide), if_pos a3]
  have hAu : Uu.map A = Mu := by
    rw [← hfu]
    refine List.map_congr_left fun i hi => ?_
    rw [hUu] at hi
    obtain ⟨a1, a2, a3⟩ := (hin false i).1 hi
    rw [hA]; dsimp only
    rw [if_neg (by rw [a2]; decide), if_neg (by rw [a3]; decide)]
  rw [← hAk] at s1 p1
  rw [← hAu] at s2 p2
  have t1 := sat_of_map (U := Uk) (q := fun (j : Nat) => fitF true ((log j).getD ⟨#[]⟩) j D) s1
  have t2 := sat_of_map (U := Uu) (q := fun (j : Nat) => fitF false ((log j).getD ⟨#[]⟩) j D) s2
  have hshown : shownF l = shownL 0 l := if_pos hr
  have hge := shownL_ge l 0
  refine ZeroX.lin (D := D) (P := P) (log := log) (own := own) (N := N) (A := A) (P2 := P2) ⟨hal, hd, hs, hp, hS, fun i hi ho => ?_, fun i hi ho => ?_, ?_, fun c hc => ?_⟩
  · have : A i = g i := by rw [hA]; exact if_pos ho
    rw [this]; exact hg i hi ho
  · cases hl : (log (i : Int)).isSome with
    | true =>
      have hm : i ∈ Uk := by rw [hUk]; exact (hin true i).2 ⟨hi, ho, hl⟩
      have hf := t1 i hm
      simp only [fitF, Bool.not_true, Bool.false_or, Bool.and_eq_true, decide_eq_true_eq] at hf
      refine ⟨p1.mem_iff.1 (List.mem_append_left _ (List.mem_map_of_mem hm)), hf.2, fun v hv => ?_⟩
      rw [hf.1, hv]; rfl
    | false =>
      have hm : i ∈ Uu := by rw [hUu]; exact (hin false i).2 ⟨hi, ho, hl⟩
      have hf := t2 i hm
      simp only [fitF, Bool.not_false, Bool.true_or, Bool.true_and, decide_eq_true_eq] at hf
      refine ⟨p1.mem_iff.1 (List.mem_append_right _ (p2.mem_iff.1 (List.mem_append_left _ (List.mem_map_of_mem hm)))), hf, fun v hv => ?_⟩
      rw [hv] at hl; cases hl
  · have q1 : (Uk ++ Uu).Perm ((List.range' 0 N).filter fun (i : Nat) => !((own (i : Int)).getD false)) := by
      have := filter_parts (fun i : Nat => !((own (i : Int)).getD false)) (fun i : Nat => (log (i : Int)).isSome) (List.range' 0 N)
      rw [hUk, hUu]
      refine List.Perm.trans (List.Perm.of_eq ?_) this
      congr 1
      · exact List.filter_congr fun i _ => by unfold waits; cases (log (i : Int)).isSome <;> rfl
      · exact List.filter_congr fun i _ => by unfold waits; cases (log (i : Int)).isSome <;> rfl
    have q2 := (q1.symm.map A).append_right P2
    rw [List.map_append, List.append_assoc] at q2
    exact q2.trans ((p2.append_left _).trans p1)
  · obtain ⟨a1, a2⟩ := List.mem_filter.1 (hd.mem_iff.1 hc)
    have hd2 : c.done = true := by simpa using a2
    have := hge.2 c a1
    unfold showsF at this
    rw [if_pos hd2] at this
    constructor
    · intro hrd
      rw [if_pos hrd] at this
      dsimp only at this
      rcases Nat.eq_zero_or_pos c.values.length with h0 | h0
      · omega
      · have := this h0; omega
    · intro hrd
      rw [if_neg (by rw [hrd]; decide)] at this
      have := this (by simp)
      have hsm := aloneF_small (hal c a1)
      have h0 := hsm.o0
      simp only [List.length_singleton] at this
      omega
theorem checkR_or (D P : List CallV) (n : Nat) : checkR D P n = 0 ∨ checkR D P n = 51 := by
  unfold checkR
  split
  · exact .inr rfl
  split
  · exact .inr rfl
  split
  · exact .inr rfl
  · exact .inl rfl
/-- P2004. -/
theorem checkV_iff {l : List CallV} {r : Int} (h : CheckV l r) : (rightF l = false ∧ r = 1) ∨ (rightF l = true ∧ Lin l ∧ r = 0) ∨ (rightF l = true ∧ ¬ Lin l ∧ r = 51) := by
  rcases h with h | ⟨hr, D, d1, d2, e⟩
  · exact .inl h
  · right
    rcases checkR_or D (l.filter fun c => !c.done && !c.read) (shownF l).toNat with h0 | h0
    · exact .inl ⟨hr, lin_of_zero hr d1 d2 rfl h0, e.trans h0⟩
    · refine .inr ⟨hr, fun hl => ?_, e.trans h0⟩
      have := check_of_lin hr hl (.inr ⟨hr, D, d1, d2, e⟩)
      rw [this] at e
      rw [h0] at e
      cases e
end Go.Proofs.Ytamiglolpchplaa.Hand
namespace Go.Proofs.Ytamiglolpchplaa.Hand
set_option linter.unusedVariables false
set_option linter.unusedSimpArgs false
theorem rightL_mk : ∀ (l : List CallV) (met : List ByteArray), (∀ c ∈ l, aloneF c = true) → (l.filter fun c => !c.read).Pairwise (fun x y => x.value ≠ y.value) → (∀ c ∈ l, c.read = false → c.value ∉ met) → rightL met l = true
  | [], met, _, _, _ => rfl
  | x :: l, met, h1, h2, h3 => by
    cases hr : x.read with
    | true =>
      rw [rightL_read (h1 x (.head _)) hr]
      rw [List.filter_cons, hr] at h2
      exact rightL_mk l met (fun c hc => h1 c (.tail _ hc)) (by simpa using h2) (fun c hc => h3 c (.tail _ hc))
    | false =>
      rw [rightL_app (h1 x (.head _)) hr (h3 x (.head _) hr)]
      rw [List.filter_cons, hr] at h2
      simp only [Bool.not_false, if_true] at h2
      obtain ⟨a1, a2⟩ := List.pairwise_cons.1 h2
      refine rightL_mk l _ (fun c hc => h1 c (.tail _ hc)) a2 (fun c hc hcr hm => ?_)
      rcases List.mem_cons.1 hm with e | hm
      · exact a1 c (List.mem_filter.2 ⟨hc, by rw [hcr]; rfl⟩) e.symm
      · exact h3 c (.tail _ hc) hcr hm
theorem rightF_iff (l : List CallV) : rightF l = true ↔ (∀ c ∈ l, aloneF c = true) ∧ (l.filter fun c => !c.read).Pairwise (fun x y => x.value ≠ y.value) ∧ l.length ≤ 1000 := by
  constructor
  · intro h
    have h' := h
    rw [rightF, Bool.and_eq_true] at h'
    exact ⟨rightF_alone h, (rightL_ne l [] h'.1).1, rightF_len h⟩
  · rintro ⟨h1, h2, h3⟩
    rw [rightF, rightL_mk l [] h1 h2 (fun c _ _ h => by simp at h), decide_eq_true h3]; rfl
theorem right_perm {l l' : List CallV} (h : l.Perm l') (hr : rightF l = true) : rightF l' = true := by
  obtain ⟨h1, h2, h3⟩ := (rightF_iff l).1 hr
  exact (rightF_iff l').2 ⟨fun c hc => h1 c (h.mem_iff.2 hc), ((h.filter _).pairwise_iff (fun h e => h e.symm)).1 h2, by rw [← h.length_eq]; exact h3⟩
/-- P2006. -/
theorem less_ok {l l' : List CallV} {c : CallV} (h : l.Perm (c :: l')) (hc : c.read = true) (hr : rightF l = true) (hl : Lin l) : rightF l' = true ∧ Lin l' := by
  constructor
  · obtain ⟨h1, h2, h3⟩ := (rightF_iff _).1 (right_perm h hr)
    rw [List.filter_cons, hc] at h2
    exact (rightF_iff l').2 ⟨fun x hx => h1 x (.tail _ hx), by simpa using h2, by rw [List.length_cons] at h3; omega⟩
  · obtain ⟨s, rest, p, a1, a2, a3, a4⟩ := hl
    have hp := p.trans h
    have hm : c ∈ s ++ rest := hp.mem_iff.2 (.head _)
    rcases List.mem_append.1 hm with hm | hm
    · obtain ⟨s1, s2, rfl⟩ := List.append_of_mem hm
      refine ⟨s1 ++ s2, rest, List.Perm.cons_inv (a := c) (.trans ?_ hp), a1, fun x hx => a2 x ?_, ?_, ?_⟩
      · rw [List.append_assoc, List.append_assoc, List.cons_append]
        exact List.perm_middle.symm
      · rcases List.mem_append.1 hx with hx | hx
        · exact List.mem_append_left _ hx
        · exact List.mem_append_right _ (.tail _ hx)
      · obtain ⟨b1, b2⟩ := (run_append s1 (c :: s2) []).1 a3
        rw [Run, if_pos hc] at b2
        exact (run_append s1 s2 []).2 ⟨b1, b2.2⟩
      · exact a4.sublist ((List.sublist_cons_self c s2).append_left s1)
    · obtain ⟨r1, r2, rfl⟩ := List.append_of_mem hm
      refine ⟨s, r1 ++ r2, List.Perm.cons_inv (a := c) (.trans ?_ hp), fun x hx => a1 x ?_, a2, a3, a4⟩
      · rw [← List.append_assoc, ← List.append_assoc]
        exact List.perm_middle.symm
      · rcases List.mem_append.1 hx with hx | hx
        · exact List.mem_append_left _ hx
        · exact List.mem_append_right _ (.tail _ hx)
theorem at_perm {α : Type} (l : List α) (k : Nat) (h : k < l.length) : l.Perm (l[k] :: (l.take k ++ l.drop (k + 1))) := by
  have e : l = l.take k ++ l[k] :: l.drop (k + 1) := by
    rw [← List.drop_eq_getElem_cons h, List.take_append_drop]
  have := List.perm_middle (a := l[k]) (l₁ := l.take k) (l₂ := l.drop (k + 1))
  rw [← e] at this
  exact this
end Go.Proofs.Ytamiglolpchplaa.Hand
