/- What was sent and what may still come: plain facts. -/
import Derived.Test.YtckeahjlfopaaaaHN10
namespace Go.Proofs.Ytckeahjlfopaaaa.Hand
open Go.RowKit Go.Proofs.Ytckeahjlfopaaaa Go.Proofs.YtckeahjlfopaaaaW.PrintWords
set_option linter.unusedSimpArgs false
def act (al : List Sent) : List (Int × ByteArray) := (al.filter (fun s => s.n != 0)).map (fun s => (s.dest, s.b))
def lat (la : List (Int × List Int)) : List (Int × ByteArray) := la.map (fun m => (m.1, strOfNums m.2))
structure Inv (al : List Sent) (la : List (Int × List Int)) : Prop where
  perm : (act al).Perm (lat la)
  flag : ∀ s ∈ al, s.n = 0 ∨ s.n = 1
theorem act_append (a b : List Sent) : act (a ++ b) = act a ++ act b := by simp [act]
theorem act_cons (s : Sent) (b : List Sent) : act (s :: b) = (if s.n = 0 then [] else [(s.dest, s.b)]) ++ act b := by
  unfold act
  by_cases h : s.n = 0
  · simp [List.filter_cons, h]
  · simp [List.filter_cons, h]
theorem Inv.nil : Inv [] [] := ⟨List.Perm.refl _, fun s hs => by cases hs⟩
theorem Inv.add {al : List Sent} {la : List (Int × List Int)} (h : Inv al la) (m : Int × List Int) : Inv (al ++ [⟨m.1, 1, strOfNums m.2⟩]) (la ++ [m]) := by
  refine ⟨?_, fun s hs => ?_⟩
  · rw [act_append]
    have : lat (la ++ [m]) = lat la ++ [(m.1, strOfNums m.2)] := by simp [lat]
    rw [this]
    exact h.perm.append (List.Perm.refl _)
  · rcases List.mem_append.1 hs with hs | hs
    · exact h.flag s hs
    · rw [List.mem_singleton] at hs; subst hs; exact .inr rfl
theorem Inv.len {al : List Sent} {la : List (Int × List Int)} (h : Inv al la) : (act al).length = la.length := by
  rw [h.perm.length_eq]; simp [lat]
theorem act_split (al : List Sent) (q : Nat) (hq : q < al.length) : act al = act (al.take q) ++ ((if al[q].n = 0 then [] else [(al[q].dest, al[q].b)]) ++ act (al.drop (q + 1))) := by
  rw [← act_cons, ← List.drop_eq_getElem_cons hq, ← act_append, List.take_append_drop]
theorem act_take (al : List Sent) (q : Nat) (hq : q < al.length) : (act (al.take (q + 1))).length = (act (al.take q)).length + (if al[q].n = 0 then 0 else 1) := by
  rw [List.take_succ_eq_append_getElem hq, act_append, List.length_append]
  congr 1
  unfold act
  by_cases h : al[q].n = 0 <;> simp [h]
theorem act_lt (al : List Sent) (q : Nat) (hq : q < al.length) (hn : al[q].n ≠ 0) : (act (al.take q)).length < (act al).length := by
  rw [act_split al q hq, if_neg hn]; simp
/-- Does it match a message? -/
def mat (s : Sent) (m : Int × List Int) : Prop := s.dest = m.1 ∧ s.b = strOfNums m.2 ∧ s.n ≠ 0
theorem Inv.find {al : List Sent} {la : List (Int × List Int)} (h : Inv al la) (k : Nat) (hk : k < la.length) : ∃ q, ∃ hq : q < al.length, mat al[q] la[k] := by
  have h1 : (la[k].1, strOfNums la[k].2) ∈ lat la := List.mem_map.2 ⟨la[k], List.getElem_mem hk, rfl⟩
  have h2 := h.perm.mem_iff.2 h1
  unfold act at h2
  obtain ⟨s, hs, he⟩ := List.mem_map.1 h2
  rw [List.mem_filter] at hs
  obtain ⟨q, hq, rfl⟩ := List.mem_iff_getElem.1 hs.1
  refine ⟨q, hq, ?_⟩
  injection he with e1 e2
  exact ⟨e1, e2, by simpa using hs.2⟩
theorem Inv.take {al : List Sent} {la : List (Int × List Int)} (h : Inv al la) (k : Nat) (hk : k < la.length) (q : Nat) (hq : q < al.length) (hm : mat al[q] la[k]) : Inv (al.set q ⟨al[q].dest, 0, al[q].b⟩) (la.eraseIdx k) := by
  refine ⟨?_, fun s hs => ?_⟩
  · have e1 : act (al.set q ⟨al[q].dest, 0, al[q].b⟩) = act (al.take q) ++ act (al.drop (q + 1)) := by
      rw [List.set_eq_take_append_cons_drop, if_pos hq, act_append, act_cons, if_pos rfl]; rfl
    have e2 : act al = act (al.take q) ++ (la[k].1, strOfNums la[k].2) :: act (al.drop (q + 1)) := by
      rw [act_split al q hq, if_neg hm.2.2, hm.1, hm.2.1]; rfl
    have e3 : lat (la.eraseIdx k) = lat (la.take k) ++ lat (la.drop (k + 1)) := by
      rw [List.eraseIdx_eq_take_drop_succ]; simp [lat]
    have e4 : lat la = lat (la.take k) ++ (la[k].1, strOfNums la[k].2) :: lat (la.drop (k + 1)) := by
      have h0 : la = la.take k ++ la[k] :: la.drop (k + 1) := by rw [← List.drop_eq_getElem_cons hk, List.take_append_drop]
      have h1 : lat la = lat (la.take k ++ la[k] :: la.drop (k + 1)) := congrArg lat h0
      rw [h1]; simp only [lat, List.map_append, List.map_cons]
    rw [e1, e3]
    have hp := h.perm
    rw [e2, e4] at hp
    exact ((List.perm_middle.symm.trans hp).trans List.perm_middle).cons_inv
  · rcases List.mem_or_eq_of_mem_set hs with hs | hs
    · exact h.flag s hs
    · subst hs; exact .inl rfl
theorem set_get (al : List Sent) (q : Nat) (hq : q < al.length) : al.getD q ⟨0, 0, ⟨#[]⟩⟩ = al[q] := by rw [List.getD_eq_getElem?_getD, List.getElem?_eq_getElem hq]; rfl
end Go.Proofs.Ytckeahjlfopaaaa.Hand
