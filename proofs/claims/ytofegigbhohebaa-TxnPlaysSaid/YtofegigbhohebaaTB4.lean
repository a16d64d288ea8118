/- What the book does with events, in plain words. -/
import Derived.Test.YtofegigbhohebaaTB3
namespace Go.Proofs.Ytofegigbhohebaa.Hand
open Go.RowKit Go.Proofs.Ytofegigbhohebaa Go.Proofs.YtofegigbhohebaaW.PrintWords
set_option linter.unusedVariables false
set_option linter.unusedSimpArgs false
def nmsOf (ps : List ProdV) : List ByteArray := ps.map ProdV.name
def endsP (p : ProdV) : Bool := decide (p.status = 2) || decide (p.status = 3)
def overP (p : ProdV) (now : Int) : Bool := decide (p.status = 1) && decide (p.since + p.timeout ≤ now)
/-- It ends, with a status, or at once. -/
def endP (p : ProdV) (st : Int) : ProdV := { p with status := if p.places.length = 0 then 0 else st }
def prodAt (ps : List ProdV) (k : Int) : ProdV := ps.getD k.toNat prod0
def grantF (ps : List ProdV) (x : EvV) : Int :=
  if x.name ∈ nmsOf ps then (if endsP (prodAt ps (idxV (nmsOf ps) x.name)) = true then 54 else if (prodAt ps (idxV (nmsOf ps) x.name)).epoch = 2147483647 then 53 else 0)
  else if 1000 ≤ ps.length then 7 else 0
/-- What becomes of an event of a producer's. -/
def doneF (p : ProdV) (x : EvV) : Bool × Int :=
  if p.epoch ≠ x.epoch then (false, 50)
  else if x.kind = 4 then (!endsP p || !decide (x.place ∈ p.places), 0)
  else if x.kind = 2 then (if endsP p = true then (false, 54) else if x.place ∈ p.places then (true, 0) else if 100 ≤ p.places.length then (false, 7) else (false, 0))
  else if p.status = 1 then (false, 0)
  else if p.status = 0 then (true, 0)
  else if x.yes = decide (p.status = 2) then (true, 0)
  else (false, 54)
/-- What becomes of an event. -/
def decideF (ps : List ProdV) (x : EvV) : Bool × Int :=
  if rightE x = true then
    (if x.kind = 1 then (false, grantF ps x)
     else if x.kind = 5 then (!ps.any (fun p => overP p x.now), 0)
     else if (ps.length : Int) ≤ x.producer then (false, 3)
     else doneF (prodAt ps x.producer) x)
  else (false, 1)
def insertF (l : List Int) (x : Int) : List Int := l.take (l.countP (· < x)) ++ [x] ++ l.drop (l.countP (· < x))
def beginP (p : ProdV) (x : EvV) : ProdV := if p.status = 1 then endP { p with epoch := p.epoch + 1, timeout := x.timeout } 3 else { p with epoch := p.epoch + 1, timeout := x.timeout }
def addP (p : ProdV) (x : EvV) : ProdV := if p.status = 0 then { p with status := 1, since := x.now, places := insertF p.places x.place } else { p with places := insertF p.places x.place }
def markP (p : ProdV) (x : EvV) : ProdV := endP { p with places := p.places.filter fun n => !decide (n = x.place) } p.status
def expP (p : ProdV) (now : Int) : ProdV := if overP p now = true then endP { p with epoch := min (p.epoch + 1) 2147483647 } 3 else p
/-- What an event does. -/
def doesF (ps : List ProdV) (x : EvV) : List ProdV :=
  if x.kind = 1 then (if x.name ∈ nmsOf ps then ps.set (idxV (nmsOf ps) x.name).toNat (beginP (prodAt ps (idxV (nmsOf ps) x.name)) x) else ps ++ [⟨x.name, x.timeout, 0, 0, 0, []⟩])
  else if x.kind = 2 then ps.set x.producer.toNat (addP (prodAt ps x.producer) x)
  else if x.kind = 3 then ps.set x.producer.toNat (endP (prodAt ps x.producer) (if x.yes = true then 2 else 3))
  else if x.kind = 4 then ps.set x.producer.toNat (markP (prodAt ps x.producer) x)
  else ps.map fun p => expP p x.now
/-- The book behind an event. -/
def applyF (ps : List ProdV) (x : EvV) : List ProdV := if (decideF ps x).2 ≠ 0 ∨ (decideF ps x).1 = true then ps else doesF ps x
/-- A producer that may be. -/
structure GoodP (p : ProdV) : Prop where
  t0 : 0 ≤ p.timeout
  t1 : p.timeout ≤ 3600
  e0 : 0 ≤ p.epoch
  e1 : p.epoch ≤ 2147483647
  s0 : 0 ≤ p.since
  s1 : p.since < 281474976710656
  st : p.status = 0 ∨ p.status = 1 ∨ p.status = 2 ∨ p.status = 3
  srt : p.places.Pairwise (· < ·)
  len : p.places.length ≤ 100
structure Good (ps : List ProdV) : Prop where
  len : ps.length ≤ 1000
  nd : (nmsOf ps).Nodup
  each : ∀ p ∈ ps, GoodP p
theorem insertF_lt {a x : Int} {t : List Int} (h : a < x) : insertF (a :: t) x = a :: insertF t x := by
  unfold insertF
  rw [List.countP_cons_of_pos (by simpa using h)]
  simp
theorem insertF_ge {a x : Int} {t : List Int} (h : ¬ a < x) (hs : (a :: t).Pairwise (· < ·)) : insertF (a :: t) x = x :: a :: t := by
  have h0 : (a :: t).countP (· < x) = 0 := by
    rw [List.countP_eq_zero]
    intro b hb
    rcases List.mem_cons.1 hb with rfl | hb
    · simpa using h
    · have := (List.pairwise_cons.1 hs).1 b hb
      simp; omega
  unfold insertF
  rw [h0]
  rfl
theorem insertF_mem {x y : Int} : ∀ {l : List Int}, l.Pairwise (· < ·) → (y ∈ insertF l x ↔ y = x ∨ y ∈ l)
  | [], _ => by simp [insertF]
  | a :: t, hs => by
    by_cases h : a < x
    · rw [insertF_lt h, List.mem_cons, insertF_mem (List.pairwise_cons.1 hs).2, List.mem_cons]
      constructor <;> rintro (h | h | h) <;> simp [h]
    · rw [insertF_ge h hs]; simp
theorem insertF_sorted {x : Int} : ∀ {l : List Int}, l.Pairwise (· < ·) → x ∉ l → (insertF l x).Pairwise (· < ·)
  | [], _, _ => by simp [insertF]
  | a :: t, hs, hx => by
    have hs' := List.pairwise_cons.1 hs
    by_cases h : a < x
    · rw [insertF_lt h, List.pairwise_cons]
      refine ⟨fun b hb => ?_, insertF_sorted hs'.2 (fun h => hx (List.mem_cons_of_mem _ h))⟩
      rcases (insertF_mem hs'.2).1 hb with rfl | hb
      · exact h
      · exact hs'.1 b hb
    · rw [insertF_ge h hs, List.pairwise_cons]
      have hax : a ≠ x := fun e => hx (by rw [e]; exact List.mem_cons_self)
      refine ⟨fun b hb => ?_, hs⟩
      rcases List.mem_cons.1 hb with rfl | hb
      · omega
      · have := hs'.1 b hb; omega
theorem insertF_len (l : List Int) (x : Int) : (insertF l x).length = l.length + 1 := by
  have h := List.countP_le_length (p := fun y => decide (y < x)) (l := l)
  unfold insertF
  simp only [List.length_append, List.length_take, List.length_drop, List.length_singleton]
  omega
theorem GoodP.end_ {p : ProdV} (h : GoodP p) {st : Int} (hs : st = 0 ∨ st = 1 ∨ st = 2 ∨ st = 3) : GoodP (endP p st) := by
  refine ⟨h.t0, h.t1, h.e0, h.e1, h.s0, h.s1, ?_, h.srt, h.len⟩
  have e : (endP p st).status = if p.places.length = 0 then 0 else st := rfl
  rw [e]
  split
  · exact .inl rfl
  · exact hs
theorem inE_iff {n b : Int} : inE n b = true ↔ 0 ≤ n ∧ n < b := by simp [inE]
theorem right_in {x : EvV} (h : rightE x = true) : (0 ≤ x.producer ∧ x.producer < 281474976710656) ∧ (0 ≤ x.epoch ∧ x.epoch < 2147483648) ∧ (0 ≤ x.place ∧ x.place < 281474976710656) ∧ (0 ≤ x.timeout ∧ x.timeout < 3601) ∧ (0 ≤ x.now ∧ x.now < 281474976710656) := by
  unfold rightE at h
  simp only [Bool.and_eq_true, inE_iff] at h
  exact ⟨h.1.1.1.1.1, h.1.1.1.1.2, h.1.1.1.2, h.1.1.2, h.1.2⟩
theorem Good.at_ {ps : List ProdV} (h : Good ps) {i : Nat} (hi : i < ps.length) : GoodP (ps.getD i prod0) := by
  rw [List.getD_eq_getElem?_getD, List.getElem?_eq_getElem hi]
  show GoodP ps[i]
  exact h.each _ (List.getElem_mem hi)
theorem Good.set_ {ps : List ProdV} (h : Good ps) {i : Nat} (hi : i < ps.length) {p : ProdV} (hn : p.name = (ps.getD i prod0).name) (hp : GoodP p) : Good (ps.set i p) := by
  refine ⟨by rw [List.length_set]; exact h.len, ?_, fun q hq => ?_⟩
  · have : nmsOf (ps.set i p) = nmsOf ps := by
      unfold nmsOf
      rw [List.map_set, hn]
      refine List.ext_getElem? fun j => ?_
      rw [List.getElem?_set]
      split
      · rename_i e
        subst e
        rw [List.length_map, if_pos hi, List.getElem?_map, List.getD_eq_getElem?_getD, List.getElem?_eq_getElem hi]
        rfl
      · rfl
    rw [this]; exact h.nd
  · rcases List.mem_or_eq_of_mem_set hq with hq | rfl
    · exact h.each q hq
    · exact hp
theorem idx_lt {ps : List ProdV} {s : ByteArray} (h : s ∈ nmsOf ps) : (idxV (nmsOf ps) s).toNat < ps.length ∧ idxV (nmsOf ps) s = ((nmsOf ps).idxOf s : Int) := by
  have e : idxV (nmsOf ps) s = ((nmsOf ps).idxOf s : Int) := if_pos h
  rw [e]
  have := List.idxOf_lt_length_of_mem h
  unfold nmsOf at this ⊢
  rw [List.length_map] at this
  exact ⟨by simpa using this, rfl⟩
/-- A book stays one that may be. -/
theorem Good.apply {ps : List ProdV} (h : Good ps) (x : EvV) : Good (applyF ps x) := by
  unfold applyF
  split
  · exact h
  rename_i hd
  have hd2 : (decideF ps x).2 = 0 := Classical.byContradiction fun e => hd (.inl e)
  have hd1 : (decideF ps x).1 = false := by
    cases e : (decideF ps x).1 with
    | false => rfl
    | true => exact absurd (.inr e) hd
  clear hd
  unfold decideF at hd1 hd2
  by_cases hr : rightE x = true
  rotate_left
  · rw [if_neg hr] at hd2; exact absurd hd2 (by decide)
  rw [if_pos hr] at hd1 hd2
  obtain ⟨hpr, hep, hpl, hti, hno⟩ := right_in hr
  unfold doesF
  by_cases h1 : x.kind = 1
  · rw [if_pos h1] at hd2 ⊢
    unfold grantF at hd2
    by_cases hm : x.name ∈ nmsOf ps
    · rw [if_pos hm] at hd2 ⊢
      obtain ⟨hlt, -⟩ := idx_lt hm
      have hg := h.at_ hlt
      have hne : (prodAt ps (idxV (nmsOf ps) x.name)).epoch ≠ 2147483647 := by
        intro e
        dsimp only at hd2
        rw [e] at hd2
        revert hd2
        split <;> decide
      have he1 := hg.e1
      have hne' : (ps.getD (idxV (nmsOf ps) x.name).toNat prod0).epoch ≠ 2147483647 := hne
      have hg2 : GoodP { ps.getD (idxV (nmsOf ps) x.name).toNat prod0 with epoch := (ps.getD (idxV (nmsOf ps) x.name).toNat prod0).epoch + 1, timeout := x.timeout } :=
        ⟨hti.1, by show x.timeout ≤ 3600; omega, by show 0 ≤ _ + 1; have := hg.e0; omega, by show _ + 1 ≤ _; omega, hg.s0, hg.s1, hg.st, hg.srt, hg.len⟩
      refine h.set_ hlt ?_ ?_
      · show (beginP _ _).name = _
        unfold beginP; split <;> rfl
      · show GoodP (beginP _ _)
        unfold beginP
        split
        · exact hg2.end_ (by omega)
        · exact hg2
    · rw [if_neg hm] at hd2 ⊢
      have hl : ps.length < 1000 := by
        dsimp only at hd2
        split at hd2
        · cases hd2
        · omega
      refine ⟨by rw [List.length_append, List.length_singleton]; omega, ?_, fun q hq => ?_⟩
      · unfold nmsOf at hm ⊢
        rw [List.map_append, List.nodup_append]
        refine ⟨h.nd, by simp, fun a ha b hb => ?_⟩
        simp only [List.map_cons, List.map_nil, List.mem_singleton] at hb
        subst hb
        exact fun e => hm (e ▸ ha)
      · rcases List.mem_append.1 hq with hq | hq
        · exact h.each q hq
        · rw [List.mem_singleton] at hq
          subst hq
          exact ⟨hti.1, by show x.timeout ≤ 3600; omega, by show (0 : Int) ≤ 0; decide, by show (0 : Int) ≤ 2147483647; decide, by show (0 : Int) ≤ 0; decide, by show (0 : Int) < 281474976710656; decide, .inl rfl, List.Pairwise.nil, Nat.zero_le _⟩
  rw [if_neg h1] at hd1 hd2 ⊢
  by_cases h5 : x.kind = 5
  · rw [if_neg (by omega), if_neg (by omega), if_neg (by omega)]
    refine ⟨by rw [List.length_map]; exact h.len, ?_, fun q hq => ?_⟩
    · have : nmsOf (ps.map fun p => expP p x.now) = nmsOf ps := by
        unfold nmsOf
        rw [List.map_map]
        refine List.map_congr_left fun p _ => ?_
        show (expP p x.now).name = p.name
        unfold expP; split <;> rfl
      rw [this]; exact h.nd
    · obtain ⟨p, hp, rfl⟩ := List.mem_map.1 hq
      have hg := h.each p hp
      unfold expP
      split
      · refine GoodP.end_ (p := { p with epoch := min (p.epoch + 1) 2147483647 }) ⟨hg.t0, hg.t1, ?_, ?_, hg.s0, hg.s1, hg.st, hg.srt, hg.len⟩ (.inr (.inr (.inr rfl)))
        · show 0 ≤ min _ _; have := hg.e0; omega
        · show min _ _ ≤ _; omega
      · exact hg
  rw [if_neg h5] at hd1 hd2
  by_cases hlen : (ps.length : Int) ≤ x.producer
  · rw [if_pos hlen] at hd2; exact absurd hd2 (by decide)
  rw [if_neg hlen] at hd1 hd2
  have hlt : x.producer.toNat < ps.length := by omega
  have hg := h.at_ hlt
  have hpa : prodAt ps x.producer = ps.getD x.producer.toNat prod0 := rfl
  rw [hpa] at hd1 hd2 ⊢
  generalize hP : ps.getD x.producer.toNat prod0 = p at hd1 hd2 hg ⊢
  unfold doneF at hd1 hd2
  by_cases h2 : x.kind = 2
  · rw [if_pos h2]
    by_cases he : p.epoch ≠ x.epoch
    · rw [if_pos he] at hd2; exact absurd hd2 (by decide)
    rw [if_neg he, if_neg (by omega), if_pos h2] at hd1 hd2
    by_cases hen : endsP p = true
    · rw [if_pos hen] at hd2; exact absurd hd2 (by decide)
    rw [if_neg hen] at hd1 hd2
    by_cases hmm : x.place ∈ p.places
    · rw [if_pos hmm] at hd1; cases hd1
    rw [if_neg hmm] at hd1 hd2
    by_cases hll : 100 ≤ p.places.length
    · rw [if_pos hll] at hd2; exact absurd hd2 (by decide)
    have hil := insertF_len p.places x.place
    refine h.set_ hlt ?_ ?_
    · rw [hP]; unfold addP; split <;> rfl
    · unfold addP
      split
      · exact ⟨hg.t0, hg.t1, hg.e0, hg.e1, hno.1, hno.2, .inr (.inl rfl), insertF_sorted hg.srt hmm, by show (insertF _ _).length ≤ 100; omega⟩
      · exact ⟨hg.t0, hg.t1, hg.e0, hg.e1, hg.s0, hg.s1, hg.st, insertF_sorted hg.srt hmm, by show (insertF _ _).length ≤ 100; omega⟩
  rw [if_neg h2]
  by_cases h3 : x.kind = 3
  · rw [if_pos h3]
    exact h.set_ hlt (by rw [hP]; rfl) (hg.end_ (by split <;> omega))
  rw [if_neg h3]
  by_cases h4 : x.kind = 4
  · rw [if_pos h4]
    refine h.set_ hlt (by rw [hP]; rfl) ?_
    refine GoodP.end_ (p := { p with places := p.places.filter fun n => !decide (n = x.place) }) ⟨hg.t0, hg.t1, hg.e0, hg.e1, hg.s0, hg.s1, hg.st, (show (p.places.filter fun n => !decide (n = x.place)).Pairwise (· < ·) from hg.srt.filter _), (show (p.places.filter fun n => !decide (n = x.place)).length ≤ 100 from Nat.le_trans (List.length_filter_le _ _) hg.len)⟩ hg.st
  · exfalso
    unfold rightE at hr
    rw [if_neg h1, if_neg h2, if_neg h3, if_neg h4, if_neg h5] at hr
    simp at hr
end Go.Proofs.Ytofegigbhohebaa.Hand
