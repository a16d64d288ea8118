/- The document's check of a chain is the chain's own. -/
import Derived.Test.YtpcoelimabojcaaR0x2
import Derived.Test.YtpcoelimabojcaaHC20
namespace Go.Proofs.Ytpcoelimabojcaa.Hand
open Go.RowKit Go.Proofs.Ytpcoelimabojcaa Go.Proofs.YtpcoelimabojcaaW.PrintWords Go.Proofs.Ytpcoelimabojcaa.R0
set_option linter.unusedVariables false
set_option linter.unusedSimpArgs false
/-- A part, as the document has it. -/
def toS (p : PartV) : S68 := ⟨p.first, ⟨p.id, p.nodes⟩⟩
theorem C_toS {w : World} {A : Option Addr} {ps : List PartV} (h : Kd.C k53 w A ps.length ps) : Kd.C k68 w A (ps.map toS).length (ps.map toS) := by
  refine ⟨rfl, by rw [List.length_map]; exact h.2.1, fun hp => ?_⟩
  obtain ⟨ad, hA, hcc⟩ := h.2.2 (by simpa using hp)
  refine ⟨ad, hA, fun j x hj => ?_⟩
  rw [List.getElem?_map, Option.map_eq_some_iff] at hj
  obtain ⟨p, hp2, rfl⟩ := hj
  obtain ⟨cs, h1, h2, h3⟩ := hcc j p hp2
  obtain ⟨A1, c1, rfl, h4, h5⟩ := k53_open h2
  exact ⟨_, h1, k68_mk w (toS p) h4 h5, h3⟩
theorem C_ofS {w : World} {A : Option Addr} {ps : List PartV} (h : Kd.C k68 w A (ps.map toS).length (ps.map toS)) : Kd.C k53 w A ps.length ps := by
  refine ⟨rfl, by have := h.2.1; rwa [List.length_map] at this, fun hp => ?_⟩
  obtain ⟨ad, hA, hcc⟩ := h.2.2 (by simpa using hp)
  refine ⟨ad, hA, fun j p hj => ?_⟩
  obtain ⟨cs, h1, h2, h3⟩ := hcc j (toS p) (by rw [List.getElem?_map, hj]; rfl)
  obtain ⟨A1, c1, rfl, h4, h5⟩ := k68_open h2
  exact ⟨_, h1, k53_mk h4 h5, h3⟩
theorem rd_toS (ps : List PartV) (i : Nat) : rd_T68 (ps.map toS) (i : Int) = toS (ps.getD i part0) := by
  unfold rd_T68
  rw [Int.toNat_natCast, List.getD_eq_getElem?_getD, List.getD_eq_getElem?_getD, List.getElem?_map]
  cases ps[i]? <;> rfl
theorem rd_nat (l : List Int) (i : Nat) : rd l (i : Int) = l.getD i 0 := by
  unfold rd
  simp [List.getD_eq_getElem?_getD]
theorem in_ev (a : Int) : gazetteref10_in.f a = some (inB a) := by
  unfold gazetteref10_in.f inB
  by_cases h : 0 ≤ a
  · rw [if_pos h]; simp [h]
  · rw [if_neg h]; simp [h]
theorem wrap_nat {i : Nat} (h : i < 9223372036854775807) : wrap64 ((i : Int) + 1) = ((i + 1 : Nat) : Int) := by unfold wrap64; omega
/-- Is the ith number a node, and new? -/
def nodeOk (n : Int) (l : List Int) (i : Nat) : Bool := decide (0 ≤ l.getD i 0) && (decide (l.getD i 0 < n) && !(decide (l.getD i 0 ∈ l.take i)))
def tailB (n : Int) (l : List Int) : Nat → Nat → Bool
  | 0, _ => true
  | m + 1, i => nodeOk n l i && tailB n l m (i + 1)
theorem nodesAt_tail (n : Int) (l : List Int) (b : Bool) : ∀ m i, nodesAt n l b (i + m) = (nodesAt n l b i && tailB n l m i)
  | 0, i => by simp [tailB]
  | m + 1, i => by
    rw [show i + (m + 1) = (i + 1) + m by omega, nodesAt_tail n l b m (i + 1), nodesAt, tailB, Bool.and_assoc]
    rfl
theorem mem_drop_cons {α : Type} {l : List α} {x z : α} {i j : Nat} (h : j < i) (hi : i ≤ l.length) : x ∈ (l.take i).drop j ↔ l.getD j z = x ∨ x ∈ (l.take i).drop (j + 1) := by
  have hj : j < (l.take i).length := by rw [List.length_take]; omega
  rw [List.drop_eq_getElem_cons hj, List.mem_cons, List.getElem_take, List.getD_eq_getElem?_getD, List.getElem?_eq_getElem (by omega), Option.getD_some, eq_comm]
theorem l1_07 (n id : Int) (l : List Int) (i : Nat) (hi : i < l.length) (hmax : l.length ≤ 9223372036854775807) (F : Nat) :
    ∀ d j, j + d = i → gazetteref07_Check.l1 (F + d + 1) n (i : Int) (j : Int) id l = (if l.getD i 0 ∈ (l.take i).drop j then some 1 else gazetteref07_Check.l0 F n ((i + 1 : Nat) : Int) id l)
  | 0, j, h => by
    obtain rfl : j = i := by omega
    rw [gazetteref07_Check.l1, if_neg (by omega), wrap_nat (by omega), List.drop_of_length_le (by rw [List.length_take]; omega), if_neg (by simp)]
  | d + 1, j, h => by
    have ih := l1_07 n id l i hi hmax F d (j + 1) (by omega)
    rw [show F + (d + 1) + 1 = (F + d + 1) + 1 by omega, gazetteref07_Check.l1, if_pos (by omega), if_pos (by omega), if_pos (by omega), if_pos (by omega), if_pos (by omega), rd_nat, rd_nat, wrap_nat (by omega), ih]
    by_cases hx : l.getD j 0 = l.getD i 0
    · rw [if_pos hx, if_pos ((mem_drop_cons (z := (0 : Int)) (by omega) (by omega)).2 (.inl hx))]
    · rw [if_neg hx]
      by_cases hm : l.getD i 0 ∈ (l.take i).drop (j + 1)
      · rw [if_pos hm, if_pos ((mem_drop_cons (z := (0 : Int)) (by omega) (by omega)).2 (.inr hm))]
      · rw [if_neg hm, if_neg (fun h => ((mem_drop_cons (z := (0 : Int)) (by omega) (by omega)).1 h).elim hx hm)]
theorem l0_07 (n id : Int) (l : List Int) (hmax : l.length ≤ 9223372036854775807) :
    ∀ m i, i + m = l.length → ∀ F, m * (l.length + 4) + 1 ≤ F → gazetteref07_Check.l0 F n (i : Int) id l = some (errB (tailB n l m i))
  | 0, i, h, F, hF => by
    obtain ⟨F, rfl⟩ : ∃ G, F = G + 1 := ⟨F - 1, by omega⟩
    rw [gazetteref07_Check.l0, if_neg (by omega)]
    rfl
  | m + 1, i, h, F, hF => by
    have hs : (m + 1) * (l.length + 4) = m * (l.length + 4) + (l.length + 4) := Nat.succ_mul _ _
    obtain ⟨G, rfl⟩ : ∃ G, F = (G + i + 1) + 1 + 1 := ⟨F - i - 3, by omega⟩
    have ih := l0_07 n id l hmax m (i + 1) (by omega) G (by omega)
    have h1 : gazetteref07_Check.l1 (G + i + 1) n (i : Int) 0 id l = (if l.getD i 0 ∈ (l.take i).drop 0 then some 1 else gazetteref07_Check.l0 G n ((i + 1 : Nat) : Int) id l) := l1_07 n id l i (by omega) hmax G i 0 (by omega)
    rw [gazetteref07_Check.l0, if_pos (by omega), if_pos (by omega), rd_nat, tailB, nodeOk]
    by_cases c0 : l.getD i 0 < 0
    · rw [if_pos c0, gazetteref07_Check.j2, if_pos rfl, decide_eq_false (by omega)]
      rfl
    · rw [if_neg c0, gazetteref07_Check.j2, decide_eq_true (show 0 ≤ l.getD i 0 by omega)]
      by_cases c1 : l.getD i 0 < n
      · rw [if_neg (by simpa using c1), decide_eq_true c1, h1, List.drop_zero, ih]
        by_cases c2 : l.getD i 0 ∈ l.take i
        · rw [if_pos c2, decide_eq_true c2]; rfl
        · rw [if_neg c2, decide_eq_false c2]; rfl
      · rw [if_pos (by simpa using c1), decide_eq_false c1]
        rfl
theorem check07_ev (id n : Int) (l : List Int) (hmax : l.length ≤ 9223372036854775807) (F : Nat) (hF : l.length * (l.length + 4) + 2 ≤ F) : gazetteref07_Check.f F id l n = some (errB (cfgB id l n)) := by
  have ht := nodesAt_tail n l (decide (0 ≤ id) && (decide (id < 281474976710656) && (decide ((1 : Int) ≤ l.length) && decide ((l.length : Int) ≤ 9)))) l.length 0
  rw [Nat.zero_add] at ht
  unfold cfgB
  rw [ht, nodesAt]
  obtain ⟨F, rfl⟩ : ∃ G, F = G + 1 := ⟨F - 1, by omega⟩
  have J1 : gazetteref07_Check.j0 (F + 1) n true id l = some 1 := by rw [gazetteref07_Check.j0, if_pos rfl]
  have J0 : gazetteref07_Check.j0 (F + 1) n false id l = some (errB (tailB n l l.length 0)) := by
    rw [gazetteref07_Check.j0, if_neg (by simp), show (0 : Int) = ((0 : Nat) : Int) from rfl, l0_07 n id l hmax l.length 0 (by omega) F (by omega)]
  unfold gazetteref07_Check.f
  by_cases c0 : id < 0
  · rw [if_pos c0, J1, decide_eq_false (show ¬ 0 ≤ id by omega)]; rfl
  · rw [if_neg c0, decide_eq_true (show 0 ≤ id by omega)]
    by_cases c1 : id ≥ 281474976710656
    · rw [if_pos c1, J1, decide_eq_false (show ¬ id < 281474976710656 by omega)]; rfl
    · rw [if_neg c1, decide_eq_true (show id < 281474976710656 by omega)]
      by_cases c2 : (l.length : Int) < 1
      · rw [if_pos c2, J1, decide_eq_false (show ¬ (1 : Int) ≤ l.length by omega)]; rfl
      · rw [if_neg c2, decide_eq_true (show (1 : Int) ≤ l.length by omega)]
        by_cases c3 : (l.length : Int) > 9
        · rw [decide_eq_true c3, J1, decide_eq_false (show ¬ (l.length : Int) ≤ 9 by omega)]; rfl
        · rw [decide_eq_false c3, J0, decide_eq_true (show (l.length : Int) ≤ 9 by omega)]; rfl
/-- The parts from the ith on. -/
def restB (n : Int) (ps : List PartV) : Nat → Nat → Bool
  | 0, _ => true
  | m + 1, i => partAt n ps i && restB n ps m (i + 1)
theorem rightAt_rest (n : Int) (ps : List PartV) : ∀ m i, rightAt n ps (i + m) = (rightAt n ps i && restB n ps m i)
  | 0, i => by simp [restB]
  | m + 1, i => by
    rw [show i + (m + 1) = (i + 1) + m by omega, rightAt_rest n ps m (i + 1), rightAt, restB, Bool.and_assoc]
theorem l1_10 (n ow tr : Int) (ps : List PartV) (i : Nat) (f id : Int) (nd : List Int) (hi : i < ps.length) (hmax : ps.length ≤ 9223372036854775807) (F : Nat) :
    ∀ d j, j + d = i → gazetteref10_Check.l1 (F + d + 1) n (ps.length : Int) (i : Int) (j : Int) ow tr (ps.map toS) f id nd = (if id ∈ ((ps.map PartV.id).take i).drop j then some 1 else gazetteref10_Check.l0 F n (ps.length : Int) ((i + 1 : Nat) : Int) ow tr (ps.map toS))
  | 0, j, h => by
    obtain rfl : j = i := by omega
    rw [gazetteref10_Check.l1, if_neg (by omega), wrap_nat (by omega), List.drop_of_length_le (by rw [List.length_take]; omega), if_neg (by simp)]
  | d + 1, j, h => by
    have ih := l1_10 n ow tr ps i f id nd hi hmax F d (j + 1) (by omega)
    have hg : (ps.map PartV.id).getD j 0 = (ps.getD j part0).id := by
      rw [List.getD_eq_getElem?_getD, List.getD_eq_getElem?_getD, List.getElem?_map]
      cases ps[j]? <;> rfl
    have hlm : i ≤ (ps.map PartV.id).length := by rw [List.length_map]; omega
    rw [show F + (d + 1) + 1 = (F + d + 1) + 1 by omega, gazetteref10_Check.l1, if_pos (by omega), if_pos (by omega), if_pos (by rw [List.length_map]; omega), rd_toS, wrap_nat (by omega), ih]
    have hm := mem_drop_cons (x := id) (z := (0 : Int)) (show j < i by omega) hlm
    rw [hg] at hm
    by_cases hx : (ps.getD j part0).id = id
    · rw [if_pos (show (toS (ps.getD j part0)).f1.f0 = id from hx), if_pos (hm.2 (.inl hx))]
    · rw [if_neg (show ¬ (toS (ps.getD j part0)).f1.f0 = id from hx)]
      by_cases hc : id ∈ ((ps.map PartV.id).take i).drop (j + 1)
      · rw [if_pos hc, if_pos (hm.2 (.inr hc))]
      · rw [if_neg hc, if_neg (fun h => (hm.1 h).elim hx hc)]
/-- Enough rounds for the document's check. -/
def nodesMax (ps : List PartV) : Nat := (ps.map fun p => p.nodes.length * (p.nodes.length + 4) + 2).sum
theorem nodesMax_le {ps : List PartV} : ∀ {i : Nat}, i < ps.length → (ps.getD i part0).nodes.length * ((ps.getD i part0).nodes.length + 4) + 2 ≤ nodesMax ps := by
  induction ps with
  | nil => intro i hi; simp at hi
  | cons p ps ih =>
    intro i hi
    unfold nodesMax
    rw [List.map_cons, List.sum_cons]
    cases i with
    | zero => simp [List.getD_eq_getElem?_getD]
    | succ i =>
      have := ih (i := i) (by simpa using hi)
      unfold nodesMax at this
      simp only [List.getD_cons_succ]
      omega
theorem l0_10_end (n ow tr : Int) (ps : List PartV) (hmax : ps.length ≤ 9223372036854775807) (hr : rightAt n ps ps.length = true) (h0 : ps.length = 0 → tr = 0) (F : Nat) : gazetteref10_Check.l0 (F + 1) n (ps.length : Int) (ps.length : Int) ow tr (ps.map toS) = some (errB (endB tr ps)) := by
  have r0 : rd_T68 (ps.map toS) 0 = toS (ps.getD 0 part0) := rd_toS ps 0
  have r1 : rd_T68 (ps.map toS) 1 = toS (ps.getD 1 part0) := rd_toS ps 1
  rw [gazetteref10_Check.l0, if_neg (by omega)]
  unfold endB
  rcases Nat.eq_zero_or_pos ps.length with hz | hz
  · rw [if_neg (by omega), if_neg (by omega), if_pos hz, decide_eq_true (h0 hz)]
    rfl
  have hw : wrap64 ((ps.length : Int) - 1) = ((ps.length - 1 : Nat) : Int) := by unfold wrap64; omega
  have hl : lastF ps = (ps.getD (ps.length - 1) part0).first := by
    unfold lastF
    rw [List.getLast?_eq_getElem?, List.getD_eq_getElem?_getD, List.getElem?_eq_getElem (show ps.length - 1 < ps.length by omega)]
    rfl
  have hin := rightAt_in hr (show ps.length - 1 < ps.length by omega)
  have hw2 : wrap64 ((toS (ps.getD (ps.length - 1) part0)).f0 + 4096) = (ps.getD (ps.length - 1) part0).first + 4096 := by
    show wrap64 ((ps.getD (ps.length - 1) part0).first + 4096) = _
    unfold wrap64; omega
  rw [if_neg (show ¬ ps.length = 0 by omega), if_pos (by omega), if_pos (by rw [List.length_map]; omega), r0, hw, rd_toS, hw2, hl]
  by_cases c0 : tr < (ps.getD 0 part0).first
  · rw [if_pos (show tr < (toS (ps.getD 0 part0)).f0 from c0), decide_eq_false (by omega)]; rfl
  rw [if_neg (show ¬ tr < (toS (ps.getD 0 part0)).f0 from c0), if_pos (by omega), if_pos (by rw [List.length_map]; omega), decide_eq_true (show (ps.getD 0 part0).first ≤ tr by omega)]
  by_cases c1 : tr > (ps.getD (ps.length - 1) part0).first + 4096
  · rw [if_pos c1, decide_eq_false (by omega)]; rfl
  rw [if_neg c1, decide_eq_true (show tr ≤ (ps.getD (ps.length - 1) part0).first + 4096 by omega)]
  by_cases c2 : ps.length = 1
  · rw [if_neg (by omega), decide_eq_true c2]; rfl
  rw [if_pos (by omega), if_pos (by rw [List.length_map]; omega), r1, decide_eq_false c2]
  by_cases c3 : tr ≥ (ps.getD 1 part0).first
  · rw [if_pos (show tr ≥ (toS (ps.getD 1 part0)).f0 from c3), decide_eq_false (by omega)]; rfl
  · rw [if_neg (show ¬ tr ≥ (toS (ps.getD 1 part0)).f0 from c3), decide_eq_true (by omega)]; rfl
theorem l0_10 (n ow tr : Int) (ps : List PartV) (hmax : ps.length ≤ 9223372036854775807) (hnd : ∀ p ∈ ps, p.nodes.length ≤ 9223372036854775807) (h0 : ps.length = 0 → tr = 0) :
    ∀ m i, i + m = ps.length → rightAt n ps i = true → ∀ F, m * (ps.length + 6 + nodesMax ps) + 1 ≤ F → gazetteref10_Check.l0 F n (ps.length : Int) (i : Int) ow tr (ps.map toS) = some (errB (restB n ps m i && endB tr ps))
  | 0, i, h, hr, F, hF => by
    obtain ⟨F, rfl⟩ : ∃ G, F = G + 1 := ⟨F - 1, by omega⟩
    obtain rfl : i = ps.length := by omega
    rw [l0_10_end n ow tr ps hmax hr h0 F]
    rfl
  | m + 1, i, h, hr, F, hF => by
    have hs : (m + 1) * (ps.length + 6 + nodesMax ps) = m * (ps.length + 6 + nodesMax ps) + (ps.length + 6 + nodesMax ps) := Nat.succ_mul _ _
    obtain ⟨G, rfl⟩ : ∃ G, F = (G + i + 1) + 1 + 1 + 1 := ⟨F - i - 4, by omega⟩
    have hi : i < ps.length := by omega
    have hnm := nodesMax_le hi
    have hmem : ps.getD i part0 ∈ ps := by rw [List.getD_eq_getElem?_getD, List.getElem?_eq_getElem hi]; exact List.getElem_mem hi
    have h7 := check07_ev (ps.getD i part0).id n (ps.getD i part0).nodes (hnd _ hmem) (G + i + 1 + 1 + 1) (by omega)
    have ih := fun hp : partAt n ps i = true => l0_10 n ow tr ps hmax hnd h0 m (i + 1) (by omega) (by rw [rightAt, hr, hp]; rfl) G (by omega)
    have h1 : gazetteref10_Check.l1 (G + i + 1) n (ps.length : Int) (i : Int) 0 ow tr (ps.map toS) (toS (ps.getD i part0)).f0 (toS (ps.getD i part0)).f1.f0 (toS (ps.getD i part0)).f1.f1 = (if (ps.getD i part0).id ∈ ((ps.map PartV.id).take i).drop 0 then some 1 else gazetteref10_Check.l0 G n (ps.length : Int) ((i + 1 : Nat) : Int) ow tr (ps.map toS)) := l1_10 n ow tr ps i _ _ _ hi hmax G i 0 (by omega)
    rw [List.drop_zero, ← List.map_take] at h1
    rw [gazetteref10_Check.l0, if_pos (by omega), if_pos (by omega), if_pos (by rw [List.length_map]; omega), rd_toS, in_ev, Option.bind_some, restB]
    have hpa : partAt n ps i = (inB (ps.getD i part0).first && (cfgB (ps.getD i part0).id (ps.getD i part0).nodes n && (!(decide ((ps.getD i part0).id ∈ (ps.take i).map PartV.id)) && (decide (i = 0) || (decide ((ps.getD (i - 1) part0).first ≤ (ps.getD i part0).first) && decide ((ps.getD i part0).first - (ps.getD (i - 1) part0).first ≤ 4096)))))) := rfl
    have J1 : gazetteref10_Check.j2 (G + i + 1 + 1 + 1) n (ps.length : Int) (i : Int) true ow tr (ps.map toS) (toS (ps.getD i part0)).f0 (toS (ps.getD i part0)).f1.f0 (toS (ps.getD i part0)).f1.f1 = some 1 := by rw [gazetteref10_Check.j2, if_pos rfl]
    have hfirst : (toS (ps.getD i part0)).f0 = (ps.getD i part0).first := rfl
    by_cases c0 : inB (ps.getD i part0).first = true
    rotate_left
    · have c0' : inB (ps.getD i part0).first = false := by simpa using c0
      rw [hfirst, c0', if_neg (by simp), ← hfirst, J1, hpa, c0']; rfl
    have h7' : gazetteref07_Check.f (G + i + 1 + 1 + 1) (toS (ps.getD i part0)).f1.f0 (toS (ps.getD i part0)).f1.f1 n = some (errB (cfgB (ps.getD i part0).id (ps.getD i part0).nodes n)) := h7
    rw [hfirst, c0, if_pos rfl, h7', Option.bind_some, ← hfirst]
    by_cases c1 : cfgB (ps.getD i part0).id (ps.getD i part0).nodes n = true
    rotate_left
    · have c1' : cfgB (ps.getD i part0).id (ps.getD i part0).nodes n = false := by simpa using c1
      rw [c1', show ((errB false != 0) = true) from rfl, J1, hpa, c0, c1']; rfl
    rw [c1, show ((errB true != 0) = false) from rfl, gazetteref10_Check.j2, if_neg (by simp)]
    have J3 : gazetteref10_Check.j3 (G + i + 1 + 1) n (ps.length : Int) (i : Int) true ow tr (ps.map toS) (toS (ps.getD i part0)).f0 (toS (ps.getD i part0)).f1.f0 (toS (ps.getD i part0)).f1.f1 = some 1 := by rw [gazetteref10_Check.j3, if_pos rfl]
    have J4 : gazetteref10_Check.j3 (G + i + 1 + 1) n (ps.length : Int) (i : Int) false ow tr (ps.map toS) (toS (ps.getD i part0)).f0 (toS (ps.getD i part0)).f1.f0 (toS (ps.getD i part0)).f1.f1 = (if (ps.getD i part0).id ∈ (ps.take i).map PartV.id then some 1 else gazetteref10_Check.l0 G n (ps.length : Int) ((i + 1 : Nat) : Int) ow tr (ps.map toS)) := by rw [gazetteref10_Check.j3, if_neg (by simp), h1]
    have fin : (decide (i = 0) || (decide ((ps.getD (i - 1) part0).first ≤ (ps.getD i part0).first) && decide ((ps.getD i part0).first - (ps.getD (i - 1) part0).first ≤ 4096))) = true → (if (ps.getD i part0).id ∈ (ps.take i).map PartV.id then some 1 else gazetteref10_Check.l0 G n (ps.length : Int) ((i + 1 : Nat) : Int) ow tr (ps.map toS)) = some (errB (partAt n ps i && restB n ps m (i + 1) && endB tr ps)) := by
      intro hd
      by_cases c2 : (ps.getD i part0).id ∈ (ps.take i).map PartV.id
      · rw [if_pos c2, hpa, c0, c1, decide_eq_true c2]; rfl
      · have hp : partAt n ps i = true := by rw [hpa, c0, c1, decide_eq_false c2, hd]; rfl
        rw [if_neg c2, ih hp, hp]; rfl
    have bad : (decide (i = 0) || (decide ((ps.getD (i - 1) part0).first ≤ (ps.getD i part0).first) && decide ((ps.getD i part0).first - (ps.getD (i - 1) part0).first ≤ 4096))) = false → some 1 = some (errB (partAt n ps i && restB n ps m (i + 1) && endB tr ps)) := by
      intro hd
      rw [hpa, c0, c1, hd]
      cases !(decide ((ps.getD i part0).id ∈ (ps.take i).map PartV.id)) <;> rfl
    by_cases hz : i = 0
    · rw [if_neg (by omega), J4]
      exact fin (by rw [decide_eq_true hz]; rfl)
    have hw : wrap64 ((i : Int) - 1) = ((i - 1 : Nat) : Int) := by unfold wrap64; omega
    have hin := rightAt_in hr (show i - 1 < i by omega)
    have hw2 : wrap64 ((toS (ps.getD (i - 1) part0)).f0 + 4096) = (ps.getD (i - 1) part0).first + 4096 := by
      show wrap64 ((ps.getD (i - 1) part0).first + 4096) = _
      unfold wrap64; omega
    rw [if_pos (by omega), hw, if_pos (by omega), if_pos (by rw [List.length_map]; omega), rd_toS, hw2]
    by_cases c3 : (ps.getD i part0).first < (ps.getD (i - 1) part0).first
    · rw [if_pos (show (toS (ps.getD i part0)).f0 < (toS (ps.getD (i - 1) part0)).f0 from c3), J3]
      exact bad (by rw [decide_eq_false hz, decide_eq_false (by omega)]; rfl)
    · rw [if_neg (show ¬ (toS (ps.getD i part0)).f0 < (toS (ps.getD (i - 1) part0)).f0 from c3)]
      by_cases c4 : (ps.getD i part0).first > (ps.getD (i - 1) part0).first + 4096
      · rw [decide_eq_true (show (toS (ps.getD i part0)).f0 > (ps.getD (i - 1) part0).first + 4096 from c4), J3]
        exact bad (by rw [decide_eq_false hz, decide_eq_false (show ¬ (ps.getD i part0).first - (ps.getD (i - 1) part0).first ≤ 4096 by omega), Bool.and_false]; rfl)
      · rw [decide_eq_false (show ¬ (toS (ps.getD i part0)).f0 > (ps.getD (i - 1) part0).first + 4096 from c4), J4]
        exact fin (by rw [decide_eq_true (show (ps.getD (i - 1) part0).first ≤ (ps.getD i part0).first by omega), decide_eq_true (show (ps.getD i part0).first - (ps.getD (i - 1) part0).first ≤ 4096 by omega), Bool.and_true, Bool.or_true])
/-- The document's check, by enough rounds. -/
def checkK (ps : List PartV) : Nat := ps.length * (ps.length + 6 + nodesMax ps) + 2
theorem check10_ev (n ow tr : Int) (ps : List PartV) (hmax : ps.length ≤ 9223372036854775807) (hnd : ∀ p ∈ ps, p.nodes.length ≤ 9223372036854775807) (F : Nat) (hF : checkK ps ≤ F) : gazetteref10_Check.f F ow tr (ps.map toS) n = some (errB (rightF ow tr ps n)) := by
  unfold checkK at hF
  obtain ⟨F, rfl⟩ : ∃ G, F = G + 1 := ⟨F - 1, by omega⟩
  have hlm : ((ps.map toS).length : Int) = (ps.length : Int) := by rw [List.length_map]
  have J1 : gazetteref10_Check.j0 (F + 1) n (ps.length : Int) true ow tr (ps.map toS) = some 1 := by rw [gazetteref10_Check.j0, if_pos rfl]
  have J0 : (ps.length = 0 → tr = 0) → gazetteref10_Check.j0 (F + 1) n (ps.length : Int) false ow tr (ps.map toS) = some (errB (rightAt n ps ps.length && endB tr ps)) := by
    intro h0
    have h := l0_10 n ow tr ps hmax hnd h0 ps.length 0 (by omega) rfl F (by omega)
    have hr := rightAt_rest n ps ps.length 0
    rw [Nat.zero_add] at hr
    rw [gazetteref10_Check.j0, if_neg (by simp), hr]
    exact h
  unfold gazetteref10_Check.f rightF headB
  rw [hlm]
  by_cases c0 : ow < 0
  · rw [if_pos c0, J1, decide_eq_false (show ¬ 0 ≤ ow by omega)]; rfl
  rw [if_neg c0, decide_eq_true (show 0 ≤ ow by omega)]
  by_cases c1 : ow > 15
  · rw [if_pos c1, J1, decide_eq_false (show ¬ ow < 16 by omega)]; rfl
  rw [if_neg c1, decide_eq_true (show ow < 16 by omega), in_ev, Option.bind_some]
  by_cases c2 : inB tr = true
  rotate_left
  · have c2' : inB tr = false := by simpa using c2
    rw [c2', if_neg (by simp), J1]; rfl
  rw [c2, if_pos rfl]
  by_cases c3 : (ps.length : Int) > 64
  · rw [if_pos c3, J1, decide_eq_false (show ¬ (ps.length : Int) ≤ 64 by omega)]; rfl
  rw [if_neg c3, decide_eq_true (show (ps.length : Int) ≤ 64 by omega)]
  by_cases c4 : (ps.length : Int) = 0
  · rw [if_pos c4]
    by_cases c5 : tr = 0
    · rw [show (tr != 0) = false by simpa using c5, J0 (fun _ => c5)]; rfl
    · rw [show (tr != 0) = true by simpa using c5, J1]
      have he : endB tr ps = false := by rw [endB, if_pos (by omega), decide_eq_false c5]
      rw [he, Bool.and_false, Bool.and_false]; rfl
  · rw [if_neg c4, J0 (fun h => absurd h (by omega))]; rfl
end Go.Proofs.Ytpcoelimabojcaa.Hand
