/- Frames that stand one behind the other are read one by one, as they were written. -/
import Derived.Test.YthlfhlnalmpmdaaPWireRowx1
import Derived.Test.YthlfhlnalmpmdaaHBack
import Derived.Test.YthlfhlnalmpmdaaHPure
namespace Go.Proofs.Ythlfhlnalmpmdaa.Pure
open Go.RowKit Go.Proofs.Ythlfhlnalmpmdaa.Hand Go.Proofs.Ythlfhlnalmpmdaa.PWireRow Go.Proofs.YthlfhlnalmpmdaaW.PrintWords Go.Proofs.YthlfhlnalmpmdaaW.PrintLast

/-- The frame of one row. -/
def frm (k : Nat) (row : List Int) : List Int := frameB (k : Int) row ++ lowL (crcOf (frameB (k : Int) row)) 4
theorem frm_length (k : Nat) (row : List Int) : (frm k row).length = row.length + 9 := by
  rw [frm, List.length_append, frameB_length, lowL_length]
theorem frm_isB {k : Nat} {row : List Int} (hk : k ≤ 255) (hb : isB row = true) : isB (frm k row) = true :=
  isB_append ((isB_iff _).2 (frameB_bytes (by omega) (by omega) ((isB_iff _).1 hb))) (isB_lowL _ _)
/-- The rows' frames, one behind the other. -/
def frms (k : Nat) (rows : List (List Int)) : List Int := (rows.map (frm k)).flatten
theorem frms_append (k : Nat) (a b : List (List Int)) : frms k (a ++ b) = frms k a ++ frms k b := by simp [frms]
theorem frms_one (k : Nat) (a : List Int) : frms k [a] = frm k a := by simp [frms]
theorem frms_isB {k : Nat} (hk : k ≤ 255) : ∀ {rows : List (List Int)}, (∀ r ∈ rows, isB r = true) → isB (frms k rows) = true
  | [], _ => rfl
  | r :: rs, h => by
    rw [show r :: rs = [r] ++ rs from rfl, frms_append, frms_one]
    exact isB_append (frm_isB hk (h r (by simp))) (frms_isB hk fun x hx => h x (by simp [hx]))
theorem frms_short (k : Nat) : ∀ {rows : List (List Int)}, (∀ r ∈ rows, r.length ≤ 65536) → (frms k rows).length ≤ rows.length * 65545
  | [], _ => by simp [frms]
  | r :: rs, h => by
    rw [show r :: rs = [r] ++ rs from rfl, frms_append, frms_one, List.length_append, frm_length]
    have h1 := h r (by simp)
    have h2 := frms_short k (rows := rs) fun x hx => h x (by simp [hx])
    simp only [List.length_append, List.length_singleton]
    omega
theorem getD_mem {l : List (List Int)} {i : Nat} (h : i < l.length) : l.getD i [] ∈ l := by
  rw [List.getD_eq_getElem?_getD, List.getElem?_eq_getElem h]; exact List.getElem_mem h
theorem take_succ {l : List (List Int)} {i : Nat} (h : i < l.length) : l.take (i + 1) = l.take i ++ [l.getD i []] := by
  rw [List.take_add_one, List.getElem?_eq_getElem h, List.getD_eq_getElem?_getD, List.getElem?_eq_getElem h]; rfl
theorem take_cut {l : List (List Int)} {i n : Nat} (h : i < n) (hn : n ≤ l.length) : ∃ rest, (∀ r ∈ rest, r ∈ l) ∧ l.take n = l.take i ++ [l.getD i []] ++ rest := by
  refine ⟨(l.take n).drop (i + 1), fun r hr => List.mem_of_mem_take (List.mem_of_mem_drop hr), ?_⟩
  rw [← take_succ (by omega), show l.take (i + 1) = (l.take n).take (i + 1) by rw [List.take_take]; congr 1; omega, List.take_append_drop]
theorem unf_end (l : List Int) : unfF l (l.length : Int) = (0, [], 0, 20) := by
  unfold unfF
  rw [if_neg (by omega), Int.toNat_natCast, if_neg (by omega)]
theorem rd_nat (x0 : List (List Int)) (i : Nat) : rd_L1 x0 (i : Int) = x0.getD i [] := by rw [rd_L1, Int.toNat_natCast]
theorem wrap_succ (i : Nat) (h : i ≤ 1000000) : wrap64 ((i : Int) + 1) = ((i + 1 : Nat) : Int) := by unfold wrap64; omega

section
variable {x0 : List (List Int)} {k n : Nat} (hk : k ≤ 255) (hb : ∀ r ∈ x0, isB r = true) (hn : n = min x0.length 50)
include hk hb hn
theorem l1_ok (hs : ∀ i, i < n → (x0.getD i []).length ≤ 65536) : ∀ m i, i + m = n → gazettelaw01_WireRow.l1 (2 * m + 2) x0 (k : Int) (frms k (x0.take n)) ((frms k (x0.take i)).length : Int) (i : Int) = some true
  | 0, i, hi => by
    obtain rfl : i = n := by omega
    have step : gazettelaw01_WireRow.j3 (2 * 0 + 1) x0 (k : Int) (frms k (x0.take i)) ((frms k (x0.take i)).length : Int) (i : Int) false = some true := by
      rw [gazettelaw01_WireRow.j3]
      unfold gazettelaw01_num.f wire_Unframe.f gazettelaw01_knows.f
      rw [if_neg (by decide), if_pos (frms_isB hk fun r hr => hb r (List.mem_of_mem_take hr)), Option.bind_some, if_pos rfl, unf_end]
      rfl
    rw [gazettelaw01_WireRow.l1]
    by_cases c : (i : Int) < (x0.length : Int)
    · rw [if_pos c, decide_eq_false (by omega)]; exact step
    · rw [if_neg c]; exact step
  | m + 1, i, hi => by
    have ih := l1_ok hs m (i + 1) (by omega)
    have hi1 : i < x0.length := by omega
    have hrow := hs i (by omega)
    have hmem := hb _ (getD_mem hi1)
    obtain ⟨rest, hrest, hcut⟩ := take_cut (l := x0) (i := i) (n := n) (by omega) (by omega)
    rw [show 2 * (m + 1) + 2 = (2 * m + 2) + 1 + 1 by omega, gazettelaw01_WireRow.l1, if_pos (by omega), decide_eq_true (by omega), gazettelaw01_WireRow.j3]
    unfold gazettelaw01_num.f wire_Unframe.f
    have hB : isB (frms k (x0.take n)) = true := frms_isB hk fun r hr => hb r (List.mem_of_mem_take hr)
    have hfb := frame_back (frms k (x0.take i)) (x0.getD i []) (frms k rest) k hk hrow ((isB_iff _).1 hmem)
    have e1 : frms k (x0.take i) ++ (frameB (k : Int) (x0.getD i []) ++ lowL (crcOf (frameB (k : Int) (x0.getD i []))) 4) ++ frms k rest = frms k (x0.take n) := by
      rw [hcut, frms_append, frms_append, frms_one]; rfl
    rw [e1] at hfb
    have e2 : (frms k (x0.take (i + 1))).length = (frms k (x0.take i)).length + ((x0.getD i []).length + 9) := by
      rw [take_succ hi1, frms_append, frms_one, List.length_append, frm_length]
    rw [e2] at ih
    rw [if_pos rfl, if_pos hB, Option.bind_some, hfb]
    dsimp only
    rw [Option.bind_some, if_pos rfl, if_pos rfl, if_pos (by omega), if_pos (by omega), rd_nat, if_pos rfl, if_neg (by omega), wrap_succ i (by omega)]
    exact ih

theorem l0_ok (hl : ∀ r ∈ x0, r.length ≤ 140737488351232) : ∀ m i, i + m = n → (∀ j, j < i → (x0.getD j []).length ≤ 65536) → gazettelaw01_WireRow.l0 (2 * m + 2 + (2 * n + 2)) x0 (k : Int) (frms k (x0.take i)) (i : Int) = some true
  | 0, i, hi, hs => by
    obtain rfl : i = n := by omega
    have ih := l1_ok hk hb hn hs i 0 (by omega)
    have step : gazettelaw01_WireRow.j1 (2 * i + 2 + 1) x0 (k : Int) (frms k (x0.take i)) (i : Int) false = some true := by
      rw [gazettelaw01_WireRow.j1, if_neg (by decide)]
      have e : frms k (x0.take 0) = [] := by simp [frms]
      rw [e] at ih
      exact ih
    rw [show 2 * 0 + 2 + (2 * i + 2) = (2 * i + 2 + 1) + 1 by omega, gazettelaw01_WireRow.l0]
    by_cases c : (i : Int) < (x0.length : Int)
    · rw [if_pos c, decide_eq_false (by omega)]; exact step
    · rw [if_neg c]; exact step
  | m + 1, i, hi, hs => by
    have hi1 : i < x0.length := by omega
    have hmem := hb _ (getD_mem hi1)
    rw [show 2 * (m + 1) + 2 + (2 * n + 2) = (2 * m + 2 + (2 * n + 2)) + 1 + 1 by omega, gazettelaw01_WireRow.l0, if_pos (by omega), decide_eq_true (by omega), gazettelaw01_WireRow.j1]
    unfold gazettelaw01_num.f wire_Frame.f gazettelaw01_knows.f
    have hlen := hl _ (getD_mem hi1)
    rw [if_pos rfl, Option.bind_some, if_pos (by omega), if_pos (by omega), rd_nat, List.nil_append, if_pos (by rw [List.length_nil]; omega), if_pos hmem, Option.bind_some, Option.bind_some]
    have hF : frameF (k : Int) (x0.getD i []) = if 65536 < (x0.getD i []).length then ([], 6) else (frameB (k : Int) (x0.getD i []) ++ lowL (crcOf (frameB (k : Int) (x0.getD i []))) 4, 0) := by
      unfold frameF
      rw [if_neg (by omega), if_neg (by omega)]
    rw [hF]
    clear hF
    by_cases hrow : 65536 < (x0.getD i []).length
    · rw [if_pos hrow, if_neg (by decide), if_pos (by omega)]; rfl
    · rw [if_neg hrow]
      have hsi : ∀ j, j < i + 1 → (x0.getD j []).length ≤ 65536 := by
        intro j hj
        by_cases e : j = i
        · subst e; omega
        · exact hs j (by omega)
      have hsh : (frms k (x0.take i)).length ≤ i * 65545 := by
        have := frms_short k (rows := x0.take i) (fun r hr => by
          obtain ⟨j, hj, rfl⟩ := List.getElem_of_mem hr
          rw [List.length_take] at hj
          have := hs j (by omega)
          rw [List.getD_eq_getElem?_getD, List.getElem?_eq_getElem (by omega)] at this
          rw [List.getElem_take]; exact this)
        rw [List.length_take] at this
        rwa [Nat.min_eq_left (by omega)] at this
      have hfl := frm_length k (x0.getD i [])
      have ih := l0_ok hl m (i + 1) (by omega) hsi
      rw [take_succ hi1, frms_append, frms_one] at ih
      rw [if_pos rfl, show frameB (k : Int) (x0.getD i []) ++ lowL (crcOf (frameB (k : Int) (x0.getD i []))) 4 = frm k (x0.getD i []) from rfl, if_pos (by dsimp only; omega), wrap_succ i (by omega)]
      exact ih
end

theorem WireRow (l0 : List (List Int)) (a1 : Int) (hb : ∀ r ∈ l0, isB r = true) (hl : ∀ r ∈ l0, r.length ≤ 140737488351232) : ∃ k, gazettelaw01_WireRow.f k l0 a1 = some true := by
  have hm := norm_mod a1 256 (by decide) (by decide)
  have hr := norm_mod_range a1 256 (by decide)
  refine ⟨2 * (min l0.length 50) + 2 + (2 * (min l0.length 50) + 2), ?_⟩
  unfold gazettelaw01_WireRow.f
  rw [hm]
  obtain ⟨k, hk⟩ := Int.eq_ofNat_of_zero_le hr.1
  rw [hk]
  have := l0_ok (x0 := l0) (k := k) (n := min l0.length 50) (by omega) hb rfl hl (min l0.length 50) 0 (by omega) (fun j hj => by omega)
  have e : frms k (l0.take 0) = [] := by simp [frms]
  rw [e] at this
  exact this
end Go.Proofs.Ythlfhlnalmpmdaa.Pure
