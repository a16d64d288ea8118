/- Frames with a footprint; what clear leaves of a row of one's own. -/
import Derived.Test.YtckeahjlfopaaaaWWords
import Derived.Test.YtckeahjlfopaaaaWLast
import Derived.Test.YtckeahjlfopaaaaWTab
import Derived.Test.YtckeahjlfopaaaaWRepsOne
import Derived.Laws.CopyRow
namespace Go.Proofs.Ytckeahjlfopaaaa.Hand
open Go.RowKit Go.Proofs.YtckeahjlfopaaaaW.PrintWords

theorem grown_below {w W : World} (h : Below w.heap.size w W) (row : Option Nat) : w.grownBy W row := ⟨h.os, h.tape, h.output, h.size, fun k hk _ => h.block k hk⟩
theorem grown_set (W : World) (g i : Nat) (v : Value) : W.grownBy (W.setCell ⟨g, i, none⟩ v) (some g) := ⟨rfl, rfl, rfl, by simp [World.setCell], fun k _ hk => Below.heap_setCell _ _ _ k (fun e => hk (by rw [e]))⟩
/-- What existed outside F is as it was. -/
structure Fr (F : Nat → Prop) (w w' : World) : Prop where
  os : w'.os = w.os
  tape : w'.tape = w.tape
  output : w'.output = w.output
  size : w.heap.size ≤ w'.heap.size
  block : ∀ k, k < w.heap.size → ¬ F k → w'.heap[k]? = w.heap[k]?
section
variable {F G : Nat → Prop} {w w' w'' W : World}
theorem Fr.refl (F : Nat → Prop) (w : World) : Fr F w w := ⟨rfl, rfl, rfl, Nat.le_refl _, fun _ _ _ => rfl⟩
theorem Fr.trans (h : Fr F w w') (k : Fr G w' w'') (hG : ∀ q, G q → F q ∨ w.heap.size ≤ q) : Fr F w w'' :=
  ⟨k.os.trans h.os, k.tape.trans h.tape, k.output.trans h.output, Nat.le_trans h.size k.size, fun q hq hF => (k.block q (Nat.lt_of_lt_of_le hq h.size) (fun hg => by rcases hG q hg with h1 | h1; exact hF h1; omega)).trans (h.block q hq hF)⟩
theorem Fr.mono (h : Fr F w w') (hG : ∀ q, F q → G q) : Fr G w w' := ⟨h.os, h.tape, h.output, h.size, fun q hq hn => h.block q hq (fun hf => hn (hG q hf))⟩
theorem Fr.of_below (h : Below w.heap.size w w') : Fr F w w' := ⟨h.os, h.tape, h.output, h.size, fun q hq _ => h.block q hq⟩
theorem Fr.of_grown {row : Option Nat} (h : w.grownBy w' row) (hr : ∀ q, some q = row → F q) : Fr F w w' := ⟨h.os, h.tape, h.output, h.size, fun q hq hn => h.block q hq (fun e => hn (hr q e))⟩
theorem Fr.below {b : Nat} (h : Fr F w w') (hF : ∀ q, F q → b ≤ q) (hb : b ≤ w.heap.size) : Below b w w' := ⟨h.os, h.tape, h.output, h.size, fun q hq => h.block q (by omega) (fun hf => by have := hF q hf; omega)⟩
theorem Fr.blk (h : Fr F w w') {g : Nat} {o : Obj} (hg : w.heap[g]? = some o) (hn : ¬ F g) : w'.heap[g]? = some o := (h.block g (blk_lt hg) hn).trans hg
theorem Fr.R {α : Type} {d : Kd α} {e base : Nat} {ok : Nat → Prop} {v : Value} {xs : List α} (h : Fr F w w') (hr : d.R e w base ok v xs) (hd : ∀ k, ok k → ¬ F k) : d.R e w' base ok v xs := Kd.R_step hr (fun k ho hk => h.block k hk (hd k ho))
theorem Fr.set (w : World) (g i : Nat) (v : Value) (hF : F g) : Fr F w (w.setCell ⟨g, i, none⟩ v) :=
  ⟨rfl, rfl, rfl, by simp [World.setCell], fun k _ hk => Below.heap_setCell _ _ _ k (fun e => hk (by rw [e]; exact hF))⟩
end
section
variable {P : Program} {α : Type} {d : Kd α} {e base g n c : Nat} {ok : Nat → Prop} {W : World} {xs : List α}
/-- The cells of a row's room are there and may be written. -/
theorem R_room (h : d.R e W base ok (.slice (some ⟨g, 0, none⟩) n c) xs) (j : Nat) (hj : j < c * d.sz) : (W.cell? ⟨g, j, none⟩).isSome = true ∧ W.frozen? ⟨g, j, none⟩ = false := by
  obtain ⟨_, inner, hown, _⟩ := h
  rcases hown.2 with ⟨hv, _⟩ | ⟨g', cap', cur, hv, hb, hh, _, hcm, hcs, htake⟩
  · cases hv
  injection hv with ha _ hc'
  injection ha with ha
  injection ha with hg
  subst hg; subst hc'
  refine ⟨?_, blk_frozen hh _⟩
  rw [cell_of_row W g j cur e (0, 0) hh, Array.getElem?_eq_getElem (by rw [hcs]; exact hj)]
  rfl
/-- Cells behind a row's length are written: the row is as it was. -/
theorem R_behind (h : d.R e W base ok (.slice (some ⟨g, 0, none⟩) n c) xs) (zs : List Value) (o : Nat) (ho : n * d.sz ≤ o) (hc : o + zs.length ≤ c * d.sz) :
    d.R e (W.setCells g o zs) base ok (.slice (some ⟨g, 0, none⟩) n c) xs ∧ W.grownBy (W.setCells g o zs) (some g) := by
  obtain ⟨hn, hnc, _⟩ := Kd.R_reads' h
  subst hn
  obtain ⟨hok, inner, hown, hr⟩ := h
  rcases hown.2 with ⟨hv, _⟩ | ⟨g', cap', cur, hv, hb, hh, _, hcm, hcs, htake⟩
  · cases hv
  injection hv with ha _ hc'
  injection ha with ha
  injection ha with hg
  subst hg; subst hc'
  obtain ⟨cur', h3, h4, h5⟩ := setCells_row zs o W cur hh (by rw [hcs]; exact hc)
  obtain ⟨s1, s2, s3, s4⟩ := setCells_same g zs o W
  have hfar : ∀ k', k' ≠ g → (W.setCells g o zs).heap[k']? = W.heap[k']? := fun k' hk' => setCells_far zs _ k' hk'
  have hgo : some g = (Value.slice (some ⟨g, 0, none⟩) xs.length c).ownBlock := by simp [Value.ownBlock]
  refine ⟨⟨hok, inner, ⟨hown.1, .inr ⟨g, c, cur', rfl, hb, h3, by omega, hcm, by rw [h4, hcs], ?_⟩⟩, ?_⟩, ⟨s1, s2, s3, by rw [s4]; exact Nat.le_refl _, fun k' _ hk' => hfar k' (fun he => hk' (by rw [he]))⟩⟩
  · have hle := Nat.mul_le_mul_right d.sz hnc
    have hlen : cur.toList.length = c * d.sz := by rw [Array.length_toList, hcs]
    rw [h5, List.append_assoc, List.take_append_of_le_length (by rw [List.length_take, hlen]; omega), List.take_take, Nat.min_eq_left ho]
    exact htake
  · exact hr.imp_ (fun p q hp => d.M_move (fun k' hk' => hfar k' (fun he => hk'.2 (by rw [he]; exact hgo))) hp)
end
end Go.Proofs.Ytckeahjlfopaaaa.Hand
