/- Frames with a footprint; what clear leaves of a row of one's own. -/
import Derived.Test.YtamiglolpchplaaWWords
import Derived.Test.YtamiglolpchplaaWLast
import Derived.Test.YtamiglolpchplaaWTab
import Derived.Test.YtamiglolpchplaaWRepsOne
import Derived.Laws.CopyRow
import Derived.Test.YtamiglolpchplaaK1
namespace Go.Proofs.Ytamiglolpchplaa.Hand
open Go.RowKit Go.Proofs.YtamiglolpchplaaW.PrintWords

theorem grown_below {w W : World} (h : Below w.heap.size w W) (row : Option Nat) : w.grownBy W row := ⟨h.os, h.tape, h.output, h.size, fun k hk _ => h.block k hk⟩
theorem grown_set (W : World) (g i : Nat) (v : Value) : W.grownBy (W.setCell ⟨g, i, none⟩ v) (some g) := ⟨rfl, rfl, rfl, by simp [World.setCell], fun k _ hk => Below.heap_setCell _ _ _ k (fun e => hk (by rw [e]))⟩
/-- What existed outside F is as it was. -/
structure Fr (F : Nat → Prop) (w w' : World) : Prop where
  os : w'.os = w.os
  tape : w'.tape = w.tape
  output : w'.output = w.output
  size : w.heap.size ≤ w'.heap.size
  block : ∀ k, k < w.heap.size → ¬ F k → w'.heap[k]? = w.heap[k]?
section
variable {F G : Nat → Prop} {w w' w'' W : World}
theorem Fr.refl (F : Nat → Prop) (w : World) : Fr F w w := ⟨rfl, rfl, rfl, Nat.le_refl _, fun _ _ _ => rfl⟩
theorem Fr.trans (h : Fr F w w') (k : Fr G w' w'') (hG : ∀ q, G q → F q ∨ w.heap.size ≤ q) : Fr F w w'' :=
  ⟨k.os.trans h.os, k.tape.trans h.tape, k.output.trans h.output, Nat.le_trans h.size k.size, fun q hq hF => (k.block q (Nat.lt_of_lt_of_le hq h.size) (fun hg => by rcases hG q hg with h1 | h1; exact hF h1; omega)).trans (h.block q hq hF)⟩
theorem Fr.mono (h : Fr F w w') (hG : ∀ q, F q → G q) : Fr G w w' := ⟨h.os, h.tape, h.output, h.size, fun q hq hn => h.block q hq (fun hf => hn (hG q hf))⟩
theorem Fr.of_below (h : Below w.heap.size w w') : Fr F w w' := ⟨h.os, h.tape, h.output, h.size, fun q hq _ => h.block q hq⟩
theorem Fr.of_grown {row : Option Nat} (h : w.grownBy w' row) (hr : ∀ q, some q = row → F q) : Fr F w w' := ⟨h.os, h.tape, h.output, h.size, fun q hq hn => h.block q hq (fun e => hn (hr q e))⟩
theorem Fr.below {b : Nat} (h : Fr F w w') (hF : ∀ q, F q → b ≤ q) (hb : b ≤ w.heap.size) : Below b w w' := ⟨h.os, h.tape, h.output, h.size, fun q hq => h.block q (by omega) (fun hf => by have := hF q hf; omega)⟩
theorem Fr.blk (h : Fr F w w') {g : Nat} {o : Obj} (hg : w.heap[g]? = some o) (hn : ¬ F g) : w'.heap[g]? = some o := (h.block g (blk_lt hg) hn).trans hg
theorem Fr.R {α : Type} {d : Kd α} {e base : Nat} {ok : Nat → Prop} {v : Value} {xs : List α} (h : Fr F w w') (hr : d.R e w base ok v xs) (hd : ∀ k, ok k → ¬ F k) : d.R e w' base ok v xs := Kd.R_step hr (fun k ho hk => h.block k hk (hd k ho))
theorem Fr.set (w : World) (g i : Nat) (v : Value) (hF : F g) : Fr F w (w.setCell ⟨g, i, none⟩ v) :=
  ⟨rfl, rfl, rfl, by simp [World.setCell], fun k _ hk => Below.heap_setCell _ _ _ k (fun e => hk (by rw [e]; exact hF))⟩
end
section
variable {P : Program} {α : Type} {d : Kd α} {e base g n c : Nat} {ok : Nat → Prop} {W : World} {xs : List α}
/-- The cells of a row's room are there and may be written. -/
theorem R_room (h : d.R e W base ok (.slice (some ⟨g, 0, none⟩) n c) xs) (j : Nat) (hj : j < c * d.sz) : (W.cell? ⟨g, j, none⟩).isSome = true ∧ W.frozen? ⟨g, j, none⟩ = false := by
  obtain ⟨_, inner, hown, _⟩ := h
  rcases hown.2 with ⟨hv, _⟩ | ⟨g', cap', cur, hv, hb, hh, _, hcm, hcs, htake⟩
  · cases hv
  injection hv with ha _ hc'
  injection ha with ha
  injection ha with hg
  subst hg; subst hc'
  refine ⟨?_, blk_frozen hh _⟩
  rw [cell_of_row W g j cur e (0, 0) hh, Array.getElem?_eq_getElem (by rw [hcs]; exact hj)]
  rfl
/-- Cells behind a row's length are written: the row is as it was. -/
theorem R_behind (h : d.R e W base ok (.slice (some ⟨g, 0, none⟩) n c) xs) (zs : List Value) (o : Nat) (ho : n * d.sz ≤ o) (hc : o + zs.length ≤ c * d.sz) :
    d.R e (W.setCells g o zs) base ok (.slice (some ⟨g, 0, none⟩) n c) xs ∧ W.grownBy (W.setCells g o zs) (some g) := by
  obtain ⟨hn, hnc, _⟩ := Kd.R_reads' h
  subst hn
  obtain ⟨hok, inner, hown, hr⟩ := h
  rcases hown.2 with ⟨hv, _⟩ | ⟨g', cap', cur, hv, hb, hh, _, hcm, hcs, htake⟩
  · cases hv
  injection hv with ha _ hc'
  injection ha with ha
  injection ha with hg
  subst hg; subst hc'
  obtain ⟨cur', h3, h4, h5⟩ := setCells_row zs o W cur hh (by rw [hcs]; exact hc)
  obtain ⟨s1, s2, s3, s4⟩ := setCells_same g zs o W
  have hfar : ∀ k', k' ≠ g → (W.setCells g o zs).heap[k']? = W.heap[k']? := fun k' hk' => setCells_far zs _ k' hk'
  have hgo : some g = (Value.slice (some ⟨g, 0, none⟩) xs.length c).ownBlock := by simp [Value.ownBlock]
  refine ⟨⟨hok, inner, ⟨hown.1, .inr ⟨g, c, cur', rfl, hb, h3, by omega, hcm, by rw [h4, hcs], ?_⟩⟩, ?_⟩, ⟨s1, s2, s3, by rw [s4]; exact Nat.le_refl _, fun k' _ hk' => hfar k' (fun he => hk' (by rw [he]))⟩⟩
  · have hle := Nat.mul_le_mul_right d.sz hnc
    have hlen : cur.toList.length = c * d.sz := by rw [Array.length_toList, hcs]
    rw [h5, List.append_assoc, List.take_append_of_le_length (by rw [List.length_take, hlen]; omega), List.take_take, Nat.min_eq_left ho]
    exact htake
  · exact hr.imp_ (fun p q hp => d.M_move (fun k' hk' => hfar k' (fun he => hk'.2 (by rw [he]; exact hgo))) hp)
end
/-- Calls as they lie, raw. -/
def kP : Kd CallP where
  sz := 7
  E := []
  K := fun _ x cs => cs = crP x
  M := fun _ _ _ x cs => cs = crP x
  K_len := fun h => by rw [h]; rfl
  K_one := fun h u hu => by rw [h] at hu; exact crP_one _ u hu
  K_below := fun _ h => h
  K_of_M := fun h => h
  M_mono := fun _ h => h
  M_bound := fun h => h
  M_move := fun _ h => h
  M_lower := fun _ h => h
theorem C_keep {w w1 : World} {A : Option Addr} {n : Nat} {rs : List CallP} (h : Kd.C kP w A n rs) (hk : ∀ ad, A = some ad → w1.heap[ad.block]? = w.heap[ad.block]?) : Kd.C kP w1 A n rs :=
  ⟨h.1, h.2.1, fun hn => by
    obtain ⟨ad, e, hc⟩ := h.2.2 hn
    refine ⟨ad, e, fun j p hj => ?_⟩
    obtain ⟨c, hs, hr, hcell⟩ := hc j p hj
    refine ⟨c, hs, hr, fun i u hi => ?_⟩
    rw [← hcell i u hi]
    refine World.cell?_of_block ?_
    have hb : (ad.add (j * kP.sz + i)).block = ad.block := by unfold Addr.add; split <;> rfl
    rw [hb]; exact hk ad e⟩
theorem at_P {w : World} {A : Option Addr} {n : Nat} {xs : List CallP} (h : Kd.C kP w A n xs) (i : Nat) (h1 : i < n) (x : CallP) (hx : xs[i]? = some x) : ∃ ad, A = some ad ∧ w.cell? (ad.add (i * 7)) = some (.bool x.1.read) ∧ w.cell? ⟨(ad.add (i * 7)).block, (ad.add (i * 7)).off + 1, none⟩ = some (.bool x.1.done) ∧ w.cell? ⟨(ad.add (i * 7)).block, (ad.add (i * 7)).off + 2, none⟩ = some (.int .i64 x.1.bgn) ∧ w.cell? ⟨(ad.add (i * 7)).block, (ad.add (i * 7)).off + 3, none⟩ = some (.int .i64 x.1.fin) ∧ w.cell? ⟨(ad.add (i * 7)).block, (ad.add (i * 7)).off + 4, none⟩ = some (.int .i64 x.1.offset) ∧ w.cell? ⟨(ad.add (i * 7)).block, (ad.add (i * 7)).off + 5, none⟩ = some (.string x.1.value) ∧ w.cell? ⟨(ad.add (i * 7)).block, (ad.add (i * 7)).off + 6, none⟩ = some (.slice x.2.1 x.2.2.1 x.2.2.2) := by
  obtain ⟨ad, e, hc⟩ := h.2.2 (by omega)
  obtain ⟨c, hs, hr, hcell⟩ := hc i x hx
  have hr : c = crP x := hr
  subst hr
  have g : ∀ j u, (crP x)[j]? = some u → w.cell? (ad.add (i * 7 + j)) = some u := hcell
  exact ⟨ad, e, g 0 _ rfl, by rw [← add_field _ _ 1 (by omega)]; exact g 1 _ rfl, by rw [← add_field _ _ 2 (by omega)]; exact g 2 _ rfl, by rw [← add_field _ _ 3 (by omega)]; exact g 3 _ rfl, by rw [← add_field _ _ 4 (by omega)]; exact g 4 _ rfl, by rw [← add_field _ _ 5 (by omega)]; exact g 5 _ rfl, by rw [← add_field _ _ 6 (by omega)]; exact g 6 _ rfl⟩
/-- A call's values lie where its header says. -/
def ValOK (w : World) (r : CallP) : Prop := r.2.2.1 = r.1.values.length ∧ r.2.2.1 ≤ r.2.2.2 ∧ Kd.string.C w r.2.1 r.1.values.length r.1.values
theorem ValOK.below {w w1 : World} {r : CallP} (h : ValOK w r) (hb : Below w.heap.size w w1) : ValOK w1 r := ⟨h.1, h.2.1, Kd.C_below h.2.2 hb⟩
end Go.Proofs.Ytamiglolpchplaa.Hand
