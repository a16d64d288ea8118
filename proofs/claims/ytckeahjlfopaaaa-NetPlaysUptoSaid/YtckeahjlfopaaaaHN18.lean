/- A net and the document's net side by side: what a call leaves of both. -/
import Derived.Test.YtckeahjlfopaaaaHN17
import Derived.Test.YtckeahjlfopaaaaHN10
namespace Go.Proofs.Ytckeahjlfopaaaa.Hand
open Go.RowKit Go.Proofs.Ytckeahjlfopaaaa Go.Proofs.YtckeahjlfopaaaaW.PrintWords Go.Proofs.YtckeahjlfopaaaaW.PrintLast
set_option linter.unusedVariables false
set_option linter.unusedSimpArgs false
/-- Both nets hold the same; all of it lies in F. -/
structure PI (W : World) (F : Nat → Prop) (g r : Nat) (lu : List Int) (la : List (Int × List Int)) : Prop where
  ex : ∃ F1 F2 : Nat → Prop, NI W F1 g lu la ∧ RI W F2 r lu la ∧ (∀ k, F1 k → F k) ∧ (∀ k, F2 k → F k ∧ ¬ F1 k)
  lt : ∀ k, F k → k < W.heap.size
theorem PI.frame {W W' : World} {F G : Nat → Prop} {g r : Nat} {lu : List Int} {la : List (Int × List Int)} (h : PI W F g r lu la) (hf : Fr G W W') (hd : ∀ k, F k → ¬ G k) : PI W' F g r lu la := by
  obtain ⟨⟨F1, F2, h1, h2, h3, h4⟩, h5⟩ := h
  exact ⟨⟨F1, F2, h1.frame hf (fun k hk => hd k (h3 k hk)), h2.frame hf (fun k hk => hd k (h4 k hk).1), h3, h4⟩, fun k hk => Nat.lt_of_lt_of_le (h5 k hk) hf.size⟩
theorem PI.below {W W' : World} {F : Nat → Prop} {g r : Nat} {lu : List Int} {la : List (Int × List Int)} (h : PI W F g r lu la) (hb : Below W.heap.size W W') : PI W' F g r lu la := h.frame (G := fun _ => False) (Fr.of_below hb) (fun _ _ => id)
/-- Within a call on both: since W0, where all lay in F0; a box at q. -/
structure PX (F0 : Nat → Prop) (W0 : World) (F1 F2 : Nat → Prop) (W : World) (g r : Nat) (lu : List Int) (la : List (Int × List Int)) (lu2 : List Int) (la2 : List (Int × List Int)) (q : Nat) (ob : Obj) : Prop where
  n : NI W F1 g lu la
  d : RI W F2 r lu2 la2
  h1 : ∀ k, F1 k → (F0 k ∨ W0.heap.size ≤ k) ∧ k ≠ q
  h2 : ∀ k, F2 k → (F0 k ∨ W0.heap.size ≤ k) ∧ k ≠ q ∧ ¬ F1 k
  box : W.heap[q]? = some ob
  qs : W0.heap.size ≤ q
  fr : Fr F0 W0 W
section
variable {F0 F1 F2 F1' F2' G : Nat → Prop} {W0 W W' : World} {g r q : Nat} {lu lu' lu2 lu2' : List Int} {la la' la2 la2' : List (Int × List Int)} {ob : Obj}
theorem PX.start (h : PI W F0 g r lu la) (ob : Obj) : ∃ F1 F2, PX F0 W F1 F2 (W.alloc ob) g r lu la lu la W.heap.size ob := by
  obtain ⟨⟨F1, F2, h1, h2, h3, h4⟩, h5⟩ := h
  have hb := below_alloc (Below.refl W.heap.size W) ob
  refine ⟨F1, F2, h1.below hb, h2.below hb, fun k hk => ⟨.inl (h3 k hk), ?_⟩, fun k hk => ⟨.inl (h4 k hk).1, ?_, (h4 k hk).2⟩, heap_alloc_new W ob, Nat.le_refl _, Fr.of_below hb⟩
  · have := h5 k (h3 k hk); omega
  · have := h5 k (h4 k hk).1; omega
theorem PX.below (h : PX F0 W0 F1 F2 W g r lu la lu2 la2 q ob) (hb : Below W.heap.size W W') : PX F0 W0 F1 F2 W' g r lu la lu2 la2 q ob :=
  ⟨h.n.below hb, h.d.below hb, h.h1, h.h2, blk_below h.box hb, h.qs, h.fr.trans (Fr.of_below (F := fun _ => False) hb) (fun _ h => h.elim)⟩
theorem PX.net (h : PX F0 W0 F1 F2 W g r lu la lu2 la2 q ob) (k1 : NI W' F1' g lu' la') (k2 : ∀ k, F1' k → F1 k ∨ W.heap.size ≤ k) (k3 : Fr F1 W W') : PX F0 W0 F1' F2 W' g r lu' la' lu2 la2 q ob := by
  refine ⟨k1, h.d.frame k3 (fun k hk => (h.h2 k hk).2.2), fun k hk => ?_, fun k hk => ⟨(h.h2 k hk).1, (h.h2 k hk).2.1, fun he => ?_⟩, k3.blk h.box (fun he => (h.h1 q he).2 rfl), h.qs, h.fr.trans k3 (fun k hk => (h.h1 k hk).1)⟩
  · rcases k2 k hk with h' | h'
    · exact h.h1 k h'
    · exact ⟨.inr (Nat.le_trans h.fr.size h'), by have := blk_lt h.box; omega⟩
  · rcases k2 k he with h' | h'
    · exact (h.h2 k hk).2.2 h'
    · have := h.d.lt k hk; omega
theorem PX.ref (h : PX F0 W0 F1 F2 W g r lu la lu2 la2 q ob) (k1 : RI W' F2' r lu2' la2') (k2 : ∀ k, F2' k → F2 k ∨ W.heap.size ≤ k) (k3 : Fr F2 W W') : PX F0 W0 F1 F2' W' g r lu la lu2' la2' q ob := by
  refine ⟨h.n.frame k3 (fun k hk he => (h.h2 k he).2.2 hk), k1, h.h1, fun k hk => ?_, k3.blk h.box (fun he => (h.h2 q he).2.1 rfl), h.qs, h.fr.trans k3 (fun k hk => (h.h2 k hk).1)⟩
  rcases k2 k hk with h' | h'
  · exact h.h2 k h'
  · exact ⟨.inr (Nat.le_trans h.fr.size h'), by have := blk_lt h.box; omega, fun he => by have := h.n.lt k he; omega⟩
theorem PX.stop (h : PX F0 W0 F1 F2 W g r lu la lu la q ob) (h0 : ∀ k, F0 k → k < W0.heap.size) : ∃ F, PI W F g r lu la ∧ (∀ k, F k → F0 k ∨ W0.heap.size ≤ k) ∧ Fr F0 W0 W :=
  ⟨fun k => F1 k ∨ F2 k, ⟨⟨F1, F2, h.n, h.d, fun k hk => .inl hk, fun k hk => ⟨.inr hk, (h.h2 k hk).2.2⟩⟩, fun k hk => hk.elim (h.n.lt k) (h.d.lt k)⟩, fun k hk => hk.elim (fun h' => (h.h1 k h').1) (fun h' => (h.h2 k h').1), h.fr⟩
end
end Go.Proofs.Ytckeahjlfopaaaa.Hand
