/- The document's book is changed. -/
import Derived.Test.YtofegigbhohebaaTE6
namespace Go.Proofs.Ytofegigbhohebaa.Hand
open Go.RowKit Go.Proofs.Ytofegigbhohebaa Go.Proofs.YtofegigbhohebaaW.PrintWords
set_option linter.unusedVariables false
set_option linter.unusedSimpArgs false
/-- The book has changed, nothing else has. -/
def DoR (own : Nat → Prop) (gb : Nat) (ps' : List ProdV) (w w' : World) : Prop := ∃ own' rs', RB own' gb rs' w' ∧ psOf rs' = ps' ∧ FrP own w w' ∧ ∀ k, k < w.heap.size → own' k → own k
variable {own : Nat → Prop} {gb : Nat} {rs : List RP} {w w' : World}
theorem DoR.same (h : RB own gb rs w) (hb : Below w.heap.size w w') : DoR own gb (psOf rs) w w' := ⟨own, rs, h.below hb, rfl, FrP.below own hb, fun _ _ h => h⟩
/-- One producer of the book is being changed. -/
structure RW (own : Nat → Prop) (gb : Nat) (rs : List RP) (x : EvV) (k g c : Nat) (cur0 cur : Array Value) (r : RP) (w0 wq w : World) : Prop where
  q : RQ own gb rs x w0 wq
  bk : wq.heap[gb]? = some (.cells #[.slice (some ⟨g, 0, none⟩) rs.length c] 55 (0, 0))
  hg : wq.heap[g]? = some (.cells cur0 127 (0, 0))
  hk : k < rs.length
  og : own g
  gr : wq.grownBy w (some g)
  now : w.heap[g]? = some (.cells cur 127 (0, 0))
  pu : PU (k * 6) cur0 cur r
  pv : Kd.R (Kd.int .i64) 3 w 0 (fun y => (own y ∧ y ≠ g) ∨ wq.heap.size ≤ y) r.2 r.1.places
variable {x : EvV} {k g c : Nat} {cur0 cur cur' : Array Value} {r r' : RP} {w0 wq : World}
theorem RW.start (h : RQ own gb rs x w0 w) (k : Nat) (r : RP) (hr : rs[k]? = some r) : ∃ g c cur, RW own gb rs x k g c cur cur r w0 w w := by
  obtain ⟨A, c, hb, hmax, hrow⟩ := h.rb.read
  obtain ⟨g, cur, hA, hog, hg, hc⟩ := hrow k r hr
  subst hA
  refine ⟨g, c, cur, h, hb, hg, (List.getElem?_eq_some_iff.1 hr).1, hog, ⟨rfl, rfl, rfl, Nat.le_refl _, fun _ _ _ => rfl⟩, hg, ⟨rfl, fun _ _ => rfl, hc⟩, ?_⟩
  refine Kd.R_mono (Kd.R_bound (h.rb.each r (List.mem_iff_getElem?.2 ⟨k, hr⟩))) (fun y hy => .inl ⟨hy.1, ?_⟩)
  obtain ⟨_, _, _, t, ht, cs, hcs⟩ := hy
  intro e
  subst e
  rw [hg] at hcs
  injection hcs with hcs
  injection hcs with h1 h2
  subst h2
  exact absurd ht (by simp [Kd.E, Kd.int, Kd.scalar])
theorem RW.box (h : RW own gb rs x k g c cur0 cur r w0 wq w) : w.heap[w0.heap.size]? = some (.cells (evA x) 35 (0, 0)) :=
  (h.gr.block _ (blk_lt h.q.box) (fun e => by injection e with e; exact blk_ne h.q.box h.hg (by decide) e)).trans h.q.box
theorem RW.bk' (h : RW own gb rs x k g c cur0 cur r w0 wq w) : w.heap[gb]? = some (.cells #[.slice (some ⟨g, 0, none⟩) rs.length c] 55 (0, 0)) :=
  (h.gr.block _ (blk_lt h.bk) (fun e => by injection e with e; exact blk_ne h.bk h.hg (by decide) e)).trans h.bk
theorem RW.lt (h : RW own gb rs x k g c cur0 cur r w0 wq w) : g < wq.heap.size := blk_lt h.hg
/-- Its row is written by a call that leaves its places where they are. -/
theorem RW.call (h : RW own gb rs x k g c cur0 cur r w0 wq w) (hn : w'.heap[g]? = some (.cells cur' 127 (0, 0))) (hp : PU (k * 6) cur0 cur' r') (hg : w.grownBy w' (some g)) (e1 : r'.2 = r.2) (e2 : r'.1.places = r.1.places) : RW own gb rs x k g c cur0 cur' r' w0 wq w' := by
  refine ⟨h.q, h.bk, h.hg, h.hk, h.og, World.grownBy.trans h.gr hg, hn, hp, ?_⟩
  rw [e1, e2]
  refine Kd.R_mono (Kd.R_step (Kd.R_bound h.pv) (fun y hy hlt => hg.block y hlt (fun e => ?_))) (fun y hy => hy.1)
  injection e with e
  subst e
  rcases hy.1 with hy | hy
  · exact hy.2 rfl
  · have := h.lt; omega
/-- .. or by one that gives it new ones. -/
theorem RW.callNew (h : RW own gb rs x k g c cur0 cur r w0 wq w) (hn : w'.heap[g]? = some (.cells cur' 127 (0, 0))) (hp : PU (k * 6) cur0 cur' r') (hg : w.grownBy w' (some g)) (hR : Kd.R (Kd.int .i64) 3 w' 0 (fun y => w.heap.size ≤ y) r'.2 r'.1.places) : RW own gb rs x k g c cur0 cur' r' w0 wq w' :=
  ⟨h.q, h.bk, h.hg, h.hk, h.og, World.grownBy.trans h.gr hg, hn, hp, Kd.R_mono hR (fun y hy => .inr (Nat.le_trans h.gr.size hy))⟩
theorem RW.set (h : RW own gb rs x k g c cur0 cur r w0 wq w) (j : Nat) (hj : j < 6) (v : Value) (r' : RP) (e : (rpL r).set j v = rpL r') (e1 : r'.2 = r.2) (e2 : r'.1.places = r.1.places) : RW own gb rs x k g c cur0 (cur.setIfInBounds (k * 6 + j) v) r' w0 wq (w.setCell ⟨g, k * 6 + j, none⟩ v) :=
  h.call (blk_put h.now _ _ rfl) (h.pu.set j hj v r' e) (setCell_grown _ _ _ _) e1 e2
theorem psOf_set (rs : List RP) (k : Nat) (r : RP) : psOf (rs.set k r) = (psOf rs).set k r.1 := by unfold psOf; rw [List.map_set]
theorem RW.done (h : RW own gb rs x k g c cur0 cur r w0 wq w) {r0 : RP} (hr : rs[k]? = some r0) : DoR own gb ((psOf rs).set k r.1) w0 w := by
  have hRB := h.q.rb.put (A := none) (own' := fun y => own y ∨ (wq.heap.size ≤ y ∧ y < w.heap.size)) hr h.bk h.hg h.gr.size (fun y hy hne => h.gr.block y (h.q.rb.lt y hy) (fun e => hne (by injection e))) (fun y hy => .inl hy) (fun y hy => by
    rcases hy with hy | hy
    · exact Nat.lt_of_lt_of_le (h.q.rb.lt y hy) h.gr.size
    · exact hy.2) h.now h.pu.size (fun j hj => h.pu.oth j (by omega)) h.pu.new (Kd.R_mono (Kd.R_bound h.pv) (fun y hy => by
      rcases hy.1 with h1 | h1
      · exact .inl h1.1
      · exact .inr ⟨h1, hy.2.2.1⟩))
  refine ⟨_, _, hRB, psOf_set _ _ _, ?_, fun y hy ho => ?_⟩
  · exact (FrP.below own h.q.below).trans (FrP.grown h.gr h.og) (fun _ _ h => h)
  · rcases ho with ho | ho
    · exact ho
    · have := h.q.below.size
      omega
end Go.Proofs.Ytofegigbhohebaa.Hand
