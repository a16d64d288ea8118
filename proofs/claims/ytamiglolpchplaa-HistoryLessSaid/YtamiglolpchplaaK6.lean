/- May a call be, by itself? -/
import Derived.Test.YtamiglolpchplaaK5
import Derived.Laws.Strings
namespace Go.Proofs.Ytamiglolpchplaa.Hand
open Go.RowKit Go.Proofs.Ytamiglolpchplaa Go.Proofs.YtamiglolpchplaaW.PrintWords Go.Proofs.YtamiglolpchplaaW.PrintLast
set_option linter.unusedVariables false
set_option linter.unusedSimpArgs false
/-- Is its end told as it should be? -/
def toldF (c : CallV) : Bool := if c.done = true then decide (c.bgn < c.fin) && decide (c.fin ≤ 1000000000) else decide (c.fin = 0) && decide (c.offset = 0) && decide ((c.values.length : Int) = 0)
def kindF (c : CallV) : Bool := if c.read = true then decide (c.value = (⟨#[]⟩ : ByteArray)) && decide (c.offset = 0) && decide ((c.values.length : Int) ≤ 1000) else decide ((c.values.length : Int) = 0) && decide (0 ≤ c.offset) && decide (c.offset < 1000)
def aloneF (c : CallV) : Bool := decide (0 ≤ c.bgn) && decide (c.bgn ≤ 1000000000) && toldF c && kindF c
theorem ba_nil (s : ByteArray) : s = (⟨#[]⟩ : ByteArray) ↔ s.toList = [] := by
  rw [ByteArray.toList_eq]
  constructor
  · intro h; rw [h]
  · intro h
    have e : s.data = #[] := Array.toList_inj.1 (by simpa using h)
    cases s; simp only at e; rw [e]
theorem retB {a b : Bool} (h : a = b) : Ending.returned (.bool a) = .returned (.bool b) := by rw [h]
set_option maxHeartbeats 8000000 in
set_option maxRecDepth 100000 in
theorem alone_c (r : CallP) (hl : r.2.2.1 = r.1.values.length) (w : World) : Calls Try.prog 19 #[.agg (crP r).toArray] w fun e w' => e = .returned (.bool (aloneF r.1)) ∧ Below w.heap.size w w' := by
  obtain ⟨⟨rd, dn, bg, fi, of, va, vs⟩, A, n, c⟩ := r
  dsimp only at hl
  obtain ⟨b, hb⟩ : ∃ b, b = aloneF ⟨rd, dn, bg, fi, of, va, vs⟩ := ⟨_, rfl⟩
  unfold crP
  dsimp only
  rw [← hb]
  unfold aloneF toldF kindF at hb
  dsimp only at hb
  rw [← hl] at hb
  have HB := Aside0.mk hb
  clear hb hl
  cases dn <;> cases rd
  all_goals go_enter Try.func19, Try.ntmps19
  all_goals (go_wp2_with fail)
  all_goals (go_ret; refine ⟨retB ?_, by repeat (first | exact Below.refl _ _ | apply below_alloc)⟩; have hb := HB.out; clear HB; subst hb)
  all_goals ((try simp only [ba_nil]); first | (simp_all; done) | (simp_all; omega))
end Go.Proofs.Ytamiglolpchplaa.Hand
