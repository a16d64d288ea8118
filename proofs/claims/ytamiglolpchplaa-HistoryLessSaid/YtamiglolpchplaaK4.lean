/- What a call by itself says; the small closures. -/
import Derived.Test.YtamiglolpchplaaK3
namespace Go.Proofs.Ytamiglolpchplaa.Hand
open Go.RowKit Go.Proofs.Ytamiglolpchplaa Go.Proofs.YtamiglolpchplaaW.PrintWords Go.Proofs.YtamiglolpchplaaW.PrintLast
set_option linter.unusedVariables false
set_option linter.unusedSimpArgs false
def rankF (c : CallV) : Int := if c.read = true then 2 * (c.values.length : Int) else 2 * c.offset + 1
/-- Its numbers are small. -/
structure SmallC (c : CallV) : Prop where
  o0 : 0 ≤ c.offset
  o1 : c.offset < 1000
  vs : c.values.length ≤ 1000
theorem retV {f : Func} {v v' : Value} (h : v = v') : (Ending.returned v) = .returned v' := by rw [h]
set_option maxRecDepth 100000 in
theorem rank_c (r : CallP) (hl : r.2.2.1 = r.1.values.length) (hs : SmallC r.1) (w : World) : Calls Try.prog 27 #[.agg (crP r).toArray] w fun e w' => e = .returned (.int .i64 (rankF r.1)) ∧ Below w.heap.size w w' := by
  obtain ⟨⟨rd, dn, bg, fi, of, va, vs⟩, A, n, c⟩ := r
  obtain ⟨h0, h1, h2⟩ := hs
  dsimp only at hl h0 h1 h2
  unfold crP rankF
  dsimp only
  subst hl
  obtain ⟨k, hk⟩ : ∃ k, vs.length = k := ⟨_, rfl⟩
  rw [hk] at h2 ⊢
  have e1 : wrap64 (2 * (k : Int)) = 2 * (k : Int) := by unfold wrap64; omega
  have e2 : wrap64 (2 * of) = 2 * of := by unfold wrap64; omega
  have e3 : wrap64 (2 * of + 1) = 2 * of + 1 := by unfold wrap64; omega
  clear h0 h1 h2 hk
  cases rd
  · go_enter Try.func27, Try.ntmps27
    go_wp2_with fail
    go_ret
    exact ⟨by (first | rfl | (rw [e3]; rfl) | (rw [e2, e3]; rfl)), below_alloc (Below.refl _ _) _⟩
  · go_enter Try.func27, Try.ntmps27
    go_wp2_with fail
    go_ret
    exact ⟨by (first | rfl | (rw [e1]; rfl)), below_alloc (Below.refl _ _) _⟩
set_option maxRecDepth 100000 in
theorem isDone_c (r : CallP) (w : World) : Calls Try.prog 22 #[.agg (crP r).toArray] w fun e w' => e = .returned (.bool r.1.done) ∧ Below w.heap.size w w' := by
  obtain ⟨⟨rd, dn, bg, fi, of, va, vs⟩, A, n, c⟩ := r
  unfold crP
  dsimp only
  go_enter Try.func22, Try.ntmps22
  go_wp2_with fail
  go_ret
  exact ⟨rfl, below_alloc (Below.refl _ _) _⟩
set_option maxRecDepth 100000 in
theorem isPending_c (r : CallP) (w : World) : Calls Try.prog 23 #[.agg (crP r).toArray] w fun e w' => e = .returned (.bool (!r.1.done && !r.1.read)) ∧ Below w.heap.size w w' := by
  obtain ⟨⟨rd, dn, bg, fi, of, va, vs⟩, A, n, c⟩ := r
  unfold crP
  dsimp only
  cases dn <;> cases rd <;> go_enter Try.func23, Try.ntmps23 <;> (go_wp2_with fail) <;> go_ret <;> exact ⟨rfl, below_alloc (Below.refl _ _) _⟩
end Go.Proofs.Ytamiglolpchplaa.Hand
