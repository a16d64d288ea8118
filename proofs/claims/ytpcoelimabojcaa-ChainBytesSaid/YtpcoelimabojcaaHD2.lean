/- The closure that catches what Decode gives up with. -/
import Derived.Test.YtpcoelimabojcaaHC6
namespace Go.Proofs.Ytpcoelimabojcaa.Hand
open Go.RowKit Go.Proofs.Ytpcoelimabojcaa Go.Proofs.YtpcoelimabojcaaW.PrintWords Go.Proofs.YtpcoelimabojcaaW.PrintLast
set_option linter.unusedVariables false
set_option linter.unusedSimpArgs false
theorem idle42 (p q : Addr) (w : World) :
    CallsD Try.prog 42 #[.pointer (some p), .pointer (some q)] .returning w fun e u' w' => e = .returned (.tuple #[]) ∧ u' = .returning ∧ w' = w := by
  refine callsD_of_wpS Try.func42 rfl fun c₀ cs hu => ?_
  apply wpS_seq
  apply wpS_region
  simp [wpOpsS, go_sem, recoverD, hu, Try.ntmps42, Exit.thenS]
  refine wpS_cond (t := false) (by simp [Act.eval, Array.replicate]) ?_
  simp only [Bool.false_eq_true, if_false]
  refine wpS_of_wp (wp_skip ?_)
  cases c₀
  simp_all [bodyPostS, results, Try.results42]
set_option maxHeartbeats 1600000 in
set_option maxRecDepth 100000 in
theorem catch42 (g h : Nat) (x y z : Value) (e0 : Int) (ev : Int) (older : List PanicEntry) (w : World) (hg : w.heap[g]? = some (.cells #[x, y, z] 27 (0, 0))) (hh : w.heap[h]? = some (.cells #[.int .i64 e0] 37 (0, 0))) (hgh : g ≠ h) :
    CallsD Try.prog 42 #[.pointer (some ⟨g, 0, none⟩), .pointer (some ⟨h, 0, none⟩)] (.panicking ({ v := .iface 37 (.int .i64 ev), recovered := false } :: older)) w fun e u' w' =>
      e = .returned (.tuple #[]) ∧ u' = .panicking ({ v := .iface 37 (.int .i64 ev), recovered := true } :: older) ∧ w'.heap[g]? = some (.cells #[.int .i64 0, .int .i64 0, .slice none 0 0] 27 (0, 0)) ∧ w'.heap[h]? = some (.cells #[.int .i64 22] 37 (0, 0)) ∧ ∀ b, b ≤ g → b ≤ h → b ≤ w.heap.size → Below b w w' := by
  refine callsD_of_wpS Try.func42 rfl fun c₀ cs hu => ?_
  apply wpS_seq
  apply wpS_region
  simp [wpOpsS, go_sem, recoverD, hu, Try.ntmps42, Exit.thenS]
  refine wpS_of_wp ?_
  simp only [Array.replicate, List.replicate, List.setIfInBounds_toArray, List.set_cons_zero, List.set_cons_succ, List.append_toArray, List.cons_append, List.nil_append]
  have z0 : w.cell? ⟨g, 0, none⟩ = some x := (blk_cell hg 0).trans rfl
  have z1 : w.cell? ⟨g, 1, none⟩ = some y := (blk_cell hg 1).trans rfl
  have z2 : w.cell? ⟨g, 2, none⟩ = some z := (blk_cell hg 2).trans rfl
  have f0 := blk_frozen hg 0
  have f1 := blk_frozen hg 1
  have f2 := blk_frozen hg 2
  have y0 : w.cell? ⟨h, 0, none⟩ = some (.int .i64 e0) := (blk_cell hh 0).trans rfl
  have y1 := blk_frozen hh 0
  have BG := Aside0.mk hg
  have BH := Aside0.mk hh
  have HGH := Aside0.mk hgh
  clear hg hh
  go_wp2_with fail
  have K1 := put3 (x := .int .i64 0) (y := .int .i64 0) (z := .slice none 0 0) BG.out
  have KH := (Below.heap_setCell _ ⟨g, 2, none⟩ (.slice none 0 0) h (by simpa using HGH.out.symm)).trans ((Below.heap_setCell _ ⟨g, 1, none⟩ (.int .i64 0) h (by simpa using HGH.out.symm)).trans ((Below.heap_setCell w ⟨g, 0, none⟩ (.int .i64 0) h (by simpa using HGH.out.symm)).trans BH.out))
  have KG := (Below.heap_setCell _ ⟨h, 0, none⟩ (.int .i64 22) g (by simpa using HGH.out)).trans K1
  have KH4 := blk_put KH 0 (.int .i64 22) rfl
  exact ⟨rfl, _, rfl, _, results_none rfl _ _ _, rfl, rfl, KG, KH4, fun b h1 h2 h3 => (put3_B (x := .int .i64 0) (y := .int .i64 0) (z := .slice none 0 0) (Below.refl b w) h1).setCell (p := ⟨h, 0, none⟩) h2 (.int .i64 22)⟩
end Go.Proofs.Ytpcoelimabojcaa.Hand
