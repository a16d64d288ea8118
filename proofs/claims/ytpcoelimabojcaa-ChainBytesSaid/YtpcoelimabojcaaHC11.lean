/- Check of a chain. -/
import Derived.Test.YtpcoelimabojcaaHC10
namespace Go.Proofs.Ytpcoelimabojcaa.Hand
open Go.RowKit Go.Proofs.Ytpcoelimabojcaa Go.Proofs.YtpcoelimabojcaaW.PrintWords Go.Proofs.YtpcoelimabojcaaW.PrintLast
set_option linter.unusedVariables false
set_option linter.unusedSimpArgs false
theorem idle38 (q : Addr) (w : World) :
    CallsD Try.prog 38 #[.pointer (some q)] .returning w fun e u' w' => e = .returned (.tuple #[]) ∧ u' = .returning ∧ w' = w := by
  refine callsD_of_wpS Try.func38 rfl fun c₀ cs hu => ?_
  apply wpS_seq
  apply wpS_region
  simp [wpOpsS, go_sem, recoverD, hu, Try.ntmps38, Exit.thenS]
  apply wpS_seq
  apply wpS_region
  simp [wpOpsS, go_sem, recoverD, hu, Exit.thenS]
  refine wpS_cond (t := false) (by simp [Act.eval, Array.replicate]) ?_
  simp only [Bool.false_eq_true, if_false]
  refine wpS_of_wp (wp_skip ?_)
  cases c₀
  simp_all [bodyPostS, results, Try.results38]
set_option maxRecDepth 100000 in
theorem catch38 (h : Nat) (e0 : Int) (ev : Int) (older : List PanicEntry) (w : World) (hh : w.heap[h]? = some (.cells #[.int .i64 e0] 37 (0, 0))) :
    CallsD Try.prog 38 #[.pointer (some ⟨h, 0, none⟩)] (.panicking ({ v := .iface 37 (.int .i64 ev), recovered := false } :: older)) w fun e u' w' =>
      e = .returned (.tuple #[]) ∧ u' = .panicking ({ v := .iface 37 (.int .i64 ev), recovered := true } :: older) ∧ w'.heap[h]? = some (.cells #[.int .i64 ev] 37 (0, 0)) ∧ ∀ b, b ≤ h → Below b w w' := by
  refine callsD_of_wpS Try.func38 rfl fun c₀ cs hu => ?_
  apply wpS_seq
  apply wpS_region
  simp [wpOpsS, go_sem, recoverD, hu, Try.ntmps38, Exit.thenS]
  refine wpS_of_wp ?_
  simp only [Array.replicate, List.replicate, List.setIfInBounds_toArray, List.set_cons_zero, List.set_cons_succ, List.append_toArray, List.cons_append, List.nil_append]
  have BH := Aside0.mk hh
  have z0 : w.cell? ⟨h, 0, none⟩ = some (.int .i64 e0) := (blk_cell hh 0).trans rfl
  have f0 := blk_frozen hh 0
  clear hh
  have hta := ta37 ev
  go_wp2_with fail
  exact ⟨rfl, _, rfl, _, results_none rfl _ _ _, rfl, rfl, blk_put BH.out 0 (.int .i64 ev) rfl, fun b hb => (Below.refl b w).setCell (p := ⟨h, 0, none⟩) hb (.int .i64 ev)⟩
/-- An error, by whether it is right. -/
def errB (b : Bool) : Int := match b with | true => 0 | false => 1
set_option maxHeartbeats 1600000 in
set_option maxRecDepth 100000 in
theorem check_c (ow tr n : Int) (A : Option Addr) (c : Nat) (ps : List PartV) (W : World) (hr : Kd.C k53 W A ps.length ps) :
    Calls Try.prog 19 #[.agg #[.int .i64 ow, .int .i64 tr, .slice A ps.length c], .int .i64 n] W fun e W' => e = .returned (.int .i64 (errB (rightF ow tr ps n))) ∧ Below W.heap.size W W' := by
  obtain ⟨o1, ho1⟩ : ∃ o1 : Obj, o1 = .cells #[.int .i64 ow, .int .i64 tr, .slice A ps.length c] 27 (0, 0) := ⟨_, rfl⟩
  obtain ⟨o2, ho2⟩ : ∃ o2 : Obj, o2 = .cells #[.int .i64 0] 37 (0, 0) := ⟨_, rfl⟩
  have e1 : (W.alloc o1).heap.size = W.heap.size + 1 := Array.size_push _
  have b2 := heap_alloc_new (W.alloc o1) o2
  rw [e1] at b2
  have BE := Aside0.mk b2
  have hb := below_alloc (below_alloc (Below.refl W.heap.size W) o1) o2
  have HB := Aside0.mk hb
  have HC := Aside0.mk (Kd.C_below hr hb)
  subst ho1 ho2
  clear b2 e1 hb hr
  go_enter_defers Try.func19, Try.ntmps19
  go_wp2_with fail
  refine (right_c ow tr n A c ps _ HC.out).mono ?_
  rintro e W1 ⟨⟨hb, rfl⟩ | ⟨hb, rfl⟩, bel⟩
  · have BE1 := Aside0.mk (blk_below BE.out bel)
    have HB1 := Aside0.mk (below_step HB.out bel)
    have z0 : W1.cell? ⟨W.heap.size + 1, 0, none⟩ = some (.int .i64 0) := (blk_cell BE1.out 0).trans rfl
    have f0 := blk_frozen BE1.out 0
    have HE := Aside0.mk hb
    clear bel BE HB HC hb
    go_wp2_with fail
    refine leaves_cons (f := 38) (args := #[.pointer (some ⟨W.heap.size + 1, 0, none⟩)]) (by simp) (by simp [go_sem]) ?_
    refine (idle38 ⟨W.heap.size + 1, 0, none⟩ _).mono ?_
    rintro e u' w'' ⟨rfl, rfl, rfl⟩
    have BE2 := blk_put BE1.out 0 (.int .i64 0) rfl
    have r0 : (W1.setCell ⟨W.heap.size + 1, 0, none⟩ (.int .i64 0)).cell? ⟨W.heap.size + 1, 0, none⟩ = some (.int .i64 0) := (blk_cell BE2 0).trans rfl
    have HB2 := HB1.out.setCell (p := ⟨W.heap.size + 1, 0, none⟩) (Nat.le_succ _) (.int .i64 0)
    exact ⟨.int .i64 0, by simp [results, Try.results19, go_sem, r0], by rw [HE.out]; rfl, HB2⟩
  · have BE1 := Aside0.mk (blk_below BE.out bel)
    have HB1 := Aside0.mk (below_step HB.out bel)
    have HE := Aside0.mk hb
    clear bel BE HB HC hb
    refine leaves_cons (f := 38) (args := #[.pointer (some ⟨W.heap.size + 1, 0, none⟩)]) (by simp) (by simp [go_sem]) ?_
    refine (catch38 (W.heap.size + 1) 0 1 [] W1 BE1.out).mono ?_
    rintro e u' w'' ⟨rfl, rfl, h1, h2⟩
    have r0 : w''.cell? ⟨W.heap.size + 1, 0, none⟩ = some (.int .i64 1) := (blk_cell h1 0).trans rfl
    have HB2 := HB1.out.trans (h2 W.heap.size (Nat.le_succ _))
    exact ⟨.int .i64 1, by simp [results, Try.results19, go_sem, r0], by rw [HE.out]; rfl, HB2⟩
end Go.Proofs.Ytpcoelimabojcaa.Hand
