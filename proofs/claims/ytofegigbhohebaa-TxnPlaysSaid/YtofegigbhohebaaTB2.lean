/- (Event).right. -/
import Derived.Test.YtofegigbhohebaaTB1
namespace Go.Proofs.Ytofegigbhohebaa.Hand
open Go.RowKit Go.Proofs.Ytofegigbhohebaa Go.Proofs.YtofegigbhohebaaW.PrintWords Go.Proofs.YtofegigbhohebaaW.PrintLast
set_option linter.unusedVariables false
set_option linter.unusedSimpArgs false
set_option maxHeartbeats 1600000 in
set_option maxRecDepth 100000 in
theorem in_c (n b : Int) (W : World) : Calls Try.prog 65 #[.int .i64 n, .int .i64 b] W fun e W' => e = .returned (.bool (inE n b)) ∧ W' = W := by
  by_cases h0 : 0 ≤ n
  · go_enter Try.func65, Try.ntmps65
    go_wp2_with fail
    go_ret
    exact ⟨by simp [inE, h0], rfl⟩
  · go_enter Try.func65, Try.ntmps65
    go_wp2_with fail
    go_ret
    exact ⟨by simp [inE]; omega, rfl⟩
theorem retB {a b : Bool} (h : a = b) : Ending.returned (.bool a) = .returned (.bool b) := by rw [h]
set_option maxHeartbeats 3200000 in
set_option maxRecDepth 100000 in
theorem right_c (x : EvV) (W : World) : Calls Try.prog 38 #[evE x] W fun e W' => e = .returned (.bool (rightE x)) ∧ Below W.heap.size W W' := by
  obtain ⟨kind, name, producer, epoch, place, timeout, now, yes⟩ := x
  obtain ⟨o1, ho1⟩ : ∃ o1 : Obj, o1 = .cells #[.int .i64 kind, .string name, .int .i64 producer, .int .i64 epoch, .int .i64 place, .int .i64 timeout, .int .i64 now, .bool yes] 33 (0, 0) := ⟨_, rfl⟩
  have b1 := heap_alloc_new W o1
  rw [ho1] at b1
  have x0 := (blk_cell b1 0).trans rfl
  have x1 := (blk_cell b1 1).trans rfl
  have x2 := (blk_cell b1 2).trans rfl
  have x3 := (blk_cell b1 3).trans rfl
  have x4 := (blk_cell b1 4).trans rfl
  have x5 := (blk_cell b1 5).trans rfl
  have x6 := (blk_cell b1 6).trans rfl
  have x7 := (blk_cell b1 7).trans rfl
  clear b1
  subst ho1
  unfold evE
  dsimp only
  go_enter Try.func38, Try.ntmps38
  go_wp2_with (first | (go_at_call 65; refine (in_c _ _ _).mono ?_; rintro e w' ⟨rfl, rfl⟩) | fail)
  all_goals (go_ret; refine ⟨retB ?_, by repeat (first | exact Below.refl _ _ | apply below_alloc)⟩)
  all_goals (clear x0 x1 x2 x3 x4 x5 x6 x7)
  all_goals (first | (simp_all [rightE, noName]; done) | (simp_all [rightE, noName]; omega) | skip)
end Go.Proofs.Ytofegigbhohebaa.Hand
