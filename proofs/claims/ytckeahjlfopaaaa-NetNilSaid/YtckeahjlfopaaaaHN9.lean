/- The walk of NetNil: it answers true. -/
import Derived.Test.YtckeahjlfopaaaaHN7
namespace Go.Proofs.Ytckeahjlfopaaaa.Hand
open Go.RowKit Go.Proofs.Ytckeahjlfopaaaa Go.Proofs.YtckeahjlfopaaaaW.PrintWords Go.Proofs.YtckeahjlfopaaaaW.PrintLast
set_option linter.unusedVariables false
set_option linter.unusedSimpArgs false
def Off (p : Value) (W : World) : Prop := Calls Try.prog 18 #[p] W fun e W' => e = .returned (.bool true) ∧ W = W'
def OffM (p : Value) (W : World) : Prop := Calls Try.prog 16 #[p] W fun e W' => e = .returned (.bool false) ∧ W = W'
theorem luck_o (p x : Value) (W : World) (hp : Off p W) : Calls Try.prog 9 #[p, x] W fun e W' => e = .returned (.tuple #[]) ∧ W = W' := by
  go_enter Try.func9, Try.ntmps9
  go_wp2_with fail
  refine Calls.mono hp ?_
  rintro e w ⟨rfl, rfl⟩
  go_wp2_with fail
  exact bodyPost_end (results_none rfl _ _ _) rfl ⟨rfl, rfl⟩
theorem left_o (p : Value) (W : World) (hp : Off p W) : Calls Try.prog 12 #[p] W fun e W' => e = .returned (.int .i64 0) ∧ W = W' := by
  go_enter Try.func12, Try.ntmps12
  go_wp2_with fail
  refine Calls.mono hp ?_
  rintro e w ⟨rfl, rfl⟩
  go_wp2_with fail
  go_ret
  exact ⟨rfl, rfl⟩
theorem late_o (p : Value) (W : World) (hp : Off p W) : Calls Try.prog 11 #[p] W fun e W' => e = .returned (.int .i64 0) ∧ W = W' := by
  go_enter Try.func11, Try.ntmps11
  go_wp2_with fail
  refine Calls.mono hp ?_
  rintro e w ⟨rfl, rfl⟩
  go_wp2_with fail
  go_ret
  exact ⟨rfl, rfl⟩
theorem send_o (p x y : Value) (W : World) (hp : Off p W) : Calls Try.prog 10 #[p, x, y] W fun e W' => e = .returned (.tuple #[.int .i64 0, .bool false]) ∧ W = W' := by
  go_enter Try.func10, Try.ntmps10
  go_wp2_with fail
  refine Calls.mono hp ?_
  rintro e w ⟨rfl, rfl⟩
  go_wp2_with fail
  go_ret2
  exact ⟨rfl, rfl⟩
theorem msg_o (p : Value) (k : Int) (W : World) (hp : Off p W) : Calls Try.prog 13 #[p, .int .i64 k] W fun e W' => e = .returned (.tuple #[.int .i64 0, .slice none 0 0, .bool false]) ∧ W = W' := by
  have H := Aside0.mk (late_o p W hp)
  clear hp
  by_cases h0 : k < 0
  · go_enter Try.func13, Try.ntmps13
    go_wp2_with fail
    refine bodyPost_ret (v := .tuple #[.int .i64 0, .slice none 0 0, .bool false]) (by simp [results, Try.results13, go_sem]) rfl ⟨rfl, rfl⟩
  · have h1 : (0 : Int) ≤ k := by omega
    go_enter Try.func13, Try.ntmps13
    go_wp2_with fail
    refine H.out.mono ?_
    rintro e w ⟨rfl, rfl⟩
    go_wp2_with fail
    refine bodyPost_ret (v := .tuple #[.int .i64 0, .slice none 0 0, .bool false]) (by simp [results, Try.results13, go_sem]) rfl ⟨rfl, rfl⟩
theorem take_o (p x : Value) (W : World) (hp : Off p W) : Calls Try.prog 15 #[p, x] W fun e W' => e = .returned (.tuple #[.int .i64 0, .slice none 0 0, .bool false]) ∧ W = W' := by
  go_enter Try.func15, Try.ntmps15
  go_wp2_with fail
  refine Calls.mono hp ?_
  rintro e w ⟨rfl, rfl⟩
  go_wp2_with fail
  refine bodyPost_ret (v := .tuple #[.int .i64 0, .slice none 0 0, .bool false]) (by simp [results, Try.results15, go_sem]) rfl ⟨rfl, rfl⟩
theorem double_o (p : Value) (k : Int) (W : World) (hp : Off p W) : Calls Try.prog 14 #[p, .int .i64 k] W fun e W' => e = .returned (.bool false) ∧ W = W' := by
  go_enter Try.func14, Try.ntmps14
  go_wp2_with fail
  refine (msg_o p k W hp).mono ?_
  rintro e w ⟨rfl, rfl⟩
  go_wp2_with fail
  go_ret
  exact ⟨rfl, rfl⟩
set_option maxHeartbeats 2000000 in
set_option maxRecDepth 100000 in
theorem lawNil (k : Int) (x2 x3 : Value) (w : World) :
    Calls Try.prog 6 #[.int .i64 k, x2, x3] w fun e W' => e = .returned (.bool true) ∧ Below w.heap.size w W' := by
  have H0 := Aside0.mk (show Off (.pointer none) w from none_nil w)
  have M0 := Aside0.mk (show OffM (.pointer none) w from made_nil w)
  go_enter Try.func6, Try.ntmps6
  go_wp2_with fail
  go_loopw [7, 8, 9, 10, 11, 12, 13, 14, 15, 16] (fun u7 u8 u9 u10 u11 u12 u13 u14 u15 u16 wr => ∃ j : Nat, j ≤ 2 ∧ u8 = .int .i64 j ∧ Aside0 (Off u7 wr) ∧ Aside0 (OffM u7 wr) ∧ Aside0 (Below w.heap.size w wr)) (fun u7 u8 u9 u10 u11 u12 u13 u14 u15 u16 wr => 2 - (intOf u8).toNat)
  case atStart => exact ⟨0, by omega, rfl, H0, M0, ⟨Below.refl _ _⟩⟩
  case round =>
    obtain ⟨j, hj, rfl, H, M, HB⟩ := hrel
    clear H0 M0
    by_cases hlt : j < 2
    · have hl1 : decide ((j : Int) < 2) = true := by rw [decide_eq_true_eq]; omega
      go_wp2_with fail
      refine (luck_o u7 x3 wr H.out).mono ?_
      rintro e w1 ⟨rfl, rfl⟩
      go_wp2_with fail
      refine (send_o u7 _ x2 wr H.out).mono ?_
      rintro e w1 ⟨rfl, rfl⟩
      go_wp2_with fail
      refine (msg_o u7 k wr H.out).mono ?_
      rintro e w1 ⟨rfl, rfl⟩
      go_wp2_with fail
      refine (take_o u7 _ wr H.out).mono ?_
      rintro e w1 ⟨rfl, rfl⟩
      go_wp2_with fail
      refine Calls.mono M.out ?_
      rintro e w1 ⟨rfl, rfl⟩
      go_wp2_with fail
      refine (double_o u7 k wr H.out).mono ?_
      rintro e w1 ⟨rfl, rfl⟩
      go_wp2_with fail
      refine (late_o u7 wr H.out).mono ?_
      rintro e w1 ⟨rfl, rfl⟩
      go_wp2_with fail
      refine (left_o u7 wr H.out).mono ?_
      rintro e w1 ⟨rfl, rfl⟩
      go_wp2_with fail
      go_roundw
      case rel =>
        have hz := heap_alloc_new wr (.cells #[.slice none 0 0, .slice none 0 0, .bool false] 54 (0, 0))
        exact ⟨j + 1, by omega, by go_num, ⟨none_c wr.heap.size _ _ false _ hz⟩, ⟨made_c wr.heap.size _ _ false _ hz⟩, ⟨below_alloc HB.out _⟩⟩
      case measure => simp [intOf]; omega
    · have hl1 : decide ((j : Int) < 2) = false := by rw [decide_eq_false_iff_not]; omega
      go_wp2_with fail
      refine (knows_c wr).mono ?_
      rintro e w1 ⟨rfl, hk⟩
      go_wp2_with fail
      go_ret
      exact ⟨rfl, below_step HB.out hk⟩
end Go.Proofs.Ytckeahjlfopaaaa.Hand
