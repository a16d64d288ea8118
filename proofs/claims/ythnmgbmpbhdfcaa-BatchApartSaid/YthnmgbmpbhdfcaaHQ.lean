/- batch.Check's questions: what each closure answers. -/
import Derived.Test.YthnmgbmpbhdfcaaHText
import Derived.Test.YthnmgbmpbhdfcaaB0x3
import Derived.Test.YthnmgbmpbhdfcaaB0x4
namespace Go.Proofs.Ythnmgbmpbhdfcaa.Hand
open Go.RowKit Go.Proofs.Ythnmgbmpbhdfcaa Go.Proofs.YthnmgbmpbhdfcaaW.PrintWords Go.Proofs.YthnmgbmpbhdfcaaW.PrintMore

/-- A batch's cells. -/
def bcells (k p e s : Int) (t : Bool) (A : Option Addr) (n c : Nat) : Array Value := #[.int .i64 k, .int .i64 p, .int .i64 e, .int .i64 s, .bool t, .slice A n c]
theorem m_cell {w : World} {g : Nat} {v : Value} {T : TypeId} (hm : w.heap[g]? = some (.cells #[v] T (0, 0))) : w.cell? ⟨g, 0, none⟩ = some v := by rw [blk_cell hm]; rfl
section
variable {gb gm gx : Nat} {w : World} {k p e s : Int} {t m x : Bool} {A : Option Addr} {n c : Nat} {z : Int}
theorem b_cells (hb : w.heap[gb]? = some (.cells (bcells k p e s t A n c) 24 (0, 0))) :
    w.cell? ⟨gb, 0, none⟩ = some (.int .i64 k) ∧ w.cell? ⟨gb, 1, none⟩ = some (.int .i64 p) ∧ w.cell? ⟨gb, 2, none⟩ = some (.int .i64 e) ∧ w.cell? ⟨gb, 3, none⟩ = some (.int .i64 s) ∧ w.cell? ⟨gb, 4, none⟩ = some (.bool t) ∧ w.cell? ⟨gb, 5, none⟩ = some (.slice A n c) := by
  refine ⟨?_, ?_, ?_, ?_, ?_, ?_⟩ <;> (rw [blk_cell hb]; rfl)
set_option maxHeartbeats 1600000 in
theorem q25 (hb : w.heap[gb]? = some (.cells (bcells k p e s t A n c) 24 (0, 0))) (hm : w.heap[gm]? = some (.cells #[.bool m] 4 (0, 0))) :
    Calls Try.prog 25 #[.pointer (some ⟨gb, 0, none⟩), .pointer (some ⟨gm, 0, none⟩)] w fun e' w' => e' = .returned (.bool ((k != 1) && !m)) ∧ Drawn0 w w' := by
  obtain ⟨c0, c1, c2, c3, c4, c5⟩ := b_cells hb
  have cm := m_cell hm
  clear hb hm
  by_cases h0 : k = 1
  · have a0_0 : (k != 1) = false := by simpa using h0
    have a0_1 : (k == 1) = true := by simpa using h0
    clear h0
    go_enter Try.func25, Try.ntmps25
    go_wp2_with fail
    go_ret
    exact ⟨by simp [*], by repeat (first | exact Drawn0.refl _ | apply Drawn0.step)⟩
  · have a0_0 : (k != 1) = true := by simpa using h0
    have a0_1 : (k == 1) = false := by simpa using h0
    clear h0
    go_enter Try.func25, Try.ntmps25
    go_wp2_with fail
    go_ret
    exact ⟨by simp [*], by repeat (first | exact Drawn0.refl _ | apply Drawn0.step)⟩
set_option maxHeartbeats 1600000 in
theorem q26 (hb : w.heap[gb]? = some (.cells (bcells k p e s t A n c) 24 (0, 0))) (hm : w.heap[gm]? = some (.cells #[.bool m] 4 (0, 0))) :
    Calls Try.prog 26 #[.pointer (some ⟨gb, 0, none⟩), .pointer (some ⟨gm, 0, none⟩)] w fun e' w' => e' = .returned (.bool ((p == -1) && (m || (e != 0) || (s != 0) || t))) ∧ Drawn0 w w' := by
  obtain ⟨c0, c1, c2, c3, c4, c5⟩ := b_cells hb
  have cm := m_cell hm
  clear hb hm
  by_cases h0 : p = -1
  · have a0_0 : (p != -1) = false := by simpa using h0
    have a0_1 : (p == -1) = true := by simpa using h0
    clear h0
    cases m with
    | true =>
      by_cases h2 : e = 0
      · have a2_0 : (e != 0) = false := by simpa using h2
        have a2_1 : (e == 0) = true := by simpa using h2
        clear h2
        by_cases h3 : s = 0
        · have a3_0 : (s != 0) = false := by simpa using h3
          have a3_1 : (s == 0) = true := by simpa using h3
          clear h3
          go_enter Try.func26, Try.ntmps26
          go_wp2_with fail
          go_ret
          exact ⟨by simp [*], by repeat (first | exact Drawn0.refl _ | apply Drawn0.step)⟩
        · have a3_0 : (s != 0) = true := by simpa using h3
          have a3_1 : (s == 0) = false := by simpa using h3
          clear h3
          go_enter Try.func26, Try.ntmps26
          go_wp2_with fail
          go_ret
          exact ⟨by simp [*], by repeat (first | exact Drawn0.refl _ | apply Drawn0.step)⟩
      · have a2_0 : (e != 0) = true := by simpa using h2
        have a2_1 : (e == 0) = false := by simpa using h2
        clear h2
        by_cases h3 : s = 0
        · have a3_0 : (s != 0) = false := by simpa using h3
          have a3_1 : (s == 0) = true := by simpa using h3
          clear h3
          go_enter Try.func26, Try.ntmps26
          go_wp2_with fail
          go_ret
          exact ⟨by simp [*], by repeat (first | exact Drawn0.refl _ | apply Drawn0.step)⟩
        · have a3_0 : (s != 0) = true := by simpa using h3
          have a3_1 : (s == 0) = false := by simpa using h3
          clear h3
          go_enter Try.func26, Try.ntmps26
          go_wp2_with fail
          go_ret
          exact ⟨by simp [*], by repeat (first | exact Drawn0.refl _ | apply Drawn0.step)⟩
    | false =>
      by_cases h2 : e = 0
      · have a2_0 : (e != 0) = false := by simpa using h2
        have a2_1 : (e == 0) = true := by simpa using h2
        clear h2
        by_cases h3 : s = 0
        · have a3_0 : (s != 0) = false := by simpa using h3
          have a3_1 : (s == 0) = true := by simpa using h3
          clear h3
          go_enter Try.func26, Try.ntmps26
          go_wp2_with fail
          go_ret
          exact ⟨by simp [*], by repeat (first | exact Drawn0.refl _ | apply Drawn0.step)⟩
        · have a3_0 : (s != 0) = true := by simpa using h3
          have a3_1 : (s == 0) = false := by simpa using h3
          clear h3
          go_enter Try.func26, Try.ntmps26
          go_wp2_with fail
          go_ret
          exact ⟨by simp [*], by repeat (first | exact Drawn0.refl _ | apply Drawn0.step)⟩
      · have a2_0 : (e != 0) = true := by simpa using h2
        have a2_1 : (e == 0) = false := by simpa using h2
        clear h2
        by_cases h3 : s = 0
        · have a3_0 : (s != 0) = false := by simpa using h3
          have a3_1 : (s == 0) = true := by simpa using h3
          clear h3
          go_enter Try.func26, Try.ntmps26
          go_wp2_with fail
          go_ret
          exact ⟨by simp [*], by repeat (first | exact Drawn0.refl _ | apply Drawn0.step)⟩
        · have a3_0 : (s != 0) = true := by simpa using h3
          have a3_1 : (s == 0) = false := by simpa using h3
          clear h3
          go_enter Try.func26, Try.ntmps26
          go_wp2_with fail
          go_ret
          exact ⟨by simp [*], by repeat (first | exact Drawn0.refl _ | apply Drawn0.step)⟩
  · have a0_0 : (p != -1) = true := by simpa using h0
    have a0_1 : (p == -1) = false := by simpa using h0
    clear h0
    cases m with
    | true =>
      by_cases h2 : e = 0
      · have a2_0 : (e != 0) = false := by simpa using h2
        have a2_1 : (e == 0) = true := by simpa using h2
        clear h2
        by_cases h3 : s = 0
        · have a3_0 : (s != 0) = false := by simpa using h3
          have a3_1 : (s == 0) = true := by simpa using h3
          clear h3
          go_enter Try.func26, Try.ntmps26
          go_wp2_with fail
          go_ret
          exact ⟨by simp [*], by repeat (first | exact Drawn0.refl _ | apply Drawn0.step)⟩
        · have a3_0 : (s != 0) = true := by simpa using h3
          have a3_1 : (s == 0) = false := by simpa using h3
          clear h3
          go_enter Try.func26, Try.ntmps26
          go_wp2_with fail
          go_ret
          exact ⟨by simp [*], by repeat (first | exact Drawn0.refl _ | apply Drawn0.step)⟩
      · have a2_0 : (e != 0) = true := by simpa using h2
        have a2_1 : (e == 0) = false := by simpa using h2
        clear h2
        by_cases h3 : s = 0
        · have a3_0 : (s != 0) = false := by simpa using h3
          have a3_1 : (s == 0) = true := by simpa using h3
          clear h3
          go_enter Try.func26, Try.ntmps26
          go_wp2_with fail
          go_ret
          exact ⟨by simp [*], by repeat (first | exact Drawn0.refl _ | apply Drawn0.step)⟩
        · have a3_0 : (s != 0) = true := by simpa using h3
          have a3_1 : (s == 0) = false := by simpa using h3
          clear h3
          go_enter Try.func26, Try.ntmps26
          go_wp2_with fail
          go_ret
          exact ⟨by simp [*], by repeat (first | exact Drawn0.refl _ | apply Drawn0.step)⟩
    | false =>
      by_cases h2 : e = 0
      · have a2_0 : (e != 0) = false := by simpa using h2
        have a2_1 : (e == 0) = true := by simpa using h2
        clear h2
        by_cases h3 : s = 0
        · have a3_0 : (s != 0) = false := by simpa using h3
          have a3_1 : (s == 0) = true := by simpa using h3
          clear h3
          go_enter Try.func26, Try.ntmps26
          go_wp2_with fail
          go_ret
          exact ⟨by simp [*], by repeat (first | exact Drawn0.refl _ | apply Drawn0.step)⟩
        · have a3_0 : (s != 0) = true := by simpa using h3
          have a3_1 : (s == 0) = false := by simpa using h3
          clear h3
          go_enter Try.func26, Try.ntmps26
          go_wp2_with fail
          go_ret
          exact ⟨by simp [*], by repeat (first | exact Drawn0.refl _ | apply Drawn0.step)⟩
      · have a2_0 : (e != 0) = true := by simpa using h2
        have a2_1 : (e == 0) = false := by simpa using h2
        clear h2
        by_cases h3 : s = 0
        · have a3_0 : (s != 0) = false := by simpa using h3
          have a3_1 : (s == 0) = true := by simpa using h3
          clear h3
          go_enter Try.func26, Try.ntmps26
          go_wp2_with fail
          go_ret
          exact ⟨by simp [*], by repeat (first | exact Drawn0.refl _ | apply Drawn0.step)⟩
        · have a3_0 : (s != 0) = true := by simpa using h3
          have a3_1 : (s == 0) = false := by simpa using h3
          clear h3
          go_enter Try.func26, Try.ntmps26
          go_wp2_with fail
          go_ret
          exact ⟨by simp [*], by repeat (first | exact Drawn0.refl _ | apply Drawn0.step)⟩
set_option maxHeartbeats 1600000 in
theorem q27 (hb : w.heap[gb]? = some (.cells (bcells k p e s t A n c) 24 (0, 0))) :
    Calls Try.prog 27 #[.pointer (some ⟨gb, 0, none⟩)] w fun e' w' => e' = .returned (.bool (decide (p < -1) || decide (p ≥ 281474976710656))) ∧ Drawn0 w w' := by
  obtain ⟨c0, c1, c2, c3, c4, c5⟩ := b_cells hb
  clear hb
  by_cases h0 : p < -1
  · have a0_0 : decide (p < -1) = true := by simpa using h0
    clear h0
    go_enter Try.func27, Try.ntmps27
    go_wp2_with fail
    go_ret
    exact ⟨by simp [*], by repeat (first | exact Drawn0.refl _ | apply Drawn0.step)⟩
  · have a0_0 : decide (p < -1) = false := by simpa using h0
    clear h0
    go_enter Try.func27, Try.ntmps27
    go_wp2_with fail
    go_ret
    exact ⟨by simp [*], by repeat (first | exact Drawn0.refl _ | apply Drawn0.step)⟩
set_option maxHeartbeats 1600000 in
theorem q28 (hb : w.heap[gb]? = some (.cells (bcells k p e s t A n c) 24 (0, 0))) (hm : w.heap[gm]? = some (.cells #[.bool m] 4 (0, 0))) :
    Calls Try.prog 28 #[.pointer (some ⟨gb, 0, none⟩), .pointer (some ⟨gm, 0, none⟩)] w fun e' w' => e' = .returned (.bool (decide (e < 0) || decide (e ≥ 2147483648) || (m && ((s != 0) || t)))) ∧ Drawn0 w w' := by
  obtain ⟨c0, c1, c2, c3, c4, c5⟩ := b_cells hb
  have cm := m_cell hm
  clear hb hm
  by_cases h0 : e < 0
  · have a0_0 : decide (e < 0) = true := by simpa using h0
    clear h0
    by_cases h1 : e ≥ 2147483648
    · have a1_0 : decide (e ≥ 2147483648) = true := by simpa using h1
      clear h1
      cases m with
      | true =>
        by_cases h3 : s = 0
        · have a3_0 : (s != 0) = false := by simpa using h3
          have a3_1 : (s == 0) = true := by simpa using h3
          clear h3
          go_enter Try.func28, Try.ntmps28
          go_wp2_with fail
          go_ret
          exact ⟨by simp [*], by repeat (first | exact Drawn0.refl _ | apply Drawn0.step)⟩
        · have a3_0 : (s != 0) = true := by simpa using h3
          have a3_1 : (s == 0) = false := by simpa using h3
          clear h3
          go_enter Try.func28, Try.ntmps28
          go_wp2_with fail
          go_ret
          exact ⟨by simp [*], by repeat (first | exact Drawn0.refl _ | apply Drawn0.step)⟩
      | false =>
        by_cases h3 : s = 0
        · have a3_0 : (s != 0) = false := by simpa using h3
          have a3_1 : (s == 0) = true := by simpa using h3
          clear h3
          go_enter Try.func28, Try.ntmps28
          go_wp2_with fail
          go_ret
          exact ⟨by simp [*], by repeat (first | exact Drawn0.refl _ | apply Drawn0.step)⟩
        · have a3_0 : (s != 0) = true := by simpa using h3
          have a3_1 : (s == 0) = false := by simpa using h3
          clear h3
          go_enter Try.func28, Try.ntmps28
          go_wp2_with fail
          go_ret
          exact ⟨by simp [*], by repeat (first | exact Drawn0.refl _ | apply Drawn0.step)⟩
    · have a1_0 : decide (e ≥ 2147483648) = false := by simpa using h1
      clear h1
      cases m with
      | true =>
        by_cases h3 : s = 0
        · have a3_0 : (s != 0) = false := by simpa using h3
          have a3_1 : (s == 0) = true := by simpa using h3
          clear h3
          go_enter Try.func28, Try.ntmps28
          go_wp2_with fail
          go_ret
          exact ⟨by simp [*], by repeat (first | exact Drawn0.refl _ | apply Drawn0.step)⟩
        · have a3_0 : (s != 0) = true := by simpa using h3
          have a3_1 : (s == 0) = false := by simpa using h3
          clear h3
          go_enter Try.func28, Try.ntmps28
          go_wp2_with fail
          go_ret
          exact ⟨by simp [*], by repeat (first | exact Drawn0.refl _ | apply Drawn0.step)⟩
      | false =>
        by_cases h3 : s = 0
        · have a3_0 : (s != 0) = false := by simpa using h3
          have a3_1 : (s == 0) = true := by simpa using h3
          clear h3
          go_enter Try.func28, Try.ntmps28
          go_wp2_with fail
          go_ret
          exact ⟨by simp [*], by repeat (first | exact Drawn0.refl _ | apply Drawn0.step)⟩
        · have a3_0 : (s != 0) = true := by simpa using h3
          have a3_1 : (s == 0) = false := by simpa using h3
          clear h3
          go_enter Try.func28, Try.ntmps28
          go_wp2_with fail
          go_ret
          exact ⟨by simp [*], by repeat (first | exact Drawn0.refl _ | apply Drawn0.step)⟩
  · have a0_0 : decide (e < 0) = false := by simpa using h0
    clear h0
    by_cases h1 : e ≥ 2147483648
    · have a1_0 : decide (e ≥ 2147483648) = true := by simpa using h1
      clear h1
      cases m with
      | true =>
        by_cases h3 : s = 0
        · have a3_0 : (s != 0) = false := by simpa using h3
          have a3_1 : (s == 0) = true := by simpa using h3
          clear h3
          go_enter Try.func28, Try.ntmps28
          go_wp2_with fail
          go_ret
          exact ⟨by simp [*], by repeat (first | exact Drawn0.refl _ | apply Drawn0.step)⟩
        · have a3_0 : (s != 0) = true := by simpa using h3
          have a3_1 : (s == 0) = false := by simpa using h3
          clear h3
          go_enter Try.func28, Try.ntmps28
          go_wp2_with fail
          go_ret
          exact ⟨by simp [*], by repeat (first | exact Drawn0.refl _ | apply Drawn0.step)⟩
      | false =>
        by_cases h3 : s = 0
        · have a3_0 : (s != 0) = false := by simpa using h3
          have a3_1 : (s == 0) = true := by simpa using h3
          clear h3
          go_enter Try.func28, Try.ntmps28
          go_wp2_with fail
          go_ret
          exact ⟨by simp [*], by repeat (first | exact Drawn0.refl _ | apply Drawn0.step)⟩
        · have a3_0 : (s != 0) = true := by simpa using h3
          have a3_1 : (s == 0) = false := by simpa using h3
          clear h3
          go_enter Try.func28, Try.ntmps28
          go_wp2_with fail
          go_ret
          exact ⟨by simp [*], by repeat (first | exact Drawn0.refl _ | apply Drawn0.step)⟩
    · have a1_0 : decide (e ≥ 2147483648) = false := by simpa using h1
      clear h1
      cases m with
      | true =>
        by_cases h3 : s = 0
        · have a3_0 : (s != 0) = false := by simpa using h3
          have a3_1 : (s == 0) = true := by simpa using h3
          clear h3
          go_enter Try.func28, Try.ntmps28
          go_wp2_with fail
          go_ret
          exact ⟨by simp [*], by repeat (first | exact Drawn0.refl _ | apply Drawn0.step)⟩
        · have a3_0 : (s != 0) = true := by simpa using h3
          have a3_1 : (s == 0) = false := by simpa using h3
          clear h3
          go_enter Try.func28, Try.ntmps28
          go_wp2_with fail
          go_ret
          exact ⟨by simp [*], by repeat (first | exact Drawn0.refl _ | apply Drawn0.step)⟩
      | false =>
        by_cases h3 : s = 0
        · have a3_0 : (s != 0) = false := by simpa using h3
          have a3_1 : (s == 0) = true := by simpa using h3
          clear h3
          go_enter Try.func28, Try.ntmps28
          go_wp2_with fail
          go_ret
          exact ⟨by simp [*], by repeat (first | exact Drawn0.refl _ | apply Drawn0.step)⟩
        · have a3_0 : (s != 0) = true := by simpa using h3
          have a3_1 : (s == 0) = false := by simpa using h3
          clear h3
          go_enter Try.func28, Try.ntmps28
          go_wp2_with fail
          go_ret
          exact ⟨by simp [*], by repeat (first | exact Drawn0.refl _ | apply Drawn0.step)⟩
set_option maxHeartbeats 1600000 in
theorem q29 (hm : w.heap[gm]? = some (.cells #[.bool m] 4 (0, 0))) (hb : w.heap[gb]? = some (.cells (bcells k p e s t A n c) 24 (0, 0))) (hx : w.heap[gx]? = some (.cells #[.bool x] 4 (0, 0))) :
    Calls Try.prog 29 #[.pointer (some ⟨gm, 0, none⟩), .pointer (some ⟨gb, 0, none⟩), .pointer (some ⟨gx, 0, none⟩)] w fun e' w' => e' = .returned (.bool ((m != ((n : Int) == 0)) || decide ((n : Int) > 64) || x)) ∧ Drawn0 w w' := by
  obtain ⟨c0, c1, c2, c3, c4, c5⟩ := b_cells hb
  have cm := m_cell hm
  have cx := m_cell hx
  clear hb hm hx
  by_cases h0 : (n : Int) = 0
  · have a0_0 : ((n : Int) != 0) = false := by simpa using h0
    have a0_1 : ((n : Int) == 0) = true := by simpa using h0
    clear h0
    cases m with
    | true =>
      by_cases h2 : (n : Int) > 64
      · have a2_0 : decide ((n : Int) > 64) = true := by simpa using h2
        clear h2
        go_enter Try.func29, Try.ntmps29
        go_wp2_with fail
        go_ret
        exact ⟨by simp [*], by repeat (first | exact Drawn0.refl _ | apply Drawn0.step)⟩
      · have a2_0 : decide ((n : Int) > 64) = false := by simpa using h2
        clear h2
        go_enter Try.func29, Try.ntmps29
        go_wp2_with fail
        go_ret
        exact ⟨by simp [*], by repeat (first | exact Drawn0.refl _ | apply Drawn0.step)⟩
    | false =>
      by_cases h2 : (n : Int) > 64
      · have a2_0 : decide ((n : Int) > 64) = true := by simpa using h2
        clear h2
        go_enter Try.func29, Try.ntmps29
        go_wp2_with fail
        go_ret
        exact ⟨by simp [*], by repeat (first | exact Drawn0.refl _ | apply Drawn0.step)⟩
      · have a2_0 : decide ((n : Int) > 64) = false := by simpa using h2
        clear h2
        go_enter Try.func29, Try.ntmps29
        go_wp2_with fail
        go_ret
        exact ⟨by simp [*], by repeat (first | exact Drawn0.refl _ | apply Drawn0.step)⟩
  · have a0_0 : ((n : Int) != 0) = true := by simpa using h0
    have a0_1 : ((n : Int) == 0) = false := by simpa using h0
    clear h0
    cases m with
    | true =>
      by_cases h2 : (n : Int) > 64
      · have a2_0 : decide ((n : Int) > 64) = true := by simpa using h2
        clear h2
        go_enter Try.func29, Try.ntmps29
        go_wp2_with fail
        go_ret
        exact ⟨by simp [*], by repeat (first | exact Drawn0.refl _ | apply Drawn0.step)⟩
      · have a2_0 : decide ((n : Int) > 64) = false := by simpa using h2
        clear h2
        go_enter Try.func29, Try.ntmps29
        go_wp2_with fail
        go_ret
        exact ⟨by simp [*], by repeat (first | exact Drawn0.refl _ | apply Drawn0.step)⟩
    | false =>
      by_cases h2 : (n : Int) > 64
      · have a2_0 : decide ((n : Int) > 64) = true := by simpa using h2
        clear h2
        go_enter Try.func29, Try.ntmps29
        go_wp2_with fail
        go_ret
        exact ⟨by simp [*], by repeat (first | exact Drawn0.refl _ | apply Drawn0.step)⟩
      · have a2_0 : decide ((n : Int) > 64) = false := by simpa using h2
        clear h2
        go_enter Try.func29, Try.ntmps29
        go_wp2_with fail
        go_ret
        exact ⟨by simp [*], by repeat (first | exact Drawn0.refl _ | apply Drawn0.step)⟩
set_option maxHeartbeats 1600000 in
theorem q31 (hx : w.heap[gx]? = some (.cells #[.int .i64 z] 3 (0, 0))) :
    Calls Try.prog 31 #[.pointer (some ⟨gx, 0, none⟩)] w fun e' w' => e' = .returned (.bool (decide (z > 65536))) ∧ Drawn0 w w' := by
  have cx := m_cell hx
  clear hx
  go_enter Try.func31, Try.ntmps31
  go_wp2_with fail
  go_ret
  exact ⟨by simp [*], by repeat (first | exact Drawn0.refl _ | apply Drawn0.step)⟩
end
open Go.Proofs.Ythnmgbmpbhdfcaa.B0 Go.Proofs.YthnmgbmpbhdfcaaW.PrintLast
def T30 : Bool × List (List Nat × List Nat) := (true, [([], []), ([0], [0]), ([1], [1]), ([2], [2]), ([3], [3]), ([4, 3], [3, 4]), ([3], [3]), ([6, 3, 3], [3, 6]), ([7, 3], [3, 7]), ([5, 8, 3], [3, 5, 8]), ([3, 9], [3, 9]), ([10, 7, 0, 1, 2, 3, 4, 5, 6, 7, 8, 9, 10], [10])])
def B30 : List Nat := [0, 1, 3, 7, 15, 31, 15, 79, 207, 511, 1023, 2047]
theorem tab30 : rtab .any (opsOf Try.f30 1) = T30 := by kernel_rfl
theorem bits30 : waitsOk T30.2 B30 = true := by kernel_rfl
set_option linter.unusedSimpArgs false
set_option maxHeartbeats 1600000 in
set_option maxRecDepth 100000 in
theorem q30 (gb : Nat) (w : World) (k p e s : Int) (t : Bool) (A : Option Addr) (c : Nat) (l0 : List S47) (r : Int) (hb : w.heap[gb]? = some (.cells (bcells k p e s t A l0.length c) 24 (0, 0))) (hr0 : Kd.C k47 w A l0.length l0) (hc0 : l0.length ≤ c) (hL : batch_Len.f k p e s t l0 = some r) :
    Calls Try.prog 30 #[.pointer (some ⟨gb, 0, none⟩)] w fun e' w' => e' = .returned (.bool (decide (s < 0) || decide (s > wrap64 (2147483648 - r)))) ∧ Below w.heap.size w w' := by
  have HR := Aside0.mk hr0
  have HB := Aside0.mk (Below.refl w.heap.size w)
  have hb : w.heap[gb]? = some (.cells #[.int .i64 k, .int .i64 p, .int .i64 e, .int .i64 s, .bool t, .slice A l0.length c] 24 (0, 0)) := hb
  have hlt : gb < w.heap.size := by
    have := hb
    rw [Array.getElem?_eq_some_iff] at this
    exact this.1
  have BK := Aside0.mk hb
  clear hb hr0
  by_cases h : s < 0
  · have h1 : decide (s < 0) = true := by simpa using h
    clear h
    go_enter Try.func30, Try.ntmps30
    go_wp2_with fail
    have n0_ := Aside0.mk (blk_drew BK.out)
    have n1_ := Aside0.mk (below_drew1 HB.out)
    clear BK
    clear HB
    have BK := n0_
    have HB := n1_
    clear n0_ n1_
    refine start_ (n := 12) (S := fun w' => w'.cell? ⟨gb, 0, none⟩ = some (.int .i64 k) ∧ w'.cell? ⟨gb, 1, none⟩ = some (.int .i64 p) ∧ w'.cell? ⟨gb, 2, none⟩ = some (.int .i64 e) ∧ w'.cell? ⟨gb, 3, none⟩ = some (.int .i64 s) ∧ w'.cell? ⟨gb, 4, none⟩ = some (.bool t) ∧ w'.cell? ⟨gb, 5, none⟩ = some (.slice A l0.length c)) (ds := []) #[false, false, false, false, false, false, false, false, false, false, false, false] (by kernel_rfl) rfl rfl ⟨(blk_cell BK.out 0).trans rfl, (blk_cell BK.out 1).trans rfl, (blk_cell BK.out 2).trans rfl, (blk_cell BK.out 3).trans rfl, (blk_cell BK.out 4).trans rfl, (blk_cell BK.out 5).trans rfl⟩ (fun hHeld => ?_); refine with_tabW tab30 bits30 (fun HT_ HW_ => ?_)
    generalize w.drew = w1 at BK HB hHeld ⊢
    refine pure_ (i := 0) (N := some 2) (v := ?_) (a' := ?_) #[true, false, false, false, false, false, false, false, false, false, false, false] rfl rfl (any_of HT_.out (by kernel_rfl)) (fun _ _ _ h => h) (Or.inl ⟨by rfl, ?_⟩) ?_ ?_
    rotate_left
    · intro w'
      go_simp
      with_reducible rfl
    rotate_left
    · simp only [Act.put, List.setIfInBounds_toArray, List.set_cons_zero, List.set_cons_succ, i64_w, i32_w]
      rfl
    refine take_ (i := 1) (N := some 3) (v := ?_) (a' := ?_) #[true, true, false, false, false, false, false, false, false, false, false, false] rfl rfl (take_ofW HT_.out HW_.out (by kernel_rfl)) (fun _ _ _ h => h) (Or.inl ⟨by rfl, ?_⟩) hHeld ?_ ?_
    rotate_left
    · rintro w' ⟨s0, s1, s2, s3, s4, s5⟩
      go_simp
      with_reducible rfl
    rotate_left
    · simp only [Act.put, List.setIfInBounds_toArray, List.set_cons_zero, List.set_cons_succ, i64_w, i32_w]
      rfl
    refine pure_ (i := 2) (N := some 4) (v := ?_) (a' := ?_) #[true, true, true, false, false, false, false, false, false, false, false, false] rfl rfl (any_of HT_.out (by kernel_rfl)) (fun _ _ _ h => h) (Or.inl ⟨by rfl, ?_⟩) ?_ ?_
    rotate_left
    · intro w'
      go_simp
      with_reducible rfl
    rotate_left
    · simp only [Act.put, List.setIfInBounds_toArray, List.set_cons_zero, List.set_cons_succ, i64_w, i32_w]
      rfl
    refine pure_ (i := 3) (N := some 5) (v := ?_) (a' := ?_) #[true, true, true, true, false, false, false, false, false, false, false, false] rfl rfl (any_of HT_.out (by kernel_rfl)) (fun _ _ _ h => h) (Or.inl ⟨by rfl, ?_⟩) ?_ ?_
    rotate_left
    · intro w'
      go_simp
      with_reducible rfl
    rotate_left
    · simp only [Act.put, List.setIfInBounds_toArray, List.set_cons_zero, List.set_cons_succ, i64_w, i32_w]
      rfl
    refine pure_ (i := 4) (N := some 6) (v := undef) (a' := ?_) #[true, true, true, true, true, false, false, false, false, false, false, false] rfl rfl (any_of HT_.out (by kernel_rfl)) (fun _ _ _ h => h) (Or.inr ⟨by rfl, rfl⟩) ?_ ?_
    rotate_left
    · simp only [Act.put, List.setIfInBounds_toArray, List.set_cons_zero, List.set_cons_succ, i64_w, i32_w]
      rfl
    refine pure_ (i := 5) (N := some 7) (v := undef) (a' := ?_) #[true, true, true, true, true, true, false, false, false, false, false, false] rfl rfl (any_of HT_.out (by kernel_rfl)) (fun _ _ _ h => h) (Or.inr ⟨by rfl, rfl⟩) ?_ ?_
    rotate_left
    · simp only [Act.put, List.setIfInBounds_toArray, List.set_cons_zero, List.set_cons_succ, i64_w, i32_w]
      rfl
    refine pure_ (i := 6) (N := some 8) (v := undef) (a' := ?_) #[true, true, true, true, true, true, true, false, false, false, false, false] rfl rfl (any_of HT_.out (by kernel_rfl)) (fun _ _ _ h => h) (Or.inr ⟨by rfl, rfl⟩) ?_ ?_
    rotate_left
    · simp only [Act.put, List.setIfInBounds_toArray, List.set_cons_zero, List.set_cons_succ, i64_w, i32_w]
      rfl
    refine pure_ (i := 7) (N := some 9) (v := undef) (a' := ?_) #[true, true, true, true, true, true, true, true, false, false, false, false] rfl rfl (any_of HT_.out (by kernel_rfl)) (fun _ _ _ h => h) (Or.inr ⟨by rfl, rfl⟩) ?_ ?_
    rotate_left
    · simp only [Act.put, List.setIfInBounds_toArray, List.set_cons_zero, List.set_cons_succ, i64_w, i32_w]
      rfl
    refine pure_ (i := 8) (N := some 10) (v := undef) (a' := ?_) #[true, true, true, true, true, true, true, true, true, false, false, false] rfl rfl (any_of HT_.out (by kernel_rfl)) (fun _ _ _ h => h) (Or.inr ⟨by rfl, rfl⟩) ?_ ?_
    rotate_left
    · simp only [Act.put, List.setIfInBounds_toArray, List.set_cons_zero, List.set_cons_succ, i64_w, i32_w]
      rfl
    refine pure_ (i := 9) (N := some 11) (v := undef) (a' := ?_) #[true, true, true, true, true, true, true, true, true, true, false, false] rfl rfl (any_of HT_.out (by kernel_rfl)) (fun _ _ _ h => h) (Or.inr ⟨by rfl, rfl⟩) ?_ ?_
    rotate_left
    · simp only [Act.put, List.setIfInBounds_toArray, List.set_cons_zero, List.set_cons_succ, i64_w, i32_w]
      rfl
    refine pure_ (i := 10) (N := some 12) (v := ?_) (a' := ?_) #[true, true, true, true, true, true, true, true, true, true, true, false] rfl rfl (any_of HT_.out (by kernel_rfl)) (fun _ _ _ h => h) (Or.inl ⟨by rfl, ?_⟩) ?_ ?_
    rotate_left
    · intro w'
      go_simp
      with_reducible rfl
    rotate_left
    · simp only [Act.put, List.setIfInBounds_toArray, List.set_cons_zero, List.set_cons_succ, i64_w, i32_w]
      rfl
    refine pure_ (i := 11) (N := some 1) (v := ?_) (a' := ?_) #[true, true, true, true, true, true, true, true, true, true, true, true] rfl rfl (any_of HT_.out (by kernel_rfl)) (fun _ _ _ h => h) (Or.inl ⟨by rfl, ?_⟩) ?_ ?_
    rotate_left
    · intro w'
      go_simp
      with_reducible rfl
    rotate_left
    · simp only [Act.put, List.setIfInBounds_toArray, List.set_cons_zero, List.set_cons_succ, i64_w, i32_w]
      rfl
    refine done_ (done_of HT_.out (by kernel_rfl)) ?_
    try go_wp2
    go_ret
    exact ⟨by simp [*], HB.out⟩
  · have h1 : decide (s < 0) = false := by simpa using h
    clear h
    go_enter Try.func30, Try.ntmps30
    go_wp2_with fail
    have n0_ := Aside0.mk (blk_drew BK.out)
    have n1_ := Aside0.mk (below_drew1 HB.out)
    clear BK
    clear HB
    have BK := n0_
    have HB := n1_
    clear n0_ n1_
    refine start_ (n := 12) (S := fun w' => w'.cell? ⟨gb, 0, none⟩ = some (.int .i64 k) ∧ w'.cell? ⟨gb, 1, none⟩ = some (.int .i64 p) ∧ w'.cell? ⟨gb, 2, none⟩ = some (.int .i64 e) ∧ w'.cell? ⟨gb, 3, none⟩ = some (.int .i64 s) ∧ w'.cell? ⟨gb, 4, none⟩ = some (.bool t) ∧ w'.cell? ⟨gb, 5, none⟩ = some (.slice A l0.length c)) (ds := []) #[false, false, false, false, false, false, false, false, false, false, false, false] (by kernel_rfl) rfl rfl ⟨(blk_cell BK.out 0).trans rfl, (blk_cell BK.out 1).trans rfl, (blk_cell BK.out 2).trans rfl, (blk_cell BK.out 3).trans rfl, (blk_cell BK.out 4).trans rfl, (blk_cell BK.out 5).trans rfl⟩ (fun hHeld => ?_); refine with_tabW tab30 bits30 (fun HT_ HW_ => ?_)
    generalize w.drew = w1 at BK HB hHeld ⊢
    refine pure_ (i := 0) (N := some 2) (v := ?_) (a' := ?_) #[true, false, false, false, false, false, false, false, false, false, false, false] rfl rfl (any_of HT_.out (by kernel_rfl)) (fun _ _ _ h => h) (Or.inl ⟨by rfl, ?_⟩) ?_ ?_
    rotate_left
    · intro w'
      go_simp
      with_reducible rfl
    rotate_left
    · simp only [Act.put, List.setIfInBounds_toArray, List.set_cons_zero, List.set_cons_succ, i64_w, i32_w]
      rfl
    refine take_ (i := 1) (N := some 3) (v := ?_) (a' := ?_) #[true, true, false, false, false, false, false, false, false, false, false, false] rfl rfl (take_ofW HT_.out HW_.out (by kernel_rfl)) (fun _ _ _ h => h) (Or.inl ⟨by rfl, ?_⟩) hHeld ?_ ?_
    rotate_left
    · rintro w' ⟨s0, s1, s2, s3, s4, s5⟩
      go_simp
      with_reducible rfl
    rotate_left
    · simp only [Act.put, List.setIfInBounds_toArray, List.set_cons_zero, List.set_cons_succ, i64_w, i32_w]
      rfl
    refine pure_ (i := 2) (N := some 4) (v := ?_) (a' := ?_) #[true, true, true, false, false, false, false, false, false, false, false, false] rfl rfl (any_of HT_.out (by kernel_rfl)) (fun _ _ _ h => h) (Or.inl ⟨by rfl, ?_⟩) ?_ ?_
    rotate_left
    · intro w'
      go_simp
      with_reducible rfl
    rotate_left
    · simp only [Act.put, List.setIfInBounds_toArray, List.set_cons_zero, List.set_cons_succ, i64_w, i32_w]
      rfl
    refine pure_ (i := 3) (N := some 5) (v := ?_) (a' := ?_) #[true, true, true, true, false, false, false, false, false, false, false, false] rfl rfl (any_of HT_.out (by kernel_rfl)) (fun _ _ _ h => h) (Or.inl ⟨by rfl, ?_⟩) ?_ ?_
    rotate_left
    · intro w'
      go_simp
      with_reducible rfl
    rotate_left
    · simp only [Act.put, List.setIfInBounds_toArray, List.set_cons_zero, List.set_cons_succ, i64_w, i32_w]
      rfl
    refine pure_ (i := 4) (N := some 6) (v := ?_) (a' := ?_) #[true, true, true, true, true, false, false, false, false, false, false, false] rfl rfl (any_of HT_.out (by kernel_rfl)) (fun _ _ _ h => h) (Or.inl ⟨by rfl, ?_⟩) ?_ ?_
    rotate_left
    · intro w'
      go_simp
      with_reducible rfl
    rotate_left
    · simp only [Act.put, List.setIfInBounds_toArray, List.set_cons_zero, List.set_cons_succ, i64_w, i32_w]
      rfl
    refine take_ (i := 5) (N := some 7) (v := ?_) (a' := ?_) #[true, true, true, true, true, true, false, false, false, false, false, false] rfl rfl (take_ofW HT_.out HW_.out (by kernel_rfl)) (fun _ _ _ h => h) (Or.inl ⟨by rfl, ?_⟩) hHeld ?_ ?_
    rotate_left
    · rintro w' ⟨s0, s1, s2, s3, s4, s5⟩
      go_simp
      with_reducible rfl
    rotate_left
    · simp only [Act.put, List.setIfInBounds_toArray, List.set_cons_zero, List.set_cons_succ, i64_w, i32_w]
      rfl
    refine take_ (i := 6) (N := some 8) (v := ?_) (a' := ?_) #[true, true, true, true, true, true, true, false, false, false, false, false] rfl rfl (take_ofW HT_.out HW_.out (by kernel_rfl)) (fun _ _ _ h => h) (Or.inl ⟨by rfl, ?_⟩) hHeld ?_ ?_
    rotate_left
    · rintro w' ⟨s0, s1, s2, s3, s4, s5⟩
      go_simp
      with_reducible rfl
    rotate_left
    · simp only [Act.put, List.setIfInBounds_toArray, List.set_cons_zero, List.set_cons_succ, i64_w, i32_w]
      rfl
    refine one_ (i := 7) (N := some 9) #[true, true, true, true, true, true, true, true, false, false, false, false] rfl rfl (one_of HT_.out (by kernel_rfl)) (by decide) (fun K hK => ?_)
    refine goes_ Try.func14 (by kernel_rfl) rfl #[.agg #[.int .i64 k, .int .i64 p, .int .i64 e, .int .i64 s, .bool t, .slice A l0.length c]] (by rfl) rfl rfl (by (try simp only [List.map_toArray, List.map_cons, List.map_nil]); first | done | rfl) ?_
    with_reducible refine (batch_Len.calls k p e s t _ _ l0 r _ ?side1 hc0 hL).mono ?_
    (case side1 => exact Kd.C_below HR.out HB.out)
    rintro e w2 ⟨rfl, hb⟩
    refine ⟨_, rfl, ?_⟩
    have n0_ := Aside0.mk (blk_below (g := gb) BK.out hb)
    have n1_ := Aside0.mk (below_step HB.out hb)
    clear BK HB hb
    have BK := n0_
    have HB := n1_
    clear n0_ n1_
    refine hK.out _ _ ⟨(blk_cell BK.out 0).trans rfl, (blk_cell BK.out 1).trans rfl, (blk_cell BK.out 2).trans rfl, (blk_cell BK.out 3).trans rfl, (blk_cell BK.out 4).trans rfl, (blk_cell BK.out 5).trans rfl⟩ (fun hHeld => ?_)
    clear hK K
    refine norm_ (a' := ?_) ?_ ?_
    rotate_left
    · show Act.put _ (some 9) _ = _
      simp only [Act.put, List.setIfInBounds_toArray, List.set_cons_zero, List.set_cons_succ, i64_w, i32_w]
      rfl
    refine pure_ (i := 8) (N := some 10) (v := ?_) (a' := ?_) #[true, true, true, true, true, true, true, true, true, false, false, false] rfl rfl (any_of HT_.out (by kernel_rfl)) (fun _ _ _ h => h) (Or.inl ⟨by rfl, ?_⟩) ?_ ?_
    rotate_left
    · intro w'
      go_simp
      with_reducible rfl
    rotate_left
    · simp only [Act.put, List.setIfInBounds_toArray, List.set_cons_zero, List.set_cons_succ, i64_w, i32_w]
      rfl
    refine pure_ (i := 9) (N := some 11) (v := ?_) (a' := ?_) #[true, true, true, true, true, true, true, true, true, true, false, false] rfl rfl (any_of HT_.out (by kernel_rfl)) (fun _ _ _ h => h) (Or.inl ⟨by rfl, ?_⟩) ?_ ?_
    rotate_left
    · intro w'
      go_simp
      with_reducible rfl
    rotate_left
    · simp only [Act.put, List.setIfInBounds_toArray, List.set_cons_zero, List.set_cons_succ, i64_w, i32_w]
      rfl
    refine pure_ (i := 10) (N := some 12) (v := ?_) (a' := ?_) #[true, true, true, true, true, true, true, true, true, true, true, false] rfl rfl (any_of HT_.out (by kernel_rfl)) (fun _ _ _ h => h) (Or.inl ⟨by rfl, ?_⟩) ?_ ?_
    rotate_left
    · intro w'
      go_simp
      with_reducible rfl
    rotate_left
    · simp only [Act.put, List.setIfInBounds_toArray, List.set_cons_zero, List.set_cons_succ, i64_w, i32_w]
      rfl
    refine pure_ (i := 11) (N := some 1) (v := ?_) (a' := ?_) #[true, true, true, true, true, true, true, true, true, true, true, true] rfl rfl (any_of HT_.out (by kernel_rfl)) (fun _ _ _ h => h) (Or.inl ⟨by rfl, ?_⟩) ?_ ?_
    rotate_left
    · intro w'
      go_simp
      with_reducible rfl
    rotate_left
    · simp only [Act.put, List.setIfInBounds_toArray, List.set_cons_zero, List.set_cons_succ, i64_w, i32_w]
      rfl
    refine done_ (done_of HT_.out (by kernel_rfl)) ?_
    try go_wp2
    go_ret
    exact ⟨by simp [*], HB.out⟩
end Go.Proofs.Ythnmgbmpbhdfcaa.Hand
