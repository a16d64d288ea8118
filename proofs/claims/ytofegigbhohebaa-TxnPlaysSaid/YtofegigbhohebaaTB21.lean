/- TxnNil. -/
import Derived.Test.YtofegigbhohebaaTB19
import Derived.Test.YtofegigbhohebaaTB20
namespace Go.Proofs.Ytofegigbhohebaa.Hand
open Go.RowKit Go.Proofs.Ytofegigbhohebaa Go.Proofs.YtofegigbhohebaaW.PrintWords Go.Proofs.YtofegigbhohebaaW.PrintLast
set_option linter.unusedVariables false
set_option linter.unusedSimpArgs false
set_option maxRecDepth 100000 in
theorem own_c (x : EvV) (w : World) : Calls Try.prog 16 #[evE x] w fun e w' => e = .returned (evE x) ∧ Below w.heap.size w w' := by
  obtain ⟨kind, name, producer, epoch, place, timeout, now, yes⟩ := x
  unfold evE
  have hb1 := below_alloc (Below.refl w.heap.size w) (.cells #[.int .i64 kind, .string name, .int .i64 producer, .int .i64 epoch, .int .i64 place, .int .i64 timeout, .int .i64 now, .bool yes] 35 (0, 0))
  have HX := heap_alloc_new w (.cells #[.int .i64 kind, .string name, .int .i64 producer, .int .i64 epoch, .int .i64 place, .int .i64 timeout, .int .i64 now, .bool yes] 35 (0, 0))
  go_enter Try.func16, Try.ntmps16
  go_wp2_with fail
  exact bodyPost_ret (v := .agg #[.int .i64 kind, .string name, .int .i64 producer, .int .i64 epoch, .int .i64 place, .int .i64 timeout, .int .i64 now, .bool yes]) (by simp [results, Try.results16, go_sem]) rfl ⟨rfl, below_alloc hb1 _⟩
/-- Between two calls. -/
structure NI (v : Value) (bx : Array Value) (w w1 : World) : Prop where
  below : Below w.heap.size w w1
  nb : NB v w1
  box : w1.heap[w.heap.size]? = some (.cells bx 35 (0, 0))
theorem NI.move {v : Value} {bx : Array Value} {w w1 w2 : World} (h : NI v bx w w1) (hb : Below w1.heap.size w1 w2) : NI v bx w w2 := ⟨below_step h.below hb, h.nb.below hb, blk_below h.box hb⟩
set_option maxHeartbeats 6400000 in
set_option maxRecDepth 100000 in
theorem nil_c (x : EvV) (n : Int) (w : World) : Calls Try.prog 8 #[evE x, .int .i64 n] w fun e w' => e = .returned (.bool true) ∧ Below w.heap.size w w' := by
  have HO := Aside0.mk (fun W => own_c x W)
  have HD := Aside0.mk (fun v W (h : NB v W) => decide_n h x)
  have HA := Aside0.mk (fun v W (h : NB v W) => apply_n h x)
  obtain ⟨kind, name, producer, epoch, place, timeout, now, yes⟩ := x
  unfold evE at HO HD HA ⊢
  have hb1 := below_alloc (Below.refl w.heap.size w) (.cells #[.int .i64 kind, .string name, .int .i64 producer, .int .i64 epoch, .int .i64 place, .int .i64 timeout, .int .i64 now, .bool yes] 35 (0, 0))
  have HB := Aside0.mk hb1
  have HX := Aside0.mk (heap_alloc_new w (.cells #[.int .i64 kind, .string name, .int .i64 producer, .int .i64 epoch, .int .i64 place, .int .i64 timeout, .int .i64 now, .bool yes] 35 (0, 0)))
  clear hb1
  go_enter Try.func8, Try.ntmps8
  go_wp2_with fail
  generalize (w.alloc (.cells #[.int .i64 kind, .string name, .int .i64 producer, .int .i64 epoch, .int .i64 place, .int .i64 timeout, .int .i64 now, .bool yes] 35 (0, 0))) = W0 at HB HX ⊢
  go_loopw [5, 6] (fun v i wr => ∃ m : Nat, m ≤ 2 ∧ i = .int .i64 (m : Int) ∧ Below w.heap.size w wr ∧ NB v wr ∧ wr.heap[w.heap.size]? = some (.cells #[.int .i64 kind, .string name, .int .i64 producer, .int .i64 epoch, .int .i64 place, .int .i64 timeout, .int .i64 now, .bool yes] 35 (0, 0))) (fun v i _ => 2 - (intOf i).toNat)
  case atStart => exact ⟨0, by decide, rfl, HB.out, .inl rfl, HX.out⟩
  case round =>
    obtain ⟨m, hm, rfl, hb, hn, hx⟩ := hrel
    have HS := Aside0.mk (NI.mk hb hn hx)
    clear hb hn hx HB HX
    by_cases hm2 : m = 2
    · subst hm2
      have hk := Aside0.mk (knows_c wr)
      go_wp2_with (go_at_call 13; refine hk.out.mono ?_; rintro e w2 ⟨rfl, hb⟩; have HB2 := Aside0.mk (below_step HS.out.below hb); clear hb)
      exact bodyPost_ret (v := .bool true) (by simp [results, Try.results8, go_sem]) rfl ⟨rfl, HB2.out⟩
    · have hmc : (m : Int) < 2 := by omega
      have z0 := (blk_cell HS.out.box 0).trans rfl
      have z1 := (blk_cell HS.out.box 1).trans rfl
      have z2 := (blk_cell HS.out.box 2).trans rfl
      have z3 := (blk_cell HS.out.box 3).trans rfl
      have z4 := (blk_cell HS.out.box 4).trans rfl
      have z5 := (blk_cell HS.out.box 5).trans rfl
      have z6 := (blk_cell HS.out.box 6).trans rfl
      have z7 := (blk_cell HS.out.box 7).trans rfl
      go_wp2_with (first | (go_at_call 16; refine (HO.out _).mono ?_; rintro e w2 ⟨rfl, hb⟩; have HS := Aside0.mk (HS.out.move hb); clear hb; have z1 := (blk_cell HS.out.box 1).trans rfl; have z0 := (blk_cell HS.out.box 0).trans rfl; have z2 := (blk_cell HS.out.box 2).trans rfl; have z3 := (blk_cell HS.out.box 3).trans rfl; have z4 := (blk_cell HS.out.box 4).trans rfl; have z5 := (blk_cell HS.out.box 5).trans rfl; have z6 := (blk_cell HS.out.box 6).trans rfl; have z7 := (blk_cell HS.out.box 7).trans rfl) | (go_at_call 20; refine (HD.out _ _ HS.out.nb).mono ?_; rintro e w2 ⟨rfl, hb⟩; have HS := Aside0.mk (HS.out.move hb); clear hb; have z1 := (blk_cell HS.out.box 1).trans rfl; have z0 := (blk_cell HS.out.box 0).trans rfl; have z2 := (blk_cell HS.out.box 2).trans rfl; have z3 := (blk_cell HS.out.box 3).trans rfl; have z4 := (blk_cell HS.out.box 4).trans rfl; have z5 := (blk_cell HS.out.box 5).trans rfl; have z6 := (blk_cell HS.out.box 6).trans rfl; have z7 := (blk_cell HS.out.box 7).trans rfl) | (go_at_call 23; refine (find_n HS.out.nb name).mono ?_; rintro e w2 ⟨rfl, hb⟩; have HS := Aside0.mk (HS.out.move hb); clear hb; have z1 := (blk_cell HS.out.box 1).trans rfl; have z0 := (blk_cell HS.out.box 0).trans rfl; have z2 := (blk_cell HS.out.box 2).trans rfl; have z3 := (blk_cell HS.out.box 3).trans rfl; have z4 := (blk_cell HS.out.box 4).trans rfl; have z5 := (blk_cell HS.out.box 5).trans rfl; have z6 := (blk_cell HS.out.box 6).trans rfl; have z7 := (blk_cell HS.out.box 7).trans rfl) | (go_at_call 18; refine (status_n HS.out.nb n).mono ?_; rintro e w2 ⟨rfl, hb⟩; have HS := Aside0.mk (HS.out.move hb); clear hb; have z1 := (blk_cell HS.out.box 1).trans rfl; have z0 := (blk_cell HS.out.box 0).trans rfl; have z2 := (blk_cell HS.out.box 2).trans rfl; have z3 := (blk_cell HS.out.box 3).trans rfl; have z4 := (blk_cell HS.out.box 4).trans rfl; have z5 := (blk_cell HS.out.box 5).trans rfl; have z6 := (blk_cell HS.out.box 6).trans rfl; have z7 := (blk_cell HS.out.box 7).trans rfl) | (go_at_call 19; refine (num_c _ _).mono ?_; rintro e w2 ⟨rfl, rfl⟩) | (go_at_call 15; refine (HA.out _ _ HS.out.nb).mono ?_; rintro e w2 ⟨rfl, hb⟩; have HS := Aside0.mk (HS.out.move hb); clear hb; have z1 := (blk_cell HS.out.box 1).trans rfl; have z0 := (blk_cell HS.out.box 0).trans rfl; have z2 := (blk_cell HS.out.box 2).trans rfl; have z3 := (blk_cell HS.out.box 3).trans rfl; have z4 := (blk_cell HS.out.box 4).trans rfl; have z5 := (blk_cell HS.out.box 5).trans rfl; have z6 := (blk_cell HS.out.box 6).trans rfl; have z7 := (blk_cell HS.out.box 7).trans rfl) | (go_at_call 21; refine (places_n HS.out.nb n).mono ?_; rintro e w2 ⟨rfl, hb⟩; have HS := Aside0.mk (HS.out.move hb); clear hb; have z1 := (blk_cell HS.out.box 1).trans rfl; have z0 := (blk_cell HS.out.box 0).trans rfl; have z2 := (blk_cell HS.out.box 2).trans rfl; have z3 := (blk_cell HS.out.box 3).trans rfl; have z4 := (blk_cell HS.out.box 4).trans rfl; have z5 := (blk_cell HS.out.box 5).trans rfl; have z6 := (blk_cell HS.out.box 6).trans rfl; have z7 := (blk_cell HS.out.box 7).trans rfl) | (go_at_call 17; refine (todo_n HS.out.nb).mono ?_; rintro e w2 ⟨rfl, hb⟩; have HS := Aside0.mk (HS.out.move hb); clear hb; have z1 := (blk_cell HS.out.box 1).trans rfl; have z0 := (blk_cell HS.out.box 0).trans rfl; have z2 := (blk_cell HS.out.box 2).trans rfl; have z3 := (blk_cell HS.out.box 3).trans rfl; have z4 := (blk_cell HS.out.box 4).trans rfl; have z5 := (blk_cell HS.out.box 5).trans rfl; have z6 := (blk_cell HS.out.box 6).trans rfl; have z7 := (blk_cell HS.out.box 7).trans rfl))
      have hbn := below_alloc (Below.refl w2.heap.size w2) (.cells #[.slice none 0 0, .map none, .bool false] 62 (0, 0))
      exact ⟨⟨m + 1, by omega, by go_num, below_step HS.out.below hbn, .inr ⟨_, rfl, (blk_cell (heap_alloc_new w2 _) 2).trans rfl⟩, blk_below HS.out.box hbn⟩, by simp only [intOf]; omega⟩
end Go.Proofs.Ytofegigbhohebaa.Hand
