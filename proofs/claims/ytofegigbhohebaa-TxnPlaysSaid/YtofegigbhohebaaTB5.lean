/- The book's small functions. -/
import Derived.Test.YtofegigbhohebaaTB4
import Derived.Test.YtofegigbhohebaaTB2
namespace Go.Proofs.Ytofegigbhohebaa.Hand
open Go.RowKit Go.Proofs.Ytofegigbhohebaa Go.Proofs.YtofegigbhohebaaW.PrintWords Go.Proofs.YtofegigbhohebaaW.PrintLast
set_option linter.unusedVariables false
set_option linter.unusedSimpArgs false
set_option maxHeartbeats 1600000 in
set_option maxRecDepth 100000 in
theorem ends_c (g : Nat) (p : ProdV) (v : Value) (w : World) (hb : w.heap[g]? = some (.cells (prodC p v) 85 (0, 0))) : Calls Try.prog 42 #[.pointer (some ⟨g, 0, none⟩)] w fun e w' => e = .returned (.bool (endsP p)) ∧ w' = w := by
  have c3 : w.cell? ⟨g, 3, none⟩ = some (.int .i64 p.status) := (blk_cell hb 3).trans rfl
  unfold endsP
  generalize p.status = s at c3 ⊢
  clear hb
  by_cases h2 : s = 2
  · subst h2
    go_enter Try.func42, Try.ntmps42
    go_wp2_with fail
    go_ret
    exact ⟨rfl, rfl⟩
  · go_enter Try.func42, Try.ntmps42
    go_wp2_with fail
    go_ret
    exact ⟨retB (by first | rfl | (by_cases h3 : s = 3 <;> simp [h2, h3])), rfl⟩
set_option maxHeartbeats 1600000 in
set_option maxRecDepth 100000 in
theorem over_c (g : Nat) (p : ProdV) (v : Value) (now : Int) (w : World) (hb : w.heap[g]? = some (.cells (prodC p v) 85 (0, 0))) (hg : GoodP p) : Calls Try.prog 67 #[.pointer (some ⟨g, 0, none⟩), .int .i64 now] w fun e w' => e = .returned (.bool (overP p now)) ∧ ∃ n, w' = w.drewN n := by
  have c3 : w.cell? ⟨g, 3, none⟩ = some (.int .i64 p.status) := (blk_cell hb 3).trans rfl
  have c4 : w.cell? ⟨g, 4, none⟩ = some (.int .i64 p.since) := (blk_cell hb 4).trans rfl
  have c1 : w.cell? ⟨g, 1, none⟩ = some (.int .i64 p.timeout) := (blk_cell hb 1).trans rfl
  have hs0 := hg.s0
  have hs1 := hg.s1
  have ht0 := hg.t0
  have ht1 := hg.t1
  unfold overP
  generalize p.status = s at c3 ⊢
  generalize p.since = si at c4 hs0 hs1 ⊢
  generalize p.timeout = ti at c1 ht0 ht1 ⊢
  clear hb hg
  have hw : wrap64 (si + ti) = si + ti := by unfold wrap64; omega
  by_cases h2 : s = 1
  · subst h2
    go_enter Try.func67, Try.ntmps67
    go_wp2_with fail
    go_quiet (fail)
    go_wp2_with fail
    go_ret
    exact ⟨retB (by simp), _, rfl⟩
  · go_enter Try.func67, Try.ntmps67
    go_wp2_with fail
    go_quiet (fail)
    go_wp2_with fail
    go_ret
    exact ⟨retB (by simp [h2]), _, rfl⟩
set_option maxHeartbeats 1600000 in
set_option maxRecDepth 100000 in
theorem end_c (g : Nat) (p : ProdV) (A : Option Addr) (c : Nat) (st : Int) (w : World) (hb : w.heap[g]? = some (.cells (prodC p (.slice A p.places.length c)) 85 (0, 0))) :
    Calls Try.prog 58 #[.pointer (some ⟨g, 0, none⟩), .int .i64 st] w fun e w' => e = .returned (.tuple #[]) ∧ w'.heap[g]? = some (.cells (prodC (endP p st) (.slice A p.places.length c)) 85 (0, 0)) ∧ w.grownBy w' (some g) ∧ w'.heap.size = w.heap.size := by
  have c3 : w.cell? ⟨g, 3, none⟩ = some (.int .i64 p.status) := (blk_cell hb 3).trans rfl
  have f3 := blk_frozen hb 3
  have c5 : w.cell? ⟨g, 5, none⟩ = some (.slice A p.places.length c) := (blk_cell hb 5).trans rfl
  have HB := Aside0.mk hb
  clear hb
  have gs : ∀ (W : World) (u : Value), W.grownBy (W.setCell ⟨g, 3, none⟩ u) (some g) := fun W u => ⟨rfl, rfl, rfl, by simp [World.setCell], fun k _ hk => Below.heap_setCell _ _ _ k (fun e => hk (by rw [e]))⟩
  have GS := Aside0.mk gs
  clear gs
  by_cases h0 : p.places.length = 0
  · have hE := Aside0.mk (show prodC (endP p st) (.slice A p.places.length c) = prodC { p with status := 0 } (.slice A p.places.length c) by unfold endP; rw [if_pos h0])
    go_enter Try.func58, Try.ntmps58
    go_wp2_with fail
    go_end0
    exact ⟨rfl, by rw [hE.out]; exact blk_put (blk_put HB.out 3 (.int .i64 st) rfl) 3 (.int .i64 0) rfl, World.grownBy.trans (GS.out _ _) (GS.out _ _), by simp [World.setCell]⟩
  · have hE := Aside0.mk (show prodC (endP p st) (.slice A p.places.length c) = prodC { p with status := st } (.slice A p.places.length c) by unfold endP; rw [if_neg h0])
    go_enter Try.func58, Try.ntmps58
    go_wp2_with fail
    go_end0
    exact ⟨rfl, by rw [hE.out]; exact blk_put HB.out 3 (.int .i64 st) rfl, GS.out _ _, by simp [World.setCell]⟩
set_option maxHeartbeats 1600000 in
set_option maxRecDepth 100000 in
theorem none_c {own : Nat → Nat} {gb : Nat} {gs : List Nat} {ps : List ProdV} {w : World} (h : BI own gb gs ps w) : Calls Try.prog 35 #[.pointer (some ⟨gb, 0, none⟩)] w fun e w' => e = .returned (.bool false) ∧ w' = w := by
  obtain ⟨A, c, B, hb, -⟩ := h.book
  have c2 : w.cell? ⟨gb, 2, none⟩ = some (.bool true) := (blk_cell hb 2).trans rfl
  clear hb h
  go_enter Try.func35, Try.ntmps35
  go_wp2_with fail
  go_ret
  exact ⟨rfl, rfl⟩
set_option maxHeartbeats 1600000 in
set_option maxRecDepth 100000 in
theorem new_c (w : World) : Calls Try.prog 12 #[] w fun e w' => ∃ own gb, e = .returned (.pointer (some ⟨gb, 0, none⟩)) ∧ BI own gb [] [] w' ∧ Below w.heap.size w w' ∧ ∀ k, k < w.heap.size → own k = 0 := by
  have hmm := @run_makeMap Try.prog
  go_enter Try.func12, Try.ntmps12
  go_wp2_with fail
  go_ret
  have hb := heap_alloc_new (w.alloc (.map #[] 0)) (.cells #[.slice none 0 0, .map (some w.heap.size), .bool true] 62 (0, 0))
  have hs : (w.alloc (.map #[] 0)).heap.size = w.heap.size + 1 := Array.size_push _
  have hs2 : ((w.alloc (.map #[] 0)).alloc (.cells #[.slice none 0 0, .map (some w.heap.size), .bool true] 62 (0, 0))).heap.size = w.heap.size + 1 + 1 := by rw [← hs]; exact Array.size_push _
  rw [hs] at hb
  refine ⟨fun k => if k = w.heap.size ∨ k = w.heap.size + 1 then 1 else 0, w.heap.size + 1, rfl, ⟨fun k hk => ?_, rfl, ⟨none, 0, w.heap.size, hb, Kd.R_nil _ _ _ _ _, (MapS.made w).move (blk_alloc (MapS.made w).choose_spec.choose_spec.1 _ |>.trans (MapS.made w).choose_spec.choose_spec.1.symm), if_pos (.inl rfl)⟩, if_pos (.inr rfl), fun i hi => absurd hi (Nat.not_lt_zero i)⟩, below_alloc (below_alloc (Below.refl _ _) _) _, fun k hk => if_neg (by omega)⟩
  rw [hs2]
  split at hk
  · omega
  · exact absurd rfl hk
end Go.Proofs.Ytofegigbhohebaa.Hand
