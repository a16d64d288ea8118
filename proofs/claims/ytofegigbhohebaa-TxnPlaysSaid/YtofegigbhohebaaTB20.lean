/- No book, or one that nobody made. -/
import Derived.Test.YtofegigbhohebaaTB18
namespace Go.Proofs.Ytofegigbhohebaa.Hand
open Go.RowKit Go.Proofs.Ytofegigbhohebaa Go.Proofs.YtofegigbhohebaaW.PrintWords Go.Proofs.YtofegigbhohebaaW.PrintLast
set_option linter.unusedVariables false
set_option linter.unusedSimpArgs false
def NB (v : Value) (w : World) : Prop := v = .pointer none ∨ ∃ gb, v = .pointer (some ⟨gb, 0, none⟩) ∧ w.cell? ⟨gb, 2, none⟩ = some (.bool false)
theorem NB.below {v : Value} {w w' : World} (h : NB v w) (hb : Below w.heap.size w w') : NB v w' := by
  rcases h with rfl | ⟨gb, rfl, h⟩
  · exact .inl rfl
  · exact .inr ⟨gb, rfl, (hb.cell (p := ⟨gb, 2, none⟩) (World.block_lt_of_cell? w _ h)).trans h⟩
set_option maxRecDepth 100000 in
theorem none_n {v : Value} {w : World} (h : NB v w) : Calls Try.prog 35 #[v] w fun e w' => e = .returned (.bool true) ∧ w' = w := by
  rcases h with rfl | ⟨gb, rfl, c2⟩
  · go_enter Try.func35, Try.ntmps35
    go_wp2_with fail
    go_ret
    exact ⟨rfl, rfl⟩
  · go_enter Try.func35, Try.ntmps35
    go_wp2_with fail
    go_ret
    exact ⟨rfl, rfl⟩
set_option maxRecDepth 100000 in
theorem find_n {v : Value} {w : World} (h : NB v w) (s : ByteArray) : Calls Try.prog 23 #[v, .string s] w fun e w' => e = .returned (.tuple #[.int .i64 0, .int .i64 0, .bool false]) ∧ Below w.heap.size w w' := by
  have H := Aside0.mk h
  clear h
  go_enter Try.func23, Try.ntmps23
  go_wp2_with (go_at_call 35; refine (none_n H.out).mono ?_; rintro e w' ⟨rfl, rfl⟩)
  exact bodyPost_ret (v := .tuple #[.int .i64 0, .int .i64 0, .bool false]) (by simp [results, Try.results23, go_sem]) rfl ⟨rfl, Below.refl _ _⟩
set_option maxRecDepth 100000 in
theorem status_n {v : Value} {w : World} (h : NB v w) (n : Int) : Calls Try.prog 18 #[v, .int .i64 n] w fun e w' => e = .returned (.tuple #[.int .i64 0, .int .i64 0, .bool false]) ∧ Below w.heap.size w w' := by
  have H := Aside0.mk h
  clear h
  go_enter Try.func18, Try.ntmps18
  go_wp2_with (go_at_call 35; refine (none_n H.out).mono ?_; rintro e w' ⟨rfl, rfl⟩)
  exact bodyPost_ret (v := .tuple #[.int .i64 0, .int .i64 0, .bool false]) (by simp [results, Try.results18, go_sem]) rfl ⟨rfl, Below.refl _ _⟩
set_option maxRecDepth 100000 in
theorem todo_n {v : Value} {w : World} (h : NB v w) : Calls Try.prog 17 #[v] w fun e w' => e = .returned (.slice none 0 0) ∧ Below w.heap.size w w' := by
  have H := Aside0.mk h
  clear h
  go_enter Try.func17, Try.ntmps17
  go_wp2_with (go_at_call 35; refine (none_n H.out).mono ?_; rintro e w' ⟨rfl, rfl⟩)
  exact bodyPost_ret (v := .slice none 0 0) (by simp [results, Try.results17, go_sem]) rfl ⟨rfl, Below.refl _ _⟩
set_option maxRecDepth 100000 in
theorem places_n {v : Value} {w : World} (h : NB v w) (n : Int) : Calls Try.prog 21 #[v, .int .i64 n] w fun e w' => e = .returned (.slice none 0 0) ∧ Below w.heap.size w w' := by
  have H := Aside0.mk h
  clear h
  go_enter Try.func21, Try.ntmps21
  go_wp2_with (go_at_call 18; refine (status_n H.out n).mono ?_; rintro e w2 ⟨rfl, hb⟩; have HB := Aside0.mk hb; clear hb)
  exact bodyPost_ret (v := .slice none 0 0) (by simp [results, Try.results21, go_sem]) rfl ⟨rfl, HB.out⟩
set_option maxRecDepth 100000 in
theorem decide_n {v : Value} {w : World} (h : NB v w) (x : EvV) : Calls Try.prog 20 #[v, evE x] w fun e w' => e = .returned (.tuple #[.bool false, .int .i64 1]) ∧ Below w.heap.size w w' := by
  obtain ⟨o1, ho1⟩ : ∃ o1 : Obj, o1 = .cells #[.int .i64 x.kind, .string x.name, .int .i64 x.producer, .int .i64 x.epoch, .int .i64 x.place, .int .i64 x.timeout, .int .i64 x.now, .bool x.yes] 33 (0, 0) := ⟨_, rfl⟩
  obtain ⟨o2, ho2⟩ : ∃ o : Obj, o = .cells #[.bool false] 4 (0, 0) := ⟨_, rfl⟩
  obtain ⟨o3, ho3⟩ : ∃ o : Obj, o = .cells #[.int .i64 0] 30 (0, 0) := ⟨_, rfl⟩
  have e1 : (w.alloc o1).heap.size = w.heap.size + 1 := Array.size_push _
  have e2 : ((w.alloc o1).alloc o2).heap.size = w.heap.size + 1 + 1 := by rw [← e1]; exact Array.size_push _
  have hb := below_alloc (below_alloc (below_alloc (Below.refl w.heap.size w) o1) o2) o3
  have H := Aside0.mk (h.below hb)
  have HB := Aside0.mk hb
  have R1 : (((w.alloc o1).alloc o2).alloc o3).heap[w.heap.size + 1]? = some (.cells #[.bool false] 4 (0, 0)) := by rw [← ho2, ← e1]; exact blk_alloc (heap_alloc_new _ o2) o3
  have R2 : (((w.alloc o1).alloc o2).alloc o3).heap[w.heap.size + 1 + 1]? = some (.cells #[.int .i64 0] 30 (0, 0)) := by rw [← ho3, ← e2]; exact heap_alloc_new _ o3
  have K1 := Aside0.mk R1
  have K2 := Aside0.mk R2
  have r1 := (blk_cell R1 0).trans rfl
  have r2 := (blk_cell R2 0).trans rfl
  have f1 := blk_frozen R1 0
  have f2 := blk_frozen R2 0
  clear e1 e2 hb h R1 R2
  subst ho1 ho2 ho3
  unfold evE
  go_enter Try.func20, Try.ntmps20
  go_wp2_with (go_at_call 35; refine (none_n H.out).mono ?_; rintro e w' ⟨rfl, rfl⟩)
  exact bodyPost_ret (v := .tuple #[.bool false, .int .i64 1]) (by simp [results, Try.results20, go_sem]) rfl ⟨rfl, below_alloc (below_alloc (below_alloc (Below.refl _ _) _) _) _⟩
set_option maxRecDepth 100000 in
theorem apply_n {v : Value} {w : World} (h : NB v w) (x : EvV) : Calls Try.prog 15 #[v, evE x] w fun e w' => e = .returned (.int .i64 1) ∧ Below w.heap.size w w' := by
  have hb := below_alloc (Below.refl w.heap.size w) (.cells #[.int .i64 x.kind, .string x.name, .int .i64 x.producer, .int .i64 x.epoch, .int .i64 x.place, .int .i64 x.timeout, .int .i64 x.now, .bool x.yes] 33 (0, 0))
  have H := Aside0.mk (h.below hb)
  have HB := Aside0.mk hb
  clear hb h
  unfold evE
  go_enter Try.func15, Try.ntmps15
  go_wp2_with (go_at_call 20; refine (decide_n H.out x).mono ?_; rintro e w2 ⟨rfl, hb2⟩; have HB2 := Aside0.mk hb2; clear hb2)
  exact bodyPost_ret (v := .int .i64 1) (by simp [results, Try.results15, go_sem]) rfl ⟨rfl, below_step HB.out HB2.out⟩
end Go.Proofs.Ytofegigbhohebaa.Hand
