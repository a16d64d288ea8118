/- The closures that catch what Extend and Cut give up with. -/
import Derived.Test.YtpcoelimabojcaaHC9
import Derived.Laws.Pointers
namespace Go.Proofs.Ytpcoelimabojcaa.Hand
open Go.RowKit Go.Proofs.Ytpcoelimabojcaa Go.Proofs.YtpcoelimabojcaaW.PrintWords Go.Proofs.YtpcoelimabojcaaW.PrintLast
set_option linter.unusedVariables false
set_option linter.unusedSimpArgs false
theorem ta37 (ev : Int) (w : World) : (Instr.typeAssert (.iface 37 (.int .i64 ev)) 20 37 false).run Try.prog w = .ok (.int .i64 ev) w := by kernel_rfl
def TX33 : Bool × List (List Nat × List Nat) := (true, [([], []), ([], []), ([1], [1]), ([0, 0], [0]), ([2, 3, 0, 1, 2, 3], [2])])
def BX33 : List Nat := [0, 0, 2, 1, 15]
theorem tabX33 : rtab .any (opsOf Try.f33 2) = TX33 := by kernel_rfl
theorem bitsX33 : waitsOk TX33.2 BX33 = true := by kernel_rfl
theorem idle33 (p q : Addr) (w : World) :
    CallsD Try.prog 33 #[.pointer (some p), .pointer (some q)] .returning w fun e u' w' => e = .returned (.tuple #[]) ∧ u' = .returning ∧ w' = w := by
  refine callsD_of_wpS Try.func33 rfl fun c₀ cs hu => ?_
  apply wpS_seq
  apply wpS_region
  simp [wpOpsS, go_sem, recoverD, hu, Try.ntmps33, Exit.thenS]
  apply wpS_seq
  apply wpS_region
  simp [wpOpsS, go_sem, recoverD, hu, Exit.thenS]
  refine wpS_cond (t := false) (by simp [Act.eval, Array.replicate]) ?_
  simp only [Bool.false_eq_true, if_false]
  refine wpS_of_wp (wp_skip ?_)
  cases c₀
  simp_all [bodyPostS, results, Try.results33]
set_option maxHeartbeats 1600000 in
set_option maxRecDepth 100000 in
theorem catch33 (g h : Nat) (x y z : Value) (e0 : Int) (ev : Int) (older : List PanicEntry) (w : World) (hg : w.heap[g]? = some (.cells #[x, y, z] 27 (0, 0))) (hh : w.heap[h]? = some (.cells #[.int .i64 e0] 37 (0, 0))) (hgh : g ≠ h) :
    CallsD Try.prog 33 #[.pointer (some ⟨g, 0, none⟩), .pointer (some ⟨h, 0, none⟩)] (.panicking ({ v := .iface 37 (.int .i64 ev), recovered := false } :: older)) w fun e u' w' =>
      e = .returned (.tuple #[]) ∧ u' = .panicking ({ v := .iface 37 (.int .i64 ev), recovered := true } :: older) ∧ w'.heap[g]? = some (.cells #[.int .i64 0, .int .i64 0, .slice none 0 0] 27 (0, 0)) ∧ w'.heap[h]? = some (.cells #[.int .i64 ev] 37 (0, 0)) ∧ ∀ b, b ≤ g → b ≤ h → b ≤ w.heap.size → Below b w w' := by
  refine callsD_of_wpS Try.func33 rfl fun c₀ cs hu => ?_
  apply wpS_seq
  apply wpS_region
  simp [wpOpsS, go_sem, recoverD, hu, Try.ntmps33, Exit.thenS]
  refine wpS_of_wp ?_
  simp only [Array.replicate, List.replicate, List.setIfInBounds_toArray, List.set_cons_zero, List.set_cons_succ, List.append_toArray, List.cons_append, List.nil_append]
  have BG := Aside0.mk (blk_drew hg)
  have BH := Aside0.mk (blk_drew hh)
  have HW := Aside0.mk (fun b (hb : b ≤ w.heap.size) => below_drew (Below.refl b w))
  clear hg hh
  have hta := ta37 ev
  go_wp2_with fail
  refine start_ (n := 5) (S := fun _ => True) (ds := [3, 4]) #[false, false, false, false, false] (by kernel_rfl) rfl rfl trivial (fun hHeld => ?_); refine with_tabW tabX33 bitsX33 (fun HT_ HW_ => ?_)
  generalize hwd : w.drew = Wd at BG BH HW hHeld ⊢
  clear hwd
  refine pure_ (i := 0) (N := (some 6)) (v := ?_) (a' := ?_) #[true, false, false, false, false] rfl rfl (any_of HT_.out (by kernel_rfl)) (fun _ _ _ h => h) (Or.inl ⟨by rfl, ?_⟩) ?_ ?_
  rotate_left
  · intro w'
    go_simp
    with_reducible rfl
  rotate_left
  · simp only [Act.put, List.setIfInBounds_toArray, List.set_cons_zero, List.set_cons_succ, i64_w, i32_w]
    rfl
  refine pure_ (i := 1) (N := (some 7)) (v := ?_) (a' := ?_) #[true, true, false, false, false] rfl rfl (any_of HT_.out (by kernel_rfl)) (fun _ _ _ h => h) (Or.inl ⟨by rfl, ?_⟩) ?_ ?_
  rotate_left
  · intro w'
    go_simp
    with_reducible rfl
  rotate_left
  · simp only [Act.put, List.setIfInBounds_toArray, List.set_cons_zero, List.set_cons_succ, i64_w, i32_w]
    rfl
  refine pure_ (i := 2) (N := (some 8)) (v := ?_) (a' := ?_) #[true, true, true, false, false] rfl rfl (any_of HT_.out (by kernel_rfl)) (fun _ _ _ h => h) (Or.inl ⟨by rfl, ?_⟩) ?_ ?_
  rotate_left
  · intro w'
    go_simp
    with_reducible rfl
  rotate_left
  · simp only [Act.put, List.setIfInBounds_toArray, List.set_cons_zero, List.set_cons_succ, i64_w, i32_w]
    rfl
  have z0 : Wd.cell? ⟨g, 0, none⟩ = some x := (blk_cell BG.out 0).trans rfl
  have z1 : Wd.cell? ⟨g, 1, none⟩ = some y := (blk_cell BG.out 1).trans rfl
  have z2 : Wd.cell? ⟨g, 2, none⟩ = some z := (blk_cell BG.out 2).trans rfl
  have f0 := blk_frozen BG.out 0
  have f1 := blk_frozen BG.out 1
  have f2 := blk_frozen BG.out 2
  refine last_ (i := 3) (N := none) #[true, true, true, true, false] rfl rfl (one_of HT_.out (by kernel_rfl)) (by decide) (fun K hK => ?_)
  refine skip_ (w1 := ?_) (by rfl) rfl ?_ ?_
  rotate_left
  · go_simp
    rfl
  refine hK.out _ _ ?_
  clear hK K
  have K3 := Aside0.mk (put3 (x := .int .i64 0) (y := .int .i64 0) (z := .slice none 0 0) BG.out)
  have KH := Aside0.mk (show (((Wd.setCell ⟨g, 0, none⟩ (.int .i64 0)).setCell ⟨g, 1, none⟩ (.int .i64 0)).setCell ⟨g, 2, none⟩ (.slice none 0 0)).heap[h]? = _ from (Below.heap_setCell _ _ _ _ (by simpa using hgh.symm)).trans ((Below.heap_setCell _ _ _ _ (by simpa using hgh.symm)).trans ((Below.heap_setCell _ _ _ _ (by simpa using hgh.symm)).trans BH.out)))
  have HB3 := Aside0.mk (fun b (hb : b ≤ w.heap.size) (h1 : b ≤ g) => put3_B (x := .int .i64 0) (y := .int .i64 0) (z := .slice none 0 0) (HW.out b hb) h1)
  clear z0 z1 z2 f0 f1 f2 BG BH HW
  generalize (((Wd.setCell ⟨g, 0, none⟩ (.int .i64 0)).setCell ⟨g, 1, none⟩ (.int .i64 0)).setCell ⟨g, 2, none⟩ (.slice none 0 0)) = W3 at K3 KH HB3 ⊢
  have z0 : W3.cell? ⟨h, 0, none⟩ = some (.int .i64 e0) := (blk_cell KH.out 0).trans rfl
  have f0 := blk_frozen KH.out 0
  refine last_ (i := 4) (N := none) #[true, true, true, true, true] rfl rfl (one_of HT_.out (by kernel_rfl)) (by decide) (fun K hK => ?_)
  refine skip_ (w1 := ?_) (by rfl) rfl ?_ ?_
  rotate_left
  · go_simp
    rfl
  refine hK.out _ _ ?_
  clear hK K
  refine done_ (done_of HT_.out (by kernel_rfl)) ?_
  clear hHeld HT_ HW_
  have KG := (Below.heap_setCell W3 ⟨h, 0, none⟩ (.int .i64 ev) g (by simpa using hgh)).trans K3.out
  have KH4 := blk_put KH.out 0 (.int .i64 ev) rfl
  have HB4 := fun b (h1 : b ≤ g) (h2 : b ≤ h) (hb : b ≤ w.heap.size) => (HB3.out b hb h1).setCell (p := ⟨h, 0, none⟩) h2 (.int .i64 ev)
  exact ⟨rfl, _, rfl, _, results_none rfl _ _ _, rfl, rfl, KG, KH4, HB4⟩
def TX40 : Bool × List (List Nat × List Nat) := (true, [([], []), ([], []), ([1], [1]), ([0, 0], [0]), ([2, 3, 0, 1, 2, 3], [2])])
def BX40 : List Nat := [0, 0, 2, 1, 15]
theorem tabX40 : rtab .any (opsOf Try.f40 2) = TX40 := by kernel_rfl
theorem bitsX40 : waitsOk TX40.2 BX40 = true := by kernel_rfl
theorem idle40 (p q : Addr) (w : World) :
    CallsD Try.prog 40 #[.pointer (some p), .pointer (some q)] .returning w fun e u' w' => e = .returned (.tuple #[]) ∧ u' = .returning ∧ w' = w := by
  refine callsD_of_wpS Try.func40 rfl fun c₀ cs hu => ?_
  apply wpS_seq
  apply wpS_region
  simp [wpOpsS, go_sem, recoverD, hu, Try.ntmps40, Exit.thenS]
  apply wpS_seq
  apply wpS_region
  simp [wpOpsS, go_sem, recoverD, hu, Exit.thenS]
  refine wpS_cond (t := false) (by simp [Act.eval, Array.replicate]) ?_
  simp only [Bool.false_eq_true, if_false]
  refine wpS_of_wp (wp_skip ?_)
  cases c₀
  simp_all [bodyPostS, results, Try.results40]
set_option maxHeartbeats 1600000 in
set_option maxRecDepth 100000 in
theorem catch40 (g h : Nat) (x y z : Value) (e0 : Int) (ev : Int) (older : List PanicEntry) (w : World) (hg : w.heap[g]? = some (.cells #[x, y, z] 27 (0, 0))) (hh : w.heap[h]? = some (.cells #[.int .i64 e0] 37 (0, 0))) (hgh : g ≠ h) :
    CallsD Try.prog 40 #[.pointer (some ⟨g, 0, none⟩), .pointer (some ⟨h, 0, none⟩)] (.panicking ({ v := .iface 37 (.int .i64 ev), recovered := false } :: older)) w fun e u' w' =>
      e = .returned (.tuple #[]) ∧ u' = .panicking ({ v := .iface 37 (.int .i64 ev), recovered := true } :: older) ∧ w'.heap[g]? = some (.cells #[.int .i64 0, .int .i64 0, .slice none 0 0] 27 (0, 0)) ∧ w'.heap[h]? = some (.cells #[.int .i64 ev] 37 (0, 0)) ∧ ∀ b, b ≤ g → b ≤ h → b ≤ w.heap.size → Below b w w' := by
  refine callsD_of_wpS Try.func40 rfl fun c₀ cs hu => ?_
  apply wpS_seq
  apply wpS_region
  simp [wpOpsS, go_sem, recoverD, hu, Try.ntmps40, Exit.thenS]
  refine wpS_of_wp ?_
  simp only [Array.replicate, List.replicate, List.setIfInBounds_toArray, List.set_cons_zero, List.set_cons_succ, List.append_toArray, List.cons_append, List.nil_append]
  have BG := Aside0.mk (blk_drew hg)
  have BH := Aside0.mk (blk_drew hh)
  have HW := Aside0.mk (fun b (hb : b ≤ w.heap.size) => below_drew (Below.refl b w))
  clear hg hh
  have hta := ta37 ev
  go_wp2_with fail
  refine start_ (n := 5) (S := fun _ => True) (ds := [3, 4]) #[false, false, false, false, false] (by kernel_rfl) rfl rfl trivial (fun hHeld => ?_); refine with_tabW tabX40 bitsX40 (fun HT_ HW_ => ?_)
  generalize hwd : w.drew = Wd at BG BH HW hHeld ⊢
  clear hwd
  refine pure_ (i := 0) (N := (some 6)) (v := ?_) (a' := ?_) #[true, false, false, false, false] rfl rfl (any_of HT_.out (by kernel_rfl)) (fun _ _ _ h => h) (Or.inl ⟨by rfl, ?_⟩) ?_ ?_
  rotate_left
  · intro w'
    go_simp
    with_reducible rfl
  rotate_left
  · simp only [Act.put, List.setIfInBounds_toArray, List.set_cons_zero, List.set_cons_succ, i64_w, i32_w]
    rfl
  refine pure_ (i := 1) (N := (some 7)) (v := ?_) (a' := ?_) #[true, true, false, false, false] rfl rfl (any_of HT_.out (by kernel_rfl)) (fun _ _ _ h => h) (Or.inl ⟨by rfl, ?_⟩) ?_ ?_
  rotate_left
  · intro w'
    go_simp
    with_reducible rfl
  rotate_left
  · simp only [Act.put, List.setIfInBounds_toArray, List.set_cons_zero, List.set_cons_succ, i64_w, i32_w]
    rfl
  refine pure_ (i := 2) (N := (some 8)) (v := ?_) (a' := ?_) #[true, true, true, false, false] rfl rfl (any_of HT_.out (by kernel_rfl)) (fun _ _ _ h => h) (Or.inl ⟨by rfl, ?_⟩) ?_ ?_
  rotate_left
  · intro w'
    go_simp
    with_reducible rfl
  rotate_left
  · simp only [Act.put, List.setIfInBounds_toArray, List.set_cons_zero, List.set_cons_succ, i64_w, i32_w]
    rfl
  have z0 : Wd.cell? ⟨g, 0, none⟩ = some x := (blk_cell BG.out 0).trans rfl
  have z1 : Wd.cell? ⟨g, 1, none⟩ = some y := (blk_cell BG.out 1).trans rfl
  have z2 : Wd.cell? ⟨g, 2, none⟩ = some z := (blk_cell BG.out 2).trans rfl
  have f0 := blk_frozen BG.out 0
  have f1 := blk_frozen BG.out 1
  have f2 := blk_frozen BG.out 2
  refine last_ (i := 3) (N := none) #[true, true, true, true, false] rfl rfl (one_of HT_.out (by kernel_rfl)) (by decide) (fun K hK => ?_)
  refine skip_ (w1 := ?_) (by rfl) rfl ?_ ?_
  rotate_left
  · go_simp
    rfl
  refine hK.out _ _ ?_
  clear hK K
  have K3 := Aside0.mk (put3 (x := .int .i64 0) (y := .int .i64 0) (z := .slice none 0 0) BG.out)
  have KH := Aside0.mk (show (((Wd.setCell ⟨g, 0, none⟩ (.int .i64 0)).setCell ⟨g, 1, none⟩ (.int .i64 0)).setCell ⟨g, 2, none⟩ (.slice none 0 0)).heap[h]? = _ from (Below.heap_setCell _ _ _ _ (by simpa using hgh.symm)).trans ((Below.heap_setCell _ _ _ _ (by simpa using hgh.symm)).trans ((Below.heap_setCell _ _ _ _ (by simpa using hgh.symm)).trans BH.out)))
  have HB3 := Aside0.mk (fun b (hb : b ≤ w.heap.size) (h1 : b ≤ g) => put3_B (x := .int .i64 0) (y := .int .i64 0) (z := .slice none 0 0) (HW.out b hb) h1)
  clear z0 z1 z2 f0 f1 f2 BG BH HW
  generalize (((Wd.setCell ⟨g, 0, none⟩ (.int .i64 0)).setCell ⟨g, 1, none⟩ (.int .i64 0)).setCell ⟨g, 2, none⟩ (.slice none 0 0)) = W3 at K3 KH HB3 ⊢
  have z0 : W3.cell? ⟨h, 0, none⟩ = some (.int .i64 e0) := (blk_cell KH.out 0).trans rfl
  have f0 := blk_frozen KH.out 0
  refine last_ (i := 4) (N := none) #[true, true, true, true, true] rfl rfl (one_of HT_.out (by kernel_rfl)) (by decide) (fun K hK => ?_)
  refine skip_ (w1 := ?_) (by rfl) rfl ?_ ?_
  rotate_left
  · go_simp
    rfl
  refine hK.out _ _ ?_
  clear hK K
  refine done_ (done_of HT_.out (by kernel_rfl)) ?_
  clear hHeld HT_ HW_
  have KG := (Below.heap_setCell W3 ⟨h, 0, none⟩ (.int .i64 ev) g (by simpa using hgh)).trans K3.out
  have KH4 := blk_put KH.out 0 (.int .i64 ev) rfl
  have HB4 := fun b (h1 : b ≤ g) (h2 : b ≤ h) (hb : b ≤ w.heap.size) => (HB3.out b hb h1).setCell (p := ⟨h, 0, none⟩) h2 (.int .i64 ev)
  exact ⟨rfl, _, rfl, _, results_none rfl _ _ _, rfl, rfl, KG, KH4, HB4⟩
end Go.Proofs.Ytpcoelimabojcaa.Hand
