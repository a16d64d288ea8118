/- Take, and that the bytes it answers are one's own. -/
import Derived.Test.YtckeahjlfopaaaaHN18
namespace Go.Proofs.Ytckeahjlfopaaaa.Hand
open Go.RowKit Go.Proofs.Ytckeahjlfopaaaa Go.Proofs.YtckeahjlfopaaaaW.PrintWords Go.Proofs.YtckeahjlfopaaaaW.PrintLast
set_option linter.unusedVariables false
set_option linter.unusedSimpArgs false
set_option maxHeartbeats 1600000 in
set_option maxRecDepth 100000 in
theorem takeN_R {F : Nat → Prop} {g : Nat} {lu : List Int} {la : List (Int × List Int)} {W : World} (h : NI W F g lu la) (k : Nat) (hk : k < la.length) (hb : (la.getD k (0, [])).2.length ≤ 140737488351232) :
    Calls Try.prog 15 #[.pointer (some ⟨g, 0, none⟩), .int .i64 k] W fun e W' => ∃ A c F', e = .returned (.tuple #[.int .i64 (la.getD k (0, [])).1, .slice A (la.getD k (0, [])).2.length c, .bool true]) ∧ Kd.R (Kd.int .u8) 5 W' W.heap.size (fun _ => True) (.slice A (la.getD k (0, [])).2.length c) (la.getD k (0, [])).2 ∧ NI W' F' g lu (la.eraseIdx k) ∧ (∀ k, F' k → F k ∨ W.heap.size ≤ k) ∧ Fr F W W' := by
  obtain ⟨⟨v, vm, hg0, h2, HO0⟩, ho, hlt⟩ := h
  have H := Aside0.mk (And.intro hg0 (And.intro h2 (And.intro HO0 (And.intro ho hlt))))
  clear hg0 h2 HO0 ho hlt
  go_enter Try.func15, Try.ntmps15
  go_wp2_with fail
  refine (none_c g v vm true W H.out.1).mono ?_
  rintro e w ⟨rfl, rfl⟩
  go_wp2_with fail
  refine (take_msg g v vm true la k W H.out.1 (fun k => F k ∨ W.heap.size ≤ k) (Kd.R_mono H.out.2.2.1 (fun _ h => .inl h)) hk).mono ?_
  rintro e W1 ⟨Ab, cb, rfl, hC1, vm', g1, R1, f1, hown⟩
  have K := Aside0.mk (NI.late_step H.out.1 H.out.2.1 H.out.2.2.1 H.out.2.2.2.1 H.out.2.2.2.2 g1 R1 f1)
  have HC := Aside0.mk hC1
  clear hC1 g1 R1 f1 hown
  generalize hel : la.getD k (0, []) = el at *
  have HEL := Aside0.mk hel
  clear hel
  go_wp2_with fail
  have BZ := Aside0.mk (blk_drew (heap_alloc_new W1 (.cells #[.int .i64 el.1, .slice Ab el.2.length cb] 60 (0, 0))))
  have HB2 := Aside0.mk (Kd.C_drew (Kd.C_alloc HC.out (.cells #[.int .i64 el.1, .slice Ab el.2.length cb] 60 (0, 0))))
  have HL := Aside0.mk (below_drew1 (below_alloc (Below.refl _ W1) (.cells #[.int .i64 el.1, .slice Ab el.2.length cb] 60 (0, 0))))
  refine start_ (n := 9) (S := fun w' => w'.cell? ⟨W1.heap.size, 0, none⟩ = some (.int .i64 el.1) ∧ w'.cell? ⟨W1.heap.size, 1, none⟩ = some (.slice Ab el.2.length cb)) (ds := []) #[false, false, false, false, false, false, false, false, false] (by kernel_rfl) rfl rfl ⟨(blk_cell BZ.out 0).trans rfl, (blk_cell BZ.out 1).trans rfl⟩ (fun hHeld => ?_); refine with_tabW tabT4 bitsT4 (fun HT_ HW_ => ?_)
  generalize hwd : (W1.alloc _).drew = Wd at BZ HB2 HL hHeld ⊢
  clear hwd
  refine pure_ (i := 0) (N := (some 18)) (v := ?_) (a' := ?_) #[true, false, false, false, false, false, false, false, false] rfl rfl (any_of HT_.out (by kernel_rfl)) (fun _ _ _ h => h) (Or.inl ⟨by rfl, ?_⟩) ?_ ?_
  rotate_left
  · intro w'
    go_simp
    with_reducible rfl
  rotate_left
  · simp only [Act.put, List.setIfInBounds_toArray, List.set_cons_zero, List.set_cons_succ, i64_w, i32_w]
    rfl
  refine take_ (i := 1) (N := (some 19)) (v := ?_) (a' := ?_) #[true, true, false, false, false, false, false, false, false] rfl rfl (take_ofW HT_.out HW_.out (by kernel_rfl)) (fun _ _ _ h => h) (Or.inl ⟨by rfl, ?_⟩) hHeld ?_ ?_
  rotate_left
  · rintro w' ⟨s0, s1⟩
    go_simp
    with_reducible rfl
  rotate_left
  · simp only [Act.put, List.setIfInBounds_toArray, List.set_cons_zero, List.set_cons_succ, i64_w, i32_w]
    rfl
  refine pure_ (i := 2) (N := (some 20)) (v := ?_) (a' := ?_) #[true, true, true, false, false, false, false, false, false] rfl rfl (any_of HT_.out (by kernel_rfl)) (fun _ _ _ h => h) (Or.inl ⟨by rfl, ?_⟩) ?_ ?_
  rotate_left
  · intro w'
    go_simp
    with_reducible rfl
  rotate_left
  · simp only [Act.put, List.setIfInBounds_toArray, List.set_cons_zero, List.set_cons_succ, i64_w, i32_w]
    rfl
  refine take_ (i := 3) (N := (some 21)) (v := ?_) (a' := ?_) #[true, true, true, true, false, false, false, false, false] rfl rfl (take_ofW HT_.out HW_.out (by kernel_rfl)) (fun _ _ _ h => h) (Or.inl ⟨by rfl, ?_⟩) hHeld ?_ ?_
  rotate_left
  · rintro w' ⟨s0, s1⟩
    go_simp
    with_reducible rfl
  rotate_left
  · simp only [Act.put, List.setIfInBounds_toArray, List.set_cons_zero, List.set_cons_succ, i64_w, i32_w]
    rfl
  refine pure_ (i := 5) (N := (some 23)) (v := ?_) (a' := ?_) #[true, true, true, true, false, true, false, false, false] rfl rfl (any_of HT_.out (by kernel_rfl)) (fun _ _ _ h => h) (Or.inl ⟨by rfl, ?_⟩) ?_ ?_
  rotate_left
  · intro w'
    go_simp
    with_reducible rfl
  rotate_left
  · simp only [Act.put, List.setIfInBounds_toArray, List.set_cons_zero, List.set_cons_succ, i64_w, i32_w]
    rfl
  refine one_ (i := 4) (N := (some 22)) #[true, true, true, true, true, true, false, false, false] rfl rfl (one_of HT_.out (by kernel_rfl)) (by decide) (fun K hK => ?_)
  refine goes_ Try.func22 (by kernel_rfl) rfl #[.slice Ab el.2.length cb] (by rfl) rfl rfl (by (try simp only [List.map_toArray, List.map_cons, List.map_nil]); first | done | rfl) ?_
  refine (clone_c Ab cb el.2 _ HB2.out hb).mono ?_
  rintro e w5 ⟨v5, rfl, hR5, hb5⟩
  obtain ⟨A5, c5, rfl⟩ := Kd.R_slice hR5
  refine ⟨_, rfl, ?_⟩
  have BZ5 := Aside0.mk (blk_below BZ.out hb5)
  have H5 := Aside0.mk hR5
  have HL5 := Aside0.mk hb5
  clear BZ hR5 hb5
  have BZ := BZ5
  clear BZ5
  refine hK.out _ _ ⟨(blk_cell BZ.out 0).trans rfl, (blk_cell BZ.out 1).trans rfl⟩ (fun hHeld => ?_)
  clear hK K
  refine norm_ (a' := ?_) ?_ ?_
  rotate_left
  · show Act.put _ (some 22) _ = _
    simp only [Act.put, List.setIfInBounds_toArray, List.set_cons_zero, List.set_cons_succ, i64_w, i32_w]
    rfl
  refine pure_ (i := 6) (N := (some 4)) (v := ?_) (a' := ?_) #[true, true, true, true, true, true, true, false, false] rfl rfl (any_of HT_.out (by kernel_rfl)) (fun _ _ _ h => h) (Or.inl ⟨by rfl, ?_⟩) ?_ ?_
  rotate_left
  · intro w'
    go_simp
    with_reducible rfl
  rotate_left
  · simp only [Act.put, List.setIfInBounds_toArray, List.set_cons_zero, List.set_cons_succ, i64_w, i32_w]
    rfl
  refine pure_ (i := 7) (N := (some 5)) (v := ?_) (a' := ?_) #[true, true, true, true, true, true, true, true, false] rfl rfl (any_of HT_.out (by kernel_rfl)) (fun _ _ _ h => h) (Or.inl ⟨by rfl, ?_⟩) ?_ ?_
  rotate_left
  · intro w'
    go_simp
    with_reducible rfl
  rotate_left
  · simp only [Act.put, List.setIfInBounds_toArray, List.set_cons_zero, List.set_cons_succ, i64_w, i32_w]
    rfl
  refine pure_ (i := 8) (N := (some 6)) (v := ?_) (a' := ?_) #[true, true, true, true, true, true, true, true, true] rfl rfl (any_of HT_.out (by kernel_rfl)) (fun _ _ _ h => h) (Or.inl ⟨by rfl, ?_⟩) ?_ ?_
  rotate_left
  · intro w'
    go_simp
    with_reducible rfl
  rotate_left
  · simp only [Act.put, List.setIfInBounds_toArray, List.set_cons_zero, List.set_cons_succ, i64_w, i32_w]
    rfl
  refine done_ (done_of HT_.out (by kernel_rfl)) ?_
  clear hHeld HT_ HW_
  go_wp2_with fail
  have HBL := below_step HL.out HL5.out
  exact bodyPost_ret (v := .tuple #[.int .i64 el.1, .slice A5 el.2.length c5, .bool true]) (by simp [results, Try.results15, go_sem]) rfl (by rw [HEL.out]; exact ⟨A5, c5, more F W W1, rfl, Kd.R_lower H5.out (Nat.le_trans K.out.2.size HL.out.size), K.out.1.below HBL, fun k hk => hk.imp id (fun h => h.1), K.out.2.trans (Fr.of_below (F := fun _ => False) HBL) (fun _ h => h.elim)⟩)
end Go.Proofs.Ytckeahjlfopaaaa.Hand
