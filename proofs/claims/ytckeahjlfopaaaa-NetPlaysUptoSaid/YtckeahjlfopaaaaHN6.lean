/- A Net's methods: Message, Take, Double. -/
import Derived.Test.YtckeahjlfopaaaaHN5
namespace Go.Proofs.Ytckeahjlfopaaaa.Hand
open Go.RowKit Go.Proofs.Ytckeahjlfopaaaa Go.Proofs.YtckeahjlfopaaaaW.PrintWords Go.Proofs.YtckeahjlfopaaaaW.PrintLast
set_option linter.unusedVariables false
set_option linter.unusedSimpArgs false

def TM4 : Bool × List (List Nat × List Nat) := (true, [([], []), ([0], [0]), ([], []), ([2], [2]), ([3], [3]), ([1, 4, 0, 1], [1]), ([4, 5, 0, 1, 2, 3, 4, 5], [4]), ([6, 0, 1, 2, 3, 4, 5, 6], [])])
def BM4 : List Nat := [0, 1, 0, 4, 12, 31, 63, 127]
theorem tabM4 : rtab .any (opsOf Try.f13 4) = TM4 := by kernel_rfl
theorem bitsM4 : waitsOk TM4.2 BM4 = true := by kernel_rfl

def TT4 : Bool × List (List Nat × List Nat) := (true, [([], []), ([0], [0]), ([], []), ([2], [2]), ([3], [3]), ([], []), ([1, 4, 0, 1], [1]), ([4, 6, 0, 1, 2, 3, 4, 6], [4]), ([5, 7, 0, 1, 2, 3, 4, 5, 6, 7], [5])])
def BT4 : List Nat := [0, 1, 0, 4, 12, 0, 31, 95, 255]
theorem tabT4 : rtab .any (opsOf Try.f15 4) = TT4 := by kernel_rfl
theorem bitsT4 : waitsOk TT4.2 BT4 = true := by kernel_rfl

theorem clone_nil (W : World) : Calls Try.prog 22 #[.slice none 0 0] W fun e W' => e = .returned (.slice none 0 0) ∧ W = W' := by
  have q0 := eq_nil0
  go_enter Try.func22, Try.ntmps22
  go_wp2_with fail
  go_ret
  exact ⟨rfl, rfl⟩
set_option maxHeartbeats 1600000 in
theorem msg_no {F : Nat → Prop} {g : Nat} {lu : List Int} {la : List (Int × List Int)} {W : World} (h : NI W F g lu la) (k : Int) (hk : k < 0 ∨ la.length ≤ k) :
    Calls Try.prog 13 #[.pointer (some ⟨g, 0, none⟩), .int .i64 k] W fun e W' => e = .returned (.tuple #[.int .i64 0, .slice none 0 0, .bool false]) ∧ W = W' := by
  by_cases h0 : k < 0
  · go_enter Try.func13, Try.ntmps13
    go_wp2_with fail
    refine bodyPost_ret (v := .tuple #[.int .i64 0, .slice none 0 0, .bool false]) (by simp [results, Try.results13, go_sem]) rfl ⟨rfl, rfl⟩
  · have h1 : (la.length : Int) ≤ k := by omega
    have h2 : decide ((la.length : Int) ≤ k) = true := by simpa using h1
    have H := Aside0.mk h
    clear h hk
    go_enter Try.func13, Try.ntmps13
    go_wp2_with fail
    refine (late_ni H.out).mono ?_
    rintro e w ⟨rfl, rfl⟩
    go_wp2_with fail
    refine bodyPost_ret (v := .tuple #[.int .i64 0, .slice none 0 0, .bool false]) (by simp [results, Try.results13, go_sem]) rfl ⟨rfl, rfl⟩
theorem msg_off (p : Value) (hp : ∀ W, Calls Try.prog 18 #[p] W fun e W' => e = .returned (.bool true) ∧ W = W') (k : Int) (W : World) : Calls Try.prog 13 #[p, .int .i64 k] W fun e W' => e = .returned (.tuple #[.int .i64 0, .slice none 0 0, .bool false]) ∧ W = W' := by
  have H := Aside0.mk (fun W => late_off p hp W)
  clear hp
  by_cases h0 : k < 0
  · go_enter Try.func13, Try.ntmps13
    go_wp2_with fail
    refine bodyPost_ret (v := .tuple #[.int .i64 0, .slice none 0 0, .bool false]) (by simp [results, Try.results13, go_sem]) rfl ⟨rfl, rfl⟩
  · have h1 : (0 : Int) ≤ k := by omega
    go_enter Try.func13, Try.ntmps13
    go_wp2_with fail
    refine (H.out W).mono ?_
    rintro e w ⟨rfl, rfl⟩
    go_wp2_with fail
    refine bodyPost_ret (v := .tuple #[.int .i64 0, .slice none 0 0, .bool false]) (by simp [results, Try.results13, go_sem]) rfl ⟨rfl, rfl⟩
set_option maxHeartbeats 1600000 in
set_option maxRecDepth 100000 in
theorem msg_c {F : Nat → Prop} {g : Nat} {lu : List Int} {la : List (Int × List Int)} {W : World} (h : NI W F g lu la) (k : Nat) (hk : k < la.length) (hb : (la.getD k (0, [])).2.length ≤ 140737488351232) :
    Calls Try.prog 13 #[.pointer (some ⟨g, 0, none⟩), .int .i64 k] W fun e W' => ∃ A c, e = .returned (.tuple #[.int .i64 (la.getD k (0, [])).1, .slice A (la.getD k (0, [])).2.length c, .bool true]) ∧ Kd.R (Kd.int .u8) 5 W' W.heap.size (fun _ => True) (.slice A (la.getD k (0, [])).2.length c) (la.getD k (0, [])).2 ∧ Below W.heap.size W W' := by
  have HN := Aside0.mk h
  obtain ⟨⟨v, vm, hg0, h2, HO0⟩, ho, hlt'⟩ := h
  obtain ⟨gm, cap, rfl, _, hlt, cellsm, htm⟩ := Kd.R_form HO0 (by omega)
  obtain ⟨c2, hcl, hM, hcc, _⟩ := Kd.R_elem HO0 (0, []) (k : Int) (by omega) (by omega)
  rw [Int.toNat_natCast] at hM hcc
  obtain ⟨vb, rfl, hRb⟩ := k60_openM hM
  obtain ⟨Ab, cb, rfl⟩ := Kd.R_slice hRb
  have hmax := Kd.C_max (Kd.R_reads HO0).choose_spec.choose_spec.2.2
  have z0 : W.cell? ⟨g, 1, none⟩ = some (.slice (some ⟨gm, 0, none⟩) la.length cap) := (blk_cell hg0 1).trans rfl
  have x0 : W.cell? ⟨gm, k * 2, none⟩ = some (.int .i64 (la.getD k (0, [])).1) := hcc 0 _ rfl
  have x1 : W.cell? ⟨gm, k * 2 + 1, none⟩ = some (.slice Ab (la.getD k (0, [])).2.length cb) := hcc 1 _ rfl
  generalize la.getD k (0, []) = el at *
  have HB := Aside0.mk hRb
  have hd : decide ((la.length : Int) ≤ (k : Int)) = false := by rw [decide_eq_false_iff_not]; omega
  have hd2 : decide (la.length ≤ k) = false := by rw [decide_eq_false_iff_not]; omega
  clear HO0 hg0 hM hcc hRb htm hcl h2 ho hlt'
  go_enter Try.func13, Try.ntmps13
  go_wp2_with fail
  refine (late_ni HN.out).mono ?_
  rintro e w ⟨rfl, rfl⟩
  go_wp2_with fail
  have BZ := Aside0.mk (blk_drew (heap_alloc_new W (.cells #[.int .i64 el.1, .slice Ab el.2.length cb] 60 (0, 0))))
  have HB2 := Aside0.mk (Kd.R_drew (Kd.R_alloc HB.out (.cells #[.int .i64 el.1, .slice Ab el.2.length cb] 60 (0, 0))))
  have HL := Aside0.mk (below_drew1 (below_alloc (Below.refl _ W) (.cells #[.int .i64 el.1, .slice Ab el.2.length cb] 60 (0, 0))))
  refine start_ (n := 8) (S := fun w' => w'.cell? ⟨W.heap.size, 0, none⟩ = some (.int .i64 el.1) ∧ w'.cell? ⟨W.heap.size, 1, none⟩ = some (.slice Ab el.2.length cb)) (ds := []) #[false, false, false, false, false, false, false, false] (by kernel_rfl) rfl rfl ⟨(blk_cell BZ.out 0).trans rfl, (blk_cell BZ.out 1).trans rfl⟩ (fun hHeld => ?_); refine with_tabW tabM4 bitsM4 (fun HT_ HW_ => ?_)
  generalize hwd : (W.alloc _).drew = Wd at BZ HB2 HL hHeld ⊢
  clear hwd
  refine pure_ (i := 0) (N := (some 24)) (v := ?_) (a' := ?_) #[true, false, false, false, false, false, false, false] rfl rfl (any_of HT_.out (by kernel_rfl)) (fun _ _ _ h => h) (Or.inl ⟨by rfl, ?_⟩) ?_ ?_
  rotate_left
  · intro w'
    go_simp
    with_reducible rfl
  rotate_left
  · simp only [Act.put, List.setIfInBounds_toArray, List.set_cons_zero, List.set_cons_succ, i64_w, i32_w]
    rfl
  refine take_ (i := 1) (N := (some 25)) (v := ?_) (a' := ?_) #[true, true, false, false, false, false, false, false] rfl rfl (take_ofW HT_.out HW_.out (by kernel_rfl)) (fun _ _ _ h => h) (Or.inl ⟨by rfl, ?_⟩) hHeld ?_ ?_
  rotate_left
  · rintro w' ⟨s0, s1⟩
    go_simp
    with_reducible rfl
  rotate_left
  · simp only [Act.put, List.setIfInBounds_toArray, List.set_cons_zero, List.set_cons_succ, i64_w, i32_w]
    rfl
  refine pure_ (i := 2) (N := (some 26)) (v := ?_) (a' := ?_) #[true, true, true, false, false, false, false, false] rfl rfl (any_of HT_.out (by kernel_rfl)) (fun _ _ _ h => h) (Or.inl ⟨by rfl, ?_⟩) ?_ ?_
  rotate_left
  · intro w'
    go_simp
    with_reducible rfl
  rotate_left
  · simp only [Act.put, List.setIfInBounds_toArray, List.set_cons_zero, List.set_cons_succ, i64_w, i32_w]
    rfl
  refine take_ (i := 3) (N := (some 27)) (v := ?_) (a' := ?_) #[true, true, true, true, false, false, false, false] rfl rfl (take_ofW HT_.out HW_.out (by kernel_rfl)) (fun _ _ _ h => h) (Or.inl ⟨by rfl, ?_⟩) hHeld ?_ ?_
  rotate_left
  · rintro w' ⟨s0, s1⟩
    go_simp
    with_reducible rfl
  rotate_left
  · simp only [Act.put, List.setIfInBounds_toArray, List.set_cons_zero, List.set_cons_succ, i64_w, i32_w]
    rfl
  refine one_ (i := 4) (N := (some 28)) #[true, true, true, true, true, false, false, false] rfl rfl (one_of HT_.out (by kernel_rfl)) (by decide) (fun K hK => ?_)
  refine goes_ Try.func22 (by kernel_rfl) rfl #[.slice Ab el.2.length cb] (by rfl) rfl rfl (by (try simp only [List.map_toArray, List.map_cons, List.map_nil]); first | done | rfl) ?_
  refine (clone_c Ab cb el.2 _ (Kd.R_reads' HB2.out).2.2 hb).mono ?_
  rintro e w5 ⟨v5, rfl, hR5, hb5⟩
  obtain ⟨A5, c5, rfl⟩ := Kd.R_slice hR5
  refine ⟨_, rfl, ?_⟩
  have BZ5 := Aside0.mk (blk_below BZ.out hb5)
  have H5 := Aside0.mk hR5
  have HL5 := Aside0.mk hb5
  clear BZ hR5 hb5
  have BZ := BZ5
  clear BZ5
  refine hK.out _ _ ⟨(blk_cell BZ.out 0).trans rfl, (blk_cell BZ.out 1).trans rfl⟩ (fun hHeld => ?_)
  clear hK K
  refine norm_ (a' := ?_) ?_ ?_
  rotate_left
  · show Act.put _ (some 28) _ = _
    simp only [Act.put, List.setIfInBounds_toArray, List.set_cons_zero, List.set_cons_succ, i64_w, i32_w]
    rfl
  refine pure_ (i := 5) (N := (some 4)) (v := ?_) (a' := ?_) #[true, true, true, true, true, true, false, false] rfl rfl (any_of HT_.out (by kernel_rfl)) (fun _ _ _ h => h) (Or.inl ⟨by rfl, ?_⟩) ?_ ?_
  rotate_left
  · intro w'
    go_simp
    with_reducible rfl
  rotate_left
  · simp only [Act.put, List.setIfInBounds_toArray, List.set_cons_zero, List.set_cons_succ, i64_w, i32_w]
    rfl
  refine pure_ (i := 6) (N := (some 5)) (v := ?_) (a' := ?_) #[true, true, true, true, true, true, true, false] rfl rfl (any_of HT_.out (by kernel_rfl)) (fun _ _ _ h => h) (Or.inl ⟨by rfl, ?_⟩) ?_ ?_
  rotate_left
  · intro w'
    go_simp
    with_reducible rfl
  rotate_left
  · simp only [Act.put, List.setIfInBounds_toArray, List.set_cons_zero, List.set_cons_succ, i64_w, i32_w]
    rfl
  refine pure_ (i := 7) (N := (some 6)) (v := ?_) (a' := ?_) #[true, true, true, true, true, true, true, true] rfl rfl (any_of HT_.out (by kernel_rfl)) (fun _ _ _ h => h) (Or.inl ⟨by rfl, ?_⟩) ?_ ?_
  rotate_left
  · intro w'
    go_simp
    with_reducible rfl
  rotate_left
  · simp only [Act.put, List.setIfInBounds_toArray, List.set_cons_zero, List.set_cons_succ, i64_w, i32_w]
    rfl
  refine done_ (done_of HT_.out (by kernel_rfl)) ?_
  clear hHeld HT_ HW_
  go_wp2_with fail
  exact bodyPost_ret (v := .tuple #[.int .i64 el.1, .slice A5 el.2.length c5, .bool true]) (by simp [results, Try.results13, go_sem]) rfl ⟨A5, c5, rfl, Kd.R_lower H5.out HL.out.size, below_step HL.out HL5.out⟩
set_option maxHeartbeats 1600000 in
set_option maxRecDepth 100000 in
theorem takeN_c {F : Nat → Prop} {g : Nat} {lu : List Int} {la : List (Int × List Int)} {W : World} (h : NI W F g lu la) (k : Nat) (hk : k < la.length) (hb : (la.getD k (0, [])).2.length ≤ 140737488351232) :
    Calls Try.prog 15 #[.pointer (some ⟨g, 0, none⟩), .int .i64 k] W fun e W' => ∃ A c F', e = .returned (.tuple #[.int .i64 (la.getD k (0, [])).1, .slice A (la.getD k (0, [])).2.length c, .bool true]) ∧ Kd.C (Kd.int .u8) W' A (la.getD k (0, [])).2.length (la.getD k (0, [])).2 ∧ NI W' F' g lu (la.eraseIdx k) ∧ (∀ k, F' k → F k ∨ W.heap.size ≤ k) ∧ Fr F W W' := by
  obtain ⟨⟨v, vm, hg0, h2, HO0⟩, ho, hlt⟩ := h
  have H := Aside0.mk (And.intro hg0 (And.intro h2 (And.intro HO0 (And.intro ho hlt))))
  clear hg0 h2 HO0 ho hlt
  go_enter Try.func15, Try.ntmps15
  go_wp2_with fail
  refine (none_c g v vm true W H.out.1).mono ?_
  rintro e w ⟨rfl, rfl⟩
  go_wp2_with fail
  refine (take_msg g v vm true la k W H.out.1 (fun k => F k ∨ W.heap.size ≤ k) (Kd.R_mono H.out.2.2.1 (fun _ h => .inl h)) hk).mono ?_
  rintro e W1 ⟨Ab, cb, rfl, hC1, vm', g1, R1, f1, hown⟩
  have K := Aside0.mk (NI.late_step H.out.1 H.out.2.1 H.out.2.2.1 H.out.2.2.2.1 H.out.2.2.2.2 g1 R1 f1)
  have HC := Aside0.mk hC1
  clear hC1 g1 R1 f1 hown
  generalize hel : la.getD k (0, []) = el at *
  have HEL := Aside0.mk hel
  clear hel
  go_wp2_with fail
  have BZ := Aside0.mk (blk_drew (heap_alloc_new W1 (.cells #[.int .i64 el.1, .slice Ab el.2.length cb] 60 (0, 0))))
  have HB2 := Aside0.mk (Kd.C_drew (Kd.C_alloc HC.out (.cells #[.int .i64 el.1, .slice Ab el.2.length cb] 60 (0, 0))))
  have HL := Aside0.mk (below_drew1 (below_alloc (Below.refl _ W1) (.cells #[.int .i64 el.1, .slice Ab el.2.length cb] 60 (0, 0))))
  refine start_ (n := 9) (S := fun w' => w'.cell? ⟨W1.heap.size, 0, none⟩ = some (.int .i64 el.1) ∧ w'.cell? ⟨W1.heap.size, 1, none⟩ = some (.slice Ab el.2.length cb)) (ds := []) #[false, false, false, false, false, false, false, false, false] (by kernel_rfl) rfl rfl ⟨(blk_cell BZ.out 0).trans rfl, (blk_cell BZ.out 1).trans rfl⟩ (fun hHeld => ?_); refine with_tabW tabT4 bitsT4 (fun HT_ HW_ => ?_)
  generalize hwd : (W1.alloc _).drew = Wd at BZ HB2 HL hHeld ⊢
  clear hwd
  refine pure_ (i := 0) (N := (some 18)) (v := ?_) (a' := ?_) #[true, false, false, false, false, false, false, false, false] rfl rfl (any_of HT_.out (by kernel_rfl)) (fun _ _ _ h => h) (Or.inl ⟨by rfl, ?_⟩) ?_ ?_
  rotate_left
  · intro w'
    go_simp
    with_reducible rfl
  rotate_left
  · simp only [Act.put, List.setIfInBounds_toArray, List.set_cons_zero, List.set_cons_succ, i64_w, i32_w]
    rfl
  refine take_ (i := 1) (N := (some 19)) (v := ?_) (a' := ?_) #[true, true, false, false, false, false, false, false, false] rfl rfl (take_ofW HT_.out HW_.out (by kernel_rfl)) (fun _ _ _ h => h) (Or.inl ⟨by rfl, ?_⟩) hHeld ?_ ?_
  rotate_left
  · rintro w' ⟨s0, s1⟩
    go_simp
    with_reducible rfl
  rotate_left
  · simp only [Act.put, List.setIfInBounds_toArray, List.set_cons_zero, List.set_cons_succ, i64_w, i32_w]
    rfl
  refine pure_ (i := 2) (N := (some 20)) (v := ?_) (a' := ?_) #[true, true, true, false, false, false, false, false, false] rfl rfl (any_of HT_.out (by kernel_rfl)) (fun _ _ _ h => h) (Or.inl ⟨by rfl, ?_⟩) ?_ ?_
  rotate_left
  · intro w'
    go_simp
    with_reducible rfl
  rotate_left
  · simp only [Act.put, List.setIfInBounds_toArray, List.set_cons_zero, List.set_cons_succ, i64_w, i32_w]
    rfl
  refine take_ (i := 3) (N := (some 21)) (v := ?_) (a' := ?_) #[true, true, true, true, false, false, false, false, false] rfl rfl (take_ofW HT_.out HW_.out (by kernel_rfl)) (fun _ _ _ h => h) (Or.inl ⟨by rfl, ?_⟩) hHeld ?_ ?_
  rotate_left
  · rintro w' ⟨s0, s1⟩
    go_simp
    with_reducible rfl
  rotate_left
  · simp only [Act.put, List.setIfInBounds_toArray, List.set_cons_zero, List.set_cons_succ, i64_w, i32_w]
    rfl
  refine pure_ (i := 5) (N := (some 23)) (v := ?_) (a' := ?_) #[true, true, true, true, false, true, false, false, false] rfl rfl (any_of HT_.out (by kernel_rfl)) (fun _ _ _ h => h) (Or.inl ⟨by rfl, ?_⟩) ?_ ?_
  rotate_left
  · intro w'
    go_simp
    with_reducible rfl
  rotate_left
  · simp only [Act.put, List.setIfInBounds_toArray, List.set_cons_zero, List.set_cons_succ, i64_w, i32_w]
    rfl
  refine one_ (i := 4) (N := (some 22)) #[true, true, true, true, true, true, false, false, false] rfl rfl (one_of HT_.out (by kernel_rfl)) (by decide) (fun K hK => ?_)
  refine goes_ Try.func22 (by kernel_rfl) rfl #[.slice Ab el.2.length cb] (by rfl) rfl rfl (by (try simp only [List.map_toArray, List.map_cons, List.map_nil]); first | done | rfl) ?_
  refine (clone_c Ab cb el.2 _ HB2.out hb).mono ?_
  rintro e w5 ⟨v5, rfl, hR5, hb5⟩
  obtain ⟨A5, c5, rfl⟩ := Kd.R_slice hR5
  refine ⟨_, rfl, ?_⟩
  have BZ5 := Aside0.mk (blk_below BZ.out hb5)
  have H5 := Aside0.mk hR5
  have HL5 := Aside0.mk hb5
  clear BZ hR5 hb5
  have BZ := BZ5
  clear BZ5
  refine hK.out _ _ ⟨(blk_cell BZ.out 0).trans rfl, (blk_cell BZ.out 1).trans rfl⟩ (fun hHeld => ?_)
  clear hK K
  refine norm_ (a' := ?_) ?_ ?_
  rotate_left
  · show Act.put _ (some 22) _ = _
    simp only [Act.put, List.setIfInBounds_toArray, List.set_cons_zero, List.set_cons_succ, i64_w, i32_w]
    rfl
  refine pure_ (i := 6) (N := (some 4)) (v := ?_) (a' := ?_) #[true, true, true, true, true, true, true, false, false] rfl rfl (any_of HT_.out (by kernel_rfl)) (fun _ _ _ h => h) (Or.inl ⟨by rfl, ?_⟩) ?_ ?_
  rotate_left
  · intro w'
    go_simp
    with_reducible rfl
  rotate_left
  · simp only [Act.put, List.setIfInBounds_toArray, List.set_cons_zero, List.set_cons_succ, i64_w, i32_w]
    rfl
  refine pure_ (i := 7) (N := (some 5)) (v := ?_) (a' := ?_) #[true, true, true, true, true, true, true, true, false] rfl rfl (any_of HT_.out (by kernel_rfl)) (fun _ _ _ h => h) (Or.inl ⟨by rfl, ?_⟩) ?_ ?_
  rotate_left
  · intro w'
    go_simp
    with_reducible rfl
  rotate_left
  · simp only [Act.put, List.setIfInBounds_toArray, List.set_cons_zero, List.set_cons_succ, i64_w, i32_w]
    rfl
  refine pure_ (i := 8) (N := (some 6)) (v := ?_) (a' := ?_) #[true, true, true, true, true, true, true, true, true] rfl rfl (any_of HT_.out (by kernel_rfl)) (fun _ _ _ h => h) (Or.inl ⟨by rfl, ?_⟩) ?_ ?_
  rotate_left
  · intro w'
    go_simp
    with_reducible rfl
  rotate_left
  · simp only [Act.put, List.setIfInBounds_toArray, List.set_cons_zero, List.set_cons_succ, i64_w, i32_w]
    rfl
  refine done_ (done_of HT_.out (by kernel_rfl)) ?_
  clear hHeld HT_ HW_
  go_wp2_with fail
  have HBL := below_step HL.out HL5.out
  exact bodyPost_ret (v := .tuple #[.int .i64 el.1, .slice A5 el.2.length c5, .bool true]) (by simp [results, Try.results15, go_sem]) rfl (by rw [HEL.out]; exact ⟨A5, c5, more F W W1, rfl, (Kd.R_reads' H5.out).2.2, K.out.1.below HBL, fun k hk => hk.imp id (fun h => h.1), K.out.2.trans (Fr.of_below (F := fun _ => False) HBL) (fun _ h => h.elim)⟩)
set_option maxHeartbeats 1600000 in
set_option maxRecDepth 100000 in
theorem takeN_no {F : Nat → Prop} {g : Nat} {lu : List Int} {la : List (Int × List Int)} {W : World} (h : NI W F g lu la) (k : Int) (hk : k < 0 ∨ la.length ≤ k) :
    Calls Try.prog 15 #[.pointer (some ⟨g, 0, none⟩), .int .i64 k] W fun e W' => e = .returned (.tuple #[.int .i64 0, .slice none 0 0, .bool false]) ∧ Below W.heap.size W W' := by
  obtain ⟨⟨v, vm, hg0, h2, HO0⟩, ho, hlt⟩ := h
  have H := Aside0.mk (And.intro hg0 HO0)
  clear hg0 h2 HO0 ho hlt
  go_enter Try.func15, Try.ntmps15
  go_wp2_with fail
  refine (none_c g v vm true W H.out.1).mono ?_
  rintro e w ⟨rfl, rfl⟩
  go_wp2_with fail
  refine (take_msg_no g v vm true la k W H.out.1 F H.out.2 hk).mono ?_
  rintro e W1 ⟨rfl, hb1⟩
  go_wp2_with fail
  have BZ := Aside0.mk (blk_drew (heap_alloc_new W1 (.cells #[.int .i64 0, .slice none 0 0] 60 (0, 0))))
  have HL := Aside0.mk (below_drew1 (below_alloc (Below.refl _ W1) (.cells #[.int .i64 0, .slice none 0 0] 60 (0, 0))))
  refine start_ (n := 9) (S := fun w' => w'.cell? ⟨W1.heap.size, 0, none⟩ = some (.int .i64 0) ∧ w'.cell? ⟨W1.heap.size, 1, none⟩ = some (.slice none 0 0)) (ds := []) #[false, false, false, false, false, false, false, false, false] (by kernel_rfl) rfl rfl ⟨(blk_cell BZ.out 0).trans rfl, (blk_cell BZ.out 1).trans rfl⟩ (fun hHeld => ?_); refine with_tabW tabT4 bitsT4 (fun HT_ HW_ => ?_)
  generalize hwd : (W1.alloc _).drew = Wd at BZ HL hHeld ⊢
  clear hwd
  refine pure_ (i := 0) (N := (some 18)) (v := ?_) (a' := ?_) #[true, false, false, false, false, false, false, false, false] rfl rfl (any_of HT_.out (by kernel_rfl)) (fun _ _ _ h => h) (Or.inl ⟨by rfl, ?_⟩) ?_ ?_
  rotate_left
  · intro w'
    go_simp
    with_reducible rfl
  rotate_left
  · simp only [Act.put, List.setIfInBounds_toArray, List.set_cons_zero, List.set_cons_succ, i64_w, i32_w]
    rfl
  refine take_ (i := 1) (N := (some 19)) (v := ?_) (a' := ?_) #[true, true, false, false, false, false, false, false, false] rfl rfl (take_ofW HT_.out HW_.out (by kernel_rfl)) (fun _ _ _ h => h) (Or.inl ⟨by rfl, ?_⟩) hHeld ?_ ?_
  rotate_left
  · rintro w' ⟨s0, s1⟩
    go_simp
    with_reducible rfl
  rotate_left
  · simp only [Act.put, List.setIfInBounds_toArray, List.set_cons_zero, List.set_cons_succ, i64_w, i32_w]
    rfl
  refine pure_ (i := 2) (N := (some 20)) (v := ?_) (a' := ?_) #[true, true, true, false, false, false, false, false, false] rfl rfl (any_of HT_.out (by kernel_rfl)) (fun _ _ _ h => h) (Or.inl ⟨by rfl, ?_⟩) ?_ ?_
  rotate_left
  · intro w'
    go_simp
    with_reducible rfl
  rotate_left
  · simp only [Act.put, List.setIfInBounds_toArray, List.set_cons_zero, List.set_cons_succ, i64_w, i32_w]
    rfl
  refine take_ (i := 3) (N := (some 21)) (v := ?_) (a' := ?_) #[true, true, true, true, false, false, false, false, false] rfl rfl (take_ofW HT_.out HW_.out (by kernel_rfl)) (fun _ _ _ h => h) (Or.inl ⟨by rfl, ?_⟩) hHeld ?_ ?_
  rotate_left
  · rintro w' ⟨s0, s1⟩
    go_simp
    with_reducible rfl
  rotate_left
  · simp only [Act.put, List.setIfInBounds_toArray, List.set_cons_zero, List.set_cons_succ, i64_w, i32_w]
    rfl
  refine pure_ (i := 5) (N := (some 23)) (v := ?_) (a' := ?_) #[true, true, true, true, false, true, false, false, false] rfl rfl (any_of HT_.out (by kernel_rfl)) (fun _ _ _ h => h) (Or.inl ⟨by rfl, ?_⟩) ?_ ?_
  rotate_left
  · intro w'
    go_simp
    with_reducible rfl
  rotate_left
  · simp only [Act.put, List.setIfInBounds_toArray, List.set_cons_zero, List.set_cons_succ, i64_w, i32_w]
    rfl
  refine one_ (i := 4) (N := (some 22)) #[true, true, true, true, true, true, false, false, false] rfl rfl (one_of HT_.out (by kernel_rfl)) (by decide) (fun K hK => ?_)
  refine goes_ Try.func22 (by kernel_rfl) rfl #[.slice none 0 0] (by rfl) rfl rfl (by (try simp only [List.map_toArray, List.map_cons, List.map_nil]); first | done | rfl) ?_
  refine (clone_nil _).mono ?_
  rintro e w5 ⟨rfl, rfl⟩
  refine ⟨_, rfl, ?_⟩
  refine hK.out _ _ ⟨(blk_cell BZ.out 0).trans rfl, (blk_cell BZ.out 1).trans rfl⟩ (fun hHeld => ?_)
  clear hK K
  refine norm_ (a' := ?_) ?_ ?_
  rotate_left
  · show Act.put _ (some 22) _ = _
    simp only [Act.put, List.setIfInBounds_toArray, List.set_cons_zero, List.set_cons_succ, i64_w, i32_w]
    rfl
  refine pure_ (i := 6) (N := (some 4)) (v := ?_) (a' := ?_) #[true, true, true, true, true, true, true, false, false] rfl rfl (any_of HT_.out (by kernel_rfl)) (fun _ _ _ h => h) (Or.inl ⟨by rfl, ?_⟩) ?_ ?_
  rotate_left
  · intro w'
    go_simp
    with_reducible rfl
  rotate_left
  · simp only [Act.put, List.setIfInBounds_toArray, List.set_cons_zero, List.set_cons_succ, i64_w, i32_w]
    rfl
  refine pure_ (i := 7) (N := (some 5)) (v := ?_) (a' := ?_) #[true, true, true, true, true, true, true, true, false] rfl rfl (any_of HT_.out (by kernel_rfl)) (fun _ _ _ h => h) (Or.inl ⟨by rfl, ?_⟩) ?_ ?_
  rotate_left
  · intro w'
    go_simp
    with_reducible rfl
  rotate_left
  · simp only [Act.put, List.setIfInBounds_toArray, List.set_cons_zero, List.set_cons_succ, i64_w, i32_w]
    rfl
  refine pure_ (i := 8) (N := (some 6)) (v := ?_) (a' := ?_) #[true, true, true, true, true, true, true, true, true] rfl rfl (any_of HT_.out (by kernel_rfl)) (fun _ _ _ h => h) (Or.inl ⟨by rfl, ?_⟩) ?_ ?_
  rotate_left
  · intro w'
    go_simp
    with_reducible rfl
  rotate_left
  · simp only [Act.put, List.setIfInBounds_toArray, List.set_cons_zero, List.set_cons_succ, i64_w, i32_w]
    rfl
  refine done_ (done_of HT_.out (by kernel_rfl)) ?_
  clear hHeld HT_ HW_
  go_wp2_with fail
  exact bodyPost_ret (v := .tuple #[.int .i64 0, .slice none 0 0, .bool false]) (by simp [results, Try.results15, go_sem]) rfl ⟨rfl, below_step hb1 HL.out⟩
theorem takeN_off (p : Value) (hp : ∀ W, Calls Try.prog 18 #[p] W fun e W' => e = .returned (.bool true) ∧ W = W') (k : Int) (W : World) : Calls Try.prog 15 #[p, .int .i64 k] W fun e W' => e = .returned (.tuple #[.int .i64 0, .slice none 0 0, .bool false]) ∧ W = W' := by
  go_enter Try.func15, Try.ntmps15
  go_wp2_with fail
  refine (hp W).mono ?_
  rintro e w ⟨rfl, rfl⟩
  go_wp2_with fail
  refine bodyPost_ret (v := .tuple #[.int .i64 0, .slice none 0 0, .bool false]) (by simp [results, Try.results15, go_sem]) rfl ⟨rfl, rfl⟩
theorem double_off (p : Value) (hp : ∀ W, Calls Try.prog 18 #[p] W fun e W' => e = .returned (.bool true) ∧ W = W') (k : Int) (W : World) : Calls Try.prog 14 #[p, .int .i64 k] W fun e W' => e = .returned (.bool false) ∧ W = W' := by
  go_enter Try.func14, Try.ntmps14
  go_wp2_with fail
  refine (msg_off p hp k W).mono ?_
  rintro e w ⟨rfl, rfl⟩
  go_wp2_with fail
  go_ret
  exact ⟨rfl, rfl⟩
theorem double_no {F : Nat → Prop} {g : Nat} {lu : List Int} {la : List (Int × List Int)} {W : World} (h : NI W F g lu la) (k : Int) (hk : k < 0 ∨ la.length ≤ k) :
    Calls Try.prog 14 #[.pointer (some ⟨g, 0, none⟩), .int .i64 k] W fun e W' => e = .returned (.bool false) ∧ W = W' := by
  go_enter Try.func14, Try.ntmps14
  go_wp2_with fail
  refine (msg_no h k hk).mono ?_
  rintro e w ⟨rfl, rfl⟩
  go_wp2_with fail
  go_ret
  exact ⟨rfl, rfl⟩
set_option maxHeartbeats 1600000 in
set_option maxRecDepth 100000 in
theorem double_c {F : Nat → Prop} {g : Nat} {lu : List Int} {la : List (Int × List Int)} {W : World} (h : NI W F g lu la) (k : Nat) (hk : k < la.length) (hb : (la.getD k (0, [])).2.length ≤ 140737488351232) (hla : (la.length + 1) * 32 ≤ 140737488355328) :
    Calls Try.prog 14 #[.pointer (some ⟨g, 0, none⟩), .int .i64 k] W fun e W' => ∃ F', e = .returned (.bool true) ∧ NI W' F' g lu (la ++ [la.getD k (0, [])]) ∧ (∀ k, F' k → F k ∨ W.heap.size ≤ k) ∧ Fr F W W' := by
  have H := Aside0.mk h
  have hm : ∃ m : Int × List Int, m = la.getD k (0, []) := ⟨_, rfl⟩
  obtain ⟨m, hm⟩ := hm
  have HM := Aside0.mk hm
  have HMS := Aside0.mk (msg_c h k hk hb)
  rw [← hm] at HMS
  clear h hm hb
  go_enter Try.func14, Try.ntmps14
  go_wp2_with fail
  refine HMS.out.mono ?_
  rintro e w2 ⟨Ab, cb, rfl, hRb, hb2⟩
  have HRb := Aside0.mk hRb
  have HB2 := Aside0.mk hb2
  clear hRb hb2
  go_wp2_with (first | ((with_reducible refine gate_dst (N := 22) rfl ?_); refine Kd.R_lit k60 (w0 := w2) 0 60 ?hg (N := 22) ?hd (xs := [m]) (inner := [.int .i64 m.1, .slice Ab m.2.length cb]) (ok := fun k => W.heap.size ≤ k) (okp := fun k => W.heap.size ≤ k) ?hr ?hp (fun _ hk => hk) ?hf (Below.refl _ _) (Nat.zero_le _) (by simp) ?_; (case hg => rfl); (case hd => rfl); (case hr => first | (go_simp; done) | (go_simp; rfl)); (case hp => exact (Reps.snoc (Reps.none _ 2) (k60_mkM (x := m) (Kd.R_lower (Kd.R_mono (Kd.R_bound HRb.out) (fun k h => h.2.1)) (Nat.zero_le _))) rfl)); (case hf => exact HB2.out.size); intro v3 w3 HO3 _ hg3 _; obtain ⟨A3, c3, rfl, _, hx3⟩ := OwnRow.reads HO3.2))
  have hb3 : Below w2.heap.size w2 w3 := ⟨hg3.os, hg3.tape, hg3.output, hg3.size, fun k hk => hg3.block k hk (by simp)⟩
  have HBA := Aside0.mk (below_step HB2.out hb3)
  obtain ⟨⟨v4, vm4, g1, g2, g3⟩, go, glt⟩ := H.out
  refine (put_msg g v4 vm4 true la m A3 c3 (fun k => F k ∨ W.heap.size ≤ k) (fun k => W.heap.size ≤ k) w3 (blk_below g1 HBA.out) (Kd.R_mono (Kd.R_below g3 HBA.out) (fun _ h => .inl h)) (hx3.imp_ (Below.refl _ _) (fun p c h => k60.M_mono (fun k hk => hk.1) h)) (fun k hk => ⟨.inr hk, fun e => by have := glt k (g3.1 k e.symm); omega⟩) (fun k hk => .inr (Nat.le_trans HBA.out.size hk)) hla).mono ?_
  rintro e w4 ⟨rfl, vm5, hg5, ho5, hf5, _⟩
  have K5 := Aside0.mk (NI.late_step g1 g2 g3 go glt hg5 ho5 ((Fr.of_below HBA.out).trans hf5 (fun q hq => .inl hq)))
  clear g1 g2 g3 go glt hg5 ho5 hf5 hx3 HO3 hg3 hb3
  go_wp2_with fail
  go_ret
  refine ⟨more F W w4, rfl, ?_, fun k hk => hk.imp id (fun h => h.1), K5.out.2⟩
  rw [← HM.out]
  exact K5.out.1
end Go.Proofs.Ytckeahjlfopaaaa.Hand
