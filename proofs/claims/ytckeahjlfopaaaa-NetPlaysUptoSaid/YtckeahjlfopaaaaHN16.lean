/- The document's net: Message, Take, Double. -/
import Derived.Test.YtckeahjlfopaaaaHN15
namespace Go.Proofs.Ytckeahjlfopaaaa.Hand
open Go.RowKit Go.Proofs.Ytckeahjlfopaaaa Go.Proofs.YtckeahjlfopaaaaW.PrintWords Go.Proofs.YtckeahjlfopaaaaW.PrintLast
set_option linter.unusedVariables false
set_option linter.unusedSimpArgs false
section
variable {α : Type} {Q : α → List Value → Prop} {size m n c : Nat} {w : World} {A : Option Addr} {xs : List α}
theorem RR_take (h : ReadsRow Q size w A xs.length xs) (hm : m ≤ xs.length) : ReadsRow Q size w A (xs.take m).length (xs.take m) := by
  have hl : (xs.take m).length = m := by rw [List.length_take]; omega
  refine ⟨rfl, by rw [hl]; have := h.2.1; omega, fun hp => ?_⟩
  obtain ⟨ad, e, hc⟩ := h.2.2 (by omega)
  refine ⟨ad, e, fun j p hj => hc j p ?_⟩
  rw [List.getElem?_take] at hj
  split at hj
  · exact hj
  · cases hj
theorem RR_drop (h : ReadsRow Q size w A xs.length xs) (hm : m ≤ xs.length) (hc : xs.length ≤ c) : ReadsRow Q size w (if c = m then A else A.map (·.add (m * size))) (xs.drop m).length (xs.drop m) := by
  have hl : (xs.drop m).length = xs.length - m := List.length_drop
  refine ⟨rfl, by rw [hl]; have := h.2.1; omega, fun hp => ?_⟩
  rw [hl] at hp
  obtain ⟨ad, rfl, hcell⟩ := h.2.2 (by omega)
  rw [if_neg (by omega)]
  refine ⟨ad.add (m * size), rfl, fun j p hj => ?_⟩
  rw [List.getElem?_drop] at hj
  obtain ⟨cs, h1, h2, h3⟩ := hcell (m + j) p hj
  refine ⟨cs, h1, h2, fun i u hu => ?_⟩
  rw [add_add, show m * size + (j * size + i) = (m + j) * size + i by rw [Nat.add_mul]; omega]
  exact h3 i u hu
end

def TR28 : Bool × List (List Nat × List Nat) := (true, [([], []), ([0], [0]), ([1], [1]), ([2], [2]), ([], []), ([3, 4], [3, 4]), ([5], [5]), ([6], [6]), ([], []), ([], []), ([9], [9]), ([10], [10]), ([11], [11]), ([], []), ([12, 13], [12, 13]), ([14], [14]), ([15], [15]), ([8, 16], [8, 16]), ([7, 17, 0, 1, 2, 3, 4, 5, 6, 7], [7]), ([17, 18, 0, 1, 2, 3, 4, 5, 6, 7, 8, 9, 10, 11, 12, 13, 14, 15, 16, 17, 18], [17]), ([19, 0, 1, 2, 3, 4, 5, 6, 7, 8, 9, 10, 11, 12, 13, 14, 15, 16, 17, 18, 19], [])])
def BR28 : List Nat := [0, 1, 3, 7, 0, 31, 63, 127, 0, 0, 512, 1536, 3584, 0, 15872, 32256, 65024, 130816, 262143, 524287, 1048575]
theorem tabR28 : rtab .any (opsOf Try.f28 3) = TR28 := by kernel_rfl
theorem bitsR28 : waitsOk TR28.2 BR28 = true := by kernel_rfl

def TR29 : Bool × List (List Nat × List Nat) := (true, [([], []), ([], []), ([], []), ([2], [2]), ([3], [3]), ([4], [4]), ([], []), ([5, 6], [5, 6]), ([1, 7], [1, 7]), ([], []), ([9], [9]), ([10], [10]), ([11], [11]), ([], []), ([13], [13]), ([12, 14], [12, 14]), ([8, 15, 8], [8, 15]), ([0, 0, 1, 2, 3, 4, 5, 6, 7, 8, 9, 10, 11, 12, 13, 14, 15, 16], [0]), ([17, 0, 1, 2, 3, 4, 5, 6, 7, 8, 9, 10, 11, 12, 13, 14, 15, 16], [17]), ([18, 16, 16, 0, 1, 2, 3, 4, 5, 6, 7, 8, 9, 10, 11, 12, 13, 14, 15, 16], [16, 18])])
def BR29 : List Nat := [0, 0, 0, 4, 12, 28, 0, 124, 254, 0, 512, 1536, 3584, 0, 8192, 32256, 65534, 131071, 262143, 524287]
theorem tabR29 : rtab .any (opsOf Try.f29 3) = TR29 := by kernel_rfl
theorem bitsR29 : waitsOk TR29.2 BR29 = true := by kernel_rfl

def TR30 : Bool × List (List Nat × List Nat) := (true, [([], []), ([], []), ([1], [1]), ([2], [2]), ([3], [3]), ([], []), ([5], [5]), ([6], [6]), ([7], [7]), ([], []), ([8, 9], [8, 9]), ([10], [10]), ([11], [11]), ([4, 12], [4, 12]), ([0, 0, 1, 2, 3, 4, 5, 6, 7, 8, 9, 10, 11, 12, 13], [0]), ([14, 0, 1, 2, 3, 4, 5, 6, 7, 8, 9, 10, 11, 12, 13], [14]), ([15, 13, 13, 0, 1, 2, 3, 4, 5, 6, 7, 8, 9, 10, 11, 12, 13], [13, 15])])
def BR30 : List Nat := [0, 0, 2, 6, 14, 0, 32, 96, 224, 0, 992, 2016, 4064, 8190, 16383, 32767, 65535]
theorem tabR30 : rtab .any (opsOf Try.f30 3) = TR30 := by kernel_rfl
theorem bitsR30 : waitsOk TR30.2 BR30 = true := by kernel_rfl

set_option maxHeartbeats 1600000 in
theorem msg_r_no {W : World} {F : Nat → Prop} {g : Nat} {lu : List Int} {la : List (Int × List Int)} (h : RI W F g lu la) (k : Int) (hk : k < 0 ∨ la.length ≤ k) :
    Calls Try.prog 28 #[.pointer (some ⟨g, 0, none⟩), .int .i64 k] W fun e W' => e = .returned (.tuple #[.int .i64 0, .slice none 0 0, .bool false]) ∧ W = W' := by
  obtain ⟨⟨FW, FL, A0, c0, vm, hc, h1, h2, h3, h4, h5⟩, ho, hlt⟩ := h
  obtain ⟨Av, cv, rfl⟩ := Kd.R_slice h3
  have z0 : W.cell? ⟨g, 1, none⟩ = some (.slice Av la.length cv) := (blk_cell h1 1).trans rfl
  clear h1 h2 h3 h4 h5 ho hlt
  by_cases h0 : k < 0
  · go_enter Try.func28, Try.ntmps28
    go_wp2_with fail
    refine bodyPost_ret (v := .tuple #[.int .i64 0, .slice none 0 0, .bool false]) (by simp [results, Try.results28, go_sem]) rfl ⟨rfl, rfl⟩
  · have h1 : (la.length : Int) ≤ k := by omega
    go_enter Try.func28, Try.ntmps28
    go_wp2_with fail
    refine bodyPost_ret (v := .tuple #[.int .i64 0, .slice none 0 0, .bool false]) (by simp [results, Try.results28, go_sem]) rfl ⟨rfl, rfl⟩
set_option maxHeartbeats 3200000 in
set_option maxRecDepth 100000 in
theorem msg_r {W : World} {F : Nat → Prop} {g : Nat} {lu : List Int} {la : List (Int × List Int)} (h : RI W F g lu la) (k : Nat) (hk : k < la.length) (hb : (la.getD k (0, [])).2.length ≤ 140737488351232) :
    Calls Try.prog 28 #[.pointer (some ⟨g, 0, none⟩), .int .i64 k] W fun e W' => ∃ A c, e = .returned (.tuple #[.int .i64 (la.getD k (0, [])).1, .slice A (la.getD k (0, [])).2.length c, .bool true]) ∧ Kd.R (Kd.int .u8) 5 W' W.heap.size (fun _ => True) (.slice A (la.getD k (0, [])).2.length c) (la.getD k (0, [])).2 ∧ Below W.heap.size W W' := by
  obtain ⟨⟨FW, FL, A0, c0, vm, hc, hg0, h2, HO0, h4, h5⟩, ho, hlt'⟩ := h
  obtain ⟨gm, cap, rfl, _, hlt, cellsm, htm⟩ := Kd.R_form HO0 (by omega)
  obtain ⟨c2, hcl, hM, hcc, _⟩ := Kd.R_elem HO0 (0, []) (k : Int) (by omega) (by omega)
  rw [Int.toNat_natCast] at hM hcc
  obtain ⟨vb, rfl, hRb⟩ := k60_openM hM
  obtain ⟨Ab, cb, rfl⟩ := Kd.R_slice hRb
  have hmax := Kd.C_max (Kd.R_reads HO0).choose_spec.choose_spec.2.2
  have z0 : W.cell? ⟨g, 1, none⟩ = some (.slice (some ⟨gm, 0, none⟩) la.length cap) := (blk_cell hg0 1).trans rfl
  have x0 : W.cell? ⟨gm, k * 2, none⟩ = some (.int .i64 (la.getD k (0, [])).1) := hcc 0 _ rfl
  have x1 : W.cell? ⟨gm, k * 2 + 1, none⟩ = some (.slice Ab (la.getD k (0, [])).2.length cb) := hcc 1 _ rfl
  generalize la.getD k (0, []) = el at *
  have HB := Aside0.mk hRb
  have BK0 := Aside0.mk hg0
  have BM0 := Aside0.mk htm
  have hd : decide ((la.length : Int) ≤ (k : Int)) = false := by rw [decide_eq_false_iff_not]; omega
  have hd2 : decide (la.length ≤ k) = false := by rw [decide_eq_false_iff_not]; omega
  have hd3 : decide ((k : Int) < (la.length : Int)) = true := by rw [decide_eq_true_eq]; omega
  have E0 := Aside0.mk x0
  have E1 := Aside0.mk x1
  have hbW := below_drew (Below.refl W.heap.size W)
  have P0 : W.drew.cell? ⟨gm, k * 2, none⟩ = some (.int .i64 el.1) := (hbW.cell (p := ⟨gm, k * 2, none⟩) hlt).trans x0
  have P1 : W.drew.cell? ⟨gm, k * 2 + 1, none⟩ = some (.slice Ab el.2.length cb) := (hbW.cell (p := ⟨gm, k * 2 + 1, none⟩) hlt).trans x1
  have P2 : W.drew.cell? ⟨g, 1, none⟩ = some (.slice (some ⟨gm, 0, none⟩) la.length cap) := (blk_cell (blk_below hg0 hbW) 1).trans rfl
  have HP := Aside0.mk (And.intro P2 (And.intro P0 P1))
  have HL := Aside0.mk hbW
  have hgl := blk_lt hg0
  have HB2 := Aside0.mk (Kd.R_drew HB.out)
  have hgs : g < W.drew.heap.size := Nat.lt_of_lt_of_le hgl hbW.size
  have hgm : gm < W.drew.heap.size := Nat.lt_of_lt_of_le hlt hbW.size
  clear HO0 hg0 hM hcc hRb htm hcl h2 ho hlt' h4 h5 x0 x1 hbW P0 P1 P2 HB BK0 BM0 E0 E1 hgl hlt
  go_enter Try.func28, Try.ntmps28
  go_wp2_with fail
  refine start_ (n := 21) (S := fun w' => w'.cell? ⟨g, 1, none⟩ = some (.slice (some ⟨gm, 0, none⟩) la.length cap) ∧ w'.cell? ⟨gm, k * 2, none⟩ = some (.int .i64 el.1) ∧ w'.cell? ⟨gm, k * 2 + 1, none⟩ = some (.slice Ab el.2.length cb)) (ds := []) #[false, false, false, false, false, false, false, false, false, false, false, false, false, false, false, false, false, false, false, false, false] (by kernel_rfl) rfl rfl HP.out (fun hHeld => ?_); refine with_tabW tabR28 bitsR28 (fun HT_ HW_ => ?_)
  generalize hwd : W.drew = Wd at HP HL HB2 hgs hgm hHeld ⊢
  clear hwd
  refine pure_ (i := 0) (N := (some 18)) (v := ?_) (a' := ?_) #[true, false, false, false, false, false, false, false, false, false, false, false, false, false, false, false, false, false, false, false, false] rfl rfl (any_of HT_.out (by kernel_rfl)) (fun _ _ _ h => h) (Or.inl ⟨by rfl, ?_⟩) ?_ ?_
  rotate_left
  · intro w'
    go_simp
    with_reducible rfl
  rotate_left
  · simp only [Act.put, List.setIfInBounds_toArray, List.set_cons_zero, List.set_cons_succ, i64_w, i32_w]
    rfl
  refine pure_ (i := 1) (N := (some 19)) (v := ?_) (a' := ?_) #[true, true, false, false, false, false, false, false, false, false, false, false, false, false, false, false, false, false, false, false, false] rfl rfl (any_of HT_.out (by kernel_rfl)) (fun _ _ _ h => h) (Or.inl ⟨by rfl, ?_⟩) ?_ ?_
  rotate_left
  · intro w'
    go_simp
    with_reducible rfl
  rotate_left
  · simp only [Act.put, List.setIfInBounds_toArray, List.set_cons_zero, List.set_cons_succ, i64_w, i32_w]
    rfl
  refine pure_ (i := 2) (N := (some 20)) (v := ?_) (a' := ?_) #[true, true, true, false, false, false, false, false, false, false, false, false, false, false, false, false, false, false, false, false, false] rfl rfl (any_of HT_.out (by kernel_rfl)) (fun _ _ _ h => h) (Or.inl ⟨by rfl, ?_⟩) ?_ ?_
  rotate_left
  · intro w'
    go_simp
    with_reducible rfl
  rotate_left
  · simp only [Act.put, List.setIfInBounds_toArray, List.set_cons_zero, List.set_cons_succ, i64_w, i32_w]
    rfl
  refine take_ (i := 3) (N := (some 21)) (v := ?_) (a' := ?_) #[true, true, true, true, false, false, false, false, false, false, false, false, false, false, false, false, false, false, false, false, false] rfl rfl (take_ofW HT_.out HW_.out (by kernel_rfl)) (fun _ _ _ h => h) (Or.inl ⟨by rfl, ?_⟩) hHeld ?_ ?_
  rotate_left
  · rintro w' ⟨s0, s1, s2⟩
    go_simp
    with_reducible rfl
  rotate_left
  · simp only [Act.put, List.setIfInBounds_toArray, List.set_cons_zero, List.set_cons_succ, i64_w, i32_w]
    rfl
  refine pure_ (i := 4) (N := (some 22)) (v := ?_) (a' := ?_) #[true, true, true, true, true, false, false, false, false, false, false, false, false, false, false, false, false, false, false, false, false] rfl rfl (any_of HT_.out (by kernel_rfl)) (fun _ _ _ h => h) (Or.inl ⟨by rfl, ?_⟩) ?_ ?_
  rotate_left
  · intro w'
    go_simp
    with_reducible rfl
  rotate_left
  · simp only [Act.put, List.setIfInBounds_toArray, List.set_cons_zero, List.set_cons_succ, i64_w, i32_w]
    rfl
  refine pure_ (i := 5) (N := (some 23)) (v := ?_) (a' := ?_) #[true, true, true, true, true, true, false, false, false, false, false, false, false, false, false, false, false, false, false, false, false] rfl rfl (any_of HT_.out (by kernel_rfl)) (fun _ _ _ h => h) (Or.inl ⟨by rfl, ?_⟩) ?_ ?_
  rotate_left
  · intro w'
    go_simp
    with_reducible rfl
  rotate_left
  · simp only [Act.put, List.setIfInBounds_toArray, List.set_cons_zero, List.set_cons_succ, i64_w, i32_w]
    rfl
  refine pure_ (i := 6) (N := (some 24)) (v := ?_) (a' := ?_) #[true, true, true, true, true, true, true, false, false, false, false, false, false, false, false, false, false, false, false, false, false] rfl rfl (any_of HT_.out (by kernel_rfl)) (fun _ _ _ h => h) (Or.inl ⟨by rfl, ?_⟩) ?_ ?_
  rotate_left
  · intro w'
    go_simp
    with_reducible rfl
  rotate_left
  · simp only [Act.put, List.setIfInBounds_toArray, List.set_cons_zero, List.set_cons_succ, i64_w, i32_w]
    rfl
  refine take_ (i := 7) (N := (some 25)) (v := ?_) (a' := ?_) #[true, true, true, true, true, true, true, true, false, false, false, false, false, false, false, false, false, false, false, false, false] rfl rfl (take_ofW HT_.out HW_.out (by kernel_rfl)) (fun _ _ _ h => h) (Or.inl ⟨by rfl, ?_⟩) hHeld ?_ ?_
  rotate_left
  · rintro w' ⟨s0, s1, s2⟩
    go_simp
    with_reducible rfl
  rotate_left
  · simp only [Act.put, List.setIfInBounds_toArray, List.set_cons_zero, List.set_cons_succ, i64_w, i32_w]
    rfl
  refine pure_ (i := 9) (N := (some 27)) (v := ?_) (a' := ?_) #[true, true, true, true, true, true, true, true, false, true, false, false, false, false, false, false, false, false, false, false, false] rfl rfl (any_of HT_.out (by kernel_rfl)) (fun _ _ _ h => h) (Or.inl ⟨by rfl, ?_⟩) ?_ ?_
  rotate_left
  · intro w'
    go_simp
    with_reducible rfl
  rotate_left
  · simp only [Act.put, List.setIfInBounds_toArray, List.set_cons_zero, List.set_cons_succ, i64_w, i32_w]
    rfl
  refine pure_ (i := 10) (N := (some 28)) (v := ?_) (a' := ?_) #[true, true, true, true, true, true, true, true, false, true, true, false, false, false, false, false, false, false, false, false, false] rfl rfl (any_of HT_.out (by kernel_rfl)) (fun _ _ _ h => h) (Or.inl ⟨by rfl, ?_⟩) ?_ ?_
  rotate_left
  · intro w'
    go_simp
    with_reducible rfl
  rotate_left
  · simp only [Act.put, List.setIfInBounds_toArray, List.set_cons_zero, List.set_cons_succ, i64_w, i32_w]
    rfl
  refine pure_ (i := 11) (N := (some 29)) (v := ?_) (a' := ?_) #[true, true, true, true, true, true, true, true, false, true, true, true, false, false, false, false, false, false, false, false, false] rfl rfl (any_of HT_.out (by kernel_rfl)) (fun _ _ _ h => h) (Or.inl ⟨by rfl, ?_⟩) ?_ ?_
  rotate_left
  · intro w'
    go_simp
    with_reducible rfl
  rotate_left
  · simp only [Act.put, List.setIfInBounds_toArray, List.set_cons_zero, List.set_cons_succ, i64_w, i32_w]
    rfl
  refine take_ (i := 12) (N := (some 30)) (v := ?_) (a' := ?_) #[true, true, true, true, true, true, true, true, false, true, true, true, true, false, false, false, false, false, false, false, false] rfl rfl (take_ofW HT_.out HW_.out (by kernel_rfl)) (fun _ _ _ h => h) (Or.inl ⟨by rfl, ?_⟩) hHeld ?_ ?_
  rotate_left
  · rintro w' ⟨s0, s1, s2⟩
    go_simp
    with_reducible rfl
  rotate_left
  · simp only [Act.put, List.setIfInBounds_toArray, List.set_cons_zero, List.set_cons_succ, i64_w, i32_w]
    rfl
  refine pure_ (i := 13) (N := (some 31)) (v := ?_) (a' := ?_) #[true, true, true, true, true, true, true, true, false, true, true, true, true, true, false, false, false, false, false, false, false] rfl rfl (any_of HT_.out (by kernel_rfl)) (fun _ _ _ h => h) (Or.inl ⟨by rfl, ?_⟩) ?_ ?_
  rotate_left
  · intro w'
    go_simp
    with_reducible rfl
  rotate_left
  · simp only [Act.put, List.setIfInBounds_toArray, List.set_cons_zero, List.set_cons_succ, i64_w, i32_w]
    rfl
  refine pure_ (i := 14) (N := (some 32)) (v := ?_) (a' := ?_) #[true, true, true, true, true, true, true, true, false, true, true, true, true, true, true, false, false, false, false, false, false] rfl rfl (any_of HT_.out (by kernel_rfl)) (fun _ _ _ h => h) (Or.inl ⟨by rfl, ?_⟩) ?_ ?_
  rotate_left
  · intro w'
    go_simp
    with_reducible rfl
  rotate_left
  · simp only [Act.put, List.setIfInBounds_toArray, List.set_cons_zero, List.set_cons_succ, i64_w, i32_w]
    rfl
  refine pure_ (i := 15) (N := (some 33)) (v := ?_) (a' := ?_) #[true, true, true, true, true, true, true, true, false, true, true, true, true, true, true, true, false, false, false, false, false] rfl rfl (any_of HT_.out (by kernel_rfl)) (fun _ _ _ h => h) (Or.inl ⟨by rfl, ?_⟩) ?_ ?_
  rotate_left
  · intro w'
    go_simp
    with_reducible rfl
  rotate_left
  · simp only [Act.put, List.setIfInBounds_toArray, List.set_cons_zero, List.set_cons_succ, i64_w, i32_w]
    rfl
  refine take_ (i := 16) (N := (some 34)) (v := ?_) (a' := ?_) #[true, true, true, true, true, true, true, true, false, true, true, true, true, true, true, true, true, false, false, false, false] rfl rfl (take_ofW HT_.out HW_.out (by kernel_rfl)) (fun _ _ _ h => h) (Or.inl ⟨by rfl, ?_⟩) hHeld ?_ ?_
  rotate_left
  · rintro w' ⟨s0, s1, s2⟩
    go_simp
    with_reducible rfl
  rotate_left
  · simp only [Act.put, List.setIfInBounds_toArray, List.set_cons_zero, List.set_cons_succ, i64_w, i32_w]
    rfl
  refine one_ (i := 8) (N := (some 26)) #[true, true, true, true, true, true, true, true, true, true, true, true, true, true, true, true, true, false, false, false, false] rfl rfl (one_of HT_.out (by kernel_rfl)) (by decide) (fun K hK => ?_)
  refine Kd.R_lit_step (Kd.int .u8) (w0 := Wd) Wd.heap.size 5 (by rfl) (N := 26) rfl (xs := ([] : List Int)) (inner := []) (ok := fun _ => True) (okp := fun _ => True) ?hr ?hp (fun _ h => h) trivial (Below.refl _ _) (Nat.le_refl _) (by simp) ?_
  case hr => first | (go_simp; done) | (go_simp; rfl)
  case hp => exact Reps.none _ _
  intro vl_ w4 HOl_ hbl_ hgl_ hatl_
  have HL4 := Aside0.mk HOl_
  have HB4 := Aside0.mk hbl_
  have HC4 := Aside0.mk (Kd.C_below (Kd.R_reads' HB2.out).2.2 hbl_)
  clear HOl_ hbl_ hgl_ hatl_
  refine hK.out _ _ ⟨(HB4.out.cell (p := ⟨g, 1, none⟩) hgs).trans HP.out.1, (HB4.out.cell (p := ⟨gm, k * 2, none⟩) hgm).trans HP.out.2.1, (HB4.out.cell (p := ⟨gm, k * 2 + 1, none⟩) hgm).trans HP.out.2.2⟩ (fun hHeld => ?_)
  clear hK K
  refine norm_ (a' := ?_) ?_ ?_
  rotate_left
  · show Act.put _ (some 26) _ = _
    simp only [Act.put, List.setIfInBounds_toArray, List.set_cons_zero, List.set_cons_succ, i64_w, i32_w]
    rfl
  refine one_ (i := 17) (N := (some 35)) #[true, true, true, true, true, true, true, true, true, true, true, true, true, true, true, true, true, true, false, false, false] rfl rfl (one_of HT_.out (by kernel_rfl)) (by decide) (fun K hK => ?_)
  refine Kd.R_append_rows_step (Kd.int .u8) (w0 := Wd) Wd.heap.size (by rfl) (.tmp 26) (.tmp 34) 22 5 (.int .u8 0) 1 rfl Try.underlying22 infoB rfl (by decide) (by decide) _ [] el.2 _ _ _ (fun _ => True) (fun _ => False) rfl rfl HL4.out HC4.out (fun x cs h => h) (fun k h => h.elim) (fun _ _ => trivial) HB4.out HB4.out.size (by simp; omega) ?_
  intro v5 w5 ho_ hb_ hg_ hat_
  rw [List.nil_append] at ho_
  obtain ⟨A5, c5, rfl⟩ := Kd.R_slice ho_
  have HL5 := Aside0.mk ho_
  have HB5 := Aside0.mk hb_
  clear ho_ hb_ hg_ hat_ HL4 HB4 HC4
  refine hK.out _ _ ⟨(HB5.out.cell (p := ⟨g, 1, none⟩) hgs).trans HP.out.1, (HB5.out.cell (p := ⟨gm, k * 2, none⟩) hgm).trans HP.out.2.1, (HB5.out.cell (p := ⟨gm, k * 2 + 1, none⟩) hgm).trans HP.out.2.2⟩ (fun hHeld => ?_)
  clear hK K
  refine norm_ (a' := ?_) ?_ ?_
  rotate_left
  · show Act.put _ (some 35) _ = _
    simp only [Act.put, List.setIfInBounds_toArray, List.set_cons_zero, List.set_cons_succ, i64_w, i32_w]
    rfl
  refine pure_ (i := 18) (N := (some 4)) (v := ?_) (a' := ?_) #[true, true, true, true, true, true, true, true, true, true, true, true, true, true, true, true, true, true, true, false, false] rfl rfl (any_of HT_.out (by kernel_rfl)) (fun _ _ _ h => h) (Or.inl ⟨by rfl, ?_⟩) ?_ ?_
  rotate_left
  · intro w'
    go_simp
    with_reducible rfl
  rotate_left
  · simp only [Act.put, List.setIfInBounds_toArray, List.set_cons_zero, List.set_cons_succ, i64_w, i32_w]
    rfl
  refine pure_ (i := 19) (N := (some 5)) (v := ?_) (a' := ?_) #[true, true, true, true, true, true, true, true, true, true, true, true, true, true, true, true, true, true, true, true, false] rfl rfl (any_of HT_.out (by kernel_rfl)) (fun _ _ _ h => h) (Or.inl ⟨by rfl, ?_⟩) ?_ ?_
  rotate_left
  · intro w'
    go_simp
    with_reducible rfl
  rotate_left
  · simp only [Act.put, List.setIfInBounds_toArray, List.set_cons_zero, List.set_cons_succ, i64_w, i32_w]
    rfl
  refine pure_ (i := 20) (N := (some 6)) (v := ?_) (a' := ?_) #[true, true, true, true, true, true, true, true, true, true, true, true, true, true, true, true, true, true, true, true, true] rfl rfl (any_of HT_.out (by kernel_rfl)) (fun _ _ _ h => h) (Or.inl ⟨by rfl, ?_⟩) ?_ ?_
  rotate_left
  · intro w'
    go_simp
    with_reducible rfl
  rotate_left
  · simp only [Act.put, List.setIfInBounds_toArray, List.set_cons_zero, List.set_cons_succ, i64_w, i32_w]
    rfl
  refine done_ (done_of HT_.out (by kernel_rfl)) ?_
  clear hHeld HT_ HW_
  go_wp2_with fail
  exact bodyPost_ret (v := .tuple #[.int .i64 el.1, .slice A5 el.2.length c5, .bool true]) (by simp [results, Try.results28, go_sem]) rfl ⟨A5, c5, rfl, Kd.R_lower HL5.out HL.out.size, below_step HL.out HB5.out⟩
set_option maxHeartbeats 1600000 in
theorem take_r_no {W : World} {F : Nat → Prop} {g : Nat} {lu : List Int} {la : List (Int × List Int)} (h : RI W F g lu la) (k : Int) (hk : k < 0 ∨ la.length ≤ k) :
    Calls Try.prog 29 #[.pointer (some ⟨g, 0, none⟩), .int .i64 k] W fun e W' => e = .returned (.tuple #[.int .i64 0, .slice none 0 0, .bool false]) ∧ W = W' := by
  have H := Aside0.mk h
  have HK := Aside0.mk hk
  clear h hk
  go_enter Try.func29, Try.ntmps29
  go_wp2_with fail
  refine (msg_r_no H.out k HK.out).mono ?_
  rintro e w ⟨rfl, rfl⟩
  go_wp2_with fail
  refine bodyPost_ret (v := .tuple #[.int .i64 0, .slice none 0 0, .bool false]) (by simp [results, Try.results29, go_sem]) rfl ⟨rfl, rfl⟩
set_option maxHeartbeats 3200000 in
set_option maxRecDepth 100000 in
theorem take_r {W : World} {F : Nat → Prop} {g : Nat} {lu : List Int} {la : List (Int × List Int)} (h : RI W F g lu la) (k : Nat) (hk : k < la.length) (hb : (la.getD k (0, [])).2.length ≤ 140737488351232) (hla : la.length * 32 ≤ 140737488355328) :
    Calls Try.prog 29 #[.pointer (some ⟨g, 0, none⟩), .int .i64 k] W fun e W' => ∃ A c F', e = .returned (.tuple #[.int .i64 (la.getD k (0, [])).1, .slice A (la.getD k (0, [])).2.length c, .bool true]) ∧ Kd.C (Kd.int .u8) W' A (la.getD k (0, [])).2.length (la.getD k (0, [])).2 ∧ RI W' F' g lu (la.eraseIdx k) ∧ (∀ k, F' k → F k ∨ W.heap.size ≤ k) ∧ Fr F W W' := by
  have H := Aside0.mk h
  have Hb := Aside0.mk hb
  generalize hel : la.getD k (0, []) = el at *
  have HEL := Aside0.mk hel
  clear h hel hb
  go_enter Try.func29, Try.ntmps29
  go_wp2_with fail
  refine (msg_r H.out k hk (by rw [HEL.out]; exact Hb.out)).mono ?_
  rw [HEL.out]
  rintro e W1 ⟨Am, cm, rfl, hRm, hbm⟩
  have HM := Aside0.mk hRm
  have HBm := Aside0.mk hbm
  have H1 := Aside0.mk (H.out.below hbm)
  clear H hRm hbm
  go_wp2_with fail
  have hbd := below_drew (Below.refl W1.heap.size W1)
  have H2 := Aside0.mk (H1.out.below hbd)
  have HMd := Aside0.mk (Kd.R_below HM.out hbd)
  have HBd := Aside0.mk (below_step HBm.out hbd)
  clear H1 HM HBm hbd
  obtain ⟨⟨FW, FL, A0, c0, vm, hc, g1, g2, g3, g4, g5⟩, go, glt⟩ := H2.out
  obtain ⟨gm, cap, rfl, _, hlt, cellsm, htm⟩ := Kd.R_form g3 (by omega)
  have hcap := (Kd.R_reads' g3).2.1
  have hmax := Kd.C_max (Kd.R_reads' g3).2.2
  have BK := Aside0.mk g1
  have G := Aside0.mk (And.intro hc (And.intro g2 (And.intro g3 (And.intro g4 (And.intro g5 (And.intro go glt))))))
  clear H2 g1 g2 g3 g4 g5 go glt htm
  have hq1 : (0 : Int) ≤ (k : Int) + 1 := by omega
  have hq3 : k ≤ cap := by omega
  have hwk : wrap64 ((k : Int) + 1) = (k : Int) + 1 := by unfold wrap64; omega
  have hwn : ((k : Int) + 1).toNat = k + 1 := by omega
  have hq2 : (k : Int) + 1 ≤ (la.length : Int) := by omega
  obtain ⟨Ad, hAd⟩ : ∃ Ad : Option Addr, (if cap = k + 1 then (some ⟨gm, 0, none⟩ : Option Addr) else some ⟨gm, (k + 1) * 2, none⟩) = Ad := ⟨_, rfl⟩
  have HAd := Aside0.mk hAd
  refine start_ (n := 20) (S := fun w' => w'.cell? ⟨g, 1, none⟩ = some (.slice (some ⟨gm, 0, none⟩) la.length cap)) (ds := [19]) #[false, false, false, false, false, false, false, false, false, false, false, false, false, false, false, false, false, false, false, false] (by kernel_rfl) rfl rfl ((blk_cell BK.out 1).trans rfl) (fun hHeld => ?_); refine with_tabW tabR29 bitsR29 (fun HT_ HW_ => ?_)
  generalize hwd : W1.drew = Wd at BK G HMd HBd hlt hHeld ⊢
  clear hwd
  refine pure_ (i := 0) (N := (some 18)) (v := ?_) (a' := ?_) #[true, false, false, false, false, false, false, false, false, false, false, false, false, false, false, false, false, false, false, false] rfl rfl (any_of HT_.out (by kernel_rfl)) (fun _ _ _ h => h) (Or.inl ⟨by rfl, ?_⟩) ?_ ?_
  rotate_left
  · intro w'
    go_simp
    with_reducible rfl
  rotate_left
  · simp only [Act.put, List.setIfInBounds_toArray, List.set_cons_zero, List.set_cons_succ, i64_w, i32_w]
    rfl
  refine pure_ (i := 2) (N := (some 20)) (v := ?_) (a' := ?_) #[true, false, true, false, false, false, false, false, false, false, false, false, false, false, false, false, false, false, false, false] rfl rfl (any_of HT_.out (by kernel_rfl)) (fun _ _ _ h => h) (Or.inl ⟨by rfl, ?_⟩) ?_ ?_
  rotate_left
  · intro w'
    go_simp
    with_reducible rfl
  rotate_left
  · simp only [Act.put, List.setIfInBounds_toArray, List.set_cons_zero, List.set_cons_succ, i64_w, i32_w]
    rfl
  refine pure_ (i := 3) (N := (some 21)) (v := ?_) (a' := ?_) #[true, false, true, true, false, false, false, false, false, false, false, false, false, false, false, false, false, false, false, false] rfl rfl (any_of HT_.out (by kernel_rfl)) (fun _ _ _ h => h) (Or.inl ⟨by rfl, ?_⟩) ?_ ?_
  rotate_left
  · intro w'
    go_simp
    with_reducible rfl
  rotate_left
  · simp only [Act.put, List.setIfInBounds_toArray, List.set_cons_zero, List.set_cons_succ, i64_w, i32_w]
    rfl
  refine pure_ (i := 4) (N := (some 22)) (v := ?_) (a' := ?_) #[true, false, true, true, true, false, false, false, false, false, false, false, false, false, false, false, false, false, false, false] rfl rfl (any_of HT_.out (by kernel_rfl)) (fun _ _ _ h => h) (Or.inl ⟨by rfl, ?_⟩) ?_ ?_
  rotate_left
  · intro w'
    go_simp
    with_reducible rfl
  rotate_left
  · simp only [Act.put, List.setIfInBounds_toArray, List.set_cons_zero, List.set_cons_succ, i64_w, i32_w]
    rfl
  refine take_ (i := 5) (N := (some 23)) (v := ?_) (a' := ?_) #[true, false, true, true, true, true, false, false, false, false, false, false, false, false, false, false, false, false, false, false] rfl rfl (take_ofW HT_.out HW_.out (by kernel_rfl)) (fun _ _ _ h => h) (Or.inl ⟨by rfl, ?_⟩) hHeld ?_ ?_
  rotate_left
  · rintro w' s0
    go_simp
    with_reducible rfl
  rotate_left
  · simp only [Act.put, List.setIfInBounds_toArray, List.set_cons_zero, List.set_cons_succ, i64_w, i32_w]
    rfl
  refine pure_ (i := 6) (N := (some 24)) (v := ?_) (a' := ?_) #[true, false, true, true, true, true, true, false, false, false, false, false, false, false, false, false, false, false, false, false] rfl rfl (any_of HT_.out (by kernel_rfl)) (fun _ _ _ h => h) (Or.inl ⟨by rfl, ?_⟩) ?_ ?_
  rotate_left
  · intro w'
    go_simp
    with_reducible rfl
  rotate_left
  · simp only [Act.put, List.setIfInBounds_toArray, List.set_cons_zero, List.set_cons_succ, i64_w, i32_w]
    rfl
  refine pure_ (i := 7) (N := (some 25)) (v := ?_) (a' := ?_) #[true, false, true, true, true, true, true, true, false, false, false, false, false, false, false, false, false, false, false, false] rfl rfl (any_of HT_.out (by kernel_rfl)) (fun _ _ _ h => h) (Or.inl ⟨by rfl, ?_⟩) ?_ ?_
  rotate_left
  · intro w'
    go_simp
    with_reducible rfl
  rotate_left
  · simp only [Act.put, List.setIfInBounds_toArray, List.set_cons_zero, List.set_cons_succ, i64_w, i32_w]
    rfl
  refine pure_ (i := 9) (N := (some 27)) (v := ?_) (a' := ?_) #[true, false, true, true, true, true, true, true, false, true, false, false, false, false, false, false, false, false, false, false] rfl rfl (any_of HT_.out (by kernel_rfl)) (fun _ _ _ h => h) (Or.inl ⟨by rfl, ?_⟩) ?_ ?_
  rotate_left
  · intro w'
    go_simp
    with_reducible rfl
  rotate_left
  · simp only [Act.put, List.setIfInBounds_toArray, List.set_cons_zero, List.set_cons_succ, i64_w, i32_w]
    rfl
  refine pure_ (i := 10) (N := (some 28)) (v := ?_) (a' := ?_) #[true, false, true, true, true, true, true, true, false, true, true, false, false, false, false, false, false, false, false, false] rfl rfl (any_of HT_.out (by kernel_rfl)) (fun _ _ _ h => h) (Or.inl ⟨by rfl, ?_⟩) ?_ ?_
  rotate_left
  · intro w'
    go_simp
    with_reducible rfl
  rotate_left
  · simp only [Act.put, List.setIfInBounds_toArray, List.set_cons_zero, List.set_cons_succ, i64_w, i32_w]
    rfl
  refine pure_ (i := 11) (N := (some 29)) (v := ?_) (a' := ?_) #[true, false, true, true, true, true, true, true, false, true, true, true, false, false, false, false, false, false, false, false] rfl rfl (any_of HT_.out (by kernel_rfl)) (fun _ _ _ h => h) (Or.inl ⟨by rfl, ?_⟩) ?_ ?_
  rotate_left
  · intro w'
    go_simp
    with_reducible rfl
  rotate_left
  · simp only [Act.put, List.setIfInBounds_toArray, List.set_cons_zero, List.set_cons_succ, i64_w, i32_w]
    rfl
  refine take_ (i := 12) (N := (some 30)) (v := ?_) (a' := ?_) #[true, false, true, true, true, true, true, true, false, true, true, true, true, false, false, false, false, false, false, false] rfl rfl (take_ofW HT_.out HW_.out (by kernel_rfl)) (fun _ _ _ h => h) (Or.inl ⟨by rfl, ?_⟩) hHeld ?_ ?_
  rotate_left
  · rintro w' s0
    go_simp
    with_reducible rfl
  rotate_left
  · simp only [Act.put, List.setIfInBounds_toArray, List.set_cons_zero, List.set_cons_succ, i64_w, i32_w]
    rfl
  refine pure_ (i := 13) (N := (some 31)) (v := ?_) (a' := ?_) #[true, false, true, true, true, true, true, true, false, true, true, true, true, true, false, false, false, false, false, false] rfl rfl (any_of HT_.out (by kernel_rfl)) (fun _ _ _ h => h) (Or.inl ⟨by rfl, ?_⟩) ?_ ?_
  rotate_left
  · intro w'
    go_simp
    with_reducible rfl
  rotate_left
  · simp only [Act.put, List.setIfInBounds_toArray, List.set_cons_zero, List.set_cons_succ, i64_w, i32_w]
    rfl
  refine pure_ (i := 14) (N := (some 32)) (v := ?_) (a' := ?_) #[true, false, true, true, true, true, true, true, false, true, true, true, true, true, true, false, false, false, false, false] rfl rfl (any_of HT_.out (by kernel_rfl)) (fun _ _ _ h => h) (Or.inl ⟨by rfl, ?_⟩) ?_ ?_
  rotate_left
  · intro w'
    go_simp
    with_reducible rfl
  rotate_left
  · simp only [Act.put, List.setIfInBounds_toArray, List.set_cons_zero, List.set_cons_succ, i64_w, i32_w]
    rfl
  refine pure_ (i := 15) (N := (some 33)) (v := ?_) (a' := ?_) #[true, false, true, true, true, true, true, true, false, true, true, true, true, true, true, true, false, false, false, false] rfl rfl (any_of HT_.out (by kernel_rfl)) (fun _ _ _ h => h) (Or.inl ⟨by rfl, ?_⟩) ?_ ?_
  rotate_left
  · intro w'
    go_simp
    with_reducible rfl
  rotate_left
  · simp only [Act.put, List.setIfInBounds_toArray, List.set_cons_zero, List.set_cons_succ, i64_w, i32_w]
    rfl
  refine one_ (i := 1) (N := (some 19)) #[true, true, true, true, true, true, true, true, false, true, true, true, true, true, true, true, false, false, false, false] rfl rfl (one_of HT_.out (by kernel_rfl)) (by decide) (fun K hK => ?_)
  refine Kd.R_lit_step k60 (w0 := Wd) 0 73 (by rfl) (N := 19) rfl (xs := ([] : List (Int × List Int))) (inner := []) (ok := fun k => FL k ∨ Wd.heap.size ≤ k) (okp := fun _ => False) ?hr ?hp (fun _ h => h.elim) (.inr (Nat.le_refl _)) (Below.refl _ _) (Nat.zero_le _) (by simp) ?_
  case hr => first | (go_simp; done) | (go_simp; rfl)
  case hp => exact Reps.none _ _
  intro vl_ w4 HOl_ hbl_ hgl_ hatl_
  have hb4 : Below Wd.heap.size Wd w4 := ⟨hgl_.os, hgl_.tape, hgl_.output, hgl_.size, fun k hk => hgl_.block k hk (by simp)⟩
  have BK4 := Aside0.mk (blk_below BK.out hb4)
  have HL4 := Aside0.mk HOl_
  have HB4 := Aside0.mk hb4
  have HA4 := Aside0.mk hatl_
  clear HOl_ hbl_ hgl_ hatl_ hb4
  refine hK.out _ _ ((blk_cell BK4.out 1).trans rfl) (fun hHeld => ?_)
  clear hK K
  refine norm_ (a' := ?_) ?_ ?_
  rotate_left
  · show Act.put _ (some 19) _ = _
    simp only [Act.put, List.setIfInBounds_toArray, List.set_cons_zero, List.set_cons_succ, i64_w, i32_w]
    rfl
  refine one_ (i := 8) (N := (some 26)) #[true, true, true, true, true, true, true, true, true, true, true, true, true, true, true, true, false, false, false, false] rfl rfl (one_of HT_.out (by kernel_rfl)) (by decide) (fun K hK => ?_)
  obtain ⟨gc, g2, g3, g4, g5, go, glt⟩ := G.out
  have hx3 := (OwnRow.reads g3.2).choose_spec.choose_spec
  obtain ⟨A3, c3, he3, hc3, hR3⟩ := OwnRow.reads g3.2
  injection he3 with e1 _ e2
  subst e1 e2
  have hT := RR_take (m := k) (hR3.imp_ HB4.out (fun p c h => k60.M_below (k60.M_bound h) HB4.out)) (by omega)
  rw [show (la.take k).length = k from by rw [List.length_take]; omega] at hT
  have hown : ∀ q, FL q → some q ≠ vl_.ownBlock := fun q hq e => by obtain ⟨b, hb1, hb2⟩ := HA4.out; rw [hb1] at e; injection e with e; have := glt q (g5 q hq).1; omega
  refine Kd.R_append_rows_step k60 (w0 := w4) 0 (by rfl) (.tmp 19) (.tmp 25) 43 73 (.agg #[.int .i64 0, .slice none 0 0]) 32 rfl Try.underlying43 infoR rfl (by decide) (by decide) vl_ [] (la.take k) _ _ _ (fun k => FL k ∨ Wd.heap.size ≤ k) FL rfl rfl HL4.out hT (fun x cs h => k60.M_mono (fun q hq => hq.1.1) h) (fun q hq => ⟨.inl hq, hown q hq⟩) (fun q hq => .inr (Nat.le_trans HB4.out.size hq)) (Below.refl _ _) (Nat.zero_le _) (by simp; omega) ?_
  intro v5 w5 ho_ _ hg_ hat_
  rw [List.nil_append] at ho_
  have hf5 : Fr (fun q => Wd.heap.size ≤ q) Wd w5 := (Fr.of_below (F := fun q => Wd.heap.size ≤ q) HB4.out).trans (Fr.of_grown (F := fun q => Wd.heap.size ≤ q) hg_ (fun q hq => by obtain ⟨b, hb1, hb2⟩ := HA4.out; rw [hb1] at hq; injection hq with hq; omega)) (fun q hq => .inl hq)
  have hb5 := hf5.below (b := Wd.heap.size) (fun q hq => hq) (Nat.le_refl _)
  have HA5 := Aside0.mk (show ∃ b, v5.ownBlock = some b ∧ Wd.heap.size ≤ b from by rcases hat_ with h | ⟨b, h1, h2⟩; (· rw [h]; exact HA4.out); exact ⟨b, h1, Nat.le_trans HB4.out.size h2⟩)
  have BK5 := Aside0.mk (blk_below BK.out hb5)
  have HL5 := Aside0.mk ho_
  have HB5 := Aside0.mk hb5
  clear ho_ hg_ hat_ HL4 HB4 HA4 BK4 hT hf5 hb5 hx3 hR3 hown gc g2 g3 g4 g5 go glt
  refine hK.out _ _ ((blk_cell BK5.out 1).trans rfl) (fun hHeld => ?_)
  clear hK K
  refine norm_ (a' := ?_) ?_ ?_
  rotate_left
  · show Act.put _ (some 26) _ = _
    simp only [Act.put, List.setIfInBounds_toArray, List.set_cons_zero, List.set_cons_succ, i64_w, i32_w]
    rfl
  refine one_ (i := 16) (N := (some 34)) #[true, true, true, true, true, true, true, true, true, true, true, true, true, true, true, true, true, false, false, false] rfl rfl (one_of HT_.out (by kernel_rfl)) (by decide) (fun K hK => ?_)
  obtain ⟨gc, g2, g3, g4, g5, go, glt⟩ := G.out
  obtain ⟨A3, c3, he3, hc3, hR3⟩ := OwnRow.reads g3.2
  injection he3 with e1 _ e2
  subst e1 e2
  have hT := RR_drop (m := k + 1) (c := cap) (hR3.imp_ HB5.out (fun p c h => k60.M_below (k60.M_bound h) HB5.out)) (by omega) (by omega)
  rw [show (if cap = k + 1 then (some ⟨gm, 0, none⟩ : Option Addr) else (some (⟨gm, 0, none⟩ : Addr)).map (·.add ((k + 1) * k60.sz))) = Ad from by rw [← HAd.out]; congr 1; show some (Addr.add _ ((k + 1) * 2)) = _; unfold Addr.add; rw [if_neg (by omega)]; simp, show (la.drop (k + 1)).length = la.length - (k + 1) from List.length_drop] at hT
  have hown : ∀ q, FL q → some q ≠ v5.ownBlock := fun q hq e => by obtain ⟨b, hb1, hb2⟩ := HA5.out; rw [hb1] at e; injection e with e; have := glt q (g5 q hq).1; omega
  refine Kd.R_append_rows_step k60 (w0 := w5) 0 (by rfl) (.tmp 26) (.tmp 33) 43 73 (.agg #[.int .i64 0, .slice none 0 0]) 32 rfl Try.underlying43 infoR rfl (by decide) (by decide) v5 (la.take k) (la.drop (k + 1)) _ _ _ (fun k => FL k ∨ Wd.heap.size ≤ k) FL rfl rfl HL5.out hT (fun x cs h => k60.M_mono (fun q hq => hq.1.1) h) (fun q hq => ⟨.inl hq, hown q hq⟩) (fun q hq => .inr (Nat.le_trans HB5.out.size hq)) (Below.refl _ _) (Nat.zero_le _) (by rw [List.length_take]; omega) ?_
  intro v6 w6 ho_ _ hg_ hat_
  rw [← List.eraseIdx_eq_take_drop_succ] at ho_
  obtain ⟨A6, c6, rfl⟩ := Kd.R_slice ho_
  have hf6 : Fr (fun q => Wd.heap.size ≤ q) Wd w6 := (Fr.of_below (F := fun q => Wd.heap.size ≤ q) HB5.out).trans (Fr.of_grown (F := fun q => Wd.heap.size ≤ q) hg_ (fun q hq => by obtain ⟨b, hb1, hb2⟩ := HA5.out; rw [hb1] at hq; injection hq with hq; omega)) (fun q hq => .inl hq)
  have hb6 := hf6.below (b := Wd.heap.size) (fun q hq => hq) (Nat.le_refl _)
  have BK6 := Aside0.mk (blk_below BK.out hb6)
  have HL6 := Aside0.mk ho_
  have HB6 := Aside0.mk hb6
  have z6 : w6.cell? ⟨g, 1, none⟩ = some (.slice (some ⟨gm, 0, none⟩) la.length cap) := (blk_cell BK6.out 1).trans rfl
  have f6 := blk_frozen BK6.out 1
  clear ho_ hg_ hat_ HL5 HB5 HA5 BK5 hT hf6 hb6 hR3 hown gc g2 g3 g4 g5 go glt
  refine hK.out _ _ ((blk_cell BK6.out 1).trans rfl) (fun hHeld => ?_)
  clear hK K
  refine norm_ (a' := ?_) ?_ ?_
  rotate_left
  · show Act.put _ (some 34) _ = _
    simp only [Act.put, List.setIfInBounds_toArray, List.set_cons_zero, List.set_cons_succ, i64_w, i32_w]
    rfl
  refine pure_ (i := 17) (N := (some 35)) (v := ?_) (a' := ?_) #[true, true, true, true, true, true, true, true, true, true, true, true, true, true, true, true, true, true, false, false] rfl rfl (any_of HT_.out (by kernel_rfl)) (fun _ _ _ h => h) (Or.inl ⟨by rfl, ?_⟩) ?_ ?_
  rotate_left
  · intro w'
    go_simp
    with_reducible rfl
  rotate_left
  · simp only [Act.put, List.setIfInBounds_toArray, List.set_cons_zero, List.set_cons_succ, i64_w, i32_w]
    rfl
  refine pure_ (i := 18) (N := (some 36)) (v := ?_) (a' := ?_) #[true, true, true, true, true, true, true, true, true, true, true, true, true, true, true, true, true, true, true, false] rfl rfl (any_of HT_.out (by kernel_rfl)) (fun _ _ _ h => h) (Or.inl ⟨by rfl, ?_⟩) ?_ ?_
  rotate_left
  · intro w'
    go_simp
    with_reducible rfl
  rotate_left
  · simp only [Act.put, List.setIfInBounds_toArray, List.set_cons_zero, List.set_cons_succ, i64_w, i32_w]
    rfl
  refine last_ (i := 19) (N := none) #[true, true, true, true, true, true, true, true, true, true, true, true, true, true, true, true, true, true, true, true] rfl rfl (one_of HT_.out (by kernel_rfl)) (by decide) (fun K hK => ?_)
  refine skip_ (w1 := ?_) (by rfl) rfl ?_ ?_
  rotate_left
  · go_simp
    rfl
  refine hK.out _ _ ?_
  clear hK K
  refine done_ (done_of HT_.out (by kernel_rfl)) ?_
  clear hHeld HT_ HW_ z6 f6 hq1 hq2 hq3 hwk hwn hAd HAd
  obtain ⟨gc, g2, g3, g4, g5, go, glt⟩ := G.out
  have K8 := Aside0.mk (RI.late_step (W' := w6.setCell ⟨g, 1, none⟩ (.slice A6 (la.eraseIdx k).length c6)) (la' := la.eraseIdx k) gc g2 g3 g4 g5 go glt (blk_put BK6.out 1 _ rfl) (Kd.R_set HL6.out BK6.out (by decide) 1 _) ((Fr.of_below HB6.out).trans (Fr.set (F := fun k => k = g) _ g 1 _ rfl) (fun q hq => .inl (.inl hq))))
  have HM8 := Aside0.mk (Kd.R_reads' (Kd.R_set (Kd.R_below HMd.out HB6.out) BK6.out (by decide) 1 (.slice A6 (la.eraseIdx k).length c6))).2.2
  clear gc g2 g3 g4 g5 go glt BK6 HL6 HMd BK
  go_wp2_with fail
  exact bodyPost_ret (v := .tuple #[.int .i64 el.1, .slice Am el.2.length cm, .bool true]) (by simp [results, Try.results29, go_sem]) rfl ⟨Am, ⟨cm, rfl⟩, HM8.out, _, K8.out.1, fun q hq => hq.elim .inl (fun h => .inr (Nat.le_trans HBd.out.size h.1)), (Fr.of_below (F := F) HBd.out).trans K8.out.2 (fun q hq => .inl hq)⟩
set_option maxHeartbeats 1600000 in
theorem double_r_no {W : World} {F : Nat → Prop} {g : Nat} {lu : List Int} {la : List (Int × List Int)} (h : RI W F g lu la) (k : Int) (hk : k < 0 ∨ la.length ≤ k) :
    Calls Try.prog 30 #[.pointer (some ⟨g, 0, none⟩), .int .i64 k] W fun e W' => e = .returned (.bool false) ∧ W = W' := by
  obtain ⟨⟨FW, FL, A0, c0, vm, hc, h1, h2, h3, h4, h5⟩, ho, hlt⟩ := h
  obtain ⟨Av, cv, rfl⟩ := Kd.R_slice h3
  have z0 : W.cell? ⟨g, 1, none⟩ = some (.slice Av la.length cv) := (blk_cell h1 1).trans rfl
  clear h1 h2 h3 h4 h5 ho hlt
  by_cases h0 : k < 0
  · go_enter Try.func30, Try.ntmps30
    go_wp2_with fail
    go_ret
    exact ⟨rfl, rfl⟩
  · have h1 : (la.length : Int) ≤ k := by omega
    go_enter Try.func30, Try.ntmps30
    go_wp2_with fail
    go_ret
    exact ⟨rfl, rfl⟩
set_option maxHeartbeats 3200000 in
set_option maxRecDepth 100000 in
theorem double_r {W : World} {F : Nat → Prop} {g : Nat} {lu : List Int} {la : List (Int × List Int)} (h : RI W F g lu la) (k : Nat) (hk : k < la.length) (hla : (la.length + 1) * 32 ≤ 140737488355328) :
    Calls Try.prog 30 #[.pointer (some ⟨g, 0, none⟩), .int .i64 k] W fun e W' => e = .returned (.bool true) ∧ ∃ F', RI W' F' g lu (la ++ [la.getD k (0, [])]) ∧ (∀ k, F' k → F k ∨ W.heap.size ≤ k) ∧ Fr F W W' := by
  have H2 := Aside0.mk (h.below (below_drew (Below.refl W.heap.size W)))
  have HBd := Aside0.mk (below_drew (Below.refl W.heap.size W))
  obtain ⟨⟨FW, FL, A0, c0, vm, hc, g1, g2, g3, g4, g5⟩, go, glt⟩ := h
  obtain ⟨gm, cap, rfl, _, hlt0, _, _⟩ := Kd.R_form g3 (by omega)
  have z0 : W.cell? ⟨g, 1, none⟩ = some (.slice (some ⟨gm, 0, none⟩) la.length cap) := (blk_cell g1 1).trans rfl
  clear H2
  have g3d := Kd.R_drew g3
  have g1d := blk_drew g1
  obtain ⟨c2, hcl, hM, hcc, _⟩ := Kd.R_elem g3d (0, []) (k : Int) (by omega) (by omega)
  rw [Int.toNat_natCast] at hM hcc
  obtain ⟨vb, rfl, hRb⟩ := k60_openM hM
  obtain ⟨Ab, cb, rfl⟩ := Kd.R_slice hRb
  have hmax := Kd.C_max (Kd.R_reads' g3).2.2
  have hlt : gm < W.drew.heap.size := Nat.lt_of_lt_of_le hlt0 HBd.out.size
  have hgs : g < W.drew.heap.size := Nat.lt_of_lt_of_le (glt g go) HBd.out.size
  have x0 : W.drew.cell? ⟨gm, k * 2, none⟩ = some (.int .i64 (la.getD k (0, [])).1) := hcc 0 _ rfl
  have x1 : W.drew.cell? ⟨gm, k * 2 + 1, none⟩ = some (.slice Ab (la.getD k (0, [])).2.length cb) := hcc 1 _ rfl
  have HP := Aside0.mk (And.intro ((blk_cell g1d 1).trans rfl : W.drew.cell? ⟨g, 1, none⟩ = some (.slice (some ⟨gm, 0, none⟩) la.length cap)) (And.intro x0 x1))
  have G := Aside0.mk (And.intro hc (And.intro (g2.fr (G := fun _ => False) (Fr.of_below HBd.out) (fun k hk => glt k (g4 k hk).1) (fun _ _ => id)) (And.intro g3d (And.intro g4 (And.intro g5 (And.intro go (fun k (hk : F k) => show k < W.drew.heap.size from Nat.lt_of_lt_of_le (glt k hk) HBd.out.size)))))))
  have BK := Aside0.mk g1d
  have HMe := Aside0.mk hM
  generalize hel : la.getD k (0, []) = el at *
  have HEL := Aside0.mk hel
  have hd : decide ((la.length : Int) ≤ (k : Int)) = false := by rw [decide_eq_false_iff_not]; omega
  have hd2 : decide (la.length ≤ k) = false := by rw [decide_eq_false_iff_not]; omega
  have hd3 : decide ((k : Int) < (la.length : Int)) = true := by rw [decide_eq_true_eq]; omega
  clear hc g1 g2 g3 g4 g5 go glt hlt0 g3d g1d hcl hM hcc hRb x0 x1 hel
  go_enter Try.func30, Try.ntmps30
  go_wp2_with fail
  refine start_ (n := 17) (S := fun w' => w'.cell? ⟨g, 1, none⟩ = some (.slice (some ⟨gm, 0, none⟩) la.length cap) ∧ w'.cell? ⟨gm, k * 2, none⟩ = some (.int .i64 el.1) ∧ w'.cell? ⟨gm, k * 2 + 1, none⟩ = some (.slice Ab el.2.length cb)) (ds := [13, 16]) #[false, false, false, false, false, false, false, false, false, false, false, false, false, false, false, false, false] (by kernel_rfl) rfl rfl HP.out (fun hHeld => ?_); refine with_tabW tabR30 bitsR30 (fun HT_ HW_ => ?_)
  clear z0
  generalize hwd : W.drew = Wd at HP HBd BK G HMe hlt hgs hHeld ⊢
  clear hwd
  refine pure_ (i := 0) (N := (some 16)) (v := ?_) (a' := ?_) #[true, false, false, false, false, false, false, false, false, false, false, false, false, false, false, false, false] rfl rfl (any_of HT_.out (by kernel_rfl)) (fun _ _ _ h => h) (Or.inl ⟨by rfl, ?_⟩) ?_ ?_
  rotate_left
  · intro w'
    go_simp
    with_reducible rfl
  rotate_left
  · simp only [Act.put, List.setIfInBounds_toArray, List.set_cons_zero, List.set_cons_succ, i64_w, i32_w]
    rfl
  refine pure_ (i := 1) (N := (some 17)) (v := ?_) (a' := ?_) #[true, true, false, false, false, false, false, false, false, false, false, false, false, false, false, false, false] rfl rfl (any_of HT_.out (by kernel_rfl)) (fun _ _ _ h => h) (Or.inl ⟨by rfl, ?_⟩) ?_ ?_
  rotate_left
  · intro w'
    go_simp
    with_reducible rfl
  rotate_left
  · simp only [Act.put, List.setIfInBounds_toArray, List.set_cons_zero, List.set_cons_succ, i64_w, i32_w]
    rfl
  refine pure_ (i := 2) (N := (some 18)) (v := ?_) (a' := ?_) #[true, true, true, false, false, false, false, false, false, false, false, false, false, false, false, false, false] rfl rfl (any_of HT_.out (by kernel_rfl)) (fun _ _ _ h => h) (Or.inl ⟨by rfl, ?_⟩) ?_ ?_
  rotate_left
  · intro w'
    go_simp
    with_reducible rfl
  rotate_left
  · simp only [Act.put, List.setIfInBounds_toArray, List.set_cons_zero, List.set_cons_succ, i64_w, i32_w]
    rfl
  refine pure_ (i := 3) (N := (some 19)) (v := ?_) (a' := ?_) #[true, true, true, true, false, false, false, false, false, false, false, false, false, false, false, false, false] rfl rfl (any_of HT_.out (by kernel_rfl)) (fun _ _ _ h => h) (Or.inl ⟨by rfl, ?_⟩) ?_ ?_
  rotate_left
  · intro w'
    go_simp
    with_reducible rfl
  rotate_left
  · simp only [Act.put, List.setIfInBounds_toArray, List.set_cons_zero, List.set_cons_succ, i64_w, i32_w]
    rfl
  refine take_ (i := 4) (N := (some 20)) (v := ?_) (a' := ?_) #[true, true, true, true, true, false, false, false, false, false, false, false, false, false, false, false, false] rfl rfl (take_ofW HT_.out HW_.out (by kernel_rfl)) (fun _ _ _ h => h) (Or.inl ⟨by rfl, ?_⟩) hHeld ?_ ?_
  rotate_left
  · rintro w' ⟨s0, s1, s2⟩
    go_simp
    with_reducible rfl
  rotate_left
  · simp only [Act.put, List.setIfInBounds_toArray, List.set_cons_zero, List.set_cons_succ, i64_w, i32_w]
    rfl
  refine pure_ (i := 5) (N := (some 21)) (v := ?_) (a' := ?_) #[true, true, true, true, true, true, false, false, false, false, false, false, false, false, false, false, false] rfl rfl (any_of HT_.out (by kernel_rfl)) (fun _ _ _ h => h) (Or.inl ⟨by rfl, ?_⟩) ?_ ?_
  rotate_left
  · intro w'
    go_simp
    with_reducible rfl
  rotate_left
  · simp only [Act.put, List.setIfInBounds_toArray, List.set_cons_zero, List.set_cons_succ, i64_w, i32_w]
    rfl
  refine pure_ (i := 6) (N := (some 22)) (v := ?_) (a' := ?_) #[true, true, true, true, true, true, true, false, false, false, false, false, false, false, false, false, false] rfl rfl (any_of HT_.out (by kernel_rfl)) (fun _ _ _ h => h) (Or.inl ⟨by rfl, ?_⟩) ?_ ?_
  rotate_left
  · intro w'
    go_simp
    with_reducible rfl
  rotate_left
  · simp only [Act.put, List.setIfInBounds_toArray, List.set_cons_zero, List.set_cons_succ, i64_w, i32_w]
    rfl
  refine pure_ (i := 7) (N := (some 23)) (v := ?_) (a' := ?_) #[true, true, true, true, true, true, true, true, false, false, false, false, false, false, false, false, false] rfl rfl (any_of HT_.out (by kernel_rfl)) (fun _ _ _ h => h) (Or.inl ⟨by rfl, ?_⟩) ?_ ?_
  rotate_left
  · intro w'
    go_simp
    with_reducible rfl
  rotate_left
  · simp only [Act.put, List.setIfInBounds_toArray, List.set_cons_zero, List.set_cons_succ, i64_w, i32_w]
    rfl
  refine take_ (i := 8) (N := (some 24)) (v := ?_) (a' := ?_) #[true, true, true, true, true, true, true, true, true, false, false, false, false, false, false, false, false] rfl rfl (take_ofW HT_.out HW_.out (by kernel_rfl)) (fun _ _ _ h => h) (Or.inl ⟨by rfl, ?_⟩) hHeld ?_ ?_
  rotate_left
  · rintro w' ⟨s0, s1, s2⟩
    go_simp
    with_reducible rfl
  rotate_left
  · simp only [Act.put, List.setIfInBounds_toArray, List.set_cons_zero, List.set_cons_succ, i64_w, i32_w]
    rfl
  refine pure_ (i := 9) (N := (some 25)) (v := ?_) (a' := ?_) #[true, true, true, true, true, true, true, true, true, true, false, false, false, false, false, false, false] rfl rfl (any_of HT_.out (by kernel_rfl)) (fun _ _ _ h => h) (Or.inl ⟨by rfl, ?_⟩) ?_ ?_
  rotate_left
  · intro w'
    go_simp
    with_reducible rfl
  rotate_left
  · simp only [Act.put, List.setIfInBounds_toArray, List.set_cons_zero, List.set_cons_succ, i64_w, i32_w]
    rfl
  refine pure_ (i := 10) (N := (some 26)) (v := ?_) (a' := ?_) #[true, true, true, true, true, true, true, true, true, true, true, false, false, false, false, false, false] rfl rfl (any_of HT_.out (by kernel_rfl)) (fun _ _ _ h => h) (Or.inl ⟨by rfl, ?_⟩) ?_ ?_
  rotate_left
  · intro w'
    go_simp
    with_reducible rfl
  rotate_left
  · simp only [Act.put, List.setIfInBounds_toArray, List.set_cons_zero, List.set_cons_succ, i64_w, i32_w]
    rfl
  refine take_ (i := 11) (N := (some 27)) (v := ?_) (a' := ?_) #[true, true, true, true, true, true, true, true, true, true, true, true, false, false, false, false, false] rfl rfl (take_ofW HT_.out HW_.out (by kernel_rfl)) (fun _ _ _ h => h) (Or.inl ⟨by rfl, ?_⟩) hHeld ?_ ?_
  rotate_left
  · rintro w' ⟨s0, s1, s2⟩
    go_simp
    with_reducible rfl
  rotate_left
  · simp only [Act.put, List.setIfInBounds_toArray, List.set_cons_zero, List.set_cons_succ, i64_w, i32_w]
    rfl
  refine one_ (i := 12) (N := (some 28)) #[true, true, true, true, true, true, true, true, true, true, true, true, true, false, false, false, false] rfl rfl (one_of HT_.out (by kernel_rfl)) (by decide) (fun K hK => ?_)
  refine Kd.R_lit_step k60 (w0 := Wd) 0 73 (by rfl) (N := 28) rfl (xs := [el]) (inner := [.int .i64 el.1, .slice Ab el.2.length cb]) (ok := fun k => (FL k ∧ k ≠ gm) ∨ Wd.heap.size ≤ k) (okp := fun k => FL k ∧ k ≠ gm) ?hr ?hp (fun _ h => .inl h) (.inr (Nat.le_refl _)) (Below.refl _ _) (Nat.zero_le _) (by simp) ?_
  case hr => first | (go_simp; done) | (go_simp; rfl)
  case hp => exact (Reps.snoc (Reps.none _ 2) HMe.out rfl)
  intro v6 w6 HO6 _ hg6 _
  have hb6 : Below Wd.heap.size Wd w6 := ⟨hg6.os, hg6.tape, hg6.output, hg6.size, fun k hk => hg6.block k hk (by simp)⟩
  have HB6 := Aside0.mk hb6
  have HX6 := OwnRow.reads HO6.2
  obtain ⟨A6, c6, rfl, _, hx6⟩ := HX6
  have HX := Aside0.mk (hx6.imp_ (Below.refl _ _) (fun p c h => k60.M_mono (fun k hk => hk.1) h))
  have BK6 := Aside0.mk (blk_below BK.out HB6.out)
  clear HO6 hg6 hb6 hx6
  refine hK.out _ _ ⟨(HB6.out.cell (p := ⟨g, 1, none⟩) hgs).trans HP.out.1, (HB6.out.cell (p := ⟨gm, k * 2, none⟩) hlt).trans HP.out.2.1, (HB6.out.cell (p := ⟨gm, k * 2 + 1, none⟩) hlt).trans HP.out.2.2⟩ (fun hHeld => ?_)
  clear hK K
  refine norm_ (a' := ?_) ?_ ?_
  rotate_left
  · show Act.put _ (some 28) _ = _
    simp only [Act.put, List.setIfInBounds_toArray, List.set_cons_zero, List.set_cons_succ, i64_w, i32_w]
    rfl
  refine last_ (i := 13) (N := (some 29)) #[true, true, true, true, true, true, true, true, true, true, true, true, true, true, false, false, false] rfl rfl (one_of HT_.out (by kernel_rfl)) (by decide) (fun K hK => ?_)
  obtain ⟨k1, k2, k3, k4, k5, k6, k7⟩ := G.out
  have hnq : ∀ q, ((FL q ∧ q ≠ gm) ∨ Wd.heap.size ≤ q) → some q ≠ (Value.slice (some ⟨gm, 0, none⟩) la.length cap).ownBlock := by
    intro q hq e
    have e1 : q = gm := by simpa [Value.ownBlock] using e
    rcases hq with h | h
    · exact h.2 e1
    · omega
  refine Kd.R_append_rows_step k60 (w0 := w6) 0 (by rfl) (.tmp 20) (.tmp 28) 43 73 (.agg #[.int .i64 0, .slice none 0 0]) 32 rfl Try.underlying43 infoR rfl (by decide) (by decide) (.slice (some ⟨gm, 0, none⟩) la.length cap) la [el] A6 _ c6 (fun k => FL k ∨ Wd.heap.size ≤ k) (fun k => (FL k ∧ k ≠ gm) ∨ Wd.heap.size ≤ k) rfl rfl (Kd.R_mono (Kd.R_below k3 HB6.out) (fun _ h => .inl h)) HX.out (fun _ _ h => h) (fun q hq => ⟨hq.imp (fun h => h.1) id, hnq q hq⟩) (fun q hq => .inr (Nat.le_trans HB6.out.size hq)) (Below.refl _ _) (Nat.zero_le _) hla ?_
  intro v7 w7 ho7 _ hg7 _
  have BK7 := Aside0.mk (blk_grown BK6.out hg7 (Kd.R_ne k3 BK.out (by decide)))
  obtain ⟨A7, c7, rfl⟩ := Kd.R_slice ho7
  have HO7 := Aside0.mk ho7
  have hf7 := (Fr.of_below (F := fun k => k = g ∨ some k = (Value.slice (some ⟨gm, 0, none⟩) la.length cap).ownBlock) HB6.out).trans (Fr.of_grown (F := fun k => k = g ∨ some k = (Value.slice (some ⟨gm, 0, none⟩) la.length cap).ownBlock) hg7 (fun q hq => .inr hq)) (fun q hq => .inl hq)
  have HF7 := Aside0.mk hf7
  have z7 : w7.cell? ⟨g, 1, none⟩ = some (.slice (some ⟨gm, 0, none⟩) la.length cap) := (blk_cell BK7.out 1).trans rfl
  have f7 := blk_frozen BK7.out 1
  clear ho7 hg7 hf7 HX BK6 HB6 k1 k2 k3 k4 k5 k6 k7
  refine hK.out _ _ ?_
  clear hK K
  refine norm_ (a' := ?_) ?_ ?_
  rotate_left
  · show Act.put _ (some 29) _ = _
    simp only [Act.put, List.setIfInBounds_toArray, List.set_cons_zero, List.set_cons_succ, i64_w, i32_w]
    rfl
  refine pure_ (i := 14) (N := (some 30)) (v := ?_) (a' := ?_) #[true, true, true, true, true, true, true, true, true, true, true, true, true, true, true, false, false] rfl rfl (any_of HT_.out (by kernel_rfl)) (fun _ _ _ h => h) (Or.inl ⟨by rfl, ?_⟩) ?_ ?_
  rotate_left
  · intro w'
    go_simp
    with_reducible rfl
  rotate_left
  · simp only [Act.put, List.setIfInBounds_toArray, List.set_cons_zero, List.set_cons_succ, i64_w, i32_w]
    rfl
  refine pure_ (i := 15) (N := (some 31)) (v := ?_) (a' := ?_) #[true, true, true, true, true, true, true, true, true, true, true, true, true, true, true, true, false] rfl rfl (any_of HT_.out (by kernel_rfl)) (fun _ _ _ h => h) (Or.inl ⟨by rfl, ?_⟩) ?_ ?_
  rotate_left
  · intro w'
    go_simp
    with_reducible rfl
  rotate_left
  · simp only [Act.put, List.setIfInBounds_toArray, List.set_cons_zero, List.set_cons_succ, i64_w, i32_w]
    rfl
  refine last_ (i := 16) (N := none) #[true, true, true, true, true, true, true, true, true, true, true, true, true, true, true, true, true] rfl rfl (one_of HT_.out (by kernel_rfl)) (by decide) (fun K hK => ?_)
  refine skip_ (w1 := ?_) (by rfl) rfl ?_ ?_
  rotate_left
  · go_simp
    rfl
  refine hK.out _ _ ?_
  clear hK K
  refine done_ (done_of HT_.out (by kernel_rfl)) ?_
  clear hHeld HT_ HW_ z7 f7
  obtain ⟨k1, k2, k3, k4, k5, k6, k7⟩ := G.out
  have K8 := Aside0.mk (RI.late_step (W' := w7.setCell ⟨g, 1, none⟩ (.slice A7 (la.length + 1) c7)) (la' := la ++ [el]) (vm' := .slice A7 (la.length + 1) c7) k1 k2 k3 k4 k5 k6 k7 (blk_put BK7.out 1 _ rfl) (Kd.R_set (by have h := HO7.out; rwa [List.length_append] at h) BK7.out (by decide) 1 _) (HF7.out.trans (Fr.set (F := fun k => k = g) _ g 1 _ rfl) (fun q hq => .inl (.inl hq))))
  clear BK7 HO7 HF7 k2 k3 k4 k5 k6 k7 BK HP HMe G
  go_wp2_with fail
  go_ret
  exact ⟨rfl, _, K8.out.1, fun k hk => hk.elim .inl (fun h => .inr (Nat.le_trans HBd.out.size h.1)), (Fr.of_below (F := F) HBd.out).trans K8.out.2 (fun q hq => .inl hq)⟩
end Go.Proofs.Ytckeahjlfopaaaa.Hand
