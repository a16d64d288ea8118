/- batch.Encode: what it computes. -/
import Derived.Test.YthnmgbmpbhdfcaaHCheck
namespace Go.Proofs.Ythnmgbmpbhdfcaa.Hand
open Go.RowKit Go.Proofs.Ythnmgbmpbhdfcaa Go.Proofs.YthnmgbmpbhdfcaaW.PrintWords Go.Proofs.YthnmgbmpbhdfcaaW.PrintMore Go.Proofs.YthnmgbmpbhdfcaaW.PrintLast Go.Proofs.Ythnmgbmpbhdfcaa.B0
theorem max2_mx (k k' : IntKind) (x y : Int) : Builtin.max2 (.int k x) (.int k' y) = pure (.int k (mx x y)) := by rw [max2_int]; rfl
attribute [local go_sem] max2_mx max_two
set_option linter.unusedSimpArgs false
def TE : Bool × List (List Nat × List Nat) := (true, [([], []), ([0], [0]), ([1], [1]), ([], []), ([3], [3]), ([4], [4]), ([5], [5]), ([], []), ([7], [7]), ([8, 6], [8]), ([6, 9], [6, 9]), ([2, 10], [2, 10]), ([11, 9, 0, 1, 2, 3, 4, 5, 6, 7, 8, 9, 10, 11], [11])])
def BE : List Nat := [0, 1, 3, 0, 8, 24, 56, 0, 128, 504, 1016, 2047, 4095]
theorem tabE : rtab .any (opsOf Try.f18 4) = TE := by kernel_rfl
theorem bitsE : waitsOk TE.2 BE = true := by kernel_rfl
theorem putF_short (n size : Int) : (putF n size).1.length ≤ 6 := by
  unfold putF
  split
  · simp
  split
  · simp
  split
  · simp
  split
  · simp
  · simp only [lowL_length]; omega
theorem put_ev (n size : Int) : wire_Put.f n size = some ((putF n size).1, (putF n size).2) := rfl
theorem textEnc_short (s : ByteArray) : (textEnc s).1.length ≤ 65537 := by
  unfold textEnc
  split
  · simp
  · simp only [List.length_append, lowL_length, bytesOf_length]; omega
theorem text_ev (s : ByteArray) : wire_Text.f s = some ((textEnc s).1, (textEnc s).2) := rfl
theorem prow_at0 (x0 x1 x2 x3 : Int) (W : World) : (Instr.index 52 (.agg #[.int .i64 x0, .int .i64 6, .int .i64 x1, .int .i64 4, .int .i64 x2, .int .i64 4, .int .i64 x3, .int .i64 2]) (.int .i64 0)).run Try.prog W = .ok (.agg #[.int .i64 x0, .int .i64 6]) W := by kernel_rfl
theorem prow_at1 (x0 x1 x2 x3 : Int) (W : World) : (Instr.index 52 (.agg #[.int .i64 x0, .int .i64 6, .int .i64 x1, .int .i64 4, .int .i64 x2, .int .i64 4, .int .i64 x3, .int .i64 2]) (.int .i64 1)).run Try.prog W = .ok (.agg #[.int .i64 x1, .int .i64 4]) W := by kernel_rfl
theorem prow_at2 (x0 x1 x2 x3 : Int) (W : World) : (Instr.index 52 (.agg #[.int .i64 x0, .int .i64 6, .int .i64 x1, .int .i64 4, .int .i64 x2, .int .i64 4, .int .i64 x3, .int .i64 2]) (.int .i64 2)).run Try.prog W = .ok (.agg #[.int .i64 x2, .int .i64 4]) W := by kernel_rfl
theorem prow_at3 (x0 x1 x2 x3 : Int) (W : World) : (Instr.index 52 (.agg #[.int .i64 x0, .int .i64 6, .int .i64 x1, .int .i64 4, .int .i64 x2, .int .i64 4, .int .i64 x3, .int .i64 2]) (.int .i64 3)).run Try.prog W = .ok (.agg #[.int .i64 x3, .int .i64 2]) W := by kernel_rfl
def truthF (b : Bool) (n : Int) : Int := if b = true then n else 0
theorem truth_ev (b : Bool) (n : Int) : batch_truth.f b n = some (truthF b n) := by unfold batch_truth.f truthF; split <;> rfl
def flagsF (p : Int) (t : Bool) : Int := bits .or .u8 (truthF (p != (-1)) 1) (truthF t 2)
theorem box_kept {w W : World} {o : Obj} (h : Below (w.alloc o).heap.size (w.alloc o) W) : W.heap[w.heap.size]? = some o := by
  have e : (w.alloc o).heap.size = w.heap.size + 1 := by simp
  exact (h.block w.heap.size (by rw [e]; omega)).trans (blk_new w o)
theorem box_below {w W : World} {o : Obj} (h : Below (w.alloc o).heap.size (w.alloc o) W) : Below w.heap.size w W := by
  have e : (w.alloc o).heap.size = w.heap.size + 1 := by simp
  exact below_step (below_alloc (Below.refl _ _) o) h
theorem below_step2 {w W W2 : World} {o : Obj} (h : Below (w.alloc o).heap.size (w.alloc o) W) (hb : Below W.heap.size W W2) : Below (w.alloc o).heap.size (w.alloc o) W2 := below_step h hb
def headL (kb p : Int) (t : Bool) : List Int := [kb, flagsF p t]
def putsL (p e s : Int) (n : Nat) : List (List Int) := [(putF (mx p 0) 6).1, (putF e 4).1, (putF s 4).1, (putF (n : Int) 2).1]
def recB (r : S47) : List Int := [truthF r.f2 1] ++ ((textEnc r.f0).1 ++ (textEnc r.f1).1)
def encB (k p e s : Int) (t : Bool) (l : List S47) : List Int := headL (IntKind.u8.wrap k) p t ++ (putsL p e s l.length).flatten ++ (l.map recB).flatten
def encF (k p e s : Int) (t : Bool) (l : List S47) : List Int × Int := if checkF k p e s t l = 0 then (encB k p e s t l, 0) else ([], checkF k p e s t l)

theorem srow_at0 (x0 x1 : ByteArray) (W : World) : (Instr.index 54 (.agg #[.string x0, .string x1]) (.int .i64 0)).run Try.prog W = .ok (.string x0) W := by kernel_rfl
theorem srow_at1 (x0 x1 : ByteArray) (W : World) : (Instr.index 54 (.agg #[.string x0, .string x1]) (.int .i64 1)).run Try.prog W = .ok (.string x1) W := by kernel_rfl
theorem check_len {k p e s : Int} {t : Bool} {l : List S47} (h : checkF k p e s t l = 0) : l.length ≤ 64 := by
  simp only [checkF, qlist, pickQ] at h
  split at h
  · exact absurd h (by decide)
  split at h
  · exact absurd h (by decide)
  split at h
  · exact absurd h (by decide)
  split at h
  · exact absurd h (by decide)
  split at h
  · exact absurd h (by decide)
  · rename_i h5
    simp only [Bool.or_eq_true, decide_eq_true_eq, not_or] at h5
    omega
theorem recB_short (r : S47) : (recB r).length ≤ 131075 := by
  have h0 := textEnc_short r.f0
  have h1 := textEnc_short r.f1
  simp only [recB, List.length_append, List.length_singleton]; omega
theorem recsB_short : ∀ l : List S47, ((l.map recB).flatten).length ≤ l.length * 131075
  | [] => by simp
  | r :: l => by
    have h0 := recB_short r
    have h1 := recsB_short l
    simp only [List.map_cons, List.flatten_cons, List.length_append, List.length_cons]; omega
theorem puts_short (p e s : Int) (n : Nat) : ((putsL p e s n).flatten).length ≤ 24 := by
  have h0 := putF_short (mx p 0) 6
  have h1 := putF_short e 4
  have h2 := putF_short s 4
  have h3 := putF_short (n : Int) 2
  simp only [putsL, List.flatten_cons, List.flatten_nil, List.length_append, List.length_nil]; omega
def outs (kb p e s : Int) (t : Bool) (n : Nat) (l : List S47) : List Int := headL kb p t ++ (putsL p e s n).flatten ++ (l.map recB).flatten
theorem outs_short {kb p e s : Int} {t : Bool} {n : Nat} {l : List S47} (h : l.length ≤ 64) : (outs kb p e s t n l).length ≤ 8400000 := by
  have h0 := puts_short p e s n
  have h1 := recsB_short l
  simp only [outs, headL, List.length_append, List.length_cons, List.length_nil]; omega
theorem outs_step {kb p e s : Int} {t : Bool} {n k : Nat} {l : List S47} (h : k < l.length) : outs kb p e s t n (l.take k) ++ recB (rd_T47 l (k : Int)) = outs kb p e s t n (l.take (k + 1)) := by
  rw [take_one h]; simp [outs]
set_option maxHeartbeats 1600000 in
set_option maxRecDepth 100000 in
theorem Encode_calls (a0 a1 a2 a3 : Int) (a4 : Bool) (A0 : Option Addr) (c0 : Nat) (l0 : List S47) (w : World) (hr0 : Kd.C k47 w A0 l0.length l0) (hc0 : l0.length ≤ c0) :
    Calls Try.prog 18 #[.agg (bcells a0 a1 a2 a3 a4 A0 l0.length c0)] w fun e w' => ∃ v0_ : Value, e = .returned (.tuple #[v0_, .int .i64 (encF a0 a1 a2 a3 a4 l0).2]) ∧ Kd.R (Kd.int .u8) 5 w' w.heap.size (fun _ => True) v0_ (encF a0 a1 a2 a3 a4 l0).1 ∧ Below w.heap.size w w' := by
  have HR := Aside0.mk hr0
  have hmax := Kd.C_max hr0
  have HB := Aside0.mk (Below.refl (w.alloc (.cells (bcells a0 a1 a2 a3 a4 A0 l0.length c0) 24 (0, 0))).heap.size (w.alloc (.cells (bcells a0 a1 a2 a3 a4 A0 l0.length c0) 24 (0, 0))))
  have BK := Aside0.mk (box_kept HB.out)
  obtain ⟨b0, b1, b2, b3, b4, b5⟩ := b_cells BK.out
  clear hr0
  unfold bcells
  go_enter Try.func18, Try.ntmps18
  go_wp2_with fail
  refine (Check_calls a0 a1 a2 a3 a4 A0 c0 l0 _ (Kd.C_below HR.out (box_below HB.out)) hc0).mono ?_
  rintro e w1 ⟨rfl, hb⟩
  have n1_ := Aside0.mk (below_step2 HB.out hb)
  clear HB BK hb b0 b1 b2 b3 b4 b5
  have HB := n1_
  clear n1_
  have BK := Aside0.mk (box_kept HB.out)
  obtain ⟨b0, b1, b2, b3, b4, b5⟩ := b_cells BK.out
  by_cases hc : checkF a0 a1 a2 a3 a4 l0 = 0
  · have hn1 : ((checkF a0 a1 a2 a3 a4 l0) != 0) = false := by simpa using hc
    go_wp2_with fail
    have n0_ := Aside0.mk (blk_drew BK.out)
    have n1_ := Aside0.mk (below_drew1 HB.out)
    clear BK HB b0 b1 b2 b3 b4 b5
    have BK := n0_
    have HB := n1_
    clear n0_ n1_
    refine start_ (n := 13) (S := fun w' => w'.cell? ⟨w.heap.size, 0, none⟩ = some (.int .i64 a0) ∧ w'.cell? ⟨w.heap.size, 1, none⟩ = some (.int .i64 a1) ∧ w'.cell? ⟨w.heap.size, 2, none⟩ = some (.int .i64 a2) ∧ w'.cell? ⟨w.heap.size, 3, none⟩ = some (.int .i64 a3) ∧ w'.cell? ⟨w.heap.size, 4, none⟩ = some (.bool a4) ∧ w'.cell? ⟨w.heap.size, 5, none⟩ = some (.slice A0 l0.length c0)) (ds := []) #[false, false, false, false, false, false, false, false, false, false, false, false, false] (by kernel_rfl) rfl rfl ⟨(blk_cell BK.out 0).trans rfl, (blk_cell BK.out 1).trans rfl, (blk_cell BK.out 2).trans rfl, (blk_cell BK.out 3).trans rfl, (blk_cell BK.out 4).trans rfl, (blk_cell BK.out 5).trans rfl⟩ (fun hHeld => ?_); refine with_tabW tabE bitsE (fun HT_ HW_ => ?_)
    generalize w1.drew = w1d at BK HB hHeld ⊢
    refine pure_ (i := 0) (N := some 21) (v := ?_) (a' := ?_) #[true, false, false, false, false, false, false, false, false, false, false, false, false] rfl rfl (any_of HT_.out (by kernel_rfl)) (fun _ _ _ h => h) (Or.inl ⟨by rfl, ?_⟩) ?_ ?_
    rotate_left
    · intro w'
      go_simp
      with_reducible rfl
    rotate_left
    · simp only [Act.put, List.setIfInBounds_toArray, List.set_cons_zero, List.set_cons_succ, i64_w, i32_w]
      rfl
    refine take_ (i := 1) (N := some 22) (v := ?_) (a' := ?_) #[true, true, false, false, false, false, false, false, false, false, false, false, false] rfl rfl (take_ofW HT_.out HW_.out (by kernel_rfl)) (fun _ _ _ h => h) (Or.inl ⟨by rfl, ?_⟩) hHeld ?_ ?_
    rotate_left
    · rintro w' ⟨s0, s1, s2, s3, s4, s5⟩
      go_simp
      with_reducible rfl
    rotate_left
    · simp only [Act.put, List.setIfInBounds_toArray, List.set_cons_zero, List.set_cons_succ, i64_w, i32_w]
      rfl
    refine pure_ (i := 2) (N := some 23) (v := ?_) (a' := ?_) #[true, true, true, false, false, false, false, false, false, false, false, false, false] rfl rfl (any_of HT_.out (by kernel_rfl)) (fun _ _ _ h => h) (Or.inl ⟨by rfl, ?_⟩) ?_ ?_
    rotate_left
    · intro w'
      go_simp
      with_reducible rfl
    rotate_left
    · simp only [Act.put, List.setIfInBounds_toArray, List.set_cons_zero, List.set_cons_succ, i64_w, i32_w]
      rfl
    refine pure_ (i := 3) (N := some 24) (v := ?_) (a' := ?_) #[true, true, true, true, false, false, false, false, false, false, false, false, false] rfl rfl (any_of HT_.out (by kernel_rfl)) (fun _ _ _ h => h) (Or.inl ⟨by rfl, ?_⟩) ?_ ?_
    rotate_left
    · intro w'
      go_simp
      with_reducible rfl
    rotate_left
    · simp only [Act.put, List.setIfInBounds_toArray, List.set_cons_zero, List.set_cons_succ, i64_w, i32_w]
      rfl
    refine take_ (i := 4) (N := some 25) (v := ?_) (a' := ?_) #[true, true, true, true, true, false, false, false, false, false, false, false, false] rfl rfl (take_ofW HT_.out HW_.out (by kernel_rfl)) (fun _ _ _ h => h) (Or.inl ⟨by rfl, ?_⟩) hHeld ?_ ?_
    rotate_left
    · rintro w' ⟨s0, s1, s2, s3, s4, s5⟩
      go_simp
      with_reducible rfl
    rotate_left
    · simp only [Act.put, List.setIfInBounds_toArray, List.set_cons_zero, List.set_cons_succ, i64_w, i32_w]
      rfl
    refine pure_ (i := 5) (N := some 26) (v := ?_) (a' := ?_) #[true, true, true, true, true, true, false, false, false, false, false, false, false] rfl rfl (any_of HT_.out (by kernel_rfl)) (fun _ _ _ h => h) (Or.inl ⟨by rfl, ?_⟩) ?_ ?_
    rotate_left
    · intro w'
      go_simp
      with_reducible rfl
    rotate_left
    · simp only [Act.put, List.setIfInBounds_toArray, List.set_cons_zero, List.set_cons_succ, i64_w, i32_w]
      rfl
    refine pure_ (i := 7) (N := some 28) (v := ?_) (a' := ?_) #[true, true, true, true, true, true, false, true, false, false, false, false, false] rfl rfl (any_of HT_.out (by kernel_rfl)) (fun _ _ _ h => h) (Or.inl ⟨by rfl, ?_⟩) ?_ ?_
    rotate_left
    · intro w'
      go_simp
      with_reducible rfl
    rotate_left
    · simp only [Act.put, List.setIfInBounds_toArray, List.set_cons_zero, List.set_cons_succ, i64_w, i32_w]
      rfl
    refine take_ (i := 8) (N := some 29) (v := ?_) (a' := ?_) #[true, true, true, true, true, true, false, true, true, false, false, false, false] rfl rfl (take_ofW HT_.out HW_.out (by kernel_rfl)) (fun _ _ _ h => h) (Or.inl ⟨by rfl, ?_⟩) hHeld ?_ ?_
    rotate_left
    · rintro w' ⟨s0, s1, s2, s3, s4, s5⟩
      go_simp
      with_reducible rfl
    rotate_left
    · simp only [Act.put, List.setIfInBounds_toArray, List.set_cons_zero, List.set_cons_succ, i64_w, i32_w]
      rfl
    refine one_ (i := 6) (N := some 27) #[true, true, true, true, true, true, true, true, true, false, false, false, false] rfl rfl (one_of HT_.out (by kernel_rfl)) (by decide) (fun K hK => ?_)
    refine goes_ Try.func33 (by kernel_rfl) rfl #[.bool (a1 != (-1)), .int .u8 1] (by rfl) rfl rfl (by (try simp only [List.map_toArray, List.map_cons, List.map_nil]); first | done | rfl) ?_
    with_reducible refine (batch_truth.calls (a1 != (-1)) 1 _ _ (truth_ev ..)).mono ?_
    rintro e w2 ⟨rfl, hd⟩
    refine ⟨_, rfl, ?_⟩
    obtain ⟨nd, rfl⟩ := hd.out
    have n0_ := Aside0.mk (blk_drewN BK.out nd)
    have n1_ := Aside0.mk (pw_below_drewN HB.out nd)
    clear BK HB hd
    have BK := n0_
    have HB := n1_
    clear n0_ n1_
    refine hK.out _ _ ⟨(blk_cell BK.out 0).trans rfl, (blk_cell BK.out 1).trans rfl, (blk_cell BK.out 2).trans rfl, (blk_cell BK.out 3).trans rfl, (blk_cell BK.out 4).trans rfl, (blk_cell BK.out 5).trans rfl⟩ (fun hHeld => ?_)
    clear hK K
    refine norm_ (a' := ?_) ?_ ?_
    rotate_left
    · show Act.put _ (some 27) _ = _
      simp only [Act.put, List.setIfInBounds_toArray, List.set_cons_zero, List.set_cons_succ, i64_w, i32_w]
      rfl
    refine one_ (i := 9) (N := some 30) #[true, true, true, true, true, true, true, true, true, true, false, false, false] rfl rfl (one_of HT_.out (by kernel_rfl)) (by decide) (fun K hK => ?_)
    refine goes_ Try.func33 (by kernel_rfl) rfl #[.bool a4, .int .u8 2] (by rfl) rfl rfl (by (try simp only [List.map_toArray, List.map_cons, List.map_nil]); first | done | rfl) ?_
    with_reducible refine (batch_truth.calls a4 2 _ _ (truth_ev ..)).mono ?_
    rintro e w2 ⟨rfl, hd⟩
    refine ⟨_, rfl, ?_⟩
    obtain ⟨nd, rfl⟩ := hd.out
    have n0_ := Aside0.mk (blk_drewN BK.out nd)
    have n1_ := Aside0.mk (pw_below_drewN HB.out nd)
    clear BK HB hd
    have BK := n0_
    have HB := n1_
    clear n0_ n1_
    refine hK.out _ _ ⟨(blk_cell BK.out 0).trans rfl, (blk_cell BK.out 1).trans rfl, (blk_cell BK.out 2).trans rfl, (blk_cell BK.out 3).trans rfl, (blk_cell BK.out 4).trans rfl, (blk_cell BK.out 5).trans rfl⟩ (fun hHeld => ?_)
    clear hK K
    refine norm_ (a' := ?_) ?_ ?_
    rotate_left
    · show Act.put _ (some 30) _ = _
      simp only [Act.put, List.setIfInBounds_toArray, List.set_cons_zero, List.set_cons_succ, i64_w, i32_w]
      rfl
    refine pure_ (i := 10) (N := some 31) (v := ?_) (a' := ?_) #[true, true, true, true, true, true, true, true, true, true, true, false, false] rfl rfl (any_of HT_.out (by kernel_rfl)) (fun _ _ _ h => h) (Or.inl ⟨by rfl, ?_⟩) ?_ ?_
    rotate_left
    · intro w'
      go_simp
      with_reducible rfl
    rotate_left
    · simp only [Act.put, List.setIfInBounds_toArray, List.set_cons_zero, List.set_cons_succ, i64_w, i32_w]
      rfl
    refine one_ (i := 11) (N := some 32) #[true, true, true, true, true, true, true, true, true, true, true, true, false] rfl rfl (one_of HT_.out (by kernel_rfl)) (by decide) (fun K hK => ?_)
    refine Kd.R_lit_step (Kd.int .u8) (w0 := (w.alloc (.cells (bcells a0 a1 a2 a3 a4 A0 l0.length c0) 24 (0, 0)))) (w.alloc (.cells (bcells a0 a1 a2 a3 a4 A0 l0.length c0) 24 (0, 0))).heap.size 5 (by rfl) (N := 32) rfl (xs := [IntKind.u8.wrap a0, flagsF a1 a4]) (inner := [.int .u8 (IntKind.u8.wrap a0), .int .u8 (flagsF a1 a4)]) (ok := fun _ => True) (okp := fun _ => True) ?hr ?hp (fun _ hk => hk) trivial HB.out (below_size HB.out) (by simp) ?_
    case hr => first | (go_simp; done) | (go_simp; rfl)
    case hp => exact (Reps.one (show Kd.M (Kd.int .u8) _ _ _ (IntKind.u8.wrap a0) [.int .u8 (IntKind.u8.wrap a0)] from rfl) (Reps.one (show Kd.M (Kd.int .u8) _ _ _ (flagsF a1 a4) [.int .u8 (flagsF a1 a4)] from rfl) (Reps.none _ _)))
    intro v32 w4 HO0 hb4 _ _
    have BK4 := Aside0.mk (box_kept hb4)
    clear BK HB
    have BK := BK4
    have HB := Aside0.mk hb4
    have HO := Aside0.mk HO0
    clear HO0 hb4 BK4
    refine hK.out _ _ ⟨(blk_cell BK.out 0).trans rfl, (blk_cell BK.out 1).trans rfl, (blk_cell BK.out 2).trans rfl, (blk_cell BK.out 3).trans rfl, (blk_cell BK.out 4).trans rfl, (blk_cell BK.out 5).trans rfl⟩ (fun hHeld => ?_)
    clear hK K
    refine norm_ (a' := ?_) ?_ ?_
    rotate_left
    · show Act.put _ (some 32) _ = _
      simp only [Act.put, List.setIfInBounds_toArray, List.set_cons_zero, List.set_cons_succ, i64_w, i32_w]
      rfl
    refine pure_ (i := 12) (N := some 5) (v := ?_) (a' := ?_) #[true, true, true, true, true, true, true, true, true, true, true, true, true] rfl rfl (any_of HT_.out (by kernel_rfl)) (fun _ _ _ h => h) (Or.inl ⟨by rfl, ?_⟩) ?_ ?_
    rotate_left
    · intro w'
      go_simp
      with_reducible rfl
    rotate_left
    · simp only [Act.put, List.setIfInBounds_toArray, List.set_cons_zero, List.set_cons_succ, i64_w, i32_w]
      rfl
    refine done_ (done_of HT_.out (by kernel_rfl)) ?_
    obtain ⟨b0, b1, b2, b3, b4, b5⟩ := b_cells BK.out
    go_wp2
    generalize hkb : IntKind.u8.wrap a0 = kb at HO ⊢
    have HKB := Aside0.mk hkb
    clear hkb
    go_loopw [5, 7, 8, 9, 48] (fun v5 u7 u8 u9 i48 wr => ∃ k : Nat, k ≤ 4 ∧ i48 = .int .i64 k ∧ Aside0 (Kd.R (Kd.int .u8) 5 wr (w.alloc (.cells (bcells a0 a1 a2 a3 a4 A0 l0.length c0) 24 (0, 0))).heap.size (fun _ => True) v5 (headL kb a1 a4 ++ ((putsL a1 a2 a3 l0.length).take k).flatten)) ∧ Aside0 (Below (w.alloc (.cells (bcells a0 a1 a2 a3 a4 A0 l0.length c0) 24 (0, 0))).heap.size (w.alloc (.cells (bcells a0 a1 a2 a3 a4 A0 l0.length c0) 24 (0, 0))) wr)) (fun _ _ _ _ i48 _ => 4 - (intOf i48).toNat)
    case atStart => exact ⟨0, by omega, rfl, ⟨HO.out⟩, ⟨HB.out⟩⟩
    case round =>
      obtain ⟨k, hk, rfl, HOk, HBk⟩ := hrel
      clear HO HB BK b0 b1 b2 b3 b4 b5
      rcases k with _ | _ | _ | _ | k
      · have hx := prow_at0 (mx a1 0) a2 a3 (l0.length : Int)
        go_wp2_with fail
        refine (wire_Put.calls (mx a1 0) 6 _ _ _ (put_ev ..)).mono ?_
        rintro e w2 ⟨v0, rfl, hR2, hb2⟩
        obtain ⟨A2, c2, rfl⟩ := Kd.R_slice hR2
        have HX := Aside0.mk (Kd.R_reads' hR2).2.2
        have HO2 := Aside0.mk (Kd.R_below (Kd.R_alloc HOk.out _) hb2)
        have HB2 := Aside0.mk (below_step (below_alloc HBk.out _) hb2)
        have hlen : ((headL kb a1 a4 ++ ((putsL a1 a2 a3 l0.length).take 0).flatten).length + (putF (mx a1 0) 6).1.length) * 1 ≤ 140737488355328 := by
          have h0 := putF_short (mx a1 0) 6
          have h1 := putF_short a2 4
          have h2 := putF_short a3 4
          have h3 := putF_short (l0.length : Int) 2
          simp [headL, putsL]
          omega
        clear hR2 hb2 HOk HBk
        go_wp2_with (first | (refine Kd.R_append_row (Value.int .u8) 0 (w.alloc (.cells (bcells a0 a1 a2 a3 a4 A0 l0.length c0) 24 (0, 0))).heap.size rfl (.tmp 59) (.tmp 60) 33 5 (.int .u8 0) 1 rfl Try.underlying33 info5 rfl (by omega) u5 _ _ A2 _ c2 (fun _ => True) rfl rfl (fun _ _ => trivial) HO2.out HX.out HB2.out (below_size HB2.out) hlen ?_; intro v1 w3 ho3 hb3 hg3 hat3))
        go_roundw
        case rel =>
          refine ⟨1, by omega, by go_num, ⟨?_⟩, ⟨hb3⟩⟩
          have e : (headL kb a1 a4 ++ ((putsL a1 a2 a3 l0.length).take 0).flatten) ++ (putF (mx a1 0) 6).1 = headL kb a1 a4 ++ ((putsL a1 a2 a3 l0.length).take 1).flatten := by simp [putsL]
          rw [← e]; exact ho3
        case measure => simp [intOf]
      · have hx := prow_at1 (mx a1 0) a2 a3 (l0.length : Int)
        go_wp2_with fail
        refine (wire_Put.calls a2 4 _ _ _ (put_ev ..)).mono ?_
        rintro e w2 ⟨v0, rfl, hR2, hb2⟩
        obtain ⟨A2, c2, rfl⟩ := Kd.R_slice hR2
        have HX := Aside0.mk (Kd.R_reads' hR2).2.2
        have HO2 := Aside0.mk (Kd.R_below (Kd.R_alloc HOk.out _) hb2)
        have HB2 := Aside0.mk (below_step (below_alloc HBk.out _) hb2)
        have hlen : ((headL kb a1 a4 ++ ((putsL a1 a2 a3 l0.length).take 1).flatten).length + (putF a2 4).1.length) * 1 ≤ 140737488355328 := by
          have h0 := putF_short (mx a1 0) 6
          have h1 := putF_short a2 4
          have h2 := putF_short a3 4
          have h3 := putF_short (l0.length : Int) 2
          simp [headL, putsL]
          omega
        clear hR2 hb2 HOk HBk
        go_wp2_with (first | (refine Kd.R_append_row (Value.int .u8) 0 (w.alloc (.cells (bcells a0 a1 a2 a3 a4 A0 l0.length c0) 24 (0, 0))).heap.size rfl (.tmp 59) (.tmp 60) 33 5 (.int .u8 0) 1 rfl Try.underlying33 info5 rfl (by omega) u5 _ _ A2 _ c2 (fun _ => True) rfl rfl (fun _ _ => trivial) HO2.out HX.out HB2.out (below_size HB2.out) hlen ?_; intro v1 w3 ho3 hb3 hg3 hat3))
        go_roundw
        case rel =>
          refine ⟨2, by omega, by go_num, ⟨?_⟩, ⟨hb3⟩⟩
          have e : (headL kb a1 a4 ++ ((putsL a1 a2 a3 l0.length).take 1).flatten) ++ (putF a2 4).1 = headL kb a1 a4 ++ ((putsL a1 a2 a3 l0.length).take 2).flatten := by simp [putsL]
          rw [← e]; exact ho3
        case measure => simp [intOf]
      · have hx := prow_at2 (mx a1 0) a2 a3 (l0.length : Int)
        go_wp2_with fail
        refine (wire_Put.calls a3 4 _ _ _ (put_ev ..)).mono ?_
        rintro e w2 ⟨v0, rfl, hR2, hb2⟩
        obtain ⟨A2, c2, rfl⟩ := Kd.R_slice hR2
        have HX := Aside0.mk (Kd.R_reads' hR2).2.2
        have HO2 := Aside0.mk (Kd.R_below (Kd.R_alloc HOk.out _) hb2)
        have HB2 := Aside0.mk (below_step (below_alloc HBk.out _) hb2)
        have hlen : ((headL kb a1 a4 ++ ((putsL a1 a2 a3 l0.length).take 2).flatten).length + (putF a3 4).1.length) * 1 ≤ 140737488355328 := by
          have h0 := putF_short (mx a1 0) 6
          have h1 := putF_short a2 4
          have h2 := putF_short a3 4
          have h3 := putF_short (l0.length : Int) 2
          simp [headL, putsL]
          omega
        clear hR2 hb2 HOk HBk
        go_wp2_with (first | (refine Kd.R_append_row (Value.int .u8) 0 (w.alloc (.cells (bcells a0 a1 a2 a3 a4 A0 l0.length c0) 24 (0, 0))).heap.size rfl (.tmp 59) (.tmp 60) 33 5 (.int .u8 0) 1 rfl Try.underlying33 info5 rfl (by omega) u5 _ _ A2 _ c2 (fun _ => True) rfl rfl (fun _ _ => trivial) HO2.out HX.out HB2.out (below_size HB2.out) hlen ?_; intro v1 w3 ho3 hb3 hg3 hat3))
        go_roundw
        case rel =>
          refine ⟨3, by omega, by go_num, ⟨?_⟩, ⟨hb3⟩⟩
          have e : (headL kb a1 a4 ++ ((putsL a1 a2 a3 l0.length).take 2).flatten) ++ (putF a3 4).1 = headL kb a1 a4 ++ ((putsL a1 a2 a3 l0.length).take 3).flatten := by simp [putsL]
          rw [← e]; exact ho3
        case measure => simp [intOf]
      · have hx := prow_at3 (mx a1 0) a2 a3 (l0.length : Int)
        go_wp2_with fail
        refine (wire_Put.calls (l0.length : Int) 2 _ _ _ (put_ev ..)).mono ?_
        rintro e w2 ⟨v0, rfl, hR2, hb2⟩
        obtain ⟨A2, c2, rfl⟩ := Kd.R_slice hR2
        have HX := Aside0.mk (Kd.R_reads' hR2).2.2
        have HO2 := Aside0.mk (Kd.R_below (Kd.R_alloc HOk.out _) hb2)
        have HB2 := Aside0.mk (below_step (below_alloc HBk.out _) hb2)
        have hlen : ((headL kb a1 a4 ++ ((putsL a1 a2 a3 l0.length).take 3).flatten).length + (putF (l0.length : Int) 2).1.length) * 1 ≤ 140737488355328 := by
          have h0 := putF_short (mx a1 0) 6
          have h1 := putF_short a2 4
          have h2 := putF_short a3 4
          have h3 := putF_short (l0.length : Int) 2
          simp [headL, putsL]
          omega
        clear hR2 hb2 HOk HBk
        go_wp2_with (first | (refine Kd.R_append_row (Value.int .u8) 0 (w.alloc (.cells (bcells a0 a1 a2 a3 a4 A0 l0.length c0) 24 (0, 0))).heap.size rfl (.tmp 59) (.tmp 60) 33 5 (.int .u8 0) 1 rfl Try.underlying33 info5 rfl (by omega) u5 _ _ A2 _ c2 (fun _ => True) rfl rfl (fun _ _ => trivial) HO2.out HX.out HB2.out (below_size HB2.out) hlen ?_; intro v1 w3 ho3 hb3 hg3 hat3))
        go_roundw
        case rel =>
          refine ⟨4, by omega, by go_num, ⟨?_⟩, ⟨hb3⟩⟩
          have e : (headL kb a1 a4 ++ ((putsL a1 a2 a3 l0.length).take 3).flatten) ++ (putF (l0.length : Int) 2).1 = headL kb a1 a4 ++ ((putsL a1 a2 a3 l0.length).take 4).flatten := by simp [putsL]
          rw [← e]; exact ho3
        case measure => simp [intOf]
      · obtain rfl : k = 0 := by omega
        have BK := Aside0.mk (box_kept HBk.out)
        obtain ⟨b0, b1, b2, b3, b4, b5⟩ := b_cells BK.out
        go_wp2_with fail
        have hch := check_len hc
        rw [show ((0 + 1 + 1 + 1 + 1 : Nat) : Int) = 4 from rfl]
        clear BK b0 b1 b2 b3 b4 b5
        go_loopw [5, 11, 13, 14, 15, 66] (fun v5 u11 u13 u14 u15 i66 wr => ∃ k : Nat, k ≤ l0.length ∧ i66 = .int .i64 k ∧ Aside0 (Kd.R (Kd.int .u8) 5 wr (w.alloc (.cells (bcells a0 a1 a2 a3 a4 A0 l0.length c0) 24 (0, 0))).heap.size (fun _ => True) v5 (outs kb a1 a2 a3 a4 l0.length (l0.take k))) ∧ Aside0 (Below (w.alloc (.cells (bcells a0 a1 a2 a3 a4 A0 l0.length c0) 24 (0, 0))).heap.size (w.alloc (.cells (bcells a0 a1 a2 a3 a4 A0 l0.length c0) 24 (0, 0))) wr)) (fun _ _ _ _ _ i66 _ => l0.length - (intOf i66).toNat)
        case atStart => exact ⟨0, by omega, rfl, ⟨by simpa [outs, putsL] using HOk.out⟩, ⟨HBk.out⟩⟩
        case round =>
          clear HOk HBk
          obtain ⟨k, hk, rfl, HO, HB⟩ := hrel
          by_cases hlt : k < l0.length
          · have hl1 : decide ((k : Int) < (l0.length : Int)) = true := by simpa using hlt
            have hat := at_T47 (Kd.C_below HR.out (box_below HB.out)) (k : Int) (by omega) (by omega)
            rw [Int.toNat_natCast] at hat
            obtain ⟨ad, hA, x0, x1, x2⟩ := hat
            have hst := Aside0.mk (outs_step (kb := kb) (p := a1) (e := a2) (s := a3) (t := a4) (n := l0.length) hlt)
            have hsh := outs_short (kb := kb) (p := a1) (e := a2) (s := a3) (t := a4) (n := l0.length) (l := l0.take k) (by rw [List.length_take]; omega)
            have hk1 : k + 1 ≤ l0.length := hlt
            generalize rd_T47 l0 (k : Int) = rec at x0 x1 x2 hst
            generalize outs kb a1 a2 a3 a4 l0.length (l0.take k) = out at HO hsh hst
            subst hA
            have hne : some wr.heap.size ≠ u5.ownBlock := fun e => by have := ((Kd.R_bound HO.out).1 _ e.symm).2.2.1; omega
            go_wp2_with fail
            refine (batch_truth.calls _ 1 _ _ (truth_ev ..)).mono ?_
            rintro e w2 ⟨rfl, hd⟩
            obtain ⟨nd, rfl⟩ := hd.out
            have hbox := blk_drewN (blk_new wr (.cells #[.string rec.f0, .string rec.f1, .bool rec.f2] 47 (0, 0))) nd
            have HO2 := Aside0.mk (Kd.R_drewN (Kd.R_alloc HO.out (.cells #[.string rec.f0, .string rec.f1, .bool rec.f2] 47 (0, 0))) nd)
            have HB2 := Aside0.mk (pw_below_drewN (below_alloc HB.out (.cells #[.string rec.f0, .string rec.f1, .bool rec.f2] 47 (0, 0))) nd)
            generalize ((wr.alloc (.cells #[.string rec.f0, .string rec.f1, .bool rec.f2] 47 (0, 0))).drewN nd) = w2 at HO2 HB2 hbox ⊢
            go_wp2_with (first | ((with_reducible refine gate_dst (N := 74) rfl ?_); refine Kd.R_lit (Kd.int .u8) _ 5 ?hg (N := 74) ?hd (xs := [truthF rec.f2 1]) (inner := [.int .u8 (truthF rec.f2 1)]) (ok := fun _ => True) (okp := fun _ => True) ?hr ?hp (fun _ hk => hk) trivial (Below.refl _ _) (Nat.le_refl _) (by simp) ?_; (case hd => rfl); (case hg => rfl); (case hr => first | (go_simp; done) | (go_simp; rfl)); (case hp => exact (Reps.one (show Kd.M (Kd.int .u8) _ _ _ (truthF rec.f2 1) [.int .u8 (truthF rec.f2 1)] from rfl) (Reps.none _ _))); intro v74 w4 hl4 hb4 hg4 hat4; obtain ⟨A4, c4, rfl⟩ := Kd.R_slice hl4; have HX4 := Aside0.mk (Kd.R_reads' hl4).2.2; have HO4 := Aside0.mk (Kd.R_below HO2.out hb4); have HB4 := Aside0.mk (below_step HB2.out hb4); have hbox4 := blk_below hbox hb4; clear hbox hl4 hb4 hg4 hat4 HO2 HB2) | (refine Kd.R_append_row (Value.int .u8) 0 (w.alloc (.cells (bcells a0 a1 a2 a3 a4 (some ad) l0.length c0) 24 (0, 0))).heap.size rfl (.tmp 70) (.tmp 74) 33 5 (.int .u8 0) 1 rfl Try.underlying33 info5 rfl (by omega) u5 _ _ A4 _ c4 (fun _ => True) rfl rfl (fun _ _ => trivial) HO4.out HX4.out HB4.out (below_size HB4.out) (by first | omega | (simp; omega)) ?_; intro v5a w5 ho5 hb5 hg5 hat5; have hbox5 := blk_grown hbox4 hg5 hne; have k0 : w5.cell? ⟨wr.heap.size, 0, none⟩ = some (.string rec.f0) := (by rw [blk_cell hbox5]; rfl); have k1 : w5.cell? ⟨wr.heap.size, 1, none⟩ = some (.string rec.f1) := (by rw [blk_cell hbox5]; rfl)))
            go_loopw [5, 13, 14, 15, 81] (fun v5 u13 u14 u15 i81 wr => ∃ j : Nat, j ≤ 2 ∧ i81 = .int .i64 j ∧ Aside0 (Kd.R (Kd.int .u8) 5 wr (w.alloc (.cells (bcells a0 a1 a2 a3 a4 (some ad) l0.length c0) 24 (0, 0))).heap.size (fun _ => True) v5 (out ++ [truthF rec.f2 1] ++ (([(textEnc rec.f0).1, (textEnc rec.f1).1] : List (List Int)).take j).flatten)) ∧ Aside0 (Below (w.alloc (.cells (bcells a0 a1 a2 a3 a4 (some ad) l0.length c0) 24 (0, 0))).heap.size (w.alloc (.cells (bcells a0 a1 a2 a3 a4 (some ad) l0.length c0) 24 (0, 0))) wr)) (fun _ _ _ _ i81 _ => 2 - (intOf i81).toNat)
            case atStart => exact ⟨0, by omega, rfl, ⟨by rw [List.take_zero, List.flatten_nil, List.append_nil]; exact ho5⟩, ⟨hb5⟩⟩
            case round =>
              clear HO HB HO4 HB4 HX4 hbox4 hbox5 k0 k1 ho5 hb5 hg5 hat5 x0 x1 x2
              obtain ⟨j, hj, rfl, HO, HB⟩ := hrel
              have t0 := textEnc_short rec.f0
              have t1 := textEnc_short rec.f1
              rcases j with _ | _ | _ | j
              · have hx := srow_at0 rec.f0 rec.f1
                go_wp2_with fail
                refine (wire_Text.calls rec.f0 _ _ _ (text_ev ..)).mono ?_
                rintro e w6 ⟨v0, rfl, hR2, hb2⟩
                obtain ⟨A2, c2, rfl⟩ := Kd.R_slice hR2
                have HX := Aside0.mk (Kd.R_reads' hR2).2.2
                have HO2 := Aside0.mk (Kd.R_below HO.out hb2)
                have HB2 := Aside0.mk (below_step HB.out hb2)
                have hlen : ((out ++ [truthF rec.f2 1] ++ (([(textEnc rec.f0).1, (textEnc rec.f1).1] : List (List Int)).take 0).flatten).length + (textEnc rec.f0).1.length) * 1 ≤ 140737488355328 := by simp; omega
                clear hR2 hb2 HO HB
                go_wp2_with (first | (refine Kd.R_append_row (Value.int .u8) 0 (w.alloc (.cells (bcells a0 a1 a2 a3 a4 (some ad) l0.length c0) 24 (0, 0))).heap.size rfl (.tmp 89) (.tmp 90) 33 5 (.int .u8 0) 1 rfl Try.underlying33 info5 rfl (by omega) u5 _ _ A2 _ c2 (fun _ => True) rfl rfl (fun _ _ => trivial) HO2.out HX.out HB2.out (below_size HB2.out) hlen ?_; intro v1 w7 ho3 hb3 hg3 hat3))
                go_roundw
                case rel =>
                  refine ⟨1, by omega, by go_num, ⟨?_⟩, ⟨hb3⟩⟩
                  have e : (out ++ [truthF rec.f2 1] ++ (([(textEnc rec.f0).1, (textEnc rec.f1).1] : List (List Int)).take 0).flatten) ++ (textEnc rec.f0).1 = out ++ [truthF rec.f2 1] ++ (([(textEnc rec.f0).1, (textEnc rec.f1).1] : List (List Int)).take 1).flatten := by simp
                  rw [← e]; exact ho3
                case measure => simp [intOf]
              · have hx := srow_at1 rec.f0 rec.f1
                go_wp2_with fail
                refine (wire_Text.calls rec.f1 _ _ _ (text_ev ..)).mono ?_
                rintro e w6 ⟨v0, rfl, hR2, hb2⟩
                obtain ⟨A2, c2, rfl⟩ := Kd.R_slice hR2
                have HX := Aside0.mk (Kd.R_reads' hR2).2.2
                have HO2 := Aside0.mk (Kd.R_below HO.out hb2)
                have HB2 := Aside0.mk (below_step HB.out hb2)
                have hlen : ((out ++ [truthF rec.f2 1] ++ (([(textEnc rec.f0).1, (textEnc rec.f1).1] : List (List Int)).take 1).flatten).length + (textEnc rec.f1).1.length) * 1 ≤ 140737488355328 := by simp; omega
                clear hR2 hb2 HO HB
                go_wp2_with (first | (refine Kd.R_append_row (Value.int .u8) 0 (w.alloc (.cells (bcells a0 a1 a2 a3 a4 (some ad) l0.length c0) 24 (0, 0))).heap.size rfl (.tmp 89) (.tmp 90) 33 5 (.int .u8 0) 1 rfl Try.underlying33 info5 rfl (by omega) u5 _ _ A2 _ c2 (fun _ => True) rfl rfl (fun _ _ => trivial) HO2.out HX.out HB2.out (below_size HB2.out) hlen ?_; intro v1 w7 ho3 hb3 hg3 hat3))
                go_roundw
                case rel =>
                  refine ⟨2, by omega, by go_num, ⟨?_⟩, ⟨hb3⟩⟩
                  have e : (out ++ [truthF rec.f2 1] ++ (([(textEnc rec.f0).1, (textEnc rec.f1).1] : List (List Int)).take 1).flatten) ++ (textEnc rec.f1).1 = out ++ [truthF rec.f2 1] ++ (([(textEnc rec.f0).1, (textEnc rec.f1).1] : List (List Int)).take 2).flatten := by simp
                  rw [← e]; exact ho3
                case measure => simp [intOf]
              · go_wp2_with fail
                go_roundw
                case rel =>
                  refine ⟨k + 1, hk1, by go_num, ⟨?_⟩, ⟨HB.out⟩⟩
                  rw [← hst.out]
                  have := HO.out
                  simpa [recB] using this
                case measure => simp [intOf]; omega
              · exact absurd hj (by omega)
          · have hl1 : decide ((k : Int) < (l0.length : Int)) = false := by simpa using hlt
            obtain rfl : k = l0.length := by omega
            rw [List.take_length] at HO
            go_wp2_with fail
            go_ret2
            have e : (encF a0 a1 a2 a3 a4 l0) = (outs kb a1 a2 a3 a4 l0.length l0, 0) := by unfold encF; rw [if_pos hc]; unfold encB outs; rw [HKB.out]
            rw [e]
            exact ⟨_, rfl, Kd.R_lower HO.out (below_size (box_below (Below.refl _ _))), box_below HB.out⟩
  · have hn1 : ((checkF a0 a1 a2 a3 a4 l0) != 0) = true := by simpa using hc
    go_wp2_with fail
    go_ret2
    unfold encF
    rw [if_neg hc]
    exact ⟨_, rfl, Kd.R_nil _ _ _ _ _, box_below HB.out⟩
end Go.Proofs.Ythnmgbmpbhdfcaa.Hand
