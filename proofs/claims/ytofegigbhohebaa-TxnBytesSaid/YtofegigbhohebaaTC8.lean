/- TxnBytes. -/
import Derived.Test.YtofegigbhohebaaTC7
import Derived.Test.YtofegigbhohebaaHLent
namespace Go.Proofs.Ytofegigbhohebaa.Hand
open Go.RowKit Go.Proofs.Ytofegigbhohebaa Go.Proofs.YtofegigbhohebaaW.PrintWords Go.Proofs.YtofegigbhohebaaW.PrintLast
set_option linter.unusedVariables false
set_option linter.unusedSimpArgs false
theorem drawn_self {W W' : World} (d : Drawn0 W W') : Below W.heap.size W W' := drawn_below (Below.refl _ _) d
theorem run_ne33 {x : EvV} (ev : Operand → Value) (o : Oper) (p q : Operand) (ho : o.op = .binOp .neq 33 p q 33) (hx : ev p = .agg (evC x)) (hy : ev q = .agg (evC x)) (w : World) : (execOp ev o).run Try.prog w = .ok (.value (.bool false)) w := by
  have hm : Try.prog.eqGuardType Try.prog.depth 33 = false := by kernel_rfl
  unfold execOp
  simp only [ho, hx, hy, Sem.run_bind, run_eqGuard_agg, hm, Result.andThen_ok, ne33, Sem.run_pure]
--TABS
def TK6 : Bool × List (List Nat × List Nat) := (true, [([], []), ([0], [0]), ([], []), ([2], [2]), ([1, 3], [1, 3]), ([4], [4]), ([5], [5]), ([6, 5, 5], [5, 6]), ([5], [5]), ([7, 8, 5], [5, 7, 8]), ([5, 9], [5, 9]), ([10, 7], [10]), ([11], [11]), ([11], [11]), ([13, 11, 11], [11, 13]), ([12, 14, 11], [11, 12, 14]), ([11, 15], [11, 15]), ([16, 14], [16]), ([17], [17]), ([18, 17, 17], [17, 18]), ([17], [17]), ([19, 20, 17], [17, 19, 20]), ([17, 21], [17, 21]), ([22, 19], [22]), ([23], [23]), ([23], [23]), ([24, 25, 23, 23], [23, 24, 25]), ([26, 23], [23, 26]), ([23, 27], [23, 27])])
def BK6 : List Nat := [0, 1, 0, 4, 15, 31, 63, 127, 63, 511, 1023, 2047, 4095, 4095, 12287, 32767, 65535, 131071, 262143, 524287, 262143, 2097151, 4194303, 8388607, 16777215, 16777215, 67108863, 134217727, 268435455]
theorem tabK6 : rtab .any (opsOf Try.f9 6) = TK6 := by kernel_rfl
theorem bitsK6 : waitsOk TK6.2 BK6 = true := by kernel_rfl
def TK10 : Bool × List (List Nat × List Nat) := (true, [([], []), ([0], [0]), ([1], [1]), ([2, 1], [2]), ([3], [3]), ([3], [3]), ([5, 3, 3], [3, 5]), ([4, 6, 3], [3, 4, 6]), ([3, 7], [3, 7])])
def BK10 : List Nat := [0, 1, 3, 7, 15, 15, 47, 127, 255]
theorem tabK10 : rtab .any (opsOf Try.f9 10) = TK10 := by kernel_rfl
theorem bitsK10 : waitsOk TK10.2 BK10 = true := by kernel_rfl
set_option maxHeartbeats 6400000 in
set_option maxRecDepth 100000 in
theorem bytes_c (x : EvV) (A : Option Addr) (c : Nat) (l : List Int) (w : World) (hr : Kd.C (Kd.int .u8) w A l.length l) (hc : l.length ≤ c) (hb : isBytes l) (hlen : l.length ≤ 140737488351232) : Calls Try.prog 9 #[evE x, .slice A l.length c] w fun e w' => e = .returned (.bool true) ∧ Below w.heap.size w w' := by
  have HL := Aside0.mk hr
  have HLE := Aside0.mk (fun (V : World) (h : Below w.heap.size w V) => Lent_calls A c l V (Kd.C_below hr h) hc hlen)
  have HD := Aside0.mk (fun (V : World) (h : Below w.heap.size w V) => refGetEvent_c A c l V (Kd.C_below hr h) hc hb (by omega))
  have HO := Aside0.mk (fun (A' : Option Addr) (c' : Nat) (V : World) (h : Kd.C (Kd.int .u8) V A' l.length l) (hc' : l.length ≤ c') => getEvent_c A' c' l V h hc' hb)
  have HP := Aside0.mk (fun (V : World) => putEvent_c x V)
  have HPR := Aside0.mk (fun (V : World) => refPut_c x V)
  have HGE := Aside0.mk (fun (h : rightE x = true) => get_put h)
  obtain ⟨⟨X, E⟩, hg⟩ : ∃ q, getEF l = q := ⟨_, rfl⟩
  rw [hg] at HO HD
  clear hg hr hlen
  have HB0 := Aside0.mk (below_alloc (Below.refl w.heap.size w) (.cells (evC x) 35 (0, 0)))
  have HX0 := Aside0.mk (heap_alloc_new w (.cells (evC x) 35 (0, 0)))
  show Calls Try.prog 9 #[.agg (evC x), .slice A l.length c] w _
  obtain ⟨⟨pa, pe⟩, hpe⟩ : ∃ q, putEF x = q := ⟨_, rfl⟩
  rw [hpe] at HP HPR
  go_enter Try.func9, Try.ntmps9
  go_upto_region 6 with (first
    | (go_at_call 24; (refine (HLE.out _ HB0.out).mono ?_); rintro e w1 ⟨A1, c1, rfl, hc1, hC1, hb1⟩; have HC1 := Aside0.mk hC1; have HN1 := Aside0.mk hc1; have HB1 := Aside0.mk (below_step HB0.out hb1); have HX1 := Aside0.mk (blk_below HX0.out hb1); clear hC1 hc1 hb1)
    | (refine gate_ (.load 35 (.tmp 2)) rfl ?_; refine wpList_load_row rfl 35 (.tmp 2) rfl w.heap.size rfl 35 (evC x) (0, 0) _ HX1.out Try.underlying35 rfl info35 ?_)
    | (go_at_call 16; refine (own_c x _).mono ?_; rintro e w2 ⟨rfl, hb2⟩; have HB2 := Aside0.mk (below_step HB1.out hb2); have HX2 := Aside0.mk (blk_below HX1.out hb2); have HC2 := Aside0.mk (Kd.C_below HC1.out hb2); clear hb2)
    | (go_at_call 25; refine (HP.out _).mono ?_; rintro e w3 ⟨v3, rfl, hR3, hb3⟩; obtain ⟨A3, c3, rfl⟩ := Kd.R_slice hR3; have HP3 := Aside0.mk (Kd.R_reads' hR3).2.2; have HPN := Aside0.mk (Kd.R_reads' hR3).2.1; have HB3 := Aside0.mk (below_step HB2.out hb3); have HX3 := Aside0.mk (blk_below HX2.out hb3); have HC3 := Aside0.mk (Kd.C_below HC2.out hb3); clear hb3 hR3)
    | (refine gate_ (.load 35 (.tmp 2)) rfl ?_; refine wpList_load_row rfl 35 (.tmp 2) rfl w.heap.size rfl 35 (evC x) (0, 0) _ HX3.out Try.underlying35 rfl info35 ?_)
    | (go_at_call 26; refine (HPR.out _).mono ?_; rintro e w4 ⟨v4, rfl, hR4, hb4⟩; obtain ⟨A4, c4, rfl⟩ := Kd.R_slice hR4; have HP4 := Aside0.mk (Kd.C_below HP3.out hb4); have HQ4 := Aside0.mk (Kd.R_reads' hR4).2.2; have HB4 := Aside0.mk (below_step HB3.out hb4); have HX4 := Aside0.mk (blk_below HX3.out hb4); have HC4 := Aside0.mk (Kd.C_below HC3.out hb4); clear hb4 hR4)
    | (go_at_call 27; refine (HO.out A1 c1 _ (C_lent HC4.out) (by have := HN1.out; omega)).mono ?_; rintro e w5 ⟨rfl, hb5⟩; have HGL := Aside0.mk (below_step HB4.out hb5).size; obtain ⟨hsb, hsr⟩ := stored_ev w5 33 (evC X); have hbb := below_step hb5 hsb; have HP5 := Aside0.mk (Kd.C_below HP4.out hbb); have HQ5 := Aside0.mk (Kd.C_below HQ4.out hbb); have HB5 := Aside0.mk (below_step HB4.out hbb); have HX5 := Aside0.mk (blk_below HX4.out hbb); have HC5 := Aside0.mk (Kd.C_below HC4.out hbb); have HY5 := Aside0.mk hsr; clear hb5 hsb hsr hbb)
    | (refine gate_ (.store 33 (.tmp 10) (.tmp 30)) rfl ?_; refine wpList_store_row rfl 33 (.tmp 10) (.tmp 30) rfl w5.heap.size (evC X) rfl rfl 33 xZ (heap_alloc_new w5 (.cells xZ 33 (0, 0))) info33 rfl (evC_one X) ?_; generalize hG5 : w5.heap.size = G5 at HY5 ⊢; change wpList _ _ _ _ _ ((w5.alloc (.cells xZ 33 (0, 0))).setRow G5 (evC X)); generalize hw5 : (w5.alloc (.cells xZ 33 (0, 0))).setRow G5 (evC X) = w6 at HY5 ⊢; rw [hG5] at HGL; rw [hG5, hw5] at HB5 HP5 HQ5 HX5 HC5; clear hw5 hG5)
    | (go_at_call 28; refine (HD.out _ HB5.out).mono ?_; rintro e w7 ⟨rfl, hb7⟩; obtain ⟨hsb, hsr⟩ := stored_ev w7 35 (evC X); have hbb := below_step hb7 hsb; have HP7 := Aside0.mk (Kd.C_below HP5.out hbb); have HQ7 := Aside0.mk (Kd.C_below HQ5.out hbb); have HB7 := Aside0.mk (below_step HB5.out hbb); have HX7 := Aside0.mk (blk_below HX5.out hbb); have HC7 := Aside0.mk (Kd.C_below HC5.out hbb); have HY7 := Aside0.mk (blk_below HY5.out hbb); have HZ7 := Aside0.mk hsr; clear hb7 hsb hsr hbb)
    | (refine gate_ (.store 35 (.tmp 12) (.tmp 35)) rfl ?_; refine wpList_store_row rfl 35 (.tmp 12) (.tmp 35) rfl w7.heap.size (evC X) rfl rfl 35 xZ (heap_alloc_new w7 (.cells xZ 35 (0, 0))) info35 rfl (evC_one X) ?_; generalize hG7 : w7.heap.size = G7 at HZ7 ⊢; change wpList _ _ _ _ _ ((w7.alloc (.cells xZ 35 (0, 0))).setRow G7 (evC X)); generalize hw7 : (w7.alloc (.cells xZ 35 (0, 0))).setRow G7 (evC X) = w8 at HZ7 ⊢; rw [hG7, hw7] at HB7 HP7 HQ7 HX7 HC7 HY7; clear hw7 hG7))
  have hdr := below_drew (Below.refl w8.heap.size w8)
  have HX9 := Aside0.mk (blk_below HX7.out hdr)
  have HY9 := Aside0.mk (blk_below HY7.out hdr)
  have HZ9 := Aside0.mk (blk_below HZ7.out hdr)
  have HP9 := Aside0.mk (Kd.C_below HP7.out hdr)
  have HQ9 := Aside0.mk (Kd.C_below HQ7.out hdr)
  have HC9 := Aside0.mk (Kd.C_below HC7.out hdr)
  have HB9 := Aside0.mk (below_step HB7.out hdr)
  clear hdr
  refine start_ (n := 29) (S := fun w' => Kd.C (Kd.int .u8) w' A3 pa.length pa ∧ Kd.C (Kd.int .u8) w' A4 pa.length pa ∧ w'.heap[G5]? = some (.cells (evC X) 33 (0, 0)) ∧ w'.heap[G7]? = some (.cells (evC X) 35 (0, 0))) (ds := []) #[false, false, false, false, false, false, false, false, false, false, false, false, false, false, false, false, false, false, false, false, false, false, false, false, false, false, false, false, false] (by kernel_rfl) rfl rfl ⟨HP9.out, HQ9.out, HY9.out, HZ9.out⟩ (fun hHeld => ?_); refine with_tabW tabK6 bitsK6 (fun HT_ HW_ => ?_)
  generalize w8.drew = w9 at HX9 HY9 HZ9 HP9 HQ9 HC9 HB9 hHeld ⊢
  refine pure_ (i := 0) (N := (some 37)) (v := ?_) (a' := ?_) #[true, false, false, false, false, false, false, false, false, false, false, false, false, false, false, false, false, false, false, false, false, false, false, false, false, false, false, false, false] rfl rfl (any_of HT_.out (by kernel_rfl)) (fun _ _ _ h => h) (Or.inl ⟨by rfl, ?_⟩) ?_ ?_
  rotate_left
  · intro w'
    go_simp
    with_reducible rfl
  rotate_left
  · simp only [Act.put, List.setIfInBounds_toArray, List.set_cons_zero, List.set_cons_succ, i64_w, i32_w]
    rfl
  refine take_ (i := 1) (N := (some 38)) (v := .string (strOfNums pa)) #[true, true, false, false, false, false, false, false, false, false, false, false, false, false, false, false, false, false, false, false, false, false, false, false, false, false, false, false, false] rfl rfl (take_ofW HT_.out HW_.out (by kernel_rfl)) (fun _ _ _ h => h) (Or.inl ⟨by rfl, fun w' s0 => run_conv _ _ (.tmp 37) rfl rfl (conv_c c3 s0.1)⟩) hHeld rfl ?_
  refine norm_ (a' := ?_) ?_ ?_
  rotate_left
  · show Act.put _ (some 38) _ = _
    simp only [Act.put, List.setIfInBounds_toArray, List.set_cons_zero, List.set_cons_succ, i64_w, i32_w]
    rfl
  refine pure_ (i := 2) (N := (some 39)) (v := ?_) (a' := ?_) #[true, true, true, false, false, false, false, false, false, false, false, false, false, false, false, false, false, false, false, false, false, false, false, false, false, false, false, false, false] rfl rfl (any_of HT_.out (by kernel_rfl)) (fun _ _ _ h => h) (Or.inl ⟨by rfl, ?_⟩) ?_ ?_
  rotate_left
  · intro w'
    go_simp
    with_reducible rfl
  rotate_left
  · simp only [Act.put, List.setIfInBounds_toArray, List.set_cons_zero, List.set_cons_succ, i64_w, i32_w]
    rfl
  refine take_ (i := 3) (N := (some 40)) (v := .string (strOfNums pa)) #[true, true, true, true, false, false, false, false, false, false, false, false, false, false, false, false, false, false, false, false, false, false, false, false, false, false, false, false, false] rfl rfl (take_ofW HT_.out HW_.out (by kernel_rfl)) (fun _ _ _ h => h) (Or.inl ⟨by rfl, fun w' s0 => run_conv _ _ (.tmp 39) rfl rfl (conv_c c4 s0.2.1)⟩) hHeld rfl ?_
  refine norm_ (a' := ?_) ?_ ?_
  rotate_left
  · show Act.put _ (some 40) _ = _
    simp only [Act.put, List.setIfInBounds_toArray, List.set_cons_zero, List.set_cons_succ, i64_w, i32_w]
    rfl
  refine pure_ (i := 4) (N := (some 41)) (v := ?_) (a' := ?_) #[true, true, true, true, true, false, false, false, false, false, false, false, false, false, false, false, false, false, false, false, false, false, false, false, false, false, false, false, false] rfl rfl (any_of HT_.out (by kernel_rfl)) (fun _ _ _ h => h) (Or.inl ⟨by rfl, ?_⟩) ?_ ?_
  rotate_left
  · intro w'
    go_simp
    with_reducible rfl
  rotate_left
  · simp only [Act.put, List.setIfInBounds_toArray, List.set_cons_zero, List.set_cons_succ, i64_w, i32_w]
    rfl
  refine pure_ (i := 5) (N := (some 42)) (v := ?_) (a' := ?_) #[true, true, true, true, true, true, false, false, false, false, false, false, false, false, false, false, false, false, false, false, false, false, false, false, false, false, false, false, false] rfl rfl (any_of HT_.out (by kernel_rfl)) (fun _ _ _ h => h) (Or.inl ⟨by rfl, ?_⟩) ?_ ?_
  rotate_left
  · intro w'
    go_simp
    with_reducible rfl
  rotate_left
  · simp only [Act.put, List.setIfInBounds_toArray, List.set_cons_zero, List.set_cons_succ, i64_w, i32_w]
    rfl
  refine pure_ (i := 6) (N := (some 43)) (v := ?_) (a' := ?_) #[true, true, true, true, true, true, true, false, false, false, false, false, false, false, false, false, false, false, false, false, false, false, false, false, false, false, false, false, false] rfl rfl (any_of HT_.out (by kernel_rfl)) (fun _ _ _ h => h) (Or.inl ⟨by rfl, ?_⟩) ?_ ?_
  rotate_left
  · intro w'
    go_simp
    with_reducible rfl
  rotate_left
  · simp only [Act.put, List.setIfInBounds_toArray, List.set_cons_zero, List.set_cons_succ, i64_w, i32_w]
    rfl
  refine pure_ (i := 8) (N := (some 45)) (v := ?_) (a' := ?_) #[true, true, true, true, true, true, true, false, true, false, false, false, false, false, false, false, false, false, false, false, false, false, false, false, false, false, false, false, false] rfl rfl (any_of HT_.out (by kernel_rfl)) (fun _ _ _ h => h) (Or.inl ⟨by rfl, ?_⟩) ?_ ?_
  rotate_left
  · intro w'
    go_simp
    with_reducible rfl
  rotate_left
  · simp only [Act.put, List.setIfInBounds_toArray, List.set_cons_zero, List.set_cons_succ, i64_w, i32_w]
    rfl
  refine one_ (i := 7) (N := (some 44)) #[true, true, true, true, true, true, true, true, true, false, false, false, false, false, false, false, false, false, false, false, false, false, false, false, false, false, false, false, false] rfl rfl (one_of HT_.out (by kernel_rfl)) (by decide) (fun K hK => ?_)
  refine goes_ Try.func19 (by kernel_rfl) rfl #[.int .i64 pe] (by rfl) rfl rfl (by (try simp only [List.map_toArray, List.map_cons, List.map_nil]); first | done | rfl) ?_
  refine (num_c pe _).mono ?_
  rintro e w10 ⟨rfl, rfl⟩
  refine ⟨_, rfl, ?_⟩
  refine hK.out _ _ hHeld (fun hHeld => ?_)
  clear hK K
  refine norm_ (a' := ?_) ?_ ?_
  rotate_left
  · show Act.put _ (some 44) _ = _
    simp only [Act.put, List.setIfInBounds_toArray, List.set_cons_zero, List.set_cons_succ, i64_w, i32_w]
    rfl
  refine pure_ (i := 9) (N := (some 46)) (v := ?_) (a' := ?_) #[true, true, true, true, true, true, true, true, true, true, false, false, false, false, false, false, false, false, false, false, false, false, false, false, false, false, false, false, false] rfl rfl (any_of HT_.out (by kernel_rfl)) (fun _ _ _ h => h) (Or.inl ⟨by rfl, ?_⟩) ?_ ?_
  rotate_left
  · intro w'
    go_simp
    with_reducible rfl
  rotate_left
  · simp only [Act.put, List.setIfInBounds_toArray, List.set_cons_zero, List.set_cons_succ, i64_w, i32_w]
    rfl
  refine pure_ (i := 10) (N := (some 47)) (v := ?_) (a' := ?_) #[true, true, true, true, true, true, true, true, true, true, true, false, false, false, false, false, false, false, false, false, false, false, false, false, false, false, false, false, false] rfl rfl (any_of HT_.out (by kernel_rfl)) (fun _ _ _ h => h) (Or.inl ⟨by rfl, ?_⟩) ?_ ?_
  rotate_left
  · intro w'
    go_simp
    with_reducible rfl
  rotate_left
  · simp only [Act.put, List.setIfInBounds_toArray, List.set_cons_zero, List.set_cons_succ, i64_w, i32_w]
    rfl
  refine pure_ (i := 11) (N := (some 48)) (v := ?_) (a' := ?_) #[true, true, true, true, true, true, true, true, true, true, true, true, false, false, false, false, false, false, false, false, false, false, false, false, false, false, false, false, false] rfl rfl (any_of HT_.out (by kernel_rfl)) (fun _ _ _ h => h) (Or.inl ⟨by rfl, ?_⟩) ?_ ?_
  rotate_left
  · intro w'
    go_simp
    with_reducible rfl
  rotate_left
  · simp only [Act.put, List.setIfInBounds_toArray, List.set_cons_zero, List.set_cons_succ, i64_w, i32_w]
    rfl
  refine take_ (i := 12) (N := (some 49)) (v := .agg (evC X)) #[true, true, true, true, true, true, true, true, true, true, true, true, true, false, false, false, false, false, false, false, false, false, false, false, false, false, false, false, false] rfl rfl (take_ofW HT_.out HW_.out (by kernel_rfl)) (fun _ _ _ h => h) (Or.inl ⟨by rfl, fun w' s0 => run_load33 _ _ (.tmp 10) rfl rfl s0.2.2.1⟩) hHeld rfl ?_
  refine norm_ (a' := ?_) ?_ ?_
  rotate_left
  · show Act.put _ (some 49) _ = _
    simp only [Act.put, List.setIfInBounds_toArray, List.set_cons_zero, List.set_cons_succ, i64_w, i32_w]
    rfl
  refine take_ (i := 13) (N := (some 50)) (v := .agg (evC X)) #[true, true, true, true, true, true, true, true, true, true, true, true, true, true, false, false, false, false, false, false, false, false, false, false, false, false, false, false, false] rfl rfl (take_ofW HT_.out HW_.out (by kernel_rfl)) (fun _ _ _ h => h) (Or.inl ⟨by rfl, fun w' s0 => run_load35 _ _ (.tmp 12) rfl rfl s0.2.2.2⟩) hHeld rfl ?_
  refine norm_ (a' := ?_) ?_ ?_
  rotate_left
  · show Act.put _ (some 50) _ = _
    simp only [Act.put, List.setIfInBounds_toArray, List.set_cons_zero, List.set_cons_succ, i64_w, i32_w]
    rfl
  refine one_ (i := 14) (N := (some 51)) #[true, true, true, true, true, true, true, true, true, true, true, true, true, true, true, false, false, false, false, false, false, false, false, false, false, false, false, false, false] rfl rfl (one_of HT_.out (by kernel_rfl)) (by decide) (fun K hK => ?_)
  refine goes_ Try.func16 (by kernel_rfl) rfl #[.agg (evC X)] (by rfl) rfl rfl (by (try simp only [List.map_toArray, List.map_cons, List.map_nil]); first | done | rfl) ?_
  refine (own_c X _).mono ?_
  rintro e w10 ⟨rfl, hb10⟩
  have HX10 := Aside0.mk (blk_below HX9.out hb10)
  have HY10 := Aside0.mk (blk_below HY9.out hb10)
  have HZ10 := Aside0.mk (blk_below HZ9.out hb10)
  have HP10 := Aside0.mk (Kd.C_below HP9.out hb10)
  have HQ10 := Aside0.mk (Kd.C_below HQ9.out hb10)
  have HC10 := Aside0.mk (Kd.C_below HC9.out hb10)
  have HB10 := Aside0.mk (below_step HB9.out hb10)
  clear hb10
  refine ⟨_, rfl, ?_⟩
  refine hK.out _ _ ⟨HP10.out, HQ10.out, HY10.out, HZ10.out⟩ (fun hHeld => ?_)
  clear hK K
  refine norm_ (a' := ?_) ?_ ?_
  rotate_left
  · show Act.put _ (some 51) _ = _
    simp only [Act.put, List.setIfInBounds_toArray, List.set_cons_zero, List.set_cons_succ, i64_w, i32_w]
    rfl
  refine pure_ (i := 15) (N := (some 52)) (v := .bool false) #[true, true, true, true, true, true, true, true, true, true, true, true, true, true, true, true, false, false, false, false, false, false, false, false, false, false, false, false, false] rfl rfl (any_of HT_.out (by kernel_rfl)) (fun _ _ _ h => h) (Or.inl ⟨by rfl, fun w' => run_ne33 _ _ (.tmp 49) (.tmp 51) rfl rfl rfl w'⟩) rfl ?_
  refine norm_ (a' := ?_) ?_ ?_
  rotate_left
  · show Act.put _ (some 52) _ = _
    simp only [Act.put, List.setIfInBounds_toArray, List.set_cons_zero, List.set_cons_succ, i64_w, i32_w]
    rfl
  refine pure_ (i := 16) (N := (some 53)) (v := ?_) (a' := ?_) #[true, true, true, true, true, true, true, true, true, true, true, true, true, true, true, true, true, false, false, false, false, false, false, false, false, false, false, false, false] rfl rfl (any_of HT_.out (by kernel_rfl)) (fun _ _ _ h => h) (Or.inl ⟨by rfl, ?_⟩) ?_ ?_
  rotate_left
  · intro w'
    go_simp
    with_reducible rfl
  rotate_left
  · simp only [Act.put, List.setIfInBounds_toArray, List.set_cons_zero, List.set_cons_succ, i64_w, i32_w]
    rfl
  refine pure_ (i := 17) (N := (some 54)) (v := ?_) (a' := ?_) #[true, true, true, true, true, true, true, true, true, true, true, true, true, true, true, true, true, true, false, false, false, false, false, false, false, false, false, false, false] rfl rfl (any_of HT_.out (by kernel_rfl)) (fun _ _ _ h => h) (Or.inl ⟨by rfl, ?_⟩) ?_ ?_
  rotate_left
  · intro w'
    go_simp
    with_reducible rfl
  rotate_left
  · simp only [Act.put, List.setIfInBounds_toArray, List.set_cons_zero, List.set_cons_succ, i64_w, i32_w]
    rfl
  refine pure_ (i := 18) (N := (some 55)) (v := ?_) (a' := ?_) #[true, true, true, true, true, true, true, true, true, true, true, true, true, true, true, true, true, true, true, false, false, false, false, false, false, false, false, false, false] rfl rfl (any_of HT_.out (by kernel_rfl)) (fun _ _ _ h => h) (Or.inl ⟨by rfl, ?_⟩) ?_ ?_
  rotate_left
  · intro w'
    go_simp
    with_reducible rfl
  rotate_left
  · simp only [Act.put, List.setIfInBounds_toArray, List.set_cons_zero, List.set_cons_succ, i64_w, i32_w]
    rfl
  refine pure_ (i := 20) (N := (some 57)) (v := ?_) (a' := ?_) #[true, true, true, true, true, true, true, true, true, true, true, true, true, true, true, true, true, true, true, false, true, false, false, false, false, false, false, false, false] rfl rfl (any_of HT_.out (by kernel_rfl)) (fun _ _ _ h => h) (Or.inl ⟨by rfl, ?_⟩) ?_ ?_
  rotate_left
  · intro w'
    go_simp
    with_reducible rfl
  rotate_left
  · simp only [Act.put, List.setIfInBounds_toArray, List.set_cons_zero, List.set_cons_succ, i64_w, i32_w]
    rfl
  refine one_ (i := 19) (N := (some 56)) #[true, true, true, true, true, true, true, true, true, true, true, true, true, true, true, true, true, true, true, true, true, false, false, false, false, false, false, false, false] rfl rfl (one_of HT_.out (by kernel_rfl)) (by decide) (fun K hK => ?_)
  refine goes_ Try.func19 (by kernel_rfl) rfl #[.int .i64 E] (by rfl) rfl rfl (by (try simp only [List.map_toArray, List.map_cons, List.map_nil]); first | done | rfl) ?_
  refine (num_c E _).mono ?_
  rintro e w11 ⟨rfl, rfl⟩
  refine ⟨_, rfl, ?_⟩
  refine hK.out _ _ hHeld (fun hHeld => ?_)
  clear hK K
  refine norm_ (a' := ?_) ?_ ?_
  rotate_left
  · show Act.put _ (some 56) _ = _
    simp only [Act.put, List.setIfInBounds_toArray, List.set_cons_zero, List.set_cons_succ, i64_w, i32_w]
    rfl
  refine pure_ (i := 21) (N := (some 58)) (v := ?_) (a' := ?_) #[true, true, true, true, true, true, true, true, true, true, true, true, true, true, true, true, true, true, true, true, true, true, false, false, false, false, false, false, false] rfl rfl (any_of HT_.out (by kernel_rfl)) (fun _ _ _ h => h) (Or.inl ⟨by rfl, ?_⟩) ?_ ?_
  rotate_left
  · intro w'
    go_simp
    with_reducible rfl
  rotate_left
  · simp only [Act.put, List.setIfInBounds_toArray, List.set_cons_zero, List.set_cons_succ, i64_w, i32_w]
    rfl
  refine pure_ (i := 22) (N := (some 59)) (v := ?_) (a' := ?_) #[true, true, true, true, true, true, true, true, true, true, true, true, true, true, true, true, true, true, true, true, true, true, true, false, false, false, false, false, false] rfl rfl (any_of HT_.out (by kernel_rfl)) (fun _ _ _ h => h) (Or.inl ⟨by rfl, ?_⟩) ?_ ?_
  rotate_left
  · intro w'
    go_simp
    with_reducible rfl
  rotate_left
  · simp only [Act.put, List.setIfInBounds_toArray, List.set_cons_zero, List.set_cons_succ, i64_w, i32_w]
    rfl
  refine pure_ (i := 23) (N := (some 60)) (v := ?_) (a' := ?_) #[true, true, true, true, true, true, true, true, true, true, true, true, true, true, true, true, true, true, true, true, true, true, true, true, false, false, false, false, false] rfl rfl (any_of HT_.out (by kernel_rfl)) (fun _ _ _ h => h) (Or.inl ⟨by rfl, ?_⟩) ?_ ?_
  rotate_left
  · intro w'
    go_simp
    with_reducible rfl
  rotate_left
  · simp only [Act.put, List.setIfInBounds_toArray, List.set_cons_zero, List.set_cons_succ, i64_w, i32_w]
    rfl
  refine pure_ (i := 24) (N := (some 61)) (v := ?_) (a' := ?_) #[true, true, true, true, true, true, true, true, true, true, true, true, true, true, true, true, true, true, true, true, true, true, true, true, true, false, false, false, false] rfl rfl (any_of HT_.out (by kernel_rfl)) (fun _ _ _ h => h) (Or.inl ⟨by rfl, ?_⟩) ?_ ?_
  rotate_left
  · intro w'
    go_simp
    with_reducible rfl
  rotate_left
  · simp only [Act.put, List.setIfInBounds_toArray, List.set_cons_zero, List.set_cons_succ, i64_w, i32_w]
    rfl
  refine pure_ (i := 25) (N := (some 62)) (v := ?_) (a' := ?_) #[true, true, true, true, true, true, true, true, true, true, true, true, true, true, true, true, true, true, true, true, true, true, true, true, true, true, false, false, false] rfl rfl (any_of HT_.out (by kernel_rfl)) (fun _ _ _ h => h) (Or.inl ⟨by rfl, ?_⟩) ?_ ?_
  rotate_left
  · intro w'
    go_simp
    with_reducible rfl
  rotate_left
  · simp only [Act.put, List.setIfInBounds_toArray, List.set_cons_zero, List.set_cons_succ, i64_w, i32_w]
    rfl
  refine one_ (i := 26) (N := (some 63)) #[true, true, true, true, true, true, true, true, true, true, true, true, true, true, true, true, true, true, true, true, true, true, true, true, true, true, true, false, false] rfl rfl (one_of HT_.out (by kernel_rfl)) (by decide) (fun K hK => ?_)
  refine goes_ Try.func29 (by kernel_rfl) rfl #[.slice A1 l.length c1, .slice A l.length c] (by rfl) rfl rfl (by (try simp only [List.map_toArray, List.map_cons, List.map_nil]); first | done | rfl) ?_
  refine (Stays_calls A1 c1 A c l _ HC10.out HN1.out (Kd.C_below HL.out HB10.out)).mono ?_
  rintro e w12 ⟨rfl, hd12⟩
  have hb12 := drawn_self hd12
  have HX12 := Aside0.mk (blk_below HX10.out hb12)
  have HY12 := Aside0.mk (blk_below HY10.out hb12)
  have HZ12 := Aside0.mk (blk_below HZ10.out hb12)
  have HP12 := Aside0.mk (Kd.C_below HP10.out hb12)
  have HQ12 := Aside0.mk (Kd.C_below HQ10.out hb12)
  have HB12 := Aside0.mk (below_step HB10.out hb12)
  clear hd12 hb12
  refine ⟨_, rfl, ?_⟩
  refine hK.out _ _ ⟨HP12.out, HQ12.out, HY12.out, HZ12.out⟩ (fun hHeld => ?_)
  clear hK K
  refine norm_ (a' := ?_) ?_ ?_
  rotate_left
  · show Act.put _ (some 63) _ = _
    simp only [Act.put, List.setIfInBounds_toArray, List.set_cons_zero, List.set_cons_succ, i64_w, i32_w]
    rfl
  refine pure_ (i := 27) (N := (some 64)) (v := ?_) (a' := ?_) #[true, true, true, true, true, true, true, true, true, true, true, true, true, true, true, true, true, true, true, true, true, true, true, true, true, true, true, true, false] rfl rfl (any_of HT_.out (by kernel_rfl)) (fun _ _ _ h => h) (Or.inl ⟨by rfl, ?_⟩) ?_ ?_
  rotate_left
  · intro w'
    go_simp
    with_reducible rfl
  rotate_left
  · simp only [Act.put, List.setIfInBounds_toArray, List.set_cons_zero, List.set_cons_succ, i64_w, i32_w]
    rfl
  refine pure_ (i := 28) (N := (some 65)) (v := ?_) (a' := ?_) #[true, true, true, true, true, true, true, true, true, true, true, true, true, true, true, true, true, true, true, true, true, true, true, true, true, true, true, true, true] rfl rfl (any_of HT_.out (by kernel_rfl)) (fun _ _ _ h => h) (Or.inl ⟨by rfl, ?_⟩) ?_ ?_
  rotate_left
  · intro w'
    go_simp
    with_reducible rfl
  rotate_left
  · simp only [Act.put, List.setIfInBounds_toArray, List.set_cons_zero, List.set_cons_succ, i64_w, i32_w]
    rfl
  refine done_ (done_of HT_.out (by kernel_rfl)) ?_
  clear hHeld HT_ HW_
  have HNU := Aside0.mk (fun (W : World) => num_c pe W)
  by_cases hrx : rightE x = true
  · have hpp : (pa, pe) = (encE x, 0) := by rw [← hpe]; unfold putEF; rw [if_pos hrx]
    obtain ⟨rfl, rfl⟩ := Prod.mk.inj hpp
    have HG0 := HGE.out hrx
    have HGX := Aside0.mk (fun (V : World) (h : Kd.C (Kd.int .u8) V A3 (encE x).length (encE x)) => getEvent_c A3 c3 (encE x) V h HPN.out ((isB_iff _).1 (enc_isB hrx)))
    rw [HG0] at HGX
    clear HG0 hpp hpe
    go_upto_region 10 with (first
      | (go_at_call 19; refine (HNU.out _).mono ?_; rintro e w13 ⟨rfl, rfl⟩)
      | (go_at_call 27; refine (HGX.out _ HP12.out).mono ?_; rintro e w13 ⟨rfl, hb13⟩; have HX13 := Aside0.mk (blk_below HX12.out hb13); have HY13 := Aside0.mk (blk_below HY12.out hb13); have HB13 := Aside0.mk (below_step HB12.out hb13); clear hb13)
      | (refine gate_ (.store 33 (.tmp 10) (.tmp 72)) rfl ?_; refine wpList_store_row rfl 33 (.tmp 10) (.tmp 72) rfl G5 (evC x) rfl rfl 33 (evC X) HY13.out info33 rfl (evC_one x) ?_))
    have hne : w.heap.size ≠ G5 := fun e => by
      have h1 := HX13.out
      rw [e, HY13.out] at h1
      injection h1 with h1
      injection h1 with h1 h2
      exact absurd h2 (by decide)
    have HX14 := Aside0.mk ((setRow_other w13 G5 w.heap.size (evC x) hne).trans HX13.out)
    have HY14 := Aside0.mk (setRow_heap w13 G5 (evC X) (evC x) 33 _ HY13.out)
    have HB14 := Aside0.mk (bel_setRow2 HB13.out HGL.out (evC x))
    clear hne
    generalize w13.setRow G5 (evC x) = w14 at HX14 HY14 HB14 ⊢
    have hdr := below_drew (Below.refl w14.heap.size w14)
    have HX15 := Aside0.mk (blk_below HX14.out hdr)
    have HY15 := Aside0.mk (blk_below HY14.out hdr)
    have HB15 := Aside0.mk (below_step HB14.out hdr)
    clear hdr
    refine start_ (n := 9) (S := fun w' => w'.heap[G5]? = some (.cells (evC x) 33 (0, 0)) ∧ w'.heap[w.heap.size]? = some (.cells (evC x) 35 (0, 0))) (ds := []) #[false, false, false, false, false, false, false, false, false] (by kernel_rfl) rfl rfl ⟨HY15.out, HX15.out⟩ (fun hHeld => ?_); refine with_tabW tabK10 bitsK10 (fun HT_ HW_ => ?_)
    generalize w14.drew = w15 at HX15 HY15 HB15 hHeld ⊢
    refine pure_ (i := 0) (N := (some 74)) (v := ?_) (a' := ?_) #[true, false, false, false, false, false, false, false, false] rfl rfl (any_of HT_.out (by kernel_rfl)) (fun _ _ _ h => h) (Or.inl ⟨by rfl, ?_⟩) ?_ ?_
    rotate_left
    · intro w'
      go_simp
      with_reducible rfl
    rotate_left
    · simp only [Act.put, List.setIfInBounds_toArray, List.set_cons_zero, List.set_cons_succ, i64_w, i32_w]
      rfl
    refine one_ (i := 1) (N := (some 75)) #[true, true, false, false, false, false, false, false, false] rfl rfl (one_of HT_.out (by kernel_rfl)) (by decide) (fun K hK => ?_)
    refine goes_ Try.func19 (by kernel_rfl) rfl #[.int .i64 0] (by rfl) rfl rfl (by (try simp only [List.map_toArray, List.map_cons, List.map_nil]); first | done | rfl) ?_
    refine (num_c 0 _).mono ?_
    rintro e w16 ⟨rfl, rfl⟩
    refine ⟨_, rfl, ?_⟩
    refine hK.out _ _ hHeld (fun hHeld => ?_)
    clear hK K
    refine norm_ (a' := ?_) ?_ ?_
    rotate_left
    · show Act.put _ (some 75) _ = _
      simp only [Act.put, List.setIfInBounds_toArray, List.set_cons_zero, List.set_cons_succ, i64_w, i32_w]
      rfl
    refine pure_ (i := 2) (N := (some 76)) (v := ?_) (a' := ?_) #[true, true, true, false, false, false, false, false, false] rfl rfl (any_of HT_.out (by kernel_rfl)) (fun _ _ _ h => h) (Or.inl ⟨by rfl, ?_⟩) ?_ ?_
    rotate_left
    · intro w'
      go_simp
      with_reducible rfl
    rotate_left
    · simp only [Act.put, List.setIfInBounds_toArray, List.set_cons_zero, List.set_cons_succ, i64_w, i32_w]
      rfl
    refine pure_ (i := 3) (N := (some 77)) (v := ?_) (a' := ?_) #[true, true, true, true, false, false, false, false, false] rfl rfl (any_of HT_.out (by kernel_rfl)) (fun _ _ _ h => h) (Or.inl ⟨by rfl, ?_⟩) ?_ ?_
    rotate_left
    · intro w'
      go_simp
      with_reducible rfl
    rotate_left
    · simp only [Act.put, List.setIfInBounds_toArray, List.set_cons_zero, List.set_cons_succ, i64_w, i32_w]
      rfl
    refine take_ (i := 4) (N := (some 78)) (v := .agg (evC x)) #[true, true, true, true, true, false, false, false, false] rfl rfl (take_ofW HT_.out HW_.out (by kernel_rfl)) (fun _ _ _ h => h) (Or.inl ⟨by rfl, fun w' s0 => run_load33 _ _ (.tmp 10) rfl rfl s0.1⟩) hHeld rfl ?_
    refine norm_ (a' := ?_) ?_ ?_
    rotate_left
    · show Act.put _ (some 78) _ = _
      simp only [Act.put, List.setIfInBounds_toArray, List.set_cons_zero, List.set_cons_succ, i64_w, i32_w]
      rfl
    refine take_ (i := 5) (N := (some 79)) (v := .agg (evC x)) #[true, true, true, true, true, true, false, false, false] rfl rfl (take_ofW HT_.out HW_.out (by kernel_rfl)) (fun _ _ _ h => h) (Or.inl ⟨by rfl, fun w' s0 => run_load35 _ _ (.tmp 2) rfl rfl s0.2⟩) hHeld rfl ?_
    refine norm_ (a' := ?_) ?_ ?_
    rotate_left
    · show Act.put _ (some 79) _ = _
      simp only [Act.put, List.setIfInBounds_toArray, List.set_cons_zero, List.set_cons_succ, i64_w, i32_w]
      rfl
    refine one_ (i := 6) (N := (some 80)) #[true, true, true, true, true, true, true, false, false] rfl rfl (one_of HT_.out (by kernel_rfl)) (by decide) (fun K hK => ?_)
    refine goes_ Try.func16 (by kernel_rfl) rfl #[.agg (evC x)] (by rfl) rfl rfl (by (try simp only [List.map_toArray, List.map_cons, List.map_nil]); first | done | rfl) ?_
    refine (own_c x _).mono ?_
    rintro e w16 ⟨rfl, hb16⟩
    have HX16 := Aside0.mk (blk_below HX15.out hb16)
    have HY16 := Aside0.mk (blk_below HY15.out hb16)
    have HB16 := Aside0.mk (below_step HB15.out hb16)
    clear hb16
    refine ⟨_, rfl, ?_⟩
    refine hK.out _ _ ⟨HY16.out, HX16.out⟩ (fun hHeld => ?_)
    clear hK K
    refine norm_ (a' := ?_) ?_ ?_
    rotate_left
    · show Act.put _ (some 80) _ = _
      simp only [Act.put, List.setIfInBounds_toArray, List.set_cons_zero, List.set_cons_succ, i64_w, i32_w]
      rfl
    refine pure_ (i := 7) (N := (some 81)) (v := .bool false) #[true, true, true, true, true, true, true, true, false] rfl rfl (any_of HT_.out (by kernel_rfl)) (fun _ _ _ h => h) (Or.inl ⟨by rfl, fun w' => run_ne33 _ _ (.tmp 78) (.tmp 80) rfl rfl rfl w'⟩) rfl ?_
    refine norm_ (a' := ?_) ?_ ?_
    rotate_left
    · show Act.put _ (some 81) _ = _
      simp only [Act.put, List.setIfInBounds_toArray, List.set_cons_zero, List.set_cons_succ, i64_w, i32_w]
      rfl
    refine pure_ (i := 8) (N := (some 82)) (v := ?_) (a' := ?_) #[true, true, true, true, true, true, true, true, true] rfl rfl (any_of HT_.out (by kernel_rfl)) (fun _ _ _ h => h) (Or.inl ⟨by rfl, ?_⟩) ?_ ?_
    rotate_left
    · intro w'
      go_simp
      with_reducible rfl
    rotate_left
    · simp only [Act.put, List.setIfInBounds_toArray, List.set_cons_zero, List.set_cons_succ, i64_w, i32_w]
      rfl
    refine done_ (done_of HT_.out (by kernel_rfl)) ?_
    clear hHeld HT_ HW_
    go_wp2_with (go_at_call 13; refine (knows_c _).mono ?_; rintro e w17 ⟨rfl, hb17⟩; have HB17 := Aside0.mk (below_step HB16.out hb17); clear hb17)
    exact bodyPost_ret (v := .bool true) (by simp [results, Try.results9, go_sem]) rfl ⟨rfl, HB17.out⟩
  · have hpp : (pa, pe) = ([], 1) := by rw [← hpe]; unfold putEF; rw [if_neg hrx]
    obtain ⟨rfl, rfl⟩ := Prod.mk.inj hpp
    clear hpp hpe
    go_wp2_with (first
      | (go_at_call 19; refine (HNU.out _).mono ?_; rintro e w13 ⟨rfl, rfl⟩)
      | (go_at_call 13; refine (knows_c _).mono ?_; rintro e w14 ⟨rfl, hb14⟩; have HB14 := Aside0.mk (below_step HB12.out hb14); clear hb14))
    exact bodyPost_ret (v := .bool true) (by simp [results, Try.results9, go_sem]) rfl ⟨rfl, HB14.out⟩
end Go.Proofs.Ytofegigbhohebaa.Hand
