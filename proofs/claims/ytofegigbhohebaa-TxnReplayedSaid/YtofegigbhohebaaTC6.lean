/- TxnReads. -/
import Derived.Test.YtofegigbhohebaaTC5
import Derived.Test.YtofegigbhohebaaTB21
namespace Go.Proofs.Ytofegigbhohebaa.Hand
open Go.RowKit Go.Proofs.Ytofegigbhohebaa Go.Proofs.YtofegigbhohebaaW.PrintWords Go.Proofs.YtofegigbhohebaaW.PrintLast
set_option linter.unusedVariables false
set_option linter.unusedSimpArgs false
theorem eq33 (x : EvV) (w : World) : (binOp .eql 33 (.agg (evC x)) (.agg (evC x))).run Try.prog w = .ok (.bool true) w := by
  obtain ⟨kind, name, producer, epoch, place, timeout, now, yes⟩ := x
  unfold evC
  rw [run_eql_struct]
  simp [go_sem, show Try.prog.stoodInHeld 33 = false by kernel_rfl]
theorem ne33 (x : EvV) (w : World) : (binOp .neq 33 (.agg (evC x)) (.agg (evC x))).run Try.prog w = .ok (.bool false) w := by
  obtain ⟨kind, name, producer, epoch, place, timeout, now, yes⟩ := x
  unfold evC
  rw [run_neq_struct]
  simp [go_sem, show Try.prog.stoodInHeld 33 = false by kernel_rfl]
theorem run_eq33 {x : EvV} (ev : Operand → Value) (o : Oper) (p q : Operand) (ho : o.op = .binOp .eql 33 p q 33) (hx : ev p = .agg (evC x)) (hy : ev q = .agg (evC x)) (w : World) : (execOp ev o).run Try.prog w = .ok (.value (.bool true)) w := by
  have hm : Try.prog.eqGuardType Try.prog.depth 33 = false := by kernel_rfl
  unfold execOp
  simp only [ho, hx, hy, Sem.run_bind, run_eqGuard_agg, hm, Result.andThen_ok, eq33, Sem.run_pure]
theorem run_load33 {w : World} {g : Nat} {x : EvV} (ev : Operand → Value) (o : Oper) (p : Operand) (ho : o.op = .load 33 p) (hx : ev p = .pointer (some ⟨g, 0, none⟩)) (hg : w.heap[g]? = some (.cells (evC x) 33 (0, 0))) : (execOp ev o).run Try.prog w = .ok (.value (.agg (evC x))) w := by
  unfold execOp
  simp only [ho, hx, Instr.loadAt, Instr.sureAddr, Sem.run_bind, Sem.run_pure, Result.andThen_ok, run_loadVar_row w g 33 33 (evC x) (0, 0) _ hg Try.underlying33 rfl info33]
theorem stored_ev (w : World) (t : TypeId) (cs : Array Value) : Below w.heap.size w ((w.alloc (.cells xZ t (0, 0))).setRow w.heap.size cs) ∧ ((w.alloc (.cells xZ t (0, 0))).setRow w.heap.size cs).heap[w.heap.size]? = some (.cells cs t (0, 0)) :=
  ⟨bel_setRow2 (below_alloc (Below.refl w.heap.size w) _) (Nat.le_refl _) cs, setRow_heap _ _ _ _ _ _ (heap_alloc_new w _)⟩
--TABS
def TJ3 : Bool × List (List Nat × List Nat) := (true, [([], []), ([], []), ([1], [1]), ([0, 2], [0, 2]), ([3, 2], [3]), ([4], [4]), ([5, 4, 4], [4, 5]), ([4], [4]), ([6, 7, 4], [4, 6, 7]), ([4, 8], [4, 8]), ([9, 6], [9]), ([10, 10], [10]), ([10, 11], [10, 11]), ([12, 11, 0, 1, 2, 3, 4, 5, 6, 7, 8, 9, 10, 11, 12], [12])])
def BJ3 : List Nat := [0, 0, 2, 7, 15, 31, 63, 31, 255, 511, 1023, 2047, 4095, 8191]
theorem tabJ3 : rtab .any (opsOf Try.f11 3) = TJ3 := by kernel_rfl
theorem bitsJ3 : waitsOk TJ3.2 BJ3 = true := by kernel_rfl
set_option maxHeartbeats 6400000 in
set_option maxRecDepth 100000 in
theorem reads_c (A : Option Addr) (c : Nat) (l : List Int) (w : World) (hr : Kd.C (Kd.int .u8) w A l.length l) (hc : l.length ≤ c) (hb : isBytes l) (hlen : l.length ≤ 140737488351232) : Calls Try.prog 11 #[.slice A l.length c] w fun e w' => e = .returned (.bool true) ∧ Below w.heap.size w w' := by
  have HL := Aside0.mk hr
  clear hr
  obtain ⟨⟨X, E⟩, hg⟩ : ∃ q, getEF l = q := ⟨_, rfl⟩
  have HO := Aside0.mk (fun (A' : Option Addr) (c' : Nat) (V : World) (h : Kd.C (Kd.int .u8) V A' l.length l) (hc' : l.length ≤ c') => getEvent_c A' c' l V h hc' hb)
  have HD := Aside0.mk (fun (V : World) (h : Kd.C (Kd.int .u8) V A l.length l) => refGetEvent_c A c l V h hc hb (by omega))
  rw [hg] at HO HD
  clear hg
  go_enter Try.func11, Try.ntmps11
  go_upto_region 3 with (first
    | ((with_reducible refine gate_dst (N := 8) rfl ?_); refine Kd.R_lit (Kd.int .u8) (w0 := w) w.heap.size 5 ?hg (N := 8) ?hd (xs := ([] : List Int)) (inner := []) (ok := fun _ => True) (okp := fun _ => True) ?hr ?hp (fun _ hk => hk) trivial (Below.refl _ _) (Nat.le_refl _) (by simp) ?_; (case hg => rfl); (case hd => rfl); (case hr => first | (go_simp; done) | (go_simp; rfl)); (case hp => exact Reps.none _ _); intro vl_ wl_ HOl_ hbl_ hgl_ hatl_; have HCl_ := Kd.C_below HL.out hbl_; clear hgl_ hatl_)
    | (refine Kd.R_append_row (Value.int .u8) 0 w.heap.size rfl (.tmp 8) (.tmp 9) 64 5 (.int .u8 0) 1 rfl Try.underlying64 infoU8 rfl (by omega) vl_ [] l A _ c (fun _ => True) rfl rfl (fun _ _ => trivial) HOl_ HCl_ hbl_ (below_size hbl_) (by simp; omega) ?_; intro v1_ w1 ho_ hb_ hg_ hat_; rw [List.nil_append] at ho_; obtain ⟨A1, c1, rfl⟩ := Kd.R_slice ho_; have HC1 := Aside0.mk (Kd.R_reads' ho_).2.2; have HC2 := Aside0.mk (Kd.R_reads' ho_).2.1; have HB1 := Aside0.mk hb_; clear HOl_ HCl_ hbl_ ho_ hb_ hg_ hat_)
    | (go_at_call 27; refine (HO.out A1 c1 _ HC1.out HC2.out).mono ?_; rintro e w2 ⟨rfl, hb2⟩; have HB2 := Aside0.mk (below_step HB1.out hb2); clear hb2; obtain ⟨hsb3, hsr3⟩ := stored_ev w2 33 (evC X); have HX3 := Aside0.mk hsr3; have HB3 := Aside0.mk (below_step HB2.out hsb3); clear hsb3 hsr3)
    | (refine gate_ (.store 33 (.tmp 3) (.tmp 12)) rfl ?_; refine wpList_store_row rfl 33 (.tmp 3) (.tmp 12) rfl w2.heap.size (evC X) rfl rfl 33 xZ (heap_alloc_new w2 (.cells xZ 33 (0, 0))) info33 rfl (evC_one X) ?_; generalize hB3 : w2.heap.size = B3 at HX3 ⊢; change wpList _ _ _ _ _ ((w2.alloc (.cells xZ 33 (0, 0))).setRow B3 (evC X)); generalize hw3 : (w2.alloc (.cells xZ 33 (0, 0))).setRow B3 (evC X) = w3 at HX3 ⊢; rw [hB3, hw3] at HB3; clear hw3 hB3)
    | (go_at_call 28; refine (HD.out _ (Kd.C_below HL.out HB3.out)).mono ?_; rintro e w4 ⟨rfl, hb4⟩; have HB4 := Aside0.mk (below_step HB3.out hb4); have HX4 := Aside0.mk (blk_below HX3.out hb4); clear hb4; obtain ⟨hsb5, hsr5⟩ := stored_ev w4 35 (evC X); have HY5 := Aside0.mk hsr5; have HX5 := Aside0.mk (blk_below HX4.out hsb5); have HB5 := Aside0.mk (below_step HB4.out hsb5); clear hsb5 hsr5)
    | (refine gate_ (.store 35 (.tmp 5) (.tmp 17)) rfl ?_; refine wpList_store_row rfl 35 (.tmp 5) (.tmp 17) rfl w4.heap.size (evC X) rfl rfl 35 xZ (heap_alloc_new w4 (.cells xZ 35 (0, 0))) info35 rfl (evC_one X) ?_; generalize hB5 : w4.heap.size = B5 at HY5 ⊢; change wpList _ _ _ _ _ ((w4.alloc (.cells xZ 35 (0, 0))).setRow B5 (evC X)); generalize hw5 : (w4.alloc (.cells xZ 35 (0, 0))).setRow B5 (evC X) = w5 at HY5 ⊢; rw [hB5, hw5] at HB5 HX5; clear hw5 hB5))
  have hdr := below_drew (Below.refl w5.heap.size w5)
  have HX6 := Aside0.mk (blk_below HX5.out hdr)
  have HY6 := Aside0.mk (blk_below HY5.out hdr)
  have HB6 := Aside0.mk (below_step HB5.out hdr)
  clear hdr
  refine start_ (n := 14) (S := fun w' => w'.heap[B3]? = some (.cells (evC X) 33 (0, 0)) ∧ w'.heap[B5]? = some (.cells (evC X) 35 (0, 0))) (ds := []) #[false, false, false, false, false, false, false, false, false, false, false, false, false, false] (by kernel_rfl) rfl rfl ⟨HX6.out, HY6.out⟩ (fun hHeld => ?_); refine with_tabW tabJ3 bitsJ3 (fun HT_ HW_ => ?_)
  generalize w5.drew = w6 at HX6 HY6 HB6 hHeld ⊢
  refine take_ (i := 0) (N := (some 19)) (v := .agg (evC X)) #[true, false, false, false, false, false, false, false, false, false, false, false, false, false] rfl rfl (take_ofW HT_.out HW_.out (by kernel_rfl)) (fun _ _ _ h => h) (Or.inl ⟨by rfl, fun w' s0 => run_load33 _ _ (.tmp 3) rfl rfl s0.1⟩) hHeld rfl ?_
  refine norm_ (a' := ?_) ?_ ?_
  rotate_left
  · show Act.put _ (some 19) _ = _
    simp only [Act.put, List.setIfInBounds_toArray, List.set_cons_zero, List.set_cons_succ, i64_w, i32_w]
    rfl
  refine take_ (i := 1) (N := (some 20)) (v := .agg (evC X)) #[true, true, false, false, false, false, false, false, false, false, false, false, false, false] rfl rfl (take_ofW HT_.out HW_.out (by kernel_rfl)) (fun _ _ _ h => h) (Or.inl ⟨by rfl, fun w' s0 => run_load35 _ _ (.tmp 5) rfl rfl s0.2⟩) hHeld rfl ?_
  refine norm_ (a' := ?_) ?_ ?_
  rotate_left
  · show Act.put _ (some 20) _ = _
    simp only [Act.put, List.setIfInBounds_toArray, List.set_cons_zero, List.set_cons_succ, i64_w, i32_w]
    rfl
  refine one_ (i := 2) (N := (some 21)) #[true, true, true, false, false, false, false, false, false, false, false, false, false, false] rfl rfl (one_of HT_.out (by kernel_rfl)) (by decide) (fun K hK => ?_)
  refine goes_ Try.func16 (by kernel_rfl) rfl #[.agg (evC X)] (by rfl) rfl rfl (by (try simp only [List.map_toArray, List.map_cons, List.map_nil]); first | done | rfl) ?_
  refine (own_c X _).mono ?_
  rintro e w7 ⟨rfl, hb7⟩
  have HX7 := Aside0.mk (blk_below HX6.out hb7)
  have HY7 := Aside0.mk (blk_below HY6.out hb7)
  have HB7 := Aside0.mk (below_step HB6.out hb7)
  clear hb7
  refine ⟨_, rfl, ?_⟩
  refine hK.out _ _ ⟨HX7.out, HY7.out⟩ (fun hHeld => ?_)
  clear hK K
  refine norm_ (a' := ?_) ?_ ?_
  rotate_left
  · show Act.put _ (some 21) _ = _
    simp only [Act.put, List.setIfInBounds_toArray, List.set_cons_zero, List.set_cons_succ, i64_w, i32_w]
    rfl
  refine pure_ (i := 3) (N := (some 22)) (v := .bool true) #[true, true, true, true, false, false, false, false, false, false, false, false, false, false] rfl rfl (any_of HT_.out (by kernel_rfl)) (fun _ _ _ h => h) (Or.inl ⟨by rfl, fun w' => run_eq33 _ _ (.tmp 19) (.tmp 21) rfl rfl rfl w'⟩) rfl ?_
  refine norm_ (a' := ?_) ?_ ?_
  rotate_left
  · show Act.put _ (some 22) _ = _
    simp only [Act.put, List.setIfInBounds_toArray, List.set_cons_zero, List.set_cons_succ, i64_w, i32_w]
    rfl
  refine pure_ (i := 4) (N := (some 23)) (v := ?_) (a' := ?_) #[true, true, true, true, true, false, false, false, false, false, false, false, false, false] rfl rfl (any_of HT_.out (by kernel_rfl)) (fun _ _ _ h => h) (Or.inl ⟨by rfl, ?_⟩) ?_ ?_
  rotate_left
  · intro w'
    go_simp
    with_reducible rfl
  rotate_left
  · simp only [Act.put, List.setIfInBounds_toArray, List.set_cons_zero, List.set_cons_succ, i64_w, i32_w]
    rfl
  refine pure_ (i := 5) (N := (some 24)) (v := ?_) (a' := ?_) #[true, true, true, true, true, true, false, false, false, false, false, false, false, false] rfl rfl (any_of HT_.out (by kernel_rfl)) (fun _ _ _ h => h) (Or.inl ⟨by rfl, ?_⟩) ?_ ?_
  rotate_left
  · intro w'
    go_simp
    with_reducible rfl
  rotate_left
  · simp only [Act.put, List.setIfInBounds_toArray, List.set_cons_zero, List.set_cons_succ, i64_w, i32_w]
    rfl
  refine pure_ (i := 7) (N := (some 26)) (v := ?_) (a' := ?_) #[true, true, true, true, true, true, false, true, false, false, false, false, false, false] rfl rfl (any_of HT_.out (by kernel_rfl)) (fun _ _ _ h => h) (Or.inl ⟨by rfl, ?_⟩) ?_ ?_
  rotate_left
  · intro w'
    go_simp
    with_reducible rfl
  rotate_left
  · simp only [Act.put, List.setIfInBounds_toArray, List.set_cons_zero, List.set_cons_succ, i64_w, i32_w]
    rfl
  refine one_ (i := 6) (N := (some 25)) #[true, true, true, true, true, true, true, true, false, false, false, false, false, false] rfl rfl (one_of HT_.out (by kernel_rfl)) (by decide) (fun K hK => ?_)
  refine goes_ Try.func19 (by kernel_rfl) rfl #[.int .i64 E] (by rfl) rfl rfl (by (try simp only [List.map_toArray, List.map_cons, List.map_nil]); first | done | rfl) ?_
  refine (num_c E _).mono ?_
  rintro e w8 ⟨rfl, rfl⟩
  refine ⟨_, rfl, ?_⟩
  refine hK.out _ _ ⟨HX7.out, HY7.out⟩ (fun hHeld => ?_)
  clear hK K
  refine norm_ (a' := ?_) ?_ ?_
  rotate_left
  · show Act.put _ (some 25) _ = _
    simp only [Act.put, List.setIfInBounds_toArray, List.set_cons_zero, List.set_cons_succ, i64_w, i32_w]
    rfl
  refine pure_ (i := 8) (N := (some 27)) (v := ?_) (a' := ?_) #[true, true, true, true, true, true, true, true, true, false, false, false, false, false] rfl rfl (any_of HT_.out (by kernel_rfl)) (fun _ _ _ h => h) (Or.inl ⟨by rfl, ?_⟩) ?_ ?_
  rotate_left
  · intro w'
    go_simp
    with_reducible rfl
  rotate_left
  · simp only [Act.put, List.setIfInBounds_toArray, List.set_cons_zero, List.set_cons_succ, i64_w, i32_w]
    rfl
  refine pure_ (i := 9) (N := (some 28)) (v := ?_) (a' := ?_) #[true, true, true, true, true, true, true, true, true, true, false, false, false, false] rfl rfl (any_of HT_.out (by kernel_rfl)) (fun _ _ _ h => h) (Or.inl ⟨by rfl, ?_⟩) ?_ ?_
  rotate_left
  · intro w'
    go_simp
    with_reducible rfl
  rotate_left
  · simp only [Act.put, List.setIfInBounds_toArray, List.set_cons_zero, List.set_cons_succ, i64_w, i32_w]
    rfl
  refine pure_ (i := 10) (N := (some 29)) (v := ?_) (a' := ?_) #[true, true, true, true, true, true, true, true, true, true, true, false, false, false] rfl rfl (any_of HT_.out (by kernel_rfl)) (fun _ _ _ h => h) (Or.inl ⟨by rfl, ?_⟩) ?_ ?_
  rotate_left
  · intro w'
    go_simp
    with_reducible rfl
  rotate_left
  · simp only [Act.put, List.setIfInBounds_toArray, List.set_cons_zero, List.set_cons_succ, i64_w, i32_w]
    rfl
  refine one_ (i := 11) (N := (some 30)) #[true, true, true, true, true, true, true, true, true, true, true, true, false, false] rfl rfl (one_of HT_.out (by kernel_rfl)) (by decide) (fun K hK => ?_)
  refine goes_ Try.func13 (by kernel_rfl) rfl #[] (by rfl) rfl rfl (by (try simp only [List.map_toArray, List.map_cons, List.map_nil]); first | done | rfl) ?_
  refine (knows_c _).mono ?_
  rintro e w9 ⟨rfl, hb9⟩
  have HB9 := Aside0.mk (below_step HB7.out hb9)
  have HX9 := Aside0.mk (blk_below HX7.out hb9)
  have HY9 := Aside0.mk (blk_below HY7.out hb9)
  clear hb9
  refine ⟨_, rfl, ?_⟩
  refine hK.out _ _ ⟨HX9.out, HY9.out⟩ (fun hHeld => ?_)
  clear hK K
  refine norm_ (a' := ?_) ?_ ?_
  rotate_left
  · show Act.put _ (some 30) _ = _
    simp only [Act.put, List.setIfInBounds_toArray, List.set_cons_zero, List.set_cons_succ, i64_w, i32_w]
    rfl
  refine pure_ (i := 12) (N := (some 31)) (v := ?_) (a' := ?_) #[true, true, true, true, true, true, true, true, true, true, true, true, true, false] rfl rfl (any_of HT_.out (by kernel_rfl)) (fun _ _ _ h => h) (Or.inl ⟨by rfl, ?_⟩) ?_ ?_
  rotate_left
  · intro w'
    go_simp
    with_reducible rfl
  rotate_left
  · simp only [Act.put, List.setIfInBounds_toArray, List.set_cons_zero, List.set_cons_succ, i64_w, i32_w]
    rfl
  refine pure_ (i := 13) (N := (some 2)) (v := ?_) (a' := ?_) #[true, true, true, true, true, true, true, true, true, true, true, true, true, true] rfl rfl (any_of HT_.out (by kernel_rfl)) (fun _ _ _ h => h) (Or.inl ⟨by rfl, ?_⟩) ?_ ?_
  rotate_left
  · intro w'
    go_simp
    with_reducible rfl
  rotate_left
  · simp only [Act.put, List.setIfInBounds_toArray, List.set_cons_zero, List.set_cons_succ, i64_w, i32_w]
    rfl
  refine done_ (done_of HT_.out (by kernel_rfl)) ?_
  clear hHeld HT_ HW_
  go_wp2_with fail
  exact bodyPost_ret (v := .bool true) (by simp [results, Try.results11, go_sem]) rfl ⟨rfl, HB9.out⟩
end Go.Proofs.Ytofegigbhohebaa.Hand
