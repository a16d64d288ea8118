/- The document's GetEvent. -/
import Derived.Test.YtofegigbhohebaaTC4
namespace Go.Proofs.Ytofegigbhohebaa.Hand
open Go.RowKit Go.Proofs.Ytofegigbhohebaa Go.Proofs.YtofegigbhohebaaW.PrintWords Go.Proofs.YtofegigbhohebaaW.PrintLast
set_option linter.unusedVariables false
set_option linter.unusedSimpArgs false
theorem info35 : (Try.prog.info? 35).map (·.size) = some 8 := by kernel_rfl
theorem run_alloc35 (ev : Operand → Value) (o : Oper) (ho : o.op = .alloc 35) (w : World) : (execOp ev o).run Try.prog w = .ok (.value (.pointer (some ⟨w.heap.size, 0, none⟩))) (w.alloc (.cells xZ 35 (0, 0))) := by
  unfold execOp
  rw [ho]
  kernel_rfl
theorem run_store35 {w : World} {g : Nat} {old cells : Array Value} (ev : Operand → Value) (o : Oper) (p x : Operand) (ho : o.op = .store 35 p x) (hx : ev p = .pointer (some ⟨g, 0, none⟩)) (hy : ev x = .agg cells) (hg : w.heap[g]? = some (.cells old 35 (0, 0))) (h8 : cells.size = 8) (ho8 : old.size = 8) (h1 : cells.all (·.oneCell') = true) : (execOp ev o).run Try.prog w = .ok .skip (w.setRow g cells) := by
  unfold execOp
  simp only [ho, hx, hy, Instr.storeAt, Instr.sureAddr, Sem.run_bind, Sem.run_pure, Result.andThen_ok, run_storeVar_row w g 35 35 old cells hg (by rw [info35, h8]) (by rw [ho8, h8]) h1]
theorem run_load35 {w : World} {g : Nat} {x : EvV} (ev : Operand → Value) (o : Oper) (p : Operand) (ho : o.op = .load 35 p) (hx : ev p = .pointer (some ⟨g, 0, none⟩)) (hg : w.heap[g]? = some (.cells (evC x) 35 (0, 0))) : (execOp ev o).run Try.prog w = .ok (.value (.agg (evC x))) w := by
  unfold execOp
  simp only [ho, hx, Instr.loadAt, Instr.sureAddr, Sem.run_bind, Sem.run_pure, Result.andThen_ok, run_loadVar_row w g 35 35 (evC x) (0, 0) _ hg Try.underlying35 rfl info35]
theorem run_conv {w : World} {v r : Value} (ev : Operand → Value) (o : Oper) (p : Operand) (ho : o.op = .convert 64 9 p) (hx : ev p = v) (hc : (convert 64 9 v).run Try.prog w = .ok r w) : (execOp ev o).run Try.prog w = .ok (.value r) w := by
  unfold execOp
  simp only [ho, hx, Sem.run_bind, Sem.run_pure, Result.andThen_ok, hc]
theorem res28 {ts : Array Value} {w : World} {g : Nat} {x : EvV} {e : Int} (t2 : ts.getD 2 undef = .pointer (some ⟨g, 0, none⟩)) (t3 : ts.getD 3 undef = .int .i64 e) (hg : w.heap[g]? = some (.cells (evC x) 35 (0, 0))) : (results Try.f28 ts).run Try.prog w = .ok (.tuple #[evE x, .int .i64 e]) w := by
  rw [Array.getD_eq_getD_getElem?] at t2 t3
  have c0 : w.cell? ⟨g, 0, none⟩ = some (.int .i64 x.kind) := blk_cell hg 0
  have c1 : w.cell? ⟨g, 1, none⟩ = some (.string x.name) := blk_cell hg 1
  have c2 : w.cell? ⟨g, 2, none⟩ = some (.int .i64 x.producer) := blk_cell hg 2
  have c3 : w.cell? ⟨g, 3, none⟩ = some (.int .i64 x.epoch) := blk_cell hg 3
  have c4 : w.cell? ⟨g, 4, none⟩ = some (.int .i64 x.place) := blk_cell hg 4
  have c5 : w.cell? ⟨g, 5, none⟩ = some (.int .i64 x.timeout) := blk_cell hg 5
  have c6 : w.cell? ⟨g, 6, none⟩ = some (.int .i64 x.now) := blk_cell hg 6
  have c7 : w.cell? ⟨g, 7, none⟩ = some (.bool x.yes) := blk_cell hg 7
  simp [results, Try.results28, go_sem, t2, t3, c0, c1, c2, c3, c4, c5, c6, c7, evE]
--TABS
def TH4 : Bool × List (List Nat × List Nat) := (true, [([], []), ([0], [0]), ([1], [1]), ([2], [2]), ([], []), ([4], [4]), ([5], [5]), ([6], [6]), ([3, 7], [3, 7]), ([], []), ([9, 8, 0, 1, 2, 3, 4, 5, 6, 7, 8, 9], [8, 9])])
def BH4 : List Nat := [0, 1, 3, 7, 0, 16, 48, 112, 255, 0, 1023]
theorem tabH4 : rtab .any (opsOf Try.f28 4) = TH4 := by kernel_rfl
theorem bitsH4 : waitsOk TH4.2 BH4 = true := by kernel_rfl
def TH11 : Bool × List (List Nat × List Nat) := (true, [([], []), ([0], [0]), ([1], [1]), ([2], [2]), ([3, 2, 2], [2, 3]), ([4, 2], [2, 4]), ([2, 5], [2, 5]), ([6, 4], [6]), ([7], [7]), ([8, 7, 7], [7, 8]), ([9, 7], [7, 9]), ([7], [7]), ([11, 7], [7, 11]), ([10, 12, 7], [7, 10, 12]), ([7, 13], [7, 13])])
def BH11 : List Nat := [0, 1, 3, 7, 15, 31, 63, 127, 255, 511, 1023, 255, 2303, 8191, 16383]
theorem tabH11 : rtab .any (opsOf Try.f28 11) = TH11 := by kernel_rfl
theorem bitsH11 : waitsOk TH11.2 BH11 = true := by kernel_rfl
set_option maxHeartbeats 6400000 in
set_option maxRecDepth 100000 in
theorem refGetEvent_c (A : Option Addr) (c : Nat) (l : List Int) (w : World) (hr : Kd.C (Kd.int .u8) w A l.length l) (hc : l.length ≤ c) (hb : isBytes l) (hlen : l.length ≤ 1000000000000000) : Calls Try.prog 28 #[.slice A l.length c] w fun e w' => e = .returned (.tuple #[evE (getEF l).1, .int .i64 (getEF l).2]) ∧ Below w.heap.size w w' := by
  have HL := Aside0.mk hr
  have hb1 := below_alloc (Below.refl w.heap.size w) (.cells xZ 35 (0, 0))
  have HZ := Aside0.mk (heap_alloc_new w (.cells xZ 35 (0, 0)))
  have HB := Aside0.mk hb1
  have HLA := Aside0.mk (Kd.C_below hr hb1)
  have HU := Aside0.mk (show gazetteref01_Unframe.f l 0 = some (unfF l 0) by unfold gazetteref01_Unframe.f; rw [if_pos ⟨(isB_iff l).2 hb, hlen⟩])
  clear hr hb1
  obtain ⟨⟨kk, y, nx, ee⟩, hu⟩ : ∃ q, unfF l 0 = q := ⟨_, rfl⟩
  have HG := Aside0.mk (show getEF l = if ee ≠ 0 ∨ kk ≠ 33 ∨ y.length < 34 then (ev0, 22) else if (textF y 32).2.2 ≠ 0 ∨ rightE (evOf y) = false ∨ encE (evOf y) ≠ l then (ev0, 22) else (evOf y, 0) by unfold getEF; rw [hu])
  have HYB0 := unf_bytes hb
  rw [hu] at HU HYB0
  have HYB := Aside0.mk HYB0.1
  clear HYB0
  rw [HG.out]
  clear hu HG
  by_cases hbad : ee ≠ 0 ∨ kk ≠ 33 ∨ y.length < 34
  · rw [if_pos hbad]
    by_cases h1 : ee = 0
    · subst h1
      by_cases h2 : kk = 33
      · subst h2
        have h3 : y.length < 34 := by omega
        have h3' : (y.length : Int) < 34 := by omega
        go_enter Try.func28, Try.ntmps28
        go_wp2_with (first
          | (go_at_call 55; refine (gazetteref01_Unframe.calls A c l 0 _ y nx _ _ HLA.out hc HU.out).mono ?_; rintro e w1 ⟨vy, rfl, hR1, hb1⟩; obtain ⟨Ay, cy, rfl⟩ := Kd.R_slice hR1; have HB7 := Aside0.mk (below_step HB.out hb1); have HZ7 := Aside0.mk (blk_below HZ.out hb1); clear hR1 hb1)
          | (refine gate_ (.store 35 (.tmp 2) (.tmp 27)) rfl ?_; refine wpList_store_row rfl 35 (.tmp 2) (.tmp 27) rfl w.heap.size (evC ev0) rfl rfl 35 xZ HZ7.out info35 rfl (evC_one ev0) ?_))
        exact bodyPost_ret (v := .tuple #[evE ev0, .int .i64 22]) (res28 (g := w.heap.size) (x := ev0) rfl rfl (setRow_heap _ _ _ _ _ _ HZ7.out)) rfl ⟨rfl, bel_setRow2 HB7.out (Nat.le_refl _) _⟩
      · have h2' : (kk != 33) = true := bne_iff_ne.2 h2
        go_enter Try.func28, Try.ntmps28
        go_wp2_with (first
          | (go_at_call 55; refine (gazetteref01_Unframe.calls A c l 0 _ y nx _ _ HLA.out hc HU.out).mono ?_; rintro e w1 ⟨vy, rfl, hR1, hb1⟩; obtain ⟨Ay, cy, rfl⟩ := Kd.R_slice hR1; have HB7 := Aside0.mk (below_step HB.out hb1); have HZ7 := Aside0.mk (blk_below HZ.out hb1); clear hR1 hb1)
          | (refine gate_ (.store 35 (.tmp 2) (.tmp 27)) rfl ?_; refine wpList_store_row rfl 35 (.tmp 2) (.tmp 27) rfl w.heap.size (evC ev0) rfl rfl 35 xZ HZ7.out info35 rfl (evC_one ev0) ?_))
        exact bodyPost_ret (v := .tuple #[evE ev0, .int .i64 22]) (res28 (g := w.heap.size) (x := ev0) rfl rfl (setRow_heap _ _ _ _ _ _ HZ7.out)) rfl ⟨rfl, bel_setRow2 HB7.out (Nat.le_refl _) _⟩
    · have h1' : (ee != 0) = true := bne_iff_ne.2 h1
      go_enter Try.func28, Try.ntmps28
      go_wp2_with (first
        | (go_at_call 55; refine (gazetteref01_Unframe.calls A c l 0 _ y nx _ _ HLA.out hc HU.out).mono ?_; rintro e w1 ⟨vy, rfl, hR1, hb1⟩; obtain ⟨Ay, cy, rfl⟩ := Kd.R_slice hR1; have HB7 := Aside0.mk (below_step HB.out hb1); have HZ7 := Aside0.mk (blk_below HZ.out hb1); clear hR1 hb1)
        | (refine gate_ (.store 35 (.tmp 2) (.tmp 27)) rfl ?_; refine wpList_store_row rfl 35 (.tmp 2) (.tmp 27) rfl w.heap.size (evC ev0) rfl rfl 35 xZ HZ7.out info35 rfl (evC_one ev0) ?_))
      exact bodyPost_ret (v := .tuple #[evE ev0, .int .i64 22]) (res28 (g := w.heap.size) (x := ev0) rfl rfl (setRow_heap _ _ _ _ _ _ HZ7.out)) rfl ⟨rfl, bel_setRow2 HB7.out (Nat.le_refl _) _⟩
  · obtain ⟨he0, hk0, hy0⟩ : ee = 0 ∧ kk = 33 ∧ 34 ≤ y.length := ⟨by omega, by omega, by omega⟩
    rw [if_neg hbad]
    obtain ⟨⟨R1, R2⟩, hR⟩ : ∃ q, (if (textF y 32).2.2 ≠ 0 ∨ rightE (evOf y) = false ∨ encE (evOf y) ≠ l then (ev0, 22) else (evOf y, 0) : EvV × Int) = q := ⟨_, rfl⟩
    rw [hR]
    have HRR := Aside0.mk hR
    clear hR
    dsimp only
    subst he0 hk0
    clear hbad
    have hyc : ¬ (y.length : Int) < 34 := by omega
    go_enter Try.func28, Try.ntmps28
    go_upto_region 4 with (go_at_call 55; refine (gazetteref01_Unframe.calls A c l 0 33 y nx 0 _ HLA.out hc HU.out).mono ?_; rintro e w1 ⟨vy, rfl, hR1, hb1⟩; obtain ⟨Ay, cy, rfl⟩ := Kd.R_slice hR1; have HY := Aside0.mk (Kd.R_reads' hR1).2.2; have HYC := Aside0.mk (Kd.R_reads' hR1).2.1; have HB1 := Aside0.mk (below_step HB.out hb1); have HZ1 := Aside0.mk (blk_below HZ.out hb1); clear hR1 hb1)
    obtain ⟨ady, hA, q0⟩ := Kd.at_int HY.out 0 (by decide) (by omega)
    obtain ⟨ady', hA', q1⟩ := Kd.at_int HY.out 1 (by decide) (by omega)
    subst hA
    have hAA : ady' = ady := by injection hA' with e; exact e.symm
    subst hAA
    obtain ⟨y0, hy0e⟩ : ∃ y0, rd y 0 = y0 := ⟨_, rfl⟩
    obtain ⟨y1, hy1e⟩ : ∃ y1, rd y 1 = y1 := ⟨_, rfl⟩
    rw [hy0e] at q0
    rw [hy1e] at q1
    have q0 : w1.cell? ady' = some (.int .u8 y0) := q0
    have q1 : w1.cell? ⟨ady'.block, ady'.off + 1, none⟩ = some (.int .u8 y1) := q1
    obtain ⟨ady, hady⟩ : ∃ ady, ady = ady' := ⟨_, rfl⟩
    subst hady
    have hn0 : 0 < y.length := by omega
    have hn1 : 1 < y.length := by omega
    have hm0 : (0 : Int) < (y.length : Int) := by omega
    have hm1 : (1 : Int) < (y.length : Int) := by omega
    have hdr := below_drew (Below.refl w1.heap.size w1)
    have HDR := Aside0.mk hdr
    have HYD := Aside0.mk (Kd.C_below HY.out hdr)
    have HBD := Aside0.mk (below_step HB1.out hdr)
    have HZD := Aside0.mk (blk_below HZ1.out hdr)
    clear hdr
    refine start_ (n := 11) (S := fun w' => w'.cell? ady = some (.int .u8 y0) ∧ w'.cell? ⟨ady.block, ady.off + 1, none⟩ = some (.int .u8 y1)) (ds := [10]) #[false, false, false, false, false, false, false, false, false, false, false] (by kernel_rfl) rfl rfl ⟨q0, q1⟩ (fun hHeld => ?_); refine with_tabW tabH4 bitsH4 (fun HT_ HW_ => ?_)
    generalize hwd : w1.drew = w2 at HYD HBD HZD HDR hHeld ⊢
    have hsz : w2.heap.size = w1.heap.size := by rw [← hwd]; rfl
    clear hwd
    refine pure_ (i := 0) (N := (some 28)) (v := ?_) (a' := ?_) #[true, false, false, false, false, false, false, false, false, false, false] rfl rfl (any_of HT_.out (by kernel_rfl)) (fun _ _ _ h => h) (Or.inl ⟨by rfl, ?_⟩) ?_ ?_
    rotate_left
    · intro w'
      go_simp
      with_reducible rfl
    rotate_left
    · simp only [Act.put, List.setIfInBounds_toArray, List.set_cons_zero, List.set_cons_succ, i64_w, i32_w]
      rfl
    refine pure_ (i := 1) (N := (some 29)) (v := ?_) (a' := ?_) #[true, true, false, false, false, false, false, false, false, false, false] rfl rfl (any_of HT_.out (by kernel_rfl)) (fun _ _ _ h => h) (Or.inl ⟨by rfl, ?_⟩) ?_ ?_
    rotate_left
    · intro w'
      go_simp
      with_reducible rfl
    rotate_left
    · simp only [Act.put, List.setIfInBounds_toArray, List.set_cons_zero, List.set_cons_succ, i64_w, i32_w]
      rfl
    refine take_ (i := 2) (N := (some 30)) (v := ?_) (a' := ?_) #[true, true, true, false, false, false, false, false, false, false, false] rfl rfl (take_ofW HT_.out HW_.out (by kernel_rfl)) (fun _ _ _ h => h) (Or.inl ⟨by rfl, ?_⟩) hHeld ?_ ?_
    rotate_left
    · rintro w' ⟨s0, s1⟩
      go_simp
      with_reducible rfl
    rotate_left
    · simp only [Act.put, List.setIfInBounds_toArray, List.set_cons_zero, List.set_cons_succ, i64_w, i32_w]
      rfl
    refine pure_ (i := 3) (N := (some 31)) (v := ?_) (a' := ?_) #[true, true, true, true, false, false, false, false, false, false, false] rfl rfl (any_of HT_.out (by kernel_rfl)) (fun _ _ _ h => h) (Or.inl ⟨by rfl, ?_⟩) ?_ ?_
    rotate_left
    · intro w'
      go_simp
      with_reducible rfl
    rotate_left
    · simp only [Act.put, List.setIfInBounds_toArray, List.set_cons_zero, List.set_cons_succ, i64_w, i32_w]
      rfl
    refine pure_ (i := 4) (N := (some 32)) (v := ?_) (a' := ?_) #[true, true, true, true, true, false, false, false, false, false, false] rfl rfl (any_of HT_.out (by kernel_rfl)) (fun _ _ _ h => h) (Or.inl ⟨by rfl, ?_⟩) ?_ ?_
    rotate_left
    · intro w'
      go_simp
      with_reducible rfl
    rotate_left
    · simp only [Act.put, List.setIfInBounds_toArray, List.set_cons_zero, List.set_cons_succ, i64_w, i32_w]
      rfl
    refine pure_ (i := 5) (N := (some 33)) (v := ?_) (a' := ?_) #[true, true, true, true, true, true, false, false, false, false, false] rfl rfl (any_of HT_.out (by kernel_rfl)) (fun _ _ _ h => h) (Or.inl ⟨by rfl, ?_⟩) ?_ ?_
    rotate_left
    · intro w'
      go_simp
      with_reducible rfl
    rotate_left
    · simp only [Act.put, List.setIfInBounds_toArray, List.set_cons_zero, List.set_cons_succ, i64_w, i32_w]
      rfl
    refine take_ (i := 6) (N := (some 34)) (v := ?_) (a' := ?_) #[true, true, true, true, true, true, true, false, false, false, false] rfl rfl (take_ofW HT_.out HW_.out (by kernel_rfl)) (fun _ _ _ h => h) (Or.inl ⟨by rfl, ?_⟩) hHeld ?_ ?_
    rotate_left
    · rintro w' ⟨s0, s1⟩
      go_simp
      with_reducible rfl
    rotate_left
    · simp only [Act.put, List.setIfInBounds_toArray, List.set_cons_zero, List.set_cons_succ, i64_w, i32_w]
      rfl
    refine pure_ (i := 7) (N := (some 35)) (v := ?_) (a' := ?_) #[true, true, true, true, true, true, true, true, false, false, false] rfl rfl (any_of HT_.out (by kernel_rfl)) (fun _ _ _ h => h) (Or.inl ⟨by rfl, ?_⟩) ?_ ?_
    rotate_left
    · intro w'
      go_simp
      with_reducible rfl
    rotate_left
    · simp only [Act.put, List.setIfInBounds_toArray, List.set_cons_zero, List.set_cons_succ, i64_w, i32_w]
      rfl
    refine pure_ (i := 8) (N := (some 36)) (v := ?_) (a' := ?_) #[true, true, true, true, true, true, true, true, true, false, false] rfl rfl (any_of HT_.out (by kernel_rfl)) (fun _ _ _ h => h) (Or.inl ⟨by rfl, ?_⟩) ?_ ?_
    rotate_left
    · intro w'
      go_simp
      with_reducible rfl
    rotate_left
    · simp only [Act.put, List.setIfInBounds_toArray, List.set_cons_zero, List.set_cons_succ, i64_w, i32_w]
      rfl
    refine one_ (i := 9) (N := (some 8)) #[true, true, true, true, true, true, true, true, true, true, false] rfl rfl (one_of HT_.out (by kernel_rfl)) (by decide) (fun K hK => ?_)
    refine val_ (w1 := w2.alloc (.cells (xZ) 35 (0, 0))) (v := .pointer (some ⟨w2.heap.size, 0, none⟩)) (by rfl) rfl (run_alloc35 _ _ rfl w2) ?_
    have hal := below_alloc (Below.refl w2.heap.size w2) (.cells xZ 35 (0, 0))
    refine hK.out _ _ ⟨(hal.cell (p := ady) (World.block_lt_of_cell? w2 _ hHeld.1)).trans hHeld.1, (hal.cell (p := ⟨ady.block, ady.off + 1, none⟩) (World.block_lt_of_cell? w2 _ hHeld.2)).trans hHeld.2⟩ (fun hHeld => ?_)
    clear hK K
    refine norm_ (a' := ?_) ?_ ?_
    rotate_left
    · show Act.put _ (some 8) _ = _
      simp only [Act.put, List.setIfInBounds_toArray, List.set_cons_zero, List.set_cons_succ, i64_w, i32_w]
      rfl
    refine last_ (i := 10) (N := none) #[true, true, true, true, true, true, true, true, true, true, true] rfl rfl (one_of HT_.out (by kernel_rfl)) (by decide) (fun K hK => ?_)
    refine skip_ (w1 := (w2.alloc (.cells xZ 35 (0, 0))).setRow w2.heap.size #[.int .i64 (wrap64 y0), .string ⟨#[]⟩, .int .i64 0, .int .i64 0, .int .i64 0, .int .i64 0, .int .i64 0, .bool (y1 == 1)]) (by rfl) rfl (run_store35 _ _ (.tmp 8) (.tmp 36) rfl rfl rfl (heap_alloc_new w2 _) rfl rfl (by kernel_rfl)) ?_
    refine hK.out _ _ ?_
    clear hK K
    refine done_ (done_of HT_.out (by kernel_rfl)) ?_
    clear hHeld HT_ HW_
    have hZB := blk_lt HZD.out
    have hsr := setRow_heap (w2.alloc (.cells xZ 35 (0, 0))) w2.heap.size xZ #[.int .i64 (wrap64 y0), .string ⟨#[]⟩, .int .i64 0, .int .i64 0, .int .i64 0, .int .i64 0, .int .i64 0, .bool (y1 == 1)] 35 (0, 0) (heap_alloc_new w2 _)
    have hby := HYB.out
    have hw0 : wrap64 y0 = y0 := by
      have := rd_byte y hby 0 (by decide) (by omega)
      rw [hy0e] at this
      unfold wrap64; omega
    have hX0 : #[Value.int .i64 (wrap64 y0), .string ⟨#[]⟩, .int .i64 0, .int .i64 0, .int .i64 0, .int .i64 0, .int .i64 0, .bool (y1 == 1)] = evC (xM y 0) := by
      rw [hw0, ← hy0e, ← hy1e]; rfl
    rw [hX0] at hsr ⊢
    have hbl := bel_setRow2 (below_alloc (Below.refl w2.heap.size w2) (.cells xZ 35 (0, 0))) (Nat.le_refl _) (evC (xM y 0))
    have HX := Aside0.mk hsr
    have HB3 := Aside0.mk (below_step HDR.out hbl)
    have HSZ := Aside0.mk hsz
    clear hsr hX0 hw0 hbl hby HYD HBD HZD hal hn0 hn1 hm0 hm1 HDR q0 q1 hHeld
    generalize hB : w2.heap.size = Bx at HX hZB HSZ ⊢
    generalize hW3 : (w2.alloc (.cells xZ 35 (0, 0))).setRow Bx (evC (xM y 0)) = w3 at HX ⊢
    rw [hB, hW3] at HB3
    clear hW3 hB hsz
    have HGN := Aside0.mk (show refGet.f y 2 6 = some (getN y 2, 8, 0) from get_num HYB.out 2 (by omega))
    go_upto_region 6 with (go_at_call 56; refine (refGet.calls (some ady) cy y 2 6 _ _ _ _ (Kd.C_below HY.out HB3.out) HYC.out HGN.out).mono ?_; rintro e w5 ⟨rfl, hb5⟩; have hX5 := blk_below HX.out hb5; have HB5 := Aside0.mk (below_step HB3.out hb5); have c0 := (blk_cell hX5 2).trans rfl; have f0 := blk_frozen hX5 2; have HX6 := Aside0.mk (blk_put hX5 2 (.int .i64 (getN y 2)) (show _ = evC (xM y 1) from rfl)); have HB6 := Aside0.mk (HB5.out.setCell (p := ⟨Bx, 2, none⟩) (by rw [← HSZ.out]; exact Nat.le_refl _) (.int .i64 (getN y 2))); clear hX5 hb5)
    clear HX HB3 HB5 HGN c0 f0
    generalize w5.setCell ⟨Bx, 2, none⟩ (.int .i64 (getN y 2)) = w3 at HX6 HB6 ⊢
    have HX := HX6
    have HB3 := HB6
    clear HX6 HB6
    have HGN := Aside0.mk (show refGet.f y 8 6 = some (getN y 8, 14, 0) from get_num HYB.out 8 (by omega))
    go_upto_region 7 with (go_at_call 56; refine (refGet.calls (some ady) cy y 8 6 _ _ _ _ (Kd.C_below HY.out HB3.out) HYC.out HGN.out).mono ?_; rintro e w5 ⟨rfl, hb5⟩; have hX5 := blk_below HX.out hb5; have HB5 := Aside0.mk (below_step HB3.out hb5); have c0 := (blk_cell hX5 3).trans rfl; have f0 := blk_frozen hX5 3; have HX6 := Aside0.mk (blk_put hX5 3 (.int .i64 (getN y 8)) (show _ = evC (xM y 2) from rfl)); have HB6 := Aside0.mk (HB5.out.setCell (p := ⟨Bx, 3, none⟩) (by rw [← HSZ.out]; exact Nat.le_refl _) (.int .i64 (getN y 8))); clear hX5 hb5)
    clear HX HB3 HB5 HGN c0 f0
    generalize w5.setCell ⟨Bx, 3, none⟩ (.int .i64 (getN y 8)) = w3 at HX6 HB6 ⊢
    have HX := HX6
    have HB3 := HB6
    clear HX6 HB6
    have HGN := Aside0.mk (show refGet.f y 14 6 = some (getN y 14, 20, 0) from get_num HYB.out 14 (by omega))
    go_upto_region 8 with (go_at_call 56; refine (refGet.calls (some ady) cy y 14 6 _ _ _ _ (Kd.C_below HY.out HB3.out) HYC.out HGN.out).mono ?_; rintro e w5 ⟨rfl, hb5⟩; have hX5 := blk_below HX.out hb5; have HB5 := Aside0.mk (below_step HB3.out hb5); have c0 := (blk_cell hX5 4).trans rfl; have f0 := blk_frozen hX5 4; have HX6 := Aside0.mk (blk_put hX5 4 (.int .i64 (getN y 14)) (show _ = evC (xM y 3) from rfl)); have HB6 := Aside0.mk (HB5.out.setCell (p := ⟨Bx, 4, none⟩) (by rw [← HSZ.out]; exact Nat.le_refl _) (.int .i64 (getN y 14))); clear hX5 hb5)
    clear HX HB3 HB5 HGN c0 f0
    generalize w5.setCell ⟨Bx, 4, none⟩ (.int .i64 (getN y 14)) = w3 at HX6 HB6 ⊢
    have HX := HX6
    have HB3 := HB6
    clear HX6 HB6
    have HGN := Aside0.mk (show refGet.f y 20 6 = some (getN y 20, 26, 0) from get_num HYB.out 20 (by omega))
    go_upto_region 9 with (go_at_call 56; refine (refGet.calls (some ady) cy y 20 6 _ _ _ _ (Kd.C_below HY.out HB3.out) HYC.out HGN.out).mono ?_; rintro e w5 ⟨rfl, hb5⟩; have hX5 := blk_below HX.out hb5; have HB5 := Aside0.mk (below_step HB3.out hb5); have c0 := (blk_cell hX5 5).trans rfl; have f0 := blk_frozen hX5 5; have HX6 := Aside0.mk (blk_put hX5 5 (.int .i64 (getN y 20)) (show _ = evC (xM y 4) from rfl)); have HB6 := Aside0.mk (HB5.out.setCell (p := ⟨Bx, 5, none⟩) (by rw [← HSZ.out]; exact Nat.le_refl _) (.int .i64 (getN y 20))); clear hX5 hb5)
    clear HX HB3 HB5 HGN c0 f0
    generalize w5.setCell ⟨Bx, 5, none⟩ (.int .i64 (getN y 20)) = w3 at HX6 HB6 ⊢
    have HX := HX6
    have HB3 := HB6
    clear HX6 HB6
    have HGN := Aside0.mk (show refGet.f y 26 6 = some (getN y 26, 32, 0) from get_num HYB.out 26 (by omega))
    go_upto_region 10 with (go_at_call 56; refine (refGet.calls (some ady) cy y 26 6 _ _ _ _ (Kd.C_below HY.out HB3.out) HYC.out HGN.out).mono ?_; rintro e w5 ⟨rfl, hb5⟩; have hX5 := blk_below HX.out hb5; have HB5 := Aside0.mk (below_step HB3.out hb5); have c0 := (blk_cell hX5 6).trans rfl; have f0 := blk_frozen hX5 6; have HX6 := Aside0.mk (blk_put hX5 6 (.int .i64 (getN y 26)) (show _ = evC (xM y 5) from rfl)); have HB6 := Aside0.mk (HB5.out.setCell (p := ⟨Bx, 6, none⟩) (by rw [← HSZ.out]; exact Nat.le_refl _) (.int .i64 (getN y 26))); clear hX5 hb5)
    clear HX HB3 HB5 HGN c0 f0
    generalize w5.setCell ⟨Bx, 6, none⟩ (.int .i64 (getN y 26)) = w3 at HX6 HB6 ⊢
    have HX := HX6
    have HB3 := HB6
    clear HX6 HB6
    obtain ⟨⟨tn, tx, te⟩, htf⟩ : ∃ q, textF y 32 = q := ⟨_, rfl⟩
    have HTX := Aside0.mk (show refGetText.f y 32 = some (tn, tx, te) by unfold refGetText.f wire_GetText.f; rw [if_pos ((isB_iff y).2 HYB.out), htf])
    have HEV := Aside0.mk (show (evC (xM y 5)).setIfInBounds 1 (.string tn) = evC (evOf y) by
      have : tn = (textF y 32).1 := by rw [htf]
      rw [this]; rfl)
    have hR := HRR.out
    rw [htf] at hR
    clear htf HRR
    dsimp only at hR
    generalize evOf y = X at HEV hR
    go_upto_region 11 with (go_at_call 57; refine (refGetText.calls (some ady) cy y 32 _ _ _ _ (Kd.C_below HY.out HB3.out) HYC.out HTX.out).mono ?_; rintro e w5 ⟨rfl, hb5⟩; have hX5 := blk_below HX.out hb5; have HB5 := Aside0.mk (below_step HB3.out hb5); have c0 := (blk_cell hX5 1).trans rfl; have f0 := blk_frozen hX5 1; have HX6 := Aside0.mk (blk_put hX5 1 (.string tn) HEV.out); have HB6 := Aside0.mk (HB5.out.setCell (p := ⟨Bx, 1, none⟩) (by rw [← HSZ.out]; exact Nat.le_refl _) (.string tn)); clear hX5 hb5)
    clear HX HB3 HB5 c0 f0
    generalize w5.setCell ⟨Bx, 1, none⟩ (.string tn) = w6 at HX6 HB6 ⊢
    by_cases hte : te ≠ 0
    · rw [if_pos (.inl hte)] at hR
      have HR1 := Aside0.mk (show R1 = ev0 from (congrArg Prod.fst hR).symm)
      have HR2 := Aside0.mk (show R2 = 22 from (congrArg Prod.snd hR).symm)
      clear hR
      have hte' : (te != 0) = true := bne_iff_ne.2 hte
      have HKL := Aside0.mk (fun (V : World) (h : Below w.heap.size w V) => conv_c c (Kd.C_below HL.out h))
      have hdr := below_drew (Below.refl w6.heap.size w6)
      have HX7 := Aside0.mk (blk_below HX6.out hdr)
      have HB7 := Aside0.mk (below_step HB6.out hdr)
      clear hdr HX6 HB6
      refine start_ (n := 15) (S := fun w' => w'.heap[Bx]? = some (.cells (evC X) 35 (0, 0)) ∧ (convert 64 9 (.slice A l.length c)).run Try.prog w' = .ok (.string (strOfNums l)) w') (ds := []) #[false, false, false, false, false, false, false, false, false, false, false, false, false, false, false] (by kernel_rfl) rfl rfl ⟨HX7.out, HKL.out _ (below_step HB1.out HB7.out)⟩ (fun hHeld => ?_); refine with_tabW tabH11 bitsH11 (fun HT_ HW_ => ?_)
      generalize w6.drew = w7 at HX7 HB7 hHeld ⊢
      refine pure_ (i := 0) (N := (some 79)) (v := ?_) (a' := ?_) #[true, false, false, false, false, false, false, false, false, false, false, false, false, false, false] rfl rfl (any_of HT_.out (by kernel_rfl)) (fun _ _ _ h => h) (Or.inl ⟨by rfl, ?_⟩) ?_ ?_
      rotate_left
      · intro w'
        go_simp
        with_reducible rfl
      rotate_left
      · simp only [Act.put, List.setIfInBounds_toArray, List.set_cons_zero, List.set_cons_succ, i64_w, i32_w]
        rfl
      refine pure_ (i := 1) (N := (some 80)) (v := ?_) (a' := ?_) #[true, true, false, false, false, false, false, false, false, false, false, false, false, false, false] rfl rfl (any_of HT_.out (by kernel_rfl)) (fun _ _ _ h => h) (Or.inl ⟨by rfl, ?_⟩) ?_ ?_
      rotate_left
      · intro w'
        go_simp
        with_reducible rfl
      rotate_left
      · simp only [Act.put, List.setIfInBounds_toArray, List.set_cons_zero, List.set_cons_succ, i64_w, i32_w]
        rfl
      refine pure_ (i := 2) (N := (some 81)) (v := ?_) (a' := ?_) #[true, true, true, false, false, false, false, false, false, false, false, false, false, false, false] rfl rfl (any_of HT_.out (by kernel_rfl)) (fun _ _ _ h => h) (Or.inl ⟨by rfl, ?_⟩) ?_ ?_
      rotate_left
      · intro w'
        go_simp
        with_reducible rfl
      rotate_left
      · simp only [Act.put, List.setIfInBounds_toArray, List.set_cons_zero, List.set_cons_succ, i64_w, i32_w]
        rfl
      refine pure_ (i := 3) (N := (some 82)) (v := undef) (a' := ?_) #[true, true, true, true, false, false, false, false, false, false, false, false, false, false, false] rfl rfl (any_of HT_.out (by kernel_rfl)) (fun _ _ _ h => h) (Or.inr ⟨by rfl, rfl⟩) ?_ ?_
      rotate_left
      · simp only [Act.put, List.setIfInBounds_toArray, List.set_cons_zero, List.set_cons_succ, i64_w, i32_w]
        rfl
      refine one_ (i := 4) (N := (some 83)) #[true, true, true, true, true, false, false, false, false, false, false, false, false, false, false] rfl rfl (one_of HT_.out (by kernel_rfl)) (by decide) (fun K hK => ?_)
      refine off_ (by rfl) ?_
      refine hK.out _ _ hHeld (fun hHeld => ?_)
      clear hK K
      refine norm_ (a' := ?_) ?_ ?_
      rotate_left
      · show Act.put _ (some 83) _ = _
        simp only [Act.put, List.setIfInBounds_toArray, List.set_cons_zero, List.set_cons_succ, i64_w, i32_w]
        rfl
      refine pure_ (i := 5) (N := (some 84)) (v := undef) (a' := ?_) #[true, true, true, true, true, true, false, false, false, false, false, false, false, false, false] rfl rfl (any_of HT_.out (by kernel_rfl)) (fun _ _ _ h => h) (Or.inr ⟨by rfl, rfl⟩) ?_ ?_
      rotate_left
      · simp only [Act.put, List.setIfInBounds_toArray, List.set_cons_zero, List.set_cons_succ, i64_w, i32_w]
        rfl
      refine pure_ (i := 6) (N := (some 85)) (v := ?_) (a' := ?_) #[true, true, true, true, true, true, true, false, false, false, false, false, false, false, false] rfl rfl (any_of HT_.out (by kernel_rfl)) (fun _ _ _ h => h) (Or.inl ⟨by rfl, ?_⟩) ?_ ?_
      rotate_left
      · intro w'
        go_simp
        with_reducible rfl
      rotate_left
      · simp only [Act.put, List.setIfInBounds_toArray, List.set_cons_zero, List.set_cons_succ, i64_w, i32_w]
        rfl
      refine pure_ (i := 7) (N := (some 86)) (v := ?_) (a' := ?_) #[true, true, true, true, true, true, true, true, false, false, false, false, false, false, false] rfl rfl (any_of HT_.out (by kernel_rfl)) (fun _ _ _ h => h) (Or.inl ⟨by rfl, ?_⟩) ?_ ?_
      rotate_left
      · intro w'
        go_simp
        with_reducible rfl
      rotate_left
      · simp only [Act.put, List.setIfInBounds_toArray, List.set_cons_zero, List.set_cons_succ, i64_w, i32_w]
        rfl
      refine pure_ (i := 8) (N := (some 87)) (v := undef) (a' := ?_) #[true, true, true, true, true, true, true, true, true, false, false, false, false, false, false] rfl rfl (any_of HT_.out (by kernel_rfl)) (fun _ _ _ h => h) (Or.inr ⟨by rfl, rfl⟩) ?_ ?_
      rotate_left
      · simp only [Act.put, List.setIfInBounds_toArray, List.set_cons_zero, List.set_cons_succ, i64_w, i32_w]
        rfl
      refine pure_ (i := 11) (N := (some 90)) (v := undef) (a' := ?_) #[true, true, true, true, true, true, true, true, true, false, false, true, false, false, false] rfl rfl (any_of HT_.out (by kernel_rfl)) (fun _ _ _ h => h) (Or.inr ⟨by rfl, rfl⟩) ?_ ?_
      rotate_left
      · simp only [Act.put, List.setIfInBounds_toArray, List.set_cons_zero, List.set_cons_succ, i64_w, i32_w]
        rfl
      refine pure_ (i := 12) (N := (some 91)) (v := undef) (a' := ?_) #[true, true, true, true, true, true, true, true, true, false, false, true, true, false, false] rfl rfl (any_of HT_.out (by kernel_rfl)) (fun _ _ _ h => h) (Or.inr ⟨by rfl, rfl⟩) ?_ ?_
      rotate_left
      · simp only [Act.put, List.setIfInBounds_toArray, List.set_cons_zero, List.set_cons_succ, i64_w, i32_w]
        rfl
      refine one_ (i := 9) (N := (some 88)) #[true, true, true, true, true, true, true, true, true, true, false, true, true, false, false] rfl rfl (one_of HT_.out (by kernel_rfl)) (by decide) (fun K hK => ?_)
      refine off_ (by rfl) ?_
      refine hK.out _ _ hHeld (fun hHeld => ?_)
      clear hK K
      refine norm_ (a' := ?_) ?_ ?_
      rotate_left
      · show Act.put _ (some 88) _ = _
        simp only [Act.put, List.setIfInBounds_toArray, List.set_cons_zero, List.set_cons_succ, i64_w, i32_w]
        rfl
      refine pure_ (i := 10) (N := (some 89)) (v := undef) (a' := ?_) #[true, true, true, true, true, true, true, true, true, true, true, true, true, false, false] rfl rfl (any_of HT_.out (by kernel_rfl)) (fun _ _ _ h => h) (Or.inr ⟨by rfl, rfl⟩) ?_ ?_
      rotate_left
      · simp only [Act.put, List.setIfInBounds_toArray, List.set_cons_zero, List.set_cons_succ, i64_w, i32_w]
        rfl
      refine pure_ (i := 13) (N := (some 92)) (v := undef) (a' := ?_) #[true, true, true, true, true, true, true, true, true, true, true, true, true, true, false] rfl rfl (any_of HT_.out (by kernel_rfl)) (fun _ _ _ h => h) (Or.inr ⟨by rfl, rfl⟩) ?_ ?_
      rotate_left
      · simp only [Act.put, List.setIfInBounds_toArray, List.set_cons_zero, List.set_cons_succ, i64_w, i32_w]
        rfl
      refine pure_ (i := 14) (N := (some 93)) (v := ?_) (a' := ?_) #[true, true, true, true, true, true, true, true, true, true, true, true, true, true, true] rfl rfl (any_of HT_.out (by kernel_rfl)) (fun _ _ _ h => h) (Or.inl ⟨by rfl, ?_⟩) ?_ ?_
      rotate_left
      · intro w'
        go_simp
        with_reducible rfl
      rotate_left
      · simp only [Act.put, List.setIfInBounds_toArray, List.set_cons_zero, List.set_cons_succ, i64_w, i32_w]
        rfl
      refine done_ (done_of HT_.out (by kernel_rfl)) ?_
      clear hHeld HT_ HW_
      have HZ9 := Aside0.mk (blk_below HZ1.out HB7.out)
      go_wp2_with (refine gate_ (.store 35 (.tmp 2) (.tmp 94)) rfl ?_; refine wpList_store_row rfl 35 (.tmp 2) (.tmp 94) rfl w.heap.size (evC ev0) rfl rfl 35 xZ HZ9.out info35 rfl (evC_one ev0) ?_)
      exact bodyPost_ret (v := .tuple #[evE R1, .int .i64 R2]) (by rw [HR1.out, HR2.out]; exact res28 (g := w.heap.size) (x := ev0) rfl rfl (setRow_heap _ _ _ _ _ _ HZ9.out)) rfl ⟨rfl, bel_setRow2 (below_step HB1.out HB7.out) (Nat.le_refl _) _⟩
    obtain rfl : te = 0 := Classical.byContradiction hte
    cases hrx : rightE X with
    | false =>
      rw [hrx, if_pos (.inr (.inl rfl))] at hR
      have HR1 := Aside0.mk (show R1 = ev0 from (congrArg Prod.fst hR).symm)
      have HR2 := Aside0.mk (show R2 = 22 from (congrArg Prod.snd hR).symm)
      clear hR
      have HKL := Aside0.mk (fun (V : World) (h : Below w.heap.size w V) => conv_c c (Kd.C_below HL.out h))
      have hdr := below_drew (Below.refl w6.heap.size w6)
      have HX7 := Aside0.mk (blk_below HX6.out hdr)
      have HB7 := Aside0.mk (below_step HB6.out hdr)
      clear hdr HX6 HB6
      refine start_ (n := 15) (S := fun w' => w'.heap[Bx]? = some (.cells (evC X) 35 (0, 0)) ∧ (convert 64 9 (.slice A l.length c)).run Try.prog w' = .ok (.string (strOfNums l)) w') (ds := []) #[false, false, false, false, false, false, false, false, false, false, false, false, false, false, false] (by kernel_rfl) rfl rfl ⟨HX7.out, HKL.out _ (below_step HB1.out HB7.out)⟩ (fun hHeld => ?_); refine with_tabW tabH11 bitsH11 (fun HT_ HW_ => ?_)
      generalize w6.drew = w7 at HX7 HB7 hHeld ⊢
      refine pure_ (i := 0) (N := (some 79)) (v := ?_) (a' := ?_) #[true, false, false, false, false, false, false, false, false, false, false, false, false, false, false] rfl rfl (any_of HT_.out (by kernel_rfl)) (fun _ _ _ h => h) (Or.inl ⟨by rfl, ?_⟩) ?_ ?_
      rotate_left
      · intro w'
        go_simp
        with_reducible rfl
      rotate_left
      · simp only [Act.put, List.setIfInBounds_toArray, List.set_cons_zero, List.set_cons_succ, i64_w, i32_w]
        rfl
      refine pure_ (i := 1) (N := (some 80)) (v := ?_) (a' := ?_) #[true, true, false, false, false, false, false, false, false, false, false, false, false, false, false] rfl rfl (any_of HT_.out (by kernel_rfl)) (fun _ _ _ h => h) (Or.inl ⟨by rfl, ?_⟩) ?_ ?_
      rotate_left
      · intro w'
        go_simp
        with_reducible rfl
      rotate_left
      · simp only [Act.put, List.setIfInBounds_toArray, List.set_cons_zero, List.set_cons_succ, i64_w, i32_w]
        rfl
      refine pure_ (i := 2) (N := (some 81)) (v := ?_) (a' := ?_) #[true, true, true, false, false, false, false, false, false, false, false, false, false, false, false] rfl rfl (any_of HT_.out (by kernel_rfl)) (fun _ _ _ h => h) (Or.inl ⟨by rfl, ?_⟩) ?_ ?_
      rotate_left
      · intro w'
        go_simp
        with_reducible rfl
      rotate_left
      · simp only [Act.put, List.setIfInBounds_toArray, List.set_cons_zero, List.set_cons_succ, i64_w, i32_w]
        rfl
      refine take_ (i := 3) (N := (some 82)) (v := .agg (evC X)) #[true, true, true, true, false, false, false, false, false, false, false, false, false, false, false] rfl rfl (take_ofW HT_.out HW_.out (by kernel_rfl)) (fun _ _ _ h => h) (Or.inl ⟨by rfl, fun w' s0 => run_load35 _ _ (.tmp 8) rfl rfl s0.1⟩) hHeld rfl ?_
      refine norm_ (a' := ?_) ?_ ?_
      rotate_left
      · show Act.put _ (some 82) _ = _
        simp only [Act.put, List.setIfInBounds_toArray, List.set_cons_zero, List.set_cons_succ, i64_w, i32_w]
        rfl
      refine one_ (i := 4) (N := (some 83)) #[true, true, true, true, true, false, false, false, false, false, false, false, false, false, false] rfl rfl (one_of HT_.out (by kernel_rfl)) (by decide) (fun K hK => ?_)
      refine goes_ Try.func50 (by kernel_rfl) rfl #[.agg (evC X)] (by rfl) rfl rfl (by (try simp only [List.map_toArray, List.map_cons, List.map_nil]); first | done | rfl) ?_
      refine (refRight_c X _).mono ?_
      rintro e w8 ⟨rfl, hb8⟩
      rw [hrx]
      have HX8 := Aside0.mk (blk_below HX7.out hb8)
      have HB8 := Aside0.mk (below_step HB7.out hb8)
      clear hb8
      refine ⟨_, rfl, ?_⟩
      refine hK.out _ _ ⟨HX8.out, HKL.out _ (below_step HB1.out HB8.out)⟩ (fun hHeld => ?_)
      clear hK K
      refine norm_ (a' := ?_) ?_ ?_
      rotate_left
      · show Act.put _ (some 83) _ = _
        simp only [Act.put, List.setIfInBounds_toArray, List.set_cons_zero, List.set_cons_succ, i64_w, i32_w]
        rfl
      refine pure_ (i := 5) (N := (some 84)) (v := ?_) (a' := ?_) #[true, true, true, true, true, true, false, false, false, false, false, false, false, false, false] rfl rfl (any_of HT_.out (by kernel_rfl)) (fun _ _ _ h => h) (Or.inl ⟨by rfl, ?_⟩) ?_ ?_
      rotate_left
      · intro w'
        go_simp
        with_reducible rfl
      rotate_left
      · simp only [Act.put, List.setIfInBounds_toArray, List.set_cons_zero, List.set_cons_succ, i64_w, i32_w]
        rfl
      refine pure_ (i := 6) (N := (some 85)) (v := ?_) (a' := ?_) #[true, true, true, true, true, true, true, false, false, false, false, false, false, false, false] rfl rfl (any_of HT_.out (by kernel_rfl)) (fun _ _ _ h => h) (Or.inl ⟨by rfl, ?_⟩) ?_ ?_
      rotate_left
      · intro w'
        go_simp
        with_reducible rfl
      rotate_left
      · simp only [Act.put, List.setIfInBounds_toArray, List.set_cons_zero, List.set_cons_succ, i64_w, i32_w]
        rfl
      refine pure_ (i := 7) (N := (some 86)) (v := ?_) (a' := ?_) #[true, true, true, true, true, true, true, true, false, false, false, false, false, false, false] rfl rfl (any_of HT_.out (by kernel_rfl)) (fun _ _ _ h => h) (Or.inl ⟨by rfl, ?_⟩) ?_ ?_
      rotate_left
      · intro w'
        go_simp
        with_reducible rfl
      rotate_left
      · simp only [Act.put, List.setIfInBounds_toArray, List.set_cons_zero, List.set_cons_succ, i64_w, i32_w]
        rfl
      refine pure_ (i := 8) (N := (some 87)) (v := undef) (a' := ?_) #[true, true, true, true, true, true, true, true, true, false, false, false, false, false, false] rfl rfl (any_of HT_.out (by kernel_rfl)) (fun _ _ _ h => h) (Or.inr ⟨by rfl, rfl⟩) ?_ ?_
      rotate_left
      · simp only [Act.put, List.setIfInBounds_toArray, List.set_cons_zero, List.set_cons_succ, i64_w, i32_w]
        rfl
      refine pure_ (i := 11) (N := (some 90)) (v := undef) (a' := ?_) #[true, true, true, true, true, true, true, true, true, false, false, true, false, false, false] rfl rfl (any_of HT_.out (by kernel_rfl)) (fun _ _ _ h => h) (Or.inr ⟨by rfl, rfl⟩) ?_ ?_
      rotate_left
      · simp only [Act.put, List.setIfInBounds_toArray, List.set_cons_zero, List.set_cons_succ, i64_w, i32_w]
        rfl
      refine pure_ (i := 12) (N := (some 91)) (v := undef) (a' := ?_) #[true, true, true, true, true, true, true, true, true, false, false, true, true, false, false] rfl rfl (any_of HT_.out (by kernel_rfl)) (fun _ _ _ h => h) (Or.inr ⟨by rfl, rfl⟩) ?_ ?_
      rotate_left
      · simp only [Act.put, List.setIfInBounds_toArray, List.set_cons_zero, List.set_cons_succ, i64_w, i32_w]
        rfl
      refine one_ (i := 9) (N := (some 88)) #[true, true, true, true, true, true, true, true, true, true, false, true, true, false, false] rfl rfl (one_of HT_.out (by kernel_rfl)) (by decide) (fun K hK => ?_)
      refine off_ (by rfl) ?_
      refine hK.out _ _ hHeld (fun hHeld => ?_)
      clear hK K
      refine norm_ (a' := ?_) ?_ ?_
      rotate_left
      · show Act.put _ (some 88) _ = _
        simp only [Act.put, List.setIfInBounds_toArray, List.set_cons_zero, List.set_cons_succ, i64_w, i32_w]
        rfl
      refine pure_ (i := 10) (N := (some 89)) (v := undef) (a' := ?_) #[true, true, true, true, true, true, true, true, true, true, true, true, true, false, false] rfl rfl (any_of HT_.out (by kernel_rfl)) (fun _ _ _ h => h) (Or.inr ⟨by rfl, rfl⟩) ?_ ?_
      rotate_left
      · simp only [Act.put, List.setIfInBounds_toArray, List.set_cons_zero, List.set_cons_succ, i64_w, i32_w]
        rfl
      refine pure_ (i := 13) (N := (some 92)) (v := undef) (a' := ?_) #[true, true, true, true, true, true, true, true, true, true, true, true, true, true, false] rfl rfl (any_of HT_.out (by kernel_rfl)) (fun _ _ _ h => h) (Or.inr ⟨by rfl, rfl⟩) ?_ ?_
      rotate_left
      · simp only [Act.put, List.setIfInBounds_toArray, List.set_cons_zero, List.set_cons_succ, i64_w, i32_w]
        rfl
      refine pure_ (i := 14) (N := (some 93)) (v := ?_) (a' := ?_) #[true, true, true, true, true, true, true, true, true, true, true, true, true, true, true] rfl rfl (any_of HT_.out (by kernel_rfl)) (fun _ _ _ h => h) (Or.inl ⟨by rfl, ?_⟩) ?_ ?_
      rotate_left
      · intro w'
        go_simp
        with_reducible rfl
      rotate_left
      · simp only [Act.put, List.setIfInBounds_toArray, List.set_cons_zero, List.set_cons_succ, i64_w, i32_w]
        rfl
      refine done_ (done_of HT_.out (by kernel_rfl)) ?_
      clear hHeld HT_ HW_
      have HZ9 := Aside0.mk (blk_below HZ1.out HB8.out)
      go_wp2_with (refine gate_ (.store 35 (.tmp 2) (.tmp 94)) rfl ?_; refine wpList_store_row rfl 35 (.tmp 2) (.tmp 94) rfl w.heap.size (evC ev0) rfl rfl 35 xZ HZ9.out info35 rfl (evC_one ev0) ?_)
      exact bodyPost_ret (v := .tuple #[evE R1, .int .i64 R2]) (by rw [HR1.out, HR2.out]; exact res28 (g := w.heap.size) (x := ev0) rfl rfl (setRow_heap _ _ _ _ _ _ HZ9.out)) rfl ⟨rfl, bel_setRow2 (below_step HB1.out HB8.out) (Nat.le_refl _) _⟩
    | true =>
      have HEB := Aside0.mk (show isB (encE X) = true from enc_isB hrx)
      by_cases hen : encE X = l
      · rw [if_neg (by simp [hen, hrx])] at hR
        have HR1 := Aside0.mk (show R1 = X from (congrArg Prod.fst hR).symm)
        have HR2 := Aside0.mk (show R2 = 0 from (congrArg Prod.snd hR).symm)
        clear hR
        have hen' := hen
        have HKL := Aside0.mk (fun (V : World) (h : Below w.heap.size w V) => conv_c c (Kd.C_below HL.out h))
        have hdr := below_drew (Below.refl w6.heap.size w6)
        have HX7 := Aside0.mk (blk_below HX6.out hdr)
        have HB7 := Aside0.mk (below_step HB6.out hdr)
        clear hdr HX6 HB6
        refine start_ (n := 15) (S := fun w' => w'.heap[Bx]? = some (.cells (evC X) 35 (0, 0)) ∧ (convert 64 9 (.slice A l.length c)).run Try.prog w' = .ok (.string (strOfNums l)) w') (ds := []) #[false, false, false, false, false, false, false, false, false, false, false, false, false, false, false] (by kernel_rfl) rfl rfl ⟨HX7.out, HKL.out _ (below_step HB1.out HB7.out)⟩ (fun hHeld => ?_); refine with_tabW tabH11 bitsH11 (fun HT_ HW_ => ?_)
        generalize w6.drew = w7 at HX7 HB7 hHeld ⊢
        refine pure_ (i := 0) (N := (some 79)) (v := ?_) (a' := ?_) #[true, false, false, false, false, false, false, false, false, false, false, false, false, false, false] rfl rfl (any_of HT_.out (by kernel_rfl)) (fun _ _ _ h => h) (Or.inl ⟨by rfl, ?_⟩) ?_ ?_
        rotate_left
        · intro w'
          go_simp
          with_reducible rfl
        rotate_left
        · simp only [Act.put, List.setIfInBounds_toArray, List.set_cons_zero, List.set_cons_succ, i64_w, i32_w]
          rfl
        refine pure_ (i := 1) (N := (some 80)) (v := ?_) (a' := ?_) #[true, true, false, false, false, false, false, false, false, false, false, false, false, false, false] rfl rfl (any_of HT_.out (by kernel_rfl)) (fun _ _ _ h => h) (Or.inl ⟨by rfl, ?_⟩) ?_ ?_
        rotate_left
        · intro w'
          go_simp
          with_reducible rfl
        rotate_left
        · simp only [Act.put, List.setIfInBounds_toArray, List.set_cons_zero, List.set_cons_succ, i64_w, i32_w]
          rfl
        refine pure_ (i := 2) (N := (some 81)) (v := ?_) (a' := ?_) #[true, true, true, false, false, false, false, false, false, false, false, false, false, false, false] rfl rfl (any_of HT_.out (by kernel_rfl)) (fun _ _ _ h => h) (Or.inl ⟨by rfl, ?_⟩) ?_ ?_
        rotate_left
        · intro w'
          go_simp
          with_reducible rfl
        rotate_left
        · simp only [Act.put, List.setIfInBounds_toArray, List.set_cons_zero, List.set_cons_succ, i64_w, i32_w]
          rfl
        refine take_ (i := 3) (N := (some 82)) (v := .agg (evC X)) #[true, true, true, true, false, false, false, false, false, false, false, false, false, false, false] rfl rfl (take_ofW HT_.out HW_.out (by kernel_rfl)) (fun _ _ _ h => h) (Or.inl ⟨by rfl, fun w' s0 => run_load35 _ _ (.tmp 8) rfl rfl s0.1⟩) hHeld rfl ?_
        refine norm_ (a' := ?_) ?_ ?_
        rotate_left
        · show Act.put _ (some 82) _ = _
          simp only [Act.put, List.setIfInBounds_toArray, List.set_cons_zero, List.set_cons_succ, i64_w, i32_w]
          rfl
        refine one_ (i := 4) (N := (some 83)) #[true, true, true, true, true, false, false, false, false, false, false, false, false, false, false] rfl rfl (one_of HT_.out (by kernel_rfl)) (by decide) (fun K hK => ?_)
        refine goes_ Try.func50 (by kernel_rfl) rfl #[.agg (evC X)] (by rfl) rfl rfl (by (try simp only [List.map_toArray, List.map_cons, List.map_nil]); first | done | rfl) ?_
        refine (refRight_c X _).mono ?_
        rintro e w8 ⟨rfl, hb8⟩
        rw [hrx]
        have HX8 := Aside0.mk (blk_below HX7.out hb8)
        have HB8 := Aside0.mk (below_step HB7.out hb8)
        clear hb8
        refine ⟨_, rfl, ?_⟩
        refine hK.out _ _ ⟨HX8.out, HKL.out _ (below_step HB1.out HB8.out)⟩ (fun hHeld => ?_)
        clear hK K
        refine norm_ (a' := ?_) ?_ ?_
        rotate_left
        · show Act.put _ (some 83) _ = _
          simp only [Act.put, List.setIfInBounds_toArray, List.set_cons_zero, List.set_cons_succ, i64_w, i32_w]
          rfl
        refine pure_ (i := 5) (N := (some 84)) (v := ?_) (a' := ?_) #[true, true, true, true, true, true, false, false, false, false, false, false, false, false, false] rfl rfl (any_of HT_.out (by kernel_rfl)) (fun _ _ _ h => h) (Or.inl ⟨by rfl, ?_⟩) ?_ ?_
        rotate_left
        · intro w'
          go_simp
          with_reducible rfl
        rotate_left
        · simp only [Act.put, List.setIfInBounds_toArray, List.set_cons_zero, List.set_cons_succ, i64_w, i32_w]
          rfl
        refine pure_ (i := 6) (N := (some 85)) (v := ?_) (a' := ?_) #[true, true, true, true, true, true, true, false, false, false, false, false, false, false, false] rfl rfl (any_of HT_.out (by kernel_rfl)) (fun _ _ _ h => h) (Or.inl ⟨by rfl, ?_⟩) ?_ ?_
        rotate_left
        · intro w'
          go_simp
          with_reducible rfl
        rotate_left
        · simp only [Act.put, List.setIfInBounds_toArray, List.set_cons_zero, List.set_cons_succ, i64_w, i32_w]
          rfl
        refine pure_ (i := 7) (N := (some 86)) (v := ?_) (a' := ?_) #[true, true, true, true, true, true, true, true, false, false, false, false, false, false, false] rfl rfl (any_of HT_.out (by kernel_rfl)) (fun _ _ _ h => h) (Or.inl ⟨by rfl, ?_⟩) ?_ ?_
        rotate_left
        · intro w'
          go_simp
          with_reducible rfl
        rotate_left
        · simp only [Act.put, List.setIfInBounds_toArray, List.set_cons_zero, List.set_cons_succ, i64_w, i32_w]
          rfl
        refine take_ (i := 8) (N := (some 87)) (v := .agg (evC X)) #[true, true, true, true, true, true, true, true, true, false, false, false, false, false, false] rfl rfl (take_ofW HT_.out HW_.out (by kernel_rfl)) (fun _ _ _ h => h) (Or.inl ⟨by rfl, fun w' s0 => run_load35 _ _ (.tmp 8) rfl rfl s0.1⟩) hHeld rfl ?_
        refine norm_ (a' := ?_) ?_ ?_
        rotate_left
        · show Act.put _ (some 87) _ = _
          simp only [Act.put, List.setIfInBounds_toArray, List.set_cons_zero, List.set_cons_succ, i64_w, i32_w]
          rfl
        refine pure_ (i := 11) (N := (some 90)) (v := ?_) (a' := ?_) #[true, true, true, true, true, true, true, true, true, false, false, true, false, false, false] rfl rfl (any_of HT_.out (by kernel_rfl)) (fun _ _ _ h => h) (Or.inl ⟨by rfl, ?_⟩) ?_ ?_
        rotate_left
        · intro w'
          go_simp
          with_reducible rfl
        rotate_left
        · simp only [Act.put, List.setIfInBounds_toArray, List.set_cons_zero, List.set_cons_succ, i64_w, i32_w]
          rfl
        refine take_ (i := 12) (N := (some 91)) (v := ?_) (a' := ?_) #[true, true, true, true, true, true, true, true, true, false, false, true, true, false, false] rfl rfl (take_ofW HT_.out HW_.out (by kernel_rfl)) (fun _ _ _ h => h) (Or.inl ⟨by rfl, ?_⟩) hHeld ?_ ?_
        rotate_left
        · rintro w' ⟨s0, s1⟩
          go_simp
          with_reducible rfl
        rotate_left
        · simp only [Act.put, List.setIfInBounds_toArray, List.set_cons_zero, List.set_cons_succ, i64_w, i32_w]
          rfl
        refine one_ (i := 9) (N := (some 88)) #[true, true, true, true, true, true, true, true, true, true, false, true, true, false, false] rfl rfl (one_of HT_.out (by kernel_rfl)) (by decide) (fun K hK => ?_)
        refine goes_ Try.func51 (by kernel_rfl) rfl #[.agg (evC X)] (by rfl) rfl rfl (by (try simp only [List.map_toArray, List.map_cons, List.map_nil]); first | done | rfl) ?_
        refine (refWrite_c X hrx _).mono ?_
        rintro e w9 ⟨v9, rfl, hR9, hb9⟩
        rw [hen'] at hR9
        obtain ⟨A9, c9, rfl⟩ := Kd.R_slice hR9
        have HX9 := Aside0.mk (blk_below HX8.out hb9)
        have HB9 := Aside0.mk (below_step HB8.out hb9)
        have HC9 := Aside0.mk (conv_c c9 (Kd.R_reads' hR9).2.2)
        clear hb9 hR9
        refine ⟨_, rfl, ?_⟩
        refine hK.out _ _ ⟨HX9.out, HKL.out _ (below_step HB1.out HB9.out)⟩ (fun hHeld => ?_)
        clear hK K
        refine norm_ (a' := ?_) ?_ ?_
        rotate_left
        · show Act.put _ (some 88) _ = _
          simp only [Act.put, List.setIfInBounds_toArray, List.set_cons_zero, List.set_cons_succ, i64_w, i32_w]
          rfl
        refine one_ (i := 10) (N := (some 89)) #[true, true, true, true, true, true, true, true, true, true, true, true, true, false, false] rfl rfl (one_of HT_.out (by kernel_rfl)) (by decide) (fun K hK => ?_)
        refine val_ (by rfl) rfl (run_conv _ _ (.tmp 88) rfl rfl HC9.out) ?_
        refine hK.out _ _ hHeld (fun hHeld => ?_)
        clear hK K
        refine norm_ (a' := ?_) ?_ ?_
        rotate_left
        · show Act.put _ (some 89) _ = _
          simp only [Act.put, List.setIfInBounds_toArray, List.set_cons_zero, List.set_cons_succ, i64_w, i32_w]
          rfl
        refine pure_ (i := 13) (N := (some 92)) (v := ?_) (a' := ?_) #[true, true, true, true, true, true, true, true, true, true, true, true, true, true, false] rfl rfl (any_of HT_.out (by kernel_rfl)) (fun _ _ _ h => h) (Or.inl ⟨by rfl, ?_⟩) ?_ ?_
        rotate_left
        · intro w'
          go_simp
          with_reducible rfl
        rotate_left
        · simp only [Act.put, List.setIfInBounds_toArray, List.set_cons_zero, List.set_cons_succ, i64_w, i32_w]
          rfl
        refine pure_ (i := 14) (N := (some 93)) (v := ?_) (a' := ?_) #[true, true, true, true, true, true, true, true, true, true, true, true, true, true, true] rfl rfl (any_of HT_.out (by kernel_rfl)) (fun _ _ _ h => h) (Or.inl ⟨by rfl, ?_⟩) ?_ ?_
        rotate_left
        · intro w'
          go_simp
          with_reducible rfl
        rotate_left
        · simp only [Act.put, List.setIfInBounds_toArray, List.set_cons_zero, List.set_cons_succ, i64_w, i32_w]
          rfl
        refine done_ (done_of HT_.out (by kernel_rfl)) ?_
        clear hHeld HT_ HW_
        have HZ9 := Aside0.mk (blk_below HZ1.out HB9.out)
        go_wp2_with (first | (refine gate_ (.load 35 (.tmp 8)) rfl ?_; refine wpList_load_row rfl 35 (.tmp 8) rfl Bx rfl 35 (evC X) (0, 0) _ HX9.out Try.underlying35 rfl info35 ?_) | (refine gate_ (.store 35 (.tmp 2) (.tmp 95)) rfl ?_; refine wpList_store_row rfl 35 (.tmp 2) (.tmp 95) rfl w.heap.size (evC X) rfl rfl 35 xZ HZ9.out info35 rfl (evC_one X) ?_))
        exact bodyPost_ret (v := .tuple #[evE R1, .int .i64 R2]) (by rw [HR1.out, HR2.out]; exact res28 (g := w.heap.size) (x := X) rfl rfl (setRow_heap _ _ _ _ _ _ HZ9.out)) rfl ⟨rfl, bel_setRow2 (below_step HB1.out HB9.out) (Nat.le_refl _) _⟩
      · rw [if_pos (.inr (.inr hen))] at hR
        have HR1 := Aside0.mk (show R1 = ev0 from (congrArg Prod.fst hR).symm)
        have HR2 := Aside0.mk (show R2 = 22 from (congrArg Prod.snd hR).symm)
        clear hR
        have hsn : ((strOfNums (encE X)).toList == (strOfNums l).toList) = false := beq_eq_false_iff_ne.2 (fun e => hen (strOf_inj HEB.out ((isB_iff l).2 hb) e))
        have HKL := Aside0.mk (fun (V : World) (h : Below w.heap.size w V) => conv_c c (Kd.C_below HL.out h))
        have hdr := below_drew (Below.refl w6.heap.size w6)
        have HX7 := Aside0.mk (blk_below HX6.out hdr)
        have HB7 := Aside0.mk (below_step HB6.out hdr)
        clear hdr HX6 HB6
        refine start_ (n := 15) (S := fun w' => w'.heap[Bx]? = some (.cells (evC X) 35 (0, 0)) ∧ (convert 64 9 (.slice A l.length c)).run Try.prog w' = .ok (.string (strOfNums l)) w') (ds := []) #[false, false, false, false, false, false, false, false, false, false, false, false, false, false, false] (by kernel_rfl) rfl rfl ⟨HX7.out, HKL.out _ (below_step HB1.out HB7.out)⟩ (fun hHeld => ?_); refine with_tabW tabH11 bitsH11 (fun HT_ HW_ => ?_)
        generalize w6.drew = w7 at HX7 HB7 hHeld ⊢
        refine pure_ (i := 0) (N := (some 79)) (v := ?_) (a' := ?_) #[true, false, false, false, false, false, false, false, false, false, false, false, false, false, false] rfl rfl (any_of HT_.out (by kernel_rfl)) (fun _ _ _ h => h) (Or.inl ⟨by rfl, ?_⟩) ?_ ?_
        rotate_left
        · intro w'
          go_simp
          with_reducible rfl
        rotate_left
        · simp only [Act.put, List.setIfInBounds_toArray, List.set_cons_zero, List.set_cons_succ, i64_w, i32_w]
          rfl
        refine pure_ (i := 1) (N := (some 80)) (v := ?_) (a' := ?_) #[true, true, false, false, false, false, false, false, false, false, false, false, false, false, false] rfl rfl (any_of HT_.out (by kernel_rfl)) (fun _ _ _ h => h) (Or.inl ⟨by rfl, ?_⟩) ?_ ?_
        rotate_left
        · intro w'
          go_simp
          with_reducible rfl
        rotate_left
        · simp only [Act.put, List.setIfInBounds_toArray, List.set_cons_zero, List.set_cons_succ, i64_w, i32_w]
          rfl
        refine pure_ (i := 2) (N := (some 81)) (v := ?_) (a' := ?_) #[true, true, true, false, false, false, false, false, false, false, false, false, false, false, false] rfl rfl (any_of HT_.out (by kernel_rfl)) (fun _ _ _ h => h) (Or.inl ⟨by rfl, ?_⟩) ?_ ?_
        rotate_left
        · intro w'
          go_simp
          with_reducible rfl
        rotate_left
        · simp only [Act.put, List.setIfInBounds_toArray, List.set_cons_zero, List.set_cons_succ, i64_w, i32_w]
          rfl
        refine take_ (i := 3) (N := (some 82)) (v := .agg (evC X)) #[true, true, true, true, false, false, false, false, false, false, false, false, false, false, false] rfl rfl (take_ofW HT_.out HW_.out (by kernel_rfl)) (fun _ _ _ h => h) (Or.inl ⟨by rfl, fun w' s0 => run_load35 _ _ (.tmp 8) rfl rfl s0.1⟩) hHeld rfl ?_
        refine norm_ (a' := ?_) ?_ ?_
        rotate_left
        · show Act.put _ (some 82) _ = _
          simp only [Act.put, List.setIfInBounds_toArray, List.set_cons_zero, List.set_cons_succ, i64_w, i32_w]
          rfl
        refine one_ (i := 4) (N := (some 83)) #[true, true, true, true, true, false, false, false, false, false, false, false, false, false, false] rfl rfl (one_of HT_.out (by kernel_rfl)) (by decide) (fun K hK => ?_)
        refine goes_ Try.func50 (by kernel_rfl) rfl #[.agg (evC X)] (by rfl) rfl rfl (by (try simp only [List.map_toArray, List.map_cons, List.map_nil]); first | done | rfl) ?_
        refine (refRight_c X _).mono ?_
        rintro e w8 ⟨rfl, hb8⟩
        rw [hrx]
        have HX8 := Aside0.mk (blk_below HX7.out hb8)
        have HB8 := Aside0.mk (below_step HB7.out hb8)
        clear hb8
        refine ⟨_, rfl, ?_⟩
        refine hK.out _ _ ⟨HX8.out, HKL.out _ (below_step HB1.out HB8.out)⟩ (fun hHeld => ?_)
        clear hK K
        refine norm_ (a' := ?_) ?_ ?_
        rotate_left
        · show Act.put _ (some 83) _ = _
          simp only [Act.put, List.setIfInBounds_toArray, List.set_cons_zero, List.set_cons_succ, i64_w, i32_w]
          rfl
        refine pure_ (i := 5) (N := (some 84)) (v := ?_) (a' := ?_) #[true, true, true, true, true, true, false, false, false, false, false, false, false, false, false] rfl rfl (any_of HT_.out (by kernel_rfl)) (fun _ _ _ h => h) (Or.inl ⟨by rfl, ?_⟩) ?_ ?_
        rotate_left
        · intro w'
          go_simp
          with_reducible rfl
        rotate_left
        · simp only [Act.put, List.setIfInBounds_toArray, List.set_cons_zero, List.set_cons_succ, i64_w, i32_w]
          rfl
        refine pure_ (i := 6) (N := (some 85)) (v := ?_) (a' := ?_) #[true, true, true, true, true, true, true, false, false, false, false, false, false, false, false] rfl rfl (any_of HT_.out (by kernel_rfl)) (fun _ _ _ h => h) (Or.inl ⟨by rfl, ?_⟩) ?_ ?_
        rotate_left
        · intro w'
          go_simp
          with_reducible rfl
        rotate_left
        · simp only [Act.put, List.setIfInBounds_toArray, List.set_cons_zero, List.set_cons_succ, i64_w, i32_w]
          rfl
        refine pure_ (i := 7) (N := (some 86)) (v := ?_) (a' := ?_) #[true, true, true, true, true, true, true, true, false, false, false, false, false, false, false] rfl rfl (any_of HT_.out (by kernel_rfl)) (fun _ _ _ h => h) (Or.inl ⟨by rfl, ?_⟩) ?_ ?_
        rotate_left
        · intro w'
          go_simp
          with_reducible rfl
        rotate_left
        · simp only [Act.put, List.setIfInBounds_toArray, List.set_cons_zero, List.set_cons_succ, i64_w, i32_w]
          rfl
        refine take_ (i := 8) (N := (some 87)) (v := .agg (evC X)) #[true, true, true, true, true, true, true, true, true, false, false, false, false, false, false] rfl rfl (take_ofW HT_.out HW_.out (by kernel_rfl)) (fun _ _ _ h => h) (Or.inl ⟨by rfl, fun w' s0 => run_load35 _ _ (.tmp 8) rfl rfl s0.1⟩) hHeld rfl ?_
        refine norm_ (a' := ?_) ?_ ?_
        rotate_left
        · show Act.put _ (some 87) _ = _
          simp only [Act.put, List.setIfInBounds_toArray, List.set_cons_zero, List.set_cons_succ, i64_w, i32_w]
          rfl
        refine pure_ (i := 11) (N := (some 90)) (v := ?_) (a' := ?_) #[true, true, true, true, true, true, true, true, true, false, false, true, false, false, false] rfl rfl (any_of HT_.out (by kernel_rfl)) (fun _ _ _ h => h) (Or.inl ⟨by rfl, ?_⟩) ?_ ?_
        rotate_left
        · intro w'
          go_simp
          with_reducible rfl
        rotate_left
        · simp only [Act.put, List.setIfInBounds_toArray, List.set_cons_zero, List.set_cons_succ, i64_w, i32_w]
          rfl
        refine take_ (i := 12) (N := (some 91)) (v := ?_) (a' := ?_) #[true, true, true, true, true, true, true, true, true, false, false, true, true, false, false] rfl rfl (take_ofW HT_.out HW_.out (by kernel_rfl)) (fun _ _ _ h => h) (Or.inl ⟨by rfl, ?_⟩) hHeld ?_ ?_
        rotate_left
        · rintro w' ⟨s0, s1⟩
          go_simp
          with_reducible rfl
        rotate_left
        · simp only [Act.put, List.setIfInBounds_toArray, List.set_cons_zero, List.set_cons_succ, i64_w, i32_w]
          rfl
        refine one_ (i := 9) (N := (some 88)) #[true, true, true, true, true, true, true, true, true, true, false, true, true, false, false] rfl rfl (one_of HT_.out (by kernel_rfl)) (by decide) (fun K hK => ?_)
        refine goes_ Try.func51 (by kernel_rfl) rfl #[.agg (evC X)] (by rfl) rfl rfl (by (try simp only [List.map_toArray, List.map_cons, List.map_nil]); first | done | rfl) ?_
        refine (refWrite_c X hrx _).mono ?_
        rintro e w9 ⟨v9, rfl, hR9, hb9⟩
        skip
        obtain ⟨A9, c9, rfl⟩ := Kd.R_slice hR9
        have HX9 := Aside0.mk (blk_below HX8.out hb9)
        have HB9 := Aside0.mk (below_step HB8.out hb9)
        have HC9 := Aside0.mk (conv_c c9 (Kd.R_reads' hR9).2.2)
        clear hb9 hR9
        refine ⟨_, rfl, ?_⟩
        refine hK.out _ _ ⟨HX9.out, HKL.out _ (below_step HB1.out HB9.out)⟩ (fun hHeld => ?_)
        clear hK K
        refine norm_ (a' := ?_) ?_ ?_
        rotate_left
        · show Act.put _ (some 88) _ = _
          simp only [Act.put, List.setIfInBounds_toArray, List.set_cons_zero, List.set_cons_succ, i64_w, i32_w]
          rfl
        refine one_ (i := 10) (N := (some 89)) #[true, true, true, true, true, true, true, true, true, true, true, true, true, false, false] rfl rfl (one_of HT_.out (by kernel_rfl)) (by decide) (fun K hK => ?_)
        refine val_ (by rfl) rfl (run_conv _ _ (.tmp 88) rfl rfl HC9.out) ?_
        refine hK.out _ _ hHeld (fun hHeld => ?_)
        clear hK K
        refine norm_ (a' := ?_) ?_ ?_
        rotate_left
        · show Act.put _ (some 89) _ = _
          simp only [Act.put, List.setIfInBounds_toArray, List.set_cons_zero, List.set_cons_succ, i64_w, i32_w]
          rfl
        refine pure_ (i := 13) (N := (some 92)) (v := ?_) (a' := ?_) #[true, true, true, true, true, true, true, true, true, true, true, true, true, true, false] rfl rfl (any_of HT_.out (by kernel_rfl)) (fun _ _ _ h => h) (Or.inl ⟨by rfl, ?_⟩) ?_ ?_
        rotate_left
        · intro w'
          go_simp
          with_reducible rfl
        rotate_left
        · simp only [Act.put, List.setIfInBounds_toArray, List.set_cons_zero, List.set_cons_succ, i64_w, i32_w]
          rfl
        refine pure_ (i := 14) (N := (some 93)) (v := ?_) (a' := ?_) #[true, true, true, true, true, true, true, true, true, true, true, true, true, true, true] rfl rfl (any_of HT_.out (by kernel_rfl)) (fun _ _ _ h => h) (Or.inl ⟨by rfl, ?_⟩) ?_ ?_
        rotate_left
        · intro w'
          go_simp
          with_reducible rfl
        rotate_left
        · simp only [Act.put, List.setIfInBounds_toArray, List.set_cons_zero, List.set_cons_succ, i64_w, i32_w]
          rfl
        refine done_ (done_of HT_.out (by kernel_rfl)) ?_
        clear hHeld HT_ HW_
        have HZ9 := Aside0.mk (blk_below HZ1.out HB9.out)
        go_wp2_with (refine gate_ (.store 35 (.tmp 2) (.tmp 94)) rfl ?_; refine wpList_store_row rfl 35 (.tmp 2) (.tmp 94) rfl w.heap.size (evC ev0) rfl rfl 35 xZ HZ9.out info35 rfl (evC_one ev0) ?_)
        exact bodyPost_ret (v := .tuple #[evE R1, .int .i64 R2]) (by rw [HR1.out, HR2.out]; exact res28 (g := w.heap.size) (x := ev0) rfl rfl (setRow_heap _ _ _ _ _ _ HZ9.out)) rfl ⟨rfl, bel_setRow2 (below_step HB1.out HB9.out) (Nat.le_refl _) _⟩
end Go.Proofs.Ytofegigbhohebaa.Hand
