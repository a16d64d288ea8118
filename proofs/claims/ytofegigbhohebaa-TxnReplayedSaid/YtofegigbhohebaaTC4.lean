/- GetEvent. -/
import Derived.Test.YtofegigbhohebaaTC3
namespace Go.Proofs.Ytofegigbhohebaa.Hand
open Go.RowKit Go.Proofs.Ytofegigbhohebaa Go.Proofs.YtofegigbhohebaaW.PrintWords Go.Proofs.YtofegigbhohebaaW.PrintLast
set_option linter.unusedVariables false
set_option linter.unusedSimpArgs false
def getN (y : List Int) (p : Nat) : Int := ((leN ((y.take (p + 6)).drop p) : Nat) : Int)
/-- What a frame's body says. -/
def evOf (y : List Int) : EvV := ⟨rd y 0, (textF y 32).1, getN y 2, getN y 8, getN y 14, getN y 20, getN y 26, decide (rd y 1 = 1)⟩
def ev0 : EvV := ⟨0, ⟨#[]⟩, 0, 0, 0, 0, 0, false⟩
/-- What both GetEvents answer. -/
def getEF (l : List Int) : EvV × Int :=
  if (unfF l 0).2.2.2 ≠ 0 ∨ (unfF l 0).1 ≠ 33 ∨ (unfF l 0).2.1.length < 34 then (ev0, 22)
  else if (textF (unfF l 0).2.1 32).2.2 ≠ 0 ∨ rightE (evOf (unfF l 0).2.1) = false ∨ encE (evOf (unfF l 0).2.1) ≠ l then (ev0, 22)
  else (evOf (unfF l 0).2.1, 0)
def evC (x : EvV) : Array Value := #[.int .i64 x.kind, .string x.name, .int .i64 x.producer, .int .i64 x.epoch, .int .i64 x.place, .int .i64 x.timeout, .int .i64 x.now, .bool x.yes]
def xZ : Array Value := #[.int .i64 0, .string ⟨#[]⟩, .int .i64 0, .int .i64 0, .int .i64 0, .int .i64 0, .int .i64 0, .bool false]
/-- The event as it is read: the first m numbers are there. -/
def xM (y : List Int) (m : Nat) : EvV := ⟨rd y 0, ⟨#[]⟩, if 0 < m then getN y 2 else 0, if 1 < m then getN y 8 else 0, if 2 < m then getN y 14 else 0, if 3 < m then getN y 20 else 0, if 4 < m then getN y 26 else 0, decide (rd y 1 = 1)⟩
theorem info33 : (Try.prog.info? 33).map (·.size) = some 8 := by kernel_rfl
theorem val_ {P : Program} {ops : Array Oper} {Q : Exit → Act → World → Prop} {oi : Oper} {N : Option Tmp} {a : Act} {w w1 : World} {v : Value} {K : Act → World → Prop} (hw : Region.wanted oi (yielded ops a.tmps) = true) (hN : oi.dst = N) (hrun : (execOp a.eval oi).run P w = .ok (.value v) w1) (h : K (a.put N v) w1) :
    if Region.wanted oi (yielded ops a.tmps) = true then Oper.wp P oi a w K Q else K (a.put N undef) w := by
  subst hN
  rw [if_pos hw]
  unfold Oper.wp
  rw [hrun]
  exact h
theorem run_alloc33 (ev : Operand → Value) (o : Oper) (ho : o.op = .alloc 33) (w : World) : (execOp ev o).run Try.prog w = .ok (.value (.pointer (some ⟨w.heap.size, 0, none⟩))) (w.alloc (.cells xZ 33 (0, 0))) := by
  unfold execOp
  rw [ho]
  kernel_rfl
theorem bel_setRow2 {B g : Nat} {w0 w : World} (hb : Below B w0 w) (hg : B ≤ g) (cs : Array Value) : Below B w0 (w.setRow g cs) :=
  ⟨hb.os, hb.tape, hb.output, by rw [size_setRow]; exact hb.size, fun k hk => (setRow_other w g k cs (by omega)).trans (hb.block k hk)⟩
theorem strOf_bytesOf (s : ByteArray) : strOfNums (bytesOf s) = s := by
  unfold strOfNums bytesOf
  rw [List.map_map]
  have : ((fun n : Int => UInt8.ofNat n.toNat) ∘ fun b : UInt8 => ((b.toNat : Nat) : Int)) = id := by
    funext b
    simp
  rw [this, List.map_id]
theorem bytesOf_strOf {l : List Int} (h : isB l = true) : bytesOf (strOfNums l) = l := by
  unfold strOfNums bytesOf
  simp only [List.map_map]
  have e : ∀ x ∈ l, ((fun b : UInt8 => ((b.toNat : Nat) : Int)) ∘ fun n : Int => UInt8.ofNat n.toNat) x = x := by
    intro x hx
    have := (isB_iff l).1 h x hx
    simp only [Function.comp, UInt8.toNat_ofNat']
    omega
  rw [List.map_congr_left e, List.map_id']
theorem strOf_inj {l m : List Int} (hl : isB l = true) (hm : isB m = true) (h : (strOfNums l).toList = (strOfNums m).toList) : l = m := by
  rw [ByteArray.toList_eq, ByteArray.toList_eq] at h
  have : strOfNums l = strOfNums m := by
    cases a : strOfNums l; cases b : strOfNums m
    rw [a, b] at h
    congr 1
    exact Array.toList_inj.1 h
  rw [← bytesOf_strOf hl, this, bytesOf_strOf hm]
theorem conv_c {W : World} {A : Option Addr} {x : List Int} (c : Nat) (h : Kd.C (Kd.int .u8) W A x.length x) : (convert 64 9 (.slice A x.length c)).run Try.prog W = .ok (.string (strOfNums x)) W :=
  Kd.C_string (P := Try.prog) (src := 64) (dst := 9) (e := 5) (by kernel_rfl) (by kernel_rfl) (by kernel_rfl) h
theorem run_store33 {w : World} {g : Nat} {old cells : Array Value} (ev : Operand → Value) (o : Oper) (p x : Operand) (ho : o.op = .store 33 p x) (hx : ev p = .pointer (some ⟨g, 0, none⟩)) (hy : ev x = .agg cells) (hg : w.heap[g]? = some (.cells old 33 (0, 0))) (h8 : cells.size = 8) (ho8 : old.size = 8) (h1 : cells.all (·.oneCell') = true) : (execOp ev o).run Try.prog w = .ok .skip (w.setRow g cells) := by
  unfold execOp
  simp only [ho, hx, hy, Instr.storeAt, Instr.sureAddr, Sem.run_bind, Sem.run_pure, Result.andThen_ok, run_storeVar_row w g 33 33 old cells hg (by rw [info33, h8]) (by rw [ho8, h8]) h1]
theorem evC_one (x : EvV) : (evC x).all (·.oneCell') = true := by kernel_rfl
theorem res27 {ts : Array Value} {w : World} {g : Nat} {x : EvV} {e : Int} (t2 : ts.getD 2 undef = .pointer (some ⟨g, 0, none⟩)) (t3 : ts.getD 3 undef = .int .i64 e) (hg : w.heap[g]? = some (.cells (evC x) 33 (0, 0))) : (results Try.f27 ts).run Try.prog w = .ok (.tuple #[evE x, .int .i64 e]) w := by
  rw [Array.getD_eq_getD_getElem?] at t2 t3
  have c0 : w.cell? ⟨g, 0, none⟩ = some (.int .i64 x.kind) := blk_cell hg 0
  have c1 : w.cell? ⟨g, 1, none⟩ = some (.string x.name) := blk_cell hg 1
  have c2 : w.cell? ⟨g, 2, none⟩ = some (.int .i64 x.producer) := blk_cell hg 2
  have c3 : w.cell? ⟨g, 3, none⟩ = some (.int .i64 x.epoch) := blk_cell hg 3
  have c4 : w.cell? ⟨g, 4, none⟩ = some (.int .i64 x.place) := blk_cell hg 4
  have c5 : w.cell? ⟨g, 5, none⟩ = some (.int .i64 x.timeout) := blk_cell hg 5
  have c6 : w.cell? ⟨g, 6, none⟩ = some (.int .i64 x.now) := blk_cell hg 6
  have c7 : w.cell? ⟨g, 7, none⟩ = some (.bool x.yes) := blk_cell hg 7
  simp [results, Try.results27, go_sem, t2, t3, c0, c1, c2, c3, c4, c5, c6, c7, evE]
theorem idxP_0 (B : Nat) (w : World) : (Instr.index 104 (.agg #[.pointer (some ⟨B, 2, none⟩), .pointer (some ⟨B, 3, none⟩), .pointer (some ⟨B, 4, none⟩), .pointer (some ⟨B, 5, none⟩), .pointer (some ⟨B, 6, none⟩)]) (.int .i64 0)).run Try.prog w = .ok (.pointer (some ⟨B, 2, none⟩)) w := by kernel_rfl
theorem idxP_1 (B : Nat) (w : World) : (Instr.index 104 (.agg #[.pointer (some ⟨B, 2, none⟩), .pointer (some ⟨B, 3, none⟩), .pointer (some ⟨B, 4, none⟩), .pointer (some ⟨B, 5, none⟩), .pointer (some ⟨B, 6, none⟩)]) (.int .i64 1)).run Try.prog w = .ok (.pointer (some ⟨B, 3, none⟩)) w := by kernel_rfl
theorem idxP_2 (B : Nat) (w : World) : (Instr.index 104 (.agg #[.pointer (some ⟨B, 2, none⟩), .pointer (some ⟨B, 3, none⟩), .pointer (some ⟨B, 4, none⟩), .pointer (some ⟨B, 5, none⟩), .pointer (some ⟨B, 6, none⟩)]) (.int .i64 2)).run Try.prog w = .ok (.pointer (some ⟨B, 4, none⟩)) w := by kernel_rfl
theorem idxP_3 (B : Nat) (w : World) : (Instr.index 104 (.agg #[.pointer (some ⟨B, 2, none⟩), .pointer (some ⟨B, 3, none⟩), .pointer (some ⟨B, 4, none⟩), .pointer (some ⟨B, 5, none⟩), .pointer (some ⟨B, 6, none⟩)]) (.int .i64 3)).run Try.prog w = .ok (.pointer (some ⟨B, 5, none⟩)) w := by kernel_rfl
theorem idxP_4 (B : Nat) (w : World) : (Instr.index 104 (.agg #[.pointer (some ⟨B, 2, none⟩), .pointer (some ⟨B, 3, none⟩), .pointer (some ⟨B, 4, none⟩), .pointer (some ⟨B, 5, none⟩), .pointer (some ⟨B, 6, none⟩)]) (.int .i64 4)).run Try.prog w = .ok (.pointer (some ⟨B, 6, none⟩)) w := by kernel_rfl
theorem get_num {y : List Int} (hb : isBytes y) (p : Nat) (h : p + 6 ≤ y.length) : wire_Get.f y (p : Int) 6 = some (getN y p, ((p + 6 : Nat) : Int), 0) := by
  unfold wire_Get.f
  rw [if_pos ((isB_iff y).2 hb), show (6 : Int) = ((6 : Nat) : Int) from rfl, getF_in y p 6 (by omega) (by omega) h]
  rfl
theorem enc_isB {x : EvV} (h : rightE x = true) : isB (encE x) = true := by
  have hl := evBody_len h
  unfold encE frameF
  rw [if_neg (by decide), if_neg (by decide), if_neg (by omega)]
  exact (isB_iff _).2 (isBytes_append (frameB_bytes (by decide) (by decide) (evBody_bytes x)) (lowL_bytes _ _))
theorem unf_bytes {l : List Int} (hb : isBytes l) : isBytes (unfF l 0).2.1 ∧ (unfF l 0).2.1.length ≤ l.length := by
  have hn : isBytes ([] : List Int) := fun x hx => by cases hx
  unfold unfF unfN
  repeat' split
  all_goals first
    | exact ⟨hn, Nat.zero_le _⟩
    | exact ⟨fun x hx => hb x (List.mem_of_mem_take (List.mem_of_mem_drop hx)), by rw [List.length_drop, List.length_take]; omega⟩
--TABS
def TG4 : Bool × List (List Nat × List Nat) := (true, [([], []), ([0], [0]), ([1], [1]), ([2], [2]), ([], []), ([4], [4]), ([5], [5]), ([6], [6]), ([3, 7], [3, 7]), ([], []), ([9, 8, 0, 1, 2, 3, 4, 5, 6, 7, 8, 9], [8, 9])])
def BG4 : List Nat := [0, 1, 3, 7, 0, 16, 48, 112, 255, 0, 1023]
theorem tabG4 : rtab .any (opsOf Try.f27 4) = TG4 := by kernel_rfl
theorem bitsG4 : waitsOk TG4.2 BG4 = true := by kernel_rfl
set_option maxHeartbeats 6400000 in
set_option maxRecDepth 100000 in
theorem getEvent_c (A : Option Addr) (c : Nat) (l : List Int) (w : World) (hr : Kd.C (Kd.int .u8) w A l.length l) (hc : l.length ≤ c) (hb : isBytes l) : Calls Try.prog 27 #[.slice A l.length c] w fun e w' => e = .returned (.tuple #[evE (getEF l).1, .int .i64 (getEF l).2]) ∧ Below w.heap.size w w' := by
  have HL := Aside0.mk hr
  have hb1 := below_alloc (Below.refl w.heap.size w) (.cells xZ 33 (0, 0))
  have HZ := Aside0.mk (heap_alloc_new w (.cells xZ 33 (0, 0)))
  have HB := Aside0.mk hb1
  have HLA := Aside0.mk (Kd.C_below hr hb1)
  have HU := Aside0.mk (show wire_Unframe.f l 0 = some (unfF l 0) by unfold wire_Unframe.f; rw [if_pos ((isB_iff l).2 hb)])
  clear hr hb1
  obtain ⟨⟨kk, y, nx, ee⟩, hu⟩ : ∃ q, unfF l 0 = q := ⟨_, rfl⟩
  have HG := Aside0.mk (show getEF l = if ee ≠ 0 ∨ kk ≠ 33 ∨ y.length < 34 then (ev0, 22) else if (textF y 32).2.2 ≠ 0 ∨ rightE (evOf y) = false ∨ encE (evOf y) ≠ l then (ev0, 22) else (evOf y, 0) by unfold getEF; rw [hu])
  have HYB0 := unf_bytes hb
  rw [hu] at HU HYB0
  have HYB := Aside0.mk HYB0.1
  clear HYB0
  rw [HG.out]
  clear hu HG
  by_cases hbad : ee ≠ 0 ∨ kk ≠ 33 ∨ y.length < 34
  · rw [if_pos hbad]
    by_cases h1 : ee = 0
    · subst h1
      by_cases h2 : kk = 33
      · subst h2
        have h3 : y.length < 34 := by omega
        have h3' : (y.length : Int) < 34 := by omega
        go_enter Try.func27, Try.ntmps27
        go_wp2_with (first
          | (go_at_call 52; refine (wire_Unframe.calls A c l 0 _ y nx _ _ HLA.out hc HU.out).mono ?_; rintro e w1 ⟨vy, rfl, hR1, hb1⟩; obtain ⟨Ay, cy, rfl⟩ := Kd.R_slice hR1; have HB7 := Aside0.mk (below_step HB.out hb1); have HZ7 := Aside0.mk (blk_below HZ.out hb1); clear hR1 hb1)
          | (refine gate_ (.store 33 (.tmp 2) (.tmp 32)) rfl ?_; refine wpList_store_row rfl 33 (.tmp 2) (.tmp 32) rfl w.heap.size (evC ev0) rfl rfl 33 xZ HZ7.out info33 rfl (evC_one ev0) ?_))
        exact bodyPost_ret (v := .tuple #[evE ev0, .int .i64 22]) (res27 (g := w.heap.size) (x := ev0) rfl rfl (setRow_heap _ _ _ _ _ _ HZ7.out)) rfl ⟨rfl, bel_setRow2 HB7.out (Nat.le_refl _) _⟩
      · have h2' : (kk != 33) = true := bne_iff_ne.2 h2
        go_enter Try.func27, Try.ntmps27
        go_wp2_with (first
          | (go_at_call 52; refine (wire_Unframe.calls A c l 0 _ y nx _ _ HLA.out hc HU.out).mono ?_; rintro e w1 ⟨vy, rfl, hR1, hb1⟩; obtain ⟨Ay, cy, rfl⟩ := Kd.R_slice hR1; have HB7 := Aside0.mk (below_step HB.out hb1); have HZ7 := Aside0.mk (blk_below HZ.out hb1); clear hR1 hb1)
          | (refine gate_ (.store 33 (.tmp 2) (.tmp 32)) rfl ?_; refine wpList_store_row rfl 33 (.tmp 2) (.tmp 32) rfl w.heap.size (evC ev0) rfl rfl 33 xZ HZ7.out info33 rfl (evC_one ev0) ?_))
        exact bodyPost_ret (v := .tuple #[evE ev0, .int .i64 22]) (res27 (g := w.heap.size) (x := ev0) rfl rfl (setRow_heap _ _ _ _ _ _ HZ7.out)) rfl ⟨rfl, bel_setRow2 HB7.out (Nat.le_refl _) _⟩
    · have h1' : (ee != 0) = true := bne_iff_ne.2 h1
      go_enter Try.func27, Try.ntmps27
      go_wp2_with (first
        | (go_at_call 52; refine (wire_Unframe.calls A c l 0 _ y nx _ _ HLA.out hc HU.out).mono ?_; rintro e w1 ⟨vy, rfl, hR1, hb1⟩; obtain ⟨Ay, cy, rfl⟩ := Kd.R_slice hR1; have HB7 := Aside0.mk (below_step HB.out hb1); have HZ7 := Aside0.mk (blk_below HZ.out hb1); clear hR1 hb1)
        | (refine gate_ (.store 33 (.tmp 2) (.tmp 32)) rfl ?_; refine wpList_store_row rfl 33 (.tmp 2) (.tmp 32) rfl w.heap.size (evC ev0) rfl rfl 33 xZ HZ7.out info33 rfl (evC_one ev0) ?_))
      exact bodyPost_ret (v := .tuple #[evE ev0, .int .i64 22]) (res27 (g := w.heap.size) (x := ev0) rfl rfl (setRow_heap _ _ _ _ _ _ HZ7.out)) rfl ⟨rfl, bel_setRow2 HB7.out (Nat.le_refl _) _⟩
  · obtain ⟨he0, hk0, hy0⟩ : ee = 0 ∧ kk = 33 ∧ 34 ≤ y.length := ⟨by omega, by omega, by omega⟩
    rw [if_neg hbad]
    obtain ⟨⟨R1, R2⟩, hR⟩ : ∃ q, (if (textF y 32).2.2 ≠ 0 ∨ rightE (evOf y) = false ∨ encE (evOf y) ≠ l then (ev0, 22) else (evOf y, 0) : EvV × Int) = q := ⟨_, rfl⟩
    rw [hR]
    have HRR := Aside0.mk hR
    clear hR
    dsimp only
    subst he0 hk0
    clear hbad
    have hyc : ¬ (y.length : Int) < 34 := by omega
    go_enter Try.func27, Try.ntmps27
    go_upto_region 4 with (go_at_call 52; refine (wire_Unframe.calls A c l 0 33 y nx 0 _ HLA.out hc HU.out).mono ?_; rintro e w1 ⟨vy, rfl, hR1, hb1⟩; obtain ⟨Ay, cy, rfl⟩ := Kd.R_slice hR1; have HY := Aside0.mk (Kd.R_reads' hR1).2.2; have HYC := Aside0.mk (Kd.R_reads' hR1).2.1; have HB1 := Aside0.mk (below_step HB.out hb1); have HZ1 := Aside0.mk (blk_below HZ.out hb1); clear hR1 hb1)
    obtain ⟨ady, hA, q0⟩ := Kd.at_int HY.out 0 (by decide) (by omega)
    obtain ⟨ady', hA', q1⟩ := Kd.at_int HY.out 1 (by decide) (by omega)
    subst hA
    have hAA : ady' = ady := by injection hA' with e; exact e.symm
    subst hAA
    obtain ⟨y0, hy0e⟩ : ∃ y0, rd y 0 = y0 := ⟨_, rfl⟩
    obtain ⟨y1, hy1e⟩ : ∃ y1, rd y 1 = y1 := ⟨_, rfl⟩
    rw [hy0e] at q0
    rw [hy1e] at q1
    have q0 : w1.cell? ady' = some (.int .u8 y0) := q0
    have q1 : w1.cell? ⟨ady'.block, ady'.off + 1, none⟩ = some (.int .u8 y1) := q1
    obtain ⟨ady, hady⟩ : ∃ ady, ady = ady' := ⟨_, rfl⟩
    subst hady
    have hn0 : 0 < y.length := by omega
    have hn1 : 1 < y.length := by omega
    have hm0 : (0 : Int) < (y.length : Int) := by omega
    have hm1 : (1 : Int) < (y.length : Int) := by omega
    have hdr := below_drew (Below.refl w1.heap.size w1)
    have HDR := Aside0.mk hdr
    have HYD := Aside0.mk (Kd.C_below HY.out hdr)
    have HBD := Aside0.mk (below_step HB1.out hdr)
    have HZD := Aside0.mk (blk_below HZ1.out hdr)
    clear hdr
    refine start_ (n := 11) (S := fun w' => w'.cell? ady = some (.int .u8 y0) ∧ w'.cell? ⟨ady.block, ady.off + 1, none⟩ = some (.int .u8 y1)) (ds := [10]) #[false, false, false, false, false, false, false, false, false, false, false] (by kernel_rfl) rfl rfl ⟨q0, q1⟩ (fun hHeld => ?_); refine with_tabW tabG4 bitsG4 (fun HT_ HW_ => ?_)
    generalize hwd : w1.drew = w2 at HYD HBD HZD HDR hHeld ⊢
    have hsz : w2.heap.size = w1.heap.size := by rw [← hwd]; rfl
    clear hwd
    refine pure_ (i := 0) (N := (some 33)) (v := ?_) (a' := ?_) #[true, false, false, false, false, false, false, false, false, false, false] rfl rfl (any_of HT_.out (by kernel_rfl)) (fun _ _ _ h => h) (Or.inl ⟨by rfl, ?_⟩) ?_ ?_
    rotate_left
    · intro w'
      go_simp
      with_reducible rfl
    rotate_left
    · simp only [Act.put, List.setIfInBounds_toArray, List.set_cons_zero, List.set_cons_succ, i64_w, i32_w]
      rfl
    refine pure_ (i := 1) (N := (some 34)) (v := ?_) (a' := ?_) #[true, true, false, false, false, false, false, false, false, false, false] rfl rfl (any_of HT_.out (by kernel_rfl)) (fun _ _ _ h => h) (Or.inl ⟨by rfl, ?_⟩) ?_ ?_
    rotate_left
    · intro w'
      go_simp
      with_reducible rfl
    rotate_left
    · simp only [Act.put, List.setIfInBounds_toArray, List.set_cons_zero, List.set_cons_succ, i64_w, i32_w]
      rfl
    refine take_ (i := 2) (N := (some 35)) (v := ?_) (a' := ?_) #[true, true, true, false, false, false, false, false, false, false, false] rfl rfl (take_ofW HT_.out HW_.out (by kernel_rfl)) (fun _ _ _ h => h) (Or.inl ⟨by rfl, ?_⟩) hHeld ?_ ?_
    rotate_left
    · rintro w' ⟨s0, s1⟩
      go_simp
      with_reducible rfl
    rotate_left
    · simp only [Act.put, List.setIfInBounds_toArray, List.set_cons_zero, List.set_cons_succ, i64_w, i32_w]
      rfl
    refine pure_ (i := 3) (N := (some 36)) (v := ?_) (a' := ?_) #[true, true, true, true, false, false, false, false, false, false, false] rfl rfl (any_of HT_.out (by kernel_rfl)) (fun _ _ _ h => h) (Or.inl ⟨by rfl, ?_⟩) ?_ ?_
    rotate_left
    · intro w'
      go_simp
      with_reducible rfl
    rotate_left
    · simp only [Act.put, List.setIfInBounds_toArray, List.set_cons_zero, List.set_cons_succ, i64_w, i32_w]
      rfl
    refine pure_ (i := 4) (N := (some 37)) (v := ?_) (a' := ?_) #[true, true, true, true, true, false, false, false, false, false, false] rfl rfl (any_of HT_.out (by kernel_rfl)) (fun _ _ _ h => h) (Or.inl ⟨by rfl, ?_⟩) ?_ ?_
    rotate_left
    · intro w'
      go_simp
      with_reducible rfl
    rotate_left
    · simp only [Act.put, List.setIfInBounds_toArray, List.set_cons_zero, List.set_cons_succ, i64_w, i32_w]
      rfl
    refine pure_ (i := 5) (N := (some 38)) (v := ?_) (a' := ?_) #[true, true, true, true, true, true, false, false, false, false, false] rfl rfl (any_of HT_.out (by kernel_rfl)) (fun _ _ _ h => h) (Or.inl ⟨by rfl, ?_⟩) ?_ ?_
    rotate_left
    · intro w'
      go_simp
      with_reducible rfl
    rotate_left
    · simp only [Act.put, List.setIfInBounds_toArray, List.set_cons_zero, List.set_cons_succ, i64_w, i32_w]
      rfl
    refine take_ (i := 6) (N := (some 39)) (v := ?_) (a' := ?_) #[true, true, true, true, true, true, true, false, false, false, false] rfl rfl (take_ofW HT_.out HW_.out (by kernel_rfl)) (fun _ _ _ h => h) (Or.inl ⟨by rfl, ?_⟩) hHeld ?_ ?_
    rotate_left
    · rintro w' ⟨s0, s1⟩
      go_simp
      with_reducible rfl
    rotate_left
    · simp only [Act.put, List.setIfInBounds_toArray, List.set_cons_zero, List.set_cons_succ, i64_w, i32_w]
      rfl
    refine pure_ (i := 7) (N := (some 40)) (v := ?_) (a' := ?_) #[true, true, true, true, true, true, true, true, false, false, false] rfl rfl (any_of HT_.out (by kernel_rfl)) (fun _ _ _ h => h) (Or.inl ⟨by rfl, ?_⟩) ?_ ?_
    rotate_left
    · intro w'
      go_simp
      with_reducible rfl
    rotate_left
    · simp only [Act.put, List.setIfInBounds_toArray, List.set_cons_zero, List.set_cons_succ, i64_w, i32_w]
      rfl
    refine pure_ (i := 8) (N := (some 41)) (v := ?_) (a' := ?_) #[true, true, true, true, true, true, true, true, true, false, false] rfl rfl (any_of HT_.out (by kernel_rfl)) (fun _ _ _ h => h) (Or.inl ⟨by rfl, ?_⟩) ?_ ?_
    rotate_left
    · intro w'
      go_simp
      with_reducible rfl
    rotate_left
    · simp only [Act.put, List.setIfInBounds_toArray, List.set_cons_zero, List.set_cons_succ, i64_w, i32_w]
      rfl
    refine one_ (i := 9) (N := (some 8)) #[true, true, true, true, true, true, true, true, true, true, false] rfl rfl (one_of HT_.out (by kernel_rfl)) (by decide) (fun K hK => ?_)
    refine val_ (w1 := w2.alloc (.cells (xZ) 33 (0, 0))) (v := .pointer (some ⟨w2.heap.size, 0, none⟩)) (by rfl) rfl (run_alloc33 _ _ rfl w2) ?_
    have hal := below_alloc (Below.refl w2.heap.size w2) (.cells xZ 33 (0, 0))
    refine hK.out _ _ ⟨(hal.cell (p := ady) (World.block_lt_of_cell? w2 _ hHeld.1)).trans hHeld.1, (hal.cell (p := ⟨ady.block, ady.off + 1, none⟩) (World.block_lt_of_cell? w2 _ hHeld.2)).trans hHeld.2⟩ (fun hHeld => ?_)
    clear hK K
    refine norm_ (a' := ?_) ?_ ?_
    rotate_left
    · show Act.put _ (some 8) _ = _
      simp only [Act.put, List.setIfInBounds_toArray, List.set_cons_zero, List.set_cons_succ, i64_w, i32_w]
      rfl
    refine last_ (i := 10) (N := none) #[true, true, true, true, true, true, true, true, true, true, true] rfl rfl (one_of HT_.out (by kernel_rfl)) (by decide) (fun K hK => ?_)
    refine skip_ (w1 := (w2.alloc (.cells xZ 33 (0, 0))).setRow w2.heap.size #[.int .i64 (wrap64 y0), .string ⟨#[]⟩, .int .i64 0, .int .i64 0, .int .i64 0, .int .i64 0, .int .i64 0, .bool (y1 == 1)]) (by rfl) rfl (run_store33 _ _ (.tmp 8) (.tmp 41) rfl rfl rfl (heap_alloc_new w2 _) rfl rfl (by kernel_rfl)) ?_
    refine hK.out _ _ ?_
    clear hK K
    refine done_ (done_of HT_.out (by kernel_rfl)) ?_
    clear hHeld HT_ HW_
    have hZB := blk_lt HZD.out
    have hsr := setRow_heap (w2.alloc (.cells xZ 33 (0, 0))) w2.heap.size xZ #[.int .i64 (wrap64 y0), .string ⟨#[]⟩, .int .i64 0, .int .i64 0, .int .i64 0, .int .i64 0, .int .i64 0, .bool (y1 == 1)] 33 (0, 0) (heap_alloc_new w2 _)
    have hby := HYB.out
    have hw0 : wrap64 y0 = y0 := by
      have := rd_byte y hby 0 (by decide) (by omega)
      rw [hy0e] at this
      unfold wrap64; omega
    have hX0 : #[Value.int .i64 (wrap64 y0), .string ⟨#[]⟩, .int .i64 0, .int .i64 0, .int .i64 0, .int .i64 0, .int .i64 0, .bool (y1 == 1)] = evC (xM y 0) := by
      rw [hw0, ← hy0e, ← hy1e]; rfl
    rw [hX0] at hsr ⊢
    have hbl := bel_setRow2 (below_alloc (Below.refl w2.heap.size w2) (.cells xZ 33 (0, 0))) (Nat.le_refl _) (evC (xM y 0))
    have HX := Aside0.mk hsr
    have HB3 := Aside0.mk (below_step HDR.out hbl)
    have HSZ := Aside0.mk hsz
    clear hsr hX0 hw0 hbl hby HYD HBD HZD hal hn0 hn1 hm0 hm1 HDR q0 q1 hHeld
    generalize hB : w2.heap.size = Bx at HX hZB HSZ ⊢
    generalize hW3 : (w2.alloc (.cells xZ 33 (0, 0))).setRow Bx (evC (xM y 0)) = w3 at HX ⊢
    rw [hB, hW3] at HB3
    clear hW3 hB hsz
    go_wp2_with fail
    go_loopw [9, 11, 48] (fun u9 u11 i wr => ∃ m : Nat, m ≤ 5 ∧ i = .int .i64 (m : Int) ∧ u9 = .int .i64 ((2 + 6 * m : Nat) : Int) ∧ wr.heap[Bx]? = some (.cells (evC (xM y m)) 33 (0, 0)) ∧ Below w1.heap.size w1 wr) (fun _ _ i _ => 5 - (intOf i).toNat)
    case atStart => exact ⟨0, by decide, rfl, rfl, HX.out, HB3.out⟩
    case round =>
      obtain ⟨m, hm, rfl, rfl, hX, hB⟩ := hrel
      have HX4 := Aside0.mk hX
      have HB4 := Aside0.mk hB
      clear hX hB HX HB3
      by_cases hm5 : m = 5
      · subst hm5
        obtain ⟨⟨tn, tx, te⟩, htf⟩ : ∃ q, textF y 32 = q := ⟨_, rfl⟩
        have HTX := Aside0.mk (show wire_GetText.f y 32 = some (tn, tx, te) by unfold wire_GetText.f; rw [if_pos ((isB_iff y).2 HYB.out), htf])
        have HEV := Aside0.mk (show (evC (xM y 5)).setIfInBounds 1 (.string tn) = evC (evOf y) by
          have : tn = (textF y 32).1 := by rw [htf]
          rw [this]; rfl)
        have hR := HRR.out
        rw [htf] at hR
        clear htf HRR
        dsimp only at hR
        generalize evOf y = X at HEV hR
        rw [show ((5 : Nat) : Int) = 5 from rfl, show ((2 + 6 * 5 : Nat) : Int) = 32 from rfl]
        by_cases hte : te ≠ 0
        · rw [if_pos (.inl hte)] at hR
          have HR1 := Aside0.mk (show R1 = ev0 from (congrArg Prod.fst hR).symm)
          have HR2 := Aside0.mk (show R2 = 22 from (congrArg Prod.snd hR).symm)
          clear hR
          have hte' : (te != 0) = true := bne_iff_ne.2 hte
          obtain ⟨⟨pl, pe⟩, hpe⟩ : ∃ q, putEF X = q := ⟨_, rfl⟩
          have HPE := Aside0.mk hpe
          clear hpe
          go_wp2_with (first
            | (go_at_call 54; refine (wire_GetText.calls (some ady) cy y 32 _ _ _ _ (Kd.C_below HY.out HB4.out) HYC.out HTX.out).mono ?_; rintro e w5 ⟨rfl, hb5⟩; have hX5 := blk_below HX4.out hb5; have HB5 := Aside0.mk (below_step HB4.out hb5); have c0 := (blk_cell hX5 1).trans rfl; have f0 := blk_frozen hX5 1; have HX6 := Aside0.mk (blk_put hX5 1 (.string tn) HEV.out); have HB6 := Aside0.mk (HB5.out.setCell (p := ⟨Bx, 1, none⟩) (by rw [← HSZ.out]; exact Nat.le_refl _) (.string tn)); clear hX5 hb5)
            | (refine gate_ (.load 33 (.tmp 8)) rfl ?_; refine wpList_load_row rfl 33 (.tmp 8) rfl Bx rfl 33 (evC X) (0, 0) _ HX6.out Try.underlying33 rfl info33 ?_)
            | (go_at_call 25; refine (putEvent_c X _).mono ?_; rintro e w7 ⟨v7, rfl, hR7, hb7⟩; rw [HPE.out] at hR7; obtain ⟨A7, c7, rfl⟩ := Kd.R_slice hR7; rw [HPE.out]; have HX7 := Aside0.mk (blk_below HX6.out hb7); have HB7 := Aside0.mk (below_step HB6.out hb7); have HZ7 := Aside0.mk (blk_below HZ1.out HB7.out); have hcv1 := conv_c c7 (Kd.R_reads' hR7).2.2; have hcv2 := conv_c c (Kd.C_below HL.out (below_step HB1.out HB7.out)); clear hR7 hb7)
            | (refine gate_ (.store 33 (.tmp 2) (.tmp 87)) rfl ?_; refine wpList_store_row rfl 33 (.tmp 2) (.tmp 87) rfl w.heap.size (evC ev0) rfl rfl 33 xZ HZ7.out info33 rfl (evC_one ev0) ?_))
          exact bodyPost_ret (v := .tuple #[evE R1, .int .i64 R2]) (by rw [HR1.out, HR2.out]; exact res27 (g := w.heap.size) (x := ev0) rfl rfl (setRow_heap _ _ _ _ _ _ HZ7.out)) rfl ⟨rfl, bel_setRow2 (below_step HB1.out HB7.out) (Nat.le_refl _) _⟩
        obtain rfl : te = 0 := Classical.byContradiction hte
        cases hrx : rightE X with
        | false =>
          rw [hrx, if_pos (.inr (.inl rfl))] at hR
          have HR1 := Aside0.mk (show R1 = ev0 from (congrArg Prod.fst hR).symm)
          have HR2 := Aside0.mk (show R2 = 22 from (congrArg Prod.snd hR).symm)
          clear hR
          have HPE := Aside0.mk (show putEF X = ([], 1) by unfold putEF; rw [hrx]; rfl)
          go_wp2_with (first
            | (go_at_call 54; refine (wire_GetText.calls (some ady) cy y 32 _ _ _ _ (Kd.C_below HY.out HB4.out) HYC.out HTX.out).mono ?_; rintro e w5 ⟨rfl, hb5⟩; have hX5 := blk_below HX4.out hb5; have HB5 := Aside0.mk (below_step HB4.out hb5); have c0 := (blk_cell hX5 1).trans rfl; have f0 := blk_frozen hX5 1; have HX6 := Aside0.mk (blk_put hX5 1 (.string tn) HEV.out); have HB6 := Aside0.mk (HB5.out.setCell (p := ⟨Bx, 1, none⟩) (by rw [← HSZ.out]; exact Nat.le_refl _) (.string tn)); clear hX5 hb5)
            | (refine gate_ (.load 33 (.tmp 8)) rfl ?_; refine wpList_load_row rfl 33 (.tmp 8) rfl Bx rfl 33 (evC X) (0, 0) _ HX6.out Try.underlying33 rfl info33 ?_)
            | (go_at_call 25; refine (putEvent_c X _).mono ?_; rintro e w7 ⟨v7, rfl, hR7, hb7⟩; rw [HPE.out] at hR7; obtain ⟨A7, c7, rfl⟩ := Kd.R_slice hR7; rw [HPE.out]; have HX7 := Aside0.mk (blk_below HX6.out hb7); have HB7 := Aside0.mk (below_step HB6.out hb7); have HZ7 := Aside0.mk (blk_below HZ1.out HB7.out); have hcv1 := conv_c c7 (Kd.R_reads' hR7).2.2; have hcv2 := conv_c c (Kd.C_below HL.out (below_step HB1.out HB7.out)); clear hR7 hb7)
            | (refine gate_ (.store 33 (.tmp 2) (.tmp 87)) rfl ?_; refine wpList_store_row rfl 33 (.tmp 2) (.tmp 87) rfl w.heap.size (evC ev0) rfl rfl 33 xZ HZ7.out info33 rfl (evC_one ev0) ?_))
          exact bodyPost_ret (v := .tuple #[evE R1, .int .i64 R2]) (by rw [HR1.out, HR2.out]; exact res27 (g := w.heap.size) (x := ev0) rfl rfl (setRow_heap _ _ _ _ _ _ HZ7.out)) rfl ⟨rfl, bel_setRow2 (below_step HB1.out HB7.out) (Nat.le_refl _) _⟩
        | true =>
          have HPE := Aside0.mk (show putEF X = (encE X, 0) by unfold putEF; rw [hrx]; rfl)
          have HEB := Aside0.mk (show isB (encE X) = true from enc_isB hrx)
          by_cases hen : encE X = l
          · rw [if_neg (by simp [hen, hrx])] at hR
            have HR1 := Aside0.mk (show R1 = X from (congrArg Prod.fst hR).symm)
            have HR2 := Aside0.mk (show R2 = 0 from (congrArg Prod.snd hR).symm)
            clear hR
            rw [hen] at HPE
            go_wp2_with (first
              | (go_at_call 54; refine (wire_GetText.calls (some ady) cy y 32 _ _ _ _ (Kd.C_below HY.out HB4.out) HYC.out HTX.out).mono ?_; rintro e w5 ⟨rfl, hb5⟩; have hX5 := blk_below HX4.out hb5; have HB5 := Aside0.mk (below_step HB4.out hb5); have c0 := (blk_cell hX5 1).trans rfl; have f0 := blk_frozen hX5 1; have HX6 := Aside0.mk (blk_put hX5 1 (.string tn) HEV.out); have HB6 := Aside0.mk (HB5.out.setCell (p := ⟨Bx, 1, none⟩) (by rw [← HSZ.out]; exact Nat.le_refl _) (.string tn)); clear hX5 hb5)
              | (refine gate_ (.load 33 (.tmp 8)) rfl ?_; refine wpList_load_row rfl 33 (.tmp 8) rfl Bx rfl 33 (evC X) (0, 0) _ HX6.out Try.underlying33 rfl info33 ?_)
              | (go_at_call 25; refine (putEvent_c X _).mono ?_; rintro e w7 ⟨v7, rfl, hR7, hb7⟩; rw [HPE.out] at hR7; obtain ⟨A7, c7, rfl⟩ := Kd.R_slice hR7; rw [HPE.out]; have HX7 := Aside0.mk (blk_below HX6.out hb7); have HB7 := Aside0.mk (below_step HB6.out hb7); have HZ7 := Aside0.mk (blk_below HZ1.out HB7.out); have hcv1 := conv_c c7 (Kd.R_reads' hR7).2.2; have hcv2 := conv_c c (Kd.C_below HL.out (below_step HB1.out HB7.out)); clear hR7 hb7)
              | (refine gate_ (.load 33 (.tmp 8)) rfl ?_; refine wpList_load_row rfl 33 (.tmp 8) rfl Bx rfl 33 (evC X) (0, 0) _ HX7.out Try.underlying33 rfl info33 ?_)
              | (refine gate_ (.store 33 (.tmp 2) (.tmp 88)) rfl ?_; refine wpList_store_row rfl 33 (.tmp 2) (.tmp 88) rfl w.heap.size (evC X) rfl rfl 33 xZ HZ7.out info33 rfl (evC_one X) ?_))
            exact bodyPost_ret (v := .tuple #[evE R1, .int .i64 R2]) (by rw [HR1.out, HR2.out]; exact res27 (g := w.heap.size) (x := X) rfl rfl (setRow_heap _ _ _ _ _ _ HZ7.out)) rfl ⟨rfl, bel_setRow2 (below_step HB1.out HB7.out) (Nat.le_refl _) _⟩
          · rw [if_pos (.inr (.inr hen))] at hR
            have HR1 := Aside0.mk (show R1 = ev0 from (congrArg Prod.fst hR).symm)
            have HR2 := Aside0.mk (show R2 = 22 from (congrArg Prod.snd hR).symm)
            clear hR
            have hsn : ((strOfNums (encE X)).toList == (strOfNums l).toList) = false := beq_eq_false_iff_ne.2 (fun e => hen (strOf_inj HEB.out ((isB_iff l).2 hb) e))
            go_wp2_with (first
              | (go_at_call 54; refine (wire_GetText.calls (some ady) cy y 32 _ _ _ _ (Kd.C_below HY.out HB4.out) HYC.out HTX.out).mono ?_; rintro e w5 ⟨rfl, hb5⟩; have hX5 := blk_below HX4.out hb5; have HB5 := Aside0.mk (below_step HB4.out hb5); have c0 := (blk_cell hX5 1).trans rfl; have f0 := blk_frozen hX5 1; have HX6 := Aside0.mk (blk_put hX5 1 (.string tn) HEV.out); have HB6 := Aside0.mk (HB5.out.setCell (p := ⟨Bx, 1, none⟩) (by rw [← HSZ.out]; exact Nat.le_refl _) (.string tn)); clear hX5 hb5)
              | (refine gate_ (.load 33 (.tmp 8)) rfl ?_; refine wpList_load_row rfl 33 (.tmp 8) rfl Bx rfl 33 (evC X) (0, 0) _ HX6.out Try.underlying33 rfl info33 ?_)
              | (go_at_call 25; refine (putEvent_c X _).mono ?_; rintro e w7 ⟨v7, rfl, hR7, hb7⟩; rw [HPE.out] at hR7; obtain ⟨A7, c7, rfl⟩ := Kd.R_slice hR7; rw [HPE.out]; have HX7 := Aside0.mk (blk_below HX6.out hb7); have HB7 := Aside0.mk (below_step HB6.out hb7); have HZ7 := Aside0.mk (blk_below HZ1.out HB7.out); have hcv1 := conv_c c7 (Kd.R_reads' hR7).2.2; have hcv2 := conv_c c (Kd.C_below HL.out (below_step HB1.out HB7.out)); clear hR7 hb7)
              | (refine gate_ (.store 33 (.tmp 2) (.tmp 87)) rfl ?_; refine wpList_store_row rfl 33 (.tmp 2) (.tmp 87) rfl w.heap.size (evC ev0) rfl rfl 33 xZ HZ7.out info33 rfl (evC_one ev0) ?_))
            exact bodyPost_ret (v := .tuple #[evE R1, .int .i64 R2]) (by rw [HR1.out, HR2.out]; exact res27 (g := w.heap.size) (x := ev0) rfl rfl (setRow_heap _ _ _ _ _ _ HZ7.out)) rfl ⟨rfl, bel_setRow2 (below_step HB1.out HB7.out) (Nat.le_refl _) _⟩
      · rcases (show m = 0 ∨ m = 1 ∨ m = 2 ∨ m = 3 ∨ m = 4 by omega) with rfl | rfl | rfl | rfl | rfl
        · have hix := idxP_0 Bx wr
          have HGN := Aside0.mk (show wire_Get.f y 2 6 = some (getN y 2, 8, 0) from get_num HYB.out 2 (by omega))
          rw [show (((0 : Nat)) : Int) = 0 from rfl, show ((2 + 6 * 0 : Nat) : Int) = 2 from rfl]
          go_wp2_with (go_at_call 53; refine (wire_Get.calls (some ady) cy y 2 6 _ _ _ _ (Kd.C_below HY.out HB4.out) HYC.out HGN.out).mono ?_; rintro e w5 ⟨rfl, hb5⟩; have hX5 := blk_below HX4.out hb5; have HB5 := Aside0.mk (below_step HB4.out hb5); have c0 := (blk_cell hX5 2).trans rfl; have f0 := blk_frozen hX5 2; have HX6 := Aside0.mk (blk_put hX5 2 (.int .i64 (getN y 2)) (show _ = evC (xM y 1) from rfl)); clear hX5 hb5)
          exact ⟨⟨1, by decide, rfl, rfl, HX6.out, HB5.out.setCell (p := ⟨Bx, 2, none⟩) (by rw [← HSZ.out]; exact Nat.le_refl _) _⟩, by decide⟩
        · have hix := idxP_1 Bx wr
          have HGN := Aside0.mk (show wire_Get.f y 8 6 = some (getN y 8, 14, 0) from get_num HYB.out 8 (by omega))
          rw [show (((1 : Nat)) : Int) = 1 from rfl, show ((2 + 6 * 1 : Nat) : Int) = 8 from rfl]
          go_wp2_with (go_at_call 53; refine (wire_Get.calls (some ady) cy y 8 6 _ _ _ _ (Kd.C_below HY.out HB4.out) HYC.out HGN.out).mono ?_; rintro e w5 ⟨rfl, hb5⟩; have hX5 := blk_below HX4.out hb5; have HB5 := Aside0.mk (below_step HB4.out hb5); have c0 := (blk_cell hX5 3).trans rfl; have f0 := blk_frozen hX5 3; have HX6 := Aside0.mk (blk_put hX5 3 (.int .i64 (getN y 8)) (show _ = evC (xM y 2) from rfl)); clear hX5 hb5)
          exact ⟨⟨2, by decide, rfl, rfl, HX6.out, HB5.out.setCell (p := ⟨Bx, 3, none⟩) (by rw [← HSZ.out]; exact Nat.le_refl _) _⟩, by decide⟩
        · have hix := idxP_2 Bx wr
          have HGN := Aside0.mk (show wire_Get.f y 14 6 = some (getN y 14, 20, 0) from get_num HYB.out 14 (by omega))
          rw [show (((2 : Nat)) : Int) = 2 from rfl, show ((2 + 6 * 2 : Nat) : Int) = 14 from rfl]
          go_wp2_with (go_at_call 53; refine (wire_Get.calls (some ady) cy y 14 6 _ _ _ _ (Kd.C_below HY.out HB4.out) HYC.out HGN.out).mono ?_; rintro e w5 ⟨rfl, hb5⟩; have hX5 := blk_below HX4.out hb5; have HB5 := Aside0.mk (below_step HB4.out hb5); have c0 := (blk_cell hX5 4).trans rfl; have f0 := blk_frozen hX5 4; have HX6 := Aside0.mk (blk_put hX5 4 (.int .i64 (getN y 14)) (show _ = evC (xM y 3) from rfl)); clear hX5 hb5)
          exact ⟨⟨3, by decide, rfl, rfl, HX6.out, HB5.out.setCell (p := ⟨Bx, 4, none⟩) (by rw [← HSZ.out]; exact Nat.le_refl _) _⟩, by decide⟩
        · have hix := idxP_3 Bx wr
          have HGN := Aside0.mk (show wire_Get.f y 20 6 = some (getN y 20, 26, 0) from get_num HYB.out 20 (by omega))
          rw [show (((3 : Nat)) : Int) = 3 from rfl, show ((2 + 6 * 3 : Nat) : Int) = 20 from rfl]
          go_wp2_with (go_at_call 53; refine (wire_Get.calls (some ady) cy y 20 6 _ _ _ _ (Kd.C_below HY.out HB4.out) HYC.out HGN.out).mono ?_; rintro e w5 ⟨rfl, hb5⟩; have hX5 := blk_below HX4.out hb5; have HB5 := Aside0.mk (below_step HB4.out hb5); have c0 := (blk_cell hX5 5).trans rfl; have f0 := blk_frozen hX5 5; have HX6 := Aside0.mk (blk_put hX5 5 (.int .i64 (getN y 20)) (show _ = evC (xM y 4) from rfl)); clear hX5 hb5)
          exact ⟨⟨4, by decide, rfl, rfl, HX6.out, HB5.out.setCell (p := ⟨Bx, 5, none⟩) (by rw [← HSZ.out]; exact Nat.le_refl _) _⟩, by decide⟩
        · have hix := idxP_4 Bx wr
          have HGN := Aside0.mk (show wire_Get.f y 26 6 = some (getN y 26, 32, 0) from get_num HYB.out 26 (by omega))
          rw [show (((4 : Nat)) : Int) = 4 from rfl, show ((2 + 6 * 4 : Nat) : Int) = 26 from rfl]
          go_wp2_with (go_at_call 53; refine (wire_Get.calls (some ady) cy y 26 6 _ _ _ _ (Kd.C_below HY.out HB4.out) HYC.out HGN.out).mono ?_; rintro e w5 ⟨rfl, hb5⟩; have hX5 := blk_below HX4.out hb5; have HB5 := Aside0.mk (below_step HB4.out hb5); have c0 := (blk_cell hX5 6).trans rfl; have f0 := blk_frozen hX5 6; have HX6 := Aside0.mk (blk_put hX5 6 (.int .i64 (getN y 26)) (show _ = evC (xM y 5) from rfl)); clear hX5 hb5)
          exact ⟨⟨5, by decide, rfl, rfl, HX6.out, HB5.out.setCell (p := ⟨Bx, 6, none⟩) (by rw [← HSZ.out]; exact Nat.le_refl _) _⟩, by decide⟩

end Go.Proofs.Ytofegigbhohebaa.Hand
