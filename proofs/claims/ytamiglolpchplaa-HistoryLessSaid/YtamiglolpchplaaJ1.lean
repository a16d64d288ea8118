/- Calls, as they lie in memory. -/
import Derived.Test.YtamiglolpchplaaProg
import Derived.Test.YtamiglolpchplaaWWords
import Derived.Test.YtamiglolpchplaaWLast
import Derived.Test.YtamiglolpchplaaWTab
import Derived.Shelf.SlSortCmp.InsertionK
import Derived.Shelf.SlSortFuncK.SWK
namespace Go.Proofs.Ytamiglolpchplaa.Hand
open Go.RowKit Go.Shelf Go.Lib Go.Sort Go.Proofs.Ytamiglolpchplaa Go.Proofs.YtamiglolpchplaaW.PrintWords Go.Proofs.YtamiglolpchplaaW.PrintLast
set_option linter.unusedVariables false
set_option linter.unusedSimpArgs false
/-- What a call says. -/
structure CallV where
  read : Bool
  done : Bool
  bgn : Int
  fin : Int
  offset : Int
  value : ByteArray
  values : List ByteArray
instance : Inhabited CallV := ⟨⟨false, false, 0, 0, 0, ByteArray.empty, []⟩⟩
/-- A call in memory: what it says, and where its values lie. -/
abbrev CallP := CallV × (Option Addr × Nat × Nat)
def crP (r : CallP) : List Value := [.bool r.1.read, .bool r.1.done, .int .i64 r.1.bgn, .int .i64 r.1.fin, .int .i64 r.1.offset, .string r.1.value, .slice r.2.1 r.2.2.1 r.2.2.2]
/-- .. whose end may be. -/
abbrev CallR := { r : CallP // 0 ≤ r.1.fin ∧ r.1.fin ≤ 1000000000 }
instance : Inhabited CallR := ⟨⟨(default, (none, 0, 0)), by decide, by decide⟩⟩
def crL (r : CallR) : List Value := crP r.1
theorem crL_len (r : CallR) : (crL r).length = 7 := rfl
theorem crP_one (r : CallP) : ∀ v ∈ crP r, v.oneCell' = true := by
  intro v hv
  simp only [crP, List.mem_cons, List.not_mem_nil, or_false] at hv
  rcases hv with rfl | rfl | rfl | rfl | rfl | rfl | rfl <;> rfl
theorem crL_one (r : CallR) : ∀ v ∈ crL r, v.oneCell' = true := crP_one r.1
theorem wrap_add (a k : Nat) (h : a + k < 4611686018427387904) : wrap64 ((a : Int) + (k : Int)) = (a : Int) + (k : Int) := by unfold wrap64; omega
/-- The rows' swaps. -/
def swR (d : Array CallR) (a b : Nat) : Nat → Array CallR
  | 0 => d
  | n + 1 => swp (swR d a b n) (a + n) (b + n)
theorem swR_size (d : Array CallR) (a b : Nat) : ∀ n, (swR d a b n).size = d.size
  | 0 => rfl
  | n + 1 => by rw [swR, size_swp]; exact swR_size d a b n
theorem agg34 (w : World) : (isAgg 34).run Try.prog w = .ok true w := by kernel_rfl
theorem size34 (w : World) : (Go.sizeOf 34).run Try.prog w = .ok 7 w := by kernel_rfl
theorem run_load34 {w : World} {a : Addr} {c : Array Value} (ev : Operand → Value) (o : Oper) (p : Operand) (ho : o.op = .load 34 p) (hx : ev p = .pointer (some a)) (hl : Sem.run Try.prog (loadCellsFrom a 0 7 #[]) w = .ok c w) : (execOp ev o).run Try.prog w = .ok (.value (.agg c)) w := by
  unfold execOp
  simp only [ho, hx, Instr.loadAt, Instr.sureAddr, loadVar, loadCells, Sem.run_bind, Sem.run_pure, Result.andThen_ok, agg34, size34, if_true, hl]
theorem run_store34 {w w' : World} {a : Addr} {c : List Value} (ev : Operand → Value) (o : Oper) (p x : Operand) (ho : o.op = .store 34 p x) (hp : ev p = .pointer (some a)) (hx : ev x = .agg c.toArray) (hd : o.dst = none) (hs : c.length = 7) (hl : Sem.run Try.prog (storeCells a c 0) w = .ok () w') : (execOp ev o).run Try.prog w = .ok .skip w' := by
  unfold execOp
  have e : (Value.agg c.toArray).cells = c.toArray := rfl
  simp only [ho, hp, hx, Instr.storeAt, Instr.sureAddr, storeVar, e, Sem.run_bind, Sem.run_pure, Result.andThen_ok, size34, List.size_toArray, hs, ne_eq, not_true_eq_false, if_false, hl]
--TABS
def TS3 : Bool × List (List Nat × List Nat) := (true, [([], []), ([], []), ([], []), ([1, 2], [1, 2]), ([], []), ([], []), ([], []), ([5, 6], [5, 6]), ([], []), ([], []), ([], []), ([9, 10], [9, 10]), ([8, 11], [8, 11]), ([12], [12]), ([], []), ([], []), ([], []), ([15, 16], [15, 16]), ([14, 17], [14, 17]), ([18], [18]), ([0, 3, 0, 1, 2, 3, 8, 9, 10, 11, 12, 13, 19], [0, 3]), ([20, 13, 0, 1, 2, 3, 8, 9, 10, 11, 12, 13, 19], [13, 20]), ([4, 7, 0, 1, 2, 3, 4, 5, 6, 7, 8, 9, 10, 11, 12, 13, 14, 15, 16, 17, 18, 19, 20, 21], [4, 7]), ([22, 19, 21, 0, 1, 2, 3, 4, 5, 6, 7, 8, 9, 10, 11, 12, 13, 14, 15, 16, 17, 18, 19, 20, 21], [19, 22])])
def BS3 : List Nat := [0, 0, 0, 6, 0, 0, 0, 96, 0, 0, 0, 1536, 3840, 7936, 0, 0, 0, 98304, 245760, 507904, 1048335, 2096911, 4194303, 8388607]
theorem tabS3 : rtab .any (opsOf Try.f47 3) = TS3 := by kernel_rfl
theorem bitsS3 : waitsOk TS3.2 BS3 = true := by kernel_rfl
set_option maxHeartbeats 4000000 in
set_option maxRecDepth 1000000 in
theorem swapRange_c (blk off cap a b n : Nat) (d : Array CallR) (cv : Value) (w : World) (hH : HoldsK crL 7 w blk off d) (hblk : blk < w.heap.size) (hab : a + n ≤ b) (hb : b + n ≤ d.size) (hsz : d.size < 4611686018427387904) :
    Calls Try.prog 47 #[.slice (some ⟨blk, off, none⟩) d.size cap, .int .i64 a, .int .i64 b, .int .i64 n, cv] w fun e w' => e = .returned (.tuple #[]) ∧ SWK crL 7 w blk off (swR d a b n) w' := by
  have HH : Hid (HoldsK crL 7 w blk off d) := hH
  clear hH
  go_enter Try.func47, Try.ntmps47
  go_wp2
  go_loopw [10] (fun i wr => ∃ k : Nat, k ≤ n ∧ i = .int .i64 (k : Int) ∧ SWK crL 7 w blk off (swR d a b k) wr) (fun i _ => n - (intOf i).toNat)
  case atStart => exact ⟨0, Nat.zero_le _, rfl, SWK.start HH.out⟩
  case round =>
    obtain ⟨k, hk, rfl, hs⟩ := hrel
    by_cases hkn : k < n
    · have hkc : (k : Int) < (n : Int) := by omega
      have hsk := swR_size d a b k
      obtain ⟨dk, hdk⟩ : ∃ dk, swR d a b k = dk := ⟨_, rfl⟩
      rw [hdk] at hs hsk
      have hHd : HoldsK crL 7 wr.drew blk off dk := hs.holds hblk HH.out hsk
      have hbw : blk < wr.heap.size := hs.lt hblk
      obtain ⟨x1, hx1⟩ : ∃ x, dk[b + k]! = x := ⟨_, rfl⟩
      obtain ⟨x2, hx2⟩ : ∃ x, dk[a + k]! = x := ⟨_, rfl⟩
      have bnd : ∀ x, x < dk.size → x * 7 + 7 ≤ dk.size * 7 := fun x hx => by omega
      have l1 : Sem.run Try.prog (loadCellsFrom ⟨blk, off + (b + k) * 7, none⟩ 0 7 #[]) wr.drew = .ok (crL x1).toArray wr.drew := by rw [← hx1]; exact run_loadCellsFrom_list Try.prog _ _ _ 7 (crL_len _) (HoldsK.cells hHd crL_len (by omega))
      have l2 : Sem.run Try.prog (loadCellsFrom ⟨blk, off + (a + k) * 7, none⟩ 0 7 #[]) wr.drew = .ok (crL x2).toArray wr.drew := by rw [← hx2]; exact run_loadCellsFrom_list Try.prog _ _ _ 7 (crL_len _) (HoldsK.cells hHd crL_len (by omega))
      have s1 : Sem.run Try.prog (storeCells ⟨blk, off + (a + k) * 7, none⟩ (crL x1) 0) wr.drew = .ok () (wr.drew.setCells blk (off + (a + k) * 7) (crL x1)) := stores_of_holds Try.prog hHd ((a + k) * 7) _ (by rw [crL_len, size_flatK]; exact bnd (a + k) (by omega)) (crL_one _)
      have s2 : Sem.run Try.prog (storeCells ⟨blk, off + (b + k) * 7, none⟩ (crL x2) 0) (wr.drew.setCells blk (off + (a + k) * 7) (crL x1)) = .ok () ((wr.drew.setCells blk (off + (a + k) * 7) (crL x1)).setCells blk (off + (b + k) * 7) (crL x2)) :=
        stores_of_holds Try.prog (holds_setCells_c hHd ((a + k) * 7) _ (by rw [crL_len, size_flatK]; exact bnd (a + k) (by omega))) ((b + k) * 7) _ (by rw [crL_len, size_setMany, size_flatK]; exact bnd (b + k) (by omega)) (crL_one _)
      have hs1 : (crL x1).length = 7 := rfl
      have hs2 : (crL x2).length = 7 := rfl
      have HS : Hid (SWK crL 7 w blk off dk wr) := hs
      obtain ⟨c1, hc1⟩ : ∃ c, c = crL x1 := ⟨_, rfl⟩
      obtain ⟨c2, hc2⟩ : ∃ c, c = crL x2 := ⟨_, rfl⟩
      rw [← hc1] at l1 s1 hs1
      rw [← hc2] at l2 hs2
      rw [← hc1, ← hc2] at s2
      have CC : Hid (c1 = crL x1 ∧ c2 = crL x2) := ⟨hc1, hc2⟩
      clear hc1 hc2 hs hHd bnd
      have z1 : (a : Int) + (k : Int) < (d.size : Int) := by omega
      have z2 : (b : Int) + (k : Int) < (d.size : Int) := by omega
      have p1 : (0 : Int) ≤ (a : Int) + (k : Int) := by omega
      have p2 : (0 : Int) ≤ (b : Int) + (k : Int) := by omega
      have e1 : ((a : Int) + (k : Int)).toNat = a + k := by omega
      have e2 : ((b : Int) + (k : Int)).toNat = b + k := by omega
      have o1 : a + k < dk.size := by omega
      have o2 : b + k < dk.size := by omega
      have o3 : n - (intOf (.int .i64 ((k : Int) + 1))).toNat < n - (intOf (.int .i64 (k : Int))).toNat := by simp only [intOf]; omega
      have q0 : b + k < 4611686018427387904 := by omega
      have q00 : a + k < 4611686018427387904 := by omega
      have q1 := wrap_add a k q00
      have q2 := wrap_add b k q0
      clear q0 q00
      have mixed : Try.prog.follows Departure.mixedOrders = true := by kernel_rfl
      --REG
      go_wp2_with fail
      refine start_ (n := 24) (S := fun w' => Sem.run Try.prog (loadCellsFrom (⟨blk, off + (b + k) * 7, none⟩ : Addr) 0 7 #[]) w' = .ok c1.toArray w' ∧ Sem.run Try.prog (loadCellsFrom (⟨blk, off + (a + k) * 7, none⟩ : Addr) 0 7 #[]) w' = .ok c2.toArray w') (ds := [21, 23]) #[false, false, false, false, false, false, false, false, false, false, false, false, false, false, false, false, false, false, false, false, false, false, false, false] (by kernel_rfl) rfl rfl ⟨l1, l2⟩ (fun hHeld => ?_); refine with_tabW tabS3 bitsS3 (fun HT_ HW_ => ?_)
      generalize hwd : wr.drew = wd at l1 l2 s1 s2 hHeld ⊢
      refine pure_ (i := 0) (N := (some 16)) (v := ?_) (a' := ?_) #[true, false, false, false, false, false, false, false, false, false, false, false, false, false, false, false, false, false, false, false, false, false, false, false] rfl rfl (any_of HT_.out (by kernel_rfl)) (fun _ _ _ h => h) (Or.inl ⟨by rfl, ?_⟩) ?_ ?_
      rotate_left
      · intro w'
        go_simp
        with_reducible rfl
      rotate_left
      · simp only [Act.put, List.setIfInBounds_toArray, List.set_cons_zero, List.set_cons_succ, i64_w, i32_w]
        rfl
      refine pure_ (i := 1) (N := (some 17)) (v := ?_) (a' := ?_) #[true, true, false, false, false, false, false, false, false, false, false, false, false, false, false, false, false, false, false, false, false, false, false, false] rfl rfl (any_of HT_.out (by kernel_rfl)) (fun _ _ _ h => h) (Or.inl ⟨by rfl, ?_⟩) ?_ ?_
      rotate_left
      · intro w'
        go_simp
        with_reducible rfl
      rotate_left
      · simp only [Act.put, List.setIfInBounds_toArray, List.set_cons_zero, List.set_cons_succ, i64_w, i32_w]
        rfl
      refine pure_ (i := 2) (N := (some 18)) (v := ?_) (a' := ?_) #[true, true, true, false, false, false, false, false, false, false, false, false, false, false, false, false, false, false, false, false, false, false, false, false] rfl rfl (any_of HT_.out (by kernel_rfl)) (fun _ _ _ h => h) (Or.inl ⟨by rfl, ?_⟩) ?_ ?_
      rotate_left
      · intro w'
        go_simp
        with_reducible rfl
      rotate_left
      · simp only [Act.put, List.setIfInBounds_toArray, List.set_cons_zero, List.set_cons_succ, i64_w, i32_w]
        rfl
      refine pure_ (i := 3) (N := (some 19)) (v := ?_) (a' := ?_) #[true, true, true, true, false, false, false, false, false, false, false, false, false, false, false, false, false, false, false, false, false, false, false, false] rfl rfl (any_of HT_.out (by kernel_rfl)) (fun _ _ _ h => h) (Or.inl ⟨by rfl, ?_⟩) ?_ ?_
      rotate_left
      · intro w'
        go_simp
        with_reducible rfl
      rotate_left
      · simp only [Act.put, List.setIfInBounds_toArray, List.set_cons_zero, List.set_cons_succ, i64_w, i32_w]
        rfl
      refine pure_ (i := 4) (N := (some 20)) (v := ?_) (a' := ?_) #[true, true, true, true, true, false, false, false, false, false, false, false, false, false, false, false, false, false, false, false, false, false, false, false] rfl rfl (any_of HT_.out (by kernel_rfl)) (fun _ _ _ h => h) (Or.inl ⟨by rfl, ?_⟩) ?_ ?_
      rotate_left
      · intro w'
        go_simp
        with_reducible rfl
      rotate_left
      · simp only [Act.put, List.setIfInBounds_toArray, List.set_cons_zero, List.set_cons_succ, i64_w, i32_w]
        rfl
      refine pure_ (i := 5) (N := (some 21)) (v := ?_) (a' := ?_) #[true, true, true, true, true, true, false, false, false, false, false, false, false, false, false, false, false, false, false, false, false, false, false, false] rfl rfl (any_of HT_.out (by kernel_rfl)) (fun _ _ _ h => h) (Or.inl ⟨by rfl, ?_⟩) ?_ ?_
      rotate_left
      · intro w'
        go_simp
        with_reducible rfl
      rotate_left
      · simp only [Act.put, List.setIfInBounds_toArray, List.set_cons_zero, List.set_cons_succ, i64_w, i32_w]
        rfl
      refine pure_ (i := 6) (N := (some 22)) (v := ?_) (a' := ?_) #[true, true, true, true, true, true, true, false, false, false, false, false, false, false, false, false, false, false, false, false, false, false, false, false] rfl rfl (any_of HT_.out (by kernel_rfl)) (fun _ _ _ h => h) (Or.inl ⟨by rfl, ?_⟩) ?_ ?_
      rotate_left
      · intro w'
        go_simp
        with_reducible rfl
      rotate_left
      · simp only [Act.put, List.setIfInBounds_toArray, List.set_cons_zero, List.set_cons_succ, i64_w, i32_w]
        rfl
      refine pure_ (i := 7) (N := (some 23)) (v := ?_) (a' := ?_) #[true, true, true, true, true, true, true, true, false, false, false, false, false, false, false, false, false, false, false, false, false, false, false, false] rfl rfl (any_of HT_.out (by kernel_rfl)) (fun _ _ _ h => h) (Or.inl ⟨by rfl, ?_⟩) ?_ ?_
      rotate_left
      · intro w'
        go_simp
        with_reducible rfl
      rotate_left
      · simp only [Act.put, List.setIfInBounds_toArray, List.set_cons_zero, List.set_cons_succ, i64_w, i32_w]
        rfl
      refine pure_ (i := 8) (N := (some 24)) (v := ?_) (a' := ?_) #[true, true, true, true, true, true, true, true, true, false, false, false, false, false, false, false, false, false, false, false, false, false, false, false] rfl rfl (any_of HT_.out (by kernel_rfl)) (fun _ _ _ h => h) (Or.inl ⟨by rfl, ?_⟩) ?_ ?_
      rotate_left
      · intro w'
        go_simp
        with_reducible rfl
      rotate_left
      · simp only [Act.put, List.setIfInBounds_toArray, List.set_cons_zero, List.set_cons_succ, i64_w, i32_w]
        rfl
      refine pure_ (i := 9) (N := (some 25)) (v := ?_) (a' := ?_) #[true, true, true, true, true, true, true, true, true, true, false, false, false, false, false, false, false, false, false, false, false, false, false, false] rfl rfl (any_of HT_.out (by kernel_rfl)) (fun _ _ _ h => h) (Or.inl ⟨by rfl, ?_⟩) ?_ ?_
      rotate_left
      · intro w'
        go_simp
        with_reducible rfl
      rotate_left
      · simp only [Act.put, List.setIfInBounds_toArray, List.set_cons_zero, List.set_cons_succ, i64_w, i32_w]
        rfl
      refine pure_ (i := 10) (N := (some 26)) (v := ?_) (a' := ?_) #[true, true, true, true, true, true, true, true, true, true, true, false, false, false, false, false, false, false, false, false, false, false, false, false] rfl rfl (any_of HT_.out (by kernel_rfl)) (fun _ _ _ h => h) (Or.inl ⟨by rfl, ?_⟩) ?_ ?_
      rotate_left
      · intro w'
        go_simp
        with_reducible rfl
      rotate_left
      · simp only [Act.put, List.setIfInBounds_toArray, List.set_cons_zero, List.set_cons_succ, i64_w, i32_w]
        rfl
      refine pure_ (i := 11) (N := (some 27)) (v := ?_) (a' := ?_) #[true, true, true, true, true, true, true, true, true, true, true, true, false, false, false, false, false, false, false, false, false, false, false, false] rfl rfl (any_of HT_.out (by kernel_rfl)) (fun _ _ _ h => h) (Or.inl ⟨by rfl, ?_⟩) ?_ ?_
      rotate_left
      · intro w'
        go_simp
        with_reducible rfl
      rotate_left
      · simp only [Act.put, List.setIfInBounds_toArray, List.set_cons_zero, List.set_cons_succ, i64_w, i32_w]
        rfl
      refine pure_ (i := 12) (N := (some 28)) (v := ?_) (a' := ?_) #[true, true, true, true, true, true, true, true, true, true, true, true, true, false, false, false, false, false, false, false, false, false, false, false] rfl rfl (any_of HT_.out (by kernel_rfl)) (fun _ _ _ h => h) (Or.inl ⟨by rfl, ?_⟩) ?_ ?_
      rotate_left
      · intro w'
        go_simp
        with_reducible rfl
      rotate_left
      · simp only [Act.put, List.setIfInBounds_toArray, List.set_cons_zero, List.set_cons_succ, i64_w, i32_w]
        rfl
      refine take_ (i := 13) (N := (some 29)) (v := .agg c1.toArray) #[true, true, true, true, true, true, true, true, true, true, true, true, true, true, false, false, false, false, false, false, false, false, false, false] rfl rfl (take_ofW HT_.out HW_.out (by kernel_rfl)) (fun _ _ _ h => h) (Or.inl ⟨by rfl, fun w' s0 => run_load34 _ _ (.tmp 28) rfl rfl (s0.1)⟩) hHeld rfl ?_
      refine norm_ (a' := ?_) ?_ ?_
      rotate_left
      · show Act.put _ (some 29) _ = _
        simp only [Act.put, List.setIfInBounds_toArray, List.set_cons_zero, List.set_cons_succ, i64_w, i32_w]
        rfl
      refine pure_ (i := 14) (N := (some 30)) (v := ?_) (a' := ?_) #[true, true, true, true, true, true, true, true, true, true, true, true, true, true, true, false, false, false, false, false, false, false, false, false] rfl rfl (any_of HT_.out (by kernel_rfl)) (fun _ _ _ h => h) (Or.inl ⟨by rfl, ?_⟩) ?_ ?_
      rotate_left
      · intro w'
        go_simp
        with_reducible rfl
      rotate_left
      · simp only [Act.put, List.setIfInBounds_toArray, List.set_cons_zero, List.set_cons_succ, i64_w, i32_w]
        rfl
      refine pure_ (i := 15) (N := (some 31)) (v := ?_) (a' := ?_) #[true, true, true, true, true, true, true, true, true, true, true, true, true, true, true, true, false, false, false, false, false, false, false, false] rfl rfl (any_of HT_.out (by kernel_rfl)) (fun _ _ _ h => h) (Or.inl ⟨by rfl, ?_⟩) ?_ ?_
      rotate_left
      · intro w'
        go_simp
        with_reducible rfl
      rotate_left
      · simp only [Act.put, List.setIfInBounds_toArray, List.set_cons_zero, List.set_cons_succ, i64_w, i32_w]
        rfl
      refine pure_ (i := 16) (N := (some 32)) (v := ?_) (a' := ?_) #[true, true, true, true, true, true, true, true, true, true, true, true, true, true, true, true, true, false, false, false, false, false, false, false] rfl rfl (any_of HT_.out (by kernel_rfl)) (fun _ _ _ h => h) (Or.inl ⟨by rfl, ?_⟩) ?_ ?_
      rotate_left
      · intro w'
        go_simp
        with_reducible rfl
      rotate_left
      · simp only [Act.put, List.setIfInBounds_toArray, List.set_cons_zero, List.set_cons_succ, i64_w, i32_w]
        rfl
      refine pure_ (i := 17) (N := (some 33)) (v := ?_) (a' := ?_) #[true, true, true, true, true, true, true, true, true, true, true, true, true, true, true, true, true, true, false, false, false, false, false, false] rfl rfl (any_of HT_.out (by kernel_rfl)) (fun _ _ _ h => h) (Or.inl ⟨by rfl, ?_⟩) ?_ ?_
      rotate_left
      · intro w'
        go_simp
        with_reducible rfl
      rotate_left
      · simp only [Act.put, List.setIfInBounds_toArray, List.set_cons_zero, List.set_cons_succ, i64_w, i32_w]
        rfl
      refine pure_ (i := 18) (N := (some 34)) (v := ?_) (a' := ?_) #[true, true, true, true, true, true, true, true, true, true, true, true, true, true, true, true, true, true, true, false, false, false, false, false] rfl rfl (any_of HT_.out (by kernel_rfl)) (fun _ _ _ h => h) (Or.inl ⟨by rfl, ?_⟩) ?_ ?_
      rotate_left
      · intro w'
        go_simp
        with_reducible rfl
      rotate_left
      · simp only [Act.put, List.setIfInBounds_toArray, List.set_cons_zero, List.set_cons_succ, i64_w, i32_w]
        rfl
      refine take_ (i := 19) (N := (some 35)) (v := .agg c2.toArray) #[true, true, true, true, true, true, true, true, true, true, true, true, true, true, true, true, true, true, true, true, false, false, false, false] rfl rfl (take_ofW HT_.out HW_.out (by kernel_rfl)) (fun _ _ _ h => h) (Or.inl ⟨by rfl, fun w' s0 => run_load34 _ _ (.tmp 34) rfl rfl (s0.2)⟩) hHeld rfl ?_
      refine norm_ (a' := ?_) ?_ ?_
      rotate_left
      · show Act.put _ (some 35) _ = _
        simp only [Act.put, List.setIfInBounds_toArray, List.set_cons_zero, List.set_cons_succ, i64_w, i32_w]
        rfl
      refine pure_ (i := 20) (N := (some 36)) (v := ?_) (a' := ?_) #[true, true, true, true, true, true, true, true, true, true, true, true, true, true, true, true, true, true, true, true, true, false, false, false] rfl rfl (any_of HT_.out (by kernel_rfl)) (fun _ _ _ h => h) (Or.inl ⟨by rfl, ?_⟩) ?_ ?_
      rotate_left
      · intro w'
        go_simp
        with_reducible rfl
      rotate_left
      · simp only [Act.put, List.setIfInBounds_toArray, List.set_cons_zero, List.set_cons_succ, i64_w, i32_w]
        rfl
      refine last_ (i := 21) (N := none) #[true, true, true, true, true, true, true, true, true, true, true, true, true, true, true, true, true, true, true, true, true, true, false, false] rfl rfl (one_of HT_.out (by kernel_rfl)) (by decide) (fun K hK => ?_)
      refine skip_ (w1 := wd.setCells blk ((⟨blk, off + (a + k) * 7, none⟩ : Addr)).off c1) (by rfl) rfl (run_store34 _ _ (.tmp 36) (.tmp 29) rfl rfl rfl rfl hs1 s1) ?_
      refine hK.out _ _ ?_
      clear hK K
      refine pure_ (i := 22) (N := (some 37)) (v := ?_) (a' := ?_) #[true, true, true, true, true, true, true, true, true, true, true, true, true, true, true, true, true, true, true, true, true, true, true, false] rfl rfl (any_of HT_.out (by kernel_rfl)) (fun _ _ _ h => h) (Or.inl ⟨by rfl, ?_⟩) ?_ ?_
      rotate_left
      · intro w'
        go_simp
        with_reducible rfl
      rotate_left
      · simp only [Act.put, List.setIfInBounds_toArray, List.set_cons_zero, List.set_cons_succ, i64_w, i32_w]
        rfl
      refine last_ (i := 23) (N := none) #[true, true, true, true, true, true, true, true, true, true, true, true, true, true, true, true, true, true, true, true, true, true, true, true] rfl rfl (one_of HT_.out (by kernel_rfl)) (by decide) (fun K hK => ?_)
      refine skip_ (w1 := (wd.setCells blk ((⟨blk, off + (a + k) * 7, none⟩ : Addr)).off c1).setCells blk ((⟨blk, off + (b + k) * 7, none⟩ : Addr)).off c2) (by rfl) rfl (run_store34 _ _ (.tmp 37) (.tmp 35) rfl rfl rfl rfl hs2 s2) ?_
      refine hK.out _ _ ?_
      clear hK K
      refine done_ (done_of HT_.out (by kernel_rfl)) ?_
      clear hHeld HT_ HW_ l1 l2 s1 s2
      have HN := Hid.out (show Hid (SWK crL 7 w blk off (swR d a b (k + 1)) ((wd.setCells blk (off + (a + k) * 7) c1).setCells blk (off + (b + k) * 7) c2)) from (by
        show SWK _ _ _ _ _ _ _
        rw [CC.out.1, CC.out.2, ← hx1, ← hx2, swR, hdk, ← hwd]
        exact (HS.out.drewN 1).swap crL_len hblk (a + k) (b + k) o1 o2))
      clear q1 q2 z1 z2 p1 p2 e1 e2
      go_wp2_with fail
      exact ⟨⟨k + 1, hkn, rfl, HN⟩, o3⟩
    · have hkc : ¬ (k : Int) < (n : Int) := by omega
      obtain rfl : k = n := by omega
      go_wp2_with fail
      go_end0
      exact ⟨rfl, hs⟩
end Go.Proofs.Ytamiglolpchplaa.Hand
