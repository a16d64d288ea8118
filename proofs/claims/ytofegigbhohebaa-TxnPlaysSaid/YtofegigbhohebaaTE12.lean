/- A step of both books. -/
import Derived.Test.YtofegigbhohebaaTE11
import Derived.Test.YtofegigbhohebaaTB29
import Derived.Test.YtofegigbhohebaaTB21
namespace Go.Proofs.Ytofegigbhohebaa.Hand
open Go.RowKit Go.Proofs.Ytofegigbhohebaa Go.Proofs.YtofegigbhohebaaW.PrintWords Go.Proofs.YtofegigbhohebaaW.PrintLast
set_option linter.unusedVariables false
set_option linter.unusedSimpArgs false
def fpP (own : Nat → Nat) (ownR : Nat → Prop) (k : Nat) : Prop := own k ≠ 0 ∨ ownR k
/-- The program's book has taken an event, the document's has not yet. -/
structure MI (own : Nat → Nat) (gb : Nat) (gs : List Nat) (qs : List ProdV) (ownR : Nat → Prop) (rb : Nat) (rs : List RP) (ps : List ProdV) (w : World) : Prop where
  bi : BI own gb gs qs w
  good : Good qs
  goodp : Good ps
  rb : RB ownR rb rs w
  eq : psOf rs = ps
  ap : ∀ k, own k ≠ 0 → ¬ ownR k
variable {own : Nat → Nat} {gb : Nat} {gs : List Nat} {ownR : Nat → Prop} {rb : Nat} {rs : List RP} {ps qs : List ProdV} {w w' : World}
theorem MI.below (h : MI own gb gs qs ownR rb rs ps w) (hb : Below w.heap.size w w') : MI own gb gs qs ownR rb rs ps w' := ⟨h.bi.below hb, h.good, h.goodp, h.rb.below hb, h.eq, h.ap⟩
theorem PI.applyA (h : PI own gb gs ownR rb rs ps w) (x : EvV) : Calls Try.prog 15 #[.pointer (some ⟨gb, 0, none⟩), evE x] w fun e w' => e = .returned (.int .i64 (decideF ps x).2) ∧ ∃ own' gs', MI own' gb gs' (applyF ps x) ownR rb rs ps w' ∧ FrP (fpP own ownR) w w' ∧ ∀ k, k < w.heap.size → own' k = own k := by
  refine (apply_c h.bi h.good x).mono ?_
  rintro e w' ⟨rfl, own', gs', h1, h2, h3⟩
  have hz : ∀ k, ownR k → own k = 0 := fun k hk => Classical.byContradiction fun e => h.ap k e hk
  refine ⟨rfl, own', gs', ⟨h1, h.good.apply x, h.good, h.rb.step h2.size (fun k hk => h2.block k (h.rb.lt k hk) (hz k hk)), h.eq, fun k hk hR => hk (by rw [h3 k (h.rb.lt k hR)]; exact hz k hR)⟩, ⟨h2.os, h2.tape, h2.output, h2.size, fun k hk h0 => h2.block k hk (Classical.byContradiction fun e => h0 (.inl e))⟩, h3⟩
theorem MI.applyB {x : EvV} (h : MI own gb gs (applyF ps x) ownR rb rs ps w) : Calls Try.prog 45 #[.pointer (some ⟨rb, 0, none⟩), evE x] w fun e w' => e = .returned (.int .i64 (decideF ps x).2) ∧ ∃ ownR' rs', PI own gb gs ownR' rb rs' (applyF ps x) w' ∧ FrP (fpP own ownR) w w' ∧ ∀ k, k < w.heap.size → ownR' k → ownR k := by
  have hrb := rapply_c h.rb (by rw [h.eq]; exact h.goodp) x
  rw [h.eq] at hrb
  refine hrb.mono ?_
  rintro e w' ⟨rfl, ownR', rs', h1, h2, h3, h4⟩
  refine ⟨rfl, ownR', rs', ⟨h.bi.step h3.size (fun k hk => h3.block k (h.bi.lt k hk) (h.ap k hk)), h.good, h1, h2, fun k hk hR => h.ap k hk (h4 k (h.bi.lt k hk) hR)⟩, ⟨h3.os, h3.tape, h3.output, h3.size, fun k hk h0 => h3.block k hk (fun e => h0 (.inr e))⟩, h4⟩
theorem evC35 : (Try.prog.info? 35).map (·.size) = some 8 := by kernel_rfl
theorem run_load35e {w : World} {g : Nat} {cs : Array Value} (hsz : cs.size = 8) (ev : Operand → Value) (o : Oper) (p : Operand) (ho : o.op = .load 35 p) (hx : ev p = .pointer (some ⟨g, 0, none⟩)) (hg : w.heap[g]? = some (.cells cs 35 (0, 0))) : (execOp ev o).run Try.prog w = .ok (.value (.agg cs)) w := by
  unfold execOp
  simp only [ho, hx, Instr.loadAt, Instr.sureAddr, Sem.run_bind, Sem.run_pure, Result.andThen_ok, run_loadVar_row w g 35 35 cs (0, 0) _ hg Try.underlying35 rfl (by rw [evC35, hsz])]
def TP22 : Bool × List (List Nat × List Nat) := (true, [([], []), ([], []), ([0, 1], [0, 1]), ([2], [2]), ([3], [3]), ([4, 3, 3], [3, 4]), ([3], [3]), ([5, 6, 3], [3, 5, 6]), ([3, 7], [3, 7]), ([8, 5], [8]), ([9], [9]), ([9], [9]), ([11, 9, 9], [9, 11]), ([10, 12, 12, 9], [9, 10, 12]), ([13, 13, 9], [9, 13]), ([9], [9]), ([9], [9]), ([15, 16, 14, 9], [9, 15, 16]), ([14, 17, 9], [9, 14, 17]), ([9, 18], [9, 18]), ([19, 17], [19]), ([20], [20]), ([20], [20]), ([20], [20]), ([21, 22, 23, 20, 20], [20, 21, 22, 23]), ([20, 24], [20, 24]), ([25, 24, 0, 1, 2, 3, 4, 5, 6, 7, 8, 9, 10, 11, 12, 13, 14, 15, 16, 17, 18, 19, 20, 21, 22, 23, 24, 25], [25])])
def BP22 : List Nat := [0, 0, 3, 7, 15, 31, 15, 127, 255, 511, 1023, 1023, 3071, 8191, 16383, 1023, 1023, 131071, 262143, 524287, 1048575, 2097151, 2097151, 2097151, 16777215, 33554431, 67108863]
theorem tabP22 : rtab .any (opsOf Try.f22 3) = TP22 := by kernel_rfl
theorem bitsP22 : waitsOk TP22.2 BP22 = true := by kernel_rfl
set_option maxHeartbeats 6400000 in
set_option maxRecDepth 100000 in
theorem step_c (h : PI own gb gs ownR rb rs ps w) (x : EvV) : Calls Try.prog 22 #[.pointer (some ⟨gb, 0, none⟩), .pointer (some ⟨rb, 0, none⟩), evE x] w fun e w' => e = .returned (.bool true) ∧ ∃ own' gs' ownR' rs', PI own' gb gs' ownR' rb rs' (applyF ps x) w' ∧ FrP (fpP own ownR) w w' ∧ ∀ k, k < w.heap.size → fpP own' ownR' k → fpP own ownR k := by
  have HH := Aside0.mk h
  have HNB := Aside0.mk (show ¬ fpP own ownR w.heap.size from fun e => e.elim (fun e => Nat.lt_irrefl _ (h.bi.lt _ e)) (fun e => Nat.lt_irrefl _ (h.rb.lt _ e)))
  have HOW := Aside0.mk (fun W => own_c x W)
  have HD := Aside0.mk (fun (V : World) (hv : PI own gb gs ownR rb rs ps V) => decide_c hv.bi hv.good x)
  have HRD := Aside0.mk (fun (V : World) (hv : PI own gb gs ownR rb rs ps V) => rdecide_c hv.rb (by rw [hv.eq]; exact hv.good) x)
  have HAA := Aside0.mk (fun (V : World) (hv : PI own gb gs ownR rb rs ps V) => hv.applyA x)
  have HBB := Aside0.mk (fun (own : Nat → Nat) (gs : List Nat) (V : World) (hv : MI own gb gs (applyF ps x) ownR rb rs ps V) => hv.applyB)
  have HLI := Aside0.mk (fun (own : Nat → Nat) (gs : List Nat) (ownR : Nat → Prop) (rs : List RP) (V : World) (hv : PI own gb gs ownR rb rs (applyF ps x) V) => like_c hv x)
  rw [h.eq] at HRD
  obtain ⟨⟨dd, dn⟩, hd⟩ : ∃ q, decideF ps x = q := ⟨_, rfl⟩
  rw [hd] at HD HRD HAA HBB
  obtain ⟨qs, hqs⟩ : ∃ q, applyF ps x = q := ⟨_, rfl⟩
  rw [hqs] at HAA HBB HLI ⊢
  clear hd hqs
  obtain ⟨kind, name, producer, epoch, place, timeout, now, yes⟩ := x
  unfold evE at HOW HD HRD HAA HBB HLI ⊢
  dsimp only at HOW HD HRD HAA HBB HLI ⊢
  have hal := below_alloc (Below.refl w.heap.size w) (.cells #[.int .i64 kind, .string name, .int .i64 producer, .int .i64 epoch, .int .i64 place, .int .i64 timeout, .int .i64 now, .bool yes] 35 (0, 0))
  have HP1 := Aside0.mk (h.below hal)
  have HX1 := Aside0.mk (heap_alloc_new w (.cells #[.int .i64 kind, .string name, .int .i64 producer, .int .i64 epoch, .int .i64 place, .int .i64 timeout, .int .i64 now, .bool yes] 35 (0, 0)))
  have HB1 := Aside0.mk hal
  clear hal h
  have y0 : (w.alloc (.cells #[.int .i64 kind, .string name, .int .i64 producer, .int .i64 epoch, .int .i64 place, .int .i64 timeout, .int .i64 now, .bool yes] 35 (0, 0))).cell? ⟨w.heap.size, 0, none⟩ = some (.int .i64 kind) := (blk_cell HX1.out 0).trans rfl
  have y1 : (w.alloc (.cells #[.int .i64 kind, .string name, .int .i64 producer, .int .i64 epoch, .int .i64 place, .int .i64 timeout, .int .i64 now, .bool yes] 35 (0, 0))).cell? ⟨w.heap.size, 1, none⟩ = some (.string name) := (blk_cell HX1.out 1).trans rfl
  have y2 : (w.alloc (.cells #[.int .i64 kind, .string name, .int .i64 producer, .int .i64 epoch, .int .i64 place, .int .i64 timeout, .int .i64 now, .bool yes] 35 (0, 0))).cell? ⟨w.heap.size, 2, none⟩ = some (.int .i64 producer) := (blk_cell HX1.out 2).trans rfl
  have y3 : (w.alloc (.cells #[.int .i64 kind, .string name, .int .i64 producer, .int .i64 epoch, .int .i64 place, .int .i64 timeout, .int .i64 now, .bool yes] 35 (0, 0))).cell? ⟨w.heap.size, 3, none⟩ = some (.int .i64 epoch) := (blk_cell HX1.out 3).trans rfl
  have y4 : (w.alloc (.cells #[.int .i64 kind, .string name, .int .i64 producer, .int .i64 epoch, .int .i64 place, .int .i64 timeout, .int .i64 now, .bool yes] 35 (0, 0))).cell? ⟨w.heap.size, 4, none⟩ = some (.int .i64 place) := (blk_cell HX1.out 4).trans rfl
  have y5 : (w.alloc (.cells #[.int .i64 kind, .string name, .int .i64 producer, .int .i64 epoch, .int .i64 place, .int .i64 timeout, .int .i64 now, .bool yes] 35 (0, 0))).cell? ⟨w.heap.size, 5, none⟩ = some (.int .i64 timeout) := (blk_cell HX1.out 5).trans rfl
  have y6 : (w.alloc (.cells #[.int .i64 kind, .string name, .int .i64 producer, .int .i64 epoch, .int .i64 place, .int .i64 timeout, .int .i64 now, .bool yes] 35 (0, 0))).cell? ⟨w.heap.size, 6, none⟩ = some (.int .i64 now) := (blk_cell HX1.out 6).trans rfl
  have y7 : (w.alloc (.cells #[.int .i64 kind, .string name, .int .i64 producer, .int .i64 epoch, .int .i64 place, .int .i64 timeout, .int .i64 now, .bool yes] 35 (0, 0))).cell? ⟨w.heap.size, 7, none⟩ = some (.bool yes) := (blk_cell HX1.out 7).trans rfl
  go_enter Try.func22, Try.ntmps22
  go_upto_region 3 with (first
    | (go_at_call 16; clear y0 y1 y2 y3 y4 y5 y6 y7; refine (HOW.out _).mono ?_; rintro e w2 ⟨rfl, hb⟩; have HP2 := Aside0.mk (HP1.out.below hb); have HB2 := Aside0.mk (below_step HB1.out hb); have HX2 := Aside0.mk (blk_below HX1.out hb); clear hb HP1 HB1 HX1)
    | (go_at_call 20; refine (HD.out _ HP2.out).mono ?_; rintro e w3 ⟨rfl, hb⟩; have HP3 := Aside0.mk (HP2.out.below hb); have HB3 := Aside0.mk (below_step HB2.out hb); have HX3 := Aside0.mk (blk_below HX2.out hb); clear hb HP2 HB2 HX2; have y0 : w3.cell? ⟨w.heap.size, 0, none⟩ = some (.int .i64 kind) := (blk_cell HX3.out 0).trans rfl; have y1 : w3.cell? ⟨w.heap.size, 1, none⟩ = some (.string name) := (blk_cell HX3.out 1).trans rfl; have y2 : w3.cell? ⟨w.heap.size, 2, none⟩ = some (.int .i64 producer) := (blk_cell HX3.out 2).trans rfl; have y3 : w3.cell? ⟨w.heap.size, 3, none⟩ = some (.int .i64 epoch) := (blk_cell HX3.out 3).trans rfl; have y4 : w3.cell? ⟨w.heap.size, 4, none⟩ = some (.int .i64 place) := (blk_cell HX3.out 4).trans rfl; have y5 : w3.cell? ⟨w.heap.size, 5, none⟩ = some (.int .i64 timeout) := (blk_cell HX3.out 5).trans rfl; have y6 : w3.cell? ⟨w.heap.size, 6, none⟩ = some (.int .i64 now) := (blk_cell HX3.out 6).trans rfl; have y7 : w3.cell? ⟨w.heap.size, 7, none⟩ = some (.bool yes) := (blk_cell HX3.out 7).trans rfl)
    | (go_at_call 44; clear y0 y1 y2 y3 y4 y5 y6 y7; refine (HRD.out _ HP3.out).mono ?_; rintro e w6 ⟨rfl, hb⟩; have HP6 := Aside0.mk (HP3.out.below hb); have HB6 := Aside0.mk (below_step HB3.out hb); have HX6 := Aside0.mk (blk_below HX3.out hb); clear hb HP3 HB3 HX3))
  have hdr := below_drew (Below.refl w6.heap.size w6)
  have HP7 := Aside0.mk (HP6.out.below hdr)
  have HB7 := Aside0.mk (below_step HB6.out hdr)
  have HX7 := Aside0.mk (blk_below HX6.out hdr)
  clear hdr
  refine start_ (n := 27) (S := fun w' => w'.heap[w.heap.size]? = some (.cells (#[.int .i64 kind, .string name, .int .i64 producer, .int .i64 epoch, .int .i64 place, .int .i64 timeout, .int .i64 now, .bool yes]) 35 (0, 0))) (ds := []) #[false, false, false, false, false, false, false, false, false, false, false, false, false, false, false, false, false, false, false, false, false, false, false, false, false, false, false] (by kernel_rfl) rfl rfl HX7.out (fun hHeld => ?_); refine with_tabW tabP22 bitsP22 (fun HT_ HW_ => ?_)
  generalize w6.drew = w7 at HP7 HB7 HX7 hHeld ⊢
  refine pure_ (i := 0) (N := (some 24)) (v := ?_) (a' := ?_) #[true, false, false, false, false, false, false, false, false, false, false, false, false, false, false, false, false, false, false, false, false, false, false, false, false, false, false] rfl rfl (any_of HT_.out (by kernel_rfl)) (fun _ _ _ h => h) (Or.inl ⟨by rfl, ?_⟩) ?_ ?_
  rotate_left
  · intro w'
    go_simp
    with_reducible rfl
  rotate_left
  · simp only [Act.put, List.setIfInBounds_toArray, List.set_cons_zero, List.set_cons_succ, i64_w, i32_w]
    rfl
  refine pure_ (i := 1) (N := (some 25)) (v := ?_) (a' := ?_) #[true, true, false, false, false, false, false, false, false, false, false, false, false, false, false, false, false, false, false, false, false, false, false, false, false, false, false] rfl rfl (any_of HT_.out (by kernel_rfl)) (fun _ _ _ h => h) (Or.inl ⟨by rfl, ?_⟩) ?_ ?_
  rotate_left
  · intro w'
    go_simp
    with_reducible rfl
  rotate_left
  · simp only [Act.put, List.setIfInBounds_toArray, List.set_cons_zero, List.set_cons_succ, i64_w, i32_w]
    rfl
  refine pure_ (i := 2) (N := (some 26)) (v := ?_) (a' := ?_) #[true, true, true, false, false, false, false, false, false, false, false, false, false, false, false, false, false, false, false, false, false, false, false, false, false, false, false] rfl rfl (any_of HT_.out (by kernel_rfl)) (fun _ _ _ h => h) (Or.inl ⟨by rfl, ?_⟩) ?_ ?_
  rotate_left
  · intro w'
    go_simp
    with_reducible rfl
  rotate_left
  · simp only [Act.put, List.setIfInBounds_toArray, List.set_cons_zero, List.set_cons_succ, i64_w, i32_w]
    rfl
  refine pure_ (i := 3) (N := (some 27)) (v := ?_) (a' := ?_) #[true, true, true, true, false, false, false, false, false, false, false, false, false, false, false, false, false, false, false, false, false, false, false, false, false, false, false] rfl rfl (any_of HT_.out (by kernel_rfl)) (fun _ _ _ h => h) (Or.inl ⟨by rfl, ?_⟩) ?_ ?_
  rotate_left
  · intro w'
    go_simp
    with_reducible rfl
  rotate_left
  · simp only [Act.put, List.setIfInBounds_toArray, List.set_cons_zero, List.set_cons_succ, i64_w, i32_w]
    rfl
  refine pure_ (i := 4) (N := (some 28)) (v := ?_) (a' := ?_) #[true, true, true, true, true, false, false, false, false, false, false, false, false, false, false, false, false, false, false, false, false, false, false, false, false, false, false] rfl rfl (any_of HT_.out (by kernel_rfl)) (fun _ _ _ h => h) (Or.inl ⟨by rfl, ?_⟩) ?_ ?_
  rotate_left
  · intro w'
    go_simp
    with_reducible rfl
  rotate_left
  · simp only [Act.put, List.setIfInBounds_toArray, List.set_cons_zero, List.set_cons_succ, i64_w, i32_w]
    rfl
  refine pure_ (i := 6) (N := (some 30)) (v := ?_) (a' := ?_) #[true, true, true, true, true, false, true, false, false, false, false, false, false, false, false, false, false, false, false, false, false, false, false, false, false, false, false] rfl rfl (any_of HT_.out (by kernel_rfl)) (fun _ _ _ h => h) (Or.inl ⟨by rfl, ?_⟩) ?_ ?_
  rotate_left
  · intro w'
    go_simp
    with_reducible rfl
  rotate_left
  · simp only [Act.put, List.setIfInBounds_toArray, List.set_cons_zero, List.set_cons_succ, i64_w, i32_w]
    rfl
  refine one_ (i := 5) (N := (some 29)) #[true, true, true, true, true, true, true, false, false, false, false, false, false, false, false, false, false, false, false, false, false, false, false, false, false, false, false] rfl rfl (one_of HT_.out (by kernel_rfl)) (by decide) (fun K hK => ?_)
  refine goes_ Try.func19 (by kernel_rfl) rfl #[.int .i64 dn] (by rfl) rfl rfl (by (try simp only [List.map_toArray, List.map_cons, List.map_nil]); first | done | rfl) ?_
  refine (num_c dn _).mono ?_
  rintro e w8 ⟨rfl, rfl⟩
  refine ⟨_, rfl, ?_⟩
  refine hK.out _ _ hHeld (fun hHeld => ?_)
  clear hK K
  refine norm_ (a' := ?_) ?_ ?_
  rotate_left
  · show Act.put _ (some 29) _ = _
    simp only [Act.put, List.setIfInBounds_toArray, List.set_cons_zero, List.set_cons_succ, i64_w, i32_w]
    rfl
  refine pure_ (i := 7) (N := (some 31)) (v := ?_) (a' := ?_) #[true, true, true, true, true, true, true, true, false, false, false, false, false, false, false, false, false, false, false, false, false, false, false, false, false, false, false] rfl rfl (any_of HT_.out (by kernel_rfl)) (fun _ _ _ h => h) (Or.inl ⟨by rfl, ?_⟩) ?_ ?_
  rotate_left
  · intro w'
    go_simp
    with_reducible rfl
  rotate_left
  · simp only [Act.put, List.setIfInBounds_toArray, List.set_cons_zero, List.set_cons_succ, i64_w, i32_w]
    rfl
  refine pure_ (i := 8) (N := (some 32)) (v := ?_) (a' := ?_) #[true, true, true, true, true, true, true, true, true, false, false, false, false, false, false, false, false, false, false, false, false, false, false, false, false, false, false] rfl rfl (any_of HT_.out (by kernel_rfl)) (fun _ _ _ h => h) (Or.inl ⟨by rfl, ?_⟩) ?_ ?_
  rotate_left
  · intro w'
    go_simp
    with_reducible rfl
  rotate_left
  · simp only [Act.put, List.setIfInBounds_toArray, List.set_cons_zero, List.set_cons_succ, i64_w, i32_w]
    rfl
  refine pure_ (i := 9) (N := (some 33)) (v := ?_) (a' := ?_) #[true, true, true, true, true, true, true, true, true, true, false, false, false, false, false, false, false, false, false, false, false, false, false, false, false, false, false] rfl rfl (any_of HT_.out (by kernel_rfl)) (fun _ _ _ h => h) (Or.inl ⟨by rfl, ?_⟩) ?_ ?_
  rotate_left
  · intro w'
    go_simp
    with_reducible rfl
  rotate_left
  · simp only [Act.put, List.setIfInBounds_toArray, List.set_cons_zero, List.set_cons_succ, i64_w, i32_w]
    rfl
  refine pure_ (i := 10) (N := (some 34)) (v := ?_) (a' := ?_) #[true, true, true, true, true, true, true, true, true, true, true, false, false, false, false, false, false, false, false, false, false, false, false, false, false, false, false] rfl rfl (any_of HT_.out (by kernel_rfl)) (fun _ _ _ h => h) (Or.inl ⟨by rfl, ?_⟩) ?_ ?_
  rotate_left
  · intro w'
    go_simp
    with_reducible rfl
  rotate_left
  · simp only [Act.put, List.setIfInBounds_toArray, List.set_cons_zero, List.set_cons_succ, i64_w, i32_w]
    rfl
  refine pure_ (i := 15) (N := (some 39)) (v := ?_) (a' := ?_) #[true, true, true, true, true, true, true, true, true, true, true, false, false, false, false, true, false, false, false, false, false, false, false, false, false, false, false] rfl rfl (any_of HT_.out (by kernel_rfl)) (fun _ _ _ h => h) (Or.inl ⟨by rfl, ?_⟩) ?_ ?_
  rotate_left
  · intro w'
    go_simp
    with_reducible rfl
  rotate_left
  · simp only [Act.put, List.setIfInBounds_toArray, List.set_cons_zero, List.set_cons_succ, i64_w, i32_w]
    rfl
  refine take_ (i := 11) (N := (some 35)) (v := .agg (#[.int .i64 kind, .string name, .int .i64 producer, .int .i64 epoch, .int .i64 place, .int .i64 timeout, .int .i64 now, .bool yes])) #[true, true, true, true, true, true, true, true, true, true, true, true, false, false, false, true, false, false, false, false, false, false, false, false, false, false, false] rfl rfl (take_ofW HT_.out HW_.out (by kernel_rfl)) (fun _ _ _ h => h) (Or.inl ⟨by rfl, fun w' s0 => run_load35e (cs := #[.int .i64 kind, .string name, .int .i64 producer, .int .i64 epoch, .int .i64 place, .int .i64 timeout, .int .i64 now, .bool yes]) rfl _ _ (.tmp 5) rfl rfl s0⟩) hHeld rfl ?_
  refine norm_ (a' := ?_) ?_ ?_
  rotate_left
  · show Act.put _ (some 35) _ = _
    simp only [Act.put, List.setIfInBounds_toArray, List.set_cons_zero, List.set_cons_succ, i64_w, i32_w]
    rfl
  refine take_ (i := 16) (N := (some 40)) (v := .agg (#[.int .i64 kind, .string name, .int .i64 producer, .int .i64 epoch, .int .i64 place, .int .i64 timeout, .int .i64 now, .bool yes])) #[true, true, true, true, true, true, true, true, true, true, true, true, false, false, false, true, true, false, false, false, false, false, false, false, false, false, false] rfl rfl (take_ofW HT_.out HW_.out (by kernel_rfl)) (fun _ _ _ h => h) (Or.inl ⟨by rfl, fun w' s0 => run_load35e (cs := #[.int .i64 kind, .string name, .int .i64 producer, .int .i64 epoch, .int .i64 place, .int .i64 timeout, .int .i64 now, .bool yes]) rfl _ _ (.tmp 5) rfl rfl s0⟩) hHeld rfl ?_
  refine norm_ (a' := ?_) ?_ ?_
  rotate_left
  · show Act.put _ (some 40) _ = _
    simp only [Act.put, List.setIfInBounds_toArray, List.set_cons_zero, List.set_cons_succ, i64_w, i32_w]
    rfl
  refine one_ (i := 12) (N := (some 36)) #[true, true, true, true, true, true, true, true, true, true, true, true, true, false, false, true, true, false, false, false, false, false, false, false, false, false, false] rfl rfl (one_of HT_.out (by kernel_rfl)) (by decide) (fun K hK => ?_)
  refine goes_ Try.func16 (by kernel_rfl) rfl #[.agg (#[.int .i64 kind, .string name, .int .i64 producer, .int .i64 epoch, .int .i64 place, .int .i64 timeout, .int .i64 now, .bool yes])] (by rfl) rfl rfl (by (try simp only [List.map_toArray, List.map_cons, List.map_nil]); first | done | rfl) ?_
  refine (HOW.out _).mono ?_
  rintro e w9 ⟨rfl, hb⟩
  have HP9 := Aside0.mk (HP7.out.below hb)
  have HB9 := Aside0.mk (below_step HB7.out hb)
  have HX9 := Aside0.mk (blk_below HX7.out hb)
  clear hb
  refine ⟨_, rfl, ?_⟩
  refine hK.out _ _ HX9.out (fun hHeld => ?_)
  clear hK K
  refine norm_ (a' := ?_) ?_ ?_
  rotate_left
  · show Act.put _ (some 36) _ = _
    simp only [Act.put, List.setIfInBounds_toArray, List.set_cons_zero, List.set_cons_succ, i64_w, i32_w]
    rfl
  refine one_ (i := 13) (N := (some 37)) #[true, true, true, true, true, true, true, true, true, true, true, true, true, true, false, true, true, false, false, false, false, false, false, false, false, false, false] rfl rfl (one_of HT_.out (by kernel_rfl)) (by decide) (fun K hK => ?_)
  refine goes_ Try.func15 (by kernel_rfl) rfl #[.pointer (some ⟨gb, 0, none⟩), .agg (#[.int .i64 kind, .string name, .int .i64 producer, .int .i64 epoch, .int .i64 place, .int .i64 timeout, .int .i64 now, .bool yes])] (by rfl) rfl rfl (by (try simp only [List.map_toArray, List.map_cons, List.map_nil]); first | done | rfl) ?_
  refine (HAA.out _ HP9.out).mono ?_
  rintro e w10 ⟨rfl, own1, gs1, hm, hf, hi⟩
  have HM10 := Aside0.mk hm
  have HF10 := Aside0.mk hf
  have HI10 := Aside0.mk hi
  have HX10 := Aside0.mk ((hf.block _ (blk_lt HX9.out) HNB.out).trans HX9.out)
  clear hm hf hi
  refine ⟨_, rfl, ?_⟩
  refine hK.out _ _ HX10.out (fun hHeld => ?_)
  clear hK K
  refine norm_ (a' := ?_) ?_ ?_
  rotate_left
  · show Act.put _ (some 37) _ = _
    simp only [Act.put, List.setIfInBounds_toArray, List.set_cons_zero, List.set_cons_succ, i64_w, i32_w]
    rfl
  refine one_ (i := 14) (N := (some 38)) #[true, true, true, true, true, true, true, true, true, true, true, true, true, true, true, true, true, false, false, false, false, false, false, false, false, false, false] rfl rfl (one_of HT_.out (by kernel_rfl)) (by decide) (fun K hK => ?_)
  refine goes_ Try.func19 (by kernel_rfl) rfl #[.int .i64 dn] (by rfl) rfl rfl (by (try simp only [List.map_toArray, List.map_cons, List.map_nil]); first | done | rfl) ?_
  refine (num_c dn _).mono ?_
  rintro e w11 ⟨rfl, hww⟩
  subst hww
  refine ⟨_, rfl, ?_⟩
  refine hK.out _ _ HX10.out (fun hHeld => ?_)
  clear hK K
  refine norm_ (a' := ?_) ?_ ?_
  rotate_left
  · show Act.put _ (some 38) _ = _
    simp only [Act.put, List.setIfInBounds_toArray, List.set_cons_zero, List.set_cons_succ, i64_w, i32_w]
    rfl
  refine one_ (i := 17) (N := (some 41)) #[true, true, true, true, true, true, true, true, true, true, true, true, true, true, true, true, true, true, false, false, false, false, false, false, false, false, false] rfl rfl (one_of HT_.out (by kernel_rfl)) (by decide) (fun K hK => ?_)
  refine goes_ Try.func45 (by kernel_rfl) rfl #[.pointer (some ⟨rb, 0, none⟩), .agg (#[.int .i64 kind, .string name, .int .i64 producer, .int .i64 epoch, .int .i64 place, .int .i64 timeout, .int .i64 now, .bool yes])] (by rfl) rfl rfl (by (try simp only [List.map_toArray, List.map_cons, List.map_nil]); first | done | rfl) ?_
  refine (HBB.out _ _ _ HM10.out).mono ?_
  rintro e w12 ⟨rfl, own2, rs2, hp, hf, hi⟩
  have HP12 := Aside0.mk hp
  have HF12 := Aside0.mk hf
  have HI12 := Aside0.mk hi
  have HX12 := Aside0.mk ((hf.block _ (blk_lt HX10.out) (fun e => HNB.out (e.elim (fun e => .inl (by rw [← HI10.out _ (blk_lt HX9.out)]; exact e)) .inr))).trans HX10.out)
  clear hp hf hi
  refine ⟨_, rfl, ?_⟩
  refine hK.out _ _ HX12.out (fun hHeld => ?_)
  clear hK K
  refine norm_ (a' := ?_) ?_ ?_
  rotate_left
  · show Act.put _ (some 41) _ = _
    simp only [Act.put, List.setIfInBounds_toArray, List.set_cons_zero, List.set_cons_succ, i64_w, i32_w]
    rfl
  refine pure_ (i := 18) (N := (some 42)) (v := ?_) (a' := ?_) #[true, true, true, true, true, true, true, true, true, true, true, true, true, true, true, true, true, true, true, false, false, false, false, false, false, false, false] rfl rfl (any_of HT_.out (by kernel_rfl)) (fun _ _ _ h => h) (Or.inl ⟨by rfl, ?_⟩) ?_ ?_
  rotate_left
  · intro w'
    go_simp
    with_reducible rfl
  rotate_left
  · simp only [Act.put, List.setIfInBounds_toArray, List.set_cons_zero, List.set_cons_succ, i64_w, i32_w]
    rfl
  refine pure_ (i := 19) (N := (some 43)) (v := ?_) (a' := ?_) #[true, true, true, true, true, true, true, true, true, true, true, true, true, true, true, true, true, true, true, true, false, false, false, false, false, false, false] rfl rfl (any_of HT_.out (by kernel_rfl)) (fun _ _ _ h => h) (Or.inl ⟨by rfl, ?_⟩) ?_ ?_
  rotate_left
  · intro w'
    go_simp
    with_reducible rfl
  rotate_left
  · simp only [Act.put, List.setIfInBounds_toArray, List.set_cons_zero, List.set_cons_succ, i64_w, i32_w]
    rfl
  refine pure_ (i := 20) (N := (some 44)) (v := ?_) (a' := ?_) #[true, true, true, true, true, true, true, true, true, true, true, true, true, true, true, true, true, true, true, true, true, false, false, false, false, false, false] rfl rfl (any_of HT_.out (by kernel_rfl)) (fun _ _ _ h => h) (Or.inl ⟨by rfl, ?_⟩) ?_ ?_
  rotate_left
  · intro w'
    go_simp
    with_reducible rfl
  rotate_left
  · simp only [Act.put, List.setIfInBounds_toArray, List.set_cons_zero, List.set_cons_succ, i64_w, i32_w]
    rfl
  refine pure_ (i := 21) (N := (some 45)) (v := ?_) (a' := ?_) #[true, true, true, true, true, true, true, true, true, true, true, true, true, true, true, true, true, true, true, true, true, true, false, false, false, false, false] rfl rfl (any_of HT_.out (by kernel_rfl)) (fun _ _ _ h => h) (Or.inl ⟨by rfl, ?_⟩) ?_ ?_
  rotate_left
  · intro w'
    go_simp
    with_reducible rfl
  rotate_left
  · simp only [Act.put, List.setIfInBounds_toArray, List.set_cons_zero, List.set_cons_succ, i64_w, i32_w]
    rfl
  refine pure_ (i := 22) (N := (some 46)) (v := ?_) (a' := ?_) #[true, true, true, true, true, true, true, true, true, true, true, true, true, true, true, true, true, true, true, true, true, true, true, false, false, false, false] rfl rfl (any_of HT_.out (by kernel_rfl)) (fun _ _ _ h => h) (Or.inl ⟨by rfl, ?_⟩) ?_ ?_
  rotate_left
  · intro w'
    go_simp
    with_reducible rfl
  rotate_left
  · simp only [Act.put, List.setIfInBounds_toArray, List.set_cons_zero, List.set_cons_succ, i64_w, i32_w]
    rfl
  refine take_ (i := 23) (N := (some 47)) (v := .agg (#[.int .i64 kind, .string name, .int .i64 producer, .int .i64 epoch, .int .i64 place, .int .i64 timeout, .int .i64 now, .bool yes])) #[true, true, true, true, true, true, true, true, true, true, true, true, true, true, true, true, true, true, true, true, true, true, true, true, false, false, false] rfl rfl (take_ofW HT_.out HW_.out (by kernel_rfl)) (fun _ _ _ h => h) (Or.inl ⟨by rfl, fun w' s0 => run_load35e (cs := #[.int .i64 kind, .string name, .int .i64 producer, .int .i64 epoch, .int .i64 place, .int .i64 timeout, .int .i64 now, .bool yes]) rfl _ _ (.tmp 5) rfl rfl s0⟩) hHeld rfl ?_
  refine norm_ (a' := ?_) ?_ ?_
  rotate_left
  · show Act.put _ (some 47) _ = _
    simp only [Act.put, List.setIfInBounds_toArray, List.set_cons_zero, List.set_cons_succ, i64_w, i32_w]
    rfl
  refine one_ (i := 24) (N := (some 48)) #[true, true, true, true, true, true, true, true, true, true, true, true, true, true, true, true, true, true, true, true, true, true, true, true, true, false, false] rfl rfl (one_of HT_.out (by kernel_rfl)) (by decide) (fun K hK => ?_)
  refine goes_ Try.func46 (by kernel_rfl) rfl #[.pointer (some ⟨gb, 0, none⟩), .pointer (some ⟨rb, 0, none⟩), .agg (#[.int .i64 kind, .string name, .int .i64 producer, .int .i64 epoch, .int .i64 place, .int .i64 timeout, .int .i64 now, .bool yes])] (by rfl) rfl rfl (by (try simp only [List.map_toArray, List.map_cons, List.map_nil]); first | done | rfl) ?_
  refine (HLI.out _ _ _ _ _ HP12.out).mono ?_
  rintro e w13 ⟨rfl, hb⟩
  have HP13 := Aside0.mk (HP12.out.below hb)
  have HF13 := Aside0.mk hb
  have HX13 := Aside0.mk (blk_below HX12.out hb)
  clear hb
  refine ⟨_, rfl, ?_⟩
  refine hK.out _ _ HX13.out (fun hHeld => ?_)
  clear hK K
  refine norm_ (a' := ?_) ?_ ?_
  rotate_left
  · show Act.put _ (some 48) _ = _
    simp only [Act.put, List.setIfInBounds_toArray, List.set_cons_zero, List.set_cons_succ, i64_w, i32_w]
    rfl
  refine pure_ (i := 25) (N := (some 49)) (v := ?_) (a' := ?_) #[true, true, true, true, true, true, true, true, true, true, true, true, true, true, true, true, true, true, true, true, true, true, true, true, true, true, false] rfl rfl (any_of HT_.out (by kernel_rfl)) (fun _ _ _ h => h) (Or.inl ⟨by rfl, ?_⟩) ?_ ?_
  rotate_left
  · intro w'
    go_simp
    with_reducible rfl
  rotate_left
  · simp only [Act.put, List.setIfInBounds_toArray, List.set_cons_zero, List.set_cons_succ, i64_w, i32_w]
    rfl
  refine pure_ (i := 26) (N := (some 6)) (v := ?_) (a' := ?_) #[true, true, true, true, true, true, true, true, true, true, true, true, true, true, true, true, true, true, true, true, true, true, true, true, true, true, true] rfl rfl (any_of HT_.out (by kernel_rfl)) (fun _ _ _ h => h) (Or.inl ⟨by rfl, ?_⟩) ?_ ?_
  rotate_left
  · intro w'
    go_simp
    with_reducible rfl
  rotate_left
  · simp only [Act.put, List.setIfInBounds_toArray, List.set_cons_zero, List.set_cons_succ, i64_w, i32_w]
    rfl
  refine done_ (done_of HT_.out (by kernel_rfl)) ?_
  clear hHeld HT_ HW_
  go_wp2_with fail
  have hs9 : w.heap.size ≤ w9.heap.size := HB9.out.size
  have hi1 : ∀ k, k < w.heap.size → own1 k = own k := fun k hk => HI10.out k (Nat.lt_of_lt_of_le hk hs9)
  refine bodyPost_ret (v := .bool true) (by simp [results, Try.results22, go_sem]) rfl ⟨rfl, own1, gs1, own2, rs2, HP13.out, ?_, fun k hk hf => ?_⟩
  · exact (((FrP.below _ HB9.out).trans HF10.out (fun _ _ h => h)).trans HF12.out (fun k hk h => h.elim (fun e => .inl (by rw [← hi1 k hk]; exact e)) .inr)).trans (FrP.below (fpP own ownR) HF13.out) (fun _ _ h => h)
  · exact hf.elim (fun e => .inl (by rw [← hi1 k hk]; exact e)) (fun e => .inr (HI12.out k (Nat.lt_of_lt_of_le hk (Nat.le_trans hs9 HF10.out.size)) e))
end Go.Proofs.Ytofegigbhohebaa.Hand
