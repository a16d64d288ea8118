/- The closure that says the least rank. The closures of take. take. What Check has in memory; what it makes, in plain words. -/
import Derived.Test.YtamiglolpchplaaK12
import Derived.Test.YtamiglolpchplaaL1
import Derived.RangeFuncOwn
namespace Go.Proofs.Ytamiglolpchplaa.Hand
open Go.RowKit Go.Proofs.Ytamiglolpchplaa Go.Proofs.YtamiglolpchplaaW.PrintWords Go.Proofs.YtamiglolpchplaaW.PrintLast
set_option linter.unusedVariables false
set_option linter.unusedSimpArgs false
/-- A boxed slice of calls that is read. -/
def DoneI (W : World) (a : Nat) (ds : List CallP) : Prop := ∃ A c, W.cell? ⟨a, 0, none⟩ = some (.slice A ds.length c) ∧ Kd.C kP W A ds.length ds
theorem DoneI.below {W W' : World} {a : Nat} {ds : List CallP} (h : DoneI W a ds) (hb : Below W.heap.size W W') : DoneI W' a ds := by
  obtain ⟨A, c, h1, h2⟩ := h
  exact ⟨A, c, (hb.cell (World.block_lt_of_cell? W _ h1)).trans h1, Kd.C_below h2 hb⟩
structure LeI (W : World) (b : Int) (L : List CallV) (i : Nat) (n : Int) (wr : World) : Prop where
  go : leastB 0 b L = leastB n b (L.drop i)
  bl : Below W.heap.size W wr
set_option maxHeartbeats 8000000 in
set_option maxRecDepth 100000 in
theorem least_c (b : Int) (a : Nat) (ds : List CallP) (W : World) (hd : DoneI W a ds) (hv : ∀ r ∈ ds, r.2.2.1 = r.1.values.length ∧ SmallC r.1) :
    Calls Try.prog 26 #[.int .i64 b, .pointer (some ⟨a, 0, none⟩)] W fun e w' => e = .returned (.int .i64 (leastB 0 b (ds.map (·.1)))) ∧ Below W.heap.size W w' := by
  obtain ⟨A, c, h1, h2⟩ := hd
  have HR := Aside0.mk h2
  have HV := Aside0.mk hv
  have hmax := Kd.C_max h2
  obtain ⟨L, hL⟩ : ∃ L, L = ds.map (·.1) := ⟨_, rfl⟩
  have HL := Aside0.mk hL
  rw [← hL]
  clear h2 hv hL
  go_enter Try.func26, Try.ntmps26
  go_wp2_with fail
  clear h1
  go_loopw [4, 9] (fun u4 u9 wr => ∃ (i : Nat) (n : Int), i ≤ ds.length ∧ u9 = .int .i64 i ∧ u4 = .int .i64 n ∧ LeI W b L i n wr) (fun u4 u9 wr => ds.length - (intOf u9).toNat)
  case atStart => exact ⟨0, 0, by omega, rfl, rfl, ⟨rfl, Below.refl _ _⟩⟩
  case round =>
    obtain ⟨i, n, hi, rfl, rfl, hri⟩ := hrel
    have HI1 := Aside0.mk hri
    clear hri
    by_cases hi1 : i < ds.length
    · have hd : (i : Int) < (ds.length : Int) := by omega
      obtain ⟨⟨⟨rd, dn, bg, fi, of, va, vs⟩, A1, n1, c1⟩, hx⟩ : ∃ x, ds[i]? = some x := ⟨_, List.getElem?_eq_getElem hi1⟩
      have hvx := HV.out _ (List.mem_of_getElem? hx)
      have hn1 : n1 = vs.length := hvx.1
      subst hn1
      obtain ⟨ad, hA, x0, x1, x2, x3, x4, x5, x6⟩ := at_P (Kd.C_below HR.out HI1.out.bl) i hi1 _ hx
      subst hA
      dsimp only at x0 x1 x2 x3 x4 x5 x6
      have HD := Aside0.mk (show L.drop i = ⟨rd, dn, bg, fi, of, va, vs⟩ :: L.drop (i + 1) from by
        have hmem : L[i]? = some ⟨rd, dn, bg, fi, of, va, vs⟩ := by rw [HL.out, List.getElem?_map, hx]; rfl
        obtain ⟨h1, h2⟩ := List.getElem?_eq_some_iff.1 hmem
        rw [← h2]; exact List.drop_eq_getElem_cons h1)
      have HC := Aside0.mk (rank_c ⟨⟨rd, dn, bg, fi, of, va, vs⟩, A1, vs.length, c1⟩ rfl hvx.2 (wr.alloc (.cells #[.bool rd, .bool dn, .int .i64 bg, .int .i64 fi, .int .i64 of, .string va, .slice A1 vs.length c1] 34 (0, 0))))
      obtain ⟨rk, hrk⟩ : ∃ rk, rankF ⟨rd, dn, bg, fi, of, va, vs⟩ = rk := ⟨_, rfl⟩
      dsimp only at HC
      rw [hrk] at HC
      have HRK := Aside0.mk hrk
      have HJ := Aside0.mk (show ds.length - (intOf (.int .i64 ((i : Int) + 1))).toNat < ds.length - (intOf (.int .i64 (i : Int))).toNat from by simp only [intOf]; omega)
      clear hx hvx hrk
      by_cases hb : b ≤ fi
      · have HN := Aside0.mk (show leastB 0 b L = n from by rw [HI1.out.go, HD.out, leastB, if_pos hb])
        go_wp2_with fail
        go_ret
        exact ⟨by rw [HN.out]; rfl, below_alloc HI1.out.bl _⟩
      · have HN := Aside0.mk (show leastB 0 b L = leastB (max n rk) b (L.drop (i + 1)) from by rw [HI1.out.go, HD.out, leastB, if_neg hb, HRK.out])
        go_wp2_with (go_at_call 27; refine HC.out.mono ?_; rintro e' w2 ⟨rfl, hb2⟩; have HB3 := Aside0.mk hb2; clear hb2)
        exact ⟨⟨i + 1, _, by omega, rfl, rfl, ⟨HN.out, below_step HI1.out.bl (below_under HB3.out)⟩⟩, HJ.out⟩
    · have hd : ¬ (i : Int) < (ds.length : Int) := by omega
      obtain rfl : i = ds.length := by omega
      have HN := Aside0.mk (show leastB 0 b L = n from by rw [HI1.out.go, List.drop_eq_nil_of_le (by rw [HL.out, List.length_map]; omega)]; rfl)
      go_wp2_with fail
      go_ret
      exact ⟨by rw [HN.out]; rfl, HI1.out.bl⟩
end Go.Proofs.Ytamiglolpchplaa.Hand
namespace Go.Proofs.Ytamiglolpchplaa.Hand
open Go.RowKit Go.Proofs.Ytamiglolpchplaa Go.Proofs.YtamiglolpchplaaW.PrintWords Go.Proofs.YtamiglolpchplaaW.PrintLast
set_option linter.unusedVariables false
set_option linter.unusedSimpArgs false
theorem goesf_ {P : Program} {ops : Array Oper} {Q : Exit → Act → World → Prop} {oi : Oper} {N : Option Tmp} {a : Act} {w : World} {K : Act → World → Prop} {f : FuncId} {fn : Func} {xs : Array Operand} {ts : Array TypeId} (hf : P.funcs[f]? = some fn) (hname : (fn.name == "runtime.NumGoroutine") = false) (hb : fn.body.isSome = true) (args : Array Value)
    (hw : Region.wanted oi (yielded ops a.tmps) = true) (hN : oi.dst = N) (hop : ∃ x free, oi.op = .call { callee := .value x, args := xs, argTypes := ts } ∧ a.eval x = .func (.func f) #[] free ∧ xs.map a.eval ++ free = args)
    (h : Calls P f args w fun e w' => ∃ v, e = .returned v ∧ K (a.put N v) w') : if Region.wanted oi (yielded ops a.tmps) = true then Oper.wp P oi a w K Q else K (a.put N undef) w := by
  obtain ⟨x, free, hop, hx, hargs⟩ := hop
  refine call_ f args hw hN ?_ h
  have he := enters_ hf hname hb args w
  subst hargs
  unfold execOp
  simp [hop, resolve, Deferred.ofValue, invoke, hx, he]
theorem toList_beq (a b : ByteArray) : (a.toList == b.toList) = decide (a = b) := by
  by_cases h : a = b
  · subst h; simp
  · rw [decide_eq_false h]
    apply beq_eq_false_iff_ne.2
    intro e
    rw [ByteArray.toList_eq, ByteArray.toList_eq] at e
    apply h
    cases a; cases b; congr 1; exact Array.toList_inj.1 e
set_option maxRecDepth 100000 in
theorem place_c (r : CallP) (bk bv : Nat) (known : Bool) (v : ByteArray) (W : World) (h1 : W.cell? ⟨bk, 0, none⟩ = some (.bool known)) (h2 : W.cell? ⟨bv, 0, none⟩ = some (.string v)) :
    Calls Try.prog 33 #[.agg (crP r).toArray, .pointer (some ⟨bk, 0, none⟩), .pointer (some ⟨bv, 0, none⟩)] W fun e w' => e = .returned (.bool (!known || decide (r.1.value = v))) ∧ Below W.heap.size W w' := by
  obtain ⟨⟨rd, dn, bg, fi, of, va, vs⟩, A, n, c⟩ := r
  have BB := Aside0.mk (below_alloc (Below.refl W.heap.size W) (.cells #[.bool rd, .bool dn, .int .i64 bg, .int .i64 fi, .int .i64 of, .string va, .slice A n c] 34 (0, 0)))
  have y1 : (W.alloc (.cells #[.bool rd, .bool dn, .int .i64 bg, .int .i64 fi, .int .i64 of, .string va, .slice A n c] 34 (0, 0))).cell? ⟨bk, 0, none⟩ = some (.bool known) := (BB.out.cell (p := ⟨bk, 0, none⟩) (World.block_lt_of_cell? W ⟨bk, 0, none⟩ h1)).trans h1
  have y2 : (W.alloc (.cells #[.bool rd, .bool dn, .int .i64 bg, .int .i64 fi, .int .i64 of, .string va, .slice A n c] 34 (0, 0))).cell? ⟨bv, 0, none⟩ = some (.string v) := (BB.out.cell (p := ⟨bv, 0, none⟩) (World.block_lt_of_cell? W ⟨bv, 0, none⟩ h2)).trans h2
  have E := ByteArray.toList_eq
  have HV := Aside0.mk (show (va.toList = v.toList) ↔ va = v from ⟨fun h => by rw [ByteArray.toList_eq, ByteArray.toList_eq] at h; cases va; cases v; congr 1; exact Array.toList_inj.1 h, fun h => by rw [h]⟩)
  unfold crP
  dsimp only
  clear h1 h2 E
  cases known
  · go_enter Try.func33, Try.ntmps33
    go_wp2_with fail
    go_ret
    exact ⟨rfl, below_alloc (Below.refl _ _) _⟩
  · go_enter Try.func33, Try.ntmps33
    go_wp2_with fail
    all_goals (go_ret; refine ⟨retB ?_, below_alloc (Below.refl _ _) _⟩)
    all_goals (first | (rw [Bool.not_true, Bool.false_or]; exact toList_beq _ _) | (have := HV.out; simp_all; done))
/-- What the closure that is handed to IndexFunc sees. -/
structure TkI (w : World) (bi bl bn bk bv aD : Nat) (known : Bool) (v : ByteArray) (n : Int) (ds : List CallP) : Prop where
  is_ : w.cell? ⟨bi, 0, none⟩ = some (.func (.func 33) #[] #[.pointer (some ⟨bk, 0, none⟩), .pointer (some ⟨bv, 0, none⟩)])
  least_ : w.cell? ⟨bl, 0, none⟩ = some (.func (.func 26) #[] #[.pointer (some ⟨aD, 0, none⟩)])
  n_ : w.cell? ⟨bn, 0, none⟩ = some (.int .i64 n)
  known_ : w.cell? ⟨bk, 0, none⟩ = some (.bool known)
  v_ : w.cell? ⟨bv, 0, none⟩ = some (.string v)
  ds_ : DoneI w aD ds
  dv : ∀ r ∈ ds, r.2.2.1 = r.1.values.length ∧ SmallC r.1
theorem TkI.below {w w' : World} {bi bl bn bk bv aD : Nat} {known : Bool} {v : ByteArray} {n : Int} {ds : List CallP} (h : TkI w bi bl bn bk bv aD known v n ds) (hb : Below w.heap.size w w') : TkI w' bi bl bn bk bv aD known v n ds :=
  have k : ∀ (b : Nat) (u : Value), w.cell? ⟨b, 0, none⟩ = some u → w'.cell? ⟨b, 0, none⟩ = some u := fun b u hu => (hb.cell (p := ⟨b, 0, none⟩) (World.block_lt_of_cell? w ⟨b, 0, none⟩ hu)).trans hu
  ⟨k _ _ h.is_, k _ _ h.least_, k _ _ h.n_, k _ _ h.known_, k _ _ h.v_, h.ds_.below hb, h.dv⟩
/-- May it stand at place n? -/
def fitF (known : Bool) (v : ByteArray) (n : Int) (D : List CallV) (c : CallV) : Bool := (!known || decide (c.value = v)) && decide (leastB 0 c.bgn D ≤ 2 * n + 1)
def TC31 : Bool × List (List Nat × List Nat) := (true, [([], []), ([], []), ([0, 1], [0, 1]), ([2, 2], [2]), ([3], [3]), ([3], [3]), ([5, 3], [3, 5]), ([4, 6, 3, 3], [3, 4, 6]), ([3], [3]), ([8, 3], [3, 8]), ([9, 3], [3, 9]), ([7, 10, 3], [3, 7, 10]), ([3, 11], [3, 11]), ([12, 7, 0, 1, 2, 3, 4, 5, 6, 7, 8, 9, 10, 11, 12], [12])])
def BC31 : List Nat := [0, 0, 3, 7, 15, 15, 47, 127, 15, 271, 783, 2047, 4095, 8191]
theorem tabC31 : rtab .any (opsOf Try.f31 1) = TC31 := by kernel_rfl
theorem bitsC31 : waitsOk TC31.2 BC31 = true := by kernel_rfl
set_option maxHeartbeats 8000000 in
set_option maxRecDepth 100000 in
theorem fit_c (r : CallP) (bi bl bn bk bv aD : Nat) (known : Bool) (v : ByteArray) (n : Int) (ds : List CallP) (W : World) (h : TkI W bi bl bn bk bv aD known v n ds) (hn : 0 ≤ n ∧ n ≤ 2000) :
    Calls Try.prog 31 #[.agg (crP r).toArray, .pointer (some ⟨bi, 0, none⟩), .pointer (some ⟨bl, 0, none⟩), .pointer (some ⟨bn, 0, none⟩)] W fun e w' => e = .returned (.bool (fitF known v n (ds.map (·.1)) r.1)) ∧ Below W.heap.size W w' := by
  obtain ⟨⟨rd, dn, bg, fi, of, va, vs⟩, A1, n1, c1⟩ := r
  have HB := Aside0.mk (below_drew1 (below_alloc (Below.refl W.heap.size W) (.cells #[.bool rd, .bool dn, .int .i64 bg, .int .i64 fi, .int .i64 of, .string va, .slice A1 n1 c1] 34 (0, 0))))
  have BK := Aside0.mk (blk_drew (heap_alloc_new W (.cells #[.bool rd, .bool dn, .int .i64 bg, .int .i64 fi, .int .i64 of, .string va, .slice A1 n1 c1] 34 (0, 0))))
  have HT := Aside0.mk ((h.below (below_alloc (Below.refl W.heap.size W) (.cells #[.bool rd, .bool dn, .int .i64 bg, .int .i64 fi, .int .i64 of, .string va, .slice A1 n1 c1] 34 (0, 0)))).below (below_drew1 (Below.refl _ _)))
  have HN1 := Aside0.mk (show wrap64 (2 * n) = 2 * n from by unfold wrap64; omega)
  have HN2 := Aside0.mk (show wrap64 (2 * n + 1) = 2 * n + 1 from by unfold wrap64; omega)
  unfold crP
  dsimp only
  obtain ⟨p, hp⟩ : ∃ p, (!known || decide (va = v)) = p := ⟨_, rfl⟩
  have HP := Aside0.mk hp
  clear h hn hp
  cases p with
  | false =>
    go_enter Try.func31, Try.ntmps31
    go_wp2_with fail
    refine start_ (n := 14) (S := fun w' => w'.heap[W.heap.size]? = some (.cells #[.bool rd, .bool dn, .int .i64 bg, .int .i64 fi, .int .i64 of, .string va, .slice A1 n1 c1] 34 (0, 0)) ∧ TkI w' bi bl bn bk bv aD known v n ds) (ds := []) #[false, false, false, false, false, false, false, false, false, false, false, false, false, false] (by kernel_rfl) rfl rfl ⟨BK.out, HT.out⟩ (fun hHeld => ?_); refine with_tabW tabC31 bitsC31 (fun HT_ HW_ => ?_)
    generalize hwd : (W.alloc (Obj.cells #[.bool rd, .bool dn, .int .i64 bg, .int .i64 fi, .int .i64 of, .string va, .slice A1 n1 c1] 34)).drew = wd at BK HT HB hHeld ⊢
    refine take_ (i := 0) (N := (some 6)) (v := .func (.func 33) #[] #[.pointer (some ⟨bk, 0, none⟩), .pointer (some ⟨bv, 0, none⟩)]) #[true, false, false, false, false, false, false, false, false, false, false, false, false, false] rfl rfl (take_ofW HT_.out HW_.out (by kernel_rfl)) (fun _ _ _ h => h) (Or.inl ⟨by rfl, fun w' s0 => (by have q := s0.2.is_; go_simp)⟩) hHeld rfl ?_
    refine norm_ (a' := ?_) ?_ ?_
    rotate_left
    · show Act.put _ (some 6) _ = _
      simp only [Act.put, List.setIfInBounds_toArray, List.set_cons_zero, List.set_cons_succ, i64_w, i32_w]
      rfl
    refine take_ (i := 1) (N := (some 7)) (v := .agg #[.bool rd, .bool dn, .int .i64 bg, .int .i64 fi, .int .i64 of, .string va, .slice A1 n1 c1]) #[true, true, false, false, false, false, false, false, false, false, false, false, false, false] rfl rfl (take_ofW HT_.out HW_.out (by kernel_rfl)) (fun _ _ _ h => h) (Or.inl ⟨by rfl, fun w' s0 => run_load34 _ _ (.tmp 4) rfl rfl (box_load s0.1)⟩) hHeld rfl ?_
    refine norm_ (a' := ?_) ?_ ?_
    rotate_left
    · show Act.put _ (some 7) _ = _
      simp only [Act.put, List.setIfInBounds_toArray, List.set_cons_zero, List.set_cons_succ, i64_w, i32_w]
      rfl
    refine one_ (i := 2) (N := (some 8)) #[true, true, true, false, false, false, false, false, false, false, false, false, false, false] rfl rfl (one_of HT_.out (by kernel_rfl)) (by decide) (fun K hK => ?_)
    refine goesf_ Try.func33 (by kernel_rfl) rfl #[.agg #[.bool rd, .bool dn, .int .i64 bg, .int .i64 fi, .int .i64 of, .string va, .slice A1 n1 c1], .pointer (some ⟨bk, 0, none⟩), .pointer (some ⟨bv, 0, none⟩)] (by rfl) rfl ⟨_, _, rfl, rfl, by (simp only [List.map_toArray, List.map_cons, List.map_nil, List.append_toArray, List.cons_append, List.nil_append]; first | done | rfl)⟩ ?_
    refine (place_c ⟨⟨rd, dn, bg, fi, of, va, vs⟩, A1, n1, c1⟩ bk bv known v wd HT.out.known_ HT.out.v_).mono ?_
    rintro e' w2 ⟨rfl, hb2⟩
    have BK2 := Aside0.mk (blk_below BK.out hb2)
    have HT2 := Aside0.mk (HT.out.below hb2)
    have HB2 := Aside0.mk (below_step HB.out hb2)
    clear hb2
    refine ⟨.bool false, by rw [HP.out], ?_⟩
    refine hK.out _ _ ⟨BK2.out, HT2.out⟩ (fun hHeld => ?_)
    clear hK K
    refine norm_ (a' := ?_) ?_ ?_
    rotate_left
    · show Act.put _ (some 8) _ = _
      simp only [Act.put, List.setIfInBounds_toArray, List.set_cons_zero, List.set_cons_succ, i64_w, i32_w]
      rfl
    refine pure_ (i := 3) (N := (some 9)) (v := ?_) (a' := ?_) #[true, true, true, true, false, false, false, false, false, false, false, false, false, false] rfl rfl (any_of HT_.out (by kernel_rfl)) (fun _ _ _ h => h) (Or.inl ⟨by rfl, ?_⟩) ?_ ?_
    rotate_left
    · intro w'
      go_simp
      with_reducible rfl
    rotate_left
    · simp only [Act.put, List.setIfInBounds_toArray, List.set_cons_zero, List.set_cons_succ, i64_w, i32_w]
      rfl
    refine pure_ (i := 4) (N := (some 10)) (v := undef) (a' := ?_) #[true, true, true, true, true, false, false, false, false, false, false, false, false, false] rfl rfl (any_of HT_.out (by kernel_rfl)) (fun _ _ _ h => h) (Or.inr ⟨by rfl, rfl⟩) ?_ ?_
    rotate_left
    · simp only [Act.put, List.setIfInBounds_toArray, List.set_cons_zero, List.set_cons_succ, i64_w, i32_w]
      rfl
    refine pure_ (i := 5) (N := (some 11)) (v := undef) (a' := ?_) #[true, true, true, true, true, true, false, false, false, false, false, false, false, false] rfl rfl (any_of HT_.out (by kernel_rfl)) (fun _ _ _ h => h) (Or.inr ⟨by rfl, rfl⟩) ?_ ?_
    rotate_left
    · simp only [Act.put, List.setIfInBounds_toArray, List.set_cons_zero, List.set_cons_succ, i64_w, i32_w]
      rfl
    refine pure_ (i := 6) (N := (some 12)) (v := undef) (a' := ?_) #[true, true, true, true, true, true, true, false, false, false, false, false, false, false] rfl rfl (any_of HT_.out (by kernel_rfl)) (fun _ _ _ h => h) (Or.inr ⟨by rfl, rfl⟩) ?_ ?_
    rotate_left
    · simp only [Act.put, List.setIfInBounds_toArray, List.set_cons_zero, List.set_cons_succ, i64_w, i32_w]
      rfl
    refine pure_ (i := 8) (N := (some 14)) (v := undef) (a' := ?_) #[true, true, true, true, true, true, true, false, true, false, false, false, false, false] rfl rfl (any_of HT_.out (by kernel_rfl)) (fun _ _ _ h => h) (Or.inr ⟨by rfl, rfl⟩) ?_ ?_
    rotate_left
    · simp only [Act.put, List.setIfInBounds_toArray, List.set_cons_zero, List.set_cons_succ, i64_w, i32_w]
      rfl
    refine pure_ (i := 9) (N := (some 15)) (v := undef) (a' := ?_) #[true, true, true, true, true, true, true, false, true, true, false, false, false, false] rfl rfl (any_of HT_.out (by kernel_rfl)) (fun _ _ _ h => h) (Or.inr ⟨by rfl, rfl⟩) ?_ ?_
    rotate_left
    · simp only [Act.put, List.setIfInBounds_toArray, List.set_cons_zero, List.set_cons_succ, i64_w, i32_w]
      rfl
    refine pure_ (i := 10) (N := (some 16)) (v := undef) (a' := ?_) #[true, true, true, true, true, true, true, false, true, true, true, false, false, false] rfl rfl (any_of HT_.out (by kernel_rfl)) (fun _ _ _ h => h) (Or.inr ⟨by rfl, rfl⟩) ?_ ?_
    rotate_left
    · simp only [Act.put, List.setIfInBounds_toArray, List.set_cons_zero, List.set_cons_succ, i64_w, i32_w]
      rfl
    refine one_ (i := 7) (N := (some 13)) #[true, true, true, true, true, true, true, true, true, true, true, false, false, false] rfl rfl (one_of HT_.out (by kernel_rfl)) (by decide) (fun K hK => ?_)
    refine off_ (by rfl) ?_
    refine hK.out _ _ ⟨BK2.out, HT2.out⟩ (fun hHeld => ?_)
    clear hK K
    refine norm_ (a' := ?_) ?_ ?_
    rotate_left
    · show Act.put _ (some 13) _ = _
      simp only [Act.put, List.setIfInBounds_toArray, List.set_cons_zero, List.set_cons_succ, i64_w, i32_w]
      rfl
    refine pure_ (i := 11) (N := (some 17)) (v := undef) (a' := ?_) #[true, true, true, true, true, true, true, true, true, true, true, true, false, false] rfl rfl (any_of HT_.out (by kernel_rfl)) (fun _ _ _ h => h) (Or.inr ⟨by rfl, rfl⟩) ?_ ?_
    rotate_left
    · simp only [Act.put, List.setIfInBounds_toArray, List.set_cons_zero, List.set_cons_succ, i64_w, i32_w]
      rfl
    refine pure_ (i := 12) (N := (some 18)) (v := ?_) (a' := ?_) #[true, true, true, true, true, true, true, true, true, true, true, true, true, false] rfl rfl (any_of HT_.out (by kernel_rfl)) (fun _ _ _ h => h) (Or.inl ⟨by rfl, ?_⟩) ?_ ?_
    rotate_left
    · intro w'
      go_simp
      with_reducible rfl
    rotate_left
    · simp only [Act.put, List.setIfInBounds_toArray, List.set_cons_zero, List.set_cons_succ, i64_w, i32_w]
      rfl
    refine pure_ (i := 13) (N := (some 5)) (v := ?_) (a' := ?_) #[true, true, true, true, true, true, true, true, true, true, true, true, true, true] rfl rfl (any_of HT_.out (by kernel_rfl)) (fun _ _ _ h => h) (Or.inl ⟨by rfl, ?_⟩) ?_ ?_
    rotate_left
    · intro w'
      go_simp
      with_reducible rfl
    rotate_left
    · simp only [Act.put, List.setIfInBounds_toArray, List.set_cons_zero, List.set_cons_succ, i64_w, i32_w]
      rfl
    refine done_ (done_of HT_.out (by kernel_rfl)) ?_
    clear hHeld HT_ HW_ BK HT HB hwd
    go_wp2_with fail
    go_ret
    exact ⟨retB (by rw [fitF, HP.out]; rfl), HB2.out⟩
  | true =>
    go_enter Try.func31, Try.ntmps31
    go_wp2_with fail
    refine start_ (n := 14) (S := fun w' => w'.heap[W.heap.size]? = some (.cells #[.bool rd, .bool dn, .int .i64 bg, .int .i64 fi, .int .i64 of, .string va, .slice A1 n1 c1] 34 (0, 0)) ∧ TkI w' bi bl bn bk bv aD known v n ds) (ds := []) #[false, false, false, false, false, false, false, false, false, false, false, false, false, false] (by kernel_rfl) rfl rfl ⟨BK.out, HT.out⟩ (fun hHeld => ?_); refine with_tabW tabC31 bitsC31 (fun HT_ HW_ => ?_)
    generalize hwd : (W.alloc (Obj.cells #[.bool rd, .bool dn, .int .i64 bg, .int .i64 fi, .int .i64 of, .string va, .slice A1 n1 c1] 34)).drew = wd at BK HT HB hHeld ⊢
    refine take_ (i := 0) (N := (some 6)) (v := .func (.func 33) #[] #[.pointer (some ⟨bk, 0, none⟩), .pointer (some ⟨bv, 0, none⟩)]) #[true, false, false, false, false, false, false, false, false, false, false, false, false, false] rfl rfl (take_ofW HT_.out HW_.out (by kernel_rfl)) (fun _ _ _ h => h) (Or.inl ⟨by rfl, fun w' s0 => (by have q := s0.2.is_; go_simp)⟩) hHeld rfl ?_
    refine norm_ (a' := ?_) ?_ ?_
    rotate_left
    · show Act.put _ (some 6) _ = _
      simp only [Act.put, List.setIfInBounds_toArray, List.set_cons_zero, List.set_cons_succ, i64_w, i32_w]
      rfl
    refine take_ (i := 1) (N := (some 7)) (v := .agg #[.bool rd, .bool dn, .int .i64 bg, .int .i64 fi, .int .i64 of, .string va, .slice A1 n1 c1]) #[true, true, false, false, false, false, false, false, false, false, false, false, false, false] rfl rfl (take_ofW HT_.out HW_.out (by kernel_rfl)) (fun _ _ _ h => h) (Or.inl ⟨by rfl, fun w' s0 => run_load34 _ _ (.tmp 4) rfl rfl (box_load s0.1)⟩) hHeld rfl ?_
    refine norm_ (a' := ?_) ?_ ?_
    rotate_left
    · show Act.put _ (some 7) _ = _
      simp only [Act.put, List.setIfInBounds_toArray, List.set_cons_zero, List.set_cons_succ, i64_w, i32_w]
      rfl
    refine one_ (i := 2) (N := (some 8)) #[true, true, true, false, false, false, false, false, false, false, false, false, false, false] rfl rfl (one_of HT_.out (by kernel_rfl)) (by decide) (fun K hK => ?_)
    refine goesf_ Try.func33 (by kernel_rfl) rfl #[.agg #[.bool rd, .bool dn, .int .i64 bg, .int .i64 fi, .int .i64 of, .string va, .slice A1 n1 c1], .pointer (some ⟨bk, 0, none⟩), .pointer (some ⟨bv, 0, none⟩)] (by rfl) rfl ⟨_, _, rfl, rfl, by (simp only [List.map_toArray, List.map_cons, List.map_nil, List.append_toArray, List.cons_append, List.nil_append]; first | done | rfl)⟩ ?_
    refine (place_c ⟨⟨rd, dn, bg, fi, of, va, vs⟩, A1, n1, c1⟩ bk bv known v wd HT.out.known_ HT.out.v_).mono ?_
    rintro e' w2 ⟨rfl, hb2⟩
    have BK2 := Aside0.mk (blk_below BK.out hb2)
    have HT2 := Aside0.mk (HT.out.below hb2)
    have HB2 := Aside0.mk (below_step HB.out hb2)
    clear hb2
    refine ⟨.bool true, by rw [HP.out], ?_⟩
    refine hK.out _ _ ⟨BK2.out, HT2.out⟩ (fun hHeld => ?_)
    clear hK K
    refine norm_ (a' := ?_) ?_ ?_
    rotate_left
    · show Act.put _ (some 8) _ = _
      simp only [Act.put, List.setIfInBounds_toArray, List.set_cons_zero, List.set_cons_succ, i64_w, i32_w]
      rfl
    refine pure_ (i := 3) (N := (some 9)) (v := ?_) (a' := ?_) #[true, true, true, true, false, false, false, false, false, false, false, false, false, false] rfl rfl (any_of HT_.out (by kernel_rfl)) (fun _ _ _ h => h) (Or.inl ⟨by rfl, ?_⟩) ?_ ?_
    rotate_left
    · intro w'
      go_simp
      with_reducible rfl
    rotate_left
    · simp only [Act.put, List.setIfInBounds_toArray, List.set_cons_zero, List.set_cons_succ, i64_w, i32_w]
      rfl
    refine take_ (i := 4) (N := (some 10)) (v := .func (.func 26) #[] #[.pointer (some ⟨aD, 0, none⟩)]) #[true, true, true, true, true, false, false, false, false, false, false, false, false, false] rfl rfl (take_ofW HT_.out HW_.out (by kernel_rfl)) (fun _ _ _ h => h) (Or.inl ⟨by rfl, fun w' s0 => (by have q := s0.2.least_; go_simp)⟩) hHeld rfl ?_
    refine norm_ (a' := ?_) ?_ ?_
    rotate_left
    · show Act.put _ (some 10) _ = _
      simp only [Act.put, List.setIfInBounds_toArray, List.set_cons_zero, List.set_cons_succ, i64_w, i32_w]
      rfl
    refine pure_ (i := 5) (N := (some 11)) (v := ?_) (a' := ?_) #[true, true, true, true, true, true, false, false, false, false, false, false, false, false] rfl rfl (any_of HT_.out (by kernel_rfl)) (fun _ _ _ h => h) (Or.inl ⟨by rfl, ?_⟩) ?_ ?_
    rotate_left
    · intro w'
      go_simp
      with_reducible rfl
    rotate_left
    · simp only [Act.put, List.setIfInBounds_toArray, List.set_cons_zero, List.set_cons_succ, i64_w, i32_w]
      rfl
    refine take_ (i := 6) (N := (some 12)) (v := .int .i64 bg) #[true, true, true, true, true, true, true, false, false, false, false, false, false, false] rfl rfl (take_ofW HT_.out HW_.out (by kernel_rfl)) (fun _ _ _ h => h) (Or.inl ⟨by rfl, fun w' s0 => (by have q := (show w'.cell? ⟨W.heap.size, 2, none⟩ = some (.int .i64 bg) from (blk_cell s0.1 2).trans rfl); go_simp)⟩) hHeld rfl ?_
    refine norm_ (a' := ?_) ?_ ?_
    rotate_left
    · show Act.put _ (some 12) _ = _
      simp only [Act.put, List.setIfInBounds_toArray, List.set_cons_zero, List.set_cons_succ, i64_w, i32_w]
      rfl
    refine take_ (i := 8) (N := (some 14)) (v := .int .i64 n) #[true, true, true, true, true, true, true, false, true, false, false, false, false, false] rfl rfl (take_ofW HT_.out HW_.out (by kernel_rfl)) (fun _ _ _ h => h) (Or.inl ⟨by rfl, fun w' s0 => (by have q := s0.2.n_; go_simp)⟩) hHeld rfl ?_
    refine norm_ (a' := ?_) ?_ ?_
    rotate_left
    · show Act.put _ (some 14) _ = _
      simp only [Act.put, List.setIfInBounds_toArray, List.set_cons_zero, List.set_cons_succ, i64_w, i32_w]
      rfl
    refine pure_ (i := 9) (N := (some 15)) (v := ?_) (a' := ?_) #[true, true, true, true, true, true, true, false, true, true, false, false, false, false] rfl rfl (any_of HT_.out (by kernel_rfl)) (fun _ _ _ h => h) (Or.inl ⟨by rfl, ?_⟩) ?_ ?_
    rotate_left
    · intro w'
      go_simp
      with_reducible rfl
    rotate_left
    · simp only [Act.put, List.setIfInBounds_toArray, List.set_cons_zero, List.set_cons_succ, i64_w, i32_w]
      rfl
    simp only [HN1.out]
    refine pure_ (i := 10) (N := (some 16)) (v := ?_) (a' := ?_) #[true, true, true, true, true, true, true, false, true, true, true, false, false, false] rfl rfl (any_of HT_.out (by kernel_rfl)) (fun _ _ _ h => h) (Or.inl ⟨by rfl, ?_⟩) ?_ ?_
    rotate_left
    · intro w'
      go_simp
      with_reducible rfl
    rotate_left
    · simp only [Act.put, List.setIfInBounds_toArray, List.set_cons_zero, List.set_cons_succ, i64_w, i32_w]
      rfl
    simp only [HN2.out]
    refine one_ (i := 7) (N := (some 13)) #[true, true, true, true, true, true, true, true, true, true, true, false, false, false] rfl rfl (one_of HT_.out (by kernel_rfl)) (by decide) (fun K hK => ?_)
    refine goesf_ Try.func26 (by kernel_rfl) rfl #[.int .i64 bg, .pointer (some ⟨aD, 0, none⟩)] (by rfl) rfl ⟨_, _, rfl, rfl, by (simp only [List.map_toArray, List.map_cons, List.map_nil, List.append_toArray, List.cons_append, List.nil_append]; first | done | rfl)⟩ ?_
    refine (least_c bg aD ds w2 HT2.out.ds_ HT2.out.dv).mono ?_
    rintro e' w3 ⟨rfl, hb3⟩
    have BK3 := Aside0.mk (blk_below BK2.out hb3)
    have HT3 := Aside0.mk (HT2.out.below hb3)
    have HB3 := Aside0.mk (below_step HB2.out hb3)
    clear hb3
    refine ⟨_, rfl, ?_⟩
    refine hK.out _ _ ⟨BK3.out, HT3.out⟩ (fun hHeld => ?_)
    clear hK K
    refine norm_ (a' := ?_) ?_ ?_
    rotate_left
    · show Act.put _ (some 13) _ = _
      simp only [Act.put, List.setIfInBounds_toArray, List.set_cons_zero, List.set_cons_succ, i64_w, i32_w]
      rfl
    refine pure_ (i := 11) (N := (some 17)) (v := ?_) (a' := ?_) #[true, true, true, true, true, true, true, true, true, true, true, true, false, false] rfl rfl (any_of HT_.out (by kernel_rfl)) (fun _ _ _ h => h) (Or.inl ⟨by rfl, ?_⟩) ?_ ?_
    rotate_left
    · intro w'
      go_simp
      with_reducible rfl
    rotate_left
    · simp only [Act.put, List.setIfInBounds_toArray, List.set_cons_zero, List.set_cons_succ, i64_w, i32_w]
      rfl
    refine pure_ (i := 12) (N := (some 18)) (v := ?_) (a' := ?_) #[true, true, true, true, true, true, true, true, true, true, true, true, true, false] rfl rfl (any_of HT_.out (by kernel_rfl)) (fun _ _ _ h => h) (Or.inl ⟨by rfl, ?_⟩) ?_ ?_
    rotate_left
    · intro w'
      go_simp
      with_reducible rfl
    rotate_left
    · simp only [Act.put, List.setIfInBounds_toArray, List.set_cons_zero, List.set_cons_succ, i64_w, i32_w]
      rfl
    refine pure_ (i := 13) (N := (some 5)) (v := ?_) (a' := ?_) #[true, true, true, true, true, true, true, true, true, true, true, true, true, true] rfl rfl (any_of HT_.out (by kernel_rfl)) (fun _ _ _ h => h) (Or.inl ⟨by rfl, ?_⟩) ?_ ?_
    rotate_left
    · intro w'
      go_simp
      with_reducible rfl
    rotate_left
    · simp only [Act.put, List.setIfInBounds_toArray, List.set_cons_zero, List.set_cons_succ, i64_w, i32_w]
      rfl
    refine done_ (done_of HT_.out (by kernel_rfl)) ?_
    clear hHeld HT_ HW_ BK HT HB hwd
    go_wp2_with fail
    go_ret
    exact ⟨retB (by rw [fitF, HP.out]; simp), HB3.out⟩
end Go.Proofs.Ytamiglolpchplaa.Hand
namespace Go.Proofs.Ytamiglolpchplaa.Hand
open Go.RowKit Go.Proofs.Ytamiglolpchplaa Go.Proofs.YtamiglolpchplaaW.PrintWords Go.Proofs.YtamiglolpchplaaW.PrintLast
set_option linter.unusedVariables false
set_option linter.unusedSimpArgs false
/-- The boxed slice of those that are pending. -/
structure PendI (W : World) (aP : Nat) (bP : Option Nat) (ps : List CallP) : Prop where
  cell : ∃ v, W.heap[aP]? = some (.cells #[v] 23 (0, 0)) ∧ Kd.R kP 34 W 0 (fun k => some k = bP) v ps
  ne : some aP ≠ bP
theorem PendI.move {W W' : World} {aP : Nat} {bP : Option Nat} {ps : List CallP} {F : Nat → Prop} (h : PendI W aP bP ps) (hf : Fr F W W') (h1 : ¬ F aP) (h2 : ∀ k, some k = bP → ¬ F k) : PendI W' aP bP ps := by
  obtain ⟨v, hc, hr⟩ := h.cell
  exact ⟨⟨v, hf.blk hc h1, hf.R hr h2⟩, h.ne⟩
def takeF (q : CallP → Bool) (ps : List CallP) : Option (List CallP) := match ps.findIdx? q with
  | some k => some (ps.eraseIdx k)
  | none => none
/-- What take leaves. -/
structure TakeP (q : CallP → Bool) (aP : Nat) (bP : Option Nat) (ps : List CallP) (W : World) (e : Ending) (w' : World) : Prop where
  e : e = .returned (.bool (takeF q ps).isSome)
  p : PendI w' aP bP ((takeF q ps).getD ps)
  f : Fr (fun k => k = aP ∨ some k = bP) W w'
set_option maxHeartbeats 8000000 in
set_option maxRecDepth 100000 in
theorem take_c (n : Int) (aP bl bk bv aD : Nat) (bP : Option Nat) (known : Bool) (v : ByteArray) (ps ds : List CallP) (W : World) (hP : PendI W aP bP ps) (hps : ps.length ≤ 1000)
    (h1 : W.cell? ⟨bl, 0, none⟩ = some (.func (.func 26) #[] #[.pointer (some ⟨aD, 0, none⟩)])) (h2 : W.cell? ⟨bk, 0, none⟩ = some (.bool known)) (h3 : W.cell? ⟨bv, 0, none⟩ = some (.string v)) (h4 : DoneI W aD ds) (h5 : ∀ r ∈ ds, r.2.2.1 = r.1.values.length ∧ SmallC r.1) (hn : 0 ≤ n ∧ n ≤ 2000) :
    Calls Try.prog 29 #[.int .i64 n, .func (.func 33) #[] #[.pointer (some ⟨bk, 0, none⟩), .pointer (some ⟨bv, 0, none⟩)], .pointer (some ⟨aP, 0, none⟩), .pointer (some ⟨bl, 0, none⟩)] W
      (TakeP (fun r => fitF known v n (ds.map (·.1)) r.1) aP bP ps W) := by
  obtain ⟨pv, hc, hr⟩ := hP.cell
  obtain ⟨q, hq⟩ : ∃ q : CallP → Bool, q = fun r => fitF known v n (ds.map (·.1)) r.1 := ⟨_, rfl⟩
  rw [← hq]
  obtain ⟨o1, ho1⟩ : ∃ o : Obj, o = .cells #[.int .i64 n] 3 (0, 0) := ⟨_, rfl⟩
  obtain ⟨o2, ho2⟩ : ∃ o : Obj, o = .cells #[.func (.func 33) #[] #[.pointer (some ⟨bk, 0, none⟩), .pointer (some ⟨bv, 0, none⟩)]] 50 (0, 0) := ⟨_, rfl⟩
  have hB : Below W.heap.size W ((W.alloc o1).alloc o2) := below_alloc (below_alloc (Below.refl _ _) _) _
  have s1 : (W.alloc o1).heap.size = W.heap.size + 1 := Array.size_push _
  have hlt : aP < W.heap.size := (Array.getElem?_eq_some_iff.1 hc).1
  have hk : ∀ (b : Nat) (u : Value), W.cell? ⟨b, 0, none⟩ = some u → ((W.alloc o1).alloc o2).cell? ⟨b, 0, none⟩ = some u := fun b u hu => (hB.cell (p := ⟨b, 0, none⟩) (World.block_lt_of_cell? W ⟨b, 0, none⟩ hu)).trans hu
  have HT := Aside0.mk (show TkI ((W.alloc o1).alloc o2) (W.heap.size + 1) bl W.heap.size bk bv aD known v n ds from
    ⟨by have := heap_alloc_new (W.alloc o1) o2; rw [s1, ho2] at this; rw [ho2]; exact (blk_cell this 0).trans rfl, hk _ _ h1, by have := blk_alloc (heap_alloc_new W o1) o2; rw [ho1] at this; rw [ho1]; exact (blk_cell this 0).trans rfl, hk _ _ h2, hk _ _ h3, h4.below hB, h5⟩)
  have HPC := Aside0.mk (show ((W.alloc o1).alloc o2).heap[aP]? = some (.cells #[pv] 23 (0, 0)) from blk_below hc hB)
  have HPR := Aside0.mk (Kd.R_below hr hB)
  have HB := Aside0.mk hB
  obtain ⟨A, c, hv, hlc, hC⟩ := Kd.R_reads HPR.out
  have HX := Aside0.mk (index31_c A c ps q (.pointer (some ⟨W.heap.size + 1, 0, none⟩)) (.pointer (some ⟨bl, 0, none⟩)) (.pointer (some ⟨W.heap.size, 0, none⟩)) ((W.alloc o1).alloc o2) hC (fun W' x _ hb => by
    rw [hq]
    exact fit_c x _ _ _ bk bv aD known v n ds W' (HT.out.below hb) hn))
  have hcell : ((W.alloc o1).alloc o2).cell? ⟨aP, 0, none⟩ = some (.slice A ps.length c) := by rw [← hv]; exact (blk_cell HPC.out 0).trans rfl
  have HNE := Aside0.mk hP.ne
  have HPS := Aside0.mk hps
  have HV := Aside0.mk hv
  clear hP hr hc hk h1 h2 h3 h4 h5 hB hC hn hps hlt
  subst ho1
  subst ho2
  obtain ⟨r, hfr⟩ : ∃ r, ps.findIdx? q = r := ⟨_, rfl⟩
  cases r with
  | none =>
    have he : idxF q ps = -1 := by rw [idxF, hfr]
    have HTF := Aside0.mk (show takeF q ps = none by rw [takeF, hfr])
    rw [he] at HX
    clear hfr he hq
    go_enter Try.func29, Try.ntmps29
    go_wp2_with (go_at_call 30; refine HX.out.mono ?_; rintro e' w2 ⟨rfl, hb2⟩; have HB2 := Aside0.mk (below_step HB.out hb2); have HPC2 := Aside0.mk (blk_below HPC.out hb2); have HPR2 := Aside0.mk (Kd.R_below HPR.out hb2); clear hb2)
    go_ret
    exact ⟨by rw [HTF.out]; rfl, by rw [HTF.out]; exact ⟨⟨pv, HPC2.out, HPR2.out⟩, HNE.out⟩, Fr.of_below HB2.out⟩
  | some k =>
    have he : idxF q ps = (k : Int) := by rw [idxF, hfr]
    have HTF := Aside0.mk (show takeF q ps = some (ps.eraseIdx k) by rw [takeF, hfr])
    obtain ⟨hk, -, -⟩ := List.findIdx?_eq_some_iff_getElem.1 hfr
    rcases R_cases HPR.out with ⟨-, hnil⟩ | ⟨g, cap, hg⟩
    · subst hnil; simp at hk
    have hgb : some g = bP := HPR.out.1 g (by rw [hg]; simp [Value.ownBlock])
    subst hgb
    have hAc : A = some ⟨g, 0, none⟩ ∧ c = cap := by rw [hg] at hv; injection hv with a1 a2 a3; exact ⟨a1.symm, a3.symm⟩
    obtain ⟨rfl, rfl⟩ := hAc
    rw [he] at HX
    have HDL := Aside0.mk (fun (W2 : World) (h : Kd.R kP 34 W2 0 (fun k => some k = some g) (.slice (some ⟨g, 0, none⟩) ps.length c) ps) => del_c g ps.length c k ps (fun k => some k = some g) W2 h hk)
    have hq1 : wrap64 ((k : Int) + 1) = (k : Int) + 1 := by have := HPS.out; unfold wrap64; omega
    have hk0 : (0 : Int) ≤ (k : Int) := Int.natCast_nonneg k
    subst hg
    clear hfr he hq hk hv
    go_enter Try.func29, Try.ntmps29
    go_wp2_with (first
      | (go_at_call 30; refine HX.out.mono ?_; rintro e' w2 ⟨rfl, hb2⟩; have HB2 := Aside0.mk (below_step HB.out hb2); have HPC2 := Aside0.mk (blk_below HPC.out hb2); have HPR2 := Aside0.mk (Kd.R_below HPR.out hb2); have z0 := (blk_cell HPC2.out 0).trans rfl; clear hb2)
      | (go_at_call 32; refine (HDL.out _ HPR2.out).mono ?_; rintro e' w3 ⟨rfl, hr3, hg3⟩; have HR3 := Aside0.mk hr3; have HG3 := Aside0.mk hg3; have HPC3 := Aside0.mk ((hg3.block aP (blk_lt HPC2.out) (fun e => HNE.out e)).trans HPC2.out); have z3 := (blk_cell HPC3.out 0).trans rfl; have f3 := blk_frozen HPC3.out 0; clear hr3 hg3 z0))
    go_ret
    have HPC4 := blk_put HPC3.out 0 (.slice (some ⟨g, 0, none⟩) (ps.length - 1) c) (cs' := #[.slice (some ⟨g, 0, none⟩) (ps.length - 1) c]) rfl
    have HR4 := Kd.R_far HR3.out (p := ⟨aP, 0, none⟩) (fun k hk e => HNE.out (by rw [← hk, e])) (.slice (some ⟨g, 0, none⟩) (ps.length - 1) c)
    have HF1 : Fr (fun k => k = aP ∨ some k = some g) W w2 := Fr.of_below HB2.out
    have HF2 : Fr (fun k => k = aP ∨ some k = some g) w2 w3 := Fr.of_grown HG3.out (fun q hq => .inr hq)
    have HF3 : Fr (fun k => k = aP ∨ some k = some g) w3 (w3.setCell ⟨aP, 0, none⟩ (.slice (some ⟨g, 0, none⟩) (ps.length - 1) c)) := Fr.set w3 aP 0 _ (.inl rfl)
    exact ⟨by rw [HTF.out]; rfl, by rw [HTF.out]; exact ⟨⟨_, HPC4, HR4⟩, HNE.out⟩, (HF1.trans HF2 (fun q hq => .inl hq)).trans HF3 (fun q hq => .inl hq)⟩
end Go.Proofs.Ytamiglolpchplaa.Hand
namespace Go.Proofs.Ytamiglolpchplaa.Hand
open Go.RowKit Go.Proofs.Ytamiglolpchplaa Go.Proofs.YtamiglolpchplaaW.PrintWords Go.Proofs.YtamiglolpchplaaW.PrintLast
set_option linter.unusedVariables false
set_option linter.unusedSimpArgs false
def putAll (at_ : Int) : List ByteArray → (Int → Option ByteArray) → Option (Int → Option ByteArray)
  | [], log => some log
  | v :: vs, log => if (log at_).isSome = true ∧ (log at_).getD ⟨#[]⟩ ≠ v then none else putAll (at_ + 1) vs (putF log at_ v)
def doneF (D : List CallV) : List CallV → (Int → Option ByteArray) → (Int → Option Bool) → Option ((Int → Option ByteArray) × (Int → Option Bool))
  | [], log, own => some (log, own)
  | c :: cs, log, own =>
    if rankF c < leastB 0 c.bgn D ∨ c.read = false ∧ (own c.offset).getD false = true then none
    else match putAll (showsF c).1 (showsF c).2 log with
      | none => none
      | some log' => doneF D cs log' (if c.read = true then own else putF own c.offset true)
def takeV (q : CallV → Bool) (ps : List CallV) : Option (List CallV) := match ps.findIdx? q with
  | some k => some (ps.eraseIdx k)
  | none => none
def placesF (known : Bool) (log : Int → Option ByteArray) (own : Int → Option Bool) (D : List CallV) : Nat → Nat → List CallV → Option (List CallV)
  | 0, _, ps => some ps
  | k + 1, i, ps =>
    if (own i).getD false = true ∨ (log i).isSome ≠ known then placesF known log own D k (i + 1) ps
    else match takeV (fitF known ((log i).getD ⟨#[]⟩) i D) ps with
      | none => none
      | some ps' => placesF known log own D k (i + 1) ps'
def checkR (D P : List CallV) (n : Nat) : Int := match doneF D D (fun _ => none) (fun _ => none) with
  | none => 51
  | some (log, own) => match placesF true log own D n 0 P with
    | none => 51
    | some P' => match placesF false log own D n 0 P' with
      | none => 51
      | some _ => 0
theorem map_eraseIdx_ {α β : Type} (f : α → β) : ∀ (l : List α) (k : Nat), (l.eraseIdx k).map f = (l.map f).eraseIdx k
  | [], _ => by simp
  | x :: l, 0 => by simp
  | x :: l, k + 1 => by simp [map_eraseIdx_ f l k]
theorem takeF_map (q : CallV → Bool) (ps : List CallP) : (takeF (fun r => q r.1) ps).map (·.map (·.1)) = takeV q (ps.map (·.1)) := by
  have h : (ps.map (·.1)).findIdx? q = ps.findIdx? (fun r => q r.1) := by rw [List.findIdx?_map]; rfl
  rw [takeF, takeV, h]
  cases ps.findIdx? (fun r => q r.1) with
  | none => rfl
  | some k => simp [map_eraseIdx_]
/-- A block that is a map is no block of cells. -/
theorem map_cells {κ α : Type} {t : MapT κ α} {W W' : World} {B : Nat} {f : κ → Option α} (h : MapG t W B f) (hg : W.grownBy W' (some B)) {a : Addr} {v : Value} (hc : W.cell? a = some v) : W'.cell? a = some v :=
  cell_kept hc hg (fun r hr => by
    injection hr with hr
    subst hr
    obtain ⟨es, c, hb, _⟩ := h
    exact ⟨_, hb, rfl⟩)
theorem map_C {κ α : Type} {t : MapT κ α} {W W' : World} {B : Nat} {f : κ → Option α} (h : MapG t W B f) (hg : W.grownBy W' (some B)) {β : Type} {enc : β → Value} {h1 : ∀ x, (enc x).oneCell' = true} {A : Option Addr} {n : Nat} {xs : List β} (hc : (Kd.scalar enc h1).C W A n xs) : (Kd.scalar enc h1).C W' A n xs :=
  ⟨hc.1, hc.2.1, fun hn => by
    obtain ⟨ad, e, hcc⟩ := hc.2.2 hn
    refine ⟨ad, e, fun j p hj => ?_⟩
    obtain ⟨c, hs, hr, hcell⟩ := hcc j p hj
    exact ⟨c, hs, hr, fun i u hi => map_cells h hg (hcell i u hi)⟩⟩
theorem map_CP {κ α : Type} {t : MapT κ α} {W W' : World} {B : Nat} {f : κ → Option α} (h : MapG t W B f) (hg : W.grownBy W' (some B)) {A : Option Addr} {n : Nat} {xs : List CallP} (hc : Kd.C kP W A n xs) : Kd.C kP W' A n xs :=
  ⟨hc.1, hc.2.1, fun hn => by
    obtain ⟨ad, e, hcc⟩ := hc.2.2 hn
    refine ⟨ad, e, fun j p hj => ?_⟩
    obtain ⟨c, hs, hr, hcell⟩ := hcc j p hj
    exact ⟨c, hs, hr, fun i u hi => map_cells h hg (hcell i u hi)⟩⟩
/-- What Check has in memory. -/
structure CkI (w : World) (aD aP aL bL bO : Nat) (bP : Option Nat) (AD : Option Addr) (cD : Nat) (ds ps : List CallP) (log : Int → Option ByteArray) (own : Int → Option Bool) (W : World) : Prop where
  cellD : W.cell? ⟨aD, 0, none⟩ = some (.slice AD ds.length cD)
  cd : Kd.C kP W AD ds.length ds
  pend : PendI W aP bP ps
  least_ : W.cell? ⟨aL, 0, none⟩ = some (.func (.func 26) #[] #[.pointer (some ⟨aD, 0, none⟩)])
  log_ : MapG tIS W bL log
  own_ : MapG tIB W bO own
  ne : bL ≠ bO
  hL : w.heap.size ≤ bL
  hO : w.heap.size ≤ bO
  apart : ∀ k, (k = aP ∨ some k = bP) → w.heap.size ≤ k ∧ k ≠ aD ∧ k ≠ aL ∧ k ≠ bL ∧ k ≠ bO ∧ ∀ ad, AD = some ad → k ≠ ad.block
  lt : ∀ k, (k = aP ∨ some k = bP) → k < W.heap.size
  below_ : Below w.heap.size w W
section
variable {w W W' : World} {aD aP aL bL bO cD : Nat} {bP : Option Nat} {AD : Option Addr} {ds ps : List CallP} {log : Int → Option ByteArray} {own : Int → Option Bool}
theorem PendI.below (h : PendI W aP bP ps) (hb : Below W.heap.size W W') : PendI W' aP bP ps := h.move (F := fun _ => False) (Fr.of_below hb) (fun h => h) (fun _ _ h => h)
theorem PendI.map {κ α : Type} {t : MapT κ α} {B : Nat} {f : κ → Option α} (h : PendI W aP bP ps) (hm : MapG t W B f) (hg : W.grownBy W' (some B)) : PendI W' aP bP ps := by
  obtain ⟨es, c, hb, _⟩ := hm
  obtain ⟨v, hc, hr⟩ := h.cell
  refine ⟨⟨v, (hg.block aP (blk_lt hc) (fun e => ?_)).trans hc, ?_⟩, h.ne⟩
  · injection e with e
    subst e
    rw [hc] at hb
    cases hb
  · refine Kd.R_mono (Kd.R_move (Kd.R_bound hr) (fun k hk => hg.block k hk.2.2.1 (fun e => ?_))) (fun k hk => hk.1)
    injection e with e
    subst e
    obtain ⟨_, _, _, q, _, cells, hcc⟩ := hk
    rw [hcc] at hb
    cases hb
theorem CkI.done_ (h : CkI w aD aP aL bL bO bP AD cD ds ps log own W) : DoneI W aD ds := ⟨AD, cD, h.cellD, h.cd⟩
theorem CkI.below (h : CkI w aD aP aL bL bO bP AD cD ds ps log own W) (hb : Below W.heap.size W W') : CkI w aD aP aL bL bO bP AD cD ds ps log own W' :=
  ⟨(hb.cell (p := ⟨aD, 0, none⟩) (World.block_lt_of_cell? W ⟨aD, 0, none⟩ h.cellD)).trans h.cellD, Kd.C_below h.cd hb, h.pend.below hb, (hb.cell (p := ⟨aL, 0, none⟩) (World.block_lt_of_cell? W ⟨aL, 0, none⟩ h.least_)).trans h.least_, h.log_.below hb, h.own_.below hb, h.ne, h.hL, h.hO, h.apart, fun k hk => Nat.lt_of_lt_of_le (h.lt k hk) hb.size, below_step h.below_ hb⟩
theorem CkI.putLog (h : CkI w aD aP aL bL bO bP AD cD ds ps log own W) {log' : Int → Option ByteArray} (hm : MapG tIS W' bL log') (hg : W.grownBy W' (some bL)) : CkI w aD aP aL bL bO bP AD cD ds ps log' own W' :=
  ⟨map_cells h.log_ hg h.cellD, map_CP h.log_ hg h.cd, h.pend.map h.log_ hg, map_cells h.log_ hg h.least_, hm, h.own_.move (hg.block bO h.own_.lt (fun e => by injection e with e; exact h.ne e.symm)), h.ne, h.hL, h.hO, h.apart, fun k hk => Nat.lt_of_lt_of_le (h.lt k hk) hg.size, below_grown h.below_ hg h.hL⟩
theorem CkI.putOwn (h : CkI w aD aP aL bL bO bP AD cD ds ps log own W) {own' : Int → Option Bool} (hm : MapG tIB W' bO own') (hg : W.grownBy W' (some bO)) : CkI w aD aP aL bL bO bP AD cD ds ps log own' W' :=
  ⟨map_cells h.own_ hg h.cellD, map_CP h.own_ hg h.cd, h.pend.map h.own_ hg, map_cells h.own_ hg h.least_, h.log_.move (hg.block bL h.log_.lt (fun e => by injection e with e; exact h.ne e)), hm, h.ne, h.hL, h.hO, h.apart, fun k hk => Nat.lt_of_lt_of_le (h.lt k hk) hg.size, below_grown h.below_ hg h.hO⟩
theorem cell_block {a : Addr} {v : Value} (hc : W.cell? a = some v) (hb : W'.heap[a.block]? = W.heap[a.block]?) : W'.cell? a = some v := (World.cell?_of_block hb).trans hc
/-- take has been called. -/
theorem CkI.take (h : CkI w aD aP aL bL bO bP AD cD ds ps log own W) {ps' : List CallP} (hp : PendI W' aP bP ps') (hf : Fr (fun k => k = aP ∨ some k = bP) W W') : CkI w aD aP aL bL bO bP AD cD ds ps' log own W' := by
  have hn : ∀ k, ¬ (k = aP ∨ some k = bP) → k < W.heap.size → W'.heap[k]? = W.heap[k]? := fun k h1 h2 => hf.block k h2 h1
  have hD := World.block_lt_of_cell? W ⟨aD, 0, none⟩ h.cellD
  have hL := World.block_lt_of_cell? W ⟨aL, 0, none⟩ h.least_
  have hc := h.cd
  refine ⟨cell_block h.cellD (hn aD (fun e => (h.apart aD e).2.1 rfl) hD), ?_, hp, cell_block h.least_ (hn aL (fun e => (h.apart aL e).2.2.1 rfl) hL), h.log_.move (hn bL (fun e => (h.apart bL e).2.2.2.1 rfl) h.log_.lt), h.own_.move (hn bO (fun e => (h.apart bO e).2.2.2.2.1 rfl) h.own_.lt), h.ne, h.hL, h.hO, h.apart, fun k hk => Nat.lt_of_lt_of_le (h.lt k hk) hf.size, ?_⟩
  · refine ⟨hc.1, hc.2.1, fun hn0 => ?_⟩
    obtain ⟨ad, e, hcc⟩ := hc.2.2 hn0
    refine ⟨ad, e, fun j p hj => ?_⟩
    obtain ⟨c, hs, hr, hcell⟩ := hcc j p hj
    have hbk : ∀ i, (ad.add i).block = ad.block := fun i => by unfold Addr.add; split <;> rfl
    refine ⟨c, hs, hr, fun i u hi => cell_block (hcell i u hi) ?_⟩
    rw [hbk]
    have hlt := World.block_lt_of_cell? W _ (hcell i u hi)
    rw [hbk] at hlt
    exact hn ad.block (fun e2 => (h.apart ad.block e2).2.2.2.2.2 ad e rfl) hlt
  · have hb := h.below_
    exact ⟨hf.os.trans hb.os, hf.tape.trans hb.tape, hf.output.trans hb.output, Nat.le_trans hb.size hf.size, fun k hk => (hf.block k (Nat.lt_of_lt_of_le hk hb.size) (fun e => by have := (h.apart k e).1; omega)).trans (hb.block k hk)⟩
end
end Go.Proofs.Ytamiglolpchplaa.Hand
