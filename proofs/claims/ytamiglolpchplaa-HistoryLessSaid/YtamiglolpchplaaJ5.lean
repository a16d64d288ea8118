/- symMerge: one element on the left. -/
import Derived.Test.YtamiglolpchplaaJ4
namespace Go.Proofs.Ytamiglolpchplaa.Hand
open Go.RowKit Go.Shelf Go.Lib Go.Sort Go.Proofs.Ytamiglolpchplaa Go.Proofs.YtamiglolpchplaaW.PrintWords Go.Proofs.YtamiglolpchplaaW.PrintLast
set_option linter.unusedVariables false
set_option linter.unusedSimpArgs false
theorem goesv_ {P : Program} {ops : Array Oper} {Q : Exit → Act → World → Prop} {oi : Oper} {N : Option Tmp} {a : Act} {w : World} {K : Act → World → Prop} {f : FuncId} {fn : Func} {xs : Array Operand} {ts : Array TypeId} (hf : P.funcs[f]? = some fn) (hname : (fn.name == "runtime.NumGoroutine") = false) (hb : fn.body.isSome = true) (args : Array Value)
    (hw : Region.wanted oi (yielded ops a.tmps) = true) (hN : oi.dst = N) (hop : ∃ x bound, oi.op = .call { callee := .value x, args := xs, argTypes := ts } ∧ a.eval x = .func (.func f) bound #[] ∧ bound ++ xs.map a.eval = args)
    (h : Calls P f args w fun e w' => ∃ v, e = .returned v ∧ K (a.put N v) w') : if Region.wanted oi (yielded ops a.tmps) = true then Oper.wp P oi a w K Q else K (a.put N undef) w := by
  obtain ⟨x, bound, hop, hx, hargs⟩ := hop
  refine call_ f args hw hN ?_ h
  have he := enters_ hf hname hb args w
  subst hargs
  unfold execOp
  simp [hop, resolve, Deferred.ofValue, invoke, hx, he]
theorem ldSWK {w0 w : World} {blk off : Nat} {d0 e : Array CallR} (hH : HoldsK crL 7 w0 blk off d0) (hblk : blk < w0.heap.size) (hz : e.size = d0.size) (i : Nat) (hi : i < e.size) (hs : SWK crL 7 w0 blk off e w) :
    Sem.run Try.prog (loadCellsFrom ⟨blk, off + i * 7, none⟩ 0 7 #[]) w = .ok (crL e[i]!).toArray w := run_loadCellsFrom_list Try.prog _ _ _ 7 (crL_len _) (HoldsK.cells (hs.holds hblk hH hz) crL_len hi)
theorem swk_grown {w0 w : World} {blk off : Nat} {e : Array CallR} (hs : SWK crL 7 w0 blk off e w) (os : Array Obj) : SWK crL 7 w0 blk off e (grow w os) := by
  obtain ⟨n, o, rfl⟩ := hs
  exact ⟨n, o ++ os, by unfold sortWorldK; rw [grow_grow]⟩
/-- Looking for the place of d[a] in [m, b). -/
structure FiA (d : Array CallR) (a m b i j : Nat) : Prop where
  mi : m ≤ i
  ij : i ≤ j
  jb : j ≤ b
  lo : ∀ t, m ≤ t → t < i → ltOf cfE d[t]! d[a]! = true
  hi : ∀ t, j ≤ t → t < b → ltOf cfE d[t]! d[a]! = false
theorem FiA.up {d : Array CallR} {a m b i j h : Nat} (H : FiA d a m b i j) (hs : SortedIn (ltOf cfE) m b d) (h1 : i ≤ h) (h2 : h < j) (hl : ltOf cfE d[h]! d[a]! = true) : FiA d a m b (h + 1) j := by
  refine ⟨by have := H.mi; omega, by omega, H.jb, fun t p q => ?_, H.hi⟩
  by_cases e : t = h
  · subst e; exact hl
  · have h3 : ltOf cfE d[h]! d[t]! = false := hs t h p (by omega) (by have := H.jb; omega)
    cases h4 : ltOf cfE d[t]! d[a]! with
    | true => rfl
    | false => rw [ltE_swo.ntrans _ _ _ h3 h4] at hl; exact absurd hl (by decide)
theorem FiA.down {d : Array CallR} {a m b i j h : Nat} (H : FiA d a m b i j) (hs : SortedIn (ltOf cfE) m b d) (h1 : i ≤ h) (h2 : h < j) (hl : ltOf cfE d[h]! d[a]! = false) : FiA d a m b i h := by
  refine ⟨H.mi, h1, by have := H.jb; omega, H.lo, fun t p q => ?_⟩
  by_cases e : t = h
  · subst e; exact hl
  · exact ltE_swo.ntrans _ _ _ (hs h t (by have := H.mi; omega) (by omega) q) hl
structure InA (d : Array CallR) (a b k : Nat) (e : Array CallR) : Prop where
  pm : PermIn a b d e
  lo : ∀ t, a ≤ t → t < k → e[t]! = d[t + 1]!
  at_ : e[k]! = d[a]!
  hi : ∀ t, k < t → e[t]! = d[t]!
  ak : a ≤ k
theorem InA.start (d : Array CallR) (a b : Nat) : InA d a b a d := ⟨permIn_refl d a b, fun t p q => by omega, rfl, fun t p => rfl, Nat.le_refl _⟩
theorem InA.step {d e : Array CallR} {a b k : Nat} (H : InA d a b k e) (h : k + 1 < b) (hb : b ≤ d.size) : InA d a b (k + 1) (swp e k (k + 1)) := by
  have hz : e.size = d.size := H.pm.1
  refine ⟨permIn_trans _ _ _ _ _ H.pm (swp_permIn e a b k (k + 1) H.ak (by omega) (by have := H.ak; omega) h (by omega)), fun t p q => ?_, ?_, fun t p => ?_, by have := H.ak; omega⟩
  · by_cases e1 : t = k
    · subst e1
      rw [swp_left e t (t + 1) (by omega) (by omega)]; exact H.hi _ (by omega)
    · rw [swp_other e k (k + 1) t e1 (by omega)]; exact H.lo t p (by omega)
  · rw [swp_right e k (k + 1) (by omega)]; exact H.at_
  · rw [swp_other e k (k + 1) t (by omega) (by omega)]; exact H.hi t (by omega)
theorem InA.done {d e : Array CallR} {a m b i r : Nat} (H : InA d a b r e) (F : FiA d a m b i i) (hr : r + 1 = i) (hm : a + 1 = m) (hs : SortedIn (ltOf cfE) m b d) : SortedIn (ltOf cfE) a b e := by
  intro p q h1 h2 h3
  have hi : ∀ t, i ≤ t → e[t]! = d[t]! := fun t h => H.hi t (by omega)
  by_cases c1 : q < r
  · rw [H.lo p h1 (by omega), H.lo q (by omega) c1]; exact hs _ _ (by omega) (by omega) (by have := F.jb; omega)
  · by_cases c2 : q = r
    · subst c2
      rw [H.at_, H.lo p h1 h2]
      have := F.lo (p + 1) (by omega) (by omega)
      cases h4 : ltOf cfE d[a]! d[p + 1]! with
      | false => rfl
      | true => exact absurd (ltE_swo.trans _ _ _ this h4) (by rw [ltE_swo.irrefl]; decide)
    · rw [hi q (by omega)]
      by_cases c3 : p < r
      · rw [H.lo p h1 c3]; exact hs _ _ (by omega) (by omega) h3
      · by_cases c4 : p = r
        · subst c4
          rw [H.at_]; exact F.hi q (by omega) h3
        · rw [hi p (by omega)]; exact hs _ _ (by have := F.mi; omega) h2 h3
theorem swFacts {w0 w : World} {blk off : Nat} {d0 e : Array CallR} (hH : HoldsK crL 7 w0 blk off d0) (hblk : blk < w0.heap.size) (hz : e.size = d0.size) (hs : SWK crL 7 w0 blk off e w) (i j : Nat) (hi : i < e.size) (hj : j < e.size) :
    ∃ c1 c2 : List Value, Sem.run Try.prog (loadCellsFrom ⟨blk, off + j * 7, none⟩ 0 7 #[]) w.drew = .ok c1.toArray w.drew ∧ Sem.run Try.prog (loadCellsFrom ⟨blk, off + i * 7, none⟩ 0 7 #[]) w.drew = .ok c2.toArray w.drew ∧
      Sem.run Try.prog (storeCells ⟨blk, off + i * 7, none⟩ c1 0) w.drew = .ok () (w.drew.setCells blk (off + i * 7) c1) ∧
      Sem.run Try.prog (storeCells ⟨blk, off + j * 7, none⟩ c2 0) (w.drew.setCells blk (off + i * 7) c1) = .ok () ((w.drew.setCells blk (off + i * 7) c1).setCells blk (off + j * 7) c2) ∧ c1.length = 7 ∧ c2.length = 7 ∧
      SWK crL 7 w0 blk off (swp e i j) ((w.drew.setCells blk (off + i * 7) c1).setCells blk (off + j * 7) c2) := by
  have hd := SWK.drewN hs 1
  have hHd : HoldsK crL 7 w.drew blk off e := SWK.holds hd hblk hH hz
  have bnd : ∀ x, x < e.size → x * 7 + 7 ≤ e.size * 7 := fun x hx => by omega
  exact ⟨crL e[j]!, crL e[i]!, ldSWK hH hblk hz j hj hd, ldSWK hH hblk hz i hi hd,
    stores_of_holds Try.prog hHd (i * 7) _ (by rw [crL_len, size_flatK]; exact bnd i hi) (crL_one _),
    stores_of_holds Try.prog (holds_setCells_c hHd (i * 7) _ (by rw [crL_len, size_flatK]; exact bnd i hi)) (j * 7) _ (by rw [crL_len, size_setMany, size_flatK]; exact bnd j hj) (crL_one _),
    rfl, rfl, hd.swap crL_len hblk i j hi hj⟩
theorem midU (i j : Nat) (h : i + j < 4611686018427387904) : wrap64 ((i : Int) + (j : Int)) = ((i + j : Nat) : Int) := by unfold wrap64; omega
def TC5 : Bool × List (List Nat × List Nat) := (true, [([], []), ([], []), ([], []), ([1, 2], [1, 2]), ([3], [3]), ([], []), ([], []), ([5, 6], [5, 6]), ([7], [7]), ([0, 4, 8], [0, 4, 8]), ([9], [9])])
def BC5 : List Nat := [0, 0, 0, 6, 14, 0, 0, 96, 224, 511, 1023]
theorem tabC5 : rtab .any (opsOf Try.f45 5) = TC5 := by kernel_rfl
theorem bitsC5 : waitsOk TC5.2 BC5 = true := by kernel_rfl
def TC11 : Bool × List (List Nat × List Nat) := (true, [([], []), ([], []), ([], []), ([], []), ([3], [3]), ([], []), ([], []), ([6], [6]), ([5, 7], [5, 7]), ([8], [8]), ([], []), ([], []), ([10, 11], [10, 11]), ([12], [12]), ([0, 1, 0, 1, 5, 6, 7, 8, 9, 13], [0, 1]), ([14, 9, 0, 1, 5, 6, 7, 8, 9, 13], [9, 14]), ([2, 4, 0, 1, 2, 3, 4, 5, 6, 7, 8, 9, 10, 11, 12, 13, 14, 15], [2, 4]), ([16, 13, 15, 0, 1, 2, 3, 4, 5, 6, 7, 8, 9, 10, 11, 12, 13, 14, 15], [13, 16])])
def BC11 : List Nat := [0, 0, 0, 0, 8, 0, 0, 64, 224, 480, 0, 0, 3072, 7168, 16355, 32739, 65535, 131071]
theorem tabC11 : rtab .any (opsOf Try.f45 11) = TC11 := by kernel_rfl
theorem bitsC11 : waitsOk TC11.2 BC11 = true := by kernel_rfl
set_option maxHeartbeats 4000000 in
set_option maxRecDepth 1000000 in
theorem merge_l (blk off cap a m b n : Nat) (d0 d : Array CallR) (w0 w : World) (hH : HoldsK crL 7 w0 blk off d0) (hs : SWK crL 7 w0 blk off d w) (hblk : blk < w0.heap.size) (h0 : d0.size = n) (hn : d.size = n) (ham : a + 1 = m) (hmb : m < b) (hb : b ≤ n) (hsz : n < 2305843009213693952)
    (hso : SortedIn (ltOf cfE) m b d) :
    Calls Try.prog 45 #[.slice (some ⟨blk, off, none⟩) n cap, .int .i64 a, .int .i64 m, .int .i64 b, .func (.func 25) #[] #[]] w fun e' w' => e' = .returned (.tuple #[]) ∧ ∃ e1, SWK crL 7 w0 blk off e1 w' ∧ PermIn a b d e1 ∧ SortedIn (ltOf cfE) a b e1 := by
  have HN := Aside0.mk (And.intro hH (And.intro hblk (And.intro h0 (And.intro hn (And.intro hmb (And.intro hb (And.intro hsz hso)))))))
  have HS := Aside0.mk hs
  have HA := Aside0.mk ham
  have q1 : wrap64 ((m : Int) - (a : Int)) = ((1 : Nat) : Int) := wsub (by omega) (by omega)
  clear hH hs hblk h0 hn hmb hb hsz hso ham
  go_enter Try.func45, Try.ntmps45
  go_wp2_with fail
  go_loopw [10, 11] (fun vi vj wr => ∃ (i j : Nat), vi = .int .i64 (i : Int) ∧ vj = .int .i64 (j : Int) ∧ FiA d a m b i j ∧ SWK crL 7 w0 blk off d wr) (fun vi vj _ => (intOf vj).toNat - (intOf vi).toNat)
  case atStart => exact ⟨m, b, rfl, rfl, ⟨Nat.le_refl _, by have := HN.out; omega, Nat.le_refl _, fun t p q => by omega, fun t p q => by omega⟩, HS.out⟩
  case round =>
    obtain ⟨i, j, rfl, rfl, hfi, hsw⟩ := hrel
    have HF := Aside0.mk hfi
    have HW := Aside0.mk hsw
    have hj : j ≤ b := hfi.jb
    clear hfi hsw q1
    by_cases hij : i < j
    · have hc : (i : Int) < (j : Int) := by omega
      have hbn : b ≤ n := HN.out.2.2.2.2.2.1
      have hsn : n < 2305843009213693952 := HN.out.2.2.2.2.2.2.1
      obtain ⟨h, hh⟩ : ∃ h, h = (i + j) / 2 := ⟨_, rfl⟩
      have e3 : ((i : Int) + (j : Int)) / 2 = (h : Int) := by omega
      have HI := Aside0.mk (show i ≤ h ∧ h < j from ⟨by omega, by omega⟩)
      have z1 : (h : Int) < (n : Int) := by omega
      have z2 : (a : Int) < (n : Int) := by have := HA.out; have := HN.out; omega
      have L1 := Aside0.mk (fun w' (s : SWK crL 7 w0 blk off d w') => ldSWK HN.out.1 HN.out.2.1 (HN.out.2.2.2.1.trans HN.out.2.2.1.symm) h (by rw [HN.out.2.2.2.1]; omega) s)
      have L2 := Aside0.mk (fun w' (s : SWK crL 7 w0 blk off d w') => ldSWK HN.out.1 HN.out.2.1 (HN.out.2.2.2.1.trans HN.out.2.2.1.symm) a (by rw [HN.out.2.2.2.1]; omega) s)
      obtain ⟨x1, hx1⟩ : ∃ x, d[h]! = x := ⟨_, rfl⟩
      obtain ⟨x2, hx2⟩ : ∃ x, d[a]! = x := ⟨_, rfl⟩
      rw [hx1] at L1
      rw [hx2] at L2
      have X1 := Aside0.mk hx1
      have X2 := Aside0.mk hx2
      clear hx1 hx2 hh
      go_wp2_with fail
      clear e3 hj hij hsn hbn
      refine start_ (n := 11) (S := fun w' => SWK crL 7 w0 blk off d w') (ds := []) #[false, false, false, false, false, false, false, false, false, false, false] (by kernel_rfl) rfl rfl (SWK.drewN HW.out 1) (fun hHeld => ?_); refine with_tabW tabC5 bitsC5 (fun HT_ HW_ => ?_)
      refine pure_ (i := 0) (N := (some 40)) (v := ?_) (a' := ?_) #[true, false, false, false, false, false, false, false, false, false, false] rfl rfl (any_of HT_.out (by kernel_rfl)) (fun _ _ _ h => h) (Or.inl ⟨by rfl, ?_⟩) ?_ ?_
      rotate_left
      · intro w'
        go_simp
        with_reducible rfl
      rotate_left
      · simp only [Act.put, List.setIfInBounds_toArray, List.set_cons_zero, List.set_cons_succ, i64_w, i32_w]
        rfl
      refine pure_ (i := 1) (N := (some 41)) (v := ?_) (a' := ?_) #[true, true, false, false, false, false, false, false, false, false, false] rfl rfl (any_of HT_.out (by kernel_rfl)) (fun _ _ _ h => h) (Or.inl ⟨by rfl, ?_⟩) ?_ ?_
      rotate_left
      · intro w'
        go_simp
        with_reducible rfl
      rotate_left
      · simp only [Act.put, List.setIfInBounds_toArray, List.set_cons_zero, List.set_cons_succ, i64_w, i32_w]
        rfl
      refine pure_ (i := 2) (N := (some 42)) (v := ?_) (a' := ?_) #[true, true, true, false, false, false, false, false, false, false, false] rfl rfl (any_of HT_.out (by kernel_rfl)) (fun _ _ _ h => h) (Or.inl ⟨by rfl, ?_⟩) ?_ ?_
      rotate_left
      · intro w'
        go_simp
        with_reducible rfl
      rotate_left
      · simp only [Act.put, List.setIfInBounds_toArray, List.set_cons_zero, List.set_cons_succ, i64_w, i32_w]
        rfl
      refine pure_ (i := 3) (N := (some 43)) (v := ?_) (a' := ?_) #[true, true, true, true, false, false, false, false, false, false, false] rfl rfl (any_of HT_.out (by kernel_rfl)) (fun _ _ _ h => h) (Or.inl ⟨by rfl, ?_⟩) ?_ ?_
      rotate_left
      · intro w'
        go_simp
        with_reducible rfl
      rotate_left
      · simp only [Act.put, List.setIfInBounds_toArray, List.set_cons_zero, List.set_cons_succ, i64_w, i32_w]
        rfl
      refine take_ (i := 4) (N := (some 44)) (v := .agg (crL x1).toArray) #[true, true, true, true, true, false, false, false, false, false, false] rfl rfl (take_ofW HT_.out HW_.out (by kernel_rfl)) (fun _ _ _ h => h) (Or.inl ⟨by rfl, fun w' s0 => run_load34 _ _ (.tmp 43) rfl rfl (L1.out _ s0)⟩) hHeld rfl ?_
      refine norm_ (a' := ?_) ?_ ?_
      rotate_left
      · show Act.put _ (some 44) _ = _
        simp only [Act.put, List.setIfInBounds_toArray, List.set_cons_zero, List.set_cons_succ, i64_w, i32_w]
        rfl
      refine pure_ (i := 5) (N := (some 45)) (v := ?_) (a' := ?_) #[true, true, true, true, true, true, false, false, false, false, false] rfl rfl (any_of HT_.out (by kernel_rfl)) (fun _ _ _ h => h) (Or.inl ⟨by rfl, ?_⟩) ?_ ?_
      rotate_left
      · intro w'
        go_simp
        with_reducible rfl
      rotate_left
      · simp only [Act.put, List.setIfInBounds_toArray, List.set_cons_zero, List.set_cons_succ, i64_w, i32_w]
        rfl
      refine pure_ (i := 6) (N := (some 46)) (v := ?_) (a' := ?_) #[true, true, true, true, true, true, true, false, false, false, false] rfl rfl (any_of HT_.out (by kernel_rfl)) (fun _ _ _ h => h) (Or.inl ⟨by rfl, ?_⟩) ?_ ?_
      rotate_left
      · intro w'
        go_simp
        with_reducible rfl
      rotate_left
      · simp only [Act.put, List.setIfInBounds_toArray, List.set_cons_zero, List.set_cons_succ, i64_w, i32_w]
        rfl
      refine pure_ (i := 7) (N := (some 47)) (v := ?_) (a' := ?_) #[true, true, true, true, true, true, true, true, false, false, false] rfl rfl (any_of HT_.out (by kernel_rfl)) (fun _ _ _ h => h) (Or.inl ⟨by rfl, ?_⟩) ?_ ?_
      rotate_left
      · intro w'
        go_simp
        with_reducible rfl
      rotate_left
      · simp only [Act.put, List.setIfInBounds_toArray, List.set_cons_zero, List.set_cons_succ, i64_w, i32_w]
        rfl
      refine take_ (i := 8) (N := (some 48)) (v := .agg (crL x2).toArray) #[true, true, true, true, true, true, true, true, true, false, false] rfl rfl (take_ofW HT_.out HW_.out (by kernel_rfl)) (fun _ _ _ h => h) (Or.inl ⟨by rfl, fun w' s0 => run_load34 _ _ (.tmp 47) rfl rfl (L2.out _ s0)⟩) hHeld rfl ?_
      refine norm_ (a' := ?_) ?_ ?_
      rotate_left
      · show Act.put _ (some 48) _ = _
        simp only [Act.put, List.setIfInBounds_toArray, List.set_cons_zero, List.set_cons_succ, i64_w, i32_w]
        rfl
      refine one_ (i := 9) (N := (some 49)) #[true, true, true, true, true, true, true, true, true, true, false] rfl rfl (one_of HT_.out (by kernel_rfl)) (by decide) (fun K hK => ?_)
      refine goesv_ Try.func25 (by kernel_rfl) rfl #[.agg (crL x1).toArray, .agg (crL x2).toArray] (by rfl) rfl ⟨_, _, rfl, rfl, by (simp only [Array.empty_append, List.map_toArray, List.map_cons, List.map_nil]; first | done | rfl)⟩ ?_
      refine (cmp_c x1 x2 _).mono ?_
      rintro e' w2 ⟨rfl, os, rfl⟩
      refine ⟨_, rfl, ?_⟩
      refine hK.out _ _ (swk_grown hHeld os) (fun hHeld => ?_)
      clear hK K
      refine norm_ (a' := ?_) ?_ ?_
      rotate_left
      · show Act.put _ (some 49) _ = _
        simp only [Act.put, List.setIfInBounds_toArray, List.set_cons_zero, List.set_cons_succ, i64_w, i32_w]
        rfl
      refine pure_ (i := 10) (N := (some 50)) (v := ?_) (a' := ?_) #[true, true, true, true, true, true, true, true, true, true, true] rfl rfl (any_of HT_.out (by kernel_rfl)) (fun _ _ _ h => h) (Or.inl ⟨by rfl, ?_⟩) ?_ ?_
      rotate_left
      · intro w'
        go_simp
        with_reducible rfl
      rotate_left
      · simp only [Act.put, List.setIfInBounds_toArray, List.set_cons_zero, List.set_cons_succ, i64_w, i32_w]
        rfl
      refine done_ (done_of HT_.out (by kernel_rfl)) ?_
      have HW2 := Aside0.mk hHeld
      clear hHeld HT_ HW_ L1 L2
      by_cases hl : cfE x1 x2 < 0
      · have HL := Aside0.mk (show ltOf cfE d[h]! d[a]! = true from by rw [X1.out, X2.out]; exact decide_eq_true hl)
        go_wp2_with fail
        have q5 : wrap64 ((h : Int) + 1) = ((h + 1 : Nat) : Int) := midU h 1 (by have := HI.out; have := HF.out.jb; have := HN.out; omega)
        exact ⟨⟨h + 1, j, by rw [q5], rfl, HF.out.up HN.out.2.2.2.2.2.2.2 HI.out.1 HI.out.2 HL.out, HW2.out⟩, by rw [q5]; have := HI.out; simp only [intOf]; omega⟩
      · have HL := Aside0.mk (show ltOf cfE d[h]! d[a]! = false from by rw [X1.out, X2.out]; exact decide_eq_false hl)
        go_wp2_with fail
        exact ⟨⟨i, h, rfl, rfl, HF.out.down HN.out.2.2.2.2.2.2.2 HI.out.1 HI.out.2 HL.out, HW2.out⟩, by have := HI.out; simp only [intOf]; omega⟩
    · have hc : ¬ (i : Int) < (j : Int) := by omega
      obtain rfl : i = j := by have := HF.out.ij; omega
      obtain ⟨r, hr⟩ : ∃ r, r + 1 = i := ⟨i - 1, by have := HF.out.mi; have := HA.out; omega⟩
      have q3 : wrap64 ((i : Int) - 1) = (r : Int) := wsub (b := 1) hr (by have := HN.out; omega)
      have HR := Aside0.mk hr
      clear hr hij hj
      go_wp2_with fail
      go_loopw [13] (fun vk w2 => ∃ (k : Nat) (e : Array CallR), vk = .int .i64 (k : Int) ∧ k ≤ r ∧ InA d a b k e ∧ SWK crL 7 w0 blk off e w2) (fun vk _ => r - (intOf vk).toNat)
      case atStart => exact ⟨a, d, rfl, by have := HR.out; have := HF.out.mi; have := HA.out; omega, InA.start d a b, HW.out⟩
      case round =>
        obtain ⟨k, e, rfl, hkr, hin, hsw⟩ := hrel
        have HI := Aside0.mk hin
        have HW3 := Aside0.mk hsw
        clear hin hsw
        by_cases hk : k < r
        · have hkc : (k : Int) < (r : Int) := by omega
          obtain ⟨s, hs⟩ : ∃ s, k + 1 = s := ⟨_, rfl⟩
          have hsn : s < n := by have := HR.out; have := HF.out.jb; have := HN.out; omega
          have hek : e.size = n := HI.out.pm.1.trans HN.out.2.2.2.1
          obtain ⟨c1, c2, l1, l2, s1, s2, hs1, hs2, HSW⟩ := swFacts HN.out.1 HN.out.2.1 (hek.trans HN.out.2.2.1.symm) HW3.out k s (by omega) (by omega)
          have HX := Aside0.mk HSW
          have HK := Aside0.mk (show k < r ∧ k + 1 = s ∧ s < n ∧ e.size = n from ⟨hk, hs, hsn, hek⟩)
          have z1 : (s : Int) < (n : Int) := by omega
          have z2 : (k : Int) < (n : Int) := by omega
          have q1 : wrap64 ((k : Int) + 1) = (s : Int) := by rw [← hs]; exact midU k 1 (by have := HN.out; omega)
          clear HSW hk hs hsn hek hkr
          go_wp2_with fail
          refine start_ (n := 18) (S := fun w' => Sem.run Try.prog (loadCellsFrom (⟨blk, off + s * 7, none⟩ : Addr) 0 7 #[]) w' = .ok c1.toArray w' ∧ Sem.run Try.prog (loadCellsFrom (⟨blk, off + k * 7, none⟩ : Addr) 0 7 #[]) w' = .ok c2.toArray w') (ds := [15, 17]) #[false, false, false, false, false, false, false, false, false, false, false, false, false, false, false, false, false, false] (by kernel_rfl) rfl rfl ⟨l1, l2⟩ (fun hHeld => ?_); refine with_tabW tabC11 bitsC11 (fun HT_ HW_ => ?_)
          generalize hwd : wr.drew = wd at l1 l2 s1 s2 hHeld ⊢
          refine pure_ (i := 0) (N := (some 61)) (v := ?_) (a' := ?_) #[true, false, false, false, false, false, false, false, false, false, false, false, false, false, false, false, false, false] rfl rfl (any_of HT_.out (by kernel_rfl)) (fun _ _ _ h => h) (Or.inl ⟨by rfl, ?_⟩) ?_ ?_
          rotate_left
          · intro w'
            go_simp
            with_reducible rfl
          rotate_left
          · simp only [Act.put, List.setIfInBounds_toArray, List.set_cons_zero, List.set_cons_succ, i64_w, i32_w]
            rfl
          refine pure_ (i := 1) (N := (some 62)) (v := ?_) (a' := ?_) #[true, true, false, false, false, false, false, false, false, false, false, false, false, false, false, false, false, false] rfl rfl (any_of HT_.out (by kernel_rfl)) (fun _ _ _ h => h) (Or.inl ⟨by rfl, ?_⟩) ?_ ?_
          rotate_left
          · intro w'
            go_simp
            with_reducible rfl
          rotate_left
          · simp only [Act.put, List.setIfInBounds_toArray, List.set_cons_zero, List.set_cons_succ, i64_w, i32_w]
            rfl
          refine pure_ (i := 2) (N := (some 63)) (v := ?_) (a' := ?_) #[true, true, true, false, false, false, false, false, false, false, false, false, false, false, false, false, false, false] rfl rfl (any_of HT_.out (by kernel_rfl)) (fun _ _ _ h => h) (Or.inl ⟨by rfl, ?_⟩) ?_ ?_
          rotate_left
          · intro w'
            go_simp
            with_reducible rfl
          rotate_left
          · simp only [Act.put, List.setIfInBounds_toArray, List.set_cons_zero, List.set_cons_succ, i64_w, i32_w]
            rfl
          refine pure_ (i := 3) (N := (some 64)) (v := ?_) (a' := ?_) #[true, true, true, true, false, false, false, false, false, false, false, false, false, false, false, false, false, false] rfl rfl (any_of HT_.out (by kernel_rfl)) (fun _ _ _ h => h) (Or.inl ⟨by rfl, ?_⟩) ?_ ?_
          rotate_left
          · intro w'
            go_simp
            with_reducible rfl
          rotate_left
          · simp only [Act.put, List.setIfInBounds_toArray, List.set_cons_zero, List.set_cons_succ, i64_w, i32_w]
            rfl
          refine pure_ (i := 4) (N := (some 65)) (v := ?_) (a' := ?_) #[true, true, true, true, true, false, false, false, false, false, false, false, false, false, false, false, false, false] rfl rfl (any_of HT_.out (by kernel_rfl)) (fun _ _ _ h => h) (Or.inl ⟨by rfl, ?_⟩) ?_ ?_
          rotate_left
          · intro w'
            go_simp
            with_reducible rfl
          rotate_left
          · simp only [Act.put, List.setIfInBounds_toArray, List.set_cons_zero, List.set_cons_succ, i64_w, i32_w]
            rfl
          refine pure_ (i := 5) (N := (some 66)) (v := ?_) (a' := ?_) #[true, true, true, true, true, true, false, false, false, false, false, false, false, false, false, false, false, false] rfl rfl (any_of HT_.out (by kernel_rfl)) (fun _ _ _ h => h) (Or.inl ⟨by rfl, ?_⟩) ?_ ?_
          rotate_left
          · intro w'
            go_simp
            with_reducible rfl
          rotate_left
          · simp only [Act.put, List.setIfInBounds_toArray, List.set_cons_zero, List.set_cons_succ, i64_w, i32_w]
            rfl
          refine pure_ (i := 6) (N := (some 67)) (v := ?_) (a' := ?_) #[true, true, true, true, true, true, true, false, false, false, false, false, false, false, false, false, false, false] rfl rfl (any_of HT_.out (by kernel_rfl)) (fun _ _ _ h => h) (Or.inl ⟨by rfl, ?_⟩) ?_ ?_
          rotate_left
          · intro w'
            go_simp
            with_reducible rfl
          rotate_left
          · simp only [Act.put, List.setIfInBounds_toArray, List.set_cons_zero, List.set_cons_succ, i64_w, i32_w]
            rfl
          refine pure_ (i := 7) (N := (some 68)) (v := ?_) (a' := ?_) #[true, true, true, true, true, true, true, true, false, false, false, false, false, false, false, false, false, false] rfl rfl (any_of HT_.out (by kernel_rfl)) (fun _ _ _ h => h) (Or.inl ⟨by rfl, ?_⟩) ?_ ?_
          rotate_left
          · intro w'
            go_simp
            with_reducible rfl
          rotate_left
          · simp only [Act.put, List.setIfInBounds_toArray, List.set_cons_zero, List.set_cons_succ, i64_w, i32_w]
            rfl
          refine pure_ (i := 8) (N := (some 69)) (v := ?_) (a' := ?_) #[true, true, true, true, true, true, true, true, true, false, false, false, false, false, false, false, false, false] rfl rfl (any_of HT_.out (by kernel_rfl)) (fun _ _ _ h => h) (Or.inl ⟨by rfl, ?_⟩) ?_ ?_
          rotate_left
          · intro w'
            go_simp
            with_reducible rfl
          rotate_left
          · simp only [Act.put, List.setIfInBounds_toArray, List.set_cons_zero, List.set_cons_succ, i64_w, i32_w]
            rfl
          refine take_ (i := 9) (N := (some 70)) (v := .agg c1.toArray) #[true, true, true, true, true, true, true, true, true, true, false, false, false, false, false, false, false, false] rfl rfl (take_ofW HT_.out HW_.out (by kernel_rfl)) (fun _ _ _ h => h) (Or.inl ⟨by rfl, fun w' s0 => run_load34 _ _ (.tmp 69) rfl rfl (s0.1)⟩) hHeld rfl ?_
          refine norm_ (a' := ?_) ?_ ?_
          rotate_left
          · show Act.put _ (some 70) _ = _
            simp only [Act.put, List.setIfInBounds_toArray, List.set_cons_zero, List.set_cons_succ, i64_w, i32_w]
            rfl
          refine pure_ (i := 10) (N := (some 71)) (v := ?_) (a' := ?_) #[true, true, true, true, true, true, true, true, true, true, true, false, false, false, false, false, false, false] rfl rfl (any_of HT_.out (by kernel_rfl)) (fun _ _ _ h => h) (Or.inl ⟨by rfl, ?_⟩) ?_ ?_
          rotate_left
          · intro w'
            go_simp
            with_reducible rfl
          rotate_left
          · simp only [Act.put, List.setIfInBounds_toArray, List.set_cons_zero, List.set_cons_succ, i64_w, i32_w]
            rfl
          refine pure_ (i := 11) (N := (some 72)) (v := ?_) (a' := ?_) #[true, true, true, true, true, true, true, true, true, true, true, true, false, false, false, false, false, false] rfl rfl (any_of HT_.out (by kernel_rfl)) (fun _ _ _ h => h) (Or.inl ⟨by rfl, ?_⟩) ?_ ?_
          rotate_left
          · intro w'
            go_simp
            with_reducible rfl
          rotate_left
          · simp only [Act.put, List.setIfInBounds_toArray, List.set_cons_zero, List.set_cons_succ, i64_w, i32_w]
            rfl
          refine pure_ (i := 12) (N := (some 73)) (v := ?_) (a' := ?_) #[true, true, true, true, true, true, true, true, true, true, true, true, true, false, false, false, false, false] rfl rfl (any_of HT_.out (by kernel_rfl)) (fun _ _ _ h => h) (Or.inl ⟨by rfl, ?_⟩) ?_ ?_
          rotate_left
          · intro w'
            go_simp
            with_reducible rfl
          rotate_left
          · simp only [Act.put, List.setIfInBounds_toArray, List.set_cons_zero, List.set_cons_succ, i64_w, i32_w]
            rfl
          refine take_ (i := 13) (N := (some 74)) (v := .agg c2.toArray) #[true, true, true, true, true, true, true, true, true, true, true, true, true, true, false, false, false, false] rfl rfl (take_ofW HT_.out HW_.out (by kernel_rfl)) (fun _ _ _ h => h) (Or.inl ⟨by rfl, fun w' s0 => run_load34 _ _ (.tmp 73) rfl rfl (s0.2)⟩) hHeld rfl ?_
          refine norm_ (a' := ?_) ?_ ?_
          rotate_left
          · show Act.put _ (some 74) _ = _
            simp only [Act.put, List.setIfInBounds_toArray, List.set_cons_zero, List.set_cons_succ, i64_w, i32_w]
            rfl
          refine pure_ (i := 14) (N := (some 75)) (v := ?_) (a' := ?_) #[true, true, true, true, true, true, true, true, true, true, true, true, true, true, true, false, false, false] rfl rfl (any_of HT_.out (by kernel_rfl)) (fun _ _ _ h => h) (Or.inl ⟨by rfl, ?_⟩) ?_ ?_
          rotate_left
          · intro w'
            go_simp
            with_reducible rfl
          rotate_left
          · simp only [Act.put, List.setIfInBounds_toArray, List.set_cons_zero, List.set_cons_succ, i64_w, i32_w]
            rfl
          refine last_ (i := 15) (N := none) #[true, true, true, true, true, true, true, true, true, true, true, true, true, true, true, true, false, false] rfl rfl (one_of HT_.out (by kernel_rfl)) (by decide) (fun K hK => ?_)
          refine skip_ (w1 := wd.setCells blk ((⟨blk, off + k * 7, none⟩ : Addr)).off c1) (by rfl) rfl (run_store34 _ _ (.tmp 75) (.tmp 70) rfl rfl rfl rfl hs1 s1) ?_
          refine hK.out _ _ ?_
          clear hK K
          refine pure_ (i := 16) (N := (some 76)) (v := ?_) (a' := ?_) #[true, true, true, true, true, true, true, true, true, true, true, true, true, true, true, true, true, false] rfl rfl (any_of HT_.out (by kernel_rfl)) (fun _ _ _ h => h) (Or.inl ⟨by rfl, ?_⟩) ?_ ?_
          rotate_left
          · intro w'
            go_simp
            with_reducible rfl
          rotate_left
          · simp only [Act.put, List.setIfInBounds_toArray, List.set_cons_zero, List.set_cons_succ, i64_w, i32_w]
            rfl
          refine last_ (i := 17) (N := none) #[true, true, true, true, true, true, true, true, true, true, true, true, true, true, true, true, true, true] rfl rfl (one_of HT_.out (by kernel_rfl)) (by decide) (fun K hK => ?_)
          refine skip_ (w1 := (wd.setCells blk ((⟨blk, off + k * 7, none⟩ : Addr)).off c1).setCells blk ((⟨blk, off + s * 7, none⟩ : Addr)).off c2) (by rfl) rfl (run_store34 _ _ (.tmp 76) (.tmp 74) rfl rfl rfl rfl hs2 s2) ?_
          refine hK.out _ _ ?_
          clear hK K
          refine done_ (done_of HT_.out (by kernel_rfl)) ?_
          clear hHeld HT_ HW_ l1 l2 s1 s2
          have HX2 := Aside0.mk (show SWK crL 7 w0 blk off (swp e k s) ((wd.setCells blk (off + k * 7) c1).setCells blk (off + s * 7) c2) from by rw [← hwd]; exact HX.out)
          clear HX hwd hs1 hs2
          go_wp2_with fail
          obtain ⟨hk, hs, hsn, hek⟩ := HK.out
          have q4 : wrap64 ((k : Int) + 1) = (s : Int) := by rw [← hs]; exact midU k 1 (by have := HN.out; omega)
          refine ⟨⟨s, _, by rw [q4], by omega, ?_, HX2.out⟩, by rw [q4]; simp only [intOf]; omega⟩
          subst hs
          exact HI.out.step (by have := HR.out; have := HF.out.jb; omega) (by rw [HN.out.2.2.2.1]; exact HN.out.2.2.2.2.2.1)
        · have hkc : ¬ (k : Int) < (r : Int) := by omega
          obtain rfl : k = r := by omega
          go_wp2_with fail
          exact bodyPost_ret (v := .tuple #[]) (by simp [results, Try.results45, go_sem]) rfl ⟨rfl, e, HW3.out, HI.out.pm, HI.out.done HF.out HR.out HA.out HN.out.2.2.2.2.2.2.2⟩
end Go.Proofs.Ytamiglolpchplaa.Hand
