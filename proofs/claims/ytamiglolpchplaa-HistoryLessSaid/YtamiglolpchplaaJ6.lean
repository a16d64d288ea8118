/- symMerge: one element on the right. -/
import Derived.Test.YtamiglolpchplaaJ5
namespace Go.Proofs.Ytamiglolpchplaa.Hand
open Go.RowKit Go.Shelf Go.Lib Go.Sort Go.Proofs.Ytamiglolpchplaa Go.Proofs.YtamiglolpchplaaW.PrintWords Go.Proofs.YtamiglolpchplaaW.PrintLast
set_option linter.unusedVariables false
set_option linter.unusedSimpArgs false
/-- Looking for the place of d[m] in [a, m). -/
structure FiB (d : Array CallR) (a m i j : Nat) : Prop where
  mi : a ≤ i
  ij : i ≤ j
  jb : j ≤ m
  lo : ∀ t, a ≤ t → t < i → ltOf cfE d[m]! d[t]! = false
  hi : ∀ t, j ≤ t → t < m → ltOf cfE d[m]! d[t]! = true
theorem FiB.up {d : Array CallR} {a m i j h : Nat} (H : FiB d a m i j) (hs : SortedIn (ltOf cfE) a m d) (h1 : i ≤ h) (h2 : h < j) (hl : ltOf cfE d[m]! d[h]! = false) : FiB d a m (h + 1) j := by
  refine ⟨by have := H.mi; omega, by omega, H.jb, fun t p q => ?_, H.hi⟩
  by_cases e : t = h
  · subst e; exact hl
  · exact ltE_swo.ntrans _ _ _ hl (hs t h p (by omega) (by have := H.jb; omega))
theorem FiB.down {d : Array CallR} {a m i j h : Nat} (H : FiB d a m i j) (hs : SortedIn (ltOf cfE) a m d) (h1 : i ≤ h) (h2 : h < j) (hl : ltOf cfE d[m]! d[h]! = true) : FiB d a m i h := by
  refine ⟨H.mi, h1, by have := H.jb; omega, H.lo, fun t p q => ?_⟩
  by_cases e : t = h
  · subst e; exact hl
  · have h3 := hs h t (by have := H.mi; omega) (by omega) q
    cases h4 : ltOf cfE d[m]! d[t]! with
    | true => rfl
    | false => rw [ltE_swo.ntrans _ _ _ h4 h3] at hl; exact absurd hl (by decide)
structure InB (d : Array CallR) (a m b k : Nat) (e : Array CallR) : Prop where
  pm : PermIn a b d e
  lo : ∀ t, t < k → e[t]! = d[t]!
  at_ : e[k]! = d[m]!
  hi : ∀ t, k < t → t ≤ m → e[t]! = d[t - 1]!
  km : k ≤ m
theorem InB.start (d : Array CallR) (a m b : Nat) : InB d a m b m d := ⟨permIn_refl d a b, fun t p => rfl, rfl, fun t p q => by omega, Nat.le_refl _⟩
theorem InB.step {d e : Array CallR} {a m b p : Nat} (H : InB d a m b (p + 1) e) (h : a ≤ p) (hm : m + 1 = b) (hb : b ≤ d.size) : InB d a m b p (swp e (p + 1) p) := by
  have hz : e.size = d.size := H.pm.1
  have hk := H.km
  refine ⟨permIn_trans _ _ _ _ _ H.pm (swp_permIn e a b (p + 1) p (by omega) (by omega) h (by omega) (by omega)), fun t q => ?_, ?_, fun t q z => ?_, by omega⟩
  · rw [swp_other e (p + 1) p t (by omega) (by omega)]; exact H.lo t (by omega)
  · rw [swp_right e (p + 1) p (by omega)]; exact H.at_
  · by_cases e1 : t = p + 1
    · subst e1
      rw [swp_left e (p + 1) p (by omega) (by omega)]; exact H.lo _ (by omega)
    · rw [swp_other e (p + 1) p t e1 (by omega)]; exact H.hi t (by omega) z
theorem InB.done {d e : Array CallR} {a m b i : Nat} (H : InB d a m b i e) (F : FiB d a m i i) (hm : m + 1 = b) (hs : SortedIn (ltOf cfE) a m d) : SortedIn (ltOf cfE) a b e := by
  intro p q h1 h2 h3
  have hk := H.km
  by_cases c1 : q < i
  · rw [H.lo p (by omega), H.lo q c1]; exact hs _ _ h1 h2 (by omega)
  · by_cases c2 : q = i
    · subst c2
      rw [H.at_, H.lo p h2]; exact F.lo p h1 h2
    · rw [H.hi q (by omega) (by omega)]
      by_cases c3 : p < i
      · rw [H.lo p c3]; exact hs _ _ h1 (by omega) (by omega)
      · by_cases c4 : p = i
        · subst c4
          rw [H.at_]
          have := F.hi (q - 1) (by omega) (by omega)
          cases h4 : ltOf cfE d[q - 1]! d[m]! with
          | false => rfl
          | true => exact absurd (ltE_swo.trans _ _ _ this h4) (by rw [ltE_swo.irrefl]; decide)
        · rw [H.hi p (by omega) (by omega)]; exact hs _ _ (by have := F.mi; omega) (by omega) (by omega)
def TC17 : Bool × List (List Nat × List Nat) := (true, [([], []), ([], []), ([], []), ([1, 2], [1, 2]), ([3], [3]), ([], []), ([], []), ([5, 6], [5, 6]), ([7], [7]), ([0, 4, 8], [0, 4, 8]), ([9], [9]), ([10], [10])])
def BC17 : List Nat := [0, 0, 0, 6, 14, 0, 0, 96, 224, 511, 1023, 2047]
theorem tabC17 : rtab .any (opsOf Try.f45 17) = TC17 := by kernel_rfl
theorem bitsC17 : waitsOk TC17.2 BC17 = true := by kernel_rfl
def TC23 : Bool × List (List Nat × List Nat) := (true, [([], []), ([], []), ([], []), ([], []), ([3], [3]), ([], []), ([], []), ([6], [6]), ([5, 7], [5, 7]), ([8], [8]), ([], []), ([], []), ([10, 11], [10, 11]), ([12], [12]), ([0, 1, 0, 1, 5, 6, 7, 8, 9, 13], [0, 1]), ([14, 9, 0, 1, 5, 6, 7, 8, 9, 13], [9, 14]), ([2, 4, 0, 1, 2, 3, 4, 5, 6, 7, 8, 9, 10, 11, 12, 13, 14, 15], [2, 4]), ([16, 13, 15, 0, 1, 2, 3, 4, 5, 6, 7, 8, 9, 10, 11, 12, 13, 14, 15], [13, 16])])
def BC23 : List Nat := [0, 0, 0, 0, 8, 0, 0, 64, 224, 480, 0, 0, 3072, 7168, 16355, 32739, 65535, 131071]
theorem tabC23 : rtab .any (opsOf Try.f45 23) = TC23 := by kernel_rfl
theorem bitsC23 : waitsOk TC23.2 BC23 = true := by kernel_rfl
set_option maxHeartbeats 4000000 in
set_option maxRecDepth 1000000 in
theorem merge_r (blk off cap a m b n : Nat) (d0 d : Array CallR) (w0 w : World) (hH : HoldsK crL 7 w0 blk off d0) (hs : SWK crL 7 w0 blk off d w) (hblk : blk < w0.heap.size) (h0 : d0.size = n) (hn : d.size = n) (ham : a + 2 ≤ m) (hmb : m + 1 = b) (hb : b ≤ n) (hsz : n < 2305843009213693952)
    (hso : SortedIn (ltOf cfE) a m d) :
    Calls Try.prog 45 #[.slice (some ⟨blk, off, none⟩) n cap, .int .i64 a, .int .i64 m, .int .i64 b, .func (.func 25) #[] #[]] w fun e' w' => e' = .returned (.tuple #[]) ∧ ∃ e1, SWK crL 7 w0 blk off e1 w' ∧ PermIn a b d e1 ∧ SortedIn (ltOf cfE) a b e1 := by
  have HN := Aside0.mk (And.intro hH (And.intro hblk (And.intro h0 (And.intro hn (And.intro hmb (And.intro hb (And.intro hsz hso)))))))
  have HS := Aside0.mk hs
  have HA := Aside0.mk ham
  obtain ⟨r1, hr1⟩ : ∃ r1, r1 + a = m := ⟨m - a, by omega⟩
  have q1 : wrap64 ((m : Int) - (a : Int)) = (r1 : Int) := wsub hr1 (by omega)
  have q2 : wrap64 ((b : Int) - (m : Int)) = ((1 : Nat) : Int) := wsub (by omega) (by omega)
  have hne : ((r1 : Int) == 1) = false := beq_eq_false_iff_ne.2 (by omega)
  clear hH hs hblk h0 hn hmb hb hsz hso ham hr1
  go_enter Try.func45, Try.ntmps45
  go_wp2_with fail
  go_loopw [14, 15] (fun vi vj wr => ∃ (i j : Nat), vi = .int .i64 (i : Int) ∧ vj = .int .i64 (j : Int) ∧ FiB d a m i j ∧ SWK crL 7 w0 blk off d wr) (fun vi vj _ => (intOf vj).toNat - (intOf vi).toNat)
  case atStart => exact ⟨a, m, rfl, rfl, ⟨Nat.le_refl _, by have := HA.out; omega, Nat.le_refl _, fun t p q => by omega, fun t p q => by omega⟩, HS.out⟩
  case round =>
    obtain ⟨i, j, rfl, rfl, hfi, hsw⟩ := hrel
    have HF := Aside0.mk hfi
    have HW := Aside0.mk hsw
    have hj : j ≤ m := hfi.jb
    clear hfi hsw q1 q2 hne
    by_cases hij : i < j
    · have hc : (i : Int) < (j : Int) := by omega
      have hbn : m ≤ n := by have := HN.out; omega
      have hsn : n < 2305843009213693952 := HN.out.2.2.2.2.2.2.1
      obtain ⟨h, hh⟩ : ∃ h, h = (i + j) / 2 := ⟨_, rfl⟩
      have e3 : ((i : Int) + (j : Int)) / 2 = (h : Int) := by omega
      have HI := Aside0.mk (show i ≤ h ∧ h < j from ⟨by omega, by omega⟩)
      have z1 : (h : Int) < (n : Int) := by omega
      have z2 : (m : Int) < (n : Int) := by have := HA.out; have := HN.out; omega
      have L1 := Aside0.mk (fun w' (s : SWK crL 7 w0 blk off d w') => ldSWK HN.out.1 HN.out.2.1 (HN.out.2.2.2.1.trans HN.out.2.2.1.symm) h (by rw [HN.out.2.2.2.1]; omega) s)
      have L2 := Aside0.mk (fun w' (s : SWK crL 7 w0 blk off d w') => ldSWK HN.out.1 HN.out.2.1 (HN.out.2.2.2.1.trans HN.out.2.2.1.symm) m (by rw [HN.out.2.2.2.1]; omega) s)
      obtain ⟨x1, hx1⟩ : ∃ x, d[h]! = x := ⟨_, rfl⟩
      obtain ⟨x2, hx2⟩ : ∃ x, d[m]! = x := ⟨_, rfl⟩
      rw [hx1] at L1
      rw [hx2] at L2
      have X1 := Aside0.mk hx1
      have X2 := Aside0.mk hx2
      clear hx1 hx2 hh
      go_wp2_with fail
      clear e3 hj hij hsn hbn
      refine start_ (n := 12) (S := fun w' => SWK crL 7 w0 blk off d w') (ds := []) #[false, false, false, false, false, false, false, false, false, false, false, false] (by kernel_rfl) rfl rfl (SWK.drewN HW.out 1) (fun hHeld => ?_); refine with_tabW tabC17 bitsC17 (fun HT_ HW_ => ?_)
      refine pure_ (i := 0) (N := (some 92)) (v := ?_) (a' := ?_) #[true, false, false, false, false, false, false, false, false, false, false, false] rfl rfl (any_of HT_.out (by kernel_rfl)) (fun _ _ _ h => h) (Or.inl ⟨by rfl, ?_⟩) ?_ ?_
      rotate_left
      · intro w'
        go_simp
        with_reducible rfl
      rotate_left
      · simp only [Act.put, List.setIfInBounds_toArray, List.set_cons_zero, List.set_cons_succ, i64_w, i32_w]
        rfl
      refine pure_ (i := 1) (N := (some 93)) (v := ?_) (a' := ?_) #[true, true, false, false, false, false, false, false, false, false, false, false] rfl rfl (any_of HT_.out (by kernel_rfl)) (fun _ _ _ h => h) (Or.inl ⟨by rfl, ?_⟩) ?_ ?_
      rotate_left
      · intro w'
        go_simp
        with_reducible rfl
      rotate_left
      · simp only [Act.put, List.setIfInBounds_toArray, List.set_cons_zero, List.set_cons_succ, i64_w, i32_w]
        rfl
      refine pure_ (i := 2) (N := (some 94)) (v := ?_) (a' := ?_) #[true, true, true, false, false, false, false, false, false, false, false, false] rfl rfl (any_of HT_.out (by kernel_rfl)) (fun _ _ _ h => h) (Or.inl ⟨by rfl, ?_⟩) ?_ ?_
      rotate_left
      · intro w'
        go_simp
        with_reducible rfl
      rotate_left
      · simp only [Act.put, List.setIfInBounds_toArray, List.set_cons_zero, List.set_cons_succ, i64_w, i32_w]
        rfl
      refine pure_ (i := 3) (N := (some 95)) (v := ?_) (a' := ?_) #[true, true, true, true, false, false, false, false, false, false, false, false] rfl rfl (any_of HT_.out (by kernel_rfl)) (fun _ _ _ h => h) (Or.inl ⟨by rfl, ?_⟩) ?_ ?_
      rotate_left
      · intro w'
        go_simp
        with_reducible rfl
      rotate_left
      · simp only [Act.put, List.setIfInBounds_toArray, List.set_cons_zero, List.set_cons_succ, i64_w, i32_w]
        rfl
      refine take_ (i := 4) (N := (some 96)) (v := .agg (crL x2).toArray) #[true, true, true, true, true, false, false, false, false, false, false, false] rfl rfl (take_ofW HT_.out HW_.out (by kernel_rfl)) (fun _ _ _ h => h) (Or.inl ⟨by rfl, fun w' s0 => run_load34 _ _ (.tmp 95) rfl rfl (L2.out _ s0)⟩) hHeld rfl ?_
      refine norm_ (a' := ?_) ?_ ?_
      rotate_left
      · show Act.put _ (some 96) _ = _
        simp only [Act.put, List.setIfInBounds_toArray, List.set_cons_zero, List.set_cons_succ, i64_w, i32_w]
        rfl
      refine pure_ (i := 5) (N := (some 97)) (v := ?_) (a' := ?_) #[true, true, true, true, true, true, false, false, false, false, false, false] rfl rfl (any_of HT_.out (by kernel_rfl)) (fun _ _ _ h => h) (Or.inl ⟨by rfl, ?_⟩) ?_ ?_
      rotate_left
      · intro w'
        go_simp
        with_reducible rfl
      rotate_left
      · simp only [Act.put, List.setIfInBounds_toArray, List.set_cons_zero, List.set_cons_succ, i64_w, i32_w]
        rfl
      refine pure_ (i := 6) (N := (some 98)) (v := ?_) (a' := ?_) #[true, true, true, true, true, true, true, false, false, false, false, false] rfl rfl (any_of HT_.out (by kernel_rfl)) (fun _ _ _ h => h) (Or.inl ⟨by rfl, ?_⟩) ?_ ?_
      rotate_left
      · intro w'
        go_simp
        with_reducible rfl
      rotate_left
      · simp only [Act.put, List.setIfInBounds_toArray, List.set_cons_zero, List.set_cons_succ, i64_w, i32_w]
        rfl
      refine pure_ (i := 7) (N := (some 99)) (v := ?_) (a' := ?_) #[true, true, true, true, true, true, true, true, false, false, false, false] rfl rfl (any_of HT_.out (by kernel_rfl)) (fun _ _ _ h => h) (Or.inl ⟨by rfl, ?_⟩) ?_ ?_
      rotate_left
      · intro w'
        go_simp
        with_reducible rfl
      rotate_left
      · simp only [Act.put, List.setIfInBounds_toArray, List.set_cons_zero, List.set_cons_succ, i64_w, i32_w]
        rfl
      refine take_ (i := 8) (N := (some 100)) (v := .agg (crL x1).toArray) #[true, true, true, true, true, true, true, true, true, false, false, false] rfl rfl (take_ofW HT_.out HW_.out (by kernel_rfl)) (fun _ _ _ h => h) (Or.inl ⟨by rfl, fun w' s0 => run_load34 _ _ (.tmp 99) rfl rfl (L1.out _ s0)⟩) hHeld rfl ?_
      refine norm_ (a' := ?_) ?_ ?_
      rotate_left
      · show Act.put _ (some 100) _ = _
        simp only [Act.put, List.setIfInBounds_toArray, List.set_cons_zero, List.set_cons_succ, i64_w, i32_w]
        rfl
      refine one_ (i := 9) (N := (some 101)) #[true, true, true, true, true, true, true, true, true, true, false, false] rfl rfl (one_of HT_.out (by kernel_rfl)) (by decide) (fun K hK => ?_)
      refine goesv_ Try.func25 (by kernel_rfl) rfl #[.agg (crL x2).toArray, .agg (crL x1).toArray] (by rfl) rfl ⟨_, _, rfl, rfl, by (simp only [Array.empty_append, List.map_toArray, List.map_cons, List.map_nil]; first | done | rfl)⟩ ?_
      refine (cmp_c x2 x1 _).mono ?_
      rintro e' w2 ⟨rfl, os, rfl⟩
      refine ⟨_, rfl, ?_⟩
      refine hK.out _ _ (swk_grown hHeld os) (fun hHeld => ?_)
      clear hK K
      refine norm_ (a' := ?_) ?_ ?_
      rotate_left
      · show Act.put _ (some 101) _ = _
        simp only [Act.put, List.setIfInBounds_toArray, List.set_cons_zero, List.set_cons_succ, i64_w, i32_w]
        rfl
      refine pure_ (i := 10) (N := (some 102)) (v := ?_) (a' := ?_) #[true, true, true, true, true, true, true, true, true, true, true, false] rfl rfl (any_of HT_.out (by kernel_rfl)) (fun _ _ _ h => h) (Or.inl ⟨by rfl, ?_⟩) ?_ ?_
      rotate_left
      · intro w'
        go_simp
        with_reducible rfl
      rotate_left
      · simp only [Act.put, List.setIfInBounds_toArray, List.set_cons_zero, List.set_cons_succ, i64_w, i32_w]
        rfl
      refine pure_ (i := 11) (N := (some 103)) (v := ?_) (a' := ?_) #[true, true, true, true, true, true, true, true, true, true, true, true] rfl rfl (any_of HT_.out (by kernel_rfl)) (fun _ _ _ h => h) (Or.inl ⟨by rfl, ?_⟩) ?_ ?_
      rotate_left
      · intro w'
        go_simp
        with_reducible rfl
      rotate_left
      · simp only [Act.put, List.setIfInBounds_toArray, List.set_cons_zero, List.set_cons_succ, i64_w, i32_w]
        rfl
      refine done_ (done_of HT_.out (by kernel_rfl)) ?_
      have HW2 := Aside0.mk hHeld
      clear hHeld HT_ HW_ L1 L2
      by_cases hl : cfE x2 x1 < 0
      · have HL := Aside0.mk (show ltOf cfE d[m]! d[h]! = true from by rw [X1.out, X2.out]; exact decide_eq_true hl)
        have hd : decide (cfE x2 x1 < 0) = true := decide_eq_true hl
        rw [hd]
        go_wp2_with fail
        exact ⟨⟨i, h, rfl, rfl, HF.out.down HN.out.2.2.2.2.2.2.2 HI.out.1 HI.out.2 HL.out, HW2.out⟩, by have := HI.out; simp only [intOf]; omega⟩
      · have HL := Aside0.mk (show ltOf cfE d[m]! d[h]! = false from by rw [X1.out, X2.out]; exact decide_eq_false hl)
        have hd : decide (cfE x2 x1 < 0) = false := decide_eq_false hl
        rw [hd]
        go_wp2_with fail
        have q5 : wrap64 ((h : Int) + 1) = ((h + 1 : Nat) : Int) := midU h 1 (by have := HI.out; have := HF.out.jb; have := HN.out; omega)
        exact ⟨⟨h + 1, j, by rw [q5], rfl, HF.out.up HN.out.2.2.2.2.2.2.2 HI.out.1 HI.out.2 HL.out, HW2.out⟩, by rw [q5]; have := HI.out; simp only [intOf]; omega⟩
    · have hc : ¬ (i : Int) < (j : Int) := by omega
      obtain rfl : i = j := by have := HF.out.ij; omega
      clear hij hj
      go_wp2_with fail
      go_loopw [17] (fun vk w2 => ∃ (k : Nat) (e : Array CallR), vk = .int .i64 (k : Int) ∧ i ≤ k ∧ InB d a m b k e ∧ SWK crL 7 w0 blk off e w2) (fun vk _ => (intOf vk).toNat)
      case atStart => exact ⟨m, d, rfl, HF.out.jb, InB.start d a m b, HW.out⟩
      case round =>
        obtain ⟨k, e, rfl, hkr, hin, hsw⟩ := hrel
        have HI := Aside0.mk hin
        have HW3 := Aside0.mk hsw
        clear hin hsw
        by_cases hk : i < k
        · have hkc : (i : Int) < (k : Int) := by omega
          obtain ⟨p, hp⟩ : ∃ p, p + 1 = k := ⟨k - 1, by omega⟩
          have hkn : k < n := by have := HI.out.km; have := HN.out; omega
          have hek : e.size = n := HI.out.pm.1.trans HN.out.2.2.2.1
          obtain ⟨c1, c2, l1, l2, s1, s2, hs1, hs2, HSW⟩ := swFacts HN.out.1 HN.out.2.1 (hek.trans HN.out.2.2.1.symm) HW3.out k p (by omega) (by omega)
          have HX := Aside0.mk HSW
          have HK := Aside0.mk (show i < k ∧ p + 1 = k ∧ k < n ∧ e.size = n from ⟨hk, hp, hkn, hek⟩)
          have z1 : (p : Int) < (n : Int) := by omega
          have z2 : (k : Int) < (n : Int) := by omega
          have q1 : wrap64 ((k : Int) - 1) = (p : Int) := wsub (b := 1) hp (by have := HN.out; omega)
          clear HSW hk hp hkn hek hkr
          go_wp2_with fail
          refine start_ (n := 18) (S := fun w' => Sem.run Try.prog (loadCellsFrom (⟨blk, off + p * 7, none⟩ : Addr) 0 7 #[]) w' = .ok c1.toArray w' ∧ Sem.run Try.prog (loadCellsFrom (⟨blk, off + k * 7, none⟩ : Addr) 0 7 #[]) w' = .ok c2.toArray w') (ds := [15, 17]) #[false, false, false, false, false, false, false, false, false, false, false, false, false, false, false, false, false, false] (by kernel_rfl) rfl rfl ⟨l1, l2⟩ (fun hHeld => ?_); refine with_tabW tabC23 bitsC23 (fun HT_ HW_ => ?_)
          generalize hwd : wr.drew = wd at l1 l2 s1 s2 hHeld ⊢
          refine pure_ (i := 0) (N := (some 113)) (v := ?_) (a' := ?_) #[true, false, false, false, false, false, false, false, false, false, false, false, false, false, false, false, false, false] rfl rfl (any_of HT_.out (by kernel_rfl)) (fun _ _ _ h => h) (Or.inl ⟨by rfl, ?_⟩) ?_ ?_
          rotate_left
          · intro w'
            go_simp
            with_reducible rfl
          rotate_left
          · simp only [Act.put, List.setIfInBounds_toArray, List.set_cons_zero, List.set_cons_succ, i64_w, i32_w]
            rfl
          refine pure_ (i := 1) (N := (some 114)) (v := ?_) (a' := ?_) #[true, true, false, false, false, false, false, false, false, false, false, false, false, false, false, false, false, false] rfl rfl (any_of HT_.out (by kernel_rfl)) (fun _ _ _ h => h) (Or.inl ⟨by rfl, ?_⟩) ?_ ?_
          rotate_left
          · intro w'
            go_simp
            with_reducible rfl
          rotate_left
          · simp only [Act.put, List.setIfInBounds_toArray, List.set_cons_zero, List.set_cons_succ, i64_w, i32_w]
            rfl
          refine pure_ (i := 2) (N := (some 115)) (v := ?_) (a' := ?_) #[true, true, true, false, false, false, false, false, false, false, false, false, false, false, false, false, false, false] rfl rfl (any_of HT_.out (by kernel_rfl)) (fun _ _ _ h => h) (Or.inl ⟨by rfl, ?_⟩) ?_ ?_
          rotate_left
          · intro w'
            go_simp
            with_reducible rfl
          rotate_left
          · simp only [Act.put, List.setIfInBounds_toArray, List.set_cons_zero, List.set_cons_succ, i64_w, i32_w]
            rfl
          refine pure_ (i := 3) (N := (some 116)) (v := ?_) (a' := ?_) #[true, true, true, true, false, false, false, false, false, false, false, false, false, false, false, false, false, false] rfl rfl (any_of HT_.out (by kernel_rfl)) (fun _ _ _ h => h) (Or.inl ⟨by rfl, ?_⟩) ?_ ?_
          rotate_left
          · intro w'
            go_simp
            with_reducible rfl
          rotate_left
          · simp only [Act.put, List.setIfInBounds_toArray, List.set_cons_zero, List.set_cons_succ, i64_w, i32_w]
            rfl
          refine pure_ (i := 4) (N := (some 117)) (v := ?_) (a' := ?_) #[true, true, true, true, true, false, false, false, false, false, false, false, false, false, false, false, false, false] rfl rfl (any_of HT_.out (by kernel_rfl)) (fun _ _ _ h => h) (Or.inl ⟨by rfl, ?_⟩) ?_ ?_
          rotate_left
          · intro w'
            go_simp
            with_reducible rfl
          rotate_left
          · simp only [Act.put, List.setIfInBounds_toArray, List.set_cons_zero, List.set_cons_succ, i64_w, i32_w]
            rfl
          refine pure_ (i := 5) (N := (some 118)) (v := ?_) (a' := ?_) #[true, true, true, true, true, true, false, false, false, false, false, false, false, false, false, false, false, false] rfl rfl (any_of HT_.out (by kernel_rfl)) (fun _ _ _ h => h) (Or.inl ⟨by rfl, ?_⟩) ?_ ?_
          rotate_left
          · intro w'
            go_simp
            with_reducible rfl
          rotate_left
          · simp only [Act.put, List.setIfInBounds_toArray, List.set_cons_zero, List.set_cons_succ, i64_w, i32_w]
            rfl
          refine pure_ (i := 6) (N := (some 119)) (v := ?_) (a' := ?_) #[true, true, true, true, true, true, true, false, false, false, false, false, false, false, false, false, false, false] rfl rfl (any_of HT_.out (by kernel_rfl)) (fun _ _ _ h => h) (Or.inl ⟨by rfl, ?_⟩) ?_ ?_
          rotate_left
          · intro w'
            go_simp
            with_reducible rfl
          rotate_left
          · simp only [Act.put, List.setIfInBounds_toArray, List.set_cons_zero, List.set_cons_succ, i64_w, i32_w]
            rfl
          refine pure_ (i := 7) (N := (some 120)) (v := ?_) (a' := ?_) #[true, true, true, true, true, true, true, true, false, false, false, false, false, false, false, false, false, false] rfl rfl (any_of HT_.out (by kernel_rfl)) (fun _ _ _ h => h) (Or.inl ⟨by rfl, ?_⟩) ?_ ?_
          rotate_left
          · intro w'
            go_simp
            with_reducible rfl
          rotate_left
          · simp only [Act.put, List.setIfInBounds_toArray, List.set_cons_zero, List.set_cons_succ, i64_w, i32_w]
            rfl
          refine pure_ (i := 8) (N := (some 121)) (v := ?_) (a' := ?_) #[true, true, true, true, true, true, true, true, true, false, false, false, false, false, false, false, false, false] rfl rfl (any_of HT_.out (by kernel_rfl)) (fun _ _ _ h => h) (Or.inl ⟨by rfl, ?_⟩) ?_ ?_
          rotate_left
          · intro w'
            go_simp
            with_reducible rfl
          rotate_left
          · simp only [Act.put, List.setIfInBounds_toArray, List.set_cons_zero, List.set_cons_succ, i64_w, i32_w]
            rfl
          refine take_ (i := 9) (N := (some 122)) (v := .agg c1.toArray) #[true, true, true, true, true, true, true, true, true, true, false, false, false, false, false, false, false, false] rfl rfl (take_ofW HT_.out HW_.out (by kernel_rfl)) (fun _ _ _ h => h) (Or.inl ⟨by rfl, fun w' s0 => run_load34 _ _ (.tmp 121) rfl rfl (s0.1)⟩) hHeld rfl ?_
          refine norm_ (a' := ?_) ?_ ?_
          rotate_left
          · show Act.put _ (some 122) _ = _
            simp only [Act.put, List.setIfInBounds_toArray, List.set_cons_zero, List.set_cons_succ, i64_w, i32_w]
            rfl
          refine pure_ (i := 10) (N := (some 123)) (v := ?_) (a' := ?_) #[true, true, true, true, true, true, true, true, true, true, true, false, false, false, false, false, false, false] rfl rfl (any_of HT_.out (by kernel_rfl)) (fun _ _ _ h => h) (Or.inl ⟨by rfl, ?_⟩) ?_ ?_
          rotate_left
          · intro w'
            go_simp
            with_reducible rfl
          rotate_left
          · simp only [Act.put, List.setIfInBounds_toArray, List.set_cons_zero, List.set_cons_succ, i64_w, i32_w]
            rfl
          refine pure_ (i := 11) (N := (some 124)) (v := ?_) (a' := ?_) #[true, true, true, true, true, true, true, true, true, true, true, true, false, false, false, false, false, false] rfl rfl (any_of HT_.out (by kernel_rfl)) (fun _ _ _ h => h) (Or.inl ⟨by rfl, ?_⟩) ?_ ?_
          rotate_left
          · intro w'
            go_simp
            with_reducible rfl
          rotate_left
          · simp only [Act.put, List.setIfInBounds_toArray, List.set_cons_zero, List.set_cons_succ, i64_w, i32_w]
            rfl
          refine pure_ (i := 12) (N := (some 125)) (v := ?_) (a' := ?_) #[true, true, true, true, true, true, true, true, true, true, true, true, true, false, false, false, false, false] rfl rfl (any_of HT_.out (by kernel_rfl)) (fun _ _ _ h => h) (Or.inl ⟨by rfl, ?_⟩) ?_ ?_
          rotate_left
          · intro w'
            go_simp
            with_reducible rfl
          rotate_left
          · simp only [Act.put, List.setIfInBounds_toArray, List.set_cons_zero, List.set_cons_succ, i64_w, i32_w]
            rfl
          refine take_ (i := 13) (N := (some 126)) (v := .agg c2.toArray) #[true, true, true, true, true, true, true, true, true, true, true, true, true, true, false, false, false, false] rfl rfl (take_ofW HT_.out HW_.out (by kernel_rfl)) (fun _ _ _ h => h) (Or.inl ⟨by rfl, fun w' s0 => run_load34 _ _ (.tmp 125) rfl rfl (s0.2)⟩) hHeld rfl ?_
          refine norm_ (a' := ?_) ?_ ?_
          rotate_left
          · show Act.put _ (some 126) _ = _
            simp only [Act.put, List.setIfInBounds_toArray, List.set_cons_zero, List.set_cons_succ, i64_w, i32_w]
            rfl
          refine pure_ (i := 14) (N := (some 127)) (v := ?_) (a' := ?_) #[true, true, true, true, true, true, true, true, true, true, true, true, true, true, true, false, false, false] rfl rfl (any_of HT_.out (by kernel_rfl)) (fun _ _ _ h => h) (Or.inl ⟨by rfl, ?_⟩) ?_ ?_
          rotate_left
          · intro w'
            go_simp
            with_reducible rfl
          rotate_left
          · simp only [Act.put, List.setIfInBounds_toArray, List.set_cons_zero, List.set_cons_succ, i64_w, i32_w]
            rfl
          refine last_ (i := 15) (N := none) #[true, true, true, true, true, true, true, true, true, true, true, true, true, true, true, true, false, false] rfl rfl (one_of HT_.out (by kernel_rfl)) (by decide) (fun K hK => ?_)
          refine skip_ (w1 := wd.setCells blk ((⟨blk, off + k * 7, none⟩ : Addr)).off c1) (by rfl) rfl (run_store34 _ _ (.tmp 127) (.tmp 122) rfl rfl rfl rfl hs1 s1) ?_
          refine hK.out _ _ ?_
          clear hK K
          refine pure_ (i := 16) (N := (some 128)) (v := ?_) (a' := ?_) #[true, true, true, true, true, true, true, true, true, true, true, true, true, true, true, true, true, false] rfl rfl (any_of HT_.out (by kernel_rfl)) (fun _ _ _ h => h) (Or.inl ⟨by rfl, ?_⟩) ?_ ?_
          rotate_left
          · intro w'
            go_simp
            with_reducible rfl
          rotate_left
          · simp only [Act.put, List.setIfInBounds_toArray, List.set_cons_zero, List.set_cons_succ, i64_w, i32_w]
            rfl
          refine last_ (i := 17) (N := none) #[true, true, true, true, true, true, true, true, true, true, true, true, true, true, true, true, true, true] rfl rfl (one_of HT_.out (by kernel_rfl)) (by decide) (fun K hK => ?_)
          refine skip_ (w1 := (wd.setCells blk ((⟨blk, off + k * 7, none⟩ : Addr)).off c1).setCells blk ((⟨blk, off + p * 7, none⟩ : Addr)).off c2) (by rfl) rfl (run_store34 _ _ (.tmp 128) (.tmp 126) rfl rfl rfl rfl hs2 s2) ?_
          refine hK.out _ _ ?_
          clear hK K
          refine done_ (done_of HT_.out (by kernel_rfl)) ?_
          clear hHeld HT_ HW_ l1 l2 s1 s2
          have HX2 := Aside0.mk (show SWK crL 7 w0 blk off (swp e k p) ((wd.setCells blk (off + k * 7) c1).setCells blk (off + p * 7) c2) from by rw [← hwd]; exact HX.out)
          clear HX hwd hs1 hs2
          go_wp2_with fail
          obtain ⟨hk, hs, hsn, hek⟩ := HK.out
          have q4 : wrap64 ((k : Int) - 1) = (p : Int) := wsub (b := 1) hs (by have := HN.out; omega)
          refine ⟨⟨p, _, by rw [q4], by omega, ?_, HX2.out⟩, by rw [q4]; simp only [intOf]; omega⟩
          subst hs
          exact HI.out.step (by have := HF.out.mi; omega) HN.out.2.2.2.2.1 (by rw [HN.out.2.2.2.1]; exact HN.out.2.2.2.2.2.1)
        · have hkc : ¬ (i : Int) < (k : Int) := by omega
          obtain rfl : i = k := by omega
          go_wp2_with fail
          exact bodyPost_ret (v := .tuple #[]) (by simp [results, Try.results45, go_sem]) rfl ⟨rfl, e, HW3.out, HI.out.pm, HI.out.done HF.out HN.out.2.2.2.2.1 HN.out.2.2.2.2.2.2.2⟩
end Go.Proofs.Ytamiglolpchplaa.Hand
