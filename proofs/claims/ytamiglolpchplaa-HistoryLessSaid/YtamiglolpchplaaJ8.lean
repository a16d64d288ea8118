/- symMerge: the walk of the general case. -/
import Derived.Test.YtamiglolpchplaaJ7
namespace Go.Proofs.Ytamiglolpchplaa.Hand
open Go.RowKit Go.Shelf Go.Lib Go.Sort Go.Proofs.Ytamiglolpchplaa Go.Proofs.YtamiglolpchplaaW.PrintWords Go.Proofs.YtamiglolpchplaaW.PrintLast
set_option linter.unusedVariables false
set_option linter.unusedSimpArgs false
theorem FiM.up {d : Array CallR} {nn s0 r0 s r h u : Nat} (H : FiM d nn s0 r0 s r) (h1 : s ≤ h) (h2 : h < r) (hu : u + h + 1 = nn) (hl : ltOf cfE d[u]! d[h]! = false) : FiM d nn s0 r0 (h + 1) r := by
  refine ⟨by have := H.s0s; omega, by omega, H.rr0, .inr ?_, H.hi⟩
  have e1 : nn - (h + 1) = u := by omega
  rw [e1]; exact hl
theorem FiM.down {d : Array CallR} {nn s0 r0 s r h u : Nat} (H : FiM d nn s0 r0 s r) (h1 : s ≤ h) (h2 : h < r) (hu : u + h + 1 = nn) (hl : ltOf cfE d[u]! d[h]! = true) : FiM d nn s0 r0 s h := by
  refine ⟨H.s0s, h1, by have := H.rr0; omega, H.lo, .inr ?_⟩
  have e1 : nn - 1 - h = u := by omega
  rw [e1]; exact hl
def TC35 : Bool × List (List Nat × List Nat) := (true, [([], []), ([], []), ([], []), ([], []), ([2, 3], [2, 3]), ([1, 4], [1, 4]), ([5], [5]), ([], []), ([], []), ([7, 8], [7, 8]), ([9], [9]), ([0, 6, 10], [0, 6, 10]), ([11], [11]), ([12], [12])])
def BC35 : List Nat := [0, 0, 0, 0, 12, 30, 62, 0, 0, 384, 896, 2047, 4095, 8191]
theorem tabC35 : rtab .any (opsOf Try.f45 35) = TC35 := by kernel_rfl
theorem bitsC35 : waitsOk TC35.2 BC35 = true := by kernel_rfl
set_option maxHeartbeats 40000000 in
set_option maxRecDepth 1000000 in
theorem merge_m (blk off cap a m b n : Nat) (d0 d : Array CallR) (w0 w : World) (hH : HoldsK crL 7 w0 blk off d0) (hs : SWK crL 7 w0 blk off d w) (hblk : blk < w0.heap.size) (h0 : d0.size = n) (hn : d.size = n) (ham : a + 2 ≤ m) (hmb : m + 2 ≤ b) (hb : b ≤ n) (hsz : n < 2305843009213693952)
    (h1 : SortedIn (ltOf cfE) a m d) (h2 : SortedIn (ltOf cfE) m b d)
    (IH : ∀ (a' m' b' : Nat) (d' : Array CallR) (w' : World), b' - a' < b - a → a' < m' → m' < b' → b' ≤ n → d'.size = n → SWK crL 7 w0 blk off d' w' → SortedIn (ltOf cfE) a' m' d' → SortedIn (ltOf cfE) m' b' d' →
      Calls Try.prog 45 #[.slice (some ⟨blk, off, none⟩) n cap, .int .i64 (a' : Int), .int .i64 (m' : Int), .int .i64 (b' : Int), .func (.func 25) #[] #[]] w' fun e' w2 => e' = .returned (.tuple #[]) ∧ ∃ e1, SWK crL 7 w0 blk off e1 w2 ∧ PermIn a' b' d' e1 ∧ SortedIn (ltOf cfE) a' b' e1) :
    Calls Try.prog 45 #[.slice (some ⟨blk, off, none⟩) n cap, .int .i64 a, .int .i64 m, .int .i64 b, .func (.func 25) #[] #[]] w fun e' w' => e' = .returned (.tuple #[]) ∧ ∃ e1, SWK crL 7 w0 blk off e1 w' ∧ PermIn a b d e1 ∧ SortedIn (ltOf cfE) a b e1 := by
  have HN := Aside0.mk (And.intro hH (And.intro hblk (And.intro h0 (And.intro hn (And.intro ham (And.intro hmb (And.intro hb (And.intro hsz (And.intro h1 h2)))))))))
  have HS := Aside0.mk hs
  have HIH := Aside0.mk IH
  obtain ⟨r1, hr1⟩ : ∃ r1, r1 + a = m := ⟨m - a, by omega⟩
  obtain ⟨r2, hr2⟩ : ∃ r2, r2 + m = b := ⟨b - m, by omega⟩
  obtain ⟨mid, hmid⟩ : ∃ mid, mid = (a + b) / 2 := ⟨_, rfl⟩
  obtain ⟨nn, hnn⟩ : ∃ nn, mid + m = nn := ⟨_, rfl⟩
  obtain ⟨pp, hpp⟩ : ∃ pp, pp + 1 = nn := ⟨nn - 1, by omega⟩
  have Aq1 := Aside0.mk (show wrap64 ((m : Int) - (a : Int)) = (r1 : Int) from wsub hr1 (by omega))
  have Aq2 := Aside0.mk (show wrap64 ((b : Int) - (m : Int)) = (r2 : Int) from wsub hr2 (by omega))
  have hne1 : ((r1 : Int) == 1) = false := beq_eq_false_iff_ne.2 (by omega)
  have hne2 : ((r2 : Int) == 1) = false := beq_eq_false_iff_ne.2 (by omega)
  have e3 : ((a : Int) + (b : Int)) / 2 = (mid : Int) := by omega
  have Aq3 := Aside0.mk (show wrap64 ((mid : Int) + (m : Int)) = (nn : Int) from by rw [← hnn]; exact midU mid m (by omega))
  have Aq5 := Aside0.mk (show wrap64 ((nn : Int) - 1) = (pp : Int) from wsub (b := 1) hpp (by omega))
  have hab : a ≤ b := by omega
  by_cases hc0 : mid < m
  · have hc1 : (mid : Int) < (m : Int) := by omega
    obtain ⟨s0, hs0⟩ : ∃ s0, s0 + b = nn := ⟨nn - b, by omega⟩
    have Aq6 := Aside0.mk (show wrap64 ((nn : Int) - (b : Int)) = (s0 : Int) from wsub hs0 (by omega))
    obtain ⟨r0, hr0⟩ : ∃ r0, r0 = mid := ⟨_, rfl⟩
    have MWW := Aside0.mk (show MW a m b mid nn s0 r0 from ⟨hnn, by omega, by omega, by omega, by omega, by omega, by omega, by omega, by omega, by omega⟩)
    have HPP := Aside0.mk hpp
    have HR0 := Aside0.mk hr0
    clear hH hs hblk h0 hn ham hmb h1 h2 IH hr1 hr2 hmid hnn hpp hr0 hs0 hc0
    have q1 := Aq1.out
    have q2 := Aq2.out
    have q3 := Aq3.out
    have q5 := Aq5.out
    have q6 := Aq6.out
    go_enter Try.func45, Try.ntmps45
    go_wp2_with fail
    go_loopw [20, 21] (fun vi vj wr => ∃ (s r : Nat), vi = .int .i64 (s : Int) ∧ vj = .int .i64 (r : Int) ∧ FiM d nn s0 r0 s r ∧ SWK crL 7 w0 blk off d wr) (fun vi vj _ => (intOf vj).toNat - (intOf vi).toNat)
    case atStart => exact ⟨s0, mid, by (first | rfl | rw [q6]), rfl, ⟨Nat.le_refl _, by rw [← HR0.out]; exact MWW.out.sr, by rw [HR0.out]; exact Nat.le_refl _, .inl rfl, .inl HR0.out.symm⟩, HS.out⟩
    case round =>
      obtain ⟨s, r, rfl, rfl, hfi, hsw⟩ := hrel
      have HF := Aside0.mk hfi
      have HW := Aside0.mk hsw
      clear hfi hsw q1 q2 q3 q5 q6 hne1 hne2 e3 hab hb hsz
      by_cases hij : s < r
      · have hc : (s : Int) < (r : Int) := by omega
        obtain ⟨h, hh⟩ : ∃ h, h = (s + r) / 2 := ⟨_, rfl⟩
        have HI := Aside0.mk (show s ≤ h ∧ h < r from ⟨by omega, by omega⟩)
        have lA := HF.out.rr0; have lB := MWW.out; have lE := HPP.out
        have lC := lB.rm; have lD := lB.mr; have lG := lB.nb; have lH := HF.out.s0s
        have lI : b ≤ n := HN.out.2.2.2.2.2.2.1
        have lJ : m ≤ b := by have := HN.out; omega
        obtain ⟨u, hu⟩ : ∃ u, u + h = pp := ⟨pp - h, by omega⟩
        have HU := Aside0.mk (show u + h + 1 = nn from by omega)
        have z1 : (h : Int) < (n : Int) := by omega
        have z2 : (u : Int) < (n : Int) := by omega
        have hsn : n < 2305843009213693952 := HN.out.2.2.2.2.2.2.2.1
        have lK : s ≤ n := by omega
        have lM : r ≤ n := by omega
        have L1 := Aside0.mk (fun w' (k : SWK crL 7 w0 blk off d w') => ldSWK HN.out.1 HN.out.2.1 (HN.out.2.2.2.1.trans HN.out.2.2.1.symm) u (by rw [HN.out.2.2.2.1]; omega) k)
        have L2 := Aside0.mk (fun w' (k : SWK crL 7 w0 blk off d w') => ldSWK HN.out.1 HN.out.2.1 (HN.out.2.2.2.1.trans HN.out.2.2.1.symm) h (by rw [HN.out.2.2.2.1]; omega) k)
        obtain ⟨x1, hx1⟩ : ∃ x, d[u]! = x := ⟨_, rfl⟩
        obtain ⟨x2, hx2⟩ : ∃ x, d[h]! = x := ⟨_, rfl⟩
        rw [hx1] at L1
        rw [hx2] at L2
        have X1 := Aside0.mk hx1
        have X2 := Aside0.mk hx2
        have e3 : ((s : Int) + (r : Int)) / 2 = (h : Int) := by omega
        have q7 : wrap64 ((pp : Int) - (h : Int)) = (u : Int) := wsub hu (by omega)
        clear hx1 hx2 hh hu lA lB lE lC lD lG lH lI lJ
        have q3 := Aq3.out
        have q5 := Aq5.out
        go_wp2_with fail
        clear e3 hij hsn lK lM
        refine start_ (n := 14) (S := fun w' => SWK crL 7 w0 blk off d w') (ds := []) #[false, false, false, false, false, false, false, false, false, false, false, false, false, false] (by kernel_rfl) rfl rfl (SWK.drewN HW.out 1) (fun hHeld => ?_); refine with_tabW tabC35 bitsC35 (fun HT_ HW_ => ?_)
        refine pure_ (i := 0) (N := (some 158)) (v := ?_) (a' := ?_) #[true, false, false, false, false, false, false, false, false, false, false, false, false, false] rfl rfl (any_of HT_.out (by kernel_rfl)) (fun _ _ _ h => h) (Or.inl ⟨by rfl, ?_⟩) ?_ ?_
        rotate_left
        · intro w'
          go_simp
          with_reducible rfl
        rotate_left
        · simp only [Act.put, List.setIfInBounds_toArray, List.set_cons_zero, List.set_cons_succ, i64_w, i32_w]
          rfl
        refine pure_ (i := 1) (N := (some 159)) (v := ?_) (a' := ?_) #[true, true, false, false, false, false, false, false, false, false, false, false, false, false] rfl rfl (any_of HT_.out (by kernel_rfl)) (fun _ _ _ h => h) (Or.inl ⟨by rfl, ?_⟩) ?_ ?_
        rotate_left
        · intro w'
          go_simp
          with_reducible rfl
        rotate_left
        · simp only [Act.put, List.setIfInBounds_toArray, List.set_cons_zero, List.set_cons_succ, i64_w, i32_w]
          rfl
        refine pure_ (i := 2) (N := (some 160)) (v := ?_) (a' := ?_) #[true, true, true, false, false, false, false, false, false, false, false, false, false, false] rfl rfl (any_of HT_.out (by kernel_rfl)) (fun _ _ _ h => h) (Or.inl ⟨by rfl, ?_⟩) ?_ ?_
        rotate_left
        · intro w'
          go_simp
          with_reducible rfl
        rotate_left
        · simp only [Act.put, List.setIfInBounds_toArray, List.set_cons_zero, List.set_cons_succ, i64_w, i32_w]
          rfl
        refine pure_ (i := 3) (N := (some 161)) (v := ?_) (a' := ?_) #[true, true, true, true, false, false, false, false, false, false, false, false, false, false] rfl rfl (any_of HT_.out (by kernel_rfl)) (fun _ _ _ h => h) (Or.inl ⟨by rfl, ?_⟩) ?_ ?_
        rotate_left
        · intro w'
          go_simp
          with_reducible rfl
        rotate_left
        · simp only [Act.put, List.setIfInBounds_toArray, List.set_cons_zero, List.set_cons_succ, i64_w, i32_w]
          rfl
        refine pure_ (i := 4) (N := (some 162)) (v := ?_) (a' := ?_) #[true, true, true, true, true, false, false, false, false, false, false, false, false, false] rfl rfl (any_of HT_.out (by kernel_rfl)) (fun _ _ _ h => h) (Or.inl ⟨by rfl, ?_⟩) ?_ ?_
        rotate_left
        · intro w'
          go_simp
          with_reducible rfl
        rotate_left
        · simp only [Act.put, List.setIfInBounds_toArray, List.set_cons_zero, List.set_cons_succ, i64_w, i32_w]
          rfl
        refine pure_ (i := 5) (N := (some 163)) (v := ?_) (a' := ?_) #[true, true, true, true, true, true, false, false, false, false, false, false, false, false] rfl rfl (any_of HT_.out (by kernel_rfl)) (fun _ _ _ h => h) (Or.inl ⟨by rfl, ?_⟩) ?_ ?_
        rotate_left
        · intro w'
          go_simp
          with_reducible rfl
        rotate_left
        · simp only [Act.put, List.setIfInBounds_toArray, List.set_cons_zero, List.set_cons_succ, i64_w, i32_w]
          rfl
        refine take_ (i := 6) (N := (some 164)) (v := .agg (crL x1).toArray) #[true, true, true, true, true, true, true, false, false, false, false, false, false, false] rfl rfl (take_ofW HT_.out HW_.out (by kernel_rfl)) (fun _ _ _ h => h) (Or.inl ⟨by rfl, fun w' s0 => run_load34 _ _ (.tmp 163) rfl rfl (L1.out _ s0)⟩) hHeld rfl ?_
        refine norm_ (a' := ?_) ?_ ?_
        rotate_left
        · show Act.put _ (some 164) _ = _
          simp only [Act.put, List.setIfInBounds_toArray, List.set_cons_zero, List.set_cons_succ, i64_w, i32_w]
          rfl
        refine pure_ (i := 7) (N := (some 165)) (v := ?_) (a' := ?_) #[true, true, true, true, true, true, true, true, false, false, false, false, false, false] rfl rfl (any_of HT_.out (by kernel_rfl)) (fun _ _ _ h => h) (Or.inl ⟨by rfl, ?_⟩) ?_ ?_
        rotate_left
        · intro w'
          go_simp
          with_reducible rfl
        rotate_left
        · simp only [Act.put, List.setIfInBounds_toArray, List.set_cons_zero, List.set_cons_succ, i64_w, i32_w]
          rfl
        refine pure_ (i := 8) (N := (some 166)) (v := ?_) (a' := ?_) #[true, true, true, true, true, true, true, true, true, false, false, false, false, false] rfl rfl (any_of HT_.out (by kernel_rfl)) (fun _ _ _ h => h) (Or.inl ⟨by rfl, ?_⟩) ?_ ?_
        rotate_left
        · intro w'
          go_simp
          with_reducible rfl
        rotate_left
        · simp only [Act.put, List.setIfInBounds_toArray, List.set_cons_zero, List.set_cons_succ, i64_w, i32_w]
          rfl
        refine pure_ (i := 9) (N := (some 167)) (v := ?_) (a' := ?_) #[true, true, true, true, true, true, true, true, true, true, false, false, false, false] rfl rfl (any_of HT_.out (by kernel_rfl)) (fun _ _ _ h => h) (Or.inl ⟨by rfl, ?_⟩) ?_ ?_
        rotate_left
        · intro w'
          go_simp
          with_reducible rfl
        rotate_left
        · simp only [Act.put, List.setIfInBounds_toArray, List.set_cons_zero, List.set_cons_succ, i64_w, i32_w]
          rfl
        refine take_ (i := 10) (N := (some 168)) (v := .agg (crL x2).toArray) #[true, true, true, true, true, true, true, true, true, true, true, false, false, false] rfl rfl (take_ofW HT_.out HW_.out (by kernel_rfl)) (fun _ _ _ h => h) (Or.inl ⟨by rfl, fun w' s0 => run_load34 _ _ (.tmp 167) rfl rfl (L2.out _ s0)⟩) hHeld rfl ?_
        refine norm_ (a' := ?_) ?_ ?_
        rotate_left
        · show Act.put _ (some 168) _ = _
          simp only [Act.put, List.setIfInBounds_toArray, List.set_cons_zero, List.set_cons_succ, i64_w, i32_w]
          rfl
        refine one_ (i := 11) (N := (some 169)) #[true, true, true, true, true, true, true, true, true, true, true, true, false, false] rfl rfl (one_of HT_.out (by kernel_rfl)) (by decide) (fun K hK => ?_)
        refine goesv_ Try.func25 (by kernel_rfl) rfl #[.agg (crL x1).toArray, .agg (crL x2).toArray] (by rfl) rfl ⟨_, _, rfl, rfl, by (simp only [Array.empty_append, List.map_toArray, List.map_cons, List.map_nil]; first | done | rfl)⟩ ?_
        refine (cmp_c x1 x2 _).mono ?_
        rintro e' w2 ⟨rfl, os, rfl⟩
        refine ⟨_, rfl, ?_⟩
        refine hK.out _ _ (swk_grown hHeld os) (fun hHeld => ?_)
        clear hK K
        refine norm_ (a' := ?_) ?_ ?_
        rotate_left
        · show Act.put _ (some 169) _ = _
          simp only [Act.put, List.setIfInBounds_toArray, List.set_cons_zero, List.set_cons_succ, i64_w, i32_w]
          rfl
        refine pure_ (i := 12) (N := (some 170)) (v := ?_) (a' := ?_) #[true, true, true, true, true, true, true, true, true, true, true, true, true, false] rfl rfl (any_of HT_.out (by kernel_rfl)) (fun _ _ _ h => h) (Or.inl ⟨by rfl, ?_⟩) ?_ ?_
        rotate_left
        · intro w'
          go_simp
          with_reducible rfl
        rotate_left
        · simp only [Act.put, List.setIfInBounds_toArray, List.set_cons_zero, List.set_cons_succ, i64_w, i32_w]
          rfl
        refine pure_ (i := 13) (N := (some 171)) (v := ?_) (a' := ?_) #[true, true, true, true, true, true, true, true, true, true, true, true, true, true] rfl rfl (any_of HT_.out (by kernel_rfl)) (fun _ _ _ h => h) (Or.inl ⟨by rfl, ?_⟩) ?_ ?_
        rotate_left
        · intro w'
          go_simp
          with_reducible rfl
        rotate_left
        · simp only [Act.put, List.setIfInBounds_toArray, List.set_cons_zero, List.set_cons_succ, i64_w, i32_w]
          rfl
        refine done_ (done_of HT_.out (by kernel_rfl)) ?_
        have HW2 := Aside0.mk hHeld
        clear hHeld HT_ HW_ L1 L2
        by_cases hl : cfE x1 x2 < 0
        · have HL := Aside0.mk (show ltOf cfE d[u]! d[h]! = true from by rw [X1.out, X2.out]; exact decide_eq_true hl)
          have hd : decide (cfE x1 x2 < 0) = true := decide_eq_true hl
          rw [hd]
          go_wp2_with fail
          clear q3 q5 q7
          exact ⟨⟨s, h, rfl, rfl, HF.out.down HI.out.1 HI.out.2 HU.out HL.out, HW2.out⟩, by have := HI.out; simp only [intOf]; omega⟩
        · have HL := Aside0.mk (show ltOf cfE d[u]! d[h]! = false from by rw [X1.out, X2.out]; exact decide_eq_false hl)
          have hd : decide (cfE x1 x2 < 0) = false := decide_eq_false hl
          rw [hd]
          go_wp2_with fail
          clear q3 q5 q7
          have hdec : (intOf (.int .i64 (r : Int))).toNat - (intOf (.int .i64 ((h + 1 : Nat) : Int))).toNat < (intOf (.int .i64 (r : Int))).toNat - (intOf (.int .i64 (s : Int))).toNat := by have := HI.out; simp only [intOf]; omega
          have q5 : wrap64 ((h : Int) + 1) = ((h + 1 : Nat) : Int) := midU h 1 (by have := HI.out; have := HF.out.rr0; have := MWW.out.rm; have := HN.out; omega)
          exact ⟨⟨h + 1, r, by rw [q5], rfl, HF.out.up HI.out.1 HI.out.2 HU.out HL.out, HW2.out⟩, by rw [q5]; exact hdec⟩
      · have hc : ¬ (s : Int) < (r : Int) := by omega
        obtain rfl : s = r := by have := HF.out.sr; omega
        obtain ⟨e, he⟩ : ∃ e, e + s = nn := ⟨nn - s, by have := MWW.out.mr; have := HF.out.rr0; omega⟩
        have S := Aside0.mk (MS.mk2 MWW.out HF.out he (by rw [HN.out.2.2.2.1]; exact HN.out.2.2.2.2.2.2.1) HN.out.2.2.2.2.2.2.2.2.1 HN.out.2.2.2.2.2.2.2.2.2)
        have Aq8 := Aside0.mk (show wrap64 ((nn : Int) - (s : Int)) = (e : Int) from wsub he (by have := MWW.out.nn_; have := MWW.out.mb; have := HN.out; omega))
        have hms := S.out
        have lA := hms.sm; have lB := hms.me; have lE := hms.hmid
        have lR : (s < m ∧ m < e) ∨ ¬ s < m ∨ (s < m ∧ ¬ m < e) := by omega
        have lL : (a < s ∧ s < mid) ∨ ¬ a < s ∨ (a < s ∧ ¬ s < mid) := by omega
        have lQ : (mid < e ∧ e < b) ∨ ¬ mid < e ∨ (mid < e ∧ ¬ e < b) := by omega
        clear he hij
        rcases lR with lR | lR | lR <;> rcases lL with lL | lL | lL <;> rcases lQ with lQ | lQ | lQ
        · have YL := Aside0.mk (show a < s ∧ s < mid from by omega)
          have YR := Aside0.mk (show mid < e ∧ e < b from by omega)
          have YT := Aside0.mk (show s < m ∧ m < e from by omega)
          have g1 : (s : Int) < (m : Int) := by omega
          have g2 : (m : Int) < (e : Int) := by omega
          have g3 : (a : Int) < (s : Int) := by omega
          have g4 : (s : Int) < (mid : Int) := by omega
          have g5 : (mid : Int) < (e : Int) := by omega
          have g6 : (e : Int) < (b : Int) := by omega
          have hrot := Aside0.mk (rotate_n blk off cap s m e n d0 d (.func (.func 25) #[] #[]) w0 wr HN.out.1 HW.out HN.out.2.1 HN.out.2.2.1 HN.out.2.2.2.1 YT.out.1 YT.out.2 (Nat.le_trans S.out.eb HN.out.2.2.2.2.2.2.1) (by have := HN.out; omega))
          have hL := Aside0.mk (fun (d1 : Array CallR) (w1 : World) (k1 : SWK crL 7 w0 blk off d1 w1) (k2 : R1 d a m b s e d1) => HIH.out a s mid d1 w1 (by have := S.out.mb; have := S.out.am; omega) YL.out.1 YL.out.2 (by have := S.out.mb; have := HN.out; omega) (k2.2.1.trans HN.out.2.2.2.1) k1 (S.out.parts k2).1 (S.out.parts k2).2.1)
          have hQ := Aside0.mk (fun (d1 d2 : Array CallR) (w1 : World) (k1 : SWK crL 7 w0 blk off d2 w1) (k2 : R1 d a m b s e d1) (k3 : PermIn a mid d1 d2) => HIH.out mid e b d2 w1 (by have := S.out.mb; have := S.out.am; omega) YR.out.1 YR.out.2 HN.out.2.2.2.2.2.2.1 (k3.1.trans (k2.2.1.trans HN.out.2.2.2.1)) k1 (sorted_far (S.out.parts k2).2.2.1 k3 (Nat.le_refl _)) (sorted_far (S.out.parts k2).2.2.2.1 k3 (Nat.le_of_lt YR.out.1)))
          clear lR lL lQ lA lB lE hms
          have q3 := Aq3.out
          have q5 := Aq5.out
          have q8 := Aq8.out
          go_wp2_with first | (go_at_call 45; refine (hQ.out _ _ _ HW2.out HR1.out HP2.out.1).mono ?_; rintro e' w2 ⟨rfl, d3, k1, k2⟩; have HW3 := Aside0.mk k1; have HP3 := Aside0.mk k2; clear k1 k2) | (go_at_call 45; refine (hL.out _ _ HW1.out HR1.out).mono ?_; rintro e' w2 ⟨rfl, d2, k1, k2⟩; have HW2 := Aside0.mk k1; have HP2 := Aside0.mk k2; clear k1 k2) | (go_at_call 46; refine hrot.out.mono ?_; rintro e' w2 ⟨rfl, d1, k1, k2, k3⟩; have HW1 := Aside0.mk k1; have HR1 := Aside0.mk (show R1 d a m b s e d1 from ⟨k2, permIn_mono d d1 s e a b S.out.as_ S.out.eb S.out.bz k3⟩); clear k1 k2 k3)
          all_goals (go_end0; exact ⟨rfl, _, HW3.out, S.out.fin HR1.out HP2.out HP3.out⟩)
        · exfalso
          have := S.out.am
          have := S.out.mb
          have := S.out.as_
          have := S.out.eb
          have lx := HN.out
          have l1 := lx.2.2.2.2.1
          have l2 := lx.2.2.2.2.2.1
          clear lx
          omega
        · have YL := Aside0.mk (show a < s ∧ s < mid from by omega)
          have NR := Aside0.mk (show ¬ (mid < e ∧ e < b) from by omega)
          have YT := Aside0.mk (show s < m ∧ m < e from by omega)
          have g1 : (s : Int) < (m : Int) := by omega
          have g2 : (m : Int) < (e : Int) := by omega
          have g3 : (a : Int) < (s : Int) := by omega
          have g4 : (s : Int) < (mid : Int) := by omega
          have g5 : (mid : Int) < (e : Int) := by omega
          have g6 : ¬ (e : Int) < (b : Int) := by omega
          have hrot := Aside0.mk (rotate_n blk off cap s m e n d0 d (.func (.func 25) #[] #[]) w0 wr HN.out.1 HW.out HN.out.2.1 HN.out.2.2.1 HN.out.2.2.2.1 YT.out.1 YT.out.2 (Nat.le_trans S.out.eb HN.out.2.2.2.2.2.2.1) (by have := HN.out; omega))
          have hL := Aside0.mk (fun (d1 : Array CallR) (w1 : World) (k1 : SWK crL 7 w0 blk off d1 w1) (k2 : R1 d a m b s e d1) => HIH.out a s mid d1 w1 (by have := S.out.mb; have := S.out.am; omega) YL.out.1 YL.out.2 (by have := S.out.mb; have := HN.out; omega) (k2.2.1.trans HN.out.2.2.2.1) k1 (S.out.parts k2).1 (S.out.parts k2).2.1)
          clear lR lL lQ lA lB lE hms
          have q3 := Aq3.out
          have q5 := Aq5.out
          have q8 := Aq8.out
          go_wp2_with first | (go_at_call 45; refine (hL.out _ _ HW1.out HR1.out).mono ?_; rintro e' w2 ⟨rfl, d2, k1, k2⟩; have HW2 := Aside0.mk k1; have HP2 := Aside0.mk k2; clear k1 k2; have HW3 := HW2; have HP3 := Aside0.mk (S.out.noR HR1.out HP2.out.1 NR.out)) | (go_at_call 46; refine hrot.out.mono ?_; rintro e' w2 ⟨rfl, d1, k1, k2, k3⟩; have HW1 := Aside0.mk k1; have HR1 := Aside0.mk (show R1 d a m b s e d1 from ⟨k2, permIn_mono d d1 s e a b S.out.as_ S.out.eb S.out.bz k3⟩); clear k1 k2 k3)
          all_goals (go_end0; exact ⟨rfl, _, HW3.out, S.out.fin HR1.out HP2.out HP3.out⟩)
        · have NL := Aside0.mk (show ¬ (a < s ∧ s < mid) from by omega)
          have YR := Aside0.mk (show mid < e ∧ e < b from by omega)
          have YT := Aside0.mk (show s < m ∧ m < e from by omega)
          have g1 : (s : Int) < (m : Int) := by omega
          have g2 : (m : Int) < (e : Int) := by omega
          have g3 : ¬ (a : Int) < (s : Int) := by omega
          have g5 : (mid : Int) < (e : Int) := by omega
          have g6 : (e : Int) < (b : Int) := by omega
          have hrot := Aside0.mk (rotate_n blk off cap s m e n d0 d (.func (.func 25) #[] #[]) w0 wr HN.out.1 HW.out HN.out.2.1 HN.out.2.2.1 HN.out.2.2.2.1 YT.out.1 YT.out.2 (Nat.le_trans S.out.eb HN.out.2.2.2.2.2.2.1) (by have := HN.out; omega))
          have hQ := Aside0.mk (fun (d1 d2 : Array CallR) (w1 : World) (k1 : SWK crL 7 w0 blk off d2 w1) (k2 : R1 d a m b s e d1) (k3 : PermIn a mid d1 d2) => HIH.out mid e b d2 w1 (by have := S.out.mb; have := S.out.am; omega) YR.out.1 YR.out.2 HN.out.2.2.2.2.2.2.1 (k3.1.trans (k2.2.1.trans HN.out.2.2.2.1)) k1 (sorted_far (S.out.parts k2).2.2.1 k3 (Nat.le_refl _)) (sorted_far (S.out.parts k2).2.2.2.1 k3 (Nat.le_of_lt YR.out.1)))
          clear lR lL lQ lA lB lE hms
          have q3 := Aq3.out
          have q5 := Aq5.out
          have q8 := Aq8.out
          go_wp2_with first | (go_at_call 45; refine (hQ.out _ _ _ HW2.out HR1.out HP2.out.1).mono ?_; rintro e' w2 ⟨rfl, d3, k1, k2⟩; have HW3 := Aside0.mk k1; have HP3 := Aside0.mk k2; clear k1 k2) | (go_at_call 46; refine hrot.out.mono ?_; rintro e' w2 ⟨rfl, d1, k1, k2, k3⟩; have HW1 := Aside0.mk k1; have HR1 := Aside0.mk (show R1 d a m b s e d1 from ⟨k2, permIn_mono d d1 s e a b S.out.as_ S.out.eb S.out.bz k3⟩); clear k1 k2 k3; have HW2 := HW1; have HP2 := Aside0.mk (S.out.noL HR1.out NL.out))
          all_goals (go_end0; exact ⟨rfl, _, HW3.out, S.out.fin HR1.out HP2.out HP3.out⟩)
        · exfalso
          have := S.out.am
          have := S.out.mb
          have := S.out.as_
          have := S.out.eb
          have lx := HN.out
          have l1 := lx.2.2.2.2.1
          have l2 := lx.2.2.2.2.2.1
          clear lx
          omega
        · have NL := Aside0.mk (show ¬ (a < s ∧ s < mid) from by omega)
          have NR := Aside0.mk (show ¬ (mid < e ∧ e < b) from by omega)
          have YT := Aside0.mk (show s < m ∧ m < e from by omega)
          have g1 : (s : Int) < (m : Int) := by omega
          have g2 : (m : Int) < (e : Int) := by omega
          have g3 : ¬ (a : Int) < (s : Int) := by omega
          have g5 : (mid : Int) < (e : Int) := by omega
          have g6 : ¬ (e : Int) < (b : Int) := by omega
          have hrot := Aside0.mk (rotate_n blk off cap s m e n d0 d (.func (.func 25) #[] #[]) w0 wr HN.out.1 HW.out HN.out.2.1 HN.out.2.2.1 HN.out.2.2.2.1 YT.out.1 YT.out.2 (Nat.le_trans S.out.eb HN.out.2.2.2.2.2.2.1) (by have := HN.out; omega))
          clear lR lL lQ lA lB lE hms
          have q3 := Aq3.out
          have q5 := Aq5.out
          have q8 := Aq8.out
          go_wp2_with first | (go_at_call 46; refine hrot.out.mono ?_; rintro e' w2 ⟨rfl, d1, k1, k2, k3⟩; have HW1 := Aside0.mk k1; have HR1 := Aside0.mk (show R1 d a m b s e d1 from ⟨k2, permIn_mono d d1 s e a b S.out.as_ S.out.eb S.out.bz k3⟩); clear k1 k2 k3; have HW2 := HW1; have HP2 := Aside0.mk (S.out.noL HR1.out NL.out); have HW3 := HW2; have HP3 := Aside0.mk (S.out.noR HR1.out HP2.out.1 NR.out))
          all_goals (go_end0; exact ⟨rfl, _, HW3.out, S.out.fin HR1.out HP2.out HP3.out⟩)
        · exfalso
          have := S.out.am
          have := S.out.mb
          have := S.out.as_
          have := S.out.eb
          have lx := HN.out
          have l1 := lx.2.2.2.2.1
          have l2 := lx.2.2.2.2.2.1
          clear lx
          omega
        · exfalso
          have := S.out.am
          have := S.out.mb
          have := S.out.as_
          have := S.out.eb
          have lx := HN.out
          have l1 := lx.2.2.2.2.1
          have l2 := lx.2.2.2.2.2.1
          clear lx
          omega
        · exfalso
          have := S.out.am
          have := S.out.mb
          have := S.out.as_
          have := S.out.eb
          have lx := HN.out
          have l1 := lx.2.2.2.2.1
          have l2 := lx.2.2.2.2.2.1
          clear lx
          omega
        · exfalso
          have := S.out.am
          have := S.out.mb
          have := S.out.as_
          have := S.out.eb
          have lx := HN.out
          have l1 := lx.2.2.2.2.1
          have l2 := lx.2.2.2.2.2.1
          clear lx
          omega
        · have HW1 := HW
          have HR1 := Aside0.mk (S.out.none (by omega))
          have YL := Aside0.mk (show a < s ∧ s < mid from by omega)
          have NR := Aside0.mk (show ¬ (mid < e ∧ e < b) from by omega)
          have g1 : ¬ (s : Int) < (m : Int) := by omega
          have g3 : (a : Int) < (s : Int) := by omega
          have g4 : (s : Int) < (mid : Int) := by omega
          have g5 : ¬ (mid : Int) < (e : Int) := by omega
          have hL := Aside0.mk (fun (d1 : Array CallR) (w1 : World) (k1 : SWK crL 7 w0 blk off d1 w1) (k2 : R1 d a m b s e d1) => HIH.out a s mid d1 w1 (by have := S.out.mb; have := S.out.am; omega) YL.out.1 YL.out.2 (by have := S.out.mb; have := HN.out; omega) (k2.2.1.trans HN.out.2.2.2.1) k1 (S.out.parts k2).1 (S.out.parts k2).2.1)
          clear lR lL lQ lA lB lE hms
          have q3 := Aq3.out
          have q5 := Aq5.out
          have q8 := Aq8.out
          go_wp2_with first | (go_at_call 45; refine (hL.out _ _ HW1.out HR1.out).mono ?_; rintro e' w2 ⟨rfl, d2, k1, k2⟩; have HW2 := Aside0.mk k1; have HP2 := Aside0.mk k2; clear k1 k2; have HW3 := HW2; have HP3 := Aside0.mk (S.out.noR HR1.out HP2.out.1 NR.out))
          all_goals (go_end0; exact ⟨rfl, _, HW3.out, S.out.fin HR1.out HP2.out HP3.out⟩)
        · exfalso
          have := S.out.am
          have := S.out.mb
          have := S.out.as_
          have := S.out.eb
          have lx := HN.out
          have l1 := lx.2.2.2.2.1
          have l2 := lx.2.2.2.2.2.1
          clear lx
          omega
        · exfalso
          have := S.out.am
          have := S.out.mb
          have := S.out.as_
          have := S.out.eb
          have lx := HN.out
          have l1 := lx.2.2.2.2.1
          have l2 := lx.2.2.2.2.2.1
          clear lx
          omega
        · exfalso
          have := S.out.am
          have := S.out.mb
          have := S.out.as_
          have := S.out.eb
          have lx := HN.out
          have l1 := lx.2.2.2.2.1
          have l2 := lx.2.2.2.2.2.1
          clear lx
          omega
        · exfalso
          have := S.out.am
          have := S.out.mb
          have := S.out.as_
          have := S.out.eb
          have lx := HN.out
          have l1 := lx.2.2.2.2.1
          have l2 := lx.2.2.2.2.2.1
          clear lx
          omega
        · exfalso
          have := S.out.am
          have := S.out.mb
          have := S.out.as_
          have := S.out.eb
          have lx := HN.out
          have l1 := lx.2.2.2.2.1
          have l2 := lx.2.2.2.2.2.1
          clear lx
          omega
        · have HW1 := HW
          have HR1 := Aside0.mk (S.out.none (by omega))
          have NL := Aside0.mk (show ¬ (a < s ∧ s < mid) from by omega)
          have NR := Aside0.mk (show ¬ (mid < e ∧ e < b) from by omega)
          have g1 : ¬ (s : Int) < (m : Int) := by omega
          have g3 : (a : Int) < (s : Int) := by omega
          have g4 : ¬ (s : Int) < (mid : Int) := by omega
          have g5 : ¬ (mid : Int) < (e : Int) := by omega
          have HW2 := HW1; have HP2 := Aside0.mk (S.out.noL HR1.out NL.out); have HW3 := HW2; have HP3 := Aside0.mk (S.out.noR HR1.out HP2.out.1 NR.out)
          clear lR lL lQ lA lB lE hms
          have q3 := Aq3.out
          have q5 := Aq5.out
          have q8 := Aq8.out
          go_wp2_with fail
          all_goals (go_end0; exact ⟨rfl, _, HW3.out, S.out.fin HR1.out HP2.out HP3.out⟩)
        · exfalso
          have := S.out.am
          have := S.out.mb
          have := S.out.as_
          have := S.out.eb
          have lx := HN.out
          have l1 := lx.2.2.2.2.1
          have l2 := lx.2.2.2.2.2.1
          clear lx
          omega
        · exfalso
          have := S.out.am
          have := S.out.mb
          have := S.out.as_
          have := S.out.eb
          have lx := HN.out
          have l1 := lx.2.2.2.2.1
          have l2 := lx.2.2.2.2.2.1
          clear lx
          omega
        · exfalso
          have := S.out.am
          have := S.out.mb
          have := S.out.as_
          have := S.out.eb
          have lx := HN.out
          have l1 := lx.2.2.2.2.1
          have l2 := lx.2.2.2.2.2.1
          clear lx
          omega
        · exfalso
          have := S.out.am
          have := S.out.mb
          have := S.out.as_
          have := S.out.eb
          have lx := HN.out
          have l1 := lx.2.2.2.2.1
          have l2 := lx.2.2.2.2.2.1
          clear lx
          omega
        · exfalso
          have := S.out.am
          have := S.out.mb
          have := S.out.as_
          have := S.out.eb
          have lx := HN.out
          have l1 := lx.2.2.2.2.1
          have l2 := lx.2.2.2.2.2.1
          clear lx
          omega
        · exfalso
          have := S.out.am
          have := S.out.mb
          have := S.out.as_
          have := S.out.eb
          have lx := HN.out
          have l1 := lx.2.2.2.2.1
          have l2 := lx.2.2.2.2.2.1
          clear lx
          omega
        · exfalso
          have := S.out.am
          have := S.out.mb
          have := S.out.as_
          have := S.out.eb
          have lx := HN.out
          have l1 := lx.2.2.2.2.1
          have l2 := lx.2.2.2.2.2.1
          clear lx
          omega
        · have HW1 := HW
          have HR1 := Aside0.mk (S.out.none (by omega))
          have NL := Aside0.mk (show ¬ (a < s ∧ s < mid) from by omega)
          have YR := Aside0.mk (show mid < e ∧ e < b from by omega)
          have g1 : (s : Int) < (m : Int) := by omega
          have g2 : ¬ (m : Int) < (e : Int) := by omega
          have g3 : (a : Int) < (s : Int) := by omega
          have g4 : ¬ (s : Int) < (mid : Int) := by omega
          have g5 : (mid : Int) < (e : Int) := by omega
          have g6 : (e : Int) < (b : Int) := by omega
          have HW2 := HW1; have HP2 := Aside0.mk (S.out.noL HR1.out NL.out)
          have hQ := Aside0.mk (fun (d1 d2 : Array CallR) (w1 : World) (k1 : SWK crL 7 w0 blk off d2 w1) (k2 : R1 d a m b s e d1) (k3 : PermIn a mid d1 d2) => HIH.out mid e b d2 w1 (by have := S.out.mb; have := S.out.am; omega) YR.out.1 YR.out.2 HN.out.2.2.2.2.2.2.1 (k3.1.trans (k2.2.1.trans HN.out.2.2.2.1)) k1 (sorted_far (S.out.parts k2).2.2.1 k3 (Nat.le_refl _)) (sorted_far (S.out.parts k2).2.2.2.1 k3 (Nat.le_of_lt YR.out.1)))
          clear lR lL lQ lA lB lE hms
          have q3 := Aq3.out
          have q5 := Aq5.out
          have q8 := Aq8.out
          go_wp2_with first | (go_at_call 45; refine (hQ.out _ _ _ HW2.out HR1.out HP2.out.1).mono ?_; rintro e' w2 ⟨rfl, d3, k1, k2⟩; have HW3 := Aside0.mk k1; have HP3 := Aside0.mk k2; clear k1 k2)
          all_goals (go_end0; exact ⟨rfl, _, HW3.out, S.out.fin HR1.out HP2.out HP3.out⟩)
        · exfalso
          have := S.out.am
          have := S.out.mb
          have := S.out.as_
          have := S.out.eb
          have lx := HN.out
          have l1 := lx.2.2.2.2.1
          have l2 := lx.2.2.2.2.2.1
          clear lx
          omega
        · exfalso
          have := S.out.am
          have := S.out.mb
          have := S.out.as_
          have := S.out.eb
          have lx := HN.out
          have l1 := lx.2.2.2.2.1
          have l2 := lx.2.2.2.2.2.1
          clear lx
          omega
  · have Ahc1 := Aside0.mk (show ¬ (mid : Int) < (m : Int) from by omega)
    obtain ⟨s0, hs0⟩ : ∃ s0, s0 = a := ⟨_, rfl⟩
    obtain ⟨r0, hr0⟩ : ∃ r0, r0 = m := ⟨_, rfl⟩
    have MWW := Aside0.mk (show MW a m b mid nn s0 r0 from ⟨hnn, by omega, by omega, by omega, by omega, by omega, by omega, by omega, by omega, by omega⟩)
    have HPP := Aside0.mk hpp
    have HR0 := Aside0.mk (And.intro hs0 hr0)
    clear hH hs hblk h0 hn ham hmb h1 h2 IH hr1 hr2 hmid hnn hpp hr0 hs0 hc0
    have q1 := Aq1.out
    have q2 := Aq2.out
    have q3 := Aq3.out
    have q5 := Aq5.out
    go_enter Try.func45, Try.ntmps45
    go_upto_region 27 with fail
    have hc1 := Ahc1.out
    go_wp2_with fail
    go_loopw [20, 21] (fun vi vj wr => ∃ (s r : Nat), vi = .int .i64 (s : Int) ∧ vj = .int .i64 (r : Int) ∧ FiM d nn s0 r0 s r ∧ SWK crL 7 w0 blk off d wr) (fun vi vj _ => (intOf vj).toNat - (intOf vi).toNat)
    case atStart => exact ⟨a, m, rfl, rfl, ⟨by rw [HR0.out.1]; exact Nat.le_refl _, by have := MWW.out; have := HN.out; omega, by rw [HR0.out.2]; exact Nat.le_refl _, .inl HR0.out.1.symm, .inl HR0.out.2.symm⟩, HS.out⟩
    case round =>
      obtain ⟨s, r, rfl, rfl, hfi, hsw⟩ := hrel
      have HF := Aside0.mk hfi
      have HW := Aside0.mk hsw
      clear hfi hsw q1 q2 q3 q5 hne1 hne2 e3 hab hb hsz
      by_cases hij : s < r
      · have hc : (s : Int) < (r : Int) := by omega
        obtain ⟨h, hh⟩ : ∃ h, h = (s + r) / 2 := ⟨_, rfl⟩
        have HI := Aside0.mk (show s ≤ h ∧ h < r from ⟨by omega, by omega⟩)
        have lA := HF.out.rr0; have lB := MWW.out; have lE := HPP.out
        have lC := lB.rm; have lD := lB.mr; have lG := lB.nb; have lH := HF.out.s0s
        have lI : b ≤ n := HN.out.2.2.2.2.2.2.1
        have lJ : m ≤ b := by have := HN.out; omega
        obtain ⟨u, hu⟩ : ∃ u, u + h = pp := ⟨pp - h, by omega⟩
        have HU := Aside0.mk (show u + h + 1 = nn from by omega)
        have z1 : (h : Int) < (n : Int) := by omega
        have z2 : (u : Int) < (n : Int) := by omega
        have hsn : n < 2305843009213693952 := HN.out.2.2.2.2.2.2.2.1
        have lK : s ≤ n := by omega
        have lM : r ≤ n := by omega
        have L1 := Aside0.mk (fun w' (k : SWK crL 7 w0 blk off d w') => ldSWK HN.out.1 HN.out.2.1 (HN.out.2.2.2.1.trans HN.out.2.2.1.symm) u (by rw [HN.out.2.2.2.1]; omega) k)
        have L2 := Aside0.mk (fun w' (k : SWK crL 7 w0 blk off d w') => ldSWK HN.out.1 HN.out.2.1 (HN.out.2.2.2.1.trans HN.out.2.2.1.symm) h (by rw [HN.out.2.2.2.1]; omega) k)
        obtain ⟨x1, hx1⟩ : ∃ x, d[u]! = x := ⟨_, rfl⟩
        obtain ⟨x2, hx2⟩ : ∃ x, d[h]! = x := ⟨_, rfl⟩
        rw [hx1] at L1
        rw [hx2] at L2
        have X1 := Aside0.mk hx1
        have X2 := Aside0.mk hx2
        have e3 : ((s : Int) + (r : Int)) / 2 = (h : Int) := by omega
        have q7 : wrap64 ((pp : Int) - (h : Int)) = (u : Int) := wsub hu (by omega)
        clear hx1 hx2 hh hu lA lB lE lC lD lG lH lI lJ
        have q3 := Aq3.out
        have q5 := Aq5.out
        go_wp2_with fail
        clear e3 hij hsn lK lM
        refine start_ (n := 14) (S := fun w' => SWK crL 7 w0 blk off d w') (ds := []) #[false, false, false, false, false, false, false, false, false, false, false, false, false, false] (by kernel_rfl) rfl rfl (SWK.drewN HW.out 1) (fun hHeld => ?_); refine with_tabW tabC35 bitsC35 (fun HT_ HW_ => ?_)
        refine pure_ (i := 0) (N := (some 158)) (v := ?_) (a' := ?_) #[true, false, false, false, false, false, false, false, false, false, false, false, false, false] rfl rfl (any_of HT_.out (by kernel_rfl)) (fun _ _ _ h => h) (Or.inl ⟨by rfl, ?_⟩) ?_ ?_
        rotate_left
        · intro w'
          go_simp
          with_reducible rfl
        rotate_left
        · simp only [Act.put, List.setIfInBounds_toArray, List.set_cons_zero, List.set_cons_succ, i64_w, i32_w]
          rfl
        refine pure_ (i := 1) (N := (some 159)) (v := ?_) (a' := ?_) #[true, true, false, false, false, false, false, false, false, false, false, false, false, false] rfl rfl (any_of HT_.out (by kernel_rfl)) (fun _ _ _ h => h) (Or.inl ⟨by rfl, ?_⟩) ?_ ?_
        rotate_left
        · intro w'
          go_simp
          with_reducible rfl
        rotate_left
        · simp only [Act.put, List.setIfInBounds_toArray, List.set_cons_zero, List.set_cons_succ, i64_w, i32_w]
          rfl
        refine pure_ (i := 2) (N := (some 160)) (v := ?_) (a' := ?_) #[true, true, true, false, false, false, false, false, false, false, false, false, false, false] rfl rfl (any_of HT_.out (by kernel_rfl)) (fun _ _ _ h => h) (Or.inl ⟨by rfl, ?_⟩) ?_ ?_
        rotate_left
        · intro w'
          go_simp
          with_reducible rfl
        rotate_left
        · simp only [Act.put, List.setIfInBounds_toArray, List.set_cons_zero, List.set_cons_succ, i64_w, i32_w]
          rfl
        refine pure_ (i := 3) (N := (some 161)) (v := ?_) (a' := ?_) #[true, true, true, true, false, false, false, false, false, false, false, false, false, false] rfl rfl (any_of HT_.out (by kernel_rfl)) (fun _ _ _ h => h) (Or.inl ⟨by rfl, ?_⟩) ?_ ?_
        rotate_left
        · intro w'
          go_simp
          with_reducible rfl
        rotate_left
        · simp only [Act.put, List.setIfInBounds_toArray, List.set_cons_zero, List.set_cons_succ, i64_w, i32_w]
          rfl
        refine pure_ (i := 4) (N := (some 162)) (v := ?_) (a' := ?_) #[true, true, true, true, true, false, false, false, false, false, false, false, false, false] rfl rfl (any_of HT_.out (by kernel_rfl)) (fun _ _ _ h => h) (Or.inl ⟨by rfl, ?_⟩) ?_ ?_
        rotate_left
        · intro w'
          go_simp
          with_reducible rfl
        rotate_left
        · simp only [Act.put, List.setIfInBounds_toArray, List.set_cons_zero, List.set_cons_succ, i64_w, i32_w]
          rfl
        refine pure_ (i := 5) (N := (some 163)) (v := ?_) (a' := ?_) #[true, true, true, true, true, true, false, false, false, false, false, false, false, false] rfl rfl (any_of HT_.out (by kernel_rfl)) (fun _ _ _ h => h) (Or.inl ⟨by rfl, ?_⟩) ?_ ?_
        rotate_left
        · intro w'
          go_simp
          with_reducible rfl
        rotate_left
        · simp only [Act.put, List.setIfInBounds_toArray, List.set_cons_zero, List.set_cons_succ, i64_w, i32_w]
          rfl
        refine take_ (i := 6) (N := (some 164)) (v := .agg (crL x1).toArray) #[true, true, true, true, true, true, true, false, false, false, false, false, false, false] rfl rfl (take_ofW HT_.out HW_.out (by kernel_rfl)) (fun _ _ _ h => h) (Or.inl ⟨by rfl, fun w' s0 => run_load34 _ _ (.tmp 163) rfl rfl (L1.out _ s0)⟩) hHeld rfl ?_
        refine norm_ (a' := ?_) ?_ ?_
        rotate_left
        · show Act.put _ (some 164) _ = _
          simp only [Act.put, List.setIfInBounds_toArray, List.set_cons_zero, List.set_cons_succ, i64_w, i32_w]
          rfl
        refine pure_ (i := 7) (N := (some 165)) (v := ?_) (a' := ?_) #[true, true, true, true, true, true, true, true, false, false, false, false, false, false] rfl rfl (any_of HT_.out (by kernel_rfl)) (fun _ _ _ h => h) (Or.inl ⟨by rfl, ?_⟩) ?_ ?_
        rotate_left
        · intro w'
          go_simp
          with_reducible rfl
        rotate_left
        · simp only [Act.put, List.setIfInBounds_toArray, List.set_cons_zero, List.set_cons_succ, i64_w, i32_w]
          rfl
        refine pure_ (i := 8) (N := (some 166)) (v := ?_) (a' := ?_) #[true, true, true, true, true, true, true, true, true, false, false, false, false, false] rfl rfl (any_of HT_.out (by kernel_rfl)) (fun _ _ _ h => h) (Or.inl ⟨by rfl, ?_⟩) ?_ ?_
        rotate_left
        · intro w'
          go_simp
          with_reducible rfl
        rotate_left
        · simp only [Act.put, List.setIfInBounds_toArray, List.set_cons_zero, List.set_cons_succ, i64_w, i32_w]
          rfl
        refine pure_ (i := 9) (N := (some 167)) (v := ?_) (a' := ?_) #[true, true, true, true, true, true, true, true, true, true, false, false, false, false] rfl rfl (any_of HT_.out (by kernel_rfl)) (fun _ _ _ h => h) (Or.inl ⟨by rfl, ?_⟩) ?_ ?_
        rotate_left
        · intro w'
          go_simp
          with_reducible rfl
        rotate_left
        · simp only [Act.put, List.setIfInBounds_toArray, List.set_cons_zero, List.set_cons_succ, i64_w, i32_w]
          rfl
        refine take_ (i := 10) (N := (some 168)) (v := .agg (crL x2).toArray) #[true, true, true, true, true, true, true, true, true, true, true, false, false, false] rfl rfl (take_ofW HT_.out HW_.out (by kernel_rfl)) (fun _ _ _ h => h) (Or.inl ⟨by rfl, fun w' s0 => run_load34 _ _ (.tmp 167) rfl rfl (L2.out _ s0)⟩) hHeld rfl ?_
        refine norm_ (a' := ?_) ?_ ?_
        rotate_left
        · show Act.put _ (some 168) _ = _
          simp only [Act.put, List.setIfInBounds_toArray, List.set_cons_zero, List.set_cons_succ, i64_w, i32_w]
          rfl
        refine one_ (i := 11) (N := (some 169)) #[true, true, true, true, true, true, true, true, true, true, true, true, false, false] rfl rfl (one_of HT_.out (by kernel_rfl)) (by decide) (fun K hK => ?_)
        refine goesv_ Try.func25 (by kernel_rfl) rfl #[.agg (crL x1).toArray, .agg (crL x2).toArray] (by rfl) rfl ⟨_, _, rfl, rfl, by (simp only [Array.empty_append, List.map_toArray, List.map_cons, List.map_nil]; first | done | rfl)⟩ ?_
        refine (cmp_c x1 x2 _).mono ?_
        rintro e' w2 ⟨rfl, os, rfl⟩
        refine ⟨_, rfl, ?_⟩
        refine hK.out _ _ (swk_grown hHeld os) (fun hHeld => ?_)
        clear hK K
        refine norm_ (a' := ?_) ?_ ?_
        rotate_left
        · show Act.put _ (some 169) _ = _
          simp only [Act.put, List.setIfInBounds_toArray, List.set_cons_zero, List.set_cons_succ, i64_w, i32_w]
          rfl
        refine pure_ (i := 12) (N := (some 170)) (v := ?_) (a' := ?_) #[true, true, true, true, true, true, true, true, true, true, true, true, true, false] rfl rfl (any_of HT_.out (by kernel_rfl)) (fun _ _ _ h => h) (Or.inl ⟨by rfl, ?_⟩) ?_ ?_
        rotate_left
        · intro w'
          go_simp
          with_reducible rfl
        rotate_left
        · simp only [Act.put, List.setIfInBounds_toArray, List.set_cons_zero, List.set_cons_succ, i64_w, i32_w]
          rfl
        refine pure_ (i := 13) (N := (some 171)) (v := ?_) (a' := ?_) #[true, true, true, true, true, true, true, true, true, true, true, true, true, true] rfl rfl (any_of HT_.out (by kernel_rfl)) (fun _ _ _ h => h) (Or.inl ⟨by rfl, ?_⟩) ?_ ?_
        rotate_left
        · intro w'
          go_simp
          with_reducible rfl
        rotate_left
        · simp only [Act.put, List.setIfInBounds_toArray, List.set_cons_zero, List.set_cons_succ, i64_w, i32_w]
          rfl
        refine done_ (done_of HT_.out (by kernel_rfl)) ?_
        have HW2 := Aside0.mk hHeld
        clear hHeld HT_ HW_ L1 L2
        by_cases hl : cfE x1 x2 < 0
        · have HL := Aside0.mk (show ltOf cfE d[u]! d[h]! = true from by rw [X1.out, X2.out]; exact decide_eq_true hl)
          have hd : decide (cfE x1 x2 < 0) = true := decide_eq_true hl
          rw [hd]
          go_wp2_with fail
          clear q3 q5 q7
          exact ⟨⟨s, h, rfl, rfl, HF.out.down HI.out.1 HI.out.2 HU.out HL.out, HW2.out⟩, by have := HI.out; simp only [intOf]; omega⟩
        · have HL := Aside0.mk (show ltOf cfE d[u]! d[h]! = false from by rw [X1.out, X2.out]; exact decide_eq_false hl)
          have hd : decide (cfE x1 x2 < 0) = false := decide_eq_false hl
          rw [hd]
          go_wp2_with fail
          clear q3 q5 q7
          have hdec : (intOf (.int .i64 (r : Int))).toNat - (intOf (.int .i64 ((h + 1 : Nat) : Int))).toNat < (intOf (.int .i64 (r : Int))).toNat - (intOf (.int .i64 (s : Int))).toNat := by have := HI.out; simp only [intOf]; omega
          have q5 : wrap64 ((h : Int) + 1) = ((h + 1 : Nat) : Int) := midU h 1 (by have := HI.out; have := HF.out.rr0; have := MWW.out.rm; have := HN.out; omega)
          exact ⟨⟨h + 1, r, by rw [q5], rfl, HF.out.up HI.out.1 HI.out.2 HU.out HL.out, HW2.out⟩, by rw [q5]; exact hdec⟩
      · have hc : ¬ (s : Int) < (r : Int) := by omega
        obtain rfl : s = r := by have := HF.out.sr; omega
        obtain ⟨e, he⟩ : ∃ e, e + s = nn := ⟨nn - s, by have := MWW.out.mr; have := HF.out.rr0; omega⟩
        have S := Aside0.mk (MS.mk2 MWW.out HF.out he (by rw [HN.out.2.2.2.1]; exact HN.out.2.2.2.2.2.2.1) HN.out.2.2.2.2.2.2.2.2.1 HN.out.2.2.2.2.2.2.2.2.2)
        have Aq8 := Aside0.mk (show wrap64 ((nn : Int) - (s : Int)) = (e : Int) from wsub he (by have := MWW.out.nn_; have := MWW.out.mb; have := HN.out; omega))
        have hms := S.out
        have lA := hms.sm; have lB := hms.me; have lE := hms.hmid
        have lR : (s < m ∧ m < e) ∨ ¬ s < m ∨ (s < m ∧ ¬ m < e) := by omega
        have lL : (a < s ∧ s < mid) ∨ ¬ a < s ∨ (a < s ∧ ¬ s < mid) := by omega
        have lQ : (mid < e ∧ e < b) ∨ ¬ mid < e ∨ (mid < e ∧ ¬ e < b) := by omega
        clear he hij
        rcases lR with lR | lR | lR <;> rcases lL with lL | lL | lL <;> rcases lQ with lQ | lQ | lQ
        · have YL := Aside0.mk (show a < s ∧ s < mid from by omega)
          have YR := Aside0.mk (show mid < e ∧ e < b from by omega)
          have YT := Aside0.mk (show s < m ∧ m < e from by omega)
          have g1 : (s : Int) < (m : Int) := by omega
          have g2 : (m : Int) < (e : Int) := by omega
          have g3 : (a : Int) < (s : Int) := by omega
          have g4 : (s : Int) < (mid : Int) := by omega
          have g5 : (mid : Int) < (e : Int) := by omega
          have g6 : (e : Int) < (b : Int) := by omega
          have hrot := Aside0.mk (rotate_n blk off cap s m e n d0 d (.func (.func 25) #[] #[]) w0 wr HN.out.1 HW.out HN.out.2.1 HN.out.2.2.1 HN.out.2.2.2.1 YT.out.1 YT.out.2 (Nat.le_trans S.out.eb HN.out.2.2.2.2.2.2.1) (by have := HN.out; omega))
          have hL := Aside0.mk (fun (d1 : Array CallR) (w1 : World) (k1 : SWK crL 7 w0 blk off d1 w1) (k2 : R1 d a m b s e d1) => HIH.out a s mid d1 w1 (by have := S.out.mb; have := S.out.am; omega) YL.out.1 YL.out.2 (by have := S.out.mb; have := HN.out; omega) (k2.2.1.trans HN.out.2.2.2.1) k1 (S.out.parts k2).1 (S.out.parts k2).2.1)
          have hQ := Aside0.mk (fun (d1 d2 : Array CallR) (w1 : World) (k1 : SWK crL 7 w0 blk off d2 w1) (k2 : R1 d a m b s e d1) (k3 : PermIn a mid d1 d2) => HIH.out mid e b d2 w1 (by have := S.out.mb; have := S.out.am; omega) YR.out.1 YR.out.2 HN.out.2.2.2.2.2.2.1 (k3.1.trans (k2.2.1.trans HN.out.2.2.2.1)) k1 (sorted_far (S.out.parts k2).2.2.1 k3 (Nat.le_refl _)) (sorted_far (S.out.parts k2).2.2.2.1 k3 (Nat.le_of_lt YR.out.1)))
          clear lR lL lQ lA lB lE hms
          have q3 := Aq3.out
          have q5 := Aq5.out
          have q8 := Aq8.out
          go_wp2_with first | (go_at_call 45; refine (hQ.out _ _ _ HW2.out HR1.out HP2.out.1).mono ?_; rintro e' w2 ⟨rfl, d3, k1, k2⟩; have HW3 := Aside0.mk k1; have HP3 := Aside0.mk k2; clear k1 k2) | (go_at_call 45; refine (hL.out _ _ HW1.out HR1.out).mono ?_; rintro e' w2 ⟨rfl, d2, k1, k2⟩; have HW2 := Aside0.mk k1; have HP2 := Aside0.mk k2; clear k1 k2) | (go_at_call 46; refine hrot.out.mono ?_; rintro e' w2 ⟨rfl, d1, k1, k2, k3⟩; have HW1 := Aside0.mk k1; have HR1 := Aside0.mk (show R1 d a m b s e d1 from ⟨k2, permIn_mono d d1 s e a b S.out.as_ S.out.eb S.out.bz k3⟩); clear k1 k2 k3)
          all_goals (go_end0; exact ⟨rfl, _, HW3.out, S.out.fin HR1.out HP2.out HP3.out⟩)
        · exfalso
          have := S.out.am
          have := S.out.mb
          have := S.out.as_
          have := S.out.eb
          have lx := HN.out
          have l1 := lx.2.2.2.2.1
          have l2 := lx.2.2.2.2.2.1
          clear lx
          omega
        · have YL := Aside0.mk (show a < s ∧ s < mid from by omega)
          have NR := Aside0.mk (show ¬ (mid < e ∧ e < b) from by omega)
          have YT := Aside0.mk (show s < m ∧ m < e from by omega)
          have g1 : (s : Int) < (m : Int) := by omega
          have g2 : (m : Int) < (e : Int) := by omega
          have g3 : (a : Int) < (s : Int) := by omega
          have g4 : (s : Int) < (mid : Int) := by omega
          have g5 : (mid : Int) < (e : Int) := by omega
          have g6 : ¬ (e : Int) < (b : Int) := by omega
          have hrot := Aside0.mk (rotate_n blk off cap s m e n d0 d (.func (.func 25) #[] #[]) w0 wr HN.out.1 HW.out HN.out.2.1 HN.out.2.2.1 HN.out.2.2.2.1 YT.out.1 YT.out.2 (Nat.le_trans S.out.eb HN.out.2.2.2.2.2.2.1) (by have := HN.out; omega))
          have hL := Aside0.mk (fun (d1 : Array CallR) (w1 : World) (k1 : SWK crL 7 w0 blk off d1 w1) (k2 : R1 d a m b s e d1) => HIH.out a s mid d1 w1 (by have := S.out.mb; have := S.out.am; omega) YL.out.1 YL.out.2 (by have := S.out.mb; have := HN.out; omega) (k2.2.1.trans HN.out.2.2.2.1) k1 (S.out.parts k2).1 (S.out.parts k2).2.1)
          clear lR lL lQ lA lB lE hms
          have q3 := Aq3.out
          have q5 := Aq5.out
          have q8 := Aq8.out
          go_wp2_with first | (go_at_call 45; refine (hL.out _ _ HW1.out HR1.out).mono ?_; rintro e' w2 ⟨rfl, d2, k1, k2⟩; have HW2 := Aside0.mk k1; have HP2 := Aside0.mk k2; clear k1 k2; have HW3 := HW2; have HP3 := Aside0.mk (S.out.noR HR1.out HP2.out.1 NR.out)) | (go_at_call 46; refine hrot.out.mono ?_; rintro e' w2 ⟨rfl, d1, k1, k2, k3⟩; have HW1 := Aside0.mk k1; have HR1 := Aside0.mk (show R1 d a m b s e d1 from ⟨k2, permIn_mono d d1 s e a b S.out.as_ S.out.eb S.out.bz k3⟩); clear k1 k2 k3)
          all_goals (go_end0; exact ⟨rfl, _, HW3.out, S.out.fin HR1.out HP2.out HP3.out⟩)
        · have NL := Aside0.mk (show ¬ (a < s ∧ s < mid) from by omega)
          have YR := Aside0.mk (show mid < e ∧ e < b from by omega)
          have YT := Aside0.mk (show s < m ∧ m < e from by omega)
          have g1 : (s : Int) < (m : Int) := by omega
          have g2 : (m : Int) < (e : Int) := by omega
          have g3 : ¬ (a : Int) < (s : Int) := by omega
          have g5 : (mid : Int) < (e : Int) := by omega
          have g6 : (e : Int) < (b : Int) := by omega
          have hrot := Aside0.mk (rotate_n blk off cap s m e n d0 d (.func (.func 25) #[] #[]) w0 wr HN.out.1 HW.out HN.out.2.1 HN.out.2.2.1 HN.out.2.2.2.1 YT.out.1 YT.out.2 (Nat.le_trans S.out.eb HN.out.2.2.2.2.2.2.1) (by have := HN.out; omega))
          have hQ := Aside0.mk (fun (d1 d2 : Array CallR) (w1 : World) (k1 : SWK crL 7 w0 blk off d2 w1) (k2 : R1 d a m b s e d1) (k3 : PermIn a mid d1 d2) => HIH.out mid e b d2 w1 (by have := S.out.mb; have := S.out.am; omega) YR.out.1 YR.out.2 HN.out.2.2.2.2.2.2.1 (k3.1.trans (k2.2.1.trans HN.out.2.2.2.1)) k1 (sorted_far (S.out.parts k2).2.2.1 k3 (Nat.le_refl _)) (sorted_far (S.out.parts k2).2.2.2.1 k3 (Nat.le_of_lt YR.out.1)))
          clear lR lL lQ lA lB lE hms
          have q3 := Aq3.out
          have q5 := Aq5.out
          have q8 := Aq8.out
          go_wp2_with first | (go_at_call 45; refine (hQ.out _ _ _ HW2.out HR1.out HP2.out.1).mono ?_; rintro e' w2 ⟨rfl, d3, k1, k2⟩; have HW3 := Aside0.mk k1; have HP3 := Aside0.mk k2; clear k1 k2) | (go_at_call 46; refine hrot.out.mono ?_; rintro e' w2 ⟨rfl, d1, k1, k2, k3⟩; have HW1 := Aside0.mk k1; have HR1 := Aside0.mk (show R1 d a m b s e d1 from ⟨k2, permIn_mono d d1 s e a b S.out.as_ S.out.eb S.out.bz k3⟩); clear k1 k2 k3; have HW2 := HW1; have HP2 := Aside0.mk (S.out.noL HR1.out NL.out))
          all_goals (go_end0; exact ⟨rfl, _, HW3.out, S.out.fin HR1.out HP2.out HP3.out⟩)
        · exfalso
          have := S.out.am
          have := S.out.mb
          have := S.out.as_
          have := S.out.eb
          have lx := HN.out
          have l1 := lx.2.2.2.2.1
          have l2 := lx.2.2.2.2.2.1
          clear lx
          omega
        · have NL := Aside0.mk (show ¬ (a < s ∧ s < mid) from by omega)
          have NR := Aside0.mk (show ¬ (mid < e ∧ e < b) from by omega)
          have YT := Aside0.mk (show s < m ∧ m < e from by omega)
          have g1 : (s : Int) < (m : Int) := by omega
          have g2 : (m : Int) < (e : Int) := by omega
          have g3 : ¬ (a : Int) < (s : Int) := by omega
          have g5 : (mid : Int) < (e : Int) := by omega
          have g6 : ¬ (e : Int) < (b : Int) := by omega
          have hrot := Aside0.mk (rotate_n blk off cap s m e n d0 d (.func (.func 25) #[] #[]) w0 wr HN.out.1 HW.out HN.out.2.1 HN.out.2.2.1 HN.out.2.2.2.1 YT.out.1 YT.out.2 (Nat.le_trans S.out.eb HN.out.2.2.2.2.2.2.1) (by have := HN.out; omega))
          clear lR lL lQ lA lB lE hms
          have q3 := Aq3.out
          have q5 := Aq5.out
          have q8 := Aq8.out
          go_wp2_with first | (go_at_call 46; refine hrot.out.mono ?_; rintro e' w2 ⟨rfl, d1, k1, k2, k3⟩; have HW1 := Aside0.mk k1; have HR1 := Aside0.mk (show R1 d a m b s e d1 from ⟨k2, permIn_mono d d1 s e a b S.out.as_ S.out.eb S.out.bz k3⟩); clear k1 k2 k3; have HW2 := HW1; have HP2 := Aside0.mk (S.out.noL HR1.out NL.out); have HW3 := HW2; have HP3 := Aside0.mk (S.out.noR HR1.out HP2.out.1 NR.out))
          all_goals (go_end0; exact ⟨rfl, _, HW3.out, S.out.fin HR1.out HP2.out HP3.out⟩)
        · exfalso
          have := S.out.am
          have := S.out.mb
          have := S.out.as_
          have := S.out.eb
          have lx := HN.out
          have l1 := lx.2.2.2.2.1
          have l2 := lx.2.2.2.2.2.1
          clear lx
          omega
        · exfalso
          have := S.out.am
          have := S.out.mb
          have := S.out.as_
          have := S.out.eb
          have lx := HN.out
          have l1 := lx.2.2.2.2.1
          have l2 := lx.2.2.2.2.2.1
          clear lx
          omega
        · exfalso
          have := S.out.am
          have := S.out.mb
          have := S.out.as_
          have := S.out.eb
          have lx := HN.out
          have l1 := lx.2.2.2.2.1
          have l2 := lx.2.2.2.2.2.1
          clear lx
          omega
        · exfalso
          have := S.out.am
          have := S.out.mb
          have := S.out.as_
          have := S.out.eb
          have lx := HN.out
          have l1 := lx.2.2.2.2.1
          have l2 := lx.2.2.2.2.2.1
          clear lx
          omega
        · have HW1 := HW
          have HR1 := Aside0.mk (S.out.none (by omega))
          have YL := Aside0.mk (show a < s ∧ s < mid from by omega)
          have NR := Aside0.mk (show ¬ (mid < e ∧ e < b) from by omega)
          have g1 : ¬ (s : Int) < (m : Int) := by omega
          have g3 : (a : Int) < (s : Int) := by omega
          have g4 : (s : Int) < (mid : Int) := by omega
          have g5 : ¬ (mid : Int) < (e : Int) := by omega
          have hL := Aside0.mk (fun (d1 : Array CallR) (w1 : World) (k1 : SWK crL 7 w0 blk off d1 w1) (k2 : R1 d a m b s e d1) => HIH.out a s mid d1 w1 (by have := S.out.mb; have := S.out.am; omega) YL.out.1 YL.out.2 (by have := S.out.mb; have := HN.out; omega) (k2.2.1.trans HN.out.2.2.2.1) k1 (S.out.parts k2).1 (S.out.parts k2).2.1)
          clear lR lL lQ lA lB lE hms
          have q3 := Aq3.out
          have q5 := Aq5.out
          have q8 := Aq8.out
          go_wp2_with first | (go_at_call 45; refine (hL.out _ _ HW1.out HR1.out).mono ?_; rintro e' w2 ⟨rfl, d2, k1, k2⟩; have HW2 := Aside0.mk k1; have HP2 := Aside0.mk k2; clear k1 k2; have HW3 := HW2; have HP3 := Aside0.mk (S.out.noR HR1.out HP2.out.1 NR.out))
          all_goals (go_end0; exact ⟨rfl, _, HW3.out, S.out.fin HR1.out HP2.out HP3.out⟩)
        · exfalso
          have := S.out.am
          have := S.out.mb
          have := S.out.as_
          have := S.out.eb
          have lx := HN.out
          have l1 := lx.2.2.2.2.1
          have l2 := lx.2.2.2.2.2.1
          clear lx
          omega
        · exfalso
          have := S.out.am
          have := S.out.mb
          have := S.out.as_
          have := S.out.eb
          have lx := HN.out
          have l1 := lx.2.2.2.2.1
          have l2 := lx.2.2.2.2.2.1
          clear lx
          omega
        · exfalso
          have := S.out.am
          have := S.out.mb
          have := S.out.as_
          have := S.out.eb
          have lx := HN.out
          have l1 := lx.2.2.2.2.1
          have l2 := lx.2.2.2.2.2.1
          clear lx
          omega
        · exfalso
          have := S.out.am
          have := S.out.mb
          have := S.out.as_
          have := S.out.eb
          have lx := HN.out
          have l1 := lx.2.2.2.2.1
          have l2 := lx.2.2.2.2.2.1
          clear lx
          omega
        · exfalso
          have := S.out.am
          have := S.out.mb
          have := S.out.as_
          have := S.out.eb
          have lx := HN.out
          have l1 := lx.2.2.2.2.1
          have l2 := lx.2.2.2.2.2.1
          clear lx
          omega
        · have HW1 := HW
          have HR1 := Aside0.mk (S.out.none (by omega))
          have NL := Aside0.mk (show ¬ (a < s ∧ s < mid) from by omega)
          have NR := Aside0.mk (show ¬ (mid < e ∧ e < b) from by omega)
          have g1 : ¬ (s : Int) < (m : Int) := by omega
          have g3 : (a : Int) < (s : Int) := by omega
          have g4 : ¬ (s : Int) < (mid : Int) := by omega
          have g5 : ¬ (mid : Int) < (e : Int) := by omega
          have HW2 := HW1; have HP2 := Aside0.mk (S.out.noL HR1.out NL.out); have HW3 := HW2; have HP3 := Aside0.mk (S.out.noR HR1.out HP2.out.1 NR.out)
          clear lR lL lQ lA lB lE hms
          have q3 := Aq3.out
          have q5 := Aq5.out
          have q8 := Aq8.out
          go_wp2_with fail
          all_goals (go_end0; exact ⟨rfl, _, HW3.out, S.out.fin HR1.out HP2.out HP3.out⟩)
        · exfalso
          have := S.out.am
          have := S.out.mb
          have := S.out.as_
          have := S.out.eb
          have lx := HN.out
          have l1 := lx.2.2.2.2.1
          have l2 := lx.2.2.2.2.2.1
          clear lx
          omega
        · exfalso
          have := S.out.am
          have := S.out.mb
          have := S.out.as_
          have := S.out.eb
          have lx := HN.out
          have l1 := lx.2.2.2.2.1
          have l2 := lx.2.2.2.2.2.1
          clear lx
          omega
        · exfalso
          have := S.out.am
          have := S.out.mb
          have := S.out.as_
          have := S.out.eb
          have lx := HN.out
          have l1 := lx.2.2.2.2.1
          have l2 := lx.2.2.2.2.2.1
          clear lx
          omega
        · exfalso
          have := S.out.am
          have := S.out.mb
          have := S.out.as_
          have := S.out.eb
          have lx := HN.out
          have l1 := lx.2.2.2.2.1
          have l2 := lx.2.2.2.2.2.1
          clear lx
          omega
        · exfalso
          have := S.out.am
          have := S.out.mb
          have := S.out.as_
          have := S.out.eb
          have lx := HN.out
          have l1 := lx.2.2.2.2.1
          have l2 := lx.2.2.2.2.2.1
          clear lx
          omega
        · exfalso
          have := S.out.am
          have := S.out.mb
          have := S.out.as_
          have := S.out.eb
          have lx := HN.out
          have l1 := lx.2.2.2.2.1
          have l2 := lx.2.2.2.2.2.1
          clear lx
          omega
        · exfalso
          have := S.out.am
          have := S.out.mb
          have := S.out.as_
          have := S.out.eb
          have lx := HN.out
          have l1 := lx.2.2.2.2.1
          have l2 := lx.2.2.2.2.2.1
          clear lx
          omega
        · have HW1 := HW
          have HR1 := Aside0.mk (S.out.none (by omega))
          have NL := Aside0.mk (show ¬ (a < s ∧ s < mid) from by omega)
          have YR := Aside0.mk (show mid < e ∧ e < b from by omega)
          have g1 : (s : Int) < (m : Int) := by omega
          have g2 : ¬ (m : Int) < (e : Int) := by omega
          have g3 : (a : Int) < (s : Int) := by omega
          have g4 : ¬ (s : Int) < (mid : Int) := by omega
          have g5 : (mid : Int) < (e : Int) := by omega
          have g6 : (e : Int) < (b : Int) := by omega
          have HW2 := HW1; have HP2 := Aside0.mk (S.out.noL HR1.out NL.out)
          have hQ := Aside0.mk (fun (d1 d2 : Array CallR) (w1 : World) (k1 : SWK crL 7 w0 blk off d2 w1) (k2 : R1 d a m b s e d1) (k3 : PermIn a mid d1 d2) => HIH.out mid e b d2 w1 (by have := S.out.mb; have := S.out.am; omega) YR.out.1 YR.out.2 HN.out.2.2.2.2.2.2.1 (k3.1.trans (k2.2.1.trans HN.out.2.2.2.1)) k1 (sorted_far (S.out.parts k2).2.2.1 k3 (Nat.le_refl _)) (sorted_far (S.out.parts k2).2.2.2.1 k3 (Nat.le_of_lt YR.out.1)))
          clear lR lL lQ lA lB lE hms
          have q3 := Aq3.out
          have q5 := Aq5.out
          have q8 := Aq8.out
          go_wp2_with first | (go_at_call 45; refine (hQ.out _ _ _ HW2.out HR1.out HP2.out.1).mono ?_; rintro e' w2 ⟨rfl, d3, k1, k2⟩; have HW3 := Aside0.mk k1; have HP3 := Aside0.mk k2; clear k1 k2)
          all_goals (go_end0; exact ⟨rfl, _, HW3.out, S.out.fin HR1.out HP2.out HP3.out⟩)
        · exfalso
          have := S.out.am
          have := S.out.mb
          have := S.out.as_
          have := S.out.eb
          have lx := HN.out
          have l1 := lx.2.2.2.2.1
          have l2 := lx.2.2.2.2.2.1
          clear lx
          omega
        · exfalso
          have := S.out.am
          have := S.out.mb
          have := S.out.as_
          have := S.out.eb
          have lx := HN.out
          have l1 := lx.2.2.2.2.1
          have l2 := lx.2.2.2.2.2.1
          clear lx
          omega
end Go.Proofs.Ytamiglolpchplaa.Hand
