/- The book's look-ups. -/
import Derived.Test.YtofegigbhohebaaTB5
namespace Go.Proofs.Ytofegigbhohebaa.Hand
open Go.RowKit Go.Proofs.Ytofegigbhohebaa Go.Proofs.YtofegigbhohebaaW.PrintWords Go.Proofs.YtofegigbhohebaaW.PrintLast
set_option linter.unusedVariables false
set_option linter.unusedSimpArgs false
theorem BI.cells {own : Nat → Nat} {gb : Nat} {gs : List Nat} {ps : List ProdV} {w : World} (h : BI own gb gs ps w) : ∃ A c B, w.cell? ⟨gb, 0, none⟩ = some (.slice A ps.length c) ∧ w.cell? ⟨gb, 1, none⟩ = some (.map (some B)) ∧ w.cell? ⟨gb, 2, none⟩ = some (.bool true) ∧ MapS w B (nmsOf ps) ∧ ps.length ≤ 9223372036854775807 ∧
    ∀ i, i < ps.length → ∃ ad, A = some ad ∧ w.cell? (ad.add i) = some (.pointer (some ⟨gs.getD i 0, 0, none⟩)) := by
  obtain ⟨A, c, B, hb, hr, hm, -⟩ := h.book
  have hC := (Kd.R_reads' hr).2.2
  refine ⟨A, c, B, (blk_cell hb 0).trans rfl, (blk_cell hb 1).trans rfl, (blk_cell hb 2).trans rfl, hm, by have := Kd.C_max hC; rw [h.len] at this; exact this, fun i hi => ?_⟩
  rw [h.len] at hC
  obtain ⟨ad, cs, hA, -, hK, hcell⟩ := ReadsRow.get_ hC 0 (i : Int) (by omega) (by omega)
  rw [Int.toNat_natCast] at hK hcell
  have hK' : cs = [.pointer (some ⟨gs.getD i 0, 0, none⟩)] := hK
  subst hK'
  have g := hcell 0 _ rfl
  rw [show i * kPtr.sz + 0 = i from Nat.mul_one i] at g
  exact ⟨ad, hA, g⟩
/-- What Status answers. -/
def statusF (ps : List ProdV) (k : Int) : Int × Int × Bool := if 0 ≤ k ∧ k < ps.length then ((prodAt ps k).status, (prodAt ps k).epoch, true) else (0, 0, false)
/-- What Find answers. -/
def findF (ps : List ProdV) (s : ByteArray) : Int × Int × Bool := if s ∈ nmsOf ps then (idxV (nmsOf ps) s, (prodAt ps (idxV (nmsOf ps) s)).epoch, true) else (0, 0, false)
def placesF (ps : List ProdV) (k : Int) : List Int := if 0 ≤ k ∧ k < ps.length then (prodAt ps k).places else []
set_option maxHeartbeats 1600000 in
set_option maxRecDepth 100000 in
theorem status_c {own : Nat → Nat} {gb : Nat} {gs : List Nat} {ps : List ProdV} {w : World} (h : BI own gb gs ps w) (k : Int) : Calls Try.prog 18 #[.pointer (some ⟨gb, 0, none⟩), .int .i64 k] w fun e w' => e = .returned (.tuple #[.int .i64 (statusF ps k).1, .int .i64 (statusF ps k).2.1, .bool (statusF ps k).2.2]) ∧ Below w.heap.size w w' := by
  have H := Aside0.mk h
  obtain ⟨A, c, B, c0, c1, c2, -, hmax, hrow⟩ := h.cells
  by_cases hk : 0 ≤ k ∧ k < ps.length
  · have HF := Aside0.mk (show statusF ps k = ((prodAt ps k).status, (prodAt ps k).epoch, true) from if_pos hk)
    rw [HF.out]
    obtain ⟨hk0, hk1⟩ := hk
    obtain ⟨j, rfl⟩ := Int.eq_ofNat_of_zero_le hk0
    have hj : j < ps.length := by omega
    obtain ⟨ad, rfl, hcell⟩ := hrow j hj
    obtain ⟨-, v, hb, -⟩ := h.prod j hj
    unfold prodAt
    rw [Int.toNat_natCast]
    generalize ps.getD j prod0 = p at hb ⊢
    generalize gs.getD j 0 = g at hb hcell
    have p3 : w.cell? ⟨g, 3, none⟩ = some (.int .i64 p.status) := (blk_cell hb 3).trans rfl
    have p2 : w.cell? ⟨g, 2, none⟩ = some (.int .i64 p.epoch) := (blk_cell hb 2).trans rfl
    clear hrow hb h hk0 HF
    go_enter Try.func18, Try.ntmps18
    go_wp2_with (first | (go_at_call 35; refine (none_c H.out).mono ?_; rintro e w' ⟨rfl, rfl⟩) | fail)
    go_quiet (fail)
    go_wp2_with fail
    exact bodyPost_ret (v := .tuple #[.int .i64 p.status, .int .i64 p.epoch, .bool true]) (by simp [results, Try.results18, go_sem]) rfl ⟨rfl, pw_below_drewN (Below.refl _ _) nq⟩
  · rw [show statusF ps k = (0, 0, false) from if_neg hk]
    clear hrow h
    by_cases hk0 : k < 0
    · go_enter Try.func18, Try.ntmps18
      go_wp2_with (first | (go_at_call 35; refine (none_c H.out).mono ?_; rintro e w' ⟨rfl, rfl⟩) | fail)
      exact bodyPost_ret (v := .tuple #[.int .i64 0, .int .i64 0, .bool false]) (by simp [results, Try.results18, go_sem]) rfl ⟨rfl, Below.refl _ _⟩
    · have hk1 : (ps.length : Int) ≤ k := by omega
      go_enter Try.func18, Try.ntmps18
      go_wp2_with (first | (go_at_call 35; refine (none_c H.out).mono ?_; rintro e w' ⟨rfl, rfl⟩) | fail)
      exact bodyPost_ret (v := .tuple #[.int .i64 0, .int .i64 0, .bool false]) (by simp [results, Try.results18, go_sem]) rfl ⟨rfl, Below.refl _ _⟩
set_option maxHeartbeats 1600000 in
set_option maxRecDepth 100000 in
theorem find_c {own : Nat → Nat} {gb : Nat} {gs : List Nat} {ps : List ProdV} {w : World} (h : BI own gb gs ps w) (hg : Good ps) (s : ByteArray) : Calls Try.prog 23 #[.pointer (some ⟨gb, 0, none⟩), .string s] w fun e w' => e = .returned (.tuple #[.int .i64 (findF ps s).1, .int .i64 (findF ps s).2.1, .bool (findF ps s).2.2]) ∧ Below w.heap.size w w' := by
  have H := Aside0.mk h
  obtain ⟨A, c, B, c0, c1, c2, hm, hmax, hrow⟩ := h.cells
  have hlk := hm.look hg.nd s
  by_cases hs : s ∈ nmsOf ps
  · have HF := Aside0.mk (show findF ps s = (idxV (nmsOf ps) s, (prodAt ps (idxV (nmsOf ps) s)).epoch, true) from if_pos hs)
    obtain ⟨hlt, hix⟩ := idx_lt hs
    have hd : decide (s ∈ nmsOf ps) = true := decide_eq_true hs
    rw [hd] at hlk
    rw [hix, Int.toNat_natCast] at hlt
    rw [hix] at hlk HF
    generalize (nmsOf ps).idxOf s = j at hlk hlt HF
    obtain ⟨ad, rfl, hcell⟩ := hrow j hlt
    obtain ⟨-, v, hb, -⟩ := h.prod j hlt
    have HG := Aside0.mk (show (prodAt ps (j : Int)).epoch = (ps.getD j prod0).epoch by unfold prodAt; rw [Int.toNat_natCast])
    generalize ps.getD j prod0 = p at hb HG
    generalize gs.getD j 0 = g at hb hcell
    have p2 : w.cell? ⟨g, 2, none⟩ = some (.int .i64 p.epoch) := (blk_cell hb 2).trans rfl
    rw [HF.out]
    dsimp only
    rw [HG.out]
    clear hrow hb h hm hix hs hd HF HG
    go_enter Try.func23, Try.ntmps23
    go_wp2_with (first | (go_at_call 35; refine (none_c H.out).mono ?_; rintro e w' ⟨rfl, rfl⟩) | fail)
    go_quiet (fail)
    go_wp2_with fail
    exact bodyPost_ret (v := .tuple #[.int .i64 j, .int .i64 p.epoch, .bool true]) (by simp [results, Try.results23, go_sem]) rfl ⟨rfl, pw_below_drewN (Below.refl _ _) nq⟩
  · rw [show findF ps s = (0, 0, false) from if_neg hs]
    have hd : decide (s ∈ nmsOf ps) = false := decide_eq_false hs
    rw [hd] at hlk
    clear hrow h hm hs hd
    go_enter Try.func23, Try.ntmps23
    go_wp2_with (first | (go_at_call 35; refine (none_c H.out).mono ?_; rintro e w' ⟨rfl, rfl⟩) | fail)
    exact bodyPost_ret (v := .tuple #[.int .i64 0, .int .i64 0, .bool false]) (by simp [results, Try.results23, go_sem]) rfl ⟨rfl, Below.refl _ _⟩
set_option maxHeartbeats 1600000 in
set_option maxRecDepth 100000 in
theorem grant_c {own : Nat → Nat} {gb : Nat} {gs : List Nat} {ps : List ProdV} {w : World} (h : BI own gb gs ps w) (hg : Good ps) (x : EvV) : Calls Try.prog 39 #[.pointer (some ⟨gb, 0, none⟩), evE x] w fun e w' => e = .returned (.tuple #[.bool false, .int .i64 (grantF ps x)]) ∧ Below w.heap.size w w' := by
  obtain ⟨o1, ho1⟩ : ∃ o1 : Obj, o1 = .cells #[.int .i64 x.kind, .string x.name, .int .i64 x.producer, .int .i64 x.epoch, .int .i64 x.place, .int .i64 x.timeout, .int .i64 x.now, .bool x.yes] 33 (0, 0) := ⟨_, rfl⟩
  have hb1 := below_alloc (Below.refl w.heap.size w) o1
  have h1 := h.below hb1
  have HB := Aside0.mk hb1
  obtain ⟨A, c, B, c0, c1, c2, hm, hmax, hrow⟩ := h1.cells
  have b1 := heap_alloc_new w o1
  rw [ho1] at b1
  have x1 := (blk_cell b1 1).trans rfl
  have hlk : ∀ n, (Instr.lookup 60 (.map (some B)) (.string x.name) true).run Try.prog ((w.alloc o1).drewN n) = .ok (.tuple #[.int .i64 (idxV (nmsOf ps) x.name), .bool (decide (x.name ∈ nmsOf ps))]) ((w.alloc o1).drewN n) := fun n => (hm.move (W' := (w.alloc o1).drewN n) rfl).look hg.nd x.name
  clear b1 hb1 hm
  unfold grantF evE
  by_cases hs : x.name ∈ nmsOf ps
  · obtain ⟨hlt, hix⟩ := idx_lt hs
    have hd : decide (x.name ∈ nmsOf ps) = true := decide_eq_true hs
    simp only [hd] at hlk
    rw [if_pos hs]
    rw [hix] at hlk ⊢
    rw [hix, Int.toNat_natCast] at hlt
    generalize (nmsOf ps).idxOf x.name = j at hlk hlt ⊢
    obtain ⟨ad, rfl, hcell⟩ := hrow j hlt
    obtain ⟨-, v, hb, -⟩ := h1.prod j hlt
    have HG := Aside0.mk (show prodAt ps (j : Int) = ps.getD j prod0 by unfold prodAt; rw [Int.toNat_natCast])
    rw [HG.out]
    generalize ps.getD j prod0 = p at hb ⊢
    generalize gs.getD j 0 = g at hb hcell
    have p2 : (w.alloc o1).cell? ⟨g, 2, none⟩ = some (.int .i64 p.epoch) := (blk_cell hb 2).trans rfl
    have PB := Aside0.mk hb
    clear hrow hb h1 h hix hs hd HG
    subst ho1
    cases hen : endsP p with
    | true =>
      rw [if_pos rfl]
      go_enter Try.func39, Try.ntmps39
      go_wp2_with fail
      go_quiet (fail)
      go_wp2_with (first | (go_at_call 42; refine (ends_c g p v _ (blk_below PB.out (pw_below_drewN (Below.refl _ _) nq))).mono ?_; rintro e w' ⟨rfl, rfl⟩; rw [hen]) | fail)
      exact bodyPost_ret (v := .tuple #[.bool false, .int .i64 54]) (by simp [results, Try.results39, go_sem]) rfl ⟨rfl, pw_below_drewN HB.out nq⟩
    | false =>
      rw [if_neg (by decide)]
      by_cases hep : p.epoch = 2147483647
      · rw [if_pos hep]
        rw [hep] at p2
        go_enter Try.func39, Try.ntmps39
        go_wp2_with fail
        go_quiet (fail)
        go_wp2_with (first | (go_at_call 42; refine (ends_c g p v _ (blk_below PB.out (pw_below_drewN (Below.refl _ _) nq))).mono ?_; rintro e w' ⟨rfl, rfl⟩; rw [hen]) | fail)
        exact bodyPost_ret (v := .tuple #[.bool false, .int .i64 53]) (by simp [results, Try.results39, go_sem]) rfl ⟨rfl, pw_below_drewN HB.out nq⟩
      · rw [if_neg hep]
        have hq : (p.epoch == 2147483647) = false := beq_eq_false_iff_ne.2 hep
        go_enter Try.func39, Try.ntmps39
        go_wp2_with fail
        go_quiet (fail)
        go_wp2_with (first | (go_at_call 42; refine (ends_c g p v _ (blk_below PB.out (pw_below_drewN (Below.refl _ _) nq))).mono ?_; rintro e w' ⟨rfl, rfl⟩; rw [hen]) | fail)
        exact bodyPost_ret (v := .tuple #[.bool false, .int .i64 0]) (by simp [results, Try.results39, go_sem]) rfl ⟨rfl, pw_below_drewN HB.out nq⟩
  · have hd : decide (x.name ∈ nmsOf ps) = false := decide_eq_false hs
    simp only [hd] at hlk
    rw [if_neg hs]
    clear hrow h1 h hs hd
    subst ho1
    by_cases hl : 1000 ≤ ps.length
    · rw [if_pos hl]
      go_enter Try.func39, Try.ntmps39
      go_wp2_with fail
      go_quiet (fail)
      go_wp2_with fail
      exact bodyPost_ret (v := .tuple #[.bool false, .int .i64 7]) (by simp [results, Try.results39, go_sem]) rfl ⟨rfl, pw_below_drewN HB.out nq⟩
    · rw [if_neg hl]
      go_enter Try.func39, Try.ntmps39
      go_wp2_with fail
      go_quiet (fail)
      go_wp2_with fail
      exact bodyPost_ret (v := .tuple #[.bool false, .int .i64 0]) (by simp [results, Try.results39, go_sem]) rfl ⟨rfl, pw_below_drewN HB.out nq⟩
end Go.Proofs.Ytofegigbhohebaa.Hand
