/- A config as the program has it; a chain as the program has it. -/
import Derived.Test.YtpcoelimabojcaaHC5
namespace Go.Proofs.Ytpcoelimabojcaa.Hand
open Go.RowKit Go.Proofs.Ytpcoelimabojcaa Go.Proofs.YtpcoelimabojcaaW.PrintWords Go.Proofs.YtpcoelimabojcaaW.PrintLast
set_option linter.unusedVariables false
set_option linter.unusedSimpArgs false
section
variable {W w : World} {g t B : Nat} {a b c x y z : Value}
theorem put3 (h : W.heap[g]? = some (.cells #[a, b, c] t (0, 0))) : (((W.setCell ⟨g, 0, none⟩ x).setCell ⟨g, 1, none⟩ y).setCell ⟨g, 2, none⟩ z).heap[g]? = some (.cells #[x, y, z] t (0, 0)) := blk_put (blk_put (blk_put h 0 x rfl) 1 y rfl) 2 z rfl
theorem put3_R {α : Type} {d : Kd α} {e base : Nat} {ok : Nat → Prop} {v : Value} {xs : List α} (hr : d.R e W base ok v xs) (h : W.heap[g]? = some (.cells #[a, b, c] t (0, 0))) (ht : ∀ q, q ∈ e :: d.E → q ≠ t) :
    d.R e (((W.setCell ⟨g, 0, none⟩ x).setCell ⟨g, 1, none⟩ y).setCell ⟨g, 2, none⟩ z) base ok v xs := Kd.R_set (Kd.R_set (Kd.R_set hr h ht 0 x) (blk_put h 0 x rfl) ht 1 y) (blk_put (blk_put h 0 x rfl) 1 y rfl) ht 2 z
theorem put3_B (hb : Below B w W) (hg : B ≤ g) : Below B w (((W.setCell ⟨g, 0, none⟩ x).setCell ⟨g, 1, none⟩ y).setCell ⟨g, 2, none⟩ z) := ((hb.setCell (p := ⟨g, 0, none⟩) hg x).setCell (p := ⟨g, 1, none⟩) hg y).setCell (p := ⟨g, 2, none⟩) hg z
end
def TG20 : Bool × List (List Nat × List Nat) := (true, [([], []), ([0], [0]), ([], []), ([], []), ([3], [3]), ([2, 4], [2, 4]), ([1, 5], [1, 5]), ([6, 5, 0, 1, 2, 3, 4, 5, 6], [6])])
def BG20 : List Nat := [0, 1, 0, 0, 8, 28, 63, 127]
theorem tabG20 : rtab .any (opsOf Try.f20 1) = TG20 := by kernel_rfl
theorem bitsG20 : waitsOk TG20.2 BG20 = true := by kernel_rfl
set_option maxHeartbeats 3200000 in
set_option maxRecDepth 100000 in
theorem config_c (id : Int) (A : Option Addr) (c : Nat) (l : List Int) (W : World) (hr : Kd.C (Kd.int .i64) W A l.length l) (hl : l.length * 8 ≤ 140737488355328) :
    Calls Try.prog 20 #[.agg #[.int .i64 id, .slice A l.length c]] W fun e W' => ∃ A' c', e = .returned (.agg #[.int .i64 id, .slice A' l.length c']) ∧ Kd.R (Kd.int .i64) 3 W' W.heap.size (fun _ => True) (.slice A' l.length c') l ∧ Below W.heap.size W W' := by
  have HR := Aside0.mk hr
  clear hr
  obtain ⟨o1, ho1⟩ : ∃ o1 : Obj, o1 = .cells #[.int .i64 id, .slice A l.length c] 45 (0, 0) := ⟨_, rfl⟩
  obtain ⟨o2, ho2⟩ : ∃ o2 : Obj, o2 = .cells #[.int .i64 0, .slice none 0 0] 41 (0, 0) := ⟨_, rfl⟩
  have e1 : (W.alloc o1).heap.size = W.heap.size + 1 := Array.size_push _
  have BX := Aside0.mk (blk_drew (blk_alloc (heap_alloc_new W o1) o2))
  have b2 := heap_alloc_new (W.alloc o1) o2
  rw [e1] at b2
  have BR := Aside0.mk (blk_drew b2)
  have HB := Aside0.mk (below_drew1 (below_alloc (below_alloc (Below.refl W.heap.size W) o1) o2))
  subst ho1 ho2
  clear b2 e1
  go_enter Try.func20, Try.ntmps20
  go_wp2_with fail
  refine start_ (n := 8) (S := fun w' => w'.cell? ⟨W.heap.size, 0, none⟩ = some (.int .i64 id) ∧ w'.cell? ⟨W.heap.size, 1, none⟩ = some (.slice A l.length c)) (ds := [7]) #[false, false, false, false, false, false, false, false] (by kernel_rfl) rfl rfl ⟨(blk_cell BX.out 0).trans rfl, (blk_cell BX.out 1).trans rfl⟩ (fun hHeld => ?_); refine with_tabW tabG20 bitsG20 (fun HT_ HW_ => ?_)
  generalize hwd : ((W.alloc _).alloc _).drew = Wd at BX BR HB hHeld ⊢
  clear hwd
  refine pure_ (i := 0) (N := (some 3)) (v := ?_) (a' := ?_) #[true, false, false, false, false, false, false, false] rfl rfl (any_of HT_.out (by kernel_rfl)) (fun _ _ _ h => h) (Or.inl ⟨by rfl, ?_⟩) ?_ ?_
  rotate_left
  · intro w'
    go_simp
    with_reducible rfl
  rotate_left
  · simp only [Act.put, List.setIfInBounds_toArray, List.set_cons_zero, List.set_cons_succ, i64_w, i32_w]
    rfl
  refine take_ (i := 1) (N := (some 4)) (v := ?_) (a' := ?_) #[true, true, false, false, false, false, false, false] rfl rfl (take_ofW HT_.out HW_.out (by kernel_rfl)) (fun _ _ _ h => h) (Or.inl ⟨by rfl, ?_⟩) hHeld ?_ ?_
  rotate_left
  · rintro w' ⟨s0, s1⟩
    go_simp
    with_reducible rfl
  rotate_left
  · simp only [Act.put, List.setIfInBounds_toArray, List.set_cons_zero, List.set_cons_succ, i64_w, i32_w]
    rfl
  refine pure_ (i := 3) (N := (some 6)) (v := ?_) (a' := ?_) #[true, true, false, true, false, false, false, false] rfl rfl (any_of HT_.out (by kernel_rfl)) (fun _ _ _ h => h) (Or.inl ⟨by rfl, ?_⟩) ?_ ?_
  rotate_left
  · intro w'
    go_simp
    with_reducible rfl
  rotate_left
  · simp only [Act.put, List.setIfInBounds_toArray, List.set_cons_zero, List.set_cons_succ, i64_w, i32_w]
    rfl
  refine take_ (i := 4) (N := (some 7)) (v := ?_) (a' := ?_) #[true, true, false, true, true, false, false, false] rfl rfl (take_ofW HT_.out HW_.out (by kernel_rfl)) (fun _ _ _ h => h) (Or.inl ⟨by rfl, ?_⟩) hHeld ?_ ?_
  rotate_left
  · rintro w' ⟨s0, s1⟩
    go_simp
    with_reducible rfl
  rotate_left
  · simp only [Act.put, List.setIfInBounds_toArray, List.set_cons_zero, List.set_cons_succ, i64_w, i32_w]
    rfl
  refine one_ (i := 2) (N := (some 5)) #[true, true, true, true, true, false, false, false] rfl rfl (one_of HT_.out (by kernel_rfl)) (by decide) (fun K hK => ?_)
  refine Kd.R_lit_step (Kd.int .i64) (w0 := Wd) Wd.heap.size 3 (by rfl) (N := 5) rfl (xs := ([] : List Int)) (inner := []) (ok := fun _ => True) (okp := fun _ => True) ?hr ?hp (fun _ h => h) trivial (Below.refl _ _) (Nat.le_refl _) (by simp) ?_
  case hr => first | (go_simp; done) | (go_simp; rfl)
  case hp => exact Reps.none _ _
  intro vl_ w4 HOl_ hbl_ hgl_ hatl_
  have HL4 := Aside0.mk HOl_
  have HB4 := Aside0.mk hbl_
  have BX4 := Aside0.mk (blk_below BX.out hbl_)
  have HC4 := Aside0.mk (Kd.C_below HR.out (HB.out.trans (hbl_.mono HB.out.size)))
  clear HOl_ hbl_ hgl_ hatl_
  refine hK.out _ _ ⟨(blk_cell BX4.out 0).trans rfl, (blk_cell BX4.out 1).trans rfl⟩ (fun hHeld => ?_)
  clear hK K
  refine norm_ (a' := ?_) ?_ ?_
  rotate_left
  · show Act.put _ (some 5) _ = _
    simp only [Act.put, List.setIfInBounds_toArray, List.set_cons_zero, List.set_cons_succ, i64_w, i32_w]
    rfl
  refine one_ (i := 5) (N := (some 8)) #[true, true, true, true, true, true, false, false] rfl rfl (one_of HT_.out (by kernel_rfl)) (by decide) (fun K hK => ?_)
  refine Kd.R_append_rows_step (Kd.int .i64) (w0 := Wd) Wd.heap.size (by rfl) (.tmp 5) (.tmp 7) 36 3 (.int .i64 0) 8 rfl Try.underlying36 infoI rfl (by decide) (by decide) vl_ [] l A _ c (fun _ => True) (fun _ => False) rfl rfl HL4.out HC4.out (fun x cs h => h) (fun k h => h.elim) (fun _ _ => trivial) HB4.out HB4.out.size (by simp; omega) ?_
  intro v5 w5 ho_ hb_ hg_ hat_
  rw [List.nil_append] at ho_
  obtain ⟨A5, c5, rfl⟩ := Kd.R_slice ho_
  have HL5 := Aside0.mk ho_
  have HB5 := Aside0.mk hb_
  have BX5 := Aside0.mk (blk_below BX.out hb_)
  have BR5 := Aside0.mk (blk_below BR.out hb_)
  clear ho_ hb_ hg_ hat_ HL4 HB4 HC4 BX4
  have z0 : w5.cell? ⟨W.heap.size + 1, 0, none⟩ = some (.int .i64 0) := (blk_cell BR5.out 0).trans rfl
  have z1 : w5.cell? ⟨W.heap.size + 1, 1, none⟩ = some (.slice none 0 0) := (blk_cell BR5.out 1).trans rfl
  have f0 := blk_frozen BR5.out 0
  have f1 := blk_frozen BR5.out 1
  refine hK.out _ _ ⟨(blk_cell BX5.out 0).trans rfl, (blk_cell BX5.out 1).trans rfl⟩ (fun hHeld => ?_)
  clear hK K
  refine norm_ (a' := ?_) ?_ ?_
  rotate_left
  · show Act.put _ (some 8) _ = _
    simp only [Act.put, List.setIfInBounds_toArray, List.set_cons_zero, List.set_cons_succ, i64_w, i32_w]
    rfl
  refine pure_ (i := 6) (N := (some 9)) (v := ?_) (a' := ?_) #[true, true, true, true, true, true, true, false] rfl rfl (any_of HT_.out (by kernel_rfl)) (fun _ _ _ h => h) (Or.inl ⟨by rfl, ?_⟩) ?_ ?_
  rotate_left
  · intro w'
    go_simp
    with_reducible rfl
  rotate_left
  · simp only [Act.put, List.setIfInBounds_toArray, List.set_cons_zero, List.set_cons_succ, i64_w, i32_w]
    rfl
  refine last_ (i := 7) (N := none) #[true, true, true, true, true, true, true, true] rfl rfl (one_of HT_.out (by kernel_rfl)) (by decide) (fun K hK => ?_)
  refine skip_ (w1 := ?_) (by rfl) rfl ?_ ?_
  rotate_left
  · go_simp
    rfl
  refine hK.out _ _ ?_
  clear hK K
  refine done_ (done_of HT_.out (by kernel_rfl)) ?_
  clear hHeld HT_ HW_ z0 z1 f0 f1
  have K2 := blk_put (blk_put BR5.out 0 (.int .i64 id) rfl) 1 (.slice A5 l.length c5) rfl
  have HL6 := Aside0.mk (Kd.R_set (Kd.R_set HL5.out BR5.out (by decide) 0 (.int .i64 id)) (blk_put BR5.out 0 (.int .i64 id) rfl) (by decide) 1 (.slice A5 l.length c5))
  have HB6 := Aside0.mk (show Below W.heap.size W ((w5.setCell ⟨W.heap.size + 1, 0, none⟩ (.int .i64 id)).setCell ⟨W.heap.size + 1, 1, none⟩ (.slice A5 l.length c5)) from ((HB.out.trans (HB5.out.mono HB.out.size)).setCell (p := ⟨W.heap.size + 1, 0, none⟩) (Nat.le_succ _) _).setCell (p := ⟨W.heap.size + 1, 1, none⟩) (Nat.le_succ _) _)
  have HS6 := Aside0.mk HB.out.size
  clear BR5 BX5 HL5 HB5
  generalize ((w5.setCell ⟨W.heap.size + 1, 0, none⟩ (.int .i64 id)).setCell ⟨W.heap.size + 1, 1, none⟩ (.slice A5 l.length c5)) = w6 at *
  have r0 : w6.cell? ⟨W.heap.size + 1, 0, none⟩ = some (.int .i64 id) := (blk_cell K2 0).trans rfl
  have r1 : w6.cell? ⟨W.heap.size + 1, 1, none⟩ = some (.slice A5 l.length c5) := (blk_cell K2 1).trans rfl
  clear K2
  go_wp2_with fail
  exact bodyPost_ret (v := .agg #[.int .i64 id, .slice A5 l.length c5]) (by simp [results, Try.results20, go_sem, r0, r1]) rfl ⟨A5, c5, rfl, Kd.R_lower HL6.out HS6.out, HB6.out⟩
def TG10 : Bool × List (List Nat × List Nat) := (true, [([], []), ([0], [0]), ([], []), ([2], [2]), ([], []), ([3, 4], [3, 4]), ([5], [5]), ([6], [6]), ([], []), ([8], [8]), ([], []), ([9, 10], [9, 10]), ([11], [11]), ([12], [12]), ([13], [13]), ([7, 14], [7, 14]), ([15], [15]), ([1, 16, 14], [1, 16]), ([0, 1, 2, 3, 4, 5, 6, 7, 8, 9, 10, 11, 12, 13, 14, 15, 16, 17], []), ([18, 17, 17, 0, 1, 2, 3, 4, 5, 6, 7, 8, 9, 10, 11, 12, 13, 14, 15, 16, 17], [17, 18])])
def BG10 : List Nat := [0, 1, 0, 4, 0, 28, 60, 124, 0, 256, 0, 1792, 3840, 7936, 16128, 32764, 65532, 131071, 262143, 524287]
theorem tabG10 : rtab .any (opsOf Try.f10 5) = TG10 := by kernel_rfl
theorem bitsG10 : waitsOk TG10.2 BG10 = true := by kernel_rfl
set_option maxHeartbeats 6400000 in
set_option maxRecDepth 100000 in
theorem own_c (ow tr : Int) (A : Option Addr) (c : Nat) (ps : List PartV) (W : World) (hr : Kd.C k53 W A ps.length ps) (hl : ps.length * 40 ≤ 140737488355328) (hn : ∀ p ∈ ps, p.nodes.length * 8 ≤ 140737488355328) :
    Calls Try.prog 10 #[.agg #[.int .i64 ow, .int .i64 tr, .slice A ps.length c]] W fun e W' => ∃ A' c', e = .returned (.agg #[.int .i64 ow, .int .i64 tr, .slice A' ps.length c']) ∧ Kd.R k53 53 W' 0 (fun k => W.heap.size ≤ k) (.slice A' ps.length c') ps ∧ Below W.heap.size W W' := by
  have HR := Aside0.mk hr
  have HN := Aside0.mk hn
  have hmax := Kd.C_max hr
  clear hr hn
  obtain ⟨o1, ho1⟩ : ∃ o1 : Obj, o1 = .cells #[.int .i64 ow, .int .i64 tr, .slice A ps.length c] 24 (0, 0) := ⟨_, rfl⟩
  obtain ⟨o2, ho2⟩ : ∃ o2 : Obj, o2 = .cells #[.int .i64 0, .int .i64 0, .slice none 0 0] 27 (0, 0) := ⟨_, rfl⟩
  obtain ⟨o3, ho3⟩ : ∃ o3 : Obj, o3 = .cells #[.int .i64 ow, .int .i64 tr, .slice none 0 0] 27 (0, 0) := ⟨_, rfl⟩
  have e1 : (W.alloc o1).heap.size = W.heap.size + 1 := Array.size_push _
  have e2 : ((W.alloc o1).alloc o2).heap.size = W.heap.size + 1 + 1 := by rw [← e1]; exact Array.size_push _
  have BX0 := Aside0.mk (blk_alloc (blk_alloc (heap_alloc_new W o1) o2) o3)
  have b2 := blk_alloc (heap_alloc_new (W.alloc o1) o2) o3
  rw [e1] at b2
  have BR0 := Aside0.mk b2
  have b3 := heap_alloc_new ((W.alloc o1).alloc o2) o3
  rw [e2] at b3
  have BO0 := Aside0.mk b3
  have HB0 := Aside0.mk (below_alloc (below_alloc (below_alloc (Below.refl W.heap.size W) o1) o2) o3)
  have e3 : (((W.alloc o1).alloc o2).alloc o3).heap.size = W.heap.size + 1 + 1 + 1 := by rw [← e2]; exact Array.size_push _
  subst ho1 ho2 ho3
  clear b2 b3 e1 e2 e3
  go_enter Try.func10, Try.ntmps10
  go_wp2_with fail
  go_loopw [4] (fun u4 wr => ∃ (i : Nat) (v : Value), i ≤ ps.length ∧ u4 = .int .i64 i ∧ Aside0 (wr.heap[W.heap.size]? = some (.cells #[.int .i64 ow, .int .i64 tr, .slice A ps.length c] 24 (0, 0))) ∧ Aside0 (wr.heap[W.heap.size + 1]? = some (.cells #[.int .i64 0, .int .i64 0, .slice none 0 0] 27 (0, 0))) ∧ Aside0 (wr.heap[W.heap.size + 1 + 1]? = some (.cells #[.int .i64 ow, .int .i64 tr, v] 27 (0, 0))) ∧ Aside0 (Kd.R k53 53 wr 0 (fun k => W.heap.size + 1 + 1 < k) v (ps.take i)) ∧ Aside0 (Below W.heap.size W wr)) (fun u4 wr => ps.length - (intOf u4).toNat)
  case atStart => exact ⟨0, _, by omega, rfl, BX0, BR0, BO0, ⟨Kd.R_nil _ _ _ _ _⟩, HB0⟩
  case round =>
    obtain ⟨i, v, hi, rfl, BX, BR, BO, HO, HB⟩ := hrel
    clear BX0 BR0 BO0 HB0
    have bx2 : wr.cell? ⟨W.heap.size, 2, none⟩ = some (.slice A ps.length c) := (blk_cell BX.out 2).trans rfl
    by_cases hi1 : i < ps.length
    · have hd : decide ((i : Int) < (ps.length : Int)) = true := by rw [decide_eq_true_eq]; omega
      obtain ⟨ad, A1, c1, hA, hc1, hC1, hcc⟩ := part_cells HR.out i hi1
      subst hA
      have hln := HN.out _ (List.getElem_mem hi1)
      have htk : ps.take (i + 1) = ps.take i ++ [ps[i]] := by simp
      have hcw := hcc wr.drew (below_drew1 HB.out)
      clear hcc
      obtain ⟨pt, hpt⟩ : ∃ pt, ps[i] = pt := ⟨_, rfl⟩
      rw [hpt] at hc1 hC1 hln htk hcw
      clear hpt
      have HTK := Aside0.mk htk
      have HC1 := Aside0.mk hC1
      have HCW := Aside0.mk hcw
      obtain ⟨Av, cv, hv⟩ := Kd.R_slice HO.out
      have hli : (ps.take i).length = i := by rw [List.length_take]; omega
      rw [hli] at hv
      subst hv
      have HLI := Aside0.mk hli
      clear htk hC1 hcw hli
      obtain ⟨pf, pid, pl⟩ := pt
      dsimp only at *
      go_wp2_with fail
      clear bx2
      have BXd := Aside0.mk (blk_drew BX.out)
      have BRd := Aside0.mk (blk_drew BR.out)
      have BOd := Aside0.mk (blk_drew BO.out)
      have HOd := Aside0.mk (Kd.R_drew HO.out)
      have HBd := Aside0.mk (below_drew1 HB.out)
      clear BX BR BO HO HB
      refine start_ (n := 20) (S := fun w' => w'.cell? ⟨W.heap.size + 1 + 1, 2, none⟩ = some (.slice Av i cv) ∧ w'.cell? ⟨W.heap.size, 2, none⟩ = some (.slice (some ad) ps.length c) ∧ w'.cell? (ad.add (i * 3)) = some (.int .i64 pf) ∧ w'.cell? ⟨(ad.add (i * 3)).block, (ad.add (i * 3)).off + 1, none⟩ = some (.int .i64 pid) ∧ w'.cell? ⟨(ad.add (i * 3)).block, (ad.add (i * 3)).off + 2, none⟩ = some (.slice A1 pl.length c1)) (ds := [17, 19]) #[false, false, false, false, false, false, false, false, false, false, false, false, false, false, false, false, false, false, false, false] (by kernel_rfl) rfl rfl ⟨(blk_cell BOd.out 2).trans rfl, (blk_cell BXd.out 2).trans rfl, HCW.out.1, HCW.out.2.1, HCW.out.2.2⟩ (fun hHeld => ?_); refine with_tabW tabG10 bitsG10 (fun HT_ HW_ => ?_)
      generalize hwd : wr.drew = Wd at BXd BRd BOd HOd HBd HCW hHeld ⊢
      clear hwd
      refine pure_ (i := 0) (N := (some 17)) (v := ?_) (a' := ?_) #[true, false, false, false, false, false, false, false, false, false, false, false, false, false, false, false, false, false, false, false] rfl rfl (any_of HT_.out (by kernel_rfl)) (fun _ _ _ h => h) (Or.inl ⟨by rfl, ?_⟩) ?_ ?_
      rotate_left
      · intro w'
        go_simp
        with_reducible rfl
      rotate_left
      · simp only [Act.put, List.setIfInBounds_toArray, List.set_cons_zero, List.set_cons_succ, i64_w, i32_w]
        rfl
      refine take_ (i := 1) (N := (some 18)) (v := ?_) (a' := ?_) #[true, true, false, false, false, false, false, false, false, false, false, false, false, false, false, false, false, false, false, false] rfl rfl (take_ofW HT_.out HW_.out (by kernel_rfl)) (fun _ _ _ h => h) (Or.inl ⟨by rfl, ?_⟩) hHeld ?_ ?_
      rotate_left
      · rintro w' ⟨s0, s1, s2, s3, s4⟩
        go_simp
        with_reducible rfl
      rotate_left
      · simp only [Act.put, List.setIfInBounds_toArray, List.set_cons_zero, List.set_cons_succ, i64_w, i32_w]
        rfl
      refine pure_ (i := 2) (N := (some 19)) (v := ?_) (a' := ?_) #[true, true, true, false, false, false, false, false, false, false, false, false, false, false, false, false, false, false, false, false] rfl rfl (any_of HT_.out (by kernel_rfl)) (fun _ _ _ h => h) (Or.inl ⟨by rfl, ?_⟩) ?_ ?_
      rotate_left
      · intro w'
        go_simp
        with_reducible rfl
      rotate_left
      · simp only [Act.put, List.setIfInBounds_toArray, List.set_cons_zero, List.set_cons_succ, i64_w, i32_w]
        rfl
      refine take_ (i := 3) (N := (some 20)) (v := ?_) (a' := ?_) #[true, true, true, true, false, false, false, false, false, false, false, false, false, false, false, false, false, false, false, false] rfl rfl (take_ofW HT_.out HW_.out (by kernel_rfl)) (fun _ _ _ h => h) (Or.inl ⟨by rfl, ?_⟩) hHeld ?_ ?_
      rotate_left
      · rintro w' ⟨s0, s1, s2, s3, s4⟩
        go_simp
        with_reducible rfl
      rotate_left
      · simp only [Act.put, List.setIfInBounds_toArray, List.set_cons_zero, List.set_cons_succ, i64_w, i32_w]
        rfl
      refine pure_ (i := 4) (N := (some 21)) (v := ?_) (a' := ?_) #[true, true, true, true, true, false, false, false, false, false, false, false, false, false, false, false, false, false, false, false] rfl rfl (any_of HT_.out (by kernel_rfl)) (fun _ _ _ h => h) (Or.inl ⟨by rfl, ?_⟩) ?_ ?_
      rotate_left
      · intro w'
        go_simp
        with_reducible rfl
      rotate_left
      · simp only [Act.put, List.setIfInBounds_toArray, List.set_cons_zero, List.set_cons_succ, i64_w, i32_w]
        rfl
      refine pure_ (i := 5) (N := (some 22)) (v := ?_) (a' := ?_) #[true, true, true, true, true, true, false, false, false, false, false, false, false, false, false, false, false, false, false, false] rfl rfl (any_of HT_.out (by kernel_rfl)) (fun _ _ _ h => h) (Or.inl ⟨by rfl, ?_⟩) ?_ ?_
      rotate_left
      · intro w'
        go_simp
        with_reducible rfl
      rotate_left
      · simp only [Act.put, List.setIfInBounds_toArray, List.set_cons_zero, List.set_cons_succ, i64_w, i32_w]
        rfl
      refine pure_ (i := 6) (N := (some 23)) (v := ?_) (a' := ?_) #[true, true, true, true, true, true, true, false, false, false, false, false, false, false, false, false, false, false, false, false] rfl rfl (any_of HT_.out (by kernel_rfl)) (fun _ _ _ h => h) (Or.inl ⟨by rfl, ?_⟩) ?_ ?_
      rotate_left
      · intro w'
        go_simp
        with_reducible rfl
      rotate_left
      · simp only [Act.put, List.setIfInBounds_toArray, List.set_cons_zero, List.set_cons_succ, i64_w, i32_w]
        rfl
      refine take_ (i := 7) (N := (some 24)) (v := ?_) (a' := ?_) #[true, true, true, true, true, true, true, true, false, false, false, false, false, false, false, false, false, false, false, false] rfl rfl (take_ofW HT_.out HW_.out (by kernel_rfl)) (fun _ _ _ h => h) (Or.inl ⟨by rfl, ?_⟩) hHeld ?_ ?_
      rotate_left
      · rintro w' ⟨s0, s1, s2, s3, s4⟩
        go_simp
        with_reducible rfl
      rotate_left
      · simp only [Act.put, List.setIfInBounds_toArray, List.set_cons_zero, List.set_cons_succ, i64_w, i32_w]
        rfl
      refine pure_ (i := 8) (N := (some 25)) (v := ?_) (a' := ?_) #[true, true, true, true, true, true, true, true, true, false, false, false, false, false, false, false, false, false, false, false] rfl rfl (any_of HT_.out (by kernel_rfl)) (fun _ _ _ h => h) (Or.inl ⟨by rfl, ?_⟩) ?_ ?_
      rotate_left
      · intro w'
        go_simp
        with_reducible rfl
      rotate_left
      · simp only [Act.put, List.setIfInBounds_toArray, List.set_cons_zero, List.set_cons_succ, i64_w, i32_w]
        rfl
      refine take_ (i := 9) (N := (some 26)) (v := ?_) (a' := ?_) #[true, true, true, true, true, true, true, true, true, true, false, false, false, false, false, false, false, false, false, false] rfl rfl (take_ofW HT_.out HW_.out (by kernel_rfl)) (fun _ _ _ h => h) (Or.inl ⟨by rfl, ?_⟩) hHeld ?_ ?_
      rotate_left
      · rintro w' ⟨s0, s1, s2, s3, s4⟩
        go_simp
        with_reducible rfl
      rotate_left
      · simp only [Act.put, List.setIfInBounds_toArray, List.set_cons_zero, List.set_cons_succ, i64_w, i32_w]
        rfl
      refine pure_ (i := 10) (N := (some 27)) (v := ?_) (a' := ?_) #[true, true, true, true, true, true, true, true, true, true, true, false, false, false, false, false, false, false, false, false] rfl rfl (any_of HT_.out (by kernel_rfl)) (fun _ _ _ h => h) (Or.inl ⟨by rfl, ?_⟩) ?_ ?_
      rotate_left
      · intro w'
        go_simp
        with_reducible rfl
      rotate_left
      · simp only [Act.put, List.setIfInBounds_toArray, List.set_cons_zero, List.set_cons_succ, i64_w, i32_w]
        rfl
      refine pure_ (i := 11) (N := (some 28)) (v := ?_) (a' := ?_) #[true, true, true, true, true, true, true, true, true, true, true, true, false, false, false, false, false, false, false, false] rfl rfl (any_of HT_.out (by kernel_rfl)) (fun _ _ _ h => h) (Or.inl ⟨by rfl, ?_⟩) ?_ ?_
      rotate_left
      · intro w'
        go_simp
        with_reducible rfl
      rotate_left
      · simp only [Act.put, List.setIfInBounds_toArray, List.set_cons_zero, List.set_cons_succ, i64_w, i32_w]
        rfl
      refine pure_ (i := 12) (N := (some 29)) (v := ?_) (a' := ?_) #[true, true, true, true, true, true, true, true, true, true, true, true, true, false, false, false, false, false, false, false] rfl rfl (any_of HT_.out (by kernel_rfl)) (fun _ _ _ h => h) (Or.inl ⟨by rfl, ?_⟩) ?_ ?_
      rotate_left
      · intro w'
        go_simp
        with_reducible rfl
      rotate_left
      · simp only [Act.put, List.setIfInBounds_toArray, List.set_cons_zero, List.set_cons_succ, i64_w, i32_w]
        rfl
      refine take_ (i := 13) (N := (some 30)) (v := ?_) (a' := ?_) #[true, true, true, true, true, true, true, true, true, true, true, true, true, true, false, false, false, false, false, false] rfl rfl (take_ofW HT_.out HW_.out (by kernel_rfl)) (fun _ _ _ h => h) (Or.inl ⟨by rfl, ?_⟩) hHeld ?_ ?_
      rotate_left
      · rintro w' ⟨s0, s1, s2, s3, s4⟩
        go_simp
        with_reducible rfl
      rotate_left
      · simp only [Act.put, List.setIfInBounds_toArray, List.set_cons_zero, List.set_cons_succ, i64_w, i32_w]
        rfl
      refine one_ (i := 14) (N := (some 31)) #[true, true, true, true, true, true, true, true, true, true, true, true, true, true, true, false, false, false, false, false] rfl rfl (one_of HT_.out (by kernel_rfl)) (by decide) (fun K hK => ?_)
      refine goes_ Try.func20 (by kernel_rfl) rfl #[.agg #[.int .i64 pid, .slice A1 pl.length c1]] (by rfl) rfl rfl (by (try simp only [List.map_toArray, List.map_cons, List.map_nil]); first | done | rfl) ?_
      refine (config_c pid A1 c1 pl Wd (Kd.C_below HC1.out HBd.out) hln).mono ?_
      rintro e w5 ⟨A5, c5, rfl, hR5, hb5⟩
      refine ⟨_, rfl, ?_⟩
      have HR5 := Aside0.mk hR5
      have HB5 := Aside0.mk hb5
      have BO5 := Aside0.mk (blk_below BOd.out hb5)
      have BX5 := Aside0.mk (blk_below BXd.out hb5)
      have CW5 := Aside0.mk (And.intro ((hb5.cell (World.block_lt_of_cell? Wd _ HCW.out.1)).trans HCW.out.1) (And.intro ((hb5.cell (World.block_lt_of_cell? Wd _ HCW.out.2.1)).trans HCW.out.2.1) ((hb5.cell (World.block_lt_of_cell? Wd _ HCW.out.2.2)).trans HCW.out.2.2)))
      clear hR5 hb5
      refine hK.out _ _ ⟨(blk_cell BO5.out 2).trans rfl, (blk_cell BX5.out 2).trans rfl, CW5.out.1, CW5.out.2.1, CW5.out.2.2⟩ (fun hHeld => ?_)
      clear hK K
      refine norm_ (a' := ?_) ?_ ?_
      rotate_left
      · show Act.put _ (some 31) _ = _
        simp only [Act.put, List.setIfInBounds_toArray, List.set_cons_zero, List.set_cons_succ, i64_w, i32_w]
        rfl
      refine pure_ (i := 15) (N := (some 32)) (v := ?_) (a' := ?_) #[true, true, true, true, true, true, true, true, true, true, true, true, true, true, true, true, false, false, false, false] rfl rfl (any_of HT_.out (by kernel_rfl)) (fun _ _ _ h => h) (Or.inl ⟨by rfl, ?_⟩) ?_ ?_
      rotate_left
      · intro w'
        go_simp
        with_reducible rfl
      rotate_left
      · simp only [Act.put, List.setIfInBounds_toArray, List.set_cons_zero, List.set_cons_succ, i64_w, i32_w]
        rfl
      refine one_ (i := 16) (N := (some 33)) #[true, true, true, true, true, true, true, true, true, true, true, true, true, true, true, true, true, false, false, false] rfl rfl (one_of HT_.out (by kernel_rfl)) (by decide) (fun K hK => ?_)
      refine Kd.R_lit_step k53 (w0 := w5) 0 53 (by rfl) (N := 33) rfl (xs := [⟨pf, pid, pl⟩]) (inner := [.int .i64 pf, .int .i64 pid, .slice A5 pl.length c5]) (ok := fun k => Wd.heap.size ≤ k) (okp := fun k => Wd.heap.size ≤ k) ?hr ?hp (fun _ hk => hk) ?hf (Below.refl _ _) (Nat.zero_le _) (by simp) ?_
      case hr => first | (go_simp; done) | (go_simp; rfl)
      case hp => exact (Reps.snoc (Reps.none _ 3) (k53_mkM (x := ⟨pf, pid, pl⟩) (Kd.R_lower (Kd.R_mono (Kd.R_bound HR5.out) (fun k h => h.2.1)) (Nat.zero_le _))) rfl)
      case hf => exact HB5.out.size
      intro v6 w6 HO6 _ hg6 _
      have hb6 : Below w5.heap.size w5 w6 := ⟨hg6.os, hg6.tape, hg6.output, hg6.size, fun k hk => hg6.block k hk (by simp)⟩
      have hb6' := below_step HB5.out hb6
      have HB6 := Aside0.mk hb6'
      have HX6 := OwnRow.reads HO6.2
      obtain ⟨A6, c6, rfl, _, hx6⟩ := HX6
      have HX := Aside0.mk (hx6.imp_ (Below.refl _ _) (fun p c h => k53.M_mono (fun k hk => hk.1) h))
      have BO6 := Aside0.mk (blk_below BOd.out hb6')
      have BX6 := Aside0.mk (blk_below BXd.out hb6')
      have BR6 := Aside0.mk (blk_below BRd.out hb6')
      have CW6 := Aside0.mk (And.intro ((hb6'.cell (World.block_lt_of_cell? Wd _ HCW.out.1)).trans HCW.out.1) (And.intro ((hb6'.cell (World.block_lt_of_cell? Wd _ HCW.out.2.1)).trans HCW.out.2.1) ((hb6'.cell (World.block_lt_of_cell? Wd _ HCW.out.2.2)).trans HCW.out.2.2)))
      clear HR5 HB5 BO5 BX5 CW5 HO6 hg6 hb6 hb6' hx6
      refine hK.out _ _ ⟨(blk_cell BO6.out 2).trans rfl, (blk_cell BX6.out 2).trans rfl, CW6.out.1, CW6.out.2.1, CW6.out.2.2⟩ (fun hHeld => ?_)
      clear hK K
      refine norm_ (a' := ?_) ?_ ?_
      rotate_left
      · show Act.put _ (some 33) _ = _
        simp only [Act.put, List.setIfInBounds_toArray, List.set_cons_zero, List.set_cons_succ, i64_w, i32_w]
        rfl
      refine last_ (i := 17) (N := (some 34)) #[true, true, true, true, true, true, true, true, true, true, true, true, true, true, true, true, true, true, false, false] rfl rfl (one_of HT_.out (by kernel_rfl)) (by decide) (fun K hK => ?_)
      have hob := Kd.R_bound HOd.out
      refine Kd.R_append_rows_step k53 (Rr := k53.M w6 0 (fun k => Wd.heap.size ≤ k)) (w0 := w6) 0 (by rfl) (.tmp 18) (.tmp 33) 25 53 (.agg #[.int .i64 0, .int .i64 0, .slice none 0 0]) 40 rfl Try.underlying25 infoP rfl (by decide) (by decide) (.slice Av i cv) (ps.take i) [⟨pf, pid, pl⟩] A6 _ c6 (fun k => W.heap.size + 1 + 1 < k) (fun k => Wd.heap.size ≤ k) rfl rfl (Kd.R_below HOd.out HB6.out) HX.out (fun _ _ h => h) (fun k hk => ⟨by have := blk_lt BOd.out; omega, fun e => by have := (hob.1 k e.symm).2.2.1; omega⟩) (fun k hk => by have := blk_lt BO6.out; omega) (Below.refl _ _) (Nat.zero_le _) (by rw [HLI.out]; show (i + 1) * 40 ≤ _; omega) ?_
      intro v7 w7 ho7 _ hg7 _
      rw [← HTK.out] at ho7
      obtain ⟨A7, c7, rfl⟩ := Kd.R_slice ho7
      rw [show (ps.take (i + 1)).length = i + 1 from by rw [List.length_take]; omega] at ho7 ⊢
      have hne : ∀ k, k ≤ W.heap.size + 1 + 1 → some k ≠ (Value.slice Av i cv).ownBlock := fun k hk e => by have := HOd.out.1 k e.symm; omega
      have BX7 := Aside0.mk (blk_grown BX6.out hg7 (hne _ (by omega)))
      have BR7 := Aside0.mk (blk_grown BR6.out hg7 (hne _ (by omega)))
      have BO7 := Aside0.mk (blk_grown BO6.out hg7 (hne _ (by omega)))
      have HB7 := Aside0.mk (show Below W.heap.size W w7 from (HBd.out.trans (HB6.out.mono HBd.out.size)).trans ⟨hg7.os, hg7.tape, hg7.output, hg7.size, fun k hk => hg7.block k (Nat.lt_of_lt_of_le hk (Nat.le_trans HBd.out.size HB6.out.size)) (hne k (by omega))⟩)
      have HO7 := Aside0.mk ho7
      have z7 : w7.cell? ⟨W.heap.size + 1 + 1, 2, none⟩ = some (.slice Av i cv) := (blk_cell BO7.out 2).trans rfl
      have f7 := blk_frozen BO7.out 2
      clear ho7 hg7 hne hob HX BO6 BX6 BR6 CW6 HB6 HOd BOd BXd BRd HCW HBd
      refine hK.out _ _ ?_
      clear hK K
      refine norm_ (a' := ?_) ?_ ?_
      rotate_left
      · show Act.put _ (some 34) _ = _
        simp only [Act.put, List.setIfInBounds_toArray, List.set_cons_zero, List.set_cons_succ, i64_w, i32_w]
        rfl
      refine pure_ (i := 18) (N := (some 35)) (v := ?_) (a' := ?_) #[true, true, true, true, true, true, true, true, true, true, true, true, true, true, true, true, true, true, true, false] rfl rfl (any_of HT_.out (by kernel_rfl)) (fun _ _ _ h => h) (Or.inl ⟨by rfl, ?_⟩) ?_ ?_
      rotate_left
      · intro w'
        go_simp
        with_reducible rfl
      rotate_left
      · simp only [Act.put, List.setIfInBounds_toArray, List.set_cons_zero, List.set_cons_succ, i64_w, i32_w]
        rfl
      refine last_ (i := 19) (N := none) #[true, true, true, true, true, true, true, true, true, true, true, true, true, true, true, true, true, true, true, true] rfl rfl (one_of HT_.out (by kernel_rfl)) (by decide) (fun K hK => ?_)
      refine skip_ (w1 := ?_) (by rfl) rfl ?_ ?_
      rotate_left
      · go_simp
        rfl
      refine hK.out _ _ ?_
      clear hK K
      refine done_ (done_of HT_.out (by kernel_rfl)) ?_
      clear hHeld HT_ HW_ z7 f7
      have BX8 := Aside0.mk (show (w7.setCell ⟨W.heap.size + 1 + 1, 2, none⟩ (.slice A7 (i + 1) c7)).heap[W.heap.size]? = _ from (Below.heap_setCell _ _ _ _ (by intro e; simp only at e; omega)).trans BX7.out)
      have BR8 := Aside0.mk (show (w7.setCell ⟨W.heap.size + 1 + 1, 2, none⟩ (.slice A7 (i + 1) c7)).heap[W.heap.size + 1]? = _ from (Below.heap_setCell _ _ _ _ (by intro e; simp only at e; omega)).trans BR7.out)
      have BO8 := Aside0.mk (blk_put BO7.out 2 (.slice A7 (i + 1) c7) rfl)
      have HO8 := Aside0.mk (Kd.R_set HO7.out BO7.out (by decide) 2 (.slice A7 (i + 1) c7))
      have HB8 := Aside0.mk (HB7.out.setCell (p := ⟨W.heap.size + 1 + 1, 2, none⟩) (by simp only; omega) (.slice A7 (i + 1) c7))
      clear BX7 BR7 BO7 HO7 HB7 HN HR HC1 HTK HLI
      go_wp2_with fail
      go_roundw
      case rel => exact ⟨i + 1, .slice A7 (i + 1) c7, by omega, by go_num, BX8, BR8, BO8, HO8, HB8⟩
      case measure => simp [intOf]; omega
    · have hd : decide ((i : Int) < (ps.length : Int)) = false := by rw [decide_eq_false_iff_not]; omega
      obtain rfl : i = ps.length := by omega
      have ho := HO.out
      rw [List.take_length] at ho
      obtain ⟨A7, c7, rfl⟩ := Kd.R_slice ho
      have HO2 := Aside0.mk (Kd.R_mono (ok' := fun k => W.heap.size ≤ k) ho (fun k hk => by omega))
      have y0 : wr.cell? ⟨W.heap.size + 1 + 1, 0, none⟩ = some (.int .i64 ow) := (blk_cell BO.out 0).trans rfl
      have y1 : wr.cell? ⟨W.heap.size + 1 + 1, 1, none⟩ = some (.int .i64 tr) := (blk_cell BO.out 1).trans rfl
      have y2 : wr.cell? ⟨W.heap.size + 1 + 1, 2, none⟩ = some (.slice A7 ps.length c7) := (blk_cell BO.out 2).trans rfl
      have z0 : wr.cell? ⟨W.heap.size + 1, 0, none⟩ = some (.int .i64 0) := (blk_cell BR.out 0).trans rfl
      have z1 : wr.cell? ⟨W.heap.size + 1, 1, none⟩ = some (.int .i64 0) := (blk_cell BR.out 1).trans rfl
      have z2 : wr.cell? ⟨W.heap.size + 1, 2, none⟩ = some (.slice none 0 0) := (blk_cell BR.out 2).trans rfl
      have f0 := blk_frozen BR.out 0
      have f1 := blk_frozen BR.out 1
      have f2 := blk_frozen BR.out 2
      clear ho HO HN HR
      go_wp2_with fail
      have K3 := put3 (x := .int .i64 ow) (y := .int .i64 tr) (z := .slice A7 ps.length c7) BR.out
      have HR3 := Aside0.mk (put3_R (x := .int .i64 ow) (y := .int .i64 tr) (z := .slice A7 ps.length c7) HO2.out BR.out (by decide))
      have HB3 := Aside0.mk (put3_B (x := .int .i64 ow) (y := .int .i64 tr) (z := .slice A7 ps.length c7) HB.out (show W.heap.size ≤ W.heap.size + 1 by omega))
      clear y0 y1 y2 z0 z1 z2 f0 f1 f2 BX BR BO HB HO2 bx2
      generalize (((wr.setCell ⟨W.heap.size + 1, 0, none⟩ (.int .i64 ow)).setCell ⟨W.heap.size + 1, 1, none⟩ (.int .i64 tr)).setCell ⟨W.heap.size + 1, 2, none⟩ (.slice A7 ps.length c7)) = w6 at *
      have r0 : w6.cell? ⟨W.heap.size + 1, 0, none⟩ = some (.int .i64 ow) := (blk_cell K3 0).trans rfl
      have r1 : w6.cell? ⟨W.heap.size + 1, 1, none⟩ = some (.int .i64 tr) := (blk_cell K3 1).trans rfl
      have r2 : w6.cell? ⟨W.heap.size + 1, 2, none⟩ = some (.slice A7 ps.length c7) := (blk_cell K3 2).trans rfl
      exact bodyPost_ret (v := .agg #[.int .i64 ow, .int .i64 tr, .slice A7 ps.length c7]) (by simp [results, Try.results10, go_sem, r0, r1, r2]) rfl ⟨A7, c7, rfl, HR3.out, HB3.out⟩
end Go.Proofs.Ytpcoelimabojcaa.Hand
