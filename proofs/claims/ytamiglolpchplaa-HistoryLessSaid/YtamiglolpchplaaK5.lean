/- What a call shows. -/
import Derived.Test.YtamiglolpchplaaK4
import Derived.Test.YtamiglolpchplaaWEqStruct
namespace Go.Proofs.Ytamiglolpchplaa.Hand
open Go.RowKit Go.Proofs.Ytamiglolpchplaa Go.Proofs.YtamiglolpchplaaW.PrintWords Go.Proofs.YtamiglolpchplaaW.PrintLast
set_option linter.unusedVariables false
set_option linter.unusedSimpArgs false
def showsF (c : CallV) : Int × List ByteArray := if c.done = true then (if c.read = true then (0, c.values) else (c.offset, [c.value])) else (0, [])
def ShowsP (s : Int × List ByteArray) (w : World) (e : Ending) (w' : World) : Prop := ∃ A c, e = .returned (.tuple #[.int .i64 s.1, .slice A s.2.length c]) ∧ s.2.length ≤ c ∧ Kd.string.C w' A s.2.length s.2 ∧ Below w.heap.size w w'
theorem ShowsP.mk {s : Int × List ByteArray} {w w' : World} {e : Ending} (A : Option Addr) (c : Nat) (h1 : e = .returned (.tuple #[.int .i64 s.1, .slice A s.2.length c])) (h2 : s.2.length ≤ c) (h3 : Kd.string.C w' A s.2.length s.2) (h4 : Below w.heap.size w w') : ShowsP s w e w' := ⟨A, c, h1, h2, h3, h4⟩
def TS5 : Bool × List (List Nat × List Nat) := (true, [([], []), ([0], [0]), ([], []), ([2], [2]), ([3], [3]), ([1, 0, 1], [1]), ([4, 5, 0, 1, 2, 3, 4, 5], [4])])
def BS5 : List Nat := [0, 1, 0, 4, 12, 3, 63]
theorem tabS5 : rtab .any (opsOf Try.f28 5) = TS5 := by kernel_rfl
theorem bitsS5 : waitsOk TS5.2 BS5 = true := by kernel_rfl
set_option maxHeartbeats 4000000 in
set_option maxRecDepth 100000 in
theorem shows_c (r : CallP) (w : World) (hv : ValOK w r) : Calls Try.prog 28 #[.agg (crP r).toArray] w (ShowsP (showsF r.1) w) := by
  obtain ⟨⟨rd, dn, bg, fi, of, va, vs⟩, A, n, c⟩ := r
  obtain ⟨hl, hc, hr⟩ := hv
  dsimp only at hl hc hr
  unfold crP showsF
  dsimp only
  subst hl
  have HC := Aside0.mk hc
  have HR := Aside0.mk hr
  clear hc hr
  cases dn
  · go_enter Try.func28, Try.ntmps28
    go_wp2_with fail
    go_ret2
    exact ShowsP.mk none 0 rfl (Nat.zero_le _) ⟨rfl, by decide, fun h => absurd h (Nat.lt_irrefl 0)⟩ (below_alloc (Below.refl _ _) _)
  cases rd
  · go_enter Try.func28, Try.ntmps28
    go_wp2_with fail
    have b0 : (w.alloc (Obj.cells #[.bool false, .bool true, .int .i64 bg, .int .i64 fi, .int .i64 of, .string va, .slice A vs.length c] 34)).heap[w.heap.size]? = some (.cells #[.bool false, .bool true, .int .i64 bg, .int .i64 fi, .int .i64 of, .string va, .slice A vs.length c] 34 (0, 0)) := heap_alloc_new w _
    have BK := Aside0.mk (blk_drew b0)
    have HB := Aside0.mk (below_drew1 (below_alloc (Below.refl w.heap.size w) (Obj.cells #[.bool false, .bool true, .int .i64 bg, .int .i64 fi, .int .i64 of, .string va, .slice A vs.length c] 34)))
    clear b0
    refine start_ (n := 7) (S := fun w' => w'.cell? ⟨w.heap.size, 4, none⟩ = some (.int .i64 of) ∧ w'.cell? ⟨w.heap.size, 5, none⟩ = some (.string va)) (ds := []) #[false, false, false, false, false, false, false] (by kernel_rfl) rfl rfl ⟨(blk_cell BK.out 4).trans rfl, (blk_cell BK.out 5).trans rfl⟩ (fun hHeld => ?_); refine with_tabW tabS5 bitsS5 (fun HT_ HW_ => ?_)
    generalize hwd : (w.alloc (Obj.cells #[.bool false, .bool true, .int .i64 bg, .int .i64 fi, .int .i64 of, .string va, .slice A vs.length c] 34)).drew = w7 at BK HB hHeld ⊢
    refine pure_ (i := 0) (N := (some 13)) (v := ?_) (a' := ?_) #[true, false, false, false, false, false, false] rfl rfl (any_of HT_.out (by kernel_rfl)) (fun _ _ _ h => h) (Or.inl ⟨by rfl, ?_⟩) ?_ ?_
    rotate_left
    · intro w'
      go_simp
      with_reducible rfl
    rotate_left
    · simp only [Act.put, List.setIfInBounds_toArray, List.set_cons_zero, List.set_cons_succ, i64_w, i32_w]
      rfl
    refine pure_ (i := 2) (N := (some 15)) (v := ?_) (a' := ?_) #[true, false, true, false, false, false, false] rfl rfl (any_of HT_.out (by kernel_rfl)) (fun _ _ _ h => h) (Or.inl ⟨by rfl, ?_⟩) ?_ ?_
    rotate_left
    · intro w'
      go_simp
      with_reducible rfl
    rotate_left
    · simp only [Act.put, List.setIfInBounds_toArray, List.set_cons_zero, List.set_cons_succ, i64_w, i32_w]
      rfl
    refine take_ (i := 1) (N := (some 14)) (v := ?_) (a' := ?_) #[true, true, true, false, false, false, false] rfl rfl (take_ofW HT_.out HW_.out (by kernel_rfl)) (fun _ _ _ h => h) (Or.inl ⟨by rfl, ?_⟩) hHeld ?_ ?_
    rotate_left
    · rintro w' ⟨s0, s1⟩
      go_simp
      with_reducible rfl
    rotate_left
    · simp only [Act.put, List.setIfInBounds_toArray, List.set_cons_zero, List.set_cons_succ, i64_w, i32_w]
      rfl
    refine pure_ (i := 5) (N := (some 2)) (v := ?_) (a' := ?_) #[true, true, true, false, false, true, false] rfl rfl (any_of HT_.out (by kernel_rfl)) (fun _ _ _ h => h) (Or.inl ⟨by rfl, ?_⟩) ?_ ?_
    rotate_left
    · intro w'
      go_simp
      with_reducible rfl
    rotate_left
    · simp only [Act.put, List.setIfInBounds_toArray, List.set_cons_zero, List.set_cons_succ, i64_w, i32_w]
      rfl
    refine take_ (i := 3) (N := (some 16)) (v := ?_) (a' := ?_) #[true, true, true, true, false, true, false] rfl rfl (take_ofW HT_.out HW_.out (by kernel_rfl)) (fun _ _ _ h => h) (Or.inl ⟨by rfl, ?_⟩) hHeld ?_ ?_
    rotate_left
    · rintro w' ⟨s0, s1⟩
      go_simp
      with_reducible rfl
    rotate_left
    · simp only [Act.put, List.setIfInBounds_toArray, List.set_cons_zero, List.set_cons_succ, i64_w, i32_w]
      rfl
    refine one_ (i := 4) (N := (some 17)) #[true, true, true, true, true, true, false] rfl rfl (one_of HT_.out (by kernel_rfl)) (by decide) (fun K hK => ?_)
    refine Kd.R_lit_step Kd.string _ 9 ?hg (N := 17) ?hd (xs := ([va] : List ByteArray)) (inner := [.string va]) (ok := fun _ => True) (okp := fun _ => True) ?hr ?hp (fun _ hk => hk) trivial (Below.refl _ _) (Nat.le_refl _) (by simp) ?_; (case hd => rfl); (case hg => rfl); (case hr => first | (go_simp; done) | (go_simp; rfl)); (case hp => exact (Reps.one (show Kd.M Kd.string _ _ _ va [.string va] from rfl) (Reps.none _ _)))
    intro v1 w12 ho1 hb1 hg1 hn1
    have HO1 := Aside0.mk ho1
    have HB1 := Aside0.mk (below_step HB.out hb1)
    have BK1 := Aside0.mk (blk_below BK.out hb1)
    clear ho1 hb1 hg1 hn1
    refine hK.out _ _ ⟨(blk_cell BK1.out 4).trans rfl, (blk_cell BK1.out 5).trans rfl⟩ (fun hHeld => ?_)
    clear hK K
    refine norm_ (a' := ?_) ?_ ?_
    rotate_left
    · show Act.put _ (some 17) _ = _
      simp only [Act.put, List.setIfInBounds_toArray, List.set_cons_zero, List.set_cons_succ, i64_w, i32_w]
      rfl
    refine pure_ (i := 6) (N := (some 3)) (v := ?_) (a' := ?_) #[true, true, true, true, true, true, true] rfl rfl (any_of HT_.out (by kernel_rfl)) (fun _ _ _ h => h) (Or.inl ⟨by rfl, ?_⟩) ?_ ?_
    rotate_left
    · intro w'
      go_simp
      with_reducible rfl
    rotate_left
    · simp only [Act.put, List.setIfInBounds_toArray, List.set_cons_zero, List.set_cons_succ, i64_w, i32_w]
      rfl
    refine done_ (done_of HT_.out (by kernel_rfl)) ?_
    clear hHeld HT_ HW_
    go_wp2_with fail
    go_ret2
    obtain ⟨A1, c1, rfl, h1, h2⟩ := Kd.R_reads HO1.out
    exact ShowsP.mk A1 c1 rfl h1 h2 HB1.out
  · go_enter Try.func28, Try.ntmps28
    go_wp2_with fail
    go_quiet (fail)
    go_wp2_with fail
    go_ret2
    exact ShowsP.mk A c rfl HC.out (Kd.C_below HR.out (by first | exact below_drewn (below_alloc (Below.refl _ _) _) _ | exact pw_below_drewN (below_alloc (Below.refl _ _) _) _)) (by first | exact below_drewn (below_alloc (Below.refl _ _) _) _ | exact pw_below_drewN (below_alloc (Below.refl _ _) _) _)
end Go.Proofs.Ytamiglolpchplaa.Hand
