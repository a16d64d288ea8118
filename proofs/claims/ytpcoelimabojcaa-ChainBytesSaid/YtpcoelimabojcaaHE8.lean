/- Encode. -/
import Derived.Test.YtpcoelimabojcaaHE6
import Derived.Test.YtpcoelimabojcaaHC14
namespace Go.Proofs.Ytpcoelimabojcaa.Hand
open Go.RowKit Go.Proofs.Ytpcoelimabojcaa Go.Proofs.YtpcoelimabojcaaW.PrintWords Go.Proofs.YtpcoelimabojcaaW.PrintLast
set_option linter.unusedVariables false
set_option linter.unusedSimpArgs false
/-- A list just made reads the same whatever becomes of bytes of one's own. -/
theorem lit_kept {w w' : World} {ok ok2 : Nat → Prop} {u v : Value} {l b : List Int} (hu : Kd.R (Kd.int .i64) 3 w 0 ok u l) (hv : Kd.R (Kd.int .u8) 5 w 0 ok2 v b) (hg : w.grownBy w' v.ownBlock) : Kd.R (Kd.int .i64) 3 w' 0 ok u l := by
  refine Kd.R_mono (Kd.R_grown (Kd.R_bound hu) hg ?_) (fun k hk => hk.1)
  rintro k ⟨-, -, -, q, hq, cells, hc⟩
  have hq3 : q = 3 := by simpa [Kd.int, Kd.scalar, Kd.E] using hq
  subst hq3
  exact Kd.R_ne hv hc (by decide)
theorem lit_hl {w : World} {ok ok2 : Nat → Prop} {B : Option Addr} {n c : Nat} {v : Value} {l b : List Int} (hu : Kd.R (Kd.int .i64) 3 w 0 ok (.slice B n c) l) (hv : Kd.R (Kd.int .u8) 5 w 0 ok2 v b) : ∀ w', w.grownBy w' v.ownBlock → Kd.C (Kd.int .i64) w' B l.length l := fun w' hg => (Kd.R_reads' (lit_kept hu hv hg)).2.2
structure EncI (W : World) (ow tr : Int) (A : Option Addr) (c : Nat) (ps : List PartV) (w : World) : Prop where
  below : Below W.heap.size W w
  box : w.heap[W.heap.size]? = some (.cells #[.int .i64 ow, .int .i64 tr, .slice A ps.length c] 27 (0, 0))
theorem EncI.move {W w w1 : World} {ow tr : Int} {A : Option Addr} {c : Nat} {ps : List PartV} (h : EncI W ow tr A c ps w) (hb : Below w.heap.size w w1) : EncI W ow tr A c ps w1 := ⟨below_step h.below hb, blk_below h.box hb⟩
theorem EncI.grown {W w w1 : World} {ow tr : Int} {A : Option Addr} {c : Nat} {ps : List PartV} {row : Option Nat} (h : EncI W ow tr A c ps w) (hg : w.grownBy w1 row) (hr : ∀ k, row = some k → W.heap.size < k) : EncI W ow tr A c ps w1 :=
  ⟨Below.grown h.below hg h.below.size (fun k hk => Nat.le_of_lt (hr k hk)), (hg.block _ (blk_lt h.box) (fun e => absurd (hr _ e.symm) (Nat.lt_irrefl _))).trans h.box⟩
def TG6 : Bool × List (List Nat × List Nat) := (true, [([], []), ([0], [0]), ([1], [1]), ([2], [2]), ([], []), ([4], [4]), ([5], [5]), ([3, 6, 3], [3, 6]), ([], []), ([8], [8]), ([9], [9]), ([10], [10]), ([7, 11, 7], [7, 11]), ([12, 12, 0, 1, 2, 3, 4, 5, 6, 7, 8, 9, 10, 11, 12], [12])])
def BG6 : List Nat := [0, 1, 3, 7, 0, 16, 48, 127, 0, 256, 768, 1792, 4095, 8191]
theorem tabG6 : rtab .any (opsOf Try.f28 6) = TG6 := by kernel_rfl
theorem bitsG6 : waitsOk TG6.2 BG6 = true := by kernel_rfl
def TG11 : Bool × List (List Nat × List Nat) := (true, [([], []), ([], []), ([1], [1]), ([2], [2]), ([3], [3]), ([4], [4]), ([0, 5], [0, 5]), ([], []), ([7], [7]), ([8], [8]), ([6, 9, 6], [6, 9]), ([10, 10, 0, 1, 2, 3, 4, 5, 6, 7, 8, 9, 10], [0, 10])])
def BG11 : List Nat := [0, 0, 2, 6, 14, 30, 63, 0, 128, 384, 1023, 2047]
theorem tabG11 : rtab .any (opsOf Try.f28 11) = TG11 := by kernel_rfl
theorem bitsG11 : waitsOk TG11.2 BG11 = true := by kernel_rfl
set_option maxHeartbeats 12800000 in
set_option maxRecDepth 100000 in
theorem encode_c (ow tr n : Int) (A : Option Addr) (c : Nat) (ps : List PartV) (W : World) (hr : Kd.C k53 W A ps.length ps) :
    Calls Try.prog 28 #[.agg #[.int .i64 ow, .int .i64 tr, .slice A ps.length c], .int .i64 n] W fun e W' => Below W.heap.size W W' ∧ ∃ v, e = .returned (.tuple #[v, .int .i64 (encF ow tr ps n).2]) ∧ Kd.R (Kd.int .u8) 5 W' 0 (fun k => W.heap.size < k) v (encF ow tr ps n).1 := by
  obtain ⟨o1, ho1⟩ : ∃ o1 : Obj, o1 = .cells #[.int .i64 ow, .int .i64 tr, .slice A ps.length c] 27 (0, 0) := ⟨_, rfl⟩
  have b1 := heap_alloc_new W o1
  have hI : EncI W ow tr A c ps (W.alloc o1) := ⟨below_alloc (Below.refl _ _) o1, by rw [ho1] at b1 ⊢; exact b1⟩
  have HI := Aside0.mk hI
  have HR := Aside0.mk hr
  have HR1 := Aside0.mk (Kd.C_alloc hr o1)
  have x0 : (W.alloc o1).cell? ⟨W.heap.size, 0, none⟩ = some (.int .i64 ow) := (blk_cell hI.box 0).trans rfl
  have x1 : (W.alloc o1).cell? ⟨W.heap.size, 1, none⟩ = some (.int .i64 tr) := (blk_cell hI.box 1).trans rfl
  have x2 : (W.alloc o1).cell? ⟨W.heap.size, 2, none⟩ = some (.slice A ps.length c) := (blk_cell hI.box 2).trans rfl
  clear b1 hI hr
  subst ho1
  obtain ⟨r, hrt⟩ : ∃ r, rightF ow tr ps n = r := ⟨_, rfl⟩
  cases r with
  | false =>
    have HE := Aside0.mk (show encF ow tr ps n = ([], 1) by unfold encF; rw [hrt]; rfl)
    go_enter Try.func28, Try.ntmps28
    go_wp2_with fail
    refine (check_c ow tr n A c ps _ HR1.out).mono ?_
    rintro e w1 ⟨rfl, hb⟩
    rw [hrt]
    have HI2 := Aside0.mk (HI.out.move hb)
    clear hb
    go_wp2_with fail
    exact bodyPost_ret (v := .tuple #[.slice none 0 0, .int .i64 1]) (by simp [results, Try.results28, go_sem, errB]) rfl ⟨HI2.out.below, _, by rw [HE.out], by rw [HE.out]; exact Kd.R_nil _ _ _ _ _⟩
  | true =>
  have HRT := Aside0.mk hrt
  by_cases hn : 256 < n
  · have HE := Aside0.mk (show encF ow tr ps n = ([], 6) by unfold encF; rw [hrt, if_pos rfl, if_pos hn])
    have hd : decide (n > 256) = true := decide_eq_true hn
    go_enter Try.func28, Try.ntmps28
    go_wp2_with fail
    refine (check_c ow tr n A c ps _ HR1.out).mono ?_
    rintro e w1 ⟨rfl, hb⟩
    rw [hrt]
    have HI2 := Aside0.mk (HI.out.move hb)
    clear hb
    go_wp2_with fail
    exact bodyPost_ret (v := .tuple #[.slice none 0 0, .int .i64 6]) (by simp [results, Try.results28, go_sem]) rfl ⟨HI2.out.below, _, by rw [HE.out], by rw [HE.out]; exact Kd.R_nil _ _ _ _ _⟩
  have HE := Aside0.mk (show encF ow tr ps n = (encL ow tr ps, 0) by unfold encF; rw [hrt, if_pos rfl, if_neg hn])
  have hd : decide (n > 256) = false := decide_eq_false hn
  have hl64 : ps.length ≤ 64 := (rightF_in hrt).1
  have HN9 := Aside0.mk (rightF_nodes hrt)
  go_enter Try.func28, Try.ntmps28
  go_wp2_with fail
  refine (check_c ow tr n A c ps _ HR1.out).mono ?_
  rintro e w1 ⟨rfl, hb⟩
  rw [hrt]
  have HI2 := Aside0.mk (HI.out.move hb)
  clear hb HI HR1 x0 x1 x2 hrt
  go_wp2_with fail
  have HI0 := Aside0.mk (HI2.out.move (below_drew (Below.refl w1.heap.size w1)))
  clear HI2
  refine start_ (n := 14) (S := fun w' => w'.cell? ⟨W.heap.size, 0, none⟩ = some (.int .i64 ow) ∧ w'.cell? ⟨W.heap.size, 1, none⟩ = some (.int .i64 tr) ∧ w'.cell? ⟨W.heap.size, 2, none⟩ = some (.slice A ps.length c)) (ds := []) #[false, false, false, false, false, false, false, false, false, false, false, false, false, false] (by kernel_rfl) rfl rfl ⟨(blk_cell HI0.out.box 0).trans rfl, (blk_cell HI0.out.box 1).trans rfl, (blk_cell HI0.out.box 2).trans rfl⟩ (fun hHeld => ?_); refine with_tabW tabG6 bitsG6 (fun HT_ HW_ => ?_)
  generalize hwd : w1.drew = w_0 at HI0 hHeld ⊢
  clear hwd
  refine pure_ (i := 0) (N := (some 18)) (v := ?_) (a' := ?_) #[true, false, false, false, false, false, false, false, false, false, false, false, false, false] rfl rfl (any_of HT_.out (by kernel_rfl)) (fun _ _ _ h => h) (Or.inl ⟨by rfl, ?_⟩) ?_ ?_
  rotate_left
  · intro w'
    go_simp
    with_reducible rfl
  rotate_left
  · simp only [Act.put, List.setIfInBounds_toArray, List.set_cons_zero, List.set_cons_succ, i64_w, i32_w]
    rfl
  refine take_ (i := 1) (N := (some 19)) (v := ?_) (a' := ?_) #[true, true, false, false, false, false, false, false, false, false, false, false, false, false] rfl rfl (take_ofW HT_.out HW_.out (by kernel_rfl)) (fun _ _ _ h => h) (Or.inl ⟨by rfl, ?_⟩) hHeld ?_ ?_
  rotate_left
  · rintro w' ⟨s0, s1, s2⟩
    go_simp
    with_reducible rfl
  rotate_left
  · simp only [Act.put, List.setIfInBounds_toArray, List.set_cons_zero, List.set_cons_succ, i64_w, i32_w]
    rfl
  refine pure_ (i := 4) (N := (some 22)) (v := ?_) (a' := ?_) #[true, true, false, false, true, false, false, false, false, false, false, false, false, false] rfl rfl (any_of HT_.out (by kernel_rfl)) (fun _ _ _ h => h) (Or.inl ⟨by rfl, ?_⟩) ?_ ?_
  rotate_left
  · intro w'
    go_simp
    with_reducible rfl
  rotate_left
  · simp only [Act.put, List.setIfInBounds_toArray, List.set_cons_zero, List.set_cons_succ, i64_w, i32_w]
    rfl
  refine take_ (i := 5) (N := (some 23)) (v := ?_) (a' := ?_) #[true, true, false, false, true, true, false, false, false, false, false, false, false, false] rfl rfl (take_ofW HT_.out HW_.out (by kernel_rfl)) (fun _ _ _ h => h) (Or.inl ⟨by rfl, ?_⟩) hHeld ?_ ?_
  rotate_left
  · rintro w' ⟨s0, s1, s2⟩
    go_simp
    with_reducible rfl
  rotate_left
  · simp only [Act.put, List.setIfInBounds_toArray, List.set_cons_zero, List.set_cons_succ, i64_w, i32_w]
    rfl
  refine pure_ (i := 8) (N := (some 26)) (v := ?_) (a' := ?_) #[true, true, false, false, true, true, false, false, true, false, false, false, false, false] rfl rfl (any_of HT_.out (by kernel_rfl)) (fun _ _ _ h => h) (Or.inl ⟨by rfl, ?_⟩) ?_ ?_
  rotate_left
  · intro w'
    go_simp
    with_reducible rfl
  rotate_left
  · simp only [Act.put, List.setIfInBounds_toArray, List.set_cons_zero, List.set_cons_succ, i64_w, i32_w]
    rfl
  refine take_ (i := 9) (N := (some 27)) (v := ?_) (a' := ?_) #[true, true, false, false, true, true, false, false, true, true, false, false, false, false] rfl rfl (take_ofW HT_.out HW_.out (by kernel_rfl)) (fun _ _ _ h => h) (Or.inl ⟨by rfl, ?_⟩) hHeld ?_ ?_
  rotate_left
  · rintro w' ⟨s0, s1, s2⟩
    go_simp
    with_reducible rfl
  rotate_left
  · simp only [Act.put, List.setIfInBounds_toArray, List.set_cons_zero, List.set_cons_succ, i64_w, i32_w]
    rfl
  refine pure_ (i := 10) (N := (some 28)) (v := ?_) (a' := ?_) #[true, true, false, false, true, true, false, false, true, true, true, false, false, false] rfl rfl (any_of HT_.out (by kernel_rfl)) (fun _ _ _ h => h) (Or.inl ⟨by rfl, ?_⟩) ?_ ?_
  rotate_left
  · intro w'
    go_simp
    with_reducible rfl
  rotate_left
  · simp only [Act.put, List.setIfInBounds_toArray, List.set_cons_zero, List.set_cons_succ, i64_w, i32_w]
    rfl
  refine join_ (σ := Value × Value × Value × Value × Value) 2 #[true, true, true, true, true, true, true, true, true, true, true, true, false, false] (fun s => [(20, s.1), (21, s.2.1), (24, s.2.2.1), (25, s.2.2.2.1), (29, s.2.2.2.2)]) (fun s w' => EncI W ow tr A c ps w' ∧ Kd.R (Kd.int .u8) 5 w' 0 (fun q => W.heap.size < q) s.2.2.2.1 (numsF (numsF [] 1 [ow]) 6 [tr]) ∧ Kd.R (Kd.int .i64) 3 w' 0 (fun q => W.heap.size < q) s.2.2.2.2 [(ps.length : Int)]) ?_ ?_
  rotate_left
  · intro CONT
    refine three_ (i := 2) (j := 6) (k := 11) (Ni := some 20) (Nj := some 24) (Nk := some 29) #[true, true, true, false, true, true, false, false, true, true, true, false, false, false] #[true, true, false, false, true, true, true, false, true, true, true, false, false, false] #[true, true, false, false, true, true, false, false, true, true, true, true, false, false] rfl rfl rfl rfl rfl rfl (three_of HT_.out (by kernel_rfl)) (by decide) (by decide) (by decide) (fun K hK => ?_) (fun K hK => ?_) (fun K hK => ?_)
    · refine Kd.R_lit_step (Kd.int .i64) (w0 := w_0) 0 3 (by rfl) (N := 20) rfl (xs := [ow]) (inner := [.int .i64 ow]) (ok := (fun q => W.heap.size < q)) (okp := (fun q => W.heap.size < q)) ?hr ?hp (fun _ hk => hk) (Nat.lt_of_lt_of_le (blk_lt HI0.out.box) (Nat.le_refl _)) (Below.refl _ _) (Nat.zero_le _) (by simp) ?_
      case hr => first | (go_simp; done) | (go_simp; rfl)
      case hp => exact Reps.snoc (Reps.none _ 1) rfl rfl
      intro u2 w_1 hO_ _ hg_ _
      have hbL : Below w_0.heap.size w_0 w_1 := ⟨hg_.os, hg_.tape, hg_.output, hg_.size, fun k hk => hg_.block k hk (by simp)⟩
      obtain ⟨B2, c2, rfl⟩ := Kd.R_slice hO_
      have HI1 := Aside0.mk (HI0.out.move hbL)
      have U2_1 := Aside0.mk hO_
      clear hbL hg_ hO_
      refine hK.out _ _ ⟨(blk_cell HI1.out.box 0).trans rfl, (blk_cell HI1.out.box 1).trans rfl, (blk_cell HI1.out.box 2).trans rfl⟩ (fun hHeld => ?_)
      clear hK K
      refine norm_ (a' := ?_) ?_ ?_
      rotate_left
      · show Act.put _ (some 20) _ = _
        simp only [Act.put, List.setIfInBounds_toArray, List.set_cons_zero, List.set_cons_succ, i64_w, i32_w]
        rfl
      refine three_ (i := 3) (j := 6) (k := 11) (Ni := some 21) (Nj := some 24) (Nk := some 29) #[true, true, true, true, true, true, false, false, true, true, true, false, false, false] #[true, true, true, false, true, true, true, false, true, true, true, false, false, false] #[true, true, true, false, true, true, false, false, true, true, true, true, false, false] rfl rfl rfl rfl rfl rfl (three_of HT_.out (by kernel_rfl)) (by decide) (by decide) (by decide) (fun K hK => ?_) (fun K hK => ?_) (fun K hK => ?_)
      · refine goes_ Try.func45 (by kernel_rfl) rfl #[.slice none 0 0, .int .i64 1, .slice B2 [ow].length c2] (by rfl) rfl rfl (by (try simp only [List.map_toArray, List.map_cons, List.map_nil]); first | done | rfl) ?_
        refine (numbers_c (.slice none 0 0) [] 1 B2 c2 [ow] (fun q => W.heap.size < q) _ (Kd.R_nil _ _ _ _ _) (fun k hk => Nat.lt_of_lt_of_le (blk_lt HI1.out.box) hk) (lit_hl U2_1.out (Kd.R_nil (Kd.int .u8) 5 _ 0 (fun q => W.heap.size < q))) (Kd.R_reads' U2_1.out).2.1 (by simp)).mono ?_
        rintro e w_2 ⟨v3, rfl, hO_, hg_, -⟩
        refine ⟨_, rfl, ?_⟩
        have hbL : Below w_1.heap.size w_1 w_2 := ⟨hg_.os, hg_.tape, hg_.output, hg_.size, fun k hk => hg_.block k hk (by simp [Value.ownBlock])⟩
        have HI2 := Aside0.mk (HI1.out.move hbL)
        have V3_2 := Aside0.mk hO_
        clear hbL hg_ hO_
        refine hK.out _ _ ⟨(blk_cell HI2.out.box 0).trans rfl, (blk_cell HI2.out.box 1).trans rfl, (blk_cell HI2.out.box 2).trans rfl⟩ (fun hHeld => ?_)
        clear hK K
        refine norm_ (a' := ?_) ?_ ?_
        rotate_left
        · show Act.put _ (some 21) _ = _
          simp only [Act.put, List.setIfInBounds_toArray, List.set_cons_zero, List.set_cons_succ, i64_w, i32_w]
          rfl
        refine two_ (i := 6) (j := 11) (Ni := some 24) (Nj := some 29) #[true, true, true, true, true, true, true, false, true, true, true, false, false, false] #[true, true, true, true, true, true, false, false, true, true, true, true, false, false] rfl rfl rfl rfl (two_of HT_.out (by kernel_rfl)) (by decide) (by decide) (fun K hK => ?_) (fun K hK => ?_)
        · refine Kd.R_lit_step (Kd.int .i64) (w0 := w_2) 0 3 (by rfl) (N := 24) rfl (xs := [tr]) (inner := [.int .i64 tr]) (ok := (fun q => W.heap.size < q)) (okp := (fun q => W.heap.size < q)) ?hr ?hp (fun _ hk => hk) (Nat.lt_of_lt_of_le (blk_lt HI2.out.box) (Nat.le_refl _)) (Below.refl _ _) (Nat.zero_le _) (by simp) ?_
          case hr => first | (go_simp; done) | (go_simp; rfl)
          case hp => exact Reps.snoc (Reps.none _ 1) rfl rfl
          intro u6 w_3 hO_ _ hg_ _
          have hbL : Below w_2.heap.size w_2 w_3 := ⟨hg_.os, hg_.tape, hg_.output, hg_.size, fun k hk => hg_.block k hk (by simp)⟩
          obtain ⟨B6, c6, rfl⟩ := Kd.R_slice hO_
          have HI3 := Aside0.mk (HI2.out.move hbL)
          have V3_3 := Aside0.mk (Kd.R_below V3_2.out hbL)
          have U6_3 := Aside0.mk hO_
          clear hbL hg_ hO_
          refine hK.out _ _ ⟨(blk_cell HI3.out.box 0).trans rfl, (blk_cell HI3.out.box 1).trans rfl, (blk_cell HI3.out.box 2).trans rfl⟩ (fun hHeld => ?_)
          clear hK K
          refine norm_ (a' := ?_) ?_ ?_
          rotate_left
          · show Act.put _ (some 24) _ = _
            simp only [Act.put, List.setIfInBounds_toArray, List.set_cons_zero, List.set_cons_succ, i64_w, i32_w]
            rfl
          refine two_ (i := 7) (j := 11) (Ni := some 25) (Nj := some 29) #[true, true, true, true, true, true, true, true, true, true, true, false, false, false] #[true, true, true, true, true, true, true, false, true, true, true, true, false, false] rfl rfl rfl rfl (two_of HT_.out (by kernel_rfl)) (by decide) (by decide) (fun K hK => ?_) (fun K hK => ?_)
          · refine goes_ Try.func45 (by kernel_rfl) rfl #[v3, .int .i64 6, .slice B6 [tr].length c6] (by rfl) rfl rfl (by (try simp only [List.map_toArray, List.map_cons, List.map_nil]); first | done | rfl) ?_
            refine (numbers_c v3 (numsF [] 1 [ow]) 6 B6 c6 [tr] (fun q => W.heap.size < q) _ V3_3.out (fun k hk => Nat.lt_of_lt_of_le (blk_lt HI3.out.box) hk) (lit_hl U6_3.out V3_3.out) (Kd.R_reads' U6_3.out).2.1 (by have := numsF_len [] 1 [ow]; simp only [List.length_nil, List.length_singleton] at this ⊢; omega)).mono ?_
            rintro e w_4 ⟨v7, rfl, hO_, hgL, -⟩
            refine ⟨_, rfl, ?_⟩
            have HI4 := Aside0.mk (HI3.out.grown hgL (fun q hq => V3_3.out.1 q hq))
            have V7_4 := Aside0.mk hO_
            clear hgL hO_
            refine hK.out _ _ ⟨(blk_cell HI4.out.box 0).trans rfl, (blk_cell HI4.out.box 1).trans rfl, (blk_cell HI4.out.box 2).trans rfl⟩ (fun hHeld => ?_)
            clear hK K
            refine norm_ (a' := ?_) ?_ ?_
            rotate_left
            · show Act.put _ (some 25) _ = _
              simp only [Act.put, List.setIfInBounds_toArray, List.set_cons_zero, List.set_cons_succ, i64_w, i32_w]
              rfl
            refine one_ (i := 11) (N := some 29) #[true, true, true, true, true, true, true, true, true, true, true, true, false, false] rfl rfl (one_of HT_.out (by kernel_rfl)) (by decide) (fun K hK => ?_)
            refine Kd.R_lit_step (Kd.int .i64) (w0 := w_4) 0 3 (by rfl) (N := 29) rfl (xs := [(ps.length : Int)]) (inner := [.int .i64 (ps.length : Int)]) (ok := (fun q => W.heap.size < q)) (okp := (fun q => W.heap.size < q)) ?hr ?hp (fun _ hk => hk) (Nat.lt_of_lt_of_le (blk_lt HI4.out.box) (Nat.le_refl _)) (Below.refl _ _) (Nat.zero_le _) (by simp) ?_
            case hr => first | (go_simp; done) | (go_simp; rfl)
            case hp => exact Reps.snoc (Reps.none _ 1) rfl rfl
            intro u11 w_5 hO_ _ hg_ _
            have hbL : Below w_4.heap.size w_4 w_5 := ⟨hg_.os, hg_.tape, hg_.output, hg_.size, fun k hk => hg_.block k hk (by simp)⟩
            obtain ⟨B11, c11, rfl⟩ := Kd.R_slice hO_
            have HI5 := Aside0.mk (HI4.out.move hbL)
            have V7_5 := Aside0.mk (Kd.R_below V7_4.out hbL)
            have U11_5 := Aside0.mk hO_
            clear hbL hg_ hO_
            refine hK.out _ _ ⟨(blk_cell HI5.out.box 0).trans rfl, (blk_cell HI5.out.box 1).trans rfl, (blk_cell HI5.out.box 2).trans rfl⟩ (fun hHeld => ?_)
            clear hK K
            refine norm_ (a' := ?_) ?_ ?_
            rotate_left
            · show Act.put _ (some 29) _ = _
              simp only [Act.put, List.setIfInBounds_toArray, List.set_cons_zero, List.set_cons_succ, i64_w, i32_w]
              rfl
            exact norm_ (by first | (simp only [putAll, Act.put, List.setIfInBounds_toArray, List.set_cons_zero, List.set_cons_succ]; done) | (simp only [putAll, Act.put, List.setIfInBounds_toArray, List.set_cons_zero, List.set_cons_succ]; rfl)) (CONT (_, _, _, _, _) _ ⟨HI5.out, V7_5.out, U11_5.out⟩)
          · refine Kd.R_lit_step (Kd.int .i64) (w0 := w_3) 0 3 (by rfl) (N := 29) rfl (xs := [(ps.length : Int)]) (inner := [.int .i64 (ps.length : Int)]) (ok := (fun q => W.heap.size < q)) (okp := (fun q => W.heap.size < q)) ?hr ?hp (fun _ hk => hk) (Nat.lt_of_lt_of_le (blk_lt HI3.out.box) (Nat.le_refl _)) (Below.refl _ _) (Nat.zero_le _) (by simp) ?_
            case hr => first | (go_simp; done) | (go_simp; rfl)
            case hp => exact Reps.snoc (Reps.none _ 1) rfl rfl
            intro u11 w_4 hO_ _ hg_ _
            have hbL : Below w_3.heap.size w_3 w_4 := ⟨hg_.os, hg_.tape, hg_.output, hg_.size, fun k hk => hg_.block k hk (by simp)⟩
            obtain ⟨B11, c11, rfl⟩ := Kd.R_slice hO_
            have HI4 := Aside0.mk (HI3.out.move hbL)
            have U6_4 := Aside0.mk (Kd.R_below U6_3.out hbL)
            have V3_4 := Aside0.mk (Kd.R_below V3_3.out hbL)
            have U11_4 := Aside0.mk hO_
            clear hbL hg_ hO_
            refine hK.out _ _ ⟨(blk_cell HI4.out.box 0).trans rfl, (blk_cell HI4.out.box 1).trans rfl, (blk_cell HI4.out.box 2).trans rfl⟩ (fun hHeld => ?_)
            clear hK K
            refine norm_ (a' := ?_) ?_ ?_
            rotate_left
            · show Act.put _ (some 29) _ = _
              simp only [Act.put, List.setIfInBounds_toArray, List.set_cons_zero, List.set_cons_succ, i64_w, i32_w]
              rfl
            refine one_ (i := 7) (N := some 25) #[true, true, true, true, true, true, true, true, true, true, true, true, false, false] rfl rfl (one_of HT_.out (by kernel_rfl)) (by decide) (fun K hK => ?_)
            refine goes_ Try.func45 (by kernel_rfl) rfl #[v3, .int .i64 6, .slice B6 [tr].length c6] (by rfl) rfl rfl (by (try simp only [List.map_toArray, List.map_cons, List.map_nil]); first | done | rfl) ?_
            refine (numbers_c v3 (numsF [] 1 [ow]) 6 B6 c6 [tr] (fun q => W.heap.size < q) _ V3_4.out (fun k hk => Nat.lt_of_lt_of_le (blk_lt HI4.out.box) hk) (lit_hl U6_4.out V3_4.out) (Kd.R_reads' U6_4.out).2.1 (by have := numsF_len [] 1 [ow]; simp only [List.length_nil, List.length_singleton] at this ⊢; omega)).mono ?_
            rintro e w_5 ⟨v7, rfl, hO_, hgL, -⟩
            refine ⟨_, rfl, ?_⟩
            have HI5 := Aside0.mk (HI4.out.grown hgL (fun q hq => V3_4.out.1 q hq))
            have U11_5 := Aside0.mk (lit_kept U11_4.out V3_4.out hgL)
            have V7_5 := Aside0.mk hO_
            clear hgL hO_
            refine hK.out _ _ ⟨(blk_cell HI5.out.box 0).trans rfl, (blk_cell HI5.out.box 1).trans rfl, (blk_cell HI5.out.box 2).trans rfl⟩ (fun hHeld => ?_)
            clear hK K
            refine norm_ (a' := ?_) ?_ ?_
            rotate_left
            · show Act.put _ (some 25) _ = _
              simp only [Act.put, List.setIfInBounds_toArray, List.set_cons_zero, List.set_cons_succ, i64_w, i32_w]
              rfl
            exact norm_ (by first | (simp only [putAll, Act.put, List.setIfInBounds_toArray, List.set_cons_zero, List.set_cons_succ]; done) | (simp only [putAll, Act.put, List.setIfInBounds_toArray, List.set_cons_zero, List.set_cons_succ]; rfl)) (CONT (_, _, _, _, _) _ ⟨HI5.out, V7_5.out, U11_5.out⟩)
        · refine Kd.R_lit_step (Kd.int .i64) (w0 := w_2) 0 3 (by rfl) (N := 29) rfl (xs := [(ps.length : Int)]) (inner := [.int .i64 (ps.length : Int)]) (ok := (fun q => W.heap.size < q)) (okp := (fun q => W.heap.size < q)) ?hr ?hp (fun _ hk => hk) (Nat.lt_of_lt_of_le (blk_lt HI2.out.box) (Nat.le_refl _)) (Below.refl _ _) (Nat.zero_le _) (by simp) ?_
          case hr => first | (go_simp; done) | (go_simp; rfl)
          case hp => exact Reps.snoc (Reps.none _ 1) rfl rfl
          intro u11 w_3 hO_ _ hg_ _
          have hbL : Below w_2.heap.size w_2 w_3 := ⟨hg_.os, hg_.tape, hg_.output, hg_.size, fun k hk => hg_.block k hk (by simp)⟩
          obtain ⟨B11, c11, rfl⟩ := Kd.R_slice hO_
          have HI3 := Aside0.mk (HI2.out.move hbL)
          have V3_3 := Aside0.mk (Kd.R_below V3_2.out hbL)
          have U11_3 := Aside0.mk hO_
          clear hbL hg_ hO_
          refine hK.out _ _ ⟨(blk_cell HI3.out.box 0).trans rfl, (blk_cell HI3.out.box 1).trans rfl, (blk_cell HI3.out.box 2).trans rfl⟩ (fun hHeld => ?_)
          clear hK K
          refine norm_ (a' := ?_) ?_ ?_
          rotate_left
          · show Act.put _ (some 29) _ = _
            simp only [Act.put, List.setIfInBounds_toArray, List.set_cons_zero, List.set_cons_succ, i64_w, i32_w]
            rfl
          refine one_ (i := 6) (N := some 24) #[true, true, true, true, true, true, true, false, true, true, true, true, false, false] rfl rfl (one_of HT_.out (by kernel_rfl)) (by decide) (fun K hK => ?_)
          refine Kd.R_lit_step (Kd.int .i64) (w0 := w_3) 0 3 (by rfl) (N := 24) rfl (xs := [tr]) (inner := [.int .i64 tr]) (ok := (fun q => W.heap.size < q)) (okp := (fun q => W.heap.size < q)) ?hr ?hp (fun _ hk => hk) (Nat.lt_of_lt_of_le (blk_lt HI3.out.box) (Nat.le_refl _)) (Below.refl _ _) (Nat.zero_le _) (by simp) ?_
          case hr => first | (go_simp; done) | (go_simp; rfl)
          case hp => exact Reps.snoc (Reps.none _ 1) rfl rfl
          intro u6 w_4 hO_ _ hg_ _
          have hbL : Below w_3.heap.size w_3 w_4 := ⟨hg_.os, hg_.tape, hg_.output, hg_.size, fun k hk => hg_.block k hk (by simp)⟩
          obtain ⟨B6, c6, rfl⟩ := Kd.R_slice hO_
          have HI4 := Aside0.mk (HI3.out.move hbL)
          have U11_4 := Aside0.mk (Kd.R_below U11_3.out hbL)
          have V3_4 := Aside0.mk (Kd.R_below V3_3.out hbL)
          have U6_4 := Aside0.mk hO_
          clear hbL hg_ hO_
          refine hK.out _ _ ⟨(blk_cell HI4.out.box 0).trans rfl, (blk_cell HI4.out.box 1).trans rfl, (blk_cell HI4.out.box 2).trans rfl⟩ (fun hHeld => ?_)
          clear hK K
          refine norm_ (a' := ?_) ?_ ?_
          rotate_left
          · show Act.put _ (some 24) _ = _
            simp only [Act.put, List.setIfInBounds_toArray, List.set_cons_zero, List.set_cons_succ, i64_w, i32_w]
            rfl
          refine one_ (i := 7) (N := some 25) #[true, true, true, true, true, true, true, true, true, true, true, true, false, false] rfl rfl (one_of HT_.out (by kernel_rfl)) (by decide) (fun K hK => ?_)
          refine goes_ Try.func45 (by kernel_rfl) rfl #[v3, .int .i64 6, .slice B6 [tr].length c6] (by rfl) rfl rfl (by (try simp only [List.map_toArray, List.map_cons, List.map_nil]); first | done | rfl) ?_
          refine (numbers_c v3 (numsF [] 1 [ow]) 6 B6 c6 [tr] (fun q => W.heap.size < q) _ V3_4.out (fun k hk => Nat.lt_of_lt_of_le (blk_lt HI4.out.box) hk) (lit_hl U6_4.out V3_4.out) (Kd.R_reads' U6_4.out).2.1 (by have := numsF_len [] 1 [ow]; simp only [List.length_nil, List.length_singleton] at this ⊢; omega)).mono ?_
          rintro e w_5 ⟨v7, rfl, hO_, hgL, -⟩
          refine ⟨_, rfl, ?_⟩
          have HI5 := Aside0.mk (HI4.out.grown hgL (fun q hq => V3_4.out.1 q hq))
          have U11_5 := Aside0.mk (lit_kept U11_4.out V3_4.out hgL)
          have V7_5 := Aside0.mk hO_
          clear hgL hO_
          refine hK.out _ _ ⟨(blk_cell HI5.out.box 0).trans rfl, (blk_cell HI5.out.box 1).trans rfl, (blk_cell HI5.out.box 2).trans rfl⟩ (fun hHeld => ?_)
          clear hK K
          refine norm_ (a' := ?_) ?_ ?_
          rotate_left
          · show Act.put _ (some 25) _ = _
            simp only [Act.put, List.setIfInBounds_toArray, List.set_cons_zero, List.set_cons_succ, i64_w, i32_w]
            rfl
          exact norm_ (by first | (simp only [putAll, Act.put, List.setIfInBounds_toArray, List.set_cons_zero, List.set_cons_succ]; done) | (simp only [putAll, Act.put, List.setIfInBounds_toArray, List.set_cons_zero, List.set_cons_succ]; rfl)) (CONT (_, _, _, _, _) _ ⟨HI5.out, V7_5.out, U11_5.out⟩)
      · refine Kd.R_lit_step (Kd.int .i64) (w0 := w_1) 0 3 (by rfl) (N := 24) rfl (xs := [tr]) (inner := [.int .i64 tr]) (ok := (fun q => W.heap.size < q)) (okp := (fun q => W.heap.size < q)) ?hr ?hp (fun _ hk => hk) (Nat.lt_of_lt_of_le (blk_lt HI1.out.box) (Nat.le_refl _)) (Below.refl _ _) (Nat.zero_le _) (by simp) ?_
        case hr => first | (go_simp; done) | (go_simp; rfl)
        case hp => exact Reps.snoc (Reps.none _ 1) rfl rfl
        intro u6 w_2 hO_ _ hg_ _
        have hbL : Below w_1.heap.size w_1 w_2 := ⟨hg_.os, hg_.tape, hg_.output, hg_.size, fun k hk => hg_.block k hk (by simp)⟩
        obtain ⟨B6, c6, rfl⟩ := Kd.R_slice hO_
        have HI2 := Aside0.mk (HI1.out.move hbL)
        have U2_2 := Aside0.mk (Kd.R_below U2_1.out hbL)
        have U6_2 := Aside0.mk hO_
        clear hbL hg_ hO_
        refine hK.out _ _ ⟨(blk_cell HI2.out.box 0).trans rfl, (blk_cell HI2.out.box 1).trans rfl, (blk_cell HI2.out.box 2).trans rfl⟩ (fun hHeld => ?_)
        clear hK K
        refine norm_ (a' := ?_) ?_ ?_
        rotate_left
        · show Act.put _ (some 24) _ = _
          simp only [Act.put, List.setIfInBounds_toArray, List.set_cons_zero, List.set_cons_succ, i64_w, i32_w]
          rfl
        refine two_ (i := 3) (j := 11) (Ni := some 21) (Nj := some 29) #[true, true, true, true, true, true, true, false, true, true, true, false, false, false] #[true, true, true, false, true, true, true, false, true, true, true, true, false, false] rfl rfl rfl rfl (two_of HT_.out (by kernel_rfl)) (by decide) (by decide) (fun K hK => ?_) (fun K hK => ?_)
        · refine goes_ Try.func45 (by kernel_rfl) rfl #[.slice none 0 0, .int .i64 1, .slice B2 [ow].length c2] (by rfl) rfl rfl (by (try simp only [List.map_toArray, List.map_cons, List.map_nil]); first | done | rfl) ?_
          refine (numbers_c (.slice none 0 0) [] 1 B2 c2 [ow] (fun q => W.heap.size < q) _ (Kd.R_nil _ _ _ _ _) (fun k hk => Nat.lt_of_lt_of_le (blk_lt HI2.out.box) hk) (lit_hl U2_2.out (Kd.R_nil (Kd.int .u8) 5 _ 0 (fun q => W.heap.size < q))) (Kd.R_reads' U2_2.out).2.1 (by simp)).mono ?_
          rintro e w_3 ⟨v3, rfl, hO_, hg_, -⟩
          refine ⟨_, rfl, ?_⟩
          have hbL : Below w_2.heap.size w_2 w_3 := ⟨hg_.os, hg_.tape, hg_.output, hg_.size, fun k hk => hg_.block k hk (by simp [Value.ownBlock])⟩
          have HI3 := Aside0.mk (HI2.out.move hbL)
          have U6_3 := Aside0.mk (Kd.R_below U6_2.out hbL)
          have V3_3 := Aside0.mk hO_
          clear hbL hg_ hO_
          refine hK.out _ _ ⟨(blk_cell HI3.out.box 0).trans rfl, (blk_cell HI3.out.box 1).trans rfl, (blk_cell HI3.out.box 2).trans rfl⟩ (fun hHeld => ?_)
          clear hK K
          refine norm_ (a' := ?_) ?_ ?_
          rotate_left
          · show Act.put _ (some 21) _ = _
            simp only [Act.put, List.setIfInBounds_toArray, List.set_cons_zero, List.set_cons_succ, i64_w, i32_w]
            rfl
          refine two_ (i := 7) (j := 11) (Ni := some 25) (Nj := some 29) #[true, true, true, true, true, true, true, true, true, true, true, false, false, false] #[true, true, true, true, true, true, true, false, true, true, true, true, false, false] rfl rfl rfl rfl (two_of HT_.out (by kernel_rfl)) (by decide) (by decide) (fun K hK => ?_) (fun K hK => ?_)
          · refine goes_ Try.func45 (by kernel_rfl) rfl #[v3, .int .i64 6, .slice B6 [tr].length c6] (by rfl) rfl rfl (by (try simp only [List.map_toArray, List.map_cons, List.map_nil]); first | done | rfl) ?_
            refine (numbers_c v3 (numsF [] 1 [ow]) 6 B6 c6 [tr] (fun q => W.heap.size < q) _ V3_3.out (fun k hk => Nat.lt_of_lt_of_le (blk_lt HI3.out.box) hk) (lit_hl U6_3.out V3_3.out) (Kd.R_reads' U6_3.out).2.1 (by have := numsF_len [] 1 [ow]; simp only [List.length_nil, List.length_singleton] at this ⊢; omega)).mono ?_
            rintro e w_4 ⟨v7, rfl, hO_, hgL, -⟩
            refine ⟨_, rfl, ?_⟩
            have HI4 := Aside0.mk (HI3.out.grown hgL (fun q hq => V3_3.out.1 q hq))
            have V7_4 := Aside0.mk hO_
            clear hgL hO_
            refine hK.out _ _ ⟨(blk_cell HI4.out.box 0).trans rfl, (blk_cell HI4.out.box 1).trans rfl, (blk_cell HI4.out.box 2).trans rfl⟩ (fun hHeld => ?_)
            clear hK K
            refine norm_ (a' := ?_) ?_ ?_
            rotate_left
            · show Act.put _ (some 25) _ = _
              simp only [Act.put, List.setIfInBounds_toArray, List.set_cons_zero, List.set_cons_succ, i64_w, i32_w]
              rfl
            refine one_ (i := 11) (N := some 29) #[true, true, true, true, true, true, true, true, true, true, true, true, false, false] rfl rfl (one_of HT_.out (by kernel_rfl)) (by decide) (fun K hK => ?_)
            refine Kd.R_lit_step (Kd.int .i64) (w0 := w_4) 0 3 (by rfl) (N := 29) rfl (xs := [(ps.length : Int)]) (inner := [.int .i64 (ps.length : Int)]) (ok := (fun q => W.heap.size < q)) (okp := (fun q => W.heap.size < q)) ?hr ?hp (fun _ hk => hk) (Nat.lt_of_lt_of_le (blk_lt HI4.out.box) (Nat.le_refl _)) (Below.refl _ _) (Nat.zero_le _) (by simp) ?_
            case hr => first | (go_simp; done) | (go_simp; rfl)
            case hp => exact Reps.snoc (Reps.none _ 1) rfl rfl
            intro u11 w_5 hO_ _ hg_ _
            have hbL : Below w_4.heap.size w_4 w_5 := ⟨hg_.os, hg_.tape, hg_.output, hg_.size, fun k hk => hg_.block k hk (by simp)⟩
            obtain ⟨B11, c11, rfl⟩ := Kd.R_slice hO_
            have HI5 := Aside0.mk (HI4.out.move hbL)
            have V7_5 := Aside0.mk (Kd.R_below V7_4.out hbL)
            have U11_5 := Aside0.mk hO_
            clear hbL hg_ hO_
            refine hK.out _ _ ⟨(blk_cell HI5.out.box 0).trans rfl, (blk_cell HI5.out.box 1).trans rfl, (blk_cell HI5.out.box 2).trans rfl⟩ (fun hHeld => ?_)
            clear hK K
            refine norm_ (a' := ?_) ?_ ?_
            rotate_left
            · show Act.put _ (some 29) _ = _
              simp only [Act.put, List.setIfInBounds_toArray, List.set_cons_zero, List.set_cons_succ, i64_w, i32_w]
              rfl
            exact norm_ (by first | (simp only [putAll, Act.put, List.setIfInBounds_toArray, List.set_cons_zero, List.set_cons_succ]; done) | (simp only [putAll, Act.put, List.setIfInBounds_toArray, List.set_cons_zero, List.set_cons_succ]; rfl)) (CONT (_, _, _, _, _) _ ⟨HI5.out, V7_5.out, U11_5.out⟩)
          · refine Kd.R_lit_step (Kd.int .i64) (w0 := w_3) 0 3 (by rfl) (N := 29) rfl (xs := [(ps.length : Int)]) (inner := [.int .i64 (ps.length : Int)]) (ok := (fun q => W.heap.size < q)) (okp := (fun q => W.heap.size < q)) ?hr ?hp (fun _ hk => hk) (Nat.lt_of_lt_of_le (blk_lt HI3.out.box) (Nat.le_refl _)) (Below.refl _ _) (Nat.zero_le _) (by simp) ?_
            case hr => first | (go_simp; done) | (go_simp; rfl)
            case hp => exact Reps.snoc (Reps.none _ 1) rfl rfl
            intro u11 w_4 hO_ _ hg_ _
            have hbL : Below w_3.heap.size w_3 w_4 := ⟨hg_.os, hg_.tape, hg_.output, hg_.size, fun k hk => hg_.block k hk (by simp)⟩
            obtain ⟨B11, c11, rfl⟩ := Kd.R_slice hO_
            have HI4 := Aside0.mk (HI3.out.move hbL)
            have U6_4 := Aside0.mk (Kd.R_below U6_3.out hbL)
            have V3_4 := Aside0.mk (Kd.R_below V3_3.out hbL)
            have U11_4 := Aside0.mk hO_
            clear hbL hg_ hO_
            refine hK.out _ _ ⟨(blk_cell HI4.out.box 0).trans rfl, (blk_cell HI4.out.box 1).trans rfl, (blk_cell HI4.out.box 2).trans rfl⟩ (fun hHeld => ?_)
            clear hK K
            refine norm_ (a' := ?_) ?_ ?_
            rotate_left
            · show Act.put _ (some 29) _ = _
              simp only [Act.put, List.setIfInBounds_toArray, List.set_cons_zero, List.set_cons_succ, i64_w, i32_w]
              rfl
            refine one_ (i := 7) (N := some 25) #[true, true, true, true, true, true, true, true, true, true, true, true, false, false] rfl rfl (one_of HT_.out (by kernel_rfl)) (by decide) (fun K hK => ?_)
            refine goes_ Try.func45 (by kernel_rfl) rfl #[v3, .int .i64 6, .slice B6 [tr].length c6] (by rfl) rfl rfl (by (try simp only [List.map_toArray, List.map_cons, List.map_nil]); first | done | rfl) ?_
            refine (numbers_c v3 (numsF [] 1 [ow]) 6 B6 c6 [tr] (fun q => W.heap.size < q) _ V3_4.out (fun k hk => Nat.lt_of_lt_of_le (blk_lt HI4.out.box) hk) (lit_hl U6_4.out V3_4.out) (Kd.R_reads' U6_4.out).2.1 (by have := numsF_len [] 1 [ow]; simp only [List.length_nil, List.length_singleton] at this ⊢; omega)).mono ?_
            rintro e w_5 ⟨v7, rfl, hO_, hgL, -⟩
            refine ⟨_, rfl, ?_⟩
            have HI5 := Aside0.mk (HI4.out.grown hgL (fun q hq => V3_4.out.1 q hq))
            have U11_5 := Aside0.mk (lit_kept U11_4.out V3_4.out hgL)
            have V7_5 := Aside0.mk hO_
            clear hgL hO_
            refine hK.out _ _ ⟨(blk_cell HI5.out.box 0).trans rfl, (blk_cell HI5.out.box 1).trans rfl, (blk_cell HI5.out.box 2).trans rfl⟩ (fun hHeld => ?_)
            clear hK K
            refine norm_ (a' := ?_) ?_ ?_
            rotate_left
            · show Act.put _ (some 25) _ = _
              simp only [Act.put, List.setIfInBounds_toArray, List.set_cons_zero, List.set_cons_succ, i64_w, i32_w]
              rfl
            exact norm_ (by first | (simp only [putAll, Act.put, List.setIfInBounds_toArray, List.set_cons_zero, List.set_cons_succ]; done) | (simp only [putAll, Act.put, List.setIfInBounds_toArray, List.set_cons_zero, List.set_cons_succ]; rfl)) (CONT (_, _, _, _, _) _ ⟨HI5.out, V7_5.out, U11_5.out⟩)
        · refine Kd.R_lit_step (Kd.int .i64) (w0 := w_2) 0 3 (by rfl) (N := 29) rfl (xs := [(ps.length : Int)]) (inner := [.int .i64 (ps.length : Int)]) (ok := (fun q => W.heap.size < q)) (okp := (fun q => W.heap.size < q)) ?hr ?hp (fun _ hk => hk) (Nat.lt_of_lt_of_le (blk_lt HI2.out.box) (Nat.le_refl _)) (Below.refl _ _) (Nat.zero_le _) (by simp) ?_
          case hr => first | (go_simp; done) | (go_simp; rfl)
          case hp => exact Reps.snoc (Reps.none _ 1) rfl rfl
          intro u11 w_3 hO_ _ hg_ _
          have hbL : Below w_2.heap.size w_2 w_3 := ⟨hg_.os, hg_.tape, hg_.output, hg_.size, fun k hk => hg_.block k hk (by simp)⟩
          obtain ⟨B11, c11, rfl⟩ := Kd.R_slice hO_
          have HI3 := Aside0.mk (HI2.out.move hbL)
          have U2_3 := Aside0.mk (Kd.R_below U2_2.out hbL)
          have U6_3 := Aside0.mk (Kd.R_below U6_2.out hbL)
          have U11_3 := Aside0.mk hO_
          clear hbL hg_ hO_
          refine hK.out _ _ ⟨(blk_cell HI3.out.box 0).trans rfl, (blk_cell HI3.out.box 1).trans rfl, (blk_cell HI3.out.box 2).trans rfl⟩ (fun hHeld => ?_)
          clear hK K
          refine norm_ (a' := ?_) ?_ ?_
          rotate_left
          · show Act.put _ (some 29) _ = _
            simp only [Act.put, List.setIfInBounds_toArray, List.set_cons_zero, List.set_cons_succ, i64_w, i32_w]
            rfl
          refine one_ (i := 3) (N := some 21) #[true, true, true, true, true, true, true, false, true, true, true, true, false, false] rfl rfl (one_of HT_.out (by kernel_rfl)) (by decide) (fun K hK => ?_)
          refine goes_ Try.func45 (by kernel_rfl) rfl #[.slice none 0 0, .int .i64 1, .slice B2 [ow].length c2] (by rfl) rfl rfl (by (try simp only [List.map_toArray, List.map_cons, List.map_nil]); first | done | rfl) ?_
          refine (numbers_c (.slice none 0 0) [] 1 B2 c2 [ow] (fun q => W.heap.size < q) _ (Kd.R_nil _ _ _ _ _) (fun k hk => Nat.lt_of_lt_of_le (blk_lt HI3.out.box) hk) (lit_hl U2_3.out (Kd.R_nil (Kd.int .u8) 5 _ 0 (fun q => W.heap.size < q))) (Kd.R_reads' U2_3.out).2.1 (by simp)).mono ?_
          rintro e w_4 ⟨v3, rfl, hO_, hg_, -⟩
          refine ⟨_, rfl, ?_⟩
          have hbL : Below w_3.heap.size w_3 w_4 := ⟨hg_.os, hg_.tape, hg_.output, hg_.size, fun k hk => hg_.block k hk (by simp [Value.ownBlock])⟩
          have HI4 := Aside0.mk (HI3.out.move hbL)
          have U11_4 := Aside0.mk (Kd.R_below U11_3.out hbL)
          have U6_4 := Aside0.mk (Kd.R_below U6_3.out hbL)
          have V3_4 := Aside0.mk hO_
          clear hbL hg_ hO_
          refine hK.out _ _ ⟨(blk_cell HI4.out.box 0).trans rfl, (blk_cell HI4.out.box 1).trans rfl, (blk_cell HI4.out.box 2).trans rfl⟩ (fun hHeld => ?_)
          clear hK K
          refine norm_ (a' := ?_) ?_ ?_
          rotate_left
          · show Act.put _ (some 21) _ = _
            simp only [Act.put, List.setIfInBounds_toArray, List.set_cons_zero, List.set_cons_succ, i64_w, i32_w]
            rfl
          refine one_ (i := 7) (N := some 25) #[true, true, true, true, true, true, true, true, true, true, true, true, false, false] rfl rfl (one_of HT_.out (by kernel_rfl)) (by decide) (fun K hK => ?_)
          refine goes_ Try.func45 (by kernel_rfl) rfl #[v3, .int .i64 6, .slice B6 [tr].length c6] (by rfl) rfl rfl (by (try simp only [List.map_toArray, List.map_cons, List.map_nil]); first | done | rfl) ?_
          refine (numbers_c v3 (numsF [] 1 [ow]) 6 B6 c6 [tr] (fun q => W.heap.size < q) _ V3_4.out (fun k hk => Nat.lt_of_lt_of_le (blk_lt HI4.out.box) hk) (lit_hl U6_4.out V3_4.out) (Kd.R_reads' U6_4.out).2.1 (by have := numsF_len [] 1 [ow]; simp only [List.length_nil, List.length_singleton] at this ⊢; omega)).mono ?_
          rintro e w_5 ⟨v7, rfl, hO_, hgL, -⟩
          refine ⟨_, rfl, ?_⟩
          have HI5 := Aside0.mk (HI4.out.grown hgL (fun q hq => V3_4.out.1 q hq))
          have U11_5 := Aside0.mk (lit_kept U11_4.out V3_4.out hgL)
          have V7_5 := Aside0.mk hO_
          clear hgL hO_
          refine hK.out _ _ ⟨(blk_cell HI5.out.box 0).trans rfl, (blk_cell HI5.out.box 1).trans rfl, (blk_cell HI5.out.box 2).trans rfl⟩ (fun hHeld => ?_)
          clear hK K
          refine norm_ (a' := ?_) ?_ ?_
          rotate_left
          · show Act.put _ (some 25) _ = _
            simp only [Act.put, List.setIfInBounds_toArray, List.set_cons_zero, List.set_cons_succ, i64_w, i32_w]
            rfl
          exact norm_ (by first | (simp only [putAll, Act.put, List.setIfInBounds_toArray, List.set_cons_zero, List.set_cons_succ]; done) | (simp only [putAll, Act.put, List.setIfInBounds_toArray, List.set_cons_zero, List.set_cons_succ]; rfl)) (CONT (_, _, _, _, _) _ ⟨HI5.out, V7_5.out, U11_5.out⟩)
      · refine Kd.R_lit_step (Kd.int .i64) (w0 := w_1) 0 3 (by rfl) (N := 29) rfl (xs := [(ps.length : Int)]) (inner := [.int .i64 (ps.length : Int)]) (ok := (fun q => W.heap.size < q)) (okp := (fun q => W.heap.size < q)) ?hr ?hp (fun _ hk => hk) (Nat.lt_of_lt_of_le (blk_lt HI1.out.box) (Nat.le_refl _)) (Below.refl _ _) (Nat.zero_le _) (by simp) ?_
        case hr => first | (go_simp; done) | (go_simp; rfl)
        case hp => exact Reps.snoc (Reps.none _ 1) rfl rfl
        intro u11 w_2 hO_ _ hg_ _
        have hbL : Below w_1.heap.size w_1 w_2 := ⟨hg_.os, hg_.tape, hg_.output, hg_.size, fun k hk => hg_.block k hk (by simp)⟩
        obtain ⟨B11, c11, rfl⟩ := Kd.R_slice hO_
        have HI2 := Aside0.mk (HI1.out.move hbL)
        have U2_2 := Aside0.mk (Kd.R_below U2_1.out hbL)
        have U11_2 := Aside0.mk hO_
        clear hbL hg_ hO_
        refine hK.out _ _ ⟨(blk_cell HI2.out.box 0).trans rfl, (blk_cell HI2.out.box 1).trans rfl, (blk_cell HI2.out.box 2).trans rfl⟩ (fun hHeld => ?_)
        clear hK K
        refine norm_ (a' := ?_) ?_ ?_
        rotate_left
        · show Act.put _ (some 29) _ = _
          simp only [Act.put, List.setIfInBounds_toArray, List.set_cons_zero, List.set_cons_succ, i64_w, i32_w]
          rfl
        refine two_ (i := 3) (j := 6) (Ni := some 21) (Nj := some 24) #[true, true, true, true, true, true, false, false, true, true, true, true, false, false] #[true, true, true, false, true, true, true, false, true, true, true, true, false, false] rfl rfl rfl rfl (two_of HT_.out (by kernel_rfl)) (by decide) (by decide) (fun K hK => ?_) (fun K hK => ?_)
        · refine goes_ Try.func45 (by kernel_rfl) rfl #[.slice none 0 0, .int .i64 1, .slice B2 [ow].length c2] (by rfl) rfl rfl (by (try simp only [List.map_toArray, List.map_cons, List.map_nil]); first | done | rfl) ?_
          refine (numbers_c (.slice none 0 0) [] 1 B2 c2 [ow] (fun q => W.heap.size < q) _ (Kd.R_nil _ _ _ _ _) (fun k hk => Nat.lt_of_lt_of_le (blk_lt HI2.out.box) hk) (lit_hl U2_2.out (Kd.R_nil (Kd.int .u8) 5 _ 0 (fun q => W.heap.size < q))) (Kd.R_reads' U2_2.out).2.1 (by simp)).mono ?_
          rintro e w_3 ⟨v3, rfl, hO_, hg_, -⟩
          refine ⟨_, rfl, ?_⟩
          have hbL : Below w_2.heap.size w_2 w_3 := ⟨hg_.os, hg_.tape, hg_.output, hg_.size, fun k hk => hg_.block k hk (by simp [Value.ownBlock])⟩
          have HI3 := Aside0.mk (HI2.out.move hbL)
          have U11_3 := Aside0.mk (Kd.R_below U11_2.out hbL)
          have V3_3 := Aside0.mk hO_
          clear hbL hg_ hO_
          refine hK.out _ _ ⟨(blk_cell HI3.out.box 0).trans rfl, (blk_cell HI3.out.box 1).trans rfl, (blk_cell HI3.out.box 2).trans rfl⟩ (fun hHeld => ?_)
          clear hK K
          refine norm_ (a' := ?_) ?_ ?_
          rotate_left
          · show Act.put _ (some 21) _ = _
            simp only [Act.put, List.setIfInBounds_toArray, List.set_cons_zero, List.set_cons_succ, i64_w, i32_w]
            rfl
          refine one_ (i := 6) (N := some 24) #[true, true, true, true, true, true, true, false, true, true, true, true, false, false] rfl rfl (one_of HT_.out (by kernel_rfl)) (by decide) (fun K hK => ?_)
          refine Kd.R_lit_step (Kd.int .i64) (w0 := w_3) 0 3 (by rfl) (N := 24) rfl (xs := [tr]) (inner := [.int .i64 tr]) (ok := (fun q => W.heap.size < q)) (okp := (fun q => W.heap.size < q)) ?hr ?hp (fun _ hk => hk) (Nat.lt_of_lt_of_le (blk_lt HI3.out.box) (Nat.le_refl _)) (Below.refl _ _) (Nat.zero_le _) (by simp) ?_
          case hr => first | (go_simp; done) | (go_simp; rfl)
          case hp => exact Reps.snoc (Reps.none _ 1) rfl rfl
          intro u6 w_4 hO_ _ hg_ _
          have hbL : Below w_3.heap.size w_3 w_4 := ⟨hg_.os, hg_.tape, hg_.output, hg_.size, fun k hk => hg_.block k hk (by simp)⟩
          obtain ⟨B6, c6, rfl⟩ := Kd.R_slice hO_
          have HI4 := Aside0.mk (HI3.out.move hbL)
          have U11_4 := Aside0.mk (Kd.R_below U11_3.out hbL)
          have V3_4 := Aside0.mk (Kd.R_below V3_3.out hbL)
          have U6_4 := Aside0.mk hO_
          clear hbL hg_ hO_
          refine hK.out _ _ ⟨(blk_cell HI4.out.box 0).trans rfl, (blk_cell HI4.out.box 1).trans rfl, (blk_cell HI4.out.box 2).trans rfl⟩ (fun hHeld => ?_)
          clear hK K
          refine norm_ (a' := ?_) ?_ ?_
          rotate_left
          · show Act.put _ (some 24) _ = _
            simp only [Act.put, List.setIfInBounds_toArray, List.set_cons_zero, List.set_cons_succ, i64_w, i32_w]
            rfl
          refine one_ (i := 7) (N := some 25) #[true, true, true, true, true, true, true, true, true, true, true, true, false, false] rfl rfl (one_of HT_.out (by kernel_rfl)) (by decide) (fun K hK => ?_)
          refine goes_ Try.func45 (by kernel_rfl) rfl #[v3, .int .i64 6, .slice B6 [tr].length c6] (by rfl) rfl rfl (by (try simp only [List.map_toArray, List.map_cons, List.map_nil]); first | done | rfl) ?_
          refine (numbers_c v3 (numsF [] 1 [ow]) 6 B6 c6 [tr] (fun q => W.heap.size < q) _ V3_4.out (fun k hk => Nat.lt_of_lt_of_le (blk_lt HI4.out.box) hk) (lit_hl U6_4.out V3_4.out) (Kd.R_reads' U6_4.out).2.1 (by have := numsF_len [] 1 [ow]; simp only [List.length_nil, List.length_singleton] at this ⊢; omega)).mono ?_
          rintro e w_5 ⟨v7, rfl, hO_, hgL, -⟩
          refine ⟨_, rfl, ?_⟩
          have HI5 := Aside0.mk (HI4.out.grown hgL (fun q hq => V3_4.out.1 q hq))
          have U11_5 := Aside0.mk (lit_kept U11_4.out V3_4.out hgL)
          have V7_5 := Aside0.mk hO_
          clear hgL hO_
          refine hK.out _ _ ⟨(blk_cell HI5.out.box 0).trans rfl, (blk_cell HI5.out.box 1).trans rfl, (blk_cell HI5.out.box 2).trans rfl⟩ (fun hHeld => ?_)
          clear hK K
          refine norm_ (a' := ?_) ?_ ?_
          rotate_left
          · show Act.put _ (some 25) _ = _
            simp only [Act.put, List.setIfInBounds_toArray, List.set_cons_zero, List.set_cons_succ, i64_w, i32_w]
            rfl
          exact norm_ (by first | (simp only [putAll, Act.put, List.setIfInBounds_toArray, List.set_cons_zero, List.set_cons_succ]; done) | (simp only [putAll, Act.put, List.setIfInBounds_toArray, List.set_cons_zero, List.set_cons_succ]; rfl)) (CONT (_, _, _, _, _) _ ⟨HI5.out, V7_5.out, U11_5.out⟩)
        · refine Kd.R_lit_step (Kd.int .i64) (w0 := w_2) 0 3 (by rfl) (N := 24) rfl (xs := [tr]) (inner := [.int .i64 tr]) (ok := (fun q => W.heap.size < q)) (okp := (fun q => W.heap.size < q)) ?hr ?hp (fun _ hk => hk) (Nat.lt_of_lt_of_le (blk_lt HI2.out.box) (Nat.le_refl _)) (Below.refl _ _) (Nat.zero_le _) (by simp) ?_
          case hr => first | (go_simp; done) | (go_simp; rfl)
          case hp => exact Reps.snoc (Reps.none _ 1) rfl rfl
          intro u6 w_3 hO_ _ hg_ _
          have hbL : Below w_2.heap.size w_2 w_3 := ⟨hg_.os, hg_.tape, hg_.output, hg_.size, fun k hk => hg_.block k hk (by simp)⟩
          obtain ⟨B6, c6, rfl⟩ := Kd.R_slice hO_
          have HI3 := Aside0.mk (HI2.out.move hbL)
          have U11_3 := Aside0.mk (Kd.R_below U11_2.out hbL)
          have U2_3 := Aside0.mk (Kd.R_below U2_2.out hbL)
          have U6_3 := Aside0.mk hO_
          clear hbL hg_ hO_
          refine hK.out _ _ ⟨(blk_cell HI3.out.box 0).trans rfl, (blk_cell HI3.out.box 1).trans rfl, (blk_cell HI3.out.box 2).trans rfl⟩ (fun hHeld => ?_)
          clear hK K
          refine norm_ (a' := ?_) ?_ ?_
          rotate_left
          · show Act.put _ (some 24) _ = _
            simp only [Act.put, List.setIfInBounds_toArray, List.set_cons_zero, List.set_cons_succ, i64_w, i32_w]
            rfl
          refine one_ (i := 3) (N := some 21) #[true, true, true, true, true, true, true, false, true, true, true, true, false, false] rfl rfl (one_of HT_.out (by kernel_rfl)) (by decide) (fun K hK => ?_)
          refine goes_ Try.func45 (by kernel_rfl) rfl #[.slice none 0 0, .int .i64 1, .slice B2 [ow].length c2] (by rfl) rfl rfl (by (try simp only [List.map_toArray, List.map_cons, List.map_nil]); first | done | rfl) ?_
          refine (numbers_c (.slice none 0 0) [] 1 B2 c2 [ow] (fun q => W.heap.size < q) _ (Kd.R_nil _ _ _ _ _) (fun k hk => Nat.lt_of_lt_of_le (blk_lt HI3.out.box) hk) (lit_hl U2_3.out (Kd.R_nil (Kd.int .u8) 5 _ 0 (fun q => W.heap.size < q))) (Kd.R_reads' U2_3.out).2.1 (by simp)).mono ?_
          rintro e w_4 ⟨v3, rfl, hO_, hg_, -⟩
          refine ⟨_, rfl, ?_⟩
          have hbL : Below w_3.heap.size w_3 w_4 := ⟨hg_.os, hg_.tape, hg_.output, hg_.size, fun k hk => hg_.block k hk (by simp [Value.ownBlock])⟩
          have HI4 := Aside0.mk (HI3.out.move hbL)
          have U11_4 := Aside0.mk (Kd.R_below U11_3.out hbL)
          have U6_4 := Aside0.mk (Kd.R_below U6_3.out hbL)
          have V3_4 := Aside0.mk hO_
          clear hbL hg_ hO_
          refine hK.out _ _ ⟨(blk_cell HI4.out.box 0).trans rfl, (blk_cell HI4.out.box 1).trans rfl, (blk_cell HI4.out.box 2).trans rfl⟩ (fun hHeld => ?_)
          clear hK K
          refine norm_ (a' := ?_) ?_ ?_
          rotate_left
          · show Act.put _ (some 21) _ = _
            simp only [Act.put, List.setIfInBounds_toArray, List.set_cons_zero, List.set_cons_succ, i64_w, i32_w]
            rfl
          refine one_ (i := 7) (N := some 25) #[true, true, true, true, true, true, true, true, true, true, true, true, false, false] rfl rfl (one_of HT_.out (by kernel_rfl)) (by decide) (fun K hK => ?_)
          refine goes_ Try.func45 (by kernel_rfl) rfl #[v3, .int .i64 6, .slice B6 [tr].length c6] (by rfl) rfl rfl (by (try simp only [List.map_toArray, List.map_cons, List.map_nil]); first | done | rfl) ?_
          refine (numbers_c v3 (numsF [] 1 [ow]) 6 B6 c6 [tr] (fun q => W.heap.size < q) _ V3_4.out (fun k hk => Nat.lt_of_lt_of_le (blk_lt HI4.out.box) hk) (lit_hl U6_4.out V3_4.out) (Kd.R_reads' U6_4.out).2.1 (by have := numsF_len [] 1 [ow]; simp only [List.length_nil, List.length_singleton] at this ⊢; omega)).mono ?_
          rintro e w_5 ⟨v7, rfl, hO_, hgL, -⟩
          refine ⟨_, rfl, ?_⟩
          have HI5 := Aside0.mk (HI4.out.grown hgL (fun q hq => V3_4.out.1 q hq))
          have U11_5 := Aside0.mk (lit_kept U11_4.out V3_4.out hgL)
          have V7_5 := Aside0.mk hO_
          clear hgL hO_
          refine hK.out _ _ ⟨(blk_cell HI5.out.box 0).trans rfl, (blk_cell HI5.out.box 1).trans rfl, (blk_cell HI5.out.box 2).trans rfl⟩ (fun hHeld => ?_)
          clear hK K
          refine norm_ (a' := ?_) ?_ ?_
          rotate_left
          · show Act.put _ (some 25) _ = _
            simp only [Act.put, List.setIfInBounds_toArray, List.set_cons_zero, List.set_cons_succ, i64_w, i32_w]
            rfl
          exact norm_ (by first | (simp only [putAll, Act.put, List.setIfInBounds_toArray, List.set_cons_zero, List.set_cons_succ]; done) | (simp only [putAll, Act.put, List.setIfInBounds_toArray, List.set_cons_zero, List.set_cons_succ]; rfl)) (CONT (_, _, _, _, _) _ ⟨HI5.out, V7_5.out, U11_5.out⟩)
    · refine Kd.R_lit_step (Kd.int .i64) (w0 := w_0) 0 3 (by rfl) (N := 24) rfl (xs := [tr]) (inner := [.int .i64 tr]) (ok := (fun q => W.heap.size < q)) (okp := (fun q => W.heap.size < q)) ?hr ?hp (fun _ hk => hk) (Nat.lt_of_lt_of_le (blk_lt HI0.out.box) (Nat.le_refl _)) (Below.refl _ _) (Nat.zero_le _) (by simp) ?_
      case hr => first | (go_simp; done) | (go_simp; rfl)
      case hp => exact Reps.snoc (Reps.none _ 1) rfl rfl
      intro u6 w_1 hO_ _ hg_ _
      have hbL : Below w_0.heap.size w_0 w_1 := ⟨hg_.os, hg_.tape, hg_.output, hg_.size, fun k hk => hg_.block k hk (by simp)⟩
      obtain ⟨B6, c6, rfl⟩ := Kd.R_slice hO_
      have HI1 := Aside0.mk (HI0.out.move hbL)
      have U6_1 := Aside0.mk hO_
      clear hbL hg_ hO_
      refine hK.out _ _ ⟨(blk_cell HI1.out.box 0).trans rfl, (blk_cell HI1.out.box 1).trans rfl, (blk_cell HI1.out.box 2).trans rfl⟩ (fun hHeld => ?_)
      clear hK K
      refine norm_ (a' := ?_) ?_ ?_
      rotate_left
      · show Act.put _ (some 24) _ = _
        simp only [Act.put, List.setIfInBounds_toArray, List.set_cons_zero, List.set_cons_succ, i64_w, i32_w]
        rfl
      refine two_ (i := 2) (j := 11) (Ni := some 20) (Nj := some 29) #[true, true, true, false, true, true, true, false, true, true, true, false, false, false] #[true, true, false, false, true, true, true, false, true, true, true, true, false, false] rfl rfl rfl rfl (two_of HT_.out (by kernel_rfl)) (by decide) (by decide) (fun K hK => ?_) (fun K hK => ?_)
      · refine Kd.R_lit_step (Kd.int .i64) (w0 := w_1) 0 3 (by rfl) (N := 20) rfl (xs := [ow]) (inner := [.int .i64 ow]) (ok := (fun q => W.heap.size < q)) (okp := (fun q => W.heap.size < q)) ?hr ?hp (fun _ hk => hk) (Nat.lt_of_lt_of_le (blk_lt HI1.out.box) (Nat.le_refl _)) (Below.refl _ _) (Nat.zero_le _) (by simp) ?_
        case hr => first | (go_simp; done) | (go_simp; rfl)
        case hp => exact Reps.snoc (Reps.none _ 1) rfl rfl
        intro u2 w_2 hO_ _ hg_ _
        have hbL : Below w_1.heap.size w_1 w_2 := ⟨hg_.os, hg_.tape, hg_.output, hg_.size, fun k hk => hg_.block k hk (by simp)⟩
        obtain ⟨B2, c2, rfl⟩ := Kd.R_slice hO_
        have HI2 := Aside0.mk (HI1.out.move hbL)
        have U6_2 := Aside0.mk (Kd.R_below U6_1.out hbL)
        have U2_2 := Aside0.mk hO_
        clear hbL hg_ hO_
        refine hK.out _ _ ⟨(blk_cell HI2.out.box 0).trans rfl, (blk_cell HI2.out.box 1).trans rfl, (blk_cell HI2.out.box 2).trans rfl⟩ (fun hHeld => ?_)
        clear hK K
        refine norm_ (a' := ?_) ?_ ?_
        rotate_left
        · show Act.put _ (some 20) _ = _
          simp only [Act.put, List.setIfInBounds_toArray, List.set_cons_zero, List.set_cons_succ, i64_w, i32_w]
          rfl
        refine two_ (i := 3) (j := 11) (Ni := some 21) (Nj := some 29) #[true, true, true, true, true, true, true, false, true, true, true, false, false, false] #[true, true, true, false, true, true, true, false, true, true, true, true, false, false] rfl rfl rfl rfl (two_of HT_.out (by kernel_rfl)) (by decide) (by decide) (fun K hK => ?_) (fun K hK => ?_)
        · refine goes_ Try.func45 (by kernel_rfl) rfl #[.slice none 0 0, .int .i64 1, .slice B2 [ow].length c2] (by rfl) rfl rfl (by (try simp only [List.map_toArray, List.map_cons, List.map_nil]); first | done | rfl) ?_
          refine (numbers_c (.slice none 0 0) [] 1 B2 c2 [ow] (fun q => W.heap.size < q) _ (Kd.R_nil _ _ _ _ _) (fun k hk => Nat.lt_of_lt_of_le (blk_lt HI2.out.box) hk) (lit_hl U2_2.out (Kd.R_nil (Kd.int .u8) 5 _ 0 (fun q => W.heap.size < q))) (Kd.R_reads' U2_2.out).2.1 (by simp)).mono ?_
          rintro e w_3 ⟨v3, rfl, hO_, hg_, -⟩
          refine ⟨_, rfl, ?_⟩
          have hbL : Below w_2.heap.size w_2 w_3 := ⟨hg_.os, hg_.tape, hg_.output, hg_.size, fun k hk => hg_.block k hk (by simp [Value.ownBlock])⟩
          have HI3 := Aside0.mk (HI2.out.move hbL)
          have U6_3 := Aside0.mk (Kd.R_below U6_2.out hbL)
          have V3_3 := Aside0.mk hO_
          clear hbL hg_ hO_
          refine hK.out _ _ ⟨(blk_cell HI3.out.box 0).trans rfl, (blk_cell HI3.out.box 1).trans rfl, (blk_cell HI3.out.box 2).trans rfl⟩ (fun hHeld => ?_)
          clear hK K
          refine norm_ (a' := ?_) ?_ ?_
          rotate_left
          · show Act.put _ (some 21) _ = _
            simp only [Act.put, List.setIfInBounds_toArray, List.set_cons_zero, List.set_cons_succ, i64_w, i32_w]
            rfl
          refine two_ (i := 7) (j := 11) (Ni := some 25) (Nj := some 29) #[true, true, true, true, true, true, true, true, true, true, true, false, false, false] #[true, true, true, true, true, true, true, false, true, true, true, true, false, false] rfl rfl rfl rfl (two_of HT_.out (by kernel_rfl)) (by decide) (by decide) (fun K hK => ?_) (fun K hK => ?_)
          · refine goes_ Try.func45 (by kernel_rfl) rfl #[v3, .int .i64 6, .slice B6 [tr].length c6] (by rfl) rfl rfl (by (try simp only [List.map_toArray, List.map_cons, List.map_nil]); first | done | rfl) ?_
            refine (numbers_c v3 (numsF [] 1 [ow]) 6 B6 c6 [tr] (fun q => W.heap.size < q) _ V3_3.out (fun k hk => Nat.lt_of_lt_of_le (blk_lt HI3.out.box) hk) (lit_hl U6_3.out V3_3.out) (Kd.R_reads' U6_3.out).2.1 (by have := numsF_len [] 1 [ow]; simp only [List.length_nil, List.length_singleton] at this ⊢; omega)).mono ?_
            rintro e w_4 ⟨v7, rfl, hO_, hgL, -⟩
            refine ⟨_, rfl, ?_⟩
            have HI4 := Aside0.mk (HI3.out.grown hgL (fun q hq => V3_3.out.1 q hq))
            have V7_4 := Aside0.mk hO_
            clear hgL hO_
            refine hK.out _ _ ⟨(blk_cell HI4.out.box 0).trans rfl, (blk_cell HI4.out.box 1).trans rfl, (blk_cell HI4.out.box 2).trans rfl⟩ (fun hHeld => ?_)
            clear hK K
            refine norm_ (a' := ?_) ?_ ?_
            rotate_left
            · show Act.put _ (some 25) _ = _
              simp only [Act.put, List.setIfInBounds_toArray, List.set_cons_zero, List.set_cons_succ, i64_w, i32_w]
              rfl
            refine one_ (i := 11) (N := some 29) #[true, true, true, true, true, true, true, true, true, true, true, true, false, false] rfl rfl (one_of HT_.out (by kernel_rfl)) (by decide) (fun K hK => ?_)
            refine Kd.R_lit_step (Kd.int .i64) (w0 := w_4) 0 3 (by rfl) (N := 29) rfl (xs := [(ps.length : Int)]) (inner := [.int .i64 (ps.length : Int)]) (ok := (fun q => W.heap.size < q)) (okp := (fun q => W.heap.size < q)) ?hr ?hp (fun _ hk => hk) (Nat.lt_of_lt_of_le (blk_lt HI4.out.box) (Nat.le_refl _)) (Below.refl _ _) (Nat.zero_le _) (by simp) ?_
            case hr => first | (go_simp; done) | (go_simp; rfl)
            case hp => exact Reps.snoc (Reps.none _ 1) rfl rfl
            intro u11 w_5 hO_ _ hg_ _
            have hbL : Below w_4.heap.size w_4 w_5 := ⟨hg_.os, hg_.tape, hg_.output, hg_.size, fun k hk => hg_.block k hk (by simp)⟩
            obtain ⟨B11, c11, rfl⟩ := Kd.R_slice hO_
            have HI5 := Aside0.mk (HI4.out.move hbL)
            have V7_5 := Aside0.mk (Kd.R_below V7_4.out hbL)
            have U11_5 := Aside0.mk hO_
            clear hbL hg_ hO_
            refine hK.out _ _ ⟨(blk_cell HI5.out.box 0).trans rfl, (blk_cell HI5.out.box 1).trans rfl, (blk_cell HI5.out.box 2).trans rfl⟩ (fun hHeld => ?_)
            clear hK K
            refine norm_ (a' := ?_) ?_ ?_
            rotate_left
            · show Act.put _ (some 29) _ = _
              simp only [Act.put, List.setIfInBounds_toArray, List.set_cons_zero, List.set_cons_succ, i64_w, i32_w]
              rfl
            exact norm_ (by first | (simp only [putAll, Act.put, List.setIfInBounds_toArray, List.set_cons_zero, List.set_cons_succ]; done) | (simp only [putAll, Act.put, List.setIfInBounds_toArray, List.set_cons_zero, List.set_cons_succ]; rfl)) (CONT (_, _, _, _, _) _ ⟨HI5.out, V7_5.out, U11_5.out⟩)
          · refine Kd.R_lit_step (Kd.int .i64) (w0 := w_3) 0 3 (by rfl) (N := 29) rfl (xs := [(ps.length : Int)]) (inner := [.int .i64 (ps.length : Int)]) (ok := (fun q => W.heap.size < q)) (okp := (fun q => W.heap.size < q)) ?hr ?hp (fun _ hk => hk) (Nat.lt_of_lt_of_le (blk_lt HI3.out.box) (Nat.le_refl _)) (Below.refl _ _) (Nat.zero_le _) (by simp) ?_
            case hr => first | (go_simp; done) | (go_simp; rfl)
            case hp => exact Reps.snoc (Reps.none _ 1) rfl rfl
            intro u11 w_4 hO_ _ hg_ _
            have hbL : Below w_3.heap.size w_3 w_4 := ⟨hg_.os, hg_.tape, hg_.output, hg_.size, fun k hk => hg_.block k hk (by simp)⟩
            obtain ⟨B11, c11, rfl⟩ := Kd.R_slice hO_
            have HI4 := Aside0.mk (HI3.out.move hbL)
            have U6_4 := Aside0.mk (Kd.R_below U6_3.out hbL)
            have V3_4 := Aside0.mk (Kd.R_below V3_3.out hbL)
            have U11_4 := Aside0.mk hO_
            clear hbL hg_ hO_
            refine hK.out _ _ ⟨(blk_cell HI4.out.box 0).trans rfl, (blk_cell HI4.out.box 1).trans rfl, (blk_cell HI4.out.box 2).trans rfl⟩ (fun hHeld => ?_)
            clear hK K
            refine norm_ (a' := ?_) ?_ ?_
            rotate_left
            · show Act.put _ (some 29) _ = _
              simp only [Act.put, List.setIfInBounds_toArray, List.set_cons_zero, List.set_cons_succ, i64_w, i32_w]
              rfl
            refine one_ (i := 7) (N := some 25) #[true, true, true, true, true, true, true, true, true, true, true, true, false, false] rfl rfl (one_of HT_.out (by kernel_rfl)) (by decide) (fun K hK => ?_)
            refine goes_ Try.func45 (by kernel_rfl) rfl #[v3, .int .i64 6, .slice B6 [tr].length c6] (by rfl) rfl rfl (by (try simp only [List.map_toArray, List.map_cons, List.map_nil]); first | done | rfl) ?_
            refine (numbers_c v3 (numsF [] 1 [ow]) 6 B6 c6 [tr] (fun q => W.heap.size < q) _ V3_4.out (fun k hk => Nat.lt_of_lt_of_le (blk_lt HI4.out.box) hk) (lit_hl U6_4.out V3_4.out) (Kd.R_reads' U6_4.out).2.1 (by have := numsF_len [] 1 [ow]; simp only [List.length_nil, List.length_singleton] at this ⊢; omega)).mono ?_
            rintro e w_5 ⟨v7, rfl, hO_, hgL, -⟩
            refine ⟨_, rfl, ?_⟩
            have HI5 := Aside0.mk (HI4.out.grown hgL (fun q hq => V3_4.out.1 q hq))
            have U11_5 := Aside0.mk (lit_kept U11_4.out V3_4.out hgL)
            have V7_5 := Aside0.mk hO_
            clear hgL hO_
            refine hK.out _ _ ⟨(blk_cell HI5.out.box 0).trans rfl, (blk_cell HI5.out.box 1).trans rfl, (blk_cell HI5.out.box 2).trans rfl⟩ (fun hHeld => ?_)
            clear hK K
            refine norm_ (a' := ?_) ?_ ?_
            rotate_left
            · show Act.put _ (some 25) _ = _
              simp only [Act.put, List.setIfInBounds_toArray, List.set_cons_zero, List.set_cons_succ, i64_w, i32_w]
              rfl
            exact norm_ (by first | (simp only [putAll, Act.put, List.setIfInBounds_toArray, List.set_cons_zero, List.set_cons_succ]; done) | (simp only [putAll, Act.put, List.setIfInBounds_toArray, List.set_cons_zero, List.set_cons_succ]; rfl)) (CONT (_, _, _, _, _) _ ⟨HI5.out, V7_5.out, U11_5.out⟩)
        · refine Kd.R_lit_step (Kd.int .i64) (w0 := w_2) 0 3 (by rfl) (N := 29) rfl (xs := [(ps.length : Int)]) (inner := [.int .i64 (ps.length : Int)]) (ok := (fun q => W.heap.size < q)) (okp := (fun q => W.heap.size < q)) ?hr ?hp (fun _ hk => hk) (Nat.lt_of_lt_of_le (blk_lt HI2.out.box) (Nat.le_refl _)) (Below.refl _ _) (Nat.zero_le _) (by simp) ?_
          case hr => first | (go_simp; done) | (go_simp; rfl)
          case hp => exact Reps.snoc (Reps.none _ 1) rfl rfl
          intro u11 w_3 hO_ _ hg_ _
          have hbL : Below w_2.heap.size w_2 w_3 := ⟨hg_.os, hg_.tape, hg_.output, hg_.size, fun k hk => hg_.block k hk (by simp)⟩
          obtain ⟨B11, c11, rfl⟩ := Kd.R_slice hO_
          have HI3 := Aside0.mk (HI2.out.move hbL)
          have U2_3 := Aside0.mk (Kd.R_below U2_2.out hbL)
          have U6_3 := Aside0.mk (Kd.R_below U6_2.out hbL)
          have U11_3 := Aside0.mk hO_
          clear hbL hg_ hO_
          refine hK.out _ _ ⟨(blk_cell HI3.out.box 0).trans rfl, (blk_cell HI3.out.box 1).trans rfl, (blk_cell HI3.out.box 2).trans rfl⟩ (fun hHeld => ?_)
          clear hK K
          refine norm_ (a' := ?_) ?_ ?_
          rotate_left
          · show Act.put _ (some 29) _ = _
            simp only [Act.put, List.setIfInBounds_toArray, List.set_cons_zero, List.set_cons_succ, i64_w, i32_w]
            rfl
          refine one_ (i := 3) (N := some 21) #[true, true, true, true, true, true, true, false, true, true, true, true, false, false] rfl rfl (one_of HT_.out (by kernel_rfl)) (by decide) (fun K hK => ?_)
          refine goes_ Try.func45 (by kernel_rfl) rfl #[.slice none 0 0, .int .i64 1, .slice B2 [ow].length c2] (by rfl) rfl rfl (by (try simp only [List.map_toArray, List.map_cons, List.map_nil]); first | done | rfl) ?_
          refine (numbers_c (.slice none 0 0) [] 1 B2 c2 [ow] (fun q => W.heap.size < q) _ (Kd.R_nil _ _ _ _ _) (fun k hk => Nat.lt_of_lt_of_le (blk_lt HI3.out.box) hk) (lit_hl U2_3.out (Kd.R_nil (Kd.int .u8) 5 _ 0 (fun q => W.heap.size < q))) (Kd.R_reads' U2_3.out).2.1 (by simp)).mono ?_
          rintro e w_4 ⟨v3, rfl, hO_, hg_, -⟩
          refine ⟨_, rfl, ?_⟩
          have hbL : Below w_3.heap.size w_3 w_4 := ⟨hg_.os, hg_.tape, hg_.output, hg_.size, fun k hk => hg_.block k hk (by simp [Value.ownBlock])⟩
          have HI4 := Aside0.mk (HI3.out.move hbL)
          have U11_4 := Aside0.mk (Kd.R_below U11_3.out hbL)
          have U6_4 := Aside0.mk (Kd.R_below U6_3.out hbL)
          have V3_4 := Aside0.mk hO_
          clear hbL hg_ hO_
          refine hK.out _ _ ⟨(blk_cell HI4.out.box 0).trans rfl, (blk_cell HI4.out.box 1).trans rfl, (blk_cell HI4.out.box 2).trans rfl⟩ (fun hHeld => ?_)
          clear hK K
          refine norm_ (a' := ?_) ?_ ?_
          rotate_left
          · show Act.put _ (some 21) _ = _
            simp only [Act.put, List.setIfInBounds_toArray, List.set_cons_zero, List.set_cons_succ, i64_w, i32_w]
            rfl
          refine one_ (i := 7) (N := some 25) #[true, true, true, true, true, true, true, true, true, true, true, true, false, false] rfl rfl (one_of HT_.out (by kernel_rfl)) (by decide) (fun K hK => ?_)
          refine goes_ Try.func45 (by kernel_rfl) rfl #[v3, .int .i64 6, .slice B6 [tr].length c6] (by rfl) rfl rfl (by (try simp only [List.map_toArray, List.map_cons, List.map_nil]); first | done | rfl) ?_
          refine (numbers_c v3 (numsF [] 1 [ow]) 6 B6 c6 [tr] (fun q => W.heap.size < q) _ V3_4.out (fun k hk => Nat.lt_of_lt_of_le (blk_lt HI4.out.box) hk) (lit_hl U6_4.out V3_4.out) (Kd.R_reads' U6_4.out).2.1 (by have := numsF_len [] 1 [ow]; simp only [List.length_nil, List.length_singleton] at this ⊢; omega)).mono ?_
          rintro e w_5 ⟨v7, rfl, hO_, hgL, -⟩
          refine ⟨_, rfl, ?_⟩
          have HI5 := Aside0.mk (HI4.out.grown hgL (fun q hq => V3_4.out.1 q hq))
          have U11_5 := Aside0.mk (lit_kept U11_4.out V3_4.out hgL)
          have V7_5 := Aside0.mk hO_
          clear hgL hO_
          refine hK.out _ _ ⟨(blk_cell HI5.out.box 0).trans rfl, (blk_cell HI5.out.box 1).trans rfl, (blk_cell HI5.out.box 2).trans rfl⟩ (fun hHeld => ?_)
          clear hK K
          refine norm_ (a' := ?_) ?_ ?_
          rotate_left
          · show Act.put _ (some 25) _ = _
            simp only [Act.put, List.setIfInBounds_toArray, List.set_cons_zero, List.set_cons_succ, i64_w, i32_w]
            rfl
          exact norm_ (by first | (simp only [putAll, Act.put, List.setIfInBounds_toArray, List.set_cons_zero, List.set_cons_succ]; done) | (simp only [putAll, Act.put, List.setIfInBounds_toArray, List.set_cons_zero, List.set_cons_succ]; rfl)) (CONT (_, _, _, _, _) _ ⟨HI5.out, V7_5.out, U11_5.out⟩)
      · refine Kd.R_lit_step (Kd.int .i64) (w0 := w_1) 0 3 (by rfl) (N := 29) rfl (xs := [(ps.length : Int)]) (inner := [.int .i64 (ps.length : Int)]) (ok := (fun q => W.heap.size < q)) (okp := (fun q => W.heap.size < q)) ?hr ?hp (fun _ hk => hk) (Nat.lt_of_lt_of_le (blk_lt HI1.out.box) (Nat.le_refl _)) (Below.refl _ _) (Nat.zero_le _) (by simp) ?_
        case hr => first | (go_simp; done) | (go_simp; rfl)
        case hp => exact Reps.snoc (Reps.none _ 1) rfl rfl
        intro u11 w_2 hO_ _ hg_ _
        have hbL : Below w_1.heap.size w_1 w_2 := ⟨hg_.os, hg_.tape, hg_.output, hg_.size, fun k hk => hg_.block k hk (by simp)⟩
        obtain ⟨B11, c11, rfl⟩ := Kd.R_slice hO_
        have HI2 := Aside0.mk (HI1.out.move hbL)
        have U6_2 := Aside0.mk (Kd.R_below U6_1.out hbL)
        have U11_2 := Aside0.mk hO_
        clear hbL hg_ hO_
        refine hK.out _ _ ⟨(blk_cell HI2.out.box 0).trans rfl, (blk_cell HI2.out.box 1).trans rfl, (blk_cell HI2.out.box 2).trans rfl⟩ (fun hHeld => ?_)
        clear hK K
        refine norm_ (a' := ?_) ?_ ?_
        rotate_left
        · show Act.put _ (some 29) _ = _
          simp only [Act.put, List.setIfInBounds_toArray, List.set_cons_zero, List.set_cons_succ, i64_w, i32_w]
          rfl
        refine one_ (i := 2) (N := some 20) #[true, true, true, false, true, true, true, false, true, true, true, true, false, false] rfl rfl (one_of HT_.out (by kernel_rfl)) (by decide) (fun K hK => ?_)
        refine Kd.R_lit_step (Kd.int .i64) (w0 := w_2) 0 3 (by rfl) (N := 20) rfl (xs := [ow]) (inner := [.int .i64 ow]) (ok := (fun q => W.heap.size < q)) (okp := (fun q => W.heap.size < q)) ?hr ?hp (fun _ hk => hk) (Nat.lt_of_lt_of_le (blk_lt HI2.out.box) (Nat.le_refl _)) (Below.refl _ _) (Nat.zero_le _) (by simp) ?_
        case hr => first | (go_simp; done) | (go_simp; rfl)
        case hp => exact Reps.snoc (Reps.none _ 1) rfl rfl
        intro u2 w_3 hO_ _ hg_ _
        have hbL : Below w_2.heap.size w_2 w_3 := ⟨hg_.os, hg_.tape, hg_.output, hg_.size, fun k hk => hg_.block k hk (by simp)⟩
        obtain ⟨B2, c2, rfl⟩ := Kd.R_slice hO_
        have HI3 := Aside0.mk (HI2.out.move hbL)
        have U11_3 := Aside0.mk (Kd.R_below U11_2.out hbL)
        have U6_3 := Aside0.mk (Kd.R_below U6_2.out hbL)
        have U2_3 := Aside0.mk hO_
        clear hbL hg_ hO_
        refine hK.out _ _ ⟨(blk_cell HI3.out.box 0).trans rfl, (blk_cell HI3.out.box 1).trans rfl, (blk_cell HI3.out.box 2).trans rfl⟩ (fun hHeld => ?_)
        clear hK K
        refine norm_ (a' := ?_) ?_ ?_
        rotate_left
        · show Act.put _ (some 20) _ = _
          simp only [Act.put, List.setIfInBounds_toArray, List.set_cons_zero, List.set_cons_succ, i64_w, i32_w]
          rfl
        refine one_ (i := 3) (N := some 21) #[true, true, true, true, true, true, true, false, true, true, true, true, false, false] rfl rfl (one_of HT_.out (by kernel_rfl)) (by decide) (fun K hK => ?_)
        refine goes_ Try.func45 (by kernel_rfl) rfl #[.slice none 0 0, .int .i64 1, .slice B2 [ow].length c2] (by rfl) rfl rfl (by (try simp only [List.map_toArray, List.map_cons, List.map_nil]); first | done | rfl) ?_
        refine (numbers_c (.slice none 0 0) [] 1 B2 c2 [ow] (fun q => W.heap.size < q) _ (Kd.R_nil _ _ _ _ _) (fun k hk => Nat.lt_of_lt_of_le (blk_lt HI3.out.box) hk) (lit_hl U2_3.out (Kd.R_nil (Kd.int .u8) 5 _ 0 (fun q => W.heap.size < q))) (Kd.R_reads' U2_3.out).2.1 (by simp)).mono ?_
        rintro e w_4 ⟨v3, rfl, hO_, hg_, -⟩
        refine ⟨_, rfl, ?_⟩
        have hbL : Below w_3.heap.size w_3 w_4 := ⟨hg_.os, hg_.tape, hg_.output, hg_.size, fun k hk => hg_.block k hk (by simp [Value.ownBlock])⟩
        have HI4 := Aside0.mk (HI3.out.move hbL)
        have U11_4 := Aside0.mk (Kd.R_below U11_3.out hbL)
        have U6_4 := Aside0.mk (Kd.R_below U6_3.out hbL)
        have V3_4 := Aside0.mk hO_
        clear hbL hg_ hO_
        refine hK.out _ _ ⟨(blk_cell HI4.out.box 0).trans rfl, (blk_cell HI4.out.box 1).trans rfl, (blk_cell HI4.out.box 2).trans rfl⟩ (fun hHeld => ?_)
        clear hK K
        refine norm_ (a' := ?_) ?_ ?_
        rotate_left
        · show Act.put _ (some 21) _ = _
          simp only [Act.put, List.setIfInBounds_toArray, List.set_cons_zero, List.set_cons_succ, i64_w, i32_w]
          rfl
        refine one_ (i := 7) (N := some 25) #[true, true, true, true, true, true, true, true, true, true, true, true, false, false] rfl rfl (one_of HT_.out (by kernel_rfl)) (by decide) (fun K hK => ?_)
        refine goes_ Try.func45 (by kernel_rfl) rfl #[v3, .int .i64 6, .slice B6 [tr].length c6] (by rfl) rfl rfl (by (try simp only [List.map_toArray, List.map_cons, List.map_nil]); first | done | rfl) ?_
        refine (numbers_c v3 (numsF [] 1 [ow]) 6 B6 c6 [tr] (fun q => W.heap.size < q) _ V3_4.out (fun k hk => Nat.lt_of_lt_of_le (blk_lt HI4.out.box) hk) (lit_hl U6_4.out V3_4.out) (Kd.R_reads' U6_4.out).2.1 (by have := numsF_len [] 1 [ow]; simp only [List.length_nil, List.length_singleton] at this ⊢; omega)).mono ?_
        rintro e w_5 ⟨v7, rfl, hO_, hgL, -⟩
        refine ⟨_, rfl, ?_⟩
        have HI5 := Aside0.mk (HI4.out.grown hgL (fun q hq => V3_4.out.1 q hq))
        have U11_5 := Aside0.mk (lit_kept U11_4.out V3_4.out hgL)
        have V7_5 := Aside0.mk hO_
        clear hgL hO_
        refine hK.out _ _ ⟨(blk_cell HI5.out.box 0).trans rfl, (blk_cell HI5.out.box 1).trans rfl, (blk_cell HI5.out.box 2).trans rfl⟩ (fun hHeld => ?_)
        clear hK K
        refine norm_ (a' := ?_) ?_ ?_
        rotate_left
        · show Act.put _ (some 25) _ = _
          simp only [Act.put, List.setIfInBounds_toArray, List.set_cons_zero, List.set_cons_succ, i64_w, i32_w]
          rfl
        exact norm_ (by first | (simp only [putAll, Act.put, List.setIfInBounds_toArray, List.set_cons_zero, List.set_cons_succ]; done) | (simp only [putAll, Act.put, List.setIfInBounds_toArray, List.set_cons_zero, List.set_cons_succ]; rfl)) (CONT (_, _, _, _, _) _ ⟨HI5.out, V7_5.out, U11_5.out⟩)
    · refine Kd.R_lit_step (Kd.int .i64) (w0 := w_0) 0 3 (by rfl) (N := 29) rfl (xs := [(ps.length : Int)]) (inner := [.int .i64 (ps.length : Int)]) (ok := (fun q => W.heap.size < q)) (okp := (fun q => W.heap.size < q)) ?hr ?hp (fun _ hk => hk) (Nat.lt_of_lt_of_le (blk_lt HI0.out.box) (Nat.le_refl _)) (Below.refl _ _) (Nat.zero_le _) (by simp) ?_
      case hr => first | (go_simp; done) | (go_simp; rfl)
      case hp => exact Reps.snoc (Reps.none _ 1) rfl rfl
      intro u11 w_1 hO_ _ hg_ _
      have hbL : Below w_0.heap.size w_0 w_1 := ⟨hg_.os, hg_.tape, hg_.output, hg_.size, fun k hk => hg_.block k hk (by simp)⟩
      obtain ⟨B11, c11, rfl⟩ := Kd.R_slice hO_
      have HI1 := Aside0.mk (HI0.out.move hbL)
      have U11_1 := Aside0.mk hO_
      clear hbL hg_ hO_
      refine hK.out _ _ ⟨(blk_cell HI1.out.box 0).trans rfl, (blk_cell HI1.out.box 1).trans rfl, (blk_cell HI1.out.box 2).trans rfl⟩ (fun hHeld => ?_)
      clear hK K
      refine norm_ (a' := ?_) ?_ ?_
      rotate_left
      · show Act.put _ (some 29) _ = _
        simp only [Act.put, List.setIfInBounds_toArray, List.set_cons_zero, List.set_cons_succ, i64_w, i32_w]
        rfl
      refine two_ (i := 2) (j := 6) (Ni := some 20) (Nj := some 24) #[true, true, true, false, true, true, false, false, true, true, true, true, false, false] #[true, true, false, false, true, true, true, false, true, true, true, true, false, false] rfl rfl rfl rfl (two_of HT_.out (by kernel_rfl)) (by decide) (by decide) (fun K hK => ?_) (fun K hK => ?_)
      · refine Kd.R_lit_step (Kd.int .i64) (w0 := w_1) 0 3 (by rfl) (N := 20) rfl (xs := [ow]) (inner := [.int .i64 ow]) (ok := (fun q => W.heap.size < q)) (okp := (fun q => W.heap.size < q)) ?hr ?hp (fun _ hk => hk) (Nat.lt_of_lt_of_le (blk_lt HI1.out.box) (Nat.le_refl _)) (Below.refl _ _) (Nat.zero_le _) (by simp) ?_
        case hr => first | (go_simp; done) | (go_simp; rfl)
        case hp => exact Reps.snoc (Reps.none _ 1) rfl rfl
        intro u2 w_2 hO_ _ hg_ _
        have hbL : Below w_1.heap.size w_1 w_2 := ⟨hg_.os, hg_.tape, hg_.output, hg_.size, fun k hk => hg_.block k hk (by simp)⟩
        obtain ⟨B2, c2, rfl⟩ := Kd.R_slice hO_
        have HI2 := Aside0.mk (HI1.out.move hbL)
        have U11_2 := Aside0.mk (Kd.R_below U11_1.out hbL)
        have U2_2 := Aside0.mk hO_
        clear hbL hg_ hO_
        refine hK.out _ _ ⟨(blk_cell HI2.out.box 0).trans rfl, (blk_cell HI2.out.box 1).trans rfl, (blk_cell HI2.out.box 2).trans rfl⟩ (fun hHeld => ?_)
        clear hK K
        refine norm_ (a' := ?_) ?_ ?_
        rotate_left
        · show Act.put _ (some 20) _ = _
          simp only [Act.put, List.setIfInBounds_toArray, List.set_cons_zero, List.set_cons_succ, i64_w, i32_w]
          rfl
        refine two_ (i := 3) (j := 6) (Ni := some 21) (Nj := some 24) #[true, true, true, true, true, true, false, false, true, true, true, true, false, false] #[true, true, true, false, true, true, true, false, true, true, true, true, false, false] rfl rfl rfl rfl (two_of HT_.out (by kernel_rfl)) (by decide) (by decide) (fun K hK => ?_) (fun K hK => ?_)
        · refine goes_ Try.func45 (by kernel_rfl) rfl #[.slice none 0 0, .int .i64 1, .slice B2 [ow].length c2] (by rfl) rfl rfl (by (try simp only [List.map_toArray, List.map_cons, List.map_nil]); first | done | rfl) ?_
          refine (numbers_c (.slice none 0 0) [] 1 B2 c2 [ow] (fun q => W.heap.size < q) _ (Kd.R_nil _ _ _ _ _) (fun k hk => Nat.lt_of_lt_of_le (blk_lt HI2.out.box) hk) (lit_hl U2_2.out (Kd.R_nil (Kd.int .u8) 5 _ 0 (fun q => W.heap.size < q))) (Kd.R_reads' U2_2.out).2.1 (by simp)).mono ?_
          rintro e w_3 ⟨v3, rfl, hO_, hg_, -⟩
          refine ⟨_, rfl, ?_⟩
          have hbL : Below w_2.heap.size w_2 w_3 := ⟨hg_.os, hg_.tape, hg_.output, hg_.size, fun k hk => hg_.block k hk (by simp [Value.ownBlock])⟩
          have HI3 := Aside0.mk (HI2.out.move hbL)
          have U11_3 := Aside0.mk (Kd.R_below U11_2.out hbL)
          have V3_3 := Aside0.mk hO_
          clear hbL hg_ hO_
          refine hK.out _ _ ⟨(blk_cell HI3.out.box 0).trans rfl, (blk_cell HI3.out.box 1).trans rfl, (blk_cell HI3.out.box 2).trans rfl⟩ (fun hHeld => ?_)
          clear hK K
          refine norm_ (a' := ?_) ?_ ?_
          rotate_left
          · show Act.put _ (some 21) _ = _
            simp only [Act.put, List.setIfInBounds_toArray, List.set_cons_zero, List.set_cons_succ, i64_w, i32_w]
            rfl
          refine one_ (i := 6) (N := some 24) #[true, true, true, true, true, true, true, false, true, true, true, true, false, false] rfl rfl (one_of HT_.out (by kernel_rfl)) (by decide) (fun K hK => ?_)
          refine Kd.R_lit_step (Kd.int .i64) (w0 := w_3) 0 3 (by rfl) (N := 24) rfl (xs := [tr]) (inner := [.int .i64 tr]) (ok := (fun q => W.heap.size < q)) (okp := (fun q => W.heap.size < q)) ?hr ?hp (fun _ hk => hk) (Nat.lt_of_lt_of_le (blk_lt HI3.out.box) (Nat.le_refl _)) (Below.refl _ _) (Nat.zero_le _) (by simp) ?_
          case hr => first | (go_simp; done) | (go_simp; rfl)
          case hp => exact Reps.snoc (Reps.none _ 1) rfl rfl
          intro u6 w_4 hO_ _ hg_ _
          have hbL : Below w_3.heap.size w_3 w_4 := ⟨hg_.os, hg_.tape, hg_.output, hg_.size, fun k hk => hg_.block k hk (by simp)⟩
          obtain ⟨B6, c6, rfl⟩ := Kd.R_slice hO_
          have HI4 := Aside0.mk (HI3.out.move hbL)
          have U11_4 := Aside0.mk (Kd.R_below U11_3.out hbL)
          have V3_4 := Aside0.mk (Kd.R_below V3_3.out hbL)
          have U6_4 := Aside0.mk hO_
          clear hbL hg_ hO_
          refine hK.out _ _ ⟨(blk_cell HI4.out.box 0).trans rfl, (blk_cell HI4.out.box 1).trans rfl, (blk_cell HI4.out.box 2).trans rfl⟩ (fun hHeld => ?_)
          clear hK K
          refine norm_ (a' := ?_) ?_ ?_
          rotate_left
          · show Act.put _ (some 24) _ = _
            simp only [Act.put, List.setIfInBounds_toArray, List.set_cons_zero, List.set_cons_succ, i64_w, i32_w]
            rfl
          refine one_ (i := 7) (N := some 25) #[true, true, true, true, true, true, true, true, true, true, true, true, false, false] rfl rfl (one_of HT_.out (by kernel_rfl)) (by decide) (fun K hK => ?_)
          refine goes_ Try.func45 (by kernel_rfl) rfl #[v3, .int .i64 6, .slice B6 [tr].length c6] (by rfl) rfl rfl (by (try simp only [List.map_toArray, List.map_cons, List.map_nil]); first | done | rfl) ?_
          refine (numbers_c v3 (numsF [] 1 [ow]) 6 B6 c6 [tr] (fun q => W.heap.size < q) _ V3_4.out (fun k hk => Nat.lt_of_lt_of_le (blk_lt HI4.out.box) hk) (lit_hl U6_4.out V3_4.out) (Kd.R_reads' U6_4.out).2.1 (by have := numsF_len [] 1 [ow]; simp only [List.length_nil, List.length_singleton] at this ⊢; omega)).mono ?_
          rintro e w_5 ⟨v7, rfl, hO_, hgL, -⟩
          refine ⟨_, rfl, ?_⟩
          have HI5 := Aside0.mk (HI4.out.grown hgL (fun q hq => V3_4.out.1 q hq))
          have U11_5 := Aside0.mk (lit_kept U11_4.out V3_4.out hgL)
          have V7_5 := Aside0.mk hO_
          clear hgL hO_
          refine hK.out _ _ ⟨(blk_cell HI5.out.box 0).trans rfl, (blk_cell HI5.out.box 1).trans rfl, (blk_cell HI5.out.box 2).trans rfl⟩ (fun hHeld => ?_)
          clear hK K
          refine norm_ (a' := ?_) ?_ ?_
          rotate_left
          · show Act.put _ (some 25) _ = _
            simp only [Act.put, List.setIfInBounds_toArray, List.set_cons_zero, List.set_cons_succ, i64_w, i32_w]
            rfl
          exact norm_ (by first | (simp only [putAll, Act.put, List.setIfInBounds_toArray, List.set_cons_zero, List.set_cons_succ]; done) | (simp only [putAll, Act.put, List.setIfInBounds_toArray, List.set_cons_zero, List.set_cons_succ]; rfl)) (CONT (_, _, _, _, _) _ ⟨HI5.out, V7_5.out, U11_5.out⟩)
        · refine Kd.R_lit_step (Kd.int .i64) (w0 := w_2) 0 3 (by rfl) (N := 24) rfl (xs := [tr]) (inner := [.int .i64 tr]) (ok := (fun q => W.heap.size < q)) (okp := (fun q => W.heap.size < q)) ?hr ?hp (fun _ hk => hk) (Nat.lt_of_lt_of_le (blk_lt HI2.out.box) (Nat.le_refl _)) (Below.refl _ _) (Nat.zero_le _) (by simp) ?_
          case hr => first | (go_simp; done) | (go_simp; rfl)
          case hp => exact Reps.snoc (Reps.none _ 1) rfl rfl
          intro u6 w_3 hO_ _ hg_ _
          have hbL : Below w_2.heap.size w_2 w_3 := ⟨hg_.os, hg_.tape, hg_.output, hg_.size, fun k hk => hg_.block k hk (by simp)⟩
          obtain ⟨B6, c6, rfl⟩ := Kd.R_slice hO_
          have HI3 := Aside0.mk (HI2.out.move hbL)
          have U11_3 := Aside0.mk (Kd.R_below U11_2.out hbL)
          have U2_3 := Aside0.mk (Kd.R_below U2_2.out hbL)
          have U6_3 := Aside0.mk hO_
          clear hbL hg_ hO_
          refine hK.out _ _ ⟨(blk_cell HI3.out.box 0).trans rfl, (blk_cell HI3.out.box 1).trans rfl, (blk_cell HI3.out.box 2).trans rfl⟩ (fun hHeld => ?_)
          clear hK K
          refine norm_ (a' := ?_) ?_ ?_
          rotate_left
          · show Act.put _ (some 24) _ = _
            simp only [Act.put, List.setIfInBounds_toArray, List.set_cons_zero, List.set_cons_succ, i64_w, i32_w]
            rfl
          refine one_ (i := 3) (N := some 21) #[true, true, true, true, true, true, true, false, true, true, true, true, false, false] rfl rfl (one_of HT_.out (by kernel_rfl)) (by decide) (fun K hK => ?_)
          refine goes_ Try.func45 (by kernel_rfl) rfl #[.slice none 0 0, .int .i64 1, .slice B2 [ow].length c2] (by rfl) rfl rfl (by (try simp only [List.map_toArray, List.map_cons, List.map_nil]); first | done | rfl) ?_
          refine (numbers_c (.slice none 0 0) [] 1 B2 c2 [ow] (fun q => W.heap.size < q) _ (Kd.R_nil _ _ _ _ _) (fun k hk => Nat.lt_of_lt_of_le (blk_lt HI3.out.box) hk) (lit_hl U2_3.out (Kd.R_nil (Kd.int .u8) 5 _ 0 (fun q => W.heap.size < q))) (Kd.R_reads' U2_3.out).2.1 (by simp)).mono ?_
          rintro e w_4 ⟨v3, rfl, hO_, hg_, -⟩
          refine ⟨_, rfl, ?_⟩
          have hbL : Below w_3.heap.size w_3 w_4 := ⟨hg_.os, hg_.tape, hg_.output, hg_.size, fun k hk => hg_.block k hk (by simp [Value.ownBlock])⟩
          have HI4 := Aside0.mk (HI3.out.move hbL)
          have U11_4 := Aside0.mk (Kd.R_below U11_3.out hbL)
          have U6_4 := Aside0.mk (Kd.R_below U6_3.out hbL)
          have V3_4 := Aside0.mk hO_
          clear hbL hg_ hO_
          refine hK.out _ _ ⟨(blk_cell HI4.out.box 0).trans rfl, (blk_cell HI4.out.box 1).trans rfl, (blk_cell HI4.out.box 2).trans rfl⟩ (fun hHeld => ?_)
          clear hK K
          refine norm_ (a' := ?_) ?_ ?_
          rotate_left
          · show Act.put _ (some 21) _ = _
            simp only [Act.put, List.setIfInBounds_toArray, List.set_cons_zero, List.set_cons_succ, i64_w, i32_w]
            rfl
          refine one_ (i := 7) (N := some 25) #[true, true, true, true, true, true, true, true, true, true, true, true, false, false] rfl rfl (one_of HT_.out (by kernel_rfl)) (by decide) (fun K hK => ?_)
          refine goes_ Try.func45 (by kernel_rfl) rfl #[v3, .int .i64 6, .slice B6 [tr].length c6] (by rfl) rfl rfl (by (try simp only [List.map_toArray, List.map_cons, List.map_nil]); first | done | rfl) ?_
          refine (numbers_c v3 (numsF [] 1 [ow]) 6 B6 c6 [tr] (fun q => W.heap.size < q) _ V3_4.out (fun k hk => Nat.lt_of_lt_of_le (blk_lt HI4.out.box) hk) (lit_hl U6_4.out V3_4.out) (Kd.R_reads' U6_4.out).2.1 (by have := numsF_len [] 1 [ow]; simp only [List.length_nil, List.length_singleton] at this ⊢; omega)).mono ?_
          rintro e w_5 ⟨v7, rfl, hO_, hgL, -⟩
          refine ⟨_, rfl, ?_⟩
          have HI5 := Aside0.mk (HI4.out.grown hgL (fun q hq => V3_4.out.1 q hq))
          have U11_5 := Aside0.mk (lit_kept U11_4.out V3_4.out hgL)
          have V7_5 := Aside0.mk hO_
          clear hgL hO_
          refine hK.out _ _ ⟨(blk_cell HI5.out.box 0).trans rfl, (blk_cell HI5.out.box 1).trans rfl, (blk_cell HI5.out.box 2).trans rfl⟩ (fun hHeld => ?_)
          clear hK K
          refine norm_ (a' := ?_) ?_ ?_
          rotate_left
          · show Act.put _ (some 25) _ = _
            simp only [Act.put, List.setIfInBounds_toArray, List.set_cons_zero, List.set_cons_succ, i64_w, i32_w]
            rfl
          exact norm_ (by first | (simp only [putAll, Act.put, List.setIfInBounds_toArray, List.set_cons_zero, List.set_cons_succ]; done) | (simp only [putAll, Act.put, List.setIfInBounds_toArray, List.set_cons_zero, List.set_cons_succ]; rfl)) (CONT (_, _, _, _, _) _ ⟨HI5.out, V7_5.out, U11_5.out⟩)
      · refine Kd.R_lit_step (Kd.int .i64) (w0 := w_1) 0 3 (by rfl) (N := 24) rfl (xs := [tr]) (inner := [.int .i64 tr]) (ok := (fun q => W.heap.size < q)) (okp := (fun q => W.heap.size < q)) ?hr ?hp (fun _ hk => hk) (Nat.lt_of_lt_of_le (blk_lt HI1.out.box) (Nat.le_refl _)) (Below.refl _ _) (Nat.zero_le _) (by simp) ?_
        case hr => first | (go_simp; done) | (go_simp; rfl)
        case hp => exact Reps.snoc (Reps.none _ 1) rfl rfl
        intro u6 w_2 hO_ _ hg_ _
        have hbL : Below w_1.heap.size w_1 w_2 := ⟨hg_.os, hg_.tape, hg_.output, hg_.size, fun k hk => hg_.block k hk (by simp)⟩
        obtain ⟨B6, c6, rfl⟩ := Kd.R_slice hO_
        have HI2 := Aside0.mk (HI1.out.move hbL)
        have U11_2 := Aside0.mk (Kd.R_below U11_1.out hbL)
        have U6_2 := Aside0.mk hO_
        clear hbL hg_ hO_
        refine hK.out _ _ ⟨(blk_cell HI2.out.box 0).trans rfl, (blk_cell HI2.out.box 1).trans rfl, (blk_cell HI2.out.box 2).trans rfl⟩ (fun hHeld => ?_)
        clear hK K
        refine norm_ (a' := ?_) ?_ ?_
        rotate_left
        · show Act.put _ (some 24) _ = _
          simp only [Act.put, List.setIfInBounds_toArray, List.set_cons_zero, List.set_cons_succ, i64_w, i32_w]
          rfl
        refine one_ (i := 2) (N := some 20) #[true, true, true, false, true, true, true, false, true, true, true, true, false, false] rfl rfl (one_of HT_.out (by kernel_rfl)) (by decide) (fun K hK => ?_)
        refine Kd.R_lit_step (Kd.int .i64) (w0 := w_2) 0 3 (by rfl) (N := 20) rfl (xs := [ow]) (inner := [.int .i64 ow]) (ok := (fun q => W.heap.size < q)) (okp := (fun q => W.heap.size < q)) ?hr ?hp (fun _ hk => hk) (Nat.lt_of_lt_of_le (blk_lt HI2.out.box) (Nat.le_refl _)) (Below.refl _ _) (Nat.zero_le _) (by simp) ?_
        case hr => first | (go_simp; done) | (go_simp; rfl)
        case hp => exact Reps.snoc (Reps.none _ 1) rfl rfl
        intro u2 w_3 hO_ _ hg_ _
        have hbL : Below w_2.heap.size w_2 w_3 := ⟨hg_.os, hg_.tape, hg_.output, hg_.size, fun k hk => hg_.block k hk (by simp)⟩
        obtain ⟨B2, c2, rfl⟩ := Kd.R_slice hO_
        have HI3 := Aside0.mk (HI2.out.move hbL)
        have U11_3 := Aside0.mk (Kd.R_below U11_2.out hbL)
        have U6_3 := Aside0.mk (Kd.R_below U6_2.out hbL)
        have U2_3 := Aside0.mk hO_
        clear hbL hg_ hO_
        refine hK.out _ _ ⟨(blk_cell HI3.out.box 0).trans rfl, (blk_cell HI3.out.box 1).trans rfl, (blk_cell HI3.out.box 2).trans rfl⟩ (fun hHeld => ?_)
        clear hK K
        refine norm_ (a' := ?_) ?_ ?_
        rotate_left
        · show Act.put _ (some 20) _ = _
          simp only [Act.put, List.setIfInBounds_toArray, List.set_cons_zero, List.set_cons_succ, i64_w, i32_w]
          rfl
        refine one_ (i := 3) (N := some 21) #[true, true, true, true, true, true, true, false, true, true, true, true, false, false] rfl rfl (one_of HT_.out (by kernel_rfl)) (by decide) (fun K hK => ?_)
        refine goes_ Try.func45 (by kernel_rfl) rfl #[.slice none 0 0, .int .i64 1, .slice B2 [ow].length c2] (by rfl) rfl rfl (by (try simp only [List.map_toArray, List.map_cons, List.map_nil]); first | done | rfl) ?_
        refine (numbers_c (.slice none 0 0) [] 1 B2 c2 [ow] (fun q => W.heap.size < q) _ (Kd.R_nil _ _ _ _ _) (fun k hk => Nat.lt_of_lt_of_le (blk_lt HI3.out.box) hk) (lit_hl U2_3.out (Kd.R_nil (Kd.int .u8) 5 _ 0 (fun q => W.heap.size < q))) (Kd.R_reads' U2_3.out).2.1 (by simp)).mono ?_
        rintro e w_4 ⟨v3, rfl, hO_, hg_, -⟩
        refine ⟨_, rfl, ?_⟩
        have hbL : Below w_3.heap.size w_3 w_4 := ⟨hg_.os, hg_.tape, hg_.output, hg_.size, fun k hk => hg_.block k hk (by simp [Value.ownBlock])⟩
        have HI4 := Aside0.mk (HI3.out.move hbL)
        have U11_4 := Aside0.mk (Kd.R_below U11_3.out hbL)
        have U6_4 := Aside0.mk (Kd.R_below U6_3.out hbL)
        have V3_4 := Aside0.mk hO_
        clear hbL hg_ hO_
        refine hK.out _ _ ⟨(blk_cell HI4.out.box 0).trans rfl, (blk_cell HI4.out.box 1).trans rfl, (blk_cell HI4.out.box 2).trans rfl⟩ (fun hHeld => ?_)
        clear hK K
        refine norm_ (a' := ?_) ?_ ?_
        rotate_left
        · show Act.put _ (some 21) _ = _
          simp only [Act.put, List.setIfInBounds_toArray, List.set_cons_zero, List.set_cons_succ, i64_w, i32_w]
          rfl
        refine one_ (i := 7) (N := some 25) #[true, true, true, true, true, true, true, true, true, true, true, true, false, false] rfl rfl (one_of HT_.out (by kernel_rfl)) (by decide) (fun K hK => ?_)
        refine goes_ Try.func45 (by kernel_rfl) rfl #[v3, .int .i64 6, .slice B6 [tr].length c6] (by rfl) rfl rfl (by (try simp only [List.map_toArray, List.map_cons, List.map_nil]); first | done | rfl) ?_
        refine (numbers_c v3 (numsF [] 1 [ow]) 6 B6 c6 [tr] (fun q => W.heap.size < q) _ V3_4.out (fun k hk => Nat.lt_of_lt_of_le (blk_lt HI4.out.box) hk) (lit_hl U6_4.out V3_4.out) (Kd.R_reads' U6_4.out).2.1 (by have := numsF_len [] 1 [ow]; simp only [List.length_nil, List.length_singleton] at this ⊢; omega)).mono ?_
        rintro e w_5 ⟨v7, rfl, hO_, hgL, -⟩
        refine ⟨_, rfl, ?_⟩
        have HI5 := Aside0.mk (HI4.out.grown hgL (fun q hq => V3_4.out.1 q hq))
        have U11_5 := Aside0.mk (lit_kept U11_4.out V3_4.out hgL)
        have V7_5 := Aside0.mk hO_
        clear hgL hO_
        refine hK.out _ _ ⟨(blk_cell HI5.out.box 0).trans rfl, (blk_cell HI5.out.box 1).trans rfl, (blk_cell HI5.out.box 2).trans rfl⟩ (fun hHeld => ?_)
        clear hK K
        refine norm_ (a' := ?_) ?_ ?_
        rotate_left
        · show Act.put _ (some 25) _ = _
          simp only [Act.put, List.setIfInBounds_toArray, List.set_cons_zero, List.set_cons_succ, i64_w, i32_w]
          rfl
        exact norm_ (by first | (simp only [putAll, Act.put, List.setIfInBounds_toArray, List.set_cons_zero, List.set_cons_succ]; done) | (simp only [putAll, Act.put, List.setIfInBounds_toArray, List.set_cons_zero, List.set_cons_succ]; rfl)) (CONT (_, _, _, _, _) _ ⟨HI5.out, V7_5.out, U11_5.out⟩)
  rintro ⟨u2, v3, u6, v7, u11⟩ w8 ⟨hI, hV, hU⟩
  dsimp only at hI hV hU
  obtain ⟨B11, c11, rfl⟩ := Kd.R_slice hU
  refine norm_ (a' := ?_) ?_ ?_
  rotate_left
  · simp only [putAll, Act.put, List.setIfInBounds_toArray, List.set_cons_zero, List.set_cons_succ]
    rfl
  have HI8 := Aside0.mk hI
  have HV8 := Aside0.mk hV
  have HU8 := Aside0.mk hU
  clear hI hV hU hHeld
  refine one_ (i := 12) (N := (some 30)) #[true, true, true, true, true, true, true, true, true, true, true, true, true, false] rfl rfl (one_of HT_.out (by kernel_rfl)) (by decide) (fun K hK => ?_)
  refine goes_ Try.func45 (by kernel_rfl) rfl #[v7, .int .i64 1, .slice B11 [(ps.length : Int)].length c11] (by rfl) rfl rfl (by (try simp only [List.map_toArray, List.map_cons, List.map_nil]); first | done | rfl) ?_
  refine (numbers_c v7 (numsF (numsF [] 1 [ow]) 6 [tr]) 1 B11 c11 [(ps.length : Int)] (fun q => W.heap.size < q) _ HV8.out (fun k hk => Nat.lt_of_lt_of_le (blk_lt HI8.out.box) hk) (lit_hl HU8.out HV8.out) (Kd.R_reads' HU8.out).2.1 (by have h1 := numsF_len [] 1 [ow]; have h2 := numsF_len (numsF [] 1 [ow]) 6 [tr]; simp only [List.length_nil, List.length_singleton] at h1 h2 ⊢; omega)).mono ?_
  rintro e w9 ⟨v9, rfl, hO_, hgL, -⟩
  refine ⟨_, rfl, ?_⟩
  have HI9 := Aside0.mk (HI8.out.grown hgL (fun q hq => HV8.out.1 q hq))
  have HV9 := Aside0.mk (show Kd.R (Kd.int .u8) 5 w9 0 (fun q => W.heap.size < q) v9 (headE ow tr ps.length) from hO_)
  clear hgL hO_ HI8 HV8 HU8
  refine hK.out _ _ ⟨(blk_cell HI9.out.box 0).trans rfl, (blk_cell HI9.out.box 1).trans rfl, (blk_cell HI9.out.box 2).trans rfl⟩ (fun hHeld => ?_)
  clear hK K
  refine norm_ (a' := ?_) ?_ ?_
  rotate_left
  · show Act.put _ (some 30) _ = _
    simp only [Act.put, List.setIfInBounds_toArray, List.set_cons_zero, List.set_cons_succ, i64_w, i32_w]
    rfl
  refine pure_ (i := 13) (N := (some 7)) (v := ?_) (a' := ?_) #[true, true, true, true, true, true, true, true, true, true, true, true, true, true] rfl rfl (any_of HT_.out (by kernel_rfl)) (fun _ _ _ h => h) (Or.inl ⟨by rfl, ?_⟩) ?_ ?_
  rotate_left
  · intro w'
    go_simp
    with_reducible rfl
  rotate_left
  · simp only [Act.put, List.setIfInBounds_toArray, List.set_cons_zero, List.set_cons_succ, i64_w, i32_w]
    rfl
  refine done_ (done_of HT_.out (by kernel_rfl)) ?_
  clear hHeld HT_ HW_
  have z2 : w9.cell? ⟨W.heap.size, 2, none⟩ = some (.slice A ps.length c) := (blk_cell HI9.out.box 2).trans rfl
  go_wp2_with fail
  clear z2
  go_loopw [7, 34] (fun u7 u34 wr => ∃ i : Nat, i ≤ ps.length ∧ u34 = .int .i64 i ∧ Aside0 (EncI W ow tr A c ps wr) ∧ Aside0 (Kd.R (Kd.int .u8) 5 wr 0 (fun q => W.heap.size < q) u7 ((ps.take i).foldl partE (headE ow tr ps.length)))) (fun u7 u34 wr => ps.length - (intOf u34).toNat)
  case atStart => exact ⟨0, Nat.zero_le _, rfl, HI9, HV9⟩
  case round =>
    obtain ⟨i, hi, rfl, HK, HV⟩ := hrel
    clear HI9 HV9
    by_cases hlt : i < ps.length
    rotate_left
    · obtain rfl : i = ps.length := by omega
      have HVV := Aside0.mk (show Kd.R (Kd.int .u8) 5 wr 0 (fun q => W.heap.size < q) u7 (encL ow tr ps) by have h := HV.out; rw [List.take_length] at h; exact h)
      go_wp2_with fail
      exact bodyPost_ret (v := .tuple #[u7, .int .i64 0]) (by simp [results, Try.results28, go_sem]) rfl ⟨HK.out.below, _, by rw [HE.out], by rw [HE.out]; exact HVV.out⟩
    have hlt2 : (i : Int) < (ps.length : Int) := by omega
    obtain ⟨ad, An, cn, hA, hcn, hCn, hcc⟩ := part_cells HR.out i hlt
    obtain ⟨a0, a1, a2⟩ := hcc wr HK.out.below
    have HLEN := Aside0.mk (encAt_len HRT.out i hi)
    have HNXT := Aside0.mk (show (ps.take (i + 1)).foldl partE (headE ow tr ps.length) = partE ((ps.take i).foldl partE (headE ow tr ps.length)) ps[i] by rw [List.take_add_one, List.getElem?_eq_getElem hlt, Option.toList_some, List.foldl_append, List.foldl_cons, List.foldl_nil])
    have hn9 : ps[i].nodes.length ≤ 9 := HN9.out i hlt
    have HCN := Aside0.mk hCn
    have HJ := Aside0.mk (And.intro (Nat.succ_le_of_lt hlt) (less2_ hlt))
    subst hA
    clear hcc hCn
    generalize ps[i] = pt at a0 a1 a2 HNXT hcn HCN hn9
    obtain ⟨fi, id, ns⟩ := pt
    dsimp only at a0 a1 a2 HNXT hcn HCN hn9
    generalize (ps.take i).foldl partE (headE ow tr ps.length) = bs at HV HLEN HNXT
    obtain ⟨oP, hoP⟩ : ∃ o : Obj, o = .cells #[.int .i64 fi, .int .i64 id, .slice An ns.length cn] 53 (0, 0) := ⟨_, rfl⟩
    obtain ⟨oL, hoL⟩ : ∃ o : Obj, o = .cells #[.int .i64 fi, .int .i64 id] 3 (0, 0) := ⟨_, rfl⟩
    have hbB := below_alloc (below_alloc (Below.refl wr.heap.size wr) oP) oL
    have hsA : (wr.alloc oP).heap.size = wr.heap.size + 1 := Array.size_push _
    have HKB := Aside0.mk (HK.out.move hbB)
    have HVB := Aside0.mk (Kd.R_below HV.out hbB)
    have BPB := Aside0.mk (show ((wr.alloc oP).alloc oL).heap[wr.heap.size]? = some (.cells #[.int .i64 fi, .int .i64 id, .slice An ns.length cn] 53 (0, 0)) by rw [← hoP]; exact blk_alloc (heap_alloc_new wr oP) oL)
    have BLB := Aside0.mk (show ((wr.alloc oP).alloc oL).heap[wr.heap.size + 1]? = some (.cells #[.int .i64 fi, .int .i64 id] 3 (0, 0)) by rw [← hoL, ← hsA]; exact heap_alloc_new _ oL)
    have hgp := Nat.le_trans HK.out.below.size (Nat.le_refl wr.heap.size)
    subst hoP hoL
    clear HK HV hbB hsA
    go_wp2_with fail
    refine (numbers_c u7 bs 6 (some ⟨wr.heap.size + 1, 0, none⟩) 2 [fi, id] (fun q => W.heap.size < q) _ HVB.out (fun k hk => Nat.lt_of_lt_of_le (blk_lt HKB.out.box) hk) (fun w' hg => C_ints (xs := [fi, id]) (blk_grown BLB.out hg (Kd.R_ne HVB.out BLB.out (by decide))) rfl (by simp)) (Nat.le_refl 2) (by have h := HLEN.out; simp only [List.length_cons, List.length_nil]; omega)).mono ?_
    rintro e w5 ⟨v5, rfl, hO_, hgL, -⟩
    have HK5 := Aside0.mk (HKB.out.grown hgL (fun q hq => HVB.out.1 q hq))
    have HV5 := Aside0.mk hO_
    have BP5 := Aside0.mk (blk_grown BPB.out hgL (Kd.R_ne HVB.out BPB.out (by decide)))
    have HL5 := Aside0.mk (show (numsF bs 6 [fi, id]).length ≤ 18 + 72 * i + 12 by have h := HLEN.out; have h2 := numsF_len bs 6 [fi, id]; simp only [List.length_cons, List.length_nil] at h2; omega)
    clear hO_ hgL HKB HVB BPB BLB HLEN
    generalize hgp2 : wr.heap.size = gp at BP5 hgp ⊢
    clear hgp2
    go_wp2_with fail
    have hdrw := below_drew (Below.refl w5.heap.size w5)
    have HK6 := Aside0.mk (HK5.out.move hdrw)
    have HV6 := Aside0.mk (Kd.R_below HV5.out hdrw)
    have BP6 := Aside0.mk (blk_below BP5.out hdrw)
    clear hdrw HK5 HV5 BP5
    refine start_ (n := 12) (S := fun w' => w'.cell? ⟨gp, 2, none⟩ = some (.slice An ns.length cn)) (ds := []) #[false, false, false, false, false, false, false, false, false, false, false, false] (by kernel_rfl) rfl rfl (by exact (blk_cell BP6.out 2).trans rfl) (fun hHeld => ?_); refine with_tabW tabG11 bitsG11 (fun HT_ HW_ => ?_)
    generalize hwd : w5.drew = w6 at HK6 HV6 BP6 hHeld ⊢
    clear hwd
    refine pure_ (i := 0) (N := (some 46)) (v := ?_) (a' := ?_) #[true, false, false, false, false, false, false, false, false, false, false, false] rfl rfl (any_of HT_.out (by kernel_rfl)) (fun _ _ _ h => h) (Or.inl ⟨by rfl, ?_⟩) ?_ ?_
    rotate_left
    · intro w'
      go_simp
      with_reducible rfl
    rotate_left
    · simp only [Act.put, List.setIfInBounds_toArray, List.set_cons_zero, List.set_cons_succ, i64_w, i32_w]
      rfl
    refine pure_ (i := 1) (N := (some 47)) (v := ?_) (a' := ?_) #[true, true, false, false, false, false, false, false, false, false, false, false] rfl rfl (any_of HT_.out (by kernel_rfl)) (fun _ _ _ h => h) (Or.inl ⟨by rfl, ?_⟩) ?_ ?_
    rotate_left
    · intro w'
      go_simp
      with_reducible rfl
    rotate_left
    · simp only [Act.put, List.setIfInBounds_toArray, List.set_cons_zero, List.set_cons_succ, i64_w, i32_w]
      rfl
    refine pure_ (i := 2) (N := (some 48)) (v := ?_) (a' := ?_) #[true, true, true, false, false, false, false, false, false, false, false, false] rfl rfl (any_of HT_.out (by kernel_rfl)) (fun _ _ _ h => h) (Or.inl ⟨by rfl, ?_⟩) ?_ ?_
    rotate_left
    · intro w'
      go_simp
      with_reducible rfl
    rotate_left
    · simp only [Act.put, List.setIfInBounds_toArray, List.set_cons_zero, List.set_cons_succ, i64_w, i32_w]
      rfl
    refine take_ (i := 3) (N := (some 49)) (v := ?_) (a' := ?_) #[true, true, true, true, false, false, false, false, false, false, false, false] rfl rfl (take_ofW HT_.out HW_.out (by kernel_rfl)) (fun _ _ _ h => h) (Or.inl ⟨by rfl, ?_⟩) hHeld ?_ ?_
    rotate_left
    · rintro w' s0
      go_simp
      with_reducible rfl
    rotate_left
    · simp only [Act.put, List.setIfInBounds_toArray, List.set_cons_zero, List.set_cons_succ, i64_w, i32_w]
      rfl
    refine pure_ (i := 4) (N := (some 50)) (v := ?_) (a' := ?_) #[true, true, true, true, true, false, false, false, false, false, false, false] rfl rfl (any_of HT_.out (by kernel_rfl)) (fun _ _ _ h => h) (Or.inl ⟨by rfl, ?_⟩) ?_ ?_
    rotate_left
    · intro w'
      go_simp
      with_reducible rfl
    rotate_left
    · simp only [Act.put, List.setIfInBounds_toArray, List.set_cons_zero, List.set_cons_succ, i64_w, i32_w]
      rfl
    refine pure_ (i := 7) (N := (some 53)) (v := ?_) (a' := ?_) #[true, true, true, true, true, false, false, true, false, false, false, false] rfl rfl (any_of HT_.out (by kernel_rfl)) (fun _ _ _ h => h) (Or.inl ⟨by rfl, ?_⟩) ?_ ?_
    rotate_left
    · intro w'
      go_simp
      with_reducible rfl
    rotate_left
    · simp only [Act.put, List.setIfInBounds_toArray, List.set_cons_zero, List.set_cons_succ, i64_w, i32_w]
      rfl
    refine pure_ (i := 8) (N := (some 54)) (v := ?_) (a' := ?_) #[true, true, true, true, true, false, false, true, true, false, false, false] rfl rfl (any_of HT_.out (by kernel_rfl)) (fun _ _ _ h => h) (Or.inl ⟨by rfl, ?_⟩) ?_ ?_
    rotate_left
    · intro w'
      go_simp
      with_reducible rfl
    rotate_left
    · simp only [Act.put, List.setIfInBounds_toArray, List.set_cons_zero, List.set_cons_succ, i64_w, i32_w]
      rfl
    refine take_ (i := 9) (N := (some 55)) (v := ?_) (a' := ?_) #[true, true, true, true, true, false, false, true, true, true, false, false] rfl rfl (take_ofW HT_.out HW_.out (by kernel_rfl)) (fun _ _ _ h => h) (Or.inl ⟨by rfl, ?_⟩) hHeld ?_ ?_
    rotate_left
    · rintro w' s0
      go_simp
      with_reducible rfl
    rotate_left
    · simp only [Act.put, List.setIfInBounds_toArray, List.set_cons_zero, List.set_cons_succ, i64_w, i32_w]
      rfl
    refine one_ (i := 5) (N := (some 51)) #[true, true, true, true, true, true, false, true, true, true, false, false] rfl rfl (one_of HT_.out (by kernel_rfl)) (by decide) (fun K hK => ?_)
    refine Kd.R_lit_step (Kd.int .i64) (w0 := w6) 0 3 (by rfl) (N := 51) rfl (xs := [(ns.length : Int)]) (inner := [.int .i64 (ns.length : Int)]) (ok := (fun q => W.heap.size < q)) (okp := (fun q => W.heap.size < q)) ?hr ?hp (fun _ hk => hk) (Nat.lt_of_lt_of_le (blk_lt HK6.out.box) (Nat.le_refl _)) (Below.refl _ _) (Nat.zero_le _) (by simp) ?_
    case hr => first | (go_simp; done) | (go_simp; rfl)
    case hp => exact Reps.snoc (Reps.none _ 1) rfl rfl
    intro u7_ w7 hO_ _ hg_ _
    have hbL : Below w6.heap.size w6 w7 := ⟨hg_.os, hg_.tape, hg_.output, hg_.size, fun k hk => hg_.block k hk (by simp)⟩
    obtain ⟨B7, c7, rfl⟩ := Kd.R_slice hO_
    have HU7 := Aside0.mk hO_
    have HK7 := Aside0.mk (HK6.out.move hbL)
    have HV7 := Aside0.mk (Kd.R_below HV6.out hbL)
    have BP7 := Aside0.mk (blk_below BP6.out hbL)
    clear hbL hg_ hO_ HK6 HV6 BP6
    refine hK.out _ _ (by exact (blk_cell BP7.out 2).trans rfl) (fun hHeld => ?_)
    clear hK K
    refine norm_ (a' := ?_) ?_ ?_
    rotate_left
    · show Act.put _ (some 51) _ = _
      simp only [Act.put, List.setIfInBounds_toArray, List.set_cons_zero, List.set_cons_succ, i64_w, i32_w]
      rfl
    refine one_ (i := 6) (N := (some 52)) #[true, true, true, true, true, true, true, true, true, true, false, false] rfl rfl (one_of HT_.out (by kernel_rfl)) (by decide) (fun K hK => ?_)
    refine goes_ Try.func45 (by kernel_rfl) rfl #[v5, .int .i64 1, .slice B7 [(ns.length : Int)].length c7] (by rfl) rfl rfl (by (try simp only [List.map_toArray, List.map_cons, List.map_nil]); first | done | rfl) ?_
    refine (numbers_c v5 (numsF bs 6 [fi, id]) 1 B7 c7 [(ns.length : Int)] (fun q => W.heap.size < q) _ HV7.out (fun k hk => Nat.lt_of_lt_of_le (blk_lt HK7.out.box) hk) (lit_hl HU7.out HV7.out) (Kd.R_reads' HU7.out).2.1 (by have h := HL5.out; simp only [List.length_singleton]; omega)).mono ?_
    rintro e w8 ⟨v8, rfl, hO_, hgL, -⟩
    refine ⟨_, rfl, ?_⟩
    have HK8 := Aside0.mk (HK7.out.grown hgL (fun q hq => HV7.out.1 q hq))
    have HV8 := Aside0.mk hO_
    have BP8 := Aside0.mk (blk_grown BP7.out hgL (Kd.R_ne HV7.out BP7.out (by decide)))
    have HL8 := Aside0.mk (show (numsF (numsF bs 6 [fi, id]) 1 [(ns.length : Int)]).length ≤ 18 + 72 * i + 18 by have h := HL5.out; have h2 := numsF_len (numsF bs 6 [fi, id]) 1 [(ns.length : Int)]; simp only [List.length_singleton] at h2; omega)
    clear hO_ hgL HK7 HV7 BP7 HU7 HL5
    refine hK.out _ _ (by exact (blk_cell BP8.out 2).trans rfl) (fun hHeld => ?_)
    clear hK K
    refine norm_ (a' := ?_) ?_ ?_
    rotate_left
    · show Act.put _ (some 52) _ = _
      simp only [Act.put, List.setIfInBounds_toArray, List.set_cons_zero, List.set_cons_succ, i64_w, i32_w]
      rfl
    refine one_ (i := 10) (N := (some 56)) #[true, true, true, true, true, true, true, true, true, true, true, false] rfl rfl (one_of HT_.out (by kernel_rfl)) (by decide) (fun K hK => ?_)
    refine goes_ Try.func45 (by kernel_rfl) rfl #[v8, .int .i64 1, .slice An ns.length cn] (by rfl) rfl rfl (by (try simp only [List.map_toArray, List.map_cons, List.map_nil]); first | done | rfl) ?_
    refine (numbers_c v8 (numsF (numsF bs 6 [fi, id]) 1 [(ns.length : Int)]) 1 An cn ns (fun q => W.heap.size < q) _ HV8.out (fun k hk => Nat.lt_of_lt_of_le (blk_lt HK8.out.box) hk) (fun w' hg => Kd.C_below HCN.out (Below.grown HK8.out.below hg HK8.out.below.size (fun k hk => Nat.le_of_lt (HV8.out.1 k hk)))) hcn (by have h := HL8.out; omega)).mono ?_
    rintro e w9 ⟨v9_, rfl, hO_, hgL, -⟩
    refine ⟨_, rfl, ?_⟩
    have HK9 := Aside0.mk (HK8.out.grown hgL (fun q hq => HV8.out.1 q hq))
    have HV9 := Aside0.mk (show Kd.R (Kd.int .u8) 5 w9 0 (fun q => W.heap.size < q) v9_ (partE bs ⟨fi, id, ns⟩) from hO_)
    have BP9 := Aside0.mk (blk_grown BP8.out hgL (Kd.R_ne HV8.out BP8.out (by decide)))
    clear hO_ hgL HK8 HV8 BP8 HL8
    refine hK.out _ _ (by exact (blk_cell BP9.out 2).trans rfl) (fun hHeld => ?_)
    clear hK K
    refine norm_ (a' := ?_) ?_ ?_
    rotate_left
    · show Act.put _ (some 56) _ = _
      simp only [Act.put, List.setIfInBounds_toArray, List.set_cons_zero, List.set_cons_succ, i64_w, i32_w]
      rfl
    refine pure_ (i := 11) (N := (some 7)) (v := ?_) (a' := ?_) #[true, true, true, true, true, true, true, true, true, true, true, true] rfl rfl (any_of HT_.out (by kernel_rfl)) (fun _ _ _ h => h) (Or.inl ⟨by rfl, ?_⟩) ?_ ?_
    rotate_left
    · intro w'
      go_simp
      with_reducible rfl
    rotate_left
    · simp only [Act.put, List.setIfInBounds_toArray, List.set_cons_zero, List.set_cons_succ, i64_w, i32_w]
      rfl
    refine done_ (done_of HT_.out (by kernel_rfl)) ?_
    clear hHeld HT_ HW_
    go_wp2_with fail
    go_roundw
    case rel => first | exact ⟨i + 1, HJ.out.1, rfl, HK9, ⟨HNXT.out ▸ HV9.out⟩⟩ | ((repeat apply Exists.intro); exact ⟨⟨i + 1, HJ.out.1, rfl, HK9, ⟨by rw [HNXT.out]; exact HV9.out⟩⟩, rfl⟩)
    case measure => exact HJ.out.2
end Go.Proofs.Ytpcoelimabojcaa.Hand
