/- The document's net: Send. -/
import Derived.Test.YtckeahjlfopaaaaHN14
namespace Go.Proofs.Ytckeahjlfopaaaa.Hand
open Go.RowKit Go.Proofs.Ytckeahjlfopaaaa Go.Proofs.YtckeahjlfopaaaaW.PrintWords Go.Proofs.YtckeahjlfopaaaaW.PrintLast
set_option linter.unusedVariables false
set_option linter.unusedSimpArgs false
/-- What Send leaves. -/
def SendR (F : Nat → Prop) (g : Nat) (dest r : Int) (lu : List Int) (la : List (Int × List Int)) (b : List Int) (W : World) (e : Ending) (W' : World) : Prop :=
  e = .returned (.tuple #[.int .i64 (fateF r).1, .bool (fateF r).2]) ∧ ∃ F', RI W' F' g lu (if r = 3 then la ++ [(dest, b)] else la) ∧ (∀ k, F' k → F k ∨ W.heap.size ≤ k) ∧ Fr F W W'
theorem SendR.mk {F : Nat → Prop} {g : Nat} {dest r : Int} {lu : List Int} {la : List (Int × List Int)} {b : List Int} {W W' : World} {e : Ending} (K : RI W' F g lu la ∧ Fr F W W') (h3 : r ≠ 3) (he : e = .returned (.tuple #[.int .i64 (fateF r).1, .bool (fateF r).2])) : SendR F g dest r lu la b W e W' := by
  unfold SendR
  rw [if_neg h3]
  exact ⟨he, F, K.1, fun k hk => .inl hk, K.2⟩
theorem SendR.mk3 {F : Nat → Prop} {g : Nat} {dest : Int} {lu : List Int} {la : List (Int × List Int)} {b : List Int} {W W' : World} {e : Ending} (K : e = .returned (.tuple #[.int .i64 0, .bool false]) ∧ ∃ F', RI W' F' g lu (la ++ [(dest, b)]) ∧ (∀ k, F' k → F k ∨ W.heap.size ≤ k) ∧ Fr F W W') : SendR F g dest 3 lu la b W e W' := by
  unfold SendR
  rw [if_pos rfl]
  exact K
def TRS : Bool × List (List Nat × List Nat) := (true, [([], []), ([], []), ([1], [1]), ([2], [2]), ([3], [3]), ([], []), ([], []), ([], []), ([6, 7], [6, 7]), ([5, 8], [5, 8]), ([9], [9]), ([4, 10, 8], [4, 10]), ([0, 0, 1, 2, 3, 4, 5, 6, 7, 8, 9, 10, 11], [0]), ([12, 0, 1, 2, 3, 4, 5, 6, 7, 8, 9, 10, 11], [12]), ([13, 11, 11, 0, 1, 2, 3, 4, 5, 6, 7, 8, 9, 10, 11], [11, 13])])
def BRS : List Nat := [0, 0, 2, 6, 14, 0, 0, 0, 192, 480, 992, 2046, 4095, 8191, 16383]
theorem tabRS : rtab .any (opsOf Try.f26 11) = TRS := by kernel_rfl
theorem bitsRS : waitsOk TRS.2 BRS = true := by kernel_rfl
set_option maxHeartbeats 3200000 in
set_option maxRecDepth 100000 in
theorem send_r {W : World} {F : Nat → Prop} {g : Nat} {lu : List Int} {la : List (Int × List Int)} (h : RI W F g lu la) (dest : Int) (A : Option Addr) (c : Nat) (b : List Int) (hr : ∀ W', Fr F W W' → Kd.C (Kd.int .u8) W' A b.length b) (hl : b.length ≤ 140737488351232) (hla : (la.length + 1) * 32 ≤ 140737488355328) :
    Calls Try.prog 26 #[.pointer (some ⟨g, 0, none⟩), .int .i64 dest, .slice A b.length c] W (SendR F g dest (restF (hd0 lu)) lu.tail la b W) := by
  have h' := h
  obtain ⟨⟨FW, FL, A0, c0, vm, hc, h1, h2, h3, h4, h5⟩, ho, hlt⟩ := h
  rcases lu with _ | ⟨x, lu⟩
  · have z0 : W.cell? ⟨g, 0, none⟩ = some (.slice A0 0 c0) := (blk_cell h1 0).trans rfl
    have H := Aside0.mk h'
    clear h' h1 h2 h3 h4 h5 ho hlt hr
    go_enter Try.func26, Try.ntmps26
    go_wp2_with fail
    go_ret2
    have hz : restF (hd0 []) = 0 := by decide +kernel
    rw [hz]
    exact SendR.mk ⟨H.out, Fr.refl _ _⟩ (by decide) rfl
  · have hC := h2.c
    obtain ⟨a0, rfl, hx⟩ := Kd.at_int hC (0 : Int) (by omega) (by simp)
    have hmax := Kd.C_max hC
    have z0 : W.cell? ⟨g, 0, none⟩ = some (.slice (some a0) (lu.length + 1) c0) := (blk_cell h1 0).trans rfl
    have f0 := blk_frozen h1 0
    rw [show (0 : Int).toNat = 0 from rfl, show rd (x :: lu) 0 = x from rfl] at hx
    replace hx : W.cell? a0 = some (.int .i64 x) := by simpa [Addr.add] using hx
    have H := Aside0.mk (And.intro h1 (And.intro h2 (And.intro h3 (And.intro h4 (And.intro h5 (And.intro ho hlt))))))
    have HC := Aside0.mk hr
    simp only [List.length_cons] at hc hmax
    have HT := Aside0.mk (h2.tail (by simpa using hc))
    clear h' h1 h2 h3 h4 h5 ho hlt hr hC
    by_cases hc1 : c0 = 1
    · subst hc1
      obtain rfl : lu = [] := List.eq_nil_of_length_eq_zero (by omega)
      have HS := Aside0.mk (show SC FW W (some a0) [] from HT.out)
      clear HT
      have K := Aside0.mk (RI.cut_step (W' := W.setCell ⟨g, 0, none⟩ (.slice (some a0) 0 (0))) (lu' := []) (c' := 0) (A' := some a0) H.out.2.2.1 H.out.2.2.2.1 H.out.2.2.2.2.1 H.out.2.2.2.2.2.1 H.out.2.2.2.2.2.2 (by omega) (blk_put H.out.1 0 _ rfl) HS.out (Fr.set (F := fun k => k = g) W g 0 _ rfl))
      have HB1 := Aside0.mk (HC.out _ K.out.2)
      have BK1 := Aside0.mk (blk_put H.out.1 0 (.slice (some a0) 0 (0)) rfl)
      clear H HS HC
      generalize hW1 : W.setCell ⟨g, 0, none⟩ (.slice (some a0) 0 (0)) = W1 at K HB1 BK1
      have HRC := rest_cases (hd0 (x :: []))
      generalize hrr : restF (hd0 (x :: [])) = r at HRC ⊢
      have hr2 : (wrap64 (x.tmod 5 + 5)).tmod 5 = r := hrr
      have EW := Aside0.mk hW1
      clear hrr
      rcases HRC with rfl | rfl | rfl | rfl | rfl
      · clear HB1 BK1
        go_enter Try.func26, Try.ntmps26
        go_wp2_with fail
        go_ret2
        exact SendR.mk K.out (by decide) rfl
      · clear HB1 BK1
        go_enter Try.func26, Try.ntmps26
        go_wp2_with fail
        go_ret2
        exact SendR.mk K.out (by decide) rfl
      · clear HB1 BK1
        go_enter Try.func26, Try.ntmps26
        go_wp2_with fail
        go_ret2
        exact SendR.mk K.out (by decide) rfl
      · obtain ⟨⟨FW1, FL1, A1, c1, vm1, hc1, g1, g2, g3, g4, g5⟩, go, glt⟩ := K.out.1
        have HF0 := Aside0.mk K.out.2
        obtain ⟨Av, cv, rfl⟩ := Kd.R_slice g3
        have z1 : W1.cell? ⟨g, 1, none⟩ = some (.slice Av la.length cv) := (blk_cell g1 1).trans rfl
        have BK0 := Aside0.mk g1
        have KI0 := Aside0.mk (And.intro g2 (And.intro g3 (And.intro g4 (And.intro g5 (And.intro go glt)))))
        clear g1 g2 g3 g4 g5 go glt K BK1
        go_enter Try.func26, Try.ntmps26
        go_wp2_with fail
        clear z1 z0 f0 hx hr2 EW hW1
        have KI := Aside0.mk (And.intro (KI0.out.1.fr (G := fun _ => False) (Fr.of_below (below_drew (Below.refl _ _))) (fun k hk => KI0.out.2.2.2.2.2 k (KI0.out.2.2.1 k hk).1) (fun _ _ => id)) (And.intro (Kd.R_drew KI0.out.2.1) (And.intro KI0.out.2.2.1 (And.intro KI0.out.2.2.2.1 (And.intro KI0.out.2.2.2.2.1 (fun k (hk : F k) => show k < W1.drew.heap.size from Nat.lt_of_lt_of_le (KI0.out.2.2.2.2.2 k hk) (below_drew (Below.refl 0 W1)).size))))))
        have BK := Aside0.mk (blk_drew BK0.out)
        have HB := Aside0.mk (Kd.C_below HB1.out (below_drew (Below.refl _ _)))
        have HF := Aside0.mk (HF0.out.trans (Fr.of_below (F := fun _ => False) (below_drew (Below.refl _ W1))) (fun _ h => h.elim))
        clear KI0 BK0 HB1 HF0
        refine start_ (n := 15) (S := fun w' => w'.cell? ⟨g, 1, none⟩ = some (.slice Av la.length cv)) (ds := [14]) #[false, false, false, false, false, false, false, false, false, false, false, false, false, false, false] (by kernel_rfl) rfl rfl ((blk_cell BK.out 1).trans rfl) (fun hHeld => ?_); refine with_tabW tabRS bitsRS (fun HT_ HW_ => ?_)
        generalize hwd : W1.drew = Wd at KI BK HB HF hHeld ⊢
        clear hwd
        refine pure_ (i := 0) (N := (some 39)) (v := ?_) (a' := ?_) #[true, false, false, false, false, false, false, false, false, false, false, false, false, false, false] rfl rfl (any_of HT_.out (by kernel_rfl)) (fun _ _ _ h => h) (Or.inl ⟨by rfl, ?_⟩) ?_ ?_
        rotate_left
        · intro w'
          go_simp
          with_reducible rfl
        rotate_left
        · simp only [Act.put, List.setIfInBounds_toArray, List.set_cons_zero, List.set_cons_succ, i64_w, i32_w]
          rfl
        refine pure_ (i := 1) (N := (some 40)) (v := ?_) (a' := ?_) #[true, true, false, false, false, false, false, false, false, false, false, false, false, false, false] rfl rfl (any_of HT_.out (by kernel_rfl)) (fun _ _ _ h => h) (Or.inl ⟨by rfl, ?_⟩) ?_ ?_
        rotate_left
        · intro w'
          go_simp
          with_reducible rfl
        rotate_left
        · simp only [Act.put, List.setIfInBounds_toArray, List.set_cons_zero, List.set_cons_succ, i64_w, i32_w]
          rfl
        refine pure_ (i := 2) (N := (some 41)) (v := ?_) (a' := ?_) #[true, true, true, false, false, false, false, false, false, false, false, false, false, false, false] rfl rfl (any_of HT_.out (by kernel_rfl)) (fun _ _ _ h => h) (Or.inl ⟨by rfl, ?_⟩) ?_ ?_
        rotate_left
        · intro w'
          go_simp
          with_reducible rfl
        rotate_left
        · simp only [Act.put, List.setIfInBounds_toArray, List.set_cons_zero, List.set_cons_succ, i64_w, i32_w]
          rfl
        refine pure_ (i := 3) (N := (some 42)) (v := ?_) (a' := ?_) #[true, true, true, true, false, false, false, false, false, false, false, false, false, false, false] rfl rfl (any_of HT_.out (by kernel_rfl)) (fun _ _ _ h => h) (Or.inl ⟨by rfl, ?_⟩) ?_ ?_
        rotate_left
        · intro w'
          go_simp
          with_reducible rfl
        rotate_left
        · simp only [Act.put, List.setIfInBounds_toArray, List.set_cons_zero, List.set_cons_succ, i64_w, i32_w]
          rfl
        refine take_ (i := 4) (N := (some 43)) (v := ?_) (a' := ?_) #[true, true, true, true, true, false, false, false, false, false, false, false, false, false, false] rfl rfl (take_ofW HT_.out HW_.out (by kernel_rfl)) (fun _ _ _ h => h) (Or.inl ⟨by rfl, ?_⟩) hHeld ?_ ?_
        rotate_left
        · rintro w' s0
          go_simp
          with_reducible rfl
        rotate_left
        · simp only [Act.put, List.setIfInBounds_toArray, List.set_cons_zero, List.set_cons_succ, i64_w, i32_w]
          rfl
        refine pure_ (i := 5) (N := (some 44)) (v := ?_) (a' := ?_) #[true, true, true, true, true, true, false, false, false, false, false, false, false, false, false] rfl rfl (any_of HT_.out (by kernel_rfl)) (fun _ _ _ h => h) (Or.inl ⟨by rfl, ?_⟩) ?_ ?_
        rotate_left
        · intro w'
          go_simp
          with_reducible rfl
        rotate_left
        · simp only [Act.put, List.setIfInBounds_toArray, List.set_cons_zero, List.set_cons_succ, i64_w, i32_w]
          rfl
        refine pure_ (i := 7) (N := (some 46)) (v := ?_) (a' := ?_) #[true, true, true, true, true, true, false, true, false, false, false, false, false, false, false] rfl rfl (any_of HT_.out (by kernel_rfl)) (fun _ _ _ h => h) (Or.inl ⟨by rfl, ?_⟩) ?_ ?_
        rotate_left
        · intro w'
          go_simp
          with_reducible rfl
        rotate_left
        · simp only [Act.put, List.setIfInBounds_toArray, List.set_cons_zero, List.set_cons_succ, i64_w, i32_w]
          rfl
        refine one_ (i := 6) (N := (some 45)) #[true, true, true, true, true, true, true, true, false, false, false, false, false, false, false] rfl rfl (one_of HT_.out (by kernel_rfl)) (by decide) (fun K hK => ?_)
        refine Kd.R_lit_step (Kd.int .u8) (w0 := Wd) Wd.heap.size 5 (by rfl) (N := 45) rfl (xs := ([] : List Int)) (inner := []) (ok := fun _ => True) (okp := fun _ => True) ?hr ?hp (fun _ h => h) trivial (Below.refl _ _) (Nat.le_refl _) (by simp) ?_
        case hr => first | (go_simp; done) | (go_simp; rfl)
        case hp => exact Reps.none _ _
        intro vl_ w4 HOl_ hbl_ hgl_ hatl_
        have BK4 := Aside0.mk (blk_below BK.out hbl_)
        have HL4 := Aside0.mk HOl_
        have HB4 := Aside0.mk hbl_
        have HC4 := Aside0.mk (Kd.C_below HB.out hbl_)
        clear HOl_ hbl_ hgl_ hatl_
        refine hK.out _ _ ((blk_cell BK4.out 1).trans rfl) (fun hHeld => ?_)
        clear hK K
        refine norm_ (a' := ?_) ?_ ?_
        rotate_left
        · show Act.put _ (some 45) _ = _
          simp only [Act.put, List.setIfInBounds_toArray, List.set_cons_zero, List.set_cons_succ, i64_w, i32_w]
          rfl
        refine one_ (i := 8) (N := (some 47)) #[true, true, true, true, true, true, true, true, true, false, false, false, false, false, false] rfl rfl (one_of HT_.out (by kernel_rfl)) (by decide) (fun K hK => ?_)
        refine Kd.R_append_rows_step (Kd.int .u8) (w0 := Wd) Wd.heap.size (by rfl) (.tmp 45) (.tmp 46) 22 5 (.int .u8 0) 1 rfl Try.underlying22 infoB rfl (by decide) (by decide) _ [] b _ _ _ (fun _ => True) (fun _ => False) rfl rfl HL4.out HC4.out (fun x cs h => h) (fun k h => h.elim) (fun _ _ => trivial) HB4.out HB4.out.size (by simp; omega) ?_
        intro v5 w5 ho_ hb_ hg_ hat_
        rw [List.nil_append] at ho_
        obtain ⟨A5, c5, rfl⟩ := Kd.R_slice ho_
        have BK5 := Aside0.mk (blk_below BK.out hb_)
        have HL5 := Aside0.mk ho_
        have HB5 := Aside0.mk hb_
        clear ho_ hb_ hg_ hat_ HL4 HB4 HC4 BK4
        refine hK.out _ _ ((blk_cell BK5.out 1).trans rfl) (fun hHeld => ?_)
        clear hK K
        refine norm_ (a' := ?_) ?_ ?_
        rotate_left
        · show Act.put _ (some 47) _ = _
          simp only [Act.put, List.setIfInBounds_toArray, List.set_cons_zero, List.set_cons_succ, i64_w, i32_w]
          rfl
        refine pure_ (i := 9) (N := (some 48)) (v := ?_) (a' := ?_) #[true, true, true, true, true, true, true, true, true, true, false, false, false, false, false] rfl rfl (any_of HT_.out (by kernel_rfl)) (fun _ _ _ h => h) (Or.inl ⟨by rfl, ?_⟩) ?_ ?_
        rotate_left
        · intro w'
          go_simp
          with_reducible rfl
        rotate_left
        · simp only [Act.put, List.setIfInBounds_toArray, List.set_cons_zero, List.set_cons_succ, i64_w, i32_w]
          rfl
        refine one_ (i := 10) (N := (some 49)) #[true, true, true, true, true, true, true, true, true, true, true, false, false, false, false] rfl rfl (one_of HT_.out (by kernel_rfl)) (by decide) (fun K hK => ?_)
        refine Kd.R_lit_step k60 (w0 := w5) 0 73 (by rfl) (N := 49) rfl (xs := [(dest, b)]) (inner := [.int .i64 dest, .slice A5 b.length c5]) (ok := fun k => Wd.heap.size ≤ k) (okp := fun k => Wd.heap.size ≤ k) ?hr ?hp (fun _ hk => hk) ?hf (Below.refl _ _) (Nat.zero_le _) (by simp) ?_
        case hr => first | (go_simp; done) | (go_simp; rfl)
        case hp => exact (Reps.snoc (Reps.none _ 2) (k60_mkM (x := (dest, b)) (Kd.R_lower (Kd.R_mono (Kd.R_bound HL5.out) (fun k h => h.2.1)) (Nat.zero_le _))) rfl)
        case hf => exact HB5.out.size
        intro v6 w6 HO6 _ hg6 _
        have hb6 : Below w5.heap.size w5 w6 := ⟨hg6.os, hg6.tape, hg6.output, hg6.size, fun k hk => hg6.block k hk (by simp)⟩
        have HB6 := Aside0.mk (below_step HB5.out hb6)
        have HX6 := OwnRow.reads HO6.2
        obtain ⟨A6, c6, rfl, _, hx6⟩ := HX6
        have HX := Aside0.mk (hx6.imp_ (Below.refl _ _) (fun p c h => k60.M_mono (fun k hk => hk.1) h))
        have BK6 := Aside0.mk (blk_below BK.out HB6.out)
        clear HL5 HB5 BK5 HO6 hg6 hb6 hx6
        refine hK.out _ _ ((blk_cell BK6.out 1).trans rfl) (fun hHeld => ?_)
        clear hK K
        refine norm_ (a' := ?_) ?_ ?_
        rotate_left
        · show Act.put _ (some 49) _ = _
          simp only [Act.put, List.setIfInBounds_toArray, List.set_cons_zero, List.set_cons_succ, i64_w, i32_w]
          rfl
        refine one_ (i := 11) (N := (some 50)) #[true, true, true, true, true, true, true, true, true, true, true, true, false, false, false] rfl rfl (one_of HT_.out (by kernel_rfl)) (by decide) (fun K hK => ?_)
        obtain ⟨k2, k3, k4, k5, k6, k7⟩ := KI.out
        refine Kd.R_append_rows_step k60 (Rr := k60.M w6 0 (fun k => Wd.heap.size ≤ k)) (w0 := w6) 0 (by rfl) (.tmp 43) (.tmp 49) 43 73 (.agg #[.int .i64 0, .slice none 0 0]) 32 rfl Try.underlying43 infoR rfl (by decide) (by decide) _ la [(dest, b)] A6 _ c6 (fun k => FL1 k ∨ Wd.heap.size ≤ k) (fun k => Wd.heap.size ≤ k) rfl rfl (Kd.R_mono (Kd.R_below k3 HB6.out) (fun _ h => .inl h)) HX.out (fun _ _ h => h) (fun k hk => ⟨.inr hk, fun e => by have := k7 k (k5 k (k3.1 k e.symm)).1; omega⟩) (fun k hk => .inr (Nat.le_trans HB6.out.size hk)) (Below.refl _ _) (Nat.zero_le _) hla ?_
        intro v7 w7 ho7 _ hg7 _
        have BK7 := Aside0.mk (blk_grown BK6.out hg7 (Kd.R_ne k3 BK.out (by decide)))
        obtain ⟨A7, c7, rfl⟩ := Kd.R_slice ho7
        have HO7 := Aside0.mk ho7
        have hf7 := (Fr.of_below (F := fun k => k = g ∨ some k = (Value.slice Av la.length cv).ownBlock) HB6.out).trans (Fr.of_grown (F := fun k => k = g ∨ some k = (Value.slice Av la.length cv).ownBlock) hg7 (fun q hq => .inr hq)) (fun q hq => .inl hq)
        have HF7 := Aside0.mk hf7
        have z7 : w7.cell? ⟨g, 1, none⟩ = some (.slice Av la.length cv) := (blk_cell BK7.out 1).trans rfl
        have f7 := blk_frozen BK7.out 1
        clear ho7 hg7 hf7 HX BK6 HB6 k2 k3 k4 k5 k6 k7
        refine hK.out _ _ ((blk_cell BK7.out 1).trans rfl) (fun hHeld => ?_)
        clear hK K
        refine norm_ (a' := ?_) ?_ ?_
        rotate_left
        · show Act.put _ (some 50) _ = _
          simp only [Act.put, List.setIfInBounds_toArray, List.set_cons_zero, List.set_cons_succ, i64_w, i32_w]
          rfl
        refine pure_ (i := 12) (N := (some 51)) (v := ?_) (a' := ?_) #[true, true, true, true, true, true, true, true, true, true, true, true, true, false, false] rfl rfl (any_of HT_.out (by kernel_rfl)) (fun _ _ _ h => h) (Or.inl ⟨by rfl, ?_⟩) ?_ ?_
        rotate_left
        · intro w'
          go_simp
          with_reducible rfl
        rotate_left
        · simp only [Act.put, List.setIfInBounds_toArray, List.set_cons_zero, List.set_cons_succ, i64_w, i32_w]
          rfl
        refine pure_ (i := 13) (N := (some 52)) (v := ?_) (a' := ?_) #[true, true, true, true, true, true, true, true, true, true, true, true, true, true, false] rfl rfl (any_of HT_.out (by kernel_rfl)) (fun _ _ _ h => h) (Or.inl ⟨by rfl, ?_⟩) ?_ ?_
        rotate_left
        · intro w'
          go_simp
          with_reducible rfl
        rotate_left
        · simp only [Act.put, List.setIfInBounds_toArray, List.set_cons_zero, List.set_cons_succ, i64_w, i32_w]
          rfl
        refine last_ (i := 14) (N := none) #[true, true, true, true, true, true, true, true, true, true, true, true, true, true, true] rfl rfl (one_of HT_.out (by kernel_rfl)) (by decide) (fun K hK => ?_)
        refine skip_ (w1 := ?_) (by rfl) rfl ?_ ?_
        rotate_left
        · go_simp
          rfl
        refine hK.out _ _ ?_
        clear hK K
        refine done_ (done_of HT_.out (by kernel_rfl)) ?_
        clear hHeld HT_ HW_ z7 f7
        obtain ⟨k1, k2, k3, k4, k5, k6, k7⟩ := show 0 ≤ c1 ∧ _ from ⟨hc1, KI.out⟩
        have K8 := Aside0.mk (RI.late_step (W' := w7.setCell ⟨g, 1, none⟩ (.slice A7 (la.length + 1) c7)) (la' := la ++ [(dest, b)]) (vm' := .slice A7 (la.length + 1) c7) k1 k2 k3 k4 k5 k6 k7 (blk_put BK7.out 1 _ rfl) (Kd.R_set (by have h := HO7.out; rwa [List.length_append] at h) BK7.out (by decide) 1 _) (HF7.out.trans (Fr.set (F := fun k => k = g) _ g 1 _ rfl) (fun q hq => .inl (.inl hq))))
        clear BK7 HO7 HF7 k2 k3 k4 k5 k6 k7
        go_wp2_with fail
        go_ret2
        exact SendR.mk3 ⟨rfl, _, K8.out.1, fun k hk => hk.elim .inl (fun h => .inr (Nat.le_trans HF.out.size h.1)), HF.out.trans K8.out.2 (fun q hq => .inl hq)⟩
      · clear HB1 BK1
        go_enter Try.func26, Try.ntmps26
        go_wp2_with fail
        go_ret2
        exact SendR.mk K.out (by decide) rfl

    · have HS := Aside0.mk (show SC FW W (some ⟨a0.block, a0.off + 1, none⟩) lu from by have h := HT.out; rw [if_neg hc1] at h; simpa [Addr.add] using h)
      clear HT
      have K := Aside0.mk (RI.cut_step (W' := W.setCell ⟨g, 0, none⟩ (.slice (some ⟨a0.block, a0.off + 1, none⟩) lu.length (c0 - 1))) (lu' := lu) (c' := c0 - 1) (A' := some ⟨a0.block, a0.off + 1, none⟩) H.out.2.2.1 H.out.2.2.2.1 H.out.2.2.2.2.1 H.out.2.2.2.2.2.1 H.out.2.2.2.2.2.2 (by omega) (blk_put H.out.1 0 _ rfl) HS.out (Fr.set (F := fun k => k = g) W g 0 _ rfl))
      have HB1 := Aside0.mk (HC.out _ K.out.2)
      have BK1 := Aside0.mk (blk_put H.out.1 0 (.slice (some ⟨a0.block, a0.off + 1, none⟩) lu.length (c0 - 1)) rfl)
      clear H HS HC
      generalize hW1 : W.setCell ⟨g, 0, none⟩ (.slice (some ⟨a0.block, a0.off + 1, none⟩) lu.length (c0 - 1)) = W1 at K HB1 BK1
      have HRC := rest_cases (hd0 (x :: lu))
      generalize hrr : restF (hd0 (x :: lu)) = r at HRC ⊢
      have hr2 : (wrap64 (x.tmod 5 + 5)).tmod 5 = r := hrr
      have EW := Aside0.mk hW1
      clear hrr
      rcases HRC with rfl | rfl | rfl | rfl | rfl
      · clear HB1 BK1
        go_enter Try.func26, Try.ntmps26
        go_wp2_with fail
        go_ret2
        exact SendR.mk K.out (by decide) rfl
      · clear HB1 BK1
        go_enter Try.func26, Try.ntmps26
        go_wp2_with fail
        go_ret2
        exact SendR.mk K.out (by decide) rfl
      · clear HB1 BK1
        go_enter Try.func26, Try.ntmps26
        go_wp2_with fail
        go_ret2
        exact SendR.mk K.out (by decide) rfl
      · obtain ⟨⟨FW1, FL1, A1, c1, vm1, hc1, g1, g2, g3, g4, g5⟩, go, glt⟩ := K.out.1
        have HF0 := Aside0.mk K.out.2
        obtain ⟨Av, cv, rfl⟩ := Kd.R_slice g3
        have z1 : W1.cell? ⟨g, 1, none⟩ = some (.slice Av la.length cv) := (blk_cell g1 1).trans rfl
        have BK0 := Aside0.mk g1
        have KI0 := Aside0.mk (And.intro g2 (And.intro g3 (And.intro g4 (And.intro g5 (And.intro go glt)))))
        clear g1 g2 g3 g4 g5 go glt K BK1
        go_enter Try.func26, Try.ntmps26
        go_wp2_with fail
        clear z1 z0 f0 hx hr2 EW hW1
        have KI := Aside0.mk (And.intro (KI0.out.1.fr (G := fun _ => False) (Fr.of_below (below_drew (Below.refl _ _))) (fun k hk => KI0.out.2.2.2.2.2 k (KI0.out.2.2.1 k hk).1) (fun _ _ => id)) (And.intro (Kd.R_drew KI0.out.2.1) (And.intro KI0.out.2.2.1 (And.intro KI0.out.2.2.2.1 (And.intro KI0.out.2.2.2.2.1 (fun k (hk : F k) => show k < W1.drew.heap.size from Nat.lt_of_lt_of_le (KI0.out.2.2.2.2.2 k hk) (below_drew (Below.refl 0 W1)).size))))))
        have BK := Aside0.mk (blk_drew BK0.out)
        have HB := Aside0.mk (Kd.C_below HB1.out (below_drew (Below.refl _ _)))
        have HF := Aside0.mk (HF0.out.trans (Fr.of_below (F := fun _ => False) (below_drew (Below.refl _ W1))) (fun _ h => h.elim))
        clear KI0 BK0 HB1 HF0
        refine start_ (n := 15) (S := fun w' => w'.cell? ⟨g, 1, none⟩ = some (.slice Av la.length cv)) (ds := [14]) #[false, false, false, false, false, false, false, false, false, false, false, false, false, false, false] (by kernel_rfl) rfl rfl ((blk_cell BK.out 1).trans rfl) (fun hHeld => ?_); refine with_tabW tabRS bitsRS (fun HT_ HW_ => ?_)
        generalize hwd : W1.drew = Wd at KI BK HB HF hHeld ⊢
        clear hwd
        refine pure_ (i := 0) (N := (some 39)) (v := ?_) (a' := ?_) #[true, false, false, false, false, false, false, false, false, false, false, false, false, false, false] rfl rfl (any_of HT_.out (by kernel_rfl)) (fun _ _ _ h => h) (Or.inl ⟨by rfl, ?_⟩) ?_ ?_
        rotate_left
        · intro w'
          go_simp
          with_reducible rfl
        rotate_left
        · simp only [Act.put, List.setIfInBounds_toArray, List.set_cons_zero, List.set_cons_succ, i64_w, i32_w]
          rfl
        refine pure_ (i := 1) (N := (some 40)) (v := ?_) (a' := ?_) #[true, true, false, false, false, false, false, false, false, false, false, false, false, false, false] rfl rfl (any_of HT_.out (by kernel_rfl)) (fun _ _ _ h => h) (Or.inl ⟨by rfl, ?_⟩) ?_ ?_
        rotate_left
        · intro w'
          go_simp
          with_reducible rfl
        rotate_left
        · simp only [Act.put, List.setIfInBounds_toArray, List.set_cons_zero, List.set_cons_succ, i64_w, i32_w]
          rfl
        refine pure_ (i := 2) (N := (some 41)) (v := ?_) (a' := ?_) #[true, true, true, false, false, false, false, false, false, false, false, false, false, false, false] rfl rfl (any_of HT_.out (by kernel_rfl)) (fun _ _ _ h => h) (Or.inl ⟨by rfl, ?_⟩) ?_ ?_
        rotate_left
        · intro w'
          go_simp
          with_reducible rfl
        rotate_left
        · simp only [Act.put, List.setIfInBounds_toArray, List.set_cons_zero, List.set_cons_succ, i64_w, i32_w]
          rfl
        refine pure_ (i := 3) (N := (some 42)) (v := ?_) (a' := ?_) #[true, true, true, true, false, false, false, false, false, false, false, false, false, false, false] rfl rfl (any_of HT_.out (by kernel_rfl)) (fun _ _ _ h => h) (Or.inl ⟨by rfl, ?_⟩) ?_ ?_
        rotate_left
        · intro w'
          go_simp
          with_reducible rfl
        rotate_left
        · simp only [Act.put, List.setIfInBounds_toArray, List.set_cons_zero, List.set_cons_succ, i64_w, i32_w]
          rfl
        refine take_ (i := 4) (N := (some 43)) (v := ?_) (a' := ?_) #[true, true, true, true, true, false, false, false, false, false, false, false, false, false, false] rfl rfl (take_ofW HT_.out HW_.out (by kernel_rfl)) (fun _ _ _ h => h) (Or.inl ⟨by rfl, ?_⟩) hHeld ?_ ?_
        rotate_left
        · rintro w' s0
          go_simp
          with_reducible rfl
        rotate_left
        · simp only [Act.put, List.setIfInBounds_toArray, List.set_cons_zero, List.set_cons_succ, i64_w, i32_w]
          rfl
        refine pure_ (i := 5) (N := (some 44)) (v := ?_) (a' := ?_) #[true, true, true, true, true, true, false, false, false, false, false, false, false, false, false] rfl rfl (any_of HT_.out (by kernel_rfl)) (fun _ _ _ h => h) (Or.inl ⟨by rfl, ?_⟩) ?_ ?_
        rotate_left
        · intro w'
          go_simp
          with_reducible rfl
        rotate_left
        · simp only [Act.put, List.setIfInBounds_toArray, List.set_cons_zero, List.set_cons_succ, i64_w, i32_w]
          rfl
        refine pure_ (i := 7) (N := (some 46)) (v := ?_) (a' := ?_) #[true, true, true, true, true, true, false, true, false, false, false, false, false, false, false] rfl rfl (any_of HT_.out (by kernel_rfl)) (fun _ _ _ h => h) (Or.inl ⟨by rfl, ?_⟩) ?_ ?_
        rotate_left
        · intro w'
          go_simp
          with_reducible rfl
        rotate_left
        · simp only [Act.put, List.setIfInBounds_toArray, List.set_cons_zero, List.set_cons_succ, i64_w, i32_w]
          rfl
        refine one_ (i := 6) (N := (some 45)) #[true, true, true, true, true, true, true, true, false, false, false, false, false, false, false] rfl rfl (one_of HT_.out (by kernel_rfl)) (by decide) (fun K hK => ?_)
        refine Kd.R_lit_step (Kd.int .u8) (w0 := Wd) Wd.heap.size 5 (by rfl) (N := 45) rfl (xs := ([] : List Int)) (inner := []) (ok := fun _ => True) (okp := fun _ => True) ?hr ?hp (fun _ h => h) trivial (Below.refl _ _) (Nat.le_refl _) (by simp) ?_
        case hr => first | (go_simp; done) | (go_simp; rfl)
        case hp => exact Reps.none _ _
        intro vl_ w4 HOl_ hbl_ hgl_ hatl_
        have BK4 := Aside0.mk (blk_below BK.out hbl_)
        have HL4 := Aside0.mk HOl_
        have HB4 := Aside0.mk hbl_
        have HC4 := Aside0.mk (Kd.C_below HB.out hbl_)
        clear HOl_ hbl_ hgl_ hatl_
        refine hK.out _ _ ((blk_cell BK4.out 1).trans rfl) (fun hHeld => ?_)
        clear hK K
        refine norm_ (a' := ?_) ?_ ?_
        rotate_left
        · show Act.put _ (some 45) _ = _
          simp only [Act.put, List.setIfInBounds_toArray, List.set_cons_zero, List.set_cons_succ, i64_w, i32_w]
          rfl
        refine one_ (i := 8) (N := (some 47)) #[true, true, true, true, true, true, true, true, true, false, false, false, false, false, false] rfl rfl (one_of HT_.out (by kernel_rfl)) (by decide) (fun K hK => ?_)
        refine Kd.R_append_rows_step (Kd.int .u8) (w0 := Wd) Wd.heap.size (by rfl) (.tmp 45) (.tmp 46) 22 5 (.int .u8 0) 1 rfl Try.underlying22 infoB rfl (by decide) (by decide) _ [] b _ _ _ (fun _ => True) (fun _ => False) rfl rfl HL4.out HC4.out (fun x cs h => h) (fun k h => h.elim) (fun _ _ => trivial) HB4.out HB4.out.size (by simp; omega) ?_
        intro v5 w5 ho_ hb_ hg_ hat_
        rw [List.nil_append] at ho_
        obtain ⟨A5, c5, rfl⟩ := Kd.R_slice ho_
        have BK5 := Aside0.mk (blk_below BK.out hb_)
        have HL5 := Aside0.mk ho_
        have HB5 := Aside0.mk hb_
        clear ho_ hb_ hg_ hat_ HL4 HB4 HC4 BK4
        refine hK.out _ _ ((blk_cell BK5.out 1).trans rfl) (fun hHeld => ?_)
        clear hK K
        refine norm_ (a' := ?_) ?_ ?_
        rotate_left
        · show Act.put _ (some 47) _ = _
          simp only [Act.put, List.setIfInBounds_toArray, List.set_cons_zero, List.set_cons_succ, i64_w, i32_w]
          rfl
        refine pure_ (i := 9) (N := (some 48)) (v := ?_) (a' := ?_) #[true, true, true, true, true, true, true, true, true, true, false, false, false, false, false] rfl rfl (any_of HT_.out (by kernel_rfl)) (fun _ _ _ h => h) (Or.inl ⟨by rfl, ?_⟩) ?_ ?_
        rotate_left
        · intro w'
          go_simp
          with_reducible rfl
        rotate_left
        · simp only [Act.put, List.setIfInBounds_toArray, List.set_cons_zero, List.set_cons_succ, i64_w, i32_w]
          rfl
        refine one_ (i := 10) (N := (some 49)) #[true, true, true, true, true, true, true, true, true, true, true, false, false, false, false] rfl rfl (one_of HT_.out (by kernel_rfl)) (by decide) (fun K hK => ?_)
        refine Kd.R_lit_step k60 (w0 := w5) 0 73 (by rfl) (N := 49) rfl (xs := [(dest, b)]) (inner := [.int .i64 dest, .slice A5 b.length c5]) (ok := fun k => Wd.heap.size ≤ k) (okp := fun k => Wd.heap.size ≤ k) ?hr ?hp (fun _ hk => hk) ?hf (Below.refl _ _) (Nat.zero_le _) (by simp) ?_
        case hr => first | (go_simp; done) | (go_simp; rfl)
        case hp => exact (Reps.snoc (Reps.none _ 2) (k60_mkM (x := (dest, b)) (Kd.R_lower (Kd.R_mono (Kd.R_bound HL5.out) (fun k h => h.2.1)) (Nat.zero_le _))) rfl)
        case hf => exact HB5.out.size
        intro v6 w6 HO6 _ hg6 _
        have hb6 : Below w5.heap.size w5 w6 := ⟨hg6.os, hg6.tape, hg6.output, hg6.size, fun k hk => hg6.block k hk (by simp)⟩
        have HB6 := Aside0.mk (below_step HB5.out hb6)
        have HX6 := OwnRow.reads HO6.2
        obtain ⟨A6, c6, rfl, _, hx6⟩ := HX6
        have HX := Aside0.mk (hx6.imp_ (Below.refl _ _) (fun p c h => k60.M_mono (fun k hk => hk.1) h))
        have BK6 := Aside0.mk (blk_below BK.out HB6.out)
        clear HL5 HB5 BK5 HO6 hg6 hb6 hx6
        refine hK.out _ _ ((blk_cell BK6.out 1).trans rfl) (fun hHeld => ?_)
        clear hK K
        refine norm_ (a' := ?_) ?_ ?_
        rotate_left
        · show Act.put _ (some 49) _ = _
          simp only [Act.put, List.setIfInBounds_toArray, List.set_cons_zero, List.set_cons_succ, i64_w, i32_w]
          rfl
        refine one_ (i := 11) (N := (some 50)) #[true, true, true, true, true, true, true, true, true, true, true, true, false, false, false] rfl rfl (one_of HT_.out (by kernel_rfl)) (by decide) (fun K hK => ?_)
        obtain ⟨k2, k3, k4, k5, k6, k7⟩ := KI.out
        refine Kd.R_append_rows_step k60 (Rr := k60.M w6 0 (fun k => Wd.heap.size ≤ k)) (w0 := w6) 0 (by rfl) (.tmp 43) (.tmp 49) 43 73 (.agg #[.int .i64 0, .slice none 0 0]) 32 rfl Try.underlying43 infoR rfl (by decide) (by decide) _ la [(dest, b)] A6 _ c6 (fun k => FL1 k ∨ Wd.heap.size ≤ k) (fun k => Wd.heap.size ≤ k) rfl rfl (Kd.R_mono (Kd.R_below k3 HB6.out) (fun _ h => .inl h)) HX.out (fun _ _ h => h) (fun k hk => ⟨.inr hk, fun e => by have := k7 k (k5 k (k3.1 k e.symm)).1; omega⟩) (fun k hk => .inr (Nat.le_trans HB6.out.size hk)) (Below.refl _ _) (Nat.zero_le _) hla ?_
        intro v7 w7 ho7 _ hg7 _
        have BK7 := Aside0.mk (blk_grown BK6.out hg7 (Kd.R_ne k3 BK.out (by decide)))
        obtain ⟨A7, c7, rfl⟩ := Kd.R_slice ho7
        have HO7 := Aside0.mk ho7
        have hf7 := (Fr.of_below (F := fun k => k = g ∨ some k = (Value.slice Av la.length cv).ownBlock) HB6.out).trans (Fr.of_grown (F := fun k => k = g ∨ some k = (Value.slice Av la.length cv).ownBlock) hg7 (fun q hq => .inr hq)) (fun q hq => .inl hq)
        have HF7 := Aside0.mk hf7
        have z7 : w7.cell? ⟨g, 1, none⟩ = some (.slice Av la.length cv) := (blk_cell BK7.out 1).trans rfl
        have f7 := blk_frozen BK7.out 1
        clear ho7 hg7 hf7 HX BK6 HB6 k2 k3 k4 k5 k6 k7
        refine hK.out _ _ ((blk_cell BK7.out 1).trans rfl) (fun hHeld => ?_)
        clear hK K
        refine norm_ (a' := ?_) ?_ ?_
        rotate_left
        · show Act.put _ (some 50) _ = _
          simp only [Act.put, List.setIfInBounds_toArray, List.set_cons_zero, List.set_cons_succ, i64_w, i32_w]
          rfl
        refine pure_ (i := 12) (N := (some 51)) (v := ?_) (a' := ?_) #[true, true, true, true, true, true, true, true, true, true, true, true, true, false, false] rfl rfl (any_of HT_.out (by kernel_rfl)) (fun _ _ _ h => h) (Or.inl ⟨by rfl, ?_⟩) ?_ ?_
        rotate_left
        · intro w'
          go_simp
          with_reducible rfl
        rotate_left
        · simp only [Act.put, List.setIfInBounds_toArray, List.set_cons_zero, List.set_cons_succ, i64_w, i32_w]
          rfl
        refine pure_ (i := 13) (N := (some 52)) (v := ?_) (a' := ?_) #[true, true, true, true, true, true, true, true, true, true, true, true, true, true, false] rfl rfl (any_of HT_.out (by kernel_rfl)) (fun _ _ _ h => h) (Or.inl ⟨by rfl, ?_⟩) ?_ ?_
        rotate_left
        · intro w'
          go_simp
          with_reducible rfl
        rotate_left
        · simp only [Act.put, List.setIfInBounds_toArray, List.set_cons_zero, List.set_cons_succ, i64_w, i32_w]
          rfl
        refine last_ (i := 14) (N := none) #[true, true, true, true, true, true, true, true, true, true, true, true, true, true, true] rfl rfl (one_of HT_.out (by kernel_rfl)) (by decide) (fun K hK => ?_)
        refine skip_ (w1 := ?_) (by rfl) rfl ?_ ?_
        rotate_left
        · go_simp
          rfl
        refine hK.out _ _ ?_
        clear hK K
        refine done_ (done_of HT_.out (by kernel_rfl)) ?_
        clear hHeld HT_ HW_ z7 f7
        obtain ⟨k1, k2, k3, k4, k5, k6, k7⟩ := show lu.length ≤ c1 ∧ _ from ⟨hc1, KI.out⟩
        have K8 := Aside0.mk (RI.late_step (W' := w7.setCell ⟨g, 1, none⟩ (.slice A7 (la.length + 1) c7)) (la' := la ++ [(dest, b)]) (vm' := .slice A7 (la.length + 1) c7) k1 k2 k3 k4 k5 k6 k7 (blk_put BK7.out 1 _ rfl) (Kd.R_set (by have h := HO7.out; rwa [List.length_append] at h) BK7.out (by decide) 1 _) (HF7.out.trans (Fr.set (F := fun k => k = g) _ g 1 _ rfl) (fun q hq => .inl (.inl hq))))
        clear BK7 HO7 HF7 k2 k3 k4 k5 k6 k7
        go_wp2_with fail
        go_ret2
        exact SendR.mk3 ⟨rfl, _, K8.out.1, fun k hk => hk.elim .inl (fun h => .inr (Nat.le_trans HF.out.size h.1)), HF.out.trans K8.out.2 (fun q hq => .inl hq)⟩
      · clear HB1 BK1
        go_enter Try.func26, Try.ntmps26
        go_wp2_with fail
        go_ret2
        exact SendR.mk K.out (by decide) rfl

end Go.Proofs.Ytckeahjlfopaaaa.Hand
