-- Written by a program of this session (hprint.py, over the kit's print.py). Not trusted: Lean checks it.
import Derived.Test.YtpcoelimabojcaaR0x0
import Derived.Test.YtpcoelimabojcaaR0x1
namespace Go.Proofs.Ytpcoelimabojcaa.R0
open Go.RowKit Go.Proofs.YtpcoelimabojcaaW.PrintWords Go.Proofs.YtpcoelimabojcaaW.PrintLast Go.Proofs.YtpcoelimabojcaaW.PrintMore
attribute [local go_sem] max2_int min2_int max_two min_two max_three min_three max_four min_four   -- for this text's walks alone
set_option linter.unusedVariables false
set_option linter.unusedSimpArgs false

/-! ### gazetteref10_Check: function 30 -/
mutual
def gazetteref10_Check.j0 : Nat → Int → Int → Bool → Int → Int → List (S68) → Option (Int)
  | 0, _, _, _, _, _, _ => none
  | k + 1, x1, x5, x38, x107000, x107001, x107002 => if x38 = true then (some 1) else (gazetteref10_Check.l0 k x1 x5 0 x107000 x107001 x107002)
def gazetteref10_Check.l0 : Nat → Int → Int → Int → Int → Int → List (S68) → Option (Int)
  | 0, _, _, _, _, _, _ => none
  | k + 1, x1, x5, x6, x107000, x107001, x107002 => if x6 < x5 then (if 0 ≤ x6 then (if x6 < (x107002.length : Int) then ((gazetteref10_in.f ((rd_T68 x107002 x6).f0)).bind fun t114 => (if t114 = true then ((gazetteref07_Check.f k ((rd_T68 x107002 x6).f1.f0) ((rd_T68 x107002 x6).f1.f1) x1).bind fun t115 => (gazetteref10_Check.j2 k x1 x5 x6 (t115 != 0) x107000 x107001 x107002 ((rd_T68 x107002 x6).f0) ((rd_T68 x107002 x6).f1.f0) ((rd_T68 x107002 x6).f1.f1))) else (gazetteref10_Check.j2 k x1 x5 x6 true x107000 x107001 x107002 ((rd_T68 x107002 x6).f0) ((rd_T68 x107002 x6).f1.f0) ((rd_T68 x107002 x6).f1.f1)))) else (none)) else (none)) else (if x5 > 0 then (if 0 < (x107002.length : Int) then (if x107001 < ((rd_T68 x107002 0).f0) then (some 1) else (if 0 ≤ (wrap64 (x5 - 1)) then (if (wrap64 (x5 - 1)) < (x107002.length : Int) then (if x107001 > (wrap64 (((rd_T68 x107002 (wrap64 (x5 - 1))).f0) + 4096)) then (some 1) else (if x5 > 1 then (if 1 < (x107002.length : Int) then (if x107001 ≥ ((rd_T68 x107002 1).f0) then (some 1) else (some 0)) else (none)) else (some 0))) else (none)) else (none))) else (none)) else (if x5 > 1 then (if 1 < (x107002.length : Int) then (if x107001 ≥ ((rd_T68 x107002 1).f0) then (some 1) else (some 0)) else (none)) else (some 0)))
def gazetteref10_Check.j2 : Nat → Int → Int → Int → Bool → Int → Int → List (S68) → Int → Int → List Int → Option (Int)
  | 0, _, _, _, _, _, _, _, _, _, _ => none
  | k + 1, x1, x5, x6, x59, x107000, x107001, x107002, x114000, x114001, x114002 => if x59 = true then (some 1) else (if x6 > 0 then (if 0 ≤ (wrap64 (x6 - 1)) then (if (wrap64 (x6 - 1)) < (x107002.length : Int) then (if x114000 < ((rd_T68 x107002 (wrap64 (x6 - 1))).f0) then (gazetteref10_Check.j3 k x1 x5 x6 true x107000 x107001 x107002 x114000 x114001 x114002) else (gazetteref10_Check.j3 k x1 x5 x6 (decide (x114000 > (wrap64 (((rd_T68 x107002 (wrap64 (x6 - 1))).f0) + 4096)))) x107000 x107001 x107002 x114000 x114001 x114002)) else (none)) else (none)) else (gazetteref10_Check.j3 k x1 x5 x6 false x107000 x107001 x107002 x114000 x114001 x114002))
def gazetteref10_Check.j3 : Nat → Int → Int → Int → Bool → Int → Int → List (S68) → Int → Int → List Int → Option (Int)
  | 0, _, _, _, _, _, _, _, _, _, _ => none
  | k + 1, x1, x5, x6, x86, x107000, x107001, x107002, x114000, x114001, x114002 => if x86 = true then (some 1) else (gazetteref10_Check.l1 k x1 x5 x6 0 x107000 x107001 x107002 x114000 x114001 x114002)
def gazetteref10_Check.l1 : Nat → Int → Int → Int → Int → Int → Int → List (S68) → Int → Int → List Int → Option (Int)
  | 0, _, _, _, _, _, _, _, _, _, _ => none
  | k + 1, x1, x5, x6, x8, x107000, x107001, x107002, x114000, x114001, x114002 => if x8 < x6 then (if 0 ≤ x8 then (if x8 < (x107002.length : Int) then (if ((rd_T68 x107002 x8).f1.f0) = x114001 then (some 1) else (gazetteref10_Check.l1 k x1 x5 x6 (wrap64 (x8 + 1)) x107000 x107001 x107002 x114000 x114001 x114002)) else (none)) else (none)) else (gazetteref10_Check.l0 k x1 x5 (wrap64 (x6 + 1)) x107000 x107001 x107002)
end
def gazetteref10_Check.f (k : Nat) (a0_0 : Int) (a0_1 : Int) (l0_2 : List (S68)) (a1 : Int) : Option (Int) := if a0_0 < 0 then (gazetteref10_Check.j0 k a1 (l0_2.length : Int) true a0_0 a0_1 l0_2) else (if a0_0 > 15 then (gazetteref10_Check.j0 k a1 (l0_2.length : Int) true a0_0 a0_1 l0_2) else ((gazetteref10_in.f a0_1).bind fun t107 => (if t107 = true then (if (l0_2.length : Int) > 64 then (gazetteref10_Check.j0 k a1 (l0_2.length : Int) true a0_0 a0_1 l0_2) else (if (l0_2.length : Int) = 0 then (gazetteref10_Check.j0 k a1 (l0_2.length : Int) (a0_1 != 0) a0_0 a0_1 l0_2) else (gazetteref10_Check.j0 k a1 (l0_2.length : Int) false a0_0 a0_1 l0_2))) else (gazetteref10_Check.j0 k a1 (l0_2.length : Int) true a0_0 a0_1 l0_2))))
theorem gazetteref10_Check.mono_l : ∀ k, (∀ y0 y1 y2 y3 y4 y5, LeO (gazetteref10_Check.j0 k y0 y1 y2 y3 y4 y5) (gazetteref10_Check.j0 (k + 1) y0 y1 y2 y3 y4 y5)) ∧ (∀ y0 y1 y2 y3 y4 y5, LeO (gazetteref10_Check.l0 k y0 y1 y2 y3 y4 y5) (gazetteref10_Check.l0 (k + 1) y0 y1 y2 y3 y4 y5)) ∧ (∀ y0 y1 y2 y3 y4 y5 y6 y7 y8 y9, LeO (gazetteref10_Check.j2 k y0 y1 y2 y3 y4 y5 y6 y7 y8 y9) (gazetteref10_Check.j2 (k + 1) y0 y1 y2 y3 y4 y5 y6 y7 y8 y9)) ∧ (∀ y0 y1 y2 y3 y4 y5 y6 y7 y8 y9, LeO (gazetteref10_Check.j3 k y0 y1 y2 y3 y4 y5 y6 y7 y8 y9) (gazetteref10_Check.j3 (k + 1) y0 y1 y2 y3 y4 y5 y6 y7 y8 y9)) ∧ (∀ y0 y1 y2 y3 y4 y5 y6 y7 y8 y9, LeO (gazetteref10_Check.l1 k y0 y1 y2 y3 y4 y5 y6 y7 y8 y9) (gazetteref10_Check.l1 (k + 1) y0 y1 y2 y3 y4 y5 y6 y7 y8 y9))
  | 0 => ⟨fun _ _ _ _ _ _ r h => by simp [gazetteref10_Check.j0] at h, fun _ _ _ _ _ _ r h => by simp [gazetteref10_Check.l0] at h, fun _ _ _ _ _ _ _ _ _ _ r h => by simp [gazetteref10_Check.j2] at h, fun _ _ _ _ _ _ _ _ _ _ r h => by simp [gazetteref10_Check.j3] at h, fun _ _ _ _ _ _ _ _ _ _ r h => by simp [gazetteref10_Check.l1] at h⟩
  | k + 1 => by
    obtain ⟨ih0, ih1, ih2, ih3, ih4⟩ := gazetteref10_Check.mono_l k
    refine ⟨?_, ?_, ?_, ?_, ?_⟩
    · intro y0 y1 y2 y3 y4 y5
      unfold gazetteref10_Check.j0
      repeat' first
      | (with_reducible exact ih0 _ _ _ _ _ _)
      | (with_reducible exact ih1 _ _ _ _ _ _)
      | (with_reducible exact ih2 _ _ _ _ _ _ _ _ _ _)
      | (with_reducible exact ih3 _ _ _ _ _ _ _ _ _ _)
      | (with_reducible exact ih4 _ _ _ _ _ _ _ _ _ _)
      | (with_reducible exact gazetteref07_Check.mono _ _ _ _)
      | (with_reducible exact LeO.refl _)
      | (with_reducible exact LeO.none _)
      | (with_reducible refine LeO.ite ?_ ?_)
      | (with_reducible refine LeO.bind ?_ (fun _ => ?_))
      | exact ih0 _ _ _ _ _ _
      | exact ih1 _ _ _ _ _ _
      | exact ih2 _ _ _ _ _ _ _ _ _ _
      | exact ih3 _ _ _ _ _ _ _ _ _ _
      | exact ih4 _ _ _ _ _ _ _ _ _ _
      | exact gazetteref07_Check.mono _ _ _ _
      | exact LeO.none _
      | refine LeO.ite ?_ ?_
      | refine LeO.bind ?_ (fun _ => ?_)
    · intro y0 y1 y2 y3 y4 y5
      unfold gazetteref10_Check.l0
      repeat' first
      | (with_reducible exact ih0 _ _ _ _ _ _)
      | (with_reducible exact ih1 _ _ _ _ _ _)
      | (with_reducible exact ih2 _ _ _ _ _ _ _ _ _ _)
      | (with_reducible exact ih3 _ _ _ _ _ _ _ _ _ _)
      | (with_reducible exact ih4 _ _ _ _ _ _ _ _ _ _)
      | (with_reducible exact gazetteref07_Check.mono _ _ _ _)
      | (with_reducible exact LeO.refl _)
      | (with_reducible exact LeO.none _)
      | (with_reducible refine LeO.ite ?_ ?_)
      | (with_reducible refine LeO.bind ?_ (fun _ => ?_))
      | exact ih0 _ _ _ _ _ _
      | exact ih1 _ _ _ _ _ _
      | exact ih2 _ _ _ _ _ _ _ _ _ _
      | exact ih3 _ _ _ _ _ _ _ _ _ _
      | exact ih4 _ _ _ _ _ _ _ _ _ _
      | exact gazetteref07_Check.mono _ _ _ _
      | exact LeO.none _
      | refine LeO.ite ?_ ?_
      | refine LeO.bind ?_ (fun _ => ?_)
    · intro y0 y1 y2 y3 y4 y5 y6 y7 y8 y9
      unfold gazetteref10_Check.j2
      repeat' first
      | (with_reducible exact ih0 _ _ _ _ _ _)
      | (with_reducible exact ih1 _ _ _ _ _ _)
      | (with_reducible exact ih2 _ _ _ _ _ _ _ _ _ _)
      | (with_reducible exact ih3 _ _ _ _ _ _ _ _ _ _)
      | (with_reducible exact ih4 _ _ _ _ _ _ _ _ _ _)
      | (with_reducible exact gazetteref07_Check.mono _ _ _ _)
      | (with_reducible exact LeO.refl _)
      | (with_reducible exact LeO.none _)
      | (with_reducible refine LeO.ite ?_ ?_)
      | (with_reducible refine LeO.bind ?_ (fun _ => ?_))
      | exact ih0 _ _ _ _ _ _
      | exact ih1 _ _ _ _ _ _
      | exact ih2 _ _ _ _ _ _ _ _ _ _
      | exact ih3 _ _ _ _ _ _ _ _ _ _
      | exact ih4 _ _ _ _ _ _ _ _ _ _
      | exact gazetteref07_Check.mono _ _ _ _
      | exact LeO.none _
      | refine LeO.ite ?_ ?_
      | refine LeO.bind ?_ (fun _ => ?_)
    · intro y0 y1 y2 y3 y4 y5 y6 y7 y8 y9
      unfold gazetteref10_Check.j3
      repeat' first
      | (with_reducible exact ih0 _ _ _ _ _ _)
      | (with_reducible exact ih1 _ _ _ _ _ _)
      | (with_reducible exact ih2 _ _ _ _ _ _ _ _ _ _)
      | (with_reducible exact ih3 _ _ _ _ _ _ _ _ _ _)
      | (with_reducible exact ih4 _ _ _ _ _ _ _ _ _ _)
      | (with_reducible exact gazetteref07_Check.mono _ _ _ _)
      | (with_reducible exact LeO.refl _)
      | (with_reducible exact LeO.none _)
      | (with_reducible refine LeO.ite ?_ ?_)
      | (with_reducible refine LeO.bind ?_ (fun _ => ?_))
      | exact ih0 _ _ _ _ _ _
      | exact ih1 _ _ _ _ _ _
      | exact ih2 _ _ _ _ _ _ _ _ _ _
      | exact ih3 _ _ _ _ _ _ _ _ _ _
      | exact ih4 _ _ _ _ _ _ _ _ _ _
      | exact gazetteref07_Check.mono _ _ _ _
      | exact LeO.none _
      | refine LeO.ite ?_ ?_
      | refine LeO.bind ?_ (fun _ => ?_)
    · intro y0 y1 y2 y3 y4 y5 y6 y7 y8 y9
      unfold gazetteref10_Check.l1
      repeat' first
      | (with_reducible exact ih0 _ _ _ _ _ _)
      | (with_reducible exact ih1 _ _ _ _ _ _)
      | (with_reducible exact ih2 _ _ _ _ _ _ _ _ _ _)
      | (with_reducible exact ih3 _ _ _ _ _ _ _ _ _ _)
      | (with_reducible exact ih4 _ _ _ _ _ _ _ _ _ _)
      | (with_reducible exact gazetteref07_Check.mono _ _ _ _)
      | (with_reducible exact LeO.refl _)
      | (with_reducible exact LeO.none _)
      | (with_reducible refine LeO.ite ?_ ?_)
      | (with_reducible refine LeO.bind ?_ (fun _ => ?_))
      | exact ih0 _ _ _ _ _ _
      | exact ih1 _ _ _ _ _ _
      | exact ih2 _ _ _ _ _ _ _ _ _ _
      | exact ih3 _ _ _ _ _ _ _ _ _ _
      | exact ih4 _ _ _ _ _ _ _ _ _ _
      | exact gazetteref07_Check.mono _ _ _ _
      | exact LeO.none _
      | refine LeO.ite ?_ ?_
      | refine LeO.bind ?_ (fun _ => ?_)
theorem gazetteref10_Check.mono : ∀ a0 a1 a2 a3 k, LeO (gazetteref10_Check.f k a0 a1 a2 a3) (gazetteref10_Check.f (k + 1) a0 a1 a2 a3) := by
  intro a0 a1 a2 a3 k
  obtain ⟨ih0, ih1, ih2, ih3, ih4⟩ := gazetteref10_Check.mono_l k
  unfold gazetteref10_Check.f
  repeat' first
      | (with_reducible exact ih0 _ _ _ _ _ _)
      | (with_reducible exact ih1 _ _ _ _ _ _)
      | (with_reducible exact ih2 _ _ _ _ _ _ _ _ _ _)
      | (with_reducible exact ih3 _ _ _ _ _ _ _ _ _ _)
      | (with_reducible exact ih4 _ _ _ _ _ _ _ _ _ _)
      | (with_reducible exact gazetteref07_Check.mono _ _ _ _)
      | (with_reducible exact LeO.refl _)
      | (with_reducible exact LeO.none _)
      | (with_reducible refine LeO.ite ?_ ?_)
      | (with_reducible refine LeO.bind ?_ (fun _ => ?_))
      | exact ih0 _ _ _ _ _ _
      | exact ih1 _ _ _ _ _ _
      | exact ih2 _ _ _ _ _ _ _ _ _ _
      | exact ih3 _ _ _ _ _ _ _ _ _ _
      | exact ih4 _ _ _ _ _ _ _ _ _ _
      | exact gazetteref07_Check.mono _ _ _ _
      | exact LeO.none _
      | refine LeO.ite ?_ ?_
      | refine LeO.bind ?_ (fun _ => ?_)
set_option maxHeartbeats 8000000 in
set_option maxRecDepth 100000 in
theorem gazetteref10_Check.calls (k : Nat) (a0_0 : Int) (a0_1 : Int) (A0_2 : Option Addr) (c0_2 : Nat) (l0_2 : List (S68)) (a1 : Int) (r : Int) (w : World) (hr0_2 : Kd.C k68 w A0_2 l0_2.length l0_2) (hc0_2 : l0_2.length ≤ c0_2) (h : gazetteref10_Check.f k a0_0 a0_1 l0_2 a1 = some r) :
    Calls Try.prog 30 #[.agg #[.int .i64 a0_0, .int .i64 a0_1, .slice A0_2 l0_2.length c0_2], .int .i64 a1] w fun e w' => e = .returned (.int .i64 r) ∧ Below w.heap.size w w' := by
  have hu24 := Try.underlying24
  have hu68 := Try.underlying68
  have hu45 := Try.underlying45
  have HR0_2 := Aside0.mk hr0_2
  have HC0_2 := Aside0.mk hc0_2
  clear hr0_2 hc0_2
  have HB := Aside0.mk (Below.refl w.heap.size w)
  have H : (if a0_0 < 0 then (gazetteref10_Check.j0 k a1 (l0_2.length : Int) true a0_0 a0_1 l0_2) else (if a0_0 > 15 then (gazetteref10_Check.j0 k a1 (l0_2.length : Int) true a0_0 a0_1 l0_2) else ((gazetteref10_in.f a0_1).bind fun t107 => (if t107 = true then (if (l0_2.length : Int) > 64 then (gazetteref10_Check.j0 k a1 (l0_2.length : Int) true a0_0 a0_1 l0_2) else (if (l0_2.length : Int) = 0 then (gazetteref10_Check.j0 k a1 (l0_2.length : Int) (a0_1 != 0) a0_0 a0_1 l0_2) else (gazetteref10_Check.j0 k a1 (l0_2.length : Int) false a0_0 a0_1 l0_2))) else (gazetteref10_Check.j0 k a1 (l0_2.length : Int) true a0_0 a0_1 l0_2))))) = some r := h
  clear h
  have HC3 := Aside0.mk H
  clear H
  go_enter Try.func30, Try.ntmps30
  go_upto_region 2 with (first | ((with_reducible refine gate_dst (N := 2) rfl ?_); refine box_event ?hg (N := 2) ?hd (cs := #[.int .i64 a0_0, .int .i64 a0_1, .slice A0_2 l0_2.length c0_2]) (t := 24) ?hr ?_; (case hd => rfl); (case hg => rfl); (case hr => first | (go_simp; done) | (go_simp; rfl)); intro gb106 hg w4 hbox hb; have n0_ := Aside0.mk (below_step (by repeat (first | (with_reducible first | exact HB.out | apply below_alloc | apply pw_below_drewN | apply below_drew1) | exact HB.out)) hb); have n1_ := Aside0.mk (hbox); have n2_ := Aside0.mk ((by rw [hg]; exact (below_size (by repeat (first | (with_reducible first | exact HB.out | apply below_alloc | apply pw_below_drewN | apply below_drew1) | exact HB.out))) : w.heap.size ≤ gb106)); have n3_ := Aside0.mk ((by rw [hg]; exact (below_size (by repeat (first | (with_reducible first | exact HB.out | apply below_alloc | apply pw_below_drewN | apply below_drew1) | exact HB.out))) : w.heap.size ≤ gb106)); clear HB; have HB := n0_; have BK106 := n1_; have GW106 := n2_; have GE106 := n3_; clear n0_ n1_ n2_ n3_; clear hb hbox hg; have hcz5_0 : w4.cell? ⟨gb106, 0, none⟩ = some (.int .i64 a0_0) := (blk_cell BK106.out 0).trans rfl; have hcz5_1 : w4.cell? ⟨gb106, 1, none⟩ = some (.int .i64 a0_1) := (blk_cell BK106.out 1).trans rfl; have hcz5_2 : w4.cell? ⟨gb106, 2, none⟩ = some (.slice A0_2 l0_2.length c0_2) := (blk_cell BK106.out 2).trans rfl; have hfz5_0 := blk_frozen BK106.out 0; have hfz5_1 := blk_frozen BK106.out 1; have hfz5_2 := blk_frozen BK106.out 2))
  repeat (go_quiet (first | ((with_reducible refine gate_dst (N := 2) rfl ?_); refine box_event ?hg (N := 2) ?hd (cs := #[.int .i64 a0_0, .int .i64 a0_1, .slice A0_2 l0_2.length c0_2]) (t := 24) ?hr ?_; (case hd => rfl); (case hg => rfl); (case hr => first | (go_simp; done) | (go_simp; rfl)); intro gb106 hg w4 hbox hb; have n0_ := Aside0.mk (below_step (by repeat (first | (with_reducible first | exact HB.out | apply below_alloc | apply pw_below_drewN | apply below_drew1) | exact HB.out)) hb); have n1_ := Aside0.mk (hbox); have n2_ := Aside0.mk ((by rw [hg]; exact (below_size (by repeat (first | (with_reducible first | exact HB.out | apply below_alloc | apply pw_below_drewN | apply below_drew1) | exact HB.out))) : w.heap.size ≤ gb106)); have n3_ := Aside0.mk ((by rw [hg]; exact (below_size (by repeat (first | (with_reducible first | exact HB.out | apply below_alloc | apply pw_below_drewN | apply below_drew1) | exact HB.out))) : w.heap.size ≤ gb106)); clear HB; have HB := n0_; have BK106 := n1_; have GW106 := n2_; have GE106 := n3_; clear n0_ n1_ n2_ n3_; clear hb hbox hg; have hcz5_0 : w4.cell? ⟨gb106, 0, none⟩ = some (.int .i64 a0_0) := (blk_cell BK106.out 0).trans rfl; have hcz5_1 : w4.cell? ⟨gb106, 1, none⟩ = some (.int .i64 a0_1) := (blk_cell BK106.out 1).trans rfl; have hcz5_2 : w4.cell? ⟨gb106, 2, none⟩ = some (.slice A0_2 l0_2.length c0_2) := (blk_cell BK106.out 2).trans rfl; have hfz5_0 := blk_frozen BK106.out 0; have hfz5_1 := blk_frozen BK106.out 1; have hfz5_2 := blk_frozen BK106.out 2)); go_upto_region 2 with (first | ((with_reducible refine gate_dst (N := 2) rfl ?_); refine box_event ?hg (N := 2) ?hd (cs := #[.int .i64 a0_0, .int .i64 a0_1, .slice A0_2 l0_2.length c0_2]) (t := 24) ?hr ?_; (case hd => rfl); (case hg => rfl); (case hr => first | (go_simp; done) | (go_simp; rfl)); intro gb106 hg w4 hbox hb; have n0_ := Aside0.mk (below_step (by repeat (first | (with_reducible first | exact HB.out | apply below_alloc | apply pw_below_drewN | apply below_drew1) | exact HB.out)) hb); have n1_ := Aside0.mk (hbox); have n2_ := Aside0.mk ((by rw [hg]; exact (below_size (by repeat (first | (with_reducible first | exact HB.out | apply below_alloc | apply pw_below_drewN | apply below_drew1) | exact HB.out))) : w.heap.size ≤ gb106)); have n3_ := Aside0.mk ((by rw [hg]; exact (below_size (by repeat (first | (with_reducible first | exact HB.out | apply below_alloc | apply pw_below_drewN | apply below_drew1) | exact HB.out))) : w.heap.size ≤ gb106)); clear HB; have HB := n0_; have BK106 := n1_; have GW106 := n2_; have GE106 := n3_; clear n0_ n1_ n2_ n3_; clear hb hbox hg; have hcz5_0 : w4.cell? ⟨gb106, 0, none⟩ = some (.int .i64 a0_0) := (blk_cell BK106.out 0).trans rfl; have hcz5_1 : w4.cell? ⟨gb106, 1, none⟩ = some (.int .i64 a0_1) := (blk_cell BK106.out 1).trans rfl; have hcz5_2 : w4.cell? ⟨gb106, 2, none⟩ = some (.slice A0_2 l0_2.length c0_2) := (blk_cell BK106.out 2).trans rfl; have hfz5_0 := blk_frozen BK106.out 0; have hfz5_1 := blk_frozen BK106.out 1; have hfz5_2 := blk_frozen BK106.out 2)))
  (try simp only [Act.put, List.setIfInBounds_toArray, List.set_cons_zero, List.set_cons_succ])
  go_cut [38] (fun v38 wc => ∃ (kq : Nat) (x38_2 : Bool), v38 = .bool x38_2 ∧ Aside0 (gazetteref10_Check.j0 kq a1 (l0_2.length : Int) x38_2 a0_0 a0_1 l0_2 = some r) ∧ Aside0 (kq ≤ k) ∧ Aside0 (wc.heap[gb106]? = some (.cells #[.int .i64 a0_0, .int .i64 a0_1, (.slice A0_2 l0_2.length c0_2)] 24 (0, 0))) ∧ Aside0 (Below w.heap.size w wc))
  case first =>
    have H := HC3.out
    clear HC3
    by_cases c6 : a0_0 < 0
    · rw [if_pos c6] at H
      have c6b0 : decide (a0_0 < 0) = true := decide_eq_true c6
      clear c6
      (first | rw [c6b0] | (simp only [i64_w, i32_w]; rw [c6b0]) | skip)
      have H' := Aside0.mk H
      clear H
      have hcz7_0 : w4.cell? ⟨gb106, 0, none⟩ = some (.int .i64 a0_0) := (blk_cell BK106.out 0).trans rfl
      have hcz7_1 : w4.cell? ⟨gb106, 1, none⟩ = some (.int .i64 a0_1) := (blk_cell BK106.out 1).trans rfl
      have hcz7_2 : w4.cell? ⟨gb106, 2, none⟩ = some (.slice A0_2 l0_2.length c0_2) := (blk_cell BK106.out 2).trans rfl
      have hfz7_0 := blk_frozen BK106.out 0
      have hfz7_1 := blk_frozen BK106.out 1
      have hfz7_2 := blk_frozen BK106.out 2
      go_wp2
      repeat (go_quiet (fail); try go_wp2)
      go_meet
      case rel => exact ⟨_, (true), (by first | rfl | (simp; done) | (simp [*]; done)), H', ⟨by first | omega | exact Nat.le_refl _⟩, ⟨by (with_reducible repeat (first | refine blk_drewN ?_ _ | refine blk_drew ?_ | refine blk_alloc ?_ _)); exact BK106.out⟩, ⟨by repeat (first | (with_reducible first | exact HB.out | apply below_alloc | apply pw_below_drewN | apply below_drew1 | refine below_set ?_ GE106.out) | exact HB.out)⟩⟩
    · rw [if_neg c6] at H
      have c6b0 : decide (a0_0 < 0) = false := decide_eq_false c6
      clear c6
      (first | rw [c6b0] | (simp only [i64_w, i32_w]; rw [c6b0]) | skip)
      by_cases c8 : a0_0 > 15
      · rw [if_pos c8] at H
        have c8b0 : decide (15 < a0_0) = true := decide_eq_true c8
        clear c8
        have H' := Aside0.mk H
        clear H
        have hcz9_0 : w4.cell? ⟨gb106, 0, none⟩ = some (.int .i64 a0_0) := (blk_cell BK106.out 0).trans rfl
        have hcz9_1 : w4.cell? ⟨gb106, 1, none⟩ = some (.int .i64 a0_1) := (blk_cell BK106.out 1).trans rfl
        have hcz9_2 : w4.cell? ⟨gb106, 2, none⟩ = some (.slice A0_2 l0_2.length c0_2) := (blk_cell BK106.out 2).trans rfl
        have hfz9_0 := blk_frozen BK106.out 0
        have hfz9_1 := blk_frozen BK106.out 1
        have hfz9_2 := blk_frozen BK106.out 2
        go_wp2
        repeat (go_quiet (fail); try go_wp2)
        go_meet
        case rel => exact ⟨_, (true), (by first | rfl | (simp; done) | (simp [*]; done)), H', ⟨by first | omega | exact Nat.le_refl _⟩, ⟨by (with_reducible repeat (first | refine blk_drewN ?_ _ | refine blk_drew ?_ | refine blk_alloc ?_ _)); exact BK106.out⟩, ⟨by repeat (first | (with_reducible first | exact HB.out | apply below_alloc | apply pw_below_drewN | apply below_drew1 | refine below_set ?_ GE106.out) | exact HB.out)⟩⟩
      · rw [if_neg c8] at H
        have c8b0 : decide (15 < a0_0) = false := decide_eq_false c8
        clear c8
        replace H := Option.bind_eq_some_iff.mp H
        obtain ⟨t107, A100, H⟩ := H
        replace H : (if t107 = true then (if (l0_2.length : Int) > 64 then (gazetteref10_Check.j0 k a1 (l0_2.length : Int) true a0_0 a0_1 l0_2) else (if (l0_2.length : Int) = 0 then (gazetteref10_Check.j0 k a1 (l0_2.length : Int) (a0_1 != 0) a0_0 a0_1 l0_2) else (gazetteref10_Check.j0 k a1 (l0_2.length : Int) false a0_0 a0_1 l0_2))) else (gazetteref10_Check.j0 k a1 (l0_2.length : Int) true a0_0 a0_1 l0_2)) = some r := H
        have A10 := Aside0.mk A100
        clear A100
        by_cases c11 : t107 = true
        · subst c11
          have H1 : (if (l0_2.length : Int) > 64 then (gazetteref10_Check.j0 k a1 (l0_2.length : Int) true a0_0 a0_1 l0_2) else (if (l0_2.length : Int) = 0 then (gazetteref10_Check.j0 k a1 (l0_2.length : Int) (a0_1 != 0) a0_0 a0_1 l0_2) else (gazetteref10_Check.j0 k a1 (l0_2.length : Int) false a0_0 a0_1 l0_2))) = some r := by rw [if_pos rfl] at H; exact H
          clear H
          have H := H1
          clear H1
          by_cases c12 : (l0_2.length : Int) > 64
          · rw [if_pos c12] at H
            have c12b0 : decide (64 < (l0_2.length : Int)) = true := decide_eq_true c12
            have c12b1 : decide (64 < l0_2.length) = true := decide_eq_true (by omega)
            clear c12
            have H' := Aside0.mk H
            clear H
            have hcz13_0 : w4.cell? ⟨gb106, 0, none⟩ = some (.int .i64 a0_0) := (blk_cell BK106.out 0).trans rfl
            have hcz13_1 : w4.cell? ⟨gb106, 1, none⟩ = some (.int .i64 a0_1) := (blk_cell BK106.out 1).trans rfl
            have hcz13_2 : w4.cell? ⟨gb106, 2, none⟩ = some (.slice A0_2 l0_2.length c0_2) := (blk_cell BK106.out 2).trans rfl
            have hfz13_0 := blk_frozen BK106.out 0
            have hfz13_1 := blk_frozen BK106.out 1
            have hfz13_2 := blk_frozen BK106.out 2
            go_wp2_with (first | (go_at_call 47; (with_reducible refine (gazetteref10_in.calls a0_1 true _ A10.out).mono ?_); rintro e w' ⟨rfl, ⟨nd, rfl⟩⟩; (try first | exact ⟨rfl, _, World.drewN_drewN _ _ _⟩ | exact ⟨rfl, _, Eq.trans (World.drewN_drewN _ _ _) (congrArg (World.drewN _) (Nat.add_assoc _ _ _))⟩)))
            repeat (go_quiet (first | (go_at_call 47; (with_reducible refine (gazetteref10_in.calls a0_1 true _ A10.out).mono ?_); rintro e w' ⟨rfl, ⟨nd, rfl⟩⟩; (try first | exact ⟨rfl, _, World.drewN_drewN _ _ _⟩ | exact ⟨rfl, _, Eq.trans (World.drewN_drewN _ _ _) (congrArg (World.drewN _) (Nat.add_assoc _ _ _))⟩))); try go_wp2_with (first | (go_at_call 47; (with_reducible refine (gazetteref10_in.calls a0_1 true _ A10.out).mono ?_); rintro e w' ⟨rfl, ⟨nd, rfl⟩⟩; (try first | exact ⟨rfl, _, World.drewN_drewN _ _ _⟩ | exact ⟨rfl, _, Eq.trans (World.drewN_drewN _ _ _) (congrArg (World.drewN _) (Nat.add_assoc _ _ _))⟩))))
            go_meet
            case rel => exact ⟨_, (true), (by first | rfl | (simp; done) | (simp [*]; done)), H', ⟨by first | omega | exact Nat.le_refl _⟩, ⟨by (with_reducible repeat (first | refine blk_drewN ?_ _ | refine blk_drew ?_ | refine blk_alloc ?_ _)); exact BK106.out⟩, ⟨by repeat (first | (with_reducible first | exact HB.out | apply below_alloc | apply pw_below_drewN | apply below_drew1 | refine below_set ?_ GE106.out) | exact HB.out)⟩⟩
          · rw [if_neg c12] at H
            have c12b0 : decide (64 < (l0_2.length : Int)) = false := decide_eq_false c12
            have c12b1 : decide (64 < l0_2.length) = false := decide_eq_false (by omega)
            clear c12
            by_cases c14 : (l0_2.length : Int) = 0
            · rw [if_pos c14] at H
              have c14b0 : ((l0_2.length : Int) == 0) = true := beq_iff_eq.mpr c14
              have c14b1 : ((l0_2.length : Int) != 0) = false := bne_eq_false_iff_eq.mpr c14
              clear c14
              have H' := Aside0.mk H
              clear H
              have hcz15_0 : w4.cell? ⟨gb106, 0, none⟩ = some (.int .i64 a0_0) := (blk_cell BK106.out 0).trans rfl
              have hcz15_1 : w4.cell? ⟨gb106, 1, none⟩ = some (.int .i64 a0_1) := (blk_cell BK106.out 1).trans rfl
              have hcz15_2 : w4.cell? ⟨gb106, 2, none⟩ = some (.slice A0_2 l0_2.length c0_2) := (blk_cell BK106.out 2).trans rfl
              have hfz15_0 := blk_frozen BK106.out 0
              have hfz15_1 := blk_frozen BK106.out 1
              have hfz15_2 := blk_frozen BK106.out 2
              go_wp2_with (first | (go_at_call 47; (with_reducible refine (gazetteref10_in.calls a0_1 true _ A10.out).mono ?_); rintro e w' ⟨rfl, ⟨nd, rfl⟩⟩; (try first | exact ⟨rfl, _, World.drewN_drewN _ _ _⟩ | exact ⟨rfl, _, Eq.trans (World.drewN_drewN _ _ _) (congrArg (World.drewN _) (Nat.add_assoc _ _ _))⟩)))
              repeat (go_quiet (first | (go_at_call 47; (with_reducible refine (gazetteref10_in.calls a0_1 true _ A10.out).mono ?_); rintro e w' ⟨rfl, ⟨nd, rfl⟩⟩; (try first | exact ⟨rfl, _, World.drewN_drewN _ _ _⟩ | exact ⟨rfl, _, Eq.trans (World.drewN_drewN _ _ _) (congrArg (World.drewN _) (Nat.add_assoc _ _ _))⟩))); try go_wp2_with (first | (go_at_call 47; (with_reducible refine (gazetteref10_in.calls a0_1 true _ A10.out).mono ?_); rintro e w' ⟨rfl, ⟨nd, rfl⟩⟩; (try first | exact ⟨rfl, _, World.drewN_drewN _ _ _⟩ | exact ⟨rfl, _, Eq.trans (World.drewN_drewN _ _ _) (congrArg (World.drewN _) (Nat.add_assoc _ _ _))⟩))))
              go_meet
              case rel => exact ⟨_, ((a0_1 != 0)), (by first | rfl | (simp; done) | (simp [*]; done)), H', ⟨by first | omega | exact Nat.le_refl _⟩, ⟨by (with_reducible repeat (first | refine blk_drewN ?_ _ | refine blk_drew ?_ | refine blk_alloc ?_ _)); exact BK106.out⟩, ⟨by repeat (first | (with_reducible first | exact HB.out | apply below_alloc | apply pw_below_drewN | apply below_drew1 | refine below_set ?_ GE106.out) | exact HB.out)⟩⟩
            · rw [if_neg c14] at H
              have c14b0 : ((l0_2.length : Int) == 0) = false := beq_eq_false_iff_ne.mpr c14
              have c14b1 : ((l0_2.length : Int) != 0) = true := bne_iff_ne.mpr c14
              have c14b2 : ¬ (l0_2 = []) := fun h_ => c14 (by rw [h_]; rfl)
              have H' := Aside0.mk H
              clear H
              have hcz16_0 : w4.cell? ⟨gb106, 0, none⟩ = some (.int .i64 a0_0) := (blk_cell BK106.out 0).trans rfl
              have hcz16_1 : w4.cell? ⟨gb106, 1, none⟩ = some (.int .i64 a0_1) := (blk_cell BK106.out 1).trans rfl
              have hcz16_2 : w4.cell? ⟨gb106, 2, none⟩ = some (.slice A0_2 l0_2.length c0_2) := (blk_cell BK106.out 2).trans rfl
              have hfz16_0 := blk_frozen BK106.out 0
              have hfz16_1 := blk_frozen BK106.out 1
              have hfz16_2 := blk_frozen BK106.out 2
              go_wp2_with (first | (go_at_call 47; (with_reducible refine (gazetteref10_in.calls a0_1 true _ A10.out).mono ?_); rintro e w' ⟨rfl, ⟨nd, rfl⟩⟩; (try first | exact ⟨rfl, _, World.drewN_drewN _ _ _⟩ | exact ⟨rfl, _, Eq.trans (World.drewN_drewN _ _ _) (congrArg (World.drewN _) (Nat.add_assoc _ _ _))⟩)))
              repeat (go_quiet (first | (go_at_call 47; (with_reducible refine (gazetteref10_in.calls a0_1 true _ A10.out).mono ?_); rintro e w' ⟨rfl, ⟨nd, rfl⟩⟩; (try first | exact ⟨rfl, _, World.drewN_drewN _ _ _⟩ | exact ⟨rfl, _, Eq.trans (World.drewN_drewN _ _ _) (congrArg (World.drewN _) (Nat.add_assoc _ _ _))⟩))); try go_wp2_with (first | (go_at_call 47; (with_reducible refine (gazetteref10_in.calls a0_1 true _ A10.out).mono ?_); rintro e w' ⟨rfl, ⟨nd, rfl⟩⟩; (try first | exact ⟨rfl, _, World.drewN_drewN _ _ _⟩ | exact ⟨rfl, _, Eq.trans (World.drewN_drewN _ _ _) (congrArg (World.drewN _) (Nat.add_assoc _ _ _))⟩))))
              go_meet
              case rel => exact ⟨_, (false), (by first | rfl | (simp; done) | (simp [*]; done)), H', ⟨by first | omega | exact Nat.le_refl _⟩, ⟨by (with_reducible repeat (first | refine blk_drewN ?_ _ | refine blk_drew ?_ | refine blk_alloc ?_ _)); exact BK106.out⟩, ⟨by repeat (first | (with_reducible first | exact HB.out | apply below_alloc | apply pw_below_drewN | apply below_drew1 | refine below_set ?_ GE106.out) | exact HB.out)⟩⟩
        · replace c11 := Bool.eq_false_iff.mpr c11
          subst c11
          have H1 : (gazetteref10_Check.j0 k a1 (l0_2.length : Int) true a0_0 a0_1 l0_2) = some r := by rw [if_neg (show ¬ (false = true) by decide)] at H; exact H
          clear H
          have H := H1
          clear H1
          have H' := Aside0.mk H
          clear H
          have hcz17_0 : w4.cell? ⟨gb106, 0, none⟩ = some (.int .i64 a0_0) := (blk_cell BK106.out 0).trans rfl
          have hcz17_1 : w4.cell? ⟨gb106, 1, none⟩ = some (.int .i64 a0_1) := (blk_cell BK106.out 1).trans rfl
          have hcz17_2 : w4.cell? ⟨gb106, 2, none⟩ = some (.slice A0_2 l0_2.length c0_2) := (blk_cell BK106.out 2).trans rfl
          have hfz17_0 := blk_frozen BK106.out 0
          have hfz17_1 := blk_frozen BK106.out 1
          have hfz17_2 := blk_frozen BK106.out 2
          go_wp2_with (first | (go_at_call 47; (with_reducible refine (gazetteref10_in.calls a0_1 false _ A10.out).mono ?_); rintro e w' ⟨rfl, ⟨nd, rfl⟩⟩; (try first | exact ⟨rfl, _, World.drewN_drewN _ _ _⟩ | exact ⟨rfl, _, Eq.trans (World.drewN_drewN _ _ _) (congrArg (World.drewN _) (Nat.add_assoc _ _ _))⟩)))
          repeat (go_quiet (first | (go_at_call 47; (with_reducible refine (gazetteref10_in.calls a0_1 false _ A10.out).mono ?_); rintro e w' ⟨rfl, ⟨nd, rfl⟩⟩; (try first | exact ⟨rfl, _, World.drewN_drewN _ _ _⟩ | exact ⟨rfl, _, Eq.trans (World.drewN_drewN _ _ _) (congrArg (World.drewN _) (Nat.add_assoc _ _ _))⟩))); try go_wp2_with (first | (go_at_call 47; (with_reducible refine (gazetteref10_in.calls a0_1 false _ A10.out).mono ?_); rintro e w' ⟨rfl, ⟨nd, rfl⟩⟩; (try first | exact ⟨rfl, _, World.drewN_drewN _ _ _⟩ | exact ⟨rfl, _, Eq.trans (World.drewN_drewN _ _ _) (congrArg (World.drewN _) (Nat.add_assoc _ _ _))⟩))))
          go_meet
          case rel => exact ⟨_, (true), (by first | rfl | (simp; done) | (simp [*]; done)), H', ⟨by first | omega | exact Nat.le_refl _⟩, ⟨by (with_reducible repeat (first | refine blk_drewN ?_ _ | refine blk_drew ?_ | refine blk_alloc ?_ _)); exact BK106.out⟩, ⟨by repeat (first | (with_reducible first | exact HB.out | apply below_alloc | apply pw_below_drewN | apply below_drew1 | refine below_set ?_ GE106.out) | exact HB.out)⟩⟩
  case rest =>
    clear HC3
    try clear c1
    try clear p2
    try clear c3
    try clear c6
    try clear c6b0
    try clear c8
    try clear c8b0
    try clear c11
    try clear c12
    try clear c12b0
    try clear c12b1
    try clear c14
    try clear c14b0
    try clear c14b1
    try clear c14b2
    try clear hcz13_0
    try clear hcz13_1
    try clear hcz13_2
    try clear hcz15_0
    try clear hcz15_1
    try clear hcz15_2
    try clear hcz16_0
    try clear hcz16_1
    try clear hcz16_2
    try clear hcz17_0
    try clear hcz17_1
    try clear hcz17_2
    try clear hcz5_0
    try clear hcz5_1
    try clear hcz5_2
    try clear hcz7_0
    try clear hcz7_1
    try clear hcz7_2
    try clear hcz9_0
    try clear hcz9_1
    try clear hcz9_2
    try clear hfz13_0
    try clear hfz13_1
    try clear hfz13_2
    try clear hfz15_0
    try clear hfz15_1
    try clear hfz15_2
    try clear hfz16_0
    try clear hfz16_1
    try clear hfz16_2
    try clear hfz17_0
    try clear hfz17_1
    try clear hfz17_2
    try clear hfz5_0
    try clear hfz5_1
    try clear hfz5_2
    try clear hfz7_0
    try clear hfz7_1
    try clear hfz7_2
    try clear hfz9_0
    try clear hfz9_1
    try clear hfz9_2
    obtain ⟨kq, x38_2, rfl, HA, HJ2, BK106, HB⟩ := hcut
    cases kq with
    | zero => exact absurd HA.out (by simp [gazetteref10_Check.j0])
    | succ kj2 =>
      have H := HA.out
      clear HA
      simp only [gazetteref10_Check.j0] at H
      by_cases c18 : x38_2 = true
      · subst c18
        have H1 : (some 1) = some r := by rw [if_pos rfl] at H; exact H
        clear H
        have H := H1
        clear H1
        obtain rfl := Option.some.inj H
        go_wp2
        repeat (go_quiet (fail); try go_wp2)
        go_ret
        exact ⟨by first | rfl | (simp [errW_none, errW_some] <;> rfl) | (simp [*, errW_none, errW_some] <;> rfl), by repeat (first | (with_reducible first | exact HB.out | apply below_alloc | apply pw_below_drewN | apply below_drew1 | refine below_set ?_ GE106.out) | exact HB.out)⟩
      · replace c18 := Bool.eq_false_iff.mpr c18
        subst c18
        have H1 : (gazetteref10_Check.l0 kj2 a1 (l0_2.length : Int) 0 a0_0 a0_1 l0_2) = some r := by rw [if_neg (show ¬ (false = true) by decide)] at H; exact H
        clear H
        have H := H1
        clear H1
        have H' := Aside0.mk H
        clear H
        go_wp2
        repeat (go_quiet (fail); try go_wp2)
        go_loopg [6] kj2 (fun kq v6 w' => ∃ (x6_2 : Int), v6 = .int .i64 x6_2 ∧ Aside0 (gazetteref10_Check.l0 kq a1 (l0_2.length : Int) x6_2 a0_0 a0_1 l0_2 = some r) ∧ Aside0 (kq ≤ kj2) ∧ Aside0 (w'.heap[gb106]? = some (.cells #[.int .i64 a0_0, .int .i64 a0_1, (.slice A0_2 l0_2.length c0_2)] 24 (0, 0))) ∧ Aside0 (Below w.heap.size w w'))
        case atStart => exact ⟨(0), (by first | rfl | (simp; done) | (simp [*]; done)), H', ⟨Nat.le_refl _⟩, ⟨by (with_reducible repeat (first | refine blk_drewN ?_ _ | refine blk_drew ?_ | refine blk_alloc ?_ _)); exact BK106.out⟩, ⟨by repeat (first | (with_reducible first | exact HB.out | apply below_alloc | apply pw_below_drewN | apply below_drew1 | refine below_set ?_ GE106.out) | exact HB.out)⟩⟩
        case round =>
          clear H'
          try clear c1
          try clear p2
          try clear c3
          try clear c6
          try clear c6b0
          try clear c8
          try clear c8b0
          try clear c11
          try clear c12
          try clear c12b0
          try clear c12b1
          try clear c14
          try clear c14b0
          try clear c14b1
          try clear c14b2
          try clear c18
          try clear hcz13_0
          try clear hcz13_1
          try clear hcz13_2
          try clear hcz15_0
          try clear hcz15_1
          try clear hcz15_2
          try clear hcz16_0
          try clear hcz16_1
          try clear hcz16_2
          try clear hcz17_0
          try clear hcz17_1
          try clear hcz17_2
          try clear hcz5_0
          try clear hcz5_1
          try clear hcz5_2
          try clear hcz7_0
          try clear hcz7_1
          try clear hcz7_2
          try clear hcz9_0
          try clear hcz9_1
          try clear hcz9_2
          try clear hfz13_0
          try clear hfz13_1
          try clear hfz13_2
          try clear hfz15_0
          try clear hfz15_1
          try clear hfz15_2
          try clear hfz16_0
          try clear hfz16_1
          try clear hfz16_2
          try clear hfz17_0
          try clear hfz17_1
          try clear hfz17_2
          try clear hfz5_0
          try clear hfz5_1
          try clear hfz5_2
          try clear hfz7_0
          try clear hfz7_1
          try clear hfz7_2
          try clear hfz9_0
          try clear hfz9_1
          try clear hfz9_2
          try clear p2
          obtain ⟨x6_2, rfl, HA, HK2, BK106, HB⟩ := hrel
          cases gk with
          | zero => exact absurd HA.out (by simp [gazetteref10_Check.l0])
          | succ k2 =>
            have H := HA.out
            clear HA
            simp only [gazetteref10_Check.l0] at H
            by_cases c19 : x6_2 < (l0_2.length : Int)
            · rw [if_pos c19] at H
              have c19b0 : decide (x6_2 < (l0_2.length : Int)) = true := decide_eq_true c19
              clear c19
              by_cases c20 : 0 ≤ x6_2
              · rw [if_pos c20] at H
                have c20b0 : decide (0 ≤ x6_2) = true := decide_eq_true c20
                clear c20
                by_cases c21 : x6_2 < (l0_2.length : Int)
                · rw [if_pos c21] at H
                  have c21b0 : decide (x6_2 < (l0_2.length : Int)) = true := decide_eq_true c21
                  clear c21
                  have HC22 := Aside0.mk H
                  clear H
                  have hcz23_0 : wr.cell? ⟨gb106, 0, none⟩ = some (.int .i64 a0_0) := (blk_cell BK106.out 0).trans rfl
                  have hcz23_1 : wr.cell? ⟨gb106, 1, none⟩ = some (.int .i64 a0_1) := (blk_cell BK106.out 1).trans rfl
                  have hcz23_2 : wr.cell? ⟨gb106, 2, none⟩ = some (.slice A0_2 l0_2.length c0_2) := (blk_cell BK106.out 2).trans rfl
                  have hfz23_0 := blk_frozen BK106.out 0
                  have hfz23_1 := blk_frozen BK106.out 1
                  have hfz23_2 := blk_frozen BK106.out 2
                  have p112 : 0 ≤ (x6_2 : Int) := of_decide_eq_true (by first | (with_reducible assumption) | assumption)
                  have q112 : x6_2 < (l0_2.length : Int) := of_decide_eq_true (by first | (with_reducible assumption) | assumption)
                  obtain ⟨ad112, A112_2, c112_2, e112, hx112_0, hx112_1, hx112_2, hl112_2, hi112_2⟩ := at_T68 HR0_2.out x6_2 p112 q112
                  cases e112
                  replace hx112_0 := (HB.out.cell (World.block_lt_of_cell? w _ hx112_0)).trans hx112_0
                  replace hx112_1 := (HB.out.cell (World.block_lt_of_cell? w _ hx112_1)).trans hx112_1
                  replace hx112_2 := (HB.out.cell (World.block_lt_of_cell? w _ hx112_2)).trans hx112_2
                  have HR112_2 := Aside0.mk hi112_2
                  have HC112_2 := Aside0.mk hl112_2
                  clear hi112_2 hl112_2
                  replace p112 := eq_true p112
                  replace q112 := eq_true q112
                  go_upto_region 8 with (first | ((with_reducible refine gate_dst (N := 7) rfl ?_); refine box_event ?hg (N := 7) ?hd (cs := #[.int .i64 0, .int .i64 0, .slice none 0 0]) (t := 68) ?hr ?_; (case hd => rfl); (case hg => rfl); (case hr => first | (go_simp; done) | (go_simp; rfl)); intro gb113 hg w24 hbox hb; have n0_ := Aside0.mk (blk_below (g := gb106) (o := .cells #[.int .i64 a0_0, .int .i64 a0_1, .slice (some ad112) l0_2.length c0_2] 24 (0, 0)) (by (with_reducible repeat (first | refine blk_drewN ?_ _ | refine blk_drew ?_ | refine blk_alloc ?_ _)); exact BK106.out) hb); have n1_ := Aside0.mk (below_step (by repeat (first | (with_reducible first | exact HB.out | apply below_alloc | apply pw_below_drewN | apply below_drew1 | refine below_set ?_ GE106.out) | exact HB.out)) hb); have n2_ := Aside0.mk (hbox); have n3_ := Aside0.mk ((by rw [hg]; exact (below_size (by repeat (first | (with_reducible first | exact HB.out | apply below_alloc | apply pw_below_drewN | apply below_drew1 | refine below_set ?_ GE106.out) | exact HB.out))) : w.heap.size ≤ gb113)); have n4_ := Aside0.mk ((by rw [hg]; exact (below_size (by repeat (first | (with_reducible first | exact HB.out | apply below_alloc | apply pw_below_drewN | apply below_drew1 | refine below_set ?_ GE106.out) | exact HB.out))) : w.heap.size ≤ gb113)); have n5_ := Aside0.mk ((by rw [hg]; exact Nat.ne_of_lt (blk_lt (g := gb106) (o := .cells #[.int .i64 a0_0, .int .i64 a0_1, .slice (some ad112) l0_2.length c0_2] 24 (0, 0)) (by (with_reducible repeat (first | refine blk_drewN ?_ _ | refine blk_drew ?_ | refine blk_alloc ?_ _)); exact BK106.out)) : gb106 ≠ gb113)); have n6_ := Aside0.mk ((by rw [hg]; exact Nat.ne_of_gt (blk_lt (g := gb106) (o := .cells #[.int .i64 a0_0, .int .i64 a0_1, .slice (some ad112) l0_2.length c0_2] 24 (0, 0)) (by (with_reducible repeat (first | refine blk_drewN ?_ _ | refine blk_drew ?_ | refine blk_alloc ?_ _)); exact BK106.out)) : gb113 ≠ gb106)); clear BK106; clear HB; have BK106 := n0_; have HB := n1_; have BK113 := n2_; have GW113 := n3_; have GE113 := n4_; have NB106_113 := n5_; have NB113_106 := n6_; clear n0_ n1_ n2_ n3_ n4_ n5_ n6_; clear hb hbox hg; have hnb25 := NB113_106.out; have hnc25 := NB106_113.out; have hcz26_0 : w24.cell? ⟨gb113, 0, none⟩ = some (.int .i64 0) := (blk_cell BK113.out 0).trans rfl; have hcz26_1 : w24.cell? ⟨gb113, 1, none⟩ = some (.int .i64 0) := (blk_cell BK113.out 1).trans rfl; have hcz26_2 : w24.cell? ⟨gb113, 2, none⟩ = some (.slice none 0 0) := (blk_cell BK113.out 2).trans rfl; have hfz26_0 := blk_frozen BK113.out 0; have hfz26_1 := blk_frozen BK113.out 1; have hfz26_2 := blk_frozen BK113.out 2))
                  repeat (go_quiet (first | ((with_reducible refine gate_dst (N := 7) rfl ?_); refine box_event ?hg (N := 7) ?hd (cs := #[.int .i64 0, .int .i64 0, .slice none 0 0]) (t := 68) ?hr ?_; (case hd => rfl); (case hg => rfl); (case hr => first | (go_simp; done) | (go_simp; rfl)); intro gb113 hg w24 hbox hb; have n0_ := Aside0.mk (blk_below (g := gb106) (o := .cells #[.int .i64 a0_0, .int .i64 a0_1, .slice (some ad112) l0_2.length c0_2] 24 (0, 0)) (by (with_reducible repeat (first | refine blk_drewN ?_ _ | refine blk_drew ?_ | refine blk_alloc ?_ _)); exact BK106.out) hb); have n1_ := Aside0.mk (below_step (by repeat (first | (with_reducible first | exact HB.out | apply below_alloc | apply pw_below_drewN | apply below_drew1 | refine below_set ?_ GE106.out) | exact HB.out)) hb); have n2_ := Aside0.mk (hbox); have n3_ := Aside0.mk ((by rw [hg]; exact (below_size (by repeat (first | (with_reducible first | exact HB.out | apply below_alloc | apply pw_below_drewN | apply below_drew1 | refine below_set ?_ GE106.out) | exact HB.out))) : w.heap.size ≤ gb113)); have n4_ := Aside0.mk ((by rw [hg]; exact (below_size (by repeat (first | (with_reducible first | exact HB.out | apply below_alloc | apply pw_below_drewN | apply below_drew1 | refine below_set ?_ GE106.out) | exact HB.out))) : w.heap.size ≤ gb113)); have n5_ := Aside0.mk ((by rw [hg]; exact Nat.ne_of_lt (blk_lt (g := gb106) (o := .cells #[.int .i64 a0_0, .int .i64 a0_1, .slice (some ad112) l0_2.length c0_2] 24 (0, 0)) (by (with_reducible repeat (first | refine blk_drewN ?_ _ | refine blk_drew ?_ | refine blk_alloc ?_ _)); exact BK106.out)) : gb106 ≠ gb113)); have n6_ := Aside0.mk ((by rw [hg]; exact Nat.ne_of_gt (blk_lt (g := gb106) (o := .cells #[.int .i64 a0_0, .int .i64 a0_1, .slice (some ad112) l0_2.length c0_2] 24 (0, 0)) (by (with_reducible repeat (first | refine blk_drewN ?_ _ | refine blk_drew ?_ | refine blk_alloc ?_ _)); exact BK106.out)) : gb113 ≠ gb106)); clear BK106; clear HB; have BK106 := n0_; have HB := n1_; have BK113 := n2_; have GW113 := n3_; have GE113 := n4_; have NB106_113 := n5_; have NB113_106 := n6_; clear n0_ n1_ n2_ n3_ n4_ n5_ n6_; clear hb hbox hg; have hnb25 := NB113_106.out; have hnc25 := NB106_113.out; have hcz26_0 : w24.cell? ⟨gb113, 0, none⟩ = some (.int .i64 0) := (blk_cell BK113.out 0).trans rfl; have hcz26_1 : w24.cell? ⟨gb113, 1, none⟩ = some (.int .i64 0) := (blk_cell BK113.out 1).trans rfl; have hcz26_2 : w24.cell? ⟨gb113, 2, none⟩ = some (.slice none 0 0) := (blk_cell BK113.out 2).trans rfl; have hfz26_0 := blk_frozen BK113.out 0; have hfz26_1 := blk_frozen BK113.out 1; have hfz26_2 := blk_frozen BK113.out 2)); go_upto_region 8 with (first | ((with_reducible refine gate_dst (N := 7) rfl ?_); refine box_event ?hg (N := 7) ?hd (cs := #[.int .i64 0, .int .i64 0, .slice none 0 0]) (t := 68) ?hr ?_; (case hd => rfl); (case hg => rfl); (case hr => first | (go_simp; done) | (go_simp; rfl)); intro gb113 hg w24 hbox hb; have n0_ := Aside0.mk (blk_below (g := gb106) (o := .cells #[.int .i64 a0_0, .int .i64 a0_1, .slice (some ad112) l0_2.length c0_2] 24 (0, 0)) (by (with_reducible repeat (first | refine blk_drewN ?_ _ | refine blk_drew ?_ | refine blk_alloc ?_ _)); exact BK106.out) hb); have n1_ := Aside0.mk (below_step (by repeat (first | (with_reducible first | exact HB.out | apply below_alloc | apply pw_below_drewN | apply below_drew1 | refine below_set ?_ GE106.out) | exact HB.out)) hb); have n2_ := Aside0.mk (hbox); have n3_ := Aside0.mk ((by rw [hg]; exact (below_size (by repeat (first | (with_reducible first | exact HB.out | apply below_alloc | apply pw_below_drewN | apply below_drew1 | refine below_set ?_ GE106.out) | exact HB.out))) : w.heap.size ≤ gb113)); have n4_ := Aside0.mk ((by rw [hg]; exact (below_size (by repeat (first | (with_reducible first | exact HB.out | apply below_alloc | apply pw_below_drewN | apply below_drew1 | refine below_set ?_ GE106.out) | exact HB.out))) : w.heap.size ≤ gb113)); have n5_ := Aside0.mk ((by rw [hg]; exact Nat.ne_of_lt (blk_lt (g := gb106) (o := .cells #[.int .i64 a0_0, .int .i64 a0_1, .slice (some ad112) l0_2.length c0_2] 24 (0, 0)) (by (with_reducible repeat (first | refine blk_drewN ?_ _ | refine blk_drew ?_ | refine blk_alloc ?_ _)); exact BK106.out)) : gb106 ≠ gb113)); have n6_ := Aside0.mk ((by rw [hg]; exact Nat.ne_of_gt (blk_lt (g := gb106) (o := .cells #[.int .i64 a0_0, .int .i64 a0_1, .slice (some ad112) l0_2.length c0_2] 24 (0, 0)) (by (with_reducible repeat (first | refine blk_drewN ?_ _ | refine blk_drew ?_ | refine blk_alloc ?_ _)); exact BK106.out)) : gb113 ≠ gb106)); clear BK106; clear HB; have BK106 := n0_; have HB := n1_; have BK113 := n2_; have GW113 := n3_; have GE113 := n4_; have NB106_113 := n5_; have NB113_106 := n6_; clear n0_ n1_ n2_ n3_ n4_ n5_ n6_; clear hb hbox hg; have hnb25 := NB113_106.out; have hnc25 := NB106_113.out; have hcz26_0 : w24.cell? ⟨gb113, 0, none⟩ = some (.int .i64 0) := (blk_cell BK113.out 0).trans rfl; have hcz26_1 : w24.cell? ⟨gb113, 1, none⟩ = some (.int .i64 0) := (blk_cell BK113.out 1).trans rfl; have hcz26_2 : w24.cell? ⟨gb113, 2, none⟩ = some (.slice none 0 0) := (blk_cell BK113.out 2).trans rfl; have hfz26_0 := blk_frozen BK113.out 0; have hfz26_1 := blk_frozen BK113.out 1; have hfz26_2 := blk_frozen BK113.out 2)))
                  (try simp only [Act.put, List.setIfInBounds_toArray, List.set_cons_zero, List.set_cons_succ])
                  go_cut [59] (fun v59 wc => ∃ (kq : Nat) (x59_21 : Bool), v59 = .bool x59_21 ∧ Aside0 (gazetteref10_Check.j2 kq a1 (l0_2.length : Int) x6_2 x59_21 a0_0 a0_1 l0_2 ((rd_T68 l0_2 x6_2).f0) ((rd_T68 l0_2 x6_2).f1.f0) ((rd_T68 l0_2 x6_2).f1.f1) = some r) ∧ Aside0 (kq ≤ k2) ∧ Aside0 (wc.heap[gb106]? = some (.cells #[.int .i64 a0_0, .int .i64 a0_1, (.slice (some ad112) l0_2.length c0_2)] 24 (0, 0))) ∧ Aside0 (wc.heap[gb113]? = some (.cells #[.int .i64 ((rd_T68 l0_2 x6_2).f0), .int .i64 ((rd_T68 l0_2 x6_2).f1.f0), (.slice A112_2 ((rd_T68 l0_2 x6_2).f1.f1).length c112_2)] 68 (0, 0))) ∧ Aside0 (Below w.heap.size w wc))
                  case first =>
                    have H := HC22.out
                    clear HC22
                    replace H := Option.bind_eq_some_iff.mp H
                    obtain ⟨t114, A270, H⟩ := H
                    replace H : (if t114 = true then ((gazetteref07_Check.f k2 ((rd_T68 l0_2 x6_2).f1.f0) ((rd_T68 l0_2 x6_2).f1.f1) a1).bind fun t115 => (gazetteref10_Check.j2 k2 a1 (l0_2.length : Int) x6_2 (t115 != 0) a0_0 a0_1 l0_2 ((rd_T68 l0_2 x6_2).f0) ((rd_T68 l0_2 x6_2).f1.f0) ((rd_T68 l0_2 x6_2).f1.f1))) else (gazetteref10_Check.j2 k2 a1 (l0_2.length : Int) x6_2 true a0_0 a0_1 l0_2 ((rd_T68 l0_2 x6_2).f0) ((rd_T68 l0_2 x6_2).f1.f0) ((rd_T68 l0_2 x6_2).f1.f1))) = some r := H
                    have A27 := Aside0.mk A270
                    clear A270
                    by_cases c28 : t114 = true
                    · subst c28
                      have H1 : ((gazetteref07_Check.f k2 ((rd_T68 l0_2 x6_2).f1.f0) ((rd_T68 l0_2 x6_2).f1.f1) a1).bind fun t115 => (gazetteref10_Check.j2 k2 a1 (l0_2.length : Int) x6_2 (t115 != 0) a0_0 a0_1 l0_2 ((rd_T68 l0_2 x6_2).f0) ((rd_T68 l0_2 x6_2).f1.f0) ((rd_T68 l0_2 x6_2).f1.f1))) = some r := by rw [if_pos rfl] at H; exact H
                      clear H
                      have H := H1
                      clear H1
                      replace H := Option.bind_eq_some_iff.mp H
                      obtain ⟨t115, A290, H⟩ := H
                      replace H : (gazetteref10_Check.j2 k2 a1 (l0_2.length : Int) x6_2 (t115 != 0) a0_0 a0_1 l0_2 ((rd_T68 l0_2 x6_2).f0) ((rd_T68 l0_2 x6_2).f1.f0) ((rd_T68 l0_2 x6_2).f1.f1)) = some r := H
                      have A29 := Aside0.mk A290
                      clear A290
                      have H' := Aside0.mk H
                      clear H
                      have hnb30 := NB113_106.out
                      have hnc30 := NB106_113.out
                      have hcz31_0 : w24.cell? ⟨gb113, 0, none⟩ = some (.int .i64 0) := (blk_cell BK113.out 0).trans rfl
                      have hcz31_1 : w24.cell? ⟨gb113, 1, none⟩ = some (.int .i64 0) := (blk_cell BK113.out 1).trans rfl
                      have hcz31_2 : w24.cell? ⟨gb113, 2, none⟩ = some (.slice none 0 0) := (blk_cell BK113.out 2).trans rfl
                      have hfz31_0 := blk_frozen BK113.out 0
                      have hfz31_1 := blk_frozen BK113.out 1
                      have hfz31_2 := blk_frozen BK113.out 2
                      go_wp2_with (first | (go_at_call 47; (with_reducible refine (gazetteref10_in.calls ((rd_T68 l0_2 x6_2).f0) true _ A27.out).mono ?_); rintro e w' ⟨rfl, ⟨nd, rfl⟩⟩; (try first | exact ⟨rfl, _, World.drewN_drewN _ _ _⟩ | exact ⟨rfl, _, Eq.trans (World.drewN_drewN _ _ _) (congrArg (World.drewN _) (Nat.add_assoc _ _ _))⟩)) | (go_at_call 48; (with_reducible refine (gazetteref07_Check.calls k2 ((rd_T68 l0_2 x6_2).f1.f0) _ _ ((rd_T68 l0_2 x6_2).f1.f1) a1 t115 _ ?side1 ?side2 A29.out).mono ?_); (case side1 => exact Kd.C_below HR112_2.out (by repeat (first | (with_reducible first | exact HB.out | apply below_alloc | apply pw_below_drewN | apply below_drew1 | refine below_set ?_ GE106.out | refine below_set ?_ GE113.out) | exact HB.out))); (case side2 => exact HC112_2.out); rintro e w32 ⟨rfl, hb⟩; have n0_ := Aside0.mk (blk_below (g := gb106) (o := .cells #[.int .i64 a0_0, .int .i64 a0_1, .slice (some ad112) l0_2.length c0_2] 24 (0, 0)) (by (with_reducible repeat (first | refine blk_drewN ?_ _ | refine blk_drew ?_ | refine blk_alloc ?_ _)); refine blk_far ?_ NB106_113.out _; (with_reducible repeat (first | refine blk_drewN ?_ _ | refine blk_drew ?_ | refine blk_alloc ?_ _)); refine blk_far ?_ NB106_113.out _; (with_reducible repeat (first | refine blk_drewN ?_ _ | refine blk_drew ?_ | refine blk_alloc ?_ _)); refine blk_far ?_ NB106_113.out _; (with_reducible repeat (first | refine blk_drewN ?_ _ | refine blk_drew ?_ | refine blk_alloc ?_ _)); exact BK106.out) hb); have n1_ := Aside0.mk (blk_below (g := gb113) (o := .cells #[.int .i64 ((rd_T68 l0_2 x6_2).f0), .int .i64 ((rd_T68 l0_2 x6_2).f1.f0), .slice A112_2 ((rd_T68 l0_2 x6_2).f1.f1).length c112_2] 68 (0, 0)) (by (with_reducible repeat (first | refine blk_drewN ?_ _ | refine blk_drew ?_ | refine blk_alloc ?_ _)); refine blk_put (cs := #[.int .i64 ((rd_T68 l0_2 x6_2).f0), .int .i64 ((rd_T68 l0_2 x6_2).f1.f0), .slice none 0 0]) ?_ 2 _ rfl; (with_reducible repeat (first | refine blk_drewN ?_ _ | refine blk_drew ?_ | refine blk_alloc ?_ _)); refine blk_put (cs := #[.int .i64 ((rd_T68 l0_2 x6_2).f0), .int .i64 0, .slice none 0 0]) ?_ 1 _ rfl; (with_reducible repeat (first | refine blk_drewN ?_ _ | refine blk_drew ?_ | refine blk_alloc ?_ _)); refine blk_put (cs := #[.int .i64 0, .int .i64 0, .slice none 0 0]) ?_ 0 _ rfl; (with_reducible repeat (first | refine blk_drewN ?_ _ | refine blk_drew ?_ | refine blk_alloc ?_ _)); exact BK113.out) hb); have n2_ := Aside0.mk (below_step (by repeat (first | (with_reducible first | exact HB.out | apply below_alloc | apply pw_below_drewN | apply below_drew1 | refine below_set ?_ GE106.out | refine below_set ?_ GE113.out) | exact HB.out)) hb); clear BK106; clear BK113; clear HB; have BK106 := n0_; have BK113 := n1_; have HB := n2_; clear n0_ n1_ n2_; (try clear hb); (try clear hb2); (try clear hk); (try clear hi)))
                      repeat (go_quiet (first | (go_at_call 47; (with_reducible refine (gazetteref10_in.calls ((rd_T68 l0_2 x6_2).f0) true _ A27.out).mono ?_); rintro e w' ⟨rfl, ⟨nd, rfl⟩⟩; (try first | exact ⟨rfl, _, World.drewN_drewN _ _ _⟩ | exact ⟨rfl, _, Eq.trans (World.drewN_drewN _ _ _) (congrArg (World.drewN _) (Nat.add_assoc _ _ _))⟩)) | (go_at_call 48; (with_reducible refine (gazetteref07_Check.calls k2 ((rd_T68 l0_2 x6_2).f1.f0) _ _ ((rd_T68 l0_2 x6_2).f1.f1) a1 t115 _ ?side1 ?side2 A29.out).mono ?_); (case side1 => exact Kd.C_below HR112_2.out (by repeat (first | (with_reducible first | exact HB.out | apply below_alloc | apply pw_below_drewN | apply below_drew1 | refine below_set ?_ GE106.out | refine below_set ?_ GE113.out) | exact HB.out))); (case side2 => exact HC112_2.out); rintro e w32 ⟨rfl, hb⟩; have n0_ := Aside0.mk (blk_below (g := gb106) (o := .cells #[.int .i64 a0_0, .int .i64 a0_1, .slice (some ad112) l0_2.length c0_2] 24 (0, 0)) (by (with_reducible repeat (first | refine blk_drewN ?_ _ | refine blk_drew ?_ | refine blk_alloc ?_ _)); refine blk_far ?_ NB106_113.out _; (with_reducible repeat (first | refine blk_drewN ?_ _ | refine blk_drew ?_ | refine blk_alloc ?_ _)); refine blk_far ?_ NB106_113.out _; (with_reducible repeat (first | refine blk_drewN ?_ _ | refine blk_drew ?_ | refine blk_alloc ?_ _)); refine blk_far ?_ NB106_113.out _; (with_reducible repeat (first | refine blk_drewN ?_ _ | refine blk_drew ?_ | refine blk_alloc ?_ _)); exact BK106.out) hb); have n1_ := Aside0.mk (blk_below (g := gb113) (o := .cells #[.int .i64 ((rd_T68 l0_2 x6_2).f0), .int .i64 ((rd_T68 l0_2 x6_2).f1.f0), .slice A112_2 ((rd_T68 l0_2 x6_2).f1.f1).length c112_2] 68 (0, 0)) (by (with_reducible repeat (first | refine blk_drewN ?_ _ | refine blk_drew ?_ | refine blk_alloc ?_ _)); refine blk_put (cs := #[.int .i64 ((rd_T68 l0_2 x6_2).f0), .int .i64 ((rd_T68 l0_2 x6_2).f1.f0), .slice none 0 0]) ?_ 2 _ rfl; (with_reducible repeat (first | refine blk_drewN ?_ _ | refine blk_drew ?_ | refine blk_alloc ?_ _)); refine blk_put (cs := #[.int .i64 ((rd_T68 l0_2 x6_2).f0), .int .i64 0, .slice none 0 0]) ?_ 1 _ rfl; (with_reducible repeat (first | refine blk_drewN ?_ _ | refine blk_drew ?_ | refine blk_alloc ?_ _)); refine blk_put (cs := #[.int .i64 0, .int .i64 0, .slice none 0 0]) ?_ 0 _ rfl; (with_reducible repeat (first | refine blk_drewN ?_ _ | refine blk_drew ?_ | refine blk_alloc ?_ _)); exact BK113.out) hb); have n2_ := Aside0.mk (below_step (by repeat (first | (with_reducible first | exact HB.out | apply below_alloc | apply pw_below_drewN | apply below_drew1 | refine below_set ?_ GE106.out | refine below_set ?_ GE113.out) | exact HB.out)) hb); clear BK106; clear BK113; clear HB; have BK106 := n0_; have BK113 := n1_; have HB := n2_; clear n0_ n1_ n2_; (try clear hb); (try clear hb2); (try clear hk); (try clear hi))); try go_wp2_with (first | (go_at_call 47; (with_reducible refine (gazetteref10_in.calls ((rd_T68 l0_2 x6_2).f0) true _ A27.out).mono ?_); rintro e w' ⟨rfl, ⟨nd, rfl⟩⟩; (try first | exact ⟨rfl, _, World.drewN_drewN _ _ _⟩ | exact ⟨rfl, _, Eq.trans (World.drewN_drewN _ _ _) (congrArg (World.drewN _) (Nat.add_assoc _ _ _))⟩)) | (go_at_call 48; (with_reducible refine (gazetteref07_Check.calls k2 ((rd_T68 l0_2 x6_2).f1.f0) _ _ ((rd_T68 l0_2 x6_2).f1.f1) a1 t115 _ ?side1 ?side2 A29.out).mono ?_); (case side1 => exact Kd.C_below HR112_2.out (by repeat (first | (with_reducible first | exact HB.out | apply below_alloc | apply pw_below_drewN | apply below_drew1 | refine below_set ?_ GE106.out | refine below_set ?_ GE113.out) | exact HB.out))); (case side2 => exact HC112_2.out); rintro e w32 ⟨rfl, hb⟩; have n0_ := Aside0.mk (blk_below (g := gb106) (o := .cells #[.int .i64 a0_0, .int .i64 a0_1, .slice (some ad112) l0_2.length c0_2] 24 (0, 0)) (by (with_reducible repeat (first | refine blk_drewN ?_ _ | refine blk_drew ?_ | refine blk_alloc ?_ _)); refine blk_far ?_ NB106_113.out _; (with_reducible repeat (first | refine blk_drewN ?_ _ | refine blk_drew ?_ | refine blk_alloc ?_ _)); refine blk_far ?_ NB106_113.out _; (with_reducible repeat (first | refine blk_drewN ?_ _ | refine blk_drew ?_ | refine blk_alloc ?_ _)); refine blk_far ?_ NB106_113.out _; (with_reducible repeat (first | refine blk_drewN ?_ _ | refine blk_drew ?_ | refine blk_alloc ?_ _)); exact BK106.out) hb); have n1_ := Aside0.mk (blk_below (g := gb113) (o := .cells #[.int .i64 ((rd_T68 l0_2 x6_2).f0), .int .i64 ((rd_T68 l0_2 x6_2).f1.f0), .slice A112_2 ((rd_T68 l0_2 x6_2).f1.f1).length c112_2] 68 (0, 0)) (by (with_reducible repeat (first | refine blk_drewN ?_ _ | refine blk_drew ?_ | refine blk_alloc ?_ _)); refine blk_put (cs := #[.int .i64 ((rd_T68 l0_2 x6_2).f0), .int .i64 ((rd_T68 l0_2 x6_2).f1.f0), .slice none 0 0]) ?_ 2 _ rfl; (with_reducible repeat (first | refine blk_drewN ?_ _ | refine blk_drew ?_ | refine blk_alloc ?_ _)); refine blk_put (cs := #[.int .i64 ((rd_T68 l0_2 x6_2).f0), .int .i64 0, .slice none 0 0]) ?_ 1 _ rfl; (with_reducible repeat (first | refine blk_drewN ?_ _ | refine blk_drew ?_ | refine blk_alloc ?_ _)); refine blk_put (cs := #[.int .i64 0, .int .i64 0, .slice none 0 0]) ?_ 0 _ rfl; (with_reducible repeat (first | refine blk_drewN ?_ _ | refine blk_drew ?_ | refine blk_alloc ?_ _)); exact BK113.out) hb); have n2_ := Aside0.mk (below_step (by repeat (first | (with_reducible first | exact HB.out | apply below_alloc | apply pw_below_drewN | apply below_drew1 | refine below_set ?_ GE106.out | refine below_set ?_ GE113.out) | exact HB.out)) hb); clear BK106; clear BK113; clear HB; have BK106 := n0_; have BK113 := n1_; have HB := n2_; clear n0_ n1_ n2_; (try clear hb); (try clear hb2); (try clear hk); (try clear hi))))
                      go_meet
                      case rel => exact ⟨_, ((t115 != 0)), (by first | rfl | (simp; done) | (simp [*]; done)), H', ⟨by have := HJ2.out; have := HK2.out; first | omega | exact Nat.le_refl _⟩, ⟨by (with_reducible repeat (first | refine blk_drewN ?_ _ | refine blk_drew ?_ | refine blk_alloc ?_ _)); exact BK106.out⟩, ⟨by (with_reducible repeat (first | refine blk_drewN ?_ _ | refine blk_drew ?_ | refine blk_alloc ?_ _)); exact BK113.out⟩, ⟨by repeat (first | (with_reducible first | exact HB.out | apply below_alloc | apply pw_below_drewN | apply below_drew1 | refine below_set ?_ GE106.out | refine below_set ?_ GE113.out) | exact HB.out)⟩⟩
                    · replace c28 := Bool.eq_false_iff.mpr c28
                      subst c28
                      have H1 : (gazetteref10_Check.j2 k2 a1 (l0_2.length : Int) x6_2 true a0_0 a0_1 l0_2 ((rd_T68 l0_2 x6_2).f0) ((rd_T68 l0_2 x6_2).f1.f0) ((rd_T68 l0_2 x6_2).f1.f1)) = some r := by rw [if_neg (show ¬ (false = true) by decide)] at H; exact H
                      clear H
                      have H := H1
                      clear H1
                      have H' := Aside0.mk H
                      clear H
                      have hnb33 := NB113_106.out
                      have hnc33 := NB106_113.out
                      have hcz34_0 : w24.cell? ⟨gb113, 0, none⟩ = some (.int .i64 0) := (blk_cell BK113.out 0).trans rfl
                      have hcz34_1 : w24.cell? ⟨gb113, 1, none⟩ = some (.int .i64 0) := (blk_cell BK113.out 1).trans rfl
                      have hcz34_2 : w24.cell? ⟨gb113, 2, none⟩ = some (.slice none 0 0) := (blk_cell BK113.out 2).trans rfl
                      have hfz34_0 := blk_frozen BK113.out 0
                      have hfz34_1 := blk_frozen BK113.out 1
                      have hfz34_2 := blk_frozen BK113.out 2
                      go_wp2_with (first | (go_at_call 47; (with_reducible refine (gazetteref10_in.calls ((rd_T68 l0_2 x6_2).f0) false _ A27.out).mono ?_); rintro e w' ⟨rfl, ⟨nd, rfl⟩⟩; (try first | exact ⟨rfl, _, World.drewN_drewN _ _ _⟩ | exact ⟨rfl, _, Eq.trans (World.drewN_drewN _ _ _) (congrArg (World.drewN _) (Nat.add_assoc _ _ _))⟩)))
                      repeat (go_quiet (first | (go_at_call 47; (with_reducible refine (gazetteref10_in.calls ((rd_T68 l0_2 x6_2).f0) false _ A27.out).mono ?_); rintro e w' ⟨rfl, ⟨nd, rfl⟩⟩; (try first | exact ⟨rfl, _, World.drewN_drewN _ _ _⟩ | exact ⟨rfl, _, Eq.trans (World.drewN_drewN _ _ _) (congrArg (World.drewN _) (Nat.add_assoc _ _ _))⟩))); try go_wp2_with (first | (go_at_call 47; (with_reducible refine (gazetteref10_in.calls ((rd_T68 l0_2 x6_2).f0) false _ A27.out).mono ?_); rintro e w' ⟨rfl, ⟨nd, rfl⟩⟩; (try first | exact ⟨rfl, _, World.drewN_drewN _ _ _⟩ | exact ⟨rfl, _, Eq.trans (World.drewN_drewN _ _ _) (congrArg (World.drewN _) (Nat.add_assoc _ _ _))⟩))))
                      go_meet
                      case rel => exact ⟨_, (true), (by first | rfl | (simp; done) | (simp [*]; done)), H', ⟨by have := HJ2.out; have := HK2.out; first | omega | exact Nat.le_refl _⟩, ⟨by (with_reducible repeat (first | refine blk_drewN ?_ _ | refine blk_drew ?_ | refine blk_alloc ?_ _)); refine blk_far ?_ NB106_113.out _; (with_reducible repeat (first | refine blk_drewN ?_ _ | refine blk_drew ?_ | refine blk_alloc ?_ _)); refine blk_far ?_ NB106_113.out _; (with_reducible repeat (first | refine blk_drewN ?_ _ | refine blk_drew ?_ | refine blk_alloc ?_ _)); refine blk_far ?_ NB106_113.out _; (with_reducible repeat (first | refine blk_drewN ?_ _ | refine blk_drew ?_ | refine blk_alloc ?_ _)); exact BK106.out⟩, ⟨by (with_reducible repeat (first | refine blk_drewN ?_ _ | refine blk_drew ?_ | refine blk_alloc ?_ _)); refine blk_put (cs := #[.int .i64 ((rd_T68 l0_2 x6_2).f0), .int .i64 ((rd_T68 l0_2 x6_2).f1.f0), .slice none 0 0]) ?_ 2 _ rfl; (with_reducible repeat (first | refine blk_drewN ?_ _ | refine blk_drew ?_ | refine blk_alloc ?_ _)); refine blk_put (cs := #[.int .i64 ((rd_T68 l0_2 x6_2).f0), .int .i64 0, .slice none 0 0]) ?_ 1 _ rfl; (with_reducible repeat (first | refine blk_drewN ?_ _ | refine blk_drew ?_ | refine blk_alloc ?_ _)); refine blk_put (cs := #[.int .i64 0, .int .i64 0, .slice none 0 0]) ?_ 0 _ rfl; (with_reducible repeat (first | refine blk_drewN ?_ _ | refine blk_drew ?_ | refine blk_alloc ?_ _)); exact BK113.out⟩, ⟨by repeat (first | (with_reducible first | exact HB.out | apply below_alloc | apply pw_below_drewN | apply below_drew1 | refine below_set ?_ GE106.out | refine below_set ?_ GE113.out) | exact HB.out)⟩⟩
                  case rest =>
                    clear HC22
                    try clear c1
                    try clear p1
                    try clear q1
                    try clear hx1
                    try clear c2
                    try clear p2
                    try clear c3
                    try clear c6
                    try clear c6b0
                    try clear c8
                    try clear c8b0
                    try clear c11
                    try clear p11
                    try clear q11
                    try clear hx11
                    try clear c12
                    try clear c12b0
                    try clear c12b1
                    try clear c14
                    try clear c14b0
                    try clear c14b1
                    try clear c14b2
                    try clear c18
                    try clear c19
                    try clear c19b0
                    try clear c20
                    try clear c20b0
                    try clear c21
                    try clear c21b0
                    try clear c25
                    try clear c28
                    try clear c30
                    try clear c33
                    try clear hcz13_0
                    try clear hcz13_1
                    try clear hcz13_2
                    try clear hcz15_0
                    try clear hcz15_1
                    try clear hcz15_2
                    try clear hcz16_0
                    try clear hcz16_1
                    try clear hcz16_2
                    try clear hcz17_0
                    try clear hcz17_1
                    try clear hcz17_2
                    try clear hcz23_0
                    try clear hcz23_1
                    try clear hcz23_2
                    try clear hcz26_0
                    try clear hcz26_1
                    try clear hcz26_2
                    try clear hcz31_0
                    try clear hcz31_1
                    try clear hcz31_2
                    try clear hcz34_0
                    try clear hcz34_1
                    try clear hcz34_2
                    try clear hcz5_0
                    try clear hcz5_1
                    try clear hcz5_2
                    try clear hcz7_0
                    try clear hcz7_1
                    try clear hcz7_2
                    try clear hcz9_0
                    try clear hcz9_1
                    try clear hcz9_2
                    try clear hfz13_0
                    try clear hfz13_1
                    try clear hfz13_2
                    try clear hfz15_0
                    try clear hfz15_1
                    try clear hfz15_2
                    try clear hfz16_0
                    try clear hfz16_1
                    try clear hfz16_2
                    try clear hfz17_0
                    try clear hfz17_1
                    try clear hfz17_2
                    try clear hfz23_0
                    try clear hfz23_1
                    try clear hfz23_2
                    try clear hfz26_0
                    try clear hfz26_1
                    try clear hfz26_2
                    try clear hfz31_0
                    try clear hfz31_1
                    try clear hfz31_2
                    try clear hfz34_0
                    try clear hfz34_1
                    try clear hfz34_2
                    try clear hfz5_0
                    try clear hfz5_1
                    try clear hfz5_2
                    try clear hfz7_0
                    try clear hfz7_1
                    try clear hfz7_2
                    try clear hfz9_0
                    try clear hfz9_1
                    try clear hfz9_2
                    try clear hx112_0
                    try clear hx112_1
                    try clear hx112_2
                    try clear p112
                    try clear p2
                    try clear q112
                    obtain ⟨kq, x59_21, rfl, HA, HJ21, BK106, BK113, HB⟩ := hcut
                    cases kq with
                    | zero => exact absurd HA.out (by simp [gazetteref10_Check.j2])
                    | succ kj21 =>
                      have H := HA.out
                      clear HA
                      simp only [gazetteref10_Check.j2] at H
                      by_cases c35 : x59_21 = true
                      · subst c35
                        have H1 : (some 1) = some r := by rw [if_pos rfl] at H; exact H
                        clear H
                        have H := H1
                        clear H1
                        obtain rfl := Option.some.inj H
                        go_wp2
                        repeat (go_quiet (fail); try go_wp2)
                        go_ret
                        exact ⟨by first | rfl | (simp [errW_none, errW_some] <;> rfl) | (simp [*, errW_none, errW_some] <;> rfl), by repeat (first | (with_reducible first | exact HB.out | apply below_alloc | apply pw_below_drewN | apply below_drew1 | refine below_set ?_ GE106.out | refine below_set ?_ GE113.out) | exact HB.out)⟩
                      · replace c35 := Bool.eq_false_iff.mpr c35
                        subst c35
                        have H1 : (if x6_2 > 0 then (if 0 ≤ (wrap64 (x6_2 - 1)) then (if (wrap64 (x6_2 - 1)) < (l0_2.length : Int) then (if ((rd_T68 l0_2 x6_2).f0) < ((rd_T68 l0_2 (wrap64 (x6_2 - 1))).f0) then (gazetteref10_Check.j3 kj21 a1 (l0_2.length : Int) x6_2 true a0_0 a0_1 l0_2 ((rd_T68 l0_2 x6_2).f0) ((rd_T68 l0_2 x6_2).f1.f0) ((rd_T68 l0_2 x6_2).f1.f1)) else (gazetteref10_Check.j3 kj21 a1 (l0_2.length : Int) x6_2 (decide (((rd_T68 l0_2 x6_2).f0) > (wrap64 (((rd_T68 l0_2 (wrap64 (x6_2 - 1))).f0) + 4096)))) a0_0 a0_1 l0_2 ((rd_T68 l0_2 x6_2).f0) ((rd_T68 l0_2 x6_2).f1.f0) ((rd_T68 l0_2 x6_2).f1.f1))) else (none)) else (none)) else (gazetteref10_Check.j3 kj21 a1 (l0_2.length : Int) x6_2 false a0_0 a0_1 l0_2 ((rd_T68 l0_2 x6_2).f0) ((rd_T68 l0_2 x6_2).f1.f0) ((rd_T68 l0_2 x6_2).f1.f1))) = some r := by rw [if_neg (show ¬ (false = true) by decide)] at H; exact H
                        clear H
                        have H := H1
                        clear H1
                        have HC36 := Aside0.mk H
                        clear H
                        go_upto_region 10 with (fail)
                        repeat (go_quiet (fail); go_upto_region 10 with (fail))
                        go_cut [86] (fun v86 wc => ∃ (kq : Nat) (x86_35 : Bool), v86 = .bool x86_35 ∧ Aside0 (gazetteref10_Check.j3 kq a1 (l0_2.length : Int) x6_2 x86_35 a0_0 a0_1 l0_2 ((rd_T68 l0_2 x6_2).f0) ((rd_T68 l0_2 x6_2).f1.f0) ((rd_T68 l0_2 x6_2).f1.f1) = some r) ∧ Aside0 (kq ≤ kj21) ∧ Aside0 (wc.heap[gb106]? = some (.cells #[.int .i64 a0_0, .int .i64 a0_1, (.slice (some ad112) l0_2.length c0_2)] 24 (0, 0))) ∧ Aside0 (wc.heap[gb113]? = some (.cells #[.int .i64 ((rd_T68 l0_2 x6_2).f0), .int .i64 ((rd_T68 l0_2 x6_2).f1.f0), (.slice A112_2 ((rd_T68 l0_2 x6_2).f1.f1).length c112_2)] 68 (0, 0))) ∧ Aside0 (Below w.heap.size w wc))
                        case first =>
                          have H := HC36.out
                          clear HC36
                          by_cases c37 : x6_2 > 0
                          · rw [if_pos c37] at H
                            have c37b0 : decide (0 < x6_2) = true := decide_eq_true c37
                            clear c37
                            (first | rw [c37b0] | (simp only [i64_w, i32_w]; rw [c37b0]) | skip)
                            obtain ⟨ji38, hji38⟩ : ∃ j_ : Int, (wrap64 (x6_2 - 1)) = j_ := ⟨_, rfl⟩
                            replace H : (if 0 ≤ (ji38) then (if (ji38) < (l0_2.length : Int) then (if ((rd_T68 l0_2 x6_2).f0) < ((rd_T68 l0_2 (ji38)).f0) then (gazetteref10_Check.j3 kj21 a1 (l0_2.length : Int) x6_2 true a0_0 a0_1 l0_2 ((rd_T68 l0_2 x6_2).f0) ((rd_T68 l0_2 x6_2).f1.f0) ((rd_T68 l0_2 x6_2).f1.f1)) else (gazetteref10_Check.j3 kj21 a1 (l0_2.length : Int) x6_2 (decide (((rd_T68 l0_2 x6_2).f0) > (wrap64 (((rd_T68 l0_2 (ji38)).f0) + 4096)))) a0_0 a0_1 l0_2 ((rd_T68 l0_2 x6_2).f0) ((rd_T68 l0_2 x6_2).f1.f0) ((rd_T68 l0_2 x6_2).f1.f1))) else (none)) else (none)) = some r := by first | (rw [hji38] at H; exact H) | (simp only [hji38] at H ⊢; exact H)
                            have hji38w : (IntKind.i64.wrap (x6_2 - 1)) = ji38 := (i64_w _).trans hji38
                            by_cases c39 : 0 ≤ (ji38)
                            · rw [if_pos c39] at H
                              have c39b0 : decide (0 ≤ (ji38)) = true := decide_eq_true c39
                              clear c39
                              by_cases c40 : (ji38) < (l0_2.length : Int)
                              · rw [if_pos c40] at H
                                have c40b0 : decide ((ji38) < (l0_2.length : Int)) = true := decide_eq_true c40
                                clear c40
                                by_cases c41 : ((rd_T68 l0_2 x6_2).f0) < ((rd_T68 l0_2 (ji38)).f0)
                                · rw [if_pos c41] at H
                                  have c41b0 : decide (((rd_T68 l0_2 x6_2).f0) < ((rd_T68 l0_2 (ji38)).f0)) = true := decide_eq_true c41
                                  clear c41
                                  have H' := Aside0.mk H
                                  clear H
                                  have hnb42 := NB113_106.out
                                  have hnc42 := NB106_113.out
                                  have hcz43_0 : wc.cell? ⟨gb113, 0, none⟩ = some (.int .i64 ((rd_T68 l0_2 x6_2).f0)) := (blk_cell BK113.out 0).trans rfl
                                  have hcz43_1 : wc.cell? ⟨gb113, 1, none⟩ = some (.int .i64 ((rd_T68 l0_2 x6_2).f1.f0)) := (blk_cell BK113.out 1).trans rfl
                                  have hcz43_2 : wc.cell? ⟨gb113, 2, none⟩ = some (.slice A112_2 ((rd_T68 l0_2 x6_2).f1.f1).length c112_2) := (blk_cell BK113.out 2).trans rfl
                                  have hfz43_0 := blk_frozen BK113.out 0
                                  have hfz43_1 := blk_frozen BK113.out 1
                                  have hfz43_2 := blk_frozen BK113.out 2
                                  have hcz44_0 : wc.cell? ⟨gb106, 0, none⟩ = some (.int .i64 a0_0) := (blk_cell BK106.out 0).trans rfl
                                  have hcz44_1 : wc.cell? ⟨gb106, 1, none⟩ = some (.int .i64 a0_1) := (blk_cell BK106.out 1).trans rfl
                                  have hcz44_2 : wc.cell? ⟨gb106, 2, none⟩ = some (.slice (some ad112) l0_2.length c0_2) := (blk_cell BK106.out 2).trans rfl
                                  have hfz44_0 := blk_frozen BK106.out 0
                                  have hfz44_1 := blk_frozen BK106.out 1
                                  have hfz44_2 := blk_frozen BK106.out 2
                                  have p116 : 0 ≤ ((ji38) : Int) := of_decide_eq_true (by first | (with_reducible assumption) | assumption)
                                  have q116 : (ji38) < (l0_2.length : Int) := of_decide_eq_true (by first | (with_reducible assumption) | assumption)
                                  obtain ⟨ad116, A116_2, c116_2, e116, hx116_0, hx116_1, hx116_2, hl116_2, hi116_2⟩ := at_T68 HR0_2.out (ji38) p116 q116
                                  obtain rfl : ad112 = ad116 := (by injection e116)
                                  replace hx116_0 := (HB.out.cell (World.block_lt_of_cell? w _ hx116_0)).trans hx116_0
                                  replace hx116_1 := (HB.out.cell (World.block_lt_of_cell? w _ hx116_1)).trans hx116_1
                                  replace hx116_2 := (HB.out.cell (World.block_lt_of_cell? w _ hx116_2)).trans hx116_2
                                  have HR116_2 := Aside0.mk hi116_2
                                  have HC116_2 := Aside0.mk hl116_2
                                  clear hi116_2 hl116_2
                                  replace p116 := eq_true p116
                                  replace q116 := eq_true q116
                                  go_wp2
                                  repeat (go_quiet (fail); try go_wp2)
                                  go_meet
                                  case rel => exact ⟨_, (true), (by first | rfl | (simp; done) | (simp [*]; done)), H', ⟨by have := HJ2.out; have := HK2.out; have := HJ21.out; first | omega | exact Nat.le_refl _⟩, ⟨by (with_reducible repeat (first | refine blk_drewN ?_ _ | refine blk_drew ?_ | refine blk_alloc ?_ _)); exact BK106.out⟩, ⟨by (with_reducible repeat (first | refine blk_drewN ?_ _ | refine blk_drew ?_ | refine blk_alloc ?_ _)); exact BK113.out⟩, ⟨by repeat (first | (with_reducible first | exact HB.out | apply below_alloc | apply pw_below_drewN | apply below_drew1 | refine below_set ?_ GE106.out | refine below_set ?_ GE113.out) | exact HB.out)⟩⟩
                                · rw [if_neg c41] at H
                                  have c41b0 : decide (((rd_T68 l0_2 x6_2).f0) < ((rd_T68 l0_2 (ji38)).f0)) = false := decide_eq_false c41
                                  clear c41
                                  have H' := Aside0.mk H
                                  clear H
                                  have hnb45 := NB113_106.out
                                  have hnc45 := NB106_113.out
                                  have hcz46_0 : wc.cell? ⟨gb113, 0, none⟩ = some (.int .i64 ((rd_T68 l0_2 x6_2).f0)) := (blk_cell BK113.out 0).trans rfl
                                  have hcz46_1 : wc.cell? ⟨gb113, 1, none⟩ = some (.int .i64 ((rd_T68 l0_2 x6_2).f1.f0)) := (blk_cell BK113.out 1).trans rfl
                                  have hcz46_2 : wc.cell? ⟨gb113, 2, none⟩ = some (.slice A112_2 ((rd_T68 l0_2 x6_2).f1.f1).length c112_2) := (blk_cell BK113.out 2).trans rfl
                                  have hfz46_0 := blk_frozen BK113.out 0
                                  have hfz46_1 := blk_frozen BK113.out 1
                                  have hfz46_2 := blk_frozen BK113.out 2
                                  have hcz47_0 : wc.cell? ⟨gb106, 0, none⟩ = some (.int .i64 a0_0) := (blk_cell BK106.out 0).trans rfl
                                  have hcz47_1 : wc.cell? ⟨gb106, 1, none⟩ = some (.int .i64 a0_1) := (blk_cell BK106.out 1).trans rfl
                                  have hcz47_2 : wc.cell? ⟨gb106, 2, none⟩ = some (.slice (some ad112) l0_2.length c0_2) := (blk_cell BK106.out 2).trans rfl
                                  have hfz47_0 := blk_frozen BK106.out 0
                                  have hfz47_1 := blk_frozen BK106.out 1
                                  have hfz47_2 := blk_frozen BK106.out 2
                                  have p116 : 0 ≤ ((ji38) : Int) := of_decide_eq_true (by first | (with_reducible assumption) | assumption)
                                  have q116 : (ji38) < (l0_2.length : Int) := of_decide_eq_true (by first | (with_reducible assumption) | assumption)
                                  obtain ⟨ad116, A116_2, c116_2, e116, hx116_0, hx116_1, hx116_2, hl116_2, hi116_2⟩ := at_T68 HR0_2.out (ji38) p116 q116
                                  obtain rfl : ad112 = ad116 := (by injection e116)
                                  replace hx116_0 := (HB.out.cell (World.block_lt_of_cell? w _ hx116_0)).trans hx116_0
                                  replace hx116_1 := (HB.out.cell (World.block_lt_of_cell? w _ hx116_1)).trans hx116_1
                                  replace hx116_2 := (HB.out.cell (World.block_lt_of_cell? w _ hx116_2)).trans hx116_2
                                  have HR116_2 := Aside0.mk hi116_2
                                  have HC116_2 := Aside0.mk hl116_2
                                  clear hi116_2 hl116_2
                                  replace p116 := eq_true p116
                                  replace q116 := eq_true q116
                                  have p117 : 0 ≤ ((ji38) : Int) := of_decide_eq_true (by first | (with_reducible assumption) | assumption)
                                  have q117 : (ji38) < (l0_2.length : Int) := of_decide_eq_true (by first | (with_reducible assumption) | assumption)
                                  obtain ⟨ad117, A117_2, c117_2, e117, hx117_0, hx117_1, hx117_2, hl117_2, hi117_2⟩ := at_T68 HR0_2.out (ji38) p117 q117
                                  obtain rfl : ad112 = ad117 := (by injection e117)
                                  replace hx117_0 := (HB.out.cell (World.block_lt_of_cell? w _ hx117_0)).trans hx117_0
                                  replace hx117_1 := (HB.out.cell (World.block_lt_of_cell? w _ hx117_1)).trans hx117_1
                                  replace hx117_2 := (HB.out.cell (World.block_lt_of_cell? w _ hx117_2)).trans hx117_2
                                  have HR117_2 := Aside0.mk hi117_2
                                  have HC117_2 := Aside0.mk hl117_2
                                  clear hi117_2 hl117_2
                                  replace p117 := eq_true p117
                                  replace q117 := eq_true q117
                                  have ea_ := Option.some.inj (hx116_2.symm.trans hx117_2)
                                  injection ea_ with ea_ en_ ec_
                                  subst ea_
                                  subst ec_
                                  clear en_
                                  go_wp2
                                  repeat (go_quiet (fail); try go_wp2)
                                  go_meet
                                  case rel => exact ⟨_, (decide (((rd_T68 l0_2 x6_2).f0) > (wrap64 (((rd_T68 l0_2 (ji38)).f0) + 4096)))), (by first | rfl | (simp; done) | (simp only [← hji38] <;> (first | rfl | simp)) | (simp [*]; done)), H', ⟨by have := HJ2.out; have := HK2.out; have := HJ21.out; first | omega | exact Nat.le_refl _⟩, ⟨by (with_reducible repeat (first | refine blk_drewN ?_ _ | refine blk_drew ?_ | refine blk_alloc ?_ _)); exact BK106.out⟩, ⟨by (with_reducible repeat (first | refine blk_drewN ?_ _ | refine blk_drew ?_ | refine blk_alloc ?_ _)); exact BK113.out⟩, ⟨by repeat (first | (with_reducible first | exact HB.out | apply below_alloc | apply pw_below_drewN | apply below_drew1 | refine below_set ?_ GE106.out | refine below_set ?_ GE113.out) | exact HB.out)⟩⟩
                              · rw [if_neg c40] at H
                                exact absurd H (by simp)
                            · rw [if_neg c39] at H
                              exact absurd H (by simp)
                          · rw [if_neg c37] at H
                            have c37b0 : decide (0 < x6_2) = false := decide_eq_false c37
                            clear c37
                            (first | rw [c37b0] | (simp only [i64_w, i32_w]; rw [c37b0]) | skip)
                            have H' := Aside0.mk H
                            clear H
                            go_wp2
                            repeat (go_quiet (fail); try go_wp2)
                            go_meet
                            case rel => exact ⟨_, (false), (by first | rfl | (simp; done) | (simp [*]; done)), H', ⟨by have := HJ2.out; have := HK2.out; have := HJ21.out; first | omega | exact Nat.le_refl _⟩, ⟨by (with_reducible repeat (first | refine blk_drewN ?_ _ | refine blk_drew ?_ | refine blk_alloc ?_ _)); exact BK106.out⟩, ⟨by (with_reducible repeat (first | refine blk_drewN ?_ _ | refine blk_drew ?_ | refine blk_alloc ?_ _)); exact BK113.out⟩, ⟨by repeat (first | (with_reducible first | exact HB.out | apply below_alloc | apply pw_below_drewN | apply below_drew1 | refine below_set ?_ GE106.out | refine below_set ?_ GE113.out) | exact HB.out)⟩⟩
                        case rest =>
                          clear HC36
                          try clear c1
                          try clear p1
                          try clear q1
                          try clear hx1
                          try clear c2
                          try clear p2
                          try clear c3
                          try clear c4
                          try clear c6
                          try clear c6b0
                          try clear p6
                          try clear c8
                          try clear c8b0
                          try clear c11
                          try clear p11
                          try clear q11
                          try clear hx11
                          try clear c12
                          try clear c12b0
                          try clear c12b1
                          try clear c14
                          try clear c14b0
                          try clear c14b1
                          try clear c14b2
                          try clear c18
                          try clear c19
                          try clear c19b0
                          try clear c20
                          try clear c20b0
                          try clear c21
                          try clear c21b0
                          try clear c25
                          try clear c28
                          try clear c30
                          try clear c33
                          try clear c35
                          try clear c37
                          try clear c37b0
                          try clear c39
                          try clear c39b0
                          try clear c40
                          try clear c40b0
                          try clear c41
                          try clear c41b0
                          try clear c42
                          try clear c45
                          try clear hcz13_0
                          try clear hcz13_1
                          try clear hcz13_2
                          try clear hcz15_0
                          try clear hcz15_1
                          try clear hcz15_2
                          try clear hcz16_0
                          try clear hcz16_1
                          try clear hcz16_2
                          try clear hcz17_0
                          try clear hcz17_1
                          try clear hcz17_2
                          try clear hcz23_0
                          try clear hcz23_1
                          try clear hcz23_2
                          try clear hcz26_0
                          try clear hcz26_1
                          try clear hcz26_2
                          try clear hcz31_0
                          try clear hcz31_1
                          try clear hcz31_2
                          try clear hcz34_0
                          try clear hcz34_1
                          try clear hcz34_2
                          try clear hcz43_0
                          try clear hcz43_1
                          try clear hcz43_2
                          try clear hcz44_0
                          try clear hcz44_1
                          try clear hcz44_2
                          try clear hcz46_0
                          try clear hcz46_1
                          try clear hcz46_2
                          try clear hcz47_0
                          try clear hcz47_1
                          try clear hcz47_2
                          try clear hcz5_0
                          try clear hcz5_1
                          try clear hcz5_2
                          try clear hcz7_0
                          try clear hcz7_1
                          try clear hcz7_2
                          try clear hcz9_0
                          try clear hcz9_1
                          try clear hcz9_2
                          try clear hfz13_0
                          try clear hfz13_1
                          try clear hfz13_2
                          try clear hfz15_0
                          try clear hfz15_1
                          try clear hfz15_2
                          try clear hfz16_0
                          try clear hfz16_1
                          try clear hfz16_2
                          try clear hfz17_0
                          try clear hfz17_1
                          try clear hfz17_2
                          try clear hfz23_0
                          try clear hfz23_1
                          try clear hfz23_2
                          try clear hfz26_0
                          try clear hfz26_1
                          try clear hfz26_2
                          try clear hfz31_0
                          try clear hfz31_1
                          try clear hfz31_2
                          try clear hfz34_0
                          try clear hfz34_1
                          try clear hfz34_2
                          try clear hfz43_0
                          try clear hfz43_1
                          try clear hfz43_2
                          try clear hfz44_0
                          try clear hfz44_1
                          try clear hfz44_2
                          try clear hfz46_0
                          try clear hfz46_1
                          try clear hfz46_2
                          try clear hfz47_0
                          try clear hfz47_1
                          try clear hfz47_2
                          try clear hfz5_0
                          try clear hfz5_1
                          try clear hfz5_2
                          try clear hfz7_0
                          try clear hfz7_1
                          try clear hfz7_2
                          try clear hfz9_0
                          try clear hfz9_1
                          try clear hfz9_2
                          try clear hx112_0
                          try clear hx112_1
                          try clear hx112_2
                          try clear hx116_0
                          try clear hx116_1
                          try clear hx116_2
                          try clear hx117_0
                          try clear hx117_1
                          try clear hx117_2
                          try clear p1
                          try clear p11
                          try clear p112
                          try clear p116
                          try clear p117
                          try clear p2
                          try clear q1
                          try clear q11
                          try clear q112
                          try clear q116
                          try clear q117
                          obtain ⟨kq, x86_35, rfl, HA, HJ35, BK106, BK113, HB⟩ := hcut
                          cases kq with
                          | zero => exact absurd HA.out (by simp [gazetteref10_Check.j3])
                          | succ kj35 =>
                            have H := HA.out
                            clear HA
                            simp only [gazetteref10_Check.j3] at H
                            by_cases c48 : x86_35 = true
                            · subst c48
                              have H1 : (some 1) = some r := by rw [if_pos rfl] at H; exact H
                              clear H
                              have H := H1
                              clear H1
                              obtain rfl := Option.some.inj H
                              go_wp2
                              repeat (go_quiet (fail); try go_wp2)
                              go_ret
                              exact ⟨by first | rfl | (simp [errW_none, errW_some] <;> rfl) | (simp [*, errW_none, errW_some] <;> rfl), by repeat (first | (with_reducible first | exact HB.out | apply below_alloc | apply pw_below_drewN | apply below_drew1 | refine below_set ?_ GE106.out | refine below_set ?_ GE113.out) | exact HB.out)⟩
                            · replace c48 := Bool.eq_false_iff.mpr c48
                              subst c48
                              have H1 : (gazetteref10_Check.l1 kj35 a1 (l0_2.length : Int) x6_2 0 a0_0 a0_1 l0_2 ((rd_T68 l0_2 x6_2).f0) ((rd_T68 l0_2 x6_2).f1.f0) ((rd_T68 l0_2 x6_2).f1.f1)) = some r := by rw [if_neg (show ¬ (false = true) by decide)] at H; exact H
                              clear H
                              have H := H1
                              clear H1
                              have H' := Aside0.mk H
                              clear H
                              go_wp2
                              repeat (go_quiet (fail); try go_wp2)
                              go_loopg [8] kj35 (fun kq v8 w' => ∃ (x8_5 : Int), v8 = .int .i64 x8_5 ∧ Aside0 (gazetteref10_Check.l1 kq a1 (l0_2.length : Int) x6_2 x8_5 a0_0 a0_1 l0_2 ((rd_T68 l0_2 x6_2).f0) ((rd_T68 l0_2 x6_2).f1.f0) ((rd_T68 l0_2 x6_2).f1.f1) = some r) ∧ Aside0 (kq ≤ kj35) ∧ Aside0 (w'.heap[gb106]? = some (.cells #[.int .i64 a0_0, .int .i64 a0_1, (.slice (some ad112) l0_2.length c0_2)] 24 (0, 0))) ∧ Aside0 (w'.heap[gb113]? = some (.cells #[.int .i64 ((rd_T68 l0_2 x6_2).f0), .int .i64 ((rd_T68 l0_2 x6_2).f1.f0), (.slice A112_2 ((rd_T68 l0_2 x6_2).f1.f1).length c112_2)] 68 (0, 0))) ∧ Aside0 (Below w.heap.size w w'))
                              case atStart => exact ⟨(0), (by first | rfl | (simp; done) | (simp [*]; done)), H', ⟨Nat.le_refl _⟩, ⟨by (with_reducible repeat (first | refine blk_drewN ?_ _ | refine blk_drew ?_ | refine blk_alloc ?_ _)); exact BK106.out⟩, ⟨by (with_reducible repeat (first | refine blk_drewN ?_ _ | refine blk_drew ?_ | refine blk_alloc ?_ _)); exact BK113.out⟩, ⟨by repeat (first | (with_reducible first | exact HB.out | apply below_alloc | apply pw_below_drewN | apply below_drew1 | refine below_set ?_ GE106.out | refine below_set ?_ GE113.out) | exact HB.out)⟩⟩
                              case round =>
                                clear H'
                                try clear c1
                                try clear p1
                                try clear q1
                                try clear hx1
                                try clear c2
                                try clear p2
                                try clear c3
                                try clear c4
                                try clear c6
                                try clear c6b0
                                try clear p6
                                try clear c8
                                try clear c8b0
                                try clear c11
                                try clear p11
                                try clear q11
                                try clear hx11
                                try clear c12
                                try clear c12b0
                                try clear c12b1
                                try clear c14
                                try clear c14b0
                                try clear c14b1
                                try clear c14b2
                                try clear c18
                                try clear c19
                                try clear c19b0
                                try clear c20
                                try clear c20b0
                                try clear c21
                                try clear c21b0
                                try clear c25
                                try clear c28
                                try clear c30
                                try clear c33
                                try clear c35
                                try clear c37
                                try clear c37b0
                                try clear c39
                                try clear c39b0
                                try clear c40
                                try clear c40b0
                                try clear c41
                                try clear c41b0
                                try clear c42
                                try clear c45
                                try clear c48
                                try clear hcz13_0
                                try clear hcz13_1
                                try clear hcz13_2
                                try clear hcz15_0
                                try clear hcz15_1
                                try clear hcz15_2
                                try clear hcz16_0
                                try clear hcz16_1
                                try clear hcz16_2
                                try clear hcz17_0
                                try clear hcz17_1
                                try clear hcz17_2
                                try clear hcz23_0
                                try clear hcz23_1
                                try clear hcz23_2
                                try clear hcz26_0
                                try clear hcz26_1
                                try clear hcz26_2
                                try clear hcz31_0
                                try clear hcz31_1
                                try clear hcz31_2
                                try clear hcz34_0
                                try clear hcz34_1
                                try clear hcz34_2
                                try clear hcz43_0
                                try clear hcz43_1
                                try clear hcz43_2
                                try clear hcz44_0
                                try clear hcz44_1
                                try clear hcz44_2
                                try clear hcz46_0
                                try clear hcz46_1
                                try clear hcz46_2
                                try clear hcz47_0
                                try clear hcz47_1
                                try clear hcz47_2
                                try clear hcz5_0
                                try clear hcz5_1
                                try clear hcz5_2
                                try clear hcz7_0
                                try clear hcz7_1
                                try clear hcz7_2
                                try clear hcz9_0
                                try clear hcz9_1
                                try clear hcz9_2
                                try clear hfz13_0
                                try clear hfz13_1
                                try clear hfz13_2
                                try clear hfz15_0
                                try clear hfz15_1
                                try clear hfz15_2
                                try clear hfz16_0
                                try clear hfz16_1
                                try clear hfz16_2
                                try clear hfz17_0
                                try clear hfz17_1
                                try clear hfz17_2
                                try clear hfz23_0
                                try clear hfz23_1
                                try clear hfz23_2
                                try clear hfz26_0
                                try clear hfz26_1
                                try clear hfz26_2
                                try clear hfz31_0
                                try clear hfz31_1
                                try clear hfz31_2
                                try clear hfz34_0
                                try clear hfz34_1
                                try clear hfz34_2
                                try clear hfz43_0
                                try clear hfz43_1
                                try clear hfz43_2
                                try clear hfz44_0
                                try clear hfz44_1
                                try clear hfz44_2
                                try clear hfz46_0
                                try clear hfz46_1
                                try clear hfz46_2
                                try clear hfz47_0
                                try clear hfz47_1
                                try clear hfz47_2
                                try clear hfz5_0
                                try clear hfz5_1
                                try clear hfz5_2
                                try clear hfz7_0
                                try clear hfz7_1
                                try clear hfz7_2
                                try clear hfz9_0
                                try clear hfz9_1
                                try clear hfz9_2
                                try clear hx112_0
                                try clear hx112_1
                                try clear hx112_2
                                try clear hx116_0
                                try clear hx116_1
                                try clear hx116_2
                                try clear hx117_0
                                try clear hx117_1
                                try clear hx117_2
                                try clear p1
                                try clear p11
                                try clear p112
                                try clear p116
                                try clear p117
                                try clear p2
                                try clear p6
                                try clear q1
                                try clear q11
                                try clear q112
                                try clear q116
                                try clear q117
                                obtain ⟨x8_5, rfl, HA, HK5, BK106, BK113, HB⟩ := hrel
                                cases gk with
                                | zero => exact absurd HA.out (by simp [gazetteref10_Check.l1])
                                | succ k5 =>
                                  have H := HA.out
                                  clear HA
                                  simp only [gazetteref10_Check.l1] at H
                                  by_cases c49 : x8_5 < x6_2
                                  · rw [if_pos c49] at H
                                    have c49b0 : decide (x8_5 < x6_2) = true := decide_eq_true c49
                                    clear c49
                                    by_cases c50 : 0 ≤ x8_5
                                    · rw [if_pos c50] at H
                                      have c50b0 : decide (0 ≤ x8_5) = true := decide_eq_true c50
                                      clear c50
                                      by_cases c51 : x8_5 < (l0_2.length : Int)
                                      · rw [if_pos c51] at H
                                        have c51b0 : decide (x8_5 < (l0_2.length : Int)) = true := decide_eq_true c51
                                        clear c51
                                        by_cases c52 : ((rd_T68 l0_2 x8_5).f1.f0) = ((rd_T68 l0_2 x6_2).f1.f0)
                                        · rw [if_pos c52] at H
                                          have c52b0 : (((rd_T68 l0_2 x8_5).f1.f0) == ((rd_T68 l0_2 x6_2).f1.f0)) = true := beq_iff_eq.mpr c52
                                          have c52b1 : (((rd_T68 l0_2 x8_5).f1.f0) != ((rd_T68 l0_2 x6_2).f1.f0)) = false := bne_eq_false_iff_eq.mpr c52
                                          clear c52
                                          obtain rfl := Option.some.inj H
                                          have hnb53 := NB106_113.out
                                          have hnc53 := NB113_106.out
                                          have hcz54_0 : wr.cell? ⟨gb106, 0, none⟩ = some (.int .i64 a0_0) := (blk_cell BK106.out 0).trans rfl
                                          have hcz54_1 : wr.cell? ⟨gb106, 1, none⟩ = some (.int .i64 a0_1) := (blk_cell BK106.out 1).trans rfl
                                          have hcz54_2 : wr.cell? ⟨gb106, 2, none⟩ = some (.slice (some ad112) l0_2.length c0_2) := (blk_cell BK106.out 2).trans rfl
                                          have hfz54_0 := blk_frozen BK106.out 0
                                          have hfz54_1 := blk_frozen BK106.out 1
                                          have hfz54_2 := blk_frozen BK106.out 2
                                          have p118 : 0 ≤ (x8_5 : Int) := of_decide_eq_true (by first | (with_reducible assumption) | assumption)
                                          have q118 : x8_5 < (l0_2.length : Int) := of_decide_eq_true (by first | (with_reducible assumption) | assumption)
                                          obtain ⟨ad118, A118_2, c118_2, e118, hx118_0, hx118_1, hx118_2, hl118_2, hi118_2⟩ := at_T68 HR0_2.out x8_5 p118 q118
                                          obtain rfl : ad112 = ad118 := (by injection e118)
                                          replace hx118_0 := (HB.out.cell (World.block_lt_of_cell? w _ hx118_0)).trans hx118_0
                                          replace hx118_1 := (HB.out.cell (World.block_lt_of_cell? w _ hx118_1)).trans hx118_1
                                          replace hx118_2 := (HB.out.cell (World.block_lt_of_cell? w _ hx118_2)).trans hx118_2
                                          have HR118_2 := Aside0.mk hi118_2
                                          have HC118_2 := Aside0.mk hl118_2
                                          clear hi118_2 hl118_2
                                          replace p118 := eq_true p118
                                          replace q118 := eq_true q118
                                          have hcz55_0 : wr.cell? ⟨gb113, 0, none⟩ = some (.int .i64 ((rd_T68 l0_2 x6_2).f0)) := (blk_cell BK113.out 0).trans rfl
                                          have hcz55_1 : wr.cell? ⟨gb113, 1, none⟩ = some (.int .i64 ((rd_T68 l0_2 x6_2).f1.f0)) := (blk_cell BK113.out 1).trans rfl
                                          have hcz55_2 : wr.cell? ⟨gb113, 2, none⟩ = some (.slice A112_2 ((rd_T68 l0_2 x6_2).f1.f1).length c112_2) := (blk_cell BK113.out 2).trans rfl
                                          have hfz55_0 := blk_frozen BK113.out 0
                                          have hfz55_1 := blk_frozen BK113.out 1
                                          have hfz55_2 := blk_frozen BK113.out 2
                                          go_wp2
                                          repeat (go_quiet (fail); try go_wp2)
                                          go_ret
                                          exact ⟨by first | rfl | (simp [errW_none, errW_some] <;> rfl) | (simp [*, errW_none, errW_some] <;> rfl), by repeat (first | (with_reducible first | exact HB.out | apply below_alloc | apply pw_below_drewN | apply below_drew1 | refine below_set ?_ GE106.out | refine below_set ?_ GE113.out) | exact HB.out)⟩
                                        · rw [if_neg c52] at H
                                          have c52b0 : (((rd_T68 l0_2 x8_5).f1.f0) == ((rd_T68 l0_2 x6_2).f1.f0)) = false := beq_eq_false_iff_ne.mpr c52
                                          have c52b1 : (((rd_T68 l0_2 x8_5).f1.f0) != ((rd_T68 l0_2 x6_2).f1.f0)) = true := bne_iff_ne.mpr c52
                                          have H' := Aside0.mk H
                                          clear H
                                          have hnb56 := NB106_113.out
                                          have hnc56 := NB113_106.out
                                          have hcz57_0 : wr.cell? ⟨gb106, 0, none⟩ = some (.int .i64 a0_0) := (blk_cell BK106.out 0).trans rfl
                                          have hcz57_1 : wr.cell? ⟨gb106, 1, none⟩ = some (.int .i64 a0_1) := (blk_cell BK106.out 1).trans rfl
                                          have hcz57_2 : wr.cell? ⟨gb106, 2, none⟩ = some (.slice (some ad112) l0_2.length c0_2) := (blk_cell BK106.out 2).trans rfl
                                          have hfz57_0 := blk_frozen BK106.out 0
                                          have hfz57_1 := blk_frozen BK106.out 1
                                          have hfz57_2 := blk_frozen BK106.out 2
                                          have p118 : 0 ≤ (x8_5 : Int) := of_decide_eq_true (by first | (with_reducible assumption) | assumption)
                                          have q118 : x8_5 < (l0_2.length : Int) := of_decide_eq_true (by first | (with_reducible assumption) | assumption)
                                          obtain ⟨ad118, A118_2, c118_2, e118, hx118_0, hx118_1, hx118_2, hl118_2, hi118_2⟩ := at_T68 HR0_2.out x8_5 p118 q118
                                          obtain rfl : ad112 = ad118 := (by injection e118)
                                          replace hx118_0 := (HB.out.cell (World.block_lt_of_cell? w _ hx118_0)).trans hx118_0
                                          replace hx118_1 := (HB.out.cell (World.block_lt_of_cell? w _ hx118_1)).trans hx118_1
                                          replace hx118_2 := (HB.out.cell (World.block_lt_of_cell? w _ hx118_2)).trans hx118_2
                                          have HR118_2 := Aside0.mk hi118_2
                                          have HC118_2 := Aside0.mk hl118_2
                                          clear hi118_2 hl118_2
                                          replace p118 := eq_true p118
                                          replace q118 := eq_true q118
                                          have hcz58_0 : wr.cell? ⟨gb113, 0, none⟩ = some (.int .i64 ((rd_T68 l0_2 x6_2).f0)) := (blk_cell BK113.out 0).trans rfl
                                          have hcz58_1 : wr.cell? ⟨gb113, 1, none⟩ = some (.int .i64 ((rd_T68 l0_2 x6_2).f1.f0)) := (blk_cell BK113.out 1).trans rfl
                                          have hcz58_2 : wr.cell? ⟨gb113, 2, none⟩ = some (.slice A112_2 ((rd_T68 l0_2 x6_2).f1.f1).length c112_2) := (blk_cell BK113.out 2).trans rfl
                                          have hfz58_0 := blk_frozen BK113.out 0
                                          have hfz58_1 := blk_frozen BK113.out 1
                                          have hfz58_2 := blk_frozen BK113.out 2
                                          go_wp2
                                          repeat (go_quiet (fail); try go_wp2)
                                          go_roundg k5
                                          case measure => have := HJ2.out; have := HK2.out; have := HJ21.out; have := HJ35.out; have := HK5.out; omega
                                          case rel => exact ⟨(wrap64 (x8_5 + 1)), (by first | rfl | (simp; done) | (simp [*]; done)), H', ⟨by have := HJ2.out; have := HK2.out; have := HJ21.out; have := HJ35.out; have := HK5.out; omega⟩, ⟨by (with_reducible repeat (first | refine blk_drewN ?_ _ | refine blk_drew ?_ | refine blk_alloc ?_ _)); exact BK106.out⟩, ⟨by (with_reducible repeat (first | refine blk_drewN ?_ _ | refine blk_drew ?_ | refine blk_alloc ?_ _)); exact BK113.out⟩, ⟨by repeat (first | (with_reducible first | exact HB.out | apply below_alloc | apply pw_below_drewN | apply below_drew1 | refine below_set ?_ GE106.out | refine below_set ?_ GE113.out) | exact HB.out)⟩⟩
                                      · rw [if_neg c51] at H
                                        exact absurd H (by simp)
                                    · rw [if_neg c50] at H
                                      exact absurd H (by simp)
                                  · rw [if_neg c49] at H
                                    have c49b0 : decide (x8_5 < x6_2) = false := decide_eq_false c49
                                    clear c49
                                    have H' := Aside0.mk H
                                    clear H
                                    go_wp2
                                    repeat (go_quiet (fail); try go_wp2)
                                    go_roundg k5
                                    case measure => have := HJ2.out; have := HK2.out; have := HJ21.out; have := HJ35.out; have := HK5.out; omega
                                    case rel => exact ⟨(wrap64 (x6_2 + 1)), (by first | rfl | (simp; done) | (simp [*]; done)), H', ⟨by have := HJ2.out; have := HK2.out; have := HJ21.out; have := HJ35.out; have := HK5.out; omega⟩, ⟨by (with_reducible repeat (first | refine blk_drewN ?_ _ | refine blk_drew ?_ | refine blk_alloc ?_ _)); exact BK106.out⟩, ⟨by repeat (first | (with_reducible first | exact HB.out | apply below_alloc | apply pw_below_drewN | apply below_drew1 | refine below_set ?_ GE106.out | refine below_set ?_ GE113.out) | exact HB.out)⟩⟩
                · rw [if_neg c21] at H
                  exact absurd H (by simp)
              · rw [if_neg c20] at H
                exact absurd H (by simp)
            · rw [if_neg c19] at H
              have c19b0 : decide (x6_2 < (l0_2.length : Int)) = false := decide_eq_false c19
              clear c19
              by_cases c59 : (l0_2.length : Int) > 0
              · rw [if_pos c59] at H
                have c59b0 : decide (0 < (l0_2.length : Int)) = true := decide_eq_true c59
                have c59b1 : decide (0 < l0_2.length) = true := decide_eq_true (by omega)
                clear c59
                by_cases c60 : 0 < (l0_2.length : Int)
                · rw [if_pos c60] at H
                  have c60b0 : decide (0 < (l0_2.length : Int)) = true := decide_eq_true c60
                  have c60b1 : decide (0 < l0_2.length) = true := decide_eq_true (by omega)
                  clear c60
                  by_cases c61 : a0_1 < ((rd_T68 l0_2 0).f0)
                  · rw [if_pos c61] at H
                    have c61b0 : decide (a0_1 < ((rd_T68 l0_2 0).f0)) = true := decide_eq_true c61
                    clear c61
                    obtain rfl := Option.some.inj H
                    have hcz62_0 : wr.cell? ⟨gb106, 0, none⟩ = some (.int .i64 a0_0) := (blk_cell BK106.out 0).trans rfl
                    have hcz62_1 : wr.cell? ⟨gb106, 1, none⟩ = some (.int .i64 a0_1) := (blk_cell BK106.out 1).trans rfl
                    have hcz62_2 : wr.cell? ⟨gb106, 2, none⟩ = some (.slice A0_2 l0_2.length c0_2) := (blk_cell BK106.out 2).trans rfl
                    have hfz62_0 := blk_frozen BK106.out 0
                    have hfz62_1 := blk_frozen BK106.out 1
                    have hfz62_2 := blk_frozen BK106.out 2
                    have p108 : 0 ≤ (0 : Int) := (by omega)
                    have q108 : 0 < (l0_2.length : Int) := of_decide_eq_true (by first | (with_reducible assumption) | assumption)
                    obtain ⟨ad108, A108_2, c108_2, e108, hx108_0, hx108_1, hx108_2, hl108_2, hi108_2⟩ := at_T68 HR0_2.out 0 p108 q108
                    cases e108
                    have qi108 : (0 < l0_2.length) = True := eq_true (by omega)
                    (try rw [show ((0 : Int)).toNat = 0 from rfl] at hx108_0)
                    (try rw [show 0 * 3 = 0 from rfl] at hx108_0)
                    (try rw [Addr.add_zero'] at hx108_0)
                    (try rw [show ((0 : Int)).toNat = 0 from rfl] at hx108_1)
                    (try rw [show 0 * 3 = 0 from rfl] at hx108_1)
                    (try rw [Addr.add_zero'] at hx108_1)
                    (try rw [show ((0 : Int)).toNat = 0 from rfl] at hx108_2)
                    (try rw [show 0 * 3 = 0 from rfl] at hx108_2)
                    (try rw [Addr.add_zero'] at hx108_2)
                    replace hx108_0 := (HB.out.cell (World.block_lt_of_cell? w _ hx108_0)).trans hx108_0
                    replace hx108_1 := (HB.out.cell (World.block_lt_of_cell? w _ hx108_1)).trans hx108_1
                    replace hx108_2 := (HB.out.cell (World.block_lt_of_cell? w _ hx108_2)).trans hx108_2
                    have HR108_2 := Aside0.mk hi108_2
                    have HC108_2 := Aside0.mk hl108_2
                    clear hi108_2 hl108_2
                    replace p108 := eq_true p108
                    replace q108 := eq_true q108
                    go_wp2
                    repeat (go_quiet (fail); try go_wp2)
                    go_ret
                    exact ⟨by first | rfl | (simp [errW_none, errW_some] <;> rfl) | (simp [*, errW_none, errW_some] <;> rfl), by repeat (first | (with_reducible first | exact HB.out | apply below_alloc | apply pw_below_drewN | apply below_drew1 | refine below_set ?_ GE106.out) | exact HB.out)⟩
                  · rw [if_neg c61] at H
                    have c61b0 : decide (a0_1 < ((rd_T68 l0_2 0).f0)) = false := decide_eq_false c61
                    clear c61
                    obtain ⟨ji63, hji63⟩ : ∃ j_ : Int, (wrap64 ((l0_2.length : Int) - 1)) = j_ := ⟨_, rfl⟩
                    replace H : (if 0 ≤ (ji63) then (if (ji63) < (l0_2.length : Int) then (if a0_1 > (wrap64 (((rd_T68 l0_2 (ji63)).f0) + 4096)) then (some 1) else (if (l0_2.length : Int) > 1 then (if 1 < (l0_2.length : Int) then (if a0_1 ≥ ((rd_T68 l0_2 1).f0) then (some 1) else (some 0)) else (none)) else (some 0))) else (none)) else (none)) = some r := by first | (rw [hji63] at H; exact H) | (simp only [hji63] at H ⊢; exact H)
                    have hji63w : (IntKind.i64.wrap ((l0_2.length : Int) - 1)) = ji63 := (i64_w _).trans hji63
                    by_cases c64 : 0 ≤ (ji63)
                    · rw [if_pos c64] at H
                      have c64b0 : decide (0 ≤ (ji63)) = true := decide_eq_true c64
                      clear c64
                      by_cases c65 : (ji63) < (l0_2.length : Int)
                      · rw [if_pos c65] at H
                        have c65b0 : decide ((ji63) < (l0_2.length : Int)) = true := decide_eq_true c65
                        clear c65
                        by_cases c66 : a0_1 > (wrap64 (((rd_T68 l0_2 (ji63)).f0) + 4096))
                        · rw [if_pos c66] at H
                          have c66b0 : decide ((wrap64 (((rd_T68 l0_2 (ji63)).f0) + 4096)) < a0_1) = true := decide_eq_true c66
                          clear c66
                          obtain rfl := Option.some.inj H
                          have hcz67_0 : wr.cell? ⟨gb106, 0, none⟩ = some (.int .i64 a0_0) := (blk_cell BK106.out 0).trans rfl
                          have hcz67_1 : wr.cell? ⟨gb106, 1, none⟩ = some (.int .i64 a0_1) := (blk_cell BK106.out 1).trans rfl
                          have hcz67_2 : wr.cell? ⟨gb106, 2, none⟩ = some (.slice A0_2 l0_2.length c0_2) := (blk_cell BK106.out 2).trans rfl
                          have hfz67_0 := blk_frozen BK106.out 0
                          have hfz67_1 := blk_frozen BK106.out 1
                          have hfz67_2 := blk_frozen BK106.out 2
                          have p108 : 0 ≤ (0 : Int) := (by omega)
                          have q108 : 0 < (l0_2.length : Int) := of_decide_eq_true (by first | (with_reducible assumption) | assumption)
                          obtain ⟨ad108, A108_2, c108_2, e108, hx108_0, hx108_1, hx108_2, hl108_2, hi108_2⟩ := at_T68 HR0_2.out 0 p108 q108
                          cases e108
                          have qi108 : (0 < l0_2.length) = True := eq_true (by omega)
                          (try rw [show ((0 : Int)).toNat = 0 from rfl] at hx108_0)
                          (try rw [show 0 * 3 = 0 from rfl] at hx108_0)
                          (try rw [Addr.add_zero'] at hx108_0)
                          (try rw [show ((0 : Int)).toNat = 0 from rfl] at hx108_1)
                          (try rw [show 0 * 3 = 0 from rfl] at hx108_1)
                          (try rw [Addr.add_zero'] at hx108_1)
                          (try rw [show ((0 : Int)).toNat = 0 from rfl] at hx108_2)
                          (try rw [show 0 * 3 = 0 from rfl] at hx108_2)
                          (try rw [Addr.add_zero'] at hx108_2)
                          replace hx108_0 := (HB.out.cell (World.block_lt_of_cell? w _ hx108_0)).trans hx108_0
                          replace hx108_1 := (HB.out.cell (World.block_lt_of_cell? w _ hx108_1)).trans hx108_1
                          replace hx108_2 := (HB.out.cell (World.block_lt_of_cell? w _ hx108_2)).trans hx108_2
                          have HR108_2 := Aside0.mk hi108_2
                          have HC108_2 := Aside0.mk hl108_2
                          clear hi108_2 hl108_2
                          replace p108 := eq_true p108
                          replace q108 := eq_true q108
                          have p109 : 0 ≤ ((ji63) : Int) := of_decide_eq_true (by first | (with_reducible assumption) | assumption)
                          have q109 : (ji63) < (l0_2.length : Int) := of_decide_eq_true (by first | (with_reducible assumption) | assumption)
                          obtain ⟨ad109, A109_2, c109_2, e109, hx109_0, hx109_1, hx109_2, hl109_2, hi109_2⟩ := at_T68 HR0_2.out (ji63) p109 q109
                          obtain rfl : ad108 = ad109 := (by injection e109)
                          replace hx109_0 := (HB.out.cell (World.block_lt_of_cell? w _ hx109_0)).trans hx109_0
                          replace hx109_1 := (HB.out.cell (World.block_lt_of_cell? w _ hx109_1)).trans hx109_1
                          replace hx109_2 := (HB.out.cell (World.block_lt_of_cell? w _ hx109_2)).trans hx109_2
                          have HR109_2 := Aside0.mk hi109_2
                          have HC109_2 := Aside0.mk hl109_2
                          clear hi109_2 hl109_2
                          replace p109 := eq_true p109
                          replace q109 := eq_true q109
                          go_wp2
                          repeat (go_quiet (fail); try go_wp2)
                          go_ret
                          exact ⟨by first | rfl | (simp [errW_none, errW_some] <;> rfl) | (simp only [← hji63]; first | rfl | (simp [errW_none, errW_some] <;> rfl)) | (simp [*, errW_none, errW_some] <;> rfl), by repeat (first | (with_reducible first | exact HB.out | apply below_alloc | apply pw_below_drewN | apply below_drew1 | refine below_set ?_ GE106.out) | exact HB.out)⟩
                        · rw [if_neg c66] at H
                          have c66b0 : decide ((wrap64 (((rd_T68 l0_2 (ji63)).f0) + 4096)) < a0_1) = false := decide_eq_false c66
                          clear c66
                          by_cases c68 : (l0_2.length : Int) > 1
                          · rw [if_pos c68] at H
                            have c68b0 : decide (1 < (l0_2.length : Int)) = true := decide_eq_true c68
                            have c68b1 : decide (1 < l0_2.length) = true := decide_eq_true (by omega)
                            clear c68
                            by_cases c69 : 1 < (l0_2.length : Int)
                            · rw [if_pos c69] at H
                              have c69b0 : decide (1 < (l0_2.length : Int)) = true := decide_eq_true c69
                              have c69b1 : decide (1 < l0_2.length) = true := decide_eq_true (by omega)
                              clear c69
                              by_cases c70 : a0_1 ≥ ((rd_T68 l0_2 1).f0)
                              · rw [if_pos c70] at H
                                have c70b0 : decide (((rd_T68 l0_2 1).f0) ≤ a0_1) = true := decide_eq_true c70
                                clear c70
                                obtain rfl := Option.some.inj H
                                have hcz71_0 : wr.cell? ⟨gb106, 0, none⟩ = some (.int .i64 a0_0) := (blk_cell BK106.out 0).trans rfl
                                have hcz71_1 : wr.cell? ⟨gb106, 1, none⟩ = some (.int .i64 a0_1) := (blk_cell BK106.out 1).trans rfl
                                have hcz71_2 : wr.cell? ⟨gb106, 2, none⟩ = some (.slice A0_2 l0_2.length c0_2) := (blk_cell BK106.out 2).trans rfl
                                have hfz71_0 := blk_frozen BK106.out 0
                                have hfz71_1 := blk_frozen BK106.out 1
                                have hfz71_2 := blk_frozen BK106.out 2
                                have p108 : 0 ≤ (0 : Int) := (by omega)
                                have q108 : 0 < (l0_2.length : Int) := of_decide_eq_true (by first | (with_reducible assumption) | assumption)
                                obtain ⟨ad108, A108_2, c108_2, e108, hx108_0, hx108_1, hx108_2, hl108_2, hi108_2⟩ := at_T68 HR0_2.out 0 p108 q108
                                cases e108
                                have qi108 : (0 < l0_2.length) = True := eq_true (by omega)
                                (try rw [show ((0 : Int)).toNat = 0 from rfl] at hx108_0)
                                (try rw [show 0 * 3 = 0 from rfl] at hx108_0)
                                (try rw [Addr.add_zero'] at hx108_0)
                                (try rw [show ((0 : Int)).toNat = 0 from rfl] at hx108_1)
                                (try rw [show 0 * 3 = 0 from rfl] at hx108_1)
                                (try rw [Addr.add_zero'] at hx108_1)
                                (try rw [show ((0 : Int)).toNat = 0 from rfl] at hx108_2)
                                (try rw [show 0 * 3 = 0 from rfl] at hx108_2)
                                (try rw [Addr.add_zero'] at hx108_2)
                                replace hx108_0 := (HB.out.cell (World.block_lt_of_cell? w _ hx108_0)).trans hx108_0
                                replace hx108_1 := (HB.out.cell (World.block_lt_of_cell? w _ hx108_1)).trans hx108_1
                                replace hx108_2 := (HB.out.cell (World.block_lt_of_cell? w _ hx108_2)).trans hx108_2
                                have HR108_2 := Aside0.mk hi108_2
                                have HC108_2 := Aside0.mk hl108_2
                                clear hi108_2 hl108_2
                                replace p108 := eq_true p108
                                replace q108 := eq_true q108
                                have p109 : 0 ≤ ((ji63) : Int) := of_decide_eq_true (by first | (with_reducible assumption) | assumption)
                                have q109 : (ji63) < (l0_2.length : Int) := of_decide_eq_true (by first | (with_reducible assumption) | assumption)
                                obtain ⟨ad109, A109_2, c109_2, e109, hx109_0, hx109_1, hx109_2, hl109_2, hi109_2⟩ := at_T68 HR0_2.out (ji63) p109 q109
                                obtain rfl : ad108 = ad109 := (by injection e109)
                                replace hx109_0 := (HB.out.cell (World.block_lt_of_cell? w _ hx109_0)).trans hx109_0
                                replace hx109_1 := (HB.out.cell (World.block_lt_of_cell? w _ hx109_1)).trans hx109_1
                                replace hx109_2 := (HB.out.cell (World.block_lt_of_cell? w _ hx109_2)).trans hx109_2
                                have HR109_2 := Aside0.mk hi109_2
                                have HC109_2 := Aside0.mk hl109_2
                                clear hi109_2 hl109_2
                                replace p109 := eq_true p109
                                replace q109 := eq_true q109
                                have p110 : 0 ≤ (1 : Int) := (by omega)
                                have q110 : 1 < (l0_2.length : Int) := of_decide_eq_true (by first | (with_reducible assumption) | assumption)
                                obtain ⟨ad110, A110_2, c110_2, e110, hx110_0, hx110_1, hx110_2, hl110_2, hi110_2⟩ := at_T68 HR0_2.out 1 p110 q110
                                obtain rfl : ad108 = ad110 := (by injection e110)
                                (try simp only [show (1 : Int).toNat = 1 from rfl, Nat.reduceMul, Nat.reduceEqDiff, Go.Addr.add, ↓reduceIte] at hx110_0)
                                (try simp only [show (1 : Int).toNat = 1 from rfl, Nat.reduceMul, Nat.reduceEqDiff, Go.Addr.add, ↓reduceIte] at hx110_1)
                                (try simp only [show (1 : Int).toNat = 1 from rfl, Nat.reduceMul, Nat.reduceEqDiff, Go.Addr.add, ↓reduceIte] at hx110_2)
                                have qi110 : (1 < l0_2.length) = True := eq_true (by omega)
                                (try rw [show ((1 : Int)).toNat = 1 from rfl] at hx110_0)
                                (try rw [show 1 * 3 = 3 from rfl] at hx110_0)
                                (try rw [show ((1 : Int)).toNat = 1 from rfl] at hx110_1)
                                (try rw [show 1 * 3 = 3 from rfl] at hx110_1)
                                (try rw [show ((1 : Int)).toNat = 1 from rfl] at hx110_2)
                                (try rw [show 1 * 3 = 3 from rfl] at hx110_2)
                                replace hx110_0 := (HB.out.cell (World.block_lt_of_cell? w _ hx110_0)).trans hx110_0
                                replace hx110_1 := (HB.out.cell (World.block_lt_of_cell? w _ hx110_1)).trans hx110_1
                                replace hx110_2 := (HB.out.cell (World.block_lt_of_cell? w _ hx110_2)).trans hx110_2
                                have HR110_2 := Aside0.mk hi110_2
                                have HC110_2 := Aside0.mk hl110_2
                                clear hi110_2 hl110_2
                                replace p110 := eq_true p110
                                replace q110 := eq_true q110
                                go_wp2
                                repeat (go_quiet (fail); try go_wp2)
                                go_ret
                                exact ⟨by first | rfl | (simp [errW_none, errW_some] <;> rfl) | (simp only [← hji63]; first | rfl | (simp [errW_none, errW_some] <;> rfl)) | (simp [*, errW_none, errW_some] <;> rfl), by repeat (first | (with_reducible first | exact HB.out | apply below_alloc | apply pw_below_drewN | apply below_drew1 | refine below_set ?_ GE106.out) | exact HB.out)⟩
                              · rw [if_neg c70] at H
                                have c70b0 : decide (((rd_T68 l0_2 1).f0) ≤ a0_1) = false := decide_eq_false c70
                                clear c70
                                obtain rfl := Option.some.inj H
                                have hcz72_0 : wr.cell? ⟨gb106, 0, none⟩ = some (.int .i64 a0_0) := (blk_cell BK106.out 0).trans rfl
                                have hcz72_1 : wr.cell? ⟨gb106, 1, none⟩ = some (.int .i64 a0_1) := (blk_cell BK106.out 1).trans rfl
                                have hcz72_2 : wr.cell? ⟨gb106, 2, none⟩ = some (.slice A0_2 l0_2.length c0_2) := (blk_cell BK106.out 2).trans rfl
                                have hfz72_0 := blk_frozen BK106.out 0
                                have hfz72_1 := blk_frozen BK106.out 1
                                have hfz72_2 := blk_frozen BK106.out 2
                                have p108 : 0 ≤ (0 : Int) := (by omega)
                                have q108 : 0 < (l0_2.length : Int) := of_decide_eq_true (by first | (with_reducible assumption) | assumption)
                                obtain ⟨ad108, A108_2, c108_2, e108, hx108_0, hx108_1, hx108_2, hl108_2, hi108_2⟩ := at_T68 HR0_2.out 0 p108 q108
                                cases e108
                                have qi108 : (0 < l0_2.length) = True := eq_true (by omega)
                                (try rw [show ((0 : Int)).toNat = 0 from rfl] at hx108_0)
                                (try rw [show 0 * 3 = 0 from rfl] at hx108_0)
                                (try rw [Addr.add_zero'] at hx108_0)
                                (try rw [show ((0 : Int)).toNat = 0 from rfl] at hx108_1)
                                (try rw [show 0 * 3 = 0 from rfl] at hx108_1)
                                (try rw [Addr.add_zero'] at hx108_1)
                                (try rw [show ((0 : Int)).toNat = 0 from rfl] at hx108_2)
                                (try rw [show 0 * 3 = 0 from rfl] at hx108_2)
                                (try rw [Addr.add_zero'] at hx108_2)
                                replace hx108_0 := (HB.out.cell (World.block_lt_of_cell? w _ hx108_0)).trans hx108_0
                                replace hx108_1 := (HB.out.cell (World.block_lt_of_cell? w _ hx108_1)).trans hx108_1
                                replace hx108_2 := (HB.out.cell (World.block_lt_of_cell? w _ hx108_2)).trans hx108_2
                                have HR108_2 := Aside0.mk hi108_2
                                have HC108_2 := Aside0.mk hl108_2
                                clear hi108_2 hl108_2
                                replace p108 := eq_true p108
                                replace q108 := eq_true q108
                                have p109 : 0 ≤ ((ji63) : Int) := of_decide_eq_true (by first | (with_reducible assumption) | assumption)
                                have q109 : (ji63) < (l0_2.length : Int) := of_decide_eq_true (by first | (with_reducible assumption) | assumption)
                                obtain ⟨ad109, A109_2, c109_2, e109, hx109_0, hx109_1, hx109_2, hl109_2, hi109_2⟩ := at_T68 HR0_2.out (ji63) p109 q109
                                obtain rfl : ad108 = ad109 := (by injection e109)
                                replace hx109_0 := (HB.out.cell (World.block_lt_of_cell? w _ hx109_0)).trans hx109_0
                                replace hx109_1 := (HB.out.cell (World.block_lt_of_cell? w _ hx109_1)).trans hx109_1
                                replace hx109_2 := (HB.out.cell (World.block_lt_of_cell? w _ hx109_2)).trans hx109_2
                                have HR109_2 := Aside0.mk hi109_2
                                have HC109_2 := Aside0.mk hl109_2
                                clear hi109_2 hl109_2
                                replace p109 := eq_true p109
                                replace q109 := eq_true q109
                                have p110 : 0 ≤ (1 : Int) := (by omega)
                                have q110 : 1 < (l0_2.length : Int) := of_decide_eq_true (by first | (with_reducible assumption) | assumption)
                                obtain ⟨ad110, A110_2, c110_2, e110, hx110_0, hx110_1, hx110_2, hl110_2, hi110_2⟩ := at_T68 HR0_2.out 1 p110 q110
                                obtain rfl : ad108 = ad110 := (by injection e110)
                                (try simp only [show (1 : Int).toNat = 1 from rfl, Nat.reduceMul, Nat.reduceEqDiff, Go.Addr.add, ↓reduceIte] at hx110_0)
                                (try simp only [show (1 : Int).toNat = 1 from rfl, Nat.reduceMul, Nat.reduceEqDiff, Go.Addr.add, ↓reduceIte] at hx110_1)
                                (try simp only [show (1 : Int).toNat = 1 from rfl, Nat.reduceMul, Nat.reduceEqDiff, Go.Addr.add, ↓reduceIte] at hx110_2)
                                have qi110 : (1 < l0_2.length) = True := eq_true (by omega)
                                (try rw [show ((1 : Int)).toNat = 1 from rfl] at hx110_0)
                                (try rw [show 1 * 3 = 3 from rfl] at hx110_0)
                                (try rw [show ((1 : Int)).toNat = 1 from rfl] at hx110_1)
                                (try rw [show 1 * 3 = 3 from rfl] at hx110_1)
                                (try rw [show ((1 : Int)).toNat = 1 from rfl] at hx110_2)
                                (try rw [show 1 * 3 = 3 from rfl] at hx110_2)
                                replace hx110_0 := (HB.out.cell (World.block_lt_of_cell? w _ hx110_0)).trans hx110_0
                                replace hx110_1 := (HB.out.cell (World.block_lt_of_cell? w _ hx110_1)).trans hx110_1
                                replace hx110_2 := (HB.out.cell (World.block_lt_of_cell? w _ hx110_2)).trans hx110_2
                                have HR110_2 := Aside0.mk hi110_2
                                have HC110_2 := Aside0.mk hl110_2
                                clear hi110_2 hl110_2
                                replace p110 := eq_true p110
                                replace q110 := eq_true q110
                                go_wp2
                                repeat (go_quiet (fail); try go_wp2)
                                go_ret
                                exact ⟨by first | rfl | (simp [errW_none, errW_some] <;> rfl) | (simp only [← hji63]; first | rfl | (simp [errW_none, errW_some] <;> rfl)) | (simp [*, errW_none, errW_some] <;> rfl), by repeat (first | (with_reducible first | exact HB.out | apply below_alloc | apply pw_below_drewN | apply below_drew1 | refine below_set ?_ GE106.out) | exact HB.out)⟩
                            · rw [if_neg c69] at H
                              exact absurd H (by simp)
                          · rw [if_neg c68] at H
                            have c68b0 : decide (1 < (l0_2.length : Int)) = false := decide_eq_false c68
                            have c68b1 : decide (1 < l0_2.length) = false := decide_eq_false (by omega)
                            clear c68
                            obtain rfl := Option.some.inj H
                            have hcz73_0 : wr.cell? ⟨gb106, 0, none⟩ = some (.int .i64 a0_0) := (blk_cell BK106.out 0).trans rfl
                            have hcz73_1 : wr.cell? ⟨gb106, 1, none⟩ = some (.int .i64 a0_1) := (blk_cell BK106.out 1).trans rfl
                            have hcz73_2 : wr.cell? ⟨gb106, 2, none⟩ = some (.slice A0_2 l0_2.length c0_2) := (blk_cell BK106.out 2).trans rfl
                            have hfz73_0 := blk_frozen BK106.out 0
                            have hfz73_1 := blk_frozen BK106.out 1
                            have hfz73_2 := blk_frozen BK106.out 2
                            have p108 : 0 ≤ (0 : Int) := (by omega)
                            have q108 : 0 < (l0_2.length : Int) := of_decide_eq_true (by first | (with_reducible assumption) | assumption)
                            obtain ⟨ad108, A108_2, c108_2, e108, hx108_0, hx108_1, hx108_2, hl108_2, hi108_2⟩ := at_T68 HR0_2.out 0 p108 q108
                            cases e108
                            have qi108 : (0 < l0_2.length) = True := eq_true (by omega)
                            (try rw [show ((0 : Int)).toNat = 0 from rfl] at hx108_0)
                            (try rw [show 0 * 3 = 0 from rfl] at hx108_0)
                            (try rw [Addr.add_zero'] at hx108_0)
                            (try rw [show ((0 : Int)).toNat = 0 from rfl] at hx108_1)
                            (try rw [show 0 * 3 = 0 from rfl] at hx108_1)
                            (try rw [Addr.add_zero'] at hx108_1)
                            (try rw [show ((0 : Int)).toNat = 0 from rfl] at hx108_2)
                            (try rw [show 0 * 3 = 0 from rfl] at hx108_2)
                            (try rw [Addr.add_zero'] at hx108_2)
                            replace hx108_0 := (HB.out.cell (World.block_lt_of_cell? w _ hx108_0)).trans hx108_0
                            replace hx108_1 := (HB.out.cell (World.block_lt_of_cell? w _ hx108_1)).trans hx108_1
                            replace hx108_2 := (HB.out.cell (World.block_lt_of_cell? w _ hx108_2)).trans hx108_2
                            have HR108_2 := Aside0.mk hi108_2
                            have HC108_2 := Aside0.mk hl108_2
                            clear hi108_2 hl108_2
                            replace p108 := eq_true p108
                            replace q108 := eq_true q108
                            have p109 : 0 ≤ ((ji63) : Int) := of_decide_eq_true (by first | (with_reducible assumption) | assumption)
                            have q109 : (ji63) < (l0_2.length : Int) := of_decide_eq_true (by first | (with_reducible assumption) | assumption)
                            obtain ⟨ad109, A109_2, c109_2, e109, hx109_0, hx109_1, hx109_2, hl109_2, hi109_2⟩ := at_T68 HR0_2.out (ji63) p109 q109
                            obtain rfl : ad108 = ad109 := (by injection e109)
                            replace hx109_0 := (HB.out.cell (World.block_lt_of_cell? w _ hx109_0)).trans hx109_0
                            replace hx109_1 := (HB.out.cell (World.block_lt_of_cell? w _ hx109_1)).trans hx109_1
                            replace hx109_2 := (HB.out.cell (World.block_lt_of_cell? w _ hx109_2)).trans hx109_2
                            have HR109_2 := Aside0.mk hi109_2
                            have HC109_2 := Aside0.mk hl109_2
                            clear hi109_2 hl109_2
                            replace p109 := eq_true p109
                            replace q109 := eq_true q109
                            go_wp2
                            repeat (go_quiet (fail); try go_wp2)
                            go_ret
                            exact ⟨by first | rfl | (simp [errW_none, errW_some] <;> rfl) | (simp only [← hji63]; first | rfl | (simp [errW_none, errW_some] <;> rfl)) | (simp [*, errW_none, errW_some] <;> rfl), by repeat (first | (with_reducible first | exact HB.out | apply below_alloc | apply pw_below_drewN | apply below_drew1 | refine below_set ?_ GE106.out) | exact HB.out)⟩
                      · rw [if_neg c65] at H
                        exact absurd H (by simp)
                    · rw [if_neg c64] at H
                      exact absurd H (by simp)
                · rw [if_neg c60] at H
                  exact absurd H (by simp)
              · rw [if_neg c59] at H
                have c59b0 : decide (0 < (l0_2.length : Int)) = false := decide_eq_false c59
                have c59b1 : decide (0 < l0_2.length) = false := decide_eq_false (by omega)
                clear c59
                by_cases c74 : (l0_2.length : Int) > 1
                · rw [if_pos c74] at H
                  have c74b0 : decide (1 < (l0_2.length : Int)) = true := decide_eq_true c74
                  have c74b1 : decide (1 < l0_2.length) = true := decide_eq_true (by omega)
                  clear c74
                  by_cases c75 : 1 < (l0_2.length : Int)
                  · rw [if_pos c75] at H
                    have c75b0 : decide (1 < (l0_2.length : Int)) = true := decide_eq_true c75
                    have c75b1 : decide (1 < l0_2.length) = true := decide_eq_true (by omega)
                    clear c75
                    by_cases c76 : a0_1 ≥ ((rd_T68 l0_2 1).f0)
                    · rw [if_pos c76] at H
                      have c76b0 : decide (((rd_T68 l0_2 1).f0) ≤ a0_1) = true := decide_eq_true c76
                      clear c76
                      obtain rfl := Option.some.inj H
                      have hcz77_0 : wr.cell? ⟨gb106, 0, none⟩ = some (.int .i64 a0_0) := (blk_cell BK106.out 0).trans rfl
                      have hcz77_1 : wr.cell? ⟨gb106, 1, none⟩ = some (.int .i64 a0_1) := (blk_cell BK106.out 1).trans rfl
                      have hcz77_2 : wr.cell? ⟨gb106, 2, none⟩ = some (.slice A0_2 l0_2.length c0_2) := (blk_cell BK106.out 2).trans rfl
                      have hfz77_0 := blk_frozen BK106.out 0
                      have hfz77_1 := blk_frozen BK106.out 1
                      have hfz77_2 := blk_frozen BK106.out 2
                      have p111 : 0 ≤ (1 : Int) := (by omega)
                      have q111 : 1 < (l0_2.length : Int) := of_decide_eq_true (by first | (with_reducible assumption) | assumption)
                      obtain ⟨ad111, A111_2, c111_2, e111, hx111_0, hx111_1, hx111_2, hl111_2, hi111_2⟩ := at_T68 HR0_2.out 1 p111 q111
                      cases e111
                      (try simp only [show (1 : Int).toNat = 1 from rfl, Nat.reduceMul, Nat.reduceEqDiff, Go.Addr.add, ↓reduceIte] at hx111_0)
                      (try simp only [show (1 : Int).toNat = 1 from rfl, Nat.reduceMul, Nat.reduceEqDiff, Go.Addr.add, ↓reduceIte] at hx111_1)
                      (try simp only [show (1 : Int).toNat = 1 from rfl, Nat.reduceMul, Nat.reduceEqDiff, Go.Addr.add, ↓reduceIte] at hx111_2)
                      have qi111 : (1 < l0_2.length) = True := eq_true (by omega)
                      (try rw [show ((1 : Int)).toNat = 1 from rfl] at hx111_0)
                      (try rw [show 1 * 3 = 3 from rfl] at hx111_0)
                      (try rw [show ((1 : Int)).toNat = 1 from rfl] at hx111_1)
                      (try rw [show 1 * 3 = 3 from rfl] at hx111_1)
                      (try rw [show ((1 : Int)).toNat = 1 from rfl] at hx111_2)
                      (try rw [show 1 * 3 = 3 from rfl] at hx111_2)
                      replace hx111_0 := (HB.out.cell (World.block_lt_of_cell? w _ hx111_0)).trans hx111_0
                      replace hx111_1 := (HB.out.cell (World.block_lt_of_cell? w _ hx111_1)).trans hx111_1
                      replace hx111_2 := (HB.out.cell (World.block_lt_of_cell? w _ hx111_2)).trans hx111_2
                      have HR111_2 := Aside0.mk hi111_2
                      have HC111_2 := Aside0.mk hl111_2
                      clear hi111_2 hl111_2
                      replace p111 := eq_true p111
                      replace q111 := eq_true q111
                      go_wp2
                      repeat (go_quiet (fail); try go_wp2)
                      go_ret
                      exact ⟨by first | rfl | (simp [errW_none, errW_some] <;> rfl) | (simp [*, errW_none, errW_some] <;> rfl), by repeat (first | (with_reducible first | exact HB.out | apply below_alloc | apply pw_below_drewN | apply below_drew1 | refine below_set ?_ GE106.out) | exact HB.out)⟩
                    · rw [if_neg c76] at H
                      have c76b0 : decide (((rd_T68 l0_2 1).f0) ≤ a0_1) = false := decide_eq_false c76
                      clear c76
                      obtain rfl := Option.some.inj H
                      have hcz78_0 : wr.cell? ⟨gb106, 0, none⟩ = some (.int .i64 a0_0) := (blk_cell BK106.out 0).trans rfl
                      have hcz78_1 : wr.cell? ⟨gb106, 1, none⟩ = some (.int .i64 a0_1) := (blk_cell BK106.out 1).trans rfl
                      have hcz78_2 : wr.cell? ⟨gb106, 2, none⟩ = some (.slice A0_2 l0_2.length c0_2) := (blk_cell BK106.out 2).trans rfl
                      have hfz78_0 := blk_frozen BK106.out 0
                      have hfz78_1 := blk_frozen BK106.out 1
                      have hfz78_2 := blk_frozen BK106.out 2
                      have p111 : 0 ≤ (1 : Int) := (by omega)
                      have q111 : 1 < (l0_2.length : Int) := of_decide_eq_true (by first | (with_reducible assumption) | assumption)
                      obtain ⟨ad111, A111_2, c111_2, e111, hx111_0, hx111_1, hx111_2, hl111_2, hi111_2⟩ := at_T68 HR0_2.out 1 p111 q111
                      cases e111
                      (try simp only [show (1 : Int).toNat = 1 from rfl, Nat.reduceMul, Nat.reduceEqDiff, Go.Addr.add, ↓reduceIte] at hx111_0)
                      (try simp only [show (1 : Int).toNat = 1 from rfl, Nat.reduceMul, Nat.reduceEqDiff, Go.Addr.add, ↓reduceIte] at hx111_1)
                      (try simp only [show (1 : Int).toNat = 1 from rfl, Nat.reduceMul, Nat.reduceEqDiff, Go.Addr.add, ↓reduceIte] at hx111_2)
                      have qi111 : (1 < l0_2.length) = True := eq_true (by omega)
                      (try rw [show ((1 : Int)).toNat = 1 from rfl] at hx111_0)
                      (try rw [show 1 * 3 = 3 from rfl] at hx111_0)
                      (try rw [show ((1 : Int)).toNat = 1 from rfl] at hx111_1)
                      (try rw [show 1 * 3 = 3 from rfl] at hx111_1)
                      (try rw [show ((1 : Int)).toNat = 1 from rfl] at hx111_2)
                      (try rw [show 1 * 3 = 3 from rfl] at hx111_2)
                      replace hx111_0 := (HB.out.cell (World.block_lt_of_cell? w _ hx111_0)).trans hx111_0
                      replace hx111_1 := (HB.out.cell (World.block_lt_of_cell? w _ hx111_1)).trans hx111_1
                      replace hx111_2 := (HB.out.cell (World.block_lt_of_cell? w _ hx111_2)).trans hx111_2
                      have HR111_2 := Aside0.mk hi111_2
                      have HC111_2 := Aside0.mk hl111_2
                      clear hi111_2 hl111_2
                      replace p111 := eq_true p111
                      replace q111 := eq_true q111
                      go_wp2
                      repeat (go_quiet (fail); try go_wp2)
                      go_ret
                      exact ⟨by first | rfl | (simp [errW_none, errW_some] <;> rfl) | (simp [*, errW_none, errW_some] <;> rfl), by repeat (first | (with_reducible first | exact HB.out | apply below_alloc | apply pw_below_drewN | apply below_drew1 | refine below_set ?_ GE106.out) | exact HB.out)⟩
                  · rw [if_neg c75] at H
                    exact absurd H (by simp)
                · rw [if_neg c74] at H
                  have c74b0 : decide (1 < (l0_2.length : Int)) = false := decide_eq_false c74
                  have c74b1 : decide (1 < l0_2.length) = false := decide_eq_false (by omega)
                  clear c74
                  obtain rfl := Option.some.inj H
                  go_wp2
                  repeat (go_quiet (fail); try go_wp2)
                  go_ret
                  exact ⟨by first | rfl | (simp [errW_none, errW_some] <;> rfl) | (simp [*, errW_none, errW_some] <;> rfl), by repeat (first | (with_reducible first | exact HB.out | apply below_alloc | apply pw_below_drewN | apply below_drew1 | refine below_set ?_ GE106.out) | exact HB.out)⟩

end Go.Proofs.Ytpcoelimabojcaa.R0
