-- Written by a program of this session (hprint.py, over the kit's print.py). Not trusted: Lean checks it.
import Derived.Test.YthlfhlnalmpmdaaPWireToldx0
namespace Go.Proofs.Ythlfhlnalmpmdaa.PWireTold
open Go.Proofs.Ythlfhlnalmpmdaa.Hand
open Go.RowKit Go.Proofs.YthlfhlnalmpmdaaW.PrintWords Go.Proofs.YthlfhlnalmpmdaaW.PrintLast Go.Proofs.YthlfhlnalmpmdaaW.PrintMore
attribute [local go_sem] max2_int min2_int max_two min_two max_three min_three max_four min_four   -- for this text's walks alone
set_option linter.unusedVariables false
set_option linter.unusedSimpArgs false

/-! ### gazettelaw01_WireTold: function 6 -/
mutual
def gazettelaw01_WireTold.j0 : Nat → Int → Int → List Int → Bool → Option (Bool)
  | 0, _, _, _, _ => none
  | k + 1, x2, x3, x9, x37 => if x37 = true then (if (x9.length : Int) = 0 then ((gazettelaw01_knows.f).bind fun t113 => (some t113)) else (some false)) else (if (x9.length : Int) < 9 then (some false) else (if 0 ≤ (wrap64 ((x9.length : Int) - 1)) then (if (wrap64 ((x9.length : Int) - 1)) ≤ (x9.length : Int) then ((wire_Unframe.f (x9.take ((wrap64 ((x9.length : Int) - 1)) : Int).toNat) 0).bind fun bt118 => (if (wrap64 (8 * (wrap64 ((x9.length : Int) - 5)))) = 0 then (none) else (gazettelaw01_WireTold.l0 k (Int.tmod (wrap64 ((Int.tmod x2 (wrap64 (8 * (wrap64 ((x9.length : Int) - 5))))) + (wrap64 (8 * (wrap64 ((x9.length : Int) - 5)))))) (wrap64 (8 * (wrap64 ((x9.length : Int) - 5))))) x3 x9 bt118.2.2.2 (wrap64 (8 * (wrap64 ((x9.length : Int) - 5)))) false 0))) else (none)) else (none)))
def gazettelaw01_WireTold.l0 : Nat → Int → Int → List Int → Int → Int → Bool → Int → Option (Bool)
  | 0, _, _, _, _, _, _, _ => none
  | k + 1, x2, x3, x9, x14, x15, x16, x17 => if x17 < 32 then (gazettelaw01_WireTold.j2 k x2 x3 x9 x14 x15 x16 x17 (decide ((wrap64 (x2 + x17)) < x15))) else (gazettelaw01_WireTold.j2 k x2 x3 x9 x14 x15 x16 x17 false)
def gazettelaw01_WireTold.j2 : Nat → Int → Int → List Int → Int → Int → Bool → Int → Bool → Option (Bool)
  | 0, _, _, _, _, _, _, _, _ => none
  | k + 1, x2, x3, x9, x14, x15, x16, x17, x77 => if x77 = true then (if 0 ≤ (IntKind.u64.wrap (x17)) then (if (Go.bits .and .u32 (shr .u32 x3 (IntKind.u64.wrap (x17))) 1) = 1 then (if 0 ≤ (wrap64 (5 + (wrap64 (Int.tdiv (wrap64 (x2 + x17)) 8)))) then (if (wrap64 (5 + (wrap64 (Int.tdiv (wrap64 (x2 + x17)) 8)))) < (x9.length : Int) then (if 0 ≤ (IntKind.u64.wrap (Int.tmod (wrap64 (x2 + x17)) 8)) then (gazettelaw01_WireTold.l0 k x2 x3 (x9.set ((wrap64 (5 + (wrap64 (Int.tdiv (wrap64 (x2 + x17)) 8)))) : Int).toNat (Go.bits .xor .u8 (rd x9 (wrap64 (5 + (wrap64 (Int.tdiv (wrap64 (x2 + x17)) 8))))) (shl .u8 1 (IntKind.u64.wrap (Int.tmod (wrap64 (x2 + x17)) 8))))) x14 x15 true (wrap64 (x17 + 1))) else (none)) else (none)) else (none)) else (gazettelaw01_WireTold.l0 k x2 x3 x9 x14 x15 x16 (wrap64 (x17 + 1)))) else (none)) else ((wire_Unframe.f x9 0).bind fun bt126 => (if x16 = true then ((gazettelaw01_num.f x14).bind fun t132 => (if t132 = 20 then ((gazettelaw01_num.f bt126.2.2.2).bind fun t133 => (if t133 = 21 then (some ((bt126.2.1.length : Int) == 0)) else (some false))) else (some false))) else ((gazettelaw01_num.f x14).bind fun t134 => (if t134 = 20 then ((gazettelaw01_num.f bt126.2.2.2).bind fun t135 => (some (t135 == 0))) else (some false)))))
end
def gazettelaw01_WireTold.f (k : Nat) (a0 : Int) (l1 : List Int) (a2 : Int) (a3 : Int) : Option (Bool) := (some (([] : List Int) : List Int)).bind fun y101 => (if y101.length + l1.length < 140737488355328 then ((wire_Frame.f a0 (y101 ++ l1)).bind fun bt107 => ((gazettelaw01_num.f bt107.2).bind fun t111 => (if t111 = 0 then ((gazettelaw01_knows.f).bind fun t112 => (gazettelaw01_WireTold.j0 k a2 a3 bt107.1 (!t112))) else (gazettelaw01_WireTold.j0 k a2 a3 bt107.1 true)))) else (none))
theorem gazettelaw01_WireTold.mono_l : ∀ k, (∀ y0 y1 y2 y3, LeO (gazettelaw01_WireTold.j0 k y0 y1 y2 y3) (gazettelaw01_WireTold.j0 (k + 1) y0 y1 y2 y3)) ∧ (∀ y0 y1 y2 y3 y4 y5 y6, LeO (gazettelaw01_WireTold.l0 k y0 y1 y2 y3 y4 y5 y6) (gazettelaw01_WireTold.l0 (k + 1) y0 y1 y2 y3 y4 y5 y6)) ∧ (∀ y0 y1 y2 y3 y4 y5 y6 y7, LeO (gazettelaw01_WireTold.j2 k y0 y1 y2 y3 y4 y5 y6 y7) (gazettelaw01_WireTold.j2 (k + 1) y0 y1 y2 y3 y4 y5 y6 y7))
  | 0 => ⟨fun _ _ _ _ r h => by simp [gazettelaw01_WireTold.j0] at h, fun _ _ _ _ _ _ _ r h => by simp [gazettelaw01_WireTold.l0] at h, fun _ _ _ _ _ _ _ _ r h => by simp [gazettelaw01_WireTold.j2] at h⟩
  | k + 1 => by
    obtain ⟨ih0, ih1, ih2⟩ := gazettelaw01_WireTold.mono_l k
    refine ⟨?_, ?_, ?_⟩
    · intro y0 y1 y2 y3
      unfold gazettelaw01_WireTold.j0
      repeat' first
      | (with_reducible exact ih0 _ _ _ _)
      | (with_reducible exact ih1 _ _ _ _ _ _ _)
      | (with_reducible exact ih2 _ _ _ _ _ _ _ _)
      | (with_reducible exact LeO.refl _)
      | (with_reducible exact LeO.none _)
      | (with_reducible refine LeO.ite ?_ ?_)
      | (with_reducible refine LeO.bind ?_ (fun _ => ?_))
      | exact ih0 _ _ _ _
      | exact ih1 _ _ _ _ _ _ _
      | exact ih2 _ _ _ _ _ _ _ _
      | exact LeO.none _
      | refine LeO.ite ?_ ?_
      | refine LeO.bind ?_ (fun _ => ?_)
    · intro y0 y1 y2 y3 y4 y5 y6
      unfold gazettelaw01_WireTold.l0
      repeat' first
      | (with_reducible exact ih0 _ _ _ _)
      | (with_reducible exact ih1 _ _ _ _ _ _ _)
      | (with_reducible exact ih2 _ _ _ _ _ _ _ _)
      | (with_reducible exact LeO.refl _)
      | (with_reducible exact LeO.none _)
      | (with_reducible refine LeO.ite ?_ ?_)
      | (with_reducible refine LeO.bind ?_ (fun _ => ?_))
      | exact ih0 _ _ _ _
      | exact ih1 _ _ _ _ _ _ _
      | exact ih2 _ _ _ _ _ _ _ _
      | exact LeO.none _
      | refine LeO.ite ?_ ?_
      | refine LeO.bind ?_ (fun _ => ?_)
    · intro y0 y1 y2 y3 y4 y5 y6 y7
      unfold gazettelaw01_WireTold.j2
      repeat' first
      | (with_reducible exact ih0 _ _ _ _)
      | (with_reducible exact ih1 _ _ _ _ _ _ _)
      | (with_reducible exact ih2 _ _ _ _ _ _ _ _)
      | (with_reducible exact LeO.refl _)
      | (with_reducible exact LeO.none _)
      | (with_reducible refine LeO.ite ?_ ?_)
      | (with_reducible refine LeO.bind ?_ (fun _ => ?_))
      | exact ih0 _ _ _ _
      | exact ih1 _ _ _ _ _ _ _
      | exact ih2 _ _ _ _ _ _ _ _
      | exact LeO.none _
      | refine LeO.ite ?_ ?_
      | refine LeO.bind ?_ (fun _ => ?_)
theorem gazettelaw01_WireTold.mono : ∀ a0 a1 a2 a3 k, LeO (gazettelaw01_WireTold.f k a0 a1 a2 a3) (gazettelaw01_WireTold.f (k + 1) a0 a1 a2 a3) := by
  intro a0 a1 a2 a3 k
  obtain ⟨ih0, ih1, ih2⟩ := gazettelaw01_WireTold.mono_l k
  unfold gazettelaw01_WireTold.f
  repeat' first
      | (with_reducible exact ih0 _ _ _ _)
      | (with_reducible exact ih1 _ _ _ _ _ _ _)
      | (with_reducible exact ih2 _ _ _ _ _ _ _ _)
      | (with_reducible exact LeO.refl _)
      | (with_reducible exact LeO.none _)
      | (with_reducible refine LeO.ite ?_ ?_)
      | (with_reducible refine LeO.bind ?_ (fun _ => ?_))
      | exact ih0 _ _ _ _
      | exact ih1 _ _ _ _ _ _ _
      | exact ih2 _ _ _ _ _ _ _ _
      | exact LeO.none _
      | refine LeO.ite ?_ ?_
      | refine LeO.bind ?_ (fun _ => ?_)
set_option maxHeartbeats 8000000 in
set_option maxRecDepth 100000 in
theorem gazettelaw01_WireTold.calls (k : Nat) (a0 : Int) (A1 : Option Addr) (c1 : Nat) (l1 : List Int) (a2 : Int) (a3 : Int) (r : Bool) (w : World) (hr1 : Kd.C (Kd.int .u8) w A1 l1.length l1) (hc1 : l1.length ≤ c1) (h : gazettelaw01_WireTold.f k a0 l1 a2 a3 = some r) :
    Calls Try.prog 6 #[.int .i64 a0, .slice A1 l1.length c1, .int .i64 a2, .int .u32 a3] w fun e w' => e = .returned (.bool r) ∧ Below w.heap.size w w' := by
  have HR1 := Aside0.mk hr1
  have HC1 := Aside0.mk hc1
  clear hr1 hc1
  have HB := Aside0.mk (Below.refl w.heap.size w)
  have H : ((some (([] : List Int) : List Int)).bind fun y101 => (if y101.length + l1.length < 140737488355328 then ((wire_Frame.f a0 (y101 ++ l1)).bind fun bt107 => ((gazettelaw01_num.f bt107.2).bind fun t111 => (if t111 = 0 then ((gazettelaw01_knows.f).bind fun t112 => (gazettelaw01_WireTold.j0 k a2 a3 bt107.1 (!t112))) else (gazettelaw01_WireTold.j0 k a2 a3 bt107.1 true)))) else (none))) = some r := h
  clear h
  obtain ⟨y101, hy101⟩ : ∃ y_ : List Int, y_ = (([] : List Int)) := ⟨_, rfl⟩
  replace H : (if y101.length + l1.length < 140737488355328 then ((wire_Frame.f a0 (y101 ++ l1)).bind fun bt107 => ((gazettelaw01_num.f bt107.2).bind fun t111 => (if t111 = 0 then ((gazettelaw01_knows.f).bind fun t112 => (gazettelaw01_WireTold.j0 k a2 a3 bt107.1 (!t112))) else (gazettelaw01_WireTold.j0 k a2 a3 bt107.1 true)))) else (none)) = some r := by first | (rw [hy101]; with_reducible exact H) | (have H2_ := (Option.bind_some _ _).symm.trans H; rw [hy101]; with_reducible exact H2_) | (have H2_ := (Option.bind_some _ _).symm.trans H; with_reducible exact H2_) | with_reducible exact H | (rw [hy101]; exact H) | exact H
  have Ny101 := Aside0.mk hy101
  clear hy101
  by_cases c5 : y101.length + l1.length < 140737488355328
  · rw [if_pos c5] at H
    have LMc5 := Aside0.mk c5
    clear c5
    obtain ⟨y104, hy104⟩ : ∃ y_ : List Int, y_ = (y101 ++ l1) := ⟨_, rfl⟩
    replace H : ((wire_Frame.f a0 y104).bind fun bt107 => ((gazettelaw01_num.f bt107.2).bind fun t111 => (if t111 = 0 then ((gazettelaw01_knows.f).bind fun t112 => (gazettelaw01_WireTold.j0 k a2 a3 bt107.1 (!t112))) else (gazettelaw01_WireTold.j0 k a2 a3 bt107.1 true)))) = some r := by first | (rw [hy104]; with_reducible exact H) | (have H2_ := (Option.bind_some _ _).symm.trans H; rw [hy104]; with_reducible exact H2_) | (have H2_ := (Option.bind_some _ _).symm.trans H; with_reducible exact H2_) | with_reducible exact H | (rw [hy104]; exact H) | exact H
    have Ny104 := Aside0.mk hy104
    clear hy104
    replace H := Option.bind_eq_some_iff.mp H
    obtain ⟨⟨t107, t108⟩, A60, H⟩ := H
    replace H : ((gazettelaw01_num.f t108).bind fun t111 => (if t111 = 0 then ((gazettelaw01_knows.f).bind fun t112 => (gazettelaw01_WireTold.j0 k a2 a3 t107 (!t112))) else (gazettelaw01_WireTold.j0 k a2 a3 t107 true))) = some r := H
    have A6 := Aside0.mk A60
    clear A60
    have HC7 := Aside0.mk H
    clear H
    go_enter Try.func6, Try.ntmps6
    go_upto_region 2 with (first | ((with_reducible refine gate_dst (N := 25) rfl ?_); (try (refine gate_guard (by rfl) ?_; dsimp only)); refine Kd.R_lit (Kd.int .u8) _ 5 ?hg (N := 25) ?hd (xs := ([] : List Int)) (inner := []) (ok := fun _ => True) (okp := fun _ => True) ?hr ?hp (fun _ hk => hk) trivial (Below.refl _ _) (Nat.le_refl _) (by simp) ?_; (case hd => rfl); (case hg => rfl); (case hr => first | (go_simp; done) | (go_simp; rfl)); (case hp => exact (Reps.none _ _)); intro v102 w8 ho9 hb hg_ hnew_; clear hg_ hnew_; (first | rw [← Ny101.out] at ho9 | (simp only [Int.reduceToNat] at ho9; rw [← Ny101.out] at ho9)); have n0_ := Aside0.mk (Kd.R_lower ho9 (below_size (by repeat (first | (with_reducible first | exact HB.out | apply below_alloc | apply pw_below_drewN | apply below_drew1) | exact HB.out)))); have n1_ := Aside0.mk (below_step (by repeat (first | (with_reducible first | exact HB.out | apply below_alloc | apply pw_below_drewN | apply below_drew1) | exact HB.out)) hb); clear HB; have HO103 := n0_; have HB := n1_; clear n0_ n1_; clear hb ho9) | ((with_reducible refine gate_builtin (b := .append) (xs := #[.tmp 25, .tmp 26]) rfl ?_); (try (refine gate_guard (by rfl) ?_; dsimp only)); at_builtin; refine Kd.R_append_rows (Kd.int .u8) (w0 := w) w.heap.size rfl (.tmp 25) (.tmp 26) 22 5 (.int .u8 0) 1 rfl Try.underlying22 info5 rfl (by decide) (by omega) v102 y101 l1 _ _ _ (fun _ => True) (fun _ => False) rfl rfl ?aO ?aR (fun _ _ h => h) (fun _ h => h.elim) ?aF ?aB ?aS ?aL ?_; (case aR => repeat (first | exact (Kd.C_below HR1.out HB.out) | (with_reducible refine Kd.C_alloc ?_ _) | (with_reducible refine Kd.C_drewN ?_ _) | (with_reducible refine Kd.C_drew ?_))); (case aB => exact (by repeat (first | (with_reducible first | exact HB.out | apply below_alloc | apply pw_below_drewN | apply below_drew1) | exact HB.out))); (case aF => exact (fun _ _ => trivial)); (case aO => exact (by (with_reducible repeat (first | apply Kd.R_alloc | apply Kd.R_drewN | apply Kd.R_drew)); exact HO103.out)); (case aS => exact (below_size (by repeat (first | (with_reducible first | exact HB.out | apply below_alloc | apply pw_below_drewN | apply below_drew1) | exact HB.out)))); (case aL => have := LMc5.out; omega); intro v105 w10 ho hb hg hat; rw [← Ny104.out] at ho; have n0_ := Aside0.mk (hb); have n1_ := Aside0.mk (ho); clear HB; clear HO103; have HB := n0_; have HO106 := n1_; clear n0_ n1_; clear ho hb hg hat; obtain ⟨Ao11, co11, eo11⟩ := Kd.R_slice HO106.out; subst eo11) | ((with_reducible refine gate_callee (f := 21) rfl ?_); refine goesL_ (some 28) rfl rfl Try.func21 (by kernel_rfl) rfl #[.int .i64 a0, .slice Ao11 y104.length co11] rfl (by (try simp only [List.map_toArray, List.map_cons, List.map_nil]); first | done | rfl | (simp only [List.length_drop, List.length_take]; rfl)) ?_; (with_reducible refine (wire_Frame.calls a0 _ _ y104 t107 t108 _ ?side1 ?side2 A6.out).mono ?_); (case side1 => repeat (first | exact (Kd.R_reads' HO106.out).2.2 | (with_reducible refine Kd.C_alloc ?_ _) | (with_reducible refine Kd.C_drewN ?_ _) | (with_reducible refine Kd.C_drew ?_))); (case side2 => exact (Kd.R_reads' HO106.out).2.1); rintro e w12 ⟨v109, rfl, ho0, hb⟩; refine ⟨_, rfl, ?_⟩; have n0_ := Aside0.mk (Kd.R_elder' (by (with_reducible repeat (first | apply Kd.R_alloc | apply Kd.R_drewN | apply Kd.R_drew)); exact HO106.out) (Kd.R_base ho0) hb); have n1_ := Aside0.mk (Kd.R_lower (Kd.R_new' ho0 (Kd.R_lt (by (with_reducible repeat (first | apply Kd.R_alloc | apply Kd.R_drewN | apply Kd.R_drew)); exact HO106.out))) (below_size (by repeat (first | (with_reducible first | exact HB.out | apply below_alloc | apply pw_below_drewN | apply below_drew1) | exact HB.out)))); have n2_ := Aside0.mk (below_step (by repeat (first | (with_reducible first | exact HB.out | apply below_alloc | apply pw_below_drewN | apply below_drew1) | exact HB.out)) hb); clear HO106; clear HB; have HO106 := n0_; have HO110 := n1_; have HB := n2_; clear n0_ n1_ n2_; (try clear hb); (try clear hb2); (try clear hk); (try clear hi); (try clear ho0)))
    (try simp only [Act.put, List.setIfInBounds_toArray, List.set_cons_zero, List.set_cons_succ])
    go_cut [37] (fun v37 wc => ∃ (kq : Nat) (x37_6 : Bool), v37 = .bool x37_6 ∧ Aside0 (gazettelaw01_WireTold.j0 kq a2 a3 t107 x37_6 = some r) ∧ Aside0 (kq ≤ k) ∧ Aside0 (Kd.R (Kd.int .u8) 5 wc w.heap.size (fun _ => True) v109 t107) ∧ Aside0 (Below w.heap.size w wc))
    case first =>
      have H := HC7.out
      clear HC7
      replace H := Option.bind_eq_some_iff.mp H
      obtain ⟨t111, A130, H⟩ := H
      replace H : (if t111 = 0 then ((gazettelaw01_knows.f).bind fun t112 => (gazettelaw01_WireTold.j0 k a2 a3 t107 (!t112))) else (gazettelaw01_WireTold.j0 k a2 a3 t107 true)) = some r := H
      have A13 := Aside0.mk A130
      clear A130
      by_cases c14 : t111 = 0
      · rw [if_pos c14] at H
        have c14b0 : (t111 == 0) = true := beq_iff_eq.mpr c14
        have c14b1 : (t111 != 0) = false := bne_eq_false_iff_eq.mpr c14
        clear c14
        (first | rw [c14b0] | (simp only [i64_w, i32_w]; rw [c14b0]) | skip)
        replace H := Option.bind_eq_some_iff.mp H
        obtain ⟨t112, A150, H⟩ := H
        replace H : (gazettelaw01_WireTold.j0 k a2 a3 t107 (!t112)) = some r := H
        have A15 := Aside0.mk A150
        clear A150
        have H' := Aside0.mk H
        clear H
        go_wp2_with (first | ((with_reducible refine gate_callee (f := 19) rfl ?_); refine goesL_ (some 32) rfl rfl Try.func19 (by kernel_rfl) rfl #[.int .i64 t108] rfl (by (try simp only [List.map_toArray, List.map_cons, List.map_nil]); first | done | rfl | (simp only [List.length_drop, List.length_take]; rfl)) ?_; (with_reducible refine (gazettelaw01_num.calls t108 t111 _ A13.out).mono ?_); rintro e w' ⟨rfl, ⟨nd, rfl⟩⟩; refine ⟨_, rfl, ?_⟩) | (go_at_call 14; (with_reducible refine (gazettelaw01_knows.calls  t112 _ A15.out).mono ?_); rintro e w16 ⟨rfl, hb⟩; have n0_ := Aside0.mk (Kd.R_below (by (with_reducible repeat (first | apply Kd.R_alloc | apply Kd.R_drewN | apply Kd.R_drew)); exact HO106.out) hb); have n1_ := Aside0.mk (Kd.R_below (by (with_reducible repeat (first | apply Kd.R_alloc | apply Kd.R_drewN | apply Kd.R_drew)); exact HO110.out) hb); have n2_ := Aside0.mk (below_step (by repeat (first | (with_reducible first | exact HB.out | apply below_alloc | apply pw_below_drewN | apply below_drew1) | exact HB.out)) hb); clear HO106; clear HO110; clear HB; have HO106 := n0_; have HO110 := n1_; have HB := n2_; clear n0_ n1_ n2_; (try clear hb); (try clear hb2); (try clear hk); (try clear hi)))
        go_meet
        case rel => exact ⟨_, (!t112), (by first | rfl | (simp; done) | (simp [*]; done)), H', ⟨by first | omega | exact Nat.le_refl _⟩, ⟨by (with_reducible repeat (first | apply Kd.R_alloc | apply Kd.R_drewN | apply Kd.R_drew)); exact Kd.R_mono HO110.out (fun _ hk => trivial)⟩, ⟨by repeat (first | (with_reducible first | exact HB.out | apply below_alloc | apply pw_below_drewN | apply below_drew1) | exact HB.out)⟩⟩
      · rw [if_neg c14] at H
        have c14b0 : (t111 == 0) = false := beq_eq_false_iff_ne.mpr c14
        have c14b1 : (t111 != 0) = true := bne_iff_ne.mpr c14
        (first | rw [c14b0] | (simp only [i64_w, i32_w]; rw [c14b0]) | skip)
        have H' := Aside0.mk H
        clear H
        go_wp2_with (first | ((with_reducible refine gate_callee (f := 19) rfl ?_); refine goesL_ (some 32) rfl rfl Try.func19 (by kernel_rfl) rfl #[.int .i64 t108] rfl (by (try simp only [List.map_toArray, List.map_cons, List.map_nil]); first | done | rfl | (simp only [List.length_drop, List.length_take]; rfl)) ?_; (with_reducible refine (gazettelaw01_num.calls t108 t111 _ A13.out).mono ?_); rintro e w' ⟨rfl, ⟨nd, rfl⟩⟩; refine ⟨_, rfl, ?_⟩))
        go_meet
        case rel => exact ⟨_, (true), (by first | rfl | (simp; done) | (simp [*]; done)), H', ⟨by first | omega | exact Nat.le_refl _⟩, ⟨by (with_reducible repeat (first | apply Kd.R_alloc | apply Kd.R_drewN | apply Kd.R_drew)); exact Kd.R_mono HO110.out (fun _ hk => trivial)⟩, ⟨by repeat (first | (with_reducible first | exact HB.out | apply below_alloc | apply pw_below_drewN | apply below_drew1) | exact HB.out)⟩⟩
    case rest =>
      clear HC7
      try clear c1
      try clear c2
      try clear p2
      try clear c5
      try clear c6
      try clear c14
      try clear c14b0
      try clear c14b1
      obtain ⟨kq, x37_6, rfl, HA, HJ6, HO_9, HB⟩ := hcut
      cases kq with
      | zero => exact absurd HA.out (by simp [gazettelaw01_WireTold.j0])
      | succ kj6 =>
        have H := HA.out
        clear HA
        simp only [gazettelaw01_WireTold.j0] at H
        by_cases c17 : x37_6 = true
        · subst c17
          have H1 : (if (t107.length : Int) = 0 then ((gazettelaw01_knows.f).bind fun t113 => (some t113)) else (some false)) = some r := by rw [if_pos rfl] at H; exact H
          clear H
          have H := H1
          clear H1
          by_cases c18 : (t107.length : Int) = 0
          · rw [if_pos c18] at H
            have c18b0 : ((t107.length : Int) == 0) = true := beq_iff_eq.mpr c18
            have c18b1 : ((t107.length : Int) != 0) = false := bne_eq_false_iff_eq.mpr c18
            clear c18
            replace H := Option.bind_eq_some_iff.mp H
            obtain ⟨t113, A190, H⟩ := H
            replace H : (some t113) = some r := H
            have A19 := Aside0.mk A190
            clear A190
            obtain rfl := Option.some.inj H
            obtain ⟨Ao20, co20, eo20⟩ := Kd.R_slice HO_9.out
            subst eo20
            go_wp2_with (first | (go_at_call 14; (with_reducible refine (gazettelaw01_knows.calls  t113 _ A19.out).mono ?_); rintro e w21 ⟨rfl, hb⟩; have n0_ := Aside0.mk (Kd.R_below (by (with_reducible repeat (first | apply Kd.R_alloc | apply Kd.R_drewN | apply Kd.R_drew)); exact HO_9.out) hb); have n1_ := Aside0.mk (below_step (by repeat (first | (with_reducible first | exact HB.out | apply below_alloc | apply pw_below_drewN | apply below_drew1) | exact HB.out)) hb); clear HO_9; clear HB; have HO_9 := n0_; have HB := n1_; clear n0_ n1_; (try clear hb); (try clear hb2); (try clear hk); (try clear hi)))
            go_ret
            exact ⟨by first | rfl | (simp [errW_none, errW_some] <;> rfl) | (simp [*, errW_none, errW_some] <;> rfl), by repeat (first | (with_reducible first | exact HB.out | apply below_alloc | apply pw_below_drewN | apply below_drew1) | exact HB.out)⟩
          · rw [if_neg c18] at H
            have c18b0 : ((t107.length : Int) == 0) = false := beq_eq_false_iff_ne.mpr c18
            have c18b1 : ((t107.length : Int) != 0) = true := bne_iff_ne.mpr c18
            have c18b2 : ¬ (t107 = []) := fun h_ => c18 (by rw [h_]; rfl)
            obtain rfl := Option.some.inj H
            obtain ⟨Ao22, co22, eo22⟩ := Kd.R_slice HO_9.out
            subst eo22
            go_wp2
            go_ret
            exact ⟨by first | rfl | (simp [errW_none, errW_some] <;> rfl) | (simp [*, errW_none, errW_some] <;> rfl), by repeat (first | (with_reducible first | exact HB.out | apply below_alloc | apply pw_below_drewN | apply below_drew1) | exact HB.out)⟩
        · replace c17 := Bool.eq_false_iff.mpr c17
          subst c17
          have H1 : (if (t107.length : Int) < 9 then (some false) else (if 0 ≤ (wrap64 ((t107.length : Int) - 1)) then (if (wrap64 ((t107.length : Int) - 1)) ≤ (t107.length : Int) then ((wire_Unframe.f (t107.take ((wrap64 ((t107.length : Int) - 1)) : Int).toNat) 0).bind fun bt118 => (if (wrap64 (8 * (wrap64 ((t107.length : Int) - 5)))) = 0 then (none) else (gazettelaw01_WireTold.l0 kj6 (Int.tmod (wrap64 ((Int.tmod a2 (wrap64 (8 * (wrap64 ((t107.length : Int) - 5))))) + (wrap64 (8 * (wrap64 ((t107.length : Int) - 5)))))) (wrap64 (8 * (wrap64 ((t107.length : Int) - 5))))) a3 t107 bt118.2.2.2 (wrap64 (8 * (wrap64 ((t107.length : Int) - 5)))) false 0))) else (none)) else (none))) = some r := by rw [if_neg (show ¬ (false = true) by decide)] at H; exact H
          clear H
          have H := H1
          clear H1
          by_cases c23 : (t107.length : Int) < 9
          · rw [if_pos c23] at H
            have c23b0 : decide ((t107.length : Int) < 9) = true := decide_eq_true c23
            have c23b1 : decide (t107.length < 9) = true := decide_eq_true (by omega)
            clear c23
            obtain rfl := Option.some.inj H
            obtain ⟨Ao24, co24, eo24⟩ := Kd.R_slice HO_9.out
            subst eo24
            go_wp2
            go_ret
            exact ⟨by first | rfl | (simp [errW_none, errW_some] <;> rfl) | (simp [*, errW_none, errW_some] <;> rfl), by repeat (first | (with_reducible first | exact HB.out | apply below_alloc | apply pw_below_drewN | apply below_drew1) | exact HB.out)⟩
          · rw [if_neg c23] at H
            have c23b0 : decide ((t107.length : Int) < 9) = false := decide_eq_false c23
            have c23b1 : decide (t107.length < 9) = false := decide_eq_false (by omega)
            clear c23
            obtain ⟨ji25, hji25⟩ : ∃ j_ : Int, (wrap64 ((t107.length : Int) - 1)) = j_ := ⟨_, rfl⟩
            replace H : (if 0 ≤ (ji25) then (if (ji25) ≤ (t107.length : Int) then ((wire_Unframe.f (t107.take ((ji25) : Int).toNat) 0).bind fun bt118 => (if (wrap64 (8 * (wrap64 ((t107.length : Int) - 5)))) = 0 then (none) else (gazettelaw01_WireTold.l0 kj6 (Int.tmod (wrap64 ((Int.tmod a2 (wrap64 (8 * (wrap64 ((t107.length : Int) - 5))))) + (wrap64 (8 * (wrap64 ((t107.length : Int) - 5)))))) (wrap64 (8 * (wrap64 ((t107.length : Int) - 5))))) a3 t107 bt118.2.2.2 (wrap64 (8 * (wrap64 ((t107.length : Int) - 5)))) false 0))) else (none)) else (none)) = some r := by first | (rw [hji25] at H; exact H) | (simp only [hji25] at H ⊢; exact H)
            have hji25w : (IntKind.i64.wrap ((t107.length : Int) - 1)) = ji25 := (i64_w _).trans hji25
            by_cases c26 : 0 ≤ (ji25)
            · rw [if_pos c26] at H
              have c26b0 := eq_true c26
              have c26b1 : decide (0 ≤ (ji25)) = true := decide_eq_true c26
              clear c26
              by_cases c27 : (ji25) ≤ (t107.length : Int)
              · rw [if_pos c27] at H
                have c27b0 := eq_true c27
                have c27b1 : decide ((ji25) ≤ (t107.length : Int)) = true := decide_eq_true c27
                clear c27
                obtain ⟨y114, hy114⟩ : ∃ y_ : List Int, y_ = (t107.take ((ji25) : Int).toNat) := ⟨_, rfl⟩
                replace H : ((wire_Unframe.f y114 0).bind fun bt118 => (if (wrap64 (8 * (wrap64 ((t107.length : Int) - 5)))) = 0 then (none) else (gazettelaw01_WireTold.l0 kj6 (Int.tmod (wrap64 ((Int.tmod a2 (wrap64 (8 * (wrap64 ((t107.length : Int) - 5))))) + (wrap64 (8 * (wrap64 ((t107.length : Int) - 5)))))) (wrap64 (8 * (wrap64 ((t107.length : Int) - 5))))) a3 t107 bt118.2.2.2 (wrap64 (8 * (wrap64 ((t107.length : Int) - 5)))) false 0))) = some r := by first | (rw [hy114]; with_reducible exact H) | (have H2_ := (Option.bind_some _ _).symm.trans H; rw [hy114]; with_reducible exact H2_) | (have H2_ := (Option.bind_some _ _).symm.trans H; with_reducible exact H2_) | with_reducible exact H | (rw [hy114]; exact H) | exact H
                have Ny114 := Aside0.mk hy114
                clear hy114
                replace H := Option.bind_eq_some_iff.mp H
                obtain ⟨⟨t118, t119, t120, t121⟩, A280, H⟩ := H
                replace H : (if (wrap64 (8 * (wrap64 ((t107.length : Int) - 5)))) = 0 then (none) else (gazettelaw01_WireTold.l0 kj6 (Int.tmod (wrap64 ((Int.tmod a2 (wrap64 (8 * (wrap64 ((t107.length : Int) - 5))))) + (wrap64 (8 * (wrap64 ((t107.length : Int) - 5)))))) (wrap64 (8 * (wrap64 ((t107.length : Int) - 5))))) a3 t107 t121 (wrap64 (8 * (wrap64 ((t107.length : Int) - 5)))) false 0)) = some r := H
                have A28 := Aside0.mk A280
                clear A280
                by_cases c29 : (wrap64 (8 * (wrap64 ((t107.length : Int) - 5)))) = 0
                · rw [if_pos c29] at H
                  exact absurd H (by simp)
                · rw [if_neg c29] at H
                  have c29b0 : ((wrap64 (8 * (wrap64 ((t107.length : Int) - 5)))) == 0) = false := beq_eq_false_iff_ne.mpr c29
                  have c29b1 : ((wrap64 (8 * (wrap64 ((t107.length : Int) - 5)))) != 0) = true := bne_iff_ne.mpr c29
                  have H' := Aside0.mk H
                  clear H
                  obtain ⟨Ao30, co30, eo30⟩ := Kd.R_slice HO_9.out
                  subst eo30
                  have q31 : ((ji25) : Int) ≤ ((t107.length : Int) : Int) := of_decide_eq_true (by first | (with_reducible assumption) | assumption)
                  obtain ⟨i031, hi031, _, hsz31, _⟩ := info_parts info5
                  have hroom31 : t107.length ≤ co30 := (Kd.R_reads' HO_9.out).2.1
                  have hC31 : Kd.C (Kd.int .u8) _ Ao30 t107.length t107 := (Kd.R_reads' HO_9.out).2.2
                  have hcut31 := cut_to (P := Try.prog) 22 5 .i64 Try.underlying22 hi031 Ao30 t107.length co30 (ji25) (of_decide_eq_true (by first | (with_reducible assumption) | assumption)) q31 hroom31
                  have hr31 := Kd.C_take (m := ((ji25) : Int).toNat) hC31 (by omega)
                  have hy31 : y114.length = ((ji25) : Int).toNat := (by rw [Ny114.out, List.length_take]; omega)
                  rw [← Ny114.out] at hr31
                  rw [← hy31] at hcut31
                  have HR117 := Aside0.mk hr31
                  have HC117 := Aside0.mk (show y114.length ≤ co30 from by omega)
                  clear hr31 hC31 hroom31 hi031 hsz31
                  have KY31 := Aside0.mk hy31
                  clear hy31
                  have KL31 := Aside0.mk (show ((ji25) : Int).toNat ≤ t107.length from by omega)
                  replace q31 := eq_true q31
                  go_wp2_with (first | ((with_reducible refine gate_callee (f := 23) rfl ?_); refine goesL_ (some 53) rfl rfl Try.func23 (by kernel_rfl) rfl #[.slice Ao30 y114.length co30, .int .i64 0] rfl (by (try simp only [List.map_toArray, List.map_cons, List.map_nil]); first | done | rfl | (simp only [List.length_drop, List.length_take]; rfl)) ?_; (with_reducible refine (wire_Unframe.calls _ _ y114 0 t118 t119 t120 t121 _ ?side1 ?side2 A28.out).mono ?_); (case side1 => repeat (first | exact (by repeat (first | (with_reducible exact HR117.out) | (with_reducible refine Kd.C_alloc ?_ _) | (with_reducible refine Kd.C_drewN ?_ _) | (with_reducible refine Kd.C_drew ?_) | exact HR117.out)) | (with_reducible refine Kd.C_alloc ?_ _) | (with_reducible refine Kd.C_drewN ?_ _) | (with_reducible refine Kd.C_drew ?_))); (case side2 => exact HC117.out); rintro e w32 ⟨v122, rfl, ho0, hb⟩; refine ⟨_, rfl, ?_⟩; have n0_ := Aside0.mk (Kd.R_elder' (by (with_reducible repeat (first | apply Kd.R_alloc | apply Kd.R_drewN | apply Kd.R_drew)); exact HO_9.out) (Kd.R_base ho0) hb); have n1_ := Aside0.mk (Kd.R_lower (Kd.R_new' ho0 (Kd.R_lt (by (with_reducible repeat (first | apply Kd.R_alloc | apply Kd.R_drewN | apply Kd.R_drew)); exact HO_9.out))) (below_size (by repeat (first | (with_reducible first | exact HB.out | apply below_alloc | apply pw_below_drewN | apply below_drew1) | exact HB.out)))); have n2_ := Aside0.mk (Kd.C_below (by repeat (first | (with_reducible exact HR117.out) | (with_reducible refine Kd.C_alloc ?_ _) | (with_reducible refine Kd.C_drewN ?_ _) | (with_reducible refine Kd.C_drew ?_) | exact HR117.out)) hb); have n3_ := Aside0.mk (below_step (by repeat (first | (with_reducible first | exact HB.out | apply below_alloc | apply pw_below_drewN | apply below_drew1) | exact HB.out)) hb); clear HO_9; clear HR117; clear HB; have HO_9 := n0_; have HO123 := n1_; have HR117 := n2_; have HB := n3_; clear n0_ n1_ n2_ n3_; (try clear hb); (try clear hb2); (try clear hk); (try clear hi); (try clear ho0)))
                  go_loopg [16, 17] kj6 (fun kq v16 v17 w' => ∃ (x9_2 : List Int) (x16_2 : Bool) (x17_2 : Int), v16 = .bool x16_2 ∧ v17 = .int .i64 x17_2 ∧ Aside0 (gazettelaw01_WireTold.l0 kq (Int.tmod (wrap64 ((Int.tmod a2 (wrap64 (8 * (wrap64 ((t107.length : Int) - 5))))) + (wrap64 (8 * (wrap64 ((t107.length : Int) - 5)))))) (wrap64 (8 * (wrap64 ((t107.length : Int) - 5))))) a3 x9_2 t121 (wrap64 (8 * (wrap64 ((t107.length : Int) - 5)))) x16_2 x17_2 = some r) ∧ Aside0 (kq ≤ kj6) ∧ Aside0 (Kd.R (Kd.int .u8) 5 w' w.heap.size (fun _ => True) (.slice Ao30 t107.length co30) x9_2) ∧ Aside0 (Below w.heap.size w w'))
                  case atStart => exact ⟨(t107), (false), (0), (by first | rfl | (simp; done) | (simp [*]; done)), (by first | rfl | (simp; done) | (simp [*]; done)), H', ⟨Nat.le_refl _⟩, ⟨by (with_reducible repeat (first | apply Kd.R_alloc | apply Kd.R_drewN | apply Kd.R_drew)); exact Kd.R_mono HO_9.out (fun _ hk => trivial)⟩, ⟨by repeat (first | (with_reducible first | exact HB.out | apply below_alloc | apply pw_below_drewN | apply below_drew1) | exact HB.out)⟩⟩
                  case round =>
                    clear H'
                    try clear c1
                    try clear c2
                    try clear p2
                    try clear q3
                    try clear c5
                    try clear c6
                    try clear p6
                    try clear c14
                    try clear c14b0
                    try clear c14b1
                    try clear c17
                    try clear c18
                    try clear c18b0
                    try clear c18b1
                    try clear c18b2
                    try clear c19
                    try clear c21
                    try clear c23
                    try clear c23b0
                    try clear c23b1
                    try clear c26
                    try clear c26b0
                    try clear c26b1
                    try clear c27
                    try clear c27b0
                    try clear c27b1
                    try clear c29
                    try clear c29b0
                    try clear c29b1
                    try clear q31
                    try clear p2
                    try clear q31
                    obtain ⟨x9_2, x16_2, x17_2, rfl, rfl, HA, HK2, HO_9, HB⟩ := hrel
                    have hl9_2 := (Kd.R_reads' HO_9.out).1
                    rw [hl9_2] at HO_9
                    (try simp only [hl9_2])
                    cases gk with
                    | zero => exact absurd HA.out (by simp [gazettelaw01_WireTold.l0])
                    | succ k2 =>
                      have H := HA.out
                      clear HA
                      simp only [gazettelaw01_WireTold.l0] at H
                      have HC33 := Aside0.mk H
                      clear H
                      go_upto_region 11 with (fail)
                      go_cut [77] (fun v77 wc => ∃ (kq : Nat) (x77_32 : Bool), v77 = .bool x77_32 ∧ Aside0 (gazettelaw01_WireTold.j2 kq (Int.tmod (wrap64 ((Int.tmod a2 (wrap64 (8 * (wrap64 ((t107.length : Int) - 5))))) + (wrap64 (8 * (wrap64 ((t107.length : Int) - 5)))))) (wrap64 (8 * (wrap64 ((t107.length : Int) - 5))))) a3 x9_2 t121 (wrap64 (8 * (wrap64 ((t107.length : Int) - 5)))) x16_2 x17_2 x77_32 = some r) ∧ Aside0 (kq ≤ k2) ∧ Aside0 (Kd.R (Kd.int .u8) 5 wc w.heap.size (fun _ => True) (.slice Ao30 x9_2.length co30) x9_2) ∧ Aside0 (Below w.heap.size w wc))
                      case first =>
                        have H := HC33.out
                        clear HC33
                        by_cases c34 : x17_2 < 32
                        · rw [if_pos c34] at H
                          have c34b0 : decide (x17_2 < 32) = true := decide_eq_true c34
                          clear c34
                          (first | rw [c34b0] | (simp only [i64_w, i32_w]; rw [c34b0]) | skip)
                          have H' := Aside0.mk H
                          clear H
                          go_wp2
                          go_meet
                          case rel => exact ⟨_, (decide ((wrap64 ((Int.tmod (wrap64 ((Int.tmod a2 (wrap64 (8 * (wrap64 ((t107.length : Int) - 5))))) + (wrap64 (8 * (wrap64 ((t107.length : Int) - 5)))))) (wrap64 (8 * (wrap64 ((t107.length : Int) - 5))))) + x17_2)) < (wrap64 (8 * (wrap64 ((t107.length : Int) - 5)))))), (by first | rfl | (simp; done) | (simp [*]; done)), H', ⟨by have := HJ6.out; have := HK2.out; first | omega | exact Nat.le_refl _⟩, ⟨by (try simp only [hl9_2]); (with_reducible repeat (first | apply Kd.R_alloc | apply Kd.R_drewN | apply Kd.R_drew)); exact HO_9.out⟩, ⟨by repeat (first | (with_reducible first | exact HB.out | apply below_alloc | apply pw_below_drewN | apply below_drew1) | exact HB.out)⟩⟩
                        · rw [if_neg c34] at H
                          have c34b0 : decide (x17_2 < 32) = false := decide_eq_false c34
                          clear c34
                          (first | rw [c34b0] | (simp only [i64_w, i32_w]; rw [c34b0]) | skip)
                          have H' := Aside0.mk H
                          clear H
                          go_wp2
                          go_meet
                          case rel => exact ⟨_, (false), (by first | rfl | (simp; done) | (simp [*]; done)), H', ⟨by have := HJ6.out; have := HK2.out; first | omega | exact Nat.le_refl _⟩, ⟨by (try simp only [hl9_2]); (with_reducible repeat (first | apply Kd.R_alloc | apply Kd.R_drewN | apply Kd.R_drew)); exact HO_9.out⟩, ⟨by repeat (first | (with_reducible first | exact HB.out | apply below_alloc | apply pw_below_drewN | apply below_drew1) | exact HB.out)⟩⟩
                      case rest =>
                        clear HC33
                        try clear c1
                        try clear c2
                        try clear p2
                        try clear c3
                        try clear q3
                        try clear c5
                        try clear c6
                        try clear p6
                        try clear c14
                        try clear c14b0
                        try clear c14b1
                        try clear c17
                        try clear c18
                        try clear c18b0
                        try clear c18b1
                        try clear c18b2
                        try clear c19
                        try clear c21
                        try clear c23
                        try clear c23b0
                        try clear c23b1
                        try clear c26
                        try clear c26b0
                        try clear c26b1
                        try clear c27
                        try clear c27b0
                        try clear c27b1
                        try clear c29
                        try clear c29b0
                        try clear c29b1
                        try clear q31
                        try clear c34
                        try clear c34b0
                        try clear p2
                        try clear p6
                        try clear q3
                        try clear q31
                        obtain ⟨kq, x77_32, rfl, HA, HJ32, HO_9, HB⟩ := hcut
                        cases kq with
                        | zero => exact absurd HA.out (by simp [gazettelaw01_WireTold.j2])
                        | succ kj32 =>
                          have H := HA.out
                          clear HA
                          simp only [gazettelaw01_WireTold.j2] at H
                          by_cases c35 : x77_32 = true
                          · subst c35
                            have H1 : (if 0 ≤ (IntKind.u64.wrap (x17_2)) then (if (Go.bits .and .u32 (shr .u32 a3 (IntKind.u64.wrap (x17_2))) 1) = 1 then (if 0 ≤ (wrap64 (5 + (wrap64 (Int.tdiv (wrap64 ((Int.tmod (wrap64 ((Int.tmod a2 (wrap64 (8 * (wrap64 ((t107.length : Int) - 5))))) + (wrap64 (8 * (wrap64 ((t107.length : Int) - 5)))))) (wrap64 (8 * (wrap64 ((t107.length : Int) - 5))))) + x17_2)) 8)))) then (if (wrap64 (5 + (wrap64 (Int.tdiv (wrap64 ((Int.tmod (wrap64 ((Int.tmod a2 (wrap64 (8 * (wrap64 ((t107.length : Int) - 5))))) + (wrap64 (8 * (wrap64 ((t107.length : Int) - 5)))))) (wrap64 (8 * (wrap64 ((t107.length : Int) - 5))))) + x17_2)) 8)))) < (x9_2.length : Int) then (if 0 ≤ (IntKind.u64.wrap (Int.tmod (wrap64 ((Int.tmod (wrap64 ((Int.tmod a2 (wrap64 (8 * (wrap64 ((t107.length : Int) - 5))))) + (wrap64 (8 * (wrap64 ((t107.length : Int) - 5)))))) (wrap64 (8 * (wrap64 ((t107.length : Int) - 5))))) + x17_2)) 8)) then (gazettelaw01_WireTold.l0 kj32 (Int.tmod (wrap64 ((Int.tmod a2 (wrap64 (8 * (wrap64 ((t107.length : Int) - 5))))) + (wrap64 (8 * (wrap64 ((t107.length : Int) - 5)))))) (wrap64 (8 * (wrap64 ((t107.length : Int) - 5))))) a3 (x9_2.set ((wrap64 (5 + (wrap64 (Int.tdiv (wrap64 ((Int.tmod (wrap64 ((Int.tmod a2 (wrap64 (8 * (wrap64 ((t107.length : Int) - 5))))) + (wrap64 (8 * (wrap64 ((t107.length : Int) - 5)))))) (wrap64 (8 * (wrap64 ((t107.length : Int) - 5))))) + x17_2)) 8)))) : Int).toNat (Go.bits .xor .u8 (rd x9_2 (wrap64 (5 + (wrap64 (Int.tdiv (wrap64 ((Int.tmod (wrap64 ((Int.tmod a2 (wrap64 (8 * (wrap64 ((t107.length : Int) - 5))))) + (wrap64 (8 * (wrap64 ((t107.length : Int) - 5)))))) (wrap64 (8 * (wrap64 ((t107.length : Int) - 5))))) + x17_2)) 8))))) (shl .u8 1 (IntKind.u64.wrap (Int.tmod (wrap64 ((Int.tmod (wrap64 ((Int.tmod a2 (wrap64 (8 * (wrap64 ((t107.length : Int) - 5))))) + (wrap64 (8 * (wrap64 ((t107.length : Int) - 5)))))) (wrap64 (8 * (wrap64 ((t107.length : Int) - 5))))) + x17_2)) 8))))) t121 (wrap64 (8 * (wrap64 ((t107.length : Int) - 5)))) true (wrap64 (x17_2 + 1))) else (none)) else (none)) else (none)) else (gazettelaw01_WireTold.l0 kj32 (Int.tmod (wrap64 ((Int.tmod a2 (wrap64 (8 * (wrap64 ((t107.length : Int) - 5))))) + (wrap64 (8 * (wrap64 ((t107.length : Int) - 5)))))) (wrap64 (8 * (wrap64 ((t107.length : Int) - 5))))) a3 x9_2 t121 (wrap64 (8 * (wrap64 ((t107.length : Int) - 5)))) x16_2 (wrap64 (x17_2 + 1)))) else (none)) = some r := by rw [if_pos rfl] at H; exact H
                            clear H
                            have H := H1
                            clear H1
                            obtain ⟨ji36, hji36⟩ : ∃ j_ : Int, (IntKind.u64.wrap (x17_2)) = j_ := ⟨_, rfl⟩
                            replace H : (if 0 ≤ (ji36) then (if (Go.bits .and .u32 (shr .u32 a3 (ji36)) 1) = 1 then (if 0 ≤ (wrap64 (5 + (wrap64 (Int.tdiv (wrap64 ((Int.tmod (wrap64 ((Int.tmod a2 (wrap64 (8 * (wrap64 ((t107.length : Int) - 5))))) + (wrap64 (8 * (wrap64 ((t107.length : Int) - 5)))))) (wrap64 (8 * (wrap64 ((t107.length : Int) - 5))))) + x17_2)) 8)))) then (if (wrap64 (5 + (wrap64 (Int.tdiv (wrap64 ((Int.tmod (wrap64 ((Int.tmod a2 (wrap64 (8 * (wrap64 ((t107.length : Int) - 5))))) + (wrap64 (8 * (wrap64 ((t107.length : Int) - 5)))))) (wrap64 (8 * (wrap64 ((t107.length : Int) - 5))))) + x17_2)) 8)))) < (x9_2.length : Int) then (if 0 ≤ (IntKind.u64.wrap (Int.tmod (wrap64 ((Int.tmod (wrap64 ((Int.tmod a2 (wrap64 (8 * (wrap64 ((t107.length : Int) - 5))))) + (wrap64 (8 * (wrap64 ((t107.length : Int) - 5)))))) (wrap64 (8 * (wrap64 ((t107.length : Int) - 5))))) + x17_2)) 8)) then (gazettelaw01_WireTold.l0 kj32 (Int.tmod (wrap64 ((Int.tmod a2 (wrap64 (8 * (wrap64 ((t107.length : Int) - 5))))) + (wrap64 (8 * (wrap64 ((t107.length : Int) - 5)))))) (wrap64 (8 * (wrap64 ((t107.length : Int) - 5))))) a3 (x9_2.set ((wrap64 (5 + (wrap64 (Int.tdiv (wrap64 ((Int.tmod (wrap64 ((Int.tmod a2 (wrap64 (8 * (wrap64 ((t107.length : Int) - 5))))) + (wrap64 (8 * (wrap64 ((t107.length : Int) - 5)))))) (wrap64 (8 * (wrap64 ((t107.length : Int) - 5))))) + x17_2)) 8)))) : Int).toNat (Go.bits .xor .u8 (rd x9_2 (wrap64 (5 + (wrap64 (Int.tdiv (wrap64 ((Int.tmod (wrap64 ((Int.tmod a2 (wrap64 (8 * (wrap64 ((t107.length : Int) - 5))))) + (wrap64 (8 * (wrap64 ((t107.length : Int) - 5)))))) (wrap64 (8 * (wrap64 ((t107.length : Int) - 5))))) + x17_2)) 8))))) (shl .u8 1 (IntKind.u64.wrap (Int.tmod (wrap64 ((Int.tmod (wrap64 ((Int.tmod a2 (wrap64 (8 * (wrap64 ((t107.length : Int) - 5))))) + (wrap64 (8 * (wrap64 ((t107.length : Int) - 5)))))) (wrap64 (8 * (wrap64 ((t107.length : Int) - 5))))) + x17_2)) 8))))) t121 (wrap64 (8 * (wrap64 ((t107.length : Int) - 5)))) true (wrap64 (x17_2 + 1))) else (none)) else (none)) else (none)) else (gazettelaw01_WireTold.l0 kj32 (Int.tmod (wrap64 ((Int.tmod a2 (wrap64 (8 * (wrap64 ((t107.length : Int) - 5))))) + (wrap64 (8 * (wrap64 ((t107.length : Int) - 5)))))) (wrap64 (8 * (wrap64 ((t107.length : Int) - 5))))) a3 x9_2 t121 (wrap64 (8 * (wrap64 ((t107.length : Int) - 5)))) x16_2 (wrap64 (x17_2 + 1)))) else (none)) = some r := by first | (rw [hji36] at H; exact H) | (simp only [hji36] at H ⊢; exact H)
                            by_cases c37 : 0 ≤ (ji36)
                            · rw [if_pos c37] at H
                              have c37b0 := eq_true c37
                              have c37b1 : decide (0 ≤ (ji36)) = true := decide_eq_true c37
                              clear c37
                              obtain ⟨ji38, hji38⟩ : ∃ j_ : Int, (shr .u32 a3 (ji36)) = j_ := ⟨_, rfl⟩
                              replace H : (if (Go.bits .and .u32 (ji38) 1) = 1 then (if 0 ≤ (wrap64 (5 + (wrap64 (Int.tdiv (wrap64 ((Int.tmod (wrap64 ((Int.tmod a2 (wrap64 (8 * (wrap64 ((t107.length : Int) - 5))))) + (wrap64 (8 * (wrap64 ((t107.length : Int) - 5)))))) (wrap64 (8 * (wrap64 ((t107.length : Int) - 5))))) + x17_2)) 8)))) then (if (wrap64 (5 + (wrap64 (Int.tdiv (wrap64 ((Int.tmod (wrap64 ((Int.tmod a2 (wrap64 (8 * (wrap64 ((t107.length : Int) - 5))))) + (wrap64 (8 * (wrap64 ((t107.length : Int) - 5)))))) (wrap64 (8 * (wrap64 ((t107.length : Int) - 5))))) + x17_2)) 8)))) < (x9_2.length : Int) then (if 0 ≤ (IntKind.u64.wrap (Int.tmod (wrap64 ((Int.tmod (wrap64 ((Int.tmod a2 (wrap64 (8 * (wrap64 ((t107.length : Int) - 5))))) + (wrap64 (8 * (wrap64 ((t107.length : Int) - 5)))))) (wrap64 (8 * (wrap64 ((t107.length : Int) - 5))))) + x17_2)) 8)) then (gazettelaw01_WireTold.l0 kj32 (Int.tmod (wrap64 ((Int.tmod a2 (wrap64 (8 * (wrap64 ((t107.length : Int) - 5))))) + (wrap64 (8 * (wrap64 ((t107.length : Int) - 5)))))) (wrap64 (8 * (wrap64 ((t107.length : Int) - 5))))) a3 (x9_2.set ((wrap64 (5 + (wrap64 (Int.tdiv (wrap64 ((Int.tmod (wrap64 ((Int.tmod a2 (wrap64 (8 * (wrap64 ((t107.length : Int) - 5))))) + (wrap64 (8 * (wrap64 ((t107.length : Int) - 5)))))) (wrap64 (8 * (wrap64 ((t107.length : Int) - 5))))) + x17_2)) 8)))) : Int).toNat (Go.bits .xor .u8 (rd x9_2 (wrap64 (5 + (wrap64 (Int.tdiv (wrap64 ((Int.tmod (wrap64 ((Int.tmod a2 (wrap64 (8 * (wrap64 ((t107.length : Int) - 5))))) + (wrap64 (8 * (wrap64 ((t107.length : Int) - 5)))))) (wrap64 (8 * (wrap64 ((t107.length : Int) - 5))))) + x17_2)) 8))))) (shl .u8 1 (IntKind.u64.wrap (Int.tmod (wrap64 ((Int.tmod (wrap64 ((Int.tmod a2 (wrap64 (8 * (wrap64 ((t107.length : Int) - 5))))) + (wrap64 (8 * (wrap64 ((t107.length : Int) - 5)))))) (wrap64 (8 * (wrap64 ((t107.length : Int) - 5))))) + x17_2)) 8))))) t121 (wrap64 (8 * (wrap64 ((t107.length : Int) - 5)))) true (wrap64 (x17_2 + 1))) else (none)) else (none)) else (none)) else (gazettelaw01_WireTold.l0 kj32 (Int.tmod (wrap64 ((Int.tmod a2 (wrap64 (8 * (wrap64 ((t107.length : Int) - 5))))) + (wrap64 (8 * (wrap64 ((t107.length : Int) - 5)))))) (wrap64 (8 * (wrap64 ((t107.length : Int) - 5))))) a3 x9_2 t121 (wrap64 (8 * (wrap64 ((t107.length : Int) - 5)))) x16_2 (wrap64 (x17_2 + 1)))) = some r := by first | (rw [hji38] at H; exact H) | (simp only [hji38] at H ⊢; exact H)
                              have hji38_ : (a3 / 2 ^ min (ji36).toNat 32) = ji38 := hji38
                              have hji38z : (ji36) ≤ 32 → (a3 / 2 ^ (ji36).toNat) = ji38 := shr_small hji38
                              by_cases c39 : (Go.bits .and .u32 (ji38) 1) = 1
                              · rw [if_pos c39] at H
                                have c39b0 : ((Go.bits .and .u32 (ji38) 1) == 1) = true := beq_iff_eq.mpr c39
                                have c39b1 : ((Go.bits .and .u32 (ji38) 1) != 1) = false := bne_eq_false_iff_eq.mpr c39
                                clear c39
                                obtain ⟨ji40, hji40⟩ : ∃ j_ : Int, (wrap64 (5 + (wrap64 (Int.tdiv (wrap64 ((Int.tmod (wrap64 ((Int.tmod a2 (wrap64 (8 * (wrap64 ((t107.length : Int) - 5))))) + (wrap64 (8 * (wrap64 ((t107.length : Int) - 5)))))) (wrap64 (8 * (wrap64 ((t107.length : Int) - 5))))) + x17_2)) 8)))) = j_ := ⟨_, rfl⟩
                                (try (have hji40hl9_2x := hji40; simp only [hl9_2] at hji40hl9_2x))
                                replace H : (if 0 ≤ (ji40) then (if (ji40) < (x9_2.length : Int) then (if 0 ≤ (IntKind.u64.wrap (Int.tmod (wrap64 ((Int.tmod (wrap64 ((Int.tmod a2 (wrap64 (8 * (wrap64 ((t107.length : Int) - 5))))) + (wrap64 (8 * (wrap64 ((t107.length : Int) - 5)))))) (wrap64 (8 * (wrap64 ((t107.length : Int) - 5))))) + x17_2)) 8)) then (gazettelaw01_WireTold.l0 kj32 (Int.tmod (wrap64 ((Int.tmod a2 (wrap64 (8 * (wrap64 ((t107.length : Int) - 5))))) + (wrap64 (8 * (wrap64 ((t107.length : Int) - 5)))))) (wrap64 (8 * (wrap64 ((t107.length : Int) - 5))))) a3 (x9_2.set ((ji40) : Int).toNat (Go.bits .xor .u8 (rd x9_2 (ji40)) (shl .u8 1 (IntKind.u64.wrap (Int.tmod (wrap64 ((Int.tmod (wrap64 ((Int.tmod a2 (wrap64 (8 * (wrap64 ((t107.length : Int) - 5))))) + (wrap64 (8 * (wrap64 ((t107.length : Int) - 5)))))) (wrap64 (8 * (wrap64 ((t107.length : Int) - 5))))) + x17_2)) 8))))) t121 (wrap64 (8 * (wrap64 ((t107.length : Int) - 5)))) true (wrap64 (x17_2 + 1))) else (none)) else (none)) else (none)) = some r := by first | (rw [hji40] at H; exact H) | (simp only [hji40] at H ⊢; exact H)
                                have hji40w : (IntKind.i64.wrap (5 + (wrap64 (Int.tdiv (wrap64 ((Int.tmod (wrap64 ((Int.tmod a2 (wrap64 (8 * (wrap64 ((t107.length : Int) - 5))))) + (wrap64 (8 * (wrap64 ((t107.length : Int) - 5)))))) (wrap64 (8 * (wrap64 ((t107.length : Int) - 5))))) + x17_2)) 8)))) = ji40 := (i64_w _).trans hji40
                                (try (have hji40whl9_2x := hji40w; simp only [hl9_2] at hji40whl9_2x))
                                by_cases c41 : 0 ≤ (ji40)
                                · rw [if_pos c41] at H
                                  have c41b0 : decide (0 ≤ (ji40)) = true := decide_eq_true c41
                                  clear c41
                                  by_cases c42 : (ji40) < (x9_2.length : Int)
                                  · rw [if_pos c42] at H
                                    have c42b0 : decide ((ji40) < (x9_2.length : Int)) = true := decide_eq_true c42
                                    (try (have c42b0hl9_2x := c42b0; simp only [hl9_2] at c42b0hl9_2x))
                                    clear c42
                                    obtain ⟨ji43, hji43⟩ : ∃ j_ : Int, (IntKind.u64.wrap (Int.tmod (wrap64 ((Int.tmod (wrap64 ((Int.tmod a2 (wrap64 (8 * (wrap64 ((t107.length : Int) - 5))))) + (wrap64 (8 * (wrap64 ((t107.length : Int) - 5)))))) (wrap64 (8 * (wrap64 ((t107.length : Int) - 5))))) + x17_2)) 8)) = j_ := ⟨_, rfl⟩
                                    (try (have hji43hl9_2x := hji43; simp only [hl9_2] at hji43hl9_2x))
                                    replace H : (if 0 ≤ (ji43) then (gazettelaw01_WireTold.l0 kj32 (Int.tmod (wrap64 ((Int.tmod a2 (wrap64 (8 * (wrap64 ((t107.length : Int) - 5))))) + (wrap64 (8 * (wrap64 ((t107.length : Int) - 5)))))) (wrap64 (8 * (wrap64 ((t107.length : Int) - 5))))) a3 (x9_2.set ((ji40) : Int).toNat (Go.bits .xor .u8 (rd x9_2 (ji40)) (shl .u8 1 (ji43)))) t121 (wrap64 (8 * (wrap64 ((t107.length : Int) - 5)))) true (wrap64 (x17_2 + 1))) else (none)) = some r := by first | (rw [hji43] at H; exact H) | (simp only [hji43] at H ⊢; exact H)
                                    by_cases c44 : 0 ≤ (ji43)
                                    · rw [if_pos c44] at H
                                      have c44b0 := eq_true c44
                                      have c44b1 : decide (0 ≤ (ji43)) = true := decide_eq_true c44
                                      clear c44
                                      obtain ⟨ji45, hji45⟩ : ∃ j_ : Int, (shl .u8 1 (ji43)) = j_ := ⟨_, rfl⟩
                                      replace H : (gazettelaw01_WireTold.l0 kj32 (Int.tmod (wrap64 ((Int.tmod a2 (wrap64 (8 * (wrap64 ((t107.length : Int) - 5))))) + (wrap64 (8 * (wrap64 ((t107.length : Int) - 5)))))) (wrap64 (8 * (wrap64 ((t107.length : Int) - 5))))) a3 (x9_2.set ((ji40) : Int).toNat (Go.bits .xor .u8 (rd x9_2 (ji40)) (ji45))) t121 (wrap64 (8 * (wrap64 ((t107.length : Int) - 5)))) true (wrap64 (x17_2 + 1))) = some r := by first | (rw [hji45] at H; exact H) | (simp only [hji45] at H ⊢; exact H)
                                      have hji45_ : (IntKind.u8.wrap (1 * 2 ^ min (ji43).toNat 8)) = ji45 := hji45
                                      have hji45z : (ji43) ≤ 8 → (IntKind.u8.wrap (1 * 2 ^ (ji43).toNat)) = ji45 := shl_small hji45
                                      have hji45u : (IntKind.u8.wrap (2 ^ min (ji43).toNat 8)) = ji45 := by have h_ := hji45_; rw [Int.one_mul] at h_; exact h_
                                      have hji45v : (ji43) ≤ 8 → (IntKind.u8.wrap (2 ^ (ji43).toNat)) = ji45 := fun hle_ => by have h_ := hji45z hle_; rw [Int.one_mul] at h_; exact h_
                                      obtain ⟨y125, hy125⟩ : ∃ y_ : List Int, y_ = (x9_2.set ((ji40) : Int).toNat (Go.bits .xor .u8 (rd x9_2 (ji40)) (ji45))) := ⟨_, rfl⟩
                                      replace H : (gazettelaw01_WireTold.l0 kj32 (Int.tmod (wrap64 ((Int.tmod a2 (wrap64 (8 * (wrap64 ((t107.length : Int) - 5))))) + (wrap64 (8 * (wrap64 ((t107.length : Int) - 5)))))) (wrap64 (8 * (wrap64 ((t107.length : Int) - 5))))) a3 y125 t121 (wrap64 (8 * (wrap64 ((t107.length : Int) - 5)))) true (wrap64 (x17_2 + 1))) = some r := by first | (rw [hy125]; with_reducible exact H) | (have H2_ := (Option.bind_some _ _).symm.trans H; rw [hy125]; with_reducible exact H2_) | (have H2_ := (Option.bind_some _ _).symm.trans H; with_reducible exact H2_) | with_reducible exact H | (rw [hy125]; exact H) | exact H
                                      have Ny125 := Aside0.mk hy125
                                      clear hy125
                                      have H' := Aside0.mk H
                                      clear H
                                      have p124 : 0 ≤ ((ji40) : Int) := of_decide_eq_true (by first | (with_reducible assumption) | assumption)
                                      have q124 : (ji40) < (x9_2.length : Int) := of_decide_eq_true (by first | (with_reducible assumption) | assumption)
                                      obtain ⟨ad124, e124, hx124_0⟩ := Kd.at_int (Kd.R_reads' HO_9.out).2.2 (ji40) p124 q124
                                      cases e124
                                      replace p124 := eq_true p124
                                      replace q124 := eq_true q124
                                      have p46 : 0 ≤ ((ji40) : Int) := of_decide_eq_true (by first | (with_reducible assumption) | assumption)
                                      have q46 : ((ji40) : Int) < ((x9_2.length : Int) : Int) := of_decide_eq_true (by first | (with_reducible assumption) | assumption)
                                      obtain ⟨go46, co46, eo46, gb46, gl46, cl46, HG46⟩ := Kd.R_form HO_9.out (by omega)
                                      (first | cases eo46 | (injection eo46 with ea_ en_ ec_; (first | subst ea_ | (injection ea_ with ea_; subst ea_)); subst ec_; clear en_))
                                      have GB46 := Aside0.mk gb46
                                      have GG46 := Aside0.mk HG46
                                      clear gb46 gl46 HG46
                                      (first | simp only [add_plain] at hx124_0 | skip)
                                      obtain ⟨hx46_0, hf46_0⟩ := Kd.R_celln 0 HO_9.out ((ji40) : Int) p46 q46
                                      replace p46 := eq_true p46
                                      replace q46 := eq_true q46
                                      have HP47 := Kd.R_putg HO_9.out ((ji40) : Int) (Go.bits .xor .u8 (rd x9_2 (ji40)) (ji45))
                                      go_wp2_with (first | ((with_reducible refine gate_store (t := 5) (p := 104) rfl ?_); refine store_event (t := 5) (p := 104) (v := ?vo_w48) (w1 := (wc.setCell ⟨go46, ((ji40) : Int).toNat, none⟩ (.int .u8 (Go.bits .xor .u8 (rd x9_2 (ji40)) (ji45))))) ?hg ?ho ?hn ?hr ?_; (case ho => rfl); (case hg => rfl); (case hn => rfl); (case hr => first | (go_simp; done) | (go_simp; rfl)); intro w48 hw; have hg : wc.grownBy w48 (some go46) := (by rw [hw]; exact HP47.2); have hp_ : Kd.R (Kd.int .u8) 5 w48 w.heap.size (fun _ => True) (.slice (some ⟨go46, 0, none⟩) x9_2.length co30) y125 := (by rw [hw, Ny125.out]; exact HP47.1); clear HP47; have n0_ := Aside0.mk (hp_); have n1_ := Aside0.mk ((by rw [hw]; exact below_set (HB.out) GB46.out : Below w.heap.size w w48)); clear HO_9; clear HB; have HO_9 := n0_; have HB := n1_; clear n0_ n1_; clear hg hw hp_))
                                      (try simp only [← hl9_2])
                                      go_roundg kj32
                                      case measure => have := HJ6.out; have := HK2.out; have := HJ32.out; omega
                                      case rel => exact ⟨(y125), (true), (wrap64 (x17_2 + 1)), (by first | rfl | (simp; done) | (simp [*]; done)), (by first | rfl | (simp; done) | (simp [*]; done)), H', ⟨by have := HJ6.out; have := HK2.out; have := HJ32.out; omega⟩, ⟨by (try simp only [hl9_2]); (with_reducible repeat (first | apply Kd.R_alloc | apply Kd.R_drewN | apply Kd.R_drew)); exact HO_9.out⟩, ⟨by repeat (first | (with_reducible first | exact HB.out | apply below_alloc | apply pw_below_drewN | apply below_drew1) | exact HB.out)⟩⟩
                                    · rw [if_neg c44] at H
                                      exact absurd H (by simp)
                                  · rw [if_neg c42] at H
                                    exact absurd H (by simp)
                                · rw [if_neg c41] at H
                                  exact absurd H (by simp)
                              · rw [if_neg c39] at H
                                have c39b0 : ((Go.bits .and .u32 (ji38) 1) == 1) = false := beq_eq_false_iff_ne.mpr c39
                                have c39b1 : ((Go.bits .and .u32 (ji38) 1) != 1) = true := bne_iff_ne.mpr c39
                                have H' := Aside0.mk H
                                clear H
                                go_wp2
                                (try simp only [← hl9_2])
                                go_roundg kj32
                                case measure => have := HJ6.out; have := HK2.out; have := HJ32.out; omega
                                case rel => exact ⟨(x9_2), (x16_2), (wrap64 (x17_2 + 1)), (by first | rfl | (simp; done) | (simp [*]; done)), (by first | rfl | (simp; done) | (simp [*]; done)), H', ⟨by have := HJ6.out; have := HK2.out; have := HJ32.out; omega⟩, ⟨by (try simp only [hl9_2]); (with_reducible repeat (first | apply Kd.R_alloc | apply Kd.R_drewN | apply Kd.R_drew)); exact HO_9.out⟩, ⟨by repeat (first | (with_reducible first | exact HB.out | apply below_alloc | apply pw_below_drewN | apply below_drew1) | exact HB.out)⟩⟩
                            · rw [if_neg c37] at H
                              exact absurd H (by simp)
                          · replace c35 := Bool.eq_false_iff.mpr c35
                            subst c35
                            have H1 : ((wire_Unframe.f x9_2 0).bind fun bt126 => (if x16_2 = true then ((gazettelaw01_num.f t121).bind fun t132 => (if t132 = 20 then ((gazettelaw01_num.f bt126.2.2.2).bind fun t133 => (if t133 = 21 then (some ((bt126.2.1.length : Int) == 0)) else (some false))) else (some false))) else ((gazettelaw01_num.f t121).bind fun t134 => (if t134 = 20 then ((gazettelaw01_num.f bt126.2.2.2).bind fun t135 => (some (t135 == 0))) else (some false))))) = some r := by rw [if_neg (show ¬ (false = true) by decide)] at H; exact H
                            clear H
                            have H := H1
                            clear H1
                            replace H := Option.bind_eq_some_iff.mp H
                            obtain ⟨⟨t126, t127, t128, t129⟩, A490, H⟩ := H
                            replace H : (if x16_2 = true then ((gazettelaw01_num.f t121).bind fun t132 => (if t132 = 20 then ((gazettelaw01_num.f t129).bind fun t133 => (if t133 = 21 then (some ((t127.length : Int) == 0)) else (some false))) else (some false))) else ((gazettelaw01_num.f t121).bind fun t134 => (if t134 = 20 then ((gazettelaw01_num.f t129).bind fun t135 => (some (t135 == 0))) else (some false)))) = some r := H
                            have A49 := Aside0.mk A490
                            clear A490
                            by_cases c50 : x16_2 = true
                            · subst c50
                              have H1 : ((gazettelaw01_num.f t121).bind fun t132 => (if t132 = 20 then ((gazettelaw01_num.f t129).bind fun t133 => (if t133 = 21 then (some ((t127.length : Int) == 0)) else (some false))) else (some false))) = some r := by rw [if_pos rfl] at H; exact H
                              clear H
                              have H := H1
                              clear H1
                              replace H := Option.bind_eq_some_iff.mp H
                              obtain ⟨t132, A510, H⟩ := H
                              replace H : (if t132 = 20 then ((gazettelaw01_num.f t129).bind fun t133 => (if t133 = 21 then (some ((t127.length : Int) == 0)) else (some false))) else (some false)) = some r := H
                              have A51 := Aside0.mk A510
                              clear A510
                              by_cases c52 : t132 = 20
                              · rw [if_pos c52] at H
                                have c52b0 : (t132 == 20) = true := beq_iff_eq.mpr c52
                                have c52b1 : (t132 != 20) = false := bne_eq_false_iff_eq.mpr c52
                                clear c52
                                replace H := Option.bind_eq_some_iff.mp H
                                obtain ⟨t133, A530, H⟩ := H
                                replace H : (if t133 = 21 then (some ((t127.length : Int) == 0)) else (some false)) = some r := H
                                have A53 := Aside0.mk A530
                                clear A530
                                by_cases c54 : t133 = 21
                                · rw [if_pos c54] at H
                                  have c54b0 : (t133 == 21) = true := beq_iff_eq.mpr c54
                                  have c54b1 : (t133 != 21) = false := bne_eq_false_iff_eq.mpr c54
                                  clear c54
                                  obtain rfl := Option.some.inj H
                                  go_wp2_with (first | ((with_reducible refine gate_callee (f := 23) rfl ?_); refine goesL_ (some 107) rfl rfl Try.func23 (by kernel_rfl) rfl #[.slice Ao30 x9_2.length co30, .int .i64 0] rfl (by (try simp only [List.map_toArray, List.map_cons, List.map_nil]); first | done | rfl | (simp only [List.length_drop, List.length_take]; rfl)) ?_; (with_reducible refine (wire_Unframe.calls _ _ x9_2 0 t126 t127 t128 t129 _ ?side1 ?side2 A49.out).mono ?_); (case side1 => repeat (first | exact (Kd.R_reads' HO_9.out).2.2 | (with_reducible refine Kd.C_alloc ?_ _) | (with_reducible refine Kd.C_drewN ?_ _) | (with_reducible refine Kd.C_drew ?_))); (case side2 => exact (Kd.R_reads' HO_9.out).2.1); rintro e w55 ⟨v130, rfl, ho0, hb⟩; refine ⟨_, rfl, ?_⟩; have n0_ := Aside0.mk (Kd.R_elder' (by (with_reducible repeat (first | apply Kd.R_alloc | apply Kd.R_drewN | apply Kd.R_drew)); exact HO_9.out) (Kd.R_base ho0) hb); have n1_ := Aside0.mk (Kd.R_lower (Kd.R_new' ho0 (Kd.R_lt (by (with_reducible repeat (first | apply Kd.R_alloc | apply Kd.R_drewN | apply Kd.R_drew)); exact HO_9.out))) (below_size (by repeat (first | (with_reducible first | exact HB.out | apply below_alloc | apply pw_below_drewN | apply below_drew1) | exact HB.out)))); have n2_ := Aside0.mk (below_step (by repeat (first | (with_reducible first | exact HB.out | apply below_alloc | apply pw_below_drewN | apply below_drew1) | exact HB.out)) hb); clear HO_9; clear HB; have HO_9 := n0_; have HO131 := n1_; have HB := n2_; clear n0_ n1_ n2_; (try clear hb); (try clear hb2); (try clear hk); (try clear hi); (try clear ho0)) | ((with_reducible refine gate_callee (f := 19) rfl ?_); refine goesL_ (some 123) rfl rfl Try.func19 (by kernel_rfl) rfl #[.int .i64 t121] rfl (by (try simp only [List.map_toArray, List.map_cons, List.map_nil]); first | done | rfl | (simp only [List.length_drop, List.length_take]; rfl)) ?_; (with_reducible refine (gazettelaw01_num.calls t121 t132 _ A51.out).mono ?_); rintro e w' ⟨rfl, ⟨nd, rfl⟩⟩; refine ⟨_, rfl, ?_⟩) | (go_at_call 19; (with_reducible refine (gazettelaw01_num.calls t129 t133 _ A53.out).mono ?_); rintro e w' ⟨rfl, ⟨nd, rfl⟩⟩; obtain ⟨Ao56, co56, eo56⟩ := Kd.R_slice HO131.out; subst eo56))
                                  go_ret
                                  exact ⟨by first | rfl | (simp [errW_none, errW_some] <;> rfl) | (simp only [← hji25]; first | rfl | (simp [errW_none, errW_some] <;> rfl)) | (simp [*, errW_none, errW_some] <;> rfl), by repeat (first | (with_reducible first | exact HB.out | apply below_alloc | apply pw_below_drewN | apply below_drew1) | exact HB.out)⟩
                                · rw [if_neg c54] at H
                                  have c54b0 : (t133 == 21) = false := beq_eq_false_iff_ne.mpr c54
                                  have c54b1 : (t133 != 21) = true := bne_iff_ne.mpr c54
                                  obtain rfl := Option.some.inj H
                                  go_wp2_with (first | ((with_reducible refine gate_callee (f := 23) rfl ?_); refine goesL_ (some 107) rfl rfl Try.func23 (by kernel_rfl) rfl #[.slice Ao30 x9_2.length co30, .int .i64 0] rfl (by (try simp only [List.map_toArray, List.map_cons, List.map_nil]); first | done | rfl | (simp only [List.length_drop, List.length_take]; rfl)) ?_; (with_reducible refine (wire_Unframe.calls _ _ x9_2 0 t126 t127 t128 t129 _ ?side1 ?side2 A49.out).mono ?_); (case side1 => repeat (first | exact (Kd.R_reads' HO_9.out).2.2 | (with_reducible refine Kd.C_alloc ?_ _) | (with_reducible refine Kd.C_drewN ?_ _) | (with_reducible refine Kd.C_drew ?_))); (case side2 => exact (Kd.R_reads' HO_9.out).2.1); rintro e w57 ⟨v130, rfl, ho0, hb⟩; refine ⟨_, rfl, ?_⟩; have n0_ := Aside0.mk (Kd.R_elder' (by (with_reducible repeat (first | apply Kd.R_alloc | apply Kd.R_drewN | apply Kd.R_drew)); exact HO_9.out) (Kd.R_base ho0) hb); have n1_ := Aside0.mk (Kd.R_lower (Kd.R_new' ho0 (Kd.R_lt (by (with_reducible repeat (first | apply Kd.R_alloc | apply Kd.R_drewN | apply Kd.R_drew)); exact HO_9.out))) (below_size (by repeat (first | (with_reducible first | exact HB.out | apply below_alloc | apply pw_below_drewN | apply below_drew1) | exact HB.out)))); have n2_ := Aside0.mk (below_step (by repeat (first | (with_reducible first | exact HB.out | apply below_alloc | apply pw_below_drewN | apply below_drew1) | exact HB.out)) hb); clear HO_9; clear HB; have HO_9 := n0_; have HO131 := n1_; have HB := n2_; clear n0_ n1_ n2_; (try clear hb); (try clear hb2); (try clear hk); (try clear hi); (try clear ho0)) | ((with_reducible refine gate_callee (f := 19) rfl ?_); refine goesL_ (some 123) rfl rfl Try.func19 (by kernel_rfl) rfl #[.int .i64 t121] rfl (by (try simp only [List.map_toArray, List.map_cons, List.map_nil]); first | done | rfl | (simp only [List.length_drop, List.length_take]; rfl)) ?_; (with_reducible refine (gazettelaw01_num.calls t121 t132 _ A51.out).mono ?_); rintro e w' ⟨rfl, ⟨nd, rfl⟩⟩; refine ⟨_, rfl, ?_⟩) | (go_at_call 19; (with_reducible refine (gazettelaw01_num.calls t129 t133 _ A53.out).mono ?_); rintro e w' ⟨rfl, ⟨nd, rfl⟩⟩))
                                  go_ret
                                  exact ⟨by first | rfl | (simp [errW_none, errW_some] <;> rfl) | (simp only [← hji25]; first | rfl | (simp [errW_none, errW_some] <;> rfl)) | (simp [*, errW_none, errW_some] <;> rfl), by repeat (first | (with_reducible first | exact HB.out | apply below_alloc | apply pw_below_drewN | apply below_drew1) | exact HB.out)⟩
                              · rw [if_neg c52] at H
                                have c52b0 : (t132 == 20) = false := beq_eq_false_iff_ne.mpr c52
                                have c52b1 : (t132 != 20) = true := bne_iff_ne.mpr c52
                                obtain rfl := Option.some.inj H
                                go_wp2_with (first | ((with_reducible refine gate_callee (f := 23) rfl ?_); refine goesL_ (some 107) rfl rfl Try.func23 (by kernel_rfl) rfl #[.slice Ao30 x9_2.length co30, .int .i64 0] rfl (by (try simp only [List.map_toArray, List.map_cons, List.map_nil]); first | done | rfl | (simp only [List.length_drop, List.length_take]; rfl)) ?_; (with_reducible refine (wire_Unframe.calls _ _ x9_2 0 t126 t127 t128 t129 _ ?side1 ?side2 A49.out).mono ?_); (case side1 => repeat (first | exact (Kd.R_reads' HO_9.out).2.2 | (with_reducible refine Kd.C_alloc ?_ _) | (with_reducible refine Kd.C_drewN ?_ _) | (with_reducible refine Kd.C_drew ?_))); (case side2 => exact (Kd.R_reads' HO_9.out).2.1); rintro e w58 ⟨v130, rfl, ho0, hb⟩; refine ⟨_, rfl, ?_⟩; have n0_ := Aside0.mk (Kd.R_elder' (by (with_reducible repeat (first | apply Kd.R_alloc | apply Kd.R_drewN | apply Kd.R_drew)); exact HO_9.out) (Kd.R_base ho0) hb); have n1_ := Aside0.mk (Kd.R_lower (Kd.R_new' ho0 (Kd.R_lt (by (with_reducible repeat (first | apply Kd.R_alloc | apply Kd.R_drewN | apply Kd.R_drew)); exact HO_9.out))) (below_size (by repeat (first | (with_reducible first | exact HB.out | apply below_alloc | apply pw_below_drewN | apply below_drew1) | exact HB.out)))); have n2_ := Aside0.mk (below_step (by repeat (first | (with_reducible first | exact HB.out | apply below_alloc | apply pw_below_drewN | apply below_drew1) | exact HB.out)) hb); clear HO_9; clear HB; have HO_9 := n0_; have HO131 := n1_; have HB := n2_; clear n0_ n1_ n2_; (try clear hb); (try clear hb2); (try clear hk); (try clear hi); (try clear ho0)) | ((with_reducible refine gate_callee (f := 19) rfl ?_); refine goesL_ (some 123) rfl rfl Try.func19 (by kernel_rfl) rfl #[.int .i64 t121] rfl (by (try simp only [List.map_toArray, List.map_cons, List.map_nil]); first | done | rfl | (simp only [List.length_drop, List.length_take]; rfl)) ?_; (with_reducible refine (gazettelaw01_num.calls t121 t132 _ A51.out).mono ?_); rintro e w' ⟨rfl, ⟨nd, rfl⟩⟩; refine ⟨_, rfl, ?_⟩))
                                go_ret
                                exact ⟨by first | rfl | (simp [errW_none, errW_some] <;> rfl) | (simp only [← hji25]; first | rfl | (simp [errW_none, errW_some] <;> rfl)) | (simp [*, errW_none, errW_some] <;> rfl), by repeat (first | (with_reducible first | exact HB.out | apply below_alloc | apply pw_below_drewN | apply below_drew1) | exact HB.out)⟩
                            · replace c50 := Bool.eq_false_iff.mpr c50
                              subst c50
                              have H1 : ((gazettelaw01_num.f t121).bind fun t134 => (if t134 = 20 then ((gazettelaw01_num.f t129).bind fun t135 => (some (t135 == 0))) else (some false))) = some r := by rw [if_neg (show ¬ (false = true) by decide)] at H; exact H
                              clear H
                              have H := H1
                              clear H1
                              replace H := Option.bind_eq_some_iff.mp H
                              obtain ⟨t134, A590, H⟩ := H
                              replace H : (if t134 = 20 then ((gazettelaw01_num.f t129).bind fun t135 => (some (t135 == 0))) else (some false)) = some r := H
                              have A59 := Aside0.mk A590
                              clear A590
                              by_cases c60 : t134 = 20
                              · rw [if_pos c60] at H
                                have c60b0 : (t134 == 20) = true := beq_iff_eq.mpr c60
                                have c60b1 : (t134 != 20) = false := bne_eq_false_iff_eq.mpr c60
                                clear c60
                                replace H := Option.bind_eq_some_iff.mp H
                                obtain ⟨t135, A610, H⟩ := H
                                replace H : (some (t135 == 0)) = some r := H
                                have A61 := Aside0.mk A610
                                clear A610
                                obtain rfl := Option.some.inj H
                                go_wp2_with (first | ((with_reducible refine gate_callee (f := 23) rfl ?_); refine goesL_ (some 107) rfl rfl Try.func23 (by kernel_rfl) rfl #[.slice Ao30 x9_2.length co30, .int .i64 0] rfl (by (try simp only [List.map_toArray, List.map_cons, List.map_nil]); first | done | rfl | (simp only [List.length_drop, List.length_take]; rfl)) ?_; (with_reducible refine (wire_Unframe.calls _ _ x9_2 0 t126 t127 t128 t129 _ ?side1 ?side2 A49.out).mono ?_); (case side1 => repeat (first | exact (Kd.R_reads' HO_9.out).2.2 | (with_reducible refine Kd.C_alloc ?_ _) | (with_reducible refine Kd.C_drewN ?_ _) | (with_reducible refine Kd.C_drew ?_))); (case side2 => exact (Kd.R_reads' HO_9.out).2.1); rintro e w62 ⟨v130, rfl, ho0, hb⟩; refine ⟨_, rfl, ?_⟩; have n0_ := Aside0.mk (Kd.R_elder' (by (with_reducible repeat (first | apply Kd.R_alloc | apply Kd.R_drewN | apply Kd.R_drew)); exact HO_9.out) (Kd.R_base ho0) hb); have n1_ := Aside0.mk (Kd.R_lower (Kd.R_new' ho0 (Kd.R_lt (by (with_reducible repeat (first | apply Kd.R_alloc | apply Kd.R_drewN | apply Kd.R_drew)); exact HO_9.out))) (below_size (by repeat (first | (with_reducible first | exact HB.out | apply below_alloc | apply pw_below_drewN | apply below_drew1) | exact HB.out)))); have n2_ := Aside0.mk (below_step (by repeat (first | (with_reducible first | exact HB.out | apply below_alloc | apply pw_below_drewN | apply below_drew1) | exact HB.out)) hb); clear HO_9; clear HB; have HO_9 := n0_; have HO131 := n1_; have HB := n2_; clear n0_ n1_ n2_; (try clear hb); (try clear hb2); (try clear hk); (try clear hi); (try clear ho0)) | ((with_reducible refine gate_callee (f := 19) rfl ?_); refine goesL_ (some 115) rfl rfl Try.func19 (by kernel_rfl) rfl #[.int .i64 t121] rfl (by (try simp only [List.map_toArray, List.map_cons, List.map_nil]); first | done | rfl | (simp only [List.length_drop, List.length_take]; rfl)) ?_; (with_reducible refine (gazettelaw01_num.calls t121 t134 _ A59.out).mono ?_); rintro e w' ⟨rfl, ⟨nd, rfl⟩⟩; refine ⟨_, rfl, ?_⟩) | (go_at_call 19; (with_reducible refine (gazettelaw01_num.calls t129 t135 _ A61.out).mono ?_); rintro e w' ⟨rfl, ⟨nd, rfl⟩⟩))
                                go_ret
                                exact ⟨by first | rfl | (simp [errW_none, errW_some] <;> rfl) | (simp only [← hji25]; first | rfl | (simp [errW_none, errW_some] <;> rfl)) | (simp [*, errW_none, errW_some] <;> rfl), by repeat (first | (with_reducible first | exact HB.out | apply below_alloc | apply pw_below_drewN | apply below_drew1) | exact HB.out)⟩
                              · rw [if_neg c60] at H
                                have c60b0 : (t134 == 20) = false := beq_eq_false_iff_ne.mpr c60
                                have c60b1 : (t134 != 20) = true := bne_iff_ne.mpr c60
                                obtain rfl := Option.some.inj H
                                go_wp2_with (first | ((with_reducible refine gate_callee (f := 23) rfl ?_); refine goesL_ (some 107) rfl rfl Try.func23 (by kernel_rfl) rfl #[.slice Ao30 x9_2.length co30, .int .i64 0] rfl (by (try simp only [List.map_toArray, List.map_cons, List.map_nil]); first | done | rfl | (simp only [List.length_drop, List.length_take]; rfl)) ?_; (with_reducible refine (wire_Unframe.calls _ _ x9_2 0 t126 t127 t128 t129 _ ?side1 ?side2 A49.out).mono ?_); (case side1 => repeat (first | exact (Kd.R_reads' HO_9.out).2.2 | (with_reducible refine Kd.C_alloc ?_ _) | (with_reducible refine Kd.C_drewN ?_ _) | (with_reducible refine Kd.C_drew ?_))); (case side2 => exact (Kd.R_reads' HO_9.out).2.1); rintro e w63 ⟨v130, rfl, ho0, hb⟩; refine ⟨_, rfl, ?_⟩; have n0_ := Aside0.mk (Kd.R_elder' (by (with_reducible repeat (first | apply Kd.R_alloc | apply Kd.R_drewN | apply Kd.R_drew)); exact HO_9.out) (Kd.R_base ho0) hb); have n1_ := Aside0.mk (Kd.R_lower (Kd.R_new' ho0 (Kd.R_lt (by (with_reducible repeat (first | apply Kd.R_alloc | apply Kd.R_drewN | apply Kd.R_drew)); exact HO_9.out))) (below_size (by repeat (first | (with_reducible first | exact HB.out | apply below_alloc | apply pw_below_drewN | apply below_drew1) | exact HB.out)))); have n2_ := Aside0.mk (below_step (by repeat (first | (with_reducible first | exact HB.out | apply below_alloc | apply pw_below_drewN | apply below_drew1) | exact HB.out)) hb); clear HO_9; clear HB; have HO_9 := n0_; have HO131 := n1_; have HB := n2_; clear n0_ n1_ n2_; (try clear hb); (try clear hb2); (try clear hk); (try clear hi); (try clear ho0)) | ((with_reducible refine gate_callee (f := 19) rfl ?_); refine goesL_ (some 115) rfl rfl Try.func19 (by kernel_rfl) rfl #[.int .i64 t121] rfl (by (try simp only [List.map_toArray, List.map_cons, List.map_nil]); first | done | rfl | (simp only [List.length_drop, List.length_take]; rfl)) ?_; (with_reducible refine (gazettelaw01_num.calls t121 t134 _ A59.out).mono ?_); rintro e w' ⟨rfl, ⟨nd, rfl⟩⟩; refine ⟨_, rfl, ?_⟩))
                                go_ret
                                exact ⟨by first | rfl | (simp [errW_none, errW_some] <;> rfl) | (simp only [← hji25]; first | rfl | (simp [errW_none, errW_some] <;> rfl)) | (simp [*, errW_none, errW_some] <;> rfl), by repeat (first | (with_reducible first | exact HB.out | apply below_alloc | apply pw_below_drewN | apply below_drew1) | exact HB.out)⟩
              · rw [if_neg c27] at H
                exact absurd H (by simp)
            · rw [if_neg c26] at H
              exact absurd H (by simp)
  · rw [if_neg c5] at H
    exact absurd H (by simp)

/-- THE ONE PURE STATEMENT of gazettelaw01_WireTold: yours. -/
def gazettelaw01_WireTold.Pure : Prop := ∀ (a0 : Int) (l1 : List Int) (a2 : Int) (a3 : Int), (Lit.int .i64 a0).wf = true → l1.length ≤ maxLen → l1.length * 1 ≤ 140737488351232 → (∀ x ∈ l1, (Lit.int .u8 x).wf = true) → (Lit.int .i64 a2).wf = true → (Lit.int .u32 a3).wf = true → ∃ k, gazettelaw01_WireTold.f k a0 l1 a2 a3 = some true
theorem gazettelaw01_WireTold.walk (P : gazettelaw01_WireTold.Pure) (a0 : Int) (a1 : Option Addr) (len1 cap1 : Nat) (z1 : List Int) (a2 : Int) (a3 : Int) (w : World) (w0 : (Lit.int .i64 a0).wf = true) (w1 : (a1 = none ∧ len1 = 0 ∧ cap1 = 0 ∧ z1 = []) ∨ ∃ x, a1 = some x ∧ len1 ≤ cap1 ∧ cap1 ≤ maxLen ∧ z1.length = cap1 ∧ (∀ i, i < z1.length → w.cell? (x.add i) = some (.int .u8 (z1.getD i 0))) ∧ ∀ n ∈ z1, (Lit.int .u8 n).wf = true) (y1 : len1 * 1 ≤ 140737488351232) (w2 : (Lit.int .i64 a2).wf = true) (w3 : (Lit.int .u32 a3).wf = true) :
    Calls Try.prog 6 #[.int .i64 a0, .slice a1 len1 cap1, .int .i64 a2, .int .u32 a3] w fun e w' => e = .returned (.bool true) ∧ Below w.heap.size w w' := by
  obtain ⟨l1, rfl, hr1, hm1, hw1, hc1⟩ := ReadsInt.ofRowC w1
  obtain ⟨k, h⟩ := P a0 l1 a2 a3 w0 hm1 y1 hw1 w2 w3
  refine (gazettelaw01_WireTold.calls k a0 _ _ l1 a2 a3 true w (Kd.C_of_reads (d := (0 : Int)) (h1 := fun _ => rfl) hr1) hc1 h).mono ?_
  rintro e w' ⟨rfl, hd⟩
  exact ⟨rfl, hd⟩

end Go.Proofs.Ythlfhlnalmpmdaa.PWireTold
