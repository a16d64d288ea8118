-- Written by a program of this session (hprint.py, over the kit's print.py). Not trusted: Lean checks it.
import Derived.Test.YtamiglolpchplaaPHistoryLessx0
namespace Go.Proofs.Ytamiglolpchplaa.PHistoryLess
open Go.Proofs.Ytamiglolpchplaa.R0
open Go.Proofs.Ytamiglolpchplaa.Hand
open Go.Proofs.Ytamiglolpchplaa.R0
open Go.RowKit Go.Proofs.YtamiglolpchplaaW.PrintWords Go.Proofs.YtamiglolpchplaaW.PrintLast Go.Proofs.YtamiglolpchplaaW.PrintMore
attribute [local go_sem] max2_int min2_int max_two min_two max_three min_three max_four min_four   -- for this text's walks alone
set_option linter.unusedVariables false
set_option linter.unusedSimpArgs false

/-! ### gazettelaw20_HistoryLess: function 6 -/
def gazettelaw20_HistoryLess.l0 : Nat → List Int → List (S34) → Int → Int → Option (Bool)
  | 0, _, _, _, _ => none
  | k + 1, x1, x5, x6, x7 => if x7 < (x1.length : Int) then (if (x5.length : Int) = 0 then ((gazettelaw20_knows.f).bind fun t107 => (some t107)) else (if 0 ≤ x7 then (if 0 ≤ (Int.tmod (wrap64 ((Int.tmod (rd x1 x7) (x5.length : Int)) + (x5.length : Int))) (x5.length : Int)) then (if (Int.tmod (wrap64 ((Int.tmod (rd x1 x7) (x5.length : Int)) + (x5.length : Int))) (x5.length : Int)) < (x5.length : Int) then (if ((rd_T34 x5 (Int.tmod (wrap64 ((Int.tmod (rd x1 x7) (x5.length : Int)) + (x5.length : Int))) (x5.length : Int))).f0 = true) then ((some (([] : List (S34)) : List (S34))).bind fun y110 => (if (Int.tmod (wrap64 ((Int.tmod (rd x1 x7) (x5.length : Int)) + (x5.length : Int))) (x5.length : Int)) ≤ (x5.length : Int) then ((some (x5.take ((Int.tmod (wrap64 ((Int.tmod (rd x1 x7) (x5.length : Int)) + (x5.length : Int))) (x5.length : Int)) : Int).toNat : List (S34))).bind fun y113 => (if y110.length + y113.length < 1954687338268 then ((some (y110 ++ y113 : List (S34))).bind fun y118 => (if 0 ≤ (wrap64 ((Int.tmod (wrap64 ((Int.tmod (rd x1 x7) (x5.length : Int)) + (x5.length : Int))) (x5.length : Int)) + 1)) then (if (wrap64 ((Int.tmod (wrap64 ((Int.tmod (rd x1 x7) (x5.length : Int)) + (x5.length : Int))) (x5.length : Int)) + 1)) ≤ (x5.length : Int) then ((some (x5.drop ((wrap64 ((Int.tmod (wrap64 ((Int.tmod (rd x1 x7) (x5.length : Int)) + (x5.length : Int))) (x5.length : Int)) + 1)) : Int).toNat : List (S34))).bind fun y121 => (if y118.length + y121.length < 1954687338268 then ((some (y118 ++ y121 : List (S34))).bind fun y126 => (if x6 = 0 then ((history_Check.f y126).bind fun t129 => ((gazettelaw20_num.f t129).bind fun t130 => (if t130 = 0 then (gazettelaw20_HistoryLess.l0 k x1 y126 x6 (wrap64 (x7 + 1))) else (some false)))) else (gazettelaw20_HistoryLess.l0 k x1 y126 x6 (wrap64 (x7 + 1))))) else (none))) else (none)) else (none))) else (none))) else (none))) else (gazettelaw20_HistoryLess.l0 k x1 x5 x6 (wrap64 (x7 + 1)))) else (none)) else (none)) else (none))) else ((gazettelaw20_knows.f).bind fun t106 => (some t106))
def gazettelaw20_HistoryLess.f (k : Nat) (l0 : List (S35)) (l1 : List Int) : Option (Bool) := (gazettelaw20_Own.f k l0).bind fun t101 => ((history_Check.f t101).bind fun t104 => ((gazettelaw20_num.f t104).bind fun t105 => (gazettelaw20_HistoryLess.l0 k l1 t101 t105 0)))
theorem gazettelaw20_HistoryLess.mono_l : ∀ k, (∀ y0 y1 y2 y3, LeO (gazettelaw20_HistoryLess.l0 k y0 y1 y2 y3) (gazettelaw20_HistoryLess.l0 (k + 1) y0 y1 y2 y3))
  | 0 => fun _ _ _ _ r h => by simp [gazettelaw20_HistoryLess.l0] at h
  | k + 1 => by
    have ih0 := gazettelaw20_HistoryLess.mono_l k
    · intro y0 y1 y2 y3
      unfold gazettelaw20_HistoryLess.l0
      repeat' first
      | (with_reducible exact ih0 _ _ _ _)
      | (with_reducible exact gazettelaw20_Own.mono _ _)
      | (with_reducible exact LeO.refl _)
      | (with_reducible exact LeO.none _)
      | (with_reducible refine LeO.ite ?_ ?_)
      | (with_reducible refine LeO.bind ?_ (fun _ => ?_))
      | exact ih0 _ _ _ _
      | exact gazettelaw20_Own.mono _ _
      | exact LeO.none _
      | refine LeO.ite ?_ ?_
      | refine LeO.bind ?_ (fun _ => ?_)
theorem gazettelaw20_HistoryLess.mono : ∀ a0 a1 k, LeO (gazettelaw20_HistoryLess.f k a0 a1) (gazettelaw20_HistoryLess.f (k + 1) a0 a1) := by
  intro a0 a1 k
  have ih0 := gazettelaw20_HistoryLess.mono_l k
  unfold gazettelaw20_HistoryLess.f
  repeat' first
      | (with_reducible exact ih0 _ _ _ _)
      | (with_reducible exact gazettelaw20_Own.mono _ _)
      | (with_reducible exact LeO.refl _)
      | (with_reducible exact LeO.none _)
      | (with_reducible refine LeO.ite ?_ ?_)
      | (with_reducible refine LeO.bind ?_ (fun _ => ?_))
      | exact ih0 _ _ _ _
      | exact gazettelaw20_Own.mono _ _
      | exact LeO.none _
      | refine LeO.ite ?_ ?_
      | refine LeO.bind ?_ (fun _ => ?_)
def gazettelaw20_HistoryLess.T9 : Bool × List (List Nat × List Nat) := (true, [([], []), ([], []), ([], []), ([1, 2], [1, 2]), ([0, 3], [0, 3]), ([], []), ([], []), ([6], [6]), ([5, 7], [5, 7]), ([4, 8, 4], [4, 8]), ([9, 9, 0, 1, 2, 3, 4, 5, 6, 7, 8, 9], [1, 5, 9])])
def gazettelaw20_HistoryLess.B9 : List Nat := [0, 0, 0, 6, 15, 0, 0, 64, 224, 511, 1023]
theorem gazettelaw20_HistoryLess.tab9 : rtab .any (opsOf Try.f6 9) = gazettelaw20_HistoryLess.T9 := by kernel_rfl
theorem gazettelaw20_HistoryLess.bits9 : waitsOk gazettelaw20_HistoryLess.T9.2 gazettelaw20_HistoryLess.B9 = true := by kernel_rfl
set_option maxHeartbeats 8000000 in
set_option maxRecDepth 100000 in
theorem gazettelaw20_HistoryLess.calls (k : Nat) (A0 : Option Addr) (c0 : Nat) (l0 : List (S35)) (A1 : Option Addr) (c1 : Nat) (l1 : List Int) (r : Bool) (w : World) (hr0 : Kd.C k35 w A0 l0.length l0) (hc0 : l0.length ≤ c0) (hr1 : Kd.C (Kd.int .i64) w A1 l1.length l1) (hc1 : l1.length ≤ c1) (h : gazettelaw20_HistoryLess.f k l0 l1 = some r) :
    Calls Try.prog 6 #[.slice A0 l0.length c0, .slice A1 l1.length c1] w fun e w' => e = .returned (.bool r) ∧ Below w.heap.size w w' := by
  have HR0 := Aside0.mk hr0
  have HC0 := Aside0.mk hc0
  clear hr0 hc0
  have HR1 := Aside0.mk hr1
  have HC1 := Aside0.mk hc1
  clear hr1 hc1
  have HB := Aside0.mk (Below.refl w.heap.size w)
  have H : ((gazettelaw20_Own.f k l0).bind fun t101 => ((history_Check.f t101).bind fun t104 => ((gazettelaw20_num.f t104).bind fun t105 => (gazettelaw20_HistoryLess.l0 k l1 t101 t105 0)))) = some r := h
  clear h
  replace H := Option.bind_eq_some_iff.mp H
  obtain ⟨t101, A30, H⟩ := H
  replace H : ((history_Check.f t101).bind fun t104 => ((gazettelaw20_num.f t104).bind fun t105 => (gazettelaw20_HistoryLess.l0 k l1 t101 t105 0))) = some r := H
  have A3 := Aside0.mk A30
  clear A30
  replace H := Option.bind_eq_some_iff.mp H
  obtain ⟨t104, A40, H⟩ := H
  replace H : ((gazettelaw20_num.f t104).bind fun t105 => (gazettelaw20_HistoryLess.l0 k l1 t101 t105 0)) = some r := H
  have A4 := Aside0.mk A40
  clear A40
  replace H := Option.bind_eq_some_iff.mp H
  obtain ⟨t105, A50, H⟩ := H
  replace H : (gazettelaw20_HistoryLess.l0 k l1 t101 t105 0) = some r := H
  have A5 := Aside0.mk A50
  clear A50
  have H' := Aside0.mk H
  clear H
  go_enter Try.func6, Try.ntmps6
  go_wp2_with (first | ((with_reducible refine gate_callee (f := 8) rfl ?_); refine goesL_ (some 10) rfl rfl Try.func8 (by kernel_rfl) rfl #[.slice A0 l0.length c0] rfl (by (try simp only [List.map_toArray, List.map_cons, List.map_nil]); first | done | rfl | (simp only [List.length_drop, List.length_take]; rfl)) ?_; (with_reducible refine (gazettelaw20_Own.calls k _ _ l0 t101 _ ?side1 ?side2 A3.out).mono ?_); (case side1 => repeat (first | exact HR0.out | (with_reducible refine Kd.C_alloc ?_ _) | (with_reducible refine Kd.C_drewN ?_ _) | (with_reducible refine Kd.C_drew ?_))); (case side2 => exact HC0.out); rintro e w6 ⟨v102, rfl, ho0, hb⟩; refine ⟨_, rfl, ?_⟩; have n0_ := Aside0.mk (Kd.N_lower (Kd.N_mono (ok' := fun k_ => True) (Kd.S_N (Kd.S_bound ho0)) (fun k_ hk_ => trivial)) (below_size (by repeat (first | (with_reducible first | exact HB.out | apply below_alloc | apply pw_below_drewN | apply below_drew1) | exact HB.out)))); have n1_ := Aside0.mk (below_step (by repeat (first | (with_reducible first | exact HB.out | apply below_alloc | apply pw_below_drewN | apply below_drew1) | exact HB.out)) hb); clear HB; have HO103 := n0_; have HB := n1_; clear n0_ n1_; (try clear hb); (try clear hb2); (try clear hk); (try clear hi); (try clear ho0); obtain ⟨Ao7, co7, eo7⟩ := Kd.N_slice HO103.out; subst eo7) | ((with_reducible refine gate_callee (f := 12) rfl ?_); refine goesL_ (some 12) rfl rfl Try.func12 (by kernel_rfl) rfl #[.slice Ao7 t101.length co7] rfl (by (try simp only [List.map_toArray, List.map_cons, List.map_nil]); first | done | rfl | (simp only [List.length_drop, List.length_take]; rfl)) ?_; (with_reducible refine (history_Check.calls _ _ t101 t104 _ ?side1 ?side2 A4.out).mono ?_); (case side1 => repeat (first | exact (Kd.N_reads' HO103.out).2.2 | (with_reducible refine Kd.C_alloc ?_ _) | (with_reducible refine Kd.C_drewN ?_ _) | (with_reducible refine Kd.C_drew ?_))); (case side2 => exact (Kd.N_reads' HO103.out).2.1); rintro e w8 ⟨rfl, hb⟩; refine ⟨_, rfl, ?_⟩; have n0_ := Aside0.mk (Kd.N_below (by (with_reducible repeat (first | apply Kd.N_alloc | apply Kd.N_drewN | apply Kd.N_drew)); exact HO103.out) hb); have n1_ := Aside0.mk (below_step (by repeat (first | (with_reducible first | exact HB.out | apply below_alloc | apply pw_below_drewN | apply below_drew1) | exact HB.out)) hb); clear HO103; clear HB; have HO103 := n0_; have HB := n1_; clear n0_ n1_; (try clear hb); (try clear hb2); (try clear hk); (try clear hi)) | ((with_reducible refine gate_callee (f := 11) rfl ?_); refine goesL_ (some 13) rfl rfl Try.func11 (by kernel_rfl) rfl #[.int .i64 t104] rfl (by (try simp only [List.map_toArray, List.map_cons, List.map_nil]); first | done | rfl | (simp only [List.length_drop, List.length_take]; rfl)) ?_; (with_reducible refine (gazettelaw20_num.calls t104 t105 _ A5.out).mono ?_); rintro e w' ⟨rfl, ⟨nd, rfl⟩⟩; refine ⟨_, rfl, ?_⟩))
  go_loopg [5, 7] k (fun kq v5 v7 w' => ∃ (x5_1 : List (S34)) (x7_1 : Int), v7 = .int .i64 x7_1 ∧ Aside0 (gazettelaw20_HistoryLess.l0 kq l1 x5_1 t105 x7_1 = some r) ∧ Aside0 (kq ≤ k) ∧ Aside0 (Kd.N k34 34 w' w.heap.size (fun _ => True) v5 x5_1) ∧ Aside0 (Below w.heap.size w w'))
  case atStart => exact ⟨(t101), (0), (by first | rfl | (simp; done) | (simp [*]; done)), H', ⟨Nat.le_refl _⟩, ⟨by (with_reducible repeat (first | apply Kd.N_alloc | apply Kd.N_drewN | apply Kd.N_drew)); exact HO103.out⟩, ⟨by repeat (first | (with_reducible first | exact HB.out | apply below_alloc | apply pw_below_drewN | apply below_drew1) | exact HB.out)⟩⟩
  case round =>
    clear H'
    try clear c1
    try clear p2
    try clear c6
    try clear c8
    obtain ⟨x5_1, x7_1, rfl, HA, HK1, HO_5, HB⟩ := hrel
    cases gk with
    | zero => exact absurd HA.out (by simp [gazettelaw20_HistoryLess.l0])
    | succ k1 =>
      have H := HA.out
      clear HA
      simp only [gazettelaw20_HistoryLess.l0] at H
      by_cases c9 : x7_1 < (l1.length : Int)
      · rw [if_pos c9] at H
        have c9b0 : decide (x7_1 < (l1.length : Int)) = true := decide_eq_true c9
        clear c9
        by_cases c10 : (x5_1.length : Int) = 0
        · rw [if_pos c10] at H
          have c10b0 : ((x5_1.length : Int) == 0) = true := beq_iff_eq.mpr c10
          have c10b1 : ((x5_1.length : Int) != 0) = false := bne_eq_false_iff_eq.mpr c10
          clear c10
          replace H := Option.bind_eq_some_iff.mp H
          obtain ⟨t107, A110, H⟩ := H
          replace H : (some t107) = some r := H
          have A11 := Aside0.mk A110
          clear A110
          obtain rfl := Option.some.inj H
          obtain ⟨Ao12, co12, eo12⟩ := Kd.N_slice HO_5.out
          subst eo12
          go_wp2_with (first | ((with_reducible refine gate_callee (f := 16) rfl ?_); refine goesL_ (some 60) rfl rfl Try.func16 (by kernel_rfl) rfl #[] rfl (by (try simp only [List.map_toArray, List.map_cons, List.map_nil]); first | done | rfl | (simp only [List.length_drop, List.length_take]; rfl)) ?_; (with_reducible refine (gazettelaw20_knows.calls  t107 _ A11.out).mono ?_); rintro e w13 ⟨rfl, hb⟩; refine ⟨_, rfl, ?_⟩; have n0_ := Aside0.mk (Kd.N_below (by (with_reducible repeat (first | apply Kd.N_alloc | apply Kd.N_drewN | apply Kd.N_drew)); exact HO_5.out) hb); have n1_ := Aside0.mk (below_step (by repeat (first | (with_reducible first | exact HB.out | apply below_alloc | apply pw_below_drewN | apply below_drew1) | exact HB.out)) hb); clear HO_5; clear HB; have HO_5 := n0_; have HB := n1_; clear n0_ n1_; (try clear hb); (try clear hb2); (try clear hk); (try clear hi)))
          go_ret
          exact ⟨by first | rfl | (simp [errW_none, errW_some] <;> rfl) | (simp [*, errW_none, errW_some] <;> rfl), by repeat (first | (with_reducible first | exact HB.out | apply below_alloc | apply pw_below_drewN | apply below_drew1) | exact HB.out)⟩
        · rw [if_neg c10] at H
          have c10b0 : ((x5_1.length : Int) == 0) = false := beq_eq_false_iff_ne.mpr c10
          have c10b1 : ((x5_1.length : Int) != 0) = true := bne_iff_ne.mpr c10
          have c10b2 : ¬ (x5_1 = []) := fun h_ => c10 (by rw [h_]; rfl)
          by_cases c14 : 0 ≤ x7_1
          · rw [if_pos c14] at H
            have c14b0 : decide (0 ≤ x7_1) = true := decide_eq_true c14
            clear c14
            obtain ⟨ji15, hji15⟩ : ∃ j_ : Int, (Int.tmod (wrap64 ((Int.tmod (rd l1 x7_1) (x5_1.length : Int)) + (x5_1.length : Int))) (x5_1.length : Int)) = j_ := ⟨_, rfl⟩
            replace H : (if 0 ≤ (ji15) then (if (ji15) < (x5_1.length : Int) then (if ((rd_T34 x5_1 (ji15)).f0 = true) then ((some (([] : List (S34)) : List (S34))).bind fun y110 => (if (ji15) ≤ (x5_1.length : Int) then ((some (x5_1.take ((ji15) : Int).toNat : List (S34))).bind fun y113 => (if y110.length + y113.length < 1954687338268 then ((some (y110 ++ y113 : List (S34))).bind fun y118 => (if 0 ≤ (wrap64 ((ji15) + 1)) then (if (wrap64 ((ji15) + 1)) ≤ (x5_1.length : Int) then ((some (x5_1.drop ((wrap64 ((ji15) + 1)) : Int).toNat : List (S34))).bind fun y121 => (if y118.length + y121.length < 1954687338268 then ((some (y118 ++ y121 : List (S34))).bind fun y126 => (if t105 = 0 then ((history_Check.f y126).bind fun t129 => ((gazettelaw20_num.f t129).bind fun t130 => (if t130 = 0 then (gazettelaw20_HistoryLess.l0 k1 l1 y126 t105 (wrap64 (x7_1 + 1))) else (some false)))) else (gazettelaw20_HistoryLess.l0 k1 l1 y126 t105 (wrap64 (x7_1 + 1))))) else (none))) else (none)) else (none))) else (none))) else (none))) else (gazettelaw20_HistoryLess.l0 k1 l1 x5_1 t105 (wrap64 (x7_1 + 1)))) else (none)) else (none)) = some r := by first | (rw [hji15] at H; exact H) | (simp only [hji15] at H ⊢; exact H)
            by_cases c16 : 0 ≤ (ji15)
            · rw [if_pos c16] at H
              have c16b0 : decide (0 ≤ (ji15)) = true := decide_eq_true c16
              clear c16
              by_cases c17 : (ji15) < (x5_1.length : Int)
              · rw [if_pos c17] at H
                have c17b0 : decide ((ji15) < (x5_1.length : Int)) = true := decide_eq_true c17
                clear c17
                obtain ⟨bq18, hbq18⟩ : ∃ b_ : Bool, b_ = ((rd_T34 x5_1 (ji15)).f0) := ⟨_, rfl⟩
                replace H : (if (bq18 = true) then ((some (([] : List (S34)) : List (S34))).bind fun y110 => (if (ji15) ≤ (x5_1.length : Int) then ((some (x5_1.take ((ji15) : Int).toNat : List (S34))).bind fun y113 => (if y110.length + y113.length < 1954687338268 then ((some (y110 ++ y113 : List (S34))).bind fun y118 => (if 0 ≤ (wrap64 ((ji15) + 1)) then (if (wrap64 ((ji15) + 1)) ≤ (x5_1.length : Int) then ((some (x5_1.drop ((wrap64 ((ji15) + 1)) : Int).toNat : List (S34))).bind fun y121 => (if y118.length + y121.length < 1954687338268 then ((some (y118 ++ y121 : List (S34))).bind fun y126 => (if t105 = 0 then ((history_Check.f y126).bind fun t129 => ((gazettelaw20_num.f t129).bind fun t130 => (if t130 = 0 then (gazettelaw20_HistoryLess.l0 k1 l1 y126 t105 (wrap64 (x7_1 + 1))) else (some false)))) else (gazettelaw20_HistoryLess.l0 k1 l1 y126 t105 (wrap64 (x7_1 + 1))))) else (none))) else (none)) else (none))) else (none))) else (none))) else (gazettelaw20_HistoryLess.l0 k1 l1 x5_1 t105 (wrap64 (x7_1 + 1)))) = some r := by rw [← hbq18] at H; exact H
                have Nbq18 := Aside0.mk hbq18
                clear hbq18
                by_cases c19 : (bq18 = true)
                · subst c19
                  have H1 : ((some (([] : List (S34)) : List (S34))).bind fun y110 => (if (ji15) ≤ (x5_1.length : Int) then ((some (x5_1.take ((ji15) : Int).toNat : List (S34))).bind fun y113 => (if y110.length + y113.length < 1954687338268 then ((some (y110 ++ y113 : List (S34))).bind fun y118 => (if 0 ≤ (wrap64 ((ji15) + 1)) then (if (wrap64 ((ji15) + 1)) ≤ (x5_1.length : Int) then ((some (x5_1.drop ((wrap64 ((ji15) + 1)) : Int).toNat : List (S34))).bind fun y121 => (if y118.length + y121.length < 1954687338268 then ((some (y118 ++ y121 : List (S34))).bind fun y126 => (if t105 = 0 then ((history_Check.f y126).bind fun t129 => ((gazettelaw20_num.f t129).bind fun t130 => (if t130 = 0 then (gazettelaw20_HistoryLess.l0 k1 l1 y126 t105 (wrap64 (x7_1 + 1))) else (some false)))) else (gazettelaw20_HistoryLess.l0 k1 l1 y126 t105 (wrap64 (x7_1 + 1))))) else (none))) else (none)) else (none))) else (none))) else (none))) = some r := by rw [if_pos rfl] at H; exact H
                  clear H
                  have H := H1
                  clear H1
                  obtain ⟨y110, hy110⟩ : ∃ y_ : List (S34), y_ = (([] : List (S34))) := ⟨_, rfl⟩
                  replace H : (if (ji15) ≤ (x5_1.length : Int) then ((some (x5_1.take ((ji15) : Int).toNat : List (S34))).bind fun y113 => (if y110.length + y113.length < 1954687338268 then ((some (y110 ++ y113 : List (S34))).bind fun y118 => (if 0 ≤ (wrap64 ((ji15) + 1)) then (if (wrap64 ((ji15) + 1)) ≤ (x5_1.length : Int) then ((some (x5_1.drop ((wrap64 ((ji15) + 1)) : Int).toNat : List (S34))).bind fun y121 => (if y118.length + y121.length < 1954687338268 then ((some (y118 ++ y121 : List (S34))).bind fun y126 => (if t105 = 0 then ((history_Check.f y126).bind fun t129 => ((gazettelaw20_num.f t129).bind fun t130 => (if t130 = 0 then (gazettelaw20_HistoryLess.l0 k1 l1 y126 t105 (wrap64 (x7_1 + 1))) else (some false)))) else (gazettelaw20_HistoryLess.l0 k1 l1 y126 t105 (wrap64 (x7_1 + 1))))) else (none))) else (none)) else (none))) else (none))) else (none)) = some r := by first | (rw [hy110]; with_reducible exact H) | (have H2_ := (Option.bind_some _ _).symm.trans H; rw [hy110]; with_reducible exact H2_) | (have H2_ := (Option.bind_some _ _).symm.trans H; with_reducible exact H2_) | with_reducible exact H | (rw [hy110]; exact H) | exact H
                  have Ny110 := Aside0.mk hy110
                  clear hy110
                  have c20b0 := eq_true (of_decide_eq_true (by first | (with_reducible assumption) | assumption) : 0 ≤ (ji15))
                  by_cases c21 : (ji15) ≤ (x5_1.length : Int)
                  · rw [if_pos c21] at H
                    have c21b0 := eq_true c21
                    have c21b1 : decide ((ji15) ≤ (x5_1.length : Int)) = true := decide_eq_true c21
                    clear c21
                    obtain ⟨y113, hy113⟩ : ∃ y_ : List (S34), y_ = (x5_1.take ((ji15) : Int).toNat) := ⟨_, rfl⟩
                    replace H : (if y110.length + y113.length < 1954687338268 then ((some (y110 ++ y113 : List (S34))).bind fun y118 => (if 0 ≤ (wrap64 ((ji15) + 1)) then (if (wrap64 ((ji15) + 1)) ≤ (x5_1.length : Int) then ((some (x5_1.drop ((wrap64 ((ji15) + 1)) : Int).toNat : List (S34))).bind fun y121 => (if y118.length + y121.length < 1954687338268 then ((some (y118 ++ y121 : List (S34))).bind fun y126 => (if t105 = 0 then ((history_Check.f y126).bind fun t129 => ((gazettelaw20_num.f t129).bind fun t130 => (if t130 = 0 then (gazettelaw20_HistoryLess.l0 k1 l1 y126 t105 (wrap64 (x7_1 + 1))) else (some false)))) else (gazettelaw20_HistoryLess.l0 k1 l1 y126 t105 (wrap64 (x7_1 + 1))))) else (none))) else (none)) else (none))) else (none)) = some r := by first | (rw [hy113]; with_reducible exact H) | (have H2_ := (Option.bind_some _ _).symm.trans H; rw [hy113]; with_reducible exact H2_) | (have H2_ := (Option.bind_some _ _).symm.trans H; with_reducible exact H2_) | with_reducible exact H | (rw [hy113]; exact H) | exact H
                    have Ny113 := Aside0.mk hy113
                    clear hy113
                    by_cases c22 : y110.length + y113.length < 1954687338268
                    · rw [if_pos c22] at H
                      have LMc22 := Aside0.mk c22
                      clear c22
                      obtain ⟨y118, hy118⟩ : ∃ y_ : List (S34), y_ = (y110 ++ y113) := ⟨_, rfl⟩
                      replace H : (if 0 ≤ (wrap64 ((ji15) + 1)) then (if (wrap64 ((ji15) + 1)) ≤ (x5_1.length : Int) then ((some (x5_1.drop ((wrap64 ((ji15) + 1)) : Int).toNat : List (S34))).bind fun y121 => (if y118.length + y121.length < 1954687338268 then ((some (y118 ++ y121 : List (S34))).bind fun y126 => (if t105 = 0 then ((history_Check.f y126).bind fun t129 => ((gazettelaw20_num.f t129).bind fun t130 => (if t130 = 0 then (gazettelaw20_HistoryLess.l0 k1 l1 y126 t105 (wrap64 (x7_1 + 1))) else (some false)))) else (gazettelaw20_HistoryLess.l0 k1 l1 y126 t105 (wrap64 (x7_1 + 1))))) else (none))) else (none)) else (none)) = some r := by first | (rw [hy118]; with_reducible exact H) | (have H2_ := (Option.bind_some _ _).symm.trans H; rw [hy118]; with_reducible exact H2_) | (have H2_ := (Option.bind_some _ _).symm.trans H; with_reducible exact H2_) | with_reducible exact H | (rw [hy118]; exact H) | exact H
                      have Ny118 := Aside0.mk hy118
                      clear hy118
                      obtain ⟨ji23, hji23⟩ : ∃ j_ : Int, (wrap64 ((ji15) + 1)) = j_ := ⟨_, rfl⟩
                      replace H : (if 0 ≤ (ji23) then (if (ji23) ≤ (x5_1.length : Int) then ((some (x5_1.drop ((ji23) : Int).toNat : List (S34))).bind fun y121 => (if y118.length + y121.length < 1954687338268 then ((some (y118 ++ y121 : List (S34))).bind fun y126 => (if t105 = 0 then ((history_Check.f y126).bind fun t129 => ((gazettelaw20_num.f t129).bind fun t130 => (if t130 = 0 then (gazettelaw20_HistoryLess.l0 k1 l1 y126 t105 (wrap64 (x7_1 + 1))) else (some false)))) else (gazettelaw20_HistoryLess.l0 k1 l1 y126 t105 (wrap64 (x7_1 + 1))))) else (none))) else (none)) else (none)) = some r := by first | (rw [hji23] at H; exact H) | (simp only [hji23] at H ⊢; exact H)
                      have hji23w : (IntKind.i64.wrap ((ji15) + 1)) = ji23 := (i64_w _).trans hji23
                      by_cases c24 : 0 ≤ (ji23)
                      · rw [if_pos c24] at H
                        have c24b0 := eq_true c24
                        have c24b1 : decide (0 ≤ (ji23)) = true := decide_eq_true c24
                        clear c24
                        by_cases c25 : (ji23) ≤ (x5_1.length : Int)
                        · rw [if_pos c25] at H
                          have c25b0 := eq_true c25
                          have c25b1 : decide ((ji23) ≤ (x5_1.length : Int)) = true := decide_eq_true c25
                          clear c25
                          obtain ⟨y121, hy121⟩ : ∃ y_ : List (S34), y_ = (x5_1.drop ((ji23) : Int).toNat) := ⟨_, rfl⟩
                          replace H : (if y118.length + y121.length < 1954687338268 then ((some (y118 ++ y121 : List (S34))).bind fun y126 => (if t105 = 0 then ((history_Check.f y126).bind fun t129 => ((gazettelaw20_num.f t129).bind fun t130 => (if t130 = 0 then (gazettelaw20_HistoryLess.l0 k1 l1 y126 t105 (wrap64 (x7_1 + 1))) else (some false)))) else (gazettelaw20_HistoryLess.l0 k1 l1 y126 t105 (wrap64 (x7_1 + 1))))) else (none)) = some r := by first | (rw [hy121]; with_reducible exact H) | (have H2_ := (Option.bind_some _ _).symm.trans H; rw [hy121]; with_reducible exact H2_) | (have H2_ := (Option.bind_some _ _).symm.trans H; with_reducible exact H2_) | with_reducible exact H | (rw [hy121]; exact H) | exact H
                          have Ny121 := Aside0.mk hy121
                          clear hy121
                          by_cases c26 : y118.length + y121.length < 1954687338268
                          · rw [if_pos c26] at H
                            have LMc26 := Aside0.mk c26
                            clear c26
                            obtain ⟨y126, hy126⟩ : ∃ y_ : List (S34), y_ = (y118 ++ y121) := ⟨_, rfl⟩
                            replace H : (if t105 = 0 then ((history_Check.f y126).bind fun t129 => ((gazettelaw20_num.f t129).bind fun t130 => (if t130 = 0 then (gazettelaw20_HistoryLess.l0 k1 l1 y126 t105 (wrap64 (x7_1 + 1))) else (some false)))) else (gazettelaw20_HistoryLess.l0 k1 l1 y126 t105 (wrap64 (x7_1 + 1)))) = some r := by first | (rw [hy126]; with_reducible exact H) | (have H2_ := (Option.bind_some _ _).symm.trans H; rw [hy126]; with_reducible exact H2_) | (have H2_ := (Option.bind_some _ _).symm.trans H; with_reducible exact H2_) | with_reducible exact H | (rw [hy126]; exact H) | exact H
                            have Ny126 := Aside0.mk hy126
                            clear hy126
                            by_cases c27 : t105 = 0
                            · rw [if_pos c27] at H
                              have c27b0 : (t105 == 0) = true := beq_iff_eq.mpr c27
                              have c27b1 : (t105 != 0) = false := bne_eq_false_iff_eq.mpr c27
                              clear c27
                              replace H := Option.bind_eq_some_iff.mp H
                              obtain ⟨t129, A280, H⟩ := H
                              replace H : ((gazettelaw20_num.f t129).bind fun t130 => (if t130 = 0 then (gazettelaw20_HistoryLess.l0 k1 l1 y126 t105 (wrap64 (x7_1 + 1))) else (some false))) = some r := H
                              have A28 := Aside0.mk A280
                              clear A280
                              replace H := Option.bind_eq_some_iff.mp H
                              obtain ⟨t130, A290, H⟩ := H
                              replace H : (if t130 = 0 then (gazettelaw20_HistoryLess.l0 k1 l1 y126 t105 (wrap64 (x7_1 + 1))) else (some false)) = some r := H
                              have A29 := Aside0.mk A290
                              clear A290
                              by_cases c30 : t130 = 0
                              · rw [if_pos c30] at H
                                have c30b0 : (t130 == 0) = true := beq_iff_eq.mpr c30
                                have c30b1 : (t130 != 0) = false := bne_eq_false_iff_eq.mpr c30
                                clear c30
                                have H' := Aside0.mk H
                                clear H
                                obtain ⟨Ao31, co31, eo31⟩ := Kd.N_slice HO_5.out
                                subst eo31
                                have p108 : 0 ≤ (x7_1 : Int) := of_decide_eq_true (by first | (with_reducible assumption) | assumption)
                                have q108 : x7_1 < (l1.length : Int) := of_decide_eq_true (by first | (with_reducible assumption) | assumption)
                                obtain ⟨ad108, e108, hx108_0⟩ := Kd.at_int HR1.out x7_1 p108 q108
                                cases e108
                                replace hx108_0 := (HB.out.cell (World.block_lt_of_cell? w _ hx108_0)).trans hx108_0
                                replace p108 := eq_true p108
                                replace q108 := eq_true q108
                                have p109 : 0 ≤ ((ji15) : Int) := of_decide_eq_true (by first | (with_reducible assumption) | assumption)
                                have q109 : (ji15) < (x5_1.length : Int) := of_decide_eq_true (by first | (with_reducible assumption) | assumption)
                                obtain ⟨ad109, A109_6, c109_6, e109, hx109_0, hx109_1, hx109_2, hx109_3, hx109_4, hx109_5, hx109_6, hl109_6, hi109_6⟩ := at_T34 (Kd.N_reads' HO_5.out).2.2 (ji15) p109 q109
                                (try rw [← Nbq18.out] at hx109_0)
                                (try rw [← Nbq18.out] at hx109_1)
                                cases e109
                                obtain ⟨ce109, hce109, hMe109, hcc109⟩ := Kd.N_get HO_5.out z34 (ji15) p109 (by first | exact q109 | exact of_decide_eq_true (by first | (with_reducible assumption) | assumption) | (have e_ := (Kd.N_reads' HO_5.out).1; omega))
                                obtain ⟨ua109_6, uc109_6, rfl, ul109_6, ge109_6⟩ := k34_openF hMe109
                                have hv109_6 := hcc109 6 _ rfl
                                rw [add_field _ _ 6 (by omega)] at hv109_6
                                replace hv109_6 := Option.some.inj (hv109_6.symm.trans hx109_6)
                                injection hv109_6 with hva_ hvn_ hvc_
                                rw [hva_] at ge109_6
                                rw [hvc_] at ul109_6
                                have HL109_6 := Aside0.mk (show Kd.V Kd.string 9 _ w.heap.size _ _ ((rd_T34 x5_1 (ji15)).f6) from Kd.V_mk ul109_6 ge109_6)
                                clear hva_ hvn_ hvc_ ge109_6 ul109_6
                                clear hcc109 hce109
                                have HR109_6 := Aside0.mk hi109_6
                                have HC109_6 := Aside0.mk hl109_6
                                clear hi109_6 hl109_6
                                replace p109 := eq_true p109
                                replace q109 := eq_true q109
                                try go_wp2
                                have n0_ := Aside0.mk (Kd.N_drew HO_5.out)
                                have n1_ := Aside0.mk (Kd.V_drew HL109_6.out)
                                have n2_ := Aside0.mk (Kd.C_drew HR109_6.out)
                                have n3_ := Aside0.mk (below_drew1 HB.out)
                                clear HO_5
                                clear HL109_6
                                clear HR109_6
                                clear HB
                                have HO_5 := n0_
                                have HL109_6 := n1_
                                have HR109_6 := n2_
                                have HB := n3_
                                clear n0_ n1_ n2_ n3_
                                have q33 : ((ji15) : Int) ≤ ((x5_1.length : Int) : Int) := of_decide_eq_true (by first | (with_reducible assumption) | assumption)
                                obtain ⟨i033, hi033, _, hsz33, _⟩ := info_parts info34
                                have hroom33 : x5_1.length ≤ co31 := (Kd.N_reads' HO_5.out).2.1
                                have hC33 : Kd.F k34 _ _ (some ad109) x5_1.length x5_1 := (Kd.V_at (base := w.heap.size) (Kd.N_V HO_5.out)).2.2
                                have hcut33 := cut_to (P := Try.prog) 23 34 .i64 Try.underlying23 hi033 (some ad109) x5_1.length co31 (ji15) (of_decide_eq_true (by first | (with_reducible assumption) | assumption)) q33 hroom33
                                have hr33 := Kd.F_take (m := ((ji15) : Int).toNat) hC33 (by omega)
                                have hy33 : y113.length = ((ji15) : Int).toNat := (by rw [Ny113.out, List.length_take]; omega)
                                rw [← Ny113.out] at hr33
                                rw [← hy33] at hcut33
                                have HO117 := Aside0.mk (show Kd.V k34 34 _ w.heap.size _ (.slice (some ad109) y113.length co31) y113 from Kd.V_mk (by omega) hr33)
                                have HC117 := Aside0.mk (show y113.length ≤ co31 from by omega)
                                clear hr33 hC33 hroom33 hi033 hsz33
                                have KY33 := Aside0.mk hy33
                                clear hy33
                                replace q33 := eq_true q33
                                have q34 : ((ji23) : Int) ≤ ((x5_1.length : Int) : Int) := of_decide_eq_true (by first | (with_reducible assumption) | assumption)
                                obtain ⟨i034, hi034, _, hsz34, _⟩ := info_parts info34
                                have hroom34 : x5_1.length ≤ co31 := (Kd.N_reads' HO_5.out).2.1
                                have hC34 : Kd.F k34 _ _ (some ad109) x5_1.length x5_1 := (Kd.V_at (base := w.heap.size) (Kd.N_V HO_5.out)).2.2
                                have q034 : (0 : Int) ≤ ((ji23) : Int) := of_decide_eq_true (by first | (with_reducible assumption) | assumption)
                                have hcut34 := cut_from (P := Try.prog) 23 34 .i64 Try.underlying23 hi034 7 hsz34 (some ad109) x5_1.length co31 (ji23) q034 q34
                                have hr34 := Kd.F_cut (m := ((ji23) : Int).toNat) (c := co31) hC34 (by omega) hroom34
                                obtain ⟨A34, hA34⟩ : ∃ A1, A1 = (if co31 = ((ji23) : Int).toNat then (some ad109) else ((some ad109) : Option Addr).map (·.add (((ji23) : Int).toNat * 7))) := ⟨_, rfl⟩
                                obtain ⟨c34, hc34⟩ : ∃ c1, c1 = co31 - ((ji23) : Int).toNat := ⟨_, rfl⟩
                                have hy34 : y121.length = x5_1.length - ((ji23) : Int).toNat := (by rw [Ny121.out, List.length_drop] <;> omega)
                                rw [show (x5_1).drop ((ji23) : Int).toNat = y121 from Ny121.out.symm] at hr34
                                replace hr34 : Kd.F k34 _ _ A34 y121.length y121 := (by rw [hA34]; exact hr34)
                                rw [← hy34, ← hA34, ← hc34] at hcut34
                                have HO125 := Aside0.mk (show Kd.V k34 34 _ w.heap.size _ (.slice A34 y121.length c34) y121 from Kd.V_mk (by rw [hy34, hc34]; exact Nat.sub_le_sub_right hroom34 _) hr34)
                                have HC125 := Aside0.mk (show y121.length ≤ c34 from by rw [hy34, hc34]; exact Nat.sub_le_sub_right hroom34 _)
                                clear hr34 hC34 hroom34 hi034 hsz34 hc34
                                have KY34 := Aside0.mk hy34
                                have KA34 := Aside0.mk hA34
                                clear hy34 hA34
                                replace q34 := eq_true q34
                                refine start_ (n := 11) (S := fun w' => True) (ds := []) #[false, false, false, false, false, false, false, false, false, false, false] (by kernel_rfl) rfl rfl trivial (fun hHeld => ?_); refine with_tabW gazettelaw20_HistoryLess.tab9 gazettelaw20_HistoryLess.bits9 (fun HT_ HW_ => ?_)
                                generalize wr.drew = w32 at HO_5 HL109_6 HR109_6 HB HO117 HO125 hHeld ⊢
                                refine pure_ (i := 1) (N := some 43) (v := ?_) (a' := ?_) #[false, true, false, false, false, false, false, false, false, false, false] rfl rfl (any_of HT_.out (by kernel_rfl)) (fun _ _ _ h => h) (Or.inl ⟨by rfl, ?_⟩) ?_ ?_
                                rotate_left
                                · intro w'
                                  go_simp
                                  with_reducible rfl
                                rotate_left
                                · simp only [Act.put, List.setIfInBounds_toArray, List.set_cons_zero, List.set_cons_succ, i64_w, i32_w]
                                  rfl
                                refine pure_ (i := 2) (N := some 44) (v := ?_) (a' := ?_) #[false, true, true, false, false, false, false, false, false, false, false] rfl rfl (any_of HT_.out (by kernel_rfl)) (fun _ _ _ h => h) (Or.inl ⟨by rfl, ?_⟩) ?_ ?_
                                rotate_left
                                · intro w'
                                  go_simp
                                  with_reducible rfl
                                rotate_left
                                · simp only [Act.put, List.setIfInBounds_toArray, List.set_cons_zero, List.set_cons_succ, i64_w, i32_w]
                                  rfl
                                refine pure_ (i := 3) (N := some 45) (v := ?_) (a' := ?_) #[false, true, true, true, false, false, false, false, false, false, false] rfl rfl (any_of HT_.out (by kernel_rfl)) (fun _ _ _ h => h) (Or.inl ⟨by rfl, ?_⟩) ?_ ?_
                                rotate_left
                                · intro w'
                                  go_simp
                                  with_reducible rfl
                                rotate_left
                                · simp only [Act.put, List.setIfInBounds_toArray, List.set_cons_zero, List.set_cons_succ, i64_w, i32_w]
                                  rfl
                                refine pure_ (i := 5) (N := some 47) (v := ?_) (a' := ?_) #[false, true, true, true, false, true, false, false, false, false, false] rfl rfl (any_of HT_.out (by kernel_rfl)) (fun _ _ _ h => h) (Or.inl ⟨by rfl, ?_⟩) ?_ ?_
                                rotate_left
                                · intro w'
                                  go_simp
                                  with_reducible rfl
                                rotate_left
                                · simp only [Act.put, List.setIfInBounds_toArray, List.set_cons_zero, List.set_cons_succ, i64_w, i32_w]
                                  rfl
                                refine pure_ (i := 6) (N := some 48) (v := ?_) (a' := ?_) #[false, true, true, true, false, true, true, false, false, false, false] rfl rfl (any_of HT_.out (by kernel_rfl)) (fun _ _ _ h => h) (Or.inl ⟨by rfl, ?_⟩) ?_ ?_
                                rotate_left
                                · intro w'
                                  go_simp
                                  with_reducible rfl
                                rotate_left
                                · simp only [Act.put, List.setIfInBounds_toArray, List.set_cons_zero, List.set_cons_succ, i64_w, i32_w]
                                  rfl
                                refine pure_ (i := 7) (N := some 49) (v := ?_) (a' := ?_) #[false, true, true, true, false, true, true, true, false, false, false] rfl rfl (any_of HT_.out (by kernel_rfl)) (fun _ _ _ h => h) (Or.inl ⟨by rfl, ?_⟩) ?_ ?_
                                rotate_left
                                · intro w'
                                  go_simp
                                  with_reducible rfl
                                rotate_left
                                · simp only [Act.put, List.setIfInBounds_toArray, List.set_cons_zero, List.set_cons_succ, i64_w, i32_w]
                                  rfl
                                refine pure_ (i := 8) (N := some 50) (v := ?_) (a' := ?_) #[false, true, true, true, false, true, true, true, true, false, false] rfl rfl (any_of HT_.out (by kernel_rfl)) (fun _ _ _ h => h) (Or.inl ⟨by rfl, ?_⟩) ?_ ?_
                                rotate_left
                                · intro w'
                                  go_simp
                                  with_reducible rfl
                                rotate_left
                                · simp only [Act.put, List.setIfInBounds_toArray, List.set_cons_zero, List.set_cons_succ, i64_w, i32_w]
                                  rfl
                                refine one_ (i := 0) (N := some 42) #[true, true, true, true, false, true, true, true, true, false, false] rfl rfl (one_of HT_.out (by kernel_rfl)) (by decide) (fun K hK => ?_)
                                refine Kd.N_lit_step k34 _ 34 ?hg (N' := 42) ?hd (xs := ([] : List (S34))) (inner := []) (ok := (fun k_ => some k_ ≠ (.slice (some ad109) x5_1.length co31 : Value).ownBlock)) (okp := (fun k_ => some k_ ≠ (.slice (some ad109) x5_1.length co31 : Value).ownBlock)) ?hr ?hp (fun _ hk => hk) ((show ∀ k_, w32.heap.size ≤ k_ → (fun k_ => some k_ ≠ (.slice (some ad109) x5_1.length co31 : Value).ownBlock) k_ from fun k_ hk => Kd.fresh' (Kd.N_lt (by (with_reducible repeat (first | apply Kd.N_alloc | apply Kd.N_drewN | apply Kd.N_drew)); exact HO_5.out)) k_ hk) _ (Nat.le_refl _)) (Below.refl _ _) (Nat.le_refl _) (by simp) ?_; (case hd => rfl); (case hg => rfl); (case hr => first | (go_simp; done) | (go_simp; rfl)); (case hp => exact (Reps.none _ _))
                                intro v111 w35 ho36 hb hg_ hnew_
                                clear hg_ hnew_
                                (first | rw [← Ny110.out] at ho36 | (simp only [Int.reduceToNat] at ho36; rw [← Ny110.out] at ho36))
                                have n0_ := Aside0.mk (Kd.N_elder' (by (with_reducible repeat (first | apply Kd.N_alloc | apply Kd.N_drewN | apply Kd.N_drew)); exact HO_5.out) (Kd.N_base ho36) hb)
                                have n1_ := Aside0.mk (Kd.V_elder' (by (with_reducible repeat (first | apply Kd.V_alloc | apply Kd.V_drewN | apply Kd.V_drew)); exact HL109_6.out) (Kd.N_base ho36) hb)
                                have n2_ := Aside0.mk (Kd.V_elder' (by (with_reducible repeat (first | apply Kd.V_alloc | apply Kd.V_drewN | apply Kd.V_drew)); exact HO117.out) (Kd.N_base ho36) hb)
                                have n3_ := Aside0.mk (Kd.V_elder' (by (with_reducible repeat (first | apply Kd.V_alloc | apply Kd.V_drewN | apply Kd.V_drew)); exact HO125.out) (Kd.N_base ho36) hb)
                                have n4_ := Aside0.mk (Kd.N_lower ho36 (below_size (by repeat (first | (with_reducible first | exact HB.out | apply below_alloc | apply pw_below_drewN | apply below_drew1) | exact HB.out))))
                                have n5_ := Aside0.mk (Kd.C_below (by repeat (first | (with_reducible exact HR109_6.out) | (with_reducible refine Kd.C_alloc ?_ _) | (with_reducible refine Kd.C_drewN ?_ _) | (with_reducible refine Kd.C_drew ?_) | exact HR109_6.out)) hb)
                                have n6_ := Aside0.mk (below_step (by repeat (first | (with_reducible first | exact HB.out | apply below_alloc | apply pw_below_drewN | apply below_drew1) | exact HB.out)) hb)
                                clear HO_5
                                clear HL109_6
                                clear HO117
                                clear HO125
                                clear HR109_6
                                clear HB
                                have HO_5 := n0_
                                have HL109_6 := n1_
                                have HO117 := n2_
                                have HO125 := n3_
                                have HO112 := n4_
                                have HR109_6 := n5_
                                have HB := n6_
                                clear n0_ n1_ n2_ n3_ n4_ n5_ n6_
                                clear hb ho36
                                refine hK.out _ _ trivial (fun hHeld => ?_)
                                clear hK K
                                refine norm_ (a' := ?_) ?_ ?_
                                rotate_left
                                · show Act.put _ (some 42) _ = _
                                  simp only [Act.put, List.setIfInBounds_toArray, List.set_cons_zero, List.set_cons_succ, i64_w, i32_w]
                                  rfl
                                refine one_ (i := 4) (N := some 46) #[true, true, true, true, true, true, true, true, true, false, false] rfl rfl (one_of HT_.out (by kernel_rfl)) (by decide) (fun K hK => ?_)
                                refine Kd.N_append_rows_step k34 (w0 := w) w.heap.size (by rfl) (.tmp 42) (.tmp 45) 23 34 (.agg #[(.bool false), (.bool false), (.int .i64 0), (.int .i64 0), (.int .i64 0), (.string ⟨#[]⟩), (.slice none 0 0)]) 72 rfl Try.underlying23 info34 rfl (by decide) (by omega) v111 y110 y113 _ _ _ (fun _ => True) (fun k_ => ((fun _ => True)) k_ ∧ some k_ ≠ (v111 : Value).ownBlock) rfl rfl ?aO ?aR (fun _ hk => hk) ?aF ?aB ?aS ?aL ?_
                                (case aR => exact (by skip; exact Kd.V_F (Kd.V_mono (ok' := (fun k_ => ((fun _ => True)) k_ ∧ some k_ ≠ (v111 : Value).ownBlock)) (HO117.out) (fun k_ hk => ⟨trivial, hk.2⟩))))
                                (case aB => exact (by repeat (first | (with_reducible first | exact HB.out | apply below_alloc | apply pw_below_drewN | apply below_drew1) | exact HB.out)))
                                (case aF => exact (fun _ _ => trivial))
                                (case aO => exact (by (with_reducible repeat (first | apply Kd.N_alloc | apply Kd.N_drewN | apply Kd.N_drew)); exact Kd.N_mono HO112.out (fun _ hk => trivial)))
                                (case aS => exact (below_size (by repeat (first | (with_reducible first | exact HB.out | apply below_alloc | apply pw_below_drewN | apply below_drew1) | exact HB.out))))
                                (case aL => have := LMc22.out; omega)
                                intro v119 w37 ho hb hg hat
                                rw [← Ny118.out] at ho
                                have n0_ := Aside0.mk (Kd.N_afterv (ok := (fun _ => True)) (by (with_reducible repeat (first | apply Kd.N_alloc | apply Kd.N_drewN | apply Kd.N_drew)); exact HO_5.out) hg hat)
                                have n1_ := Aside0.mk (Kd.V_afterv (ok := (fun k_ => some k_ ≠ (.slice (some ad109) x5_1.length co31 : Value).ownBlock)) (by (with_reducible repeat (first | apply Kd.V_alloc | apply Kd.V_drewN | apply Kd.V_drew)); exact Kd.V_mono HL109_6.out (fun _ hk => ⟨hk.1.2, hk.2⟩)) hg hat)
                                have n2_ := Aside0.mk (Kd.V_afterv (ok := (fun _ => True)) (by (with_reducible repeat (first | apply Kd.V_alloc | apply Kd.V_drewN | apply Kd.V_drew)); exact HO117.out) hg hat)
                                have n3_ := Aside0.mk (Kd.V_afterv (ok := (fun _ => True)) (by (with_reducible repeat (first | apply Kd.V_alloc | apply Kd.V_drewN | apply Kd.V_drew)); exact HO125.out) hg hat)
                                have n4_ := Aside0.mk (hb)
                                have n5_ := Aside0.mk (ho)
                                clear HO_5
                                clear HL109_6
                                clear HO117
                                clear HO125
                                clear HB
                                clear HO112
                                have HO_5 := n0_
                                have HL109_6 := n1_
                                have HO117 := n2_
                                have HO125 := n3_
                                have HB := n4_
                                have HO120 := n5_
                                clear n0_ n1_ n2_ n3_ n4_ n5_
                                clear ho hb hg hat
                                refine hK.out _ _ trivial (fun hHeld => ?_)
                                clear hK K
                                refine norm_ (a' := ?_) ?_ ?_
                                rotate_left
                                · show Act.put _ (some 46) _ = _
                                  simp only [Act.put, List.setIfInBounds_toArray, List.set_cons_zero, List.set_cons_succ, i64_w, i32_w]
                                  rfl
                                refine one_ (i := 9) (N := some 51) #[true, true, true, true, true, true, true, true, true, true, false] rfl rfl (one_of HT_.out (by kernel_rfl)) (by decide) (fun K hK => ?_)
                                refine Kd.N_append_rows_step k34 (w0 := w) w.heap.size (by rfl) (.tmp 46) (.tmp 50) 23 34 (.agg #[(.bool false), (.bool false), (.int .i64 0), (.int .i64 0), (.int .i64 0), (.string ⟨#[]⟩), (.slice none 0 0)]) 72 rfl Try.underlying23 info34 rfl (by decide) (by omega) v119 y118 y121 _ _ _ (fun _ => True) (fun k_ => ((fun _ => True)) k_ ∧ some k_ ≠ (v119 : Value).ownBlock) rfl rfl ?aO ?aR (fun _ hk => hk) ?aF ?aB ?aS ?aL ?_
                                (case aR => exact (by skip; exact Kd.V_F (Kd.V_mono (ok' := (fun k_ => ((fun _ => True)) k_ ∧ some k_ ≠ (v119 : Value).ownBlock)) (HO125.out) (fun k_ hk => ⟨trivial, hk.2⟩))))
                                (case aB => exact (by repeat (first | (with_reducible first | exact HB.out | apply below_alloc | apply pw_below_drewN | apply below_drew1) | exact HB.out)))
                                (case aF => exact (fun _ _ => trivial))
                                (case aO => exact (by (with_reducible repeat (first | apply Kd.N_alloc | apply Kd.N_drewN | apply Kd.N_drew)); exact HO120.out))
                                (case aS => exact (below_size (by repeat (first | (with_reducible first | exact HB.out | apply below_alloc | apply pw_below_drewN | apply below_drew1) | exact HB.out))))
                                (case aL => have := LMc26.out; omega)
                                intro v127 w38 ho hb hg hat
                                rw [← Ny126.out] at ho
                                have n0_ := Aside0.mk (Kd.N_afterv (ok := (fun _ => True)) (by (with_reducible repeat (first | apply Kd.N_alloc | apply Kd.N_drewN | apply Kd.N_drew)); exact HO_5.out) hg hat)
                                have n1_ := Aside0.mk (Kd.V_afterv (ok := (fun k_ => some k_ ≠ (.slice (some ad109) x5_1.length co31 : Value).ownBlock)) (by (with_reducible repeat (first | apply Kd.V_alloc | apply Kd.V_drewN | apply Kd.V_drew)); exact HL109_6.out) hg hat)
                                have n2_ := Aside0.mk (Kd.V_afterv (ok := (fun _ => True)) (by (with_reducible repeat (first | apply Kd.V_alloc | apply Kd.V_drewN | apply Kd.V_drew)); exact HO117.out) hg hat)
                                have n3_ := Aside0.mk (Kd.V_afterv (ok := (fun _ => True)) (by (with_reducible repeat (first | apply Kd.V_alloc | apply Kd.V_drewN | apply Kd.V_drew)); exact HO125.out) hg hat)
                                have n4_ := Aside0.mk (hb)
                                have n5_ := Aside0.mk (ho)
                                clear HO_5
                                clear HL109_6
                                clear HO117
                                clear HO125
                                clear HB
                                clear HO120
                                have HO_5 := n0_
                                have HL109_6 := n1_
                                have HO117 := n2_
                                have HO125 := n3_
                                have HB := n4_
                                have HO128 := n5_
                                clear n0_ n1_ n2_ n3_ n4_ n5_
                                clear ho hb hg hat
                                refine hK.out _ _ trivial (fun hHeld => ?_)
                                clear hK K
                                refine norm_ (a' := ?_) ?_ ?_
                                rotate_left
                                · show Act.put _ (some 51) _ = _
                                  simp only [Act.put, List.setIfInBounds_toArray, List.set_cons_zero, List.set_cons_succ, i64_w, i32_w]
                                  rfl
                                refine pure_ (i := 10) (N := some 5) (v := ?_) (a' := ?_) #[true, true, true, true, true, true, true, true, true, true, true] rfl rfl (any_of HT_.out (by kernel_rfl)) (fun _ _ _ h => h) (Or.inl ⟨by rfl, ?_⟩) ?_ ?_
                                rotate_left
                                · intro w'
                                  go_simp
                                  with_reducible rfl
                                rotate_left
                                · simp only [Act.put, List.setIfInBounds_toArray, List.set_cons_zero, List.set_cons_succ, i64_w, i32_w]
                                  rfl
                                refine done_ (done_of HT_.out (by kernel_rfl)) ?_
                                obtain ⟨Ao39, co39, eo39⟩ := Kd.N_slice HO128.out
                                subst eo39
                                try go_wp2_with (first | (go_at_call 12; (with_reducible refine (history_Check.calls _ _ y126 t129 _ ?side1 ?side2 A28.out).mono ?_); (case side1 => repeat (first | exact (Kd.N_reads' HO128.out).2.2 | (with_reducible refine Kd.C_alloc ?_ _) | (with_reducible refine Kd.C_drewN ?_ _) | (with_reducible refine Kd.C_drew ?_))); (case side2 => exact (Kd.N_reads' HO128.out).2.1); rintro e w40 ⟨rfl, hb⟩; have n0_ := Aside0.mk (Kd.N_below (by (with_reducible repeat (first | apply Kd.N_alloc | apply Kd.N_drewN | apply Kd.N_drew)); exact HO_5.out) hb); have n1_ := Aside0.mk (Kd.V_below (by (with_reducible repeat (first | apply Kd.V_alloc | apply Kd.V_drewN | apply Kd.V_drew)); exact HL109_6.out) hb); have n2_ := Aside0.mk (Kd.V_below (by (with_reducible repeat (first | apply Kd.V_alloc | apply Kd.V_drewN | apply Kd.V_drew)); exact HO117.out) hb); have n3_ := Aside0.mk (Kd.V_below (by (with_reducible repeat (first | apply Kd.V_alloc | apply Kd.V_drewN | apply Kd.V_drew)); exact HO125.out) hb); have n4_ := Aside0.mk (Kd.N_below (by (with_reducible repeat (first | apply Kd.N_alloc | apply Kd.N_drewN | apply Kd.N_drew)); exact HO128.out) hb); have n5_ := Aside0.mk (below_step (by repeat (first | (with_reducible first | exact HB.out | apply below_alloc | apply pw_below_drewN | apply below_drew1) | exact HB.out)) hb); clear HO_5; clear HL109_6; clear HO117; clear HO125; clear HO128; clear HB; have HO_5 := n0_; have HL109_6 := n1_; have HO117 := n2_; have HO125 := n3_; have HO128 := n4_; have HB := n5_; clear n0_ n1_ n2_ n3_ n4_ n5_; (try clear hb); (try clear hb2); (try clear hk); (try clear hi)) | (go_at_call 11; (with_reducible refine (gazettelaw20_num.calls t129 t130 _ A29.out).mono ?_); rintro e w' ⟨rfl, ⟨nd, rfl⟩⟩))
                                go_roundg k1
                                case measure => have := HK1.out; omega
                                case rel => exact ⟨(y126), (wrap64 (x7_1 + 1)), (by first | rfl | (simp; done) | (simp [*]; done)), H', ⟨by have := HK1.out; omega⟩, ⟨by (with_reducible repeat (first | apply Kd.N_alloc | apply Kd.N_drewN | apply Kd.N_drew)); exact HO128.out⟩, ⟨by repeat (first | (with_reducible first | exact HB.out | apply below_alloc | apply pw_below_drewN | apply below_drew1) | exact HB.out)⟩⟩
                              · rw [if_neg c30] at H
                                have c30b0 : (t130 == 0) = false := beq_eq_false_iff_ne.mpr c30
                                have c30b1 : (t130 != 0) = true := bne_iff_ne.mpr c30
                                obtain rfl := Option.some.inj H
                                obtain ⟨Ao41, co41, eo41⟩ := Kd.N_slice HO_5.out
                                subst eo41
                                have p108 : 0 ≤ (x7_1 : Int) := of_decide_eq_true (by first | (with_reducible assumption) | assumption)
                                have q108 : x7_1 < (l1.length : Int) := of_decide_eq_true (by first | (with_reducible assumption) | assumption)
                                obtain ⟨ad108, e108, hx108_0⟩ := Kd.at_int HR1.out x7_1 p108 q108
                                cases e108
                                replace hx108_0 := (HB.out.cell (World.block_lt_of_cell? w _ hx108_0)).trans hx108_0
                                replace p108 := eq_true p108
                                replace q108 := eq_true q108
                                have p109 : 0 ≤ ((ji15) : Int) := of_decide_eq_true (by first | (with_reducible assumption) | assumption)
                                have q109 : (ji15) < (x5_1.length : Int) := of_decide_eq_true (by first | (with_reducible assumption) | assumption)
                                obtain ⟨ad109, A109_6, c109_6, e109, hx109_0, hx109_1, hx109_2, hx109_3, hx109_4, hx109_5, hx109_6, hl109_6, hi109_6⟩ := at_T34 (Kd.N_reads' HO_5.out).2.2 (ji15) p109 q109
                                (try rw [← Nbq18.out] at hx109_0)
                                (try rw [← Nbq18.out] at hx109_1)
                                cases e109
                                obtain ⟨ce109, hce109, hMe109, hcc109⟩ := Kd.N_get HO_5.out z34 (ji15) p109 (by first | exact q109 | exact of_decide_eq_true (by first | (with_reducible assumption) | assumption) | (have e_ := (Kd.N_reads' HO_5.out).1; omega))
                                obtain ⟨ua109_6, uc109_6, rfl, ul109_6, ge109_6⟩ := k34_openF hMe109
                                have hv109_6 := hcc109 6 _ rfl
                                rw [add_field _ _ 6 (by omega)] at hv109_6
                                replace hv109_6 := Option.some.inj (hv109_6.symm.trans hx109_6)
                                injection hv109_6 with hva_ hvn_ hvc_
                                rw [hva_] at ge109_6
                                rw [hvc_] at ul109_6
                                have HL109_6 := Aside0.mk (show Kd.V Kd.string 9 _ w.heap.size _ _ ((rd_T34 x5_1 (ji15)).f6) from Kd.V_mk ul109_6 ge109_6)
                                clear hva_ hvn_ hvc_ ge109_6 ul109_6
                                clear hcc109 hce109
                                have HR109_6 := Aside0.mk hi109_6
                                have HC109_6 := Aside0.mk hl109_6
                                clear hi109_6 hl109_6
                                replace p109 := eq_true p109
                                replace q109 := eq_true q109
                                try go_wp2
                                have n0_ := Aside0.mk (Kd.N_drew HO_5.out)
                                have n1_ := Aside0.mk (Kd.V_drew HL109_6.out)
                                have n2_ := Aside0.mk (Kd.C_drew HR109_6.out)
                                have n3_ := Aside0.mk (below_drew1 HB.out)
                                clear HO_5
                                clear HL109_6
                                clear HR109_6
                                clear HB
                                have HO_5 := n0_
                                have HL109_6 := n1_
                                have HR109_6 := n2_
                                have HB := n3_
                                clear n0_ n1_ n2_ n3_
                                have q43 : ((ji15) : Int) ≤ ((x5_1.length : Int) : Int) := of_decide_eq_true (by first | (with_reducible assumption) | assumption)
                                obtain ⟨i043, hi043, _, hsz43, _⟩ := info_parts info34
                                have hroom43 : x5_1.length ≤ co41 := (Kd.N_reads' HO_5.out).2.1
                                have hC43 : Kd.F k34 _ _ (some ad109) x5_1.length x5_1 := (Kd.V_at (base := w.heap.size) (Kd.N_V HO_5.out)).2.2
                                have hcut43 := cut_to (P := Try.prog) 23 34 .i64 Try.underlying23 hi043 (some ad109) x5_1.length co41 (ji15) (of_decide_eq_true (by first | (with_reducible assumption) | assumption)) q43 hroom43
                                have hr43 := Kd.F_take (m := ((ji15) : Int).toNat) hC43 (by omega)
                                have hy43 : y113.length = ((ji15) : Int).toNat := (by rw [Ny113.out, List.length_take]; omega)
                                rw [← Ny113.out] at hr43
                                rw [← hy43] at hcut43
                                have HO117 := Aside0.mk (show Kd.V k34 34 _ w.heap.size _ (.slice (some ad109) y113.length co41) y113 from Kd.V_mk (by omega) hr43)
                                have HC117 := Aside0.mk (show y113.length ≤ co41 from by omega)
                                clear hr43 hC43 hroom43 hi043 hsz43
                                have KY43 := Aside0.mk hy43
                                clear hy43
                                replace q43 := eq_true q43
                                have q44 : ((ji23) : Int) ≤ ((x5_1.length : Int) : Int) := of_decide_eq_true (by first | (with_reducible assumption) | assumption)
                                obtain ⟨i044, hi044, _, hsz44, _⟩ := info_parts info34
                                have hroom44 : x5_1.length ≤ co41 := (Kd.N_reads' HO_5.out).2.1
                                have hC44 : Kd.F k34 _ _ (some ad109) x5_1.length x5_1 := (Kd.V_at (base := w.heap.size) (Kd.N_V HO_5.out)).2.2
                                have q044 : (0 : Int) ≤ ((ji23) : Int) := of_decide_eq_true (by first | (with_reducible assumption) | assumption)
                                have hcut44 := cut_from (P := Try.prog) 23 34 .i64 Try.underlying23 hi044 7 hsz44 (some ad109) x5_1.length co41 (ji23) q044 q44
                                have hr44 := Kd.F_cut (m := ((ji23) : Int).toNat) (c := co41) hC44 (by omega) hroom44
                                obtain ⟨A44, hA44⟩ : ∃ A1, A1 = (if co41 = ((ji23) : Int).toNat then (some ad109) else ((some ad109) : Option Addr).map (·.add (((ji23) : Int).toNat * 7))) := ⟨_, rfl⟩
                                obtain ⟨c44, hc44⟩ : ∃ c1, c1 = co41 - ((ji23) : Int).toNat := ⟨_, rfl⟩
                                have hy44 : y121.length = x5_1.length - ((ji23) : Int).toNat := (by rw [Ny121.out, List.length_drop] <;> omega)
                                rw [show (x5_1).drop ((ji23) : Int).toNat = y121 from Ny121.out.symm] at hr44
                                replace hr44 : Kd.F k34 _ _ A44 y121.length y121 := (by rw [hA44]; exact hr44)
                                rw [← hy44, ← hA44, ← hc44] at hcut44
                                have HO125 := Aside0.mk (show Kd.V k34 34 _ w.heap.size _ (.slice A44 y121.length c44) y121 from Kd.V_mk (by rw [hy44, hc44]; exact Nat.sub_le_sub_right hroom44 _) hr44)
                                have HC125 := Aside0.mk (show y121.length ≤ c44 from by rw [hy44, hc44]; exact Nat.sub_le_sub_right hroom44 _)
                                clear hr44 hC44 hroom44 hi044 hsz44 hc44
                                have KY44 := Aside0.mk hy44
                                have KA44 := Aside0.mk hA44
                                clear hy44 hA44
                                replace q44 := eq_true q44
                                refine start_ (n := 11) (S := fun w' => True) (ds := []) #[false, false, false, false, false, false, false, false, false, false, false] (by kernel_rfl) rfl rfl trivial (fun hHeld => ?_); refine with_tabW gazettelaw20_HistoryLess.tab9 gazettelaw20_HistoryLess.bits9 (fun HT_ HW_ => ?_)
                                generalize wr.drew = w42 at HO_5 HL109_6 HR109_6 HB HO117 HO125 hHeld ⊢
                                refine pure_ (i := 1) (N := some 43) (v := ?_) (a' := ?_) #[false, true, false, false, false, false, false, false, false, false, false] rfl rfl (any_of HT_.out (by kernel_rfl)) (fun _ _ _ h => h) (Or.inl ⟨by rfl, ?_⟩) ?_ ?_
                                rotate_left
                                · intro w'
                                  go_simp
                                  with_reducible rfl
                                rotate_left
                                · simp only [Act.put, List.setIfInBounds_toArray, List.set_cons_zero, List.set_cons_succ, i64_w, i32_w]
                                  rfl
                                refine pure_ (i := 2) (N := some 44) (v := ?_) (a' := ?_) #[false, true, true, false, false, false, false, false, false, false, false] rfl rfl (any_of HT_.out (by kernel_rfl)) (fun _ _ _ h => h) (Or.inl ⟨by rfl, ?_⟩) ?_ ?_
                                rotate_left
                                · intro w'
                                  go_simp
                                  with_reducible rfl
                                rotate_left
                                · simp only [Act.put, List.setIfInBounds_toArray, List.set_cons_zero, List.set_cons_succ, i64_w, i32_w]
                                  rfl
                                refine pure_ (i := 3) (N := some 45) (v := ?_) (a' := ?_) #[false, true, true, true, false, false, false, false, false, false, false] rfl rfl (any_of HT_.out (by kernel_rfl)) (fun _ _ _ h => h) (Or.inl ⟨by rfl, ?_⟩) ?_ ?_
                                rotate_left
                                · intro w'
                                  go_simp
                                  with_reducible rfl
                                rotate_left
                                · simp only [Act.put, List.setIfInBounds_toArray, List.set_cons_zero, List.set_cons_succ, i64_w, i32_w]
                                  rfl
                                refine pure_ (i := 5) (N := some 47) (v := ?_) (a' := ?_) #[false, true, true, true, false, true, false, false, false, false, false] rfl rfl (any_of HT_.out (by kernel_rfl)) (fun _ _ _ h => h) (Or.inl ⟨by rfl, ?_⟩) ?_ ?_
                                rotate_left
                                · intro w'
                                  go_simp
                                  with_reducible rfl
                                rotate_left
                                · simp only [Act.put, List.setIfInBounds_toArray, List.set_cons_zero, List.set_cons_succ, i64_w, i32_w]
                                  rfl
                                refine pure_ (i := 6) (N := some 48) (v := ?_) (a' := ?_) #[false, true, true, true, false, true, true, false, false, false, false] rfl rfl (any_of HT_.out (by kernel_rfl)) (fun _ _ _ h => h) (Or.inl ⟨by rfl, ?_⟩) ?_ ?_
                                rotate_left
                                · intro w'
                                  go_simp
                                  with_reducible rfl
                                rotate_left
                                · simp only [Act.put, List.setIfInBounds_toArray, List.set_cons_zero, List.set_cons_succ, i64_w, i32_w]
                                  rfl
                                refine pure_ (i := 7) (N := some 49) (v := ?_) (a' := ?_) #[false, true, true, true, false, true, true, true, false, false, false] rfl rfl (any_of HT_.out (by kernel_rfl)) (fun _ _ _ h => h) (Or.inl ⟨by rfl, ?_⟩) ?_ ?_
                                rotate_left
                                · intro w'
                                  go_simp
                                  with_reducible rfl
                                rotate_left
                                · simp only [Act.put, List.setIfInBounds_toArray, List.set_cons_zero, List.set_cons_succ, i64_w, i32_w]
                                  rfl
                                refine pure_ (i := 8) (N := some 50) (v := ?_) (a' := ?_) #[false, true, true, true, false, true, true, true, true, false, false] rfl rfl (any_of HT_.out (by kernel_rfl)) (fun _ _ _ h => h) (Or.inl ⟨by rfl, ?_⟩) ?_ ?_
                                rotate_left
                                · intro w'
                                  go_simp
                                  with_reducible rfl
                                rotate_left
                                · simp only [Act.put, List.setIfInBounds_toArray, List.set_cons_zero, List.set_cons_succ, i64_w, i32_w]
                                  rfl
                                refine one_ (i := 0) (N := some 42) #[true, true, true, true, false, true, true, true, true, false, false] rfl rfl (one_of HT_.out (by kernel_rfl)) (by decide) (fun K hK => ?_)
                                refine Kd.N_lit_step k34 _ 34 ?hg (N' := 42) ?hd (xs := ([] : List (S34))) (inner := []) (ok := (fun k_ => some k_ ≠ (.slice (some ad109) x5_1.length co41 : Value).ownBlock)) (okp := (fun k_ => some k_ ≠ (.slice (some ad109) x5_1.length co41 : Value).ownBlock)) ?hr ?hp (fun _ hk => hk) ((show ∀ k_, w42.heap.size ≤ k_ → (fun k_ => some k_ ≠ (.slice (some ad109) x5_1.length co41 : Value).ownBlock) k_ from fun k_ hk => Kd.fresh' (Kd.N_lt (by (with_reducible repeat (first | apply Kd.N_alloc | apply Kd.N_drewN | apply Kd.N_drew)); exact HO_5.out)) k_ hk) _ (Nat.le_refl _)) (Below.refl _ _) (Nat.le_refl _) (by simp) ?_; (case hd => rfl); (case hg => rfl); (case hr => first | (go_simp; done) | (go_simp; rfl)); (case hp => exact (Reps.none _ _))
                                intro v111 w45 ho46 hb hg_ hnew_
                                clear hg_ hnew_
                                (first | rw [← Ny110.out] at ho46 | (simp only [Int.reduceToNat] at ho46; rw [← Ny110.out] at ho46))
                                have n0_ := Aside0.mk (Kd.N_elder' (by (with_reducible repeat (first | apply Kd.N_alloc | apply Kd.N_drewN | apply Kd.N_drew)); exact HO_5.out) (Kd.N_base ho46) hb)
                                have n1_ := Aside0.mk (Kd.V_elder' (by (with_reducible repeat (first | apply Kd.V_alloc | apply Kd.V_drewN | apply Kd.V_drew)); exact HL109_6.out) (Kd.N_base ho46) hb)
                                have n2_ := Aside0.mk (Kd.V_elder' (by (with_reducible repeat (first | apply Kd.V_alloc | apply Kd.V_drewN | apply Kd.V_drew)); exact HO117.out) (Kd.N_base ho46) hb)
                                have n3_ := Aside0.mk (Kd.V_elder' (by (with_reducible repeat (first | apply Kd.V_alloc | apply Kd.V_drewN | apply Kd.V_drew)); exact HO125.out) (Kd.N_base ho46) hb)
                                have n4_ := Aside0.mk (Kd.N_lower ho46 (below_size (by repeat (first | (with_reducible first | exact HB.out | apply below_alloc | apply pw_below_drewN | apply below_drew1) | exact HB.out))))
                                have n5_ := Aside0.mk (Kd.C_below (by repeat (first | (with_reducible exact HR109_6.out) | (with_reducible refine Kd.C_alloc ?_ _) | (with_reducible refine Kd.C_drewN ?_ _) | (with_reducible refine Kd.C_drew ?_) | exact HR109_6.out)) hb)
                                have n6_ := Aside0.mk (below_step (by repeat (first | (with_reducible first | exact HB.out | apply below_alloc | apply pw_below_drewN | apply below_drew1) | exact HB.out)) hb)
                                clear HO_5
                                clear HL109_6
                                clear HO117
                                clear HO125
                                clear HR109_6
                                clear HB
                                have HO_5 := n0_
                                have HL109_6 := n1_
                                have HO117 := n2_
                                have HO125 := n3_
                                have HO112 := n4_
                                have HR109_6 := n5_
                                have HB := n6_
                                clear n0_ n1_ n2_ n3_ n4_ n5_ n6_
                                clear hb ho46
                                refine hK.out _ _ trivial (fun hHeld => ?_)
                                clear hK K
                                refine norm_ (a' := ?_) ?_ ?_
                                rotate_left
                                · show Act.put _ (some 42) _ = _
                                  simp only [Act.put, List.setIfInBounds_toArray, List.set_cons_zero, List.set_cons_succ, i64_w, i32_w]
                                  rfl
                                refine one_ (i := 4) (N := some 46) #[true, true, true, true, true, true, true, true, true, false, false] rfl rfl (one_of HT_.out (by kernel_rfl)) (by decide) (fun K hK => ?_)
                                refine Kd.N_append_rows_step k34 (w0 := w) w.heap.size (by rfl) (.tmp 42) (.tmp 45) 23 34 (.agg #[(.bool false), (.bool false), (.int .i64 0), (.int .i64 0), (.int .i64 0), (.string ⟨#[]⟩), (.slice none 0 0)]) 72 rfl Try.underlying23 info34 rfl (by decide) (by omega) v111 y110 y113 _ _ _ (fun _ => True) (fun k_ => ((fun _ => True)) k_ ∧ some k_ ≠ (v111 : Value).ownBlock) rfl rfl ?aO ?aR (fun _ hk => hk) ?aF ?aB ?aS ?aL ?_
                                (case aR => exact (by skip; exact Kd.V_F (Kd.V_mono (ok' := (fun k_ => ((fun _ => True)) k_ ∧ some k_ ≠ (v111 : Value).ownBlock)) (HO117.out) (fun k_ hk => ⟨trivial, hk.2⟩))))
                                (case aB => exact (by repeat (first | (with_reducible first | exact HB.out | apply below_alloc | apply pw_below_drewN | apply below_drew1) | exact HB.out)))
                                (case aF => exact (fun _ _ => trivial))
                                (case aO => exact (by (with_reducible repeat (first | apply Kd.N_alloc | apply Kd.N_drewN | apply Kd.N_drew)); exact Kd.N_mono HO112.out (fun _ hk => trivial)))
                                (case aS => exact (below_size (by repeat (first | (with_reducible first | exact HB.out | apply below_alloc | apply pw_below_drewN | apply below_drew1) | exact HB.out))))
                                (case aL => have := LMc22.out; omega)
                                intro v119 w47 ho hb hg hat
                                rw [← Ny118.out] at ho
                                have n0_ := Aside0.mk (Kd.N_afterv (ok := (fun _ => True)) (by (with_reducible repeat (first | apply Kd.N_alloc | apply Kd.N_drewN | apply Kd.N_drew)); exact HO_5.out) hg hat)
                                have n1_ := Aside0.mk (Kd.V_afterv (ok := (fun k_ => some k_ ≠ (.slice (some ad109) x5_1.length co41 : Value).ownBlock)) (by (with_reducible repeat (first | apply Kd.V_alloc | apply Kd.V_drewN | apply Kd.V_drew)); exact Kd.V_mono HL109_6.out (fun _ hk => ⟨hk.1.2, hk.2⟩)) hg hat)
                                have n2_ := Aside0.mk (Kd.V_afterv (ok := (fun _ => True)) (by (with_reducible repeat (first | apply Kd.V_alloc | apply Kd.V_drewN | apply Kd.V_drew)); exact HO117.out) hg hat)
                                have n3_ := Aside0.mk (Kd.V_afterv (ok := (fun _ => True)) (by (with_reducible repeat (first | apply Kd.V_alloc | apply Kd.V_drewN | apply Kd.V_drew)); exact HO125.out) hg hat)
                                have n4_ := Aside0.mk (hb)
                                have n5_ := Aside0.mk (ho)
                                clear HO_5
                                clear HL109_6
                                clear HO117
                                clear HO125
                                clear HB
                                clear HO112
                                have HO_5 := n0_
                                have HL109_6 := n1_
                                have HO117 := n2_
                                have HO125 := n3_
                                have HB := n4_
                                have HO120 := n5_
                                clear n0_ n1_ n2_ n3_ n4_ n5_
                                clear ho hb hg hat
                                refine hK.out _ _ trivial (fun hHeld => ?_)
                                clear hK K
                                refine norm_ (a' := ?_) ?_ ?_
                                rotate_left
                                · show Act.put _ (some 46) _ = _
                                  simp only [Act.put, List.setIfInBounds_toArray, List.set_cons_zero, List.set_cons_succ, i64_w, i32_w]
                                  rfl
                                refine one_ (i := 9) (N := some 51) #[true, true, true, true, true, true, true, true, true, true, false] rfl rfl (one_of HT_.out (by kernel_rfl)) (by decide) (fun K hK => ?_)
                                refine Kd.N_append_rows_step k34 (w0 := w) w.heap.size (by rfl) (.tmp 46) (.tmp 50) 23 34 (.agg #[(.bool false), (.bool false), (.int .i64 0), (.int .i64 0), (.int .i64 0), (.string ⟨#[]⟩), (.slice none 0 0)]) 72 rfl Try.underlying23 info34 rfl (by decide) (by omega) v119 y118 y121 _ _ _ (fun _ => True) (fun k_ => ((fun _ => True)) k_ ∧ some k_ ≠ (v119 : Value).ownBlock) rfl rfl ?aO ?aR (fun _ hk => hk) ?aF ?aB ?aS ?aL ?_
                                (case aR => exact (by skip; exact Kd.V_F (Kd.V_mono (ok' := (fun k_ => ((fun _ => True)) k_ ∧ some k_ ≠ (v119 : Value).ownBlock)) (HO125.out) (fun k_ hk => ⟨trivial, hk.2⟩))))
                                (case aB => exact (by repeat (first | (with_reducible first | exact HB.out | apply below_alloc | apply pw_below_drewN | apply below_drew1) | exact HB.out)))
                                (case aF => exact (fun _ _ => trivial))
                                (case aO => exact (by (with_reducible repeat (first | apply Kd.N_alloc | apply Kd.N_drewN | apply Kd.N_drew)); exact HO120.out))
                                (case aS => exact (below_size (by repeat (first | (with_reducible first | exact HB.out | apply below_alloc | apply pw_below_drewN | apply below_drew1) | exact HB.out))))
                                (case aL => have := LMc26.out; omega)
                                intro v127 w48 ho hb hg hat
                                rw [← Ny126.out] at ho
                                have n0_ := Aside0.mk (Kd.N_afterv (ok := (fun _ => True)) (by (with_reducible repeat (first | apply Kd.N_alloc | apply Kd.N_drewN | apply Kd.N_drew)); exact HO_5.out) hg hat)
                                have n1_ := Aside0.mk (Kd.V_afterv (ok := (fun k_ => some k_ ≠ (.slice (some ad109) x5_1.length co41 : Value).ownBlock)) (by (with_reducible repeat (first | apply Kd.V_alloc | apply Kd.V_drewN | apply Kd.V_drew)); exact HL109_6.out) hg hat)
                                have n2_ := Aside0.mk (Kd.V_afterv (ok := (fun _ => True)) (by (with_reducible repeat (first | apply Kd.V_alloc | apply Kd.V_drewN | apply Kd.V_drew)); exact HO117.out) hg hat)
                                have n3_ := Aside0.mk (Kd.V_afterv (ok := (fun _ => True)) (by (with_reducible repeat (first | apply Kd.V_alloc | apply Kd.V_drewN | apply Kd.V_drew)); exact HO125.out) hg hat)
                                have n4_ := Aside0.mk (hb)
                                have n5_ := Aside0.mk (ho)
                                clear HO_5
                                clear HL109_6
                                clear HO117
                                clear HO125
                                clear HB
                                clear HO120
                                have HO_5 := n0_
                                have HL109_6 := n1_
                                have HO117 := n2_
                                have HO125 := n3_
                                have HB := n4_
                                have HO128 := n5_
                                clear n0_ n1_ n2_ n3_ n4_ n5_
                                clear ho hb hg hat
                                refine hK.out _ _ trivial (fun hHeld => ?_)
                                clear hK K
                                refine norm_ (a' := ?_) ?_ ?_
                                rotate_left
                                · show Act.put _ (some 51) _ = _
                                  simp only [Act.put, List.setIfInBounds_toArray, List.set_cons_zero, List.set_cons_succ, i64_w, i32_w]
                                  rfl
                                refine pure_ (i := 10) (N := some 5) (v := ?_) (a' := ?_) #[true, true, true, true, true, true, true, true, true, true, true] rfl rfl (any_of HT_.out (by kernel_rfl)) (fun _ _ _ h => h) (Or.inl ⟨by rfl, ?_⟩) ?_ ?_
                                rotate_left
                                · intro w'
                                  go_simp
                                  with_reducible rfl
                                rotate_left
                                · simp only [Act.put, List.setIfInBounds_toArray, List.set_cons_zero, List.set_cons_succ, i64_w, i32_w]
                                  rfl
                                refine done_ (done_of HT_.out (by kernel_rfl)) ?_
                                obtain ⟨Ao49, co49, eo49⟩ := Kd.N_slice HO128.out
                                subst eo49
                                try go_wp2_with (first | (go_at_call 12; (with_reducible refine (history_Check.calls _ _ y126 t129 _ ?side1 ?side2 A28.out).mono ?_); (case side1 => repeat (first | exact (Kd.N_reads' HO128.out).2.2 | (with_reducible refine Kd.C_alloc ?_ _) | (with_reducible refine Kd.C_drewN ?_ _) | (with_reducible refine Kd.C_drew ?_))); (case side2 => exact (Kd.N_reads' HO128.out).2.1); rintro e w50 ⟨rfl, hb⟩; have n0_ := Aside0.mk (Kd.N_below (by (with_reducible repeat (first | apply Kd.N_alloc | apply Kd.N_drewN | apply Kd.N_drew)); exact HO_5.out) hb); have n1_ := Aside0.mk (Kd.V_below (by (with_reducible repeat (first | apply Kd.V_alloc | apply Kd.V_drewN | apply Kd.V_drew)); exact HL109_6.out) hb); have n2_ := Aside0.mk (Kd.V_below (by (with_reducible repeat (first | apply Kd.V_alloc | apply Kd.V_drewN | apply Kd.V_drew)); exact HO117.out) hb); have n3_ := Aside0.mk (Kd.V_below (by (with_reducible repeat (first | apply Kd.V_alloc | apply Kd.V_drewN | apply Kd.V_drew)); exact HO125.out) hb); have n4_ := Aside0.mk (Kd.N_below (by (with_reducible repeat (first | apply Kd.N_alloc | apply Kd.N_drewN | apply Kd.N_drew)); exact HO128.out) hb); have n5_ := Aside0.mk (below_step (by repeat (first | (with_reducible first | exact HB.out | apply below_alloc | apply pw_below_drewN | apply below_drew1) | exact HB.out)) hb); clear HO_5; clear HL109_6; clear HO117; clear HO125; clear HO128; clear HB; have HO_5 := n0_; have HL109_6 := n1_; have HO117 := n2_; have HO125 := n3_; have HO128 := n4_; have HB := n5_; clear n0_ n1_ n2_ n3_ n4_ n5_; (try clear hb); (try clear hb2); (try clear hk); (try clear hi)) | (go_at_call 11; (with_reducible refine (gazettelaw20_num.calls t129 t130 _ A29.out).mono ?_); rintro e w' ⟨rfl, ⟨nd, rfl⟩⟩))
                                go_ret
                                exact ⟨by first | rfl | (simp [errW_none, errW_some] <;> rfl) | (simp only [← hji15, ← hji23]; first | rfl | (simp [errW_none, errW_some] <;> rfl)) | (simp [*, errW_none, errW_some] <;> rfl), by repeat (first | (with_reducible first | exact HB.out | apply below_alloc | apply pw_below_drewN | apply below_drew1) | exact HB.out)⟩
                            · rw [if_neg c27] at H
                              have c27b0 : (t105 == 0) = false := beq_eq_false_iff_ne.mpr c27
                              have c27b1 : (t105 != 0) = true := bne_iff_ne.mpr c27
                              have H' := Aside0.mk H
                              clear H
                              obtain ⟨Ao51, co51, eo51⟩ := Kd.N_slice HO_5.out
                              subst eo51
                              have p108 : 0 ≤ (x7_1 : Int) := of_decide_eq_true (by first | (with_reducible assumption) | assumption)
                              have q108 : x7_1 < (l1.length : Int) := of_decide_eq_true (by first | (with_reducible assumption) | assumption)
                              obtain ⟨ad108, e108, hx108_0⟩ := Kd.at_int HR1.out x7_1 p108 q108
                              cases e108
                              replace hx108_0 := (HB.out.cell (World.block_lt_of_cell? w _ hx108_0)).trans hx108_0
                              replace p108 := eq_true p108
                              replace q108 := eq_true q108
                              have p109 : 0 ≤ ((ji15) : Int) := of_decide_eq_true (by first | (with_reducible assumption) | assumption)
                              have q109 : (ji15) < (x5_1.length : Int) := of_decide_eq_true (by first | (with_reducible assumption) | assumption)
                              obtain ⟨ad109, A109_6, c109_6, e109, hx109_0, hx109_1, hx109_2, hx109_3, hx109_4, hx109_5, hx109_6, hl109_6, hi109_6⟩ := at_T34 (Kd.N_reads' HO_5.out).2.2 (ji15) p109 q109
                              (try rw [← Nbq18.out] at hx109_0)
                              (try rw [← Nbq18.out] at hx109_1)
                              cases e109
                              obtain ⟨ce109, hce109, hMe109, hcc109⟩ := Kd.N_get HO_5.out z34 (ji15) p109 (by first | exact q109 | exact of_decide_eq_true (by first | (with_reducible assumption) | assumption) | (have e_ := (Kd.N_reads' HO_5.out).1; omega))
                              obtain ⟨ua109_6, uc109_6, rfl, ul109_6, ge109_6⟩ := k34_openF hMe109
                              have hv109_6 := hcc109 6 _ rfl
                              rw [add_field _ _ 6 (by omega)] at hv109_6
                              replace hv109_6 := Option.some.inj (hv109_6.symm.trans hx109_6)
                              injection hv109_6 with hva_ hvn_ hvc_
                              rw [hva_] at ge109_6
                              rw [hvc_] at ul109_6
                              have HL109_6 := Aside0.mk (show Kd.V Kd.string 9 _ w.heap.size _ _ ((rd_T34 x5_1 (ji15)).f6) from Kd.V_mk ul109_6 ge109_6)
                              clear hva_ hvn_ hvc_ ge109_6 ul109_6
                              clear hcc109 hce109
                              have HR109_6 := Aside0.mk hi109_6
                              have HC109_6 := Aside0.mk hl109_6
                              clear hi109_6 hl109_6
                              replace p109 := eq_true p109
                              replace q109 := eq_true q109
                              try go_wp2
                              have n0_ := Aside0.mk (Kd.N_drew HO_5.out)
                              have n1_ := Aside0.mk (Kd.V_drew HL109_6.out)
                              have n2_ := Aside0.mk (Kd.C_drew HR109_6.out)
                              have n3_ := Aside0.mk (below_drew1 HB.out)
                              clear HO_5
                              clear HL109_6
                              clear HR109_6
                              clear HB
                              have HO_5 := n0_
                              have HL109_6 := n1_
                              have HR109_6 := n2_
                              have HB := n3_
                              clear n0_ n1_ n2_ n3_
                              have q53 : ((ji15) : Int) ≤ ((x5_1.length : Int) : Int) := of_decide_eq_true (by first | (with_reducible assumption) | assumption)
                              obtain ⟨i053, hi053, _, hsz53, _⟩ := info_parts info34
                              have hroom53 : x5_1.length ≤ co51 := (Kd.N_reads' HO_5.out).2.1
                              have hC53 : Kd.F k34 _ _ (some ad109) x5_1.length x5_1 := (Kd.V_at (base := w.heap.size) (Kd.N_V HO_5.out)).2.2
                              have hcut53 := cut_to (P := Try.prog) 23 34 .i64 Try.underlying23 hi053 (some ad109) x5_1.length co51 (ji15) (of_decide_eq_true (by first | (with_reducible assumption) | assumption)) q53 hroom53
                              have hr53 := Kd.F_take (m := ((ji15) : Int).toNat) hC53 (by omega)
                              have hy53 : y113.length = ((ji15) : Int).toNat := (by rw [Ny113.out, List.length_take]; omega)
                              rw [← Ny113.out] at hr53
                              rw [← hy53] at hcut53
                              have HO117 := Aside0.mk (show Kd.V k34 34 _ w.heap.size _ (.slice (some ad109) y113.length co51) y113 from Kd.V_mk (by omega) hr53)
                              have HC117 := Aside0.mk (show y113.length ≤ co51 from by omega)
                              clear hr53 hC53 hroom53 hi053 hsz53
                              have KY53 := Aside0.mk hy53
                              clear hy53
                              replace q53 := eq_true q53
                              have q54 : ((ji23) : Int) ≤ ((x5_1.length : Int) : Int) := of_decide_eq_true (by first | (with_reducible assumption) | assumption)
                              obtain ⟨i054, hi054, _, hsz54, _⟩ := info_parts info34
                              have hroom54 : x5_1.length ≤ co51 := (Kd.N_reads' HO_5.out).2.1
                              have hC54 : Kd.F k34 _ _ (some ad109) x5_1.length x5_1 := (Kd.V_at (base := w.heap.size) (Kd.N_V HO_5.out)).2.2
                              have q054 : (0 : Int) ≤ ((ji23) : Int) := of_decide_eq_true (by first | (with_reducible assumption) | assumption)
                              have hcut54 := cut_from (P := Try.prog) 23 34 .i64 Try.underlying23 hi054 7 hsz54 (some ad109) x5_1.length co51 (ji23) q054 q54
                              have hr54 := Kd.F_cut (m := ((ji23) : Int).toNat) (c := co51) hC54 (by omega) hroom54
                              obtain ⟨A54, hA54⟩ : ∃ A1, A1 = (if co51 = ((ji23) : Int).toNat then (some ad109) else ((some ad109) : Option Addr).map (·.add (((ji23) : Int).toNat * 7))) := ⟨_, rfl⟩
                              obtain ⟨c54, hc54⟩ : ∃ c1, c1 = co51 - ((ji23) : Int).toNat := ⟨_, rfl⟩
                              have hy54 : y121.length = x5_1.length - ((ji23) : Int).toNat := (by rw [Ny121.out, List.length_drop] <;> omega)
                              rw [show (x5_1).drop ((ji23) : Int).toNat = y121 from Ny121.out.symm] at hr54
                              replace hr54 : Kd.F k34 _ _ A54 y121.length y121 := (by rw [hA54]; exact hr54)
                              rw [← hy54, ← hA54, ← hc54] at hcut54
                              have HO125 := Aside0.mk (show Kd.V k34 34 _ w.heap.size _ (.slice A54 y121.length c54) y121 from Kd.V_mk (by rw [hy54, hc54]; exact Nat.sub_le_sub_right hroom54 _) hr54)
                              have HC125 := Aside0.mk (show y121.length ≤ c54 from by rw [hy54, hc54]; exact Nat.sub_le_sub_right hroom54 _)
                              clear hr54 hC54 hroom54 hi054 hsz54 hc54
                              have KY54 := Aside0.mk hy54
                              have KA54 := Aside0.mk hA54
                              clear hy54 hA54
                              replace q54 := eq_true q54
                              refine start_ (n := 11) (S := fun w' => True) (ds := []) #[false, false, false, false, false, false, false, false, false, false, false] (by kernel_rfl) rfl rfl trivial (fun hHeld => ?_); refine with_tabW gazettelaw20_HistoryLess.tab9 gazettelaw20_HistoryLess.bits9 (fun HT_ HW_ => ?_)
                              generalize wr.drew = w52 at HO_5 HL109_6 HR109_6 HB HO117 HO125 hHeld ⊢
                              refine pure_ (i := 1) (N := some 43) (v := ?_) (a' := ?_) #[false, true, false, false, false, false, false, false, false, false, false] rfl rfl (any_of HT_.out (by kernel_rfl)) (fun _ _ _ h => h) (Or.inl ⟨by rfl, ?_⟩) ?_ ?_
                              rotate_left
                              · intro w'
                                go_simp
                                with_reducible rfl
                              rotate_left
                              · simp only [Act.put, List.setIfInBounds_toArray, List.set_cons_zero, List.set_cons_succ, i64_w, i32_w]
                                rfl
                              refine pure_ (i := 2) (N := some 44) (v := ?_) (a' := ?_) #[false, true, true, false, false, false, false, false, false, false, false] rfl rfl (any_of HT_.out (by kernel_rfl)) (fun _ _ _ h => h) (Or.inl ⟨by rfl, ?_⟩) ?_ ?_
                              rotate_left
                              · intro w'
                                go_simp
                                with_reducible rfl
                              rotate_left
                              · simp only [Act.put, List.setIfInBounds_toArray, List.set_cons_zero, List.set_cons_succ, i64_w, i32_w]
                                rfl
                              refine pure_ (i := 3) (N := some 45) (v := ?_) (a' := ?_) #[false, true, true, true, false, false, false, false, false, false, false] rfl rfl (any_of HT_.out (by kernel_rfl)) (fun _ _ _ h => h) (Or.inl ⟨by rfl, ?_⟩) ?_ ?_
                              rotate_left
                              · intro w'
                                go_simp
                                with_reducible rfl
                              rotate_left
                              · simp only [Act.put, List.setIfInBounds_toArray, List.set_cons_zero, List.set_cons_succ, i64_w, i32_w]
                                rfl
                              refine pure_ (i := 5) (N := some 47) (v := ?_) (a' := ?_) #[false, true, true, true, false, true, false, false, false, false, false] rfl rfl (any_of HT_.out (by kernel_rfl)) (fun _ _ _ h => h) (Or.inl ⟨by rfl, ?_⟩) ?_ ?_
                              rotate_left
                              · intro w'
                                go_simp
                                with_reducible rfl
                              rotate_left
                              · simp only [Act.put, List.setIfInBounds_toArray, List.set_cons_zero, List.set_cons_succ, i64_w, i32_w]
                                rfl
                              refine pure_ (i := 6) (N := some 48) (v := ?_) (a' := ?_) #[false, true, true, true, false, true, true, false, false, false, false] rfl rfl (any_of HT_.out (by kernel_rfl)) (fun _ _ _ h => h) (Or.inl ⟨by rfl, ?_⟩) ?_ ?_
                              rotate_left
                              · intro w'
                                go_simp
                                with_reducible rfl
                              rotate_left
                              · simp only [Act.put, List.setIfInBounds_toArray, List.set_cons_zero, List.set_cons_succ, i64_w, i32_w]
                                rfl
                              refine pure_ (i := 7) (N := some 49) (v := ?_) (a' := ?_) #[false, true, true, true, false, true, true, true, false, false, false] rfl rfl (any_of HT_.out (by kernel_rfl)) (fun _ _ _ h => h) (Or.inl ⟨by rfl, ?_⟩) ?_ ?_
                              rotate_left
                              · intro w'
                                go_simp
                                with_reducible rfl
                              rotate_left
                              · simp only [Act.put, List.setIfInBounds_toArray, List.set_cons_zero, List.set_cons_succ, i64_w, i32_w]
                                rfl
                              refine pure_ (i := 8) (N := some 50) (v := ?_) (a' := ?_) #[false, true, true, true, false, true, true, true, true, false, false] rfl rfl (any_of HT_.out (by kernel_rfl)) (fun _ _ _ h => h) (Or.inl ⟨by rfl, ?_⟩) ?_ ?_
                              rotate_left
                              · intro w'
                                go_simp
                                with_reducible rfl
                              rotate_left
                              · simp only [Act.put, List.setIfInBounds_toArray, List.set_cons_zero, List.set_cons_succ, i64_w, i32_w]
                                rfl
                              refine one_ (i := 0) (N := some 42) #[true, true, true, true, false, true, true, true, true, false, false] rfl rfl (one_of HT_.out (by kernel_rfl)) (by decide) (fun K hK => ?_)
                              refine Kd.N_lit_step k34 _ 34 ?hg (N' := 42) ?hd (xs := ([] : List (S34))) (inner := []) (ok := (fun k_ => some k_ ≠ (.slice (some ad109) x5_1.length co51 : Value).ownBlock)) (okp := (fun k_ => some k_ ≠ (.slice (some ad109) x5_1.length co51 : Value).ownBlock)) ?hr ?hp (fun _ hk => hk) ((show ∀ k_, w52.heap.size ≤ k_ → (fun k_ => some k_ ≠ (.slice (some ad109) x5_1.length co51 : Value).ownBlock) k_ from fun k_ hk => Kd.fresh' (Kd.N_lt (by (with_reducible repeat (first | apply Kd.N_alloc | apply Kd.N_drewN | apply Kd.N_drew)); exact HO_5.out)) k_ hk) _ (Nat.le_refl _)) (Below.refl _ _) (Nat.le_refl _) (by simp) ?_; (case hd => rfl); (case hg => rfl); (case hr => first | (go_simp; done) | (go_simp; rfl)); (case hp => exact (Reps.none _ _))
                              intro v111 w55 ho56 hb hg_ hnew_
                              clear hg_ hnew_
                              (first | rw [← Ny110.out] at ho56 | (simp only [Int.reduceToNat] at ho56; rw [← Ny110.out] at ho56))
                              have n0_ := Aside0.mk (Kd.N_elder' (by (with_reducible repeat (first | apply Kd.N_alloc | apply Kd.N_drewN | apply Kd.N_drew)); exact HO_5.out) (Kd.N_base ho56) hb)
                              have n1_ := Aside0.mk (Kd.V_elder' (by (with_reducible repeat (first | apply Kd.V_alloc | apply Kd.V_drewN | apply Kd.V_drew)); exact HL109_6.out) (Kd.N_base ho56) hb)
                              have n2_ := Aside0.mk (Kd.V_elder' (by (with_reducible repeat (first | apply Kd.V_alloc | apply Kd.V_drewN | apply Kd.V_drew)); exact HO117.out) (Kd.N_base ho56) hb)
                              have n3_ := Aside0.mk (Kd.V_elder' (by (with_reducible repeat (first | apply Kd.V_alloc | apply Kd.V_drewN | apply Kd.V_drew)); exact HO125.out) (Kd.N_base ho56) hb)
                              have n4_ := Aside0.mk (Kd.N_lower ho56 (below_size (by repeat (first | (with_reducible first | exact HB.out | apply below_alloc | apply pw_below_drewN | apply below_drew1) | exact HB.out))))
                              have n5_ := Aside0.mk (Kd.C_below (by repeat (first | (with_reducible exact HR109_6.out) | (with_reducible refine Kd.C_alloc ?_ _) | (with_reducible refine Kd.C_drewN ?_ _) | (with_reducible refine Kd.C_drew ?_) | exact HR109_6.out)) hb)
                              have n6_ := Aside0.mk (below_step (by repeat (first | (with_reducible first | exact HB.out | apply below_alloc | apply pw_below_drewN | apply below_drew1) | exact HB.out)) hb)
                              clear HO_5
                              clear HL109_6
                              clear HO117
                              clear HO125
                              clear HR109_6
                              clear HB
                              have HO_5 := n0_
                              have HL109_6 := n1_
                              have HO117 := n2_
                              have HO125 := n3_
                              have HO112 := n4_
                              have HR109_6 := n5_
                              have HB := n6_
                              clear n0_ n1_ n2_ n3_ n4_ n5_ n6_
                              clear hb ho56
                              refine hK.out _ _ trivial (fun hHeld => ?_)
                              clear hK K
                              refine norm_ (a' := ?_) ?_ ?_
                              rotate_left
                              · show Act.put _ (some 42) _ = _
                                simp only [Act.put, List.setIfInBounds_toArray, List.set_cons_zero, List.set_cons_succ, i64_w, i32_w]
                                rfl
                              refine one_ (i := 4) (N := some 46) #[true, true, true, true, true, true, true, true, true, false, false] rfl rfl (one_of HT_.out (by kernel_rfl)) (by decide) (fun K hK => ?_)
                              refine Kd.N_append_rows_step k34 (w0 := w) w.heap.size (by rfl) (.tmp 42) (.tmp 45) 23 34 (.agg #[(.bool false), (.bool false), (.int .i64 0), (.int .i64 0), (.int .i64 0), (.string ⟨#[]⟩), (.slice none 0 0)]) 72 rfl Try.underlying23 info34 rfl (by decide) (by omega) v111 y110 y113 _ _ _ (fun _ => True) (fun k_ => ((fun _ => True)) k_ ∧ some k_ ≠ (v111 : Value).ownBlock) rfl rfl ?aO ?aR (fun _ hk => hk) ?aF ?aB ?aS ?aL ?_
                              (case aR => exact (by skip; exact Kd.V_F (Kd.V_mono (ok' := (fun k_ => ((fun _ => True)) k_ ∧ some k_ ≠ (v111 : Value).ownBlock)) (HO117.out) (fun k_ hk => ⟨trivial, hk.2⟩))))
                              (case aB => exact (by repeat (first | (with_reducible first | exact HB.out | apply below_alloc | apply pw_below_drewN | apply below_drew1) | exact HB.out)))
                              (case aF => exact (fun _ _ => trivial))
                              (case aO => exact (by (with_reducible repeat (first | apply Kd.N_alloc | apply Kd.N_drewN | apply Kd.N_drew)); exact Kd.N_mono HO112.out (fun _ hk => trivial)))
                              (case aS => exact (below_size (by repeat (first | (with_reducible first | exact HB.out | apply below_alloc | apply pw_below_drewN | apply below_drew1) | exact HB.out))))
                              (case aL => have := LMc22.out; omega)
                              intro v119 w57 ho hb hg hat
                              rw [← Ny118.out] at ho
                              have n0_ := Aside0.mk (Kd.N_afterv (ok := (fun _ => True)) (by (with_reducible repeat (first | apply Kd.N_alloc | apply Kd.N_drewN | apply Kd.N_drew)); exact HO_5.out) hg hat)
                              have n1_ := Aside0.mk (Kd.V_afterv (ok := (fun k_ => some k_ ≠ (.slice (some ad109) x5_1.length co51 : Value).ownBlock)) (by (with_reducible repeat (first | apply Kd.V_alloc | apply Kd.V_drewN | apply Kd.V_drew)); exact Kd.V_mono HL109_6.out (fun _ hk => ⟨hk.1.2, hk.2⟩)) hg hat)
                              have n2_ := Aside0.mk (Kd.V_afterv (ok := (fun _ => True)) (by (with_reducible repeat (first | apply Kd.V_alloc | apply Kd.V_drewN | apply Kd.V_drew)); exact HO117.out) hg hat)
                              have n3_ := Aside0.mk (Kd.V_afterv (ok := (fun _ => True)) (by (with_reducible repeat (first | apply Kd.V_alloc | apply Kd.V_drewN | apply Kd.V_drew)); exact HO125.out) hg hat)
                              have n4_ := Aside0.mk (hb)
                              have n5_ := Aside0.mk (ho)
                              clear HO_5
                              clear HL109_6
                              clear HO117
                              clear HO125
                              clear HB
                              clear HO112
                              have HO_5 := n0_
                              have HL109_6 := n1_
                              have HO117 := n2_
                              have HO125 := n3_
                              have HB := n4_
                              have HO120 := n5_
                              clear n0_ n1_ n2_ n3_ n4_ n5_
                              clear ho hb hg hat
                              refine hK.out _ _ trivial (fun hHeld => ?_)
                              clear hK K
                              refine norm_ (a' := ?_) ?_ ?_
                              rotate_left
                              · show Act.put _ (some 46) _ = _
                                simp only [Act.put, List.setIfInBounds_toArray, List.set_cons_zero, List.set_cons_succ, i64_w, i32_w]
                                rfl
                              refine one_ (i := 9) (N := some 51) #[true, true, true, true, true, true, true, true, true, true, false] rfl rfl (one_of HT_.out (by kernel_rfl)) (by decide) (fun K hK => ?_)
                              refine Kd.N_append_rows_step k34 (w0 := w) w.heap.size (by rfl) (.tmp 46) (.tmp 50) 23 34 (.agg #[(.bool false), (.bool false), (.int .i64 0), (.int .i64 0), (.int .i64 0), (.string ⟨#[]⟩), (.slice none 0 0)]) 72 rfl Try.underlying23 info34 rfl (by decide) (by omega) v119 y118 y121 _ _ _ (fun _ => True) (fun k_ => ((fun _ => True)) k_ ∧ some k_ ≠ (v119 : Value).ownBlock) rfl rfl ?aO ?aR (fun _ hk => hk) ?aF ?aB ?aS ?aL ?_
                              (case aR => exact (by skip; exact Kd.V_F (Kd.V_mono (ok' := (fun k_ => ((fun _ => True)) k_ ∧ some k_ ≠ (v119 : Value).ownBlock)) (HO125.out) (fun k_ hk => ⟨trivial, hk.2⟩))))
                              (case aB => exact (by repeat (first | (with_reducible first | exact HB.out | apply below_alloc | apply pw_below_drewN | apply below_drew1) | exact HB.out)))
                              (case aF => exact (fun _ _ => trivial))
                              (case aO => exact (by (with_reducible repeat (first | apply Kd.N_alloc | apply Kd.N_drewN | apply Kd.N_drew)); exact HO120.out))
                              (case aS => exact (below_size (by repeat (first | (with_reducible first | exact HB.out | apply below_alloc | apply pw_below_drewN | apply below_drew1) | exact HB.out))))
                              (case aL => have := LMc26.out; omega)
                              intro v127 w58 ho hb hg hat
                              rw [← Ny126.out] at ho
                              have n0_ := Aside0.mk (Kd.N_afterv (ok := (fun _ => True)) (by (with_reducible repeat (first | apply Kd.N_alloc | apply Kd.N_drewN | apply Kd.N_drew)); exact HO_5.out) hg hat)
                              have n1_ := Aside0.mk (Kd.V_afterv (ok := (fun k_ => some k_ ≠ (.slice (some ad109) x5_1.length co51 : Value).ownBlock)) (by (with_reducible repeat (first | apply Kd.V_alloc | apply Kd.V_drewN | apply Kd.V_drew)); exact HL109_6.out) hg hat)
                              have n2_ := Aside0.mk (Kd.V_afterv (ok := (fun _ => True)) (by (with_reducible repeat (first | apply Kd.V_alloc | apply Kd.V_drewN | apply Kd.V_drew)); exact HO117.out) hg hat)
                              have n3_ := Aside0.mk (Kd.V_afterv (ok := (fun _ => True)) (by (with_reducible repeat (first | apply Kd.V_alloc | apply Kd.V_drewN | apply Kd.V_drew)); exact HO125.out) hg hat)
                              have n4_ := Aside0.mk (hb)
                              have n5_ := Aside0.mk (ho)
                              clear HO_5
                              clear HL109_6
                              clear HO117
                              clear HO125
                              clear HB
                              clear HO120
                              have HO_5 := n0_
                              have HL109_6 := n1_
                              have HO117 := n2_
                              have HO125 := n3_
                              have HB := n4_
                              have HO128 := n5_
                              clear n0_ n1_ n2_ n3_ n4_ n5_
                              clear ho hb hg hat
                              refine hK.out _ _ trivial (fun hHeld => ?_)
                              clear hK K
                              refine norm_ (a' := ?_) ?_ ?_
                              rotate_left
                              · show Act.put _ (some 51) _ = _
                                simp only [Act.put, List.setIfInBounds_toArray, List.set_cons_zero, List.set_cons_succ, i64_w, i32_w]
                                rfl
                              refine pure_ (i := 10) (N := some 5) (v := ?_) (a' := ?_) #[true, true, true, true, true, true, true, true, true, true, true] rfl rfl (any_of HT_.out (by kernel_rfl)) (fun _ _ _ h => h) (Or.inl ⟨by rfl, ?_⟩) ?_ ?_
                              rotate_left
                              · intro w'
                                go_simp
                                with_reducible rfl
                              rotate_left
                              · simp only [Act.put, List.setIfInBounds_toArray, List.set_cons_zero, List.set_cons_succ, i64_w, i32_w]
                                rfl
                              refine done_ (done_of HT_.out (by kernel_rfl)) ?_
                              try go_wp2
                              go_roundg k1
                              case measure => have := HK1.out; omega
                              case rel => exact ⟨(y126), (wrap64 (x7_1 + 1)), (by first | rfl | (simp; done) | (simp [*]; done)), H', ⟨by have := HK1.out; omega⟩, ⟨by (with_reducible repeat (first | apply Kd.N_alloc | apply Kd.N_drewN | apply Kd.N_drew)); exact HO128.out⟩, ⟨by repeat (first | (with_reducible first | exact HB.out | apply below_alloc | apply pw_below_drewN | apply below_drew1) | exact HB.out)⟩⟩
                          · rw [if_neg c26] at H
                            exact absurd H (by simp)
                        · rw [if_neg c25] at H
                          exact absurd H (by simp)
                      · rw [if_neg c24] at H
                        exact absurd H (by simp)
                    · rw [if_neg c22] at H
                      exact absurd H (by simp)
                  · rw [if_neg c21] at H
                    exact absurd H (by simp)
                · replace c19 := Bool.eq_false_iff.mpr c19
                  subst c19
                  have H1 : (gazettelaw20_HistoryLess.l0 k1 l1 x5_1 t105 (wrap64 (x7_1 + 1))) = some r := by rw [if_neg (show ¬ (false = true) by decide)] at H; exact H
                  clear H
                  have H := H1
                  clear H1
                  have H' := Aside0.mk H
                  clear H
                  obtain ⟨Ao59, co59, eo59⟩ := Kd.N_slice HO_5.out
                  subst eo59
                  have p108 : 0 ≤ (x7_1 : Int) := of_decide_eq_true (by first | (with_reducible assumption) | assumption)
                  have q108 : x7_1 < (l1.length : Int) := of_decide_eq_true (by first | (with_reducible assumption) | assumption)
                  obtain ⟨ad108, e108, hx108_0⟩ := Kd.at_int HR1.out x7_1 p108 q108
                  cases e108
                  replace hx108_0 := (HB.out.cell (World.block_lt_of_cell? w _ hx108_0)).trans hx108_0
                  replace p108 := eq_true p108
                  replace q108 := eq_true q108
                  have p109 : 0 ≤ ((ji15) : Int) := of_decide_eq_true (by first | (with_reducible assumption) | assumption)
                  have q109 : (ji15) < (x5_1.length : Int) := of_decide_eq_true (by first | (with_reducible assumption) | assumption)
                  obtain ⟨ad109, A109_6, c109_6, e109, hx109_0, hx109_1, hx109_2, hx109_3, hx109_4, hx109_5, hx109_6, hl109_6, hi109_6⟩ := at_T34 (Kd.N_reads' HO_5.out).2.2 (ji15) p109 q109
                  (try rw [← Nbq18.out] at hx109_0)
                  (try rw [← Nbq18.out] at hx109_1)
                  cases e109
                  obtain ⟨ce109, hce109, hMe109, hcc109⟩ := Kd.N_get HO_5.out z34 (ji15) p109 (by first | exact q109 | exact of_decide_eq_true (by first | (with_reducible assumption) | assumption) | (have e_ := (Kd.N_reads' HO_5.out).1; omega))
                  obtain ⟨ua109_6, uc109_6, rfl, ul109_6, ge109_6⟩ := k34_openF hMe109
                  have hv109_6 := hcc109 6 _ rfl
                  rw [add_field _ _ 6 (by omega)] at hv109_6
                  replace hv109_6 := Option.some.inj (hv109_6.symm.trans hx109_6)
                  injection hv109_6 with hva_ hvn_ hvc_
                  rw [hva_] at ge109_6
                  rw [hvc_] at ul109_6
                  have HL109_6 := Aside0.mk (show Kd.V Kd.string 9 _ w.heap.size _ _ ((rd_T34 x5_1 (ji15)).f6) from Kd.V_mk ul109_6 ge109_6)
                  clear hva_ hvn_ hvc_ ge109_6 ul109_6
                  clear hcc109 hce109
                  have HR109_6 := Aside0.mk hi109_6
                  have HC109_6 := Aside0.mk hl109_6
                  clear hi109_6 hl109_6
                  replace p109 := eq_true p109
                  replace q109 := eq_true q109
                  go_wp2
                  go_roundg k1
                  case measure => have := HK1.out; omega
                  case rel => exact ⟨(x5_1), (wrap64 (x7_1 + 1)), (by first | rfl | (simp; done) | (simp [*]; done)), H', ⟨by have := HK1.out; omega⟩, ⟨by (with_reducible repeat (first | apply Kd.N_alloc | apply Kd.N_drewN | apply Kd.N_drew)); exact HO_5.out⟩, ⟨by repeat (first | (with_reducible first | exact HB.out | apply below_alloc | apply pw_below_drewN | apply below_drew1) | exact HB.out)⟩⟩
              · rw [if_neg c17] at H
                exact absurd H (by simp)
            · rw [if_neg c16] at H
              exact absurd H (by simp)
          · rw [if_neg c14] at H
            exact absurd H (by simp)
      · rw [if_neg c9] at H
        have c9b0 : decide (x7_1 < (l1.length : Int)) = false := decide_eq_false c9
        clear c9
        replace H := Option.bind_eq_some_iff.mp H
        obtain ⟨t106, A600, H⟩ := H
        replace H : (some t106) = some r := H
        have A60 := Aside0.mk A600
        clear A600
        obtain rfl := Option.some.inj H
        go_wp2_with (first | ((with_reducible refine gate_callee (f := 16) rfl ?_); refine goesL_ (some 60) rfl rfl Try.func16 (by kernel_rfl) rfl #[] rfl (by (try simp only [List.map_toArray, List.map_cons, List.map_nil]); first | done | rfl | (simp only [List.length_drop, List.length_take]; rfl)) ?_; (with_reducible refine (gazettelaw20_knows.calls  t106 _ A60.out).mono ?_); rintro e w61 ⟨rfl, hb⟩; refine ⟨_, rfl, ?_⟩; have n0_ := Aside0.mk (Kd.N_below (by (with_reducible repeat (first | apply Kd.N_alloc | apply Kd.N_drewN | apply Kd.N_drew)); exact HO_5.out) hb); have n1_ := Aside0.mk (below_step (by repeat (first | (with_reducible first | exact HB.out | apply below_alloc | apply pw_below_drewN | apply below_drew1) | exact HB.out)) hb); clear HO_5; clear HB; have HO_5 := n0_; have HB := n1_; clear n0_ n1_; (try clear hb); (try clear hb2); (try clear hk); (try clear hi)))
        go_ret
        exact ⟨by first | rfl | (simp [errW_none, errW_some] <;> rfl) | (simp [*, errW_none, errW_some] <;> rfl), by repeat (first | (with_reducible first | exact HB.out | apply below_alloc | apply pw_below_drewN | apply below_drew1) | exact HB.out)⟩

end Go.Proofs.Ytamiglolpchplaa.PHistoryLess
