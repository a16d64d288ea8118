/- The walk of NetPlays: it answers true. -/
import Derived.Test.YtckeahjlfopaaaaHN27
namespace Go.Proofs.Ytckeahjlfopaaaa.Hand
open Go.RowKit Go.Proofs.Ytckeahjlfopaaaa Go.Proofs.YtckeahjlfopaaaaW.PrintWords Go.Proofs.YtckeahjlfopaaaaW.PrintLast
set_option linter.unusedVariables false
set_option linter.unusedSimpArgs false
set_option maxHeartbeats 8000000 in
set_option maxRecDepth 100000 in
theorem lawPlays (A : Option Addr) (c : Nat) (ops1 : List OpV) (A' : Option Addr) (c' : Nat) (ops2 : List OpV) (w : World) (hr1 : Kd.C k35 w A ops1.length ops1) (hr2 : Kd.C k35 w A' ops2.length ops2)
    (hn1 : ops1.length ≤ 1048576) (hL1 : sumL ops1 ≤ 1048576) (hB1 : ∀ o ∈ ops1, o.b.length ≤ 140737488351232) (hn2 : ops2.length ≤ 1048576) (hL2 : sumL ops2 ≤ 1048576) (hB2 : ∀ o ∈ ops2, o.b.length ≤ 140737488351232) :
    Calls Try.prog 5 #[.slice A ops1.length c, .slice A' ops2.length c'] w fun e W' => e = .returned (.bool true) ∧ Below w.heap.size w W' := by
  have HR1 := Aside0.mk hr1
  have HR2 := Aside0.mk hr2
  have HBB1 := Aside0.mk hB1
  have HBB2 := Aside0.mk hB2
  have qq := eq_q0
  clear hr1 hr2 hB1 hB2
  go_enter Try.func5, Try.ntmps5
  go_wp2_with fail
  refine (new_c w).mono ?_
  rintro e W1 ⟨rfl, k1, k2⟩
  have N1 := Aside0.mk k1
  have B1 := Aside0.mk k2
  clear k1 k2
  go_wp2_with fail
  refine (new_c W1).mono ?_
  rintro e W2 ⟨rfl, k1, k2⟩
  have HP := Aside0.mk (PP.start N1.out B1.out k1 k2 _ rfl)
  clear k1 k2 N1 B1
  go_wp2_with fail
  generalize (W2.alloc (.cells #[.slice none 0 0, .slice none 0 0] 45 (0, 0))).alloc (.cells #[.slice none 0 0, .slice none 0 0] 45 (0, 0)) = W4 at *
  generalize W1.heap.size = m at *
  generalize W2.heap.size = r at *
  refine (show Calls Try.prog 16 #[.pointer (some ⟨w.heap.size, 0, none⟩)] W4 (fun e W' => e = .returned (.bool true) ∧ W4 = W') from ?_ |> fun h => h).mono ?_
  · obtain ⟨⟨F, G, ⟨⟨F1, F2, ⟨⟨v, vm, h1, _⟩, _, _⟩, _⟩, _⟩, _⟩, _⟩ := HP.out
    exact made_c w.heap.size v vm true W4 h1
  rintro e W5 ⟨rfl, rfl⟩
  go_wp2_with fail
  refine (knows_c W4).mono ?_
  rintro e W6 ⟨rfl, hk⟩
  have HP6 := Aside0.mk (HP.out.below hk)
  clear HP hk
  go_wp2_with fail
  go_loopw [9] (fun u9 wr => ∃ (j : Nat) (lu : List Int) (la : List (Int × List Int)) (lu2 : List Int) (la2 : List (Int × List Int)), u9 = .int .i64 j ∧ j ≤ ops1.length + ops2.length ∧ Aside0 (PP w wr w.heap.size r m (r + 1) lu la lu2 la2) ∧ Aside0 (lu.length ≤ sumL (ops1.take j)) ∧ Aside0 (la.length ≤ j) ∧ Aside0 (∀ m ∈ la, m.2.length ≤ 140737488351232) ∧ Aside0 (lu2.length ≤ sumL (ops2.take j)) ∧ Aside0 (la2.length ≤ j) ∧ Aside0 (∀ m ∈ la2, m.2.length ≤ 140737488351232)) (fun u9 wr => ops1.length + ops2.length - (intOf u9).toNat)
  case atStart => exact ⟨0, [], [], [], [], rfl, by omega, HP6, ⟨by simp⟩, ⟨by simp⟩, ⟨fun m hm => by cases hm⟩, ⟨by simp⟩, ⟨by simp⟩, ⟨fun m hm => by cases hm⟩⟩
  case round =>
    obtain ⟨j, lu, la, lu2, la2, rfl, hj, HP, HS1, HA1, HM1, HS2, HA2, HM2⟩ := hrel
    clear HP6
    by_cases h1 : j < ops1.length
    · by_cases h2 : j < ops2.length
      · have hd1 : decide ((j : Int) < (ops1.length : Int)) = true := by rw [decide_eq_true_eq]; omega
        have hd2 : decide ((j : Int) < (ops2.length : Int)) = true := by rw [decide_eq_true_eq]; omega
        obtain ⟨ad1, P1, p1, R1, r1, hA1, hCB1, hCL1, hcc1⟩ := op_cells HR1.out j h1
        subst hA1
        have HCB1 := Aside0.mk hCB1
        have HCL1 := Aside0.mk hCL1
        obtain ⟨x0, x1, x2, x3⟩ := hcc1 wr HP.out.bel
        have hst1 := sumL_take ops1 j h1
        have hob1 := HBB1.out _ (List.getElem_mem h1)
        clear hCB1 hCL1 hcc1
        generalize ops1[j].kind = ki1 at *
        generalize ops1[j].n = nn1 at *
        generalize ops1[j].b = bb1 at *
        generalize ops1[j].l = ll1 at *

        go_wp2_with fail
        refine (step_1 HP.out ki1 nn1 P1 R1 p1 r1 bb1 ll1 HCB1.out HCL1.out (by have := HS1.out; have := sumL_le ops1 (j + 1); omega) (by have := HA1.out; omega) hob1 HM1.out).mono ?_
        rintro e wa ⟨rfl, lu', la', hpp, hs1, ha1, hm1⟩
        have HPN := Aside0.mk hpp
        have HS1' := Aside0.mk (show lu'.length ≤ sumL (ops1.take (j + 1)) from by have := HS1.out; omega)
        have HA1' := Aside0.mk (show la'.length ≤ j + 1 from by have := HA1.out; omega)
        have HM1' := Aside0.mk hm1
        clear hpp hs1 ha1 hm1 x0 x1 x2 x3 hst1 HS1 HA1 HM1 HP HCB1 HCL1
        obtain ⟨ad2, P2, p2, R2, r2, hA2, hCB2, hCL2, hcc2⟩ := op_cells HR2.out j h2
        subst hA2
        have HCB2 := Aside0.mk hCB2
        have HCL2 := Aside0.mk hCL2
        obtain ⟨x0, x1, x2, x3⟩ := hcc2 wa HPN.out.bel
        have hst2 := sumL_take ops2 j h2
        have hob2 := HBB2.out _ (List.getElem_mem h2)
        clear hCB2 hCL2 hcc2
        generalize ops2[j].kind = ki2 at *
        generalize ops2[j].n = nn2 at *
        generalize ops2[j].b = bb2 at *
        generalize ops2[j].l = ll2 at *
        go_wp2_with fail
        refine (step_2 HPN.out ki2 nn2 P2 R2 p2 r2 bb2 ll2 HCB2.out HCL2.out (by have := HS2.out; have := sumL_le ops2 (j + 1); omega) (by have := HA2.out; omega) hob2 HM2.out).mono ?_
        rintro e wb ⟨rfl, lu2', la2', hpp, hs2, ha2, hm2⟩
        have HPM := Aside0.mk hpp
        have HS2' := Aside0.mk (show lu2'.length ≤ sumL (ops2.take (j + 1)) from by have := HS2.out; omega)
        have HA2' := Aside0.mk (show la2'.length ≤ j + 1 from by have := HA2.out; omega)
        have HM2' := Aside0.mk hm2
        clear hpp hs2 ha2 hm2 x0 x1 x2 x3 hst2 HS2 HA2 HM2 HPN HCB2 HCL2
        go_wp2_with fail
        go_roundw
        case rel => exact ⟨j + 1, lu', la', lu2', la2', by go_num, by omega, HPM, HS1', HA1', HM1', HS2', HA2', HM2'⟩
        case measure => simp [intOf]; omega

      · have hd1 : decide ((j : Int) < (ops1.length : Int)) = true := by rw [decide_eq_true_eq]; omega
        have hd2 : decide ((j : Int) < (ops2.length : Int)) = false := by rw [decide_eq_false_iff_not]; omega
        obtain ⟨ad1, P1, p1, R1, r1, hA1, hCB1, hCL1, hcc1⟩ := op_cells HR1.out j h1
        subst hA1
        have HCB1 := Aside0.mk hCB1
        have HCL1 := Aside0.mk hCL1
        obtain ⟨x0, x1, x2, x3⟩ := hcc1 wr HP.out.bel
        have hst1 := sumL_take ops1 j h1
        have hob1 := HBB1.out _ (List.getElem_mem h1)
        clear hCB1 hCL1 hcc1
        generalize ops1[j].kind = ki1 at *
        generalize ops1[j].n = nn1 at *
        generalize ops1[j].b = bb1 at *
        generalize ops1[j].l = ll1 at *

        go_wp2_with fail
        refine (step_1 HP.out ki1 nn1 P1 R1 p1 r1 bb1 ll1 HCB1.out HCL1.out (by have := HS1.out; have := sumL_le ops1 (j + 1); omega) (by have := HA1.out; omega) hob1 HM1.out).mono ?_
        rintro e wa ⟨rfl, lu', la', hpp, hs1, ha1, hm1⟩
        have HPN := Aside0.mk hpp
        have HS1' := Aside0.mk (show lu'.length ≤ sumL (ops1.take (j + 1)) from by have := HS1.out; omega)
        have HA1' := Aside0.mk (show la'.length ≤ j + 1 from by have := HA1.out; omega)
        have HM1' := Aside0.mk hm1
        clear hpp hs1 ha1 hm1 x0 x1 x2 x3 hst1 HS1 HA1 HM1 HP HCB1 HCL1
        go_wp2_with fail
        go_roundw
        case rel => exact ⟨j + 1, lu', la', lu2, la2, by go_num, by omega, HPN, HS1', HA1', HM1', ⟨by rw [List.take_of_length_le (by omega)]; have h := HS2.out; rwa [List.take_of_length_le (by omega)] at h⟩, ⟨Nat.le_succ_of_le HA2.out⟩, HM2⟩
        case measure => simp [intOf]; omega

    · by_cases h2 : j < ops2.length
      · have hd1 : decide ((j : Int) < (ops1.length : Int)) = false := by rw [decide_eq_false_iff_not]; omega
        have hd2 : decide ((j : Int) < (ops2.length : Int)) = true := by rw [decide_eq_true_eq]; omega
        obtain ⟨ad2, P2, p2, R2, r2, hA2, hCB2, hCL2, hcc2⟩ := op_cells HR2.out j h2
        subst hA2
        have HCB2 := Aside0.mk hCB2
        have HCL2 := Aside0.mk hCL2
        obtain ⟨x0, x1, x2, x3⟩ := hcc2 wr HP.out.bel
        have hst2 := sumL_take ops2 j h2
        have hob2 := HBB2.out _ (List.getElem_mem h2)
        clear hCB2 hCL2 hcc2
        generalize ops2[j].kind = ki2 at *
        generalize ops2[j].n = nn2 at *
        generalize ops2[j].b = bb2 at *
        generalize ops2[j].l = ll2 at *

        go_wp2_with fail
        refine (step_2 HP.out ki2 nn2 P2 R2 p2 r2 bb2 ll2 HCB2.out HCL2.out (by have := HS2.out; have := sumL_le ops2 (j + 1); omega) (by have := HA2.out; omega) hob2 HM2.out).mono ?_
        rintro e wa ⟨rfl, lu2', la2', hpp, hs2, ha2, hm2⟩
        have HPM := Aside0.mk hpp
        have HS2' := Aside0.mk (show lu2'.length ≤ sumL (ops2.take (j + 1)) from by have := HS2.out; omega)
        have HA2' := Aside0.mk (show la2'.length ≤ j + 1 from by have := HA2.out; omega)
        have HM2' := Aside0.mk hm2
        clear hpp hs2 ha2 hm2 x0 x1 x2 x3 hst2 HS2 HA2 HM2 HP HCB2 HCL2
        go_wp2_with fail
        go_roundw
        case rel => exact ⟨j + 1, lu, la, lu2', la2', by go_num, by omega, HPM, ⟨by rw [List.take_of_length_le (by omega)]; have h := HS1.out; rwa [List.take_of_length_le (by omega)] at h⟩, ⟨Nat.le_succ_of_le HA1.out⟩, HM1, HS2', HA2', HM2'⟩
        case measure => simp [intOf]; omega

      · have hd1 : decide ((j : Int) < (ops1.length : Int)) = false := by rw [decide_eq_false_iff_not]; omega
        have hd2 : decide ((j : Int) < (ops2.length : Int)) = false := by rw [decide_eq_false_iff_not]; omega

        go_wp2_with fail
        go_ret
        exact ⟨rfl, HP.out.bel⟩
end Go.Proofs.Ytckeahjlfopaaaa.Hand
