/- A config's check. -/
import Derived.Test.YtpcoelimabojcaaHC2
import Derived.Deep.CutRange
namespace Go.Proofs.Ytpcoelimabojcaa.Hand
open Go.RowKit Go.Proofs.Ytpcoelimabojcaa Go.Proofs.YtpcoelimabojcaaW.PrintWords Go.Proofs.YtpcoelimabojcaaW.PrintLast
set_option linter.unusedVariables false
set_option linter.unusedSimpArgs false
/-- Are the first i numbers nodes, each once (and ok0)? -/
def nodesAt (n : Int) (l : List Int) (ok0 : Bool) : Nat → Bool
  | 0 => ok0
  | i + 1 => nodesAt n l ok0 i && (decide (0 ≤ l.getD i 0) && (decide (l.getD i 0 < n) && !(decide (l.getD i 0 ∈ l.take i))))
/-- May a config be? -/
def cfgB (id : Int) (l : List Int) (n : Int) : Bool := nodesAt n l (decide (0 ≤ id) && (decide (id < 281474976710656) && (decide ((1 : Int) ≤ l.length) && decide ((l.length : Int) ≤ 9)))) l.length
theorem take_snoc (l : List Int) (i : Nat) (hi : i < l.length) : l.take i ++ [l.getD i 0] = l.take (i + 1) := by
  rw [List.getD_eq_getElem?_getD, List.getElem?_eq_getElem hi, Option.getD_some]
  simp
set_option maxHeartbeats 8000000 in
set_option maxRecDepth 100000 in
theorem cfg_c (id n : Int) (A : Option Addr) (c : Nat) (l : List Int) (W : World) (hr : Kd.C (Kd.int .i64) W A l.length l) :
    Calls Try.prog 51 #[.agg #[.int .i64 id, .slice A l.length c], .int .i64 n] W fun e W' => e = .returned (.int .i64 (if cfgB id l n then 0 else 1)) ∧ Below W.heap.size W W' := by
  have hmm := @run_makeMap Try.prog
  obtain ⟨ok0, hok⟩ : ∃ ok0, (decide (0 ≤ id) && (decide (id < 281474976710656) && (decide ((1 : Int) ≤ l.length) && decide ((l.length : Int) ≤ 9)))) = ok0 := ⟨_, rfl⟩
  have HOK := Aside0.mk hok
  have HC := Aside0.mk (show cfgB id l n = nodesAt n l ok0 l.length by rw [← hok]; rfl)
  rw [HC.out]
  clear hok
  have HR := Aside0.mk hr
  have hmax := Kd.C_max hr
  clear hr
  go_enter Try.func51, Try.ntmps51
  go_upto_region 1 with fail
  go_cut [5] from 9 to 28 (fun u5 wx => u5 = .bool ok0 ∧ wx = W.alloc (.cells #[.int .i64 id, .slice A l.length c] 41 (0, 0)))
  case first =>
    by_cases h1 : 0 ≤ id
    · by_cases h2 : id < 281474976710656
      · by_cases h3 : (1 : Int) ≤ l.length
        · have h3' : 1 ≤ l.length := by omega
          go_wp2_with fail
          go_meet
          exact ⟨by rw [← HOK.out]; first | (simp [h1, h2, h3']; done) | (simp [h1, h2, h3']; omega), rfl⟩
        · have h3' : ¬ 1 ≤ l.length := by omega
          go_wp2_with fail
          go_meet
          exact ⟨by rw [← HOK.out]; first | (simp [h1, h2, h3']; done) | (simp [h1, h2, h3']; omega), rfl⟩
      · go_wp2_with fail
        go_meet
        exact ⟨by rw [← HOK.out]; first | (simp [h1, h2]; done) | (simp [h1, h2]; omega), rfl⟩
    · go_wp2_with fail
      go_meet
      exact ⟨by rw [← HOK.out]; first | (simp [h1]; done) | (simp [h1]; omega), rfl⟩
  case rest =>
    obtain ⟨rfl, rfl⟩ := hcut
    have hM0 := MapOf.made (W.alloc (.cells #[.int .i64 id, .slice A l.length c] 41 (0, 0)))
    have hsz : (W.alloc (.cells #[.int .i64 id, .slice A l.length c] 41 (0, 0))).heap.size = W.heap.size + 1 := Array.size_push _
    rw [hsz] at hM0
    have HM0 := Aside0.mk hM0
    have HB0 := Aside0.mk (below_alloc (below_alloc (Below.refl W.heap.size W) (.cells #[.int .i64 id, .slice A l.length c] 41 (0, 0))) (.map #[] 0))
    clear hM0 hsz
    go_wp2_with fail
    go_loopw [5, 33] (fun u5 u33 wr => ∃ i : Nat, i ≤ l.length ∧ u33 = .int .i64 i ∧ u5 = .bool (nodesAt n l ok0 i) ∧ Aside0 (MapOf wr (W.heap.size + 1) (l.take i)) ∧ Aside0 (Below W.heap.size W wr)) (fun u5 u33 wr => l.length - (intOf u33).toNat)
    case atStart => exact ⟨0, by omega, rfl, rfl, HM0, HB0⟩
    case round =>
      obtain ⟨i, hi, rfl, rfl, HM, HB⟩ := hrel
      clear HM0 HB0
      by_cases hi1 : i < l.length
      · have hd : decide ((i : Int) < (l.length : Int)) = true := by rw [decide_eq_true_eq]; omega
        obtain ⟨ad, hA, x0⟩ := Kd.at_int (Kd.C_below HR.out HB.out) (i : Int) (by omega) (by omega)
        subst hA
        rw [Int.toNat_natCast] at x0
        have hv : rd l (i : Int) = l.getD i 0 := by simp [rd]
        rw [hv] at x0
        obtain ⟨xv, hxv⟩ : ∃ xv, l.getD i 0 = xv := ⟨_, rfl⟩
        rw [hxv] at x0
        have HV := Aside0.mk hxv
        have hlook := HM.out.look xv
        obtain ⟨W2, hput, hm2, hg2⟩ := HM.out.put xv
        have HM2 := Aside0.mk (show MapOf W2 (W.heap.size + 1) (l.take (i + 1)) from by rw [← take_snoc l i hi1, hxv]; exact hm2)
        have HB2 := Aside0.mk (show Below W.heap.size W W2 from HB.out.trans ⟨hg2.os, hg2.tape, hg2.output, hg2.size, fun k hk => hg2.block k (Nat.lt_of_lt_of_le hk HB.out.size) (by simp; omega)⟩)
        clear hv hxv hm2 hg2
        have hstep : nodesAt n l ok0 (i + 1) = (nodesAt n l ok0 i && (decide (0 ≤ xv) && (decide (xv < n) && !(decide (xv ∈ l.take i))))) := by rw [nodesAt, HV.out]
        have HST := Aside0.mk hstep
        clear hstep
        obtain ⟨mb, hmb⟩ : ∃ mb, decide (xv ∈ l.take i) = mb := ⟨_, rfl⟩
        rw [hmb] at hlook
        have HMB := Aside0.mk hmb
        clear hmb
        generalize hb : nodesAt n l ok0 i = bb
        have HBB := Aside0.mk hb
        clear hb
        rcases bb with _ | _
        · go_wp2_with fail
          go_roundw
          case rel => exact ⟨i + 1, by omega, by go_num, by rw [HST.out, HBB.out]; rfl, HM2, HB2⟩
          case measure => simp [intOf]; omega
        · by_cases g0 : 0 ≤ xv
          · by_cases g1 : xv < n
            · go_wp2_with fail
              go_roundw
              case rel => exact ⟨i + 1, by omega, by go_num, by rw [HST.out, HBB.out, HMB.out]; simp [g0, g1], HM2, HB2⟩
              case measure => simp [intOf]; omega
            · go_wp2_with fail
              go_roundw
              case rel => exact ⟨i + 1, by omega, by go_num, by rw [HST.out, HBB.out, HMB.out]; first | (simp [g0, g1]; done) | (simp [g0, g1]; omega), HM2, HB2⟩
              case measure => simp [intOf]; omega
          · go_wp2_with fail
            go_roundw
            case rel => exact ⟨i + 1, by omega, by go_num, by rw [HST.out, HBB.out, HMB.out]; first | (simp [g0]; done) | (simp [g0]; omega), HM2, HB2⟩
            case measure => simp [intOf]; omega
      · have hd : decide ((i : Int) < (l.length : Int)) = false := by rw [decide_eq_false_iff_not]; omega
        obtain rfl : i = l.length := by omega
        clear HC HOK HM
        cases hb : nodesAt n l ok0 l.length
        · go_wp2_with fail
          all_goals (go_ret; first | exact ⟨rfl, HB.out⟩ | (exfalso; simp_all))
        · go_wp2_with fail
          all_goals (go_ret; first | exact ⟨rfl, HB.out⟩ | (exfalso; simp_all))
end Go.Proofs.Ytpcoelimabojcaa.Hand
