/- End, num, and the document's Find. -/
import Derived.Test.YtpcoelimabojcaaHC4
namespace Go.Proofs.Ytpcoelimabojcaa.Hand
open Go.RowKit Go.Proofs.Ytpcoelimabojcaa Go.Proofs.YtpcoelimabojcaaW.PrintWords Go.Proofs.YtpcoelimabojcaaW.PrintLast
set_option linter.unusedVariables false
set_option linter.unusedSimpArgs false
theorem num_c (x : Int) (W : World) : Calls Try.prog 17 #[.int .i64 x] W fun e W' => e = .returned (.int .i64 x) ∧ W = W' := by
  go_enter Try.func17, Try.ntmps17
  go_wp2_with fail
  go_ret
  exact ⟨rfl, rfl⟩
/-- Where a part ends. -/
def endF (ps : List PartV) (k : Int) : Int := if k < 0 ∨ (ps.length : Int) - 1 ≤ k then -1 else (ps.getD (k.toNat + 1) part0).first
/-- Where an address is, among the first parts. -/
def findDown (ps : List PartV) (addr : Int) : Nat → Int × Int × Bool
  | 0 => (0, 0, false)
  | k + 1 => if (ps.getD k part0).first ≤ addr then (if wrap64 (addr - (ps.getD k part0).first) < 0 ∨ 4096 ≤ wrap64 (addr - (ps.getD k part0).first) then (0, 0, false) else ((k : Int), wrap64 (addr - (ps.getD k part0).first), true)) else findDown ps addr k
def findF (tr : Int) (ps : List PartV) (addr : Int) : Int × Int × Bool := if addr < 0 ∨ addr < tr then (0, 0, false) else findDown ps addr ps.length
set_option maxHeartbeats 1600000 in
set_option maxRecDepth 100000 in
theorem end_c (ow tr k : Int) (A : Option Addr) (c : Nat) (ps : List PartV) (W : World) (hr : Kd.C k53 W A ps.length ps) :
    Calls Try.prog 13 #[.agg #[.int .i64 ow, .int .i64 tr, .slice A ps.length c], .int .i64 k] W fun e W' => e = .returned (.int .i64 (endF ps k)) ∧ Below W.heap.size W W' := by
  have hmax := Kd.C_max hr
  by_cases h0 : k < 0
  · rw [endF, if_pos (.inl h0)]
    clear hr
    go_enter Try.func13, Try.ntmps13
    go_wp2_with fail
    go_ret
    exact ⟨rfl, below_alloc (Below.refl _ _) _⟩
  · by_cases h1 : (ps.length : Int) - 1 ≤ k
    · rw [endF, if_pos (.inr h1)]
      clear hr
      have hd : decide ((ps.length : Int) - 1 ≤ k) = true := decide_eq_true h1
      go_enter Try.func13, Try.ntmps13
      go_wp2_with fail
      go_ret
      exact ⟨rfl, below_alloc (Below.refl _ _) _⟩
    · obtain ⟨j, rfl⟩ : ∃ j : Nat, k = j := ⟨k.toNat, by omega⟩
      have hj : j + 1 < ps.length := by omega
      have hg : (ps.getD (j + 1) part0) = ps[j + 1] := by rw [List.getD_eq_getElem?_getD, List.getElem?_eq_getElem hj]; rfl
      rw [endF, if_neg (by omega), Int.toNat_natCast, hg]
      have hd : decide ((ps.length : Int) - 1 ≤ (j : Int)) = false := decide_eq_false h1
      obtain ⟨ad, A1, c1, rfl, _, _, hcc⟩ := part_cells hr (j + 1) hj
      obtain ⟨x0, -, -⟩ := hcc (W.alloc (.cells #[.int .i64 ow, .int .i64 tr, .slice (some ad) ps.length c] 27 (0, 0))) (below_alloc (Below.refl _ _) _)
      have hw : wrap64 ((j : Int) + 1) = (j : Int) + 1 := by unfold wrap64; omega
      have hjj : (j : Int) + 1 < (ps.length : Int) := by omega
      have htn : ((j : Int) + 1).toNat = j + 1 := by omega
      generalize ps[j + 1].first = f at x0 ⊢
      clear hcc hr hg
      go_enter Try.func13, Try.ntmps13
      go_wp2_with fail
      go_ret
      exact ⟨rfl, below_alloc (Below.refl _ _) _⟩
set_option maxHeartbeats 1600000 in
set_option maxRecDepth 100000 in
theorem refEnd_c (ow tr k : Int) (A : Option Addr) (c : Nat) (ps : List PartV) (W : World) (hr : Kd.C k53 W A ps.length ps) :
    Calls Try.prog 14 #[.agg #[.int .i64 ow, .int .i64 tr, .slice A ps.length c], .int .i64 k] W fun e W' => e = .returned (.int .i64 (endF ps k)) ∧ Below W.heap.size W W' := by
  have hmax := Kd.C_max hr
  by_cases h0 : k < 0
  · rw [endF, if_pos (.inl h0)]
    clear hr
    go_enter Try.func14, Try.ntmps14
    go_wp2_with fail
    go_ret
    exact ⟨rfl, below_alloc (Below.refl _ _) _⟩
  · by_cases h1 : (ps.length : Int) - 1 ≤ k
    · rw [endF, if_pos (.inr h1)]
      clear hr
      have hd : decide ((ps.length : Int) - 1 ≤ k) = true := decide_eq_true h1
      go_enter Try.func14, Try.ntmps14
      go_wp2_with fail
      go_ret
      exact ⟨rfl, below_alloc (Below.refl _ _) _⟩
    · obtain ⟨j, rfl⟩ : ∃ j : Nat, k = j := ⟨k.toNat, by omega⟩
      have hj : j + 1 < ps.length := by omega
      have hg : (ps.getD (j + 1) part0) = ps[j + 1] := by rw [List.getD_eq_getElem?_getD, List.getElem?_eq_getElem hj]; rfl
      rw [endF, if_neg (by omega), Int.toNat_natCast, hg]
      have hd : decide ((ps.length : Int) - 1 ≤ (j : Int)) = false := decide_eq_false h1
      obtain ⟨ad, A1, c1, rfl, _, _, hcc⟩ := part_cells hr (j + 1) hj
      obtain ⟨x0, -, -⟩ := hcc (W.alloc (.cells #[.int .i64 ow, .int .i64 tr, .slice (some ad) ps.length c] 24 (0, 0))) (below_alloc (Below.refl _ _) _)
      have hw : wrap64 ((j : Int) + 1) = (j : Int) + 1 := by unfold wrap64; omega
      have hjj : (j : Int) + 1 < (ps.length : Int) := by omega
      have htn : ((j : Int) + 1).toNat = j + 1 := by omega
      generalize ps[j + 1].first = f at x0 ⊢
      clear hcc hr hg
      go_enter Try.func14, Try.ntmps14
      go_wp2_with fail
      go_ret
      exact ⟨rfl, below_alloc (Below.refl _ _) _⟩
set_option maxHeartbeats 3200000 in
set_option maxRecDepth 100000 in
theorem refFind_c (ow tr addr : Int) (A : Option Addr) (c : Nat) (ps : List PartV) (W : World) (hr : Kd.C k53 W A ps.length ps) :
    Calls Try.prog 12 #[.agg #[.int .i64 ow, .int .i64 tr, .slice A ps.length c], .int .i64 addr] W fun e W' => e = .returned (.tuple #[.int .i64 (findF tr ps addr).1, .int .i64 (findF tr ps addr).2.1, .bool (findF tr ps addr).2.2]) ∧ Below W.heap.size W W' := by
  have hmax := Kd.C_max hr
  have HR := Aside0.mk hr
  clear hr
  by_cases h0 : addr < 0
  · rw [findF, if_pos (.inl h0)]
    go_enter Try.func12, Try.ntmps12
    go_wp2_with fail
    exact bodyPost_ret (v := .tuple #[.int .i64 0, .int .i64 0, .bool false]) (by simp [results, Try.results12, go_sem]) rfl ⟨rfl, below_alloc (Below.refl _ _) _⟩
  by_cases h1 : addr < tr
  · rw [findF, if_pos (.inr h1)]
    go_enter Try.func12, Try.ntmps12
    go_wp2_with fail
    exact bodyPost_ret (v := .tuple #[.int .i64 0, .int .i64 0, .bool false]) (by simp [results, Try.results12, go_sem]) rfl ⟨rfl, below_alloc (Below.refl _ _) _⟩
  have h01 : ¬ (addr < 0 ∨ addr < tr) := by omega
  rw [findF, if_neg h01]
  obtain ⟨F, hF⟩ : ∃ F, findDown ps addr ps.length = F := ⟨_, rfl⟩
  rw [hF]
  have HF := Aside0.mk hF
  clear hF h01
  go_enter Try.func12, Try.ntmps12
  go_wp2_with fail
  have HB0 := Aside0.mk (below_alloc (Below.refl W.heap.size W) (.cells #[.int .i64 ow, .int .i64 tr, .slice A ps.length c] 24 (0, 0)))
  have HX0 := Aside0.mk (heap_alloc_new W (.cells #[.int .i64 ow, .int .i64 tr, .slice A ps.length c] 24 (0, 0)))
  go_loopw [7] (fun u7 wr => ∃ k : Nat, k ≤ ps.length ∧ u7 = .int .i64 ((k : Int) - 1) ∧ Aside0 (findDown ps addr k = F) ∧ Aside0 (Below W.heap.size W wr) ∧ Aside0 (wr.heap[W.heap.size]? = some (.cells #[.int .i64 ow, .int .i64 tr, .slice A ps.length c] 24 (0, 0)))) (fun u7 wr => (intOf u7 + 1).toNat)
  case atStart => exact ⟨ps.length, Nat.le_refl _, by go_num, HF, HB0, HX0⟩
  case round =>
    obtain ⟨k, hk, rfl, HFk, HB, HX⟩ := hrel
    clear HB0 HX0 HF
    rcases k with _ | k
    · have hz : ((0 : Nat) : Int) - 1 = -1 := rfl
      have hFz := HFk.out
      rw [findDown] at hFz
      have HZ := Aside0.mk hFz
      clear hFz HFk
      go_wp2_with fail
      exact bodyPost_ret (v := .tuple #[.int .i64 0, .int .i64 0, .bool false]) (by simp [results, Try.results12, go_sem]) rfl ⟨by rw [← HZ.out], HB.out⟩
    · have hkk : ((k + 1 : Nat) : Int) - 1 = (k : Int) := by omega
      rw [hkk]
      have hd0 : decide ((0 : Int) ≤ (k : Int)) = true := by rw [decide_eq_true_eq]; omega
      obtain ⟨ad, A1, c1, hA, _, _, hcc⟩ := part_cells HR.out k (by omega)
      subst hA
      obtain ⟨x0, -, -⟩ := hcc wr HB.out
      have hg : (ps.getD k part0) = ps[k] := by rw [List.getD_eq_getElem?_getD, List.getElem?_eq_getElem (by omega)]; rfl
      have hFz := HFk.out
      rw [findDown, hg] at hFz
      have bx : wr.cell? ⟨W.heap.size, 2, none⟩ = some (.slice (some ad) ps.length c) := (blk_cell HX.out 2).trans rfl
      have hjj : (k : Int) < (ps.length : Int) := by omega
      have hjj2 : k < ps.length := by omega
      clear hcc hg hkk
      generalize ps[k].first = f at x0 hFz
      by_cases q0 : f ≤ addr
      · rw [if_pos q0] at hFz
        by_cases q1 : wrap64 (addr - f) < 0
        · rw [if_pos (.inl q1)] at hFz
          have HZ := Aside0.mk hFz
          clear hFz HFk
          go_wp2_with fail
          exact bodyPost_ret (v := .tuple #[.int .i64 0, .int .i64 0, .bool false]) (by simp [results, Try.results12, go_sem]) rfl ⟨by rw [← HZ.out], HB.out⟩
        · by_cases q2 : 4096 ≤ wrap64 (addr - f)
          · rw [if_pos (.inr q2)] at hFz
            have HZ := Aside0.mk hFz
            clear hFz HFk
            go_wp2_with fail
            exact bodyPost_ret (v := .tuple #[.int .i64 0, .int .i64 0, .bool false]) (by simp [results, Try.results12, go_sem]) rfl ⟨by rw [← HZ.out], HB.out⟩
          · rw [if_neg (by omega)] at hFz
            have HZ := Aside0.mk hFz
            clear hFz HFk
            go_wp2_with fail
            exact bodyPost_ret (v := .tuple #[.int .i64 k, .int .i64 (wrap64 (addr - f)), .bool true]) (by simp [results, Try.results12, go_sem]) rfl ⟨by rw [← HZ.out], HB.out⟩
      · rw [if_neg q0] at hFz
        have HFn := Aside0.mk hFz
        clear hFz HFk
        go_wp2_with fail
        go_roundw
        case rel => exact ⟨k, by omega, by go_num, HFn, HB, HX⟩
        case measure => first | (simp [intOf]; done) | (simp [intOf]; omega)
end Go.Proofs.Ytpcoelimabojcaa.Hand
