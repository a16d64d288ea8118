/- Find: a range over slices.Backward. -/
import Derived.Test.YtpcoelimabojcaaHC12
import Derived.RangeFuncNested
import Derived.RangeFuncBound
import Derived.RangeFuncCalls
import Derived.RangeFuncLeaves
import Derived.Shelf.Abstract
import Derived.Shelf.RegionOpen
import Derived.OwnWalkIn
import Derived.TacticsInMore
import Derived.LoopNIn
import Derived.LoopIn
namespace Go.Proofs.Ytpcoelimabojcaa.Hand
open Go.RowKit Go.Shelf Go.Proofs.Ytpcoelimabojcaa Go.Proofs.YtpcoelimabojcaaW.PrintWords Go.Proofs.YtpcoelimabojcaaW.PrintLast
set_option linter.unusedVariables false
set_option linter.unusedSimpArgs false
attribute [local go_sem] Oper.semAt_some
/-- What has come when k rounds are over. -/
def upto {α : Type} (f : Nat → α) (k : Nat) : List α := (List.range k).map f
theorem upto_succ {α : Type} (f : Nat → α) (k : Nat) : upto f (k + 1) = upto f k ++ [f k] := by simp [upto, List.range_succ]
theorem upto_length {α : Type} (f : Nat → α) (k : Nat) : (upto f k).length = k := by simp [upto]
/-- A part, handed by value. -/
def partV (p : PartV) (A : Option Addr) (c : Nat) : Value := .agg #[.int .i64 p.first, .int .i64 p.id, .slice A p.nodes.length c]
/-- The parts' cells, in every world behind. -/
def PartsAt (n₀ : Nat) (W : World) (A : Option Addr) (ps : List PartV) (As : Nat → Option Addr) (cs : Nat → Nat) : Prop :=
  ∀ j (hj : j < ps.length), ∃ ad, A = some ad ∧ ∀ W1, Below n₀ W W1 → W1.cell? (ad.add (j * 3)) = some (.int .i64 ps[j].first) ∧ W1.cell? ⟨(ad.add (j * 3)).block, (ad.add (j * 3)).off + 1, none⟩ = some (.int .i64 ps[j].id) ∧ W1.cell? ⟨(ad.add (j * 3)).block, (ad.add (j * 3)).off + 2, none⟩ = some (.slice (As j) ps[j].nodes.length (cs j))
open Classical in
theorem partsAt {w : World} {A : Option Addr} {ps : List PartV} (h : Kd.C k53 w A ps.length ps) : ∃ As cs, PartsAt w.heap.size w A ps As cs := by
  refine ⟨fun j => if hj : j < ps.length then (part_cells h j hj).choose_spec.choose else none, fun j => if hj : j < ps.length then (part_cells h j hj).choose_spec.choose_spec.choose else 0, fun j hj => ?_⟩
  simp only [dif_pos hj]
  have g := (part_cells h j hj).choose_spec.choose_spec.choose_spec
  exact ⟨_, g.1, fun W1 hb => g.2.2.2 W1 hb⟩
theorem PartsAt.below {n₀ : Nat} {W W' : World} {A : Option Addr} {ps : List PartV} {As : Nat → Option Addr} {cs : Nat → Nat} (h : PartsAt n₀ W A ps As cs) (hb : Below n₀ W W') : PartsAt n₀ W' A ps As cs := fun j hj => by
  obtain ⟨ad, h1, h2⟩ := h j hj
  exact ⟨ad, h1, fun W1 hb1 => h2 W1 (hb.trans hb1)⟩
set_option maxRecDepth 100000 in
set_option maxHeartbeats 2000000 in
theorem backward1_in (F : Fence) (n : Nat) (h58 : F.fn 58) (hro : F.round = none) (hn : 1 ≤ n) (l Bs n₀ cap : Nat) (A : Option Addr) (ps : List PartV) (As : Nat → Option Addr) (cs : Nat → Nat) (J Jx : List Nat → World → Prop)
    (hY : ∀ (pre : List Nat) (x : Nat) (W : World), J pre W → pre.length < ps.length → YieldAt F (n - 1) Try.prog l #[.int .i64 (x : Int), partV (ps.getD x part0) (As x) (cs x)] W fun e W' =>
      (e = .returned (.bool true) ∧ J (pre ++ [x]) W' ∧ Below n₀ W W') ∨ (e = .returned (.bool false) ∧ Jx (pre ++ [x]) W'))
    (W : World) (hmax : ps.length ≤ 9223372036854775807) (hBs : ∀ W1, Below n₀ W W1 → W1.cell? ⟨Bs, 0, none⟩ = some (.slice A ps.length cap)) (hc : PartsAt n₀ W A ps As cs) (h0 : J [] W) :
    CallsIn F n Try.prog 58 #[.func (.yield l) #[] #[], .pointer (some ⟨Bs, 0, none⟩)] W fun e W' => (∃ v, e = .returned v) ∧
      ((∃ ys, ys = upto (fun j => ps.length - 1 - j) ps.length ∧ J ys W') ∨ (∃ pre, (∃ k, k ≤ ps.length ∧ pre = upto (fun j => ps.length - 1 - j) k) ∧ Jx pre W')) := by
  refine callsIn_of_wp Try.func58 rfl h58 ?_ hro
  simp only [Try.ntmps58, List.size_toArray, List.length_cons, List.length_nil, Nat.reduceAdd, Nat.reduceSub, Array.replicate_succ, Array.replicate_zero, List.push_toArray, List.append_toArray, List.nil_append, List.cons_append]
  have x0 := hBs W (Below.refl _ _)
  gi_wp2
  gi_loopw [3] (fun i wr => ∃ k : Nat, k ≤ ps.length ∧ i = .int .i64 ((k : Int) - 1) ∧ J (upto (fun j => ps.length - 1 - j) (ps.length - k)) wr ∧ Below n₀ W wr)
    (fun i _ => (intOf i + 1).toNat)
  case atStart => exact ⟨ps.length, Nat.le_refl _, by go_num, by rw [Nat.sub_self]; exact h0, Below.refl _ _⟩
  case round =>
    obtain ⟨k, hk, rfl, hJs, hnx⟩ := hrel
    clear x0
    rcases k with _ | k
    · have hz : ((0 : Nat) : Int) - 1 = -1 := rfl
      gi_wp2
      go_end0
      exact ⟨⟨_, rfl⟩, .inl ⟨_, rfl, hJs⟩⟩
    · have hkk : ((k + 1 : Nat) : Int) - 1 = (k : Int) := by omega
      rw [hkk]
      clear hkk
      have hf : upto (fun j => ps.length - 1 - j) (ps.length - k) = upto (fun j => ps.length - 1 - j) (ps.length - (k + 1)) ++ [k] := by
        rw [show ps.length - k = (ps.length - (k + 1)) + 1 by omega, upto_succ, show ps.length - 1 - (ps.length - (k + 1)) = k by omega]
      have HF := Aside0.mk hf
      clear hf
      obtain ⟨fn, tmps, assign, body, hy, hR⟩ := hY _ k wr hJs (by rw [upto_length]; omega)
      obtain ⟨ad, rfl, hcc⟩ := hc k (by omega)
      obtain ⟨y0, y1, y2⟩ := hcc wr hnx
      have hg : (ps.getD k part0) = ps[k] := by rw [List.getD_eq_getElem?_getD, List.getElem?_eq_getElem (by omega)]; rfl
      rw [hg] at hy
      simp only [partV] at hy
      have xs := hBs wr hnx
      have hjj : (k : Int) < (ps.length : Int) := by omega
      clear hcc hg
      gi_wp2
      refine hR.mono ?_
      rintro e W3 (⟨rfl, hJ3, hk3⟩ | ⟨rfl, hJx3⟩)
      · rw [← HF.out] at hJ3
        gi_wp2
        go_roundw
        case rel => exact ⟨k, by omega, by go_num, hJ3, hnx.trans hk3⟩
        case measure => simp [intOf]
      · rw [← HF.out] at hJx3
        gi_wp2
        refine bodyPost_ret (results_none rfl _ _ _) rfl ?_
        exact ⟨⟨_, rfl⟩, .inr ⟨_, ⟨ps.length - k, by omega, rfl⟩, hJx3⟩⟩
theorem backward_stops (F : Fence) (n : Nat) (h58 : F.fn 58) (hro : F.round = none) (hn : 1 ≤ n) (Bs n₀ cap : Nat) (A : Option Addr) (ps : List PartV) (As : Nat → Option Addr) (cs : Nat → Nat) (w : World) (hmax : ps.length ≤ 9223372036854775807) (hBs : w.cell? ⟨Bs, 0, none⟩ = some (.slice A ps.length cap)) (hBl : Bs < n₀) (hn₀ : n₀ ≤ w.heap.size) (hc : PartsAt n₀ w A ps As cs) :
    SeqStopsK F n Try.prog 58 #[.pointer (some ⟨Bs, 0, none⟩)] (fun x : Nat => #[.int .i64 (x : Int), partV (ps.getD x part0) (As x) (cs x)]) (Below n₀) (fun ys => ys = upto (fun j => ps.length - 1 - j) ps.length)
      (fun pre => ∃ k, k ≤ ps.length ∧ pre = upto (fun j => ps.length - 1 - j) k) ps.length w := fun l J Jx W hW _ _ hY h0 =>
  backward1_in F n h58 hro hn l Bs n₀ cap A ps As cs J Jx hY W hmax (fun W1 h => (((hW.mono hn₀).trans h).cell (p := ⟨Bs, 0, none⟩) hBl).trans hBs) (hc.below (hW.mono hn₀)) h0
set_option maxRecDepth 100000 in
set_option maxHeartbeats 2000000 in
/-- slices.Backward: the slice's value is boxed; the function value captures the box. -/
theorem backward_in (F : Fence) (n : Nat) (h49 : F.fn 49) (hro : F.round = none) (a : Option Addr) (len cap : Nat) (w : World) :
    CallsIn F n Try.prog 49 #[.slice a len cap] w fun e w' => e = .returned (.func (.func 58) #[] #[.pointer (some ⟨w.heap.size, 0, none⟩)]) ∧ w' = w.alloc (.cells #[.slice a len cap] 25 (0, 0)) := by
  refine callsIn_of_wp Try.func49 rfl h49 ?_ hro
  simp only [Try.ntmps49, List.size_toArray, List.length_cons, List.length_nil, Nat.reduceAdd, Nat.reduceSub, Array.replicate_succ, Array.replicate_zero, List.push_toArray, List.append_toArray, List.nil_append, List.cons_append]
  gi_wp2
  go_ret
  exact ⟨rfl, rfl⟩
set_option maxRecDepth 100000 in
set_option maxHeartbeats 2000000 in
/-- back. -/
theorem back_in (F : Fence) (n : Nat) (h32 : F.fn 32) (h49 : F.fn 49) (hro : F.round = none) (hn : 1 ≤ n) (ow tr : Int) (a : Option Addr) (len cap : Nat) (w : World) :
    CallsIn F n Try.prog 32 #[.agg #[.int .i64 ow, .int .i64 tr, .slice a len cap]] w fun e w' => e = .returned (.func (.func 58) #[] #[.pointer (some ⟨w.heap.size + 1, 0, none⟩)]) ∧ w' = (w.alloc (.cells #[.int .i64 ow, .int .i64 tr, .slice a len cap] 27 (0, 0))).alloc (.cells #[.slice a len cap] 25 (0, 0)) := by
  refine callsIn_of_wp Try.func32 rfl h32 ?_ hro
  simp only [Try.ntmps32, List.size_toArray, List.length_cons, List.length_nil, Nat.reduceAdd, Nat.reduceSub, Array.replicate_succ, Array.replicate_zero, List.push_toArray, List.append_toArray, List.nil_append, List.cons_append]
  gi_wp2_with (gi_at_call 49; refine (backward_in F (n - 1) h49 hro _ _ _ _).mono ?_; rintro e w' ⟨rfl, rfl⟩)
  go_ret
  exact ⟨rfl, rfl⟩
theorem findDown_none (ps : List PartV) (addr : Int) : ∀ n, (∀ j, j < n → addr < (ps.getD j part0).first) → findDown ps addr n = (0, 0, false)
  | 0, _ => rfl
  | n + 1, h => by rw [findDown, if_neg (by have := h n (Nat.lt_succ_self n); omega)]; exact findDown_none ps addr n (fun j hj => h j (by omega))
theorem findDown_at (ps : List PartV) (addr : Int) (m : Nat) (hm : (ps.getD m part0).first ≤ addr) : ∀ n, m < n → (∀ j, m < j → j < n → addr < (ps.getD j part0).first) →
    findDown ps addr n = if wrap64 (addr - (ps.getD m part0).first) < 0 ∨ 4096 ≤ wrap64 (addr - (ps.getD m part0).first) then (0, 0, false) else ((m : Int), wrap64 (addr - (ps.getD m part0).first), true)
  | 0, hn, _ => by omega
  | n + 1, hn, h => by
    rcases Nat.lt_or_ge m n with h1 | h1
    · rw [findDown, if_neg (by have := h n h1 (Nat.lt_succ_self n); omega)]
      exact findDown_at ps addr m hm n h1 (fun j h2 h3 => h j h2 (by omega))
    · obtain rfl : m = n := by omega
      rw [findDown, if_pos hm]
theorem mem_upto {n k j : Nat} (hk : k ≤ n) (h1 : n - k ≤ j) (h2 : j < n) : j ∈ upto (fun i => n - 1 - i) k := by
  simp only [upto, List.mem_map, List.mem_range]
  exact ⟨n - 1 - j, by omega, by omega⟩
/-- How a round of Find is left. -/
def FindX (w : World) (ps : List PartV) (addr : Int) (c : Code) (pre : List Nat) (W : World) : Prop :=
  (∃ ini last, pre = ini ++ [last] ∧ (∀ p ∈ ini, addr < (ps.getD p part0).first) ∧ (ps.getD last part0).first ≤ addr ∧
    ((c = .ret ∧ ¬ (wrap64 (addr - (ps.getD last part0).first) < 0 ∨ 4096 ≤ wrap64 (addr - (ps.getD last part0).first)) ∧ Boxed W (w.heap.size + 1 + 1) 3 (.int .i64 (last : Int)) ∧ Boxed W (w.heap.size + 1 + 1 + 1) 3 (.int .i64 (wrap64 (addr - (ps.getD last part0).first))) ∧ Boxed W (w.heap.size + 1 + 1 + 1 + 1) 4 (.bool true)) ∨
     (c = .exit 0 ∧ (wrap64 (addr - (ps.getD last part0).first) < 0 ∨ 4096 ≤ wrap64 (addr - (ps.getD last part0).first)) ∧ Boxed W (w.heap.size + 1 + 1) 3 (.int .i64 0) ∧ Boxed W (w.heap.size + 1 + 1 + 1) 3 (.int .i64 0) ∧ Boxed W (w.heap.size + 1 + 1 + 1 + 1) 4 (.bool false)))) ∧ Below w.heap.size w W
theorem door11 {F : Fence} {n : Nat} {w W : World} {D : Nat} {t : Array Value} {v0 v1 : Int} {v2 : Bool} {Q : Int × Int × Bool} (bP : Boxed W (w.heap.size + 1 + 1) 3 (.int .i64 v0)) (bQ : Boxed W (w.heap.size + 1 + 1 + 1) 3 (.int .i64 v1)) (bO : Boxed W (w.heap.size + 1 + 1 + 1 + 1) 4 (.bool v2)) (hK : W.heap[D]? = some (.deferred (some [])))
    (t4 : t.getD 4 undef = .pointer (some ⟨w.heap.size + 1 + 1, 0, none⟩)) (t5 : t.getD 5 undef = .pointer (some ⟨w.heap.size + 1 + 1 + 1, 0, none⟩)) (t6 : t.getD 6 undef = .pointer (some ⟨w.heap.size + 1 + 1 + 1 + 1, 0, none⟩)) (hB : Below w.heap.size w W) (hD : w.heap.size ≤ D) (hv : Q = (v0, v1, v2)) :
    bodyPostM F n Try.prog Try.f11 (fun e W' => e = .returned (.tuple #[.int .i64 Q.1, .int .i64 Q.2.1, .bool Q.2.2]) ∧ Below w.heap.size w W') Exit.ret { tmps := t, defers := [{ target := Target.collected D, args := #[] }] } W := by
  subst hv
  refine ⟨by simp, .inl ⟨_, _, rfl, run_takeDeferred hK, ?_⟩⟩
  have c0 := cell_kept bP.cell (grownBy_putObj' _ D (.deferred none)) (fun r e => by cases e; exact ⟨_, hK, rfl⟩)
  have c1 := cell_kept bQ.cell (grownBy_putObj' _ D (.deferred none)) (fun r e => by cases e; exact ⟨_, hK, rfl⟩)
  have c2 := cell_kept bO.cell (grownBy_putObj' _ D (.deferred none)) (fun r e => by cases e; exact ⟨_, hK, rfl⟩)
  rw [Array.getD_eq_getD_getElem?] at t4 t5 t6
  refine ⟨.tuple #[.int .i64 v0, .int .i64 v1, .bool v2], ?_, rfl, hB.trans (belowK_b (w := w) (Nat.le_refl _) W D _ _ hD hK rfl rfl)⟩
  simp [results, Try.results11, Try.f11, go_sem, t4, t5, t6, c0, c1, c2]
set_option maxRecDepth 100000 in
set_option maxHeartbeats 4000000 in
theorem find_in (F : Fence) (n : Nat) (h11 : F.fn 11) (h32 : F.fn 32) (h49 : F.fn 49) (h58 : F.fn 58) (hro : F.round = none) (hn : 6 ≤ n) (ow tr addr : Int) (A : Option Addr) (c : Nat) (ps : List PartV) (w : World) (hr : Kd.C k53 w A ps.length ps) :
    CallsIn F n Try.prog 11 #[.agg #[.int .i64 ow, .int .i64 tr, .slice A ps.length c], .int .i64 addr] w fun e W' => e = .returned (.tuple #[.int .i64 (findF tr ps addr).1, .int .i64 (findF tr ps addr).2.1, .bool (findF tr ps addr).2.2]) ∧ Below w.heap.size w W' := by
  have h1 : 1 ≤ n := by omega
  have hmax := Kd.C_max hr
  obtain ⟨As, cs, hP⟩ := partsAt hr
  have HR := Aside0.mk hr
  clear hr
  by_cases h0 : addr < max tr 0
  · rw [findF, if_pos (by omega)]
    refine callsIn_of_wp_marks Try.func11 rfl h11 ?_ hro
    simp only [Try.ntmps11, List.size_toArray, List.length_cons, List.length_nil, Nat.reduceAdd, Nat.reduceSub, Array.replicate_succ, Array.replicate_zero, List.push_toArray, List.append_toArray, List.nil_append, List.cons_append]
    gi_wp2
    exact ⟨.tuple #[.int .i64 0, .int .i64 0, .bool false], by simp [results, Try.results11, go_sem], rfl, below_alloc (below_alloc (below_alloc (below_alloc (below_alloc (Below.refl _ _) _) _) _) _) _⟩
  · refine callsIn_of_wp_marks Try.func11 rfl h11 ?_ hro
    simp only [Try.ntmps11, List.size_toArray, List.length_cons, List.length_nil, Nat.reduceAdd, Nat.reduceSub, Array.replicate_succ, Array.replicate_zero, List.push_toArray, List.append_toArray, List.nil_append, List.cons_append]
    have h00 : ¬ (addr < 0 ∨ addr < tr) := by omega
    have hFF : findF tr ps addr = findDown ps addr ps.length := by rw [findF, if_neg h00]
    have HFF := Aside0.mk hFF
    clear hFF h00
    gi_wp2_with (gi_at_call 32; refine (back_in F (n - 1) h32 h49 hro (by omega) _ _ _ _ _ _).mono ?_; rintro e w' ⟨rfl, rfl⟩)
    have bA := (((((Boxed.new (w.alloc (.cells #[.int .i64 ow, .int .i64 tr, .slice A ps.length c] 27 (0, 0))) 3 (.int .i64 addr)).alloc (.cells #[.int .i64 0] 3)).alloc (.cells #[.int .i64 0] 3)).alloc (.cells #[.bool false] 4)).alloc (.cells #[.int .i64 ow, .int .i64 tr, .slice A ps.length c] 27 (0, 0))).alloc (.cells #[.slice A ps.length c] 25 (0, 0))
    have bP := ((((Boxed.new ((w.alloc (.cells #[.int .i64 ow, .int .i64 tr, .slice A ps.length c] 27 (0, 0))).alloc (.cells #[.int .i64 addr] 3)) 3 (.int .i64 0)).alloc (.cells #[.int .i64 0] 3)).alloc (.cells #[.bool false] 4)).alloc (.cells #[.int .i64 ow, .int .i64 tr, .slice A ps.length c] 27 (0, 0))).alloc (.cells #[.slice A ps.length c] 25 (0, 0))
    have bQ := (((Boxed.new (((w.alloc (.cells #[.int .i64 ow, .int .i64 tr, .slice A ps.length c] 27 (0, 0))).alloc (.cells #[.int .i64 addr] 3)).alloc (.cells #[.int .i64 0] 3)) 3 (.int .i64 0)).alloc (.cells #[.bool false] 4)).alloc (.cells #[.int .i64 ow, .int .i64 tr, .slice A ps.length c] 27 (0, 0))).alloc (.cells #[.slice A ps.length c] 25 (0, 0))
    have bO := ((Boxed.new ((((w.alloc (.cells #[.int .i64 ow, .int .i64 tr, .slice A ps.length c] 27 (0, 0))).alloc (.cells #[.int .i64 addr] 3)).alloc (.cells #[.int .i64 0] 3)).alloc (.cells #[.int .i64 0] 3)) 4 (.bool false)).alloc (.cells #[.int .i64 ow, .int .i64 tr, .slice A ps.length c] 27 (0, 0))).alloc (.cells #[.slice A ps.length c] 25 (0, 0))
    have bS := Boxed.new ((((((w.alloc (.cells #[.int .i64 ow, .int .i64 tr, .slice A ps.length c] 27 (0, 0))).alloc (.cells #[.int .i64 addr] 3)).alloc (.cells #[.int .i64 0] 3)).alloc (.cells #[.int .i64 0] 3)).alloc (.cells #[.bool false] 4)).alloc (.cells #[.int .i64 ow, .int .i64 tr, .slice A ps.length c] 27 (0, 0))) 25 (.slice A ps.length c)
    simp only [World.size_alloc] at bA bP bQ bO bS
    have hB0 : Below w.heap.size w (((((((w.alloc (.cells #[.int .i64 ow, .int .i64 tr, .slice A ps.length c] 27 (0, 0))).alloc (.cells #[.int .i64 addr] 3)).alloc (.cells #[.int .i64 0] 3)).alloc (.cells #[.int .i64 0] 3)).alloc (.cells #[.bool false] 4)).alloc (.cells #[.int .i64 ow, .int .i64 tr, .slice A ps.length c] 27 (0, 0))).alloc (.cells #[.slice A ps.length c] 25 (0, 0))) := below_alloc (below_alloc (below_alloc (below_alloc (below_alloc (below_alloc (below_alloc (Below.refl _ _) _) _) _) _) _) _) _
    have hsz : (((((((w.alloc (.cells #[.int .i64 ow, .int .i64 tr, .slice A ps.length c] 27 (0, 0))).alloc (.cells #[.int .i64 addr] 3)).alloc (.cells #[.int .i64 0] 3)).alloc (.cells #[.int .i64 0] 3)).alloc (.cells #[.bool false] 4)).alloc (.cells #[.int .i64 ow, .int .i64 tr, .slice A ps.length c] 27 (0, 0))).alloc (.cells #[.slice A ps.length c] 25 (0, 0))).heap.size = w.heap.size + 7 := by simp
    generalize (((((((w.alloc _).alloc _).alloc _).alloc _).alloc _).alloc _).alloc _) = W0 at bA bP bQ bO bS hB0 hsz ⊢
    refine wpIn_rangeFunc_ownH hro h1 (gf := 58) (lb := #[.pointer (some ⟨w.heap.size + 1 + 1 + 1 + 1 + 1 + 1, 0, none⟩)]) rfl h58 (enters_of Try.func58 (by kernel_rfl) rfl)
      (backward_stops F (n - 1) h58 hro (by omega) (w.heap.size + 1 + 1 + 1 + 1 + 1 + 1) (w.heap.size + 7) c A ps As cs W0 (Kd.C_max HR.out) bS.cell (by omega) (by omega) (fun j hj => by obtain ⟨ad, g1, g2⟩ := hP j hj; exact ⟨ad, g1, fun W1 hb => g2 W1 (hB0.trans (hb.mono (by omega)))⟩)) belowK_t (belowK_b (by omega)) (Below.refl _ _) (fun _ => rfl)
      (fun pre W => ((((((∀ p ∈ pre, addr < (ps.getD p part0).first) ∧ Boxed W (w.heap.size + 1) 3 (.int .i64 addr)) ∧ Boxed W (w.heap.size + 1 + 1) 3 (.int .i64 0)) ∧ Boxed W (w.heap.size + 1 + 1 + 1) 3 (.int .i64 0)) ∧ Boxed W (w.heap.size + 1 + 1 + 1 + 1) 4 (.bool false)) ∧ Boxed W (w.heap.size + 1 + 1 + 1 + 1 + 1 + 1) 25 (.slice A ps.length c)) ∧ Below w.heap.size w W)
      (fun c pre W => FindX w ps addr c pre W)
      (OwnFrom.and (OwnFrom.and (OwnFrom.and (OwnFrom.and (OwnFrom.and (OwnFrom.and (ownFrom_pure _ _) (Own.from (boxed_own _ _ _) _)) (Own.from (boxed_own _ _ _) _)) (Own.from (boxed_own _ _ _) _)) (Own.from (boxed_own _ _ _) _)) (Own.from (boxed_own _ _ _) _)) (ownFrom_below (Nat.le_refl _) (by omega)))
      (fun cx => OwnFrom.and (Own.from (fun s X Y row hs hg hrow => by
        have kb : ∀ {B : Nat} {t : TypeId} {v : Value}, Boxed X B t v → Boxed Y B t v := fun {B t v} h => boxed_own B t (fun (_ : Unit) => v) () X Y row h hg hrow
        obtain ⟨ini, last, e1, e2, e3, ⟨e4, e5, e6, e7, e8⟩ | ⟨e4, e5, e6, e7, e8⟩⟩ := hs
        · exact ⟨ini, last, e1, e2, e3, .inl ⟨e4, e5, kb e6, kb e7, kb e8⟩⟩
        · exact ⟨ini, last, e1, e2, e3, .inr ⟨e4, e5, kb e6, kb e7, kb e8⟩⟩) _) (ownFrom_below (Nat.le_refl _) (by omega)))
      ⟨⟨⟨⟨⟨⟨by simp, bA⟩, bP⟩, bQ⟩, bO⟩, bS⟩, hB0⟩
      (fun x a' W => ∃ Bx, w.heap.size + 6 < Bx ∧ W.heap[Bx]? = some (.cells #[.int .i64 (ps.getD x part0).first, .int .i64 (ps.getD x part0).id, .slice (As x) (ps.getD x part0).nodes.length (cs x)] 53 (0, 0)) ∧ a' = { tmps := #[.agg #[.int .i64 ow, .int .i64 tr, .slice A ps.length c], .int .i64 addr, .pointer (some ⟨w.heap.size, 0, none⟩), .pointer (some ⟨w.heap.size + 1, 0, none⟩), .pointer (some ⟨w.heap.size + 1 + 1, 0, none⟩), .pointer (some ⟨w.heap.size + 1 + 1 + 1, 0, none⟩), .pointer (some ⟨w.heap.size + 1 + 1 + 1 + 1, 0, none⟩), .int .i64 (x : Int), .pointer (some ⟨Bx, 0, none⟩), undef, .int .i64 addr, .pointer (some ⟨w.heap.size, 1, none⟩), .int .i64 tr, .int .i64 (max tr 0), .bool false, .agg #[.int .i64 ow, .int .i64 tr, .slice A ps.length c], .func (.func 58) #[] #[.pointer (some ⟨w.heap.size + 1 + 1 + 1 + 1 + 1 + 1, 0, none⟩)], .int .i64 (x : Int), partV (ps.getD x part0) (As x) (cs x), undef, undef, undef, undef, undef, undef, undef, undef, undef, undef, undef, undef, undef, undef, undef, undef], defers := [] })
      (fun x a' _ X Y row hs hg hr => by
        obtain ⟨Bx, g1, g2, g3⟩ := hs
        refine ⟨Bx, g1, (hg.block Bx (Array.getElem?_eq_some_iff.1 g2).1 (fun e => ?_)).trans g2, g3⟩
        obtain ⟨-, o, ho, hcx⟩ := hr Bx e.symm
        rw [g2] at ho; cases ho; cases hcx)
      ?assign ?body ?done ?stop
    case assign =>
      rintro l pre x W K ⟨⟨⟨⟨⟨⟨hp, bA1⟩, bP1⟩, bQ1⟩, bO1⟩, bS1⟩, hB1⟩ hK
      have hlt := bS1.lt
      have HK := Aside0.mk hK
      have HP2 := Aside0.mk hp
      clear hK hp hP
      simp only [partV]
      gi_wp2
      refine HK.out _ _ ((KeepsOthers.alloc _ _).from _) ((Below.refl _ W).alloc (by omega) _) ⟨⟨⟨⟨⟨⟨HP2.out, bA1.alloc _⟩, bP1.alloc _⟩, bQ1.alloc _⟩, bO1.alloc _⟩, bS1.alloc _⟩, hB1.alloc hB1.size _⟩ ⟨W.heap.size, by omega, World.alloc_heap_new _ _, rfl⟩
    case body =>
      rintro l pre x a' W hl ⟨r, hr⟩ ⟨⟨⟨⟨⟨⟨hp, bA1⟩, bP1⟩, bQ1⟩, bO1⟩, bS1⟩, hB1⟩ ⟨Bx, hBx, bX, rfl⟩ hlt
      have HP2 := Aside0.mk hp
      have cA := bA1.cell
      have cX : W.cell? ⟨Bx, 0, none⟩ = some (.int .i64 (ps.getD x part0).first) := (blk_cell bX 0).trans rfl
      clear hp hP
      have HX := Aside0.mk (fun h => (show ∀ p ∈ pre ++ [x], addr < (ps.getD p part0).first from fun p hp' => (List.mem_append.1 hp').elim (HP2.out p) (fun e => by rw [List.mem_singleton] at e; rw [e]; exact h)))
      obtain ⟨f, hf⟩ : ∃ f, (ps.getD x part0).first = f := ⟨_, rfl⟩
      rw [hf] at cX bX HX
      have HF := Aside0.mk hf
      clear hf
      by_cases q0 : f ≤ addr
      · have HQ := Aside0.mk q0
        by_cases q1 : wrap64 (addr - f) < 0
        · have HQ1 := Aside0.mk q1
          gi_wp2
          exact ⟨KeepsFrom.refl _ _, ⟨pre, x, rfl, HP2.out, by rw [HF.out]; exact HQ.out, .inr ⟨rfl, by rw [HF.out]; exact .inl HQ1.out, bP1, bQ1, bO1⟩⟩, hB1⟩
        · by_cases q2 : 4096 ≤ wrap64 (addr - f)
          · have HQ1 := Aside0.mk q2
            gi_wp2
            exact ⟨KeepsFrom.refl _ _, ⟨pre, x, rfl, HP2.out, by rw [HF.out]; exact HQ.out, .inr ⟨rfl, by rw [HF.out]; exact .inr HQ1.out, bP1, bQ1, bO1⟩⟩, hB1⟩
          · have HQ1 := Aside0.mk (show ¬ (wrap64 (addr - f) < 0 ∨ 4096 ≤ wrap64 (addr - f)) from fun h => h.elim q1 q2)
            have cP := bP1.cell
            have cQ := bQ1.cell
            have cO := bO1.cell
            have fP := bP1.frozen
            have fQ := bQ1.frozen
            have fO := bO1.frozen
            gi_wp2
            refine ⟨(((KeepsOthers.setCell _ _ _).trans (KeepsOthers.setCell _ _ _)).trans (KeepsOthers.setCell _ _ _)).from _, ⟨pre, x, rfl, HP2.out, by rw [HF.out]; exact HQ.out, .inl ⟨rfl, by rw [HF.out]; exact HQ1.out, ((bP1.set _).other (by omega) _).other (by omega) _, ?_, ?_⟩⟩, ((hB1.setCell (p := ⟨w.heap.size + 1 + 1, 0, none⟩) (by simp only; omega) _).setCell (p := ⟨w.heap.size + 1 + 1 + 1, 0, none⟩) (by simp only; omega) _).setCell (p := ⟨w.heap.size + 1 + 1 + 1 + 1, 0, none⟩) (by simp only; omega) _⟩
            · rw [HF.out]; exact ((bQ1.other (by omega) _).set _).other (by omega) _
            · exact ((bO1.other (by omega) _).other (by omega) _).set _
      · have q3 := Int.not_le.1 q0
        have HX2 := Aside0.mk (HX.out q3)
        gi_wp2
        exact ⟨KeepsFrom.refl _ _, Below.refl _ _, ⟨⟨⟨⟨⟨HX2.out, bA1⟩, bP1⟩, bQ1⟩, bO1⟩, bS1⟩, hB1⟩
    case done =>
      rintro D ys W hD rfl ⟨⟨⟨⟨⟨⟨hp, bA1⟩, bP1⟩, bQ1⟩, bO1⟩, bS1⟩, hB1⟩ hK
      have hdn := Aside0.mk (findDown_none ps addr ps.length (fun j hj => hp j (mem_upto (Nat.le_refl _) (by omega) hj)))
      clear hp hP
      have cP := bP1.cell
      have cQ := bQ1.cell
      have cO := bO1.cell
      have fP := bP1.frozen
      have fQ := bQ1.frozen
      have fO := bO1.frozen
      gi_wp2
      refine door11 (v0 := 0) (v1 := 0) (v2 := false) ((((bP1.set _).other (by omega) _).other (by omega) _)) (((bQ1.other (by omega) _).set _).other (by omega) _) (((bO1.other (by omega) _).other (by omega) _).set _) ((((KeepsOthers.setCell _ _ _).trans (KeepsOthers.setCell _ _ _)).trans (KeepsOthers.setCell _ _ _)).same D _ hK rfl) rfl rfl rfl ?_ (by omega) ?_
      · exact ((hB1.setCell (p := ⟨w.heap.size + 1 + 1, 0, none⟩) (by simp only; omega) _).setCell (p := ⟨w.heap.size + 1 + 1 + 1, 0, none⟩) (by simp only; omega) _).setCell (p := ⟨w.heap.size + 1 + 1 + 1 + 1, 0, none⟩) (by simp only; omega) _
      · rw [HFF.out, hdn.out]
    case stop =>
      rintro D cx pre W hD ⟨k, hk, rfl⟩ ⟨⟨ini, last, e1, e2, e3, e4⟩, hB1⟩ hK
      obtain ⟨k', rfl⟩ : ∃ k', k = k' + 1 := by
        cases k with
        | zero => simp [upto] at e1
        | succ k' => exact ⟨k', rfl⟩
      rw [upto_succ] at e1
      obtain ⟨rfl, e5⟩ := List.append_inj' e1 rfl
      obtain rfl : ps.length - 1 - k' = last := by simpa using e5
      have hat := findDown_at ps addr (ps.length - 1 - k') e3 ps.length (by omega) (fun j h1 h2 => e2 j (mem_upto (by omega) (by omega) h2))
      obtain ⟨m, hm⟩ : ∃ m, ps.length - 1 - k' = m := ⟨_, rfl⟩
      rw [hm] at hat e3 e4
      obtain ⟨f, hf⟩ : ∃ f, (ps.getD m part0).first = f := ⟨_, rfl⟩
      rw [hf] at hat e3 e4
      have HAT := Aside0.mk hat
      clear hat e1 e5 e2 hP hm hf e3 hk
      rcases e4 with ⟨rfl, e5, bP1, bQ1, bO1⟩ | ⟨rfl, e5, bP1, bQ1, bO1⟩
      · have HE5 := Aside0.mk e5
        clear e5
        gi_wp2
        refine door11 (v0 := (m : Int)) (v1 := wrap64 (addr - f)) (v2 := true) bP1 bQ1 bO1 hK rfl rfl rfl hB1 (by omega) ?_
        rw [HFF.out, HAT.out, if_neg HE5.out]
      · have HE5 := Aside0.mk e5
        clear e5
        have cP := bP1.cell
        have cQ := bQ1.cell
        have cO := bO1.cell
        have fP := bP1.frozen
        have fQ := bQ1.frozen
        have fO := bO1.frozen
        gi_wp2
        refine door11 (v0 := 0) (v1 := 0) (v2 := false) ((((bP1.set _).other (by omega) _).other (by omega) _)) (((bQ1.other (by omega) _).set _).other (by omega) _) (((bO1.other (by omega) _).other (by omega) _).set _) ((((KeepsOthers.setCell _ _ _).trans (KeepsOthers.setCell _ _ _)).trans (KeepsOthers.setCell _ _ _)).same D _ hK rfl) rfl rfl rfl ?_ (by omega) ?_
        · exact ((hB1.setCell (p := ⟨w.heap.size + 1 + 1, 0, none⟩) (by simp only; omega) _).setCell (p := ⟨w.heap.size + 1 + 1 + 1, 0, none⟩) (by simp only; omega) _).setCell (p := ⟨w.heap.size + 1 + 1 + 1 + 1, 0, none⟩) (by simp only; omega) _
        · rw [HFF.out, HAT.out, if_pos HE5.out]
theorem find_c (ow tr addr : Int) (A : Option Addr) (c : Nat) (ps : List PartV) (w : World) (hr : Kd.C k53 w A ps.length ps) :
    Calls Try.prog 11 #[.agg #[.int .i64 ow, .int .i64 tr, .slice A ps.length c], .int .i64 addr] w fun e W' => e = .returned (.tuple #[.int .i64 (findF tr ps addr).1, .int .i64 (findF tr ps addr).2.1, .bool (findF tr ps addr).2.2]) ∧ Below w.heap.size w W' :=
  callsIn_wide.1 (find_in Fence.wide 6 trivial trivial trivial trivial rfl (Nat.le_refl _) ow tr addr A c ps w hr)
end Go.Proofs.Ytpcoelimabojcaa.Hand
