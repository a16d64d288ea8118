/- Same: two chains that are the same. -/
import Derived.Test.YtpcoelimabojcaaHC16
namespace Go.Proofs.Ytpcoelimabojcaa.Hand
open Go.RowKit Go.Proofs.Ytpcoelimabojcaa Go.Proofs.YtpcoelimabojcaaW.PrintWords Go.Proofs.YtpcoelimabojcaaW.PrintLast
set_option linter.unusedVariables false
set_option linter.unusedSimpArgs false
theorem int_cell2 {w : World} {A : Option Addr} {l : List Int} (h : Kd.C (Kd.int .i64) w A l.length l) (k : Nat) (hk : k < l.length) : ∃ ad, A = some ad ∧ ∀ W1, Below w.heap.size w W1 → W1.cell? (ad.add k) = some (.int .i64 (l.getD k 0)) := by
  obtain ⟨ad, cs, hA, -, hK, hcell⟩ := ReadsRow.get_ h 0 (k : Int) (by omega) (by omega)
  rw [Int.toNat_natCast] at hK hcell
  have hK' : cs = [.int .i64 (l.getD k 0)] := hK
  subst hK'
  have g := hcell 0 _ rfl
  rw [show k * (Kd.int IntKind.i64).sz + 0 = k from Nat.mul_one k] at g
  exact ⟨ad, hA, fun W1 hb => (hb.cell (World.block_lt_of_cell? w _ g)).trans g⟩
theorem below_drewN (W : World) (n : Nat) : Below W.heap.size W (W.drewN n) := pw_below_drewN (Below.refl _ _) n
set_option maxHeartbeats 3200000 in
set_option maxRecDepth 100000 in
theorem ints_c (A B : Option Addr) (c c2 : Nat) (l : List Int) (W : World) (ha : Kd.C (Kd.int .i64) W A l.length l) (hb : Kd.C (Kd.int .i64) W B l.length l) :
    Calls Try.prog 41 #[.slice A l.length c, .slice B l.length c2] W fun e W' => e = .returned (.bool true) ∧ ∃ n, W' = W.drewN n := by
  have hmax := Kd.C_max ha
  have HA := Aside0.mk ha
  have HB := Aside0.mk hb
  clear ha hb
  go_enter Try.func41, Try.ntmps41
  go_wp2_with fail
  go_loopw [5] (fun u5 wr => ∃ k : Nat, k ≤ l.length ∧ u5 = .int .i64 k ∧ ∃ n, wr = W.drewN n) (fun u5 wr => l.length - (intOf u5).toNat)
  case atStart => exact ⟨0, Nat.zero_le _, rfl, 0, rfl⟩
  case round =>
    obtain ⟨k, hk, rfl, n, rfl⟩ := hrel
    by_cases hlt : k < l.length
    · obtain ⟨a, hA, hca⟩ := int_cell2 HA.out k hlt
      obtain ⟨b, hB, hcb⟩ := int_cell2 HB.out k hlt
      have x0 := hca _ (below_drewN W n)
      have y0 := hcb _ (below_drewN W n)
      subst hA hB
      clear hca hcb
      generalize l.getD k 0 = x at x0 y0
      obtain ⟨Wn, hWn⟩ : ∃ Wn, W.drewN n = Wn := ⟨_, rfl⟩
      rw [hWn] at x0 y0 ⊢
      have HWN := Aside0.mk hWn
      have hlt2 : (k : Int) < (l.length : Int) := by omega
      clear hWn
      go_wp2_with fail
      go_quiet (fail)
      go_wp2_with fail
      exact ⟨⟨k + 1, by omega, by go_num, n + nq, by rw [← HWN.out, World.drewN_drewN]⟩, by simp [intOf]; omega⟩
    · obtain rfl : k = l.length := by omega
      go_wp2_with fail
      go_ret
      exact ⟨rfl, n, rfl⟩
set_option maxHeartbeats 6400000 in
set_option maxRecDepth 100000 in
theorem same_c (ow tr : Int) (A B : Option Addr) (c c2 : Nat) (ps : List PartV) (W : World) (ha : Kd.C k53 W A ps.length ps) (hb : Kd.C k53 W B ps.length ps) :
    Calls Try.prog 24 #[.agg #[.int .i64 ow, .int .i64 tr, .slice A ps.length c], .agg #[.int .i64 ow, .int .i64 tr, .slice B ps.length c2]] W fun e W' => e = .returned (.bool true) ∧ Below W.heap.size W W' := by
  have hmax := Kd.C_max ha
  have HA := Aside0.mk ha
  have HB := Aside0.mk hb
  obtain ⟨o1, ho1⟩ : ∃ o1 : Obj, o1 = .cells #[.int .i64 ow, .int .i64 tr, .slice A ps.length c] 27 (0, 0) := ⟨_, rfl⟩
  obtain ⟨o2, ho2⟩ : ∃ o2 : Obj, o2 = .cells #[.int .i64 ow, .int .i64 tr, .slice B ps.length c2] 27 (0, 0) := ⟨_, rfl⟩
  have e1 : (W.alloc o1).heap.size = W.heap.size + 1 := Array.size_push _
  have b2 := heap_alloc_new (W.alloc o1) o2
  rw [e1] at b2
  have BA := Aside0.mk (blk_alloc (heap_alloc_new W o1) o2)
  have BB := Aside0.mk b2
  have HW := Aside0.mk (below_alloc (below_alloc (Below.refl W.heap.size W) o1) o2)
  subst ho1 ho2
  clear ha hb b2 e1
  go_enter Try.func24, Try.ntmps24
  go_wp2_with fail
  generalize ((W.alloc (.cells #[.int .i64 ow, .int .i64 tr, .slice A ps.length c] 27 (0, 0))).alloc (.cells #[.int .i64 ow, .int .i64 tr, .slice B ps.length c2] 27 (0, 0))) = W0 at BA BB HW ⊢
  go_loopw [5] (fun u5 wr => ∃ k : Nat, k ≤ ps.length ∧ u5 = .int .i64 k ∧ ∃ n, wr = W0.drewN n) (fun u5 wr => ps.length - (intOf u5).toNat)
  case atStart => exact ⟨0, Nat.zero_le _, rfl, 0, rfl⟩
  case round =>
    obtain ⟨k, hk, rfl, n, hw⟩ := hrel
    have HB0 := Aside0.mk (show Below W0.heap.size W0 wr by rw [hw]; exact below_drewN W0 n)
    have BA1 := blk_below BA.out HB0.out
    have BB1 := blk_below BB.out HB0.out
    have a0 : wr.cell? ⟨W.heap.size, 0, none⟩ = some (.int .i64 ow) := (blk_cell BA1 0).trans rfl
    have a2 : wr.cell? ⟨W.heap.size, 2, none⟩ = some (.slice A ps.length c) := (blk_cell BA1 2).trans rfl
    have b2 : wr.cell? ⟨W.heap.size + 1, 2, none⟩ = some (.slice B ps.length c2) := (blk_cell BB1 2).trans rfl
    have HWN := Aside0.mk hw
    have HBW := Aside0.mk (below_step HW.out HB0.out)
    clear hw BA1 BB1
    by_cases hlt : k < ps.length
    · obtain ⟨a, A1, c3, hA, -, hC1, hca⟩ := part_cells HA.out k hlt
      obtain ⟨b, B1, c4, hB, -, hC2, hcb⟩ := part_cells HB.out k hlt
      obtain ⟨x0, x1, x2⟩ := hca _ HBW.out
      obtain ⟨y0, y1, y2⟩ := hcb _ HBW.out
      subst hA hB
      have INTS := Aside0.mk (fun m => ints_c A1 B1 c3 c4 ps[k].nodes (wr.drewN m) (Kd.C_drewN (Kd.C_below hC1 HBW.out) m) (Kd.C_drewN (Kd.C_below hC2 HBW.out) m))
      generalize ps[k] = p at x0 x1 x2 y0 y1 y2 INTS
      have hlt2 : (k : Int) < (ps.length : Int) := by omega
      clear hca hcb hC1 hC2
      go_wp2_with fail
      go_quiet ((go_at_call 41; exact Calls.quiet_of (INTS.out _)))
      go_wp2_with fail
      exact ⟨⟨k + 1, by omega, by go_num, n + nq, by rw [HWN.out, World.drewN_drewN]⟩, by simp [intOf]; omega⟩
    · obtain rfl : k = ps.length := by omega
      go_wp2_with fail
      go_ret
      exact ⟨rfl, HBW.out⟩
end Go.Proofs.Ytpcoelimabojcaa.Hand
