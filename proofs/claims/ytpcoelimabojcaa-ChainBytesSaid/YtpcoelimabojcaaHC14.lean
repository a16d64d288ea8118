/- What must come (knows). -/
import Derived.Test.YtpcoelimabojcaaHC13
namespace Go.Proofs.Ytpcoelimabojcaa.Hand
open Go.RowKit Go.Proofs.Ytpcoelimabojcaa Go.Proofs.YtpcoelimabojcaaW.PrintWords Go.Proofs.YtpcoelimabojcaaW.PrintLast
set_option linter.unusedVariables false
set_option linter.unusedSimpArgs false
theorem kn1 : extErr 0 0 [] 3 1 0 ⟨0, 5, [0, 1, 2]⟩ = 0 := by decide +kernel
theorem kn2 : extParts 0 [] 0 ⟨0, 5, [0, 1, 2]⟩ = [⟨0, 5, [0, 1, 2]⟩] := by simp [extParts]
theorem kn3 : extErr 1 0 [⟨0, 5, [0, 1, 2]⟩] 3 2 7 ⟨7, 6, [0, 1]⟩ = 0 := by decide +kernel
theorem kn4 : extParts 0 [⟨0, 5, [0, 1, 2]⟩] 7 ⟨7, 6, [0, 1]⟩ = [⟨0, 5, [0, 1, 2]⟩, ⟨7, 6, [0, 1]⟩] := by simp [extParts, lastF]
theorem kn5 : findF 0 [⟨0, 5, [0, 1, 2]⟩, ⟨7, 6, [0, 1]⟩] 6 = (0, 6, true) := by decide +kernel
theorem kn6 : findF 0 [⟨0, 5, [0, 1, 2]⟩, ⟨7, 6, [0, 1]⟩] 9 = (1, 2, true) := by decide +kernel
theorem C_ints {W : World} {q : Nat} {xs : List Int} {fz : Nat × Nat} {cs : Array Value} (h : W.heap[q]? = some (.cells cs 3 fz)) (hcs : cs = (xs.map (Value.int .i64)).toArray) (hl : xs.length ≤ 1000) : Kd.C (Kd.int .i64) W (some ⟨q, 0, none⟩) xs.length xs := by
  subst hcs
  refine ⟨rfl, by omega, fun _ => ⟨_, rfl, fun j p hj => ⟨[.int .i64 p], rfl, rfl, fun i u hu => ?_⟩⟩⟩
  match i, hu with
  | 0, hu =>
    simp at hu
    subst hu
    rw [show j * (Kd.int IntKind.i64).sz + 0 = j from Nat.mul_one j]
    by_cases hz : j = 0
    · subst hz; simp [World.cell?, h, Addr.add, List.getElem?_map, hj]
    · simp [World.cell?, h, Addr.add, List.getElem?_map, hj, hz]
  | i + 1, hu => simp at hu
set_option maxHeartbeats 3200000 in
set_option maxRecDepth 100000 in
theorem knows_c (W : World) : Calls Try.prog 15 #[] W fun e W' => e = .returned (.bool true) ∧ Below W.heap.size W W' := by
  go_enter Try.func15, Try.ntmps15
  go_wp2_with fail
  have h0 : Kd.C k53 (W.alloc (.cells #[.int .i64 0, .int .i64 1, .int .i64 2] 3 (0, 0))) none ([] : List PartV).length [] := Kd.C_nil _ _
  have h1 : Kd.C (Kd.int .i64) (W.alloc (.cells #[.int .i64 0, .int .i64 1, .int .i64 2] 3 (0, 0))) (some ⟨W.heap.size, 0, none⟩) 3 [0, 1, 2] := C_ints (xs := [0, 1, 2]) (heap_alloc_new W _) rfl (by decide)
  refine (extend_c 0 0 3 1 0 5 none (some ⟨W.heap.size, 0, none⟩) 0 3 [] [0, 1, 2] _ h0 h1 (Nat.le_refl _) (Nat.le_refl _) (by decide) (by simp) (by decide)).mono ?_
  rintro e w1 ⟨hb1, ⟨hx, rfl⟩ | ⟨hx, A1, c1, rfl, hR1⟩⟩
  · exact absurd kn1 hx
  simp only [kn2, List.length_cons, List.length_nil, Nat.zero_add] at hR1 ⊢
  have HB1 := Aside0.mk (below_step (below_alloc (Below.refl W.heap.size W) _) hb1)
  have HR1 := Aside0.mk (Kd.C_alloc (Kd.R_reads' (show Kd.R k53 53 w1 0 (fun k => (W.alloc (.cells #[.int .i64 0, .int .i64 1, .int .i64 2] 3 (0, 0))).heap.size ≤ k) (.slice A1 ([⟨0, 5, [0, 1, 2]⟩] : List PartV).length c1) [⟨0, 5, [0, 1, 2]⟩] from hR1)).2.2 (.cells #[.int .i64 1, .int .i64 0, .slice A1 1 c1] 27 (0, 0)))
  have hc1 := (Kd.R_reads' (show Kd.R k53 53 w1 0 (fun k => (W.alloc (.cells #[.int .i64 0, .int .i64 1, .int .i64 2] 3 (0, 0))).heap.size ≤ k) (.slice A1 ([⟨0, 5, [0, 1, 2]⟩] : List PartV).length c1) [⟨0, 5, [0, 1, 2]⟩] from hR1)).2.1
  clear hR1 hx hb1 h0 h1
  have HC1 := Aside0.mk hc1
  clear hc1
  go_wp2_with fail
  have hz1 : (w1.alloc (.cells #[.int .i64 1, .int .i64 0, .slice A1 1 c1] 27 (0, 0))).heap.size = w1.heap.size + 1 := Array.size_push _
  have h2 := heap_alloc_new (w1.alloc (.cells #[.int .i64 1, .int .i64 0, .slice A1 1 c1] 27 (0, 0))) (.cells #[.int .i64 0, .int .i64 1] 3 (0, 0))
  rw [hz1] at h2
  have h3 : Kd.C (Kd.int .i64) ((w1.alloc (.cells #[.int .i64 1, .int .i64 0, .slice A1 1 c1] 27 (0, 0))).alloc (.cells #[.int .i64 0, .int .i64 1] 3 (0, 0))) (some ⟨w1.heap.size + 1, 0, none⟩) 2 [0, 1] := C_ints (xs := [0, 1]) h2 rfl (by decide)
  refine (extend_c 1 0 3 2 7 6 A1 (some ⟨w1.heap.size + 1, 0, none⟩) c1 2 [⟨0, 5, [0, 1, 2]⟩] [0, 1] _ (Kd.C_alloc HR1.out _) h3 HC1.out (Nat.le_refl _) (by decide) (by simp) (by decide)).mono ?_
  rintro e w2 ⟨hb2, ⟨hx, rfl⟩ | ⟨hx, A2, c2, rfl, hR2⟩⟩
  · exact absurd kn3 hx
  simp only [kn4, List.length_cons, List.length_nil, Nat.zero_add, Nat.reduceAdd] at hR2 ⊢
  have HB2 := Aside0.mk (below_step (below_alloc (below_alloc HB1.out _) _) hb2)
  have HR2 := Aside0.mk (Kd.C_alloc (Kd.R_reads' (show Kd.R k53 53 w2 0 (fun k => _ ≤ k) (.slice A2 ([⟨0, 5, [0, 1, 2]⟩, ⟨7, 6, [0, 1]⟩] : List PartV).length c2) [⟨0, 5, [0, 1, 2]⟩, ⟨7, 6, [0, 1]⟩] from hR2)).2.2 (.cells #[.int .i64 2, .int .i64 0, .slice A2 2 c2] 27 (0, 0)))
  clear hR2 hx hb2 h2 h3 hz1 HB1 HR1
  go_wp2_with fail
  have hb3 := below_alloc HB2.out (.cells #[.int .i64 2, .int .i64 0, .slice A2 2 c2] 27 (0, 0))
  have BX := Aside0.mk (heap_alloc_new w2 (.cells #[.int .i64 2, .int .i64 0, .slice A2 2 c2] 27 (0, 0)))
  refine (find_c 2 0 6 A2 c2 [⟨0, 5, [0, 1, 2]⟩, ⟨7, 6, [0, 1]⟩] _ HR2.out).mono ?_
  rintro e w3 ⟨rfl, hb4⟩
  have BX3 := Aside0.mk (blk_below BX.out hb4)
  have HB3 := Aside0.mk (below_step hb3 hb4)
  have HR3 := Aside0.mk (Kd.C_below HR2.out hb4)
  have x0 : w3.cell? ⟨w2.heap.size, 0, none⟩ = some (.int .i64 2) := (blk_cell BX3.out 0).trans rfl
  have x1 : w3.cell? ⟨w2.heap.size, 1, none⟩ = some (.int .i64 0) := (blk_cell BX3.out 1).trans rfl
  have x2 : w3.cell? ⟨w2.heap.size, 2, none⟩ = some (.slice A2 2 c2) := (blk_cell BX3.out 2).trans rfl
  clear hb4 hb3 HB2 BX HR2
  simp only [kn5]
  go_wp2_with fail
  refine (find_c 2 0 9 A2 c2 [⟨0, 5, [0, 1, 2]⟩, ⟨7, 6, [0, 1]⟩] _ HR3.out).mono ?_
  rintro e w4 ⟨rfl, hb4⟩
  have BX4 := Aside0.mk (blk_below BX3.out hb4)
  have HB4 := Aside0.mk (below_step HB3.out hb4)
  have y0 : w4.cell? ⟨w2.heap.size, 0, none⟩ = some (.int .i64 2) := (blk_cell BX4.out 0).trans rfl
  clear hb4 x0 x1 x2 BX3 HB3 HR3
  simp only [kn6]
  go_wp2_with ((with_reducible refine (num_c _ _).mono ?_); rintro e w5 ⟨rfl, rfl⟩)
  go_ret
  exact ⟨rfl, HB4.out⟩
end Go.Proofs.Ytpcoelimabojcaa.Hand
