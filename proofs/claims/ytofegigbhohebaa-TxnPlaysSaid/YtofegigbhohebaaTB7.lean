/- Decide, of what is no Expire. -/
import Derived.Test.YtofegigbhohebaaTB6
import Derived.Test.YtofegigbhohebaaShelf
namespace Go.Proofs.Ytofegigbhohebaa.Hand
open Go.RowKit Go.Proofs.Ytofegigbhohebaa Go.Proofs.YtofegigbhohebaaW.PrintWords Go.Proofs.YtofegigbhohebaaW.PrintLast
set_option linter.unusedVariables false
set_option linter.unusedSimpArgs false
theorem C_cells {w : World} {A : Option Addr} {l : List Int} (h : Kd.C (Kd.int .i64) w A l.length l) (h0 : 0 < l.length) : ∃ ad, A = some ad ∧ ∀ j, j < l.length → w.cell? (ad.add j) = some (.int .i64 (l.getD j 0)) := by
  obtain ⟨ad, cs, hA, -, -, -⟩ := ReadsRow.get_ h 0 ((0 : Nat) : Int) (by omega) (by omega)
  refine ⟨ad, hA, fun j hj => ?_⟩
  obtain ⟨ad', cs, hA', -, hK, hcell⟩ := ReadsRow.get_ h 0 (j : Int) (by omega) (by omega)
  rw [hA] at hA'; cases hA'
  rw [Int.toNat_natCast] at hK hcell
  have hK' : cs = [.int .i64 (l.getD j 0)] := hK
  subst hK'
  have g := hcell 0 _ rfl
  rwa [show j * (Kd.int IntKind.i64).sz + 0 = j from Nat.mul_one j] at g
theorem add_ (b j : Nat) : (⟨b, 0, none⟩ : Addr).add j = ⟨b, 0 + j, none⟩ := by
  unfold Addr.add
  by_cases h : j = 0
  · simp [h]
  · simp [h]
/-- An own row of whole numbers: where it lies. -/
theorem R_place {w : World} {ok : Nat → Prop} {v : Value} {l : List Int} (h : Kd.R (Kd.int .i64) 3 w 0 ok v l) : (l = [] ∧ ∃ A c, v = .slice A 0 c) ∨ ∃ b c, v = .slice (some ⟨b, 0, none⟩) l.length c ∧ l.length ≤ c ∧ ok b ∧ (∃ CS, w.heap[b]? = some (.cells CS 3 (0, 0))) ∧ ∀ j, j < l.length → w.cell? ⟨b, 0 + j, none⟩ = some (.int .i64 (l.getD j 0)) := by
  rcases Nat.eq_zero_or_pos l.length with h0 | h0
  · obtain ⟨A, c, rfl⟩ := Kd.R_slice h
    exact .inl ⟨List.eq_nil_of_length_eq_zero h0, A, c, by rw [h0]⟩
  · obtain ⟨g, c, rfl, -, hlt, CS, hCS⟩ := Kd.R_form h h0
    obtain ⟨ad, hA, hcell⟩ := C_cells (Kd.R_reads' h).2.2 h0
    cases hA
    exact .inr ⟨g, c, rfl, (Kd.R_reads' h).2.1, h.1 g (by simp [Value.ownBlock]), ⟨CS, hCS⟩, fun j hj => by rw [← add_]; exact hcell j hj⟩
theorem contains_c {w : World} {ok : Nat → Prop} {v : Value} {l : List Int} (h : Kd.R (Kd.int .i64) 3 w 0 ok v l) (x : Int) (hl : l.length ≤ 100) : Calls Try.prog 41 #[v, .int .i64 x] w fun e w' => e = .returned (.bool (decide (x ∈ l))) ∧ w' = w := by
  rcases R_place h with ⟨rfl, A, c, rfl⟩ | ⟨b, c, rfl, hc, -, -, hcell⟩
  · exact (Try.slices_Contains_int_empty A c x w).mono fun e w' h => ⟨by rw [h.1]; rfl, h.2⟩
  · refine (Try.slices_Contains_int b 0 l.length c l x w (Nat.le_refl _) (by omega) hcell).mono fun e w' h => ⟨?_, h.2⟩
    rw [h.1, List.take_length]
    congr 2
    rw [List.contains_eq_mem]
/-- Decide's memory. -/
structure DcI (own : Nat → Nat) (gb : Nat) (gs : List Nat) (ps : List ProdV) (x : EvV) (w w1 : World) : Prop where
  below : Below w.heap.size w w1
  bi : BI own gb gs ps w1
  box : w1.heap[w.heap.size]? = some (.cells #[.int .i64 x.kind, .string x.name, .int .i64 x.producer, .int .i64 x.epoch, .int .i64 x.place, .int .i64 x.timeout, .int .i64 x.now, .bool x.yes] 33 (0, 0))
  r1 : w1.heap[w.heap.size + 1]? = some (.cells #[.bool false] 4 (0, 0))
  r2 : w1.heap[w.heap.size + 1 + 1]? = some (.cells #[.int .i64 0] 30 (0, 0))
theorem DcI.move {own : Nat → Nat} {gb : Nat} {gs : List Nat} {ps : List ProdV} {x : EvV} {w w1 w2 : World} (h : DcI own gb gs ps x w w1) (hb : Below w1.heap.size w1 w2) : DcI own gb gs ps x w w2 :=
  ⟨below_step h.below hb, h.bi.below hb, blk_below h.box hb, blk_below h.r1 hb, blk_below h.r2 hb⟩
theorem DcI.start {own : Nat → Nat} {gb : Nat} {gs : List Nat} {ps : List ProdV} {w : World} (h : BI own gb gs ps w) (x : EvV) : DcI own gb gs ps x w (((w.alloc (.cells #[.int .i64 x.kind, .string x.name, .int .i64 x.producer, .int .i64 x.epoch, .int .i64 x.place, .int .i64 x.timeout, .int .i64 x.now, .bool x.yes] 33 (0, 0))).alloc (.cells #[.bool false] 4 (0, 0))).alloc (.cells #[.int .i64 0] 30 (0, 0))) := by
  generalize ho1 : Obj.cells #[.int .i64 x.kind, .string x.name, .int .i64 x.producer, .int .i64 x.epoch, .int .i64 x.place, .int .i64 x.timeout, .int .i64 x.now, .bool x.yes] 33 (0, 0) = o1
  generalize ho2 : Obj.cells #[.bool false] 4 (0, 0) = o2
  generalize ho3 : Obj.cells #[.int .i64 0] 30 (0, 0) = o3
  have e1 : (w.alloc o1).heap.size = w.heap.size + 1 := Array.size_push _
  have e2 : ((w.alloc o1).alloc o2).heap.size = w.heap.size + 1 + 1 := by rw [← e1]; exact Array.size_push _
  have hb := below_alloc (below_alloc (below_alloc (Below.refl w.heap.size w) o1) o2) o3
  refine ⟨hb, h.below hb, ?_, ?_, ?_⟩
  · rw [ho1]; exact blk_alloc (blk_alloc (heap_alloc_new w o1) o2) o3
  · rw [ho2, ← e1]; exact blk_alloc (heap_alloc_new _ o2) o3
  · rw [ho3, ← e2]; exact heap_alloc_new _ o3
/-- Where Decide ends. -/
theorem DcI.out {own : Nat → Nat} {gb : Nat} {gs : List Nat} {ps : List ProdV} {x : EvV} {w w1 : World} {ts : Array Value} {q : Bool × Int} (h : DcI own gb gs ps x w w1) (b : Bool) (e : Int)
    (t4 : ts.getD 4 undef = .pointer (some ⟨w.heap.size + 1, 0, none⟩)) (t5 : ts.getD 5 undef = .pointer (some ⟨w.heap.size + 1 + 1, 0, none⟩)) (hq : q = (b, e)) :
    bodyPost Try.prog Try.f20 (fun e w' => e = .returned (.tuple #[.bool q.1, .int .i64 q.2]) ∧ Below w.heap.size w w') .ret { tmps := ts, defers := [] } ((w1.setCell ⟨w.heap.size + 1, 0, none⟩ (.bool b)).setCell ⟨w.heap.size + 1 + 1, 0, none⟩ (.int .i64 e)) := by
  subst hq
  have k1 := blk_put h.r1 0 (.bool b) rfl
  have k2 := (Below.heap_setCell w1 ⟨w.heap.size + 1, 0, none⟩ (.bool b) (w.heap.size + 1 + 1) (by simp)).trans h.r2
  have j1 := (Below.heap_setCell (w1.setCell ⟨w.heap.size + 1, 0, none⟩ (.bool b)) ⟨w.heap.size + 1 + 1, 0, none⟩ (.int .i64 e) (w.heap.size + 1) (by simp)).trans k1
  have j2 := blk_put k2 0 (.int .i64 e) rfl
  have r1 := (blk_cell j1 0).trans rfl
  have r2 := (blk_cell j2 0).trans rfl
  rw [Array.getD_eq_getD_getElem?] at t4 t5
  exact bodyPost_ret (v := .tuple #[.bool b, .int .i64 e]) (by simp [results, Try.results20, go_sem, t4, t5, r1, r2]) rfl ⟨rfl, (h.below.setCell (p := ⟨w.heap.size + 1, 0, none⟩) (by simp) _).setCell (p := ⟨w.heap.size + 1 + 1, 0, none⟩) (by simp only; omega) _⟩
set_option maxHeartbeats 6400000 in
set_option maxRecDepth 100000 in
theorem decide5_c {own : Nat → Nat} {gb : Nat} {gs : List Nat} {ps : List ProdV} {w : World} (h : BI own gb gs ps w) (hg : Good ps) (x : EvV) (hk5 : x.kind ≠ 5) : Calls Try.prog 20 #[.pointer (some ⟨gb, 0, none⟩), evE x] w fun e w' => e = .returned (.tuple #[.bool (decideF ps x).1, .int .i64 (decideF ps x).2]) ∧ Below w.heap.size w w' := by
  have HD := Aside0.mk (DcI.start h x)
  have HG := Aside0.mk hg
  have HR := Aside0.mk (fun W => right_c x W)
  have y0 := (blk_cell HD.out.box 0).trans rfl
  have y1 := (blk_cell HD.out.box 1).trans rfl
  have y2 := (blk_cell HD.out.box 2).trans rfl
  have y3 := (blk_cell HD.out.box 3).trans rfl
  have y4 := (blk_cell HD.out.box 4).trans rfl
  have y5 := (blk_cell HD.out.box 5).trans rfl
  have y6 := (blk_cell HD.out.box 6).trans rfl
  have y7 := (blk_cell HD.out.box 7).trans rfl
  cases hr : rightE x with
  | false =>
    have HF := Aside0.mk (show decideF ps x = (false, 1) by unfold decideF; rw [hr]; rfl)
    unfold evE at HR ⊢
    clear h hg
    go_enter Try.func20, Try.ntmps20
    go_wp2_with (first | (go_at_call 35; refine (none_c HD.out.bi).mono ?_; rintro e w' ⟨rfl, rfl⟩) | (go_at_call 38; refine (HR.out _).mono ?_; rintro e w2 ⟨rfl, hb2⟩; rw [hr]; have HD2 := Aside0.mk (HD.out.move hb2); have r1 := (blk_cell HD2.out.r1 0).trans rfl; have r2 := (blk_cell HD2.out.r2 0).trans rfl; have f1 := blk_frozen HD2.out.r1 0; have f2 := blk_frozen HD2.out.r2 0) | fail)
    exact HD2.out.out false 1 rfl rfl HF.out
  | true =>
  obtain ⟨hpr, hep, hpl, hti, hno⟩ := right_in hr
  have HRT := Aside0.mk hr
  have hk : x.kind = 1 ∨ x.kind = 2 ∨ x.kind = 3 ∨ x.kind = 4 := by
    unfold rightE at hr
    by_cases h1 : x.kind = 1
    · exact .inl h1
    by_cases h2 : x.kind = 2
    · exact .inr (.inl h2)
    by_cases h3 : x.kind = 3
    · exact .inr (.inr (.inl h3))
    by_cases h4 : x.kind = 4
    · exact .inr (.inr (.inr h4))
    rw [if_neg h1, if_neg h2, if_neg h3, if_neg h4, if_neg hk5] at hr
    simp at hr
  clear hk5 hep hpl hti hno h hg hr
  obtain ⟨kind, name, producer, epoch, place, timeout, now, yes⟩ := x
  unfold evE at HR ⊢
  dsimp only at hk hpr y0 y1 y2 y3 y4 y5 y6 y7 HR
  rcases hk with rfl | hk
  · have HF := Aside0.mk (show decideF ps ⟨1, name, producer, epoch, place, timeout, now, yes⟩ = (false, grantF ps ⟨1, name, producer, epoch, place, timeout, now, yes⟩) by unfold decideF; rw [HRT.out]; rfl)
    go_enter Try.func20, Try.ntmps20
    go_wp2_with (first | (go_at_call 35; refine (none_c HD.out.bi).mono ?_; rintro e w' ⟨rfl, rfl⟩) | (go_at_call 38; refine (HR.out _).mono ?_; rintro e w2 ⟨rfl, hb2⟩; rw [HRT.out]; have HD2 := Aside0.mk (HD.out.move hb2); clear hb2 y0 y1 y2 y3 y4 y5 y6 y7; have x1 := (blk_cell HD2.out.box 1).trans rfl; have x5 := (blk_cell HD2.out.box 5).trans rfl; have x6 := (blk_cell HD2.out.box 6).trans rfl; have x0 := (blk_cell HD2.out.box 0).trans rfl; have x2 := (blk_cell HD2.out.box 2).trans rfl; have x3 := (blk_cell HD2.out.box 3).trans rfl; have x4 := (blk_cell HD2.out.box 4).trans rfl; have x7 := (blk_cell HD2.out.box 7).trans rfl; have r1 := (blk_cell HD2.out.r1 0).trans rfl; have r2 := (blk_cell HD2.out.r2 0).trans rfl; have f1 := blk_frozen HD2.out.r1 0; have f2 := blk_frozen HD2.out.r2 0) | (go_at_call 39; refine (grant_c HD2.out.bi HG.out ⟨1, name, producer, epoch, place, timeout, now, yes⟩).mono ?_; rintro e w3 ⟨rfl, hb3⟩; have HD3 := Aside0.mk (HD2.out.move hb3); clear hb3 r1 r2 f1 f2; have r1 := (blk_cell HD3.out.r1 0).trans rfl; have r2 := (blk_cell HD3.out.r2 0).trans rfl; have f1 := blk_frozen HD3.out.r1 0; have f2 := blk_frozen HD3.out.r2 0) | fail)
    exact HD3.out.out _ _ rfl rfl HF.out
  have hk1 : (kind == 1) = false := beq_eq_false_iff_ne.2 (by omega)
  have hk5 : (kind == 5) = false := beq_eq_false_iff_ne.2 (by omega)
  obtain ⟨j, rfl⟩ := Int.eq_ofNat_of_zero_le hpr.1
  by_cases hj0 : ps.length ≤ j
  · have hjc : (ps.length : Int) ≤ (j : Int) := by omega
    have HF := Aside0.mk (show decideF ps ⟨kind, name, j, epoch, place, timeout, now, yes⟩ = (false, 3) by unfold decideF; rw [HRT.out, if_pos rfl, if_neg (show ¬ kind = 1 by omega), if_neg (show ¬ kind = 5 by omega), if_pos (show (ps.length : Int) ≤ (j : Int) from hjc)])
    go_enter Try.func20, Try.ntmps20
    go_wp2_with (first | (go_at_call 35; refine (none_c HD.out.bi).mono ?_; rintro e w' ⟨rfl, rfl⟩) | (go_at_call 38; refine (HR.out _).mono ?_; rintro e w2 ⟨rfl, hb2⟩; rw [HRT.out]; have HD2 := Aside0.mk (HD.out.move hb2); clear hb2 y0 y1 y2 y3 y4 y5 y6 y7; have x0 := (blk_cell HD2.out.box 0).trans rfl; have x2 := (blk_cell HD2.out.box 2).trans rfl; have x3 := (blk_cell HD2.out.box 3).trans rfl; have x4 := (blk_cell HD2.out.box 4).trans rfl; have x7 := (blk_cell HD2.out.box 7).trans rfl; have r1 := (blk_cell HD2.out.r1 0).trans rfl; have r2 := (blk_cell HD2.out.r2 0).trans rfl; have f1 := blk_frozen HD2.out.r1 0; have f2 := blk_frozen HD2.out.r2 0; obtain ⟨A2, c2, B2, b0, -, -, -, -, hrow2⟩ := HD2.out.bi.cells) | fail)
    go_quiet (fail)
    go_wp2_with fail
    exact (HD2.out.move (pw_below_drewN (Below.refl _ _) nq)).out false 3 rfl rfl HF.out
  have hj : j < ps.length := by omega
  have hjc : (j : Int) < (ps.length : Int) := by omega
  have HF := Aside0.mk (show decideF ps ⟨kind, name, j, epoch, place, timeout, now, yes⟩ = doneF (ps.getD j prod0) ⟨kind, name, j, epoch, place, timeout, now, yes⟩ by unfold decideF; rw [HRT.out, if_pos rfl, if_neg (show ¬ kind = 1 by omega), if_neg (show ¬ kind = 5 by omega), if_neg (show ¬ (ps.length : Int) ≤ (j : Int) by omega)]; unfold prodAt; rw [Int.toNat_natCast])
  have hgp := HG.out.at_ hj
  have hst := hgp.st
  have hlen := hgp.len
  have HGP := Aside0.mk hgp
  clear hgp hj0
  generalize hP : ps.getD j prod0 = p at HF hst hlen HGP
  have HP := Aside0.mk hP
  clear hP
  obtain ⟨g, hgg⟩ : ∃ g, gs.getD j 0 = g := ⟨_, rfl⟩
  have HGG := Aside0.mk hgg
  clear hgg
  go_enter Try.func20, Try.ntmps20
  go_wp2_with (first | (go_at_call 35; refine (none_c HD.out.bi).mono ?_; rintro e w' ⟨rfl, rfl⟩) | (go_at_call 38; refine (HR.out _).mono ?_; rintro e w2 ⟨rfl, hb2⟩; rw [HRT.out]; have HD2 := Aside0.mk (HD.out.move hb2); clear hb2 y0 y1 y2 y3 y4 y5 y6 y7; have x0 := (blk_cell HD2.out.box 0).trans rfl; have x2 := (blk_cell HD2.out.box 2).trans rfl; have x3 := (blk_cell HD2.out.box 3).trans rfl; have x4 := (blk_cell HD2.out.box 4).trans rfl; have x7 := (blk_cell HD2.out.box 7).trans rfl; have r1 := (blk_cell HD2.out.r1 0).trans rfl; have r2 := (blk_cell HD2.out.r2 0).trans rfl; have f1 := blk_frozen HD2.out.r1 0; have f2 := blk_frozen HD2.out.r2 0; obtain ⟨A2, c2, B2, b0, -, -, -, -, hrow2⟩ := HD2.out.bi.cells) | fail)
  obtain ⟨ad2, hA2, hcell⟩ := hrow2 j hj
  subst hA2
  rw [HGG.out] at hcell
  go_quiet (fail)
  clear b0 hcell hrow2 x0 x2 x3 x4 x7 r1 r2 f1 f2
  have HD3 := Aside0.mk (HD2.out.move (pw_below_drewN (Below.refl _ _) nq))
  generalize w2.drewN nq = w3 at HD3 ⊢
  have x0 := (blk_cell HD3.out.box 0).trans rfl
  have x2 := (blk_cell HD3.out.box 2).trans rfl
  have x3 := (blk_cell HD3.out.box 3).trans rfl
  have x4 := (blk_cell HD3.out.box 4).trans rfl
  have x7 := (blk_cell HD3.out.box 7).trans rfl
  have r1 := (blk_cell HD3.out.r1 0).trans rfl
  have r2 := (blk_cell HD3.out.r2 0).trans rfl
  have f1 := blk_frozen HD3.out.r1 0
  have f2 := blk_frozen HD3.out.r2 0
  obtain ⟨A3, c3, B3, b0, -, -, -, -, hrow3⟩ := HD3.out.bi.cells
  obtain ⟨ad3, hA3, hcell⟩ := hrow3 j hj
  subst hA3
  rw [HGG.out] at hcell
  go_wp2_with fail
  go_quiet (fail)
  clear b0 hcell hrow3 x0 x2 x3 x4 x7 r1 r2 f1 f2
  have HD4 := Aside0.mk (HD3.out.move (pw_below_drewN (Below.refl _ _) nq))
  generalize w3.drewN nq = w4 at HD4 ⊢
  have x0 := (blk_cell HD4.out.box 0).trans rfl
  have x2 := (blk_cell HD4.out.box 2).trans rfl
  have x3 := (blk_cell HD4.out.box 3).trans rfl
  have x4 := (blk_cell HD4.out.box 4).trans rfl
  have x7 := (blk_cell HD4.out.box 7).trans rfl
  have r1 := (blk_cell HD4.out.r1 0).trans rfl
  have r2 := (blk_cell HD4.out.r2 0).trans rfl
  have f1 := blk_frozen HD4.out.r1 0
  have f2 := blk_frozen HD4.out.r2 0
  obtain ⟨-, v4, hb4, hv4⟩ := HD4.out.bi.prod j hj
  rw [HP.out, HGG.out] at hb4
  rw [HP.out] at hv4
  obtain ⟨Av4, cv4, rfl⟩ := Kd.R_slice hv4
  have PB4 := Aside0.mk hb4
  have PV4 := Aside0.mk hv4
  have p2 : w4.cell? ⟨g, 2, none⟩ = some (.int .i64 p.epoch) := (blk_cell hb4 2).trans rfl
  have p3 : w4.cell? ⟨g, 3, none⟩ = some (.int .i64 p.status) := (blk_cell hb4 3).trans rfl
  have p5 : w4.cell? ⟨g, 5, none⟩ = some (.slice Av4 p.places.length cv4) := (blk_cell hb4 5).trans rfl
  clear hb4 hv4
  go_wp2_with fail
  go_quiet ((go_at_call 41; exact Calls.quiet_of_same (contains_c (Kd.R_drewN PV4.out _) place hlen)))
  clear p2 p3 p5 x0 x2 x3 x4 x7 r1 r2 f1 f2
  have HD5 := Aside0.mk (HD4.out.move (pw_below_drewN (Below.refl _ _) nq))
  generalize w4.drewN nq = w5 at HD5 ⊢
  have x0 := (blk_cell HD5.out.box 0).trans rfl
  have x2 := (blk_cell HD5.out.box 2).trans rfl
  have x3 := (blk_cell HD5.out.box 3).trans rfl
  have x4 := (blk_cell HD5.out.box 4).trans rfl
  have x7 := (blk_cell HD5.out.box 7).trans rfl
  have r1 := (blk_cell HD5.out.r1 0).trans rfl
  have r2 := (blk_cell HD5.out.r2 0).trans rfl
  have f1 := blk_frozen HD5.out.r1 0
  have f2 := blk_frozen HD5.out.r2 0
  obtain ⟨-, v5, hb5, hv5⟩ := HD5.out.bi.prod j hj
  rw [HP.out, HGG.out] at hb5
  rw [HP.out] at hv5
  obtain ⟨Av5, cv5, rfl⟩ := Kd.R_slice hv5
  have PB5 := Aside0.mk hb5
  have PV5 := Aside0.mk hv5
  have p2 : w5.cell? ⟨g, 2, none⟩ = some (.int .i64 p.epoch) := (blk_cell hb5 2).trans rfl
  have p3 : w5.cell? ⟨g, 3, none⟩ = some (.int .i64 p.status) := (blk_cell hb5 3).trans rfl
  have p5 : w5.cell? ⟨g, 5, none⟩ = some (.slice Av5 p.places.length cv5) := (blk_cell hb5 5).trans rfl
  clear hb5 hv5
  obtain ⟨has, hhas⟩ : ∃ b, decide (place ∈ p.places) = b := ⟨_, rfl⟩
  rw [hhas]
  have HHAS := Aside0.mk hhas
  clear hhas
  go_wp2_with fail
  go_quiet (fail)
  clear p2 p3 p5 x0 x2 x3 x4 x7 r1 r2 f1 f2
  have HD6 := Aside0.mk (HD5.out.move (pw_below_drewN (Below.refl _ _) nq))
  generalize w5.drewN nq = w6 at HD6 ⊢
  have x0 := (blk_cell HD6.out.box 0).trans rfl
  have x2 := (blk_cell HD6.out.box 2).trans rfl
  have x3 := (blk_cell HD6.out.box 3).trans rfl
  have x4 := (blk_cell HD6.out.box 4).trans rfl
  have x7 := (blk_cell HD6.out.box 7).trans rfl
  have r1 := (blk_cell HD6.out.r1 0).trans rfl
  have r2 := (blk_cell HD6.out.r2 0).trans rfl
  have f1 := blk_frozen HD6.out.r1 0
  have f2 := blk_frozen HD6.out.r2 0
  obtain ⟨-, v6, hb6, hv6⟩ := HD6.out.bi.prod j hj
  rw [HP.out, HGG.out] at hb6
  rw [HP.out] at hv6
  obtain ⟨Av6, cv6, rfl⟩ := Kd.R_slice hv6
  have PB6 := Aside0.mk hb6
  have PV6 := Aside0.mk hv6
  have p2 : w6.cell? ⟨g, 2, none⟩ = some (.int .i64 p.epoch) := (blk_cell hb6 2).trans rfl
  have p3 : w6.cell? ⟨g, 3, none⟩ = some (.int .i64 p.status) := (blk_cell hb6 3).trans rfl
  have p5 : w6.cell? ⟨g, 5, none⟩ = some (.slice Av6 p.places.length cv6) := (blk_cell hb6 5).trans rfl
  clear hb6 hv6
  obtain ⟨en, hen⟩ : ∃ b, endsP p = b := ⟨_, rfl⟩
  have HEN := Aside0.mk hen
  clear hen
  clear hk1 hk5
  by_cases hepo : p.epoch = epoch
  rotate_left
  · have hne : (p.epoch != epoch) = true := bne_iff_ne.2 hepo
    have HFF := Aside0.mk (HF.out.trans (show doneF p ⟨kind, name, (j : Int), epoch, place, timeout, now, yes⟩ = (false, 50) by unfold doneF; rw [if_pos (show p.epoch ≠ epoch from hepo)]))
    go_wp2_with (first | (go_at_call 42; refine (ends_c g p _ _ PB6.out).mono ?_; rintro e w' ⟨rfl, rfl⟩; rw [HEN.out]) | fail)
    exact HD6.out.out false 50 rfl rfl HFF.out
  subst hepo
  have hne : (p.epoch != p.epoch) = false := bne_self_eq_false _
  rcases hk with rfl | rfl | rfl
  · cases en with
    | true =>
      have HFF := Aside0.mk (HF.out.trans (show doneF p ⟨2, name, (j : Int), p.epoch, place, timeout, now, yes⟩ = (false, 54) by unfold doneF; rw [if_neg (show ¬ p.epoch ≠ p.epoch from fun h => h rfl)]; rw [if_neg (show ¬ (2 : Int) = 4 by decide), if_pos (show (2 : Int) = 2 from rfl), HEN.out, if_pos rfl]))
      go_wp2_with (first | (go_at_call 42; refine (ends_c g p _ _ PB6.out).mono ?_; rintro e w' ⟨rfl, rfl⟩; rw [HEN.out]) | fail)
      exact HD6.out.out false 54 rfl rfl HFF.out
    | false =>
      cases has with
      | true =>
        have HFF := Aside0.mk (HF.out.trans (show doneF p ⟨2, name, (j : Int), p.epoch, place, timeout, now, yes⟩ = (true, 0) by unfold doneF; rw [if_neg (show ¬ p.epoch ≠ p.epoch from fun h => h rfl)]; rw [if_neg (show ¬ (2 : Int) = 4 by decide), if_pos (show (2 : Int) = 2 from rfl), HEN.out, if_neg (show ¬ false = true by decide)]; rw [if_pos (show place ∈ p.places from of_decide_eq_true HHAS.out)]))
        go_wp2_with (first | (go_at_call 42; refine (ends_c g p _ _ PB6.out).mono ?_; rintro e w' ⟨rfl, rfl⟩; rw [HEN.out]) | fail)
        exact HD6.out.out true 0 rfl rfl HFF.out
      | false =>
        by_cases h100 : 100 ≤ p.places.length
        · have h100' : (100 : Int) ≤ (p.places.length : Int) := by omega
          have HFF := Aside0.mk (HF.out.trans (show doneF p ⟨2, name, (j : Int), p.epoch, place, timeout, now, yes⟩ = (false, 7) by unfold doneF; rw [if_neg (show ¬ p.epoch ≠ p.epoch from fun h => h rfl)]; rw [if_neg (show ¬ (2 : Int) = 4 by decide), if_pos (show (2 : Int) = 2 from rfl), HEN.out, if_neg (show ¬ false = true by decide)]; rw [if_neg (show ¬ place ∈ p.places from of_decide_eq_false HHAS.out)]; rw [if_pos h100]))
          go_wp2_with (first | (go_at_call 42; refine (ends_c g p _ _ PB6.out).mono ?_; rintro e w' ⟨rfl, rfl⟩; rw [HEN.out]) | fail)
          exact HD6.out.out false 7 rfl rfl HFF.out
        · have h100' : ¬ (100 : Int) ≤ (p.places.length : Int) := by omega
          have HFF := Aside0.mk (HF.out.trans (show doneF p ⟨2, name, (j : Int), p.epoch, place, timeout, now, yes⟩ = (false, 0) by unfold doneF; rw [if_neg (show ¬ p.epoch ≠ p.epoch from fun h => h rfl)]; rw [if_neg (show ¬ (2 : Int) = 4 by decide), if_pos (show (2 : Int) = 2 from rfl), HEN.out, if_neg (show ¬ false = true by decide)]; rw [if_neg (show ¬ place ∈ p.places from of_decide_eq_false HHAS.out)]; rw [if_neg h100]))
          go_wp2_with (first | (go_at_call 42; refine (ends_c g p _ _ PB6.out).mono ?_; rintro e w' ⟨rfl, rfl⟩; rw [HEN.out]) | fail)
          exact HD6.out.out false 0 rfl rfl HFF.out
  · by_cases hs1 : p.status = 1
    · rw [hs1] at p3
      have HFF := Aside0.mk (HF.out.trans (show doneF p ⟨3, name, (j : Int), p.epoch, place, timeout, now, yes⟩ = (false, 0) by unfold doneF; rw [if_neg (show ¬ p.epoch ≠ p.epoch from fun h => h rfl)]; rw [if_neg (show ¬ (3 : Int) = 4 by decide), if_neg (show ¬ (3 : Int) = 2 by decide)]; rw [if_pos hs1]))
      go_wp2_with (first | (go_at_call 42; refine (ends_c g p _ _ PB6.out).mono ?_; rintro e w' ⟨rfl, rfl⟩; rw [HEN.out]) | fail)
      exact HD6.out.out false 0 rfl rfl HFF.out
    have hs1' : (p.status == 1) = false := beq_eq_false_iff_ne.2 hs1
    by_cases hs0 : p.status = 0
    · rw [hs0] at p3
      have HFF := Aside0.mk (HF.out.trans (show doneF p ⟨3, name, (j : Int), p.epoch, place, timeout, now, yes⟩ = (true, 0) by unfold doneF; rw [if_neg (show ¬ p.epoch ≠ p.epoch from fun h => h rfl)]; rw [if_neg (show ¬ (3 : Int) = 4 by decide), if_neg (show ¬ (3 : Int) = 2 by decide)]; rw [if_neg hs1, if_pos hs0]))
      go_wp2_with (first | (go_at_call 42; refine (ends_c g p _ _ PB6.out).mono ?_; rintro e w' ⟨rfl, rfl⟩; rw [HEN.out]) | fail)
      go_quiet (fail)
      go_wp2_with fail
      exact (HD6.out.move (pw_below_drewN (Below.refl _ _) nq)).out true 0 rfl rfl HFF.out
    have hs0' : (p.status == 0) = false := beq_eq_false_iff_ne.2 hs0
    by_cases hy : yes = decide (p.status = 2)
    · have hy' : (yes == (p.status == 2)) = true := by rw [hy]; exact beq_self_eq_true _
      have HFF := Aside0.mk (HF.out.trans (show doneF p ⟨3, name, (j : Int), p.epoch, place, timeout, now, yes⟩ = (true, 0) by unfold doneF; rw [if_neg (show ¬ p.epoch ≠ p.epoch from fun h => h rfl)]; rw [if_neg (show ¬ (3 : Int) = 4 by decide), if_neg (show ¬ (3 : Int) = 2 by decide)]; rw [if_neg hs1, if_neg hs0, if_pos hy]))
      clear hy
      go_wp2_with (first | (go_at_call 42; refine (ends_c g p _ _ PB6.out).mono ?_; rintro e w' ⟨rfl, rfl⟩; rw [HEN.out]) | fail)
      go_quiet (fail)
      go_wp2_with fail
      exact (HD6.out.move (pw_below_drewN (Below.refl _ _) nq)).out true 0 rfl rfl HFF.out
    · have hy' : (yes == (p.status == 2)) = false := beq_eq_false_iff_ne.2 hy
      have HFF := Aside0.mk (HF.out.trans (show doneF p ⟨3, name, (j : Int), p.epoch, place, timeout, now, yes⟩ = (false, 54) by unfold doneF; rw [if_neg (show ¬ p.epoch ≠ p.epoch from fun h => h rfl)]; rw [if_neg (show ¬ (3 : Int) = 4 by decide), if_neg (show ¬ (3 : Int) = 2 by decide)]; rw [if_neg hs1, if_neg hs0, if_neg hy]))
      clear hy
      go_wp2_with (first | (go_at_call 42; refine (ends_c g p _ _ PB6.out).mono ?_; rintro e w' ⟨rfl, rfl⟩; rw [HEN.out]) | fail)
      go_quiet (fail)
      go_wp2_with fail
      exact (HD6.out.move (pw_below_drewN (Below.refl _ _) nq)).out false 54 rfl rfl HFF.out
  · cases en with
    | true =>
      cases has with
      | true =>
        have HFF := Aside0.mk (HF.out.trans (show doneF p ⟨4, name, (j : Int), p.epoch, place, timeout, now, yes⟩ = (false, 0) by unfold doneF; rw [if_neg (show ¬ p.epoch ≠ p.epoch from fun h => h rfl)]; rw [if_pos (show (4 : Int) = 4 from rfl), HEN.out]; show (_ || !decide (place ∈ p.places), (0 : Int)) = _; rw [HHAS.out]; rfl))
        go_wp2_with (first | (go_at_call 42; refine (ends_c g p _ _ PB6.out).mono ?_; rintro e w' ⟨rfl, rfl⟩; rw [HEN.out]) | fail)
        exact HD6.out.out false 0 rfl rfl HFF.out
      | false =>
        have HFF := Aside0.mk (HF.out.trans (show doneF p ⟨4, name, (j : Int), p.epoch, place, timeout, now, yes⟩ = (true, 0) by unfold doneF; rw [if_neg (show ¬ p.epoch ≠ p.epoch from fun h => h rfl)]; rw [if_pos (show (4 : Int) = 4 from rfl), HEN.out]; show (_ || !decide (place ∈ p.places), (0 : Int)) = _; rw [HHAS.out]; rfl))
        go_wp2_with (first | (go_at_call 42; refine (ends_c g p _ _ PB6.out).mono ?_; rintro e w' ⟨rfl, rfl⟩; rw [HEN.out]) | fail)
        exact HD6.out.out true 0 rfl rfl HFF.out
    | false =>
      have HFF := Aside0.mk (HF.out.trans (show doneF p ⟨4, name, (j : Int), p.epoch, place, timeout, now, yes⟩ = (true, 0) by unfold doneF; rw [if_neg (show ¬ p.epoch ≠ p.epoch from fun h => h rfl)]; rw [if_pos (show (4 : Int) = 4 from rfl), HEN.out]; show (_ || !decide (place ∈ p.places), (0 : Int)) = _; rw [HHAS.out]; rfl))
      go_wp2_with (first | (go_at_call 42; refine (ends_c g p _ _ PB6.out).mono ?_; rintro e w' ⟨rfl, rfl⟩; rw [HEN.out]) | fail)
      exact HD6.out.out true 0 rfl rfl HFF.out
end Go.Proofs.Ytofegigbhohebaa.Hand
