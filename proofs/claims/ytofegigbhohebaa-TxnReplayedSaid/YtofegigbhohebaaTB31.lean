/- The states of the first six. -/
import Derived.Test.YtofegigbhohebaaTB30
import Derived.Test.YtofegigbhohebaaTB21
namespace Go.Proofs.Ytofegigbhohebaa.Hand
open Go.RowKit Go.Proofs.Ytofegigbhohebaa Go.Proofs.YtofegigbhohebaaW.PrintWords Go.Proofs.YtofegigbhohebaaW.PrintLast
set_option linter.unusedVariables false
set_option linter.unusedSimpArgs false
variable {own : Nat → Nat} {gb : Nat} {gs : List Nat} {ps : List ProdV} {w w' : World}
def stS (ps : List ProdV) (i m : Nat) : Value := if i < m then .int .i64 (statusF ps i).1 else .int .i64 0
def stP (ps : List ProdV) (i m : Nat) : Value := if i < m then .int .i64 (statusF ps i).2.1 else .int .i64 0
def stK (ps : List ProdV) (i m : Nat) : Value := if i < m then .bool (statusF ps i).2.2 else .bool false
/-- The cells of an array of states, of which the first m are told. -/
def stA (ps : List ProdV) (m : Nat) : Array Value :=
  #[stS ps 0 m, stP ps 0 m, stK ps 0 m, stS ps 1 m, stP ps 1 m, stK ps 1 m, stS ps 2 m, stP ps 2 m, stK ps 2 m, stS ps 3 m, stP ps 3 m, stK ps 3 m, stS ps 4 m, stP ps 4 m, stK ps 4 m, stS ps 5 m, stP ps 5 m, stK ps 5 m]
theorem other3 {w : World} {b c : Nat} (i j k : Nat) (u v x : Value) (h : c ≠ b) : (((w.setCell ⟨b, i, none⟩ u).setCell ⟨b, j, none⟩ v).setCell ⟨b, k, none⟩ x).heap[c]? = w.heap[c]? :=
  (Below.heap_setCell _ _ _ c h).trans ((Below.heap_setCell _ _ _ c h).trans (Below.heap_setCell _ _ _ c h))
theorem info28 : (Try.prog.info? 28).map (·.size) = some (stA ps 6).size := by
  show _ = some 18
  kernel_rfl
theorem stS_one (ps : List ProdV) (i m : Nat) : (stS ps i m).oneCell' = true ∧ (stP ps i m).oneCell' = true ∧ (stK ps i m).oneCell' = true := by
  unfold stS stP stK
  refine ⟨?_, ?_, ?_⟩ <;> split <;> rfl
theorem stA_one (ps : List ProdV) (m : Nat) : (stA ps m).all (·.oneCell') = true := by
  unfold stA
  simp [stS_one]
set_option maxRecDepth 100000 in
theorem states_c (h : BI own gb gs ps w) : Calls Try.prog 14 #[.pointer (some ⟨gb, 0, none⟩)] w fun e w' => e = .returned (.agg (stA ps 6)) ∧ Below w.heap.size w w' := by
  have HI := Aside0.mk h
  clear h
  go_enter Try.func14, Try.ntmps14
  go_wp2_with fail
  have hb := below_alloc (below_alloc (Below.refl w.heap.size w) (.cells (stA ps 0) 28 (0, 0))) (.cells (stA ps 0) 28 (0, 0))
  have hs1 : (w.alloc (.cells (stA ps 0) 28 (0, 0))).heap.size = w.heap.size + 1 := Array.size_push _
  have h1 := blk_alloc (heap_alloc_new w (.cells (stA ps 0) 28 (0, 0))) (.cells (stA ps 0) 28 (0, 0))
  have h2 := heap_alloc_new (w.alloc (.cells (stA ps 0) 28 (0, 0))) (.cells (stA ps 0) 28 (0, 0))
  rw [hs1] at h2
  have H0 := Aside0.mk (And.intro hb (And.intro h1 h2))
  clear hb h1 h2 hs1
  go_loopw [4, 5, 6, 7] (fun i u5 u6 u7 wr => ∃ m : Nat, m ≤ 6 ∧ i = .int .i64 (m : Int) ∧ Below w.heap.size w wr ∧ wr.heap[w.heap.size]? = some (.cells (stA ps 0) 28 (0, 0)) ∧ wr.heap[w.heap.size + 1]? = some (.cells (stA ps m) 28 (0, 0))) (fun i _ _ _ _ => 6 - (intOf i).toNat)
  case atStart => exact ⟨0, by decide, rfl, H0.out⟩
  case round =>
    obtain ⟨m, hm, rfl, hb, h1, h2⟩ := hrel
    have HB := Aside0.mk hb
    have H1 := Aside0.mk h1
    have H2 := Aside0.mk h2
    clear hb h1 h2 H0
    by_cases hm6 : m = 6
    · subst hm6
      go_wp2_with (first
        | (refine gate_ (.load 28 (.tmp 3)) rfl ?_; refine wpList_load_row rfl 28 (.tmp 3) rfl (w.heap.size + 1) rfl 28 (stA ps 6) (0, 0) _ H2.out Try.underlying28 rfl info28 ?_)
        | (refine gate_ (.store 28 (.tmp 2) (.tmp 25)) rfl ?_; refine wpList_store_row rfl 28 (.tmp 2) (.tmp 25) rfl w.heap.size (stA ps 6) rfl rfl 28 (stA ps 0) H1.out info28 rfl (stA_one ps 6) ?_))
      have hrw := setRow_heap wr w.heap.size (stA ps 0) (stA ps 6) 28 (0, 0) H1.out
      refine bodyPost_ret (v := .agg (stA ps 6)) (results_cell_row Try.results14 _ _ w.heap.size 28 (stA ps 6) (0, 0) _ rfl hrw Try.underlying28 rfl info28) rfl ⟨rfl, ?_⟩
      exact ⟨HB.out.os, HB.out.tape, HB.out.output, by rw [show (wr.setRow w.heap.size (stA ps 6)).heap.size = wr.heap.size by simp [World.setRow]]; exact HB.out.size, fun k hk => by
        refine Eq.trans ?_ (HB.out.block k hk)
        simp only [World.setRow]
        rw [Array.getElem?_modify, if_neg (by omega)]⟩
    · have HS := Aside0.mk (status_c (HI.out.below HB.out) (m : Int))
      have hmc : (m : Int) < 6 := by omega
      rcases (show m = 0 ∨ m = 1 ∨ m = 2 ∨ m = 3 ∨ m = 4 ∨ m = 5 by omega) with rfl | rfl | rfl | rfl | rfl | rfl
      · go_wp2_with (go_at_call 18; refine HS.out.mono ?_; rintro e w2 ⟨rfl, hb2⟩; have HB2 := Aside0.mk (below_step HB.out hb2); have G1 := Aside0.mk (blk_below H1.out hb2); have g2 := blk_below H2.out hb2; clear hb2; have c0 : w2.cell? ⟨w.heap.size + 1, 0, none⟩ = some (.int .i64 0) := (blk_cell g2 0).trans rfl; have f0 := blk_frozen g2 0; have g3 := blk_put g2 0 (.int .i64 (statusF ps 0).1) rfl; have c1 : (w2.setCell ⟨w.heap.size + 1, 0, none⟩ (.int .i64 (statusF ps 0).1)).cell? ⟨w.heap.size + 1, 1, none⟩ = some (.int .i64 0) := (blk_cell g3 1).trans rfl; have f1 := blk_frozen g3 1; have g4 := blk_put g3 1 (.int .i64 (statusF ps 0).2.1) rfl; have c2 : ((w2.setCell ⟨w.heap.size + 1, 0, none⟩ (.int .i64 (statusF ps 0).1)).setCell ⟨w.heap.size + 1, 1, none⟩ (.int .i64 (statusF ps 0).2.1)).cell? ⟨w.heap.size + 1, 2, none⟩ = some (.bool false) := (blk_cell g4 2).trans rfl; have f2 := blk_frozen g4 2; have G5 := Aside0.mk (blk_put g4 2 (.bool (statusF ps 0).2.2) rfl); clear g2 g3 g4)
        exact ⟨⟨1, by decide, rfl, ((HB2.out.setCell (p := ⟨w.heap.size + 1, 0, none⟩) (by simp) _).setCell (p := ⟨w.heap.size + 1, 1, none⟩) (by simp) _).setCell (p := ⟨w.heap.size + 1, 2, none⟩) (by simp) _, (other3 _ _ _ _ _ _ (by omega)).trans G1.out, G5.out⟩, by decide⟩
      · go_wp2_with (go_at_call 18; refine HS.out.mono ?_; rintro e w2 ⟨rfl, hb2⟩; have HB2 := Aside0.mk (below_step HB.out hb2); have G1 := Aside0.mk (blk_below H1.out hb2); have g2 := blk_below H2.out hb2; clear hb2; have c0 : w2.cell? ⟨w.heap.size + 1, 3, none⟩ = some (.int .i64 0) := (blk_cell g2 3).trans rfl; have f0 := blk_frozen g2 3; have g3 := blk_put g2 3 (.int .i64 (statusF ps 1).1) rfl; have c1 : (w2.setCell ⟨w.heap.size + 1, 3, none⟩ (.int .i64 (statusF ps 1).1)).cell? ⟨w.heap.size + 1, 4, none⟩ = some (.int .i64 0) := (blk_cell g3 4).trans rfl; have f1 := blk_frozen g3 4; have g4 := blk_put g3 4 (.int .i64 (statusF ps 1).2.1) rfl; have c2 : ((w2.setCell ⟨w.heap.size + 1, 3, none⟩ (.int .i64 (statusF ps 1).1)).setCell ⟨w.heap.size + 1, 4, none⟩ (.int .i64 (statusF ps 1).2.1)).cell? ⟨w.heap.size + 1, 5, none⟩ = some (.bool false) := (blk_cell g4 5).trans rfl; have f2 := blk_frozen g4 5; have G5 := Aside0.mk (blk_put g4 5 (.bool (statusF ps 1).2.2) rfl); clear g2 g3 g4)
        exact ⟨⟨2, by decide, rfl, ((HB2.out.setCell (p := ⟨w.heap.size + 1, 3, none⟩) (by simp) _).setCell (p := ⟨w.heap.size + 1, 4, none⟩) (by simp) _).setCell (p := ⟨w.heap.size + 1, 5, none⟩) (by simp) _, (other3 _ _ _ _ _ _ (by omega)).trans G1.out, G5.out⟩, by decide⟩
      · go_wp2_with (go_at_call 18; refine HS.out.mono ?_; rintro e w2 ⟨rfl, hb2⟩; have HB2 := Aside0.mk (below_step HB.out hb2); have G1 := Aside0.mk (blk_below H1.out hb2); have g2 := blk_below H2.out hb2; clear hb2; have c0 : w2.cell? ⟨w.heap.size + 1, 6, none⟩ = some (.int .i64 0) := (blk_cell g2 6).trans rfl; have f0 := blk_frozen g2 6; have g3 := blk_put g2 6 (.int .i64 (statusF ps 2).1) rfl; have c1 : (w2.setCell ⟨w.heap.size + 1, 6, none⟩ (.int .i64 (statusF ps 2).1)).cell? ⟨w.heap.size + 1, 7, none⟩ = some (.int .i64 0) := (blk_cell g3 7).trans rfl; have f1 := blk_frozen g3 7; have g4 := blk_put g3 7 (.int .i64 (statusF ps 2).2.1) rfl; have c2 : ((w2.setCell ⟨w.heap.size + 1, 6, none⟩ (.int .i64 (statusF ps 2).1)).setCell ⟨w.heap.size + 1, 7, none⟩ (.int .i64 (statusF ps 2).2.1)).cell? ⟨w.heap.size + 1, 8, none⟩ = some (.bool false) := (blk_cell g4 8).trans rfl; have f2 := blk_frozen g4 8; have G5 := Aside0.mk (blk_put g4 8 (.bool (statusF ps 2).2.2) rfl); clear g2 g3 g4)
        exact ⟨⟨3, by decide, rfl, ((HB2.out.setCell (p := ⟨w.heap.size + 1, 6, none⟩) (by simp) _).setCell (p := ⟨w.heap.size + 1, 7, none⟩) (by simp) _).setCell (p := ⟨w.heap.size + 1, 8, none⟩) (by simp) _, (other3 _ _ _ _ _ _ (by omega)).trans G1.out, G5.out⟩, by decide⟩
      · go_wp2_with (go_at_call 18; refine HS.out.mono ?_; rintro e w2 ⟨rfl, hb2⟩; have HB2 := Aside0.mk (below_step HB.out hb2); have G1 := Aside0.mk (blk_below H1.out hb2); have g2 := blk_below H2.out hb2; clear hb2; have c0 : w2.cell? ⟨w.heap.size + 1, 9, none⟩ = some (.int .i64 0) := (blk_cell g2 9).trans rfl; have f0 := blk_frozen g2 9; have g3 := blk_put g2 9 (.int .i64 (statusF ps 3).1) rfl; have c1 : (w2.setCell ⟨w.heap.size + 1, 9, none⟩ (.int .i64 (statusF ps 3).1)).cell? ⟨w.heap.size + 1, 10, none⟩ = some (.int .i64 0) := (blk_cell g3 10).trans rfl; have f1 := blk_frozen g3 10; have g4 := blk_put g3 10 (.int .i64 (statusF ps 3).2.1) rfl; have c2 : ((w2.setCell ⟨w.heap.size + 1, 9, none⟩ (.int .i64 (statusF ps 3).1)).setCell ⟨w.heap.size + 1, 10, none⟩ (.int .i64 (statusF ps 3).2.1)).cell? ⟨w.heap.size + 1, 11, none⟩ = some (.bool false) := (blk_cell g4 11).trans rfl; have f2 := blk_frozen g4 11; have G5 := Aside0.mk (blk_put g4 11 (.bool (statusF ps 3).2.2) rfl); clear g2 g3 g4)
        exact ⟨⟨4, by decide, rfl, ((HB2.out.setCell (p := ⟨w.heap.size + 1, 9, none⟩) (by simp) _).setCell (p := ⟨w.heap.size + 1, 10, none⟩) (by simp) _).setCell (p := ⟨w.heap.size + 1, 11, none⟩) (by simp) _, (other3 _ _ _ _ _ _ (by omega)).trans G1.out, G5.out⟩, by decide⟩
      · go_wp2_with (go_at_call 18; refine HS.out.mono ?_; rintro e w2 ⟨rfl, hb2⟩; have HB2 := Aside0.mk (below_step HB.out hb2); have G1 := Aside0.mk (blk_below H1.out hb2); have g2 := blk_below H2.out hb2; clear hb2; have c0 : w2.cell? ⟨w.heap.size + 1, 12, none⟩ = some (.int .i64 0) := (blk_cell g2 12).trans rfl; have f0 := blk_frozen g2 12; have g3 := blk_put g2 12 (.int .i64 (statusF ps 4).1) rfl; have c1 : (w2.setCell ⟨w.heap.size + 1, 12, none⟩ (.int .i64 (statusF ps 4).1)).cell? ⟨w.heap.size + 1, 13, none⟩ = some (.int .i64 0) := (blk_cell g3 13).trans rfl; have f1 := blk_frozen g3 13; have g4 := blk_put g3 13 (.int .i64 (statusF ps 4).2.1) rfl; have c2 : ((w2.setCell ⟨w.heap.size + 1, 12, none⟩ (.int .i64 (statusF ps 4).1)).setCell ⟨w.heap.size + 1, 13, none⟩ (.int .i64 (statusF ps 4).2.1)).cell? ⟨w.heap.size + 1, 14, none⟩ = some (.bool false) := (blk_cell g4 14).trans rfl; have f2 := blk_frozen g4 14; have G5 := Aside0.mk (blk_put g4 14 (.bool (statusF ps 4).2.2) rfl); clear g2 g3 g4)
        exact ⟨⟨5, by decide, rfl, ((HB2.out.setCell (p := ⟨w.heap.size + 1, 12, none⟩) (by simp) _).setCell (p := ⟨w.heap.size + 1, 13, none⟩) (by simp) _).setCell (p := ⟨w.heap.size + 1, 14, none⟩) (by simp) _, (other3 _ _ _ _ _ _ (by omega)).trans G1.out, G5.out⟩, by decide⟩
      · go_wp2_with (go_at_call 18; refine HS.out.mono ?_; rintro e w2 ⟨rfl, hb2⟩; have HB2 := Aside0.mk (below_step HB.out hb2); have G1 := Aside0.mk (blk_below H1.out hb2); have g2 := blk_below H2.out hb2; clear hb2; have c0 : w2.cell? ⟨w.heap.size + 1, 15, none⟩ = some (.int .i64 0) := (blk_cell g2 15).trans rfl; have f0 := blk_frozen g2 15; have g3 := blk_put g2 15 (.int .i64 (statusF ps 5).1) rfl; have c1 : (w2.setCell ⟨w.heap.size + 1, 15, none⟩ (.int .i64 (statusF ps 5).1)).cell? ⟨w.heap.size + 1, 16, none⟩ = some (.int .i64 0) := (blk_cell g3 16).trans rfl; have f1 := blk_frozen g3 16; have g4 := blk_put g3 16 (.int .i64 (statusF ps 5).2.1) rfl; have c2 : ((w2.setCell ⟨w.heap.size + 1, 15, none⟩ (.int .i64 (statusF ps 5).1)).setCell ⟨w.heap.size + 1, 16, none⟩ (.int .i64 (statusF ps 5).2.1)).cell? ⟨w.heap.size + 1, 17, none⟩ = some (.bool false) := (blk_cell g4 17).trans rfl; have f2 := blk_frozen g4 17; have G5 := Aside0.mk (blk_put g4 17 (.bool (statusF ps 5).2.2) rfl); clear g2 g3 g4)
        exact ⟨⟨6, by decide, rfl, ((HB2.out.setCell (p := ⟨w.heap.size + 1, 15, none⟩) (by simp) _).setCell (p := ⟨w.heap.size + 1, 16, none⟩) (by simp) _).setCell (p := ⟨w.heap.size + 1, 17, none⟩) (by simp) _, (other3 _ _ _ _ _ _ (by omega)).trans G1.out, G5.out⟩, by decide⟩
end Go.Proofs.Ytofegigbhohebaa.Hand
