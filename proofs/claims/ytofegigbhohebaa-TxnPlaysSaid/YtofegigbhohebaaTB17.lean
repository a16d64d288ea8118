/- Todo: what is collected. -/
import Derived.Test.YtofegigbhohebaaTB16
import Derived.Maps.AppendAt
import Derived.RangeFuncBox
namespace Go.Proofs.Ytofegigbhohebaa.Hand
open Go.RowKit Go.Shelf Go.Proofs.Ytofegigbhohebaa Go.Proofs.YtofegigbhohebaaW.PrintWords Go.Proofs.YtofegigbhohebaaW.PrintLast
set_option linter.unusedVariables false
set_option linter.unusedSimpArgs false
attribute [local go_sem] Oper.semAt_some
theorem todos_stops (fnn : FuncId → Prop) (n : Nat) (h64 : fnn 64) (h42 : fnn 42) (hn : 1 ≤ n) (Bs : Nat) {own : Nat → Nat} {gb : Nat} {gs : List Nat} {ps : List ProdV} (w0 : World) (hB : BI own gb gs ps w0) (hG : Good ps) (w : World) (hw : Below w0.heap.size w0 w) (hBs : w.cell? ⟨Bs, 0, none⟩ = some (.pointer (some ⟨gb, 0, none⟩))) :
    SeqStopsK ({ fn := fnn, depth := none, alive := false } : Fence) n Try.prog 64 #[.pointer (some ⟨Bs, 0, none⟩)] (fun x : TdV => #[tdV x]) (Below w0.heap.size) (fun ys => ys = todosF ps) (fun pre => pre <+: todosF ps) (todosF ps).length w := fun l J Jx W hW hJ _ hY h0 =>
  todos1_in fnn n h64 h42 hn l Bs w0 hB hG J Jx hY (fun pre W h => hJ pre W W.drew none h ⟨rfl, rfl, rfl, Nat.le_refl _, fun _ _ _ => rfl⟩ (fun r e => by cases e)) W (hw.trans (hW.mono hw.size)) ((hW.cell (p := ⟨Bs, 0, none⟩) (World.block_lt_of_cell? w _ hBs)).trans hBs) h0
def tdC (t : TdV) : List Value := [.int .i64 t.producer, .int .i64 t.epoch, .int .i64 t.place, .bool t.yes]
def tdsC (l : List TdV) : List Value := l.flatMap tdC
theorem tdsC_snoc (l : List TdV) (x : TdV) : tdsC (l ++ [x]) = tdsC l ++ tdC x := by simp [tdsC]
theorem infoTd : (Try.prog.info? 46).map (fun i => (i.zero, i.size, i.bytes)) = some (some (.agg #[.int .i64 0, .int .i64 0, .int .i64 0, .bool false]), 4, 32) := by kernel_rfl
set_option maxRecDepth 100000 in
set_option maxHeartbeats 4000000 in
theorem appendSeq_in (fnn : FuncId → Prop) (n : Nat) (h63 : fnn 63) (h64 : fnn 64) (h42 : fnn 42) (hn : 6 ≤ n) (Bs : Nat) {own : Nat → Nat} {gb : Nat} {gs : List Nat} {ps : List ProdV} (w0 : World) (hB : BI own gb gs ps w0) (hG : Good ps) (w : World) (hw : Below w0.heap.size w0 w) (hBs : w.cell? ⟨Bs, 0, none⟩ = some (.pointer (some ⟨gb, 0, none⟩))) (hbig : (todosF ps).length ≤ 1000000) :
    CallsIn ({ fn := fnn, depth := none, alive := false } : Fence) n Try.prog 63 #[.slice none 0 0, .func (.func 64) #[] #[.pointer (some ⟨Bs, 0, none⟩)]] w fun e W' => ∃ v, e = .returned v ∧ W'.ownsRow w.heap.size 46 4 v (todosF ps).length (tdsC (todosF ps)) ∧ Below w.heap.size w W' := by
  have h1 : 1 ≤ n := by omega
  obtain ⟨i0, hi, hz0, hz1, hz2⟩ := info_parts infoTd
  refine callsIn_of_wp_marks Try.func63 rfl h63 ?_ rfl
  simp only [Try.ntmps63, List.size_toArray, List.length_cons, List.length_nil, Nat.reduceAdd, Nat.reduceSub, Array.replicate_succ, Array.replicate_zero, List.push_toArray, List.append_toArray, List.nil_append, List.cons_append]
  have bS := Boxed.new w 37 (.slice none 0 0)
  have hB0 : Below w.heap.size w (w.alloc (.cells #[.slice none 0 0] 37 (0, 0))) := below_alloc (Below.refl _ _) _
  have hsz : (w.alloc (.cells #[.slice none 0 0] 37 (0, 0))).heap.size = w.heap.size + 1 := by simp
  have HI := Aside0.mk hB
  have HG := Aside0.mk hG
  clear hB hG
  gi_wp2
  have hBs2 : (w.alloc (.cells #[.slice none 0 0] 37 (0, 0))).cell? ⟨Bs, 0, none⟩ = some (.pointer (some ⟨gb, 0, none⟩)) := (hB0.cell (p := ⟨Bs, 0, none⟩) (World.block_lt_of_cell? w _ hBs)).trans hBs
  have hle := hw.size
  generalize (w.alloc (.cells #[.slice none 0 0] 37 (0, 0))) = W0 at bS hB0 hsz hBs2 ⊢
  refine wpIn_rangeFunc_ownH rfl h1 (gf := 64) (lb := #[.pointer (some ⟨Bs, 0, none⟩)]) rfl h64 (enters_of Try.func64 (by kernel_rfl) rfl)
    (todos_stops fnn (n - 1) h64 h42 (by omega) Bs w0 HI.out HG.out W0 (hw.trans (hB0.mono hle)) hBs2) belowK_t (belowK_b (by omega)) (Below.refl _ _) (fun _ => rfl)
    (fun pre W => (∃ v, Boxed W w.heap.size 37 v ∧ W.ownsRow w.heap.size 46 4 v pre.length (tdsC pre) ∧ True) ∧ Below w.heap.size w W)
    (fun _ _ _ => False)
    (OwnFrom.and (Own.from (holdsRow_own w.heap.size w.heap.size 37 46 4 (fun pre => pre.length) (fun pre => tdsC pre) (fun _ _ => True)) _) (ownFrom_below (Nat.le_refl _) (by omega)))
    (fun _ => fun _ _ _ _ hs _ _ => hs)
    ⟨⟨_, bS, World.ownsRow_nil _ _ _ _, trivial⟩, hB0⟩
    (fun x a' W => ∃ Bx, w.heap.size < Bx ∧ W.heap[Bx]? = some (.cells (tdC x).toArray 46 (0, 0)) ∧ a' = { tmps := #[.slice none 0 0, .func (.func 64) #[] #[.pointer (some ⟨Bs, 0, none⟩)], .pointer (some ⟨w.heap.size, 0, none⟩), undef, .slice none 0 0, .pointer (some ⟨Bx, 0, none⟩), .func (.func 64) #[] #[.pointer (some ⟨Bs, 0, none⟩)], tdV x, undef, undef, undef, undef, undef], defers := [] })
    (fun x a' _ X Y row hs hg hr => by
      obtain ⟨Bx, g1, g2, g3⟩ := hs
      refine ⟨Bx, g1, (hg.block Bx (Array.getElem?_eq_some_iff.1 g2).1 (fun e => ?_)).trans g2, g3⟩
      obtain ⟨-, o, ho, hcx⟩ := hr Bx e.symm
      rw [g2] at ho; cases ho; cases hcx)
    ?assign ?body ?done ?stop
  case assign =>
    rintro l pre x W K ⟨⟨v, bv, hrow, -⟩, hB1⟩ hK
    have hlt := bv.lt
    have HK := Aside0.mk hK
    clear hK
    simp only [tdV]
    gi_wp2
    exact HK.out _ _ ((KeepsOthers.alloc _ _).from _) ((Below.refl _ W).alloc (by omega) _) ⟨⟨v, bv.alloc _, hrow.alloc _, trivial⟩, hB1.alloc hB1.size _⟩ ⟨W.heap.size, by omega, World.alloc_heap_new _ _, rfl⟩
  case body =>
    rintro l pre x a' W hl ⟨r, hr⟩ ⟨⟨v, bv, hrow, -⟩, hB1⟩ ⟨Bx, hBx, bX, rfl⟩ hlt
    have cS := bv.cell
    have fS := bv.frozen
    have c0 : W.cell? ⟨Bx, 0, none⟩ = some (.int .i64 x.producer) := (blk_cell bX 0).trans rfl
    have c1 : W.cell? ⟨Bx, 1, none⟩ = some (.int .i64 x.epoch) := (blk_cell bX 1).trans rfl
    have c2 : W.cell? ⟨Bx, 2, none⟩ = some (.int .i64 x.place) := (blk_cell bX 2).trans rfl
    have c3 : W.cell? ⟨Bx, 3, none⟩ = some (.bool x.yes) := (blk_cell bX 3).trans rfl
    have hBW := hB1.size
    have hls := bv.lt
    have hbX := blk_lt bX
    obtain ⟨vA, vn, vc, rfl⟩ : ∃ vA vn vc, v = .slice vA vn vc := by
      rcases hrow.2 with ⟨rfl, _⟩ | ⟨g, cap, cur, rfl, _⟩
      · exact ⟨_, _, _, rfl⟩
      · exact ⟨_, _, _, rfl⟩
    have hnews : ∀ j u, (tdC x)[j]? = some u → (W.alloc (.cells #[.int .i64 x.producer, .int .i64 x.epoch, .int .i64 x.place, .bool x.yes] 46)).cell? ((⟨W.heap.size, 0, none⟩ : Addr).add j) = some u := fun j u hj => by
      rw [add_, Nat.zero_add]
      refine (blk_cell (heap_alloc_new W _) j).trans ?_
      rw [← hj]
      show _ = (tdC x).toArray.toList[j]?
      rw [Array.getElem?_toList]
      rfl
    have HN := Aside0.mk hnews
    clear hnews
    have h1c : ∀ u ∈ tdC x, u.oneCell' = true := by
      intro u hu
      simp only [tdC, List.mem_cons, List.not_mem_nil, or_false] at hu
      rcases hu with rfl | rfl | rfl | rfl <;> rfl
    gi_wp2_with (gi_at_builtin; refine wpListIn_append_own _ rfl _ _ 37 rfl w.heap.size 46 i0 _ 4 32 Try.underlying37 hi hz0 hz1 hz2 rfl (by decide) _ _ _ rfl (hrow.alloc _) ⟨W.heap.size, 0, none⟩ 1 1 (tdC x) rfl rfl HN.out h1c (by simp only [maxLen]; omega) (by omega) (by simp; omega) ?_; intro v' w1 hown' hgrow _; obtain ⟨g', cap', rfl⟩ := ownsRow_succ hown'; obtain ⟨hv1, hv2, hr2, hk2, hb2⟩ := bv.appended (by decide) hrow hBW (Nat.le_refl _) hown' hgrow; have hc1 := hv1.cell; have hf1 := hv1.frozen)
    refine ⟨hk2.from _, ?_, ⟨⟨_, hv2, ?_, trivial⟩, hB1.trans hb2⟩⟩
    · exact hb2.mono hle
    · rw [tdsC_snoc, List.length_append]
      exact hr2
  case done =>
    rintro D ys W hD rfl ⟨⟨v, bv, hrow, -⟩, hB1⟩ hK
    have cS := bv.cell
    obtain ⟨vA, vn, vc, rfl⟩ : ∃ vA vn vc, v = .slice vA vn vc := by
      rcases hrow.2 with ⟨rfl, _⟩ | ⟨g, cap, cur, rfl, _⟩
      · exact ⟨_, _, _, rfl⟩
      · exact ⟨_, _, _, rfl⟩
    gi_wp2
    refine ⟨by simp, .inl ⟨_, _, rfl, run_takeDeferred hK, ?_⟩⟩
    exact ⟨_, results_tmp rfl _ _ _, _, rfl, ownsRow_putObj hrow _ hK rfl, hB1.trans (belowK_b (w := w) (Nat.le_refl _) W D _ _ (by omega) hK rfl rfl)⟩
  case stop =>
    rintro D c pre W _ _ h _
    exact h.elim
end Go.Proofs.Ytofegigbhohebaa.Hand
