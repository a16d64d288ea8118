/- Decide, of an Expire; Apply of any event. -/
import Derived.Test.YtofegigbhohebaaTB27
namespace Go.Proofs.Ytofegigbhohebaa.Hand
open Go.RowKit Go.Shelf Go.Proofs.Ytofegigbhohebaa Go.Proofs.YtofegigbhohebaaW.PrintWords Go.Proofs.YtofegigbhohebaaW.PrintLast
set_option linter.unusedVariables false
set_option linter.unusedSimpArgs false
attribute [local go_sem] Oper.semAt_some
variable {own : Nat → Nat} {gb : Nat} {gs : List Nat} {ps : List ProdV} {w w' : World}
section
variable {F : Fence} {n : Nat} {P : Program}
/-- Where the loop has no left sides. -/
theorem range_idx0 {g : Operand} {ps : Array Tmp} {body : Code} {Q : Exit → Act → World → Prop} {a : Act} {w : World} (hro : F.round = none) (h1 : 1 ≤ n) {gf : Nat} {lb : Array Value} (hg : a.eval g = .func (.func gf) #[] lb) (hFg : F.fn gf)
    (eg : ∀ args w, (callFunc gf args).run P w = .ok (.enter gf args) w) {val : Nat → Array Value} {chosen : Nat → Bool} {len : Nat} {R0 : World → Prop} {R : Nat → World → Prop} (hseq : IdxStops F (n - 1) P gf lb val chosen len R0 R) (hps : ∀ i, (val i).size = ps.size)
    (I : Nat → World → Prop) (Ix : Code → Nat → World → Prop) (hI : OwnFrom w.heap.size I) (hIx : ∀ c, OwnFrom w.heap.size (Ix c)) (h0 : I 0 w) (hR0 : ∀ W, I 0 W → R0 W) (hR : ∀ i W, i < len → I i W → R i W) (hd : ∀ i W m, I i W → I i (W.drewN m)) (hskip : ∀ i W, i < len → chosen i = false → I i W → I (i + 1) W)
    (hbody : ∀ (l i : Nat) (W : World), i < len → chosen i = true → I i W → body.wpIn (F.inRound l) (n - 1 - 1) P (idxPost w.heap.size I Ix i W) { tmps := (ps.zip (val i)).foldl (fun t (p, v) => t.setIfInBounds p v) a.tmps, defers := [] } W)
    (hdone : ∀ (D : Nat) (W : World), w.heap.size ≤ D → I len W → W.heap[D]? = some (.deferred (some [])) → Q .normal { a with defers := { target := .collected D, args := #[] } :: a.defers } W)
    (hstop : ∀ (D i : Nat) (W : World), w.heap.size ≤ D → i < len → chosen i = true → Ix .ret i W → W.heap[D]? = some (.deferred (some [])) → Code.ret.wpIn F n P Q { a with defers := { target := .collected D, args := #[] } :: a.defers } W) :
    (Code.rangeFunc g ps .skip body).wpIn F n P Q a w :=
  range_idx hro h1 hg hFg eg hseq hps I Ix hI hIx h0 hR0 hR hd hskip (fun i => { tmps := (ps.zip (val i)).foldl (fun t (p, v) => t.setIfInBounds p v) a.tmps, defers := [] }) (fun l i W K hK => wpIn_skip hK) hbody hdone hstop
end
/-- Between two rounds. -/
structure XI (own : Nat → Nat) (gb : Nat) (gs : List Nat) (ps : List ProdV) (x : EvV) (A : Option Addr) (c : Nat) (Bs Bn : Nat) (w0 : World) (i : Nat) (w : World) : Prop where
  dc : DcI own gb gs ps x w0 w
  cs : w.heap[Bs]? = some (.cells #[.pointer (some ⟨gb, 0, none⟩)] 23 (0, 0))
  cn : w.heap[Bn]? = some (.cells #[.int .i64 x.now] 3 (0, 0))
  cg : w.cell? ⟨gb, 0, none⟩ = some (.slice A ps.length c)
  no : ∀ j, j < i → overP (ps.getD j prod0) x.now = false
theorem DcI.step {x : EvV} {w0 : World} {row : Option Nat} (h : DcI own gb gs ps x w0 w) (hg : w.grownBy w' row) (hr : ∀ k, row = some k → own k = 0 ∧ w0.heap.size + 3 ≤ k) : DcI own gb gs ps x w0 w' :=
  ⟨⟨hg.os.trans h.below.os, hg.tape.trans h.below.tape, hg.output.trans h.below.output, Nat.le_trans h.below.size hg.size, fun k hk => (hg.block k (Nat.lt_of_lt_of_le hk h.below.size) (fun e => by have := (hr k e.symm).2; omega)).trans (h.below.block k hk)⟩,
    h.bi.step hg.size (fun k hk => hg.block k (h.bi.lt k hk) (fun e => hk (hr k e.symm).1)), (hg.block _ (blk_lt h.box) (fun e => by have := (hr _ e.symm).2; omega)).trans h.box,
    (hg.block _ (blk_lt h.r1) (fun e => by have := (hr _ e.symm).2; omega)).trans h.r1, (hg.block _ (blk_lt h.r2) (fun e => by have := (hr _ e.symm).2; omega)).trans h.r2⟩
theorem XI.step {x : EvV} {A : Option Addr} {c Bs Bn : Nat} {w0 : World} {i : Nat} {row : Option Nat} (h : XI own gb gs ps x A c Bs Bn w0 i w) (hg : w.grownBy w' row) (hr : ∀ k, row = some k → own k = 0 ∧ w0.heap.size + 3 ≤ k ∧ k ≠ Bs ∧ k ≠ Bn) : XI own gb gs ps x A c Bs Bn w0 i w' :=
  ⟨h.dc.step hg (fun k e => ⟨(hr k e).1, (hr k e).2.1⟩), (hg.block Bs (blk_lt h.cs) (fun e => (hr Bs e.symm).2.2.1 rfl)).trans h.cs, (hg.block Bn (blk_lt h.cn) (fun e => (hr Bn e.symm).2.2.2 rfl)).trans h.cn,
    (World.cell?_of_block (hg.block gb (World.block_lt_of_cell? w ⟨gb, 0, none⟩ h.cg) (fun e => by have := (hr gb e.symm).1; rw [h.dc.bi.ogb] at this; cases this))).trans h.cg, h.no⟩
theorem put_both {w : World} {m : Nat} {u v : Value} (h1 : w.heap[m + 1]? = some (.cells #[u] 4 (0, 0))) (h2 : w.heap[m + 1 + 1]? = some (.cells #[v] 30 (0, 0))) (b : Bool) (e : Int) :
    ((w.setCell ⟨m + 1, 0, none⟩ (.bool b)).setCell ⟨m + 1 + 1, 0, none⟩ (.int .i64 e)).heap[m + 1]? = some (.cells #[.bool b] 4 (0, 0)) ∧ ((w.setCell ⟨m + 1, 0, none⟩ (.bool b)).setCell ⟨m + 1 + 1, 0, none⟩ (.int .i64 e)).heap[m + 1 + 1]? = some (.cells #[.int .i64 e] 30 (0, 0)) := by
  have k1 := blk_put h1 0 (.bool b) rfl
  have k2 := (Below.heap_setCell w ⟨m + 1, 0, none⟩ (.bool b) (m + 1 + 1) (by simp)).trans h2
  exact ⟨(Below.heap_setCell (w.setCell ⟨m + 1, 0, none⟩ (.bool b)) ⟨m + 1 + 1, 0, none⟩ (.int .i64 e) (m + 1) (by simp)).trans k1, blk_put k2 0 (.int .i64 e) rfl⟩
set_option maxRecDepth 100000 in
theorem decide_out {w W : World} {D : Nat} {b : Bool} {e : Int} {ts : Array Value} (F : Fence) (n : Nat) (h1 : W.heap[w.heap.size + 1]? = some (.cells #[.bool b] 4 (0, 0))) (h2 : W.heap[w.heap.size + 1 + 1]? = some (.cells #[.int .i64 e] 30 (0, 0))) (hb : Below w.heap.size w W) (hD : w.heap.size + 3 ≤ D) (hK : W.heap[D]? = some (.deferred (some [])))
    (t4 : ts.getD 4 undef = .pointer (some ⟨w.heap.size + 1, 0, none⟩)) (t5 : ts.getD 5 undef = .pointer (some ⟨w.heap.size + 1 + 1, 0, none⟩)) :
    bodyPostM F n Try.prog Try.f20 (fun q w' => q = .returned (.tuple #[.bool b, .int .i64 e]) ∧ Below w.heap.size w w') .ret { tmps := ts, defers := [{ target := .collected D, args := #[] }] } W := by
  refine ⟨by simp, .inl ⟨_, _, rfl, run_takeDeferred hK, ?_⟩⟩
  have hg := grownBy_putObj' W D (.deferred none)
  have r1 := (blk_cell ((hg.block _ (blk_lt h1) (fun e => by injection e with e; omega)).trans h1) 0).trans rfl
  have r2 := (blk_cell ((hg.block _ (blk_lt h2) (fun e => by injection e with e; omega)).trans h2) 0).trans rfl
  rw [Array.getD_eq_getD_getElem?] at t4 t5
  refine ⟨.tuple #[.bool b, .int .i64 e], by simp [results, Try.results20, go_sem, t4, t5, r1, r2], rfl, ?_⟩
  exact ⟨hg.os.trans hb.os, hg.tape.trans hb.tape, hg.output.trans hb.output, Nat.le_trans hb.size hg.size, fun k hk => (hg.block k (Nat.lt_of_lt_of_le hk hb.size) (fun e => by injection e with e; omega)).trans (hb.block k hk)⟩
set_option maxRecDepth 100000 in
set_option maxHeartbeats 4000000 in
theorem decideX_in (n : Nat) (hn : 3 ≤ n) (h : BI own gb gs ps w) (hG : Good ps) (x : EvV) (hk5 : x.kind = 5) (hr : rightE x = true) : CallsIn ({ fn := fun _ => True, depth := none, alive := false } : Fence) n Try.prog 20 #[.pointer (some ⟨gb, 0, none⟩), evE x] w fun e w' => e = .returned (.tuple #[.bool (decideF ps x).1, .int .i64 (decideF ps x).2]) ∧ Below w.heap.size w w' := by
  have HD := Aside0.mk (DcI.start h x)
  have HG := Aside0.mk hG
  have HR := Aside0.mk (fun W => right_c x W)
  have HI := Aside0.mk h
  have HF := Aside0.mk (show decideF ps x = (!ps.any (fun p => overP p x.now), 0) by unfold decideF; rw [hr, hk5]; rfl)
  rw [HF.out]
  have y0 := (blk_cell HD.out.box 0).trans rfl
  have y1 := (blk_cell HD.out.box 1).trans rfl
  have y2 := (blk_cell HD.out.box 2).trans rfl
  have y3 := (blk_cell HD.out.box 3).trans rfl
  have y4 := (blk_cell HD.out.box 4).trans rfl
  have y5 := (blk_cell HD.out.box 5).trans rfl
  have y6 := (blk_cell HD.out.box 6).trans rfl
  have y7 := (blk_cell HD.out.box 7).trans rfl
  clear h hG HF
  obtain ⟨kind, name, producer, epoch, place, timeout, now, yes⟩ := x
  dsimp only at hk5 y0 y1 y2 y3 y4 y5 y6 y7 ⊢
  subst hk5
  unfold evE at HR ⊢
  refine callsIn_of_wp_marks Try.func20 rfl trivial ?_ rfl
  simp only [Try.ntmps20, List.size_toArray, List.length_cons, List.length_nil, Nat.reduceAdd, Nat.reduceSub, Array.replicate_succ, Array.replicate_zero, List.push_toArray, List.append_toArray, List.nil_append, List.cons_append]
  gi_wp2_with (first
    | (gi_at_call 35; refine (callsIn_wide.2 (none_c HD.out.bi)).mono ?_; rintro e w' ⟨rfl, rfl⟩)
    | (gi_at_call 38; refine (callsIn_wide.2 (HR.out _)).mono ?_; rintro e w2 ⟨rfl, hb2⟩; rw [hr]; have HD2 := Aside0.mk (HD.out.move hb2); clear hb2 y0 y1 y2 y3 y4 y5 y6 y7; have x6 := (blk_cell HD2.out.box 6).trans rfl; have x0 := (blk_cell HD2.out.box 0).trans rfl)
    | (gi_at_call 40; refine (callsIn_wide.2 (old_c now _)).mono ?_; rintro e w3 ⟨rfl, hw3⟩; have HW3 := Aside0.mk hw3; clear hw3))
  have hw3 := HW3.out
  clear HW3 x0 x6
  have hb2 := below_alloc (Below.refl w2.heap.size w2) (.cells #[.pointer (some ⟨gb, 0, none⟩)] 23 (0, 0))
  have b2 := heap_alloc_new w2 (.cells #[.pointer (some ⟨gb, 0, none⟩)] 23 (0, 0))
  have hs2 : (w2.alloc (.cells #[.pointer (some ⟨gb, 0, none⟩)] 23 (0, 0))).heap.size = w2.heap.size + 1 := Array.size_push _
  generalize (w2.alloc (.cells #[.pointer (some ⟨gb, 0, none⟩)] 23 (0, 0))) = w2b at hw3 hb2 b2 hs2
  have hb3 := below_alloc (Below.refl w2b.heap.size w2b) (.cells #[.int .i64 now] 3 (0, 0))
  have b3 := heap_alloc_new w2b (.cells #[.int .i64 now] 3 (0, 0))
  have hs3 : (w2b.alloc (.cells #[.int .i64 now] 3 (0, 0))).heap.size = w2.heap.size + 2 := by rw [show w2.heap.size + 2 = w2b.heap.size + 1 by omega]; exact Array.size_push _
  rw [← hw3] at hb3 b3 hs3
  have hbs := (hb3.block _ (by omega)).trans b2
  rw [hs2] at b3
  have HD3 := Aside0.mk (HD2.out.move (below_step hb2 hb3))
  obtain ⟨A, c, B, cg, -⟩ := HD3.out.bi.cells
  have hz : w.heap.size + 3 ≤ w2.heap.size := by
    have := blk_lt HD2.out.r2
    omega
  have E0 := Aside0.mk (show XI own gb gs ps ⟨5, name, producer, epoch, place, timeout, now, yes⟩ A c w2.heap.size (w2.heap.size + 1) w 0 w3 from ⟨HD3.out, hbs, b3, cg, fun j hj => by omega⟩)
  have HZ := Aside0.mk (fun k (hk : w2.heap.size ≤ k) => show own k = 0 from Classical.byContradiction fun e => by have := HD2.out.bi.lt _ e; omega)
  clear hb2 hb3 hbs b2 b3 hs2 hw3 cg HD3
  refine range_idx0 (val := fun i => #[.pointer (some ⟨gs.getD i 0, 0, none⟩)]) (chosen := fun i => overP (ps.getD i prod0) now) (len := ps.length) rfl (by omega) rfl trivial (enters_of Try.func66 (by kernel_rfl) rfl) (old_stops (n - 1) (by omega) gs ps HG.out gb w2.heap.size (w2.heap.size + 1) A c now) (fun _ => rfl)
    (fun i W => XI own gb gs ps ⟨5, name, producer, epoch, place, timeout, now, yes⟩ A c w2.heap.size (w2.heap.size + 1) w i W) (fun _ _ W => Below w.heap.size w W ∧ W.heap[w.heap.size + 1]? = some (.cells #[.bool false] 4 (0, 0)) ∧ W.heap[w.heap.size + 1 + 1]? = some (.cells #[.int .i64 0] 30 (0, 0))) ?own ?ownx E0.out (fun W h => ⟨(blk_cell h.cs 0).trans rfl, h.cg⟩) ?reads (fun i W m h => h.step (row := none) ⟨rfl, rfl, rfl, Nat.le_refl _, fun _ _ _ => rfl⟩ (fun k e => by cases e)) ?skip ?body ?done ?stop
  case own =>
    intro i W W' row h hg hr
    refine h.step hg (fun k e => ?_)
    obtain ⟨hk, -⟩ := hr k e
    exact ⟨HZ.out k (by omega), by omega, by omega, by omega⟩
  case ownx =>
    rintro cx i W W' row ⟨h1, h2, h3⟩ hg hr
    refine ⟨⟨hg.os.trans h1.os, hg.tape.trans h1.tape, hg.output.trans h1.output, Nat.le_trans h1.size hg.size, fun k hk => (hg.block k (Nat.lt_of_lt_of_le hk h1.size) (fun e => by have := (hr k e.symm).1; omega)).trans (h1.block k hk)⟩, (hg.block _ (blk_lt h2) (fun e => by have := (hr _ e.symm).1; omega)).trans h2, (hg.block _ (blk_lt h3) (fun e => by have := (hr _ e.symm).1; omega)).trans h3⟩
  case reads =>
    intro i W hi h
    obtain ⟨A', c', B', g0, -, -, -, -, hrow⟩ := h.dc.bi.cells
    obtain ⟨ad, hA, hcell⟩ := hrow i hi
    have e := h.cg.symm.trans g0
    simp only [Option.some.injEq, Value.slice.injEq] at e
    obtain ⟨-, v, hb, -⟩ := h.dc.bi.prod i hi
    exact ⟨ad, e.1.trans hA, hcell, (blk_cell h.cn 0).trans rfl, v, hb⟩
  case skip =>
    intro i W hi hc h
    exact ⟨h.dc, h.cs, h.cn, h.cg, fun j hj => by
      rcases Nat.lt_succ_iff_lt_or_eq.1 hj with hj | rfl
      · exact h.no j hj
      · exact hc⟩
  case body =>
    intro l i W hi hc h
    have HX := Aside0.mk h
    have r1 := (blk_cell HX.out.dc.r1 0).trans rfl
    have r2 := (blk_cell HX.out.dc.r2 0).trans rfl
    have f1 := blk_frozen HX.out.dc.r1 0
    have f2 := blk_frozen HX.out.dc.r2 0
    clear h
    gi_wp2
    obtain ⟨k1, k2⟩ := put_both HX.out.dc.r1 HX.out.dc.r2 false 0
    refine ⟨((KeepsOthers.setCell _ _ _).trans (KeepsOthers.setCell _ _ _)).from _, (HX.out.dc.below.setCell (p := ⟨w.heap.size + 1, 0, none⟩) (by simp) _).setCell (p := ⟨w.heap.size + 1 + 1, 0, none⟩) (by simp only; omega) _, k1, k2⟩
  case done =>
    intro D W hD h hK
    have HX := Aside0.mk h
    have r1 := (blk_cell HX.out.dc.r1 0).trans rfl
    have r2 := (blk_cell HX.out.dc.r2 0).trans rfl
    have f1 := blk_frozen HX.out.dc.r1 0
    have f2 := blk_frozen HX.out.dc.r2 0
    clear h
    gi_wp2
    obtain ⟨k1, k2⟩ := put_both HX.out.dc.r1 HX.out.dc.r2 true 0
    have hany : (!ps.any fun p => overP p now) = true := by
      rw [Bool.not_eq_true', List.any_eq_false]
      intro p hp
      obtain ⟨j, hj, rfl⟩ := List.mem_iff_getElem.1 hp
      have := HX.out.no j hj
      rw [List.getD_eq_getElem?_getD, List.getElem?_eq_getElem hj] at this
      simpa using this
    rw [hany]
    refine decide_out _ n k1 k2 ((HX.out.dc.below.setCell (p := ⟨w.heap.size + 1, 0, none⟩) (by simp) _).setCell (p := ⟨w.heap.size + 1 + 1, 0, none⟩) (by simp only; omega) _) (show w.heap.size + 3 ≤ D by omega) ?_ rfl rfl
    rw [Below.heap_setCell _ _ _ D (by simp only; omega), Below.heap_setCell _ _ _ D (by simp only; omega)]
    exact hK
  case stop =>
    rintro D i W hD hi hc ⟨h1, h2, h3⟩ hK
    have H1 := Aside0.mk h1
    have H2 := Aside0.mk h2
    have H3 := Aside0.mk h3
    have HC := Aside0.mk hc
    clear h1 h2 h3 hc
    gi_wp2
    have hany : (!ps.any fun p => overP p now) = false := by
      rw [Bool.not_eq_false', List.any_eq_true]
      refine ⟨ps[i], List.getElem_mem hi, ?_⟩
      have := HC.out
      rw [List.getD_eq_getElem?_getD, List.getElem?_eq_getElem hi] at this
      exact this
    rw [hany]
    exact decide_out _ n H2.out H3.out H1.out (show w.heap.size + 3 ≤ D by omega) hK rfl rfl
end Go.Proofs.Ytofegigbhohebaa.Hand
