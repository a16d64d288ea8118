/- expire. -/
import Derived.Test.YtofegigbhohebaaTB26
namespace Go.Proofs.Ytofegigbhohebaa.Hand
open Go.RowKit Go.Shelf Go.Proofs.Ytofegigbhohebaa Go.Proofs.YtofegigbhohebaaW.PrintWords Go.Proofs.YtofegigbhohebaaW.PrintLast
set_option linter.unusedVariables false
set_option linter.unusedSimpArgs false
attribute [local go_sem] Oper.semAt_some
variable {own : Nat → Nat} {gb : Nat} {gs : List Nat} {ps : List ProdV} {w w' : World}
set_option maxRecDepth 100000 in
theorem old_c (now : Int) (w : World) : Calls Try.prog 40 #[.pointer (some ⟨gb, 0, none⟩), .int .i64 now] w fun e w' => e = .returned (.func (.func 66) #[] #[.pointer (some ⟨w.heap.size, 0, none⟩), .pointer (some ⟨w.heap.size + 1, 0, none⟩)]) ∧ w' = (w.alloc (.cells #[.pointer (some ⟨gb, 0, none⟩)] 23 (0, 0))).alloc (.cells #[.int .i64 now] 3 (0, 0)) := by
  have hmf : ∀ (fn : Fn) (first cap : Array Value) (w : World), (Instr.makeFunc fn first cap).run Try.prog w = .ok (.func fn first cap) w := fun _ _ _ _ => rfl
  have hsz : (w.alloc (.cells #[.pointer (some ⟨gb, 0, none⟩)] 23 (0, 0))).heap.size = w.heap.size + 1 := Array.size_push _
  go_enter Try.func40, Try.ntmps40
  go_wp2_with fail
  go_ret
  exact ⟨by simp, rfl⟩
/-- The first i have been seen. -/
def expUpto (ps : List ProdV) (now : Int) : Nat → List ProdV
  | 0 => ps
  | i + 1 => (expUpto ps now i).set i (expP (ps.getD i prod0) now)
theorem expUpto_len (ps : List ProdV) (now : Int) : ∀ i, (expUpto ps now i).length = ps.length
  | 0 => rfl
  | i + 1 => by rw [expUpto, List.length_set, expUpto_len ps now i]
theorem expUpto_get (ps : List ProdV) (now : Int) : ∀ i j, (expUpto ps now i)[j]? = if j < i then (ps[j]?).map (expP · now) else ps[j]?
  | 0, j => by simp [expUpto]
  | i + 1, j => by
    rw [expUpto, List.getElem?_set, expUpto_get ps now i j, expUpto_len]
    by_cases hij : i = j
    · subst hij
      by_cases hl : i < ps.length
      · simp [hl]
      · rw [if_pos rfl, if_neg hl, if_pos (by omega), List.getElem?_eq_none (by omega)]; rfl
    · rw [if_neg hij]
      by_cases hlt : j < i
      · rw [if_pos hlt, if_pos (by omega)]
      · rw [if_neg hlt, if_neg (by omega)]
theorem expUpto_at (ps : List ProdV) (now : Int) (i : Nat) : (expUpto ps now i).getD i prod0 = ps.getD i prod0 := by
  rw [List.getD_eq_getElem?_getD, expUpto_get, if_neg (by omega), List.getD_eq_getElem?_getD]
theorem expUpto_all (ps : List ProdV) (now : Int) : expUpto ps now ps.length = ps.map fun p => expP p now := by
  refine List.ext_getElem? fun j => ?_
  rw [expUpto_get, List.getElem?_map]
  split
  · rfl
  · rw [List.getElem?_eq_none (by omega)]; rfl
theorem expUpto_skip (ps : List ProdV) (now : Int) (i : Nat) (h : overP (ps.getD i prod0) now = false) (hi : i < ps.length) : expUpto ps now (i + 1) = expUpto ps now i := by
  refine List.ext_getElem? fun j => ?_
  rw [expUpto_get, expUpto_get]
  by_cases hij : j = i
  · subst hij
    rw [if_pos (by omega), if_neg (by omega), List.getElem?_eq_getElem hi]
    rw [List.getD_eq_getElem?_getD, List.getElem?_eq_getElem hi] at h
    have h' : overP ps[j] now = false := h
    show some (expP ps[j] now) = _
    unfold expP
    rw [h']; rfl
  · by_cases hlt : j < i
    · rw [if_pos hlt, if_pos (by omega)]
    · rw [if_neg hlt, if_neg (by omega)]
/-- Between two rounds. -/
structure EI (own : Nat → Nat) (gb : Nat) (gs : List Nat) (ps : List ProdV) (now : Int) (A : Option Addr) (c : Nat) (Bs Bn : Nat) (w0 : World) (i : Nat) (w : World) : Prop where
  bi : BI own gb gs (expUpto ps now i) w
  fr : Fr own w0 w
  cs : w.heap[Bs]? = some (.cells #[.pointer (some ⟨gb, 0, none⟩)] 23 (0, 0))
  cn : w.heap[Bn]? = some (.cells #[.int .i64 now] 3 (0, 0))
  os : own Bs = 0
  on : own Bn = 0
  cg : w.cell? ⟨gb, 0, none⟩ = some (.slice A ps.length c)
theorem EI.step {now : Int} {A : Option Addr} {c : Nat} {Bs Bn : Nat} {w0 : World} {i : Nat} {row : Option Nat} (h : EI own gb gs ps now A c Bs Bn w0 i w) (hg : w.grownBy w' row) (hr : ∀ k, row = some k → own k = 0 ∧ k ≠ Bs ∧ k ≠ Bn ∧ w0.heap.size ≤ k) : EI own gb gs ps now A c Bs Bn w0 i w' := by
  refine ⟨h.bi.step hg.size (fun k hk => hg.block k (h.bi.lt k hk) (fun e => hk (hr k e.symm).1)), ⟨hg.os.trans h.fr.os, hg.tape.trans h.fr.tape, hg.output.trans h.fr.output, Nat.le_trans h.fr.size hg.size, fun k hk h0 => (hg.block k (Nat.lt_of_lt_of_le hk h.fr.size) (fun e => by have := (hr k e.symm).2.2.2; omega)).trans (h.fr.block k hk h0)⟩, ?_, ?_, h.os, h.on, ?_⟩
  · exact (hg.block Bs (blk_lt h.cs) (fun e => (hr Bs e.symm).2.1 rfl)).trans h.cs
  · exact (hg.block Bn (blk_lt h.cn) (fun e => (hr Bn e.symm).2.2.1 rfl)).trans h.cn
  · exact (World.cell?_of_block (hg.block gb (World.block_lt_of_cell? w ⟨gb, 0, none⟩ h.cg) (fun e => by have := (hr gb e.symm).1; rw [h.bi.ogb] at this; cases this))).trans h.cg
theorem EI.drewN {now : Int} {A : Option Addr} {c : Nat} {Bs Bn : Nat} {w0 : World} {i : Nat} (h : EI own gb gs ps now A c Bs Bn w0 i w) (m : Nat) : EI own gb gs ps now A c Bs Bn w0 i (w.drewN m) :=
  h.step (row := none) ⟨rfl, rfl, rfl, Nat.le_refl _, fun _ _ _ => rfl⟩ (fun k e => by cases e)
theorem grownBy_setCell2 (W : World) (b o : Nat) (v : Value) : W.grownBy (W.setCell ⟨b, o, none⟩ v) (some b) :=
  ⟨rfl, rfl, rfl, by simp [World.setCell], fun k hk hne => Below.heap_setCell W ⟨b, o, none⟩ v k (fun e => hne (by rw [e]))⟩
theorem grown2 {A B C : World} {g : Nat} (h : A.grownBy B (some g)) (k : B.grownBy C (some g)) : A.grownBy C (some g) :=
  ⟨k.os.trans h.os, k.tape.trans h.tape, k.output.trans h.output, Nat.le_trans h.size k.size, fun j hj hne => (k.block j (Nat.lt_of_lt_of_le hj h.size) hne).trans (h.block j hj hne)⟩
set_option maxRecDepth 100000 in
set_option maxHeartbeats 4000000 in
theorem expire_in (n : Nat) (hn : 3 ≤ n) (h : BI own gb gs ps w) (hG : Good ps) (x : EvV) : CallsIn ({ fn := fun _ => True, depth := none, alive := false } : Fence) n Try.prog 34 #[.pointer (some ⟨gb, 0, none⟩), evE x] w fun e w' => e = .returned (.tuple #[]) ∧ DoP own gb (ps.map fun p => expP p x.now) w w' := by
  obtain ⟨o1, ho1⟩ : ∃ o1 : Obj, o1 = .cells #[.int .i64 x.kind, .string x.name, .int .i64 x.producer, .int .i64 x.epoch, .int .i64 x.place, .int .i64 x.timeout, .int .i64 x.now, .bool x.yes] 33 (0, 0) := ⟨_, rfl⟩
  have hb1 := below_alloc (Below.refl w.heap.size w) o1
  have HB := Aside0.mk hb1
  have b1 := heap_alloc_new w o1
  rw [ho1] at b1
  have x6 := (blk_cell b1 6).trans rfl
  have HI := Aside0.mk h
  have HG := Aside0.mk hG
  clear b1 hb1 h hG
  obtain ⟨kind, name, producer, epoch, place, timeout, now, yes⟩ := x
  dsimp only at ho1 x6 ⊢
  unfold evE
  subst ho1
  refine callsIn_of_wp_marks Try.func34 rfl trivial ?_ rfl
  simp only [Try.ntmps34, List.size_toArray, List.length_cons, List.length_nil, Nat.reduceAdd, Nat.reduceSub, Array.replicate_succ, Array.replicate_zero, List.push_toArray, List.append_toArray, List.nil_append, List.cons_append]
  have hE : own w.heap.size = 0 ∧ own (w.heap.size + 1) = 0 ∧ own (w.heap.size + 2) = 0 := ⟨Classical.byContradiction fun e => by have := HI.out.lt _ e; omega, Classical.byContradiction fun e => by have := HI.out.lt _ e; omega, Classical.byContradiction fun e => by have := HI.out.lt _ e; omega⟩
  gi_wp2_with (gi_at_call 40; refine (callsIn_wide.2 (old_c now _)).mono ?_; rintro e w2 ⟨rfl, hw2⟩; have HW2 := Aside0.mk hw2; clear hw2)
  have hw2 := HW2.out
  clear HW2
  obtain ⟨w1, hw1⟩ : ∃ w1, (w.alloc (.cells #[.int .i64 kind, .string name, .int .i64 producer, .int .i64 epoch, .int .i64 place, .int .i64 timeout, .int .i64 now, .bool yes] 33 (0, 0))) = w1 := ⟨_, rfl⟩
  have hs1 : w1.heap.size = w.heap.size + 1 := by rw [← hw1]; exact Array.size_push _
  rw [hw1] at hw2 HB
  have hb2 := below_alloc (Below.refl w1.heap.size w1) (.cells #[.pointer (some ⟨gb, 0, none⟩)] 23 (0, 0))
  have b2 := heap_alloc_new w1 (.cells #[.pointer (some ⟨gb, 0, none⟩)] 23 (0, 0))
  have hs2 : (w1.alloc (.cells #[.pointer (some ⟨gb, 0, none⟩)] 23 (0, 0))).heap.size = w.heap.size + 2 := by rw [show w.heap.size + 2 = w1.heap.size + 1 by omega]; exact Array.size_push _
  generalize (w1.alloc (.cells #[.pointer (some ⟨gb, 0, none⟩)] 23 (0, 0))) = w1b at hw2 hb2 b2 hs2
  have hb3 := below_alloc (Below.refl w1b.heap.size w1b) (.cells #[.int .i64 now] 3 (0, 0))
  have b3 := heap_alloc_new w1b (.cells #[.int .i64 now] 3 (0, 0))
  have hs3 : (w1b.alloc (.cells #[.int .i64 now] 3 (0, 0))).heap.size = w.heap.size + 3 := by rw [show w.heap.size + 3 = w1b.heap.size + 1 by omega]; exact Array.size_push _
  rw [← hw2] at hb3 b3 hs3
  have HB3 := Aside0.mk (below_step (below_step HB.out hb2) hb3)
  have hbs := (hb3.block _ (by omega)).trans b2
  rw [hs1] at hbs
  rw [hs2] at b3
  obtain ⟨A, c, B, cg, -⟩ := (HI.out.below HB3.out).cells
  have E0 := Aside0.mk (show EI own gb gs ps now A c (w.heap.size + 1) (w.heap.size + 2) w 0 w2 from ⟨HI.out.below HB3.out, Fr.below own HB3.out, hbs, b3, hE.2.1, hE.2.2, cg⟩)
  clear hb2 hb3 hbs b2 b3 hs1 hs2 x6 hw1 hw2
  clear HB HB3 hE cg
  refine range_idx (val := fun i => #[.pointer (some ⟨gs.getD i 0, 0, none⟩)]) (chosen := fun i => overP (ps.getD i prod0) now) (len := ps.length) rfl (by omega) rfl trivial (enters_of Try.func66 (by kernel_rfl) rfl) (old_stops (n - 1) (by omega) gs ps HG.out gb (w.heap.size + 1) (w.heap.size + 1 + 1) A c now) (fun _ => rfl)
    (fun i W => EI own gb gs ps now A c (w.heap.size + 1) (w.heap.size + 2) w i W) (fun _ _ _ => False) ?own ?ownx E0.out (fun W h => ⟨(blk_cell h.cs 0).trans rfl, h.cg⟩) ?reads (fun i W m h => h.drewN m) ?skip
    (fun i => { tmps := #[.pointer (some ⟨gb, 0, none⟩), .agg #[.int .i64 kind, .string name, .int .i64 producer, .int .i64 epoch, .int .i64 place, .int .i64 timeout, .int .i64 now, .bool yes], undef, .pointer (some ⟨w.heap.size, 0, none⟩), .pointer (some ⟨gs.getD i 0, 0, none⟩), .pointer (some ⟨gb, 0, none⟩), .pointer (some ⟨w.heap.size, 6, none⟩), .int .i64 now, .func (.func 66) #[] #[.pointer (some ⟨w.heap.size + 1, 0, none⟩), .pointer (some ⟨w.heap.size + 1 + 1, 0, none⟩)], .pointer (some ⟨gs.getD i 0, 0, none⟩), undef, undef, undef, undef, undef, undef, undef, undef, undef, undef, undef], defers := [] })
    ?assign ?body ?done ?stop
  case own =>
    intro i W W' row h hg hr
    refine h.step hg (fun k e => ?_)
    obtain ⟨hk, -⟩ := hr k e
    have : own k = 0 := Classical.byContradiction fun e => by have := HI.out.lt _ e; omega
    exact ⟨this, by omega, by omega, by omega⟩
  case ownx => exact fun _ _ _ _ _ h _ _ => h
  case reads =>
    intro i W hi h
    obtain ⟨A', c', B', g0, -, -, -, -, hrow⟩ := h.bi.cells
    rw [expUpto_len] at hrow g0
    obtain ⟨ad, hA, hcell⟩ := hrow i hi
    have e := h.cg.symm.trans g0
    simp only [Option.some.injEq, Value.slice.injEq] at e
    obtain ⟨-, v, hb, -⟩ := h.bi.prod i (by rw [expUpto_len]; exact hi)
    rw [expUpto_at] at hb
    exact ⟨ad, e.1.trans hA, hcell, (blk_cell h.cn 0).trans rfl, v, hb⟩
  case skip =>
    intro i W hi hc h
    have e := expUpto_skip ps now i hc hi
    exact ⟨by rw [e]; exact h.bi, h.fr, h.cs, h.cn, h.os, h.on, h.cg⟩
  case assign =>
    intro l i W K hK
    have HK := Aside0.mk hK
    clear hK
    gi_wp2
    exact HK.out
  case body =>
    intro l i W hi hc h
    have HE := Aside0.mk h
    have HGP := Aside0.mk (HG.out.at_ hi)
    obtain ⟨hog, v, hb, hv⟩ := h.bi.prod i (by rw [expUpto_len]; exact hi)
    rw [expUpto_at] at hb hv
    obtain ⟨Av, cv, rfl⟩ := Kd.R_slice hv
    have HP := Aside0.mk (expUpto_at ps now i)
    have HSU := Aside0.mk (show expUpto ps now (i + 1) = (expUpto ps now i).set i (expP (ps.getD i prod0) now) from rfl)
    rw [show expP (ps.getD i prod0) now = endP { ps.getD i prod0 with epoch := min ((ps.getD i prod0).epoch + 1) 2147483647 } 3 from by unfold expP; rw [hc]; rfl] at HSU
    clear hc
    generalize ps.getD i prod0 = p at hb hv HP HGP HSU
    obtain ⟨g, hgg⟩ : ∃ g, gs.getD i 0 = g := ⟨_, rfl⟩
    rw [hgg] at hb hog ⊢
    have HGG := Aside0.mk hgg
    have HOG := Aside0.mk hog
    have PB := Aside0.mk hb
    have PV := Aside0.mk hv
    have y2 : W.cell? ⟨g, 2, none⟩ = some (.int .i64 p.epoch) := (blk_cell hb 2).trans rfl
    have f2 := blk_frozen hb 2
    clear hgg hog hb hv h
    have he1 : p.epoch + 1 < 9223372036854775808 ∧ -9223372036854775808 ≤ p.epoch + 1 := by have := HGP.out.e0; have := HGP.out.e1; omega
    have hwr : wrap64 (p.epoch + 1) = p.epoch + 1 := by unfold wrap64; omega
    have PB1 := Aside0.mk (show (W.setCell ⟨g, 2, none⟩ (.int .i64 (min (p.epoch + 1) 2147483647))).heap[g]? = some (.cells (prodC { p with epoch := min (p.epoch + 1) 2147483647 } (.slice Av p.places.length cv)) 85 (0, 0)) from blk_put PB.out 2 (.int .i64 (min (p.epoch + 1) 2147483647)) rfl)
    have HG1 := Aside0.mk (grownBy_setCell2 W g 2 (.int .i64 (min (p.epoch + 1) 2147483647)))
    gi_wp2_with (gi_at_call 58; refine (CallsIn.inRound l (callsIn_wide.2 (end_c g { p with epoch := min (p.epoch + 1) 2147483647 } Av cv 3 _ PB1.out))).mono ?_; rintro e W2 ⟨rfl, hb2, hg2, hs2⟩; have PB2 := Aside0.mk hb2; have HG2 := Aside0.mk hg2; clear hb2 hg2)
    clear hwr he1 y2 f2
    have hgr := grown2 HG1.out HG2.out
    have hgz : g < w2.heap.size := by have := HI.out.lt g (by rw [HOG.out]; omega); omega
    refine ⟨KeepsFrom.of_grownBy hgr (fun j e => by cases e; exact hgz), ?_⟩
    have hlen : i < (expUpto ps now i).length := by rw [expUpto_len]; exact hi
    have HGG2 := HGG.out
    subst HGG2
    refine ⟨by rw [HSU.out]; exact HE.out.bi.fld hlen HP.out rfl rfl PB.out PV.out hgr PB2.out, HE.out.fr.trans (Fr.grown hgr (by rw [HOG.out]; omega)) (fun _ _ => rfl), ?_, ?_, HE.out.os, HE.out.on, ?_⟩
    · exact (hgr.block _ (blk_lt HE.out.cs) (fun e => by injection e with e; have := HE.out.os; rw [e, HOG.out] at this; cases this)).trans HE.out.cs
    · exact (hgr.block _ (blk_lt HE.out.cn) (fun e => by injection e with e; have := HE.out.on; rw [e, HOG.out] at this; cases this)).trans HE.out.cn
    · exact (World.cell?_of_block (hgr.block gb (World.block_lt_of_cell? W ⟨gb, 0, none⟩ HE.out.cg) (fun e => by injection e with e; have := HE.out.bi.ogb; rw [e, HOG.out] at this; omega))).trans HE.out.cg
  case done =>
    intro D W hD h hK
    have HE := Aside0.mk h
    clear h
    gi_wp2
    have hz : own D = 0 := Classical.byContradiction fun e => by have := HI.out.lt _ e; omega
    have hne : D ≠ w.heap.size + 1 ∧ D ≠ w.heap.size + 2 := by omega
    have HE2 := HE.out.step (grownBy_putObj' W D (.deferred none)) (fun k e => by cases e; exact ⟨hz, hne.1, hne.2, by omega⟩)
    refine ⟨by simp, .inl ⟨_, _, rfl, run_takeDeferred hK, ?_⟩⟩
    refine ⟨.tuple #[], results_none rfl _ _ _, rfl, own, gs, ?_, HE2.fr, fun _ _ => rfl⟩
    rw [← expUpto_all]
    exact HE2.bi
  case stop => exact fun _ _ _ _ _ _ h _ => h.elim
end Go.Proofs.Ytofegigbhohebaa.Hand
