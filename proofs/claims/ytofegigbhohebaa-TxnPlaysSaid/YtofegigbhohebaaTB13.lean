/- What an Init does: a name that is known. -/
import Derived.Test.YtofegigbhohebaaTB12
namespace Go.Proofs.Ytofegigbhohebaa.Hand
open Go.RowKit Go.Proofs.Ytofegigbhohebaa Go.Proofs.YtofegigbhohebaaW.PrintWords Go.Proofs.YtofegigbhohebaaW.PrintLast
set_option linter.unusedVariables false
set_option linter.unusedSimpArgs false
variable {own : Nat → Nat} {gb : Nat} {gs : List Nat} {ps : List ProdV} {w w' : World}
theorem AdI.grown {j g : Nat} {p p' : ProdV} {v : Value} {bx : Array Value} {w2 : World} (h : AdI own gb gs ps j g p v bx w w') (hj : j < ps.length) (hgg : gs.getD j 0 = g) (hn : p'.name = p.name) (hpl : p'.places = p.places) (hg : w'.grownBy w2 (some g)) (hb : w2.heap[g]? = some (.cells (prodC p' v) 85 (0, 0))) : DoP own gb (ps.set j p') w w2 := by
  have hlen : j < (ps.set j p).length := by rw [List.length_set]; exact hj
  have hget : (ps.set j p).getD j prod0 = p := by rw [List.getD_eq_getElem?_getD, List.getElem?_set_self hj]; rfl
  have hog : own g = j + 2 := by rw [← hgg]; exact (h.bi.prod j hlen).1
  have h2 := h.bi.fld hlen hget hn hpl (by rw [hgg]; exact h.pb) h.pv (by rw [hgg]; exact hg) (by rw [hgg]; exact hb)
  rw [List.set_set] at h2
  exact ⟨own, gs, h2, h.fr.trans (Fr.grown hg (by rw [hog]; omega)) (fun _ _ => rfl), fun _ _ => rfl⟩
theorem AdI.fin {j g : Nat} {p : ProdV} {v : Value} {bx : Array Value} (h : AdI own gb gs ps j g p v bx w w') : DoP own gb (ps.set j p) w w' := ⟨own, gs, h.bi, h.fr, fun _ _ => rfl⟩
set_option maxHeartbeats 6400000 in
set_option maxRecDepth 100000 in
theorem begin_old (h : BI own gb gs ps w) (hnd : (nmsOf ps).Nodup) (x : EvV) (hs : x.name ∈ nmsOf ps) (j : Nat) (hjx : idxV (nmsOf ps) x.name = (j : Int)) (hj : j < ps.length) (p : ProdV) (hp : ps.getD j prod0 = p) (he0 : 0 ≤ p.epoch) (he : p.epoch < 2147483647) : Calls Try.prog 30 #[.pointer (some ⟨gb, 0, none⟩), evE x] w fun e w' => e = .returned (.tuple #[]) ∧ DoP own gb (ps.set j (beginP p x)) w w' := by
  have HXP := Aside0.mk (show beginP p x = if p.status = 1 then endP { p with epoch := p.epoch + 1, timeout := x.timeout } 3 else { p with epoch := p.epoch + 1, timeout := x.timeout } from rfl)
  obtain ⟨kind, name, producer, epoch, place, timeout, now, yes⟩ := x
  dsimp only at hs hjx HXP
  rw [HXP.out]
  clear HXP
  unfold evE
  have hjc : (j : Int) < (ps.length : Int) := by omega
  have hd : decide (name ∈ nmsOf ps) = true := decide_eq_true hs
  obtain ⟨g, hgg⟩ : ∃ g, gs.getD j 0 = g := ⟨_, rfl⟩
  obtain ⟨v, hA⟩ := AdI.start h j hj p hp g hgg #[.int .i64 kind, .string name, .int .i64 producer, .int .i64 epoch, .int .i64 place, .int .i64 timeout, .int .i64 now, .bool yes]
  obtain ⟨Av, cv, rfl⟩ := Kd.R_slice hA.pv
  obtain ⟨A2, c2, B2, b0, b1, -, hm, -, hrow⟩ := (h.below (below_alloc (Below.refl w.heap.size w) (.cells #[.int .i64 kind, .string name, .int .i64 producer, .int .i64 epoch, .int .i64 place, .int .i64 timeout, .int .i64 now, .bool yes] 33 (0, 0)))).cells
  obtain ⟨ad, rfl, hcell⟩ := hrow j hj
  rw [hgg] at hcell
  have hlk : ∀ n, (Instr.lookup 60 (.map (some B2)) (.string name) true).run Try.prog ((w.alloc (.cells #[.int .i64 kind, .string name, .int .i64 producer, .int .i64 epoch, .int .i64 place, .int .i64 timeout, .int .i64 now, .bool yes] 33 (0, 0))).drewN n) = .ok (.tuple #[.int .i64 j, .bool true]) ((w.alloc (.cells #[.int .i64 kind, .string name, .int .i64 producer, .int .i64 epoch, .int .i64 place, .int .i64 timeout, .int .i64 now, .bool yes] 33 (0, 0))).drewN n) := fun n => by
    have e := (show MapS _ B2 (nmsOf ps) from hm.move (W' := (w.alloc (.cells #[.int .i64 kind, .string name, .int .i64 producer, .int .i64 epoch, .int .i64 place, .int .i64 timeout, .int .i64 now, .bool yes] 33 (0, 0))).drewN n) rfl).look hnd name
    rw [hjx, hd] at e
    exact e
  have HA := Aside0.mk hA
  have HGG := Aside0.mk hgg
  have HP := Aside0.mk hp
  have x1 : (w.alloc (.cells #[.int .i64 kind, .string name, .int .i64 producer, .int .i64 epoch, .int .i64 place, .int .i64 timeout, .int .i64 now, .bool yes] 33 (0, 0))).cell? ⟨w.heap.size, 1, none⟩ = some (.string name) := (blk_cell hA.box 1).trans rfl
  have hwr : IntKind.i64.wrap (p.epoch + 1) = p.epoch + 1 := by rw [IntKind.wrap_i64]; omega
  have HE := Aside0.mk (And.intro he0 he)
  clear hA hgg hp hs hd hjx hm hrow h hnd he0 he
  by_cases hst : p.status = 1
  · rw [if_pos hst]
    go_enter Try.func30, Try.ntmps30
    go_wp2_with fail
    go_quiet (fail)
    have HA2 := Aside0.mk (HA.out.move (pw_below_drewN (Below.refl _ _) nq))
    have hcell2 : ((w.alloc (.cells #[.int .i64 kind, .string name, .int .i64 producer, .int .i64 epoch, .int .i64 place, .int .i64 timeout, .int .i64 now, .bool yes] 33 (0, 0))).drewN nq).cell? (ad.add j) = some (.pointer (some ⟨g, 0, none⟩)) := hcell
    have b02 : ((w.alloc (.cells #[.int .i64 kind, .string name, .int .i64 producer, .int .i64 epoch, .int .i64 place, .int .i64 timeout, .int .i64 now, .bool yes] 33 (0, 0))).drewN nq).cell? ⟨gb, 0, none⟩ = some (.slice (some ad) ps.length c2) := b0
    clear HA b0 b1 hcell x1 hlk
    generalize (w.alloc (.cells #[.int .i64 kind, .string name, .int .i64 producer, .int .i64 epoch, .int .i64 place, .int .i64 timeout, .int .i64 now, .bool yes] 33 (0, 0))).drewN nq = w2 at HA2 hcell2 b02 ⊢
    have HA3 := Aside0.mk (HA2.out.fld hj HGG.out 2 (.int .i64 (p.epoch + 1)) (p' := { p with epoch := p.epoch + 1 }) rfl rfl rfl)
    have HA4 := Aside0.mk (HA3.out.fld hj HGG.out 1 (.int .i64 timeout) (p' := { p with epoch := p.epoch + 1, timeout := timeout }) rfl rfl rfl)
    have y2 : w2.cell? ⟨g, 2, none⟩ = some (.int .i64 p.epoch) := (blk_cell HA2.out.pb 2).trans rfl
    have f2 := blk_frozen HA2.out.pb 2
    have y5 : (w2.setCell ⟨g, 2, none⟩ (.int .i64 (p.epoch + 1))).cell? ⟨w.heap.size, 5, none⟩ = some (.int .i64 timeout) := (blk_cell HA3.out.box 5).trans rfl
    have y1 : (w2.setCell ⟨g, 2, none⟩ (.int .i64 (p.epoch + 1))).cell? ⟨g, 1, none⟩ = some (.int .i64 p.timeout) := (blk_cell HA3.out.pb 1).trans rfl
    have f1 := blk_frozen HA3.out.pb 1
    have y3 : ((w2.setCell ⟨g, 2, none⟩ (.int .i64 (p.epoch + 1))).setCell ⟨g, 1, none⟩ (.int .i64 timeout)).cell? ⟨g, 3, none⟩ = some (.int .i64 p.status) := (blk_cell HA4.out.pb 3).trans rfl
    rw [hst] at y3
    go_wp2_with (first | (go_at_call 58; refine (end_c g { p with epoch := p.epoch + 1, timeout := timeout } Av cv 3 _ HA4.out.pb).mono ?_; rintro e w3 ⟨rfl, hb3, hg3, -⟩; have HB3 := Aside0.mk hb3; have HG3 := Aside0.mk hg3; clear hb3 hg3) | fail)
    go_end0
    exact ⟨rfl, HA4.out.grown hj HGG.out rfl rfl HG3.out HB3.out⟩
  · rw [if_neg hst]
    have hst' : (p.status == 1) = false := beq_eq_false_iff_ne.2 hst
    go_enter Try.func30, Try.ntmps30
    go_wp2_with fail
    go_quiet (fail)
    have HA2 := Aside0.mk (HA.out.move (pw_below_drewN (Below.refl _ _) nq))
    have hcell2 : ((w.alloc (.cells #[.int .i64 kind, .string name, .int .i64 producer, .int .i64 epoch, .int .i64 place, .int .i64 timeout, .int .i64 now, .bool yes] 33 (0, 0))).drewN nq).cell? (ad.add j) = some (.pointer (some ⟨g, 0, none⟩)) := hcell
    have b02 : ((w.alloc (.cells #[.int .i64 kind, .string name, .int .i64 producer, .int .i64 epoch, .int .i64 place, .int .i64 timeout, .int .i64 now, .bool yes] 33 (0, 0))).drewN nq).cell? ⟨gb, 0, none⟩ = some (.slice (some ad) ps.length c2) := b0
    clear HA b0 b1 hcell x1 hlk
    generalize (w.alloc (.cells #[.int .i64 kind, .string name, .int .i64 producer, .int .i64 epoch, .int .i64 place, .int .i64 timeout, .int .i64 now, .bool yes] 33 (0, 0))).drewN nq = w2 at HA2 hcell2 b02 ⊢
    have HA3 := Aside0.mk (HA2.out.fld hj HGG.out 2 (.int .i64 (p.epoch + 1)) (p' := { p with epoch := p.epoch + 1 }) rfl rfl rfl)
    have HA4 := Aside0.mk (HA3.out.fld hj HGG.out 1 (.int .i64 timeout) (p' := { p with epoch := p.epoch + 1, timeout := timeout }) rfl rfl rfl)
    have y2 : w2.cell? ⟨g, 2, none⟩ = some (.int .i64 p.epoch) := (blk_cell HA2.out.pb 2).trans rfl
    have f2 := blk_frozen HA2.out.pb 2
    have y5 : (w2.setCell ⟨g, 2, none⟩ (.int .i64 (p.epoch + 1))).cell? ⟨w.heap.size, 5, none⟩ = some (.int .i64 timeout) := (blk_cell HA3.out.box 5).trans rfl
    have y1 : (w2.setCell ⟨g, 2, none⟩ (.int .i64 (p.epoch + 1))).cell? ⟨g, 1, none⟩ = some (.int .i64 p.timeout) := (blk_cell HA3.out.pb 1).trans rfl
    have f1 := blk_frozen HA3.out.pb 1
    have y3 : ((w2.setCell ⟨g, 2, none⟩ (.int .i64 (p.epoch + 1))).setCell ⟨g, 1, none⟩ (.int .i64 timeout)).cell? ⟨g, 3, none⟩ = some (.int .i64 p.status) := (blk_cell HA4.out.pb 3).trans rfl
    go_wp2_with fail
    go_end0
    exact ⟨rfl, HA4.out.fin⟩
end Go.Proofs.Ytofegigbhohebaa.Hand
