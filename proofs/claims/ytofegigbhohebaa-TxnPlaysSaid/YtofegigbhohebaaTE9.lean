/- The document's Apply of an Expire. -/
import Derived.Test.YtofegigbhohebaaTE8
namespace Go.Proofs.Ytofegigbhohebaa.Hand
open Go.RowKit Go.Proofs.Ytofegigbhohebaa Go.Proofs.YtofegigbhohebaaW.PrintWords Go.Proofs.YtofegigbhohebaaW.PrintLast
set_option linter.unusedVariables false
set_option linter.unusedSimpArgs false
/-- A book that has been changed, the event's box beside it. -/
structure RX (own0 own : Nat → Prop) (gb : Nat) (rs : List RP) (x : EvV) (w0 w : World) : Prop where
  rb : RB own gb rs w
  box : w.heap[w0.heap.size]? = some (.cells (evA x) 35 (0, 0))
  fr : FrP own0 w0 w
  inc : ∀ k, k < w0.heap.size → own k → own0 k
  nb : ¬ own w0.heap.size
variable {own0 own : Nat → Prop} {gb : Nat} {rs : List RP} {w w' w0 : World} {x : EvV}
theorem RX.start (h : RQ own gb rs x w0 w) (h0 : ∀ k, own k → k < w0.heap.size) : RX own own gb rs x w0 w := ⟨h.rb, h.box, FrP.below own h.below, fun _ _ h => h, fun h => Nat.lt_irrefl _ (h0 _ h)⟩
theorem RX.move (h : RX own0 own gb rs x w0 w) (hb : Below w.heap.size w w') : RX own0 own gb rs x w0 w' := ⟨h.rb.below hb, blk_below h.box hb, h.fr.trans (FrP.below own0 hb) (fun _ _ h => h), h.inc, h.nb⟩
theorem RX.dor (h : RX own0 own gb rs x w0 w) : DoR own0 gb (psOf rs) w0 w := ⟨own, rs, h.rb, rfl, h.fr, h.inc⟩
/-- One producer is being changed. -/
structure RV (own0 own : Nat → Prop) (gb : Nat) (rs : List RP) (x : EvV) (k g c : Nat) (cur0 cur : Array Value) (r : RP) (w0 wq w : World) : Prop where
  q : RX own0 own gb rs x w0 wq
  bk : wq.heap[gb]? = some (.cells #[.slice (some ⟨g, 0, none⟩) rs.length c] 55 (0, 0))
  hg : wq.heap[g]? = some (.cells cur0 127 (0, 0))
  og : own g
  gr : wq.grownBy w (some g)
  now : w.heap[g]? = some (.cells cur 127 (0, 0))
  pu : PU (k * 6) cur0 cur r
  pv : Kd.R (Kd.int .i64) 3 w 0 (fun y => own y ∧ y ≠ g) r.2 r.1.places
variable {k g c : Nat} {cur0 cur cur' : Array Value} {r r' : RP} {wq : World}
theorem RV.start (h : RX own0 own gb rs x w0 w) (k : Nat) (r : RP) (hr : rs[k]? = some r) : ∃ g c cur, RV own0 own gb rs x k g c cur cur r w0 w w := by
  obtain ⟨A, c, hb, hmax, hrow⟩ := h.rb.read
  obtain ⟨g, cur, hA, hog, hg, hc⟩ := hrow k r hr
  subst hA
  refine ⟨g, c, cur, h, hb, hg, hog, ⟨rfl, rfl, rfl, Nat.le_refl _, fun _ _ _ => rfl⟩, hg, ⟨rfl, fun _ _ => rfl, hc⟩, ?_⟩
  refine Kd.R_mono (Kd.R_bound (h.rb.each r (List.mem_iff_getElem?.2 ⟨k, hr⟩))) (fun y hy => ⟨hy.1, ?_⟩)
  obtain ⟨_, _, _, t, ht, cs, hcs⟩ := hy
  intro e
  subst e
  rw [hg] at hcs
  injection hcs with hcs
  injection hcs with h1 h2
  subst h2
  exact absurd ht (by simp [Kd.E, Kd.int, Kd.scalar])
theorem RV.bk' (h : RV own0 own gb rs x k g c cur0 cur r w0 wq w) : w.heap[gb]? = some (.cells #[.slice (some ⟨g, 0, none⟩) rs.length c] 55 (0, 0)) :=
  (h.gr.block _ (blk_lt h.bk) (fun e => by injection e with e; exact blk_ne h.bk h.hg (by decide) e)).trans h.bk
theorem RV.box (h : RV own0 own gb rs x k g c cur0 cur r w0 wq w) : w.heap[w0.heap.size]? = some (.cells (evA x) 35 (0, 0)) :=
  (h.gr.block _ (blk_lt h.q.box) (fun e => by injection e with e; exact blk_ne h.q.box h.hg (by decide) e)).trans h.q.box
theorem RV.call (h : RV own0 own gb rs x k g c cur0 cur r w0 wq w) (hn : w'.heap[g]? = some (.cells cur' 127 (0, 0))) (hp : PU (k * 6) cur0 cur' r') (hg : w.grownBy w' (some g)) (e1 : r'.2 = r.2) (e2 : r'.1.places = r.1.places) : RV own0 own gb rs x k g c cur0 cur' r' w0 wq w' := by
  refine ⟨h.q, h.bk, h.hg, h.og, World.grownBy.trans h.gr hg, hn, hp, ?_⟩
  rw [e1, e2]
  refine Kd.R_step h.pv (fun y hy hlt => hg.block y hlt (fun e => ?_))
  injection e with e
  exact hy.2 e
theorem RV.below (h : RV own0 own gb rs x k g c cur0 cur r w0 wq w) (hb : Below w.heap.size w w') : RV own0 own gb rs x k g c cur0 cur r w0 wq w' :=
  ⟨h.q, h.bk, h.hg, h.og, World.grownBy.trans h.gr ⟨hb.os, hb.tape, hb.output, hb.size, fun y hy _ => hb.block y hy⟩, blk_below h.now hb, h.pu, Kd.R_below h.pv hb⟩
theorem RV.set (h : RV own0 own gb rs x k g c cur0 cur r w0 wq w) (j : Nat) (hj : j < 6) (v : Value) (r' : RP) (e : (rpL r).set j v = rpL r') (e1 : r'.2 = r.2) (e2 : r'.1.places = r.1.places) : RV own0 own gb rs x k g c cur0 (cur.setIfInBounds (k * 6 + j) v) r' w0 wq (w.setCell ⟨g, k * 6 + j, none⟩ v) :=
  h.call (blk_put h.now _ _ rfl) (h.pu.set j hj v r' e) (setCell_grown _ _ _ _) e1 e2
theorem RV.ending (h : RV own0 own gb rs x k g c cur0 cur r w0 wq w) (st : Int) : Calls Try.prog 73 #[.pointer (some ⟨g, k * 6, none⟩), .int .i64 st] w fun e w' => e = .returned (.tuple #[]) ∧ ∃ cur', RV own0 own gb rs x k g c cur0 cur' (endP r.1 st, r.2) w0 wq w' := by
  obtain ⟨A, c', hv⟩ := Kd.R_slice h.pv
  refine (rending_c g (k * 6) cur0 cur r A c' st w h.now h.pu hv).mono ?_
  rintro e w' ⟨rfl, cur', h1, h2, h3, -⟩
  exact ⟨rfl, cur', h.call h1 h2 h3 rfl rfl⟩
theorem RV.done (h : RV own0 own gb rs x k g c cur0 cur r w0 wq w) {r0 : RP} (hr : rs[k]? = some r0) : RX own0 own gb (rs.set k r) x w0 w := by
  refine ⟨h.q.rb.put (A := none) (own' := own) hr h.bk h.hg h.gr.size (fun y hy hne => h.gr.block y (h.q.rb.lt y hy) (fun e => hne (by injection e))) (fun y hy => hy) (fun y hy => Nat.lt_of_lt_of_le (h.q.rb.lt y hy) h.gr.size) h.now h.pu.size (fun j hj => h.pu.oth j (by omega)) h.pu.new (Kd.R_mono h.pv (fun y hy => hy.1)), h.box, ?_, h.q.inc, h.q.nb⟩
  refine ⟨h.gr.os.trans h.q.fr.os, h.gr.tape.trans h.q.fr.tape, h.gr.output.trans h.q.fr.output, Nat.le_trans h.q.fr.size h.gr.size, fun y hy h0 => (h.gr.block y (Nat.lt_of_lt_of_le hy h.q.fr.size) (fun e => ?_)).trans (h.q.fr.block y hy h0)⟩
  injection e with e
  subst e
  exact h0 (h.q.inc y hy h.og)
def TA11 : Bool × List (List Nat × List Nat) := (true, [([], []), ([0], [0]), ([1], [1]), ([2], [2]), ([], []), ([3, 4], [3, 4]), ([5], [5]), ([], []), ([7], [7]), ([6, 8], [6, 8])])
def BA11 : List Nat := [0, 1, 3, 7, 0, 31, 63, 0, 128, 511]
theorem tabA11 : rtab .any (opsOf Try.f45 11) = TA11 := by kernel_rfl
theorem bitsA11 : waitsOk TA11.2 BA11 = true := by kernel_rfl
def TA12 : Bool × List (List Nat × List Nat) := (true, [([], []), ([0], [0]), ([1], [1]), ([2], [2]), ([], []), ([], []), ([5], [5]), ([6], [6]), ([7], [7]), ([], []), ([8, 9], [8, 9]), ([10], [10]), ([11], [11]), ([12], [12]), ([13], [13]), ([3, 4, 0, 1, 2, 3, 4, 5, 6, 7, 8, 9, 10, 11, 12, 13, 14], [3, 4]), ([15, 0, 1, 2, 3, 4, 5, 6, 7, 8, 9, 10, 11, 12, 13, 14], [15]), ([16, 14, 0, 1, 2, 3, 4, 5, 6, 7, 8, 9, 10, 11, 12, 13, 14], [14, 16])])
def BA12 : List Nat := [0, 1, 3, 7, 0, 0, 32, 96, 224, 0, 992, 2016, 4064, 8160, 16352, 32767, 65535, 131071]
theorem tabA12 : rtab .any (opsOf Try.f45 12) = TA12 := by kernel_rfl
theorem bitsA12 : waitsOk TA12.2 BA12 = true := by kernel_rfl
def expU (ps : List ProdV) (k : Nat) (now : Int) : List ProdV := (ps.take k).map (fun p => expP p now) ++ ps.drop k
theorem expU_len (ps : List ProdV) (k : Nat) (now : Int) : (expU ps k now).length = ps.length := by
  unfold expU
  rw [List.length_append, List.length_map, List.length_take, List.length_drop]
  omega
theorem expU_at (ps : List ProdV) (k : Nat) (now : Int) (hk : k < ps.length) : (expU ps k now)[k]? = ps[k]? := by
  unfold expU
  have hl : ((ps.take k).map (fun p => expP p now)).length = k := by rw [List.length_map, List.length_take]; omega
  rw [List.getElem?_append_right (by omega), hl, List.getElem?_drop]
  simp
theorem expU_succ (ps : List ProdV) (k : Nat) (now : Int) (p : ProdV) (hp : ps[k]? = some p) : expU ps (k + 1) now = (expU ps k now).set k (expP p now) := by
  obtain ⟨hk, he⟩ := List.getElem?_eq_some_iff.1 hp
  unfold expU
  have hl : ((ps.take k).map (fun p => expP p now)).length = k := by rw [List.length_map, List.length_take]; omega
  rw [List.set_append_right _ _ (by omega), hl, Nat.sub_self, List.drop_eq_getElem_cons hk, List.set_cons_zero, List.take_succ_eq_append_getElem hk, List.map_append, List.append_assoc, he]
  rfl
theorem expU_all (ps : List ProdV) (now : Int) : expU ps ps.length now = ps.map fun p => expP p now := by
  unfold expU
  rw [List.take_length, List.drop_length, List.append_nil]
set_option maxHeartbeats 3200000 in
set_option maxRecDepth 100000 in
theorem rapply5_c (h : RB own gb rs w) (hg : Good (psOf rs)) (x : EvV) (hk : x.kind = 5) (hd : decideF (psOf rs) x = (false, 0)) : Calls Try.prog 45 #[.pointer (some ⟨gb, 0, none⟩), evE x] w fun e w' => e = .returned (.int .i64 (decideF (psOf rs) x).2) ∧ DoR own gb (applyF (psOf rs) x) w w' := by
  have hap : applyF (psOf rs) x = (psOf rs).map fun p => expP p x.now := by
    unfold applyF doesF
    rw [hd, if_neg (by simp), if_neg (by omega), if_neg (by omega), if_neg (by omega), if_neg (by omega)]
  rw [hap]
  have HQ := Aside0.mk (RQ.start h x)
  have HDE := Aside0.mk (fun (W : World) (h : RQ own gb rs x w W) => rdecide_c h.rb hg x)
  have HGP := Aside0.mk hg.each
  have HLT := Aside0.mk h.lt
  have hmax := h.len
  rw [hd] at HDE ⊢
  clear hap hd h hg
  obtain ⟨ps, hps⟩ : ∃ ps, psOf rs = ps := ⟨_, rfl⟩
  rw [hps] at HGP ⊢
  have hpl : ps.length = rs.length := by rw [← hps, psOf_len]
  have HPS := Aside0.mk hps
  clear hps
  obtain ⟨kind, name, producer, epoch, place, timeout, now, yes⟩ := x
  unfold evE at HDE ⊢
  dsimp only at HDE hk ⊢
  subst hk
  have y0 : (w.alloc (.cells #[.int .i64 5, .string name, .int .i64 producer, .int .i64 epoch, .int .i64 place, .int .i64 timeout, .int .i64 now, .bool yes] 35 (0, 0))).cell? ⟨w.heap.size, 0, none⟩ = some (.int .i64 5) := (blk_cell HQ.out.box 0).trans rfl
  have y1 : (w.alloc (.cells #[.int .i64 5, .string name, .int .i64 producer, .int .i64 epoch, .int .i64 place, .int .i64 timeout, .int .i64 now, .bool yes] 35 (0, 0))).cell? ⟨w.heap.size, 1, none⟩ = some (.string name) := (blk_cell HQ.out.box 1).trans rfl
  have y2 : (w.alloc (.cells #[.int .i64 5, .string name, .int .i64 producer, .int .i64 epoch, .int .i64 place, .int .i64 timeout, .int .i64 now, .bool yes] 35 (0, 0))).cell? ⟨w.heap.size, 2, none⟩ = some (.int .i64 producer) := (blk_cell HQ.out.box 2).trans rfl
  have y3 : (w.alloc (.cells #[.int .i64 5, .string name, .int .i64 producer, .int .i64 epoch, .int .i64 place, .int .i64 timeout, .int .i64 now, .bool yes] 35 (0, 0))).cell? ⟨w.heap.size, 3, none⟩ = some (.int .i64 epoch) := (blk_cell HQ.out.box 3).trans rfl
  have y4 : (w.alloc (.cells #[.int .i64 5, .string name, .int .i64 producer, .int .i64 epoch, .int .i64 place, .int .i64 timeout, .int .i64 now, .bool yes] 35 (0, 0))).cell? ⟨w.heap.size, 4, none⟩ = some (.int .i64 place) := (blk_cell HQ.out.box 4).trans rfl
  have y5 : (w.alloc (.cells #[.int .i64 5, .string name, .int .i64 producer, .int .i64 epoch, .int .i64 place, .int .i64 timeout, .int .i64 now, .bool yes] 35 (0, 0))).cell? ⟨w.heap.size, 5, none⟩ = some (.int .i64 timeout) := (blk_cell HQ.out.box 5).trans rfl
  have y6 : (w.alloc (.cells #[.int .i64 5, .string name, .int .i64 producer, .int .i64 epoch, .int .i64 place, .int .i64 timeout, .int .i64 now, .bool yes] 35 (0, 0))).cell? ⟨w.heap.size, 6, none⟩ = some (.int .i64 now) := (blk_cell HQ.out.box 6).trans rfl
  have y7 : (w.alloc (.cells #[.int .i64 5, .string name, .int .i64 producer, .int .i64 epoch, .int .i64 place, .int .i64 timeout, .int .i64 now, .bool yes] 35 (0, 0))).cell? ⟨w.heap.size, 7, none⟩ = some (.bool yes) := (blk_cell HQ.out.box 7).trans rfl
  unfold evA at HQ
  dsimp only at HQ
  go_enter Try.func45, Try.ntmps45
  go_wp2_with (go_at_call 44; clear y0 y1 y2 y3 y4 y5 y6 y7; refine (HDE.out _ HQ.out).mono ?_; rintro e w2 ⟨rfl, hb⟩; have HX2 := Aside0.mk (RX.start (HQ.out.move hb) HLT.out); clear hb HQ HDE; have y0 : (w2).cell? ⟨w.heap.size, 0, none⟩ = some (.int .i64 5) := (blk_cell HX2.out.box 0).trans rfl; have y2 : (w2).cell? ⟨w.heap.size, 2, none⟩ = some (.int .i64 producer) := (blk_cell HX2.out.box 2).trans rfl)
  clear y0 y2
  go_loopw [7] (fun i wr => ∃ (k : Nat) (own1 : Nat → Prop) (rs1 : List RP), k ≤ rs.length ∧ i = .int .i64 (k : Int) ∧ psOf rs1 = expU ps k now ∧ rs1.length = rs.length ∧ RX own own1 gb rs1 ⟨5, name, producer, epoch, place, timeout, now, yes⟩ w wr) (fun i _ => rs.length - (intOf i).toNat)
  case atStart => exact ⟨0, own, rs, Nat.zero_le _, rfl, by rw [HPS.out]; rfl, rfl, HX2.out⟩
  case round =>
    obtain ⟨k, own1, rs1, hk, rfl, hps1, hl1, hx⟩ := hrel
    have HX := Aside0.mk hx
    clear hx HX2
    by_cases hkl : k < rs.length
    · have hkc : (k : Int) < (rs1.length : Int) := by omega
      have hkm : k < rs1.length := by omega
      obtain ⟨⟨⟨nm, tm, ep, st, si, pl⟩, sl⟩, hrk⟩ : ∃ r, rs1[k]? = some r := ⟨_, List.getElem?_eq_getElem hkm⟩
      have hpk : ps[k]? = some ⟨nm, tm, ep, st, si, pl⟩ := by
        rw [← expU_at ps k now (by omega), ← hps1]
        unfold psOf
        rw [List.getElem?_map, hrk]
        rfl
      have hgp := HGP.out _ (List.mem_iff_getElem?.2 ⟨k, hpk⟩)
      have RO := Aside0.mk (fun W => rover_c (⟨nm, tm, ep, st, si, pl⟩, sl) hgp now W)
      unfold rpV prodC at RO
      dsimp only at RO
      obtain ⟨ov, hov⟩ : ∃ ov, overP ⟨nm, tm, ep, st, si, pl⟩ now = ov := ⟨_, rfl⟩
      rw [hov] at RO
      have HOV := Aside0.mk hov
      have HEX := Aside0.mk (expU_succ ps k now _ hpk)
      have HE1 := Aside0.mk hgp.e1
      have HE0 := Aside0.mk hgp.e0
      have HP1 := Aside0.mk hps1
      clear hov hgp hpk hps1
      obtain ⟨A, c, hb, hmax, hrow⟩ := HX.out.rb.read
      have b0 : wr.cell? ⟨gb, 0, none⟩ = some (.slice A rs1.length c) := (blk_cell hb 0).trans rfl
      obtain ⟨ad, hA, e0, e1, e2, e3, e4, e5⟩ := rp_cells hrow k _ hrk
      subst hA
      dsimp only at e0 e1 e2 e3 e4 e5
      clear hb hrow
      have y6 : wr.cell? ⟨w.heap.size, 6, none⟩ = some (.int .i64 now) := (blk_cell HX.out.box 6).trans rfl
      go_upto_region 11 with fail
      have hdr := below_drew (Below.refl wr.heap.size wr)
      have HXd := Aside0.mk (HX.out.move hdr)
      clear hdr b0 e0 e1 e2 e3 e4 e5 y6
      obtain ⟨A, c, hb, hmax, hrow⟩ := HXd.out.rb.read; have b0 : wr.drew.cell? ⟨gb, 0, none⟩ = some (.slice A rs1.length c) := (blk_cell hb 0).trans rfl
      obtain ⟨ad, hA, e0, e1, e2, e3, e4, e5⟩ := rp_cells hrow k _ hrk; subst hA; dsimp only at e0 e1 e2 e3 e4 e5
      clear hb hrow
      have y6 : wr.drew.cell? ⟨w.heap.size, 6, none⟩ = some (.int .i64 now) := (blk_cell HXd.out.box 6).trans rfl
      refine start_ (n := 10) (S := fun w' => w'.cell? ⟨gb, 0, none⟩ = some (.slice (some ad) rs1.length c) ∧ w'.cell? (ad.add (k * 6)) = some (.string nm) ∧ w'.cell? ⟨(ad.add (k * 6)).block, (ad.add (k * 6)).off + 1, none⟩ = some (.int .i64 tm) ∧ w'.cell? ⟨(ad.add (k * 6)).block, (ad.add (k * 6)).off + 2, none⟩ = some (.int .i64 ep) ∧ w'.cell? ⟨(ad.add (k * 6)).block, (ad.add (k * 6)).off + 3, none⟩ = some (.int .i64 st) ∧ w'.cell? ⟨(ad.add (k * 6)).block, (ad.add (k * 6)).off + 4, none⟩ = some (.int .i64 si) ∧ w'.cell? ⟨(ad.add (k * 6)).block, (ad.add (k * 6)).off + 5, none⟩ = some sl ∧ w'.cell? ⟨w.heap.size, 6, none⟩ = some (.int .i64 now)) (ds := []) #[false, false, false, false, false, false, false, false, false, false] (by kernel_rfl) rfl rfl ⟨b0, e0, e1, e2, e3, e4, e5, y6⟩ (fun hHeld => ?_); refine with_tabW tabA11 bitsA11 (fun HT_ HW_ => ?_)
      generalize wr.drew = wd at HXd b0 e0 e1 e2 e3 e4 e5 y6 hHeld ⊢
      refine pure_ (i := 0) (N := (some 58)) (v := ?_) (a' := ?_) #[true, false, false, false, false, false, false, false, false, false] rfl rfl (any_of HT_.out (by kernel_rfl)) (fun _ _ _ h => h) (Or.inl ⟨by rfl, ?_⟩) ?_ ?_
      rotate_left
      · intro w'
        go_simp
        with_reducible rfl
      rotate_left
      · simp only [Act.put, List.setIfInBounds_toArray, List.set_cons_zero, List.set_cons_succ, i64_w, i32_w]
        rfl
      refine pure_ (i := 1) (N := (some 59)) (v := ?_) (a' := ?_) #[true, true, false, false, false, false, false, false, false, false] rfl rfl (any_of HT_.out (by kernel_rfl)) (fun _ _ _ h => h) (Or.inl ⟨by rfl, ?_⟩) ?_ ?_
      rotate_left
      · intro w'
        go_simp
        with_reducible rfl
      rotate_left
      · simp only [Act.put, List.setIfInBounds_toArray, List.set_cons_zero, List.set_cons_succ, i64_w, i32_w]
        rfl
      refine pure_ (i := 2) (N := (some 60)) (v := ?_) (a' := ?_) #[true, true, true, false, false, false, false, false, false, false] rfl rfl (any_of HT_.out (by kernel_rfl)) (fun _ _ _ h => h) (Or.inl ⟨by rfl, ?_⟩) ?_ ?_
      rotate_left
      · intro w'
        go_simp
        with_reducible rfl
      rotate_left
      · simp only [Act.put, List.setIfInBounds_toArray, List.set_cons_zero, List.set_cons_succ, i64_w, i32_w]
        rfl
      refine take_ (i := 3) (N := (some 61)) (v := ?_) (a' := ?_) #[true, true, true, true, false, false, false, false, false, false] rfl rfl (take_ofW HT_.out HW_.out (by kernel_rfl)) (fun _ _ _ h => h) (Or.inl ⟨by rfl, ?_⟩) hHeld ?_ ?_
      rotate_left
      · rintro w' ⟨s0, s1, s2, s3, s4, s5, s6, s7⟩
        go_simp
        with_reducible rfl
      rotate_left
      · simp only [Act.put, List.setIfInBounds_toArray, List.set_cons_zero, List.set_cons_succ, i64_w, i32_w]
        rfl
      refine pure_ (i := 4) (N := (some 62)) (v := ?_) (a' := ?_) #[true, true, true, true, true, false, false, false, false, false] rfl rfl (any_of HT_.out (by kernel_rfl)) (fun _ _ _ h => h) (Or.inl ⟨by rfl, ?_⟩) ?_ ?_
      rotate_left
      · intro w'
        go_simp
        with_reducible rfl
      rotate_left
      · simp only [Act.put, List.setIfInBounds_toArray, List.set_cons_zero, List.set_cons_succ, i64_w, i32_w]
        rfl
      refine pure_ (i := 5) (N := (some 63)) (v := ?_) (a' := ?_) #[true, true, true, true, true, true, false, false, false, false] rfl rfl (any_of HT_.out (by kernel_rfl)) (fun _ _ _ h => h) (Or.inl ⟨by rfl, ?_⟩) ?_ ?_
      rotate_left
      · intro w'
        go_simp
        with_reducible rfl
      rotate_left
      · simp only [Act.put, List.setIfInBounds_toArray, List.set_cons_zero, List.set_cons_succ, i64_w, i32_w]
        rfl
      refine take_ (i := 6) (N := (some 64)) (v := ?_) (a' := ?_) #[true, true, true, true, true, true, true, false, false, false] rfl rfl (take_ofW HT_.out HW_.out (by kernel_rfl)) (fun _ _ _ h => h) (Or.inl ⟨by rfl, ?_⟩) hHeld ?_ ?_
      rotate_left
      · rintro w' ⟨s0, s1, s2, s3, s4, s5, s6, s7⟩
        go_simp
        with_reducible rfl
      rotate_left
      · simp only [Act.put, List.setIfInBounds_toArray, List.set_cons_zero, List.set_cons_succ, i64_w, i32_w]
        rfl
      refine pure_ (i := 7) (N := (some 65)) (v := ?_) (a' := ?_) #[true, true, true, true, true, true, true, true, false, false] rfl rfl (any_of HT_.out (by kernel_rfl)) (fun _ _ _ h => h) (Or.inl ⟨by rfl, ?_⟩) ?_ ?_
      rotate_left
      · intro w'
        go_simp
        with_reducible rfl
      rotate_left
      · simp only [Act.put, List.setIfInBounds_toArray, List.set_cons_zero, List.set_cons_succ, i64_w, i32_w]
        rfl
      refine take_ (i := 8) (N := (some 66)) (v := ?_) (a' := ?_) #[true, true, true, true, true, true, true, true, true, false] rfl rfl (take_ofW HT_.out HW_.out (by kernel_rfl)) (fun _ _ _ h => h) (Or.inl ⟨by rfl, ?_⟩) hHeld ?_ ?_
      rotate_left
      · rintro w' ⟨s0, s1, s2, s3, s4, s5, s6, s7⟩
        go_simp
        with_reducible rfl
      rotate_left
      · simp only [Act.put, List.setIfInBounds_toArray, List.set_cons_zero, List.set_cons_succ, i64_w, i32_w]
        rfl
      refine one_ (i := 9) (N := (some 67)) #[true, true, true, true, true, true, true, true, true, true] rfl rfl (one_of HT_.out (by kernel_rfl)) (by decide) (fun K hK => ?_)
      refine goes_ Try.func71 (by kernel_rfl) rfl #[.agg #[.string nm, .int .i64 tm, .int .i64 ep, .int .i64 st, .int .i64 si, sl], .int .i64 now] (by rfl) rfl rfl (by (try simp only [List.map_toArray, List.map_cons, List.map_nil]); first | done | rfl) ?_
      refine (RO.out _).mono ?_
      rintro e w9 ⟨rfl, hb⟩
      have HX9 := Aside0.mk (HXd.out.move hb)
      have hS := Aside0.mk (And.intro (cell_bel hb b0) (And.intro (cell_bel hb e0) (And.intro (cell_bel hb e1) (And.intro (cell_bel hb e2) (And.intro (cell_bel hb e3) (And.intro (cell_bel hb e4) (And.intro (cell_bel hb e5) (cell_bel hb y6))))))))
      clear hb b0 e0 e1 e2 e3 e4 e5 y6
      refine ⟨_, rfl, ?_⟩
      refine hK.out _ _ hS.out (fun hHeld => ?_)
      clear hK K
      refine norm_ (a' := ?_) ?_ ?_
      rotate_left
      · show Act.put _ (some 67) _ = _
        simp only [Act.put, List.setIfInBounds_toArray, List.set_cons_zero, List.set_cons_succ, i64_w, i32_w]
        rfl
      refine done_ (done_of HT_.out (by kernel_rfl)) ?_
      clear hHeld HT_ HW_ hS
      cases ov
      · go_wp2_with fail
        refine ⟨⟨k + 1, own1, rs1, by omega, rfl, ?_, hl1, HX9.out⟩, by simp only [intOf]; omega⟩
        rw [HEX.out, HP1.out]
        refine (List.ext_getElem? fun j => ?_)
        by_cases hj : k = j
        · subst hj
          rw [List.getElem?_set_self (by rw [expU_len]; omega), ← HP1.out]
          unfold psOf expP
          rw [HOV.out, if_neg (by decide), List.getElem?_map, hrk]
          rfl
        · rw [List.getElem?_set_ne hj]
      · obtain ⟨g, c, cur0, hv⟩ := RV.start HX9.out k _ hrk
        have HV := Aside0.mk hv
        clear hv
        have b0 : w9.cell? ⟨gb, 0, none⟩ = some (.slice (some ⟨g, 0, none⟩) rs1.length c) := (blk_cell HV.out.bk' 0).trans rfl
        have e2 : w9.cell? ⟨g, k * 6 + 2, none⟩ = some (.int .i64 ep) := (blk_cell HV.out.now (k * 6 + 2)).trans (HV.out.pu.new 2 (by decide))
        have hw1 : wrap64 (ep + 1) = ep + 1 := by
          have h0 := HE0.out
          have h1 := HE1.out
          dsimp only at h0 h1
          unfold wrap64; omega
        go_upto_region 12 with fail
        have HVd := Aside0.mk (HV.out.below (below_drew (Below.refl w9.heap.size w9)))
        clear b0 e2
        have b0 : w9.drew.cell? ⟨gb, 0, none⟩ = some (.slice (some ⟨g, 0, none⟩) rs1.length c) := (blk_cell HVd.out.bk' 0).trans rfl
        have e2 : w9.drew.cell? ⟨g, k * 6 + 2, none⟩ = some (.int .i64 ep) := (blk_cell HVd.out.now (k * 6 + 2)).trans (HVd.out.pu.new 2 (by decide))
        refine start_ (n := 18) (S := fun w' => w'.cell? ⟨gb, 0, none⟩ = some (.slice (some ⟨g, 0, none⟩) rs1.length c) ∧ w'.cell? ⟨g, k * 6 + 2, none⟩ = some (.int .i64 ep)) (ds := [17]) #[false, false, false, false, false, false, false, false, false, false, false, false, false, false, false, false, false, false] (by kernel_rfl) rfl rfl ⟨b0, e2⟩ (fun hHeld => ?_); refine with_tabW tabA12 bitsA12 (fun HT_ HW_ => ?_)
        generalize w9.drew = w10 at HVd b0 e2 hHeld ⊢
        refine pure_ (i := 0) (N := (some 68)) (v := ?_) (a' := ?_) #[true, false, false, false, false, false, false, false, false, false, false, false, false, false, false, false, false, false] rfl rfl (any_of HT_.out (by kernel_rfl)) (fun _ _ _ h => h) (Or.inl ⟨by rfl, ?_⟩) ?_ ?_
        rotate_left
        · intro w'
          go_simp
          with_reducible rfl
        rotate_left
        · simp only [Act.put, List.setIfInBounds_toArray, List.set_cons_zero, List.set_cons_succ, i64_w, i32_w]
          rfl
        refine pure_ (i := 1) (N := (some 69)) (v := ?_) (a' := ?_) #[true, true, false, false, false, false, false, false, false, false, false, false, false, false, false, false, false, false] rfl rfl (any_of HT_.out (by kernel_rfl)) (fun _ _ _ h => h) (Or.inl ⟨by rfl, ?_⟩) ?_ ?_
        rotate_left
        · intro w'
          go_simp
          with_reducible rfl
        rotate_left
        · simp only [Act.put, List.setIfInBounds_toArray, List.set_cons_zero, List.set_cons_succ, i64_w, i32_w]
          rfl
        refine pure_ (i := 2) (N := (some 70)) (v := ?_) (a' := ?_) #[true, true, true, false, false, false, false, false, false, false, false, false, false, false, false, false, false, false] rfl rfl (any_of HT_.out (by kernel_rfl)) (fun _ _ _ h => h) (Or.inl ⟨by rfl, ?_⟩) ?_ ?_
        rotate_left
        · intro w'
          go_simp
          with_reducible rfl
        rotate_left
        · simp only [Act.put, List.setIfInBounds_toArray, List.set_cons_zero, List.set_cons_succ, i64_w, i32_w]
          rfl
        refine take_ (i := 3) (N := (some 71)) (v := ?_) (a' := ?_) #[true, true, true, true, false, false, false, false, false, false, false, false, false, false, false, false, false, false] rfl rfl (take_ofW HT_.out HW_.out (by kernel_rfl)) (fun _ _ _ h => h) (Or.inl ⟨by rfl, ?_⟩) hHeld ?_ ?_
        rotate_left
        · rintro w' ⟨s0, s1⟩
          go_simp
          with_reducible rfl
        rotate_left
        · simp only [Act.put, List.setIfInBounds_toArray, List.set_cons_zero, List.set_cons_succ, i64_w, i32_w]
          rfl
        refine pure_ (i := 4) (N := (some 72)) (v := ?_) (a' := ?_) #[true, true, true, true, true, false, false, false, false, false, false, false, false, false, false, false, false, false] rfl rfl (any_of HT_.out (by kernel_rfl)) (fun _ _ _ h => h) (Or.inl ⟨by rfl, ?_⟩) ?_ ?_
        rotate_left
        · intro w'
          go_simp
          with_reducible rfl
        rotate_left
        · simp only [Act.put, List.setIfInBounds_toArray, List.set_cons_zero, List.set_cons_succ, i64_w, i32_w]
          rfl
        refine pure_ (i := 5) (N := (some 73)) (v := ?_) (a' := ?_) #[true, true, true, true, true, true, false, false, false, false, false, false, false, false, false, false, false, false] rfl rfl (any_of HT_.out (by kernel_rfl)) (fun _ _ _ h => h) (Or.inl ⟨by rfl, ?_⟩) ?_ ?_
        rotate_left
        · intro w'
          go_simp
          with_reducible rfl
        rotate_left
        · simp only [Act.put, List.setIfInBounds_toArray, List.set_cons_zero, List.set_cons_succ, i64_w, i32_w]
          rfl
        refine pure_ (i := 6) (N := (some 74)) (v := ?_) (a' := ?_) #[true, true, true, true, true, true, true, false, false, false, false, false, false, false, false, false, false, false] rfl rfl (any_of HT_.out (by kernel_rfl)) (fun _ _ _ h => h) (Or.inl ⟨by rfl, ?_⟩) ?_ ?_
        rotate_left
        · intro w'
          go_simp
          with_reducible rfl
        rotate_left
        · simp only [Act.put, List.setIfInBounds_toArray, List.set_cons_zero, List.set_cons_succ, i64_w, i32_w]
          rfl
        refine pure_ (i := 7) (N := (some 75)) (v := ?_) (a' := ?_) #[true, true, true, true, true, true, true, true, false, false, false, false, false, false, false, false, false, false] rfl rfl (any_of HT_.out (by kernel_rfl)) (fun _ _ _ h => h) (Or.inl ⟨by rfl, ?_⟩) ?_ ?_
        rotate_left
        · intro w'
          go_simp
          with_reducible rfl
        rotate_left
        · simp only [Act.put, List.setIfInBounds_toArray, List.set_cons_zero, List.set_cons_succ, i64_w, i32_w]
          rfl
        refine take_ (i := 8) (N := (some 76)) (v := ?_) (a' := ?_) #[true, true, true, true, true, true, true, true, true, false, false, false, false, false, false, false, false, false] rfl rfl (take_ofW HT_.out HW_.out (by kernel_rfl)) (fun _ _ _ h => h) (Or.inl ⟨by rfl, ?_⟩) hHeld ?_ ?_
        rotate_left
        · rintro w' ⟨s0, s1⟩
          go_simp
          with_reducible rfl
        rotate_left
        · simp only [Act.put, List.setIfInBounds_toArray, List.set_cons_zero, List.set_cons_succ, i64_w, i32_w]
          rfl
        refine pure_ (i := 9) (N := (some 77)) (v := ?_) (a' := ?_) #[true, true, true, true, true, true, true, true, true, true, false, false, false, false, false, false, false, false] rfl rfl (any_of HT_.out (by kernel_rfl)) (fun _ _ _ h => h) (Or.inl ⟨by rfl, ?_⟩) ?_ ?_
        rotate_left
        · intro w'
          go_simp
          with_reducible rfl
        rotate_left
        · simp only [Act.put, List.setIfInBounds_toArray, List.set_cons_zero, List.set_cons_succ, i64_w, i32_w]
          rfl
        refine pure_ (i := 10) (N := (some 78)) (v := ?_) (a' := ?_) #[true, true, true, true, true, true, true, true, true, true, true, false, false, false, false, false, false, false] rfl rfl (any_of HT_.out (by kernel_rfl)) (fun _ _ _ h => h) (Or.inl ⟨by rfl, ?_⟩) ?_ ?_
        rotate_left
        · intro w'
          go_simp
          with_reducible rfl
        rotate_left
        · simp only [Act.put, List.setIfInBounds_toArray, List.set_cons_zero, List.set_cons_succ, i64_w, i32_w]
          rfl
        refine pure_ (i := 11) (N := (some 79)) (v := ?_) (a' := ?_) #[true, true, true, true, true, true, true, true, true, true, true, true, false, false, false, false, false, false] rfl rfl (any_of HT_.out (by kernel_rfl)) (fun _ _ _ h => h) (Or.inl ⟨by rfl, ?_⟩) ?_ ?_
        rotate_left
        · intro w'
          go_simp
          with_reducible rfl
        rotate_left
        · simp only [Act.put, List.setIfInBounds_toArray, List.set_cons_zero, List.set_cons_succ, i64_w, i32_w]
          rfl
        refine take_ (i := 12) (N := (some 80)) (v := ?_) (a' := ?_) #[true, true, true, true, true, true, true, true, true, true, true, true, true, false, false, false, false, false] rfl rfl (take_ofW HT_.out HW_.out (by kernel_rfl)) (fun _ _ _ h => h) (Or.inl ⟨by rfl, ?_⟩) hHeld ?_ ?_
        rotate_left
        · rintro w' ⟨s0, s1⟩
          go_simp
          with_reducible rfl
        rotate_left
        · simp only [Act.put, List.setIfInBounds_toArray, List.set_cons_zero, List.set_cons_succ, i64_w, i32_w]
          rfl
        refine pure_ (i := 13) (N := (some 81)) (v := ?_) (a' := ?_) #[true, true, true, true, true, true, true, true, true, true, true, true, true, true, false, false, false, false] rfl rfl (any_of HT_.out (by kernel_rfl)) (fun _ _ _ h => h) (Or.inl ⟨by rfl, ?_⟩) ?_ ?_
        rotate_left
        · intro w'
          go_simp
          with_reducible rfl
        rotate_left
        · simp only [Act.put, List.setIfInBounds_toArray, List.set_cons_zero, List.set_cons_succ, i64_w, i32_w]
          rfl
        refine pure_ (i := 14) (N := (some 82)) (v := ?_) (a' := ?_) #[true, true, true, true, true, true, true, true, true, true, true, true, true, true, true, false, false, false] rfl rfl (any_of HT_.out (by kernel_rfl)) (fun _ _ _ h => h) (Or.inl ⟨by rfl, ?_⟩) ?_ ?_
        rotate_left
        · intro w'
          go_simp
          with_reducible rfl
        rotate_left
        · simp only [Act.put, List.setIfInBounds_toArray, List.set_cons_zero, List.set_cons_succ, i64_w, i32_w]
          rfl
        refine pure_ (i := 15) (N := (some 83)) (v := ?_) (a' := ?_) #[true, true, true, true, true, true, true, true, true, true, true, true, true, true, true, true, false, false] rfl rfl (any_of HT_.out (by kernel_rfl)) (fun _ _ _ h => h) (Or.inl ⟨by rfl, ?_⟩) ?_ ?_
        rotate_left
        · intro w'
          go_simp
          with_reducible rfl
        rotate_left
        · simp only [Act.put, List.setIfInBounds_toArray, List.set_cons_zero, List.set_cons_succ, i64_w, i32_w]
          rfl
        refine pure_ (i := 16) (N := (some 84)) (v := ?_) (a' := ?_) #[true, true, true, true, true, true, true, true, true, true, true, true, true, true, true, true, true, false] rfl rfl (any_of HT_.out (by kernel_rfl)) (fun _ _ _ h => h) (Or.inl ⟨by rfl, ?_⟩) ?_ ?_
        rotate_left
        · intro w'
          go_simp
          with_reducible rfl
        rotate_left
        · simp only [Act.put, List.setIfInBounds_toArray, List.set_cons_zero, List.set_cons_succ, i64_w, i32_w]
          rfl
        have f2 := blk_frozen HVd.out.now (k * 6 + 2)
        refine last_ (i := 17) (N := none) #[true, true, true, true, true, true, true, true, true, true, true, true, true, true, true, true, true, true] rfl rfl (one_of HT_.out (by kernel_rfl)) (by decide) (fun K hK => ?_)
        refine skip_ (w1 := ?_) (by rfl) rfl ?_ ?_
        rotate_left
        · go_simp
          rfl
        refine hK.out _ _ ?_
        clear hK K
        refine done_ (done_of HT_.out (by kernel_rfl)) ?_
        clear hHeld HT_ HW_
        have HV11 := Aside0.mk (HVd.out.set 2 (by decide) (.int .i64 (min (ep + 1) 2147483647)) (⟨nm, tm, min (ep + 1) 2147483647, st, si, pl⟩, sl) rfl rfl rfl)
        clear b0 e2 f2 HVd HV hw1
        generalize w10.setCell ⟨g, k * 6 + 2, none⟩ (.int .i64 (min (ep + 1) 2147483647)) = w11 at HV11 ⊢
        have b0 : w11.cell? ⟨gb, 0, none⟩ = some (.slice (some ⟨g, 0, none⟩) rs1.length c) := (blk_cell HV11.out.bk' 0).trans rfl
        go_wp2_with (go_at_call 73; refine (HV11.out.ending 3).mono ?_; rintro e w13 ⟨rfl, cur13, hv⟩; have HV13 := Aside0.mk hv; clear hv b0)
        refine ⟨⟨k + 1, own1, _, by omega, rfl, ?_, by rw [List.length_set]; exact hl1, HV13.out.done hrk⟩, by simp only [intOf]; omega⟩
        rw [psOf_set, HP1.out, HEX.out]
        congr 1
        unfold expP
        rw [HOV.out, if_pos rfl]
    · have hkc : ¬ (k : Int) < (rs1.length : Int) := by omega
      obtain rfl : k = rs.length := by omega
      obtain ⟨A, c, hb, hmax, hrow⟩ := HX.out.rb.read
      have b0 : wr.cell? ⟨gb, 0, none⟩ = some (.slice A rs1.length c) := (blk_cell hb 0).trans rfl
      clear hb hrow
      have HF := Aside0.mk HX.out.dor
      rw [hps1, ← hpl, expU_all] at HF
      clear hps1
      go_wp2_with fail
      exact bodyPost_ret (v := .int .i64 0) (by simp [results, Try.results45, go_sem]) rfl ⟨rfl, HF.out⟩
theorem right_kinds5 {x : EvV} (h : rightE x = true) : x.kind = 1 ∨ x.kind = 2 ∨ x.kind = 3 ∨ x.kind = 4 ∨ x.kind = 5 := by
  by_cases h1 : x.kind = 1
  · exact .inl h1
  by_cases h5 : x.kind = 5
  · exact .inr (.inr (.inr (.inr h5)))
  · rcases right_kinds h h1 h5 with h | h | h
    · exact .inr (.inl h)
    · exact .inr (.inr (.inl h))
    · exact .inr (.inr (.inr (.inl h)))
theorem rapply_c (h : RB own gb rs w) (hg : Good (psOf rs)) (x : EvV) : Calls Try.prog 45 #[.pointer (some ⟨gb, 0, none⟩), evE x] w fun e w' => e = .returned (.int .i64 (decideF (psOf rs) x).2) ∧ DoR own gb (applyF (psOf rs) x) w w' := by
  by_cases hs : (decideF (psOf rs) x).2 ≠ 0 ∨ (decideF (psOf rs) x).1 = true
  · exact rapplyS_c h hg x hs
  · have hd : decideF (psOf rs) x = (false, 0) := by
      obtain ⟨⟨d, n⟩, hq⟩ : ∃ q, decideF (psOf rs) x = q := ⟨_, rfl⟩
      rw [hq] at hs ⊢
      cases d
      · by_cases hn : n = 0
        · rw [hn]
        · exact absurd (.inl hn) hs
      · exact absurd (.inr rfl) hs
    have hr : rightE x = true := by
      cases hr : rightE x with
      | true => rfl
      | false => unfold decideF at hd; rw [hr] at hd; simp at hd
    rcases right_kinds5 hr with hk | hk | hk | hk | hk
    · by_cases hm : x.name ∈ nmsOf (psOf rs)
      · exact rapply1e_c h hg x hk hm hd
      · exact rapply1n_c h hg x hk hm hd
    · exact rapply2_c h hg x hk hd
    · exact rapply3_c h hg x hk hd
    · exact rapply4_c h hg x hk hd
    · exact rapply5_c h hg x hk hd
end Go.Proofs.Ytofegigbhohebaa.Hand
