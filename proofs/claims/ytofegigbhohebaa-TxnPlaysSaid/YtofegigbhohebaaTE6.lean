/- The document's Decide. -/
import Derived.Test.YtofegigbhohebaaTE5
import Derived.Test.YtofegigbhohebaaTE0
namespace Go.Proofs.Ytofegigbhohebaa.Hand
open Go.RowKit Go.Proofs.Ytofegigbhohebaa Go.Proofs.YtofegigbhohebaaW.PrintWords Go.Proofs.YtofegigbhohebaaW.PrintLast
set_option linter.unusedVariables false
set_option linter.unusedSimpArgs false
variable {own : Nat → Prop} {gb : Nat} {rs : List RP} {w w' : World}
def evA (x : EvV) : Array Value := #[.int .i64 x.kind, .string x.name, .int .i64 x.producer, .int .i64 x.epoch, .int .i64 x.place, .int .i64 x.timeout, .int .i64 x.now, .bool x.yes]
/-- A call of the document's book with an event: the book, the event's box. -/
structure RQ (own : Nat → Prop) (gb : Nat) (rs : List RP) (x : EvV) (w0 w : World) : Prop where
  rb : RB own gb rs w
  box : w.heap[w0.heap.size]? = some (.cells (evA x) 35 (0, 0))
  below : Below w0.heap.size w0 w
theorem RQ.move {x : EvV} {w0 : World} (h : RQ own gb rs x w0 w) (hb : Below w.heap.size w w') : RQ own gb rs x w0 w' := ⟨h.rb.below hb, blk_below h.box hb, below_step h.below hb⟩
theorem RQ.start (h : RB own gb rs w) (x : EvV) : RQ own gb rs x w (w.alloc (.cells (evA x) 35 (0, 0))) :=
  ⟨h.below (below_alloc (Below.refl w.heap.size w) _), heap_alloc_new w _, below_alloc (Below.refl w.heap.size w) _⟩
theorem cell_bel {p : Addr} {v : Value} (hb : Below w.heap.size w w') (e : w.cell? p = some v) : w'.cell? p = some v := (hb.cell (p := p) (World.block_lt_of_cell? w _ e)).trans e
theorem rp_cells {A : Option Addr} (hrow : ∀ k r, rs[k]? = some r → ∃ g cur, A = some ⟨g, 0, none⟩ ∧ own g ∧ w.heap[g]? = some (.cells cur 127 (0, 0)) ∧ ∀ j, j < 6 → cur[k * 6 + j]? = (rpL r)[j]?) (k : Nat) (r : RP) (hr : rs[k]? = some r) :
    ∃ ad, A = some ad ∧ w.cell? (ad.add (k * 6)) = some (.string r.1.name) ∧ w.cell? ⟨(ad.add (k * 6)).block, (ad.add (k * 6)).off + 1, none⟩ = some (.int .i64 r.1.timeout) ∧ w.cell? ⟨(ad.add (k * 6)).block, (ad.add (k * 6)).off + 2, none⟩ = some (.int .i64 r.1.epoch) ∧ w.cell? ⟨(ad.add (k * 6)).block, (ad.add (k * 6)).off + 3, none⟩ = some (.int .i64 r.1.status) ∧ w.cell? ⟨(ad.add (k * 6)).block, (ad.add (k * 6)).off + 4, none⟩ = some (.int .i64 r.1.since) ∧ w.cell? ⟨(ad.add (k * 6)).block, (ad.add (k * 6)).off + 5, none⟩ = some r.2 := by
  obtain ⟨g, cur, hA, -, hg, hc⟩ := hrow k r hr
  refine ⟨_, hA, ?_⟩
  have e : ((⟨g, 0, none⟩ : Addr).add (k * 6)) = ⟨g, k * 6, none⟩ := by
    unfold Addr.add
    split
    · rename_i e; rw [e]
    · simp
  rw [e]
  exact ⟨(blk_cell hg _).trans (hc 0 (by decide)), (blk_cell hg _).trans (hc 1 (by decide)), (blk_cell hg _).trans (hc 2 (by decide)), (blk_cell hg _).trans (hc 3 (by decide)), (blk_cell hg _).trans (hc 4 (by decide)), (blk_cell hg _).trans (hc 5 (by decide))⟩
set_option maxHeartbeats 3200000 in
set_option maxRecDepth 100000 in
theorem rdecideN_c (h : RB own gb rs w) (x : EvV) (hr : rightE x = false) : Calls Try.prog 44 #[.pointer (some ⟨gb, 0, none⟩), evE x] w fun e w' => e = .returned (.tuple #[.bool (decideF (psOf rs) x).1, .int .i64 (decideF (psOf rs) x).2]) ∧ Below w.heap.size w w' := by
  have hd : decideF (psOf rs) x = (false, 1) := by unfold decideF; rw [hr]; rfl
  rw [hd]
  have HQ := Aside0.mk (RQ.start h x)
  have HRI := Aside0.mk (fun W => refRight_c x W)
  rw [hr] at HRI
  have HN := Aside0.mk (fun (W : World) (h : RQ own gb rs x w W) => rfind_c h.rb x.name)
  obtain ⟨kind, name, producer, epoch, place, timeout, now, yes⟩ := x
  unfold evE at HRI ⊢
  clear h hr hd
  dsimp only at HRI ⊢
  have y0 : (w.alloc (.cells #[.int .i64 kind, .string name, .int .i64 producer, .int .i64 epoch, .int .i64 place, .int .i64 timeout, .int .i64 now, .bool yes] 35 (0, 0))).cell? ⟨w.heap.size, 0, none⟩ = some (.int .i64 kind) := (blk_cell HQ.out.box 0).trans rfl
  have y1 : (w.alloc (.cells #[.int .i64 kind, .string name, .int .i64 producer, .int .i64 epoch, .int .i64 place, .int .i64 timeout, .int .i64 now, .bool yes] 35 (0, 0))).cell? ⟨w.heap.size, 1, none⟩ = some (.string name) := (blk_cell HQ.out.box 1).trans rfl
  have y2 : (w.alloc (.cells #[.int .i64 kind, .string name, .int .i64 producer, .int .i64 epoch, .int .i64 place, .int .i64 timeout, .int .i64 now, .bool yes] 35 (0, 0))).cell? ⟨w.heap.size, 2, none⟩ = some (.int .i64 producer) := (blk_cell HQ.out.box 2).trans rfl
  have y3 : (w.alloc (.cells #[.int .i64 kind, .string name, .int .i64 producer, .int .i64 epoch, .int .i64 place, .int .i64 timeout, .int .i64 now, .bool yes] 35 (0, 0))).cell? ⟨w.heap.size, 3, none⟩ = some (.int .i64 epoch) := (blk_cell HQ.out.box 3).trans rfl
  have y4 : (w.alloc (.cells #[.int .i64 kind, .string name, .int .i64 producer, .int .i64 epoch, .int .i64 place, .int .i64 timeout, .int .i64 now, .bool yes] 35 (0, 0))).cell? ⟨w.heap.size, 4, none⟩ = some (.int .i64 place) := (blk_cell HQ.out.box 4).trans rfl
  have y5 : (w.alloc (.cells #[.int .i64 kind, .string name, .int .i64 producer, .int .i64 epoch, .int .i64 place, .int .i64 timeout, .int .i64 now, .bool yes] 35 (0, 0))).cell? ⟨w.heap.size, 5, none⟩ = some (.int .i64 timeout) := (blk_cell HQ.out.box 5).trans rfl
  have y6 : (w.alloc (.cells #[.int .i64 kind, .string name, .int .i64 producer, .int .i64 epoch, .int .i64 place, .int .i64 timeout, .int .i64 now, .bool yes] 35 (0, 0))).cell? ⟨w.heap.size, 6, none⟩ = some (.int .i64 now) := (blk_cell HQ.out.box 6).trans rfl
  have y7 : (w.alloc (.cells #[.int .i64 kind, .string name, .int .i64 producer, .int .i64 epoch, .int .i64 place, .int .i64 timeout, .int .i64 now, .bool yes] 35 (0, 0))).cell? ⟨w.heap.size, 7, none⟩ = some (.bool yes) := (blk_cell HQ.out.box 7).trans rfl
  unfold evA at HQ
  dsimp only at HQ
  go_enter Try.func44, Try.ntmps44
  go_wp2_with (go_at_call 50; refine (HRI.out _).mono ?_; rintro e w2 ⟨rfl, hb⟩; have HQ2 := Aside0.mk (HQ.out.move hb); clear hb)
  exact bodyPost_ret (v := .tuple #[.bool false, .int .i64 1]) (by simp [results, Try.results44, go_sem]) rfl ⟨rfl, HQ2.out.below⟩
set_option maxHeartbeats 3200000 in
set_option maxRecDepth 100000 in
theorem rdecide1_c (h : RB own gb rs w) (x : EvV) (hk : x.kind = 1) (hr : rightE x = true) : Calls Try.prog 44 #[.pointer (some ⟨gb, 0, none⟩), evE x] w fun e w' => e = .returned (.tuple #[.bool (decideF (psOf rs) x).1, .int .i64 (decideF (psOf rs) x).2]) ∧ Below w.heap.size w w' := by
  have hd : decideF (psOf rs) x = (false, grantF (psOf rs) x) := by unfold decideF; rw [hr, if_pos rfl, if_pos hk]
  rw [hd]
  unfold grantF
  have HQ := Aside0.mk (RQ.start h x)
  have HRI := Aside0.mk (fun W => refRight_c x W)
  rw [hr] at HRI
  have HN := Aside0.mk (fun (W : World) (h : RQ own gb rs x w W) => rfind_c h.rb x.name)
  clear h hr
  obtain ⟨kind, name, producer, epoch, place, timeout, now, yes⟩ := x
  unfold evE at HRI ⊢
  dsimp only at HRI HN hk ⊢
  have y0 : (w.alloc (.cells #[.int .i64 kind, .string name, .int .i64 producer, .int .i64 epoch, .int .i64 place, .int .i64 timeout, .int .i64 now, .bool yes] 35 (0, 0))).cell? ⟨w.heap.size, 0, none⟩ = some (.int .i64 kind) := (blk_cell HQ.out.box 0).trans rfl
  have y1 : (w.alloc (.cells #[.int .i64 kind, .string name, .int .i64 producer, .int .i64 epoch, .int .i64 place, .int .i64 timeout, .int .i64 now, .bool yes] 35 (0, 0))).cell? ⟨w.heap.size, 1, none⟩ = some (.string name) := (blk_cell HQ.out.box 1).trans rfl
  have y2 : (w.alloc (.cells #[.int .i64 kind, .string name, .int .i64 producer, .int .i64 epoch, .int .i64 place, .int .i64 timeout, .int .i64 now, .bool yes] 35 (0, 0))).cell? ⟨w.heap.size, 2, none⟩ = some (.int .i64 producer) := (blk_cell HQ.out.box 2).trans rfl
  have y3 : (w.alloc (.cells #[.int .i64 kind, .string name, .int .i64 producer, .int .i64 epoch, .int .i64 place, .int .i64 timeout, .int .i64 now, .bool yes] 35 (0, 0))).cell? ⟨w.heap.size, 3, none⟩ = some (.int .i64 epoch) := (blk_cell HQ.out.box 3).trans rfl
  have y4 : (w.alloc (.cells #[.int .i64 kind, .string name, .int .i64 producer, .int .i64 epoch, .int .i64 place, .int .i64 timeout, .int .i64 now, .bool yes] 35 (0, 0))).cell? ⟨w.heap.size, 4, none⟩ = some (.int .i64 place) := (blk_cell HQ.out.box 4).trans rfl
  have y5 : (w.alloc (.cells #[.int .i64 kind, .string name, .int .i64 producer, .int .i64 epoch, .int .i64 place, .int .i64 timeout, .int .i64 now, .bool yes] 35 (0, 0))).cell? ⟨w.heap.size, 5, none⟩ = some (.int .i64 timeout) := (blk_cell HQ.out.box 5).trans rfl
  have y6 : (w.alloc (.cells #[.int .i64 kind, .string name, .int .i64 producer, .int .i64 epoch, .int .i64 place, .int .i64 timeout, .int .i64 now, .bool yes] 35 (0, 0))).cell? ⟨w.heap.size, 6, none⟩ = some (.int .i64 now) := (blk_cell HQ.out.box 6).trans rfl
  have y7 : (w.alloc (.cells #[.int .i64 kind, .string name, .int .i64 producer, .int .i64 epoch, .int .i64 place, .int .i64 timeout, .int .i64 now, .bool yes] 35 (0, 0))).cell? ⟨w.heap.size, 7, none⟩ = some (.bool yes) := (blk_cell HQ.out.box 7).trans rfl
  unfold evA at HQ
  dsimp only at HQ
  subst hk
  clear hd
  by_cases hm : name ∈ nmsOf (psOf rs)
  · have hkl : (nmsOf (psOf rs)).idxOf name < rs.length := by rw [← nms_len]; exact List.idxOf_lt_length_of_mem hm
    rw [if_pos hm, show idxV (nmsOf (psOf rs)) name = ((nmsOf (psOf rs)).idxOf name : Int) from if_pos hm]
    rw [show rfindF (nmsOf (psOf rs)) name = ((nmsOf (psOf rs)).idxOf name : Int) from if_pos hm] at HN
    generalize (nmsOf (psOf rs)).idxOf name = k at HN hkl ⊢
    obtain ⟨⟨⟨nm, tm, ep, st, si, pl⟩, sl⟩, hrk⟩ : ∃ r, rs[k]? = some r := ⟨_, List.getElem?_eq_getElem hkl⟩
    have hp : prodAt (psOf rs) (k : Int) = ⟨nm, tm, ep, st, si, pl⟩ := by unfold prodAt; rw [Int.toNat_natCast, psOf_at hrk]
    rw [hp]
    have RE := Aside0.mk (fun W => rends_c (⟨nm, tm, ep, st, si, pl⟩, sl) W)
    unfold rpV prodC at RE
    dsimp only at RE ⊢
    generalize endsP ⟨nm, tm, ep, st, si, pl⟩ = en at RE ⊢
    have hkr : (k : Int) < (rs.length : Int) := by omega
    have hk0 : ¬ (k : Int) < 0 := by omega
    have hk1 : (0 : Int) ≤ (k : Int) := by omega
    clear hm hp
    cases en
    · by_cases hep : ep = 2147483647
      · subst hep
        go_enter Try.func44, Try.ntmps44
        go_wp2_with (first
          | (go_at_call 50; clear y0 y1 y2 y3 y4 y5 y6 y7; refine (HRI.out _).mono ?_; rintro e w2 ⟨rfl, hb⟩; have HQ2 := Aside0.mk (HQ.out.move hb); clear hb HQ HRI; have y0 : (w2).cell? ⟨w.heap.size, 0, none⟩ = some (.int .i64 1) := (blk_cell HQ2.out.box 0).trans rfl; have y1 : (w2).cell? ⟨w.heap.size, 1, none⟩ = some (.string name) := (blk_cell HQ2.out.box 1).trans rfl)
          | (go_at_call 69; clear y0 y1; refine (HN.out _ HQ2.out).mono ?_; rintro e w3 ⟨rfl, hb⟩; have HQ3 := Aside0.mk (HQ2.out.move hb); clear hb HN HQ2; obtain ⟨A, c, hb, hmax, hrow⟩ := HQ3.out.rb.read; have b0 : w3.cell? ⟨gb, 0, none⟩ = some (.slice A rs.length c) := (blk_cell hb 0).trans rfl; obtain ⟨ad, hA, e0, e1, e2, e3, e4, e5⟩ := rp_cells hrow k _ hrk; subst hA; dsimp only at e0 e1 e2 e3 e4 e5; clear hrow hb)
          | (go_at_call 70; clear b0 e0 e1 e2 e3 e4 e5; refine (RE.out _).mono ?_; rintro e w4 ⟨rfl, hb⟩; have HQ4 := Aside0.mk (HQ3.out.move hb); clear hb HQ3; obtain ⟨A, c, hb, hmax, hrow⟩ := HQ4.out.rb.read; have b0 : w4.cell? ⟨gb, 0, none⟩ = some (.slice A rs.length c) := (blk_cell hb 0).trans rfl; obtain ⟨ad, hA, e0, e1, e2, e3, e4, e5⟩ := rp_cells hrow k _ hrk; subst hA; dsimp only at e0 e1 e2 e3 e4 e5; clear e0; clear e1; clear e3; clear e4; clear e5; clear hrow hb))
        exact bodyPost_ret (v := .tuple #[.bool false, .int .i64 53]) (by simp [results, Try.results44, go_sem]) rfl ⟨by simp, HQ4.out.below⟩
      · have hep' : (ep == 2147483647) = false := beq_eq_false_iff_ne.2 hep
        go_enter Try.func44, Try.ntmps44
        go_wp2_with (first
          | (go_at_call 50; clear y0 y1 y2 y3 y4 y5 y6 y7; refine (HRI.out _).mono ?_; rintro e w2 ⟨rfl, hb⟩; have HQ2 := Aside0.mk (HQ.out.move hb); clear hb HQ HRI; have y0 : (w2).cell? ⟨w.heap.size, 0, none⟩ = some (.int .i64 1) := (blk_cell HQ2.out.box 0).trans rfl; have y1 : (w2).cell? ⟨w.heap.size, 1, none⟩ = some (.string name) := (blk_cell HQ2.out.box 1).trans rfl)
          | (go_at_call 69; clear y0 y1; refine (HN.out _ HQ2.out).mono ?_; rintro e w3 ⟨rfl, hb⟩; have HQ3 := Aside0.mk (HQ2.out.move hb); clear hb HN HQ2; obtain ⟨A, c, hb, hmax, hrow⟩ := HQ3.out.rb.read; have b0 : w3.cell? ⟨gb, 0, none⟩ = some (.slice A rs.length c) := (blk_cell hb 0).trans rfl; obtain ⟨ad, hA, e0, e1, e2, e3, e4, e5⟩ := rp_cells hrow k _ hrk; subst hA; dsimp only at e0 e1 e2 e3 e4 e5; clear hrow hb)
          | (go_at_call 70; clear b0 e0 e1 e2 e3 e4 e5; refine (RE.out _).mono ?_; rintro e w4 ⟨rfl, hb⟩; have HQ4 := Aside0.mk (HQ3.out.move hb); clear hb HQ3; obtain ⟨A, c, hb, hmax, hrow⟩ := HQ4.out.rb.read; have b0 : w4.cell? ⟨gb, 0, none⟩ = some (.slice A rs.length c) := (blk_cell hb 0).trans rfl; obtain ⟨ad, hA, e0, e1, e2, e3, e4, e5⟩ := rp_cells hrow k _ hrk; subst hA; dsimp only at e0 e1 e2 e3 e4 e5; clear e0; clear e1; clear e3; clear e4; clear e5; clear hrow hb))
        exact bodyPost_ret (v := .tuple #[.bool false, .int .i64 0]) (by simp [results, Try.results44, go_sem]) rfl ⟨by simp [hep], HQ4.out.below⟩
    · go_enter Try.func44, Try.ntmps44
      go_wp2_with (first
        | (go_at_call 50; clear y0 y1 y2 y3 y4 y5 y6 y7; refine (HRI.out _).mono ?_; rintro e w2 ⟨rfl, hb⟩; have HQ2 := Aside0.mk (HQ.out.move hb); clear hb HQ HRI; have y0 : (w2).cell? ⟨w.heap.size, 0, none⟩ = some (.int .i64 1) := (blk_cell HQ2.out.box 0).trans rfl; have y1 : (w2).cell? ⟨w.heap.size, 1, none⟩ = some (.string name) := (blk_cell HQ2.out.box 1).trans rfl)
        | (go_at_call 69; clear y0 y1; refine (HN.out _ HQ2.out).mono ?_; rintro e w3 ⟨rfl, hb⟩; have HQ3 := Aside0.mk (HQ2.out.move hb); clear hb HN HQ2; obtain ⟨A, c, hb, hmax, hrow⟩ := HQ3.out.rb.read; have b0 : w3.cell? ⟨gb, 0, none⟩ = some (.slice A rs.length c) := (blk_cell hb 0).trans rfl; obtain ⟨ad, hA, e0, e1, e2, e3, e4, e5⟩ := rp_cells hrow k _ hrk; subst hA; dsimp only at e0 e1 e2 e3 e4 e5; clear hrow hb)
        | (go_at_call 70; clear b0 e0 e1 e2 e3 e4 e5; refine (RE.out _).mono ?_; rintro e w4 ⟨rfl, hb⟩; have HQ4 := Aside0.mk (HQ3.out.move hb); clear hb HQ3; skip))
      exact bodyPost_ret (v := .tuple #[.bool false, .int .i64 54]) (by simp [results, Try.results44, go_sem]) rfl ⟨by simp, HQ4.out.below⟩
  · rw [if_neg hm]
    rw [show rfindF (nmsOf (psOf rs)) name = -1 from if_neg hm] at HN
    rw [psOf_len]
    clear hm
    by_cases hlen : 1000 ≤ rs.length
    · have hlc : (1000 : Int) ≤ (rs.length : Int) := by omega
      go_enter Try.func44, Try.ntmps44
      go_wp2_with (first
        | (go_at_call 50; clear y0 y1 y2 y3 y4 y5 y6 y7; refine (HRI.out _).mono ?_; rintro e w2 ⟨rfl, hb⟩; have HQ2 := Aside0.mk (HQ.out.move hb); clear hb HQ HRI; have y0 : (w2).cell? ⟨w.heap.size, 0, none⟩ = some (.int .i64 1) := (blk_cell HQ2.out.box 0).trans rfl; have y1 : (w2).cell? ⟨w.heap.size, 1, none⟩ = some (.string name) := (blk_cell HQ2.out.box 1).trans rfl)
        | (go_at_call 69; clear y0 y1; refine (HN.out _ HQ2.out).mono ?_; rintro e w3 ⟨rfl, hb⟩; have HQ3 := Aside0.mk (HQ2.out.move hb); clear hb HN HQ2; obtain ⟨A, c, hb, hmax, hrow⟩ := HQ3.out.rb.read; have b0 : w3.cell? ⟨gb, 0, none⟩ = some (.slice A rs.length c) := (blk_cell hb 0).trans rfl; clear hb hrow))
      exact bodyPost_ret (v := .tuple #[.bool false, .int .i64 7]) (by simp [results, Try.results44, go_sem]) rfl ⟨by simp [hlen], HQ3.out.below⟩
    · have hlc : ¬ (1000 : Int) ≤ (rs.length : Int) := by omega
      go_enter Try.func44, Try.ntmps44
      go_wp2_with (first
        | (go_at_call 50; clear y0 y1 y2 y3 y4 y5 y6 y7; refine (HRI.out _).mono ?_; rintro e w2 ⟨rfl, hb⟩; have HQ2 := Aside0.mk (HQ.out.move hb); clear hb HQ HRI; have y0 : (w2).cell? ⟨w.heap.size, 0, none⟩ = some (.int .i64 1) := (blk_cell HQ2.out.box 0).trans rfl; have y1 : (w2).cell? ⟨w.heap.size, 1, none⟩ = some (.string name) := (blk_cell HQ2.out.box 1).trans rfl)
        | (go_at_call 69; clear y0 y1; refine (HN.out _ HQ2.out).mono ?_; rintro e w3 ⟨rfl, hb⟩; have HQ3 := Aside0.mk (HQ2.out.move hb); clear hb HN HQ2; obtain ⟨A, c, hb, hmax, hrow⟩ := HQ3.out.rb.read; have b0 : w3.cell? ⟨gb, 0, none⟩ = some (.slice A rs.length c) := (blk_cell hb 0).trans rfl; clear hb hrow))
      exact bodyPost_ret (v := .tuple #[.bool false, .int .i64 0]) (by simp [results, Try.results44, go_sem]) rfl ⟨by simp [hlen], HQ3.out.below⟩
def TF17 : Bool × List (List Nat × List Nat) := (true, [([], []), ([0], [0]), ([1], [1]), ([2], [2]), ([], []), ([3, 4], [3, 4]), ([5], [5]), ([], []), ([7], [7]), ([6, 8], [6, 8])])
def BF17 : List Nat := [0, 1, 3, 7, 0, 31, 63, 0, 128, 511]
theorem tabF17 : rtab .any (opsOf Try.f44 17) = TF17 := by kernel_rfl
theorem bitsF17 : waitsOk TF17.2 BF17 = true := by kernel_rfl
set_option maxHeartbeats 3200000 in
set_option maxRecDepth 100000 in
theorem rdecide5_c (h : RB own gb rs w) (hgd : ∀ r ∈ rs, GoodP r.1) (x : EvV) (hk : x.kind = 5) (hr : rightE x = true) : Calls Try.prog 44 #[.pointer (some ⟨gb, 0, none⟩), evE x] w fun e w' => e = .returned (.tuple #[.bool (decideF (psOf rs) x).1, .int .i64 (decideF (psOf rs) x).2]) ∧ Below w.heap.size w w' := by
  have hd : decideF (psOf rs) x = (!(psOf rs).any (fun p => overP p x.now), 0) := by unfold decideF; rw [hr, if_pos rfl, if_neg (by omega), if_pos hk]
  rw [hd]
  have HQ := Aside0.mk (RQ.start h x)
  have HRI := Aside0.mk (fun W => refRight_c x W)
  rw [hr] at HRI
  have HN := Aside0.mk (fun (W : World) (h : RQ own gb rs x w W) => rfind_c h.rb x.name)
  clear h hr
  obtain ⟨kind, name, producer, epoch, place, timeout, now, yes⟩ := x
  unfold evE at HRI ⊢
  dsimp only at HRI HN hk ⊢
  have y0 : (w.alloc (.cells #[.int .i64 kind, .string name, .int .i64 producer, .int .i64 epoch, .int .i64 place, .int .i64 timeout, .int .i64 now, .bool yes] 35 (0, 0))).cell? ⟨w.heap.size, 0, none⟩ = some (.int .i64 kind) := (blk_cell HQ.out.box 0).trans rfl
  have y1 : (w.alloc (.cells #[.int .i64 kind, .string name, .int .i64 producer, .int .i64 epoch, .int .i64 place, .int .i64 timeout, .int .i64 now, .bool yes] 35 (0, 0))).cell? ⟨w.heap.size, 1, none⟩ = some (.string name) := (blk_cell HQ.out.box 1).trans rfl
  have y2 : (w.alloc (.cells #[.int .i64 kind, .string name, .int .i64 producer, .int .i64 epoch, .int .i64 place, .int .i64 timeout, .int .i64 now, .bool yes] 35 (0, 0))).cell? ⟨w.heap.size, 2, none⟩ = some (.int .i64 producer) := (blk_cell HQ.out.box 2).trans rfl
  have y3 : (w.alloc (.cells #[.int .i64 kind, .string name, .int .i64 producer, .int .i64 epoch, .int .i64 place, .int .i64 timeout, .int .i64 now, .bool yes] 35 (0, 0))).cell? ⟨w.heap.size, 3, none⟩ = some (.int .i64 epoch) := (blk_cell HQ.out.box 3).trans rfl
  have y4 : (w.alloc (.cells #[.int .i64 kind, .string name, .int .i64 producer, .int .i64 epoch, .int .i64 place, .int .i64 timeout, .int .i64 now, .bool yes] 35 (0, 0))).cell? ⟨w.heap.size, 4, none⟩ = some (.int .i64 place) := (blk_cell HQ.out.box 4).trans rfl
  have y5 : (w.alloc (.cells #[.int .i64 kind, .string name, .int .i64 producer, .int .i64 epoch, .int .i64 place, .int .i64 timeout, .int .i64 now, .bool yes] 35 (0, 0))).cell? ⟨w.heap.size, 5, none⟩ = some (.int .i64 timeout) := (blk_cell HQ.out.box 5).trans rfl
  have y6 : (w.alloc (.cells #[.int .i64 kind, .string name, .int .i64 producer, .int .i64 epoch, .int .i64 place, .int .i64 timeout, .int .i64 now, .bool yes] 35 (0, 0))).cell? ⟨w.heap.size, 6, none⟩ = some (.int .i64 now) := (blk_cell HQ.out.box 6).trans rfl
  have y7 : (w.alloc (.cells #[.int .i64 kind, .string name, .int .i64 producer, .int .i64 epoch, .int .i64 place, .int .i64 timeout, .int .i64 now, .bool yes] 35 (0, 0))).cell? ⟨w.heap.size, 7, none⟩ = some (.bool yes) := (blk_cell HQ.out.box 7).trans rfl
  unfold evA at HQ
  dsimp only at HQ
  subst hk
  clear hd HN
  have HG := Aside0.mk hgd
  clear hgd
  go_enter Try.func44, Try.ntmps44
  go_wp2_with (go_at_call 50; clear y0 y1 y2 y3 y4 y5 y6 y7; refine (HRI.out _).mono ?_; rintro e w2 ⟨rfl, hb⟩; have HQ2 := Aside0.mk (HQ.out.move hb); clear hb HQ HRI; have y0 : (w2).cell? ⟨w.heap.size, 0, none⟩ = some (.int .i64 5) := (blk_cell HQ2.out.box 0).trans rfl; have y1 : (w2).cell? ⟨w.heap.size, 1, none⟩ = some (.string name) := (blk_cell HQ2.out.box 1).trans rfl)
  clear y0 y1
  have hmax := HQ2.out.rb.len
  go_loopw [7] (fun i wr => ∃ k : Nat, k ≤ rs.length ∧ i = .int .i64 (k : Int) ∧ RQ own gb rs ⟨5, name, producer, epoch, place, timeout, now, yes⟩ w wr ∧ ∀ j r, j < k → rs[j]? = some r → overP r.1 now = false) (fun i _ => rs.length - (intOf i).toNat)
  case atStart => exact ⟨0, Nat.zero_le _, rfl, HQ2.out, fun j r h => by omega⟩
  case round =>
    obtain ⟨k, hk, rfl, hq, hno⟩ := hrel
    have HQ5 := Aside0.mk hq
    have HNO := Aside0.mk hno
    clear hq hno HQ2
    by_cases hkl : k < rs.length
    · have hkc : (k : Int) < (rs.length : Int) := by omega
      obtain ⟨⟨⟨nm, tm, ep, st, si, pl⟩, sl⟩, hrk⟩ : ∃ r, rs[k]? = some r := ⟨_, List.getElem?_eq_getElem hkl⟩
      have RO := Aside0.mk (fun W => rover_c (⟨nm, tm, ep, st, si, pl⟩, sl) (HG.out _ (List.mem_iff_getElem?.2 ⟨k, hrk⟩)) now W)
      unfold rpV prodC at RO
      dsimp only at RO
      have HOV := Aside0.mk (show ∃ ov, overP ⟨nm, tm, ep, st, si, pl⟩ now = ov from ⟨_, rfl⟩)
      obtain ⟨ov, hov⟩ := HOV.out
      rw [hov] at RO
      have HOV := Aside0.mk hov
      clear hov
      obtain ⟨A, c, hb, hmax, hrow⟩ := HQ5.out.rb.read; have b0 : wr.cell? ⟨gb, 0, none⟩ = some (.slice A rs.length c) := (blk_cell hb 0).trans rfl
      obtain ⟨ad, hA, e0, e1, e2, e3, e4, e5⟩ := rp_cells hrow k _ hrk; subst hA; dsimp only at e0 e1 e2 e3 e4 e5
      clear hrow hb
      have y6 : wr.cell? ⟨w.heap.size, 6, none⟩ = some (.int .i64 now) := (blk_cell HQ5.out.box 6).trans rfl
      go_upto_region 17 with fail
      have hdr := below_drew (Below.refl wr.heap.size wr)
      have HQd := Aside0.mk (HQ5.out.move hdr)
      clear hdr b0 e0 e1 e2 e3 e4 e5 y6
      obtain ⟨A, c, hb, hmax, hrow⟩ := HQd.out.rb.read; have b0 : wr.drew.cell? ⟨gb, 0, none⟩ = some (.slice A rs.length c) := (blk_cell hb 0).trans rfl
      obtain ⟨ad, hA, e0, e1, e2, e3, e4, e5⟩ := rp_cells hrow k _ hrk; subst hA; dsimp only at e0 e1 e2 e3 e4 e5
      clear hrow hb
      have y6 : wr.drew.cell? ⟨w.heap.size, 6, none⟩ = some (.int .i64 now) := (blk_cell HQd.out.box 6).trans rfl
      refine start_ (n := 10) (S := fun w' => w'.cell? ⟨gb, 0, none⟩ = some (.slice (some ad) rs.length c) ∧ w'.cell? (ad.add (k * 6)) = some (.string nm) ∧ w'.cell? ⟨(ad.add (k * 6)).block, (ad.add (k * 6)).off + 1, none⟩ = some (.int .i64 tm) ∧ w'.cell? ⟨(ad.add (k * 6)).block, (ad.add (k * 6)).off + 2, none⟩ = some (.int .i64 ep) ∧ w'.cell? ⟨(ad.add (k * 6)).block, (ad.add (k * 6)).off + 3, none⟩ = some (.int .i64 st) ∧ w'.cell? ⟨(ad.add (k * 6)).block, (ad.add (k * 6)).off + 4, none⟩ = some (.int .i64 si) ∧ w'.cell? ⟨(ad.add (k * 6)).block, (ad.add (k * 6)).off + 5, none⟩ = some sl ∧ w'.cell? ⟨w.heap.size, 6, none⟩ = some (.int .i64 now)) (ds := []) #[false, false, false, false, false, false, false, false, false, false] (by kernel_rfl) rfl rfl ⟨b0, e0, e1, e2, e3, e4, e5, y6⟩ (fun hHeld => ?_); refine with_tabW tabF17 bitsF17 (fun HT_ HW_ => ?_)
      generalize wr.drew = wd at HQd b0 e0 e1 e2 e3 e4 e5 y6 hHeld ⊢
      refine pure_ (i := 0) (N := (some 69)) (v := ?_) (a' := ?_) #[true, false, false, false, false, false, false, false, false, false] rfl rfl (any_of HT_.out (by kernel_rfl)) (fun _ _ _ h => h) (Or.inl ⟨by rfl, ?_⟩) ?_ ?_
      rotate_left
      · intro w'
        go_simp
        with_reducible rfl
      rotate_left
      · simp only [Act.put, List.setIfInBounds_toArray, List.set_cons_zero, List.set_cons_succ, i64_w, i32_w]
        rfl
      refine pure_ (i := 1) (N := (some 70)) (v := ?_) (a' := ?_) #[true, true, false, false, false, false, false, false, false, false] rfl rfl (any_of HT_.out (by kernel_rfl)) (fun _ _ _ h => h) (Or.inl ⟨by rfl, ?_⟩) ?_ ?_
      rotate_left
      · intro w'
        go_simp
        with_reducible rfl
      rotate_left
      · simp only [Act.put, List.setIfInBounds_toArray, List.set_cons_zero, List.set_cons_succ, i64_w, i32_w]
        rfl
      refine pure_ (i := 2) (N := (some 71)) (v := ?_) (a' := ?_) #[true, true, true, false, false, false, false, false, false, false] rfl rfl (any_of HT_.out (by kernel_rfl)) (fun _ _ _ h => h) (Or.inl ⟨by rfl, ?_⟩) ?_ ?_
      rotate_left
      · intro w'
        go_simp
        with_reducible rfl
      rotate_left
      · simp only [Act.put, List.setIfInBounds_toArray, List.set_cons_zero, List.set_cons_succ, i64_w, i32_w]
        rfl
      refine take_ (i := 3) (N := (some 72)) (v := ?_) (a' := ?_) #[true, true, true, true, false, false, false, false, false, false] rfl rfl (take_ofW HT_.out HW_.out (by kernel_rfl)) (fun _ _ _ h => h) (Or.inl ⟨by rfl, ?_⟩) hHeld ?_ ?_
      rotate_left
      · rintro w' ⟨s0, s1, s2, s3, s4, s5, s6, s7⟩
        go_simp
        with_reducible rfl
      rotate_left
      · simp only [Act.put, List.setIfInBounds_toArray, List.set_cons_zero, List.set_cons_succ, i64_w, i32_w]
        rfl
      refine pure_ (i := 4) (N := (some 73)) (v := ?_) (a' := ?_) #[true, true, true, true, true, false, false, false, false, false] rfl rfl (any_of HT_.out (by kernel_rfl)) (fun _ _ _ h => h) (Or.inl ⟨by rfl, ?_⟩) ?_ ?_
      rotate_left
      · intro w'
        go_simp
        with_reducible rfl
      rotate_left
      · simp only [Act.put, List.setIfInBounds_toArray, List.set_cons_zero, List.set_cons_succ, i64_w, i32_w]
        rfl
      refine pure_ (i := 5) (N := (some 74)) (v := ?_) (a' := ?_) #[true, true, true, true, true, true, false, false, false, false] rfl rfl (any_of HT_.out (by kernel_rfl)) (fun _ _ _ h => h) (Or.inl ⟨by rfl, ?_⟩) ?_ ?_
      rotate_left
      · intro w'
        go_simp
        with_reducible rfl
      rotate_left
      · simp only [Act.put, List.setIfInBounds_toArray, List.set_cons_zero, List.set_cons_succ, i64_w, i32_w]
        rfl
      refine take_ (i := 6) (N := (some 75)) (v := ?_) (a' := ?_) #[true, true, true, true, true, true, true, false, false, false] rfl rfl (take_ofW HT_.out HW_.out (by kernel_rfl)) (fun _ _ _ h => h) (Or.inl ⟨by rfl, ?_⟩) hHeld ?_ ?_
      rotate_left
      · rintro w' ⟨s0, s1, s2, s3, s4, s5, s6, s7⟩
        go_simp
        with_reducible rfl
      rotate_left
      · simp only [Act.put, List.setIfInBounds_toArray, List.set_cons_zero, List.set_cons_succ, i64_w, i32_w]
        rfl
      refine pure_ (i := 7) (N := (some 76)) (v := ?_) (a' := ?_) #[true, true, true, true, true, true, true, true, false, false] rfl rfl (any_of HT_.out (by kernel_rfl)) (fun _ _ _ h => h) (Or.inl ⟨by rfl, ?_⟩) ?_ ?_
      rotate_left
      · intro w'
        go_simp
        with_reducible rfl
      rotate_left
      · simp only [Act.put, List.setIfInBounds_toArray, List.set_cons_zero, List.set_cons_succ, i64_w, i32_w]
        rfl
      refine take_ (i := 8) (N := (some 77)) (v := ?_) (a' := ?_) #[true, true, true, true, true, true, true, true, true, false] rfl rfl (take_ofW HT_.out HW_.out (by kernel_rfl)) (fun _ _ _ h => h) (Or.inl ⟨by rfl, ?_⟩) hHeld ?_ ?_
      rotate_left
      · rintro w' ⟨s0, s1, s2, s3, s4, s5, s6, s7⟩
        go_simp
        with_reducible rfl
      rotate_left
      · simp only [Act.put, List.setIfInBounds_toArray, List.set_cons_zero, List.set_cons_succ, i64_w, i32_w]
        rfl
      refine one_ (i := 9) (N := (some 78)) #[true, true, true, true, true, true, true, true, true, true] rfl rfl (one_of HT_.out (by kernel_rfl)) (by decide) (fun K hK => ?_)
      refine goes_ Try.func71 (by kernel_rfl) rfl #[.agg #[.string nm, .int .i64 tm, .int .i64 ep, .int .i64 st, .int .i64 si, sl], .int .i64 now] (by rfl) rfl rfl (by (try simp only [List.map_toArray, List.map_cons, List.map_nil]); first | done | rfl) ?_
      refine (RO.out _).mono ?_
      rintro e w9 ⟨rfl, hb⟩
      have HQ9 := Aside0.mk (HQd.out.move hb)
      have hS := Aside0.mk (And.intro (cell_bel hb b0) (And.intro (cell_bel hb e0) (And.intro (cell_bel hb e1) (And.intro (cell_bel hb e2) (And.intro (cell_bel hb e3) (And.intro (cell_bel hb e4) (And.intro (cell_bel hb e5) (cell_bel hb y6))))))))
      clear hb b0 e0 e1 e2 e3 e4 e5 y6
      refine ⟨_, rfl, ?_⟩
      refine hK.out _ _ hS.out (fun hHeld => ?_)
      clear hK K
      refine norm_ (a' := ?_) ?_ ?_
      rotate_left
      · show Act.put _ (some 78) _ = _
        simp only [Act.put, List.setIfInBounds_toArray, List.set_cons_zero, List.set_cons_succ, i64_w, i32_w]
        rfl
      refine done_ (done_of HT_.out (by kernel_rfl)) ?_
      clear hHeld HT_ HW_ hS
      cases ov
      · go_wp2_with fail
        exact ⟨⟨k + 1, by omega, rfl, HQ9.out, fun j r hj hr => by
          rcases Nat.lt_or_ge j k with h | h
          · exact HNO.out j r h hr
          · obtain rfl : j = k := by omega
            rw [hrk] at hr
            obtain rfl := Option.some.inj hr
            exact HOV.out⟩, by simp only [intOf]; omega⟩
      · have hany : (psOf rs).any (fun p => overP p now) = true := by
          rw [List.any_eq_true]
          exact ⟨_, List.mem_map.2 ⟨_, List.mem_iff_getElem?.2 ⟨k, hrk⟩, rfl⟩, HOV.out⟩
        have HD := Aside0.mk hany
        clear hany
        go_wp2_with fail
        exact bodyPost_ret (v := .tuple #[.bool false, .int .i64 0]) (by simp [results, Try.results44, go_sem]) rfl ⟨by rw [HD.out]; rfl, HQ9.out.below⟩
    · have hkc : ¬ (k : Int) < (rs.length : Int) := by omega
      have hany : (psOf rs).any (fun p => overP p now) = false := by
        rw [List.any_eq_false]
        intro p hp
        obtain ⟨r, hr, rfl⟩ := List.mem_map.1 hp
        obtain ⟨j, hj⟩ := List.mem_iff_getElem?.1 hr
        have hjl := (List.getElem?_eq_some_iff.1 hj).1
        rw [HNO.out j r (by omega) hj]
        decide
      have HD := Aside0.mk hany
      obtain ⟨A, c, hb, hmax, hrow⟩ := HQ5.out.rb.read; have b0 : wr.cell? ⟨gb, 0, none⟩ = some (.slice A rs.length c) := (blk_cell hb 0).trans rfl
      clear hany hb hrow
      go_wp2_with fail
      exact bodyPost_ret (v := .tuple #[.bool true, .int .i64 0]) (by simp [results, Try.results44, go_sem]) rfl ⟨by rw [HD.out]; rfl, HQ5.out.below⟩
def TF22 : Bool × List (List Nat × List Nat) := (true, [([], []), ([0], [0]), ([1], [1]), ([2], [2]), ([], []), ([4], [4]), ([3, 5], [3, 5]), ([6], [6]), ([], []), ([8, 7, 0, 1, 2, 3, 4, 5, 6, 7, 8], [7, 8])])
def BF22 : List Nat := [0, 1, 3, 7, 0, 16, 63, 127, 0, 511]
theorem tabF22 : rtab .any (opsOf Try.f44 22) = TF22 := by kernel_rfl
theorem bitsF22 : waitsOk TF22.2 BF22 = true := by kernel_rfl
theorem valx_ {P : Program} {ops : Array Oper} {Q : Exit → Act → World → Prop} {oi : Oper} {N : Option Tmp} {a : Act} {w w1 : World} {v : Value} {K : Act → World → Prop} (hw : Region.wanted oi (yielded ops a.tmps) = true) (hN : oi.dst = N) (hrun : (execOp a.eval oi).run P w = .ok (.value v) w1) (h : K (a.put N v) w1) :
    if Region.wanted oi (yielded ops a.tmps) = true then Oper.wp P oi a w K Q else K (a.put N undef) w := by
  subst hN
  rw [if_pos hw]
  unfold Oper.wp
  rw [hrun]
  exact h
theorem run_alloc127 (ev : Operand → Value) (o : Oper) (ho : o.op = .alloc 127) (w : World) : (execOp ev o).run Try.prog w = .ok (.value (.pointer (some ⟨w.heap.size, 0, none⟩))) (w.alloc (.cells #[.string ⟨#[]⟩, .int .i64 0, .int .i64 0, .int .i64 0, .int .i64 0, .slice none 0 0] 127 (0, 0))) := by
  unfold execOp
  rw [ho]
  kernel_rfl
theorem info127 : (Try.prog.info? 127).map (·.size) = some 6 := by kernel_rfl
theorem run_store127 {w : World} {g : Nat} {old cells : Array Value} (ev : Operand → Value) (o : Oper) (p x : Operand) (ho : o.op = .store 127 p x) (hx : ev p = .pointer (some ⟨g, 0, none⟩)) (hy : ev x = .agg cells) (hg : w.heap[g]? = some (.cells old 127 (0, 0))) (h8 : cells.size = 6) (ho8 : old.size = 6) (h1 : cells.all (·.oneCell') = true) : (execOp ev o).run Try.prog w = .ok .skip (w.setRow g cells) := by
  unfold execOp
  simp only [ho, hx, hy, Instr.storeAt, Instr.sureAddr, Sem.run_bind, Sem.run_pure, Result.andThen_ok, run_storeVar_row w g 127 127 old cells hg (by rw [info127, h8]) (by rw [ho8, h8]) h1]
theorem stored_rp (w : World) (t : TypeId) (cs cs' : Array Value) : Below w.heap.size w ((w.alloc (.cells cs t (0, 0))).setRow w.heap.size cs') ∧ ((w.alloc (.cells cs t (0, 0))).setRow w.heap.size cs').heap[w.heap.size]? = some (.cells cs' t (0, 0)) := by
  have hb := below_alloc (Below.refl w.heap.size w) (.cells cs t (0, 0))
  exact ⟨⟨hb.os, hb.tape, hb.output, by rw [size_setRow]; exact hb.size, fun k hk => (setRow_other _ _ k cs' (by omega)).trans (hb.block k hk)⟩, setRow_heap _ _ _ _ _ _ (heap_alloc_new w _)⟩
theorem right_kinds {x : EvV} (h : rightE x = true) (h1 : x.kind ≠ 1) (h5 : x.kind ≠ 5) : x.kind = 2 ∨ x.kind = 3 ∨ x.kind = 4 := by
  unfold rightE at h
  rw [Bool.and_eq_true] at h
  have h2 := h.2
  rw [if_neg h1] at h2
  split at h2
  · omega
  split at h2
  · omega
  split at h2
  · omega
  · cases h2
theorem rp_one (a : ByteArray) (b c d e : Int) (A : Option Addr) (n m : Nat) : (#[Value.string a, .int .i64 b, .int .i64 c, .int .i64 d, .int .i64 e, .slice A n m]).all (·.oneCell') = true := by kernel_rfl
/-- .. and a copy of its producer. -/
structure RL (own : Nat → Prop) (gb : Nat) (rs : List RP) (x : EvV) (lp : Array Value) (B : Nat) (w0 w : World) : Prop where
  q : RQ own gb rs x w0 w
  loc : w.heap[B]? = some (.cells lp 127 (0, 0))
theorem RL.move {x : EvV} {lp : Array Value} {B : Nat} {w0 : World} (h : RL own gb rs x lp B w0 w) (hb : Below w.heap.size w w') : RL own gb rs x lp B w0 w' := ⟨h.q.move hb, blk_below h.loc hb⟩
set_option maxHeartbeats 3200000 in
set_option maxRecDepth 100000 in
theorem rdecideP_c (h : RB own gb rs w) (hgd : ∀ r ∈ rs, GoodP r.1) (x : EvV) (hk1 : x.kind ≠ 1) (hk5 : x.kind ≠ 5) (hr : rightE x = true) : Calls Try.prog 44 #[.pointer (some ⟨gb, 0, none⟩), evE x] w fun e w' => e = .returned (.tuple #[.bool (decideF (psOf rs) x).1, .int .i64 (decideF (psOf rs) x).2]) ∧ Below w.heap.size w w' := by
  have hd : decideF (psOf rs) x = if ((psOf rs).length : Int) ≤ x.producer then (false, 3) else doneF (prodAt (psOf rs) x.producer) x := by unfold decideF; rw [hr, if_pos rfl, if_neg hk1, if_neg hk5]
  have hp0 := (right_in hr).1.1
  have hks := right_kinds hr hk1 hk5
  rw [hd, psOf_len]
  have HQ := Aside0.mk (RQ.start h x)
  have HRI := Aside0.mk (fun W => refRight_c x W)
  rw [hr] at HRI
  have HN := Aside0.mk (fun (W : World) (h : RQ own gb rs x w W) => rfind_c h.rb x.name)
  clear h hr
  obtain ⟨kind, name, producer, epoch, place, timeout, now, yes⟩ := x
  unfold evE at HRI ⊢
  dsimp only at HRI HN hk1 hk5 hp0 hks ⊢
  have y0 : (w.alloc (.cells #[.int .i64 kind, .string name, .int .i64 producer, .int .i64 epoch, .int .i64 place, .int .i64 timeout, .int .i64 now, .bool yes] 35 (0, 0))).cell? ⟨w.heap.size, 0, none⟩ = some (.int .i64 kind) := (blk_cell HQ.out.box 0).trans rfl
  have y1 : (w.alloc (.cells #[.int .i64 kind, .string name, .int .i64 producer, .int .i64 epoch, .int .i64 place, .int .i64 timeout, .int .i64 now, .bool yes] 35 (0, 0))).cell? ⟨w.heap.size, 1, none⟩ = some (.string name) := (blk_cell HQ.out.box 1).trans rfl
  have y2 : (w.alloc (.cells #[.int .i64 kind, .string name, .int .i64 producer, .int .i64 epoch, .int .i64 place, .int .i64 timeout, .int .i64 now, .bool yes] 35 (0, 0))).cell? ⟨w.heap.size, 2, none⟩ = some (.int .i64 producer) := (blk_cell HQ.out.box 2).trans rfl
  have y3 : (w.alloc (.cells #[.int .i64 kind, .string name, .int .i64 producer, .int .i64 epoch, .int .i64 place, .int .i64 timeout, .int .i64 now, .bool yes] 35 (0, 0))).cell? ⟨w.heap.size, 3, none⟩ = some (.int .i64 epoch) := (blk_cell HQ.out.box 3).trans rfl
  have y4 : (w.alloc (.cells #[.int .i64 kind, .string name, .int .i64 producer, .int .i64 epoch, .int .i64 place, .int .i64 timeout, .int .i64 now, .bool yes] 35 (0, 0))).cell? ⟨w.heap.size, 4, none⟩ = some (.int .i64 place) := (blk_cell HQ.out.box 4).trans rfl
  have y5 : (w.alloc (.cells #[.int .i64 kind, .string name, .int .i64 producer, .int .i64 epoch, .int .i64 place, .int .i64 timeout, .int .i64 now, .bool yes] 35 (0, 0))).cell? ⟨w.heap.size, 5, none⟩ = some (.int .i64 timeout) := (blk_cell HQ.out.box 5).trans rfl
  have y6 : (w.alloc (.cells #[.int .i64 kind, .string name, .int .i64 producer, .int .i64 epoch, .int .i64 place, .int .i64 timeout, .int .i64 now, .bool yes] 35 (0, 0))).cell? ⟨w.heap.size, 6, none⟩ = some (.int .i64 now) := (blk_cell HQ.out.box 6).trans rfl
  have y7 : (w.alloc (.cells #[.int .i64 kind, .string name, .int .i64 producer, .int .i64 epoch, .int .i64 place, .int .i64 timeout, .int .i64 now, .bool yes] 35 (0, 0))).cell? ⟨w.heap.size, 7, none⟩ = some (.bool yes) := (blk_cell HQ.out.box 7).trans rfl
  unfold evA at HQ
  dsimp only at HQ
  clear hd HN
  have hk1' : (kind == 1) = false := beq_eq_false_iff_ne.2 hk1
  have hk5' : (kind == 5) = false := beq_eq_false_iff_ne.2 hk5
  have HK := Aside0.mk (And.intro hk1 hk5)
  clear hk1 hk5
  by_cases hpl : (rs.length : Int) ≤ producer
  · rw [if_pos hpl]
    go_enter Try.func44, Try.ntmps44
    go_upto_region 20 with (go_at_call 50; clear y0 y1 y2 y3 y4 y5 y6 y7; refine (HRI.out _).mono ?_; rintro e w2 ⟨rfl, hb⟩; have HQ2 := Aside0.mk (HQ.out.move hb); clear hb HQ HRI; obtain ⟨A, c, hb, hmax, hrow⟩ := HQ2.out.rb.read; have b0 : w2.cell? ⟨gb, 0, none⟩ = some (.slice A rs.length c) := (blk_cell hb 0).trans rfl; clear hb hrow; have y0 : (w2).cell? ⟨w.heap.size, 0, none⟩ = some (.int .i64 kind) := (blk_cell HQ2.out.box 0).trans rfl; have y2 : (w2).cell? ⟨w.heap.size, 2, none⟩ = some (.int .i64 producer) := (blk_cell HQ2.out.box 2).trans rfl)
    go_quiet (fail)
    go_wp2_with fail
    exact bodyPost_ret (v := .tuple #[.bool false, .int .i64 3]) (by simp [results, Try.results44, go_sem]) rfl ⟨rfl, HQ2.out.below.trans (pw_below_drewN (Below.refl _ w2) _) |> fun h => h⟩
  · rw [if_neg hpl]
    obtain ⟨k, rfl⟩ := Int.eq_ofNat_of_zero_le hp0
    have hkl : k < rs.length := by omega
    obtain ⟨⟨⟨nm, tm, ep, st, si, pl⟩, sl⟩, hrk⟩ : ∃ r, rs[k]? = some r := ⟨_, List.getElem?_eq_getElem hkl⟩
    rw [show prodAt (psOf rs) (k : Int) = ⟨nm, tm, ep, st, si, pl⟩ by unfold prodAt; rw [Int.toNat_natCast, psOf_at hrk]]
    have hmem := List.mem_iff_getElem?.2 ⟨k, hrk⟩
    have hst : st = 0 ∨ st = 1 ∨ st = 2 ∨ st = 3 := (hgd _ hmem).st
    have RE := Aside0.mk (fun W => rends_c (⟨nm, tm, ep, st, si, pl⟩, sl) W)
    obtain ⟨Ap, cp, hv⟩ := Kd.R_slice (HQ.out.rb.each _ hmem)
    have RH := Aside0.mk (fun (B : Nat) (W : World) (h : RL own gb rs ⟨kind, name, k, epoch, place, timeout, now, yes⟩ #[.string nm, .int .i64 tm, .int .i64 ep, .int .i64 st, .int .i64 si, sl] B w W) => rhas_c (⟨nm, tm, ep, st, si, pl⟩, sl) Ap cp hv place W (Kd.R_reads' (hv ▸ h.q.rb.each _ hmem)).2.2)
    unfold rpV prodC at RE RH
    dsimp only at RE RH hv
    have hone : ∀ (a : ByteArray) (b c d e : Int), (#[Value.string a, .int .i64 b, .int .i64 c, .int .i64 d, .int .i64 e, sl]).all (·.oneCell') = true := by rw [hv]; exact fun a b c d e => rp_one a b c d e Ap pl.length cp
    have HV := Aside0.mk hv
    clear hv hmem hp0
    have hkr : ¬ (rs.length : Int) ≤ (k : Int) := by omega
    have hkr2 : (k : Int) < (rs.length : Int) := by omega
    clear hpl
    obtain ⟨q, hq⟩ : ∃ q, doneF ⟨nm, tm, ep, st, si, pl⟩ ⟨kind, name, (k : Int), epoch, place, timeout, now, yes⟩ = q := ⟨_, rfl⟩
    obtain ⟨en, hen⟩ : ∃ en, endsP ⟨nm, tm, ep, st, si, pl⟩ = en := ⟨_, rfl⟩
    rw [hq]
    rw [hen] at RE
    have HD := Aside0.mk (And.intro hq hen)
    clear hq hen
    go_enter Try.func44, Try.ntmps44
    go_upto_region 20 with (go_at_call 50; clear y0 y1 y2 y3 y4 y5 y6 y7; refine (HRI.out _).mono ?_; rintro e w2 ⟨rfl, hb⟩; have HQ2 := Aside0.mk (HQ.out.move hb); clear hb HQ HRI; obtain ⟨A, c, hb, hmax, hrow⟩ := HQ2.out.rb.read; have b0 : w2.cell? ⟨gb, 0, none⟩ = some (.slice A rs.length c) := (blk_cell hb 0).trans rfl; clear hb; have y0 : (w2).cell? ⟨w.heap.size, 0, none⟩ = some (.int .i64 kind) := (blk_cell HQ2.out.box 0).trans rfl; have y2 : (w2).cell? ⟨w.heap.size, 2, none⟩ = some (.int .i64 (k : Int)) := (blk_cell HQ2.out.box 2).trans rfl)
    clear hrow
    go_quiet (fail)
    have HQ3 := Aside0.mk (HQ2.out.move (pw_below_drewN (Below.refl _ w2) nq))
    clear HQ2 y0 y2 b0
    generalize w2.drewN nq = w3 at HQ3 ⊢
    obtain ⟨A, c, hb, hmax, hrow⟩ := HQ3.out.rb.read; have b0 : w3.cell? ⟨gb, 0, none⟩ = some (.slice A rs.length c) := (blk_cell hb 0).trans rfl
    obtain ⟨ad, hA, e0, e1, e2, e3, e4, e5⟩ := rp_cells hrow k _ hrk; subst hA; dsimp only at e0 e1 e2 e3 e4 e5
    clear hrow hb
    have y2 : w3.cell? ⟨w.heap.size, 2, none⟩ = some (.int .i64 (k : Int)) := (blk_cell HQ3.out.box 2).trans rfl
    go_upto_region 22 with fail
    have hdr := below_drew (Below.refl w3.heap.size w3)
    have HQd := Aside0.mk (HQ3.out.move hdr)
    clear hdr b0 e0 e1 e2 e3 e4 e5 y2
    obtain ⟨A, c, hb, hmax, hrow⟩ := HQd.out.rb.read; have b0 : w3.drew.cell? ⟨gb, 0, none⟩ = some (.slice A rs.length c) := (blk_cell hb 0).trans rfl
    obtain ⟨ad, hA, e0, e1, e2, e3, e4, e5⟩ := rp_cells hrow k _ hrk; subst hA; dsimp only at e0 e1 e2 e3 e4 e5
    clear hrow hb
    have y2 : w3.drew.cell? ⟨w.heap.size, 2, none⟩ = some (.int .i64 (k : Int)) := (blk_cell HQd.out.box 2).trans rfl
    refine start_ (n := 10) (S := fun w' => w'.cell? ⟨gb, 0, none⟩ = some (.slice (some ad) rs.length c) ∧ w'.cell? (ad.add (k * 6)) = some (.string nm) ∧ w'.cell? ⟨(ad.add (k * 6)).block, (ad.add (k * 6)).off + 1, none⟩ = some (.int .i64 tm) ∧ w'.cell? ⟨(ad.add (k * 6)).block, (ad.add (k * 6)).off + 2, none⟩ = some (.int .i64 ep) ∧ w'.cell? ⟨(ad.add (k * 6)).block, (ad.add (k * 6)).off + 3, none⟩ = some (.int .i64 st) ∧ w'.cell? ⟨(ad.add (k * 6)).block, (ad.add (k * 6)).off + 4, none⟩ = some (.int .i64 si) ∧ w'.cell? ⟨(ad.add (k * 6)).block, (ad.add (k * 6)).off + 5, none⟩ = some sl ∧ w'.cell? ⟨w.heap.size, 2, none⟩ = some (.int .i64 (k : Int))) (ds := [9]) #[false, false, false, false, false, false, false, false, false, false] (by kernel_rfl) rfl rfl ⟨b0, e0, e1, e2, e3, e4, e5, y2⟩ (fun hHeld => ?_); refine with_tabW tabF22 bitsF22 (fun HT_ HW_ => ?_)
    generalize w3.drew = wd at HQd b0 e0 e1 e2 e3 e4 e5 y2 hHeld ⊢
    refine pure_ (i := 0) (N := (some 87)) (v := ?_) (a' := ?_) #[true, false, false, false, false, false, false, false, false, false] rfl rfl (any_of HT_.out (by kernel_rfl)) (fun _ _ _ h => h) (Or.inl ⟨by rfl, ?_⟩) ?_ ?_
    rotate_left
    · intro w'
      go_simp
      with_reducible rfl
    rotate_left
    · simp only [Act.put, List.setIfInBounds_toArray, List.set_cons_zero, List.set_cons_succ, i64_w, i32_w]
      rfl
    refine pure_ (i := 1) (N := (some 88)) (v := ?_) (a' := ?_) #[true, true, false, false, false, false, false, false, false, false] rfl rfl (any_of HT_.out (by kernel_rfl)) (fun _ _ _ h => h) (Or.inl ⟨by rfl, ?_⟩) ?_ ?_
    rotate_left
    · intro w'
      go_simp
      with_reducible rfl
    rotate_left
    · simp only [Act.put, List.setIfInBounds_toArray, List.set_cons_zero, List.set_cons_succ, i64_w, i32_w]
      rfl
    refine pure_ (i := 2) (N := (some 89)) (v := ?_) (a' := ?_) #[true, true, true, false, false, false, false, false, false, false] rfl rfl (any_of HT_.out (by kernel_rfl)) (fun _ _ _ h => h) (Or.inl ⟨by rfl, ?_⟩) ?_ ?_
    rotate_left
    · intro w'
      go_simp
      with_reducible rfl
    rotate_left
    · simp only [Act.put, List.setIfInBounds_toArray, List.set_cons_zero, List.set_cons_succ, i64_w, i32_w]
      rfl
    refine take_ (i := 3) (N := (some 90)) (v := ?_) (a' := ?_) #[true, true, true, true, false, false, false, false, false, false] rfl rfl (take_ofW HT_.out HW_.out (by kernel_rfl)) (fun _ _ _ h => h) (Or.inl ⟨by rfl, ?_⟩) hHeld ?_ ?_
    rotate_left
    · rintro w' ⟨s0, s1, s2, s3, s4, s5, s6, s7⟩
      go_simp
      with_reducible rfl
    rotate_left
    · simp only [Act.put, List.setIfInBounds_toArray, List.set_cons_zero, List.set_cons_succ, i64_w, i32_w]
      rfl
    refine pure_ (i := 4) (N := (some 91)) (v := ?_) (a' := ?_) #[true, true, true, true, true, false, false, false, false, false] rfl rfl (any_of HT_.out (by kernel_rfl)) (fun _ _ _ h => h) (Or.inl ⟨by rfl, ?_⟩) ?_ ?_
    rotate_left
    · intro w'
      go_simp
      with_reducible rfl
    rotate_left
    · simp only [Act.put, List.setIfInBounds_toArray, List.set_cons_zero, List.set_cons_succ, i64_w, i32_w]
      rfl
    refine take_ (i := 5) (N := (some 92)) (v := ?_) (a' := ?_) #[true, true, true, true, true, true, false, false, false, false] rfl rfl (take_ofW HT_.out HW_.out (by kernel_rfl)) (fun _ _ _ h => h) (Or.inl ⟨by rfl, ?_⟩) hHeld ?_ ?_
    rotate_left
    · rintro w' ⟨s0, s1, s2, s3, s4, s5, s6, s7⟩
      go_simp
      with_reducible rfl
    rotate_left
    · simp only [Act.put, List.setIfInBounds_toArray, List.set_cons_zero, List.set_cons_succ, i64_w, i32_w]
      rfl
    refine pure_ (i := 6) (N := (some 93)) (v := ?_) (a' := ?_) #[true, true, true, true, true, true, true, false, false, false] rfl rfl (any_of HT_.out (by kernel_rfl)) (fun _ _ _ h => h) (Or.inl ⟨by rfl, ?_⟩) ?_ ?_
    rotate_left
    · intro w'
      go_simp
      with_reducible rfl
    rotate_left
    · simp only [Act.put, List.setIfInBounds_toArray, List.set_cons_zero, List.set_cons_succ, i64_w, i32_w]
      rfl
    refine take_ (i := 7) (N := (some 94)) (v := ?_) (a' := ?_) #[true, true, true, true, true, true, true, true, false, false] rfl rfl (take_ofW HT_.out HW_.out (by kernel_rfl)) (fun _ _ _ h => h) (Or.inl ⟨by rfl, ?_⟩) hHeld ?_ ?_
    rotate_left
    · rintro w' ⟨s0, s1, s2, s3, s4, s5, s6, s7⟩
      go_simp
      with_reducible rfl
    rotate_left
    · simp only [Act.put, List.setIfInBounds_toArray, List.set_cons_zero, List.set_cons_succ, i64_w, i32_w]
      rfl
    refine one_ (i := 8) (N := (some 8)) #[true, true, true, true, true, true, true, true, true, false] rfl rfl (one_of HT_.out (by kernel_rfl)) (by decide) (fun K hK => ?_)
    refine valx_ (w1 := wd.alloc (.cells #[.string ⟨#[]⟩, .int .i64 0, .int .i64 0, .int .i64 0, .int .i64 0, .slice none 0 0] 127 (0, 0))) (v := .pointer (some ⟨wd.heap.size, 0, none⟩)) (by rfl) rfl (run_alloc127 _ _ rfl wd) ?_
    have hal := below_alloc (Below.refl wd.heap.size wd) (.cells #[.string ⟨#[]⟩, .int .i64 0, .int .i64 0, .int .i64 0, .int .i64 0, .slice none 0 0] 127 (0, 0))
    have hS := Aside0.mk (And.intro (cell_bel hal b0) (And.intro (cell_bel hal e0) (And.intro (cell_bel hal e1) (And.intro (cell_bel hal e2) (And.intro (cell_bel hal e3) (And.intro (cell_bel hal e4) (And.intro (cell_bel hal e5) (cell_bel hal y2))))))))
    clear hal
    refine hK.out _ _ hS.out (fun hHeld => ?_)
    clear hK K
    refine norm_ (a' := ?_) ?_ ?_
    rotate_left
    · show Act.put _ (some 8) _ = _
      simp only [Act.put, List.setIfInBounds_toArray, List.set_cons_zero, List.set_cons_succ, i64_w, i32_w]
      rfl
    refine last_ (i := 9) (N := none) #[true, true, true, true, true, true, true, true, true, true] rfl rfl (one_of HT_.out (by kernel_rfl)) (by decide) (fun K hK => ?_)
    refine skip_ (w1 := (wd.alloc (.cells #[.string ⟨#[]⟩, .int .i64 0, .int .i64 0, .int .i64 0, .int .i64 0, .slice none 0 0] 127 (0, 0))).setRow wd.heap.size #[.string nm, .int .i64 tm, .int .i64 ep, .int .i64 st, .int .i64 si, sl]) (by rfl) rfl (run_store127 _ _ (.tmp 8) (.tmp 94) rfl rfl rfl (heap_alloc_new wd _) rfl rfl (hone _ _ _ _ _)) ?_
    refine hK.out _ _ ?_
    clear hK K hS
    obtain ⟨hsb, hsr⟩ := stored_rp wd 127 #[.string ⟨#[]⟩, .int .i64 0, .int .i64 0, .int .i64 0, .int .i64 0, .slice none 0 0] #[.string nm, .int .i64 tm, .int .i64 ep, .int .i64 st, .int .i64 si, sl]
    have HL4 := Aside0.mk (RL.mk (HQd.out.move hsb) hsr)
    clear hsb hsr HQd b0 e0 e1 e2 e3 e4 e5 y2
    generalize hB : wd.heap.size = B at HL4 ⊢
    generalize (wd.alloc (.cells #[.string ⟨#[]⟩, .int .i64 0, .int .i64 0, .int .i64 0, .int .i64 0, .slice none 0 0] 127 (0, 0))).setRow B #[.string nm, .int .i64 tm, .int .i64 ep, .int .i64 st, .int .i64 si, sl] = w4 at HL4 ⊢
    clear hB
    refine done_ (done_of HT_.out (by kernel_rfl)) ?_
    clear hHeld HT_ HW_
    have y0 : w4.cell? ⟨w.heap.size, 0, none⟩ = some (.int .i64 kind) := (blk_cell HL4.out.q.box 0).trans rfl
    have y3 : w4.cell? ⟨w.heap.size, 3, none⟩ = some (.int .i64 epoch) := (blk_cell HL4.out.q.box 3).trans rfl
    have y4 : w4.cell? ⟨w.heap.size, 4, none⟩ = some (.int .i64 place) := (blk_cell HL4.out.q.box 4).trans rfl
    have y7 : w4.cell? ⟨w.heap.size, 7, none⟩ = some (.bool yes) := (blk_cell HL4.out.q.box 7).trans rfl
    have z0 : w4.cell? ⟨B, 0, none⟩ = some (.string _) := (blk_cell HL4.out.loc 0).trans rfl
    have z1 : w4.cell? ⟨B, 1, none⟩ = some (.int .i64 _) := (blk_cell HL4.out.loc 1).trans rfl
    have z2 : w4.cell? ⟨B, 2, none⟩ = some (.int .i64 _) := (blk_cell HL4.out.loc 2).trans rfl
    have z3 : w4.cell? ⟨B, 3, none⟩ = some (.int .i64 _) := (blk_cell HL4.out.loc 3).trans rfl
    have z4 : w4.cell? ⟨B, 4, none⟩ = some (.int .i64 _) := (blk_cell HL4.out.loc 4).trans rfl
    have z5 : w4.cell? ⟨B, 5, none⟩ = some (sl) := (blk_cell HL4.out.loc 5).trans rfl
    by_cases hep : ep = epoch
    · obtain rfl : epoch = ep := hep.symm
      clear hep
      have HST := Aside0.mk hst
      clear hst
      rcases hks with rfl | rfl | rfl
      · cases en
        · by_cases hm : place ∈ pl
          · rw [decide_eq_true hm] at RH
            have HM := Aside0.mk hm
            clear hm
            have hq : q = (true, 0) := by rw [← HD.out.1]; unfold doneF; dsimp only; rw [HD.out.2]; simp [HM.out]
            have HQ := Aside0.mk hq
            clear hq
            go_wp2_with (first
              | (go_at_call 70; clear y0 y3 y4 y7 z0 z1 z2 z3 z4 z5; refine (RE.out _).mono ?_; rintro e w5 ⟨rfl, hb⟩; have HL5 := Aside0.mk (HL4.out.move hb); clear hb HL4; have y4 : w5.cell? ⟨w.heap.size, 4, none⟩ = some (.int .i64 place) := (blk_cell HL5.out.q.box 4).trans rfl; have z0 : w5.cell? ⟨B, 0, none⟩ = some (.string _) := (blk_cell HL5.out.loc 0).trans rfl; have z1 : w5.cell? ⟨B, 1, none⟩ = some (.int .i64 _) := (blk_cell HL5.out.loc 1).trans rfl; have z2 : w5.cell? ⟨B, 2, none⟩ = some (.int .i64 _) := (blk_cell HL5.out.loc 2).trans rfl; have z3 : w5.cell? ⟨B, 3, none⟩ = some (.int .i64 _) := (blk_cell HL5.out.loc 3).trans rfl; have z4 : w5.cell? ⟨B, 4, none⟩ = some (.int .i64 _) := (blk_cell HL5.out.loc 4).trans rfl; have z5 : w5.cell? ⟨B, 5, none⟩ = some (sl) := (blk_cell HL5.out.loc 5).trans rfl)
              | (go_at_call 72; clear y4 z0 z1 z2 z3 z4 z5; refine (RH.out B _ HL5.out).mono ?_; rintro e w6 ⟨rfl, hb⟩; have HL6 := Aside0.mk (HL5.out.move hb); clear hb HL5; have z5 : w6.cell? ⟨B, 5, none⟩ = some (sl) := (blk_cell HL6.out.loc 5).trans rfl; rw [HV.out] at z5))
            exact bodyPost_ret (v := .tuple #[.bool true, .int .i64 0]) (by simp [results, Try.results44, go_sem]) rfl ⟨by rw [HQ.out], HL6.out.q.below⟩
          · rw [decide_eq_false hm] at RH
            have HM := Aside0.mk hm
            clear hm
            by_cases hl : 100 ≤ pl.length
            · have hlc : (100 : Int) ≤ (pl.length : Int) := by omega
              have hq : q = (false, 7) := by rw [← HD.out.1]; unfold doneF; dsimp only; rw [HD.out.2]; simp [HM.out, hl]
              have HQ := Aside0.mk hq
              clear hq
              go_wp2_with (first
                | (go_at_call 70; clear y0 y3 y4 y7 z0 z1 z2 z3 z4 z5; refine (RE.out _).mono ?_; rintro e w5 ⟨rfl, hb⟩; have HL5 := Aside0.mk (HL4.out.move hb); clear hb HL4; have y4 : w5.cell? ⟨w.heap.size, 4, none⟩ = some (.int .i64 place) := (blk_cell HL5.out.q.box 4).trans rfl; have z0 : w5.cell? ⟨B, 0, none⟩ = some (.string _) := (blk_cell HL5.out.loc 0).trans rfl; have z1 : w5.cell? ⟨B, 1, none⟩ = some (.int .i64 _) := (blk_cell HL5.out.loc 1).trans rfl; have z2 : w5.cell? ⟨B, 2, none⟩ = some (.int .i64 _) := (blk_cell HL5.out.loc 2).trans rfl; have z3 : w5.cell? ⟨B, 3, none⟩ = some (.int .i64 _) := (blk_cell HL5.out.loc 3).trans rfl; have z4 : w5.cell? ⟨B, 4, none⟩ = some (.int .i64 _) := (blk_cell HL5.out.loc 4).trans rfl; have z5 : w5.cell? ⟨B, 5, none⟩ = some (sl) := (blk_cell HL5.out.loc 5).trans rfl)
                | (go_at_call 72; clear y4 z0 z1 z2 z3 z4 z5; refine (RH.out B _ HL5.out).mono ?_; rintro e w6 ⟨rfl, hb⟩; have HL6 := Aside0.mk (HL5.out.move hb); clear hb HL5; have z5 : w6.cell? ⟨B, 5, none⟩ = some (sl) := (blk_cell HL6.out.loc 5).trans rfl; rw [HV.out] at z5))
              exact bodyPost_ret (v := .tuple #[.bool false, .int .i64 7]) (by simp [results, Try.results44, go_sem]) rfl ⟨by rw [HQ.out], HL6.out.q.below⟩
            · have hlc : ¬ (100 : Int) ≤ (pl.length : Int) := by omega
              have hq : q = (false, 0) := by rw [← HD.out.1]; unfold doneF; dsimp only; rw [HD.out.2]; simp [HM.out, hl]
              have HQ := Aside0.mk hq
              clear hq
              go_wp2_with (first
                | (go_at_call 70; clear y0 y3 y4 y7 z0 z1 z2 z3 z4 z5; refine (RE.out _).mono ?_; rintro e w5 ⟨rfl, hb⟩; have HL5 := Aside0.mk (HL4.out.move hb); clear hb HL4; have y4 : w5.cell? ⟨w.heap.size, 4, none⟩ = some (.int .i64 place) := (blk_cell HL5.out.q.box 4).trans rfl; have z0 : w5.cell? ⟨B, 0, none⟩ = some (.string _) := (blk_cell HL5.out.loc 0).trans rfl; have z1 : w5.cell? ⟨B, 1, none⟩ = some (.int .i64 _) := (blk_cell HL5.out.loc 1).trans rfl; have z2 : w5.cell? ⟨B, 2, none⟩ = some (.int .i64 _) := (blk_cell HL5.out.loc 2).trans rfl; have z3 : w5.cell? ⟨B, 3, none⟩ = some (.int .i64 _) := (blk_cell HL5.out.loc 3).trans rfl; have z4 : w5.cell? ⟨B, 4, none⟩ = some (.int .i64 _) := (blk_cell HL5.out.loc 4).trans rfl; have z5 : w5.cell? ⟨B, 5, none⟩ = some (sl) := (blk_cell HL5.out.loc 5).trans rfl)
                | (go_at_call 72; clear y4 z0 z1 z2 z3 z4 z5; refine (RH.out B _ HL5.out).mono ?_; rintro e w6 ⟨rfl, hb⟩; have HL6 := Aside0.mk (HL5.out.move hb); clear hb HL5; have z5 : w6.cell? ⟨B, 5, none⟩ = some (sl) := (blk_cell HL6.out.loc 5).trans rfl; rw [HV.out] at z5))
              exact bodyPost_ret (v := .tuple #[.bool false, .int .i64 0]) (by simp [results, Try.results44, go_sem]) rfl ⟨by rw [HQ.out], HL6.out.q.below⟩
        · skip
          have hq : q = (false, 54) := by rw [← HD.out.1]; unfold doneF; dsimp only; rw [HD.out.2]; simp []
          have HQ := Aside0.mk hq
          clear hq
          go_wp2_with (first
            | (go_at_call 70; clear y0 y3 y4 y7 z0 z1 z2 z3 z4 z5; refine (RE.out _).mono ?_; rintro e w5 ⟨rfl, hb⟩; have HL5 := Aside0.mk (HL4.out.move hb); clear hb HL4; have y4 : w5.cell? ⟨w.heap.size, 4, none⟩ = some (.int .i64 place) := (blk_cell HL5.out.q.box 4).trans rfl; have z0 : w5.cell? ⟨B, 0, none⟩ = some (.string _) := (blk_cell HL5.out.loc 0).trans rfl; have z1 : w5.cell? ⟨B, 1, none⟩ = some (.int .i64 _) := (blk_cell HL5.out.loc 1).trans rfl; have z2 : w5.cell? ⟨B, 2, none⟩ = some (.int .i64 _) := (blk_cell HL5.out.loc 2).trans rfl; have z3 : w5.cell? ⟨B, 3, none⟩ = some (.int .i64 _) := (blk_cell HL5.out.loc 3).trans rfl; have z4 : w5.cell? ⟨B, 4, none⟩ = some (.int .i64 _) := (blk_cell HL5.out.loc 4).trans rfl; have z5 : w5.cell? ⟨B, 5, none⟩ = some (sl) := (blk_cell HL5.out.loc 5).trans rfl))
          exact bodyPost_ret (v := .tuple #[.bool false, .int .i64 54]) (by simp [results, Try.results44, go_sem]) rfl ⟨by rw [HQ.out], HL5.out.q.below⟩
      · have HRE := RE
        rcases HST.out with rfl | rfl | rfl | rfl
        · skip
          have hq : q = (true, 0) := by rw [← HD.out.1]; unfold doneF; dsimp only; rw [HD.out.2]; simp []
          have HQ := Aside0.mk hq
          clear hq
          go_wp2_with fail
          exact bodyPost_ret (v := .tuple #[.bool true, .int .i64 0]) (by simp [results, Try.results44, go_sem]) rfl ⟨by rw [HQ.out], HL4.out.q.below⟩
        · obtain rfl : en = false := by rw [← HD.out.2]; rfl
          have hq : q = (false, 0) := by rw [← HD.out.1]; unfold doneF; dsimp only; rw [HD.out.2]; simp []
          have HQ := Aside0.mk hq
          clear hq
          go_wp2_with (first
            | (go_at_call 70; clear y0 y3 y4 y7 z0 z1 z2 z3 z4 z5; refine (RE.out _).mono ?_; rintro e w5 ⟨rfl, hb⟩; have HL5 := Aside0.mk (HL4.out.move hb); clear hb HL4; have y4 : w5.cell? ⟨w.heap.size, 4, none⟩ = some (.int .i64 place) := (blk_cell HL5.out.q.box 4).trans rfl; have z0 : w5.cell? ⟨B, 0, none⟩ = some (.string _) := (blk_cell HL5.out.loc 0).trans rfl; have z1 : w5.cell? ⟨B, 1, none⟩ = some (.int .i64 _) := (blk_cell HL5.out.loc 1).trans rfl; have z2 : w5.cell? ⟨B, 2, none⟩ = some (.int .i64 _) := (blk_cell HL5.out.loc 2).trans rfl; have z3 : w5.cell? ⟨B, 3, none⟩ = some (.int .i64 _) := (blk_cell HL5.out.loc 3).trans rfl; have z4 : w5.cell? ⟨B, 4, none⟩ = some (.int .i64 _) := (blk_cell HL5.out.loc 4).trans rfl; have z5 : w5.cell? ⟨B, 5, none⟩ = some (sl) := (blk_cell HL5.out.loc 5).trans rfl))
          exact bodyPost_ret (v := .tuple #[.bool false, .int .i64 0]) (by simp [results, Try.results44, go_sem]) rfl ⟨by rw [HQ.out], HL5.out.q.below⟩
        · obtain rfl : en = true := by rw [← HD.out.2]; rfl
          cases yes
          · skip
            have hq : q = (false, 54) := by rw [← HD.out.1]; unfold doneF; dsimp only; rw [HD.out.2]; simp []
            have HQ := Aside0.mk hq
            clear hq
            go_wp2_with (first
              | (go_at_call 70; clear y0 y3 y4 y7 z0 z1 z2 z3 z4 z5; refine (RE.out _).mono ?_; rintro e w5 ⟨rfl, hb⟩; have HL5 := Aside0.mk (HL4.out.move hb); clear hb HL4; have y4 : w5.cell? ⟨w.heap.size, 4, none⟩ = some (.int .i64 place) := (blk_cell HL5.out.q.box 4).trans rfl; have z0 : w5.cell? ⟨B, 0, none⟩ = some (.string _) := (blk_cell HL5.out.loc 0).trans rfl; have z1 : w5.cell? ⟨B, 1, none⟩ = some (.int .i64 _) := (blk_cell HL5.out.loc 1).trans rfl; have z2 : w5.cell? ⟨B, 2, none⟩ = some (.int .i64 _) := (blk_cell HL5.out.loc 2).trans rfl; have z3 : w5.cell? ⟨B, 3, none⟩ = some (.int .i64 _) := (blk_cell HL5.out.loc 3).trans rfl; have z4 : w5.cell? ⟨B, 4, none⟩ = some (.int .i64 _) := (blk_cell HL5.out.loc 4).trans rfl; have z5 : w5.cell? ⟨B, 5, none⟩ = some (sl) := (blk_cell HL5.out.loc 5).trans rfl))
            exact bodyPost_ret (v := .tuple #[.bool false, .int .i64 54]) (by simp [results, Try.results44, go_sem]) rfl ⟨by rw [HQ.out], HL5.out.q.below⟩
          · skip
            have hq : q = (true, 0) := by rw [← HD.out.1]; unfold doneF; dsimp only; rw [HD.out.2]; simp []
            have HQ := Aside0.mk hq
            clear hq
            go_wp2_with fail
            exact bodyPost_ret (v := .tuple #[.bool true, .int .i64 0]) (by simp [results, Try.results44, go_sem]) rfl ⟨by rw [HQ.out], HL4.out.q.below⟩
        · obtain rfl : en = true := by rw [← HD.out.2]; rfl
          cases yes
          · skip
            have hq : q = (true, 0) := by rw [← HD.out.1]; unfold doneF; dsimp only; rw [HD.out.2]; simp []
            have HQ := Aside0.mk hq
            clear hq
            go_wp2_with fail
            exact bodyPost_ret (v := .tuple #[.bool true, .int .i64 0]) (by simp [results, Try.results44, go_sem]) rfl ⟨by rw [HQ.out], HL4.out.q.below⟩
          · skip
            have hq : q = (false, 54) := by rw [← HD.out.1]; unfold doneF; dsimp only; rw [HD.out.2]; simp []
            have HQ := Aside0.mk hq
            clear hq
            go_wp2_with (first
              | (go_at_call 70; clear y0 y3 y4 y7 z0 z1 z2 z3 z4 z5; refine (RE.out _).mono ?_; rintro e w5 ⟨rfl, hb⟩; have HL5 := Aside0.mk (HL4.out.move hb); clear hb HL4; have y4 : w5.cell? ⟨w.heap.size, 4, none⟩ = some (.int .i64 place) := (blk_cell HL5.out.q.box 4).trans rfl; have z0 : w5.cell? ⟨B, 0, none⟩ = some (.string _) := (blk_cell HL5.out.loc 0).trans rfl; have z1 : w5.cell? ⟨B, 1, none⟩ = some (.int .i64 _) := (blk_cell HL5.out.loc 1).trans rfl; have z2 : w5.cell? ⟨B, 2, none⟩ = some (.int .i64 _) := (blk_cell HL5.out.loc 2).trans rfl; have z3 : w5.cell? ⟨B, 3, none⟩ = some (.int .i64 _) := (blk_cell HL5.out.loc 3).trans rfl; have z4 : w5.cell? ⟨B, 4, none⟩ = some (.int .i64 _) := (blk_cell HL5.out.loc 4).trans rfl; have z5 : w5.cell? ⟨B, 5, none⟩ = some (sl) := (blk_cell HL5.out.loc 5).trans rfl))
            exact bodyPost_ret (v := .tuple #[.bool false, .int .i64 54]) (by simp [results, Try.results44, go_sem]) rfl ⟨by rw [HQ.out], HL5.out.q.below⟩
      · cases en
        · skip
          have hq : q = (true, 0) := by rw [← HD.out.1]; unfold doneF; dsimp only; rw [HD.out.2]; simp []
          have HQ := Aside0.mk hq
          clear hq
          go_wp2_with (first
            | (go_at_call 70; clear y0 y3 y4 y7 z0 z1 z2 z3 z4 z5; refine (RE.out _).mono ?_; rintro e w5 ⟨rfl, hb⟩; have HL5 := Aside0.mk (HL4.out.move hb); clear hb HL4; have y4 : w5.cell? ⟨w.heap.size, 4, none⟩ = some (.int .i64 place) := (blk_cell HL5.out.q.box 4).trans rfl; have z0 : w5.cell? ⟨B, 0, none⟩ = some (.string _) := (blk_cell HL5.out.loc 0).trans rfl; have z1 : w5.cell? ⟨B, 1, none⟩ = some (.int .i64 _) := (blk_cell HL5.out.loc 1).trans rfl; have z2 : w5.cell? ⟨B, 2, none⟩ = some (.int .i64 _) := (blk_cell HL5.out.loc 2).trans rfl; have z3 : w5.cell? ⟨B, 3, none⟩ = some (.int .i64 _) := (blk_cell HL5.out.loc 3).trans rfl; have z4 : w5.cell? ⟨B, 4, none⟩ = some (.int .i64 _) := (blk_cell HL5.out.loc 4).trans rfl; have z5 : w5.cell? ⟨B, 5, none⟩ = some (sl) := (blk_cell HL5.out.loc 5).trans rfl))
          exact bodyPost_ret (v := .tuple #[.bool true, .int .i64 0]) (by simp [results, Try.results44, go_sem]) rfl ⟨by rw [HQ.out], HL5.out.q.below⟩
        · by_cases hm : place ∈ pl
          · rw [decide_eq_true hm] at RH
            have HM := Aside0.mk hm
            clear hm
            have hq : q = (false, 0) := by rw [← HD.out.1]; unfold doneF; dsimp only; rw [HD.out.2]; simp [HM.out]
            have HQ := Aside0.mk hq
            clear hq
            go_wp2_with (first
              | (go_at_call 70; clear y0 y3 y4 y7 z0 z1 z2 z3 z4 z5; refine (RE.out _).mono ?_; rintro e w5 ⟨rfl, hb⟩; have HL5 := Aside0.mk (HL4.out.move hb); clear hb HL4; have y4 : w5.cell? ⟨w.heap.size, 4, none⟩ = some (.int .i64 place) := (blk_cell HL5.out.q.box 4).trans rfl; have z0 : w5.cell? ⟨B, 0, none⟩ = some (.string _) := (blk_cell HL5.out.loc 0).trans rfl; have z1 : w5.cell? ⟨B, 1, none⟩ = some (.int .i64 _) := (blk_cell HL5.out.loc 1).trans rfl; have z2 : w5.cell? ⟨B, 2, none⟩ = some (.int .i64 _) := (blk_cell HL5.out.loc 2).trans rfl; have z3 : w5.cell? ⟨B, 3, none⟩ = some (.int .i64 _) := (blk_cell HL5.out.loc 3).trans rfl; have z4 : w5.cell? ⟨B, 4, none⟩ = some (.int .i64 _) := (blk_cell HL5.out.loc 4).trans rfl; have z5 : w5.cell? ⟨B, 5, none⟩ = some (sl) := (blk_cell HL5.out.loc 5).trans rfl)
              | (go_at_call 72; clear y4 z0 z1 z2 z3 z4 z5; refine (RH.out B _ HL5.out).mono ?_; rintro e w6 ⟨rfl, hb⟩; have HL6 := Aside0.mk (HL5.out.move hb); clear hb HL5; have z5 : w6.cell? ⟨B, 5, none⟩ = some (sl) := (blk_cell HL6.out.loc 5).trans rfl; rw [HV.out] at z5))
            exact bodyPost_ret (v := .tuple #[.bool false, .int .i64 0]) (by simp [results, Try.results44, go_sem]) rfl ⟨by rw [HQ.out], HL6.out.q.below⟩
          · rw [decide_eq_false hm] at RH
            have HM := Aside0.mk hm
            clear hm
            have hq : q = (true, 0) := by rw [← HD.out.1]; unfold doneF; dsimp only; rw [HD.out.2]; simp [HM.out]
            have HQ := Aside0.mk hq
            clear hq
            go_wp2_with (first
              | (go_at_call 70; clear y0 y3 y4 y7 z0 z1 z2 z3 z4 z5; refine (RE.out _).mono ?_; rintro e w5 ⟨rfl, hb⟩; have HL5 := Aside0.mk (HL4.out.move hb); clear hb HL4; have y4 : w5.cell? ⟨w.heap.size, 4, none⟩ = some (.int .i64 place) := (blk_cell HL5.out.q.box 4).trans rfl; have z0 : w5.cell? ⟨B, 0, none⟩ = some (.string _) := (blk_cell HL5.out.loc 0).trans rfl; have z1 : w5.cell? ⟨B, 1, none⟩ = some (.int .i64 _) := (blk_cell HL5.out.loc 1).trans rfl; have z2 : w5.cell? ⟨B, 2, none⟩ = some (.int .i64 _) := (blk_cell HL5.out.loc 2).trans rfl; have z3 : w5.cell? ⟨B, 3, none⟩ = some (.int .i64 _) := (blk_cell HL5.out.loc 3).trans rfl; have z4 : w5.cell? ⟨B, 4, none⟩ = some (.int .i64 _) := (blk_cell HL5.out.loc 4).trans rfl; have z5 : w5.cell? ⟨B, 5, none⟩ = some (sl) := (blk_cell HL5.out.loc 5).trans rfl)
              | (go_at_call 72; clear y4 z0 z1 z2 z3 z4 z5; refine (RH.out B _ HL5.out).mono ?_; rintro e w6 ⟨rfl, hb⟩; have HL6 := Aside0.mk (HL5.out.move hb); clear hb HL5; have z5 : w6.cell? ⟨B, 5, none⟩ = some (sl) := (blk_cell HL6.out.loc 5).trans rfl; rw [HV.out] at z5))
            exact bodyPost_ret (v := .tuple #[.bool true, .int .i64 0]) (by simp [results, Try.results44, go_sem]) rfl ⟨by rw [HQ.out], HL6.out.q.below⟩
    · have hq : q = (false, 50) := by rw [← HD.out.1]; unfold doneF; rw [if_pos hep]
      have HQ := Aside0.mk hq
      clear hq
      have hep' : (ep != epoch) = true := bne_iff_ne.2 hep
      go_wp2_with fail
      exact bodyPost_ret (v := .tuple #[.bool false, .int .i64 50]) (by simp [results, Try.results44, go_sem]) rfl ⟨by rw [HQ.out], HL4.out.q.below⟩
set_option maxHeartbeats 3200000 in
set_option maxRecDepth 100000 in
theorem rdecide_c (h : RB own gb rs w) (hg : Good (psOf rs)) (x : EvV) : Calls Try.prog 44 #[.pointer (some ⟨gb, 0, none⟩), evE x] w fun e w' => e = .returned (.tuple #[.bool (decideF (psOf rs) x).1, .int .i64 (decideF (psOf rs) x).2]) ∧ Below w.heap.size w w' := by
  have hgd : ∀ r ∈ rs, GoodP r.1 := fun r hr => hg.each _ (List.mem_map.2 ⟨r, hr, rfl⟩)
  cases hr : rightE x with
  | false => exact rdecideN_c h x hr
  | true =>
    by_cases h1 : x.kind = 1
    · exact rdecide1_c h x h1 hr
    by_cases h5 : x.kind = 5
    · exact rdecide5_c h hgd x h5 hr
    · exact rdecideP_c h hgd x h1 h5 hr
end Go.Proofs.Ytofegigbhohebaa.Hand
