/- The document's Apply. -/
import Derived.Test.YtofegigbhohebaaTE7
namespace Go.Proofs.Ytofegigbhohebaa.Hand
open Go.RowKit Go.Proofs.Ytofegigbhohebaa Go.Proofs.YtofegigbhohebaaW.PrintWords Go.Proofs.YtofegigbhohebaaW.PrintLast
set_option linter.unusedVariables false
set_option linter.unusedSimpArgs false
variable {own : Nat → Prop} {gb : Nat} {rs : List RP} {w w' : World}
theorem ending_ps {x : EvV} {k g c : Nat} {cur0 cur : Array Value} {r : RP} {w0 wq w : World} (h : RW own gb rs x k g c cur0 cur r w0 wq w) : ∃ A c', r.2 = .slice A r.1.places.length c' ∧ r.1.places.length ≤ c' ∧ Kd.C (Kd.int .i64) w A r.1.places.length r.1.places := by
  obtain ⟨A, c', hv⟩ := Kd.R_slice h.pv
  have := Kd.R_reads' (hv ▸ h.pv)
  exact ⟨A, c', hv, this.2.1, this.2.2⟩
/-- A producer is told to end. -/
theorem RW.ending {x : EvV} {k g c : Nat} {cur0 cur : Array Value} {r : RP} {w0 wq w : World} (h : RW own gb rs x k g c cur0 cur r w0 wq w) (st : Int) : Calls Try.prog 73 #[.pointer (some ⟨g, k * 6, none⟩), .int .i64 st] w fun e w' => e = .returned (.tuple #[]) ∧ ∃ cur', RW own gb rs x k g c cur0 cur' (endP r.1 st, r.2) w0 wq w' := by
  obtain ⟨A, c', hv, -, -⟩ := ending_ps h
  refine (rending_c g (k * 6) cur0 cur r A c' st w h.now h.pu hv).mono ?_
  rintro e w' ⟨rfl, cur', h1, h2, h3, -⟩
  exact ⟨rfl, cur', h.call h1 h2 h3 rfl rfl⟩
theorem RW.remove {x : EvV} {k g c : Nat} {cur0 cur : Array Value} {r : RP} {w0 wq w : World} (h : RW own gb rs x k g c cur0 cur r w0 wq w) (hl : r.1.places.length ≤ 100) (y : Int) : Calls Try.prog 75 #[.pointer (some ⟨g, k * 6, none⟩), .int .i64 y] w fun e w' => e = .returned (.tuple #[]) ∧ ∃ cur' v', RW own gb rs x k g c cur0 cur' ({ r.1 with places := r.1.places.filter fun n => !decide (n = y) }, v') w0 wq w' := by
  obtain ⟨A, c', hv, -, hr⟩ := ending_ps h
  refine (rremove_c g (k * 6) cur0 cur r A c' y w h.now h.pu hv hr hl).mono ?_
  rintro e w' ⟨rfl, cur', v', h1, h2, h3, h4⟩
  exact ⟨rfl, cur', v', h.callNew h1 h2 h3 h4⟩
theorem RW.add {x : EvV} {k g c : Nat} {cur0 cur : Array Value} {r : RP} {w0 wq w : World} (h : RW own gb rs x k g c cur0 cur r w0 wq w) (hl : r.1.places.length ≤ 100) (hs : r.1.places.Pairwise (· < ·)) (y : Int) : Calls Try.prog 74 #[.pointer (some ⟨g, k * 6, none⟩), .int .i64 y] w fun e w' => e = .returned (.tuple #[]) ∧ ∃ cur' v', RW own gb rs x k g c cur0 cur' ({ r.1 with places := insertF r.1.places y }, v') w0 wq w' := by
  obtain ⟨A, c', hv, hc, hr⟩ := ending_ps h
  refine (radd_c g (k * 6) cur0 cur r A c' y w h.now h.pu hv hc hr hl hs).mono ?_
  rintro e w' ⟨rfl, cur', v', h1, h2, h3, h4⟩
  exact ⟨rfl, cur', v', h.callNew h1 h2 h3 h4⟩
set_option maxHeartbeats 3200000 in
set_option maxRecDepth 100000 in
theorem rapplyS_c (h : RB own gb rs w) (hg : Good (psOf rs)) (x : EvV) (hs : (decideF (psOf rs) x).2 ≠ 0 ∨ (decideF (psOf rs) x).1 = true) : Calls Try.prog 45 #[.pointer (some ⟨gb, 0, none⟩), evE x] w fun e w' => e = .returned (.int .i64 (decideF (psOf rs) x).2) ∧ DoR own gb (applyF (psOf rs) x) w w' := by
  have hap : applyF (psOf rs) x = psOf rs := by unfold applyF; rw [if_pos hs]
  rw [hap]
  have HQ := Aside0.mk (RQ.start h x)
  have HDE := Aside0.mk (fun (W : World) (h : RQ own gb rs x w W) => rdecide_c h.rb hg x)
  have HGD := Aside0.mk hg
  obtain ⟨⟨d, n⟩, hd⟩ : ∃ q, decideF (psOf rs) x = q := ⟨_, rfl⟩
  rw [hd] at HDE hs ⊢
  have HH := Aside0.mk h
  clear hap hd h hg
  obtain ⟨kind, name, producer, epoch, place, timeout, now, yes⟩ := x
  unfold evE at HDE ⊢
  dsimp only at HDE ⊢
  have y0 : (w.alloc (.cells #[.int .i64 kind, .string name, .int .i64 producer, .int .i64 epoch, .int .i64 place, .int .i64 timeout, .int .i64 now, .bool yes] 35 (0, 0))).cell? ⟨w.heap.size, 0, none⟩ = some (.int .i64 kind) := (blk_cell HQ.out.box 0).trans rfl
  have y1 : (w.alloc (.cells #[.int .i64 kind, .string name, .int .i64 producer, .int .i64 epoch, .int .i64 place, .int .i64 timeout, .int .i64 now, .bool yes] 35 (0, 0))).cell? ⟨w.heap.size, 1, none⟩ = some (.string name) := (blk_cell HQ.out.box 1).trans rfl
  have y2 : (w.alloc (.cells #[.int .i64 kind, .string name, .int .i64 producer, .int .i64 epoch, .int .i64 place, .int .i64 timeout, .int .i64 now, .bool yes] 35 (0, 0))).cell? ⟨w.heap.size, 2, none⟩ = some (.int .i64 producer) := (blk_cell HQ.out.box 2).trans rfl
  have y3 : (w.alloc (.cells #[.int .i64 kind, .string name, .int .i64 producer, .int .i64 epoch, .int .i64 place, .int .i64 timeout, .int .i64 now, .bool yes] 35 (0, 0))).cell? ⟨w.heap.size, 3, none⟩ = some (.int .i64 epoch) := (blk_cell HQ.out.box 3).trans rfl
  have y4 : (w.alloc (.cells #[.int .i64 kind, .string name, .int .i64 producer, .int .i64 epoch, .int .i64 place, .int .i64 timeout, .int .i64 now, .bool yes] 35 (0, 0))).cell? ⟨w.heap.size, 4, none⟩ = some (.int .i64 place) := (blk_cell HQ.out.box 4).trans rfl
  have y5 : (w.alloc (.cells #[.int .i64 kind, .string name, .int .i64 producer, .int .i64 epoch, .int .i64 place, .int .i64 timeout, .int .i64 now, .bool yes] 35 (0, 0))).cell? ⟨w.heap.size, 5, none⟩ = some (.int .i64 timeout) := (blk_cell HQ.out.box 5).trans rfl
  have y6 : (w.alloc (.cells #[.int .i64 kind, .string name, .int .i64 producer, .int .i64 epoch, .int .i64 place, .int .i64 timeout, .int .i64 now, .bool yes] 35 (0, 0))).cell? ⟨w.heap.size, 6, none⟩ = some (.int .i64 now) := (blk_cell HQ.out.box 6).trans rfl
  have y7 : (w.alloc (.cells #[.int .i64 kind, .string name, .int .i64 producer, .int .i64 epoch, .int .i64 place, .int .i64 timeout, .int .i64 now, .bool yes] 35 (0, 0))).cell? ⟨w.heap.size, 7, none⟩ = some (.bool yes) := (blk_cell HQ.out.box 7).trans rfl
  unfold evA at HQ
  dsimp only at HQ hs
  by_cases hn : n = 0
  · obtain rfl : d = true := by rcases hs with h | h; exact absurd hn h; exact h
    subst hn
    clear hs
    go_enter Try.func45, Try.ntmps45
    go_wp2_with (go_at_call 44; clear y0 y1 y2 y3 y4 y5 y6 y7; refine (HDE.out _ HQ.out).mono ?_; rintro e w2 ⟨rfl, hb⟩; have HQ2 := Aside0.mk (HQ.out.move hb); clear hb HQ HDE)
    exact bodyPost_ret (v := .int .i64 0) (by simp [results, Try.results45, go_sem]) rfl ⟨rfl, DoR.same HH.out HQ2.out.below⟩
  · have hn' : (n != 0) = true := bne_iff_ne.2 hn
    clear hs
    go_enter Try.func45, Try.ntmps45
    go_wp2_with (go_at_call 44; clear y0 y1 y2 y3 y4 y5 y6 y7; refine (HDE.out _ HQ.out).mono ?_; rintro e w2 ⟨rfl, hb⟩; have HQ2 := Aside0.mk (HQ.out.move hb); clear hb HQ HDE)
    exact bodyPost_ret (v := .int .i64 n) (by simp [results, Try.results45, go_sem]) rfl ⟨rfl, DoR.same HH.out HQ2.out.below⟩
theorem okP {ps : List ProdV} {x : EvV} (h1 : x.kind ≠ 1) (h5 : x.kind ≠ 5) (hd : decideF ps x = (false, 0)) : rightE x = true ∧ 0 ≤ x.producer ∧ x.producer < ps.length ∧ doneF (prodAt ps x.producer) x = (false, 0) := by
  have hr : rightE x = true := by
    cases hr : rightE x with
    | true => rfl
    | false => unfold decideF at hd; rw [hr] at hd; simp at hd
  unfold decideF at hd
  rw [hr, if_pos rfl, if_neg h1, if_neg h5] at hd
  by_cases hl : (ps.length : Int) ≤ x.producer
  · rw [if_pos hl] at hd
    simp at hd
  · rw [if_neg hl] at hd
    exact ⟨hr, (right_in hr).1.1, by omega, hd⟩
set_option maxHeartbeats 3200000 in
set_option maxRecDepth 100000 in
theorem rapply3_c (h : RB own gb rs w) (hg : Good (psOf rs)) (x : EvV) (hk : x.kind = 3) (hd : decideF (psOf rs) x = (false, 0)) : Calls Try.prog 45 #[.pointer (some ⟨gb, 0, none⟩), evE x] w fun e w' => e = .returned (.int .i64 (decideF (psOf rs) x).2) ∧ DoR own gb (applyF (psOf rs) x) w w' := by
  obtain ⟨hr, hp0, hp1, hdn⟩ := okP (by omega) (by omega) hd
  rw [psOf_len] at hp1
  have hap : applyF (psOf rs) x = doesF (psOf rs) x := by unfold applyF; rw [hd, if_neg (by simp)]
  rw [hap]
  have HQ := Aside0.mk (RQ.start h x)
  have HDE := Aside0.mk (fun (W : World) (h : RQ own gb rs x w W) => rdecide_c h.rb hg x)
  have HGD := Aside0.mk hg
  rw [hd] at HDE ⊢
  clear hap hd
  have hmax := h.len
  obtain ⟨kind, name, producer, epoch, place, timeout, now, yes⟩ := x
  unfold evE at HDE ⊢
  dsimp only at HDE hk hp0 hp1 hdn ⊢
  subst hk
  obtain ⟨k, rfl⟩ := Int.eq_ofNat_of_zero_le hp0
  have hkl : k < rs.length := by omega
  obtain ⟨⟨⟨nm, tm, ep, st, si, pl⟩, sl⟩, hrk⟩ : ∃ r, rs[k]? = some r := ⟨_, List.getElem?_eq_getElem hkl⟩
  have hpa : prodAt (psOf rs) (k : Int) = ⟨nm, tm, ep, st, si, pl⟩ := by unfold prodAt; rw [Int.toNat_natCast, psOf_at hrk]
  rw [hpa] at hdn
  have hgp := hg.each _ (List.mem_map.2 ⟨_, List.mem_iff_getElem?.2 ⟨k, hrk⟩, rfl⟩)
  dsimp only at hgp
  have hdo : doesF (psOf rs) ⟨3, name, (k : Int), epoch, place, timeout, now, yes⟩ = (psOf rs).set k (endP ⟨nm, tm, ep, st, si, pl⟩ (if yes = true then 2 else 3)) := by
    unfold doesF
    simp only [hpa, Int.toNat_natCast]
    rfl
  rw [hdo]
  have HRK := Aside0.mk hrk
  have HGP := Aside0.mk hgp
  clear hdo hpa h hg hr hgp hp0 hp1
  have y0 : (w.alloc (.cells #[.int .i64 3, .string name, .int .i64 (k : Int), .int .i64 epoch, .int .i64 place, .int .i64 timeout, .int .i64 now, .bool yes] 35 (0, 0))).cell? ⟨w.heap.size, 0, none⟩ = some (.int .i64 3) := (blk_cell HQ.out.box 0).trans rfl
  have y1 : (w.alloc (.cells #[.int .i64 3, .string name, .int .i64 (k : Int), .int .i64 epoch, .int .i64 place, .int .i64 timeout, .int .i64 now, .bool yes] 35 (0, 0))).cell? ⟨w.heap.size, 1, none⟩ = some (.string name) := (blk_cell HQ.out.box 1).trans rfl
  have y2 : (w.alloc (.cells #[.int .i64 3, .string name, .int .i64 (k : Int), .int .i64 epoch, .int .i64 place, .int .i64 timeout, .int .i64 now, .bool yes] 35 (0, 0))).cell? ⟨w.heap.size, 2, none⟩ = some (.int .i64 (k : Int)) := (blk_cell HQ.out.box 2).trans rfl
  have y3 : (w.alloc (.cells #[.int .i64 3, .string name, .int .i64 (k : Int), .int .i64 epoch, .int .i64 place, .int .i64 timeout, .int .i64 now, .bool yes] 35 (0, 0))).cell? ⟨w.heap.size, 3, none⟩ = some (.int .i64 epoch) := (blk_cell HQ.out.box 3).trans rfl
  have y4 : (w.alloc (.cells #[.int .i64 3, .string name, .int .i64 (k : Int), .int .i64 epoch, .int .i64 place, .int .i64 timeout, .int .i64 now, .bool yes] 35 (0, 0))).cell? ⟨w.heap.size, 4, none⟩ = some (.int .i64 place) := (blk_cell HQ.out.box 4).trans rfl
  have y5 : (w.alloc (.cells #[.int .i64 3, .string name, .int .i64 (k : Int), .int .i64 epoch, .int .i64 place, .int .i64 timeout, .int .i64 now, .bool yes] 35 (0, 0))).cell? ⟨w.heap.size, 5, none⟩ = some (.int .i64 timeout) := (blk_cell HQ.out.box 5).trans rfl
  have y6 : (w.alloc (.cells #[.int .i64 3, .string name, .int .i64 (k : Int), .int .i64 epoch, .int .i64 place, .int .i64 timeout, .int .i64 now, .bool yes] 35 (0, 0))).cell? ⟨w.heap.size, 6, none⟩ = some (.int .i64 now) := (blk_cell HQ.out.box 6).trans rfl
  have y7 : (w.alloc (.cells #[.int .i64 3, .string name, .int .i64 (k : Int), .int .i64 epoch, .int .i64 place, .int .i64 timeout, .int .i64 now, .bool yes] 35 (0, 0))).cell? ⟨w.heap.size, 7, none⟩ = some (.bool yes) := (blk_cell HQ.out.box 7).trans rfl
  unfold evA at HQ
  dsimp only at HQ
  have hkr : (k : Int) < (rs.length : Int) := by omega
  clear hdn
  cases yes
  · go_enter Try.func45, Try.ntmps45
    go_wp2_with (first
      | (go_at_call 44; clear y0 y1 y2 y3 y4 y5 y6 y7; refine (HDE.out _ HQ.out).mono ?_; rintro e w2 ⟨rfl, hb⟩; have HQ2 := Aside0.mk (HQ.out.move hb); clear hb HQ HDE; obtain ⟨g, c, cur0, hw⟩ := RW.start HQ2.out k _ hrk; have HW2 := Aside0.mk hw; clear hw; have b0 : w2.cell? ⟨gb, 0, none⟩ = some (.slice (some ⟨g, 0, none⟩) rs.length c) := (blk_cell HW2.out.bk' 0).trans rfl; have y0 : (w2).cell? ⟨w.heap.size, 0, none⟩ = some (.int .i64 3) := (blk_cell HW2.out.box 0).trans rfl; have y2 : (w2).cell? ⟨w.heap.size, 2, none⟩ = some (.int .i64 (k : Int)) := (blk_cell HW2.out.box 2).trans rfl; have y7 : (w2).cell? ⟨w.heap.size, 7, none⟩ = some (.bool false) := (blk_cell HW2.out.box 7).trans rfl)
      | (go_at_call 73; refine (HW2.out.ending 3).mono ?_; rintro e w3 ⟨rfl, cur3, hw⟩; have HW3 := Aside0.mk hw; clear hw))
    exact bodyPost_ret (v := .int .i64 0) (by simp [results, Try.results45, go_sem]) rfl ⟨rfl, HW3.out.done HRK.out⟩
  · go_enter Try.func45, Try.ntmps45
    go_wp2_with (first
      | (go_at_call 44; clear y0 y1 y2 y3 y4 y5 y6 y7; refine (HDE.out _ HQ.out).mono ?_; rintro e w2 ⟨rfl, hb⟩; have HQ2 := Aside0.mk (HQ.out.move hb); clear hb HQ HDE; obtain ⟨g, c, cur0, hw⟩ := RW.start HQ2.out k _ hrk; have HW2 := Aside0.mk hw; clear hw; have b0 : w2.cell? ⟨gb, 0, none⟩ = some (.slice (some ⟨g, 0, none⟩) rs.length c) := (blk_cell HW2.out.bk' 0).trans rfl; have y0 : (w2).cell? ⟨w.heap.size, 0, none⟩ = some (.int .i64 3) := (blk_cell HW2.out.box 0).trans rfl; have y2 : (w2).cell? ⟨w.heap.size, 2, none⟩ = some (.int .i64 (k : Int)) := (blk_cell HW2.out.box 2).trans rfl; have y7 : (w2).cell? ⟨w.heap.size, 7, none⟩ = some (.bool true) := (blk_cell HW2.out.box 7).trans rfl)
      | (go_at_call 73; refine (HW2.out.ending 2).mono ?_; rintro e w3 ⟨rfl, cur3, hw⟩; have HW3 := Aside0.mk hw; clear hw))
    exact bodyPost_ret (v := .int .i64 0) (by simp [results, Try.results45, go_sem]) rfl ⟨rfl, HW3.out.done HRK.out⟩
set_option maxHeartbeats 3200000 in
set_option maxRecDepth 100000 in
theorem rapply4_c (h : RB own gb rs w) (hg : Good (psOf rs)) (x : EvV) (hk : x.kind = 4) (hd : decideF (psOf rs) x = (false, 0)) : Calls Try.prog 45 #[.pointer (some ⟨gb, 0, none⟩), evE x] w fun e w' => e = .returned (.int .i64 (decideF (psOf rs) x).2) ∧ DoR own gb (applyF (psOf rs) x) w w' := by
  obtain ⟨hr, hp0, hp1, hdn⟩ := okP (by omega) (by omega) hd
  rw [psOf_len] at hp1
  have hap : applyF (psOf rs) x = doesF (psOf rs) x := by unfold applyF; rw [hd, if_neg (by simp)]
  rw [hap]
  have HQ := Aside0.mk (RQ.start h x)
  have HDE := Aside0.mk (fun (W : World) (h : RQ own gb rs x w W) => rdecide_c h.rb hg x)
  have HGD := Aside0.mk hg
  rw [hd] at HDE ⊢
  clear hap hd
  have hmax := h.len
  obtain ⟨kind, name, producer, epoch, place, timeout, now, yes⟩ := x
  unfold evE at HDE ⊢
  dsimp only at HDE hk hp0 hp1 hdn ⊢
  subst hk
  obtain ⟨k, rfl⟩ := Int.eq_ofNat_of_zero_le hp0
  have hkl : k < rs.length := by omega
  obtain ⟨⟨⟨nm, tm, ep, st, si, pl⟩, sl⟩, hrk⟩ : ∃ r, rs[k]? = some r := ⟨_, List.getElem?_eq_getElem hkl⟩
  have hpa : prodAt (psOf rs) (k : Int) = ⟨nm, tm, ep, st, si, pl⟩ := by unfold prodAt; rw [Int.toNat_natCast, psOf_at hrk]
  rw [hpa] at hdn
  have hgp := hg.each _ (List.mem_map.2 ⟨_, List.mem_iff_getElem?.2 ⟨k, hrk⟩, rfl⟩)
  dsimp only at hgp
  have hdo : doesF (psOf rs) ⟨4, name, (k : Int), epoch, place, timeout, now, yes⟩ = (psOf rs).set k (markP ⟨nm, tm, ep, st, si, pl⟩ ⟨4, name, (k : Int), epoch, place, timeout, now, yes⟩) := by
    unfold doesF
    simp only [hpa, Int.toNat_natCast]
    rfl
  rw [hdo]
  have HRK := Aside0.mk hrk
  have HGP := Aside0.mk hgp
  clear hdo hpa h hg hr hgp hp0 hp1
  have y0 : (w.alloc (.cells #[.int .i64 4, .string name, .int .i64 (k : Int), .int .i64 epoch, .int .i64 place, .int .i64 timeout, .int .i64 now, .bool yes] 35 (0, 0))).cell? ⟨w.heap.size, 0, none⟩ = some (.int .i64 4) := (blk_cell HQ.out.box 0).trans rfl
  have y1 : (w.alloc (.cells #[.int .i64 4, .string name, .int .i64 (k : Int), .int .i64 epoch, .int .i64 place, .int .i64 timeout, .int .i64 now, .bool yes] 35 (0, 0))).cell? ⟨w.heap.size, 1, none⟩ = some (.string name) := (blk_cell HQ.out.box 1).trans rfl
  have y2 : (w.alloc (.cells #[.int .i64 4, .string name, .int .i64 (k : Int), .int .i64 epoch, .int .i64 place, .int .i64 timeout, .int .i64 now, .bool yes] 35 (0, 0))).cell? ⟨w.heap.size, 2, none⟩ = some (.int .i64 (k : Int)) := (blk_cell HQ.out.box 2).trans rfl
  have y3 : (w.alloc (.cells #[.int .i64 4, .string name, .int .i64 (k : Int), .int .i64 epoch, .int .i64 place, .int .i64 timeout, .int .i64 now, .bool yes] 35 (0, 0))).cell? ⟨w.heap.size, 3, none⟩ = some (.int .i64 epoch) := (blk_cell HQ.out.box 3).trans rfl
  have y4 : (w.alloc (.cells #[.int .i64 4, .string name, .int .i64 (k : Int), .int .i64 epoch, .int .i64 place, .int .i64 timeout, .int .i64 now, .bool yes] 35 (0, 0))).cell? ⟨w.heap.size, 4, none⟩ = some (.int .i64 place) := (blk_cell HQ.out.box 4).trans rfl
  have y5 : (w.alloc (.cells #[.int .i64 4, .string name, .int .i64 (k : Int), .int .i64 epoch, .int .i64 place, .int .i64 timeout, .int .i64 now, .bool yes] 35 (0, 0))).cell? ⟨w.heap.size, 5, none⟩ = some (.int .i64 timeout) := (blk_cell HQ.out.box 5).trans rfl
  have y6 : (w.alloc (.cells #[.int .i64 4, .string name, .int .i64 (k : Int), .int .i64 epoch, .int .i64 place, .int .i64 timeout, .int .i64 now, .bool yes] 35 (0, 0))).cell? ⟨w.heap.size, 6, none⟩ = some (.int .i64 now) := (blk_cell HQ.out.box 6).trans rfl
  have y7 : (w.alloc (.cells #[.int .i64 4, .string name, .int .i64 (k : Int), .int .i64 epoch, .int .i64 place, .int .i64 timeout, .int .i64 now, .bool yes] 35 (0, 0))).cell? ⟨w.heap.size, 7, none⟩ = some (.bool yes) := (blk_cell HQ.out.box 7).trans rfl
  unfold evA at HQ
  dsimp only at HQ
  have hkr : (k : Int) < (rs.length : Int) := by omega
  clear hdn
  go_enter Try.func45, Try.ntmps45
  go_wp2_with (first
    | (go_at_call 44; clear y0 y1 y2 y3 y4 y5 y6 y7; refine (HDE.out _ HQ.out).mono ?_; rintro e w2 ⟨rfl, hb⟩; have HQ2 := Aside0.mk (HQ.out.move hb); clear hb HQ HDE; obtain ⟨g, c, cur0, hw⟩ := RW.start HQ2.out k _ hrk; have HW2 := Aside0.mk hw; clear hw; have b0 : w2.cell? ⟨gb, 0, none⟩ = some (.slice (some ⟨g, 0, none⟩) rs.length c) := (blk_cell HW2.out.bk' 0).trans rfl; have y0 : (w2).cell? ⟨w.heap.size, 0, none⟩ = some (.int .i64 4) := (blk_cell HW2.out.box 0).trans rfl; have y2 : (w2).cell? ⟨w.heap.size, 2, none⟩ = some (.int .i64 (k : Int)) := (blk_cell HW2.out.box 2).trans rfl; have y4 : (w2).cell? ⟨w.heap.size, 4, none⟩ = some (.int .i64 place) := (blk_cell HW2.out.box 4).trans rfl)
    | (go_at_call 75; clear y0 y2 y4 b0; refine (HW2.out.remove HGP.out.len place).mono ?_; rintro e w3 ⟨rfl, cur3, v3, hw⟩; have HW3 := Aside0.mk hw; clear hw; have e3 : w3.cell? ⟨g, k * 6 + 3, none⟩ = some (.int .i64 _) := (blk_cell HW3.out.now (k * 6 + 3)).trans (HW3.out.pu.new 3 (by decide)))
    | (go_at_call 73; refine (HW3.out.ending st).mono ?_; rintro e w4 ⟨rfl, cur4, hw⟩; have HW4 := Aside0.mk hw; clear hw))
  exact bodyPost_ret (v := .int .i64 0) (by simp [results, Try.results45, go_sem]) rfl ⟨rfl, HW4.out.done HRK.out⟩
set_option maxHeartbeats 3200000 in
set_option maxRecDepth 100000 in
theorem rapply2_c (h : RB own gb rs w) (hg : Good (psOf rs)) (x : EvV) (hk : x.kind = 2) (hd : decideF (psOf rs) x = (false, 0)) : Calls Try.prog 45 #[.pointer (some ⟨gb, 0, none⟩), evE x] w fun e w' => e = .returned (.int .i64 (decideF (psOf rs) x).2) ∧ DoR own gb (applyF (psOf rs) x) w w' := by
  obtain ⟨hr, hp0, hp1, hdn⟩ := okP (by omega) (by omega) hd
  rw [psOf_len] at hp1
  have hap : applyF (psOf rs) x = doesF (psOf rs) x := by unfold applyF; rw [hd, if_neg (by simp)]
  rw [hap]
  have HQ := Aside0.mk (RQ.start h x)
  have HDE := Aside0.mk (fun (W : World) (h : RQ own gb rs x w W) => rdecide_c h.rb hg x)
  have HGD := Aside0.mk hg
  rw [hd] at HDE ⊢
  clear hap hd
  have hmax := h.len
  obtain ⟨kind, name, producer, epoch, place, timeout, now, yes⟩ := x
  unfold evE at HDE ⊢
  dsimp only at HDE hk hp0 hp1 hdn ⊢
  subst hk
  obtain ⟨k, rfl⟩ := Int.eq_ofNat_of_zero_le hp0
  have hkl : k < rs.length := by omega
  obtain ⟨⟨⟨nm, tm, ep, st, si, pl⟩, sl⟩, hrk⟩ : ∃ r, rs[k]? = some r := ⟨_, List.getElem?_eq_getElem hkl⟩
  have hpa : prodAt (psOf rs) (k : Int) = ⟨nm, tm, ep, st, si, pl⟩ := by unfold prodAt; rw [Int.toNat_natCast, psOf_at hrk]
  rw [hpa] at hdn
  have hgp := hg.each _ (List.mem_map.2 ⟨_, List.mem_iff_getElem?.2 ⟨k, hrk⟩, rfl⟩)
  dsimp only at hgp
  have hdo : doesF (psOf rs) ⟨2, name, (k : Int), epoch, place, timeout, now, yes⟩ = (psOf rs).set k (addP ⟨nm, tm, ep, st, si, pl⟩ ⟨2, name, (k : Int), epoch, place, timeout, now, yes⟩) := by
    unfold doesF
    simp only [hpa, Int.toNat_natCast]
    rfl
  rw [hdo]
  have HRK := Aside0.mk hrk
  have HGP := Aside0.mk hgp
  clear hdo hpa h hg hr hgp hp0 hp1
  have y0 : (w.alloc (.cells #[.int .i64 2, .string name, .int .i64 (k : Int), .int .i64 epoch, .int .i64 place, .int .i64 timeout, .int .i64 now, .bool yes] 35 (0, 0))).cell? ⟨w.heap.size, 0, none⟩ = some (.int .i64 2) := (blk_cell HQ.out.box 0).trans rfl
  have y1 : (w.alloc (.cells #[.int .i64 2, .string name, .int .i64 (k : Int), .int .i64 epoch, .int .i64 place, .int .i64 timeout, .int .i64 now, .bool yes] 35 (0, 0))).cell? ⟨w.heap.size, 1, none⟩ = some (.string name) := (blk_cell HQ.out.box 1).trans rfl
  have y2 : (w.alloc (.cells #[.int .i64 2, .string name, .int .i64 (k : Int), .int .i64 epoch, .int .i64 place, .int .i64 timeout, .int .i64 now, .bool yes] 35 (0, 0))).cell? ⟨w.heap.size, 2, none⟩ = some (.int .i64 (k : Int)) := (blk_cell HQ.out.box 2).trans rfl
  have y3 : (w.alloc (.cells #[.int .i64 2, .string name, .int .i64 (k : Int), .int .i64 epoch, .int .i64 place, .int .i64 timeout, .int .i64 now, .bool yes] 35 (0, 0))).cell? ⟨w.heap.size, 3, none⟩ = some (.int .i64 epoch) := (blk_cell HQ.out.box 3).trans rfl
  have y4 : (w.alloc (.cells #[.int .i64 2, .string name, .int .i64 (k : Int), .int .i64 epoch, .int .i64 place, .int .i64 timeout, .int .i64 now, .bool yes] 35 (0, 0))).cell? ⟨w.heap.size, 4, none⟩ = some (.int .i64 place) := (blk_cell HQ.out.box 4).trans rfl
  have y5 : (w.alloc (.cells #[.int .i64 2, .string name, .int .i64 (k : Int), .int .i64 epoch, .int .i64 place, .int .i64 timeout, .int .i64 now, .bool yes] 35 (0, 0))).cell? ⟨w.heap.size, 5, none⟩ = some (.int .i64 timeout) := (blk_cell HQ.out.box 5).trans rfl
  have y6 : (w.alloc (.cells #[.int .i64 2, .string name, .int .i64 (k : Int), .int .i64 epoch, .int .i64 place, .int .i64 timeout, .int .i64 now, .bool yes] 35 (0, 0))).cell? ⟨w.heap.size, 6, none⟩ = some (.int .i64 now) := (blk_cell HQ.out.box 6).trans rfl
  have y7 : (w.alloc (.cells #[.int .i64 2, .string name, .int .i64 (k : Int), .int .i64 epoch, .int .i64 place, .int .i64 timeout, .int .i64 now, .bool yes] 35 (0, 0))).cell? ⟨w.heap.size, 7, none⟩ = some (.bool yes) := (blk_cell HQ.out.box 7).trans rfl
  unfold evA at HQ
  dsimp only at HQ
  have hkr : (k : Int) < (rs.length : Int) := by omega
  have hpn : pl.length ≤ 100 := HGP.out.len
  have HPL := Aside0.mk hpn
  clear hdn hpn
  by_cases hst : st = 0
  · subst hst
    go_enter Try.func45, Try.ntmps45
    go_upto_region 30 with (go_at_call 44; clear y0 y1 y2 y3 y4 y5 y6 y7; refine (HDE.out _ HQ.out).mono ?_; rintro e w2 ⟨rfl, hb⟩; have HQ2 := Aside0.mk (HQ.out.move hb); clear hb HQ HDE; obtain ⟨g, c, cur0, hw⟩ := RW.start HQ2.out k _ hrk; have HW2 := Aside0.mk hw; clear hw; have b0 : w2.cell? ⟨gb, 0, none⟩ = some (.slice (some ⟨g, 0, none⟩) rs.length c) := (blk_cell HW2.out.bk' 0).trans rfl; have y0 : (w2).cell? ⟨w.heap.size, 0, none⟩ = some (.int .i64 2) := (blk_cell HW2.out.box 0).trans rfl; have y2 : (w2).cell? ⟨w.heap.size, 2, none⟩ = some (.int .i64 (k : Int)) := (blk_cell HW2.out.box 2).trans rfl; have y4 : (w2).cell? ⟨w.heap.size, 4, none⟩ = some (.int .i64 place) := (blk_cell HW2.out.box 4).trans rfl; have y6 : (w2).cell? ⟨w.heap.size, 6, none⟩ = some (.int .i64 now) := (blk_cell HW2.out.box 6).trans rfl; have e3 : w2.cell? ⟨g, k * 6 + 3, none⟩ = some (.int .i64 _) := (blk_cell HW2.out.now (k * 6 + 3)).trans (HW2.out.pu.new 3 (by decide)); have f3 := blk_frozen HW2.out.now (k * 6 + 3); have f4 := blk_frozen HW2.out.now (k * 6 + 4))
    have HW3 := Aside0.mk (HW2.out.set 3 (by decide) (.int .i64 1) (⟨nm, tm, ep, 1, si, pl⟩, sl) rfl rfl rfl)
    clear HW2 y0 y2 y4 y6 b0 e3 f3 f4
    generalize w2.setCell ⟨g, k * 6 + 3, none⟩ (.int .i64 1) = w3 at HW3 ⊢
    have y6 : (w3).cell? ⟨w.heap.size, 6, none⟩ = some (.int .i64 now) := (blk_cell HW3.out.box 6).trans rfl
    have e4 : w3.cell? ⟨g, k * 6 + 4, none⟩ = some (.int .i64 _) := (blk_cell HW3.out.now (k * 6 + 4)).trans (HW3.out.pu.new 4 (by decide))
    have f4 := blk_frozen HW3.out.now (k * 6 + 4)
    go_upto_region 31 with fail
    have HW4 := Aside0.mk (HW3.out.set 4 (by decide) (.int .i64 now) (⟨nm, tm, ep, 1, now, pl⟩, sl) rfl rfl rfl)
    clear HW3 y6 e4 f4
    generalize w3.setCell ⟨g, k * 6 + 4, none⟩ (.int .i64 now) = w4 at HW4 ⊢
    have y4 : (w4).cell? ⟨w.heap.size, 4, none⟩ = some (.int .i64 place) := (blk_cell HW4.out.box 4).trans rfl
    go_wp2_with (go_at_call 74; refine (HW4.out.add HPL.out HGP.out.srt place).mono ?_; rintro e w5 ⟨rfl, cur5, v5, hw⟩; have HW5 := Aside0.mk hw; clear hw)
    exact bodyPost_ret (v := .int .i64 0) (by simp [results, Try.results45, go_sem]) rfl ⟨rfl, HW5.out.done HRK.out⟩
  · have hst' : (st == 0) = false := beq_eq_false_iff_ne.2 hst
    have HAD := Aside0.mk (show addP ⟨nm, tm, ep, st, si, pl⟩ ⟨2, name, (k : Int), epoch, place, timeout, now, yes⟩ = ⟨nm, tm, ep, st, si, insertF pl place⟩ by unfold addP; rw [if_neg hst])
    rw [HAD.out]
    clear hst HAD
    go_enter Try.func45, Try.ntmps45
    go_wp2_with (first
      | (go_at_call 44; clear y0 y1 y2 y3 y4 y5 y6 y7; refine (HDE.out _ HQ.out).mono ?_; rintro e w2 ⟨rfl, hb⟩; have HQ2 := Aside0.mk (HQ.out.move hb); clear hb HQ HDE; obtain ⟨g, c, cur0, hw⟩ := RW.start HQ2.out k _ hrk; have HW2 := Aside0.mk hw; clear hw; have b0 : w2.cell? ⟨gb, 0, none⟩ = some (.slice (some ⟨g, 0, none⟩) rs.length c) := (blk_cell HW2.out.bk' 0).trans rfl; have y0 : (w2).cell? ⟨w.heap.size, 0, none⟩ = some (.int .i64 2) := (blk_cell HW2.out.box 0).trans rfl; have y2 : (w2).cell? ⟨w.heap.size, 2, none⟩ = some (.int .i64 (k : Int)) := (blk_cell HW2.out.box 2).trans rfl; have y4 : (w2).cell? ⟨w.heap.size, 4, none⟩ = some (.int .i64 place) := (blk_cell HW2.out.box 4).trans rfl; have y6 : (w2).cell? ⟨w.heap.size, 6, none⟩ = some (.int .i64 now) := (blk_cell HW2.out.box 6).trans rfl; have e3 : w2.cell? ⟨g, k * 6 + 3, none⟩ = some (.int .i64 _) := (blk_cell HW2.out.now (k * 6 + 3)).trans (HW2.out.pu.new 3 (by decide)))
      | (go_at_call 74; refine (HW2.out.add HPL.out HGP.out.srt place).mono ?_; rintro e w5 ⟨rfl, cur5, v5, hw⟩; have HW5 := Aside0.mk hw; clear hw))
    exact bodyPost_ret (v := .int .i64 0) (by simp [results, Try.results45, go_sem]) rfl ⟨rfl, HW5.out.done HRK.out⟩
set_option maxHeartbeats 3200000 in
set_option maxRecDepth 100000 in
theorem rapply1e_c (h : RB own gb rs w) (hg : Good (psOf rs)) (x : EvV) (hk : x.kind = 1) (hm : x.name ∈ nmsOf (psOf rs)) (hd : decideF (psOf rs) x = (false, 0)) : Calls Try.prog 45 #[.pointer (some ⟨gb, 0, none⟩), evE x] w fun e w' => e = .returned (.int .i64 (decideF (psOf rs) x).2) ∧ DoR own gb (applyF (psOf rs) x) w w' := by
  have hap : applyF (psOf rs) x = doesF (psOf rs) x := by unfold applyF; rw [hd, if_neg (by simp)]
  rw [hap]
  have HQ := Aside0.mk (RQ.start h x)
  have HDE := Aside0.mk (fun (W : World) (h : RQ own gb rs x w W) => rdecide_c h.rb hg x)
  have HGD := Aside0.mk hg
  have HN := Aside0.mk (fun (W : World) (h : RQ own gb rs x w W) => rfind_c h.rb x.name)
  rw [hd] at HDE ⊢
  clear hap hd
  have hmax := h.len
  obtain ⟨kind, name, producer, epoch, place, timeout, now, yes⟩ := x
  unfold evE at HDE ⊢
  dsimp only at HDE HN hk hm ⊢
  subst hk
  have hkl : (nmsOf (psOf rs)).idxOf name < rs.length := by rw [← nms_len]; exact List.idxOf_lt_length_of_mem hm
  have hix : idxV (nmsOf (psOf rs)) name = ((nmsOf (psOf rs)).idxOf name : Int) := if_pos hm
  rw [show rfindF (nmsOf (psOf rs)) name = ((nmsOf (psOf rs)).idxOf name : Int) from if_pos hm] at HN
  generalize (nmsOf (psOf rs)).idxOf name = k at HN hkl hix
  obtain ⟨⟨⟨nm, tm, ep, st, si, pl⟩, sl⟩, hrk⟩ : ∃ r, rs[k]? = some r := ⟨_, List.getElem?_eq_getElem hkl⟩
  have hpa : prodAt (psOf rs) (k : Int) = ⟨nm, tm, ep, st, si, pl⟩ := by unfold prodAt; rw [Int.toNat_natCast, psOf_at hrk]
  have hgp := hg.each _ (List.mem_map.2 ⟨_, List.mem_iff_getElem?.2 ⟨k, hrk⟩, rfl⟩)
  dsimp only at hgp
  have hdo : doesF (psOf rs) ⟨1, name, producer, epoch, place, timeout, now, yes⟩ = (psOf rs).set k (beginP ⟨nm, tm, ep, st, si, pl⟩ ⟨1, name, producer, epoch, place, timeout, now, yes⟩) := by
    unfold doesF
    rw [if_pos rfl, if_pos hm, hix, Int.toNat_natCast, hpa]
  rw [hdo]
  have hw1 : wrap64 (ep + 1) = ep + 1 := by
    have h0 : 0 ≤ ep := hgp.e0
    have h1 : ep ≤ 2147483647 := hgp.e1
    unfold wrap64; omega
  have HWR := Aside0.mk hw1
  have HRK := Aside0.mk hrk
  clear hdo hpa h hg hgp hm hix hw1
  have y0 : (w.alloc (.cells #[.int .i64 1, .string name, .int .i64 producer, .int .i64 epoch, .int .i64 place, .int .i64 timeout, .int .i64 now, .bool yes] 35 (0, 0))).cell? ⟨w.heap.size, 0, none⟩ = some (.int .i64 1) := (blk_cell HQ.out.box 0).trans rfl
  have y1 : (w.alloc (.cells #[.int .i64 1, .string name, .int .i64 producer, .int .i64 epoch, .int .i64 place, .int .i64 timeout, .int .i64 now, .bool yes] 35 (0, 0))).cell? ⟨w.heap.size, 1, none⟩ = some (.string name) := (blk_cell HQ.out.box 1).trans rfl
  have y2 : (w.alloc (.cells #[.int .i64 1, .string name, .int .i64 producer, .int .i64 epoch, .int .i64 place, .int .i64 timeout, .int .i64 now, .bool yes] 35 (0, 0))).cell? ⟨w.heap.size, 2, none⟩ = some (.int .i64 producer) := (blk_cell HQ.out.box 2).trans rfl
  have y3 : (w.alloc (.cells #[.int .i64 1, .string name, .int .i64 producer, .int .i64 epoch, .int .i64 place, .int .i64 timeout, .int .i64 now, .bool yes] 35 (0, 0))).cell? ⟨w.heap.size, 3, none⟩ = some (.int .i64 epoch) := (blk_cell HQ.out.box 3).trans rfl
  have y4 : (w.alloc (.cells #[.int .i64 1, .string name, .int .i64 producer, .int .i64 epoch, .int .i64 place, .int .i64 timeout, .int .i64 now, .bool yes] 35 (0, 0))).cell? ⟨w.heap.size, 4, none⟩ = some (.int .i64 place) := (blk_cell HQ.out.box 4).trans rfl
  have y5 : (w.alloc (.cells #[.int .i64 1, .string name, .int .i64 producer, .int .i64 epoch, .int .i64 place, .int .i64 timeout, .int .i64 now, .bool yes] 35 (0, 0))).cell? ⟨w.heap.size, 5, none⟩ = some (.int .i64 timeout) := (blk_cell HQ.out.box 5).trans rfl
  have y6 : (w.alloc (.cells #[.int .i64 1, .string name, .int .i64 producer, .int .i64 epoch, .int .i64 place, .int .i64 timeout, .int .i64 now, .bool yes] 35 (0, 0))).cell? ⟨w.heap.size, 6, none⟩ = some (.int .i64 now) := (blk_cell HQ.out.box 6).trans rfl
  have y7 : (w.alloc (.cells #[.int .i64 1, .string name, .int .i64 producer, .int .i64 epoch, .int .i64 place, .int .i64 timeout, .int .i64 now, .bool yes] 35 (0, 0))).cell? ⟨w.heap.size, 7, none⟩ = some (.bool yes) := (blk_cell HQ.out.box 7).trans rfl
  unfold evA at HQ
  dsimp only at HQ
  have hkr : (k : Int) < (rs.length : Int) := by omega
  have hk0 : ¬ (k : Int) < 0 := by omega
  go_enter Try.func45, Try.ntmps45
  go_upto_region 23 with (first
    | (go_at_call 44; clear y0 y1 y2 y3 y4 y5 y6 y7; refine (HDE.out _ HQ.out).mono ?_; rintro e w2 ⟨rfl, hb⟩; have HQ2 := Aside0.mk (HQ.out.move hb); clear hb HQ HDE; have y0 : (w2).cell? ⟨w.heap.size, 0, none⟩ = some (.int .i64 1) := (blk_cell HQ2.out.box 0).trans rfl; have y1 : (w2).cell? ⟨w.heap.size, 1, none⟩ = some (.string name) := (blk_cell HQ2.out.box 1).trans rfl; have y2 : (w2).cell? ⟨w.heap.size, 2, none⟩ = some (.int .i64 producer) := (blk_cell HQ2.out.box 2).trans rfl)
    | (go_at_call 69; clear y0 y1 y2; refine (HN.out _ HQ2.out).mono ?_; rintro e w3 ⟨rfl, hb⟩; have HQ3 := Aside0.mk (HQ2.out.move hb); clear hb HQ2; have y0 : (w3).cell? ⟨w.heap.size, 0, none⟩ = some (.int .i64 1) := (blk_cell HQ3.out.box 0).trans rfl; have y1 : (w3).cell? ⟨w.heap.size, 1, none⟩ = some (.string name) := (blk_cell HQ3.out.box 1).trans rfl; have y2 : (w3).cell? ⟨w.heap.size, 2, none⟩ = some (.int .i64 producer) := (blk_cell HQ3.out.box 2).trans rfl)
    | (go_at_call 69; clear y0 y1 y2; refine (HN.out _ HQ3.out).mono ?_; rintro e w4 ⟨rfl, hb⟩; have HQ4 := Aside0.mk (HQ3.out.move hb); clear hb HQ3; obtain ⟨g, c, cur0, hw⟩ := RW.start HQ4.out k _ HRK.out; have HW4 := Aside0.mk hw; clear hw; have b0 : w4.cell? ⟨gb, 0, none⟩ = some (.slice (some ⟨g, 0, none⟩) rs.length c) := (blk_cell HW4.out.bk' 0).trans rfl; have y0 : (w4).cell? ⟨w.heap.size, 0, none⟩ = some (.int .i64 1) := (blk_cell HW4.out.box 0).trans rfl; have e2 : w4.cell? ⟨g, k * 6 + 2, none⟩ = some (.int .i64 _) := (blk_cell HW4.out.now (k * 6 + 2)).trans (HW4.out.pu.new 2 (by decide)); have f2 := blk_frozen HW4.out.now (k * 6 + 2)))
  have hw1 := HWR.out
  go_upto_region 24 with fail
  have HW5 := Aside0.mk (HW4.out.set 2 (by decide) (.int .i64 (ep + 1)) (⟨nm, tm, ep + 1, st, si, pl⟩, sl) rfl rfl rfl)
  clear HW4 y0 b0 e2 f2 hw1
  generalize w4.setCell ⟨g, k * 6 + 2, none⟩ (.int .i64 (ep + 1)) = w5 at HW5 ⊢
  have y5 : (w5).cell? ⟨w.heap.size, 5, none⟩ = some (.int .i64 timeout) := (blk_cell HW5.out.box 5).trans rfl
  have e1 : w5.cell? ⟨g, k * 6 + 1, none⟩ = some (.int .i64 _) := (blk_cell HW5.out.now (k * 6 + 1)).trans (HW5.out.pu.new 1 (by decide))
  have f1 := blk_frozen HW5.out.now (k * 6 + 1)
  go_upto_region 25 with fail
  have HW6 := Aside0.mk (HW5.out.set 1 (by decide) (.int .i64 timeout) (⟨nm, timeout, ep + 1, st, si, pl⟩, sl) rfl rfl rfl)
  clear HW5 y5 e1 f1
  generalize w5.setCell ⟨g, k * 6 + 1, none⟩ (.int .i64 timeout) = w6 at HW6 ⊢
  have e3 : w6.cell? ⟨g, k * 6 + 3, none⟩ = some (.int .i64 _) := (blk_cell HW6.out.now (k * 6 + 3)).trans (HW6.out.pu.new 3 (by decide))
  by_cases hst : st = 1
  · subst hst
    go_wp2_with (go_at_call 73; refine (HW6.out.ending 3).mono ?_; rintro e w7 ⟨rfl, cur7, hw⟩; have HW7 := Aside0.mk hw; clear hw)
    exact bodyPost_ret (v := .int .i64 0) (by simp [results, Try.results45, go_sem]) rfl ⟨rfl, HW7.out.done HRK.out⟩
  · have hst' : (st == 1) = false := beq_eq_false_iff_ne.2 hst
    have HAD := Aside0.mk (show beginP ⟨nm, tm, ep, st, si, pl⟩ ⟨1, name, producer, epoch, place, timeout, now, yes⟩ = ⟨nm, timeout, ep + 1, st, si, pl⟩ by unfold beginP; rw [if_neg hst])
    clear hst
    go_wp2_with fail
    exact bodyPost_ret (v := .int .i64 0) (by simp [results, Try.results45, go_sem]) rfl ⟨rfl, by rw [HAD.out]; exact HW6.out.done HRK.out⟩
def TA5 : Bool × List (List Nat × List Nat) := (true, [([], []), ([], []), ([1], [1]), ([2], [2]), ([3], [3]), ([], []), ([5], [5]), ([], []), ([7], [7]), ([6, 8], [6, 8]), ([9], [9]), ([4, 10], [4, 10]), ([0, 0, 1, 2, 3, 4, 5, 6, 7, 8, 9, 10, 11], [0]), ([12, 0, 1, 2, 3, 4, 5, 6, 7, 8, 9, 10, 11], [12]), ([13, 11, 11, 0, 1, 2, 3, 4, 5, 6, 7, 8, 9, 10, 11], [11, 13])])
def BA5 : List Nat := [0, 0, 2, 6, 14, 0, 32, 0, 128, 480, 992, 2046, 4095, 8191, 16383]
theorem tabA5 : rtab .any (opsOf Try.f45 5) = TA5 := by kernel_rfl
theorem bitsA5 : waitsOk TA5.2 BA5 = true := by kernel_rfl
theorem infoRP : (Try.prog.info? 127).map (fun i => (i.zero, i.size, i.bytes)) = some (some (.agg #[.string ⟨#[]⟩, .int .i64 0, .int .i64 0, .int .i64 0, .int .i64 0, .slice none 0 0]), 6, 72) := by kernel_rfl
theorem rpL_one (p : ProdV) : ∀ u ∈ rpL (p, .slice none 0 0), u.oneCell' = true := by
  intro u hu
  simp only [rpL, List.mem_cons, List.not_mem_nil, or_false] at hu
  rcases hu with rfl | rfl | rfl | rfl | rfl | rfl <;> rfl
theorem psOf_snoc (rs : List RP) (r : RP) : psOf (rs ++ [r]) = psOf rs ++ [r.1] := by simp [psOf]
theorem row_ne {base n g : Nat} {v : Value} {xs : List Value} {cs : Array Value} {t : TypeId} (h : w.ownsRow base 127 6 v n xs) (hg : w.heap[g]? = some (.cells cs t (0, 0))) (ht : t ≠ 127) : some g ≠ v.ownBlock := fun e => by
  obtain ⟨cells, hc⟩ := own_typed h g e.symm
  exact blk_ne hg hc ht rfl
theorem rpsL_snoc (rs : List RP) (r : RP) : rpsL (rs ++ [r]) = rpsL rs ++ rpL r := by simp [rpsL]
/-- A producer more. -/
theorem RB.push {wq : World} (h : RB own gb rs wq) {v v' : Value} {r : RP} (hb : wq.heap[gb]? = some (.cells #[v] 55 (0, 0))) (hown : ∀ g, v.ownBlock = some g → own g) (hrow : wq.ownsRow 0 127 6 v rs.length (rpsL rs)) (hg : wq.grownBy w v.ownBlock) (hr : r.1.places = [] ∧ r.2 = .slice none 0 0) (hn : w.ownsRow 0 127 6 v' (rs.length + 1) (rpsL rs ++ rpL r)) (hat : v'.ownBlock = v.ownBlock ∨ ∃ b, v'.ownBlock = some b ∧ wq.heap.size ≤ b) :
    w.frozen? ⟨gb, 0, none⟩ = false ∧ (∃ u, w.cell? ⟨gb, 0, none⟩ = some u) ∧ RB (fun y => own y ∨ (wq.heap.size ≤ y ∧ y < w.heap.size)) gb (rs ++ [r]) (w.setCell ⟨gb, 0, none⟩ v') ∧ FrP own wq (w.setCell ⟨gb, 0, none⟩ v') := by
  have hgv : some gb ≠ v.ownBlock := fun e => by
    rcases hrow.2 with ⟨rfl, _⟩ | ⟨g, cap, cur, rfl, -, hgg, -⟩
    · simp [Value.ownBlock] at e
    · simp [Value.ownBlock] at e
      subst e
      exact blk_ne hb hgg (by decide) rfl
  have hb2 := blk_grown hb hg hgv
  have hv'g : ∀ y, v'.ownBlock = some y → y ≠ gb := fun y hy e => by
    rcases hn.2 with ⟨rfl, _⟩ | ⟨g, cap, cur, rfl, -, hgg, -⟩
    · simp [Value.ownBlock] at hy
    · simp [Value.ownBlock] at hy
      subst hy e
      exact blk_ne hb2 hgg (by decide) rfl
  have hset : ∀ y, y ≠ gb → (w.setCell ⟨gb, 0, none⟩ v').heap[y]? = w.heap[y]? := fun y hy => Below.heap_setCell w ⟨gb, 0, none⟩ _ y hy
  refine ⟨blk_frozen hb2 0, ⟨_, (blk_cell hb2 0).trans rfl⟩, ⟨fun y hy => ?_, .inl h.ogb, ⟨v', blk_put hb2 0 _ rfl, ?_, fun y hy => ?_⟩, fun q hq => ?_⟩, ⟨hg.os, hg.tape, hg.output, by rw [setCell_size]; exact hg.size, fun y hy h0 => (hset y (fun e => h0 (by rw [e]; exact h.ogb))).trans (hg.block y hy (fun e => h0 (hown y e.symm)))⟩⟩
  · rw [setCell_size]
    rcases hy with hy | hy
    · exact Nat.lt_of_lt_of_le (h.lt y hy) hg.size
    · exact hy.2
  · rw [List.length_append, rpsL_snoc]
    refine ⟨hn.1, ?_⟩
    rcases hn.2 with hn | ⟨g, cap, cur, rfl, h1, hgg, h2⟩
    · exact .inl hn
    · exact .inr ⟨g, cap, cur, rfl, h1, (hset g (hv'g g rfl)).trans hgg, h2⟩
  · rcases hat with hat | ⟨b, hb, hle⟩
    · exact .inl (hown y (by rw [← hat]; exact hy))
    · rw [hy] at hb
      injection hb with hb
      subst hb
      rcases hn.2 with ⟨rfl, _⟩ | ⟨g, cap, cur, rfl, -, hgg, -⟩
      · simp [Value.ownBlock] at hy
      · simp [Value.ownBlock] at hy
        subst hy
        exact .inr ⟨hle, blk_lt hgg⟩
  · rcases List.mem_append.1 hq with hq | hq
    · refine Kd.R_mono (ok := fun y => own y ∧ y ≠ gb ∧ some y ≠ v.ownBlock) (Kd.R_move (Kd.R_mono (Kd.R_bound (h.each q hq)) (fun y hy => ⟨hy.1, ?_, ?_⟩)) (fun y hy => (hset y hy.2.1).trans (hg.block y (h.lt y hy.1) hy.2.2))) (fun y hy => .inl hy.1)
      · obtain ⟨_, _, _, t, ht, cs, hcs⟩ := hy
        intro e
        subst e
        rw [hb] at hcs
        injection hcs with hcs
        injection hcs with h1 h2
        subst h2
        exact absurd ht (by simp [Kd.E, Kd.int, Kd.scalar])
      · obtain ⟨_, _, _, t, ht, cs, hcs⟩ := hy
        intro e
        rcases hrow.2 with ⟨rfl, _⟩ | ⟨g, cap, cur, rfl, -, hgg, -⟩
        · simp [Value.ownBlock] at e
        · simp [Value.ownBlock] at e
          subst e
          rw [hgg] at hcs
          injection hcs with hcs
          injection hcs with h1 h2
          subst h2
          exact absurd ht (by simp [Kd.E, Kd.int, Kd.scalar])
    · simp only [List.mem_singleton] at hq
      subst hq
      rw [hr.1, hr.2]
      exact Kd.R_nil _ _ _ _ _
set_option maxHeartbeats 3200000 in
set_option maxRecDepth 100000 in
theorem rapply1n_c (h : RB own gb rs w) (hg : Good (psOf rs)) (x : EvV) (hk : x.kind = 1) (hm : x.name ∉ nmsOf (psOf rs)) (hd : decideF (psOf rs) x = (false, 0)) : Calls Try.prog 45 #[.pointer (some ⟨gb, 0, none⟩), evE x] w fun e w' => e = .returned (.int .i64 (decideF (psOf rs) x).2) ∧ DoR own gb (applyF (psOf rs) x) w w' := by
  have hap : applyF (psOf rs) x = psOf rs ++ [⟨x.name, x.timeout, 0, 0, 0, []⟩] := by
    unfold applyF doesF
    rw [hd, if_neg (by simp), if_pos hk, if_neg hm]
  have hlen : rs.length < 1000 := by
    have hr : rightE x = true := by
      cases hr : rightE x with
      | true => rfl
      | false => unfold decideF at hd; rw [hr] at hd; simp at hd
    unfold decideF at hd
    rw [hr, if_pos rfl, if_pos hk] at hd
    unfold grantF at hd
    rw [if_neg hm, psOf_len] at hd
    rcases Nat.lt_or_ge rs.length 1000 with h | h
    · exact h
    · rw [if_pos h] at hd
      simp at hd
  rw [hap]
  have HQ := Aside0.mk (RQ.start h x)
  have HDE := Aside0.mk (fun (W : World) (h : RQ own gb rs x w W) => rdecide_c h.rb hg x)
  have HGD := Aside0.mk hg
  have HN := Aside0.mk (fun (W : World) (h : RQ own gb rs x w W) => rfind_c h.rb x.name)
  rw [hd] at HDE ⊢
  clear hap hd
  obtain ⟨kind, name, producer, epoch, place, timeout, now, yes⟩ := x
  unfold evE at HDE ⊢
  dsimp only at HDE HN hk hm ⊢
  subst hk
  rw [show rfindF (nmsOf (psOf rs)) name = -1 from if_neg hm] at HN
  clear h hg hm
  have y0 : (w.alloc (.cells #[.int .i64 1, .string name, .int .i64 producer, .int .i64 epoch, .int .i64 place, .int .i64 timeout, .int .i64 now, .bool yes] 35 (0, 0))).cell? ⟨w.heap.size, 0, none⟩ = some (.int .i64 1) := (blk_cell HQ.out.box 0).trans rfl
  have y1 : (w.alloc (.cells #[.int .i64 1, .string name, .int .i64 producer, .int .i64 epoch, .int .i64 place, .int .i64 timeout, .int .i64 now, .bool yes] 35 (0, 0))).cell? ⟨w.heap.size, 1, none⟩ = some (.string name) := (blk_cell HQ.out.box 1).trans rfl
  have y2 : (w.alloc (.cells #[.int .i64 1, .string name, .int .i64 producer, .int .i64 epoch, .int .i64 place, .int .i64 timeout, .int .i64 now, .bool yes] 35 (0, 0))).cell? ⟨w.heap.size, 2, none⟩ = some (.int .i64 producer) := (blk_cell HQ.out.box 2).trans rfl
  have y3 : (w.alloc (.cells #[.int .i64 1, .string name, .int .i64 producer, .int .i64 epoch, .int .i64 place, .int .i64 timeout, .int .i64 now, .bool yes] 35 (0, 0))).cell? ⟨w.heap.size, 3, none⟩ = some (.int .i64 epoch) := (blk_cell HQ.out.box 3).trans rfl
  have y4 : (w.alloc (.cells #[.int .i64 1, .string name, .int .i64 producer, .int .i64 epoch, .int .i64 place, .int .i64 timeout, .int .i64 now, .bool yes] 35 (0, 0))).cell? ⟨w.heap.size, 4, none⟩ = some (.int .i64 place) := (blk_cell HQ.out.box 4).trans rfl
  have y5 : (w.alloc (.cells #[.int .i64 1, .string name, .int .i64 producer, .int .i64 epoch, .int .i64 place, .int .i64 timeout, .int .i64 now, .bool yes] 35 (0, 0))).cell? ⟨w.heap.size, 5, none⟩ = some (.int .i64 timeout) := (blk_cell HQ.out.box 5).trans rfl
  have y6 : (w.alloc (.cells #[.int .i64 1, .string name, .int .i64 producer, .int .i64 epoch, .int .i64 place, .int .i64 timeout, .int .i64 now, .bool yes] 35 (0, 0))).cell? ⟨w.heap.size, 6, none⟩ = some (.int .i64 now) := (blk_cell HQ.out.box 6).trans rfl
  have y7 : (w.alloc (.cells #[.int .i64 1, .string name, .int .i64 producer, .int .i64 epoch, .int .i64 place, .int .i64 timeout, .int .i64 now, .bool yes] 35 (0, 0))).cell? ⟨w.heap.size, 7, none⟩ = some (.bool yes) := (blk_cell HQ.out.box 7).trans rfl
  unfold evA at HQ
  dsimp only at HQ
  go_enter Try.func45, Try.ntmps45
  go_upto_region 5 with (first
    | (go_at_call 44; clear y0 y1 y2 y3 y4 y5 y6 y7; refine (HDE.out _ HQ.out).mono ?_; rintro e w2 ⟨rfl, hb⟩; have HQ2 := Aside0.mk (HQ.out.move hb); clear hb HQ HDE; have y0 : (w2).cell? ⟨w.heap.size, 0, none⟩ = some (.int .i64 1) := (blk_cell HQ2.out.box 0).trans rfl; have y1 : (w2).cell? ⟨w.heap.size, 1, none⟩ = some (.string name) := (blk_cell HQ2.out.box 1).trans rfl; have y2 : (w2).cell? ⟨w.heap.size, 2, none⟩ = some (.int .i64 producer) := (blk_cell HQ2.out.box 2).trans rfl)
    | (go_at_call 69; clear y0 y1 y2; refine (HN.out _ HQ2.out).mono ?_; rintro e w3 ⟨rfl, hb⟩; have HQ3 := Aside0.mk (HQ2.out.move hb); clear hb HQ2; have y1 : (w3).cell? ⟨w.heap.size, 1, none⟩ = some (.string name) := (blk_cell HQ3.out.box 1).trans rfl; have y5 : (w3).cell? ⟨w.heap.size, 5, none⟩ = some (.int .i64 timeout) := (blk_cell HQ3.out.box 5).trans rfl; obtain ⟨v0, hv0⟩ := HQ3.out.rb.row; have HV0 := Aside0.mk hv0; have b0 : w3.cell? ⟨gb, 0, none⟩ = some v0 := (blk_cell hv0.1 0).trans rfl; clear hv0))
  obtain ⟨A0, c0, hv0⟩ : ∃ A0 c0, v0 = .slice A0 rs.length c0 := by
    rcases HV0.out.2.1.2 with ⟨h1, h2⟩ | ⟨g, cap, cur, h1, -⟩
    · exact ⟨none, 0, by rw [h1, h2]⟩
    · exact ⟨_, _, h1⟩
  subst hv0
  have hdr := below_drew (Below.refl w3.heap.size w3)
  have HQ4 := Aside0.mk (HQ3.out.move hdr)
  clear hdr b0 y1 y5
  have HB4 := Aside0.mk (show w3.drew.heap[gb]? = some (.cells #[.slice A0 rs.length c0] 55 (0, 0)) from HV0.out.1)
  have HO4 := Aside0.mk (show w3.drew.ownsRow 0 127 6 (.slice A0 rs.length c0) rs.length (rpsL rs) from HV0.out.2.1)
  have b0 : w3.drew.cell? ⟨gb, 0, none⟩ = some (.slice A0 rs.length c0) := (blk_cell HB4.out 0).trans rfl
  have y1 : (w3.drew).cell? ⟨w.heap.size, 1, none⟩ = some (.string name) := (blk_cell HQ4.out.box 1).trans rfl; have y5 : (w3.drew).cell? ⟨w.heap.size, 5, none⟩ = some (.int .i64 timeout) := (blk_cell HQ4.out.box 5).trans rfl
  refine start_ (n := 15) (S := fun w' => w'.cell? ⟨gb, 0, none⟩ = some (.slice A0 rs.length c0) ∧ w'.cell? ⟨w.heap.size, 1, none⟩ = some (.string name) ∧ w'.cell? ⟨w.heap.size, 5, none⟩ = some (.int .i64 timeout)) (ds := [14]) #[false, false, false, false, false, false, false, false, false, false, false, false, false, false, false] (by kernel_rfl) rfl rfl ⟨b0, y1, y5⟩ (fun hHeld => ?_); refine with_tabW tabA5 bitsA5 (fun HT_ HW_ => ?_)
  generalize w3.drew = w4 at HQ4 HB4 HO4 b0 y1 y5 hHeld ⊢; have HS4 := Aside0.mk (And.intro b0 (And.intro y1 y5))
  refine pure_ (i := 0) (N := (some 32)) (v := ?_) (a' := ?_) #[true, false, false, false, false, false, false, false, false, false, false, false, false, false, false] rfl rfl (any_of HT_.out (by kernel_rfl)) (fun _ _ _ h => h) (Or.inl ⟨by rfl, ?_⟩) ?_ ?_
  rotate_left
  · intro w'
    go_simp
    with_reducible rfl
  rotate_left
  · simp only [Act.put, List.setIfInBounds_toArray, List.set_cons_zero, List.set_cons_succ, i64_w, i32_w]
    rfl
  refine pure_ (i := 1) (N := (some 33)) (v := ?_) (a' := ?_) #[true, true, false, false, false, false, false, false, false, false, false, false, false, false, false] rfl rfl (any_of HT_.out (by kernel_rfl)) (fun _ _ _ h => h) (Or.inl ⟨by rfl, ?_⟩) ?_ ?_
  rotate_left
  · intro w'
    go_simp
    with_reducible rfl
  rotate_left
  · simp only [Act.put, List.setIfInBounds_toArray, List.set_cons_zero, List.set_cons_succ, i64_w, i32_w]
    rfl
  refine pure_ (i := 2) (N := (some 34)) (v := ?_) (a' := ?_) #[true, true, true, false, false, false, false, false, false, false, false, false, false, false, false] rfl rfl (any_of HT_.out (by kernel_rfl)) (fun _ _ _ h => h) (Or.inl ⟨by rfl, ?_⟩) ?_ ?_
  rotate_left
  · intro w'
    go_simp
    with_reducible rfl
  rotate_left
  · simp only [Act.put, List.setIfInBounds_toArray, List.set_cons_zero, List.set_cons_succ, i64_w, i32_w]
    rfl
  refine pure_ (i := 3) (N := (some 35)) (v := ?_) (a' := ?_) #[true, true, true, true, false, false, false, false, false, false, false, false, false, false, false] rfl rfl (any_of HT_.out (by kernel_rfl)) (fun _ _ _ h => h) (Or.inl ⟨by rfl, ?_⟩) ?_ ?_
  rotate_left
  · intro w'
    go_simp
    with_reducible rfl
  rotate_left
  · simp only [Act.put, List.setIfInBounds_toArray, List.set_cons_zero, List.set_cons_succ, i64_w, i32_w]
    rfl
  refine take_ (i := 4) (N := (some 36)) (v := ?_) (a' := ?_) #[true, true, true, true, true, false, false, false, false, false, false, false, false, false, false] rfl rfl (take_ofW HT_.out HW_.out (by kernel_rfl)) (fun _ _ _ h => h) (Or.inl ⟨by rfl, ?_⟩) hHeld ?_ ?_
  rotate_left
  · rintro w' ⟨s0, s1, s2⟩
    go_simp
    with_reducible rfl
  rotate_left
  · simp only [Act.put, List.setIfInBounds_toArray, List.set_cons_zero, List.set_cons_succ, i64_w, i32_w]
    rfl
  refine pure_ (i := 5) (N := (some 37)) (v := ?_) (a' := ?_) #[true, true, true, true, true, true, false, false, false, false, false, false, false, false, false] rfl rfl (any_of HT_.out (by kernel_rfl)) (fun _ _ _ h => h) (Or.inl ⟨by rfl, ?_⟩) ?_ ?_
  rotate_left
  · intro w'
    go_simp
    with_reducible rfl
  rotate_left
  · simp only [Act.put, List.setIfInBounds_toArray, List.set_cons_zero, List.set_cons_succ, i64_w, i32_w]
    rfl
  refine take_ (i := 6) (N := (some 38)) (v := ?_) (a' := ?_) #[true, true, true, true, true, true, true, false, false, false, false, false, false, false, false] rfl rfl (take_ofW HT_.out HW_.out (by kernel_rfl)) (fun _ _ _ h => h) (Or.inl ⟨by rfl, ?_⟩) hHeld ?_ ?_
  rotate_left
  · rintro w' ⟨s0, s1, s2⟩
    go_simp
    with_reducible rfl
  rotate_left
  · simp only [Act.put, List.setIfInBounds_toArray, List.set_cons_zero, List.set_cons_succ, i64_w, i32_w]
    rfl
  refine pure_ (i := 7) (N := (some 39)) (v := ?_) (a' := ?_) #[true, true, true, true, true, true, true, true, false, false, false, false, false, false, false] rfl rfl (any_of HT_.out (by kernel_rfl)) (fun _ _ _ h => h) (Or.inl ⟨by rfl, ?_⟩) ?_ ?_
  rotate_left
  · intro w'
    go_simp
    with_reducible rfl
  rotate_left
  · simp only [Act.put, List.setIfInBounds_toArray, List.set_cons_zero, List.set_cons_succ, i64_w, i32_w]
    rfl
  refine take_ (i := 8) (N := (some 40)) (v := ?_) (a' := ?_) #[true, true, true, true, true, true, true, true, true, false, false, false, false, false, false] rfl rfl (take_ofW HT_.out HW_.out (by kernel_rfl)) (fun _ _ _ h => h) (Or.inl ⟨by rfl, ?_⟩) hHeld ?_ ?_
  rotate_left
  · rintro w' ⟨s0, s1, s2⟩
    go_simp
    with_reducible rfl
  rotate_left
  · simp only [Act.put, List.setIfInBounds_toArray, List.set_cons_zero, List.set_cons_succ, i64_w, i32_w]
    rfl
  refine pure_ (i := 9) (N := (some 41)) (v := ?_) (a' := ?_) #[true, true, true, true, true, true, true, true, true, true, false, false, false, false, false] rfl rfl (any_of HT_.out (by kernel_rfl)) (fun _ _ _ h => h) (Or.inl ⟨by rfl, ?_⟩) ?_ ?_
  rotate_left
  · intro w'
    go_simp
    with_reducible rfl
  rotate_left
  · simp only [Act.put, List.setIfInBounds_toArray, List.set_cons_zero, List.set_cons_succ, i64_w, i32_w]
    rfl
  refine one_ (i := 10) (N := (some 42)) #[true, true, true, true, true, true, true, true, true, true, true, false, false, false, false] rfl rfl (one_of HT_.out (by kernel_rfl)) (by decide) (fun K hK => ?_)
  refine event_step (v := .slice (some ⟨w4.heap.size, 0, none⟩) 1 1) (w1 := w4.alloc (.cells (rpL (⟨name, timeout, 0, 0, 0, []⟩, .slice none 0 0)).toArray 127 (0, 0))) (by rfl) ?hr ?_
  case hr => first | (go_simp; done) | (go_simp; rfl)
  have hal := below_alloc (Below.refl w4.heap.size w4) (.cells (rpL (⟨name, timeout, 0, 0, 0, []⟩, .slice none 0 0)).toArray 127 (0, 0))
  have hS := Aside0.mk (And.intro (cell_bel hal b0) (And.intro (cell_bel hal y1) (cell_bel hal y5)))
  clear hal b0 y1 y5
  refine hK.out _ _ hS.out (fun hHeld => ?_)
  clear hK K
  refine norm_ (a' := ?_) ?_ ?_
  rotate_left
  · show Act.put _ (some 42) _ = _
    simp only [Act.put, List.setIfInBounds_toArray, List.set_cons_zero, List.set_cons_succ, i64_w, i32_w]
    rfl
  refine one_ (i := 11) (N := (some 43)) #[true, true, true, true, true, true, true, true, true, true, true, true, false, false, false] rfl rfl (one_of HT_.out (by kernel_rfl)) (by decide) (fun K hK => ?_)
  refine step_append_cells (w0 := w4) 0 (by rfl) (.tmp 36) (.tmp 42) 53 127 (.agg #[.string ⟨#[]⟩, .int .i64 0, .int .i64 0, .int .i64 0, .int .i64 0, .slice none 0 0]) 6 72 rfl Try.underlying53 infoRP rfl (by decide) (by decide) (.slice A0 rs.length c0) rs.length (rpsL rs) (rpL (⟨name, timeout, 0, 0, 0, []⟩, .slice none 0 0)) rfl rfl rfl (rpL_one _) HO4.out (Below.refl _ _) (Nat.zero_le _) (by omega) ?_
  intro v5 w5 ho5 _ hg5 hat5
  have hgb := row_ne HO4.out HB4.out (by decide)
  have hgx := row_ne HO4.out HQ4.out.box (by decide)
  have hS5 := Aside0.mk (And.intro (hg5.cell HS4.out.1 hgb) (And.intro (hg5.cell HS4.out.2.1 hgx) (hg5.cell HS4.out.2.2 hgx)))
  obtain ⟨hf5, ⟨u5, hc5⟩, hrb5, hfr5⟩ := HQ4.out.rb.push HB4.out HV0.out.2.2 HO4.out hg5 (r := (⟨name, timeout, 0, 0, 0, []⟩, .slice none 0 0)) ⟨rfl, rfl⟩ ho5 hat5
  obtain ⟨A5, c5, rfl⟩ : ∃ A5 c5, v5 = .slice A5 (rs.length + 1) c5 := by
    rcases ho5.2 with ⟨h1, h2⟩ | ⟨g, cap, cur, h1, -⟩
    · omega
    · exact ⟨_, _, h1⟩
  have HRB := Aside0.mk (And.intro hrb5 hfr5)
  clear hrb5 hfr5 hgb hgx ho5 hg5 hat5 hc5
  refine hK.out _ _ hS5.out (fun hHeld => ?_)
  clear hK K
  refine norm_ (a' := ?_) ?_ ?_
  rotate_left
  · show Act.put _ (some 43) _ = _
    simp only [Act.put, List.setIfInBounds_toArray, List.set_cons_zero, List.set_cons_succ, i64_w, i32_w]
    rfl
  have b5 := hS5.out.1
  refine pure_ (i := 12) (N := (some 44)) (v := ?_) (a' := ?_) #[true, true, true, true, true, true, true, true, true, true, true, true, true, false, false] rfl rfl (any_of HT_.out (by kernel_rfl)) (fun _ _ _ h => h) (Or.inl ⟨by rfl, ?_⟩) ?_ ?_
  rotate_left
  · intro w'
    go_simp
    with_reducible rfl
  rotate_left
  · simp only [Act.put, List.setIfInBounds_toArray, List.set_cons_zero, List.set_cons_succ, i64_w, i32_w]
    rfl
  refine pure_ (i := 13) (N := (some 45)) (v := ?_) (a' := ?_) #[true, true, true, true, true, true, true, true, true, true, true, true, true, true, false] rfl rfl (any_of HT_.out (by kernel_rfl)) (fun _ _ _ h => h) (Or.inl ⟨by rfl, ?_⟩) ?_ ?_
  rotate_left
  · intro w'
    go_simp
    with_reducible rfl
  rotate_left
  · simp only [Act.put, List.setIfInBounds_toArray, List.set_cons_zero, List.set_cons_succ, i64_w, i32_w]
    rfl
  refine last_ (i := 14) (N := none) #[true, true, true, true, true, true, true, true, true, true, true, true, true, true, true] rfl rfl (one_of HT_.out (by kernel_rfl)) (by decide) (fun K hK => ?_)
  refine skip_ (w1 := ?_) (by rfl) rfl ?_ ?_
  rotate_left
  · go_simp
    rfl
  refine hK.out _ _ ?_
  clear hK K
  refine done_ (done_of HT_.out (by kernel_rfl)) ?_
  clear hHeld HT_ HW_ b5 hf5
  go_wp2_with fail
  refine bodyPost_ret (v := .int .i64 0) (by simp [results, Try.results45, go_sem]) rfl ⟨rfl, _, _, HRB.out.1, by rw [psOf_snoc], (FrP.below own HQ4.out.below).trans HRB.out.2 (fun _ _ h => h), fun y hy ho => ?_⟩
  rcases ho with ho | ho
  · exact ho
  · have := HQ4.out.below.size
    omega
end Go.Proofs.Ytofegigbhohebaa.Hand
