/- Decide and Apply of any event. -/
import Derived.Test.YtofegigbhohebaaTB28
namespace Go.Proofs.Ytofegigbhohebaa.Hand
open Go.RowKit Go.Proofs.Ytofegigbhohebaa Go.Proofs.YtofegigbhohebaaW.PrintWords Go.Proofs.YtofegigbhohebaaW.PrintLast Go.MapKept
set_option linter.unusedVariables false
set_option linter.unusedSimpArgs false
variable {own : Nat → Nat} {gb : Nat} {gs : List Nat} {ps : List ProdV} {w w' : World}
set_option maxHeartbeats 6400000 in
set_option maxRecDepth 100000 in
theorem decideN_c (h : BI own gb gs ps w) (x : EvV) (hr : rightE x = false) : Calls Try.prog 20 #[.pointer (some ⟨gb, 0, none⟩), evE x] w fun e w' => e = .returned (.tuple #[.bool (decideF ps x).1, .int .i64 (decideF ps x).2]) ∧ Below w.heap.size w w' := by
  have HD := Aside0.mk (DcI.start h x)
  have HR := Aside0.mk (fun W => right_c x W)
  have y0 := (blk_cell HD.out.box 0).trans rfl
  have y1 := (blk_cell HD.out.box 1).trans rfl
  have y2 := (blk_cell HD.out.box 2).trans rfl
  have y3 := (blk_cell HD.out.box 3).trans rfl
  have y4 := (blk_cell HD.out.box 4).trans rfl
  have y5 := (blk_cell HD.out.box 5).trans rfl
  have y6 := (blk_cell HD.out.box 6).trans rfl
  have y7 := (blk_cell HD.out.box 7).trans rfl
  have HF := Aside0.mk (show decideF ps x = (false, 1) by unfold decideF; rw [hr]; rfl)
  unfold evE at HR ⊢
  clear h
  go_enter Try.func20, Try.ntmps20
  go_wp2_with (first | (go_at_call 35; refine (none_c HD.out.bi).mono ?_; rintro e w' ⟨rfl, rfl⟩) | (go_at_call 38; refine (HR.out _).mono ?_; rintro e w2 ⟨rfl, hb2⟩; rw [hr]; have HD2 := Aside0.mk (HD.out.move hb2); have r1 := (blk_cell HD2.out.r1 0).trans rfl; have r2 := (blk_cell HD2.out.r2 0).trans rfl; have f1 := blk_frozen HD2.out.r1 0; have f2 := blk_frozen HD2.out.r2 0) | fail)
  exact HD2.out.out false 1 rfl rfl HF.out
theorem decide_c (h : BI own gb gs ps w) (hg : Good ps) (x : EvV) : Calls Try.prog 20 #[.pointer (some ⟨gb, 0, none⟩), evE x] w fun e w' => e = .returned (.tuple #[.bool (decideF ps x).1, .int .i64 (decideF ps x).2]) ∧ Below w.heap.size w w' := by
  by_cases hk5 : x.kind = 5
  · cases hr : rightE x with
    | false => exact decideN_c h x hr
    | true => exact callsIn_wide.1 (decideX_in 6 (by decide) h hg x hk5 hr)
  · exact decide5_c h hg x hk5
theorem does_all (h : BI own gb gs ps w) (hg : Good ps) (x : EvV) (hd : decideF ps x = (false, 0)) : ∃ f : Nat, (x.kind, Value.func (.func f) #[.pointer (some ⟨gb, 0, none⟩)] #[]) ∈ fnsA gb ∧ (f = 30 ∨ f = 31 ∨ f = 32 ∨ f = 33 ∨ f = 34) ∧ Calls Try.prog f #[.pointer (some ⟨gb, 0, none⟩), evE x] w fun e w' => e = .returned (.tuple #[]) ∧ DoP own gb (doesF ps x) w w' := by
  by_cases hk5 : x.kind = 5
  · refine ⟨34, by rw [hk5]; simp [fnsA], .inr (.inr (.inr (.inr rfl))), ?_⟩
    have e : doesF ps x = ps.map fun p => expP p x.now := by unfold doesF; rw [hk5]; rfl
    rw [e]
    exact callsIn_wide.1 (expire_in 6 (by decide) h hg x)
  · obtain ⟨f, h1, h2, h3⟩ := does_c h hg x hk5 hd
    exact ⟨f, h1, by omega, h3⟩
set_option maxHeartbeats 6400000 in
set_option maxRecDepth 100000 in
theorem apply_c (h : BI own gb gs ps w) (hg : Good ps) (x : EvV) : Calls Try.prog 15 #[.pointer (some ⟨gb, 0, none⟩), evE x] w fun e w' => e = .returned (.int .i64 (decideF ps x).2) ∧ DoP own gb (applyF ps x) w w' := by
  have hmm := @run_makeMap Try.prog
  have hmf : ∀ (fn : Fn) (first cap : Array Value) (w : World), (Instr.makeFunc fn first cap).run Try.prog w = .ok (.func fn first cap) w := fun _ _ _ _ => rfl
  unfold evE
  have hAP := Aside0.mk (show applyF ps x = if (decideF ps x).2 ≠ 0 ∨ (decideF ps x).1 = true then ps else doesF ps x from rfl)
  have HX := Aside0.mk (heap_alloc_new w (.cells #[.int .i64 x.kind, .string x.name, .int .i64 x.producer, .int .i64 x.epoch, .int .i64 x.place, .int .i64 x.timeout, .int .i64 x.now, .bool x.yes] 33 (0, 0)))
  have hb1 := below_alloc (Below.refl w.heap.size w) (.cells #[.int .i64 x.kind, .string x.name, .int .i64 x.producer, .int .i64 x.epoch, .int .i64 x.place, .int .i64 x.timeout, .int .i64 x.now, .bool x.yes] 33 (0, 0))
  have HI := Aside0.mk (h.below hb1)
  have HB := Aside0.mk hb1
  have HG := Aside0.mk hg
  clear hb1 h hg
  obtain ⟨⟨d1, d2⟩, hd⟩ : ∃ d, decideF ps x = d := ⟨_, rfl⟩
  have HD := Aside0.mk hd
  rw [hd] at hAP ⊢
  dsimp only at hAP ⊢
  by_cases hd2 : d2 = 0
  rotate_left
  · have hne : (d2 != 0) = true := bne_iff_ne.2 hd2
    have HA := Aside0.mk (hAP.out.trans (if_pos (.inl hd2)))
    rw [HA.out]
    clear hAP HA hd
    go_enter Try.func15, Try.ntmps15
    go_wp2_with (first | (go_at_call 20; refine (decide_c HI.out HG.out x).mono ?_; rintro e w2 ⟨rfl, hb2⟩; rw [HD.out]; have HB2 := Aside0.mk hb2; clear hb2) | fail)
    have HI3 := Aside0.mk (HI.out.below HB2.out)
    have HB3 := Aside0.mk (below_step HB.out HB2.out)
    refine bodyPost_ret (v := .int .i64 d2) (by simp [results, Try.results15, go_sem]) rfl ⟨rfl, own, gs, HI3.out, Fr.below own HB3.out, fun _ _ => rfl⟩
  subst hd2
  cases d1
  rotate_left
  · have HA := Aside0.mk (hAP.out.trans (if_pos (.inr rfl)))
    rw [HA.out]
    clear hAP HA hd
    go_enter Try.func15, Try.ntmps15
    go_wp2_with (first | (go_at_call 20; refine (decide_c HI.out HG.out x).mono ?_; rintro e w2 ⟨rfl, hb2⟩; rw [HD.out]; have HB2 := Aside0.mk hb2; clear hb2) | fail)
    have HI3 := Aside0.mk (HI.out.below HB2.out)
    have HB3 := Aside0.mk (below_step HB.out HB2.out)
    refine bodyPost_ret (v := .int .i64 0) (by simp [results, Try.results15, go_sem]) rfl ⟨rfl, own, gs, HI3.out, Fr.below own HB3.out, fun _ _ => rfl⟩
  have HA := Aside0.mk (hAP.out.trans (if_neg (by simp)))
  rw [HA.out]
  clear hAP HA hd
  go_enter Try.func15, Try.ntmps15
  go_wp2_with (first | (go_at_call 20; refine (decide_c HI.out HG.out x).mono ?_; rintro e w2 ⟨rfl, hb2⟩; rw [HD.out]; have HB2 := Aside0.mk hb2; clear hb2) | fail)
  obtain ⟨W1, W2, W3, W4, W5, e1, e2, e3, e4, e5, m5, b5⟩ := fns_made gb w2
  have HB5 := Aside0.mk (below_step HB2.out b5)
  have HM5 := Aside0.mk m5
  clear m5 b5
  have HI5 := Aside0.mk (HI.out.below HB5.out)
  have HX5 := Aside0.mk (blk_below HX.out HB5.out)
  have y0 := (blk_cell HX5.out 0).trans rfl
  have y1 := (blk_cell HX5.out 1).trans rfl
  have y2 := (blk_cell HX5.out 2).trans rfl
  have y3 := (blk_cell HX5.out 3).trans rfl
  have y4 := (blk_cell HX5.out 4).trans rfl
  have y5 := (blk_cell HX5.out 5).trans rfl
  have y6 := (blk_cell HX5.out 6).trans rfl
  have y7 := (blk_cell HX5.out 7).trans rfl
  obtain ⟨f, hmem, hf, hcal⟩ := does_all HI5.out HG.out x HD.out
  have hlk := HM5.out.look x.kind _ hmem (by
    intro p hp hpx
    simp only [fnsA, List.mem_cons, List.not_mem_nil, or_false] at hp hmem
    rcases hp with rfl | rfl | rfl | rfl | rfl <;> rcases hmem with hm | hm | hm | hm | hm <;> simp_all)
  have HC := Aside0.mk hcal
  clear hmem hcal
  have HDF := Aside0.mk (fun (W' : World) (hd : DoP own gb (doesF ps x) W5 W') => hd.behind (below_step HB.out HB5.out))
  rcases hf with rfl | rfl | rfl | rfl | rfl
  all_goals
    go_wp2_with (first | simp only [e1] | simp only [e2] | simp only [e3] | simp only [e4] | simp only [e5] | simp only [hlk])
    refine HC.out.mono ?_
    rintro e w6 ⟨rfl, hdo⟩
    have HDO := Aside0.mk (HDF.out w6 hdo)
    clear hdo
    go_wp2_with fail
    exact bodyPost_ret (v := .int .i64 0) (by simp [results, Try.results15, go_sem]) rfl ⟨rfl, HDO.out⟩
end Go.Proofs.Ytofegigbhohebaa.Hand
