/- (Chain).own: a chain in memory of its own. -/
import Derived.Test.YtpcoelimabojcaaHC8
namespace Go.Proofs.Ytpcoelimabojcaa.Hand
open Go.RowKit Go.Proofs.Ytpcoelimabojcaa Go.Proofs.YtpcoelimabojcaaW.PrintWords Go.Proofs.YtpcoelimabojcaaW.PrintLast
set_option linter.unusedVariables false
set_option linter.unusedSimpArgs false
set_option maxHeartbeats 8000000 in
set_option maxRecDepth 100000 in
theorem cown_c (ow tr : Int) (A B : Option Addr) (c c2 : Nat) (ps qs : List PartV) (W : World) (hr : Kd.C k53 W A ps.length ps) (hq : Kd.C k53 W B qs.length qs) (hl : (ps.length + qs.length) * 40 ≤ 140737488355328) (hn : ∀ p ∈ ps ++ qs, p.nodes.length * 8 ≤ 140737488355328) :
    Calls Try.prog 37 #[.agg #[.int .i64 ow, .int .i64 tr, .slice A ps.length c], .slice B qs.length c2] W fun e W' => ∃ A' c', e = .returned (.agg #[.int .i64 ow, .int .i64 tr, .slice A' (ps.length + qs.length) c']) ∧ Kd.R k53 53 W' 0 (fun k => W.heap.size ≤ k) (.slice A' (ps.length + qs.length) c') (ps ++ qs) ∧ Below W.heap.size W W' := by
  obtain ⟨ras, hra, hCa, hoa⟩ := raw_of hr
  obtain ⟨rbs, hrb, hCb, hob⟩ := raw_of hq
  have HCA := Aside0.mk hCa
  have HCB := Aside0.mk hCb
  have HOK := Aside0.mk (show ∀ i (hi : i < (ps ++ qs).length), RawOk W (ps ++ qs)[i] ((ras ++ rbs).getD i rawz) from fun i hi => by
    rcases Nat.lt_or_ge i ps.length with h | h
    · rw [List.getElem_append_left h, List.getD_eq_getElem?_getD, List.getElem?_append_left (by omega), ← List.getD_eq_getElem?_getD]
      exact hoa i h
    · have hi2 : i - ps.length < qs.length := by rw [List.length_append] at hi; omega
      rw [List.getElem_append_right h, List.getD_eq_getElem?_getD, List.getElem?_append_right (by omega), hra, ← List.getD_eq_getElem?_getD]
      exact hob _ hi2)
  have HLN := Aside0.mk (show (ras ++ rbs).length = ps.length + qs.length by rw [List.length_append, hra, hrb])
  have HN := Aside0.mk hn
  clear hr hq hn hra hrb hCa hCb hoa hob
  obtain ⟨o1, ho1⟩ : ∃ o1 : Obj, o1 = .cells #[.int .i64 ow, .int .i64 tr, .slice A ps.length c] 27 (0, 0) := ⟨_, rfl⟩
  obtain ⟨o2, ho2⟩ : ∃ o2 : Obj, o2 = .cells #[.int .i64 0, .int .i64 0, .slice none 0 0] 27 (0, 0) := ⟨_, rfl⟩
  obtain ⟨o3, ho3⟩ : ∃ o3 : Obj, o3 = .cells #[.int .i64 ow, .int .i64 tr, .slice none 0 0] 27 (0, 0) := ⟨_, rfl⟩
  obtain ⟨o4, ho4⟩ : ∃ o4 : Obj, o4 = .cells #[.slice A ps.length c, .slice B qs.length c2] 25 (0, 0) := ⟨_, rfl⟩
  have e1 : (W.alloc o1).heap.size = W.heap.size + 1 := Array.size_push _
  have e2 : ((W.alloc o1).alloc o2).heap.size = W.heap.size + 1 + 1 := by rw [← e1]; exact Array.size_push _
  have e3 : (((W.alloc o1).alloc o2).alloc o3).heap.size = W.heap.size + 1 + 1 + 1 := by rw [← e2]; exact Array.size_push _
  have e4 : ((((W.alloc o1).alloc o2).alloc o3).alloc o4).heap.size = W.heap.size + 1 + 1 + 1 + 1 := by rw [← e3]; exact Array.size_push _
  have b2 := blk_alloc (blk_alloc (heap_alloc_new (W.alloc o1) o2) o3) o4
  rw [e1] at b2
  have BR0 := Aside0.mk b2
  have b3 := blk_alloc (heap_alloc_new ((W.alloc o1).alloc o2) o3) o4
  rw [e2] at b3
  have BO0 := Aside0.mk b3
  have b4 := heap_alloc_new (((W.alloc o1).alloc o2).alloc o3) o4
  rw [e3] at b4
  have B40 := Aside0.mk b4
  have HB0 := Aside0.mk (below_alloc (below_alloc (below_alloc (below_alloc (Below.refl W.heap.size W) o1) o2) o3) o4)
  have E4 := Aside0.mk e4
  subst ho1 ho2 ho3 ho4
  clear b2 b3 b4 e1 e2 e3 e4
  go_enter Try.func37, Try.ntmps37
  go_wp2_with fail
  have hsz := E4.out
  have hBw := HB0.out
  have hX0 := (blk_cell B40.out 0).trans rfl
  generalize ((((W.alloc (.cells #[.int .i64 ow, .int .i64 tr, .slice A ps.length c] 27 (0, 0))).alloc (.cells #[.int .i64 0, .int .i64 0, .slice none 0 0] 27 (0, 0))).alloc (.cells #[.int .i64 ow, .int .i64 tr, .slice none 0 0] 27 (0, 0))).alloc (.cells #[.slice A ps.length c, .slice B qs.length c2] 25 (0, 0))) = Wd at *
  refine (concat_c none A B ⟨W.heap.size + 1 + 1 + 1, 0, none⟩ ps.length qs.length c c2 2 ras rbs Wd ((blk_cell B40.out 0).trans rfl) ((blk_cell B40.out 1).trans rfl) (Kd.C_below HCA.out HB0.out) (Kd.C_below HCB.out HB0.out) hl).mono ?_
  rintro e WS ⟨v, rfl, hR, hb⟩
  obtain ⟨Ac, cc, rfl⟩ := Kd.R_slice hR
  have HLN' := HLN.out
  obtain ⟨N, hN⟩ : ∃ N, (ras ++ rbs).length = N := ⟨_, rfl⟩
  have HRS := Aside0.mk (show Kd.R kRaw 53 WS 0 (fun k => Wd.heap.size ≤ k) (.slice Ac N cc) (ras ++ rbs) from by rw [← hN]; exact hR)
  rw [hN]
  have HNN := Aside0.mk (show N = ps.length + qs.length from by rw [← hN]; exact HLN.out)
  have HNL := Aside0.mk hN
  have hNb : N * 40 ≤ 140737488355328 := by rw [HNN.out]; exact hl
  have BR := Aside0.mk (blk_below BR0.out hb)
  have BO := Aside0.mk (blk_below BO0.out hb)
  have HBS := Aside0.mk (HB0.out.trans (hb.mono HB0.out.size))
  have hszS : Wd.heap.size ≤ WS.heap.size := hb.size
  clear hR hb hN HLN' hX0 hBw BR0 BO0 B40 HB0 E4 HCA HCB hl
  obtain ⟨pq, hpq⟩ : ∃ pq, ps ++ qs = pq := ⟨_, rfl⟩
  have HPQ := Aside0.mk hpq
  rw [hpq] at HOK HN
  have hpl : pq.length = N := by rw [← hpq, List.length_append, HNN.out]
  have HPL := Aside0.mk hpl
  clear hpq hpl HLN
  go_wp2_with fail
  go_loopw [19] (fun u19 wr => ∃ (i : Nat) (v' : Value), i ≤ N ∧ u19 = .int .i64 i ∧ Aside0 (Fr (fun k => k = W.heap.size + 1 + 1) WS wr) ∧ Aside0 (wr.heap[W.heap.size + 1 + 1]? = some (.cells #[.int .i64 ow, .int .i64 tr, v'] 27 (0, 0))) ∧ Aside0 (Kd.R k53 53 wr 0 (fun k => WS.heap.size ≤ k) v' (pq.take i))) (fun u19 wr => N - (intOf u19).toNat)
  case atStart => exact ⟨0, _, by omega, rfl, ⟨Fr.refl _ _⟩, BO, ⟨Kd.R_nil _ _ _ _ _⟩⟩
  case round =>
    obtain ⟨i, v', hi, rfl, HF, BW, HO⟩ := hrel
    clear BO
    by_cases hi1 : i < N
    · have hd : decide ((i : Int) < (N : Int)) = true := by rw [decide_eq_true_eq]; omega
      have HRW := Aside0.mk (HF.out.R HRS.out (fun k hk e => by omega))
      have hlr : 0 < (ras ++ rbs).length := by rw [HNL.out]; omega
      obtain ⟨gc, cap', hv, _, hltc, _, _⟩ := Kd.R_form HRW.out hlr
      rw [HNL.out] at hv
      injection hv with e1 _ e2
      subst e1 e2
      obtain ⟨cs, hcl, hM, hcc, _⟩ := Kd.R_elem HRW.out rawz (i : Int) (by omega) (by omega)
      rw [Int.toNat_natCast] at hM hcc
      have hcs := kRaw_openM hM
      subst hcs
      obtain ⟨pA, pc, hrw, hpc, hCp⟩ := HOK.out i (by rw [HPL.out]; exact hi1)
      have hln := HN.out _ (List.getElem_mem (by rw [HPL.out]; exact hi1 : i < pq.length))
      have htk : pq.take (i + 1) = pq.take i ++ [pq[i]'(by rw [HPL.out]; exact hi1)] := by simp
      rw [hrw] at hcc
      obtain ⟨pt, hpt⟩ : ∃ pt, pq[i]'(by rw [HPL.out]; exact hi1) = pt := ⟨_, rfl⟩
      rw [hpt] at hcc hpc hCp hln htk
      clear hpt hrw hM hcl
      obtain ⟨pf, pid, pl⟩ := pt
      dsimp only at hcc hpc hCp hln htk
      have y0 : wr.cell? ⟨gc, i * 3, none⟩ = some (.int .i64 pf) := hcc 0 _ rfl
      have y1 : wr.cell? ⟨gc, i * 3 + 1, none⟩ = some (.int .i64 pid) := hcc 1 _ rfl
      have y2 : wr.cell? ⟨gc, i * 3 + 2, none⟩ = some (.slice pA pl.length pc) := hcc 2 _ rfl
      have HTK := Aside0.mk htk
      have HCP := Aside0.mk hCp
      have HBW := Aside0.mk (show Below W.heap.size W wr from HBS.out.trans ⟨HF.out.os, HF.out.tape, HF.out.output, HF.out.size, fun k hk => HF.out.block k (Nat.lt_of_lt_of_le hk HBS.out.size) (by omega)⟩)
      clear hcc htk hCp HRW
      obtain ⟨ov, hov⟩ : ∃ ov, ov = Obj.cells #[.int .i64 pf, .int .i64 pid, .slice pA pl.length pc] 53 (0, 0) := ⟨_, rfl⟩
      have BV := Aside0.mk (heap_alloc_new wr ov)
      have BWa := Aside0.mk (blk_alloc BW.out ov)
      have hszw := HF.out.size
      subst hov
      go_wp2_with fail
      refine (clone_c pA pc pl _ (Kd.C_below HCP.out (below_alloc HBW.out _)) hln).mono ?_
      rintro e w5 ⟨v5, rfl, hR5, hb5⟩
      obtain ⟨A5, c5, rfl⟩ := Kd.R_slice hR5
      have hbw5 := below_step (below_alloc (Below.refl wr.heap.size wr) (.cells #[.int .i64 pf, .int .i64 pid, .slice pA pl.length pc] 53 (0, 0))) hb5
      have HBw5 := Aside0.mk hbw5
      have BV5 := Aside0.mk (blk_below BV.out hb5)
      have BO5 := Aside0.mk (blk_below BWa.out hb5)
      have hsa : (wr.alloc (.cells #[.int .i64 pf, .int .i64 pid, .slice pA pl.length pc] 53 (0, 0))).heap.size = wr.heap.size + 1 := Array.size_push _
      have HRn := Aside0.mk (show Kd.R (Kd.int .i64) 3 w5 0 (fun k => wr.heap.size < k) (.slice A5 pl.length c5) pl from Kd.R_lower (Kd.R_mono (Kd.R_bound hR5) (fun k h => by have := h.2.1; omega)) (Nat.zero_le _))
      have hq2 : W.heap.size + 1 + 1 < wr.heap.size := blk_lt BW.out
      obtain ⟨Av, cv, hv'⟩ := Kd.R_slice HO.out
      have hli : (pq.take i).length = i := by rw [List.length_take, HPL.out]; omega
      rw [hli] at hv'
      subst hv'
      have HLI := Aside0.mk hli
      have z5 : w5.cell? ⟨wr.heap.size, 2, none⟩ = some (.slice pA pl.length pc) := (blk_cell BV5.out 2).trans rfl
      have f5 := blk_frozen BV5.out 2
      have bv6 := blk_put BV5.out 2 (.slice A5 pl.length c5) rfl
      have bo6 : (w5.setCell ⟨wr.heap.size, 2, none⟩ (.slice A5 pl.length c5)).heap[W.heap.size + 1 + 1]? = some (.cells #[.int .i64 ow, .int .i64 tr, .slice Av i cv] 27 (0, 0)) := (Below.heap_setCell _ _ _ _ (by intro e; simp only at e; omega)).trans BO5.out
      have a0 : (w5.setCell ⟨wr.heap.size, 2, none⟩ (.slice A5 pl.length c5)).cell? ⟨wr.heap.size, 0, none⟩ = some (.int .i64 pf) := (blk_cell bv6 0).trans rfl
      have a1 : (w5.setCell ⟨wr.heap.size, 2, none⟩ (.slice A5 pl.length c5)).cell? ⟨wr.heap.size, 1, none⟩ = some (.int .i64 pid) := (blk_cell bv6 1).trans rfl
      have a2 : (w5.setCell ⟨wr.heap.size, 2, none⟩ (.slice A5 pl.length c5)).cell? ⟨wr.heap.size, 2, none⟩ = some (.slice A5 pl.length c5) := (blk_cell bv6 2).trans rfl
      have ao : (w5.setCell ⟨wr.heap.size, 2, none⟩ (.slice A5 pl.length c5)).cell? ⟨W.heap.size + 1 + 1, 2, none⟩ = some (.slice Av i cv) := (blk_cell bo6 2).trans rfl
      have HRN6 := Aside0.mk (Kd.R_set HRn.out BV5.out (by decide) 2 (.slice A5 pl.length c5))
      have hf6 : Fr (fun k => k = wr.heap.size) wr (w5.setCell ⟨wr.heap.size, 2, none⟩ (.slice A5 pl.length c5)) := (Fr.of_below hbw5).trans (Fr.set (F := fun k => k = wr.heap.size) w5 wr.heap.size 2 _ rfl) (fun q hq => .inl hq)
      have HF6 := Aside0.mk hf6
      have HO6 := Aside0.mk (hf6.R (Kd.R_bound HO.out) (fun k hk e => by have := hk.2.2.1; omega))
      have hs6 : wr.heap.size < (w5.setCell ⟨wr.heap.size, 2, none⟩ (.slice A5 pl.length c5)).heap.size := by have := hf6.size; exact blk_lt bv6
      have BO6 := Aside0.mk bo6
      have hbnd := Kd.R_bound HO.out
      have hokp : ∀ k, wr.heap.size < k → WS.heap.size ≤ k ∧ some k ≠ (Value.slice Av i cv).ownBlock := fun k hk => ⟨by omega, fun e => by have := (hbnd.1 k e.symm).2.2.1; omega⟩
      have hfresh : ∀ (wl : World) k, wr.heap.size < wl.heap.size → wl.heap.size ≤ k → WS.heap.size ≤ k := fun wl k h1 h2 => by omega
      have hown : some (W.heap.size + 1 + 1) ≠ (Value.slice Av i cv).ownBlock := fun e => by have := HO.out.1 _ e.symm; omega
      have hl1 : (pq.take (i + 1)).length = i + 1 := by rw [List.length_take, HPL.out]; omega
      have HL1 := Aside0.mk hl1
      have HKP := Aside0.mk hokp
      clear hR5 hb5 hbw5 BV BWa HRn bv6 bo6 hf6 hli hsa hbnd hl1 hokp
      go_wp2_with (first | ((with_reducible refine gate_dst (N := 32) rfl ?_); refine Kd.R_lit k53 (w0 := (w5.setCell ⟨wr.heap.size, 2, none⟩ (.slice A5 pl.length c5))) 0 53 ?hg (N := 32) ?hd (xs := [(⟨pf, pid, pl⟩ : PartV)]) (inner := [.int .i64 pf, .int .i64 pid, .slice A5 pl.length c5]) (ok := fun k => wr.heap.size < k) (okp := fun k => wr.heap.size < k) ?hr ?hp (fun _ hk => hk) ?hf (Below.refl _ _) (Nat.zero_le _) (by simp) ?_; (case hg => rfl); (case hd => rfl); (case hr => first | (go_simp; done) | (go_simp; rfl)); (case hp => exact (Reps.snoc (Reps.none _ 3) (k53_mkM (x := (⟨pf, pid, pl⟩ : PartV)) HRN6.out) rfl)); (case hf => exact hs6); intro vl_ wl_ HOl_ _ hgl_ _; obtain ⟨A6, c6, hv6, _, hx6⟩ := OwnRow.reads HOl_.2; subst hv6; have hb6 : Below (w5.setCell ⟨wr.heap.size, 2, none⟩ (.slice A5 pl.length c5)).heap.size (w5.setCell ⟨wr.heap.size, 2, none⟩ (.slice A5 pl.length c5)) wl_ := ⟨hgl_.os, hgl_.tape, hgl_.output, hgl_.size, fun k hk => hgl_.block k hk (by simp)⟩; have HX := Aside0.mk (hx6.imp_ (Below.refl _ _) (fun p c h => k53.M_mono (fun k hk => hk.1) h)); have HO7 := Aside0.mk (Kd.R_mono (ok' := fun k => WS.heap.size ≤ k) (Kd.R_below HO6.out hb6) (fun _ h => h.1)); have BO7 := Aside0.mk (blk_below BO6.out hb6); have HF7 := Aside0.mk (HF6.out.trans (Fr.of_below (F := fun _ => False) hb6) (fun _ h => h.elim)); have hs7 := Nat.lt_of_lt_of_le hs6 hb6.size; clear HOl_ hgl_ hx6 hb6 HO6 BO6 HF6) | (refine Kd.R_append_rows k53 (Rr := k53.M wl_ 0 (fun k => wr.heap.size < k)) (w0 := wl_) 0 rfl (.tmp 30) (.tmp 32) 25 53 (.agg #[.int .i64 0, .int .i64 0, .slice none 0 0]) 40 rfl Try.underlying25 infoP rfl (by decide) (by decide) (.slice Av i cv) (pq.take i) [(⟨pf, pid, pl⟩ : PartV)] A6 _ c6 (fun k => WS.heap.size ≤ k) (fun k => wr.heap.size < k) ?e1 ?e2 HO7.out HX.out (fun _ _ h => h) HKP.out (fun k hk => hfresh wl_ k hs7 hk) (Below.refl _ _) (Nat.zero_le _) ?e7 ?_; (case e1 => rfl); (case e2 => rfl); (case e7 => (rw [HLI.out]; show (i + 1) * 40 ≤ _; omega)); intro v7 w7 ho7 _ hg7 _; rw [← HTK.out] at ho7; obtain ⟨A7, c7, hv7⟩ := Kd.R_slice ho7; rw [HL1.out] at hv7; subst hv7; have BO8 := Aside0.mk (blk_grown BO7.out hg7 hown); have z8 : w7.cell? ⟨W.heap.size + 1 + 1, 2, none⟩ = some (.slice Av i cv) := (blk_cell BO8.out 2).trans rfl; have f8 := blk_frozen BO8.out 2; have HO8 := Aside0.mk ho7; have HF8 := Aside0.mk ((HF.out.trans HF7.out (fun q hq => .inr (by omega))).trans (Fr.of_grown (F := fun k => WS.heap.size ≤ k) hg7 (fun q hq => HO7.out.1 q hq.symm)) (fun q hq => .inr hq)); clear ho7 hg7 HX HO7 BO7 HF7))
      refine ⟨⟨i + 1, .slice A7 (i + 1) c7, by omega, by go_num, ⟨HF8.out.trans (Fr.set (F := fun k => k = W.heap.size + 1 + 1) w7 _ 2 _ rfl) (fun q hq => .inl hq)⟩, ⟨blk_put BO8.out 2 (.slice A7 (i + 1) c7) rfl⟩, ⟨Kd.R_set HO8.out BO8.out (by decide) 2 _⟩⟩, by simp [intOf]; omega⟩
    · have hd : decide ((i : Int) < (N : Int)) = false := by rw [decide_eq_false_iff_not]; omega
      obtain rfl : i = N := by omega
      have ho := HO.out
      rw [List.take_of_length_le (by rw [HPL.out]; omega)] at ho
      obtain ⟨A7, c7, rfl⟩ := Kd.R_slice ho
      rw [HPL.out, ← HPQ.out] at ho
      have HO2 := Aside0.mk (Kd.R_mono (ok' := fun k => W.heap.size ≤ k) ho (fun k hk => Nat.le_trans HBS.out.size hk))
      have br := HF.out.blk BR.out (by omega)
      have HBW := Aside0.mk (show Below W.heap.size W wr from HBS.out.trans ⟨HF.out.os, HF.out.tape, HF.out.output, HF.out.size, fun k hk => HF.out.block k (Nat.lt_of_lt_of_le hk HBS.out.size) (by omega)⟩)
      have hbo := BW.out
      rw [HPL.out] at hbo
      have HNN2 := HNN.out
      have y0 : wr.cell? ⟨W.heap.size + 1 + 1, 0, none⟩ = some (.int .i64 ow) := (blk_cell hbo 0).trans rfl
      have y1 : wr.cell? ⟨W.heap.size + 1 + 1, 1, none⟩ = some (.int .i64 tr) := (blk_cell hbo 1).trans rfl
      have y2 : wr.cell? ⟨W.heap.size + 1 + 1, 2, none⟩ = some (.slice A7 i c7) := (blk_cell hbo 2).trans rfl
      have z0 : wr.cell? ⟨W.heap.size + 1, 0, none⟩ = some (.int .i64 0) := (blk_cell br 0).trans rfl
      have z1 : wr.cell? ⟨W.heap.size + 1, 1, none⟩ = some (.int .i64 0) := (blk_cell br 1).trans rfl
      have z2 : wr.cell? ⟨W.heap.size + 1, 2, none⟩ = some (.slice none 0 0) := (blk_cell br 2).trans rfl
      have f0 := blk_frozen br 0
      have f1 := blk_frozen br 1
      have f2 := blk_frozen br 2
      have BRw := Aside0.mk br
      have HNN3 := Aside0.mk HNN2
      clear ho HO HN hbo br BW BR HF HNN2 HRS HOK
      go_wp2_with fail
      have K3 := put3 (x := .int .i64 ow) (y := .int .i64 tr) (z := .slice A7 i c7) BRw.out
      have HR3 := Aside0.mk (put3_R (x := .int .i64 ow) (y := .int .i64 tr) (z := .slice A7 i c7) HO2.out BRw.out (by decide))
      have HB3 := Aside0.mk (put3_B (x := .int .i64 ow) (y := .int .i64 tr) (z := .slice A7 i c7) HBW.out (show W.heap.size ≤ W.heap.size + 1 by omega))
      clear y0 y1 y2 z0 z1 z2 f0 f1 f2 BRw HBW HO2
      generalize (((wr.setCell ⟨W.heap.size + 1, 0, none⟩ (.int .i64 ow)).setCell ⟨W.heap.size + 1, 1, none⟩ (.int .i64 tr)).setCell ⟨W.heap.size + 1, 2, none⟩ (.slice A7 i c7)) = w6 at *
      have r0 : w6.cell? ⟨W.heap.size + 1, 0, none⟩ = some (.int .i64 ow) := (blk_cell K3 0).trans rfl
      have r1 : w6.cell? ⟨W.heap.size + 1, 1, none⟩ = some (.int .i64 tr) := (blk_cell K3 1).trans rfl
      have r2 : w6.cell? ⟨W.heap.size + 1, 2, none⟩ = some (.slice A7 i c7) := (blk_cell K3 2).trans rfl
      exact bodyPost_ret (v := .agg #[.int .i64 ow, .int .i64 tr, .slice A7 i c7]) (by simp [results, Try.results37, go_sem, r0, r1, r2]) rfl ⟨A7, c7, by rw [← HNN3.out], by rw [← HNN3.out]; exact HR3.out, HB3.out⟩
end Go.Proofs.Ytpcoelimabojcaa.Hand
