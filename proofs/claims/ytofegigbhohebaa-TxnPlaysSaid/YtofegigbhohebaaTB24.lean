/- Clone, Places. -/
import Derived.Test.YtofegigbhohebaaTB19
namespace Go.Proofs.Ytofegigbhohebaa.Hand
open Go.RowKit Go.Proofs.Ytofegigbhohebaa Go.Proofs.YtofegigbhohebaaW.PrintWords Go.Proofs.YtofegigbhohebaaW.PrintLast
set_option linter.unusedVariables false
set_option linter.unusedSimpArgs false
theorem eq_nil0 (n c : Nat) (w : World) : (binOp .eql 48 (.slice none n c) (.slice none 0 0)).run Try.prog w = .ok (.bool true) w := by kernel_rfl
theorem eq_nil1 (ad : Addr) (n c : Nat) (w : World) : (binOp .eql 48 (.slice (some ad) n c) (.slice none 0 0)).run Try.prog w = .ok (.bool false) w := by kernel_rfl
theorem infoI64 : (Try.prog.info? 3).map (fun i => (i.zero, i.size, i.bytes)) = some (some (.int .i64 0), 1, 8) := by kernel_rfl
set_option maxHeartbeats 1600000 in
set_option maxRecDepth 100000 in
theorem clone_c (A : Option Addr) (c : Nat) (l : List Int) (W : World) (hr : Kd.C (Kd.int .i64) W A l.length l) (hl : l.length * 8 ≤ 140737488351232) :
    Calls Try.prog 43 #[.slice A l.length c] W fun e W' => ∃ v, e = .returned v ∧ Kd.R (Kd.int .i64) 3 W' W.heap.size (fun _ => True) v l ∧ Below W.heap.size W W' := by
  have HR := Aside0.mk hr
  rcases A with _ | ad
  · have h0 : l = [] := by
      rcases Nat.eq_zero_or_pos l.length with h0 | h0
      · exact List.eq_nil_of_length_eq_zero h0
      · obtain ⟨ad, h, _⟩ := hr.2.2 h0
        cases h
    subst h0
    clear hr
    have q0 := eq_nil0
    go_enter Try.func43, Try.ntmps43
    go_wp2_with fail
    go_ret
    exact ⟨_, rfl, Kd.R_nil _ _ _ _ _, Below.refl _ _⟩
  · clear hr
    have q0 := eq_nil1
    go_enter Try.func43, Try.ntmps43
    go_wp2_with (first
      | ((with_reducible refine gate_dst (N := 5) rfl ?_); refine Kd.R_lit (Kd.int .i64) (w0 := W) W.heap.size 3 ?hg (N := 5) ?hd (xs := ([] : List Int)) (inner := []) (ok := fun _ => True) (okp := fun _ => True) ?hr ?hp (fun _ hk => hk) trivial (Below.refl _ _) (Nat.le_refl _) (by simp) ?_; (case hg => rfl); (case hd => rfl); (case hr => first | (go_simp; done) | (go_simp; rfl)); (case hp => exact Reps.none _ _); intro vl_ wl_ HOl_ hbl_ hgl_ hatl_; have HCl_ := Kd.C_below HR.out hbl_; clear hgl_ hatl_)
      | (refine Kd.R_append_row (Value.int .i64) 0 W.heap.size rfl (.tmp 5) (.tmp 6) 48 3 (.int .i64 0) 8 rfl Try.underlying48 infoI64 rfl (by omega) vl_ [] l (some ad) _ c (fun _ => True) rfl rfl (fun _ _ => trivial) HOl_ HCl_ hbl_ (below_size hbl_) (by simp; omega) ?_; intro v1_ W1_ ho_ hb_ hg_ hat_; clear HOl_ HCl_ hbl_ hg_ hat_))
    go_ret
    exact ⟨_, rfl, ho_, hb_⟩
variable {own : Nat → Nat} {gb : Nat} {gs : List Nat} {ps : List ProdV} {w w' : World}
set_option maxHeartbeats 1600000 in
set_option maxRecDepth 100000 in
theorem places_c (h : BI own gb gs ps w) (hg : Good ps) (k : Int) : Calls Try.prog 21 #[.pointer (some ⟨gb, 0, none⟩), .int .i64 k] w fun e w' => ∃ v, e = .returned v ∧ Kd.R (Kd.int .i64) 3 w' w.heap.size (fun _ => True) v (placesF ps k) ∧ Below w.heap.size w w' := by
  have HS := Aside0.mk (status_c h k)
  have HI := Aside0.mk h
  by_cases hk : 0 ≤ k ∧ k < ps.length
  · have HF := Aside0.mk (show statusF ps k = ((prodAt ps k).status, (prodAt ps k).epoch, true) from if_pos hk)
    rw [HF.out] at HS
    have HF2 := Aside0.mk (show placesF ps k = (prodAt ps k).places from if_pos hk)
    rw [HF2.out]
    clear HF HF2
    obtain ⟨hk0, hk1⟩ := hk
    obtain ⟨j, rfl⟩ := Int.eq_ofNat_of_zero_le hk0
    have hj : j < ps.length := by omega
    have HG := Aside0.mk (hg.at_ hj)
    clear h hk0 hk1
    go_enter Try.func21, Try.ntmps21
    have PL := Aside0.mk (show prodAt ps (j : Int) = ps.getD j prod0 by unfold prodAt; rw [Int.toNat_natCast])
    rw [PL.out] at HS ⊢
    generalize hP : ps.getD j prod0 = p at HG HS ⊢
    have HPE := Aside0.mk hP
    clear PL hP
    go_wp2_with (first
      | (go_at_call 18; refine HS.out.mono ?_; rintro e w1 ⟨rfl, hb1⟩; have HB1 := Aside0.mk hb1; have HI1 := Aside0.mk (HI.out.below hb1); clear hb1; obtain ⟨A2, c2, B2, b0, -, -, -, hmax, hrow⟩ := HI1.out.cells; obtain ⟨ad, hA, hcell⟩ := hrow j hj; subst hA; clear hrow; obtain ⟨hog, v, hb, hv⟩ := HI1.out.prod j hj; rw [HPE.out] at hb hv; obtain ⟨Av, cv, rfl⟩ := Kd.R_slice hv; generalize gs.getD j 0 = g at hb hcell; have HK := Aside0.mk (clone_c Av cv p.places w1 (Kd.R_reads' hv).2.2 (by have := HG.out.len; omega)); have p5 : w1.cell? ⟨g, 5, none⟩ = some (.slice Av p.places.length cv) := (blk_cell hb 5).trans rfl; clear hb hv hog)
      | (go_at_call 43; refine HK.out.mono ?_; rintro e w2 ⟨v, rfl, hr2, hb2⟩; have HR2 := Aside0.mk hr2; have HB2 := Aside0.mk hb2; clear hr2 hb2))
    exact bodyPost_ret (v := v) (by simp [results, Try.results21, go_sem]) rfl ⟨v, rfl, Kd.R_lower HR2.out HB1.out.size, below_step HB1.out HB2.out⟩
  · rw [show placesF ps k = [] from if_neg hk]
    rw [show statusF ps k = (0, 0, false) from if_neg hk] at HS
    clear h hk
    go_enter Try.func21, Try.ntmps21
    go_wp2_with (go_at_call 18; refine HS.out.mono ?_; rintro e w1 ⟨rfl, hb1⟩; have HB1 := Aside0.mk hb1; clear hb1)
    exact bodyPost_ret (v := .slice none 0 0) (by simp [results, Try.results21, go_sem]) rfl ⟨_, rfl, Kd.R_nil _ _ _ _ _, HB1.out⟩
end Go.Proofs.Ytofegigbhohebaa.Hand
