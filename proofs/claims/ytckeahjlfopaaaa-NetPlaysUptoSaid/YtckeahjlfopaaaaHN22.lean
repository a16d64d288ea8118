/- step, a call of kind 1. -/
import Derived.Test.YtckeahjlfopaaaaHN19
namespace Go.Proofs.Ytckeahjlfopaaaa.Hand
open Go.RowKit Go.Proofs.Ytckeahjlfopaaaa Go.Proofs.YtckeahjlfopaaaaW.PrintWords Go.Proofs.YtckeahjlfopaaaaW.PrintLast
set_option linter.unusedVariables false
set_option linter.unusedSimpArgs false
set_option maxHeartbeats 40000000 in
set_option maxRecDepth 100000 in
theorem step_k1 {W : World} {F0 : Nat → Prop} {g r : Nat} {lu : List Int} {la : List (Int × List Int)} (h : PI W F0 g r lu la) (ki nn : Int) (A1 A2 : Option Addr) (c1 c2 : Nat) (b l : List Int) (hr1 : ∀ W', Fr F0 W W' → Kd.C (Kd.int .u8) W' A1 b.length b) (hr2 : ∀ W', Fr F0 W W' → Kd.C (Kd.int .i64) W' A2 l.length l)
 (h1 : ki = 1)
    (hlu : (lu.length + l.length) * 8 ≤ 140737488355328) (hla : (la.length + 1) * 32 ≤ 140737488355328) (hb : b.length ≤ 140737488351232) (hm : ∀ m ∈ la, m.2.length ≤ 140737488351232) :
    Calls Try.prog 17 #[.pointer (some ⟨g, 0, none⟩), .pointer (some ⟨r, 0, none⟩), .agg #[.int .i64 ki, .int .i64 nn, .slice A1 b.length c1, .slice A2 l.length c2]] W (StepP F0 W g r (lu.length + l.length) (la.length + 1)) := by
  obtain ⟨F1, F2, hx⟩ := PX.start h (.cells #[.int .i64 ki, .int .i64 nn, .slice A1 b.length c1, .slice A2 l.length c2] 35 (0, 0))
  have HP := Aside0.mk hx
  have H0 := Aside0.mk h.lt
  have H1 := Aside0.mk hr1
  have H2 := Aside0.mk hr2
  have HM := Aside0.mk hm
  clear hx h hr1 hr2 hm
  have k0 : ((1 : Int) == 0) = false := by decide
  subst h1
  have HL1 := Aside0.mk HP.out.n.lt
  have HL2 := Aside0.mk HP.out.d.lt
  have qs := blk_lt HP.out.box
  go_enter Try.func17, Try.ntmps17
  go_wp2_with fail
  refine (lent_c A1 c1 b _ (H1.out _ HP.out.fr) hb).mono ?_
  rintro e W1 ⟨Ax, cx, rfl, hR1, hb1⟩
  have HP1 := Aside0.mk (HP.out.below hb1)
  have HR1 := Aside0.mk (Kd.R_bound (R_fresh hR1))
  have hcx := (Kd.R_reads' hR1).2.1
  have b1 : W1.cell? ⟨W.heap.size, 1, none⟩ = some (.int .i64 nn) := (blk_cell HP1.out.box 1).trans rfl
  have b2 : W1.cell? ⟨W.heap.size, 2, none⟩ = some (.slice A1 b.length c1) := (blk_cell HP1.out.box 2).trans rfl
  clear hR1 HP
  generalize hwa : W.alloc (.cells #[.int .i64 1, .int .i64 nn, .slice A1 b.length c1, .slice A2 l.length c2] 35 (0, 0)) = Wa at *
  have hsz : Wa.heap.size = W.heap.size + 1 := by rw [← hwa]; exact Array.size_push _
  clear hwa
  go_wp2_with fail
  refine (send_c F1 g nn lu la Ax cx b W1 HP1.out.n (fun W' hf => C_lent (by have h := (Kd.R_reads' (hf.R HR1.out (fun k hk hf1 => by have := HL1.out k hf1; have := hk.1; omega))).2.2; rwa [List.length_append] at h)) hb hla).mono ?_
  rintro e W2 ⟨rfl, F1', k1, k2, k3⟩
  generalize hla1 : (if restF (hd0 lu) = 3 then la ++ [(nn, b)] else la) = la1 at k1
  have hl1 : la1.length ≤ la.length + 1 := by rw [← hla1]; split; (· simp); (· omega)
  have hm1 : ∀ m ∈ la1, m.2.length ≤ 140737488351232 := by
    rw [← hla1]; intro m hm; split at hm
    · rcases List.mem_append.1 hm with h | h
      · exact HM.out m h
      · rw [List.mem_singleton.1 h]; exact hb
    · exact HM.out m hm
  have HLA := Aside0.mk hla1
  have HM1 := Aside0.mk hm1
  have HP2 := Aside0.mk (HP1.out.net k1 k2 k3)
  have HK1 := Aside0.mk k2
  have HR2 := Aside0.mk (k3.R HR1.out (fun k hk hf1 => by have := HL1.out k hf1; have := hk.1; omega))
  have HS2 := Aside0.mk k3.size
  have b1 : W2.cell? ⟨W.heap.size, 1, none⟩ = some (.int .i64 nn) := (blk_cell HP2.out.box 1).trans rfl
  have b2 : W2.cell? ⟨W.heap.size, 2, none⟩ = some (.slice A1 b.length c1) := (blk_cell HP2.out.box 2).trans rfl
  clear k1 k2 k3 HP1 HR1 hla1 hm1 HM
  generalize hft : (fateF (restF (hd0 lu))).1 = ft
  generalize hfu : (fateF (restF (hd0 lu))).2 = fu
  have HFT := Aside0.mk (And.intro hft hfu)
  clear hft hfu
  go_wp2_with fail
  refine (send_r HP2.out.d nn A1 c1 b (fun W' hf => H1.out _ (HP2.out.fr.trans hf (fun k hk => (HP2.out.h2 k hk).1))) hb hla).mono ?_
  rintro e W3 ⟨rfl, F2', k1, k2, k3⟩
  rw [HFT.out.1, HFT.out.2]
  rw [HLA.out] at k1
  have HP3 := Aside0.mk (HP2.out.ref k1 k2 k3)
  have HK2 := Aside0.mk k2
  have HR3 := Aside0.mk (k3.R HR2.out (fun k hk hf1 => by have := HL2.out k hf1; have := hk.1; omega))
  have hs3 := k3.size
  have b2 : W3.cell? ⟨W.heap.size, 2, none⟩ = some (.slice A1 b.length c1) := (blk_cell HP3.out.box 2).trans rfl
  clear k1 k2 k3 HP2 HR2 HLA HFT
  have i1 := int_ne ft
  have i2 : (fu != fu) = false := by simp
  go_wp2_with fail
  refine (Stays_calls Ax cx A1 c1 b W3 (by have h := (Kd.R_reads' HR3.out).2.2; rwa [List.length_append] at h) hcx (H1.out _ HP3.out.fr)).mono ?_
  rintro e W4 ⟨rfl, hdr⟩
  have HPX := Aside0.mk (HP3.out.below hdr.below)
  have HRX := Aside0.mk (Kd.R_mono (ok' := fun k => Wa.heap.size ≤ k ∧ k < W1.heap.size) (Kd.R_below HR3.out hdr.below) (fun k hk => ⟨hk.1, hk.2.2.1⟩))
  have HLX := Aside0.mk (show (b ++ [201, 202]).length = b.length + 2 by simp)
  have HG1 := Aside0.mk (show ∀ k, F1' k → ¬ (Wa.heap.size ≤ k ∧ k < W1.heap.size) from fun k hk he => by
    rcases HK1.out k hk with h | h
    · have := HL1.out k h; omega
    · omega)
  have HG2 := Aside0.mk (show ∀ k, F2' k → ¬ (Wa.heap.size ≤ k ∧ k < W1.heap.size) from fun k hk he => by
    have h2 := HS2.out
    rcases HK2.out k hk with h | h
    · have := HL2.out k h; omega
    · omega)
  have HG3 := Aside0.mk (show ∀ k, (Wa.heap.size ≤ k ∧ k < W1.heap.size) → W.heap.size ≤ k ∧ k ≠ W.heap.size from fun k hk => by omega)
  clear HP3 HR3 hdr b2 HK1 HK2 HL1 HL2 HS2 hs3
  go_wp2_with fail
  (try clear hq1); (try clear hq2); (try clear hs1); (try clear hs2); (try clear i1); (try clear i2); (try clear HLX)
  go_loopw [12] (fun u wr => ∃ (i : Nat) (xs : List Int), i ≤ b.length ∧ xs.length = b.length + 2 ∧ u = .int .i64 i ∧ Aside0 (Kd.R (Kd.int .u8) 5 wr 0 (fun k => Wa.heap.size ≤ k ∧ k < W1.heap.size) (.slice Ax (b.length + 2) cx) xs) ∧ Aside0 (PX F0 W F1' F2' wr g r lu.tail la1 lu.tail la1 W.heap.size (.cells #[.int .i64 1, .int .i64 nn, .slice A1 b.length c1, .slice A2 l.length c2] 35 (0, 0)))) (fun u wr => b.length - (intOf u).toNat)
  case atStart => exact ⟨0, _, Nat.zero_le _, by simp, rfl, HRX, HPX⟩
  case round =>
    obtain ⟨i, xs, hi, hxs, rfl, HR', HP'⟩ := hrel
    clear HRX HPX
    by_cases hi1 : i < b.length
    · have hd : decide ((i : Int) < (((b.length : Nat)) : Int)) = true := by rw [decide_eq_true_eq]; omega
      have hRo := HR'.out
      obtain ⟨gx, cx', hv, _, _, _⟩ := Kd.R_form hRo (by omega)
      injection hv with e1 _ e2
      subst e1 e2
      have hgx := hRo.1 gx rfl
      have hcell := Kd.R_celln (0 : Int) hRo (i : Int) (by omega) (by omega)
      rw [Int.toNat_natCast] at hcell
      obtain ⟨x0, f0⟩ := hcell
      generalize rdOf (0 : Int) xs (i : Int) = xv at x0
      have HPUT := Aside0.mk (fun v => Kd.R_putn hRo (i : Int) v)
      have HGX := Aside0.mk hgx
      have HXS := Aside0.mk hxs
      clear hRo hgx hxs
      go_wp2_with fail
      go_roundw
      case rel =>
        exact ⟨i + 1, xs.set i (IntKind.u8.wrap (xv + 1)), by omega, by rw [List.length_set]; exact HXS.out, by go_num, ⟨HPUT.out _⟩, ⟨HP'.out.other (G := fun k => k = gx) (Fr.set _ gx _ _ rfl) (fun k hk e => HG1.out k hk (e ▸ HGX.out)) (fun k hk e => HG2.out k hk (e ▸ HGX.out)) (fun k e => HG3.out k (e ▸ HGX.out))⟩⟩
      case measure => simp [intOf]; omega
    · have hd : decide ((i : Int) < (((b.length : Nat)) : Int)) = false := by rw [decide_eq_false_iff_not]; omega
      obtain rfl : i = b.length := by omega
      have HPE := HP'
      clear HP' HR' HG1 HG2 HG3 hxs
      go_wp2_with fail
      have HX := Aside0.mk (HPE.out.below (below_drew (Below.refl _ _)))
      have hd_ := HPE.out.d
      obtain ⟨⟨FW, FL, Aw, cw, vm, _, g1, _, g3, _, _⟩, _, _⟩ := hd_
      obtain ⟨Av, cv, rfl⟩ := Kd.R_slice g3
      have HBr := Aside0.mk (blk_drew g1)
      clear g1 g3 HPE
      refine start_ (n := 19) (S := fun w' => w'.cell? ⟨r, 0, none⟩ = some (.slice Aw lu.tail.length cw) ∧ w'.cell? ⟨r, 1, none⟩ = some (.slice Av la1.length cv)) (ds := []) #[false, false, false, false, false, false, false, false, false, false, false, false, false, false, false, false, false, false, false] (by kernel_rfl) rfl rfl ⟨(blk_cell HBr.out 0).trans rfl, (blk_cell HBr.out 1).trans rfl⟩ (fun hHeld => ?_); refine with_tabW tabP31 bitsP31 (fun HT_ HW_ => ?_)
      generalize hwd : wr.drew = Wd at HX HBr hHeld ⊢
      clear hwd
      refine pure_ (i := 0) (N := (some 180)) (v := ?_) (a' := ?_) #[true, false, false, false, false, false, false, false, false, false, false, false, false, false, false, false, false, false, false] rfl rfl (any_of HT_.out (by kernel_rfl)) (fun _ _ _ h => h) (Or.inl ⟨by rfl, ?_⟩) ?_ ?_
      rotate_left
      · intro w'
        go_simp
        with_reducible rfl
      rotate_left
      · simp only [Act.put, List.setIfInBounds_toArray, List.set_cons_zero, List.set_cons_succ, i64_w, i32_w]
        rfl
      refine pure_ (i := 2) (N := (some 182)) (v := ?_) (a' := ?_) #[true, false, true, false, false, false, false, false, false, false, false, false, false, false, false, false, false, false, false] rfl rfl (any_of HT_.out (by kernel_rfl)) (fun _ _ _ h => h) (Or.inl ⟨by rfl, ?_⟩) ?_ ?_
      rotate_left
      · intro w'
        go_simp
        with_reducible rfl
      rotate_left
      · simp only [Act.put, List.setIfInBounds_toArray, List.set_cons_zero, List.set_cons_succ, i64_w, i32_w]
        rfl
      refine pure_ (i := 3) (N := (some 183)) (v := ?_) (a' := ?_) #[true, false, true, true, false, false, false, false, false, false, false, false, false, false, false, false, false, false, false] rfl rfl (any_of HT_.out (by kernel_rfl)) (fun _ _ _ h => h) (Or.inl ⟨by rfl, ?_⟩) ?_ ?_
      rotate_left
      · intro w'
        go_simp
        with_reducible rfl
      rotate_left
      · simp only [Act.put, List.setIfInBounds_toArray, List.set_cons_zero, List.set_cons_succ, i64_w, i32_w]
        rfl
      refine pure_ (i := 4) (N := (some 184)) (v := ?_) (a' := ?_) #[true, false, true, true, true, false, false, false, false, false, false, false, false, false, false, false, false, false, false] rfl rfl (any_of HT_.out (by kernel_rfl)) (fun _ _ _ h => h) (Or.inl ⟨by rfl, ?_⟩) ?_ ?_
      rotate_left
      · intro w'
        go_simp
        with_reducible rfl
      rotate_left
      · simp only [Act.put, List.setIfInBounds_toArray, List.set_cons_zero, List.set_cons_succ, i64_w, i32_w]
        rfl
      refine take_ (i := 5) (N := (some 185)) (v := ?_) (a' := ?_) #[true, false, true, true, true, true, false, false, false, false, false, false, false, false, false, false, false, false, false] rfl rfl (take_ofW HT_.out HW_.out (by kernel_rfl)) (fun _ _ _ h => h) (Or.inl ⟨by rfl, ?_⟩) hHeld ?_ ?_
      rotate_left
      · rintro w' ⟨s0, s1⟩
        go_simp
        with_reducible rfl
      rotate_left
      · simp only [Act.put, List.setIfInBounds_toArray, List.set_cons_zero, List.set_cons_succ, i64_w, i32_w]
        rfl
      refine pure_ (i := 6) (N := (some 186)) (v := ?_) (a' := ?_) #[true, false, true, true, true, true, true, false, false, false, false, false, false, false, false, false, false, false, false] rfl rfl (any_of HT_.out (by kernel_rfl)) (fun _ _ _ h => h) (Or.inl ⟨by rfl, ?_⟩) ?_ ?_
      rotate_left
      · intro w'
        go_simp
        with_reducible rfl
      rotate_left
      · simp only [Act.put, List.setIfInBounds_toArray, List.set_cons_zero, List.set_cons_succ, i64_w, i32_w]
        rfl
      refine one_ (i := 1) (N := (some 181)) #[true, true, true, true, true, true, true, false, false, false, false, false, false, false, false, false, false, false, false] rfl rfl (one_of HT_.out (by kernel_rfl)) (by decide) (fun K hK => ?_)
      refine goes_ Try.func11 (by kernel_rfl) rfl #[.pointer (some ⟨g, 0, none⟩)] (by rfl) rfl rfl (by (try simp only [List.map_toArray, List.map_cons, List.map_nil]); first | done | rfl) ?_
      refine (late_ni HX.out.n).mono ?_
      rintro e w5 ⟨rfl, rfl⟩
      refine ⟨_, rfl, ?_⟩
      refine hK.out _ _ ⟨(blk_cell HBr.out 0).trans rfl, (blk_cell HBr.out 1).trans rfl⟩ (fun hHeld => ?_)
      clear hK K
      refine norm_ (a' := ?_) ?_ ?_
      rotate_left
      · show Act.put _ (some 181) _ = _
        simp only [Act.put, List.setIfInBounds_toArray, List.set_cons_zero, List.set_cons_succ, i64_w, i32_w]
        rfl
      refine pure_ (i := 7) (N := (some 187)) (v := ?_) (a' := ?_) #[true, true, true, true, true, true, true, true, false, false, false, false, false, false, false, false, false, false, false] rfl rfl (any_of HT_.out (by kernel_rfl)) (fun _ _ _ h => h) (Or.inl ⟨by rfl, ?_⟩) ?_ ?_
      rotate_left
      · intro w'
        go_simp
        with_reducible rfl
      rotate_left
      · simp only [Act.put, List.setIfInBounds_toArray, List.set_cons_zero, List.set_cons_succ, i64_w, i32_w]
        rfl
      refine pure_ (i := 8) (N := (some 188)) (v := ?_) (a' := ?_) #[true, true, true, true, true, true, true, true, true, false, false, false, false, false, false, false, false, false, false] rfl rfl (any_of HT_.out (by kernel_rfl)) (fun _ _ _ h => h) (Or.inl ⟨by rfl, ?_⟩) ?_ ?_
      rotate_left
      · intro w'
        go_simp
        with_reducible rfl
      rotate_left
      · simp only [Act.put, List.setIfInBounds_toArray, List.set_cons_zero, List.set_cons_succ, i64_w, i32_w]
        rfl
      refine pure_ (i := 9) (N := (some 189)) (v := ?_) (a' := ?_) #[true, true, true, true, true, true, true, true, true, true, false, false, false, false, false, false, false, false, false] rfl rfl (any_of HT_.out (by kernel_rfl)) (fun _ _ _ h => h) (Or.inl ⟨by rfl, ?_⟩) ?_ ?_
      rotate_left
      · intro w'
        go_simp
        with_reducible rfl
      rotate_left
      · simp only [Act.put, List.setIfInBounds_toArray, List.set_cons_zero, List.set_cons_succ, i64_w, i32_w]
        rfl
      refine pure_ (i := 11) (N := (some 191)) (v := ?_) (a' := ?_) #[true, true, true, true, true, true, true, true, true, true, false, true, false, false, false, false, false, false, false] rfl rfl (any_of HT_.out (by kernel_rfl)) (fun _ _ _ h => h) (Or.inl ⟨by rfl, ?_⟩) ?_ ?_
      rotate_left
      · intro w'
        go_simp
        with_reducible rfl
      rotate_left
      · simp only [Act.put, List.setIfInBounds_toArray, List.set_cons_zero, List.set_cons_succ, i64_w, i32_w]
        rfl
      refine pure_ (i := 12) (N := (some 192)) (v := ?_) (a' := ?_) #[true, true, true, true, true, true, true, true, true, true, false, true, true, false, false, false, false, false, false] rfl rfl (any_of HT_.out (by kernel_rfl)) (fun _ _ _ h => h) (Or.inl ⟨by rfl, ?_⟩) ?_ ?_
      rotate_left
      · intro w'
        go_simp
        with_reducible rfl
      rotate_left
      · simp only [Act.put, List.setIfInBounds_toArray, List.set_cons_zero, List.set_cons_succ, i64_w, i32_w]
        rfl
      refine pure_ (i := 13) (N := (some 193)) (v := ?_) (a' := ?_) #[true, true, true, true, true, true, true, true, true, true, false, true, true, true, false, false, false, false, false] rfl rfl (any_of HT_.out (by kernel_rfl)) (fun _ _ _ h => h) (Or.inl ⟨by rfl, ?_⟩) ?_ ?_
      rotate_left
      · intro w'
        go_simp
        with_reducible rfl
      rotate_left
      · simp only [Act.put, List.setIfInBounds_toArray, List.set_cons_zero, List.set_cons_succ, i64_w, i32_w]
        rfl
      refine take_ (i := 14) (N := (some 194)) (v := ?_) (a' := ?_) #[true, true, true, true, true, true, true, true, true, true, false, true, true, true, true, false, false, false, false] rfl rfl (take_ofW HT_.out HW_.out (by kernel_rfl)) (fun _ _ _ h => h) (Or.inl ⟨by rfl, ?_⟩) hHeld ?_ ?_
      rotate_left
      · rintro w' ⟨s0, s1⟩
        go_simp
        with_reducible rfl
      rotate_left
      · simp only [Act.put, List.setIfInBounds_toArray, List.set_cons_zero, List.set_cons_succ, i64_w, i32_w]
        rfl
      refine pure_ (i := 15) (N := (some 195)) (v := ?_) (a' := ?_) #[true, true, true, true, true, true, true, true, true, true, false, true, true, true, true, true, false, false, false] rfl rfl (any_of HT_.out (by kernel_rfl)) (fun _ _ _ h => h) (Or.inl ⟨by rfl, ?_⟩) ?_ ?_
      rotate_left
      · intro w'
        go_simp
        with_reducible rfl
      rotate_left
      · simp only [Act.put, List.setIfInBounds_toArray, List.set_cons_zero, List.set_cons_succ, i64_w, i32_w]
        rfl
      refine one_ (i := 10) (N := (some 190)) #[true, true, true, true, true, true, true, true, true, true, true, true, true, true, true, true, false, false, false] rfl rfl (one_of HT_.out (by kernel_rfl)) (by decide) (fun K hK => ?_)
      refine goes_ Try.func12 (by kernel_rfl) rfl #[.pointer (some ⟨g, 0, none⟩)] (by rfl) rfl rfl (by (try simp only [List.map_toArray, List.map_cons, List.map_nil]); first | done | rfl) ?_
      refine (left_ni HX.out.n).mono ?_
      rintro e w5 ⟨rfl, rfl⟩
      refine ⟨_, rfl, ?_⟩
      refine hK.out _ _ ⟨(blk_cell HBr.out 0).trans rfl, (blk_cell HBr.out 1).trans rfl⟩ (fun hHeld => ?_)
      clear hK K
      refine norm_ (a' := ?_) ?_ ?_
      rotate_left
      · show Act.put _ (some 190) _ = _
        simp only [Act.put, List.setIfInBounds_toArray, List.set_cons_zero, List.set_cons_succ, i64_w, i32_w]
        rfl
      refine pure_ (i := 16) (N := (some 196)) (v := ?_) (a' := ?_) #[true, true, true, true, true, true, true, true, true, true, true, true, true, true, true, true, true, false, false] rfl rfl (any_of HT_.out (by kernel_rfl)) (fun _ _ _ h => h) (Or.inl ⟨by rfl, ?_⟩) ?_ ?_
      rotate_left
      · intro w'
        go_simp
        with_reducible rfl
      rotate_left
      · simp only [Act.put, List.setIfInBounds_toArray, List.set_cons_zero, List.set_cons_succ, i64_w, i32_w]
        rfl
      refine pure_ (i := 17) (N := (some 197)) (v := ?_) (a' := ?_) #[true, true, true, true, true, true, true, true, true, true, true, true, true, true, true, true, true, true, false] rfl rfl (any_of HT_.out (by kernel_rfl)) (fun _ _ _ h => h) (Or.inl ⟨by rfl, ?_⟩) ?_ ?_
      rotate_left
      · intro w'
        go_simp
        with_reducible rfl
      rotate_left
      · simp only [Act.put, List.setIfInBounds_toArray, List.set_cons_zero, List.set_cons_succ, i64_w, i32_w]
        rfl
      refine pure_ (i := 18) (N := (some 6)) (v := ?_) (a' := ?_) #[true, true, true, true, true, true, true, true, true, true, true, true, true, true, true, true, true, true, true] rfl rfl (any_of HT_.out (by kernel_rfl)) (fun _ _ _ h => h) (Or.inl ⟨by rfl, ?_⟩) ?_ ?_
      rotate_left
      · intro w'
        go_simp
        with_reducible rfl
      rotate_left
      · simp only [Act.put, List.setIfInBounds_toArray, List.set_cons_zero, List.set_cons_succ, i64_w, i32_w]
        rfl
      refine done_ (done_of HT_.out (by kernel_rfl)) ?_
      clear hHeld HT_ HW_
      go_wp2_with fail
      go_ret
      exact StepP.mk HX.out H0.out (by simp; omega) (hl1) (HM1.out) rfl
end Go.Proofs.Ytckeahjlfopaaaa.Hand
