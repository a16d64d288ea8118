/- ChainBack's walk. -/
import Derived.Test.YtpcoelimabojcaaHE8
import Derived.Test.YtpcoelimabojcaaHE7
import Derived.Test.YtpcoelimabojcaaHE3
import Derived.Test.YtpcoelimabojcaaHC21
namespace Go.Proofs.Ytpcoelimabojcaa.Hand
open Go.RowKit Go.Proofs.Ytpcoelimabojcaa Go.Proofs.YtpcoelimabojcaaW.PrintWords Go.Proofs.YtpcoelimabojcaaW.PrintLast
set_option linter.unusedVariables false
set_option linter.unusedSimpArgs false
theorem conv_c {W : World} {A : Option Addr} {x : List Int} (c : Nat) (h : Kd.C (Kd.int .u8) W A x.length x) : (convert 56 9 (.slice A x.length c)).run Try.prog W = .ok (.string (strOfNums x)) W :=
  Kd.C_string (P := Try.prog) (src := 56) (dst := 9) (e := 5) (by kernel_rfl) (by kernel_rfl) (by kernel_rfl) h
theorem decF_no {l : List Int} {n : Int} (h : (decF l n).2.2.2 ≠ 0) : decF l n = (0, 0, [], (decF l n).2.2.2) := by
  unfold decF at h ⊢
  split
  · rfl
  · rename_i hn
    rw [if_neg hn] at h
    cases hg : goodD l n with
    | none => rfl
    | some q => rw [hg] at h; exact absurd rfl h
def TK4 : Bool × List (List Nat × List Nat) := (true, [([], []), ([0], [0]), ([1], [1]), ([2, 1], [2]), ([3], [3]), ([3], [3]), ([5, 3, 3], [3, 5]), ([4, 6, 6, 3], [3, 4, 6]), ([7, 3], [3, 7]), ([3, 8], [3, 8])])
def BK4 : List Nat := [0, 1, 3, 7, 15, 15, 47, 127, 255, 511]
theorem tabK4 : rtab .any (opsOf Try.f9 4) = TK4 := by kernel_rfl
theorem bitsK4 : waitsOk TK4.2 BK4 = true := by kernel_rfl
structure BackI (W : World) (ow tr : Int) (A B : Option Addr) (c : Nat) (ps : List PartV) (l : List Int) (w : World) : Prop where
  below : Below W.heap.size W w
  box : w.heap[W.heap.size]? = some (.cells #[.int .i64 ow, .int .i64 tr, .slice A ps.length c] 24 (0, 0))
  row : Kd.C k53 w A ps.length ps
  src : Kd.C (Kd.int .u8) w B l.length l
theorem BackI.move {W w w1 : World} {ow tr : Int} {A B : Option Addr} {c : Nat} {ps : List PartV} {l : List Int} (h : BackI W ow tr A B c ps l w) (hb : Below w.heap.size w w1) : BackI W ow tr A B c ps l w1 :=
  ⟨below_step h.below hb, blk_below h.box hb, Kd.C_below h.row hb, Kd.C_below h.src hb⟩
set_option maxHeartbeats 12800000 in
set_option maxRecDepth 100000 in
theorem lawBack (ow tr n : Int) (A B : Option Addr) (c cb : Nat) (ps : List PartV) (l : List Int) (W : World) (hr : Kd.C k53 W A ps.length ps) (hl : ps.length * 40 ≤ 140737488355328) (hnd : ∀ p ∈ ps, p.nodes.length * 8 ≤ 140737488355328) (hs : Kd.C (Kd.int .u8) W B l.length l) (hc : l.length ≤ cb) (hb : isBytes l) :
    Calls Try.prog 9 #[.agg #[.int .i64 ow, .int .i64 tr, .slice A ps.length c], .slice B l.length cb, .int .i64 n] W fun e W' => e = .returned (.bool true) ∧ Below W.heap.size W W' := by
  obtain ⟨o1, ho1⟩ : ∃ o1 : Obj, o1 = .cells #[.int .i64 ow, .int .i64 tr, .slice A ps.length c] 24 (0, 0) := ⟨_, rfl⟩
  have b1 := heap_alloc_new W o1
  have hI : BackI W ow tr A B c ps l (W.alloc o1) := ⟨below_alloc (Below.refl _ _) o1, by rw [ho1] at b1 ⊢; exact b1, Kd.C_alloc hr o1, Kd.C_alloc hs o1⟩
  have HI := Aside0.mk hI
  have HY := Aside0.mk hb
  have HND := Aside0.mk hnd
  have x0 : (W.alloc o1).cell? ⟨W.heap.size, 0, none⟩ = some (.int .i64 ow) := (blk_cell hI.box 0).trans rfl
  have x1 : (W.alloc o1).cell? ⟨W.heap.size, 1, none⟩ = some (.int .i64 tr) := (blk_cell hI.box 1).trans rfl
  have x2 : (W.alloc o1).cell? ⟨W.heap.size, 2, none⟩ = some (.slice A ps.length c) := (blk_cell hI.box 2).trans rfl
  clear b1 hI hr hs hb hnd
  subst ho1
  go_enter Try.func9, Try.ntmps9
  go_wp2_with fail
  refine (own_c ow tr A c ps _ HI.out.row hl HND.out).mono ?_
  rintro e w1 ⟨A1, c1, rfl, hR1, hb1⟩
  have HI1 := Aside0.mk (HI.out.move hb1)
  have HX1 := Aside0.mk (Kd.R_reads' hR1).2.2
  clear hR1 hb1 HI x0 x1 x2
  go_wp2_with fail
  refine (encode_c ow tr n A1 c1 ps _ HX1.out).mono ?_
  rintro e w2 ⟨hb2, v, rfl, hR2⟩
  obtain ⟨Av, cv, rfl⟩ := Kd.R_slice hR2
  have HI2 := Aside0.mk (HI1.out.move hb2)
  have HV2 := Aside0.mk (Kd.R_reads' hR2).2.2
  have HVL := Aside0.mk (Kd.R_reads' hR2).2.1
  clear hR2 hb2 HX1 HI1
  obtain ⟨bs, hbs⟩ : ∃ bs, (encF ow tr ps n).1 = bs := ⟨_, rfl⟩
  obtain ⟨ee, hee⟩ : ∃ ee, (encF ow tr ps n).2 = ee := ⟨_, rfl⟩
  have HBY := Aside0.mk (show isBytes bs by rw [← hbs]; exact encF_bytes ow tr ps n)
  have HDE := Aside0.mk (show ee = 0 → decF bs n = (ow, tr, ps, 0) from fun h => by rw [← hbs]; exact dec_enc (hee.trans h))
  rw [hbs] at HV2 HVL ⊢
  rw [hee]
  clear hbs hee
  by_cases hez : ee = 0
  rotate_left
  · have hnf : (ee == 0) = false := beq_eq_false_iff_ne.2 hez
    have hnd : decide (ee = 0) = false := decide_eq_false hez
    go_wp2_with fail
    refine (num_c ee _).mono ?_
    rintro e w_ ⟨rfl, rfl⟩
    clear HV2 HVL HBY HDE
    go_wp2_with fail
    refine (decode_c n B cb l _ HI2.out.src hc HY.out).mono ?_
    rintro e wd ⟨hbd, Ad, cd, rfl, hRd⟩
    have HId := Aside0.mk (HI2.out.move hbd)
    have HXd := Aside0.mk (Kd.R_reads' hRd).2.2
    clear hbd hRd HI2
    obtain ⟨⟨o, t, qs, ed⟩, hD⟩ : ∃ r, decF l n = r := ⟨_, rfl⟩
    have HIN := Aside0.mk (decF_in HY.out n)
    have HED := Aside0.mk (show (decF l n).2.2.2 = 0 → encF (decF l n).1 (decF l n).2.1 (decF l n).2.2.1 n = (l, 0) from enc_dec HY.out)
    have HNO := Aside0.mk (show (decF l n).2.2.2 ≠ 0 → decF l n = (0, 0, [], (decF l n).2.2.2) from decF_no)
    rw [hD] at HXd HIN HED HNO ⊢
    clear hD
    dsimp only at HXd HIN HED HNO ⊢
    by_cases hed : ed = 0
    rotate_left
    · have hq := HNO.out hed
      simp only [Prod.mk.injEq, and_true] at hq
      obtain ⟨rfl, rfl, rfl⟩ := hq
      obtain ⟨ox, hox⟩ : ∃ ox : Obj, ox = .cells #[.int .i64 0, .int .i64 0, .slice Ad ([] : List PartV).length cd] 27 (0, 0) := ⟨_, rfl⟩
      have HIe := Aside0.mk (HId.out.move (below_alloc (Below.refl _ _) ox))
      have BXe := Aside0.mk (heap_alloc_new wd ox)
      have HXe := Aside0.mk (Kd.C_alloc HXd.out ox)
      subst hox
      have hne : (ed != 0) = true := bne_iff_ne.2 hed
      have hnf : decide (ed = 0) = false := decide_eq_false hed
      have z0 : (wd.alloc (.cells #[.int .i64 0, .int .i64 0, .slice Ad ([] : List PartV).length cd] 27 (0, 0))).cell? ⟨wd.heap.size, 0, none⟩ = some (.int .i64 0) := (blk_cell BXe.out 0).trans rfl
      have z1 : (wd.alloc (.cells #[.int .i64 0, .int .i64 0, .slice Ad ([] : List PartV).length cd] 27 (0, 0))).cell? ⟨wd.heap.size, 1, none⟩ = some (.int .i64 0) := (blk_cell BXe.out 1).trans rfl
      have z2 : (wd.alloc (.cells #[.int .i64 0, .int .i64 0, .slice Ad ([] : List PartV).length cd] 27 (0, 0))).cell? ⟨wd.heap.size, 2, none⟩ = some (.slice Ad ([] : List PartV).length cd) := (blk_cell BXe.out 2).trans rfl
      clear HXd HId
      go_wp2_with fail
      refine (num_c ed _).mono ?_
      rintro e w_ ⟨rfl, rfl⟩
      go_wp2_with fail
      refine (same_c 0 0 Ad none cd 0 [] _ HXe.out (Kd.C_nil _ _)).mono ?_
      rintro e we ⟨rfl, hbe⟩
      have HIf := Aside0.mk (HIe.out.move hbe)
      clear hbe HIe BXe HXe z0 z1 z2
      go_wp2_with fail
      refine (knows_c _).mono ?_
      rintro e wf ⟨rfl, hbf⟩
      have HIg := Aside0.mk (HIf.out.move hbf)
      clear hbf HIf
      go_wp2_with fail
      go_ret
      exact ⟨rfl, HIg.out.below⟩
    have hq := HED.out hed
    subst hed
    obtain ⟨ox, hox⟩ : ∃ ox : Obj, ox = .cells #[.int .i64 o, .int .i64 t, .slice Ad qs.length cd] 27 (0, 0) := ⟨_, rfl⟩
    have HIe := Aside0.mk (HId.out.move (below_alloc (Below.refl _ _) ox))
    have BXe := Aside0.mk (heap_alloc_new wd ox)
    have HXe := Aside0.mk (Kd.C_alloc HXd.out ox)
    subst hox
    have z0 : (wd.alloc (.cells #[.int .i64 o, .int .i64 t, .slice Ad qs.length cd] 27 (0, 0))).cell? ⟨wd.heap.size, 0, none⟩ = some (.int .i64 o) := (blk_cell BXe.out 0).trans rfl
    have z1 : (wd.alloc (.cells #[.int .i64 o, .int .i64 t, .slice Ad qs.length cd] 27 (0, 0))).cell? ⟨wd.heap.size, 1, none⟩ = some (.int .i64 t) := (blk_cell BXe.out 1).trans rfl
    have z2 : (wd.alloc (.cells #[.int .i64 o, .int .i64 t, .slice Ad qs.length cd] 27 (0, 0))).cell? ⟨wd.heap.size, 2, none⟩ = some (.slice Ad qs.length cd) := (blk_cell BXe.out 2).trans rfl
    clear HXd HId
    have HQ := Aside0.mk hq
    clear hq
    go_wp2_with fail
    refine (num_c 0 _).mono ?_
    rintro e w_ ⟨rfl, rfl⟩
    go_wp2_with fail
    refine (encode_c o t n Ad cd qs _ HXe.out).mono ?_
    rintro e we ⟨hbe, v2, rfl, hRe⟩
    rw [HQ.out] at hRe ⊢
    dsimp only at hRe ⊢
    obtain ⟨A2, c2, rfl⟩ := Kd.R_slice hRe
    have HIf := Aside0.mk (HIe.out.move hbe)
    have HVf := Aside0.mk (Kd.R_reads' hRe).2.2
    clear hbe hRe HIe BXe HXe z0 z1 z2
    go_wp2_with fail
    refine (num_c 0 _).mono ?_
    rintro e w_ ⟨rfl, rfl⟩
    have hq1 := conv_c c2 HVf.out
    have hq2 := conv_c cb HIf.out.src
    go_wp2_with fail
    refine (knows_c _).mono ?_
    rintro e wf ⟨rfl, hbf⟩
    have HIg := Aside0.mk (HIf.out.move hbf)
    clear hbf HIf
    go_wp2_with fail
    go_ret
    exact ⟨rfl, HIg.out.below⟩
  subst hez
  have hdec := HDE.out rfl
  go_wp2_with fail
  refine (num_c 0 _).mono ?_
  rintro e w_ ⟨rfl, rfl⟩
  go_wp2_with fail
  refine (decode_c n Av cv bs _ HV2.out HVL.out HBY.out).mono ?_
  rintro e w3 ⟨hb3, A3, c3, rfl, hR3⟩
  rw [hdec] at hR3 ⊢
  dsimp only at hR3 ⊢
  have HI3 := Aside0.mk (HI2.out.move hb3)
  have HX3 := Aside0.mk (Kd.R_reads' hR3).2.2
  clear hb3 hR3 HI2 HV2 HVL HBY HDE hdec
  obtain ⟨ox, hox⟩ : ∃ ox : Obj, ox = .cells #[.int .i64 ow, .int .i64 tr, .slice A3 ps.length c3] 27 (0, 0) := ⟨_, rfl⟩
  have HI4 := Aside0.mk (HI3.out.move (below_alloc (Below.refl _ _) ox))
  have BX4 := Aside0.mk (heap_alloc_new w3 ox)
  have HX4 := Aside0.mk (Kd.C_alloc HX3.out ox)
  subst hox
  clear HI3 HX3
  go_wp2_with fail
  generalize w3.heap.size = gx at BX4 ⊢
  generalize (w3.alloc (.cells #[.int .i64 ow, .int .i64 tr, .slice A3 ps.length c3] 27 (0, 0))) = w4 at HI4 BX4 HX4 ⊢
  have hdrw := below_drew (Below.refl w4.heap.size w4)
  have HI5 := Aside0.mk (HI4.out.move hdrw)
  have BX5 := Aside0.mk (blk_below BX4.out hdrw)
  have HX5 := Aside0.mk (Kd.C_below HX4.out hdrw)
  clear hdrw HI4 BX4 HX4
  refine start_ (n := 10) (S := fun w' => w'.cell? ⟨gx, 0, none⟩ = some (.int .i64 ow) ∧ w'.cell? ⟨gx, 1, none⟩ = some (.int .i64 tr) ∧ w'.cell? ⟨gx, 2, none⟩ = some (.slice A3 ps.length c3) ∧ w'.cell? ⟨W.heap.size, 0, none⟩ = some (.int .i64 ow) ∧ w'.cell? ⟨W.heap.size, 1, none⟩ = some (.int .i64 tr) ∧ w'.cell? ⟨W.heap.size, 2, none⟩ = some (.slice A ps.length c)) (ds := []) #[false, false, false, false, false, false, false, false, false, false] (by kernel_rfl) rfl rfl ⟨(blk_cell BX5.out 0).trans rfl, (blk_cell BX5.out 1).trans rfl, (blk_cell BX5.out 2).trans rfl, (blk_cell HI5.out.box 0).trans rfl, (blk_cell HI5.out.box 1).trans rfl, (blk_cell HI5.out.box 2).trans rfl⟩ (fun hHeld => ?_); refine with_tabW tabK4 bitsK4 (fun HT_ HW_ => ?_)
  generalize hwd : w4.drew = w5 at HI5 BX5 HX5 hHeld ⊢
  clear hwd
  refine pure_ (i := 0) (N := (some 31)) (v := ?_) (a' := ?_) #[true, false, false, false, false, false, false, false, false, false] rfl rfl (any_of HT_.out (by kernel_rfl)) (fun _ _ _ h => h) (Or.inl ⟨by rfl, ?_⟩) ?_ ?_
  rotate_left
  · intro w'
    go_simp
    with_reducible rfl
  rotate_left
  · simp only [Act.put, List.setIfInBounds_toArray, List.set_cons_zero, List.set_cons_succ, i64_w, i32_w]
    rfl
  refine one_ (i := 1) (N := (some 32)) #[true, true, false, false, false, false, false, false, false, false] rfl rfl (one_of HT_.out (by kernel_rfl)) (by decide) (fun K hK => ?_)
  refine goes_ Try.func17 (by kernel_rfl) rfl #[.int .i64 0] (by rfl) rfl rfl (by (try simp only [List.map_toArray, List.map_cons, List.map_nil]); first | done | rfl) ?_
  refine (num_c 0 _).mono ?_
  rintro e w_ ⟨rfl, rfl⟩
  refine ⟨_, rfl, ?_⟩
  refine hK.out _ _ ⟨(blk_cell BX5.out 0).trans rfl, (blk_cell BX5.out 1).trans rfl, (blk_cell BX5.out 2).trans rfl, (blk_cell HI5.out.box 0).trans rfl, (blk_cell HI5.out.box 1).trans rfl, (blk_cell HI5.out.box 2).trans rfl⟩ (fun hHeld => ?_)
  clear hK K
  refine norm_ (a' := ?_) ?_ ?_
  rotate_left
  · show Act.put _ (some 32) _ = _
    simp only [Act.put, List.setIfInBounds_toArray, List.set_cons_zero, List.set_cons_succ, i64_w, i32_w]
    rfl
  refine pure_ (i := 2) (N := (some 33)) (v := ?_) (a' := ?_) #[true, true, true, false, false, false, false, false, false, false] rfl rfl (any_of HT_.out (by kernel_rfl)) (fun _ _ _ h => h) (Or.inl ⟨by rfl, ?_⟩) ?_ ?_
  rotate_left
  · intro w'
    go_simp
    with_reducible rfl
  rotate_left
  · simp only [Act.put, List.setIfInBounds_toArray, List.set_cons_zero, List.set_cons_succ, i64_w, i32_w]
    rfl
  refine pure_ (i := 3) (N := (some 34)) (v := ?_) (a' := ?_) #[true, true, true, true, false, false, false, false, false, false] rfl rfl (any_of HT_.out (by kernel_rfl)) (fun _ _ _ h => h) (Or.inl ⟨by rfl, ?_⟩) ?_ ?_
  rotate_left
  · intro w'
    go_simp
    with_reducible rfl
  rotate_left
  · simp only [Act.put, List.setIfInBounds_toArray, List.set_cons_zero, List.set_cons_succ, i64_w, i32_w]
    rfl
  refine take_ (i := 4) (N := (some 35)) (v := ?_) (a' := ?_) #[true, true, true, true, true, false, false, false, false, false] rfl rfl (take_ofW HT_.out HW_.out (by kernel_rfl)) (fun _ _ _ h => h) (Or.inl ⟨by rfl, ?_⟩) hHeld ?_ ?_
  rotate_left
  · rintro w' ⟨s0, s1, s2, s3, s4, s5⟩
    go_simp
    with_reducible rfl
  rotate_left
  · simp only [Act.put, List.setIfInBounds_toArray, List.set_cons_zero, List.set_cons_succ, i64_w, i32_w]
    rfl
  refine take_ (i := 5) (N := (some 36)) (v := ?_) (a' := ?_) #[true, true, true, true, true, true, false, false, false, false] rfl rfl (take_ofW HT_.out HW_.out (by kernel_rfl)) (fun _ _ _ h => h) (Or.inl ⟨by rfl, ?_⟩) hHeld ?_ ?_
  rotate_left
  · rintro w' ⟨s0, s1, s2, s3, s4, s5⟩
    go_simp
    with_reducible rfl
  rotate_left
  · simp only [Act.put, List.setIfInBounds_toArray, List.set_cons_zero, List.set_cons_succ, i64_w, i32_w]
    rfl
  refine one_ (i := 6) (N := (some 37)) #[true, true, true, true, true, true, true, false, false, false] rfl rfl (one_of HT_.out (by kernel_rfl)) (by decide) (fun K hK => ?_)
  refine goes_ Try.func10 (by kernel_rfl) rfl #[.agg #[.int .i64 ow, .int .i64 tr, .slice A ps.length c]] (by rfl) rfl rfl (by (try simp only [List.map_toArray, List.map_cons, List.map_nil]); first | done | rfl) ?_
  refine (own_c ow tr A c ps _ HI5.out.row hl HND.out).mono ?_
  rintro e w6 ⟨A6, c6, rfl, hR6, hbL⟩
  refine ⟨_, rfl, ?_⟩
  have HI6 := Aside0.mk (HI5.out.move hbL)
  have BX6 := Aside0.mk (blk_below BX5.out hbL)
  have HX6 := Aside0.mk (Kd.C_below HX5.out hbL)
  have HO6 := Aside0.mk (Kd.R_reads' hR6).2.2
  clear hbL hR6 HI5 BX5 HX5
  refine hK.out _ _ ⟨(blk_cell BX6.out 0).trans rfl, (blk_cell BX6.out 1).trans rfl, (blk_cell BX6.out 2).trans rfl, (blk_cell HI6.out.box 0).trans rfl, (blk_cell HI6.out.box 1).trans rfl, (blk_cell HI6.out.box 2).trans rfl⟩ (fun hHeld => ?_)
  clear hK K
  refine norm_ (a' := ?_) ?_ ?_
  rotate_left
  · show Act.put _ (some 37) _ = _
    simp only [Act.put, List.setIfInBounds_toArray, List.set_cons_zero, List.set_cons_succ, i64_w, i32_w]
    rfl
  refine one_ (i := 7) (N := (some 38)) #[true, true, true, true, true, true, true, true, false, false] rfl rfl (one_of HT_.out (by kernel_rfl)) (by decide) (fun K hK => ?_)
  refine goes_ Try.func24 (by kernel_rfl) rfl #[.agg #[.int .i64 ow, .int .i64 tr, .slice A3 ps.length c3], .agg #[.int .i64 ow, .int .i64 tr, .slice A6 ps.length c6]] (by rfl) rfl rfl (by (try simp only [List.map_toArray, List.map_cons, List.map_nil]); first | done | rfl) ?_
  refine (same_c ow tr A3 A6 c3 c6 ps _ HX6.out HO6.out).mono ?_
  rintro e w7 ⟨rfl, hbL⟩
  refine ⟨_, rfl, ?_⟩
  have HI7 := Aside0.mk (HI6.out.move hbL)
  have BX7 := Aside0.mk (blk_below BX6.out hbL)
  clear hbL HI6 BX6 HX6 HO6
  refine hK.out _ _ ⟨(blk_cell BX7.out 0).trans rfl, (blk_cell BX7.out 1).trans rfl, (blk_cell BX7.out 2).trans rfl, (blk_cell HI7.out.box 0).trans rfl, (blk_cell HI7.out.box 1).trans rfl, (blk_cell HI7.out.box 2).trans rfl⟩ (fun hHeld => ?_)
  clear hK K
  refine norm_ (a' := ?_) ?_ ?_
  rotate_left
  · show Act.put _ (some 38) _ = _
    simp only [Act.put, List.setIfInBounds_toArray, List.set_cons_zero, List.set_cons_succ, i64_w, i32_w]
    rfl
  refine pure_ (i := 8) (N := (some 39)) (v := ?_) (a' := ?_) #[true, true, true, true, true, true, true, true, true, false] rfl rfl (any_of HT_.out (by kernel_rfl)) (fun _ _ _ h => h) (Or.inl ⟨by rfl, ?_⟩) ?_ ?_
  rotate_left
  · intro w'
    go_simp
    with_reducible rfl
  rotate_left
  · simp only [Act.put, List.setIfInBounds_toArray, List.set_cons_zero, List.set_cons_succ, i64_w, i32_w]
    rfl
  refine pure_ (i := 9) (N := (some 40)) (v := ?_) (a' := ?_) #[true, true, true, true, true, true, true, true, true, true] rfl rfl (any_of HT_.out (by kernel_rfl)) (fun _ _ _ h => h) (Or.inl ⟨by rfl, ?_⟩) ?_ ?_
  rotate_left
  · intro w'
    go_simp
    with_reducible rfl
  rotate_left
  · simp only [Act.put, List.setIfInBounds_toArray, List.set_cons_zero, List.set_cons_succ, i64_w, i32_w]
    rfl
  refine done_ (done_of HT_.out (by kernel_rfl)) ?_
  clear hHeld HT_ HW_ BX7
  go_wp2_with fail
  refine (decode_c n B cb l _ HI7.out.src hc HY.out).mono ?_
  rintro e wd ⟨hbd, Ad, cd, rfl, hRd⟩
  have HId := Aside0.mk (HI7.out.move hbd)
  have HXd := Aside0.mk (Kd.R_reads' hRd).2.2
  clear hbd hRd HI7
  obtain ⟨⟨o, t, qs, ed⟩, hD⟩ : ∃ r, decF l n = r := ⟨_, rfl⟩
  have HIN := Aside0.mk (decF_in HY.out n)
  have HED := Aside0.mk (show (decF l n).2.2.2 = 0 → encF (decF l n).1 (decF l n).2.1 (decF l n).2.2.1 n = (l, 0) from enc_dec HY.out)
  have HNO := Aside0.mk (show (decF l n).2.2.2 ≠ 0 → decF l n = (0, 0, [], (decF l n).2.2.2) from decF_no)
  rw [hD] at HXd HIN HED HNO ⊢
  clear hD
  dsimp only at HXd HIN HED HNO ⊢
  by_cases hed : ed = 0
  rotate_left
  · have hq := HNO.out hed
    simp only [Prod.mk.injEq, and_true] at hq
    obtain ⟨rfl, rfl, rfl⟩ := hq
    obtain ⟨ox, hox⟩ : ∃ ox : Obj, ox = .cells #[.int .i64 0, .int .i64 0, .slice Ad ([] : List PartV).length cd] 27 (0, 0) := ⟨_, rfl⟩
    have HIe := Aside0.mk (HId.out.move (below_alloc (Below.refl _ _) ox))
    have BXe := Aside0.mk (heap_alloc_new wd ox)
    have HXe := Aside0.mk (Kd.C_alloc HXd.out ox)
    subst hox
    have hne : (ed != 0) = true := bne_iff_ne.2 hed
    have hnf : decide (ed = 0) = false := decide_eq_false hed
    have z0 : (wd.alloc (.cells #[.int .i64 0, .int .i64 0, .slice Ad ([] : List PartV).length cd] 27 (0, 0))).cell? ⟨wd.heap.size, 0, none⟩ = some (.int .i64 0) := (blk_cell BXe.out 0).trans rfl
    have z1 : (wd.alloc (.cells #[.int .i64 0, .int .i64 0, .slice Ad ([] : List PartV).length cd] 27 (0, 0))).cell? ⟨wd.heap.size, 1, none⟩ = some (.int .i64 0) := (blk_cell BXe.out 1).trans rfl
    have z2 : (wd.alloc (.cells #[.int .i64 0, .int .i64 0, .slice Ad ([] : List PartV).length cd] 27 (0, 0))).cell? ⟨wd.heap.size, 2, none⟩ = some (.slice Ad ([] : List PartV).length cd) := (blk_cell BXe.out 2).trans rfl
    clear HXd HId
    go_wp2_with fail
    refine (num_c ed _).mono ?_
    rintro e w_ ⟨rfl, rfl⟩
    go_wp2_with fail
    refine (same_c 0 0 Ad none cd 0 [] _ HXe.out (Kd.C_nil _ _)).mono ?_
    rintro e we ⟨rfl, hbe⟩
    have HIf := Aside0.mk (HIe.out.move hbe)
    clear hbe HIe BXe HXe z0 z1 z2
    go_wp2_with fail
    refine (knows_c _).mono ?_
    rintro e wf ⟨rfl, hbf⟩
    have HIg := Aside0.mk (HIf.out.move hbf)
    clear hbf HIf
    go_wp2_with fail
    go_ret
    exact ⟨rfl, HIg.out.below⟩
  have hq := HED.out hed
  subst hed
  obtain ⟨ox, hox⟩ : ∃ ox : Obj, ox = .cells #[.int .i64 o, .int .i64 t, .slice Ad qs.length cd] 27 (0, 0) := ⟨_, rfl⟩
  have HIe := Aside0.mk (HId.out.move (below_alloc (Below.refl _ _) ox))
  have BXe := Aside0.mk (heap_alloc_new wd ox)
  have HXe := Aside0.mk (Kd.C_alloc HXd.out ox)
  subst hox
  have z0 : (wd.alloc (.cells #[.int .i64 o, .int .i64 t, .slice Ad qs.length cd] 27 (0, 0))).cell? ⟨wd.heap.size, 0, none⟩ = some (.int .i64 o) := (blk_cell BXe.out 0).trans rfl
  have z1 : (wd.alloc (.cells #[.int .i64 o, .int .i64 t, .slice Ad qs.length cd] 27 (0, 0))).cell? ⟨wd.heap.size, 1, none⟩ = some (.int .i64 t) := (blk_cell BXe.out 1).trans rfl
  have z2 : (wd.alloc (.cells #[.int .i64 o, .int .i64 t, .slice Ad qs.length cd] 27 (0, 0))).cell? ⟨wd.heap.size, 2, none⟩ = some (.slice Ad qs.length cd) := (blk_cell BXe.out 2).trans rfl
  clear HXd HId
  have HQ := Aside0.mk hq
  clear hq
  go_wp2_with fail
  refine (num_c 0 _).mono ?_
  rintro e w_ ⟨rfl, rfl⟩
  go_wp2_with fail
  refine (encode_c o t n Ad cd qs _ HXe.out).mono ?_
  rintro e we ⟨hbe, v2, rfl, hRe⟩
  rw [HQ.out] at hRe ⊢
  dsimp only at hRe ⊢
  obtain ⟨A2, c2, rfl⟩ := Kd.R_slice hRe
  have HIf := Aside0.mk (HIe.out.move hbe)
  have HVf := Aside0.mk (Kd.R_reads' hRe).2.2
  clear hbe hRe HIe BXe HXe z0 z1 z2
  go_wp2_with fail
  refine (num_c 0 _).mono ?_
  rintro e w_ ⟨rfl, rfl⟩
  have hq1 := conv_c c2 HVf.out
  have hq2 := conv_c cb HIf.out.src
  go_wp2_with fail
  refine (knows_c _).mono ?_
  rintro e wf ⟨rfl, hbf⟩
  have HIg := Aside0.mk (HIf.out.move hbf)
  clear hbf HIf
  go_wp2_with fail
  go_ret
  exact ⟨rfl, HIg.out.below⟩
end Go.Proofs.Ytpcoelimabojcaa.Hand
