/- ChainReads' walk. -/
import Derived.Test.YtpcoelimabojcaaHE2
import Derived.Test.YtpcoelimabojcaaHE3
import Derived.Test.YtpcoelimabojcaaHC14
import Derived.Test.YtpcoelimabojcaaHC21
namespace Go.Proofs.Ytpcoelimabojcaa.Hand
open Go.RowKit Go.Proofs.Ytpcoelimabojcaa Go.Proofs.YtpcoelimabojcaaW.PrintWords Go.Proofs.YtpcoelimabojcaaW.PrintLast
set_option linter.unusedVariables false
set_option linter.unusedSimpArgs false
theorem infoB : (Try.prog.info? 5).map (fun i => (i.zero, i.size, i.bytes)) = some (some (.int .u8 0), 1, 1) := by kernel_rfl
def TR3 : Bool × List (List Nat × List Nat) := (true, [([], []), ([], []), ([1], [1]), ([0, 2, 2], [0, 2]), ([3, 3], [3]), ([4], [4]), ([5, 4, 4], [4, 5]), ([4], [4]), ([6, 7, 4], [4, 6, 7]), ([4, 8], [4, 8]), ([9, 6], [9]), ([10, 10], [10]), ([10, 11], [10, 11]), ([12, 11, 0, 1, 2, 3, 4, 5, 6, 7, 8, 9, 10, 11, 12], [12])])
def BR3 : List Nat := [0, 0, 2, 7, 15, 31, 63, 31, 255, 511, 1023, 2047, 4095, 8191]
theorem tabR3 : rtab .any (opsOf Try.f7 3) = TR3 := by kernel_rfl
theorem bitsR3 : waitsOk TR3.2 BR3 = true := by kernel_rfl
set_option maxHeartbeats 6400000 in
set_option maxRecDepth 100000 in
theorem lawReads (n : Int) (A : Option Addr) (c : Nat) (l : List Int) (W : World) (hr : Kd.C (Kd.int .u8) W A l.length l) (hc : l.length ≤ c) (hb : isBytes l) (hl : l.length ≤ 140737488351232) :
    Calls Try.prog 7 #[.slice A l.length c, .int .i64 n] W fun e W' => e = .returned (.bool true) ∧ Below W.heap.size W W' := by
  have HR := Aside0.mk hr
  have HY := Aside0.mk hb
  have HC := Aside0.mk hc
  have HIN := Aside0.mk (decF_in hb n)
  clear hr hb
  go_enter Try.func7, Try.ntmps7
  go_wp2_with (first | ((with_reducible refine gate_dst (N := 10) rfl ?_); refine Kd.R_lit (Kd.int .u8) (w0 := W) W.heap.size 5 ?hg (N := 10) ?hd (xs := ([] : List Int)) (inner := []) (ok := fun _ => True) (okp := fun _ => True) ?hr ?hp (fun _ hk => hk) trivial (Below.refl _ _) (Nat.le_refl _) (by simp) ?_; (case hg => rfl); (case hd => rfl); (case hr => first | (go_simp; done) | (go_simp; rfl)); (case hp => exact Reps.none _ _); intro vl_ wl_ HOl_ hbl_ hgl_ hatl_; have HCl_ := Kd.C_below HR.out hbl_; clear hgl_ hatl_) | (refine Kd.R_append_row (Value.int .u8) 0 W.heap.size rfl (.tmp 10) (.tmp 11) 56 5 (.int .u8 0) 1 rfl Try.underlying56 infoB rfl (by omega) vl_ [] l A _ c (fun _ => True) rfl rfl (fun _ _ => trivial) HOl_ HCl_ hbl_ (below_size hbl_) (by simp; omega) ?_; intro v1_ W1_ ho_ hb_ hg_ hat_; obtain ⟨A1, c1, rfl⟩ := Kd.R_slice ho_; have HC1 := Aside0.mk (Kd.R_reads' ho_).2.2; have HL1 := Aside0.mk (Kd.R_reads' ho_).2.1; have HB1 := Aside0.mk hb_; clear HOl_ HCl_ hbl_ hg_ hat_ ho_ hb_) | fail)
  refine (decode_c n A1 c1 l _ HC1.out HL1.out HY.out).mono ?_
  rintro e W2 ⟨hb2, A2, c2, rfl, hR2⟩
  have BL2 := Aside0.mk (HB1.out.trans (hb2.mono HB1.out.size))
  have HR2 := Aside0.mk (Kd.C_below HR.out BL2.out)
  have HX2 := Aside0.mk (Kd.R_reads' hR2).2.2
  clear hb2 hR2 HC1 HL1 HB1
  obtain ⟨⟨o, t, ps, ee⟩, hD⟩ : ∃ r, decF l n = r := ⟨_, rfl⟩
  rw [hD] at HIN HX2 ⊢
  have HDD := Aside0.mk hD
  clear hD
  dsimp only at HIN HX2 ⊢
  obtain ⟨ox, hox⟩ : ∃ ox : Obj, ox = .cells #[.int .i64 o, .int .i64 t, .slice A2 ps.length c2] 27 (0, 0) := ⟨_, rfl⟩
  have BX3 := Aside0.mk (heap_alloc_new W2 ox)
  have BL3 := Aside0.mk (below_alloc BL2.out ox)
  have HR3 := Aside0.mk (Kd.C_alloc HR2.out ox)
  have HX3 := Aside0.mk (Kd.C_alloc HX2.out ox)
  subst hox
  clear BL2 HR2 HX2
  go_wp2_with fail
  refine (refDecode_c n A c l _ HR3.out HC.out HY.out).mono ?_
  rintro e W4 ⟨hb4, A4, c4, rfl, hc4, hC4⟩
  rw [HDD.out] at hC4 ⊢
  dsimp only at hC4 ⊢
  have BL4 := Aside0.mk (below_step BL3.out hb4)
  have BX4 := Aside0.mk (blk_below BX3.out hb4)
  have HX4 := Aside0.mk (Kd.C_below HX3.out hb4)
  clear BL3 HR3 BX3 HX3 hb4
  obtain ⟨oy, hoy⟩ : ∃ oy : Obj, oy = .cells #[.int .i64 o, .int .i64 t, .slice A4 ps.length c4] 24 (0, 0) := ⟨_, rfl⟩
  have BY5 := Aside0.mk (heap_alloc_new W4 oy)
  have BX5 := Aside0.mk (blk_alloc BX4.out oy)
  have BL5 := Aside0.mk (below_alloc BL4.out oy)
  have HY5 := Aside0.mk (Kd.C_alloc hC4 oy)
  have HX5 := Aside0.mk (Kd.C_alloc HX4.out oy)
  subst hoy
  clear BX4 BL4 HX4 hC4
  go_wp2_with fail
  generalize W2.heap.size = gx at BX5 ⊢
  generalize W4.heap.size = gy at BY5 ⊢
  generalize (W4.alloc (.cells #[.int .i64 o, .int .i64 t, .slice A4 ps.length c4] 24 (0, 0))) = W5 at *
  have hdrw := below_drew (Below.refl W5.heap.size W5)
  have BY6 := Aside0.mk (blk_below BY5.out hdrw)
  have BX6 := Aside0.mk (blk_below BX5.out hdrw)
  have BL6 := Aside0.mk (below_step BL5.out hdrw)
  have HY6 := Aside0.mk (Kd.C_below HY5.out hdrw)
  have HX6 := Aside0.mk (Kd.C_below HX5.out hdrw)
  clear hdrw BY5 BX5 BL5 HY5 HX5
  refine start_ (n := 14) (S := fun w' => w'.cell? ⟨gx, 0, none⟩ = some (.int .i64 o) ∧ w'.cell? ⟨gx, 1, none⟩ = some (.int .i64 t) ∧ w'.cell? ⟨gx, 2, none⟩ = some (.slice A2 ps.length c2) ∧ w'.cell? ⟨gy, 0, none⟩ = some (.int .i64 o) ∧ w'.cell? ⟨gy, 1, none⟩ = some (.int .i64 t) ∧ w'.cell? ⟨gy, 2, none⟩ = some (.slice A4 ps.length c4)) (ds := []) #[false, false, false, false, false, false, false, false, false, false, false, false, false, false] (by kernel_rfl) rfl rfl ⟨(blk_cell BX6.out 0).trans rfl, (blk_cell BX6.out 1).trans rfl, (blk_cell BX6.out 2).trans rfl, (blk_cell BY6.out 0).trans rfl, (blk_cell BY6.out 1).trans rfl, (blk_cell BY6.out 2).trans rfl⟩ (fun hHeld => ?_); refine with_tabW tabR3 bitsR3 (fun HT_ HW_ => ?_)
  generalize hwd : W5.drew = Wd at BY6 BX6 BL6 HY6 HX6 hHeld ⊢
  clear hwd
  refine take_ (i := 0) (N := (some 23)) (v := ?_) (a' := ?_) #[true, false, false, false, false, false, false, false, false, false, false, false, false, false] rfl rfl (take_ofW HT_.out HW_.out (by kernel_rfl)) (fun _ _ _ h => h) (Or.inl ⟨by rfl, ?_⟩) hHeld ?_ ?_
  rotate_left
  · rintro w' ⟨s0, s1, s2, s3, s4, s5⟩
    go_simp
    with_reducible rfl
  rotate_left
  · simp only [Act.put, List.setIfInBounds_toArray, List.set_cons_zero, List.set_cons_succ, i64_w, i32_w]
    rfl
  refine take_ (i := 1) (N := (some 24)) (v := ?_) (a' := ?_) #[true, true, false, false, false, false, false, false, false, false, false, false, false, false] rfl rfl (take_ofW HT_.out HW_.out (by kernel_rfl)) (fun _ _ _ h => h) (Or.inl ⟨by rfl, ?_⟩) hHeld ?_ ?_
  rotate_left
  · rintro w' ⟨s0, s1, s2, s3, s4, s5⟩
    go_simp
    with_reducible rfl
  rotate_left
  · simp only [Act.put, List.setIfInBounds_toArray, List.set_cons_zero, List.set_cons_succ, i64_w, i32_w]
    rfl
  refine one_ (i := 2) (N := (some 25)) #[true, true, true, false, false, false, false, false, false, false, false, false, false, false] rfl rfl (one_of HT_.out (by kernel_rfl)) (by decide) (fun K hK => ?_)
  refine goes_ Try.func10 (by kernel_rfl) rfl #[.agg #[.int .i64 o, .int .i64 t, .slice A4 ps.length c4]] (by rfl) rfl rfl (by (try simp only [List.map_toArray, List.map_cons, List.map_nil]); first | done | rfl) ?_
  refine (own_c o t A4 c4 ps _ HY6.out (by have := HIN.out.1; omega) (fun p hp => by have := HIN.out.2 p hp; omega)).mono ?_
  rintro e w7 ⟨A7, c7, rfl, hR7, hbL⟩
  refine ⟨_, rfl, ?_⟩
  have BX7 := Aside0.mk (blk_below BX6.out hbL)
  have BY7 := Aside0.mk (blk_below BY6.out hbL)
  have BL7 := Aside0.mk (below_step BL6.out hbL)
  have HX7 := Aside0.mk (Kd.C_below HX6.out hbL)
  have HO7 := Aside0.mk (Kd.R_reads' hR7).2.2
  clear hbL hR7 BX6 BY6 BL6 HX6 HY6
  refine hK.out _ _ ⟨(blk_cell BX7.out 0).trans rfl, (blk_cell BX7.out 1).trans rfl, (blk_cell BX7.out 2).trans rfl, (blk_cell BY7.out 0).trans rfl, (blk_cell BY7.out 1).trans rfl, (blk_cell BY7.out 2).trans rfl⟩ (fun hHeld => ?_)
  clear hK K
  refine norm_ (a' := ?_) ?_ ?_
  rotate_left
  · show Act.put _ (some 25) _ = _
    simp only [Act.put, List.setIfInBounds_toArray, List.set_cons_zero, List.set_cons_succ, i64_w, i32_w]
    rfl
  refine one_ (i := 3) (N := (some 26)) #[true, true, true, true, false, false, false, false, false, false, false, false, false, false] rfl rfl (one_of HT_.out (by kernel_rfl)) (by decide) (fun K hK => ?_)
  refine goes_ Try.func24 (by kernel_rfl) rfl #[.agg #[.int .i64 o, .int .i64 t, .slice A2 ps.length c2], .agg #[.int .i64 o, .int .i64 t, .slice A7 ps.length c7]] (by rfl) rfl rfl (by (try simp only [List.map_toArray, List.map_cons, List.map_nil]); first | done | rfl) ?_
  refine (same_c o t A2 A7 c2 c7 ps _ HX7.out HO7.out).mono ?_
  rintro e w8 ⟨rfl, hbL⟩
  refine ⟨_, rfl, ?_⟩
  have BX8 := Aside0.mk (blk_below BX7.out hbL)
  have BY8 := Aside0.mk (blk_below BY7.out hbL)
  have BL8 := Aside0.mk (below_step BL7.out hbL)
  clear hbL BX7 BY7 BL7
  refine hK.out _ _ ⟨(blk_cell BX8.out 0).trans rfl, (blk_cell BX8.out 1).trans rfl, (blk_cell BX8.out 2).trans rfl, (blk_cell BY8.out 0).trans rfl, (blk_cell BY8.out 1).trans rfl, (blk_cell BY8.out 2).trans rfl⟩ (fun hHeld => ?_)
  clear hK K
  refine norm_ (a' := ?_) ?_ ?_
  rotate_left
  · show Act.put _ (some 26) _ = _
    simp only [Act.put, List.setIfInBounds_toArray, List.set_cons_zero, List.set_cons_succ, i64_w, i32_w]
    rfl
  refine pure_ (i := 4) (N := (some 27)) (v := ?_) (a' := ?_) #[true, true, true, true, true, false, false, false, false, false, false, false, false, false] rfl rfl (any_of HT_.out (by kernel_rfl)) (fun _ _ _ h => h) (Or.inl ⟨by rfl, ?_⟩) ?_ ?_
  rotate_left
  · intro w'
    go_simp
    with_reducible rfl
  rotate_left
  · simp only [Act.put, List.setIfInBounds_toArray, List.set_cons_zero, List.set_cons_succ, i64_w, i32_w]
    rfl
  refine pure_ (i := 5) (N := (some 28)) (v := ?_) (a' := ?_) #[true, true, true, true, true, true, false, false, false, false, false, false, false, false] rfl rfl (any_of HT_.out (by kernel_rfl)) (fun _ _ _ h => h) (Or.inl ⟨by rfl, ?_⟩) ?_ ?_
  rotate_left
  · intro w'
    go_simp
    with_reducible rfl
  rotate_left
  · simp only [Act.put, List.setIfInBounds_toArray, List.set_cons_zero, List.set_cons_succ, i64_w, i32_w]
    rfl
  refine pure_ (i := 7) (N := (some 30)) (v := ?_) (a' := ?_) #[true, true, true, true, true, true, false, true, false, false, false, false, false, false] rfl rfl (any_of HT_.out (by kernel_rfl)) (fun _ _ _ h => h) (Or.inl ⟨by rfl, ?_⟩) ?_ ?_
  rotate_left
  · intro w'
    go_simp
    with_reducible rfl
  rotate_left
  · simp only [Act.put, List.setIfInBounds_toArray, List.set_cons_zero, List.set_cons_succ, i64_w, i32_w]
    rfl
  refine one_ (i := 6) (N := (some 29)) #[true, true, true, true, true, true, true, true, false, false, false, false, false, false] rfl rfl (one_of HT_.out (by kernel_rfl)) (by decide) (fun K hK => ?_)
  refine goes_ Try.func17 (by kernel_rfl) rfl #[.int .i64 ee] (by rfl) rfl rfl (by (try simp only [List.map_toArray, List.map_cons, List.map_nil]); first | done | rfl) ?_
  refine (num_c ee _).mono ?_
  rintro e w9 ⟨rfl, rfl⟩
  refine ⟨_, rfl, ?_⟩
  refine hK.out _ _ ⟨(blk_cell BX8.out 0).trans rfl, (blk_cell BX8.out 1).trans rfl, (blk_cell BX8.out 2).trans rfl, (blk_cell BY8.out 0).trans rfl, (blk_cell BY8.out 1).trans rfl, (blk_cell BY8.out 2).trans rfl⟩ (fun hHeld => ?_)
  clear hK K
  refine norm_ (a' := ?_) ?_ ?_
  rotate_left
  · show Act.put _ (some 29) _ = _
    simp only [Act.put, List.setIfInBounds_toArray, List.set_cons_zero, List.set_cons_succ, i64_w, i32_w]
    rfl
  refine pure_ (i := 8) (N := (some 31)) (v := ?_) (a' := ?_) #[true, true, true, true, true, true, true, true, true, false, false, false, false, false] rfl rfl (any_of HT_.out (by kernel_rfl)) (fun _ _ _ h => h) (Or.inl ⟨by rfl, ?_⟩) ?_ ?_
  rotate_left
  · intro w'
    go_simp
    with_reducible rfl
  rotate_left
  · simp only [Act.put, List.setIfInBounds_toArray, List.set_cons_zero, List.set_cons_succ, i64_w, i32_w]
    rfl
  refine pure_ (i := 9) (N := (some 32)) (v := ?_) (a' := ?_) #[true, true, true, true, true, true, true, true, true, true, false, false, false, false] rfl rfl (any_of HT_.out (by kernel_rfl)) (fun _ _ _ h => h) (Or.inl ⟨by rfl, ?_⟩) ?_ ?_
  rotate_left
  · intro w'
    go_simp
    with_reducible rfl
  rotate_left
  · simp only [Act.put, List.setIfInBounds_toArray, List.set_cons_zero, List.set_cons_succ, i64_w, i32_w]
    rfl
  refine pure_ (i := 10) (N := (some 33)) (v := ?_) (a' := ?_) #[true, true, true, true, true, true, true, true, true, true, true, false, false, false] rfl rfl (any_of HT_.out (by kernel_rfl)) (fun _ _ _ h => h) (Or.inl ⟨by rfl, ?_⟩) ?_ ?_
  rotate_left
  · intro w'
    go_simp
    with_reducible rfl
  rotate_left
  · simp only [Act.put, List.setIfInBounds_toArray, List.set_cons_zero, List.set_cons_succ, i64_w, i32_w]
    rfl
  refine one_ (i := 11) (N := (some 34)) #[true, true, true, true, true, true, true, true, true, true, true, true, false, false] rfl rfl (one_of HT_.out (by kernel_rfl)) (by decide) (fun K hK => ?_)
  refine goes_ Try.func15 (by kernel_rfl) rfl #[] (by rfl) rfl rfl (by (try simp only [List.map_toArray, List.map_cons, List.map_nil]); first | done | rfl) ?_
  refine (knows_c _).mono ?_
  rintro e w9 ⟨rfl, hbL⟩
  refine ⟨_, rfl, ?_⟩
  have BX9 := Aside0.mk (blk_below BX8.out hbL)
  have BY9 := Aside0.mk (blk_below BY8.out hbL)
  have BL9 := Aside0.mk (below_step BL8.out hbL)
  clear hbL BX8 BY8 BL8
  refine hK.out _ _ ⟨(blk_cell BX9.out 0).trans rfl, (blk_cell BX9.out 1).trans rfl, (blk_cell BX9.out 2).trans rfl, (blk_cell BY9.out 0).trans rfl, (blk_cell BY9.out 1).trans rfl, (blk_cell BY9.out 2).trans rfl⟩ (fun hHeld => ?_)
  clear hK K
  refine norm_ (a' := ?_) ?_ ?_
  rotate_left
  · show Act.put _ (some 34) _ = _
    simp only [Act.put, List.setIfInBounds_toArray, List.set_cons_zero, List.set_cons_succ, i64_w, i32_w]
    rfl
  refine pure_ (i := 12) (N := (some 35)) (v := ?_) (a' := ?_) #[true, true, true, true, true, true, true, true, true, true, true, true, true, false] rfl rfl (any_of HT_.out (by kernel_rfl)) (fun _ _ _ h => h) (Or.inl ⟨by rfl, ?_⟩) ?_ ?_
  rotate_left
  · intro w'
    go_simp
    with_reducible rfl
  rotate_left
  · simp only [Act.put, List.setIfInBounds_toArray, List.set_cons_zero, List.set_cons_succ, i64_w, i32_w]
    rfl
  refine pure_ (i := 13) (N := (some 4)) (v := ?_) (a' := ?_) #[true, true, true, true, true, true, true, true, true, true, true, true, true, true] rfl rfl (any_of HT_.out (by kernel_rfl)) (fun _ _ _ h => h) (Or.inl ⟨by rfl, ?_⟩) ?_ ?_
  rotate_left
  · intro w'
    go_simp
    with_reducible rfl
  rotate_left
  · simp only [Act.put, List.setIfInBounds_toArray, List.set_cons_zero, List.set_cons_succ, i64_w, i32_w]
    rfl
  refine done_ (done_of HT_.out (by kernel_rfl)) ?_
  clear hHeld HT_ HW_
  go_wp2_with fail
  go_ret
  exact ⟨rfl, BL9.out⟩
end Go.Proofs.Ytpcoelimabojcaa.Hand
