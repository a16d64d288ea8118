/- ChainBytes' walk. -/
import Derived.Test.YtpcoelimabojcaaHE10
import Derived.Test.YtpcoelimabojcaaHE9
import Derived.Test.YtpcoelimabojcaaHE2
import Derived.Test.YtpcoelimabojcaaHLent
namespace Go.Proofs.Ytpcoelimabojcaa.Hand
open Go.RowKit Go.Proofs.Ytpcoelimabojcaa Go.Proofs.YtpcoelimabojcaaW.PrintWords Go.Proofs.YtpcoelimabojcaaW.PrintLast
set_option linter.unusedVariables false
set_option linter.unusedSimpArgs false
theorem stays_c (A : Option Addr) (c : Nat) (A1 : Option Addr) (c1 : Nat) (l : List Int) (w : World) (hr : Kd.C (Kd.int .u8) w A (l.length + 2) (l ++ [201, 202])) (hc : l.length + 2 ≤ c) (hr1 : Kd.C (Kd.int .u8) w A1 l.length l) :
    Calls Try.prog 31 #[.slice A l.length c, .slice A1 l.length c1] w fun e w' => e = .returned (.bool true) ∧ Below w.heap.size w w' := (Stays_calls A c A1 c1 l w hr hc hr1).mono fun e w' h => ⟨h.1, drawn_below (Below.refl _ _) h.2⟩
def TY7 : Bool × List (List Nat × List Nat) := (true, [([], []), ([], []), ([0, 1], [0, 1]), ([2, 2], [2]), ([], []), ([], []), ([4, 5, 3], [4, 5]), ([3, 6], [3, 6]), ([7, 6], [7]), ([8], [8]), ([9, 8], [8, 9]), ([8], [8]), ([11, 8], [8, 11]), ([10, 12, 8], [8, 10, 12]), ([8, 13], [8, 13]), ([14, 8], [14]), ([15], [15]), ([16, 15, 15], [15, 16]), ([15], [15]), ([17, 18, 15], [15, 17, 18]), ([15, 19], [15, 19]), ([20, 17], [20]), ([21], [21]), ([21], [21]), ([23, 21, 21], [21, 23]), ([22, 24, 24, 21], [21, 22, 24]), ([21, 25], [21, 25]), ([26, 25], [26]), ([27], [27]), ([28, 27, 27], [27, 28]), ([27], [27]), ([29, 30, 27], [27, 29, 30]), ([27, 31], [27, 31]), ([32, 29], [32]), ([33], [33]), ([33], [33]), ([35, 33, 33], [33, 35]), ([34, 36, 36, 33], [33, 34, 36]), ([33, 37], [33, 37]), ([38, 37], [38]), ([39], [39]), ([39], [39]), ([40, 41, 39, 39], [39, 40, 41]), ([39, 42], [39, 42]), ([43, 42], [43]), ([44, 44], [44]), ([44, 45], [44, 45]), ([46, 45, 0, 1, 2, 3, 4, 5, 6, 7, 8, 9, 10, 11, 12, 13, 14, 15, 16, 17, 18, 19, 20, 21, 22, 23, 24, 25, 26, 27, 28, 29, 30, 31, 32, 33, 34, 35, 36, 37, 38, 39, 40, 41, 42, 43, 44, 45, 46], [46])])
def BY7 : List Nat := [0, 0, 3, 7, 0, 0, 63, 127, 255, 511, 1023, 511, 2559, 8191, 16383, 32767, 65535, 131071, 65535, 524287, 1048575, 2097151, 4194303, 4194303, 12582911, 33554431, 67108863, 134217727, 268435455, 536870911, 268435455, 2147483647, 4294967295, 8589934591, 17179869183, 17179869183, 51539607551, 137438953471, 274877906943, 549755813887, 1099511627775, 1099511627775, 4398046511103, 8796093022207, 17592186044415, 35184372088831, 70368744177663, 140737488355327]
theorem tabY7 : rtab .any (opsOf Try.f8 7) = TY7 := by kernel_rfl
theorem bitsY7 : waitsOk TY7.2 BY7 = true := by kernel_rfl
structure BytI (W : World) (ow tr o t : Int) (A A1 A3 A4 B Bw Av Ad : Option Addr) (c c1 c3 c4 : Nat) (ps qs : List PartV) (l bs : List Int) (gx gy gz : Nat) (w : World) : Prop where
  below : Below W.heap.size W w
  box : w.heap[W.heap.size]? = some (.cells #[.int .i64 ow, .int .i64 tr, .slice A ps.length c] 24 (0, 0))
  bx : w.heap[gx]? = some (.cells #[.int .i64 ow, .int .i64 tr, .slice A1 ps.length c1] 27 (0, 0))
  byy : w.heap[gy]? = some (.cells #[.int .i64 o, .int .i64 t, .slice A3 qs.length c3] 27 (0, 0))
  bz : w.heap[gz]? = some (.cells #[.int .i64 o, .int .i64 t, .slice A4 qs.length c4] 24 (0, 0))
  ra : Kd.C k53 w A ps.length ps
  rx : Kd.C k53 w A1 ps.length ps
  ry : Kd.C k53 w A3 qs.length qs
  rz : Kd.C k53 w A4 qs.length qs
  rb : Kd.C (Kd.int .u8) w B l.length l
  rw : Kd.C (Kd.int .u8) w Bw (l.length + 2) (l ++ [201, 202])
  rv : Kd.C (Kd.int .u8) w Av bs.length bs
  rd : Kd.C (Kd.int .u8) w Ad bs.length bs
theorem BytI.move {W w w1 : World} {ow tr o t : Int} {A A1 A3 A4 B Bw Av Ad : Option Addr} {c c1 c3 c4 : Nat} {ps qs : List PartV} {l bs : List Int} {gx gy gz : Nat} (h : BytI W ow tr o t A A1 A3 A4 B Bw Av Ad c c1 c3 c4 ps qs l bs gx gy gz w) (hb : Below w.heap.size w w1) : BytI W ow tr o t A A1 A3 A4 B Bw Av Ad c c1 c3 c4 ps qs l bs gx gy gz w1 :=
  ⟨below_step h.below hb, blk_below h.box hb, blk_below h.bx hb, blk_below h.byy hb, blk_below h.bz hb, Kd.C_below h.ra hb, Kd.C_below h.rx hb, Kd.C_below h.ry hb, Kd.C_below h.rz hb, Kd.C_below h.rb hb, Kd.C_below h.rw hb, Kd.C_below h.rv hb, Kd.C_below h.rd hb⟩
set_option maxHeartbeats 12800000 in
set_option maxRecDepth 100000 in
theorem lawBytes (ow tr n : Int) (A B : Option Addr) (c cb : Nat) (ps : List PartV) (l : List Int) (W : World) (hr : Kd.C k53 W A ps.length ps) (hcA : ps.length ≤ c) (hl : ps.length * 40 ≤ 140737488355328) (hnd : ∀ p ∈ ps, p.nodes.length * 8 ≤ 140737488355328) (hs : Kd.C (Kd.int .u8) W B l.length l) (hc : l.length ≤ cb) (hb : isBytes l) (hll : l.length ≤ 140737488351232) :
    Calls Try.prog 8 #[.agg #[.int .i64 ow, .int .i64 tr, .slice A ps.length c], .slice B l.length cb, .int .i64 n] W fun e W' => e = .returned (.bool true) ∧ Below W.heap.size W W' := by
  obtain ⟨o1, ho1⟩ : ∃ o1 : Obj, o1 = .cells #[.int .i64 ow, .int .i64 tr, .slice A ps.length c] 24 (0, 0) := ⟨_, rfl⟩
  have b1 := heap_alloc_new W o1
  have hI : BackI W ow tr A B c ps l (W.alloc o1) := ⟨below_alloc (Below.refl _ _) o1, by rw [ho1] at b1 ⊢; exact b1, Kd.C_alloc hr o1, Kd.C_alloc hs o1⟩
  have HI := Aside0.mk hI
  have HY := Aside0.mk hb
  have HND := Aside0.mk hnd
  have HND2 := Aside0.mk (show ∀ p ∈ ps, p.nodes.length ≤ 9223372036854775807 from fun p hp => by have := hnd p hp; omega)
  have hmaxp := Kd.C_max hr
  have x0 : (W.alloc o1).cell? ⟨W.heap.size, 0, none⟩ = some (.int .i64 ow) := (blk_cell hI.box 0).trans rfl
  have x1 : (W.alloc o1).cell? ⟨W.heap.size, 1, none⟩ = some (.int .i64 tr) := (blk_cell hI.box 1).trans rfl
  have x2 : (W.alloc o1).cell? ⟨W.heap.size, 2, none⟩ = some (.slice A ps.length c) := (blk_cell hI.box 2).trans rfl
  clear b1 hI hr hs hb hnd
  subst ho1
  go_enter Try.func8, Try.ntmps8
  go_wp2_with fail
  refine (own_c ow tr A c ps _ HI.out.row hl HND.out).mono ?_
  rintro e w1 ⟨A1, c1, rfl, hR1, hb1⟩
  obtain ⟨ox, hox⟩ : ∃ ox : Obj, ox = .cells #[.int .i64 ow, .int .i64 tr, .slice A1 ps.length c1] 27 (0, 0) := ⟨_, rfl⟩
  have HI1 := Aside0.mk (HI.out.move (hb1.trans (below_alloc (Below.refl w1.heap.size w1) ox |>.mono hb1.size)))
  have BX1 := Aside0.mk (heap_alloc_new w1 ox)
  have HX1 := Aside0.mk (Kd.C_alloc (Kd.R_reads' hR1).2.2 ox)
  subst hox
  clear hR1 hb1 HI x0 x1 x2
  go_wp2_with fail
  refine (Lent_calls B cb l _ HI1.out.src hc hll).mono ?_
  rintro e w2 ⟨Bw, cw, rfl, hcw, hCw, hbL⟩
  have HI2 := Aside0.mk (HI1.out.move hbL)
  have BX2 := Aside0.mk (blk_below BX1.out hbL)
  have HX2 := Aside0.mk (Kd.C_below HX1.out hbL)
  have HW2 := Aside0.mk hCw
  clear hbL hCw HI1 BX1 HX1
  generalize w1.heap.size = gx at BX2 ⊢
  have y0 : w2.cell? ⟨gx, 0, none⟩ = some (.int .i64 ow) := (blk_cell BX2.out 0).trans rfl
  have y1 : w2.cell? ⟨gx, 1, none⟩ = some (.int .i64 tr) := (blk_cell BX2.out 1).trans rfl
  have y2 : w2.cell? ⟨gx, 2, none⟩ = some (.slice A1 ps.length c1) := (blk_cell BX2.out 2).trans rfl
  go_wp2_with fail
  refine (encode_c ow tr n A1 c1 ps _ HX2.out).mono ?_
  rintro e w3 ⟨hbL, v, rfl, hR3⟩
  obtain ⟨Av, cv, rfl⟩ := Kd.R_slice hR3
  have HI3 := Aside0.mk (HI2.out.move hbL)
  have BX3 := Aside0.mk (blk_below BX2.out hbL)
  have HX3 := Aside0.mk (Kd.C_below HX2.out hbL)
  have HW3 := Aside0.mk (Kd.C_below HW2.out hbL)
  have HV3 := Aside0.mk (Kd.R_reads' hR3).2.2
  clear hbL hR3 HI2 BX2 HX2 HW2 y0 y1 y2
  have x0 : w3.cell? ⟨W.heap.size, 0, none⟩ = some (.int .i64 ow) := (blk_cell HI3.out.box 0).trans rfl
  have x1 : w3.cell? ⟨W.heap.size, 1, none⟩ = some (.int .i64 tr) := (blk_cell HI3.out.box 1).trans rfl
  have x2 : w3.cell? ⟨W.heap.size, 2, none⟩ = some (.slice A ps.length c) := (blk_cell HI3.out.box 2).trans rfl
  go_wp2_with fail
  refine (refEncode_c ow tr n A c ps _ HI3.out.row hcA HND2.out).mono ?_
  rintro e w4 ⟨v2, rfl, hR4, hbL⟩
  obtain ⟨Ad, cd, rfl⟩ := Kd.R_slice hR4
  have HI4 := Aside0.mk (HI3.out.move hbL)
  have BX4 := Aside0.mk (blk_below BX3.out hbL)
  have HX4 := Aside0.mk (Kd.C_below HX3.out hbL)
  have HW4 := Aside0.mk (Kd.C_below HW3.out hbL)
  have HV4 := Aside0.mk (Kd.C_below HV3.out hbL)
  have HD4 := Aside0.mk (Kd.R_reads' hR4).2.2
  clear hbL hR4 HI3 BX3 HX3 HW3 HV3 x0 x1 x2
  obtain ⟨bs, hbs⟩ : ∃ bs, (encF ow tr ps n).1 = bs := ⟨_, rfl⟩
  obtain ⟨ee, hee⟩ : ∃ ee, (encF ow tr ps n).2 = ee := ⟨_, rfl⟩
  rw [hbs] at HV4 HD4 ⊢
  rw [hee]
  clear hbs hee
  go_wp2_with fail
  refine (decode_c n Bw cw l _ (C_lent HW4.out) (by omega) HY.out).mono ?_
  rintro e w5 ⟨hbL, A3, c3, rfl, hR5⟩
  obtain ⟨⟨o, t, qs, ed⟩, hD⟩ : ∃ r, decF l n = r := ⟨_, rfl⟩
  have HIN := Aside0.mk (decF_in HY.out n)
  rw [hD] at hR5 HIN ⊢
  have HDD := Aside0.mk hD
  clear hD
  dsimp only at hR5 HIN ⊢
  obtain ⟨oy, hoy⟩ : ∃ oy : Obj, oy = .cells #[.int .i64 o, .int .i64 t, .slice A3 qs.length c3] 27 (0, 0) := ⟨_, rfl⟩
  have hbM : Below w4.heap.size w4 (w5.alloc oy) := hbL.trans (below_alloc (Below.refl w5.heap.size w5) oy |>.mono hbL.size)
  have HI5 := Aside0.mk (HI4.out.move hbM)
  have BX5 := Aside0.mk (blk_below BX4.out hbM)
  have HX5 := Aside0.mk (Kd.C_below HX4.out hbM)
  have HW5 := Aside0.mk (Kd.C_below HW4.out hbM)
  have HV5 := Aside0.mk (Kd.C_below HV4.out hbM)
  have HD5 := Aside0.mk (Kd.C_below HD4.out hbM)
  have BY5 := Aside0.mk (heap_alloc_new w5 oy)
  have HQ5 := Aside0.mk (Kd.C_alloc (Kd.R_reads' hR5).2.2 oy)
  subst hoy
  clear hbM hbL hR5 HI4 BX4 HX4 HW4 HV4 HD4
  go_wp2_with fail
  refine (refDecode_c n B cb l _ HI5.out.src hc HY.out).mono ?_
  rintro e w6 ⟨hbL, A4, c4, rfl, hc4, hC6⟩
  rw [HDD.out] at hC6 ⊢
  dsimp only at hC6 ⊢
  obtain ⟨oz, hoz⟩ : ∃ oz : Obj, oz = .cells #[.int .i64 o, .int .i64 t, .slice A4 qs.length c4] 24 (0, 0) := ⟨_, rfl⟩
  generalize w5.heap.size = gy at BY5 ⊢
  generalize (w5.alloc (.cells #[.int .i64 o, .int .i64 t, .slice A3 qs.length c3] 27 (0, 0))) = w5b at HI5 BX5 HX5 HW5 HV5 HD5 BY5 HQ5 hbL ⊢
  have hbM : Below w5b.heap.size w5b (w6.alloc oz) := hbL.trans (below_alloc (Below.refl w6.heap.size w6) oz |>.mono hbL.size)
  have HT7 := Aside0.mk (show BytI W ow tr o t A A1 A3 A4 B Bw Av Ad c c1 c3 c4 ps qs l bs gx gy w6.heap.size (w6.alloc oz) from
    ⟨(HI5.out.move hbM).below, (HI5.out.move hbM).box, blk_below BX5.out hbM, blk_below BY5.out hbM, by rw [← hoz]; exact heap_alloc_new w6 oz, (HI5.out.move hbM).row, Kd.C_below HX5.out hbM, Kd.C_below HQ5.out hbM, Kd.C_alloc hC6 oz, (HI5.out.move hbM).src, Kd.C_below HW5.out hbM, Kd.C_below HV5.out hbM, Kd.C_below HD5.out hbM⟩)
  subst hoz
  clear hbM hbL hC6 HI5 BX5 HX5 HW5 HV5 HD5 BY5 HQ5 hc4
  go_wp2_with fail
  generalize w6.heap.size = gz at HT7 ⊢
  generalize (w6.alloc (.cells #[.int .i64 o, .int .i64 t, .slice A4 qs.length c4] 24 (0, 0))) = w7 at HT7 ⊢
  have HT_8 := Aside0.mk (HT7.out.move (below_drew (Below.refl w7.heap.size w7)))
  clear HT7
  refine start_ (n := 48) (S := fun w' => w'.cell? ⟨gx, 0, none⟩ = some (.int .i64 ow) ∧ w'.cell? ⟨gx, 1, none⟩ = some (.int .i64 tr) ∧ w'.cell? ⟨gx, 2, none⟩ = some (.slice A1 ps.length c1) ∧ w'.cell? ⟨W.heap.size, 0, none⟩ = some (.int .i64 ow) ∧ w'.cell? ⟨W.heap.size, 1, none⟩ = some (.int .i64 tr) ∧ w'.cell? ⟨W.heap.size, 2, none⟩ = some (.slice A ps.length c) ∧ w'.cell? ⟨gy, 0, none⟩ = some (.int .i64 o) ∧ w'.cell? ⟨gy, 1, none⟩ = some (.int .i64 t) ∧ w'.cell? ⟨gy, 2, none⟩ = some (.slice A3 qs.length c3) ∧ w'.cell? ⟨gz, 0, none⟩ = some (.int .i64 o) ∧ w'.cell? ⟨gz, 1, none⟩ = some (.int .i64 t) ∧ w'.cell? ⟨gz, 2, none⟩ = some (.slice A4 qs.length c4) ∧ (convert 56 9 (.slice Av bs.length cv)).run Try.prog w' = .ok (.string (strOfNums bs)) w' ∧ (convert 56 9 (.slice Ad bs.length cd)).run Try.prog w' = .ok (.string (strOfNums bs)) w') (ds := []) #[false, false, false, false, false, false, false, false, false, false, false, false, false, false, false, false, false, false, false, false, false, false, false, false, false, false, false, false, false, false, false, false, false, false, false, false, false, false, false, false, false, false, false, false, false, false, false, false] (by kernel_rfl) rfl rfl ⟨(blk_cell HT_8.out.bx 0).trans rfl, (blk_cell HT_8.out.bx 1).trans rfl, (blk_cell HT_8.out.bx 2).trans rfl, (blk_cell HT_8.out.box 0).trans rfl, (blk_cell HT_8.out.box 1).trans rfl, (blk_cell HT_8.out.box 2).trans rfl, (blk_cell HT_8.out.byy 0).trans rfl, (blk_cell HT_8.out.byy 1).trans rfl, (blk_cell HT_8.out.byy 2).trans rfl, (blk_cell HT_8.out.bz 0).trans rfl, (blk_cell HT_8.out.bz 1).trans rfl, (blk_cell HT_8.out.bz 2).trans rfl, conv_c cv HT_8.out.rv, conv_c cd HT_8.out.rd⟩ (fun hHeld => ?_); refine with_tabW tabY7 bitsY7 (fun HT_ HW_ => ?_)
  generalize hwd : w7.drew = w8 at HT_8 hHeld ⊢
  clear hwd
  refine take_ (i := 0) (N := (some 45)) (v := ?_) (a' := ?_) #[true, false, false, false, false, false, false, false, false, false, false, false, false, false, false, false, false, false, false, false, false, false, false, false, false, false, false, false, false, false, false, false, false, false, false, false, false, false, false, false, false, false, false, false, false, false, false, false] rfl rfl (take_ofW HT_.out HW_.out (by kernel_rfl)) (fun _ _ _ h => h) (Or.inl ⟨by rfl, ?_⟩) hHeld ?_ ?_
  rotate_left
  · rintro w' ⟨s0, s1, s2, s3, s4, s5, s6, s7, s8, s9, s10, s11, s12, s13⟩
    go_simp
    with_reducible rfl
  rotate_left
  · simp only [Act.put, List.setIfInBounds_toArray, List.set_cons_zero, List.set_cons_succ, i64_w, i32_w]
    rfl
  refine pure_ (i := 1) (N := (some 46)) (v := ?_) (a' := ?_) #[true, true, false, false, false, false, false, false, false, false, false, false, false, false, false, false, false, false, false, false, false, false, false, false, false, false, false, false, false, false, false, false, false, false, false, false, false, false, false, false, false, false, false, false, false, false, false, false] rfl rfl (any_of HT_.out (by kernel_rfl)) (fun _ _ _ h => h) (Or.inl ⟨by rfl, ?_⟩) ?_ ?_
  rotate_left
  · intro w'
    go_simp
    with_reducible rfl
  rotate_left
  · simp only [Act.put, List.setIfInBounds_toArray, List.set_cons_zero, List.set_cons_succ, i64_w, i32_w]
    rfl
  refine take_ (i := 4) (N := (some 49)) (v := ?_) (a' := ?_) #[true, true, false, false, true, false, false, false, false, false, false, false, false, false, false, false, false, false, false, false, false, false, false, false, false, false, false, false, false, false, false, false, false, false, false, false, false, false, false, false, false, false, false, false, false, false, false, false] rfl rfl (take_ofW HT_.out HW_.out (by kernel_rfl)) (fun _ _ _ h => h) (Or.inl ⟨by rfl, ?_⟩) hHeld ?_ ?_
  rotate_left
  · rintro w' ⟨s0, s1, s2, s3, s4, s5, s6, s7, s8, s9, s10, s11, s12, s13⟩
    go_simp
    with_reducible rfl
  rotate_left
  · simp only [Act.put, List.setIfInBounds_toArray, List.set_cons_zero, List.set_cons_succ, i64_w, i32_w]
    rfl
  refine pure_ (i := 5) (N := (some 50)) (v := ?_) (a' := ?_) #[true, true, false, false, true, true, false, false, false, false, false, false, false, false, false, false, false, false, false, false, false, false, false, false, false, false, false, false, false, false, false, false, false, false, false, false, false, false, false, false, false, false, false, false, false, false, false, false] rfl rfl (any_of HT_.out (by kernel_rfl)) (fun _ _ _ h => h) (Or.inl ⟨by rfl, ?_⟩) ?_ ?_
  rotate_left
  · intro w'
    go_simp
    with_reducible rfl
  rotate_left
  · simp only [Act.put, List.setIfInBounds_toArray, List.set_cons_zero, List.set_cons_succ, i64_w, i32_w]
    rfl
  refine one_ (i := 2) (N := (some 47)) #[true, true, true, false, true, true, false, false, false, false, false, false, false, false, false, false, false, false, false, false, false, false, false, false, false, false, false, false, false, false, false, false, false, false, false, false, false, false, false, false, false, false, false, false, false, false, false, false] rfl rfl (one_of HT_.out (by kernel_rfl)) (by decide) (fun K hK => ?_)
  refine goes_ Try.func19 (by kernel_rfl) rfl #[.agg #[.int .i64 ow, .int .i64 tr, .slice A1 ps.length c1], .int .i64 n] (by rfl) rfl rfl (by (try simp only [List.map_toArray, List.map_cons, List.map_nil]); first | done | rfl) ?_
  refine (check_c ow tr n A1 c1 ps _ HT_8.out.rx).mono ?_
  rintro e w9 ⟨rfl, hbL⟩
  refine ⟨_, rfl, ?_⟩
  have HT_9 := Aside0.mk (HT_8.out.move hbL)
  clear hbL HT_8
  refine hK.out _ _ ⟨(blk_cell HT_9.out.bx 0).trans rfl, (blk_cell HT_9.out.bx 1).trans rfl, (blk_cell HT_9.out.bx 2).trans rfl, (blk_cell HT_9.out.box 0).trans rfl, (blk_cell HT_9.out.box 1).trans rfl, (blk_cell HT_9.out.box 2).trans rfl, (blk_cell HT_9.out.byy 0).trans rfl, (blk_cell HT_9.out.byy 1).trans rfl, (blk_cell HT_9.out.byy 2).trans rfl, (blk_cell HT_9.out.bz 0).trans rfl, (blk_cell HT_9.out.bz 1).trans rfl, (blk_cell HT_9.out.bz 2).trans rfl, conv_c cv HT_9.out.rv, conv_c cd HT_9.out.rd⟩ (fun hHeld => ?_)
  clear hK K
  refine norm_ (a' := ?_) ?_ ?_
  rotate_left
  · show Act.put _ (some 47) _ = _
    simp only [Act.put, List.setIfInBounds_toArray, List.set_cons_zero, List.set_cons_succ, i64_w, i32_w]
    rfl
  refine one_ (i := 3) (N := (some 48)) #[true, true, true, true, true, true, false, false, false, false, false, false, false, false, false, false, false, false, false, false, false, false, false, false, false, false, false, false, false, false, false, false, false, false, false, false, false, false, false, false, false, false, false, false, false, false, false, false] rfl rfl (one_of HT_.out (by kernel_rfl)) (by decide) (fun K hK => ?_)
  refine goes_ Try.func17 (by kernel_rfl) rfl #[.int .i64 (errB (rightF ow tr ps n))] (by rfl) rfl rfl (by (try simp only [List.map_toArray, List.map_cons, List.map_nil]); first | done | rfl) ?_
  refine (num_c (errB (rightF ow tr ps n)) _).mono ?_
  rintro e w_ ⟨rfl, rfl⟩
  refine ⟨_, rfl, ?_⟩
  refine hK.out _ _ ⟨(blk_cell HT_9.out.bx 0).trans rfl, (blk_cell HT_9.out.bx 1).trans rfl, (blk_cell HT_9.out.bx 2).trans rfl, (blk_cell HT_9.out.box 0).trans rfl, (blk_cell HT_9.out.box 1).trans rfl, (blk_cell HT_9.out.box 2).trans rfl, (blk_cell HT_9.out.byy 0).trans rfl, (blk_cell HT_9.out.byy 1).trans rfl, (blk_cell HT_9.out.byy 2).trans rfl, (blk_cell HT_9.out.bz 0).trans rfl, (blk_cell HT_9.out.bz 1).trans rfl, (blk_cell HT_9.out.bz 2).trans rfl, conv_c cv HT_9.out.rv, conv_c cd HT_9.out.rd⟩ (fun hHeld => ?_)
  clear hK K
  refine norm_ (a' := ?_) ?_ ?_
  rotate_left
  · show Act.put _ (some 48) _ = _
    simp only [Act.put, List.setIfInBounds_toArray, List.set_cons_zero, List.set_cons_succ, i64_w, i32_w]
    rfl
  refine one_ (i := 6) (N := (some 51)) #[true, true, true, true, true, true, true, false, false, false, false, false, false, false, false, false, false, false, false, false, false, false, false, false, false, false, false, false, false, false, false, false, false, false, false, false, false, false, false, false, false, false, false, false, false, false, false, false] rfl rfl (one_of HT_.out (by kernel_rfl)) (by decide) (fun K hK => ?_)
  refine goes_ Try.func30 (by kernel_rfl) rfl #[.agg #[.int .i64 ow, .int .i64 tr, .slice A ps.length c], .int .i64 n] (by rfl) rfl rfl (by (try simp only [List.map_toArray, List.map_cons, List.map_nil]); first | done | rfl) ?_
  refine (refCheck_c ow tr n A c ps _ HT_9.out.ra hcA hmaxp HND2.out).mono ?_
  rintro e w10 ⟨rfl, hbL⟩
  refine ⟨_, rfl, ?_⟩
  have HT_10 := Aside0.mk (HT_9.out.move hbL)
  clear hbL HT_9
  refine hK.out _ _ ⟨(blk_cell HT_10.out.bx 0).trans rfl, (blk_cell HT_10.out.bx 1).trans rfl, (blk_cell HT_10.out.bx 2).trans rfl, (blk_cell HT_10.out.box 0).trans rfl, (blk_cell HT_10.out.box 1).trans rfl, (blk_cell HT_10.out.box 2).trans rfl, (blk_cell HT_10.out.byy 0).trans rfl, (blk_cell HT_10.out.byy 1).trans rfl, (blk_cell HT_10.out.byy 2).trans rfl, (blk_cell HT_10.out.bz 0).trans rfl, (blk_cell HT_10.out.bz 1).trans rfl, (blk_cell HT_10.out.bz 2).trans rfl, conv_c cv HT_10.out.rv, conv_c cd HT_10.out.rd⟩ (fun hHeld => ?_)
  clear hK K
  refine norm_ (a' := ?_) ?_ ?_
  rotate_left
  · show Act.put _ (some 51) _ = _
    simp only [Act.put, List.setIfInBounds_toArray, List.set_cons_zero, List.set_cons_succ, i64_w, i32_w]
    rfl
  generalize errB (rightF ow tr ps n) = er
  refine pure_ (i := 7) (N := (some 52)) (v := ?_) (a' := ?_) #[true, true, true, true, true, true, true, true, false, false, false, false, false, false, false, false, false, false, false, false, false, false, false, false, false, false, false, false, false, false, false, false, false, false, false, false, false, false, false, false, false, false, false, false, false, false, false, false] rfl rfl (any_of HT_.out (by kernel_rfl)) (fun _ _ _ h => h) (Or.inl ⟨by rfl, ?_⟩) ?_ ?_
  rotate_left
  · intro w'
    go_simp
    with_reducible rfl
  rotate_left
  · simp only [Act.put, List.setIfInBounds_toArray, List.set_cons_zero, List.set_cons_succ, i64_w, i32_w]
    rfl
  refine pure_ (i := 8) (N := (some 53)) (v := ?_) (a' := ?_) #[true, true, true, true, true, true, true, true, true, false, false, false, false, false, false, false, false, false, false, false, false, false, false, false, false, false, false, false, false, false, false, false, false, false, false, false, false, false, false, false, false, false, false, false, false, false, false, false] rfl rfl (any_of HT_.out (by kernel_rfl)) (fun _ _ _ h => h) (Or.inl ⟨by rfl, ?_⟩) ?_ ?_
  rotate_left
  · intro w'
    go_simp
    with_reducible rfl
  rotate_left
  · simp only [Act.put, List.setIfInBounds_toArray, List.set_cons_zero, List.set_cons_succ, i64_w, i32_w]
    rfl
  refine pure_ (i := 9) (N := (some 54)) (v := ?_) (a' := ?_) #[true, true, true, true, true, true, true, true, true, true, false, false, false, false, false, false, false, false, false, false, false, false, false, false, false, false, false, false, false, false, false, false, false, false, false, false, false, false, false, false, false, false, false, false, false, false, false, false] rfl rfl (any_of HT_.out (by kernel_rfl)) (fun _ _ _ h => h) (Or.inl ⟨by rfl, ?_⟩) ?_ ?_
  rotate_left
  · intro w'
    go_simp
    with_reducible rfl
  rotate_left
  · simp only [Act.put, List.setIfInBounds_toArray, List.set_cons_zero, List.set_cons_succ, i64_w, i32_w]
    rfl
  refine pure_ (i := 11) (N := (some 56)) (v := ?_) (a' := ?_) #[true, true, true, true, true, true, true, true, true, true, false, true, false, false, false, false, false, false, false, false, false, false, false, false, false, false, false, false, false, false, false, false, false, false, false, false, false, false, false, false, false, false, false, false, false, false, false, false] rfl rfl (any_of HT_.out (by kernel_rfl)) (fun _ _ _ h => h) (Or.inl ⟨by rfl, ?_⟩) ?_ ?_
  rotate_left
  · intro w'
    go_simp
    with_reducible rfl
  rotate_left
  · simp only [Act.put, List.setIfInBounds_toArray, List.set_cons_zero, List.set_cons_succ, i64_w, i32_w]
    rfl
  refine take_ (i := 10) (N := (some 55)) (v := ?_) (a' := ?_) #[true, true, true, true, true, true, true, true, true, true, true, true, false, false, false, false, false, false, false, false, false, false, false, false, false, false, false, false, false, false, false, false, false, false, false, false, false, false, false, false, false, false, false, false, false, false, false, false] rfl rfl (take_ofW HT_.out HW_.out (by kernel_rfl)) (fun _ _ _ h => h) (Or.inl ⟨by rfl, ?_⟩) hHeld ?_ ?_
  rotate_left
  · rintro w' ⟨s0, s1, s2, s3, s4, s5, s6, s7, s8, s9, s10, s11, s12, s13⟩
    go_simp
    with_reducible rfl
  rotate_left
  · simp only [Act.put, List.setIfInBounds_toArray, List.set_cons_zero, List.set_cons_succ, i64_w, i32_w]
    rfl
  refine take_ (i := 12) (N := (some 57)) (v := ?_) (a' := ?_) #[true, true, true, true, true, true, true, true, true, true, true, true, true, false, false, false, false, false, false, false, false, false, false, false, false, false, false, false, false, false, false, false, false, false, false, false, false, false, false, false, false, false, false, false, false, false, false, false] rfl rfl (take_ofW HT_.out HW_.out (by kernel_rfl)) (fun _ _ _ h => h) (Or.inl ⟨by rfl, ?_⟩) hHeld ?_ ?_
  rotate_left
  · rintro w' ⟨s0, s1, s2, s3, s4, s5, s6, s7, s8, s9, s10, s11, s12, s13⟩
    go_simp
    with_reducible rfl
  rotate_left
  · simp only [Act.put, List.setIfInBounds_toArray, List.set_cons_zero, List.set_cons_succ, i64_w, i32_w]
    rfl
  refine pure_ (i := 13) (N := (some 58)) (v := ?_) (a' := ?_) #[true, true, true, true, true, true, true, true, true, true, true, true, true, true, false, false, false, false, false, false, false, false, false, false, false, false, false, false, false, false, false, false, false, false, false, false, false, false, false, false, false, false, false, false, false, false, false, false] rfl rfl (any_of HT_.out (by kernel_rfl)) (fun _ _ _ h => h) (Or.inl ⟨by rfl, ?_⟩) ?_ ?_
  rotate_left
  · intro w'
    go_simp
    with_reducible rfl
  rotate_left
  · simp only [Act.put, List.setIfInBounds_toArray, List.set_cons_zero, List.set_cons_succ, i64_w, i32_w]
    rfl
  refine pure_ (i := 14) (N := (some 59)) (v := ?_) (a' := ?_) #[true, true, true, true, true, true, true, true, true, true, true, true, true, true, true, false, false, false, false, false, false, false, false, false, false, false, false, false, false, false, false, false, false, false, false, false, false, false, false, false, false, false, false, false, false, false, false, false] rfl rfl (any_of HT_.out (by kernel_rfl)) (fun _ _ _ h => h) (Or.inl ⟨by rfl, ?_⟩) ?_ ?_
  rotate_left
  · intro w'
    go_simp
    with_reducible rfl
  rotate_left
  · simp only [Act.put, List.setIfInBounds_toArray, List.set_cons_zero, List.set_cons_succ, i64_w, i32_w]
    rfl
  refine pure_ (i := 15) (N := (some 60)) (v := ?_) (a' := ?_) #[true, true, true, true, true, true, true, true, true, true, true, true, true, true, true, true, false, false, false, false, false, false, false, false, false, false, false, false, false, false, false, false, false, false, false, false, false, false, false, false, false, false, false, false, false, false, false, false] rfl rfl (any_of HT_.out (by kernel_rfl)) (fun _ _ _ h => h) (Or.inl ⟨by rfl, ?_⟩) ?_ ?_
  rotate_left
  · intro w'
    go_simp
    with_reducible rfl
  rotate_left
  · simp only [Act.put, List.setIfInBounds_toArray, List.set_cons_zero, List.set_cons_succ, i64_w, i32_w]
    rfl
  refine pure_ (i := 16) (N := (some 61)) (v := ?_) (a' := ?_) #[true, true, true, true, true, true, true, true, true, true, true, true, true, true, true, true, true, false, false, false, false, false, false, false, false, false, false, false, false, false, false, false, false, false, false, false, false, false, false, false, false, false, false, false, false, false, false, false] rfl rfl (any_of HT_.out (by kernel_rfl)) (fun _ _ _ h => h) (Or.inl ⟨by rfl, ?_⟩) ?_ ?_
  rotate_left
  · intro w'
    go_simp
    with_reducible rfl
  rotate_left
  · simp only [Act.put, List.setIfInBounds_toArray, List.set_cons_zero, List.set_cons_succ, i64_w, i32_w]
    rfl
  refine pure_ (i := 18) (N := (some 63)) (v := ?_) (a' := ?_) #[true, true, true, true, true, true, true, true, true, true, true, true, true, true, true, true, true, false, true, false, false, false, false, false, false, false, false, false, false, false, false, false, false, false, false, false, false, false, false, false, false, false, false, false, false, false, false, false] rfl rfl (any_of HT_.out (by kernel_rfl)) (fun _ _ _ h => h) (Or.inl ⟨by rfl, ?_⟩) ?_ ?_
  rotate_left
  · intro w'
    go_simp
    with_reducible rfl
  rotate_left
  · simp only [Act.put, List.setIfInBounds_toArray, List.set_cons_zero, List.set_cons_succ, i64_w, i32_w]
    rfl
  refine one_ (i := 17) (N := (some 62)) #[true, true, true, true, true, true, true, true, true, true, true, true, true, true, true, true, true, true, true, false, false, false, false, false, false, false, false, false, false, false, false, false, false, false, false, false, false, false, false, false, false, false, false, false, false, false, false, false] rfl rfl (one_of HT_.out (by kernel_rfl)) (by decide) (fun K hK => ?_)
  refine goes_ Try.func17 (by kernel_rfl) rfl #[.int .i64 ee] (by rfl) rfl rfl (by (try simp only [List.map_toArray, List.map_cons, List.map_nil]); first | done | rfl) ?_
  refine (num_c ee _).mono ?_
  rintro e w_ ⟨rfl, rfl⟩
  refine ⟨_, rfl, ?_⟩
  refine hK.out _ _ ⟨(blk_cell HT_10.out.bx 0).trans rfl, (blk_cell HT_10.out.bx 1).trans rfl, (blk_cell HT_10.out.bx 2).trans rfl, (blk_cell HT_10.out.box 0).trans rfl, (blk_cell HT_10.out.box 1).trans rfl, (blk_cell HT_10.out.box 2).trans rfl, (blk_cell HT_10.out.byy 0).trans rfl, (blk_cell HT_10.out.byy 1).trans rfl, (blk_cell HT_10.out.byy 2).trans rfl, (blk_cell HT_10.out.bz 0).trans rfl, (blk_cell HT_10.out.bz 1).trans rfl, (blk_cell HT_10.out.bz 2).trans rfl, conv_c cv HT_10.out.rv, conv_c cd HT_10.out.rd⟩ (fun hHeld => ?_)
  clear hK K
  refine norm_ (a' := ?_) ?_ ?_
  rotate_left
  · show Act.put _ (some 62) _ = _
    simp only [Act.put, List.setIfInBounds_toArray, List.set_cons_zero, List.set_cons_succ, i64_w, i32_w]
    rfl
  refine pure_ (i := 19) (N := (some 64)) (v := ?_) (a' := ?_) #[true, true, true, true, true, true, true, true, true, true, true, true, true, true, true, true, true, true, true, true, false, false, false, false, false, false, false, false, false, false, false, false, false, false, false, false, false, false, false, false, false, false, false, false, false, false, false, false] rfl rfl (any_of HT_.out (by kernel_rfl)) (fun _ _ _ h => h) (Or.inl ⟨by rfl, ?_⟩) ?_ ?_
  rotate_left
  · intro w'
    go_simp
    with_reducible rfl
  rotate_left
  · simp only [Act.put, List.setIfInBounds_toArray, List.set_cons_zero, List.set_cons_succ, i64_w, i32_w]
    rfl
  refine pure_ (i := 20) (N := (some 65)) (v := ?_) (a' := ?_) #[true, true, true, true, true, true, true, true, true, true, true, true, true, true, true, true, true, true, true, true, true, false, false, false, false, false, false, false, false, false, false, false, false, false, false, false, false, false, false, false, false, false, false, false, false, false, false, false] rfl rfl (any_of HT_.out (by kernel_rfl)) (fun _ _ _ h => h) (Or.inl ⟨by rfl, ?_⟩) ?_ ?_
  rotate_left
  · intro w'
    go_simp
    with_reducible rfl
  rotate_left
  · simp only [Act.put, List.setIfInBounds_toArray, List.set_cons_zero, List.set_cons_succ, i64_w, i32_w]
    rfl
  refine pure_ (i := 21) (N := (some 66)) (v := ?_) (a' := ?_) #[true, true, true, true, true, true, true, true, true, true, true, true, true, true, true, true, true, true, true, true, true, true, false, false, false, false, false, false, false, false, false, false, false, false, false, false, false, false, false, false, false, false, false, false, false, false, false, false] rfl rfl (any_of HT_.out (by kernel_rfl)) (fun _ _ _ h => h) (Or.inl ⟨by rfl, ?_⟩) ?_ ?_
  rotate_left
  · intro w'
    go_simp
    with_reducible rfl
  rotate_left
  · simp only [Act.put, List.setIfInBounds_toArray, List.set_cons_zero, List.set_cons_succ, i64_w, i32_w]
    rfl
  refine take_ (i := 22) (N := (some 67)) (v := ?_) (a' := ?_) #[true, true, true, true, true, true, true, true, true, true, true, true, true, true, true, true, true, true, true, true, true, true, true, false, false, false, false, false, false, false, false, false, false, false, false, false, false, false, false, false, false, false, false, false, false, false, false, false] rfl rfl (take_ofW HT_.out HW_.out (by kernel_rfl)) (fun _ _ _ h => h) (Or.inl ⟨by rfl, ?_⟩) hHeld ?_ ?_
  rotate_left
  · rintro w' ⟨s0, s1, s2, s3, s4, s5, s6, s7, s8, s9, s10, s11, s12, s13⟩
    go_simp
    with_reducible rfl
  rotate_left
  · simp only [Act.put, List.setIfInBounds_toArray, List.set_cons_zero, List.set_cons_succ, i64_w, i32_w]
    rfl
  refine take_ (i := 23) (N := (some 68)) (v := ?_) (a' := ?_) #[true, true, true, true, true, true, true, true, true, true, true, true, true, true, true, true, true, true, true, true, true, true, true, true, false, false, false, false, false, false, false, false, false, false, false, false, false, false, false, false, false, false, false, false, false, false, false, false] rfl rfl (take_ofW HT_.out HW_.out (by kernel_rfl)) (fun _ _ _ h => h) (Or.inl ⟨by rfl, ?_⟩) hHeld ?_ ?_
  rotate_left
  · rintro w' ⟨s0, s1, s2, s3, s4, s5, s6, s7, s8, s9, s10, s11, s12, s13⟩
    go_simp
    with_reducible rfl
  rotate_left
  · simp only [Act.put, List.setIfInBounds_toArray, List.set_cons_zero, List.set_cons_succ, i64_w, i32_w]
    rfl
  refine one_ (i := 24) (N := (some 69)) #[true, true, true, true, true, true, true, true, true, true, true, true, true, true, true, true, true, true, true, true, true, true, true, true, true, false, false, false, false, false, false, false, false, false, false, false, false, false, false, false, false, false, false, false, false, false, false, false] rfl rfl (one_of HT_.out (by kernel_rfl)) (by decide) (fun K hK => ?_)
  refine goes_ Try.func10 (by kernel_rfl) rfl #[.agg #[.int .i64 o, .int .i64 t, .slice A4 qs.length c4]] (by rfl) rfl rfl (by (try simp only [List.map_toArray, List.map_cons, List.map_nil]); first | done | rfl) ?_
  refine (own_c o t A4 c4 qs _ HT_10.out.rz (by have := HIN.out.1; omega) (fun p hp => by have := HIN.out.2 p hp; omega)).mono ?_
  rintro e w11 ⟨A8, c8, rfl, hR8, hbL⟩
  refine ⟨_, rfl, ?_⟩
  have HT_11 := Aside0.mk (HT_10.out.move hbL)
  have HO11 := Aside0.mk (Kd.R_reads' hR8).2.2
  clear hR8
  clear hbL HT_10
  refine hK.out _ _ ⟨(blk_cell HT_11.out.bx 0).trans rfl, (blk_cell HT_11.out.bx 1).trans rfl, (blk_cell HT_11.out.bx 2).trans rfl, (blk_cell HT_11.out.box 0).trans rfl, (blk_cell HT_11.out.box 1).trans rfl, (blk_cell HT_11.out.box 2).trans rfl, (blk_cell HT_11.out.byy 0).trans rfl, (blk_cell HT_11.out.byy 1).trans rfl, (blk_cell HT_11.out.byy 2).trans rfl, (blk_cell HT_11.out.bz 0).trans rfl, (blk_cell HT_11.out.bz 1).trans rfl, (blk_cell HT_11.out.bz 2).trans rfl, conv_c cv HT_11.out.rv, conv_c cd HT_11.out.rd⟩ (fun hHeld => ?_)
  clear hK K
  refine norm_ (a' := ?_) ?_ ?_
  rotate_left
  · show Act.put _ (some 69) _ = _
    simp only [Act.put, List.setIfInBounds_toArray, List.set_cons_zero, List.set_cons_succ, i64_w, i32_w]
    rfl
  refine one_ (i := 25) (N := (some 70)) #[true, true, true, true, true, true, true, true, true, true, true, true, true, true, true, true, true, true, true, true, true, true, true, true, true, true, false, false, false, false, false, false, false, false, false, false, false, false, false, false, false, false, false, false, false, false, false, false] rfl rfl (one_of HT_.out (by kernel_rfl)) (by decide) (fun K hK => ?_)
  refine goes_ Try.func24 (by kernel_rfl) rfl #[.agg #[.int .i64 o, .int .i64 t, .slice A3 qs.length c3], .agg #[.int .i64 o, .int .i64 t, .slice A8 qs.length c8]] (by rfl) rfl rfl (by (try simp only [List.map_toArray, List.map_cons, List.map_nil]); first | done | rfl) ?_
  refine (same_c o t A3 A8 c3 c8 qs _ HT_11.out.ry HO11.out).mono ?_
  rintro e w12 ⟨rfl, hbL⟩
  refine ⟨_, rfl, ?_⟩
  have HT_12 := Aside0.mk (HT_11.out.move hbL)
  clear hbL HT_11
  refine hK.out _ _ ⟨(blk_cell HT_12.out.bx 0).trans rfl, (blk_cell HT_12.out.bx 1).trans rfl, (blk_cell HT_12.out.bx 2).trans rfl, (blk_cell HT_12.out.box 0).trans rfl, (blk_cell HT_12.out.box 1).trans rfl, (blk_cell HT_12.out.box 2).trans rfl, (blk_cell HT_12.out.byy 0).trans rfl, (blk_cell HT_12.out.byy 1).trans rfl, (blk_cell HT_12.out.byy 2).trans rfl, (blk_cell HT_12.out.bz 0).trans rfl, (blk_cell HT_12.out.bz 1).trans rfl, (blk_cell HT_12.out.bz 2).trans rfl, conv_c cv HT_12.out.rv, conv_c cd HT_12.out.rd⟩ (fun hHeld => ?_)
  clear hK K
  refine norm_ (a' := ?_) ?_ ?_
  rotate_left
  · show Act.put _ (some 70) _ = _
    simp only [Act.put, List.setIfInBounds_toArray, List.set_cons_zero, List.set_cons_succ, i64_w, i32_w]
    rfl
  clear HO11
  refine pure_ (i := 26) (N := (some 71)) (v := ?_) (a' := ?_) #[true, true, true, true, true, true, true, true, true, true, true, true, true, true, true, true, true, true, true, true, true, true, true, true, true, true, true, false, false, false, false, false, false, false, false, false, false, false, false, false, false, false, false, false, false, false, false, false] rfl rfl (any_of HT_.out (by kernel_rfl)) (fun _ _ _ h => h) (Or.inl ⟨by rfl, ?_⟩) ?_ ?_
  rotate_left
  · intro w'
    go_simp
    with_reducible rfl
  rotate_left
  · simp only [Act.put, List.setIfInBounds_toArray, List.set_cons_zero, List.set_cons_succ, i64_w, i32_w]
    rfl
  refine pure_ (i := 27) (N := (some 72)) (v := ?_) (a' := ?_) #[true, true, true, true, true, true, true, true, true, true, true, true, true, true, true, true, true, true, true, true, true, true, true, true, true, true, true, true, false, false, false, false, false, false, false, false, false, false, false, false, false, false, false, false, false, false, false, false] rfl rfl (any_of HT_.out (by kernel_rfl)) (fun _ _ _ h => h) (Or.inl ⟨by rfl, ?_⟩) ?_ ?_
  rotate_left
  · intro w'
    go_simp
    with_reducible rfl
  rotate_left
  · simp only [Act.put, List.setIfInBounds_toArray, List.set_cons_zero, List.set_cons_succ, i64_w, i32_w]
    rfl
  refine pure_ (i := 28) (N := (some 73)) (v := ?_) (a' := ?_) #[true, true, true, true, true, true, true, true, true, true, true, true, true, true, true, true, true, true, true, true, true, true, true, true, true, true, true, true, true, false, false, false, false, false, false, false, false, false, false, false, false, false, false, false, false, false, false, false] rfl rfl (any_of HT_.out (by kernel_rfl)) (fun _ _ _ h => h) (Or.inl ⟨by rfl, ?_⟩) ?_ ?_
  rotate_left
  · intro w'
    go_simp
    with_reducible rfl
  rotate_left
  · simp only [Act.put, List.setIfInBounds_toArray, List.set_cons_zero, List.set_cons_succ, i64_w, i32_w]
    rfl
  refine pure_ (i := 30) (N := (some 75)) (v := ?_) (a' := ?_) #[true, true, true, true, true, true, true, true, true, true, true, true, true, true, true, true, true, true, true, true, true, true, true, true, true, true, true, true, true, false, true, false, false, false, false, false, false, false, false, false, false, false, false, false, false, false, false, false] rfl rfl (any_of HT_.out (by kernel_rfl)) (fun _ _ _ h => h) (Or.inl ⟨by rfl, ?_⟩) ?_ ?_
  rotate_left
  · intro w'
    go_simp
    with_reducible rfl
  rotate_left
  · simp only [Act.put, List.setIfInBounds_toArray, List.set_cons_zero, List.set_cons_succ, i64_w, i32_w]
    rfl
  refine one_ (i := 29) (N := (some 74)) #[true, true, true, true, true, true, true, true, true, true, true, true, true, true, true, true, true, true, true, true, true, true, true, true, true, true, true, true, true, true, true, false, false, false, false, false, false, false, false, false, false, false, false, false, false, false, false, false] rfl rfl (one_of HT_.out (by kernel_rfl)) (by decide) (fun K hK => ?_)
  refine goes_ Try.func17 (by kernel_rfl) rfl #[.int .i64 ed] (by rfl) rfl rfl (by (try simp only [List.map_toArray, List.map_cons, List.map_nil]); first | done | rfl) ?_
  refine (num_c ed _).mono ?_
  rintro e w_ ⟨rfl, rfl⟩
  refine ⟨_, rfl, ?_⟩
  refine hK.out _ _ ⟨(blk_cell HT_12.out.bx 0).trans rfl, (blk_cell HT_12.out.bx 1).trans rfl, (blk_cell HT_12.out.bx 2).trans rfl, (blk_cell HT_12.out.box 0).trans rfl, (blk_cell HT_12.out.box 1).trans rfl, (blk_cell HT_12.out.box 2).trans rfl, (blk_cell HT_12.out.byy 0).trans rfl, (blk_cell HT_12.out.byy 1).trans rfl, (blk_cell HT_12.out.byy 2).trans rfl, (blk_cell HT_12.out.bz 0).trans rfl, (blk_cell HT_12.out.bz 1).trans rfl, (blk_cell HT_12.out.bz 2).trans rfl, conv_c cv HT_12.out.rv, conv_c cd HT_12.out.rd⟩ (fun hHeld => ?_)
  clear hK K
  refine norm_ (a' := ?_) ?_ ?_
  rotate_left
  · show Act.put _ (some 74) _ = _
    simp only [Act.put, List.setIfInBounds_toArray, List.set_cons_zero, List.set_cons_succ, i64_w, i32_w]
    rfl
  refine pure_ (i := 31) (N := (some 76)) (v := ?_) (a' := ?_) #[true, true, true, true, true, true, true, true, true, true, true, true, true, true, true, true, true, true, true, true, true, true, true, true, true, true, true, true, true, true, true, true, false, false, false, false, false, false, false, false, false, false, false, false, false, false, false, false] rfl rfl (any_of HT_.out (by kernel_rfl)) (fun _ _ _ h => h) (Or.inl ⟨by rfl, ?_⟩) ?_ ?_
  rotate_left
  · intro w'
    go_simp
    with_reducible rfl
  rotate_left
  · simp only [Act.put, List.setIfInBounds_toArray, List.set_cons_zero, List.set_cons_succ, i64_w, i32_w]
    rfl
  refine pure_ (i := 32) (N := (some 77)) (v := ?_) (a' := ?_) #[true, true, true, true, true, true, true, true, true, true, true, true, true, true, true, true, true, true, true, true, true, true, true, true, true, true, true, true, true, true, true, true, true, false, false, false, false, false, false, false, false, false, false, false, false, false, false, false] rfl rfl (any_of HT_.out (by kernel_rfl)) (fun _ _ _ h => h) (Or.inl ⟨by rfl, ?_⟩) ?_ ?_
  rotate_left
  · intro w'
    go_simp
    with_reducible rfl
  rotate_left
  · simp only [Act.put, List.setIfInBounds_toArray, List.set_cons_zero, List.set_cons_succ, i64_w, i32_w]
    rfl
  refine pure_ (i := 33) (N := (some 78)) (v := ?_) (a' := ?_) #[true, true, true, true, true, true, true, true, true, true, true, true, true, true, true, true, true, true, true, true, true, true, true, true, true, true, true, true, true, true, true, true, true, true, false, false, false, false, false, false, false, false, false, false, false, false, false, false] rfl rfl (any_of HT_.out (by kernel_rfl)) (fun _ _ _ h => h) (Or.inl ⟨by rfl, ?_⟩) ?_ ?_
  rotate_left
  · intro w'
    go_simp
    with_reducible rfl
  rotate_left
  · simp only [Act.put, List.setIfInBounds_toArray, List.set_cons_zero, List.set_cons_succ, i64_w, i32_w]
    rfl
  refine take_ (i := 34) (N := (some 79)) (v := ?_) (a' := ?_) #[true, true, true, true, true, true, true, true, true, true, true, true, true, true, true, true, true, true, true, true, true, true, true, true, true, true, true, true, true, true, true, true, true, true, true, false, false, false, false, false, false, false, false, false, false, false, false, false] rfl rfl (take_ofW HT_.out HW_.out (by kernel_rfl)) (fun _ _ _ h => h) (Or.inl ⟨by rfl, ?_⟩) hHeld ?_ ?_
  rotate_left
  · rintro w' ⟨s0, s1, s2, s3, s4, s5, s6, s7, s8, s9, s10, s11, s12, s13⟩
    go_simp
    with_reducible rfl
  rotate_left
  · simp only [Act.put, List.setIfInBounds_toArray, List.set_cons_zero, List.set_cons_succ, i64_w, i32_w]
    rfl
  refine take_ (i := 35) (N := (some 80)) (v := ?_) (a' := ?_) #[true, true, true, true, true, true, true, true, true, true, true, true, true, true, true, true, true, true, true, true, true, true, true, true, true, true, true, true, true, true, true, true, true, true, true, true, false, false, false, false, false, false, false, false, false, false, false, false] rfl rfl (take_ofW HT_.out HW_.out (by kernel_rfl)) (fun _ _ _ h => h) (Or.inl ⟨by rfl, ?_⟩) hHeld ?_ ?_
  rotate_left
  · rintro w' ⟨s0, s1, s2, s3, s4, s5, s6, s7, s8, s9, s10, s11, s12, s13⟩
    go_simp
    with_reducible rfl
  rotate_left
  · simp only [Act.put, List.setIfInBounds_toArray, List.set_cons_zero, List.set_cons_succ, i64_w, i32_w]
    rfl
  refine one_ (i := 36) (N := (some 81)) #[true, true, true, true, true, true, true, true, true, true, true, true, true, true, true, true, true, true, true, true, true, true, true, true, true, true, true, true, true, true, true, true, true, true, true, true, true, false, false, false, false, false, false, false, false, false, false, false] rfl rfl (one_of HT_.out (by kernel_rfl)) (by decide) (fun K hK => ?_)
  refine goes_ Try.func10 (by kernel_rfl) rfl #[.agg #[.int .i64 ow, .int .i64 tr, .slice A ps.length c]] (by rfl) rfl rfl (by (try simp only [List.map_toArray, List.map_cons, List.map_nil]); first | done | rfl) ?_
  refine (own_c ow tr A c ps _ HT_12.out.ra hl HND.out).mono ?_
  rintro e w13 ⟨A9, c9, rfl, hR9, hbL⟩
  refine ⟨_, rfl, ?_⟩
  have HT_13 := Aside0.mk (HT_12.out.move hbL)
  have HO13 := Aside0.mk (Kd.R_reads' hR9).2.2
  clear hR9
  clear hbL HT_12
  refine hK.out _ _ ⟨(blk_cell HT_13.out.bx 0).trans rfl, (blk_cell HT_13.out.bx 1).trans rfl, (blk_cell HT_13.out.bx 2).trans rfl, (blk_cell HT_13.out.box 0).trans rfl, (blk_cell HT_13.out.box 1).trans rfl, (blk_cell HT_13.out.box 2).trans rfl, (blk_cell HT_13.out.byy 0).trans rfl, (blk_cell HT_13.out.byy 1).trans rfl, (blk_cell HT_13.out.byy 2).trans rfl, (blk_cell HT_13.out.bz 0).trans rfl, (blk_cell HT_13.out.bz 1).trans rfl, (blk_cell HT_13.out.bz 2).trans rfl, conv_c cv HT_13.out.rv, conv_c cd HT_13.out.rd⟩ (fun hHeld => ?_)
  clear hK K
  refine norm_ (a' := ?_) ?_ ?_
  rotate_left
  · show Act.put _ (some 81) _ = _
    simp only [Act.put, List.setIfInBounds_toArray, List.set_cons_zero, List.set_cons_succ, i64_w, i32_w]
    rfl
  refine one_ (i := 37) (N := (some 82)) #[true, true, true, true, true, true, true, true, true, true, true, true, true, true, true, true, true, true, true, true, true, true, true, true, true, true, true, true, true, true, true, true, true, true, true, true, true, true, false, false, false, false, false, false, false, false, false, false] rfl rfl (one_of HT_.out (by kernel_rfl)) (by decide) (fun K hK => ?_)
  refine goes_ Try.func24 (by kernel_rfl) rfl #[.agg #[.int .i64 ow, .int .i64 tr, .slice A1 ps.length c1], .agg #[.int .i64 ow, .int .i64 tr, .slice A9 ps.length c9]] (by rfl) rfl rfl (by (try simp only [List.map_toArray, List.map_cons, List.map_nil]); first | done | rfl) ?_
  refine (same_c ow tr A1 A9 c1 c9 ps _ HT_13.out.rx HO13.out).mono ?_
  rintro e w14 ⟨rfl, hbL⟩
  refine ⟨_, rfl, ?_⟩
  have HT_14 := Aside0.mk (HT_13.out.move hbL)
  clear hbL HT_13
  refine hK.out _ _ ⟨(blk_cell HT_14.out.bx 0).trans rfl, (blk_cell HT_14.out.bx 1).trans rfl, (blk_cell HT_14.out.bx 2).trans rfl, (blk_cell HT_14.out.box 0).trans rfl, (blk_cell HT_14.out.box 1).trans rfl, (blk_cell HT_14.out.box 2).trans rfl, (blk_cell HT_14.out.byy 0).trans rfl, (blk_cell HT_14.out.byy 1).trans rfl, (blk_cell HT_14.out.byy 2).trans rfl, (blk_cell HT_14.out.bz 0).trans rfl, (blk_cell HT_14.out.bz 1).trans rfl, (blk_cell HT_14.out.bz 2).trans rfl, conv_c cv HT_14.out.rv, conv_c cd HT_14.out.rd⟩ (fun hHeld => ?_)
  clear hK K
  refine norm_ (a' := ?_) ?_ ?_
  rotate_left
  · show Act.put _ (some 82) _ = _
    simp only [Act.put, List.setIfInBounds_toArray, List.set_cons_zero, List.set_cons_succ, i64_w, i32_w]
    rfl
  clear HO13
  refine pure_ (i := 38) (N := (some 83)) (v := ?_) (a' := ?_) #[true, true, true, true, true, true, true, true, true, true, true, true, true, true, true, true, true, true, true, true, true, true, true, true, true, true, true, true, true, true, true, true, true, true, true, true, true, true, true, false, false, false, false, false, false, false, false, false] rfl rfl (any_of HT_.out (by kernel_rfl)) (fun _ _ _ h => h) (Or.inl ⟨by rfl, ?_⟩) ?_ ?_
  rotate_left
  · intro w'
    go_simp
    with_reducible rfl
  rotate_left
  · simp only [Act.put, List.setIfInBounds_toArray, List.set_cons_zero, List.set_cons_succ, i64_w, i32_w]
    rfl
  refine pure_ (i := 39) (N := (some 84)) (v := ?_) (a' := ?_) #[true, true, true, true, true, true, true, true, true, true, true, true, true, true, true, true, true, true, true, true, true, true, true, true, true, true, true, true, true, true, true, true, true, true, true, true, true, true, true, true, false, false, false, false, false, false, false, false] rfl rfl (any_of HT_.out (by kernel_rfl)) (fun _ _ _ h => h) (Or.inl ⟨by rfl, ?_⟩) ?_ ?_
  rotate_left
  · intro w'
    go_simp
    with_reducible rfl
  rotate_left
  · simp only [Act.put, List.setIfInBounds_toArray, List.set_cons_zero, List.set_cons_succ, i64_w, i32_w]
    rfl
  refine pure_ (i := 40) (N := (some 85)) (v := ?_) (a' := ?_) #[true, true, true, true, true, true, true, true, true, true, true, true, true, true, true, true, true, true, true, true, true, true, true, true, true, true, true, true, true, true, true, true, true, true, true, true, true, true, true, true, true, false, false, false, false, false, false, false] rfl rfl (any_of HT_.out (by kernel_rfl)) (fun _ _ _ h => h) (Or.inl ⟨by rfl, ?_⟩) ?_ ?_
  rotate_left
  · intro w'
    go_simp
    with_reducible rfl
  rotate_left
  · simp only [Act.put, List.setIfInBounds_toArray, List.set_cons_zero, List.set_cons_succ, i64_w, i32_w]
    rfl
  refine pure_ (i := 41) (N := (some 86)) (v := ?_) (a' := ?_) #[true, true, true, true, true, true, true, true, true, true, true, true, true, true, true, true, true, true, true, true, true, true, true, true, true, true, true, true, true, true, true, true, true, true, true, true, true, true, true, true, true, true, false, false, false, false, false, false] rfl rfl (any_of HT_.out (by kernel_rfl)) (fun _ _ _ h => h) (Or.inl ⟨by rfl, ?_⟩) ?_ ?_
  rotate_left
  · intro w'
    go_simp
    with_reducible rfl
  rotate_left
  · simp only [Act.put, List.setIfInBounds_toArray, List.set_cons_zero, List.set_cons_succ, i64_w, i32_w]
    rfl
  refine one_ (i := 42) (N := (some 87)) #[true, true, true, true, true, true, true, true, true, true, true, true, true, true, true, true, true, true, true, true, true, true, true, true, true, true, true, true, true, true, true, true, true, true, true, true, true, true, true, true, true, true, true, false, false, false, false, false] rfl rfl (one_of HT_.out (by kernel_rfl)) (by decide) (fun K hK => ?_)
  refine goes_ Try.func31 (by kernel_rfl) rfl #[.slice Bw l.length cw, .slice B l.length cb] (by rfl) rfl rfl (by (try simp only [List.map_toArray, List.map_cons, List.map_nil]); first | done | rfl) ?_
  refine (stays_c Bw cw B cb l _ HT_14.out.rw hcw HT_14.out.rb).mono ?_
  rintro e w15 ⟨rfl, hbL⟩
  refine ⟨_, rfl, ?_⟩
  have HT_15 := Aside0.mk (HT_14.out.move hbL)
  clear hbL HT_14
  refine hK.out _ _ ⟨(blk_cell HT_15.out.bx 0).trans rfl, (blk_cell HT_15.out.bx 1).trans rfl, (blk_cell HT_15.out.bx 2).trans rfl, (blk_cell HT_15.out.box 0).trans rfl, (blk_cell HT_15.out.box 1).trans rfl, (blk_cell HT_15.out.box 2).trans rfl, (blk_cell HT_15.out.byy 0).trans rfl, (blk_cell HT_15.out.byy 1).trans rfl, (blk_cell HT_15.out.byy 2).trans rfl, (blk_cell HT_15.out.bz 0).trans rfl, (blk_cell HT_15.out.bz 1).trans rfl, (blk_cell HT_15.out.bz 2).trans rfl, conv_c cv HT_15.out.rv, conv_c cd HT_15.out.rd⟩ (fun hHeld => ?_)
  clear hK K
  refine norm_ (a' := ?_) ?_ ?_
  rotate_left
  · show Act.put _ (some 87) _ = _
    simp only [Act.put, List.setIfInBounds_toArray, List.set_cons_zero, List.set_cons_succ, i64_w, i32_w]
    rfl
  refine pure_ (i := 43) (N := (some 88)) (v := ?_) (a' := ?_) #[true, true, true, true, true, true, true, true, true, true, true, true, true, true, true, true, true, true, true, true, true, true, true, true, true, true, true, true, true, true, true, true, true, true, true, true, true, true, true, true, true, true, true, true, false, false, false, false] rfl rfl (any_of HT_.out (by kernel_rfl)) (fun _ _ _ h => h) (Or.inl ⟨by rfl, ?_⟩) ?_ ?_
  rotate_left
  · intro w'
    go_simp
    with_reducible rfl
  rotate_left
  · simp only [Act.put, List.setIfInBounds_toArray, List.set_cons_zero, List.set_cons_succ, i64_w, i32_w]
    rfl
  refine pure_ (i := 44) (N := (some 89)) (v := ?_) (a' := ?_) #[true, true, true, true, true, true, true, true, true, true, true, true, true, true, true, true, true, true, true, true, true, true, true, true, true, true, true, true, true, true, true, true, true, true, true, true, true, true, true, true, true, true, true, true, true, false, false, false] rfl rfl (any_of HT_.out (by kernel_rfl)) (fun _ _ _ h => h) (Or.inl ⟨by rfl, ?_⟩) ?_ ?_
  rotate_left
  · intro w'
    go_simp
    with_reducible rfl
  rotate_left
  · simp only [Act.put, List.setIfInBounds_toArray, List.set_cons_zero, List.set_cons_succ, i64_w, i32_w]
    rfl
  refine one_ (i := 45) (N := (some 90)) #[true, true, true, true, true, true, true, true, true, true, true, true, true, true, true, true, true, true, true, true, true, true, true, true, true, true, true, true, true, true, true, true, true, true, true, true, true, true, true, true, true, true, true, true, true, true, false, false] rfl rfl (one_of HT_.out (by kernel_rfl)) (by decide) (fun K hK => ?_)
  refine goes_ Try.func15 (by kernel_rfl) rfl #[] (by rfl) rfl rfl (by (try simp only [List.map_toArray, List.map_cons, List.map_nil]); first | done | rfl) ?_
  refine (knows_c _).mono ?_
  rintro e w16 ⟨rfl, hbL⟩
  refine ⟨_, rfl, ?_⟩
  have HT_16 := Aside0.mk (HT_15.out.move hbL)
  clear hbL HT_15
  refine hK.out _ _ ⟨(blk_cell HT_16.out.bx 0).trans rfl, (blk_cell HT_16.out.bx 1).trans rfl, (blk_cell HT_16.out.bx 2).trans rfl, (blk_cell HT_16.out.box 0).trans rfl, (blk_cell HT_16.out.box 1).trans rfl, (blk_cell HT_16.out.box 2).trans rfl, (blk_cell HT_16.out.byy 0).trans rfl, (blk_cell HT_16.out.byy 1).trans rfl, (blk_cell HT_16.out.byy 2).trans rfl, (blk_cell HT_16.out.bz 0).trans rfl, (blk_cell HT_16.out.bz 1).trans rfl, (blk_cell HT_16.out.bz 2).trans rfl, conv_c cv HT_16.out.rv, conv_c cd HT_16.out.rd⟩ (fun hHeld => ?_)
  clear hK K
  refine norm_ (a' := ?_) ?_ ?_
  rotate_left
  · show Act.put _ (some 90) _ = _
    simp only [Act.put, List.setIfInBounds_toArray, List.set_cons_zero, List.set_cons_succ, i64_w, i32_w]
    rfl
  refine pure_ (i := 46) (N := (some 91)) (v := ?_) (a' := ?_) #[true, true, true, true, true, true, true, true, true, true, true, true, true, true, true, true, true, true, true, true, true, true, true, true, true, true, true, true, true, true, true, true, true, true, true, true, true, true, true, true, true, true, true, true, true, true, true, false] rfl rfl (any_of HT_.out (by kernel_rfl)) (fun _ _ _ h => h) (Or.inl ⟨by rfl, ?_⟩) ?_ ?_
  rotate_left
  · intro w'
    go_simp
    with_reducible rfl
  rotate_left
  · simp only [Act.put, List.setIfInBounds_toArray, List.set_cons_zero, List.set_cons_succ, i64_w, i32_w]
    rfl
  refine pure_ (i := 47) (N := (some 6)) (v := ?_) (a' := ?_) #[true, true, true, true, true, true, true, true, true, true, true, true, true, true, true, true, true, true, true, true, true, true, true, true, true, true, true, true, true, true, true, true, true, true, true, true, true, true, true, true, true, true, true, true, true, true, true, true] rfl rfl (any_of HT_.out (by kernel_rfl)) (fun _ _ _ h => h) (Or.inl ⟨by rfl, ?_⟩) ?_ ?_
  rotate_left
  · intro w'
    go_simp
    with_reducible rfl
  rotate_left
  · simp only [Act.put, List.setIfInBounds_toArray, List.set_cons_zero, List.set_cons_succ, i64_w, i32_w]
    rfl
  refine done_ (done_of HT_.out (by kernel_rfl)) ?_
  clear hHeld HT_ HW_
  go_wp2_with fail
  go_ret
  exact ⟨rfl, HT_16.out.below⟩
end Go.Proofs.Ytpcoelimabojcaa.Hand
