/- The walk of NetMakes. -/
import Derived.Test.YtckeahjlfopaaaaHN8
import Derived.Test.YtckeahjlfopaaaaHN11
import Derived.Deep.CutRange
import Derived.Deep.CutBlock
namespace Go.Proofs.Ytckeahjlfopaaaa.Hand
open Go.RowKit Go.Proofs.Ytckeahjlfopaaaa Go.Proofs.YtckeahjlfopaaaaW.PrintWords Go.Proofs.YtckeahjlfopaaaaW.PrintLast
set_option linter.unusedVariables false
set_option linter.unusedSimpArgs false
def sumL : List OpV → Nat
  | [] => 0
  | o :: r => o.l.length + sumL r
theorem sumL_take : ∀ (ops : List OpV) (j : Nat) (h : j < ops.length), sumL (ops.take (j + 1)) = sumL (ops.take j) + ops[j].l.length
  | o :: r, 0, h => by simp [sumL]
  | o :: r, j + 1, h => by
    have := sumL_take r j (by simpa using h)
    simp only [List.take_succ_cons, sumL, List.getElem_cons_succ, this]; omega
theorem sumL_le : ∀ (ops : List OpV) (j : Nat), sumL (ops.take j) ≤ sumL ops
  | [], j => by simp [sumL]
  | o :: r, 0 => by simp [sumL]
  | o :: r, j + 1 => by
    have := sumL_le r j
    simp only [List.take_succ_cons, sumL]; omega
/-- An op's cells, in any world behind the first. -/
theorem op_cells {w : World} {A : Option Addr} {ops : List OpV} (h : Kd.C k35 w A ops.length ops) (j : Nat) (hj : j < ops.length) : ∃ ad A1 c1 A2 c2, A = some ad ∧ Kd.C (Kd.int .u8) w A1 ops[j].b.length ops[j].b ∧ Kd.C (Kd.int .i64) w A2 ops[j].l.length ops[j].l ∧
    ∀ W : World, Below w.heap.size w W → W.cell? (ad.add (j * 4)) = some (.int .i64 ops[j].kind) ∧ W.cell? ⟨(ad.add (j * 4)).block, (ad.add (j * 4)).off + 1, none⟩ = some (.int .i64 ops[j].n) ∧ W.cell? ⟨(ad.add (j * 4)).block, (ad.add (j * 4)).off + 2, none⟩ = some (.slice A1 ops[j].b.length c1) ∧ W.cell? ⟨(ad.add (j * 4)).block, (ad.add (j * 4)).off + 3, none⟩ = some (.slice A2 ops[j].l.length c2) := by
  obtain ⟨ad, c, e, hl, hK, hc⟩ := ReadsRow.get_ h ⟨0, 0, [], []⟩ (j : Int) (by omega) (by omega)
  rw [Int.toNat_natCast, show ops.getD j ⟨0, 0, [], []⟩ = ops[j] by rw [List.getD_eq_getElem?_getD, List.getElem?_eq_getElem hj]; rfl] at hK
  rw [Int.toNat_natCast] at hc
  obtain ⟨A1, c1, A2, c2, rfl, _, h1, _, h2⟩ := k35_open hK
  refine ⟨ad, A1, c1, A2, c2, e, h1, h2, fun W hb => ?_⟩
  have g := fun i u (hu : [Value.int .i64 ops[j].kind, .int .i64 ops[j].n, .slice A1 ops[j].b.length c1, .slice A2 ops[j].l.length c2][i]? = some u) => (hb.cell (World.block_lt_of_cell? w _ (hc i u hu))).trans (hc i u hu)
  have aa : ∀ i, (ad.add (j * 4)).add i = ad.add (j * 4 + i) := fun i => add_add ad _ _
  have ff : ∀ i, (⟨(ad.add (j * 4)).block, (ad.add (j * 4)).off + (i + 1), none⟩ : Addr) = ad.add (j * 4 + (i + 1)) := fun i => by rw [← aa]; rfl
  rw [ff 0, ff 1, ff 2]
  exact ⟨g 0 _ rfl, g 1 _ rfl, g 2 _ rfl, g 3 _ rfl⟩
theorem getD_mem {la : List (Int × List Int)} {k : Nat} (h : k < la.length) : la.getD k (0, []) ∈ la := by
  rw [List.getD_eq_getElem?_getD, List.getElem?_eq_getElem h]; exact List.getElem_mem h
theorem toList_inj {a b : ByteArray} (h : a.toList = b.toList) : a = b := by
  rw [ByteArray.toList_eq, ByteArray.toList_eq] at h
  cases a; cases b
  congr 1
  exact Array.toList_inj.1 h
theorem fate_ways (r : Int) (h : r = 0 ∨ r = 1 ∨ r = 2 ∨ r = 3 ∨ r = 4) : (r = 3 ∧ fateF 3 = (0, false)) ∨ (r ≠ 3 ∧ (fateF r).1 = 0 ∧ (fateF r).2 = false) ∨ (r ≠ 3 ∧ ((fateF r).1 == 0) = false ∧ decide ((fateF r).1 < 0) = false ∧ decide (2 < (fateF r).1) = false) := by
  rcases h with rfl | rfl | rfl | rfl | rfl <;> decide
theorem k37_open {w : World} {x : Sent} {cs : List Value} (h : k37.K w x cs) : cs = [.int .i64 x.dest, .int .i64 x.n, .string x.b] := by
  obtain ⟨a, b, e, h1, c, d, e2, h2, h3⟩ := h
  subst e h1 e2 h2 h3
  rfl
def TK27 : Bool × List (List Nat × List Nat) := (true, [([], []), ([], []), ([1], [1]), ([], []), ([], []), ([4], [4]), ([3, 5], [3, 5]), ([0, 2, 6, 6], [0, 2, 6]), ([7], [7]), ([8], [8]), ([8], [8]), ([9, 7, 0, 1, 2, 3, 4, 5, 6, 7, 8, 9], [9]), ([10, 11, 0, 1, 2, 3, 4, 5, 6, 7, 8, 9, 10, 11], [10])])
def BK27 : List Nat := [0, 0, 2, 0, 0, 16, 56, 127, 255, 511, 511, 1023, 4095]
theorem tabK27 : rtab .any (opsOf Try.f4 27) = TK27 := by kernel_rfl
theorem bitsK27 : waitsOk TK27.2 BK27 = true := by kernel_rfl
def TK18 : Bool × List (List Nat × List Nat) := (true, [([], []), ([], []), ([0, 1], [0, 1]), ([2], [2]), ([3], [3]), ([], []), ([4, 5], [4, 5]), ([6], [6]), ([7], [7]), ([7], [7]), ([8, 9, 7], [7, 8, 9]), ([10, 7], [7, 10]), ([11, 7], [7, 11]), ([7], [7]), ([13, 7], [7, 13]), ([12, 14, 7], [7, 12, 14]), ([7, 15], [7, 15]), ([16, 7], [16]), ([17], [17]), ([17], [17]), ([18, 19, 17], [17, 18, 19]), ([20, 17], [17, 20]), ([21, 17], [17, 21]), ([22, 17], [17, 22]), ([17, 23], [17, 23])])
def BK18 : List Nat := [0, 0, 3, 7, 15, 0, 63, 127, 255, 255, 1023, 2047, 4095, 255, 8447, 32767, 65535, 131071, 262143, 262143, 1048575, 2097151, 4194303, 8388607, 16777215]
theorem tabK18 : rtab .any (opsOf Try.f4 18) = TK18 := by kernel_rfl
theorem bitsK18 : waitsOk TK18.2 BK18 = true := by kernel_rfl
set_option maxHeartbeats 40000000 in
set_option maxRecDepth 100000 in
theorem lawMakes (A : Option Addr) (c : Nat) (ops : List OpV) (w : World) (hr0 : Kd.C k35 w A ops.length ops) (hn : ops.length ≤ 1048576) (hL : sumL ops ≤ 1048576) (hB : ∀ o ∈ ops, o.b.length ≤ 140737488351232) :
    Calls Try.prog 4 #[.slice A ops.length c] w fun e W' => e = .returned (.bool true) ∧ Below w.heap.size w W' := by
  have HR := Aside0.mk hr0
  have HBB := Aside0.mk hB
  have qq := eq_q0
  clear hr0 hB
  go_enter Try.func4, Try.ntmps4
  go_wp2_with fail
  refine (new_s w w (Below.refl _ _)).mono ?_
  rintro e W1 ⟨rfl, hs⟩
  have HS := Aside0.mk hs
  clear hs
  go_wp2_with fail
  refine (knows_c W1).mono ?_
  rintro e W2 ⟨rfl, hk⟩
  have HA0 := Aside0.mk (NA.start (HS.out.below hk))
  clear HS hk
  go_wp2_with fail
  go_loopw [4, 5, 6, 7, 8, 9, 10, 11, 12, 13, 14, 15, 16, 17, 18, 19, 20, 21, 22, 23] (fun u4 u5 u6 u7 u8 u9 u10 u11 u12 u13 u14 u15 u16 u17 u18 u19 u20 u21 u22 u23 wr => ∃ (j : Nat) (lu : List Int) (la : List (Int × List Int)) (al : List Sent), j ≤ ops.length ∧ u5 = .int .i64 j ∧ Aside0 (NA w wr w.heap.size lu la u4 al none) ∧ Aside0 (Inv al la) ∧ lu.length ≤ sumL (ops.take j) ∧ la.length ≤ j ∧ al.length ≤ j ∧ Aside0 (∀ m ∈ la, m.2.length ≤ 140737488351232)) (fun u4 u5 u6 u7 u8 u9 u10 u11 u12 u13 u14 u15 u16 u17 u18 u19 u20 u21 u22 u23 wr => ops.length - (intOf u5).toNat)
  case atStart => exact ⟨0, [], [], [], by omega, rfl, HA0, ⟨Inv.nil⟩, by simp, by simp, by simp, ⟨fun m hm => by cases hm⟩⟩
  case round =>
    obtain ⟨j, lu, la, al, hj, rfl, HA, HI, hlu, hla, hal, HM⟩ := hrel
    clear HA0
    by_cases hlt : j < ops.length
    · have hl1 : decide ((j : Int) < (ops.length : Int)) = true := by simpa using hlt
      have hsl := sumL_le ops (j + 1)
      have hst := sumL_take ops j hlt
      obtain ⟨ad, A1, c1, A2, c2, rfl, hCb, hCl, hcell⟩ := op_cells HR.out j hlt
      obtain ⟨x0, x1, x2, x3⟩ := hcell wr HA.out.bel
      have HCB := Aside0.mk hCb
      have HCL := Aside0.mk hCl
      have hob := HBB.out ops[j] (List.getElem_mem hlt)
      generalize ops[j] = op at *
      obtain ⟨ki, nn, bb, ll⟩ := op
      dsimp only at *
      clear hcell hCb hCl
      generalize wr = wz at *
      go_upto_block 2 with fail
      go_cut [4, 7, 8, 9, 10, 11, 12, 13, 14, 15, 16, 17, 18] from 31 to 237 (fun u4 u7 u8 u9 u10 u11 u12 u13 u14 u15 u16 u17 u18 wx => ∃ (lu' : List Int) (la' : List (Int × List Int)) (al' : List Sent), Aside0 (NA w wx w.heap.size lu' la' u4 al' (some (wz.heap.size, .cells #[.int .i64 ki, .int .i64 nn, .slice A1 bb.length c1, .slice A2 ll.length c2] 35 (0, 0)))) ∧ Aside0 (Inv al' la') ∧ Aside0 (lu'.length ≤ sumL (ops.take (j + 1))) ∧ Aside0 (la'.length ≤ j + 1) ∧ Aside0 (al'.length ≤ j + 1) ∧ Aside0 (∀ m ∈ la', m.2.length ≤ 140737488351232))
      case first =>
        have HAB := Aside0.mk (HA.out.box (.cells #[.int .i64 ki, .int .i64 nn, .slice A1 bb.length c1, .slice A2 ll.length c2] 35 (0, 0)))
        by_cases h0 : ki = 0
        · as_aux_lemma =>
            subst h0
            go_wp2_with fail
            refine (luck_n HAB.out A2 c2 ll (Kd.C_below HCL.out HAB.out.bel) (by omega)).mono ?_
            rintro e w3 ⟨rfl, hna⟩
            have HA' := Aside0.mk hna
            clear hna HAB HA
            have HWm := Aside0.mk (show (lu ++ ll).length ≤ sumL (ops.take (j + 1)) from by rw [List.length_append]; omega)
            have HWa := Aside0.mk (show (la).length ≤ j + 1 from by omega)
            have HWb := Aside0.mk (show (al).length ≤ j + 1 from by omega)
            go_wp2_with fail
            go_meet
            exact ⟨lu ++ ll, la, al, HA', HI, HWm, HWa, HWb, HM⟩
        · have k0 : (ki == 0) = false := by simpa using h0
          by_cases h1 : ki = 1
          · as_aux_lemma =>
              subst h1
              have HAB := Aside0.mk (HA.out.box (.cells #[.int .i64 1, .int .i64 nn, .slice A1 bb.length c1, .slice A2 ll.length c2] 35 (0, 0)))
              go_wp2_with fail
              refine (late_s HAB.out.ns).mono ?_
              rintro e w3 ⟨rfl, rfl⟩
              go_wp2_with fail
              have HNd := Aside0.mk (HAB.out.below (below_drew1 (Below.refl _ _)))
              have BZ := Aside0.mk HNd.out.inbox
              clear HAB
              refine start_ (n := 13) (S := fun w' => w'.cell? ⟨wz.heap.size, 1, none⟩ = some (.int .i64 nn) ∧ w'.cell? ⟨wz.heap.size, 2, none⟩ = some (.slice A1 bb.length c1)) (ds := []) #[false, false, false, false, false, false, false, false, false, false, false, false, false] (by kernel_rfl) rfl rfl ⟨(blk_cell BZ.out 1).trans rfl, (blk_cell BZ.out 2).trans rfl⟩ (fun hHeld => ?_); refine with_tabW tabK27 bitsK27 (fun HT_ HW_ => ?_)
              generalize hwd : (wz.alloc _).drew = Wd at BZ HNd hHeld ⊢
              clear hwd
              refine pure_ (i := 0) (N := (some 138)) (v := ?_) (a' := ?_) #[true, false, false, false, false, false, false, false, false, false, false, false, false] rfl rfl (any_of HT_.out (by kernel_rfl)) (fun _ _ _ h => h) (Or.inl ⟨by rfl, ?_⟩) ?_ ?_
              rotate_left
              · intro w'
                go_simp
                with_reducible rfl
              rotate_left
              · simp only [Act.put, List.setIfInBounds_toArray, List.set_cons_zero, List.set_cons_succ, i64_w, i32_w]
                rfl
              refine pure_ (i := 1) (N := (some 139)) (v := ?_) (a' := ?_) #[true, true, false, false, false, false, false, false, false, false, false, false, false] rfl rfl (any_of HT_.out (by kernel_rfl)) (fun _ _ _ h => h) (Or.inl ⟨by rfl, ?_⟩) ?_ ?_
              rotate_left
              · intro w'
                go_simp
                with_reducible rfl
              rotate_left
              · simp only [Act.put, List.setIfInBounds_toArray, List.set_cons_zero, List.set_cons_succ, i64_w, i32_w]
                rfl
              refine take_ (i := 2) (N := (some 140)) (v := ?_) (a' := ?_) #[true, true, true, false, false, false, false, false, false, false, false, false, false] rfl rfl (take_ofW HT_.out HW_.out (by kernel_rfl)) (fun _ _ _ h => h) (Or.inl ⟨by rfl, ?_⟩) hHeld ?_ ?_
              rotate_left
              · rintro w' ⟨s0, s1⟩
                go_simp
                with_reducible rfl
              rotate_left
              · simp only [Act.put, List.setIfInBounds_toArray, List.set_cons_zero, List.set_cons_succ, i64_w, i32_w]
                rfl
              refine pure_ (i := 4) (N := (some 142)) (v := ?_) (a' := ?_) #[true, true, true, false, true, false, false, false, false, false, false, false, false] rfl rfl (any_of HT_.out (by kernel_rfl)) (fun _ _ _ h => h) (Or.inl ⟨by rfl, ?_⟩) ?_ ?_
              rotate_left
              · intro w'
                go_simp
                with_reducible rfl
              rotate_left
              · simp only [Act.put, List.setIfInBounds_toArray, List.set_cons_zero, List.set_cons_succ, i64_w, i32_w]
                rfl
              refine take_ (i := 5) (N := (some 143)) (v := ?_) (a' := ?_) #[true, true, true, false, true, true, false, false, false, false, false, false, false] rfl rfl (take_ofW HT_.out HW_.out (by kernel_rfl)) (fun _ _ _ h => h) (Or.inl ⟨by rfl, ?_⟩) hHeld ?_ ?_
              rotate_left
              · rintro w' ⟨s0, s1⟩
                go_simp
                with_reducible rfl
              rotate_left
              · simp only [Act.put, List.setIfInBounds_toArray, List.set_cons_zero, List.set_cons_succ, i64_w, i32_w]
                rfl
              refine one_ (i := 3) (N := (some 141)) #[true, true, true, true, true, true, false, false, false, false, false, false, false] rfl rfl (one_of HT_.out (by kernel_rfl)) (by decide) (fun K hK => ?_)
              refine Kd.R_lit_step (Kd.int .u8) (w0 := Wd) Wd.heap.size 5 (by rfl) (N := 141) rfl (xs := ([] : List Int)) (inner := []) (ok := fun _ => True) (okp := fun _ => True) ?hr ?hp (fun _ h => h) trivial (Below.refl _ _) (Nat.le_refl _) (by simp) ?_
              case hr => first | (go_simp; done) | (go_simp; rfl)
              case hp => exact Reps.none _ _
              intro vl_ w4 HOl_ hbl_ hgl_ hatl_
              have BZ4 := Aside0.mk (blk_below BZ.out hbl_)
              have HL4 := Aside0.mk HOl_
              have HB4 := Aside0.mk hbl_
              have HC4 := Aside0.mk (Kd.C_below HCB.out (below_step HNd.out.bel hbl_))
              clear HOl_ hbl_ hgl_ hatl_
              refine hK.out _ _ ⟨(blk_cell BZ4.out 1).trans rfl, (blk_cell BZ4.out 2).trans rfl⟩ (fun hHeld => ?_)
              clear hK K
              refine norm_ (a' := ?_) ?_ ?_
              rotate_left
              · show Act.put _ (some 141) _ = _
                simp only [Act.put, List.setIfInBounds_toArray, List.set_cons_zero, List.set_cons_succ, i64_w, i32_w]
                rfl
              refine one_ (i := 6) (N := (some 144)) #[true, true, true, true, true, true, true, false, false, false, false, false, false] rfl rfl (one_of HT_.out (by kernel_rfl)) (by decide) (fun K hK => ?_)
              refine Kd.R_append_rows_step (Kd.int .u8) (w0 := Wd) Wd.heap.size (by rfl) (.tmp 141) (.tmp 143) 22 5 (.int .u8 0) 1 rfl Try.underlying22 infoB rfl (by decide) (by decide) _ [] bb _ _ _ (fun _ => True) (fun _ => False) rfl rfl HL4.out HC4.out (fun x cs h => h) (fun k h => h.elim) (fun _ _ => trivial) HB4.out HB4.out.size (by simp; omega) ?_
              intro v5 w5 ho_ hb_ hg_ hat_
              rw [List.nil_append] at ho_
              obtain ⟨A5, c5, rfl⟩ := Kd.R_slice ho_
              have BZ5 := Aside0.mk (blk_below BZ.out hb_)
              have HL5 := Aside0.mk ho_
              have HB5 := Aside0.mk hb_
              clear ho_ hb_ hg_ hat_ HL4 HB4 HC4 BZ4
              refine hK.out _ _ ⟨(blk_cell BZ5.out 1).trans rfl, (blk_cell BZ5.out 2).trans rfl⟩ (fun hHeld => ?_)
              clear hK K
              refine norm_ (a' := ?_) ?_ ?_
              rotate_left
              · show Act.put _ (some 144) _ = _
                simp only [Act.put, List.setIfInBounds_toArray, List.set_cons_zero, List.set_cons_succ, i64_w, i32_w]
                rfl
              refine one_ (i := 7) (N := (some 145)) #[true, true, true, true, true, true, true, true, false, false, false, false, false] rfl rfl (one_of HT_.out (by kernel_rfl)) (by decide) (fun K hK => ?_)
              refine goes_ Try.func10 (by kernel_rfl) rfl #[.pointer (some ⟨w.heap.size, 0, none⟩), .int .i64 nn, .slice A5 bb.length c5] (by rfl) rfl rfl (by (try simp only [List.map_toArray, List.map_cons, List.map_nil]); first | done | rfl) ?_
              refine (send_n HNd.out HB5.out nn A5 c5 bb (R_fresh HL5.out) hob (by omega)).mono ?_
              rintro e w6 ⟨rfl, hna⟩
              refine ⟨_, rfl, ?_⟩
              have HN6 := Aside0.mk hna
              have BZ6 := Aside0.mk (HN6.out.inbox)
              clear hna HL5 HB5 BZ5 HNd BZ
              refine hK.out _ _ ⟨(blk_cell BZ6.out 1).trans rfl, (blk_cell BZ6.out 2).trans rfl⟩ (fun hHeld => ?_)
              clear hK K
              refine norm_ (a' := ?_) ?_ ?_
              rotate_left
              · show Act.put _ (some 145) _ = _
                simp only [Act.put, List.setIfInBounds_toArray, List.set_cons_zero, List.set_cons_succ, i64_w, i32_w]
                rfl
              refine pure_ (i := 8) (N := (some 137)) (v := ?_) (a' := ?_) #[true, true, true, true, true, true, true, true, true, false, false, false, false] rfl rfl (any_of HT_.out (by kernel_rfl)) (fun _ _ _ h => h) (Or.inl ⟨by rfl, ?_⟩) ?_ ?_
              rotate_left
              · intro w'
                go_simp
                with_reducible rfl
              rotate_left
              · simp only [Act.put, List.setIfInBounds_toArray, List.set_cons_zero, List.set_cons_succ, i64_w, i32_w]
                rfl
              refine pure_ (i := 9) (N := (some 146)) (v := ?_) (a' := ?_) #[true, true, true, true, true, true, true, true, true, true, false, false, false] rfl rfl (any_of HT_.out (by kernel_rfl)) (fun _ _ _ h => h) (Or.inl ⟨by rfl, ?_⟩) ?_ ?_
              rotate_left
              · intro w'
                go_simp
                with_reducible rfl
              rotate_left
              · simp only [Act.put, List.setIfInBounds_toArray, List.set_cons_zero, List.set_cons_succ, i64_w, i32_w]
                rfl
              refine pure_ (i := 10) (N := (some 147)) (v := ?_) (a' := ?_) #[true, true, true, true, true, true, true, true, true, true, true, false, false] rfl rfl (any_of HT_.out (by kernel_rfl)) (fun _ _ _ h => h) (Or.inl ⟨by rfl, ?_⟩) ?_ ?_
              rotate_left
              · intro w'
                go_simp
                with_reducible rfl
              rotate_left
              · simp only [Act.put, List.setIfInBounds_toArray, List.set_cons_zero, List.set_cons_succ, i64_w, i32_w]
                rfl
              refine pure_ (i := 11) (N := (some 8)) (v := ?_) (a' := ?_) #[true, true, true, true, true, true, true, true, true, true, true, true, false] rfl rfl (any_of HT_.out (by kernel_rfl)) (fun _ _ _ h => h) (Or.inl ⟨by rfl, ?_⟩) ?_ ?_
              rotate_left
              · intro w'
                go_simp
                with_reducible rfl
              rotate_left
              · simp only [Act.put, List.setIfInBounds_toArray, List.set_cons_zero, List.set_cons_succ, i64_w, i32_w]
                rfl
              refine pure_ (i := 12) (N := (some 9)) (v := ?_) (a' := ?_) #[true, true, true, true, true, true, true, true, true, true, true, true, true] rfl rfl (any_of HT_.out (by kernel_rfl)) (fun _ _ _ h => h) (Or.inl ⟨by rfl, ?_⟩) ?_ ?_
              rotate_left
              · intro w'
                go_simp
                with_reducible rfl
              rotate_left
              · simp only [Act.put, List.setIfInBounds_toArray, List.set_cons_zero, List.set_cons_succ, i64_w, i32_w]
                rfl
              refine done_ (done_of HT_.out (by kernel_rfl)) ?_
              clear hHeld HT_ HW_ BZ6
              have HWl := Aside0.mk (show lu.tail.length ≤ sumL (ops.take (j + 1)) from by rw [List.length_tail]; omega)
              rcases fate_ways (restF (hd0 lu)) (rest_cases _) with ⟨hr3, hf⟩ | ⟨hr3, hf1, hf2⟩ | ⟨hr3, hf1, hf2, hf3⟩
              · rw [hr3, if_pos rfl] at HN6
                rw [hr3, hf]
                have cA : decide ((la.length : Int) + 1 > (la.length : Int) + 1) = false := by rw [decide_eq_false_iff_not]; omega
                have cA2 : decide ((la.length : Int) + 1 < (la.length : Int) + 1) = false := by rw [decide_eq_false_iff_not]; omega
                have cB : decide ((la.length : Int) + 1 < (la.length : Int)) = false := by rw [decide_eq_false_iff_not]; omega
                have cC : decide ((la.length : Int) < (la.length : Int) + 1) = true := by rw [decide_eq_true_eq]; omega
                have hlen1 : (((la ++ [(nn, bb)]).length : Nat) : Int) = (la.length : Int) + 1 := by rw [List.length_append]; rfl
                go_wp2_with fail
                refine (late_s HN6.out.ns).mono ?_
                rintro e w7 ⟨rfl, rfl⟩
                rw [hlen1]
                go_wp2_with fail
                refine (late_s HN6.out.ns).mono ?_
                rintro e w7 ⟨rfl, rfl⟩
                rw [hlen1]
                go_wp2_with fail
                refine (late_s HN6.out.ns).mono ?_
                rintro e w7 ⟨rfl, rfl⟩
                rw [hlen1]
                have b1 : w6.cell? ⟨wz.heap.size, 1, none⟩ = some (.int .i64 nn) := (blk_cell HN6.out.inbox 1).trans rfl
                have b2 : w6.cell? ⟨wz.heap.size, 2, none⟩ = some (.slice A1 bb.length c1) := (blk_cell HN6.out.inbox 2).trans rfl
                have hcv := conv_c c1 (Kd.C_below HCB.out HN6.out.bel)
                have HI2 := Aside0.mk (HI.out.add (nn, bb))
                have HM2 := Aside0.mk (show ∀ m ∈ la ++ [(nn, bb)], m.2.length ≤ 140737488351232 from fun m hm => by
                  rcases List.mem_append.1 hm with h | h
                  · exact HM.out m h
                  · rw [List.mem_singleton] at h; subst h; exact hob)
                dsimp only at HI2
                obtain ⟨G1, hR1, hO1⟩ := HN6.out.open_
                have HR1 := Aside0.mk hR1
                have HO1 := Aside0.mk hO1
                obtain ⟨AV1, cV1, hAV1⟩ := Kd.R_slice hR1
                subst hAV1
                clear hR1 hO1
                go_wp2_with (first | ((with_reducible refine gate_dst (N := 185) rfl ?_); refine Kd.R_lit k37 (w0 := w6) w6.heap.size 37 ?hg (N := 185) ?hd (xs := [(⟨nn, 1, strOfNums bb⟩ : Sent)]) (inner := [.int .i64 nn, .int .i64 1, .string (strOfNums bb)]) (ok := fun _ => True) (okp := fun _ => True) ?hr ?hp (fun _ h => h) trivial (Below.refl _ _) (Nat.le_refl _) (by simp) ?_; (case hg => rfl); (case hd => rfl); (case hr => first | (go_simp; done) | (go_simp; rfl)); (case hp => exact (Reps.snoc (Reps.none _ 3) (k37_mkM _ _ _ (⟨nn, 1, strOfNums bb⟩ : Sent)) rfl)); intro vl_ wl_ HOl_ hbl_ hgl_ hatl_; obtain ⟨Al_, cl_, rfl⟩ := Kd.R_slice HOl_; have HXl_ := Aside0.mk (Kd.R_reads' HOl_).2.2; have HRl_ := Aside0.mk (Kd.R_mono (Kd.R_below HR1.out hbl_) (fun k h => Or.inl (b := w6.heap.size ≤ k) h)); have HBl_ := Aside0.mk hbl_; clear HOl_ hbl_ hgl_ hatl_) | (refine Kd.R_append_rows k37 0 rfl (.tmp 178) (.tmp 185) 33 37 (.agg #[.int .i64 0, .int .i64 0, .string ⟨#[]⟩]) 32 rfl Try.underlying33 infoS rfl (by decide) (by decide) _ al [(⟨nn, 1, strOfNums bb⟩ : Sent)] _ _ _ (fun k => G1 k ∨ w6.heap.size ≤ k) (fun _ => False) rfl rfl HRl_.out HXl_.out (fun x cs h => by rw [k37_open h]; exact k37_mkM _ _ _ x) (fun k h => h.elim) (fun k h => .inr (Nat.le_trans HBl_.out.size h)) (Below.refl _ _) (Nat.zero_le _) (by simp; omega) ?_; intro v1_ W1_ ho_ hb_ hg_ hat_; have HN7 := Aside0.mk (HO1.out W1_ v1_ _ ho_ ⟨hg_.os.trans HBl_.out.os, hg_.tape.trans HBl_.out.tape, hg_.output.trans HBl_.out.output, Nat.le_trans HBl_.out.size hg_.size, fun k h e => (hg_.block k (Nat.lt_of_lt_of_le h HBl_.out.size) e).trans (HBl_.out.block k h)⟩); clear ho_ hb_ hg_ hat_ HRl_ HXl_ HBl_ HR1 HO1))
                clear b1 b2 hcv cA cA2 cB cC hlen1 HN6
                have hla2 : (la ++ [(nn, bb)]).length ≤ j + 1 := by simp; omega
                have hal2 : (al ++ [(⟨nn, 1, strOfNums bb⟩ : Sent)]).length ≤ j + 1 := by simp; omega
                generalize la ++ [(nn, bb)] = la2 at HN7 HI2 HM2 hla2
                generalize al ++ [(⟨nn, 1, strOfNums bb⟩ : Sent)] = al2 at HN7 HI2 hal2
                have HWm := Aside0.mk (show lu.tail.length ≤ sumL (ops.take (j + 1)) from HWl.out)
                have HWa := Aside0.mk (show (la2).length ≤ j + 1 from hla2)
                have HWb := Aside0.mk (show (al2).length ≤ j + 1 from hal2)
                go_wp2_with fail
                go_meet
                exact ⟨lu.tail, la2, al2, HN7, HI2, HWm, HWa, HWb, HM2⟩
              · rw [if_neg hr3] at HN6
                have cA : decide ((la.length : Int) > (la.length : Int) + 1) = false := by rw [decide_eq_false_iff_not]; omega
                have cA2 : decide ((la.length : Int) + 1 < (la.length : Int)) = false := by rw [decide_eq_false_iff_not]; omega
                have cB : decide ((la.length : Int) < (la.length : Int)) = false := by rw [decide_eq_false_iff_not]; omega
                rw [hf1, hf2]
                go_wp2_with fail
                refine (late_s HN6.out.ns).mono ?_
                rintro e w7 ⟨rfl, rfl⟩
                go_wp2_with fail
                refine (late_s HN6.out.ns).mono ?_
                rintro e w7 ⟨rfl, rfl⟩
                go_wp2_with fail
                refine (late_s HN6.out.ns).mono ?_
                rintro e w7 ⟨rfl, rfl⟩
                have HWm := Aside0.mk (show lu.tail.length ≤ sumL (ops.take (j + 1)) from HWl.out)
                have HWa := Aside0.mk (show (la).length ≤ j + 1 from by omega)
                have HWb := Aside0.mk (show (al).length ≤ j + 1 from by omega)
                go_wp2_with fail
                go_meet
                exact ⟨lu.tail, la, al, HN6, HI, HWm, HWa, HWb, HM⟩
              · rw [if_neg hr3] at HN6
                have cA : decide ((la.length : Int) > (la.length : Int) + 1) = false := by rw [decide_eq_false_iff_not]; omega
                have cA2 : decide ((la.length : Int) + 1 < (la.length : Int)) = false := by rw [decide_eq_false_iff_not]; omega
                have cB : decide ((la.length : Int) < (la.length : Int)) = false := by rw [decide_eq_false_iff_not]; omega
                generalize hft : (fateF (restF (hd0 lu))).1 = ft at hf1 hf2 hf3 ⊢
                generalize hfu : (fateF (restF (hd0 lu))).2 = fu at ⊢
                go_wp2_with fail
                refine (late_s HN6.out.ns).mono ?_
                rintro e w7 ⟨rfl, rfl⟩
                go_wp2_with fail
                refine (late_s HN6.out.ns).mono ?_
                rintro e w7 ⟨rfl, rfl⟩
                go_wp2_with fail
                refine (late_s HN6.out.ns).mono ?_
                rintro e w7 ⟨rfl, rfl⟩
                have HWm := Aside0.mk (show lu.tail.length ≤ sumL (ops.take (j + 1)) from HWl.out)
                have HWa := Aside0.mk (show (la).length ≤ j + 1 from by omega)
                have HWb := Aside0.mk (show (al).length ≤ j + 1 from by omega)
                go_wp2_with fail
                go_meet
                exact ⟨lu.tail, la, al, HN6, HI, HWm, HWa, HWb, HM⟩

          · have k1 : (ki == 1) = false := by simpa using h1
            by_cases h4 : ki = 4
            · as_aux_lemma =>
                subst h4
                have HAB := Aside0.mk (HA.out.box (.cells #[.int .i64 4, .int .i64 nn, .slice A1 bb.length c1, .slice A2 ll.length c2] 35 (0, 0)))
                have HWl := Aside0.mk (show lu.length ≤ sumL (ops.take (j + 1)) from by omega)
                by_cases hk : 0 ≤ nn ∧ nn < la.length
                · obtain ⟨k, rfl⟩ : ∃ k : Nat, nn = k := ⟨nn.toNat, by omega⟩
                  have hk1 : k < la.length := by omega
                  have hbl := HM.out _ (getD_mem hk1)
                  have hk0 := getD_mem hk1
                  go_wp2_with fail
                  refine (msg_s HAB.out.ns k hk1 hbl).mono ?_
                  rintro e w3 ⟨Am, cm, rfl, hRm, hb3⟩
                  have HB3 := Aside0.mk hb3
                  have HRm := Aside0.mk hRm
                  have HD := Aside0.mk (double_n2 HAB.out hb3 k hk1 hbl (by omega))
                  have b1 : w3.cell? ⟨wz.heap.size, 1, none⟩ = some (.int .i64 k) := (blk_cell (blk_below HAB.out.inbox hb3) 1).trans rfl
                  clear hRm hb3
                  generalize la.getD k (0, []) = el at *
                  go_wp2_with fail
                  refine HD.out.mono ?_
                  rintro e w4 ⟨rfl, hna, hfr⟩
                  have HN6 := Aside0.mk hna
                  have hcv := conv_c cm (Kd.R_reads' (hfr.R (R_fresh HRm.out) (fun k h1 h2 => by omega))).2.2
                  have HI2 := Aside0.mk (HI.out.add el)
                  have HM2 := Aside0.mk (show ∀ m ∈ la ++ [el], m.2.length ≤ 140737488351232 from fun m hm => by
                    rcases List.mem_append.1 hm with h | h
                    · exact HM.out m h
                    · rw [List.mem_singleton] at h; subst h; exact hbl)
                  clear hna hfr HRm HB3 HD HAB b1
                  obtain ⟨G1, hR1, hO1⟩ := HN6.out.open_
                  have HR1 := Aside0.mk hR1
                  have HO1 := Aside0.mk hO1
                  obtain ⟨AV1, cV1, hAV1⟩ := Kd.R_slice hR1
                  subst hAV1
                  clear hR1 hO1
                  go_wp2_with (first | ((with_reducible refine gate_dst (N := 209) rfl ?_); refine Kd.R_lit k37 (w0 := w4) w4.heap.size 37 ?hg (N := 209) ?hd (xs := [(⟨el.1, 1, (strOfNums el.2)⟩ : Sent)]) (inner := [.int .i64 el.1, .int .i64 1, .string ((strOfNums el.2))]) (ok := fun _ => True) (okp := fun _ => True) ?hr ?hp (fun _ h => h) trivial (Below.refl _ _) (Nat.le_refl _) (by simp) ?_; (case hg => rfl); (case hd => rfl); (case hr => first | (go_simp; done) | (go_simp; rfl)); (case hp => exact (Reps.snoc (Reps.none _ 3) (k37_mkM _ _ _ (⟨el.1, 1, (strOfNums el.2)⟩ : Sent)) rfl)); intro vl_ wl_ HOl_ hbl_ hgl_ hatl_; obtain ⟨Al_, cl_, rfl⟩ := Kd.R_slice HOl_; have HXl_ := Aside0.mk (Kd.R_reads' HOl_).2.2; have HRl_ := Aside0.mk (Kd.R_mono (Kd.R_below HR1.out hbl_) (fun k h => Or.inl (b := w4.heap.size ≤ k) h)); have HBl_ := Aside0.mk hbl_; clear HOl_ hbl_ hgl_ hatl_) | (refine Kd.R_append_rows k37 0 rfl (.tmp 204) (.tmp 209) 33 37 (.agg #[.int .i64 0, .int .i64 0, .string ⟨#[]⟩]) 32 rfl Try.underlying33 infoS rfl (by decide) (by decide) _ al [(⟨el.1, 1, (strOfNums el.2)⟩ : Sent)] _ _ _ (fun k => G1 k ∨ w4.heap.size ≤ k) (fun _ => False) rfl rfl HRl_.out HXl_.out (fun x cs h => by rw [k37_open h]; exact k37_mkM _ _ _ x) (fun k h => h.elim) (fun k h => .inr (Nat.le_trans HBl_.out.size h)) (Below.refl _ _) (Nat.zero_le _) (by simp; omega) ?_; intro v1_ W1_ ho_ hb_ hg_ hat_; have HN7 := Aside0.mk (HO1.out W1_ v1_ _ ho_ ⟨hg_.os.trans HBl_.out.os, hg_.tape.trans HBl_.out.tape, hg_.output.trans HBl_.out.output, Nat.le_trans HBl_.out.size hg_.size, fun k h e => (hg_.block k (Nat.lt_of_lt_of_le h HBl_.out.size) e).trans (HBl_.out.block k h)⟩); clear ho_ hb_ hg_ hat_ HRl_ HXl_ HBl_ HR1 HO1))
                  clear hcv HN6
                  have hla2 : (la ++ [el]).length ≤ j + 1 := by simp; omega
                  have hal2 : (al ++ [(⟨el.1, 1, strOfNums el.2⟩ : Sent)]).length ≤ j + 1 := by simp; omega
                  generalize la ++ [el] = la2 at HN7 HI2 HM2 hla2
                  generalize al ++ [(⟨el.1, 1, strOfNums el.2⟩ : Sent)] = al2 at HN7 HI2 hal2
                  have HWm := Aside0.mk (show lu.length ≤ sumL (ops.take (j + 1)) from HWl.out)
                  have HWa := Aside0.mk (show (la2).length ≤ j + 1 from hla2)
                  have HWb := Aside0.mk (show (al2).length ≤ j + 1 from hal2)
                  go_wp2_with fail
                  go_meet
                  exact ⟨lu, la2, al2, HN7, HI2, HWm, HWa, HWb, HM2⟩
                · have hk2 : nn < 0 ∨ la.length ≤ nn := by omega
                  have HK2 := Aside0.mk hk2
                  clear hk hk2
                  go_wp2_with fail
                  refine (msg_s_no HAB.out.ns nn HK2.out).mono ?_
                  rintro e w3 ⟨rfl, rfl⟩
                  go_wp2_with fail
                  refine (double_s_no HAB.out.ns nn HK2.out).mono ?_
                  rintro e w3 ⟨rfl, rfl⟩
                  have HWm := Aside0.mk (show lu.length ≤ sumL (ops.take (j + 1)) from HWl.out)
                  have HWa := Aside0.mk (show (la).length ≤ j + 1 from by omega)
                  have HWb := Aside0.mk (show (al).length ≤ j + 1 from by omega)
                  go_wp2_with fail
                  go_meet
                  exact ⟨lu, la, al, HAB, HI, HWm, HWa, HWb, HM⟩
            · have k4 : (ki == 4) = false := by simpa using h4
              as_aux_lemma =>
                have HWl := Aside0.mk (show lu.length ≤ sumL (ops.take (j + 1)) from by omega)
                by_cases hk : 0 ≤ nn ∧ nn < la.length
                · obtain ⟨k, rfl⟩ : ∃ k : Nat, nn = k := ⟨nn.toNat, by omega⟩
                  have hk1 : k < la.length := by omega
                  have hg : la.getD k (0, []) = la[k] := by rw [List.getD_eq_getElem?_getD, List.getElem?_eq_getElem hk1]; rfl
                  have hbl := HM.out _ (getD_mem hk1)
                  have HTk := Aside0.mk (take_n HAB.out k hk1 hbl)
                  have HFi := Aside0.mk (HI.out.find k hk1)
                  have HTa := Aside0.mk (HI.out.take k hk1)
                  have HM2 := Aside0.mk (show ∀ m ∈ la.eraseIdx k, m.2.length ≤ 140737488351232 from fun m hm => HM.out m (List.mem_of_mem_eraseIdx hm))
                  have hlenE : (((la.eraseIdx k).length : Nat) : Int) = (la.length : Int) - 1 := by rw [List.length_eraseIdx, if_pos hk1]; omega
                  have hlenN : (la.eraseIdx k).length ≤ j + 1 := by omega
                  rw [hg] at HTk
                  clear hbl hg
                  generalize la[k] = el at HTk HFi HTa
                  have hdk : decide ((k : Int) < (la.length : Int)) = true := by rw [decide_eq_true_eq]; omega
                  go_wp2_with fail
                  refine (late_s HAB.out.ns).mono ?_
                  rintro e w3 ⟨rfl, rfl⟩
                  go_wp2_with fail
                  refine HTk.out.mono ?_
                  rintro e w4 ⟨Am, cm, rfl, hC, hna⟩
                  have HN6 := Aside0.mk hna
                  have HCm := Aside0.mk hC
                  have b1 : w4.cell? ⟨wz.heap.size, 1, none⟩ = some (.int .i64 k) := (blk_cell HN6.out.inbox 1).trans rfl
                  clear hna hC HTk HAB
                  go_wp2_with fail
                  refine (late_s HN6.out.ns).mono ?_
                  rintro e w5 ⟨rfl, rfl⟩
                  rw [hlenE]
                  generalize la.eraseIdx k = la2 at *
                  obtain ⟨G0, hR0, _⟩ := HN6.out.open_
                  obtain ⟨AV0, cV0, hAV⟩ := Kd.R_slice hR0
                  subst hAV
                  clear hR0
                  go_wp2_with fail
                  go_loopw [17, 18] (fun u17 u18 wr2 => ∃ (q : Nat) (fd : Bool) (al' : List Sent), q ≤ al.length ∧ u18 = .int .i64 q ∧ u17 = .bool fd ∧ al'.length = al.length ∧ Aside0 (NA w wr2 w.heap.size lu la2 (.slice AV0 al.length cV0) al' (some (wz.heap.size, .cells #[.int .i64 ki, .int .i64 (k : Int), .slice A1 bb.length c1, .slice A2 ll.length c2] 35 (0, 0)))) ∧ Aside0 (fd = true → Inv al' la2) ∧ Aside0 (fd = false → al = al' ∧ Kd.C (Kd.int .u8) wr2 Am el.2.length el.2 ∧ ∀ p (hp : p < al.length), p < q → ¬ mat al[p] el)) (fun u17 u18 wr2 => al.length - (intOf u18).toNat)
                  case atStart => exact ⟨0, false, al, by omega, rfl, rfl, rfl, HN6, ⟨fun h => by cases h⟩, ⟨fun _ => ⟨rfl, HCm.out, fun p hp h => by omega⟩⟩⟩
                  case round =>
                    obtain ⟨q, fd, al', hq, rfl, rfl, hl', HN, HIv, HF2⟩ := hrel
                    clear HN6 HCm
                    rcases fd with _ | _
                    · obtain ⟨heq, hC, hnm⟩ := HF2.out rfl
                      subst heq
                      have HNM := Aside0.mk hnm
                      clear HF2 HIv hnm
                      by_cases hq1 : q < al.length
                      · have hd : decide ((q : Int) < ((al.length : Nat) : Int)) = true := by rw [decide_eq_true_eq]; omega
                        have hfl := Aside0.mk (HI.out.flag al[q] (List.getElem_mem hq1))
                        have HCd := Aside0.mk (Kd.C_drew hC)
                        have HNd := Aside0.mk (HN.out.below (below_drew1 (Below.refl _ _)))
                        obtain ⟨ga, capa, hV, y0, y1, y2, hfz, hset⟩ := HNd.out.elem q hq1
                        injection hV with e1 _ e2
                        subst e1 e2
                        have hcv := conv_c cm HCd.out
                        have HSet := Aside0.mk hset
                        clear hset hC HN
                        go_wp2_with fail
                        cases hA : (al[q].dest == el.1)
                        · refine start_ (n := 25) (S := fun w' => w'.cell? ⟨ga, q * 3, none⟩ = some (.int .i64 al[q].dest) ∧ w'.cell? ⟨ga, q * 3 + 1, none⟩ = some (.int .i64 al[q].n) ∧ w'.cell? ⟨ga, q * 3 + 2, none⟩ = some (.string al[q].b) ∧ (convert 22 9 (.slice Am el.2.length cm)).run Try.prog w' = .ok (.string (strOfNums el.2)) w') (ds := []) #[false, false, false, false, false, false, false, false, false, false, false, false, false, false, false, false, false, false, false, false, false, false, false, false, false] (by kernel_rfl) rfl rfl ⟨y0, y1, y2, hcv⟩ (fun hHeld => ?_); refine with_tabW tabK18 bitsK18 (fun HT_ HW_ => ?_)
                          generalize hwd : wr.drew = Wd at HNd HCd HSet y0 y1 y2 hfz hcv hHeld ⊢
                          clear hwd
                          refine pure_ (i := 0) (N := (some 96)) (v := ?_) (a' := ?_) #[true, false, false, false, false, false, false, false, false, false, false, false, false, false, false, false, false, false, false, false, false, false, false, false, false] rfl rfl (any_of HT_.out (by kernel_rfl)) (fun _ _ _ h => h) (Or.inl ⟨by rfl, ?_⟩) ?_ ?_
                          rotate_left
                          · intro w'
                            go_simp
                            with_reducible rfl
                          rotate_left
                          · simp only [Act.put, List.setIfInBounds_toArray, List.set_cons_zero, List.set_cons_succ, i64_w, i32_w]
                            rfl
                          refine pure_ (i := 1) (N := (some 97)) (v := ?_) (a' := ?_) #[true, true, false, false, false, false, false, false, false, false, false, false, false, false, false, false, false, false, false, false, false, false, false, false, false] rfl rfl (any_of HT_.out (by kernel_rfl)) (fun _ _ _ h => h) (Or.inl ⟨by rfl, ?_⟩) ?_ ?_
                          rotate_left
                          · intro w'
                            go_simp
                            with_reducible rfl
                          rotate_left
                          · simp only [Act.put, List.setIfInBounds_toArray, List.set_cons_zero, List.set_cons_succ, i64_w, i32_w]
                            rfl
                          refine pure_ (i := 2) (N := (some 98)) (v := ?_) (a' := ?_) #[true, true, true, false, false, false, false, false, false, false, false, false, false, false, false, false, false, false, false, false, false, false, false, false, false] rfl rfl (any_of HT_.out (by kernel_rfl)) (fun _ _ _ h => h) (Or.inl ⟨by rfl, ?_⟩) ?_ ?_
                          rotate_left
                          · intro w'
                            go_simp
                            with_reducible rfl
                          rotate_left
                          · simp only [Act.put, List.setIfInBounds_toArray, List.set_cons_zero, List.set_cons_succ, i64_w, i32_w]
                            rfl
                          refine pure_ (i := 3) (N := (some 99)) (v := ?_) (a' := ?_) #[true, true, true, true, false, false, false, false, false, false, false, false, false, false, false, false, false, false, false, false, false, false, false, false, false] rfl rfl (any_of HT_.out (by kernel_rfl)) (fun _ _ _ h => h) (Or.inl ⟨by rfl, ?_⟩) ?_ ?_
                          rotate_left
                          · intro w'
                            go_simp
                            with_reducible rfl
                          rotate_left
                          · simp only [Act.put, List.setIfInBounds_toArray, List.set_cons_zero, List.set_cons_succ, i64_w, i32_w]
                            rfl
                          refine take_ (i := 4) (N := (some 100)) (v := ?_) (a' := ?_) #[true, true, true, true, true, false, false, false, false, false, false, false, false, false, false, false, false, false, false, false, false, false, false, false, false] rfl rfl (take_ofW HT_.out HW_.out (by kernel_rfl)) (fun _ _ _ h => h) (Or.inl ⟨by rfl, ?_⟩) hHeld ?_ ?_
                          rotate_left
                          · rintro w' ⟨s0, s1, s2, s3⟩
                            go_simp
                            with_reducible rfl
                          rotate_left
                          · simp only [Act.put, List.setIfInBounds_toArray, List.set_cons_zero, List.set_cons_succ, i64_w, i32_w]
                            rfl
                          refine pure_ (i := 5) (N := (some 101)) (v := ?_) (a' := ?_) #[true, true, true, true, true, true, false, false, false, false, false, false, false, false, false, false, false, false, false, false, false, false, false, false, false] rfl rfl (any_of HT_.out (by kernel_rfl)) (fun _ _ _ h => h) (Or.inl ⟨by rfl, ?_⟩) ?_ ?_
                          rotate_left
                          · intro w'
                            go_simp
                            with_reducible rfl
                          rotate_left
                          · simp only [Act.put, List.setIfInBounds_toArray, List.set_cons_zero, List.set_cons_succ, i64_w, i32_w]
                            rfl
                          refine pure_ (i := 6) (N := (some 102)) (v := ?_) (a' := ?_) #[true, true, true, true, true, true, true, false, false, false, false, false, false, false, false, false, false, false, false, false, false, false, false, false, false] rfl rfl (any_of HT_.out (by kernel_rfl)) (fun _ _ _ h => h) (Or.inl ⟨by rfl, ?_⟩) ?_ ?_
                          rotate_left
                          · intro w'
                            go_simp
                            with_reducible rfl
                          rotate_left
                          · simp only [Act.put, List.setIfInBounds_toArray, List.set_cons_zero, List.set_cons_succ, i64_w, i32_w]
                            rfl
                          refine pure_ (i := 7) (N := (some 103)) (v := ?_) (a' := ?_) #[true, true, true, true, true, true, true, true, false, false, false, false, false, false, false, false, false, false, false, false, false, false, false, false, false] rfl rfl (any_of HT_.out (by kernel_rfl)) (fun _ _ _ h => h) (Or.inl ⟨by rfl, ?_⟩) ?_ ?_
                          rotate_left
                          · intro w'
                            go_simp
                            with_reducible rfl
                          rotate_left
                          · simp only [Act.put, List.setIfInBounds_toArray, List.set_cons_zero, List.set_cons_succ, i64_w, i32_w]
                            rfl
                          refine pure_ (i := 8) (N := (some 104)) (v := undef) (a' := ?_) #[true, true, true, true, true, true, true, true, true, false, false, false, false, false, false, false, false, false, false, false, false, false, false, false, false] rfl rfl (any_of HT_.out (by kernel_rfl)) (fun _ _ _ h => h) (Or.inr ⟨by rfl, rfl⟩) ?_ ?_
                          rotate_left
                          · simp only [Act.put, List.setIfInBounds_toArray, List.set_cons_zero, List.set_cons_succ, i64_w, i32_w]
                            rfl
                          refine pure_ (i := 9) (N := (some 105)) (v := undef) (a' := ?_) #[true, true, true, true, true, true, true, true, true, true, false, false, false, false, false, false, false, false, false, false, false, false, false, false, false] rfl rfl (any_of HT_.out (by kernel_rfl)) (fun _ _ _ h => h) (Or.inr ⟨by rfl, rfl⟩) ?_ ?_
                          rotate_left
                          · simp only [Act.put, List.setIfInBounds_toArray, List.set_cons_zero, List.set_cons_succ, i64_w, i32_w]
                            rfl
                          refine pure_ (i := 10) (N := (some 106)) (v := undef) (a' := ?_) #[true, true, true, true, true, true, true, true, true, true, true, false, false, false, false, false, false, false, false, false, false, false, false, false, false] rfl rfl (any_of HT_.out (by kernel_rfl)) (fun _ _ _ h => h) (Or.inr ⟨by rfl, rfl⟩) ?_ ?_
                          rotate_left
                          · simp only [Act.put, List.setIfInBounds_toArray, List.set_cons_zero, List.set_cons_succ, i64_w, i32_w]
                            rfl
                          refine pure_ (i := 11) (N := (some 107)) (v := undef) (a' := ?_) #[true, true, true, true, true, true, true, true, true, true, true, true, false, false, false, false, false, false, false, false, false, false, false, false, false] rfl rfl (any_of HT_.out (by kernel_rfl)) (fun _ _ _ h => h) (Or.inr ⟨by rfl, rfl⟩) ?_ ?_
                          rotate_left
                          · simp only [Act.put, List.setIfInBounds_toArray, List.set_cons_zero, List.set_cons_succ, i64_w, i32_w]
                            rfl
                          refine pure_ (i := 12) (N := (some 108)) (v := undef) (a' := ?_) #[true, true, true, true, true, true, true, true, true, true, true, true, true, false, false, false, false, false, false, false, false, false, false, false, false] rfl rfl (any_of HT_.out (by kernel_rfl)) (fun _ _ _ h => h) (Or.inr ⟨by rfl, rfl⟩) ?_ ?_
                          rotate_left
                          · simp only [Act.put, List.setIfInBounds_toArray, List.set_cons_zero, List.set_cons_succ, i64_w, i32_w]
                            rfl
                          refine pure_ (i := 13) (N := (some 109)) (v := undef) (a' := ?_) #[true, true, true, true, true, true, true, true, true, true, true, true, true, true, false, false, false, false, false, false, false, false, false, false, false] rfl rfl (any_of HT_.out (by kernel_rfl)) (fun _ _ _ h => h) (Or.inr ⟨by rfl, rfl⟩) ?_ ?_
                          rotate_left
                          · simp only [Act.put, List.setIfInBounds_toArray, List.set_cons_zero, List.set_cons_succ, i64_w, i32_w]
                            rfl
                          refine pure_ (i := 14) (N := (some 110)) (v := undef) (a' := ?_) #[true, true, true, true, true, true, true, true, true, true, true, true, true, true, true, false, false, false, false, false, false, false, false, false, false] rfl rfl (any_of HT_.out (by kernel_rfl)) (fun _ _ _ h => h) (Or.inr ⟨by rfl, rfl⟩) ?_ ?_
                          rotate_left
                          · simp only [Act.put, List.setIfInBounds_toArray, List.set_cons_zero, List.set_cons_succ, i64_w, i32_w]
                            rfl
                          refine pure_ (i := 15) (N := (some 111)) (v := undef) (a' := ?_) #[true, true, true, true, true, true, true, true, true, true, true, true, true, true, true, true, false, false, false, false, false, false, false, false, false] rfl rfl (any_of HT_.out (by kernel_rfl)) (fun _ _ _ h => h) (Or.inr ⟨by rfl, rfl⟩) ?_ ?_
                          rotate_left
                          · simp only [Act.put, List.setIfInBounds_toArray, List.set_cons_zero, List.set_cons_succ, i64_w, i32_w]
                            rfl
                          refine pure_ (i := 16) (N := (some 112)) (v := ?_) (a' := ?_) #[true, true, true, true, true, true, true, true, true, true, true, true, true, true, true, true, true, false, false, false, false, false, false, false, false] rfl rfl (any_of HT_.out (by kernel_rfl)) (fun _ _ _ h => h) (Or.inl ⟨by rfl, ?_⟩) ?_ ?_
                          rotate_left
                          · intro w'
                            go_simp
                            with_reducible rfl
                          rotate_left
                          · simp only [Act.put, List.setIfInBounds_toArray, List.set_cons_zero, List.set_cons_succ, i64_w, i32_w]
                            rfl
                          refine pure_ (i := 17) (N := (some 113)) (v := ?_) (a' := ?_) #[true, true, true, true, true, true, true, true, true, true, true, true, true, true, true, true, true, true, false, false, false, false, false, false, false] rfl rfl (any_of HT_.out (by kernel_rfl)) (fun _ _ _ h => h) (Or.inl ⟨by rfl, ?_⟩) ?_ ?_
                          rotate_left
                          · intro w'
                            go_simp
                            with_reducible rfl
                          rotate_left
                          · simp only [Act.put, List.setIfInBounds_toArray, List.set_cons_zero, List.set_cons_succ, i64_w, i32_w]
                            rfl
                          refine pure_ (i := 18) (N := (some 114)) (v := undef) (a' := ?_) #[true, true, true, true, true, true, true, true, true, true, true, true, true, true, true, true, true, true, true, false, false, false, false, false, false] rfl rfl (any_of HT_.out (by kernel_rfl)) (fun _ _ _ h => h) (Or.inr ⟨by rfl, rfl⟩) ?_ ?_
                          rotate_left
                          · simp only [Act.put, List.setIfInBounds_toArray, List.set_cons_zero, List.set_cons_succ, i64_w, i32_w]
                            rfl
                          refine pure_ (i := 19) (N := (some 115)) (v := undef) (a' := ?_) #[true, true, true, true, true, true, true, true, true, true, true, true, true, true, true, true, true, true, true, true, false, false, false, false, false] rfl rfl (any_of HT_.out (by kernel_rfl)) (fun _ _ _ h => h) (Or.inr ⟨by rfl, rfl⟩) ?_ ?_
                          rotate_left
                          · simp only [Act.put, List.setIfInBounds_toArray, List.set_cons_zero, List.set_cons_succ, i64_w, i32_w]
                            rfl
                          refine pure_ (i := 20) (N := (some 116)) (v := undef) (a' := ?_) #[true, true, true, true, true, true, true, true, true, true, true, true, true, true, true, true, true, true, true, true, true, false, false, false, false] rfl rfl (any_of HT_.out (by kernel_rfl)) (fun _ _ _ h => h) (Or.inr ⟨by rfl, rfl⟩) ?_ ?_
                          rotate_left
                          · simp only [Act.put, List.setIfInBounds_toArray, List.set_cons_zero, List.set_cons_succ, i64_w, i32_w]
                            rfl
                          refine pure_ (i := 21) (N := (some 117)) (v := undef) (a' := ?_) #[true, true, true, true, true, true, true, true, true, true, true, true, true, true, true, true, true, true, true, true, true, true, false, false, false] rfl rfl (any_of HT_.out (by kernel_rfl)) (fun _ _ _ h => h) (Or.inr ⟨by rfl, rfl⟩) ?_ ?_
                          rotate_left
                          · simp only [Act.put, List.setIfInBounds_toArray, List.set_cons_zero, List.set_cons_succ, i64_w, i32_w]
                            rfl
                          refine pure_ (i := 22) (N := (some 118)) (v := undef) (a' := ?_) #[true, true, true, true, true, true, true, true, true, true, true, true, true, true, true, true, true, true, true, true, true, true, true, false, false] rfl rfl (any_of HT_.out (by kernel_rfl)) (fun _ _ _ h => h) (Or.inr ⟨by rfl, rfl⟩) ?_ ?_
                          rotate_left
                          · simp only [Act.put, List.setIfInBounds_toArray, List.set_cons_zero, List.set_cons_succ, i64_w, i32_w]
                            rfl
                          refine pure_ (i := 23) (N := (some 119)) (v := undef) (a' := ?_) #[true, true, true, true, true, true, true, true, true, true, true, true, true, true, true, true, true, true, true, true, true, true, true, true, false] rfl rfl (any_of HT_.out (by kernel_rfl)) (fun _ _ _ h => h) (Or.inr ⟨by rfl, rfl⟩) ?_ ?_
                          rotate_left
                          · simp only [Act.put, List.setIfInBounds_toArray, List.set_cons_zero, List.set_cons_succ, i64_w, i32_w]
                            rfl
                          refine pure_ (i := 24) (N := (some 120)) (v := ?_) (a' := ?_) #[true, true, true, true, true, true, true, true, true, true, true, true, true, true, true, true, true, true, true, true, true, true, true, true, true] rfl rfl (any_of HT_.out (by kernel_rfl)) (fun _ _ _ h => h) (Or.inl ⟨by rfl, ?_⟩) ?_ ?_
                          rotate_left
                          · intro w'
                            go_simp
                            with_reducible rfl
                          rotate_left
                          · simp only [Act.put, List.setIfInBounds_toArray, List.set_cons_zero, List.set_cons_succ, i64_w, i32_w]
                            rfl
                          refine done_ (done_of HT_.out (by kernel_rfl)) ?_
                          clear hHeld HT_ HW_
                          go_wp2_with fail
                          go_roundw
                          case rel => first | exact ⟨q + 1, false, al, by omega, by go_num, rfl, rfl, HNd, ⟨fun h => by cases h⟩, ⟨fun _ => ⟨rfl, HCd.out, fun p hp h1 hm => by by_cases h2 : p < q; exact HNM.out p hp h2 hm; (obtain rfl : p = q := by omega); simp [hm.1] at hA⟩⟩⟩ | ((repeat apply Exists.intro); exact ⟨⟨q + 1, false, al, by omega, by go_num, rfl, rfl, HNd, ⟨fun h => by cases h⟩, ⟨fun _ => ⟨rfl, HCd.out, fun p hp h1 hm => by by_cases h2 : p < q; exact HNM.out p hp h2 hm; (obtain rfl : p = q := by omega); simp [hm.1] at hA⟩⟩⟩, rfl⟩)
                          case measure => simp [intOf]; omega
                        · cases hB : (al[q].b.toList == (strOfNums el.2).toList)
                          · refine start_ (n := 25) (S := fun w' => w'.cell? ⟨ga, q * 3, none⟩ = some (.int .i64 al[q].dest) ∧ w'.cell? ⟨ga, q * 3 + 1, none⟩ = some (.int .i64 al[q].n) ∧ w'.cell? ⟨ga, q * 3 + 2, none⟩ = some (.string al[q].b) ∧ (convert 22 9 (.slice Am el.2.length cm)).run Try.prog w' = .ok (.string (strOfNums el.2)) w') (ds := []) #[false, false, false, false, false, false, false, false, false, false, false, false, false, false, false, false, false, false, false, false, false, false, false, false, false] (by kernel_rfl) rfl rfl ⟨y0, y1, y2, hcv⟩ (fun hHeld => ?_); refine with_tabW tabK18 bitsK18 (fun HT_ HW_ => ?_)
                            generalize hwd : wr.drew = Wd at HNd HCd HSet y0 y1 y2 hfz hcv hHeld ⊢
                            clear hwd
                            refine pure_ (i := 0) (N := (some 96)) (v := ?_) (a' := ?_) #[true, false, false, false, false, false, false, false, false, false, false, false, false, false, false, false, false, false, false, false, false, false, false, false, false] rfl rfl (any_of HT_.out (by kernel_rfl)) (fun _ _ _ h => h) (Or.inl ⟨by rfl, ?_⟩) ?_ ?_
                            rotate_left
                            · intro w'
                              go_simp
                              with_reducible rfl
                            rotate_left
                            · simp only [Act.put, List.setIfInBounds_toArray, List.set_cons_zero, List.set_cons_succ, i64_w, i32_w]
                              rfl
                            refine pure_ (i := 1) (N := (some 97)) (v := ?_) (a' := ?_) #[true, true, false, false, false, false, false, false, false, false, false, false, false, false, false, false, false, false, false, false, false, false, false, false, false] rfl rfl (any_of HT_.out (by kernel_rfl)) (fun _ _ _ h => h) (Or.inl ⟨by rfl, ?_⟩) ?_ ?_
                            rotate_left
                            · intro w'
                              go_simp
                              with_reducible rfl
                            rotate_left
                            · simp only [Act.put, List.setIfInBounds_toArray, List.set_cons_zero, List.set_cons_succ, i64_w, i32_w]
                              rfl
                            refine pure_ (i := 2) (N := (some 98)) (v := ?_) (a' := ?_) #[true, true, true, false, false, false, false, false, false, false, false, false, false, false, false, false, false, false, false, false, false, false, false, false, false] rfl rfl (any_of HT_.out (by kernel_rfl)) (fun _ _ _ h => h) (Or.inl ⟨by rfl, ?_⟩) ?_ ?_
                            rotate_left
                            · intro w'
                              go_simp
                              with_reducible rfl
                            rotate_left
                            · simp only [Act.put, List.setIfInBounds_toArray, List.set_cons_zero, List.set_cons_succ, i64_w, i32_w]
                              rfl
                            refine pure_ (i := 3) (N := (some 99)) (v := ?_) (a' := ?_) #[true, true, true, true, false, false, false, false, false, false, false, false, false, false, false, false, false, false, false, false, false, false, false, false, false] rfl rfl (any_of HT_.out (by kernel_rfl)) (fun _ _ _ h => h) (Or.inl ⟨by rfl, ?_⟩) ?_ ?_
                            rotate_left
                            · intro w'
                              go_simp
                              with_reducible rfl
                            rotate_left
                            · simp only [Act.put, List.setIfInBounds_toArray, List.set_cons_zero, List.set_cons_succ, i64_w, i32_w]
                              rfl
                            refine take_ (i := 4) (N := (some 100)) (v := ?_) (a' := ?_) #[true, true, true, true, true, false, false, false, false, false, false, false, false, false, false, false, false, false, false, false, false, false, false, false, false] rfl rfl (take_ofW HT_.out HW_.out (by kernel_rfl)) (fun _ _ _ h => h) (Or.inl ⟨by rfl, ?_⟩) hHeld ?_ ?_
                            rotate_left
                            · rintro w' ⟨s0, s1, s2, s3⟩
                              go_simp
                              with_reducible rfl
                            rotate_left
                            · simp only [Act.put, List.setIfInBounds_toArray, List.set_cons_zero, List.set_cons_succ, i64_w, i32_w]
                              rfl
                            refine pure_ (i := 5) (N := (some 101)) (v := ?_) (a' := ?_) #[true, true, true, true, true, true, false, false, false, false, false, false, false, false, false, false, false, false, false, false, false, false, false, false, false] rfl rfl (any_of HT_.out (by kernel_rfl)) (fun _ _ _ h => h) (Or.inl ⟨by rfl, ?_⟩) ?_ ?_
                            rotate_left
                            · intro w'
                              go_simp
                              with_reducible rfl
                            rotate_left
                            · simp only [Act.put, List.setIfInBounds_toArray, List.set_cons_zero, List.set_cons_succ, i64_w, i32_w]
                              rfl
                            refine pure_ (i := 6) (N := (some 102)) (v := ?_) (a' := ?_) #[true, true, true, true, true, true, true, false, false, false, false, false, false, false, false, false, false, false, false, false, false, false, false, false, false] rfl rfl (any_of HT_.out (by kernel_rfl)) (fun _ _ _ h => h) (Or.inl ⟨by rfl, ?_⟩) ?_ ?_
                            rotate_left
                            · intro w'
                              go_simp
                              with_reducible rfl
                            rotate_left
                            · simp only [Act.put, List.setIfInBounds_toArray, List.set_cons_zero, List.set_cons_succ, i64_w, i32_w]
                              rfl
                            refine pure_ (i := 7) (N := (some 103)) (v := ?_) (a' := ?_) #[true, true, true, true, true, true, true, true, false, false, false, false, false, false, false, false, false, false, false, false, false, false, false, false, false] rfl rfl (any_of HT_.out (by kernel_rfl)) (fun _ _ _ h => h) (Or.inl ⟨by rfl, ?_⟩) ?_ ?_
                            rotate_left
                            · intro w'
                              go_simp
                              with_reducible rfl
                            rotate_left
                            · simp only [Act.put, List.setIfInBounds_toArray, List.set_cons_zero, List.set_cons_succ, i64_w, i32_w]
                              rfl
                            refine pure_ (i := 8) (N := (some 104)) (v := ?_) (a' := ?_) #[true, true, true, true, true, true, true, true, true, false, false, false, false, false, false, false, false, false, false, false, false, false, false, false, false] rfl rfl (any_of HT_.out (by kernel_rfl)) (fun _ _ _ h => h) (Or.inl ⟨by rfl, ?_⟩) ?_ ?_
                            rotate_left
                            · intro w'
                              go_simp
                              with_reducible rfl
                            rotate_left
                            · simp only [Act.put, List.setIfInBounds_toArray, List.set_cons_zero, List.set_cons_succ, i64_w, i32_w]
                              rfl
                            refine pure_ (i := 9) (N := (some 105)) (v := ?_) (a' := ?_) #[true, true, true, true, true, true, true, true, true, true, false, false, false, false, false, false, false, false, false, false, false, false, false, false, false] rfl rfl (any_of HT_.out (by kernel_rfl)) (fun _ _ _ h => h) (Or.inl ⟨by rfl, ?_⟩) ?_ ?_
                            rotate_left
                            · intro w'
                              go_simp
                              with_reducible rfl
                            rotate_left
                            · simp only [Act.put, List.setIfInBounds_toArray, List.set_cons_zero, List.set_cons_succ, i64_w, i32_w]
                              rfl
                            refine pure_ (i := 10) (N := (some 106)) (v := ?_) (a' := ?_) #[true, true, true, true, true, true, true, true, true, true, true, false, false, false, false, false, false, false, false, false, false, false, false, false, false] rfl rfl (any_of HT_.out (by kernel_rfl)) (fun _ _ _ h => h) (Or.inl ⟨by rfl, ?_⟩) ?_ ?_
                            rotate_left
                            · intro w'
                              go_simp
                              with_reducible rfl
                            rotate_left
                            · simp only [Act.put, List.setIfInBounds_toArray, List.set_cons_zero, List.set_cons_succ, i64_w, i32_w]
                              rfl
                            refine pure_ (i := 11) (N := (some 107)) (v := ?_) (a' := ?_) #[true, true, true, true, true, true, true, true, true, true, true, true, false, false, false, false, false, false, false, false, false, false, false, false, false] rfl rfl (any_of HT_.out (by kernel_rfl)) (fun _ _ _ h => h) (Or.inl ⟨by rfl, ?_⟩) ?_ ?_
                            rotate_left
                            · intro w'
                              go_simp
                              with_reducible rfl
                            rotate_left
                            · simp only [Act.put, List.setIfInBounds_toArray, List.set_cons_zero, List.set_cons_succ, i64_w, i32_w]
                              rfl
                            refine take_ (i := 12) (N := (some 108)) (v := ?_) (a' := ?_) #[true, true, true, true, true, true, true, true, true, true, true, true, true, false, false, false, false, false, false, false, false, false, false, false, false] rfl rfl (take_ofW HT_.out HW_.out (by kernel_rfl)) (fun _ _ _ h => h) (Or.inl ⟨by rfl, ?_⟩) hHeld ?_ ?_
                            rotate_left
                            · rintro w' ⟨s0, s1, s2, s3⟩
                              go_simp
                              with_reducible rfl
                            rotate_left
                            · simp only [Act.put, List.setIfInBounds_toArray, List.set_cons_zero, List.set_cons_succ, i64_w, i32_w]
                              rfl
                            refine pure_ (i := 13) (N := (some 109)) (v := ?_) (a' := ?_) #[true, true, true, true, true, true, true, true, true, true, true, true, true, true, false, false, false, false, false, false, false, false, false, false, false] rfl rfl (any_of HT_.out (by kernel_rfl)) (fun _ _ _ h => h) (Or.inl ⟨by rfl, ?_⟩) ?_ ?_
                            rotate_left
                            · intro w'
                              go_simp
                              with_reducible rfl
                            rotate_left
                            · simp only [Act.put, List.setIfInBounds_toArray, List.set_cons_zero, List.set_cons_succ, i64_w, i32_w]
                              rfl
                            refine take_ (i := 14) (N := (some 110)) (v := ?_) (a' := ?_) #[true, true, true, true, true, true, true, true, true, true, true, true, true, true, true, false, false, false, false, false, false, false, false, false, false] rfl rfl (take_ofW HT_.out HW_.out (by kernel_rfl)) (fun _ _ _ h => h) (Or.inl ⟨by rfl, ?_⟩) hHeld ?_ ?_
                            rotate_left
                            · rintro w' ⟨s0, s1, s2, s3⟩
                              go_simp
                              with_reducible rfl
                            rotate_left
                            · simp only [Act.put, List.setIfInBounds_toArray, List.set_cons_zero, List.set_cons_succ, i64_w, i32_w]
                              rfl
                            refine pure_ (i := 15) (N := (some 111)) (v := ?_) (a' := ?_) #[true, true, true, true, true, true, true, true, true, true, true, true, true, true, true, true, false, false, false, false, false, false, false, false, false] rfl rfl (any_of HT_.out (by kernel_rfl)) (fun _ _ _ h => h) (Or.inl ⟨by rfl, ?_⟩) ?_ ?_
                            rotate_left
                            · intro w'
                              go_simp
                              with_reducible rfl
                            rotate_left
                            · simp only [Act.put, List.setIfInBounds_toArray, List.set_cons_zero, List.set_cons_succ, i64_w, i32_w]
                              rfl
                            refine pure_ (i := 16) (N := (some 112)) (v := ?_) (a' := ?_) #[true, true, true, true, true, true, true, true, true, true, true, true, true, true, true, true, true, false, false, false, false, false, false, false, false] rfl rfl (any_of HT_.out (by kernel_rfl)) (fun _ _ _ h => h) (Or.inl ⟨by rfl, ?_⟩) ?_ ?_
                            rotate_left
                            · intro w'
                              go_simp
                              with_reducible rfl
                            rotate_left
                            · simp only [Act.put, List.setIfInBounds_toArray, List.set_cons_zero, List.set_cons_succ, i64_w, i32_w]
                              rfl
                            refine pure_ (i := 17) (N := (some 113)) (v := ?_) (a' := ?_) #[true, true, true, true, true, true, true, true, true, true, true, true, true, true, true, true, true, true, false, false, false, false, false, false, false] rfl rfl (any_of HT_.out (by kernel_rfl)) (fun _ _ _ h => h) (Or.inl ⟨by rfl, ?_⟩) ?_ ?_
                            rotate_left
                            · intro w'
                              go_simp
                              with_reducible rfl
                            rotate_left
                            · simp only [Act.put, List.setIfInBounds_toArray, List.set_cons_zero, List.set_cons_succ, i64_w, i32_w]
                              rfl
                            refine pure_ (i := 18) (N := (some 114)) (v := undef) (a' := ?_) #[true, true, true, true, true, true, true, true, true, true, true, true, true, true, true, true, true, true, true, false, false, false, false, false, false] rfl rfl (any_of HT_.out (by kernel_rfl)) (fun _ _ _ h => h) (Or.inr ⟨by rfl, rfl⟩) ?_ ?_
                            rotate_left
                            · simp only [Act.put, List.setIfInBounds_toArray, List.set_cons_zero, List.set_cons_succ, i64_w, i32_w]
                              rfl
                            refine pure_ (i := 19) (N := (some 115)) (v := undef) (a' := ?_) #[true, true, true, true, true, true, true, true, true, true, true, true, true, true, true, true, true, true, true, true, false, false, false, false, false] rfl rfl (any_of HT_.out (by kernel_rfl)) (fun _ _ _ h => h) (Or.inr ⟨by rfl, rfl⟩) ?_ ?_
                            rotate_left
                            · simp only [Act.put, List.setIfInBounds_toArray, List.set_cons_zero, List.set_cons_succ, i64_w, i32_w]
                              rfl
                            refine pure_ (i := 20) (N := (some 116)) (v := undef) (a' := ?_) #[true, true, true, true, true, true, true, true, true, true, true, true, true, true, true, true, true, true, true, true, true, false, false, false, false] rfl rfl (any_of HT_.out (by kernel_rfl)) (fun _ _ _ h => h) (Or.inr ⟨by rfl, rfl⟩) ?_ ?_
                            rotate_left
                            · simp only [Act.put, List.setIfInBounds_toArray, List.set_cons_zero, List.set_cons_succ, i64_w, i32_w]
                              rfl
                            refine pure_ (i := 21) (N := (some 117)) (v := undef) (a' := ?_) #[true, true, true, true, true, true, true, true, true, true, true, true, true, true, true, true, true, true, true, true, true, true, false, false, false] rfl rfl (any_of HT_.out (by kernel_rfl)) (fun _ _ _ h => h) (Or.inr ⟨by rfl, rfl⟩) ?_ ?_
                            rotate_left
                            · simp only [Act.put, List.setIfInBounds_toArray, List.set_cons_zero, List.set_cons_succ, i64_w, i32_w]
                              rfl
                            refine pure_ (i := 22) (N := (some 118)) (v := undef) (a' := ?_) #[true, true, true, true, true, true, true, true, true, true, true, true, true, true, true, true, true, true, true, true, true, true, true, false, false] rfl rfl (any_of HT_.out (by kernel_rfl)) (fun _ _ _ h => h) (Or.inr ⟨by rfl, rfl⟩) ?_ ?_
                            rotate_left
                            · simp only [Act.put, List.setIfInBounds_toArray, List.set_cons_zero, List.set_cons_succ, i64_w, i32_w]
                              rfl
                            refine pure_ (i := 23) (N := (some 119)) (v := undef) (a' := ?_) #[true, true, true, true, true, true, true, true, true, true, true, true, true, true, true, true, true, true, true, true, true, true, true, true, false] rfl rfl (any_of HT_.out (by kernel_rfl)) (fun _ _ _ h => h) (Or.inr ⟨by rfl, rfl⟩) ?_ ?_
                            rotate_left
                            · simp only [Act.put, List.setIfInBounds_toArray, List.set_cons_zero, List.set_cons_succ, i64_w, i32_w]
                              rfl
                            refine pure_ (i := 24) (N := (some 120)) (v := ?_) (a' := ?_) #[true, true, true, true, true, true, true, true, true, true, true, true, true, true, true, true, true, true, true, true, true, true, true, true, true] rfl rfl (any_of HT_.out (by kernel_rfl)) (fun _ _ _ h => h) (Or.inl ⟨by rfl, ?_⟩) ?_ ?_
                            rotate_left
                            · intro w'
                              go_simp
                              with_reducible rfl
                            rotate_left
                            · simp only [Act.put, List.setIfInBounds_toArray, List.set_cons_zero, List.set_cons_succ, i64_w, i32_w]
                              rfl
                            refine done_ (done_of HT_.out (by kernel_rfl)) ?_
                            clear hHeld HT_ HW_
                            go_wp2_with fail
                            go_roundw
                            case rel => first | exact ⟨q + 1, false, al, by omega, by go_num, rfl, rfl, HNd, ⟨fun h => by cases h⟩, ⟨fun _ => ⟨rfl, HCd.out, fun p hp h1 hm => by by_cases h2 : p < q; exact HNM.out p hp h2 hm; (obtain rfl : p = q := by omega); simp [hm.2.1] at hB⟩⟩⟩ | ((repeat apply Exists.intro); exact ⟨⟨q + 1, false, al, by omega, by go_num, rfl, rfl, HNd, ⟨fun h => by cases h⟩, ⟨fun _ => ⟨rfl, HCd.out, fun p hp h1 hm => by by_cases h2 : p < q; exact HNM.out p hp h2 hm; (obtain rfl : p = q := by omega); simp [hm.2.1] at hB⟩⟩⟩, rfl⟩)
                            case measure => simp [intOf]; omega
                          · cases hC : (decide (0 < al[q].n))
                            · refine start_ (n := 25) (S := fun w' => w'.cell? ⟨ga, q * 3, none⟩ = some (.int .i64 al[q].dest) ∧ w'.cell? ⟨ga, q * 3 + 1, none⟩ = some (.int .i64 al[q].n) ∧ w'.cell? ⟨ga, q * 3 + 2, none⟩ = some (.string al[q].b) ∧ (convert 22 9 (.slice Am el.2.length cm)).run Try.prog w' = .ok (.string (strOfNums el.2)) w') (ds := []) #[false, false, false, false, false, false, false, false, false, false, false, false, false, false, false, false, false, false, false, false, false, false, false, false, false] (by kernel_rfl) rfl rfl ⟨y0, y1, y2, hcv⟩ (fun hHeld => ?_); refine with_tabW tabK18 bitsK18 (fun HT_ HW_ => ?_)
                              generalize hwd : wr.drew = Wd at HNd HCd HSet y0 y1 y2 hfz hcv hHeld ⊢
                              clear hwd
                              refine pure_ (i := 0) (N := (some 96)) (v := ?_) (a' := ?_) #[true, false, false, false, false, false, false, false, false, false, false, false, false, false, false, false, false, false, false, false, false, false, false, false, false] rfl rfl (any_of HT_.out (by kernel_rfl)) (fun _ _ _ h => h) (Or.inl ⟨by rfl, ?_⟩) ?_ ?_
                              rotate_left
                              · intro w'
                                go_simp
                                with_reducible rfl
                              rotate_left
                              · simp only [Act.put, List.setIfInBounds_toArray, List.set_cons_zero, List.set_cons_succ, i64_w, i32_w]
                                rfl
                              refine pure_ (i := 1) (N := (some 97)) (v := ?_) (a' := ?_) #[true, true, false, false, false, false, false, false, false, false, false, false, false, false, false, false, false, false, false, false, false, false, false, false, false] rfl rfl (any_of HT_.out (by kernel_rfl)) (fun _ _ _ h => h) (Or.inl ⟨by rfl, ?_⟩) ?_ ?_
                              rotate_left
                              · intro w'
                                go_simp
                                with_reducible rfl
                              rotate_left
                              · simp only [Act.put, List.setIfInBounds_toArray, List.set_cons_zero, List.set_cons_succ, i64_w, i32_w]
                                rfl
                              refine pure_ (i := 2) (N := (some 98)) (v := ?_) (a' := ?_) #[true, true, true, false, false, false, false, false, false, false, false, false, false, false, false, false, false, false, false, false, false, false, false, false, false] rfl rfl (any_of HT_.out (by kernel_rfl)) (fun _ _ _ h => h) (Or.inl ⟨by rfl, ?_⟩) ?_ ?_
                              rotate_left
                              · intro w'
                                go_simp
                                with_reducible rfl
                              rotate_left
                              · simp only [Act.put, List.setIfInBounds_toArray, List.set_cons_zero, List.set_cons_succ, i64_w, i32_w]
                                rfl
                              refine pure_ (i := 3) (N := (some 99)) (v := ?_) (a' := ?_) #[true, true, true, true, false, false, false, false, false, false, false, false, false, false, false, false, false, false, false, false, false, false, false, false, false] rfl rfl (any_of HT_.out (by kernel_rfl)) (fun _ _ _ h => h) (Or.inl ⟨by rfl, ?_⟩) ?_ ?_
                              rotate_left
                              · intro w'
                                go_simp
                                with_reducible rfl
                              rotate_left
                              · simp only [Act.put, List.setIfInBounds_toArray, List.set_cons_zero, List.set_cons_succ, i64_w, i32_w]
                                rfl
                              refine take_ (i := 4) (N := (some 100)) (v := ?_) (a' := ?_) #[true, true, true, true, true, false, false, false, false, false, false, false, false, false, false, false, false, false, false, false, false, false, false, false, false] rfl rfl (take_ofW HT_.out HW_.out (by kernel_rfl)) (fun _ _ _ h => h) (Or.inl ⟨by rfl, ?_⟩) hHeld ?_ ?_
                              rotate_left
                              · rintro w' ⟨s0, s1, s2, s3⟩
                                go_simp
                                with_reducible rfl
                              rotate_left
                              · simp only [Act.put, List.setIfInBounds_toArray, List.set_cons_zero, List.set_cons_succ, i64_w, i32_w]
                                rfl
                              refine pure_ (i := 5) (N := (some 101)) (v := ?_) (a' := ?_) #[true, true, true, true, true, true, false, false, false, false, false, false, false, false, false, false, false, false, false, false, false, false, false, false, false] rfl rfl (any_of HT_.out (by kernel_rfl)) (fun _ _ _ h => h) (Or.inl ⟨by rfl, ?_⟩) ?_ ?_
                              rotate_left
                              · intro w'
                                go_simp
                                with_reducible rfl
                              rotate_left
                              · simp only [Act.put, List.setIfInBounds_toArray, List.set_cons_zero, List.set_cons_succ, i64_w, i32_w]
                                rfl
                              refine pure_ (i := 6) (N := (some 102)) (v := ?_) (a' := ?_) #[true, true, true, true, true, true, true, false, false, false, false, false, false, false, false, false, false, false, false, false, false, false, false, false, false] rfl rfl (any_of HT_.out (by kernel_rfl)) (fun _ _ _ h => h) (Or.inl ⟨by rfl, ?_⟩) ?_ ?_
                              rotate_left
                              · intro w'
                                go_simp
                                with_reducible rfl
                              rotate_left
                              · simp only [Act.put, List.setIfInBounds_toArray, List.set_cons_zero, List.set_cons_succ, i64_w, i32_w]
                                rfl
                              refine pure_ (i := 7) (N := (some 103)) (v := ?_) (a' := ?_) #[true, true, true, true, true, true, true, true, false, false, false, false, false, false, false, false, false, false, false, false, false, false, false, false, false] rfl rfl (any_of HT_.out (by kernel_rfl)) (fun _ _ _ h => h) (Or.inl ⟨by rfl, ?_⟩) ?_ ?_
                              rotate_left
                              · intro w'
                                go_simp
                                with_reducible rfl
                              rotate_left
                              · simp only [Act.put, List.setIfInBounds_toArray, List.set_cons_zero, List.set_cons_succ, i64_w, i32_w]
                                rfl
                              refine pure_ (i := 8) (N := (some 104)) (v := ?_) (a' := ?_) #[true, true, true, true, true, true, true, true, true, false, false, false, false, false, false, false, false, false, false, false, false, false, false, false, false] rfl rfl (any_of HT_.out (by kernel_rfl)) (fun _ _ _ h => h) (Or.inl ⟨by rfl, ?_⟩) ?_ ?_
                              rotate_left
                              · intro w'
                                go_simp
                                with_reducible rfl
                              rotate_left
                              · simp only [Act.put, List.setIfInBounds_toArray, List.set_cons_zero, List.set_cons_succ, i64_w, i32_w]
                                rfl
                              refine pure_ (i := 9) (N := (some 105)) (v := ?_) (a' := ?_) #[true, true, true, true, true, true, true, true, true, true, false, false, false, false, false, false, false, false, false, false, false, false, false, false, false] rfl rfl (any_of HT_.out (by kernel_rfl)) (fun _ _ _ h => h) (Or.inl ⟨by rfl, ?_⟩) ?_ ?_
                              rotate_left
                              · intro w'
                                go_simp
                                with_reducible rfl
                              rotate_left
                              · simp only [Act.put, List.setIfInBounds_toArray, List.set_cons_zero, List.set_cons_succ, i64_w, i32_w]
                                rfl
                              refine pure_ (i := 10) (N := (some 106)) (v := ?_) (a' := ?_) #[true, true, true, true, true, true, true, true, true, true, true, false, false, false, false, false, false, false, false, false, false, false, false, false, false] rfl rfl (any_of HT_.out (by kernel_rfl)) (fun _ _ _ h => h) (Or.inl ⟨by rfl, ?_⟩) ?_ ?_
                              rotate_left
                              · intro w'
                                go_simp
                                with_reducible rfl
                              rotate_left
                              · simp only [Act.put, List.setIfInBounds_toArray, List.set_cons_zero, List.set_cons_succ, i64_w, i32_w]
                                rfl
                              refine pure_ (i := 11) (N := (some 107)) (v := ?_) (a' := ?_) #[true, true, true, true, true, true, true, true, true, true, true, true, false, false, false, false, false, false, false, false, false, false, false, false, false] rfl rfl (any_of HT_.out (by kernel_rfl)) (fun _ _ _ h => h) (Or.inl ⟨by rfl, ?_⟩) ?_ ?_
                              rotate_left
                              · intro w'
                                go_simp
                                with_reducible rfl
                              rotate_left
                              · simp only [Act.put, List.setIfInBounds_toArray, List.set_cons_zero, List.set_cons_succ, i64_w, i32_w]
                                rfl
                              refine take_ (i := 12) (N := (some 108)) (v := ?_) (a' := ?_) #[true, true, true, true, true, true, true, true, true, true, true, true, true, false, false, false, false, false, false, false, false, false, false, false, false] rfl rfl (take_ofW HT_.out HW_.out (by kernel_rfl)) (fun _ _ _ h => h) (Or.inl ⟨by rfl, ?_⟩) hHeld ?_ ?_
                              rotate_left
                              · rintro w' ⟨s0, s1, s2, s3⟩
                                go_simp
                                with_reducible rfl
                              rotate_left
                              · simp only [Act.put, List.setIfInBounds_toArray, List.set_cons_zero, List.set_cons_succ, i64_w, i32_w]
                                rfl
                              refine pure_ (i := 13) (N := (some 109)) (v := ?_) (a' := ?_) #[true, true, true, true, true, true, true, true, true, true, true, true, true, true, false, false, false, false, false, false, false, false, false, false, false] rfl rfl (any_of HT_.out (by kernel_rfl)) (fun _ _ _ h => h) (Or.inl ⟨by rfl, ?_⟩) ?_ ?_
                              rotate_left
                              · intro w'
                                go_simp
                                with_reducible rfl
                              rotate_left
                              · simp only [Act.put, List.setIfInBounds_toArray, List.set_cons_zero, List.set_cons_succ, i64_w, i32_w]
                                rfl
                              refine take_ (i := 14) (N := (some 110)) (v := ?_) (a' := ?_) #[true, true, true, true, true, true, true, true, true, true, true, true, true, true, true, false, false, false, false, false, false, false, false, false, false] rfl rfl (take_ofW HT_.out HW_.out (by kernel_rfl)) (fun _ _ _ h => h) (Or.inl ⟨by rfl, ?_⟩) hHeld ?_ ?_
                              rotate_left
                              · rintro w' ⟨s0, s1, s2, s3⟩
                                go_simp
                                with_reducible rfl
                              rotate_left
                              · simp only [Act.put, List.setIfInBounds_toArray, List.set_cons_zero, List.set_cons_succ, i64_w, i32_w]
                                rfl
                              refine pure_ (i := 15) (N := (some 111)) (v := ?_) (a' := ?_) #[true, true, true, true, true, true, true, true, true, true, true, true, true, true, true, true, false, false, false, false, false, false, false, false, false] rfl rfl (any_of HT_.out (by kernel_rfl)) (fun _ _ _ h => h) (Or.inl ⟨by rfl, ?_⟩) ?_ ?_
                              rotate_left
                              · intro w'
                                go_simp
                                with_reducible rfl
                              rotate_left
                              · simp only [Act.put, List.setIfInBounds_toArray, List.set_cons_zero, List.set_cons_succ, i64_w, i32_w]
                                rfl
                              refine pure_ (i := 16) (N := (some 112)) (v := ?_) (a' := ?_) #[true, true, true, true, true, true, true, true, true, true, true, true, true, true, true, true, true, false, false, false, false, false, false, false, false] rfl rfl (any_of HT_.out (by kernel_rfl)) (fun _ _ _ h => h) (Or.inl ⟨by rfl, ?_⟩) ?_ ?_
                              rotate_left
                              · intro w'
                                go_simp
                                with_reducible rfl
                              rotate_left
                              · simp only [Act.put, List.setIfInBounds_toArray, List.set_cons_zero, List.set_cons_succ, i64_w, i32_w]
                                rfl
                              refine pure_ (i := 17) (N := (some 113)) (v := ?_) (a' := ?_) #[true, true, true, true, true, true, true, true, true, true, true, true, true, true, true, true, true, true, false, false, false, false, false, false, false] rfl rfl (any_of HT_.out (by kernel_rfl)) (fun _ _ _ h => h) (Or.inl ⟨by rfl, ?_⟩) ?_ ?_
                              rotate_left
                              · intro w'
                                go_simp
                                with_reducible rfl
                              rotate_left
                              · simp only [Act.put, List.setIfInBounds_toArray, List.set_cons_zero, List.set_cons_succ, i64_w, i32_w]
                                rfl
                              refine pure_ (i := 18) (N := (some 114)) (v := ?_) (a' := ?_) #[true, true, true, true, true, true, true, true, true, true, true, true, true, true, true, true, true, true, true, false, false, false, false, false, false] rfl rfl (any_of HT_.out (by kernel_rfl)) (fun _ _ _ h => h) (Or.inl ⟨by rfl, ?_⟩) ?_ ?_
                              rotate_left
                              · intro w'
                                go_simp
                                with_reducible rfl
                              rotate_left
                              · simp only [Act.put, List.setIfInBounds_toArray, List.set_cons_zero, List.set_cons_succ, i64_w, i32_w]
                                rfl
                              refine pure_ (i := 19) (N := (some 115)) (v := ?_) (a' := ?_) #[true, true, true, true, true, true, true, true, true, true, true, true, true, true, true, true, true, true, true, true, false, false, false, false, false] rfl rfl (any_of HT_.out (by kernel_rfl)) (fun _ _ _ h => h) (Or.inl ⟨by rfl, ?_⟩) ?_ ?_
                              rotate_left
                              · intro w'
                                go_simp
                                with_reducible rfl
                              rotate_left
                              · simp only [Act.put, List.setIfInBounds_toArray, List.set_cons_zero, List.set_cons_succ, i64_w, i32_w]
                                rfl
                              refine pure_ (i := 20) (N := (some 116)) (v := ?_) (a' := ?_) #[true, true, true, true, true, true, true, true, true, true, true, true, true, true, true, true, true, true, true, true, true, false, false, false, false] rfl rfl (any_of HT_.out (by kernel_rfl)) (fun _ _ _ h => h) (Or.inl ⟨by rfl, ?_⟩) ?_ ?_
                              rotate_left
                              · intro w'
                                go_simp
                                with_reducible rfl
                              rotate_left
                              · simp only [Act.put, List.setIfInBounds_toArray, List.set_cons_zero, List.set_cons_succ, i64_w, i32_w]
                                rfl
                              refine pure_ (i := 21) (N := (some 117)) (v := ?_) (a' := ?_) #[true, true, true, true, true, true, true, true, true, true, true, true, true, true, true, true, true, true, true, true, true, true, false, false, false] rfl rfl (any_of HT_.out (by kernel_rfl)) (fun _ _ _ h => h) (Or.inl ⟨by rfl, ?_⟩) ?_ ?_
                              rotate_left
                              · intro w'
                                go_simp
                                with_reducible rfl
                              rotate_left
                              · simp only [Act.put, List.setIfInBounds_toArray, List.set_cons_zero, List.set_cons_succ, i64_w, i32_w]
                                rfl
                              refine take_ (i := 22) (N := (some 118)) (v := ?_) (a' := ?_) #[true, true, true, true, true, true, true, true, true, true, true, true, true, true, true, true, true, true, true, true, true, true, true, false, false] rfl rfl (take_ofW HT_.out HW_.out (by kernel_rfl)) (fun _ _ _ h => h) (Or.inl ⟨by rfl, ?_⟩) hHeld ?_ ?_
                              rotate_left
                              · rintro w' ⟨s0, s1, s2, s3⟩
                                go_simp
                                with_reducible rfl
                              rotate_left
                              · simp only [Act.put, List.setIfInBounds_toArray, List.set_cons_zero, List.set_cons_succ, i64_w, i32_w]
                                rfl
                              refine pure_ (i := 23) (N := (some 119)) (v := ?_) (a' := ?_) #[true, true, true, true, true, true, true, true, true, true, true, true, true, true, true, true, true, true, true, true, true, true, true, true, false] rfl rfl (any_of HT_.out (by kernel_rfl)) (fun _ _ _ h => h) (Or.inl ⟨by rfl, ?_⟩) ?_ ?_
                              rotate_left
                              · intro w'
                                go_simp
                                with_reducible rfl
                              rotate_left
                              · simp only [Act.put, List.setIfInBounds_toArray, List.set_cons_zero, List.set_cons_succ, i64_w, i32_w]
                                rfl
                              refine pure_ (i := 24) (N := (some 120)) (v := ?_) (a' := ?_) #[true, true, true, true, true, true, true, true, true, true, true, true, true, true, true, true, true, true, true, true, true, true, true, true, true] rfl rfl (any_of HT_.out (by kernel_rfl)) (fun _ _ _ h => h) (Or.inl ⟨by rfl, ?_⟩) ?_ ?_
                              rotate_left
                              · intro w'
                                go_simp
                                with_reducible rfl
                              rotate_left
                              · simp only [Act.put, List.setIfInBounds_toArray, List.set_cons_zero, List.set_cons_succ, i64_w, i32_w]
                                rfl
                              refine done_ (done_of HT_.out (by kernel_rfl)) ?_
                              clear hHeld HT_ HW_
                              go_wp2_with fail
                              go_roundw
                              case rel => first | exact ⟨q + 1, false, al, by omega, by go_num, rfl, rfl, HNd, ⟨fun h => by cases h⟩, ⟨fun _ => ⟨rfl, HCd.out, fun p hp h1 hm => by by_cases h2 : p < q; exact HNM.out p hp h2 hm; (obtain rfl : p = q := by omega); have h9 := hm.2.2; have h8 := hfl.out; rw [decide_eq_false_iff_not] at hC; omega⟩⟩⟩ | ((repeat apply Exists.intro); exact ⟨⟨q + 1, false, al, by omega, by go_num, rfl, rfl, HNd, ⟨fun h => by cases h⟩, ⟨fun _ => ⟨rfl, HCd.out, fun p hp h1 hm => by by_cases h2 : p < q; exact HNM.out p hp h2 hm; (obtain rfl : p = q := by omega); have h9 := hm.2.2; have h8 := hfl.out; rw [decide_eq_false_iff_not] at hC; omega⟩⟩⟩, rfl⟩)
                              case measure => simp [intOf]; omega
                            · have HIn := Aside0.mk (HTa.out q hq1 ⟨by simpa using hA, toList_inj (by simpa using hB), by rw [decide_eq_true_eq] at hC; omega⟩)
                              refine start_ (n := 25) (S := fun w' => w'.cell? ⟨ga, q * 3, none⟩ = some (.int .i64 al[q].dest) ∧ w'.cell? ⟨ga, q * 3 + 1, none⟩ = some (.int .i64 al[q].n) ∧ w'.cell? ⟨ga, q * 3 + 2, none⟩ = some (.string al[q].b) ∧ (convert 22 9 (.slice Am el.2.length cm)).run Try.prog w' = .ok (.string (strOfNums el.2)) w') (ds := []) #[false, false, false, false, false, false, false, false, false, false, false, false, false, false, false, false, false, false, false, false, false, false, false, false, false] (by kernel_rfl) rfl rfl ⟨y0, y1, y2, hcv⟩ (fun hHeld => ?_); refine with_tabW tabK18 bitsK18 (fun HT_ HW_ => ?_)
                              generalize hwd : wr.drew = Wd at HNd HCd HSet y0 y1 y2 hfz hcv hHeld ⊢
                              clear hwd
                              refine pure_ (i := 0) (N := (some 96)) (v := ?_) (a' := ?_) #[true, false, false, false, false, false, false, false, false, false, false, false, false, false, false, false, false, false, false, false, false, false, false, false, false] rfl rfl (any_of HT_.out (by kernel_rfl)) (fun _ _ _ h => h) (Or.inl ⟨by rfl, ?_⟩) ?_ ?_
                              rotate_left
                              · intro w'
                                go_simp
                                with_reducible rfl
                              rotate_left
                              · simp only [Act.put, List.setIfInBounds_toArray, List.set_cons_zero, List.set_cons_succ, i64_w, i32_w]
                                rfl
                              refine pure_ (i := 1) (N := (some 97)) (v := ?_) (a' := ?_) #[true, true, false, false, false, false, false, false, false, false, false, false, false, false, false, false, false, false, false, false, false, false, false, false, false] rfl rfl (any_of HT_.out (by kernel_rfl)) (fun _ _ _ h => h) (Or.inl ⟨by rfl, ?_⟩) ?_ ?_
                              rotate_left
                              · intro w'
                                go_simp
                                with_reducible rfl
                              rotate_left
                              · simp only [Act.put, List.setIfInBounds_toArray, List.set_cons_zero, List.set_cons_succ, i64_w, i32_w]
                                rfl
                              refine pure_ (i := 2) (N := (some 98)) (v := ?_) (a' := ?_) #[true, true, true, false, false, false, false, false, false, false, false, false, false, false, false, false, false, false, false, false, false, false, false, false, false] rfl rfl (any_of HT_.out (by kernel_rfl)) (fun _ _ _ h => h) (Or.inl ⟨by rfl, ?_⟩) ?_ ?_
                              rotate_left
                              · intro w'
                                go_simp
                                with_reducible rfl
                              rotate_left
                              · simp only [Act.put, List.setIfInBounds_toArray, List.set_cons_zero, List.set_cons_succ, i64_w, i32_w]
                                rfl
                              refine pure_ (i := 3) (N := (some 99)) (v := ?_) (a' := ?_) #[true, true, true, true, false, false, false, false, false, false, false, false, false, false, false, false, false, false, false, false, false, false, false, false, false] rfl rfl (any_of HT_.out (by kernel_rfl)) (fun _ _ _ h => h) (Or.inl ⟨by rfl, ?_⟩) ?_ ?_
                              rotate_left
                              · intro w'
                                go_simp
                                with_reducible rfl
                              rotate_left
                              · simp only [Act.put, List.setIfInBounds_toArray, List.set_cons_zero, List.set_cons_succ, i64_w, i32_w]
                                rfl
                              refine take_ (i := 4) (N := (some 100)) (v := ?_) (a' := ?_) #[true, true, true, true, true, false, false, false, false, false, false, false, false, false, false, false, false, false, false, false, false, false, false, false, false] rfl rfl (take_ofW HT_.out HW_.out (by kernel_rfl)) (fun _ _ _ h => h) (Or.inl ⟨by rfl, ?_⟩) hHeld ?_ ?_
                              rotate_left
                              · rintro w' ⟨s0, s1, s2, s3⟩
                                go_simp
                                with_reducible rfl
                              rotate_left
                              · simp only [Act.put, List.setIfInBounds_toArray, List.set_cons_zero, List.set_cons_succ, i64_w, i32_w]
                                rfl
                              refine pure_ (i := 5) (N := (some 101)) (v := ?_) (a' := ?_) #[true, true, true, true, true, true, false, false, false, false, false, false, false, false, false, false, false, false, false, false, false, false, false, false, false] rfl rfl (any_of HT_.out (by kernel_rfl)) (fun _ _ _ h => h) (Or.inl ⟨by rfl, ?_⟩) ?_ ?_
                              rotate_left
                              · intro w'
                                go_simp
                                with_reducible rfl
                              rotate_left
                              · simp only [Act.put, List.setIfInBounds_toArray, List.set_cons_zero, List.set_cons_succ, i64_w, i32_w]
                                rfl
                              refine pure_ (i := 6) (N := (some 102)) (v := ?_) (a' := ?_) #[true, true, true, true, true, true, true, false, false, false, false, false, false, false, false, false, false, false, false, false, false, false, false, false, false] rfl rfl (any_of HT_.out (by kernel_rfl)) (fun _ _ _ h => h) (Or.inl ⟨by rfl, ?_⟩) ?_ ?_
                              rotate_left
                              · intro w'
                                go_simp
                                with_reducible rfl
                              rotate_left
                              · simp only [Act.put, List.setIfInBounds_toArray, List.set_cons_zero, List.set_cons_succ, i64_w, i32_w]
                                rfl
                              refine pure_ (i := 7) (N := (some 103)) (v := ?_) (a' := ?_) #[true, true, true, true, true, true, true, true, false, false, false, false, false, false, false, false, false, false, false, false, false, false, false, false, false] rfl rfl (any_of HT_.out (by kernel_rfl)) (fun _ _ _ h => h) (Or.inl ⟨by rfl, ?_⟩) ?_ ?_
                              rotate_left
                              · intro w'
                                go_simp
                                with_reducible rfl
                              rotate_left
                              · simp only [Act.put, List.setIfInBounds_toArray, List.set_cons_zero, List.set_cons_succ, i64_w, i32_w]
                                rfl
                              refine pure_ (i := 8) (N := (some 104)) (v := ?_) (a' := ?_) #[true, true, true, true, true, true, true, true, true, false, false, false, false, false, false, false, false, false, false, false, false, false, false, false, false] rfl rfl (any_of HT_.out (by kernel_rfl)) (fun _ _ _ h => h) (Or.inl ⟨by rfl, ?_⟩) ?_ ?_
                              rotate_left
                              · intro w'
                                go_simp
                                with_reducible rfl
                              rotate_left
                              · simp only [Act.put, List.setIfInBounds_toArray, List.set_cons_zero, List.set_cons_succ, i64_w, i32_w]
                                rfl
                              refine pure_ (i := 9) (N := (some 105)) (v := ?_) (a' := ?_) #[true, true, true, true, true, true, true, true, true, true, false, false, false, false, false, false, false, false, false, false, false, false, false, false, false] rfl rfl (any_of HT_.out (by kernel_rfl)) (fun _ _ _ h => h) (Or.inl ⟨by rfl, ?_⟩) ?_ ?_
                              rotate_left
                              · intro w'
                                go_simp
                                with_reducible rfl
                              rotate_left
                              · simp only [Act.put, List.setIfInBounds_toArray, List.set_cons_zero, List.set_cons_succ, i64_w, i32_w]
                                rfl
                              refine pure_ (i := 10) (N := (some 106)) (v := ?_) (a' := ?_) #[true, true, true, true, true, true, true, true, true, true, true, false, false, false, false, false, false, false, false, false, false, false, false, false, false] rfl rfl (any_of HT_.out (by kernel_rfl)) (fun _ _ _ h => h) (Or.inl ⟨by rfl, ?_⟩) ?_ ?_
                              rotate_left
                              · intro w'
                                go_simp
                                with_reducible rfl
                              rotate_left
                              · simp only [Act.put, List.setIfInBounds_toArray, List.set_cons_zero, List.set_cons_succ, i64_w, i32_w]
                                rfl
                              refine pure_ (i := 11) (N := (some 107)) (v := ?_) (a' := ?_) #[true, true, true, true, true, true, true, true, true, true, true, true, false, false, false, false, false, false, false, false, false, false, false, false, false] rfl rfl (any_of HT_.out (by kernel_rfl)) (fun _ _ _ h => h) (Or.inl ⟨by rfl, ?_⟩) ?_ ?_
                              rotate_left
                              · intro w'
                                go_simp
                                with_reducible rfl
                              rotate_left
                              · simp only [Act.put, List.setIfInBounds_toArray, List.set_cons_zero, List.set_cons_succ, i64_w, i32_w]
                                rfl
                              refine take_ (i := 12) (N := (some 108)) (v := ?_) (a' := ?_) #[true, true, true, true, true, true, true, true, true, true, true, true, true, false, false, false, false, false, false, false, false, false, false, false, false] rfl rfl (take_ofW HT_.out HW_.out (by kernel_rfl)) (fun _ _ _ h => h) (Or.inl ⟨by rfl, ?_⟩) hHeld ?_ ?_
                              rotate_left
                              · rintro w' ⟨s0, s1, s2, s3⟩
                                go_simp
                                with_reducible rfl
                              rotate_left
                              · simp only [Act.put, List.setIfInBounds_toArray, List.set_cons_zero, List.set_cons_succ, i64_w, i32_w]
                                rfl
                              refine pure_ (i := 13) (N := (some 109)) (v := ?_) (a' := ?_) #[true, true, true, true, true, true, true, true, true, true, true, true, true, true, false, false, false, false, false, false, false, false, false, false, false] rfl rfl (any_of HT_.out (by kernel_rfl)) (fun _ _ _ h => h) (Or.inl ⟨by rfl, ?_⟩) ?_ ?_
                              rotate_left
                              · intro w'
                                go_simp
                                with_reducible rfl
                              rotate_left
                              · simp only [Act.put, List.setIfInBounds_toArray, List.set_cons_zero, List.set_cons_succ, i64_w, i32_w]
                                rfl
                              refine take_ (i := 14) (N := (some 110)) (v := ?_) (a' := ?_) #[true, true, true, true, true, true, true, true, true, true, true, true, true, true, true, false, false, false, false, false, false, false, false, false, false] rfl rfl (take_ofW HT_.out HW_.out (by kernel_rfl)) (fun _ _ _ h => h) (Or.inl ⟨by rfl, ?_⟩) hHeld ?_ ?_
                              rotate_left
                              · rintro w' ⟨s0, s1, s2, s3⟩
                                go_simp
                                with_reducible rfl
                              rotate_left
                              · simp only [Act.put, List.setIfInBounds_toArray, List.set_cons_zero, List.set_cons_succ, i64_w, i32_w]
                                rfl
                              refine pure_ (i := 15) (N := (some 111)) (v := ?_) (a' := ?_) #[true, true, true, true, true, true, true, true, true, true, true, true, true, true, true, true, false, false, false, false, false, false, false, false, false] rfl rfl (any_of HT_.out (by kernel_rfl)) (fun _ _ _ h => h) (Or.inl ⟨by rfl, ?_⟩) ?_ ?_
                              rotate_left
                              · intro w'
                                go_simp
                                with_reducible rfl
                              rotate_left
                              · simp only [Act.put, List.setIfInBounds_toArray, List.set_cons_zero, List.set_cons_succ, i64_w, i32_w]
                                rfl
                              refine pure_ (i := 16) (N := (some 112)) (v := ?_) (a' := ?_) #[true, true, true, true, true, true, true, true, true, true, true, true, true, true, true, true, true, false, false, false, false, false, false, false, false] rfl rfl (any_of HT_.out (by kernel_rfl)) (fun _ _ _ h => h) (Or.inl ⟨by rfl, ?_⟩) ?_ ?_
                              rotate_left
                              · intro w'
                                go_simp
                                with_reducible rfl
                              rotate_left
                              · simp only [Act.put, List.setIfInBounds_toArray, List.set_cons_zero, List.set_cons_succ, i64_w, i32_w]
                                rfl
                              refine pure_ (i := 17) (N := (some 113)) (v := ?_) (a' := ?_) #[true, true, true, true, true, true, true, true, true, true, true, true, true, true, true, true, true, true, false, false, false, false, false, false, false] rfl rfl (any_of HT_.out (by kernel_rfl)) (fun _ _ _ h => h) (Or.inl ⟨by rfl, ?_⟩) ?_ ?_
                              rotate_left
                              · intro w'
                                go_simp
                                with_reducible rfl
                              rotate_left
                              · simp only [Act.put, List.setIfInBounds_toArray, List.set_cons_zero, List.set_cons_succ, i64_w, i32_w]
                                rfl
                              refine pure_ (i := 18) (N := (some 114)) (v := ?_) (a' := ?_) #[true, true, true, true, true, true, true, true, true, true, true, true, true, true, true, true, true, true, true, false, false, false, false, false, false] rfl rfl (any_of HT_.out (by kernel_rfl)) (fun _ _ _ h => h) (Or.inl ⟨by rfl, ?_⟩) ?_ ?_
                              rotate_left
                              · intro w'
                                go_simp
                                with_reducible rfl
                              rotate_left
                              · simp only [Act.put, List.setIfInBounds_toArray, List.set_cons_zero, List.set_cons_succ, i64_w, i32_w]
                                rfl
                              refine pure_ (i := 19) (N := (some 115)) (v := ?_) (a' := ?_) #[true, true, true, true, true, true, true, true, true, true, true, true, true, true, true, true, true, true, true, true, false, false, false, false, false] rfl rfl (any_of HT_.out (by kernel_rfl)) (fun _ _ _ h => h) (Or.inl ⟨by rfl, ?_⟩) ?_ ?_
                              rotate_left
                              · intro w'
                                go_simp
                                with_reducible rfl
                              rotate_left
                              · simp only [Act.put, List.setIfInBounds_toArray, List.set_cons_zero, List.set_cons_succ, i64_w, i32_w]
                                rfl
                              refine pure_ (i := 20) (N := (some 116)) (v := ?_) (a' := ?_) #[true, true, true, true, true, true, true, true, true, true, true, true, true, true, true, true, true, true, true, true, true, false, false, false, false] rfl rfl (any_of HT_.out (by kernel_rfl)) (fun _ _ _ h => h) (Or.inl ⟨by rfl, ?_⟩) ?_ ?_
                              rotate_left
                              · intro w'
                                go_simp
                                with_reducible rfl
                              rotate_left
                              · simp only [Act.put, List.setIfInBounds_toArray, List.set_cons_zero, List.set_cons_succ, i64_w, i32_w]
                                rfl
                              refine pure_ (i := 21) (N := (some 117)) (v := ?_) (a' := ?_) #[true, true, true, true, true, true, true, true, true, true, true, true, true, true, true, true, true, true, true, true, true, true, false, false, false] rfl rfl (any_of HT_.out (by kernel_rfl)) (fun _ _ _ h => h) (Or.inl ⟨by rfl, ?_⟩) ?_ ?_
                              rotate_left
                              · intro w'
                                go_simp
                                with_reducible rfl
                              rotate_left
                              · simp only [Act.put, List.setIfInBounds_toArray, List.set_cons_zero, List.set_cons_succ, i64_w, i32_w]
                                rfl
                              refine take_ (i := 22) (N := (some 118)) (v := ?_) (a' := ?_) #[true, true, true, true, true, true, true, true, true, true, true, true, true, true, true, true, true, true, true, true, true, true, true, false, false] rfl rfl (take_ofW HT_.out HW_.out (by kernel_rfl)) (fun _ _ _ h => h) (Or.inl ⟨by rfl, ?_⟩) hHeld ?_ ?_
                              rotate_left
                              · rintro w' ⟨s0, s1, s2, s3⟩
                                go_simp
                                with_reducible rfl
                              rotate_left
                              · simp only [Act.put, List.setIfInBounds_toArray, List.set_cons_zero, List.set_cons_succ, i64_w, i32_w]
                                rfl
                              refine pure_ (i := 23) (N := (some 119)) (v := ?_) (a' := ?_) #[true, true, true, true, true, true, true, true, true, true, true, true, true, true, true, true, true, true, true, true, true, true, true, true, false] rfl rfl (any_of HT_.out (by kernel_rfl)) (fun _ _ _ h => h) (Or.inl ⟨by rfl, ?_⟩) ?_ ?_
                              rotate_left
                              · intro w'
                                go_simp
                                with_reducible rfl
                              rotate_left
                              · simp only [Act.put, List.setIfInBounds_toArray, List.set_cons_zero, List.set_cons_succ, i64_w, i32_w]
                                rfl
                              refine pure_ (i := 24) (N := (some 120)) (v := ?_) (a' := ?_) #[true, true, true, true, true, true, true, true, true, true, true, true, true, true, true, true, true, true, true, true, true, true, true, true, true] rfl rfl (any_of HT_.out (by kernel_rfl)) (fun _ _ _ h => h) (Or.inl ⟨by rfl, ?_⟩) ?_ ?_
                              rotate_left
                              · intro w'
                                go_simp
                                with_reducible rfl
                              rotate_left
                              · simp only [Act.put, List.setIfInBounds_toArray, List.set_cons_zero, List.set_cons_succ, i64_w, i32_w]
                                rfl
                              refine done_ (done_of HT_.out (by kernel_rfl)) ?_
                              clear hHeld HT_ HW_
                              go_wp2_with fail
                              go_roundw
                              case rel => first | exact ⟨q + 1, true, al.set q ⟨al[q].dest, 0, al[q].b⟩, by omega, by go_num, rfl, by simp, HSet, ⟨fun _ => HIn.out⟩, ⟨fun h => by cases h⟩⟩ | ((repeat apply Exists.intro); exact ⟨⟨q + 1, true, al.set q ⟨al[q].dest, 0, al[q].b⟩, by omega, by go_num, rfl, by simp, HSet, ⟨fun _ => HIn.out⟩, ⟨fun h => by cases h⟩⟩, rfl⟩)
                              case measure => simp [intOf]; omega
                      · obtain ⟨p, hp, hm⟩ := HFi.out
                        exact absurd hm (HNM.out p hp (by omega))
                    · have HI2 := Aside0.mk (HIv.out rfl)
                      have hal3 : al'.length ≤ j + 1 := by omega
                      clear HIv HF2 hl'
                      rcases Nat.lt_or_ge q al.length with hq1 | hq1
                      · have hd : decide ((q : Int) < ((al.length : Nat) : Int)) = true := by rw [decide_eq_true_eq]; omega
                        go_wp2_with fail
                        have HWm := Aside0.mk (show lu.length ≤ sumL (ops.take (j + 1)) from HWl.out)
                        have HWa := Aside0.mk (show (la2).length ≤ j + 1 from hlenN)
                        have HWb := Aside0.mk (show (al').length ≤ j + 1 from hal3)
                        go_wp2_with fail
                        go_meet
                        exact ⟨lu, la2, al', HN, HI2, HWm, HWa, HWb, HM2⟩
                      · have hd : decide ((q : Int) < ((al.length : Nat) : Int)) = false := by rw [decide_eq_false_iff_not]; omega
                        go_wp2_with fail
                        have HWm := Aside0.mk (show lu.length ≤ sumL (ops.take (j + 1)) from HWl.out)
                        have HWa := Aside0.mk (show (la2).length ≤ j + 1 from hlenN)
                        have HWb := Aside0.mk (show (al').length ≤ j + 1 from hal3)
                        go_wp2_with fail
                        go_meet
                        exact ⟨lu, la2, al', HN, HI2, HWm, HWa, HWb, HM2⟩
                · have hk2 : nn < 0 ∨ la.length ≤ nn := by omega
                  have HK2 := Aside0.mk hk2
                  rcases hk2 with hk3 | hk3
                  · have hd0 : decide ((0 : Int) ≤ nn) = false := by rw [decide_eq_false_iff_not]; omega
                    go_wp2_with fail
                    refine (late_s HAB.out.ns).mono ?_
                    rintro e w3 ⟨rfl, rfl⟩
                    go_wp2_with fail
                    refine (take_n_no HAB.out nn HK2.out).mono ?_
                    rintro e w4 ⟨rfl, hna⟩
                    have HN6 := Aside0.mk hna
                    have b1 : w4.cell? ⟨wz.heap.size, 1, none⟩ = some (.int .i64 nn) := (blk_cell HN6.out.inbox 1).trans rfl
                    clear hna
                    go_wp2_with fail
                    refine (late_s HN6.out.ns).mono ?_
                    rintro e w5 ⟨rfl, rfl⟩
                    obtain ⟨G0, hR0, _⟩ := HN6.out.open_
                    obtain ⟨AV0, cV0, hAV⟩ := Kd.R_slice hR0
                    subst hAV
                    clear hR0
                    go_wp2_with fail
                    go_loopw [17, 18] (fun u17 u18 wr2 => u17 = .bool true ∧ u18 = .int .i64 (0 : Nat) ∧ Aside0 (NA w wr2 w.heap.size lu la (.slice AV0 al.length cV0) al (some (wz.heap.size, .cells #[.int .i64 ki, .int .i64 nn, .slice A1 bb.length c1, .slice A2 ll.length c2] 35 (0, 0))))) (fun u17 u18 wr2 => 0)
                    case atStart => exact ⟨rfl, rfl, HN6⟩
                    case round =>
                      obtain ⟨rfl, rfl, HN⟩ := hrel
                      by_cases hz : 0 < al.length
                      · have hd : decide ((0 : Int) < ((al.length : Nat) : Int)) = true := by rw [decide_eq_true_eq]; omega
                        go_wp2_with fail
                        have HWm := Aside0.mk (show lu.length ≤ sumL (ops.take (j + 1)) from HWl.out)
                        have HWa := Aside0.mk (show (la).length ≤ j + 1 from by omega)
                        have HWb := Aside0.mk (show (al).length ≤ j + 1 from by omega)
                        go_wp2_with fail
                        go_meet
                        exact ⟨lu, la, al, HN, HI, HWm, HWa, HWb, HM⟩
                      · have hd : decide ((0 : Int) < ((al.length : Nat) : Int)) = false := by rw [decide_eq_false_iff_not]; omega
                        go_wp2_with fail
                        have HWm := Aside0.mk (show lu.length ≤ sumL (ops.take (j + 1)) from HWl.out)
                        have HWa := Aside0.mk (show (la).length ≤ j + 1 from by omega)
                        have HWb := Aside0.mk (show (al).length ≤ j + 1 from by omega)
                        go_wp2_with fail
                        go_meet
                        exact ⟨lu, la, al, HN, HI, HWm, HWa, HWb, HM⟩
                  · have hd0 : decide ((0 : Int) ≤ nn) = true := by rw [decide_eq_true_eq]; omega
                    have hd1 : decide (nn < (la.length : Int)) = false := by rw [decide_eq_false_iff_not]; omega
                    go_wp2_with fail
                    refine (late_s HAB.out.ns).mono ?_
                    rintro e w3 ⟨rfl, rfl⟩
                    go_wp2_with fail
                    refine (take_n_no HAB.out nn HK2.out).mono ?_
                    rintro e w4 ⟨rfl, hna⟩
                    have HN6 := Aside0.mk hna
                    have b1 : w4.cell? ⟨wz.heap.size, 1, none⟩ = some (.int .i64 nn) := (blk_cell HN6.out.inbox 1).trans rfl
                    clear hna
                    go_wp2_with fail
                    refine (late_s HN6.out.ns).mono ?_
                    rintro e w5 ⟨rfl, rfl⟩
                    obtain ⟨G0, hR0, _⟩ := HN6.out.open_
                    obtain ⟨AV0, cV0, hAV⟩ := Kd.R_slice hR0
                    subst hAV
                    clear hR0
                    go_wp2_with fail
                    go_loopw [17, 18] (fun u17 u18 wr2 => u17 = .bool true ∧ u18 = .int .i64 (0 : Nat) ∧ Aside0 (NA w wr2 w.heap.size lu la (.slice AV0 al.length cV0) al (some (wz.heap.size, .cells #[.int .i64 ki, .int .i64 nn, .slice A1 bb.length c1, .slice A2 ll.length c2] 35 (0, 0))))) (fun u17 u18 wr2 => 0)
                    case atStart => exact ⟨rfl, rfl, HN6⟩
                    case round =>
                      obtain ⟨rfl, rfl, HN⟩ := hrel
                      by_cases hz : 0 < al.length
                      · have hd : decide ((0 : Int) < ((al.length : Nat) : Int)) = true := by rw [decide_eq_true_eq]; omega
                        go_wp2_with fail
                        have HWm := Aside0.mk (show lu.length ≤ sumL (ops.take (j + 1)) from HWl.out)
                        have HWa := Aside0.mk (show (la).length ≤ j + 1 from by omega)
                        have HWb := Aside0.mk (show (al).length ≤ j + 1 from by omega)
                        go_wp2_with fail
                        go_meet
                        exact ⟨lu, la, al, HN, HI, HWm, HWa, HWb, HM⟩
                      · have hd : decide ((0 : Int) < ((al.length : Nat) : Int)) = false := by rw [decide_eq_false_iff_not]; omega
                        go_wp2_with fail
                        have HWm := Aside0.mk (show lu.length ≤ sumL (ops.take (j + 1)) from HWl.out)
                        have HWa := Aside0.mk (show (la).length ≤ j + 1 from by omega)
                        have HWb := Aside0.mk (show (al).length ≤ j + 1 from by omega)
                        go_wp2_with fail
                        go_meet
                        exact ⟨lu, la, al, HN, HI, HWm, HWa, HWb, HM⟩
      case rest =>
        clear HA HI hlu hla hal HM
        obtain ⟨lu2, la2, al2, HN, HI2, hlu2, hla2, hal2, HM2⟩ := hcut
        have hal3 := hal2.out
        have hla3 := hla2.out
        obtain ⟨G0, hR0, _⟩ := HN.out.open_
        obtain ⟨AV, cV, hAV⟩ := Kd.R_slice hR0
        subst hAV
        have HLen := Aside0.mk HI2.out.len
        have HW := Aside0.mk (show lu2.length ≤ sumL (ops.take (j + 1)) from hlu2.out)
        clear hR0
        go_wp2_with fail
        go_loopw [19, 20, 21, 22, 23] (fun u19 u20 u21 u22 u23 wr2 => ∃ q : Nat, q ≤ (al2).length ∧ u20 = .int .i64 q ∧ u19 = .int .i64 ((act ((al2).take q)).length : Nat) ∧ Aside0 (NA w wr2 w.heap.size (lu2) (la2) (.slice AV (al2).length cV) (al2) (some (wz.heap.size, .cells #[.int .i64 ki, .int .i64 nn, .slice A1 bb.length c1, .slice A2 ll.length c2] 35 (0, 0))))) (fun u19 u20 u21 u22 u23 wr2 => (al2).length - (intOf u20).toNat)
        case atStart => exact ⟨0, by omega, rfl, by simp [act], ⟨HN.out⟩⟩
        case round =>
          obtain ⟨q, hq, rfl, rfl, HA2⟩ := hrel
          clear HN
          by_cases hq1 : q < (al2).length
          · have hd : decide ((q : Int) < (((al2).length : Nat) : Int)) = true := by rw [decide_eq_true_eq]; omega
            obtain ⟨ga, capa, hV, _, y1, _, _, _⟩ := HA2.out.elem q hq1
            injection hV with e1 _ e2
            subst e1 e2
            have hat := act_take (al2) q hq1
            by_cases hn0 : (al2)[q].n = 0
            · have hb0 : ((al2)[q].n == 0) = true := by simpa using hn0
              rw [if_pos hn0] at hat
              have HAT := Aside0.mk hat
              rw [hn0] at y1
              clear hat hn0 hb0
              go_wp2_with fail
              go_roundw
              case rel => first | exact ⟨q + 1, by omega, by go_num, by rw [HAT.out]; rfl, HA2⟩ | ((repeat apply Exists.intro); exact ⟨⟨q + 1, by omega, by go_num, by rw [HAT.out]; rfl, HA2⟩, rfl⟩)
              case measure => simp [intOf]; omega
            · have hb0 : ((al2)[q].n == 0) = false := by simpa using hn0
              have hlt2 := act_lt (al2) q hq1 hn0
              rw [if_neg hn0] at hat
              have HAT := Aside0.mk hat
              rw [HLen.out] at hlt2
              clear hat hn0
              generalize (al2)[q].n = nq at y1 hb0
              go_wp2_with fail
              refine (msg_s HA2.out.ns (act ((al2).take q)).length hlt2 (HM2.out _ (getD_mem hlt2))).mono ?_
              rintro e w9 ⟨Am, cm, rfl, _, hb9⟩
              have HA3 := Aside0.mk (HA2.out.below hb9)
              clear hb9 HA2 y1
              go_wp2_with fail
              go_roundw
              case rel => first | exact ⟨q + 1, by omega, by go_num, by rw [HAT.out]; go_num, HA3⟩ | ((repeat apply Exists.intro); exact ⟨⟨q + 1, by omega, by go_num, by rw [HAT.out]; go_num, HA3⟩, rfl⟩)
              case measure => simp [intOf]; omega
          · have hd : decide ((q : Int) < (((al2).length : Nat) : Int)) = false := by rw [decide_eq_false_iff_not]; omega
            obtain rfl : q = (al2).length := by omega
            have hcnt : (act ((al2).take (al2).length)).length = (la2).length := by rw [List.take_length]; exact HLen.out
            rw [hcnt]
            clear hcnt
            go_wp2_with fail
            refine (late_s HA2.out.ns).mono ?_
            rintro e w9 ⟨rfl, rfl⟩
            go_wp2_with fail
            go_roundw
            case rel => exact ⟨j + 1, lu2, la2, al2, by omega, by go_num, ⟨HA2.out.unbox⟩, HI2, HW.out, hla2.out, hal2.out, HM2⟩
            case measure => simp [intOf]; omega
    · have hl1 : decide ((j : Int) < (ops.length : Int)) = false := by rw [decide_eq_false_iff_not]; omega
      go_wp2_with fail
      go_ret
      exact ⟨rfl, HA.out.bel⟩
end Go.Proofs.Ytckeahjlfopaaaa.Hand
