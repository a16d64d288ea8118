/- ChainOnce's walk. -/
import Derived.Test.YtpcoelimabojcaaHC14
import Derived.Test.YtpcoelimabojcaaHC20
import Derived.Test.YtpcoelimabojcaaHC21
namespace Go.Proofs.Ytpcoelimabojcaa.Hand
open Go.RowKit Go.Proofs.Ytpcoelimabojcaa Go.Proofs.YtpcoelimabojcaaW.PrintWords Go.Proofs.YtpcoelimabojcaaW.PrintLast
set_option linter.unusedVariables false
set_option linter.unusedSimpArgs false
def TO3 : Bool × List (List Nat × List Nat) := (true, [([], []), ([], []), ([], []), ([], []), ([], []), ([4], [4]), ([0, 1, 2, 3, 5, 5], [0, 1, 2, 3, 5]), ([6], [6]), ([7], [7]), ([7], [7]), ([], []), ([10, 8, 6, 0, 1, 2, 3, 4, 5, 6, 7, 8, 10], [8, 10]), ([9, 11, 0, 1, 2, 3, 4, 5, 6, 7, 8, 9, 10, 11], [9])])
def BO3 : List Nat := [0, 0, 0, 0, 0, 16, 63, 127, 255, 255, 0, 1535, 4095]
theorem tabO3 : rtab .any (opsOf Try.f6 3) = TO3 := by kernel_rfl
theorem bitsO3 : waitsOk TO3.2 BO3 = true := by kernel_rfl
/-- What ChainOnce keeps of the chain and the config. -/
structure OnceI (W : World) (ow tr id : Int) (A1 B : Option Addr) (c1 c2 : Nat) (ps : List PartV) (nl : List Int) (gx : Nat) (w : World) : Prop where
  below : Below W.heap.size W w
  cfg : w.heap[W.heap.size + 1]? = some (.cells #[.int .i64 id, .slice B nl.length c2] 45 (0, 0))
  x : w.heap[gx]? = some (.cells #[.int .i64 ow, .int .i64 tr, .slice A1 ps.length c1] 27 (0, 0))
  row : Kd.C k53 w A1 ps.length ps
  nodes : Kd.C (Kd.int .i64) w B nl.length nl
theorem OnceI.move {W w w1 : World} {ow tr id : Int} {A1 B : Option Addr} {c1 c2 gx : Nat} {ps : List PartV} {nl : List Int} (h : OnceI W ow tr id A1 B c1 c2 ps nl gx w) (hb : Below w.heap.size w w1) : OnceI W ow tr id A1 B c1 c2 ps nl gx w1 :=
  ⟨below_step h.below hb, blk_below h.cfg hb, blk_below h.x hb, Kd.C_below h.row hb, Kd.C_below h.nodes hb⟩
/-- What Extend handed back. -/
def ExtV (ow tr n owner en : Int) (ps : List PartV) (nx : PartV) (y : Value) (ev : Int) (w : World) : Prop :=
  ev = extErr ow tr ps n owner en nx ∧ ((ev ≠ 0 ∧ y = .agg #[.int .i64 0, .int .i64 0, .slice none 0 0]) ∨
  (ev = 0 ∧ ∃ A c, y = .agg #[.int .i64 owner, .int .i64 tr, .slice A (extParts tr ps en nx).length c] ∧ Kd.R k53 53 w 0 (fun _ => True) (.slice A (extParts tr ps en nx).length c) (extParts tr ps en nx)))
theorem ExtV.move {ow tr n owner en : Int} {ps : List PartV} {nx : PartV} {y : Value} {ev : Int} {w w1 : World} (h : ExtV ow tr n owner en ps nx y ev w) (hb : Below w.heap.size w w1) : ExtV ow tr n owner en ps nx y ev w1 := by
  obtain ⟨h0, h | ⟨h, A, c, h1, h2⟩⟩ := h
  · exact ⟨h0, .inl h⟩
  · exact ⟨h0, .inr ⟨h, A, c, h1, Kd.R_below h2 hb⟩⟩
theorem extV_of {ow tr n owner en : Int} {ps : List PartV} {nx : PartV} {W w : World} {e : Ending} (h : ExtP ow tr ps n owner en nx W e w) : ∃ y ev, e = .returned (.tuple #[y, .int .i64 ev]) ∧ ExtV ow tr n owner en ps nx y ev w ∧ Below W.heap.size W w := by
  obtain ⟨hb, ⟨h1, h2⟩ | ⟨h1, A, c, h2, h3⟩⟩ := h
  · exact ⟨_, _, h2, ⟨rfl, .inl ⟨h1, rfl⟩⟩, hb⟩
  · exact ⟨_, _, h2, ⟨h1.symm, .inr ⟨rfl, A, c, rfl, Kd.R_mono h3 (fun _ _ => trivial)⟩⟩, hb⟩
theorem ExtV.put {ow tr n owner en : Int} {ps : List PartV} {nx : PartV} {y : Value} {ev : Int} {w : World} {g : Nat} {a b c x y' z : Value} (h : ExtV ow tr n owner en ps nx y ev w) (hg : w.heap[g]? = some (.cells #[a, b, c] 27 (0, 0))) : ExtV ow tr n owner en ps nx y ev (((w.setCell ⟨g, 0, none⟩ x).setCell ⟨g, 1, none⟩ y').setCell ⟨g, 2, none⟩ z) := by
  obtain ⟨h0, h | ⟨h, A, c, h1, h2⟩⟩ := h
  · exact ⟨h0, .inl h⟩
  · exact ⟨h0, .inr ⟨h, A, c, h1, put3_R h2 hg (by decide)⟩⟩
theorem extV_y {ow tr n owner en : Int} {ps : List PartV} {nx : PartV} {y : Value} {ev : Int} {w : World} (h : ExtV ow tr n owner en ps nx y ev w) : ∃ (o t : Int) (A : Option Addr) (L c : Nat), y = .agg #[.int .i64 o, .int .i64 t, .slice A L c] := by
  obtain ⟨h0, ⟨_, rfl⟩ | ⟨_, A, c, rfl, _⟩⟩ := h
  · exact ⟨_, _, _, _, _, rfl⟩
  · exact ⟨_, _, _, _, _, rfl⟩
set_option maxHeartbeats 6400000 in
set_option maxRecDepth 100000 in
theorem lawOnce (ow tr n owner en id addr : Int) (A B : Option Addr) (c c2 : Nat) (ps : List PartV) (nl : List Int) (W : World) (hr : Kd.C k53 W A ps.length ps) (hq : Kd.C (Kd.int .i64) W B nl.length nl) (hl : (ps.length + 1) * 40 ≤ 140737488355328) (hn : ∀ p ∈ ps, p.nodes.length * 8 ≤ 140737488355328) (hnl : nl.length * 8 ≤ 140737488355328) (hen : -9223372036854775808 ≤ en ∧ en ≤ 9223372036854775807) (had : -9223372036854775808 ≤ addr ∧ addr ≤ 9223372036854775807) :
    Calls Try.prog 6 #[.agg #[.int .i64 ow, .int .i64 tr, .slice A ps.length c], .int .i64 n, .int .i64 owner, .int .i64 en, .agg #[.int .i64 id, .slice B nl.length c2], .int .i64 addr] W fun e W' => e = .returned (.bool true) ∧ Below W.heap.size W W' := by
  have HN := Aside0.mk hn
  obtain ⟨o1, ho1⟩ : ∃ o1 : Obj, o1 = .cells #[.int .i64 ow, .int .i64 tr, .slice A ps.length c] 24 (0, 0) := ⟨_, rfl⟩
  obtain ⟨o2, ho2⟩ : ∃ o2 : Obj, o2 = .cells #[.int .i64 id, .slice B nl.length c2] 45 (0, 0) := ⟨_, rfl⟩
  have e1 : (W.alloc o1).heap.size = W.heap.size + 1 := Array.size_push _
  have b2 := heap_alloc_new (W.alloc o1) o2
  rw [e1] at b2
  have HB0 := Aside0.mk (below_alloc (below_alloc (Below.refl W.heap.size W) o1) o2)
  have HC0 := Aside0.mk (Kd.C_alloc (Kd.C_alloc hr o1) o2)
  have HQ0 := Aside0.mk (Kd.C_alloc (Kd.C_alloc hq o1) o2)
  have BG0 := Aside0.mk b2
  have hb0 := blk_alloc (heap_alloc_new W o1) o2
  have x0 : ((W.alloc o1).alloc o2).cell? ⟨W.heap.size, 0, none⟩ = some (.int .i64 ow) := by rw [ho1] at hb0 ⊢; exact (blk_cell hb0 0).trans rfl
  have x1 : ((W.alloc o1).alloc o2).cell? ⟨W.heap.size, 1, none⟩ = some (.int .i64 tr) := by rw [ho1] at hb0 ⊢; exact (blk_cell hb0 1).trans rfl
  have x2 : ((W.alloc o1).alloc o2).cell? ⟨W.heap.size, 2, none⟩ = some (.slice A ps.length c) := by rw [ho1] at hb0 ⊢; exact (blk_cell hb0 2).trans rfl
  subst ho1 ho2
  clear b2 e1 hr hq hn hb0
  go_enter Try.func6, Try.ntmps6
  go_wp2_with fail
  refine (own_c ow tr A c ps _ HC0.out (by omega) HN.out).mono ?_
  rintro e W1 ⟨A1, c1, rfl, hR1, hb⟩
  obtain ⟨o3, ho3⟩ : ∃ o3 : Obj, o3 = .cells #[.int .i64 ow, .int .i64 tr, .slice A1 ps.length c1] 27 (0, 0) := ⟨_, rfl⟩
  have HC1 := Aside0.mk (Kd.R_reads' hR1).2.1
  have HI := Aside0.mk (show OnceI W ow tr id A1 B c1 c2 ps nl W1.heap.size (W1.alloc o3) from ⟨below_alloc (below_step HB0.out hb) _, blk_alloc (blk_below BG0.out hb) _, by rw [ho3]; exact heap_alloc_new _ _, Kd.C_alloc (Kd.R_reads' hR1).2.2 _, Kd.C_alloc (Kd.C_below HQ0.out hb) _⟩)
  subst ho3
  clear hR1 hb HC0 HB0 HQ0 BG0 x0 x1 x2
  go_wp2_with fail
  refine (where_c ow tr addr A1 c1 ps _ HI.out.row).mono ?_
  rintro e WR ⟨rfl, hb⟩
  have HIR := Aside0.mk (HI.out.move hb)
  clear hb HI
  obtain ⟨f1, hf1⟩ : ∃ f, (whereF tr ps addr).1 = f := ⟨_, rfl⟩
  obtain ⟨f2, hf2⟩ : ∃ f, (whereF tr ps addr).2.1 = f := ⟨_, rfl⟩
  obtain ⟨f3, hf3⟩ : ∃ f, (whereF tr ps addr).2.2 = f := ⟨_, rfl⟩
  simp only [hf1, hf2, hf3]
  have HW := Aside0.mk (show whereF tr ps addr = (f1, f2, f3) by rw [← hf1, ← hf2, ← hf3])
  clear hf1 hf2 hf3
  generalize W1.heap.size = gx at HIR ⊢
  go_wp2_with fail
  have HI0 := Aside0.mk (HIR.out.move (below_drew (Below.refl WR.heap.size WR)))
  clear HIR
  refine start_ (n := 13) (S := fun w' => w'.cell? ⟨gx, 0, none⟩ = some (.int .i64 ow) ∧ w'.cell? ⟨gx, 1, none⟩ = some (.int .i64 tr) ∧ w'.cell? ⟨gx, 2, none⟩ = some (.slice A1 ps.length c1) ∧ w'.cell? ⟨W.heap.size + 1, 0, none⟩ = some (.int .i64 id) ∧ w'.cell? ⟨W.heap.size + 1, 1, none⟩ = some (.slice B nl.length c2)) (ds := [11]) #[false, false, false, false, false, false, false, false, false, false, false, false, false] (by kernel_rfl) rfl rfl ⟨(blk_cell HI0.out.x 0).trans rfl, (blk_cell HI0.out.x 1).trans rfl, (blk_cell HI0.out.x 2).trans rfl, (blk_cell HI0.out.cfg 0).trans rfl, (blk_cell HI0.out.cfg 1).trans rfl⟩ (fun hHeld => ?_); refine with_tabW tabO3 bitsO3 (fun HT_ HW_ => ?_)
  generalize hwd : WR.drew = Wd at HI0 hHeld ⊢
  clear hwd
  refine take_ (i := 0) (N := (some 37)) (v := ?_) (a' := ?_) #[true, false, false, false, false, false, false, false, false, false, false, false, false] rfl rfl (take_ofW HT_.out HW_.out (by kernel_rfl)) (fun _ _ _ h => h) (Or.inl ⟨by rfl, ?_⟩) hHeld ?_ ?_
  rotate_left
  · rintro w' ⟨s0, s1, s2, s3, s4⟩
    go_simp
    with_reducible rfl
  rotate_left
  · simp only [Act.put, List.setIfInBounds_toArray, List.set_cons_zero, List.set_cons_succ, i64_w, i32_w]
    rfl
  refine pure_ (i := 1) (N := (some 38)) (v := ?_) (a' := ?_) #[true, true, false, false, false, false, false, false, false, false, false, false, false] rfl rfl (any_of HT_.out (by kernel_rfl)) (fun _ _ _ h => h) (Or.inl ⟨by rfl, ?_⟩) ?_ ?_
  rotate_left
  · intro w'
    go_simp
    with_reducible rfl
  rotate_left
  · simp only [Act.put, List.setIfInBounds_toArray, List.set_cons_zero, List.set_cons_succ, i64_w, i32_w]
    rfl
  refine pure_ (i := 2) (N := (some 39)) (v := ?_) (a' := ?_) #[true, true, true, false, false, false, false, false, false, false, false, false, false] rfl rfl (any_of HT_.out (by kernel_rfl)) (fun _ _ _ h => h) (Or.inl ⟨by rfl, ?_⟩) ?_ ?_
  rotate_left
  · intro w'
    go_simp
    with_reducible rfl
  rotate_left
  · simp only [Act.put, List.setIfInBounds_toArray, List.set_cons_zero, List.set_cons_succ, i64_w, i32_w]
    rfl
  refine pure_ (i := 3) (N := (some 40)) (v := ?_) (a' := ?_) #[true, true, true, true, false, false, false, false, false, false, false, false, false] rfl rfl (any_of HT_.out (by kernel_rfl)) (fun _ _ _ h => h) (Or.inl ⟨by rfl, ?_⟩) ?_ ?_
  rotate_left
  · intro w'
    go_simp
    with_reducible rfl
  rotate_left
  · simp only [Act.put, List.setIfInBounds_toArray, List.set_cons_zero, List.set_cons_succ, i64_w, i32_w]
    rfl
  refine take_ (i := 4) (N := (some 41)) (v := ?_) (a' := ?_) #[true, true, true, true, true, false, false, false, false, false, false, false, false] rfl rfl (take_ofW HT_.out HW_.out (by kernel_rfl)) (fun _ _ _ h => h) (Or.inl ⟨by rfl, ?_⟩) hHeld ?_ ?_
  rotate_left
  · rintro w' ⟨s0, s1, s2, s3, s4⟩
    go_simp
    with_reducible rfl
  rotate_left
  · simp only [Act.put, List.setIfInBounds_toArray, List.set_cons_zero, List.set_cons_succ, i64_w, i32_w]
    rfl
  have HD0 := Aside0.mk (Below.refl Wd.heap.size Wd)
  refine join_ (σ := Value × Value × Int × Nat) 2 #[true, true, true, true, true, true, true, true, true, true, true, false, false] (fun s => [(42, s.1), (43, .tuple #[s.2.1, .int .i64 s.2.2.1]), (36, .tuple #[s.2.1, .int .i64 s.2.2.1]), (44, s.2.1), (45, .int .i64 s.2.2.1), (17, .pointer (some ⟨s.2.2.2, 0, none⟩))]) (fun s w' => Wd.heap.size ≤ s.2.2.2 ∧ Below Wd.heap.size Wd w' ∧ ExtV ow tr n owner en ps ⟨en, id, nl⟩ s.2.1 s.2.2.1 w' ∧ w'.heap[s.2.2.2]? = some (.cells #[.int .i64 0, .int .i64 0, .slice none 0 0] 27 (0, 0))) ?_ ?_
  rotate_left
  · intro CONT
    refine two_ (i := 5) (j := 10) (Ni := some 42) (Nj := some 17) #[true, true, true, true, true, true, false, false, false, false, false, false, false] #[true, true, true, true, true, false, false, false, false, false, true, false, false] rfl rfl rfl rfl (two_of HT_.out (by kernel_rfl)) (by decide) (by decide) (fun K hK => ?_) (fun K hK => ?_)
    · refine goes_ Try.func20 (by kernel_rfl) rfl #[.agg #[.int .i64 id, .slice B nl.length c2]] (by rfl) rfl rfl (by (try simp only [List.map_toArray, List.map_cons, List.map_nil]); first | done | rfl) ?_
      refine (config_c id B c2 nl _ HI0.out.nodes hnl).mono ?_
      rintro e w1 ⟨Bc, cc, rfl, hRc, hbL⟩
      refine ⟨_, rfl, ?_⟩
      have HI1 := Aside0.mk (HI0.out.move hbL)
      have HD1 := Aside0.mk (below_step HD0.out hbL)
      have HK1 := Aside0.mk (Kd.R_reads' hRc).2.2
      have HKc := Aside0.mk (Kd.R_reads' hRc).2.1
      clear hbL hRc
      refine hK.out _ _ ⟨(blk_cell HI1.out.x 0).trans rfl, (blk_cell HI1.out.x 1).trans rfl, (blk_cell HI1.out.x 2).trans rfl, (blk_cell HI1.out.cfg 0).trans rfl, (blk_cell HI1.out.cfg 1).trans rfl⟩ (fun hHeld => ?_)
      clear hK K
      refine norm_ (a' := ?_) ?_ ?_
      rotate_left
      · show Act.put _ (some 42) _ = _
        simp only [Act.put, List.setIfInBounds_toArray, List.set_cons_zero, List.set_cons_succ, i64_w, i32_w]
        rfl
      refine two_ (i := 6) (j := 10) (Ni := some 43) (Nj := some 17) #[true, true, true, true, true, true, true, false, false, false, false, false, false] #[true, true, true, true, true, true, false, false, false, false, true, false, false] rfl rfl rfl rfl (two_of HT_.out (by kernel_rfl)) (by decide) (by decide) (fun K hK => ?_) (fun K hK => ?_)
      · refine goes_ Try.func16 (by kernel_rfl) rfl #[.agg #[.int .i64 ow, .int .i64 tr, .slice A1 ps.length c1], .int .i64 n, .int .i64 owner, .int .i64 en, .agg #[.int .i64 id, .slice Bc nl.length cc]] (by rfl) rfl rfl (by (try simp only [List.map_toArray, List.map_cons, List.map_nil]); first | done | rfl) ?_
        refine (extend_c ow tr n owner en id A1 Bc c1 cc ps nl _ HI1.out.row HK1.out HC1.out HKc.out hl HN.out hnl).mono ?_
        intro e w2 hE_
        obtain ⟨yE, ev, rfl, hV, hbL⟩ := extV_of hE_
        refine ⟨_, rfl, ?_⟩
        have HI2 := Aside0.mk (HI1.out.move hbL)
        have HD2 := Aside0.mk (below_step HD1.out hbL)
        have HK2 := Aside0.mk (Kd.C_below HK1.out hbL)
        have HE2 := Aside0.mk hV
        clear hbL hV hE_
        refine hK.out _ _ ⟨(blk_cell HI2.out.x 0).trans rfl, (blk_cell HI2.out.x 1).trans rfl, (blk_cell HI2.out.x 2).trans rfl, (blk_cell HI2.out.cfg 0).trans rfl, (blk_cell HI2.out.cfg 1).trans rfl⟩ (fun hHeld => ?_)
        clear hK K
        refine norm_ (a' := ?_) ?_ ?_
        rotate_left
        · show Act.put _ (some 43) _ = _
          simp only [Act.put, List.setIfInBounds_toArray, List.set_cons_zero, List.set_cons_succ, i64_w, i32_w]
          rfl
        refine pure_ (i := 7) (N := (some 36)) (v := ?_) (a' := ?_) #[true, true, true, true, true, true, true, true, false, false, false, false, false] rfl rfl (any_of HT_.out (by kernel_rfl)) (fun _ _ _ h => h) (Or.inl ⟨by rfl, ?_⟩) ?_ ?_
        rotate_left
        · intro w'
          go_simp
          with_reducible rfl
        rotate_left
        · simp only [Act.put, List.setIfInBounds_toArray, List.set_cons_zero, List.set_cons_succ, i64_w, i32_w]
          rfl
        refine pure_ (i := 8) (N := (some 44)) (v := ?_) (a' := ?_) #[true, true, true, true, true, true, true, true, true, false, false, false, false] rfl rfl (any_of HT_.out (by kernel_rfl)) (fun _ _ _ h => h) (Or.inl ⟨by rfl, ?_⟩) ?_ ?_
        rotate_left
        · intro w'
          go_simp
          with_reducible rfl
        rotate_left
        · simp only [Act.put, List.setIfInBounds_toArray, List.set_cons_zero, List.set_cons_succ, i64_w, i32_w]
          rfl
        refine pure_ (i := 9) (N := (some 45)) (v := ?_) (a' := ?_) #[true, true, true, true, true, true, true, true, true, true, false, false, false] rfl rfl (any_of HT_.out (by kernel_rfl)) (fun _ _ _ h => h) (Or.inl ⟨by rfl, ?_⟩) ?_ ?_
        rotate_left
        · intro w'
          go_simp
          with_reducible rfl
        rotate_left
        · simp only [Act.put, List.setIfInBounds_toArray, List.set_cons_zero, List.set_cons_succ, i64_w, i32_w]
          rfl
        refine one_ (i := 10) (N := some 17) #[true, true, true, true, true, true, true, true, true, true, true, false, false] rfl rfl (one_of HT_.out (by kernel_rfl)) (by decide) (fun K hK => ?_)
        refine box_step (by rfl) (N := 17) rfl (cs := #[.int .i64 0, .int .i64 0, .slice none 0 0]) (t := 27) (by first | (go_simp; done) | (go_simp; rfl)) ?_
        intro g hg w3 hG hbL
        have HI3 := Aside0.mk (HI2.out.move hbL)
        have HD3 := Aside0.mk (below_step HD2.out hbL)
        have HE3 := Aside0.mk (HE2.out.move hbL)
        have HK3 := Aside0.mk (Kd.C_below HK2.out hbL)
        have HG3 := Aside0.mk hG
        have HGL := Aside0.mk (show Wd.heap.size ≤ g from by have := HD2.out.size; omega)
        clear hbL hG hg
        refine hK.out _ _ ⟨(blk_cell HI3.out.x 0).trans rfl, (blk_cell HI3.out.x 1).trans rfl, (blk_cell HI3.out.x 2).trans rfl, (blk_cell HI3.out.cfg 0).trans rfl, (blk_cell HI3.out.cfg 1).trans rfl⟩ (fun hHeld => ?_)
        clear hK K
        refine norm_ (a' := ?_) ?_ ?_
        rotate_left
        · show Act.put _ (some 17) _ = _
          simp only [Act.put, List.setIfInBounds_toArray, List.set_cons_zero, List.set_cons_succ, i64_w, i32_w]
          rfl
        exact norm_ (by first | (simp only [putAll, Act.put, List.setIfInBounds_toArray, List.set_cons_zero, List.set_cons_succ]; done) | (simp only [putAll, Act.put, List.setIfInBounds_toArray, List.set_cons_zero, List.set_cons_succ]; rfl)) (CONT (.agg #[.int .i64 id, .slice Bc nl.length cc], yE, ev, g) _ ⟨HGL.out, HD3.out, HE3.out, HG3.out⟩)
      · refine box_step (by rfl) (N := 17) rfl (cs := #[.int .i64 0, .int .i64 0, .slice none 0 0]) (t := 27) (by first | (go_simp; done) | (go_simp; rfl)) ?_
        intro g hg w2 hG hbL
        have HI2 := Aside0.mk (HI1.out.move hbL)
        have HD2 := Aside0.mk (below_step HD1.out hbL)
        have HK2 := Aside0.mk (Kd.C_below HK1.out hbL)
        have HG2 := Aside0.mk hG
        have HGL := Aside0.mk (show Wd.heap.size ≤ g from by have := HD1.out.size; omega)
        clear hbL hG hg
        refine hK.out _ _ ⟨(blk_cell HI2.out.x 0).trans rfl, (blk_cell HI2.out.x 1).trans rfl, (blk_cell HI2.out.x 2).trans rfl, (blk_cell HI2.out.cfg 0).trans rfl, (blk_cell HI2.out.cfg 1).trans rfl⟩ (fun hHeld => ?_)
        clear hK K
        refine norm_ (a' := ?_) ?_ ?_
        rotate_left
        · show Act.put _ (some 17) _ = _
          simp only [Act.put, List.setIfInBounds_toArray, List.set_cons_zero, List.set_cons_succ, i64_w, i32_w]
          rfl
        refine one_ (i := 6) (N := some 43) #[true, true, true, true, true, true, true, false, false, false, true, false, false] rfl rfl (one_of HT_.out (by kernel_rfl)) (by decide) (fun K hK => ?_)
        refine goes_ Try.func16 (by kernel_rfl) rfl #[.agg #[.int .i64 ow, .int .i64 tr, .slice A1 ps.length c1], .int .i64 n, .int .i64 owner, .int .i64 en, .agg #[.int .i64 id, .slice Bc nl.length cc]] (by rfl) rfl rfl (by (try simp only [List.map_toArray, List.map_cons, List.map_nil]); first | done | rfl) ?_
        refine (extend_c ow tr n owner en id A1 Bc c1 cc ps nl _ HI2.out.row HK2.out HC1.out HKc.out hl HN.out hnl).mono ?_
        intro e w3 hE_
        obtain ⟨yE, ev, rfl, hV, hbL⟩ := extV_of hE_
        refine ⟨_, rfl, ?_⟩
        have HI3 := Aside0.mk (HI2.out.move hbL)
        have HD3 := Aside0.mk (below_step HD2.out hbL)
        have HG3 := Aside0.mk (blk_below HG2.out hbL)
        have HK3 := Aside0.mk (Kd.C_below HK2.out hbL)
        have HE3 := Aside0.mk hV
        clear hbL hV hE_
        refine hK.out _ _ ⟨(blk_cell HI3.out.x 0).trans rfl, (blk_cell HI3.out.x 1).trans rfl, (blk_cell HI3.out.x 2).trans rfl, (blk_cell HI3.out.cfg 0).trans rfl, (blk_cell HI3.out.cfg 1).trans rfl⟩ (fun hHeld => ?_)
        clear hK K
        refine norm_ (a' := ?_) ?_ ?_
        rotate_left
        · show Act.put _ (some 43) _ = _
          simp only [Act.put, List.setIfInBounds_toArray, List.set_cons_zero, List.set_cons_succ, i64_w, i32_w]
          rfl
        refine pure_ (i := 7) (N := (some 36)) (v := ?_) (a' := ?_) #[true, true, true, true, true, true, true, true, false, false, true, false, false] rfl rfl (any_of HT_.out (by kernel_rfl)) (fun _ _ _ h => h) (Or.inl ⟨by rfl, ?_⟩) ?_ ?_
        rotate_left
        · intro w'
          go_simp
          with_reducible rfl
        rotate_left
        · simp only [Act.put, List.setIfInBounds_toArray, List.set_cons_zero, List.set_cons_succ, i64_w, i32_w]
          rfl
        refine pure_ (i := 8) (N := (some 44)) (v := ?_) (a' := ?_) #[true, true, true, true, true, true, true, true, true, false, true, false, false] rfl rfl (any_of HT_.out (by kernel_rfl)) (fun _ _ _ h => h) (Or.inl ⟨by rfl, ?_⟩) ?_ ?_
        rotate_left
        · intro w'
          go_simp
          with_reducible rfl
        rotate_left
        · simp only [Act.put, List.setIfInBounds_toArray, List.set_cons_zero, List.set_cons_succ, i64_w, i32_w]
          rfl
        refine pure_ (i := 9) (N := (some 45)) (v := ?_) (a' := ?_) #[true, true, true, true, true, true, true, true, true, true, true, false, false] rfl rfl (any_of HT_.out (by kernel_rfl)) (fun _ _ _ h => h) (Or.inl ⟨by rfl, ?_⟩) ?_ ?_
        rotate_left
        · intro w'
          go_simp
          with_reducible rfl
        rotate_left
        · simp only [Act.put, List.setIfInBounds_toArray, List.set_cons_zero, List.set_cons_succ, i64_w, i32_w]
          rfl
        exact norm_ (by first | (simp only [putAll, Act.put, List.setIfInBounds_toArray, List.set_cons_zero, List.set_cons_succ]; done) | (simp only [putAll, Act.put, List.setIfInBounds_toArray, List.set_cons_zero, List.set_cons_succ]; rfl)) (CONT (.agg #[.int .i64 id, .slice Bc nl.length cc], yE, ev, g) _ ⟨HGL.out, HD3.out, HE3.out, HG3.out⟩)
    · refine box_step (by rfl) (N := 17) rfl (cs := #[.int .i64 0, .int .i64 0, .slice none 0 0]) (t := 27) (by first | (go_simp; done) | (go_simp; rfl)) ?_
      intro g hg w1 hG hbL
      have HI1 := Aside0.mk (HI0.out.move hbL)
      have HD1 := Aside0.mk (below_step HD0.out hbL)
      have HG1 := Aside0.mk hG
      have HGL := Aside0.mk (show Wd.heap.size ≤ g from by have := HD0.out.size; omega)
      clear hbL hG hg
      refine hK.out _ _ ⟨(blk_cell HI1.out.x 0).trans rfl, (blk_cell HI1.out.x 1).trans rfl, (blk_cell HI1.out.x 2).trans rfl, (blk_cell HI1.out.cfg 0).trans rfl, (blk_cell HI1.out.cfg 1).trans rfl⟩ (fun hHeld => ?_)
      clear hK K
      refine norm_ (a' := ?_) ?_ ?_
      rotate_left
      · show Act.put _ (some 17) _ = _
        simp only [Act.put, List.setIfInBounds_toArray, List.set_cons_zero, List.set_cons_succ, i64_w, i32_w]
        rfl
      refine one_ (i := 5) (N := some 42) #[true, true, true, true, true, true, false, false, false, false, true, false, false] rfl rfl (one_of HT_.out (by kernel_rfl)) (by decide) (fun K hK => ?_)
      refine goes_ Try.func20 (by kernel_rfl) rfl #[.agg #[.int .i64 id, .slice B nl.length c2]] (by rfl) rfl rfl (by (try simp only [List.map_toArray, List.map_cons, List.map_nil]); first | done | rfl) ?_
      refine (config_c id B c2 nl _ HI1.out.nodes hnl).mono ?_
      rintro e w2 ⟨Bc, cc, rfl, hRc, hbL⟩
      refine ⟨_, rfl, ?_⟩
      have HI2 := Aside0.mk (HI1.out.move hbL)
      have HD2 := Aside0.mk (below_step HD1.out hbL)
      have HG2 := Aside0.mk (blk_below HG1.out hbL)
      have HK2 := Aside0.mk (Kd.R_reads' hRc).2.2
      have HKc := Aside0.mk (Kd.R_reads' hRc).2.1
      clear hbL hRc
      refine hK.out _ _ ⟨(blk_cell HI2.out.x 0).trans rfl, (blk_cell HI2.out.x 1).trans rfl, (blk_cell HI2.out.x 2).trans rfl, (blk_cell HI2.out.cfg 0).trans rfl, (blk_cell HI2.out.cfg 1).trans rfl⟩ (fun hHeld => ?_)
      clear hK K
      refine norm_ (a' := ?_) ?_ ?_
      rotate_left
      · show Act.put _ (some 42) _ = _
        simp only [Act.put, List.setIfInBounds_toArray, List.set_cons_zero, List.set_cons_succ, i64_w, i32_w]
        rfl
      refine one_ (i := 6) (N := some 43) #[true, true, true, true, true, true, true, false, false, false, true, false, false] rfl rfl (one_of HT_.out (by kernel_rfl)) (by decide) (fun K hK => ?_)
      refine goes_ Try.func16 (by kernel_rfl) rfl #[.agg #[.int .i64 ow, .int .i64 tr, .slice A1 ps.length c1], .int .i64 n, .int .i64 owner, .int .i64 en, .agg #[.int .i64 id, .slice Bc nl.length cc]] (by rfl) rfl rfl (by (try simp only [List.map_toArray, List.map_cons, List.map_nil]); first | done | rfl) ?_
      refine (extend_c ow tr n owner en id A1 Bc c1 cc ps nl _ HI2.out.row HK2.out HC1.out HKc.out hl HN.out hnl).mono ?_
      intro e w3 hE_
      obtain ⟨yE, ev, rfl, hV, hbL⟩ := extV_of hE_
      refine ⟨_, rfl, ?_⟩
      have HI3 := Aside0.mk (HI2.out.move hbL)
      have HD3 := Aside0.mk (below_step HD2.out hbL)
      have HG3 := Aside0.mk (blk_below HG2.out hbL)
      have HK3 := Aside0.mk (Kd.C_below HK2.out hbL)
      have HE3 := Aside0.mk hV
      clear hbL hV hE_
      refine hK.out _ _ ⟨(blk_cell HI3.out.x 0).trans rfl, (blk_cell HI3.out.x 1).trans rfl, (blk_cell HI3.out.x 2).trans rfl, (blk_cell HI3.out.cfg 0).trans rfl, (blk_cell HI3.out.cfg 1).trans rfl⟩ (fun hHeld => ?_)
      clear hK K
      refine norm_ (a' := ?_) ?_ ?_
      rotate_left
      · show Act.put _ (some 43) _ = _
        simp only [Act.put, List.setIfInBounds_toArray, List.set_cons_zero, List.set_cons_succ, i64_w, i32_w]
        rfl
      refine pure_ (i := 7) (N := (some 36)) (v := ?_) (a' := ?_) #[true, true, true, true, true, true, true, true, false, false, true, false, false] rfl rfl (any_of HT_.out (by kernel_rfl)) (fun _ _ _ h => h) (Or.inl ⟨by rfl, ?_⟩) ?_ ?_
      rotate_left
      · intro w'
        go_simp
        with_reducible rfl
      rotate_left
      · simp only [Act.put, List.setIfInBounds_toArray, List.set_cons_zero, List.set_cons_succ, i64_w, i32_w]
        rfl
      refine pure_ (i := 8) (N := (some 44)) (v := ?_) (a' := ?_) #[true, true, true, true, true, true, true, true, true, false, true, false, false] rfl rfl (any_of HT_.out (by kernel_rfl)) (fun _ _ _ h => h) (Or.inl ⟨by rfl, ?_⟩) ?_ ?_
      rotate_left
      · intro w'
        go_simp
        with_reducible rfl
      rotate_left
      · simp only [Act.put, List.setIfInBounds_toArray, List.set_cons_zero, List.set_cons_succ, i64_w, i32_w]
        rfl
      refine pure_ (i := 9) (N := (some 45)) (v := ?_) (a' := ?_) #[true, true, true, true, true, true, true, true, true, true, true, false, false] rfl rfl (any_of HT_.out (by kernel_rfl)) (fun _ _ _ h => h) (Or.inl ⟨by rfl, ?_⟩) ?_ ?_
      rotate_left
      · intro w'
        go_simp
        with_reducible rfl
      rotate_left
      · simp only [Act.put, List.setIfInBounds_toArray, List.set_cons_zero, List.set_cons_succ, i64_w, i32_w]
        rfl
      exact norm_ (by first | (simp only [putAll, Act.put, List.setIfInBounds_toArray, List.set_cons_zero, List.set_cons_succ]; done) | (simp only [putAll, Act.put, List.setIfInBounds_toArray, List.set_cons_zero, List.set_cons_succ]; rfl)) (CONT (.agg #[.int .i64 id, .slice Bc nl.length cc], yE, ev, g) _ ⟨HGL.out, HD3.out, HE3.out, HG3.out⟩)
  rintro ⟨v42, yE, ev, g⟩ w5 ⟨hgl, hD, hE, hG⟩
  dsimp only at hgl hE hG
  refine norm_ (a' := ?_) ?_ ?_
  rotate_left
  · simp only [putAll, Act.put, List.setIfInBounds_toArray, List.set_cons_zero, List.set_cons_succ]
    rfl
  obtain ⟨yo, yt, yA, yL, yc, rfl⟩ := extV_y hE
  have z0 : w5.cell? ⟨g, 0, none⟩ = some (.int .i64 0) := (blk_cell hG 0).trans rfl
  have z1 : w5.cell? ⟨g, 1, none⟩ = some (.int .i64 0) := (blk_cell hG 1).trans rfl
  have z2 : w5.cell? ⟨g, 2, none⟩ = some (.slice none 0 0) := (blk_cell hG 2).trans rfl
  have f0 := blk_frozen hG 0
  have f1_ := blk_frozen hG 1
  have f2_ := blk_frozen hG 2
  have HE5 := Aside0.mk (hE.put (x := .int .i64 yo) (y' := .int .i64 yt) (z := .slice yA yL yc) hG)
  have HG5 := Aside0.mk (put3 (x := .int .i64 yo) (y := .int .i64 yt) (z := .slice yA yL yc) hG)
  have HI5 := Aside0.mk (HI0.out.move (put3_B (x := .int .i64 yo) (y := .int .i64 yt) (z := .slice yA yL yc) hD hgl))
  have HGX := Aside0.mk (show gx < g from by have := blk_lt HI0.out.x; omega)
  clear hE hG hD hgl HI0 hHeld
  refine last_ (i := 11) (N := none) #[true, true, true, true, true, true, true, true, true, true, true, true, false] rfl rfl (one_of HT_.out (by kernel_rfl)) (by decide) (fun K hK => ?_)
  refine skip_ (w1 := ?_) (by rfl) rfl ?_ ?_
  rotate_left
  · go_simp
    rfl
  refine hK.out _ _ ?_
  clear hK K
  clear z0 z1 z2 f0 f1_ f2_
  generalize (((w5.setCell ⟨g, 0, none⟩ (.int .i64 yo)).setCell ⟨g, 1, none⟩ (.int .i64 yt)).setCell ⟨g, 2, none⟩ (.slice yA yL yc)) = w6 at HE5 HG5 HI5 ⊢
  refine pure_ (i := 12) (N := (some 18)) (v := ?_) (a' := ?_) #[true, true, true, true, true, true, true, true, true, true, true, true, true] rfl rfl (any_of HT_.out (by kernel_rfl)) (fun _ _ _ h => h) (Or.inl ⟨by rfl, ?_⟩) ?_ ?_
  rotate_left
  · intro w'
    go_simp
    with_reducible rfl
  rotate_left
  · simp only [Act.put, List.setIfInBounds_toArray, List.set_cons_zero, List.set_cons_succ, i64_w, i32_w]
    rfl
  refine done_ (done_of HT_.out (by kernel_rfl)) ?_
  clear HT_ HW_
  go_upto_if 48 with ((with_reducible refine (num_c _ _).mono ?_); rintro e w7 ⟨rfl, rfl⟩)
  go_cut [19, 20, 21] from 49 to 116 (fun u19 u20 u21 wx => OnceI W ow tr id A1 B c1 c2 ps nl gx wx)
  case first =>
    obtain ⟨h0, ⟨h1, -⟩ | ⟨rfl, A2, c5, hy, hR⟩⟩ := HE5.out
    · have hq : (ev == 0) = false := beq_eq_false_iff_ne.2 h1
      clear h0 h1
      go_wp2_with fail
      go_meet
      exact HI5.out
    · obtain ⟨he1, he2, he3⟩ := ext_ok h0.symm
      have hne : 0 < (extParts tr ps en ⟨en, id, nl⟩).length := ext_ne
      obtain ⟨t1, t2⟩ := right_trim he1
      have hen0 : 0 ≤ en ∧ tr ≤ en := by
        by_cases hz : ps.length = 0
        · rw [if_pos hz] at he2; have := t2 hz; omega
        · rw [if_neg hz] at he2; omega
      obtain ⟨hen1, hen2⟩ := hen0
      have hlt := fun h : addr < en => (ext_stays (tr := tr) (ps := ps) (nx := ⟨en, id, nl⟩) rfl h).trans HW.out
      have hnw := fun (h : en ≤ addr) (h2 : addr - en < 4096) => ext_new (tr := tr) (ps := ps) (nx := ⟨en, id, nl⟩) rfl hen1 hen2 h h2
      generalize extParts tr ps en ⟨en, id, nl⟩ = E at hy hR he3 hne hlt hnw
      simp only [Value.agg.injEq, Array.mk.injEq, List.cons.injEq, Value.int.injEq, Value.slice.injEq, and_true, true_and] at hy
      obtain ⟨rfl, rfl, rfl, rfl, rfl⟩ := hy
      have HRE := Aside0.mk he3
      have HC6 := Aside0.mk (Kd.R_reads' hR).2.2
      have HLT := Aside0.mk hlt
      have HNW := Aside0.mk hnw
      have z0 : w6.cell? ⟨g, 0, none⟩ = some (.int .i64 yo) := (blk_cell HG5.out 0).trans rfl
      have z1 : w6.cell? ⟨g, 1, none⟩ = some (.int .i64 yt) := (blk_cell HG5.out 1).trans rfl
      have z2 : w6.cell? ⟨g, 2, none⟩ = some (.slice yA E.length yc) := (blk_cell HG5.out 2).trans rfl
      have hlen1 : ((E.length : Int) == 0) = false := beq_eq_false_iff_ne.2 (by omega)
      have hlen2 : (E.length == 0) = false := beq_eq_false_iff_ne.2 (by omega)
      clear he1 he2 he3 t1 t2 hen2 hlt hnw hR h0 hne
      go_wp2_with fail
      refine (where_c yo yt addr yA yc E w6 HC6.out).mono ?_
      rintro e w7 ⟨rfl, hb7⟩
      have HI7 := Aside0.mk (HI5.out.move hb7)
      have HG7 := Aside0.mk (blk_below HG5.out hb7)
      have HC7 := Aside0.mk (Kd.C_below HC6.out hb7)
      have y0 : w7.cell? ⟨g, 0, none⟩ = some (.int .i64 yo) := (blk_cell HG7.out 0).trans rfl
      have y1 : w7.cell? ⟨g, 1, none⟩ = some (.int .i64 yt) := (blk_cell HG7.out 1).trans rfl
      have y2 : w7.cell? ⟨g, 2, none⟩ = some (.slice yA E.length yc) := (blk_cell HG7.out 2).trans rfl
      clear hb7 z0 z1 z2 HC6 HG5 HI5
      have three : addr < en ∨ (en ≤ addr ∧ addr - en < 4096) ∨ (en ≤ addr ∧ 4096 ≤ addr - en) := by omega
      rcases three with a1 | ⟨a1, a2⟩ | ⟨a1, a2⟩
      · simp only [HLT.out a1]
        go_wp2_with fail
        refine (check_c yo yt n yA yc E w7 HC7.out).mono ?_
        rintro e w8 ⟨rfl, hb8⟩
        rw [HRE.out]
        simp only [errB]
        have HI8 := Aside0.mk (HI7.out.move hb8)
        have HG8 := Aside0.mk (blk_below HG7.out hb8)
        have v0 : w8.cell? ⟨g, 0, none⟩ = some (.int .i64 yo) := (blk_cell HG8.out 0).trans rfl
        have v2 : w8.cell? ⟨g, 2, none⟩ = some (.slice yA E.length yc) := (blk_cell HG8.out 2).trans rfl
        have q0 : w8.cell? ⟨W.heap.size + 1, 0, none⟩ = some (.int .i64 id) := (blk_cell HI8.out.cfg 0).trans rfl
        clear hb8 y0 y1 y2
        go_wp2_with ((with_reducible refine (num_c _ _).mono ?_); rintro e w9 ⟨rfl, rfl⟩)
        go_meet
        exact HI8.out
      · simp only [HNW.out a1 a2]
        have hwn : wrap64 (addr - en) = addr - en := by unfold wrap64; omega
        go_wp2_with fail
        refine (check_c yo yt n yA yc E w7 HC7.out).mono ?_
        rintro e w8 ⟨rfl, hb8⟩
        rw [HRE.out]
        simp only [errB]
        have HI8 := Aside0.mk (HI7.out.move hb8)
        have HG8 := Aside0.mk (blk_below HG7.out hb8)
        have v0 : w8.cell? ⟨g, 0, none⟩ = some (.int .i64 yo) := (blk_cell HG8.out 0).trans rfl
        have v2 : w8.cell? ⟨g, 2, none⟩ = some (.slice yA E.length yc) := (blk_cell HG8.out 2).trans rfl
        have q0 : w8.cell? ⟨W.heap.size + 1, 0, none⟩ = some (.int .i64 id) := (blk_cell HI8.out.cfg 0).trans rfl
        clear hb8 y0 y1 y2
        go_wp2_with ((with_reducible refine (num_c _ _).mono ?_); rintro e w9 ⟨rfl, rfl⟩)
        go_meet
        exact HI8.out
      · obtain ⟨g1, hg1⟩ : ∃ f, (whereF yt E addr).1 = f := ⟨_, rfl⟩
        obtain ⟨g2, hg2⟩ : ∃ f, (whereF yt E addr).2.1 = f := ⟨_, rfl⟩
        obtain ⟨g3, hg3⟩ : ∃ f, (whereF yt E addr).2.2 = f := ⟨_, rfl⟩
        simp only [hg1, hg2, hg3]
        clear hg1 hg2 hg3
        go_wp2_with fail
        refine (check_c yo yt n yA yc E w7 HC7.out).mono ?_
        rintro e w8 ⟨rfl, hb8⟩
        rw [HRE.out]
        simp only [errB]
        have HI8 := Aside0.mk (HI7.out.move hb8)
        have HG8 := Aside0.mk (blk_below HG7.out hb8)
        have v0 : w8.cell? ⟨g, 0, none⟩ = some (.int .i64 yo) := (blk_cell HG8.out 0).trans rfl
        have v2 : w8.cell? ⟨g, 2, none⟩ = some (.slice yA E.length yc) := (blk_cell HG8.out 2).trans rfl
        have q0 : w8.cell? ⟨W.heap.size + 1, 0, none⟩ = some (.int .i64 id) := (blk_cell HI8.out.cfg 0).trans rfl
        clear hb8 y0 y1 y2
        go_wp2_with ((with_reducible refine (num_c _ _).mono ?_); rintro e w9 ⟨rfl, rfl⟩)
        go_meet
        exact HI8.out
  case rest =>
    have HI9 := Aside0.mk hcut
    have x0 : wc.cell? ⟨gx, 0, none⟩ = some (.int .i64 ow) := (blk_cell HI9.out.x 0).trans rfl
    have x1 : wc.cell? ⟨gx, 1, none⟩ = some (.int .i64 tr) := (blk_cell HI9.out.x 1).trans rfl
    have x2 : wc.cell? ⟨gx, 2, none⟩ = some (.slice A1 ps.length c1) := (blk_cell HI9.out.x 2).trans rfl
    clear hcut HE5 HG5 HI5 HGX HD0
    go_wp2_with fail
    refine (cut_c ow tr n en A1 c1 ps wc HI9.out.row (by omega) HN.out).mono ?_
    rintro e w1 ⟨hb1, ⟨hx, rfl⟩ | ⟨hx, A5, c5, rfl, hc5, hR⟩⟩
    · have hq : (cutErr ow tr ps n en == 0) = false := beq_eq_false_iff_ne.2 hx
      generalize cutErr ow tr ps n en = ev at hq ⊢
      have HB1 := Aside0.mk (below_step HI9.out.below hb1)
      clear hx hb1 x0 x1 x2
      go_wp2_with ((with_reducible refine (num_c _ _).mono ?_); rintro e w7 ⟨rfl, rfl⟩)
      have HB2 := Aside0.mk (below_alloc HB1.out (.cells #[.int .i64 0, .int .i64 0, .slice none 0 0] 27 (0, 0)))
      refine (same_c 0 0 none none 0 0 [] _ (Kd.C_nil _ _) (Kd.C_nil _ _)).mono ?_
      rintro e w8 ⟨rfl, hb8⟩
      have HB8 := Aside0.mk (below_step HB2.out hb8)
      clear hb8
      go_wp2_with fail
      refine (knows_c w8).mono ?_
      rintro e w9 ⟨rfl, hb9⟩
      have HB9 := Aside0.mk (below_step HB8.out hb9)
      clear hb9
      go_wp2_with fail
      go_ret
      exact ⟨rfl, HB9.out⟩
    · have HCR := Aside0.mk (cut_right hx)
      have HST := Aside0.mk (fun h : en ≤ addr => (cut_stays hx h).trans HW.out)
      have HGO := Aside0.mk (fun h : addr < en => cut_gone (en := en) (addr := addr) (qs := cutParts ps en) h)
      generalize cutParts ps en = Q at hR hc5 HCR HST HGO ⊢
      obtain ⟨oz, hoz⟩ : ∃ o : Obj, o = .cells #[.int .i64 ow, .int .i64 en, .slice A5 Q.length c5] 27 (0, 0) := ⟨_, rfl⟩
      have HB1 := Aside0.mk (below_alloc (below_step HI9.out.below hb1) oz)
      have HC1 := Aside0.mk (Kd.C_alloc hR oz)
      have HZ1 := Aside0.mk (heap_alloc_new w1 oz)
      subst hoz
      clear hx hb1 x0 x1 x2 hR hc5
      go_wp2_with ((with_reducible refine (num_c _ _).mono ?_); rintro e w7 ⟨rfl, rfl⟩)
      refine (where_c ow en addr A5 c5 Q _ HC1.out).mono ?_
      rintro e w7 ⟨rfl, hb7⟩
      have HB7 := Aside0.mk (below_step HB1.out hb7)
      have HC7 := Aside0.mk (Kd.C_below HC1.out hb7)
      have HZ7 := Aside0.mk (blk_below HZ1.out hb7)
      have y0 : w7.cell? ⟨w1.heap.size, 0, none⟩ = some (.int .i64 ow) := (blk_cell HZ7.out 0).trans rfl
      have y1 : w7.cell? ⟨w1.heap.size, 1, none⟩ = some (.int .i64 en) := (blk_cell HZ7.out 1).trans rfl
      have y2 : w7.cell? ⟨w1.heap.size, 2, none⟩ = some (.slice A5 Q.length c5) := (blk_cell HZ7.out 2).trans rfl
      clear hb7 HB1 HC1 HZ1
      by_cases a1 : addr < en
      · simp only [HGO.out a1]
        go_wp2_with fail
        refine (check_c ow en n A5 c5 Q w7 HC7.out).mono ?_
        rintro e w8 ⟨rfl, hb8⟩
        rw [HCR.out]
        simp only [errB]
        have HB8 := Aside0.mk (below_step HB7.out hb8)
        have v1 : w8.cell? ⟨w1.heap.size, 1, none⟩ = some (.int .i64 en) := (blk_cell (blk_below HZ7.out hb8) 1).trans rfl
        clear hb8 y0 y1 y2
        go_wp2_with ((with_reducible refine (num_c _ _).mono ?_); rintro e w9 ⟨rfl, rfl⟩)
        refine (knows_c w8).mono ?_
        rintro e w9 ⟨rfl, hb9⟩
        have HB9 := Aside0.mk (below_step HB8.out hb9)
        clear hb9
        go_wp2_with fail
        go_ret
        exact ⟨rfl, HB9.out⟩
      · have a2 : en ≤ addr := by omega
        simp only [HST.out a2]
        go_wp2_with fail
        refine (check_c ow en n A5 c5 Q w7 HC7.out).mono ?_
        rintro e w8 ⟨rfl, hb8⟩
        rw [HCR.out]
        simp only [errB]
        have HB8 := Aside0.mk (below_step HB7.out hb8)
        have v1 : w8.cell? ⟨w1.heap.size, 1, none⟩ = some (.int .i64 en) := (blk_cell (blk_below HZ7.out hb8) 1).trans rfl
        clear hb8 y0 y1 y2
        go_wp2_with ((with_reducible refine (num_c _ _).mono ?_); rintro e w9 ⟨rfl, rfl⟩)
        refine (knows_c w8).mono ?_
        rintro e w9 ⟨rfl, hb9⟩
        have HB9 := Aside0.mk (below_step HB8.out hb9)
        clear hb9
        go_wp2_with fail
        go_ret
        exact ⟨rfl, HB9.out⟩
end Go.Proofs.Ytpcoelimabojcaa.Hand
