/- ChainMoves' walk. -/
import Derived.Test.YtpcoelimabojcaaHC14
import Derived.Test.YtpcoelimabojcaaHC21
import Derived.Test.YtpcoelimabojcaaHC25
namespace Go.Proofs.Ytpcoelimabojcaa.Hand
open Go.RowKit Go.Proofs.Ytpcoelimabojcaa Go.Proofs.YtpcoelimabojcaaW.PrintWords Go.Proofs.YtpcoelimabojcaaW.PrintLast
set_option linter.unusedVariables false
set_option linter.unusedSimpArgs false
def TM4 : Bool × List (List Nat × List Nat) := (true, [([], []), ([], []), ([], []), ([], []), ([], []), ([4], [4]), ([0, 1, 2, 3, 5, 5], [0, 1, 2, 3, 5]), ([6], [6]), ([7], [7]), ([7], [7]), ([], []), ([10, 8, 6, 0, 1, 2, 3, 4, 5, 6, 7, 8, 10], [8, 10]), ([9, 11, 0, 1, 2, 3, 4, 5, 6, 7, 8, 9, 10, 11], [9])])
def BM4 : List Nat := [0, 0, 0, 0, 0, 16, 63, 127, 255, 255, 0, 1535, 4095]
theorem tabM4 : rtab .any (opsOf Try.f5 4) = TM4 := by kernel_rfl
theorem bitsM4 : waitsOk TM4.2 BM4 = true := by kernel_rfl
def TM8 : Bool × List (List Nat × List Nat) := (true, [([], []), ([], []), ([0, 1], [0, 1]), ([2], [2]), ([3], [3]), ([3], [3]), ([4, 5, 3], [3, 4, 5]), ([3, 6], [3, 6]), ([7, 3], [7]), ([8], [8]), ([8], [8]), ([9, 10, 8], [8, 9, 10]), ([8, 11], [8, 11]), ([12, 8], [12]), ([13], [13]), ([13], [13]), ([15, 13, 13], [13, 15]), ([14, 16, 16, 13], [13, 14, 16]), ([17, 13], [13, 17]), ([13, 18], [13, 18]), ([19, 17], [19]), ([20], [20]), ([21, 20, 20], [20, 21]), ([20], [20]), ([22, 23, 20], [20, 22, 23]), ([20, 24], [20, 24]), ([25, 22], [25]), ([26], [26]), ([26], [26]), ([28, 26, 26], [26, 28]), ([27, 29, 29, 26], [26, 27, 29]), ([30, 26], [26, 30]), ([26, 31], [26, 31]), ([32, 30], [32]), ([33], [33]), ([34, 33, 33], [33, 34]), ([33], [33]), ([35, 36, 33], [33, 35, 36]), ([33, 37], [33, 37]), ([38, 35], [38]), ([39], [39]), ([39], [39]), ([40, 41, 39, 39], [39, 40, 41]), ([39], [39]), ([39], [39]), ([43, 44, 42, 39], [39, 43, 44]), ([42, 45, 39], [39, 42, 45]), ([39, 46], [39, 46])])
def BM8 : List Nat := [0, 0, 3, 7, 15, 15, 63, 127, 255, 511, 511, 2047, 4095, 8191, 16383, 16383, 49151, 131071, 262143, 524287, 1048575, 2097151, 4194303, 2097151, 16777215, 33554431, 67108863, 134217727, 134217727, 402653183, 1073741823, 2147483647, 4294967295, 8589934591, 17179869183, 34359738367, 17179869183, 137438953471, 274877906943, 549755813887, 1099511627775, 1099511627775, 4398046511103, 1099511627775, 1099511627775, 35184372088831, 70368744177663, 140737488355327]
theorem tabM8 : rtab .any (opsOf Try.f5 8) = TM8 := by kernel_rfl
theorem bitsM8 : waitsOk TM8.2 BM8 = true := by kernel_rfl
def TM17 : Bool × List (List Nat × List Nat) := (true, [([], []), ([], []), ([1], [1]), ([0, 2, 2], [0, 2]), ([3, 3], [3]), ([4, 4], [4]), ([4, 5], [4, 5]), ([6, 5, 0, 1, 2, 3, 4, 5, 6], [6])])
def BM17 : List Nat := [0, 0, 2, 7, 15, 31, 63, 127]
theorem tabM17 : rtab .any (opsOf Try.f5 17) = TM17 := by kernel_rfl
theorem bitsM17 : waitsOk TM17.2 BM17 = true := by kernel_rfl
/-- What ChainMoves keeps of the chains and the config. -/
structure MovI (W : World) (ow tr id : Int) (A A1 B : Option Addr) (c c1 c2 : Nat) (ps : List PartV) (nl : List Int) (gx : Nat) (w : World) : Prop where
  below : Below W.heap.size W w
  arg : w.heap[W.heap.size]? = some (.cells #[.int .i64 ow, .int .i64 tr, .slice A ps.length c] 24 (0, 0))
  cfg : w.heap[W.heap.size + 1]? = some (.cells #[.int .i64 id, .slice B nl.length c2] 45 (0, 0))
  x : w.heap[gx]? = some (.cells #[.int .i64 ow, .int .i64 tr, .slice A1 ps.length c1] 27 (0, 0))
  row : Kd.C k53 w A1 ps.length ps
  arow : Kd.C k53 w A ps.length ps
  nodes : Kd.C (Kd.int .i64) w B nl.length nl
theorem MovI.move {W w w1 : World} {ow tr id : Int} {A A1 B : Option Addr} {c c1 c2 gx : Nat} {ps : List PartV} {nl : List Int} (h : MovI W ow tr id A A1 B c c1 c2 ps nl gx w) (hb : Below w.heap.size w w1) : MovI W ow tr id A A1 B c c1 c2 ps nl gx w1 :=
  ⟨below_step h.below hb, blk_below h.arg hb, blk_below h.cfg hb, blk_below h.x hb, Kd.C_below h.row hb, Kd.C_below h.arow hb, Kd.C_below h.nodes hb⟩
/-- The memory of a chain of one's own that is to be written over. -/
structure FP (n0 : Nat) (w : World) (fA : Option Addr) (E : List PartV) (As : Nat → Option Addr) (cs : Nat → Nat) : Prop where
  parts : ∀ j, j < E.length → ∃ ad, fA = some ad ∧ (∃ PC, w.heap[ad.block]? = some (.cells PC 53 (0, 0))) ∧ w.cell? ⟨(ad.add (j * 3)).block, (ad.add (j * 3)).off + 2, none⟩ = some (.slice (As j) (E.getD j part0).nodes.length (cs j))
  nodes : ∀ j, j < E.length → 0 < (E.getD j part0).nodes.length → ∃ nb CS, As j = some nb ∧ nb.off = 0 ∧ nb.spot = none ∧ n0 ≤ nb.block ∧ w.heap[nb.block]? = some (.cells CS 3 (0, 0)) ∧ (E.getD j part0).nodes.length ≤ CS.size
theorem FP.below {n0 : Nat} {w w1 : World} {fA : Option Addr} {E : List PartV} {As : Nat → Option Addr} {cs : Nat → Nat} (h : FP n0 w fA E As cs) (hb : Below w.heap.size w w1) : FP n0 w1 fA E As cs := by
  refine ⟨fun j hj => ?_, fun j hj hp => ?_⟩
  · obtain ⟨ad, h1, ⟨PC, h2⟩, h3⟩ := h.parts j hj
    exact ⟨ad, h1, ⟨PC, blk_below h2 hb⟩, (hb.cell (World.block_lt_of_cell? w _ h3)).trans h3⟩
  · obtain ⟨nb, CS, h1, h2, h3, h4, h5, h6⟩ := h.nodes j hj hp
    exact ⟨nb, CS, h1, h2, h3, h4, blk_below h5 hb, h6⟩
theorem FP.set {n0 : Nat} {w : World} {fA : Option Addr} {E : List PartV} {As : Nat → Option Addr} {cs : Nat → Nat} (h : FP n0 w fA E As cs) {b s : Nat} {C0 : Array Value} (hb : w.heap[b]? = some (.cells C0 3 (0, 0))) (v : Value) (hv : v.cells.size = 1) (hvv : v.oneCell' = true) : FP n0 (w.setCell ⟨b, s, none⟩ v) fA E As cs := by
  have other : ∀ q, q ≠ b → (w.setCell ⟨b, s, none⟩ v).heap[q]? = w.heap[q]? := fun q hq => Below.heap_setCell w _ _ q hq
  refine ⟨fun j hj => ?_, fun j hj hp => ?_⟩
  · obtain ⟨ad, h1, ⟨PC, h2⟩, h3⟩ := h.parts j hj
    have hne : ad.block ≠ b := fun e => by rw [e, hb] at h2; cases h2
    refine ⟨ad, h1, ⟨PC, (other _ hne).trans h2⟩, ?_⟩
    have hbl : (ad.add (j * 3)).block = ad.block := by unfold Addr.add; split <;> rfl
    have : (w.setCell ⟨b, s, none⟩ v).cell? ⟨(ad.add (j * 3)).block, (ad.add (j * 3)).off + 2, none⟩ = w.cell? ⟨(ad.add (j * 3)).block, (ad.add (j * 3)).off + 2, none⟩ := by
      unfold World.cell?
      simp only [hbl]
      rw [other _ hne]
    rw [this]; exact h3
  · obtain ⟨nb, CS, h1, h2, h3, h4, h5, h6⟩ := h.nodes j hj hp
    by_cases hq : nb.block = b
    · have hput : ∃ CS', (w.setCell ⟨b, s, none⟩ v).heap[b]? = some (.cells CS' 3 (0, 0)) ∧ CS'.size = C0.size := by
        obtain ⟨hlt, hk⟩ := Array.getElem?_eq_some_iff.1 hb
        refine ⟨C0.setIfInBounds s v, ?_, by simp⟩
        show (w.heap.modify b _)[b]? = _
        rw [Array.getElem?_eq_getElem (by rw [Array.size_modify]; exact hlt), Array.getElem_modify_self, hk]
        rfl
      obtain ⟨CS', e1, e2⟩ := hput
      rw [hq, hb] at h5
      injection h5 with h5
      injection h5 with h5
      subst h5
      exact ⟨nb, CS', h1, h2, h3, h4, by rw [hq]; exact e1, by omega⟩
    · exact ⟨nb, CS, h1, h2, h3, h4, (other _ hq).trans h5, h6⟩
theorem less_ {q n : Nat} (h : q < n) : n - (intOf (.int .i64 ((q + 1 : Nat) : Int))).toNat < n - (intOf (.int .i64 (q : Int))).toNat := by simp [intOf]; omega
theorem wrap_next {q n : Nat} (h : n ≤ 140737488355328) (hq : q < n) : wrap64 ((q : Int) + 1) = ((q + 1 : Nat) : Int) := by unfold wrap64; omega
theorem add0 (b i : Nat) : (⟨b, 0, none⟩ : Addr).add i = ⟨b, i, none⟩ := by
  unfold Addr.add
  by_cases h : i = 0
  · simp [h]
  · simp [h]
open Classical in
theorem fp_of {n0 : Nat} {w : World} {fA : Option Addr} {fc : Nat} {E : List PartV} (h : Kd.R k53 53 w 0 (fun k => n0 ≤ k) (.slice fA E.length fc) E) : ∃ As cs, FP n0 w fA E As cs := by
  have hC := (Kd.R_reads' h).2.2
  have each : ∀ j, j < E.length → ∃ q : Option Addr × Nat, (∃ ad, fA = some ad ∧ (∃ PC, w.heap[ad.block]? = some (.cells PC 53 (0, 0))) ∧ w.cell? ⟨(ad.add (j * 3)).block, (ad.add (j * 3)).off + 2, none⟩ = some (.slice q.1 (E.getD j part0).nodes.length q.2)) ∧
      (0 < (E.getD j part0).nodes.length → ∃ nb CS, q.1 = some nb ∧ nb.off = 0 ∧ nb.spot = none ∧ n0 ≤ nb.block ∧ w.heap[nb.block]? = some (.cells CS 3 (0, 0)) ∧ (E.getD j part0).nodes.length ≤ CS.size) := by
    intro j hj
    obtain ⟨ad, hA, -⟩ := hC.2.2 (by omega)
    subst hA
    obtain ⟨g, rfl⟩ := Kd.R_head h
    obtain ⟨cc, hcl, hM, hcell⟩ := Kd.R_getA h part0 (j : Int) (by omega) (by omega)
    rw [Int.toNat_natCast] at hM hcell
    obtain ⟨vb, rfl, hRn⟩ := k53_openM hM
    obtain ⟨An, cn, rfl⟩ := Kd.R_slice hRn
    obtain ⟨PC, hPC⟩ := own_typed (Kd.R_own h).choose_spec g (by simp [Value.ownBlock])
    have h2 := hcell 2 _ rfl
    have e2 : (⟨g, 0, none⟩ : Addr).add (j * k53.sz + 2) = ⟨((⟨g, 0, none⟩ : Addr).add (j * 3)).block, ((⟨g, 0, none⟩ : Addr).add (j * 3)).off + 2, none⟩ := by
      rw [← add_add]; rfl
    rw [e2] at h2
    refine ⟨(An, cn), ⟨_, rfl, ⟨PC, hPC⟩, h2⟩, fun hp => ?_⟩
    obtain ⟨b, cap, hv, -, -, CS, hCS⟩ := Kd.R_form hRn hp
    injection hv with h3 h4 h5
    have hok := (hRn.1 b (by rw [h3]; simp [Value.ownBlock])).1
    have hCn := (Kd.R_reads' hRn).2.2
    obtain ⟨ad2, hA2, hcc⟩ := hCn.2.2 hp
    rw [h3] at hA2
    injection hA2 with hA2
    subst hA2
    refine ⟨⟨b, 0, none⟩, CS, h3, rfl, rfl, hok, hCS, ?_⟩
    -- the last element lies in the block
    obtain ⟨q, hq, -, hcells⟩ := hcc ((E.getD j part0).nodes.length - 1) _ (List.getElem?_eq_getElem (show (E.getD j part0).nodes.length - 1 < (E.getD j part0).nodes.length by omega))
    match q, hq with
    | [u], _ =>
      have h6 := hcells 0 u rfl
      rw [show ((E.getD j part0).nodes.length - 1) * (Kd.int IntKind.i64).sz + 0 = (E.getD j part0).nodes.length - 1 from Nat.mul_one _] at h6
      have hlt : (E.getD j part0).nodes.length - 1 < CS.size := by
        obtain ⟨N1, hN1⟩ : ∃ N1, (E.getD j part0).nodes.length - 1 = N1 := ⟨_, rfl⟩
        rw [hN1] at h6 ⊢
        by_cases hz : N1 = 0
        · rw [hz] at h6 ⊢
          simp [World.cell?, hCS, Addr.add] at h6
          exact (Array.getElem?_eq_some_iff.1 h6).1
        · simp [World.cell?, hCS, Addr.add, hz] at h6
          exact (Array.getElem?_eq_some_iff.1 h6).1
      omega
  refine ⟨fun j => if hj : j < E.length then (each j hj).choose.1 else none, fun j => if hj : j < E.length then (each j hj).choose.2 else 0, ⟨fun j hj => ?_, fun j hj hp => ?_⟩⟩
  · simp only [dif_pos hj]
    exact (each j hj).choose_spec.1
  · simp only [dif_pos hj]
    exact (each j hj).choose_spec.2 hp
set_option maxHeartbeats 12800000 in
set_option maxRecDepth 100000 in
theorem lawMoves (ow tr n owner en id : Int) (A B : Option Addr) (c c2 : Nat) (ps : List PartV) (nl : List Int) (W : World) (hr : Kd.C k53 W A ps.length ps) (hq : Kd.C (Kd.int .i64) W B nl.length nl) (hc : ps.length ≤ c) (hc2 : nl.length ≤ c2) (hl : ps.length ≤ 3518437208780) (hn : ∀ p ∈ ps, p.nodes.length ≤ 17592186043904) (hnl0 : nl.length ≤ 17592186043904) :
    Calls Try.prog 5 #[.agg #[.int .i64 ow, .int .i64 tr, .slice A ps.length c], .int .i64 n, .int .i64 owner, .int .i64 en, .agg #[.int .i64 id, .slice B nl.length c2]] W fun e W' => e = .returned (.bool true) ∧ Below W.heap.size W W' := by
  have hnl : nl.length * 8 ≤ 140737488355328 := by omega
  have HN := Aside0.mk (show ∀ p ∈ ps, p.nodes.length * 8 ≤ 140737488355328 from fun p hp => by have := hn p hp; omega)
  have HN2 := Aside0.mk (show ∀ p ∈ ps, p.nodes.length < 17592186044416 from fun p hp => by have := hn p hp; omega)
  have hrin := extR_in (ow := ow) (tr := tr) (n := n) (owner := owner) (en := en) (id := id) (L := 3518437208781) (by omega) hn hnl0
  have hcin := cutR_in (ow := ow) (tr := tr) (n := n) (addr := en) (L := 3518437208780) hl hn
  obtain ⟨⟨fo, ft, E, fe⟩, hE⟩ : ∃ r, extR ow tr ps n owner en ⟨en, id, nl⟩ = r := ⟨_, rfl⟩
  obtain ⟨⟨jo, jt, J, je⟩, hJ⟩ : ∃ r, cutR ow tr ps n en = r := ⟨_, rfl⟩
  rw [hE] at hrin
  rw [hJ] at hcin
  have HEL := Aside0.mk (show E.length * 40 ≤ 140737488355328 from by have := hrin.1; dsimp only at this; omega)
  have HEN := Aside0.mk (show ∀ p ∈ E, p.nodes.length * 8 ≤ 140737488355328 from fun p hp => by have := hrin.2 p hp; omega)
  have HJL := Aside0.mk (show J.length * 40 ≤ 140737488355328 from by have := hcin.1; dsimp only at this; omega)
  have HJN := Aside0.mk (show ∀ p ∈ J, p.nodes.length * 8 ≤ 140737488355328 from fun p hp => by have := hcin.2 p hp; omega)
  have REXT := Aside0.mk (fun (w : World) (h1 : Kd.C k53 w A ps.length ps) (h2 : Kd.C (Kd.int .i64) w B nl.length nl) => by
    have h := refExtend_c ow tr n owner en id A B c c2 ps nl w h1 h2 hc hc2 (by omega) HN2.out (by omega)
    rw [hE] at h
    exact h)
  have RCUT := Aside0.mk (fun (w : World) (h1 : Kd.C k53 w A ps.length ps) => by
    have h := refCut_c ow tr n en A c ps w h1 hc (by omega) HN2.out
    rw [hJ] at h
    exact h)
  have CUT0 := Aside0.mk (fun (w : World) (A1 : Option Addr) (c1 : Nat) (h1 : Kd.C k53 w A1 ps.length ps) => by
    have h := cut2_c ow tr n en A1 c1 ps w h1 (by omega) HN.out
    rw [hJ] at h
    exact h)
  have EXT0 := Aside0.mk (fun (w : World) (A1 : Option Addr) (c1 : Nat) (Bc : Option Addr) (cc : Nat) (hc1 : ps.length ≤ c1) (h1 : Kd.C k53 w A1 ps.length ps) (h2 : Kd.C (Kd.int .i64) w Bc nl.length nl) (h3 : nl.length ≤ cc) => by
    have h := extend2_c ow tr n owner en id A1 Bc c1 cc ps nl w h1 h2 hc1 h3 (by omega) HN.out hnl
    rw [hE] at h
    exact h)
  clear hrin hcin hE hJ hn
  obtain ⟨o1, ho1⟩ : ∃ o1 : Obj, o1 = .cells #[.int .i64 ow, .int .i64 tr, .slice A ps.length c] 24 (0, 0) := ⟨_, rfl⟩
  obtain ⟨o2, ho2⟩ : ∃ o2 : Obj, o2 = .cells #[.int .i64 id, .slice B nl.length c2] 45 (0, 0) := ⟨_, rfl⟩
  have e1 : (W.alloc o1).heap.size = W.heap.size + 1 := Array.size_push _
  have b2 := heap_alloc_new (W.alloc o1) o2
  rw [e1] at b2
  have HB0 := Aside0.mk (below_alloc (below_alloc (Below.refl W.heap.size W) o1) o2)
  have HC0 := Aside0.mk (Kd.C_alloc (Kd.C_alloc hr o1) o2)
  have HQ0 := Aside0.mk (Kd.C_alloc (Kd.C_alloc hq o1) o2)
  have hb0 := blk_alloc (heap_alloc_new W o1) o2
  rw [ho1, ho2] at hb0
  rw [ho2, ho1] at b2
  have BG0 := Aside0.mk b2
  have BC0 := Aside0.mk hb0
  subst ho1 ho2
  have x0 : ((W.alloc (.cells #[.int .i64 ow, .int .i64 tr, .slice A ps.length c] 24 (0, 0))).alloc (.cells #[.int .i64 id, .slice B nl.length c2] 45 (0, 0))).cell? ⟨W.heap.size, 0, none⟩ = some (.int .i64 ow) := (blk_cell hb0 0).trans rfl
  have x1 : ((W.alloc (.cells #[.int .i64 ow, .int .i64 tr, .slice A ps.length c] 24 (0, 0))).alloc (.cells #[.int .i64 id, .slice B nl.length c2] 45 (0, 0))).cell? ⟨W.heap.size, 1, none⟩ = some (.int .i64 tr) := (blk_cell hb0 1).trans rfl
  have x2 : ((W.alloc (.cells #[.int .i64 ow, .int .i64 tr, .slice A ps.length c] 24 (0, 0))).alloc (.cells #[.int .i64 id, .slice B nl.length c2] 45 (0, 0))).cell? ⟨W.heap.size, 2, none⟩ = some (.slice A ps.length c) := (blk_cell hb0 2).trans rfl
  clear b2 e1 hr hq hb0
  go_enter Try.func5, Try.ntmps5
  go_wp2_with fail
  refine (own_c ow tr A c ps _ HC0.out (by omega) HN.out).mono ?_
  rintro e W1 ⟨A1, c1, rfl, hR1, hb⟩
  obtain ⟨o3, ho3⟩ : ∃ o3 : Obj, o3 = .cells #[.int .i64 ow, .int .i64 tr, .slice A1 ps.length c1] 27 (0, 0) := ⟨_, rfl⟩
  have hc1_ := (Kd.R_reads' hR1).2.1
  have EXT := Aside0.mk (fun (w : World) (Bc : Option Addr) (cc : Nat) (h1 : Kd.C k53 w A1 ps.length ps) (h2 : Kd.C (Kd.int .i64) w Bc nl.length nl) (h3 : nl.length ≤ cc) => EXT0.out w A1 c1 Bc cc hc1_ h1 h2 h3)
  have CUT := Aside0.mk (fun (w : World) (h1 : Kd.C k53 w A1 ps.length ps) => CUT0.out w A1 c1 h1)
  have HI := Aside0.mk (show MovI W ow tr id A A1 B c c1 c2 ps nl W1.heap.size (W1.alloc o3) from ⟨below_alloc (below_step HB0.out hb) _, blk_alloc (blk_below BC0.out hb) _, blk_alloc (blk_below BG0.out hb) _, by rw [ho3]; exact heap_alloc_new _ _, Kd.C_alloc (Kd.R_reads' hR1).2.2 _, Kd.C_alloc (Kd.C_below HC0.out hb) _, Kd.C_alloc (Kd.C_below HQ0.out hb) _⟩)
  subst ho3
  clear hR1 hb HC0 HB0 HQ0 BG0 BC0 x0 x1 x2 EXT0 CUT0 hc1_
  go_wp2_with fail
  refine (find_c ow tr en A1 c1 ps _ HI.out.row).mono ?_
  rintro e W2 ⟨rfl, hb⟩
  have HI2 := Aside0.mk (HI.out.move hb)
  have y0 : W2.cell? ⟨W.heap.size, 0, none⟩ = some (.int .i64 ow) := (blk_cell HI2.out.arg 0).trans rfl
  have y1 : W2.cell? ⟨W.heap.size, 1, none⟩ = some (.int .i64 tr) := (blk_cell HI2.out.arg 1).trans rfl
  have y2 : W2.cell? ⟨W.heap.size, 2, none⟩ = some (.slice A ps.length c) := (blk_cell HI2.out.arg 2).trans rfl
  clear hb HI
  go_wp2_with fail
  refine (refFind_c ow tr en A c ps _ HI2.out.arow).mono ?_
  rintro e WR ⟨rfl, hb⟩
  have HIR := Aside0.mk (HI2.out.move hb)
  clear hb HI2 y0 y1 y2
  obtain ⟨f1, hf1⟩ : ∃ f, (findF tr ps en).1 = f := ⟨_, rfl⟩
  obtain ⟨f2, hf2⟩ : ∃ f, (findF tr ps en).2.1 = f := ⟨_, rfl⟩
  obtain ⟨f3, hf3⟩ : ∃ f, (findF tr ps en).2.2 = f := ⟨_, rfl⟩
  simp only [hf1, hf2, hf3]
  clear hf1 hf2 hf3
  generalize W1.heap.size = gx at HIR ⊢
  go_wp2_with fail
  have HI0 := Aside0.mk (HIR.out.move (below_drew (Below.refl WR.heap.size WR)))
  clear HIR
  refine start_ (n := 13) (S := fun w' => w'.cell? ⟨gx, 0, none⟩ = some (.int .i64 ow) ∧ w'.cell? ⟨gx, 1, none⟩ = some (.int .i64 tr) ∧ w'.cell? ⟨gx, 2, none⟩ = some (.slice A1 ps.length c1) ∧ w'.cell? ⟨W.heap.size + 1, 0, none⟩ = some (.int .i64 id) ∧ w'.cell? ⟨W.heap.size + 1, 1, none⟩ = some (.slice B nl.length c2)) (ds := [11]) #[false, false, false, false, false, false, false, false, false, false, false, false, false] (by kernel_rfl) rfl rfl ⟨(blk_cell HI0.out.x 0).trans rfl, (blk_cell HI0.out.x 1).trans rfl, (blk_cell HI0.out.x 2).trans rfl, (blk_cell HI0.out.cfg 0).trans rfl, (blk_cell HI0.out.cfg 1).trans rfl⟩ (fun hHeld => ?_); refine with_tabW tabM4 bitsM4 (fun HT_ HW_ => ?_)
  generalize hwd : WR.drew = Wd at HI0 hHeld ⊢
  clear hwd
  refine take_ (i := 0) (N := (some 45)) (v := ?_) (a' := ?_) #[true, false, false, false, false, false, false, false, false, false, false, false, false] rfl rfl (take_ofW HT_.out HW_.out (by kernel_rfl)) (fun _ _ _ h => h) (Or.inl ⟨by rfl, ?_⟩) hHeld ?_ ?_
  rotate_left
  · rintro w' ⟨s0, s1, s2, s3, s4⟩
    go_simp
    with_reducible rfl
  rotate_left
  · simp only [Act.put, List.setIfInBounds_toArray, List.set_cons_zero, List.set_cons_succ, i64_w, i32_w]
    rfl
  refine pure_ (i := 1) (N := (some 46)) (v := ?_) (a' := ?_) #[true, true, false, false, false, false, false, false, false, false, false, false, false] rfl rfl (any_of HT_.out (by kernel_rfl)) (fun _ _ _ h => h) (Or.inl ⟨by rfl, ?_⟩) ?_ ?_
  rotate_left
  · intro w'
    go_simp
    with_reducible rfl
  rotate_left
  · simp only [Act.put, List.setIfInBounds_toArray, List.set_cons_zero, List.set_cons_succ, i64_w, i32_w]
    rfl
  refine pure_ (i := 2) (N := (some 47)) (v := ?_) (a' := ?_) #[true, true, true, false, false, false, false, false, false, false, false, false, false] rfl rfl (any_of HT_.out (by kernel_rfl)) (fun _ _ _ h => h) (Or.inl ⟨by rfl, ?_⟩) ?_ ?_
  rotate_left
  · intro w'
    go_simp
    with_reducible rfl
  rotate_left
  · simp only [Act.put, List.setIfInBounds_toArray, List.set_cons_zero, List.set_cons_succ, i64_w, i32_w]
    rfl
  refine pure_ (i := 3) (N := (some 48)) (v := ?_) (a' := ?_) #[true, true, true, true, false, false, false, false, false, false, false, false, false] rfl rfl (any_of HT_.out (by kernel_rfl)) (fun _ _ _ h => h) (Or.inl ⟨by rfl, ?_⟩) ?_ ?_
  rotate_left
  · intro w'
    go_simp
    with_reducible rfl
  rotate_left
  · simp only [Act.put, List.setIfInBounds_toArray, List.set_cons_zero, List.set_cons_succ, i64_w, i32_w]
    rfl
  refine take_ (i := 4) (N := (some 49)) (v := ?_) (a' := ?_) #[true, true, true, true, true, false, false, false, false, false, false, false, false] rfl rfl (take_ofW HT_.out HW_.out (by kernel_rfl)) (fun _ _ _ h => h) (Or.inl ⟨by rfl, ?_⟩) hHeld ?_ ?_
  rotate_left
  · rintro w' ⟨s0, s1, s2, s3, s4⟩
    go_simp
    with_reducible rfl
  rotate_left
  · simp only [Act.put, List.setIfInBounds_toArray, List.set_cons_zero, List.set_cons_succ, i64_w, i32_w]
    rfl
  have HD0 := Aside0.mk (Below.refl Wd.heap.size Wd)
  refine join_ (σ := Value × Option Addr × Nat × Nat) 2 #[true, true, true, true, true, true, true, true, true, true, true, false, false] (fun s => [(50, s.1), (51, .tuple #[.agg #[.int .i64 fo, .int .i64 ft, .slice s.2.1 E.length s.2.2.1], .int .i64 fe]), (44, .tuple #[.agg #[.int .i64 fo, .int .i64 ft, .slice s.2.1 E.length s.2.2.1], .int .i64 fe]), (52, .agg #[.int .i64 fo, .int .i64 ft, .slice s.2.1 E.length s.2.2.1]), (53, .int .i64 fe), (18, .pointer (some ⟨s.2.2.2, 0, none⟩))]) (fun s w' => Wd.heap.size ≤ s.2.2.2 ∧ Below Wd.heap.size Wd w' ∧ Kd.R k53 53 w' 0 (fun q => Wd.heap.size ≤ q) (.slice s.2.1 E.length s.2.2.1) E ∧ w'.heap[s.2.2.2]? = some (.cells #[.int .i64 0, .int .i64 0, .slice none 0 0] 27 (0, 0))) ?_ ?_
  rotate_left
  · intro CONT
    refine two_ (i := 5) (j := 10) (Ni := some 50) (Nj := some 18) #[true, true, true, true, true, true, false, false, false, false, false, false, false] #[true, true, true, true, true, false, false, false, false, false, true, false, false] rfl rfl rfl rfl (two_of HT_.out (by kernel_rfl)) (by decide) (by decide) (fun K hK => ?_) (fun K hK => ?_)
    · refine goes_ Try.func20 (by kernel_rfl) rfl #[.agg #[.int .i64 id, .slice B nl.length c2]] (by rfl) rfl rfl (by (try simp only [List.map_toArray, List.map_cons, List.map_nil]); first | done | rfl) ?_
      refine (config_c id B c2 nl _ HI0.out.nodes hnl).mono ?_
      rintro e w1 ⟨Bc, cc, rfl, hRc, hbL⟩
      refine ⟨_, rfl, ?_⟩
      have HI1 := Aside0.mk (HI0.out.move hbL)
      have HD1 := Aside0.mk (below_step HD0.out hbL)
      have HK1 := Aside0.mk (Kd.R_reads' hRc).2.2
      have HKc := Aside0.mk (Kd.R_reads' hRc).2.1
      clear hbL hRc
      refine hK.out _ _ ⟨(blk_cell HI1.out.x 0).trans rfl, (blk_cell HI1.out.x 1).trans rfl, (blk_cell HI1.out.x 2).trans rfl, (blk_cell HI1.out.cfg 0).trans rfl, (blk_cell HI1.out.cfg 1).trans rfl⟩ (fun hHeld => ?_)
      clear hK K
      refine norm_ (a' := ?_) ?_ ?_
      rotate_left
      · show Act.put _ (some 50) _ = _
        simp only [Act.put, List.setIfInBounds_toArray, List.set_cons_zero, List.set_cons_succ, i64_w, i32_w]
        rfl
      refine two_ (i := 6) (j := 10) (Ni := some 51) (Nj := some 18) #[true, true, true, true, true, true, true, false, false, false, false, false, false] #[true, true, true, true, true, true, false, false, false, false, true, false, false] rfl rfl rfl rfl (two_of HT_.out (by kernel_rfl)) (by decide) (by decide) (fun K hK => ?_) (fun K hK => ?_)
      · refine goes_ Try.func16 (by kernel_rfl) rfl #[.agg #[.int .i64 ow, .int .i64 tr, .slice A1 ps.length c1], .int .i64 n, .int .i64 owner, .int .i64 en, .agg #[.int .i64 id, .slice Bc nl.length cc]] (by rfl) rfl rfl (by (try simp only [List.map_toArray, List.map_cons, List.map_nil]); first | done | rfl) ?_
        refine (EXT.out _ Bc cc HI1.out.row HK1.out HKc.out).mono ?_
        rintro e w2 ⟨fA, fc, rfl, hRf, hbL⟩
        refine ⟨_, rfl, ?_⟩
        have HI2 := Aside0.mk (HI1.out.move hbL)
        have HD2 := Aside0.mk (below_step HD1.out hbL)
        have HK2 := Aside0.mk (Kd.C_below HK1.out hbL)
        have HE2 := Aside0.mk (Kd.R_mono (ok' := fun q => Wd.heap.size ≤ q) hRf (fun q hq => Nat.le_trans HD1.out.size hq))
        clear hbL hRf
        refine hK.out _ _ ⟨(blk_cell HI2.out.x 0).trans rfl, (blk_cell HI2.out.x 1).trans rfl, (blk_cell HI2.out.x 2).trans rfl, (blk_cell HI2.out.cfg 0).trans rfl, (blk_cell HI2.out.cfg 1).trans rfl⟩ (fun hHeld => ?_)
        clear hK K
        refine norm_ (a' := ?_) ?_ ?_
        rotate_left
        · show Act.put _ (some 51) _ = _
          simp only [Act.put, List.setIfInBounds_toArray, List.set_cons_zero, List.set_cons_succ, i64_w, i32_w]
          rfl
        refine pure_ (i := 7) (N := (some 44)) (v := ?_) (a' := ?_) #[true, true, true, true, true, true, true, true, false, false, false, false, false] rfl rfl (any_of HT_.out (by kernel_rfl)) (fun _ _ _ h => h) (Or.inl ⟨by rfl, ?_⟩) ?_ ?_
        rotate_left
        · intro w'
          go_simp
          with_reducible rfl
        rotate_left
        · simp only [Act.put, List.setIfInBounds_toArray, List.set_cons_zero, List.set_cons_succ, i64_w, i32_w]
          rfl
        refine pure_ (i := 8) (N := (some 52)) (v := ?_) (a' := ?_) #[true, true, true, true, true, true, true, true, true, false, false, false, false] rfl rfl (any_of HT_.out (by kernel_rfl)) (fun _ _ _ h => h) (Or.inl ⟨by rfl, ?_⟩) ?_ ?_
        rotate_left
        · intro w'
          go_simp
          with_reducible rfl
        rotate_left
        · simp only [Act.put, List.setIfInBounds_toArray, List.set_cons_zero, List.set_cons_succ, i64_w, i32_w]
          rfl
        refine pure_ (i := 9) (N := (some 53)) (v := ?_) (a' := ?_) #[true, true, true, true, true, true, true, true, true, true, false, false, false] rfl rfl (any_of HT_.out (by kernel_rfl)) (fun _ _ _ h => h) (Or.inl ⟨by rfl, ?_⟩) ?_ ?_
        rotate_left
        · intro w'
          go_simp
          with_reducible rfl
        rotate_left
        · simp only [Act.put, List.setIfInBounds_toArray, List.set_cons_zero, List.set_cons_succ, i64_w, i32_w]
          rfl
        refine one_ (i := 10) (N := some 18) #[true, true, true, true, true, true, true, true, true, true, true, false, false] rfl rfl (one_of HT_.out (by kernel_rfl)) (by decide) (fun K hK => ?_)
        refine box_step (by rfl) (N := 18) rfl (cs := #[.int .i64 0, .int .i64 0, .slice none 0 0]) (t := 27) (by first | (go_simp; done) | (go_simp; rfl)) ?_
        intro g hg w3 hG hbL
        have HI3 := Aside0.mk (HI2.out.move hbL)
        have HD3 := Aside0.mk (below_step HD2.out hbL)
        have HE3 := Aside0.mk (Kd.R_below HE2.out hbL)
        have HK3 := Aside0.mk (Kd.C_below HK2.out hbL)
        have HG3 := Aside0.mk hG
        have HGL := Aside0.mk (show Wd.heap.size ≤ g from by have := HD2.out.size; omega)
        clear hbL hG hg
        refine hK.out _ _ ⟨(blk_cell HI3.out.x 0).trans rfl, (blk_cell HI3.out.x 1).trans rfl, (blk_cell HI3.out.x 2).trans rfl, (blk_cell HI3.out.cfg 0).trans rfl, (blk_cell HI3.out.cfg 1).trans rfl⟩ (fun hHeld => ?_)
        clear hK K
        refine norm_ (a' := ?_) ?_ ?_
        rotate_left
        · show Act.put _ (some 18) _ = _
          simp only [Act.put, List.setIfInBounds_toArray, List.set_cons_zero, List.set_cons_succ, i64_w, i32_w]
          rfl
        exact norm_ (by first | (simp only [putAll, Act.put, List.setIfInBounds_toArray, List.set_cons_zero, List.set_cons_succ]; done) | (simp only [putAll, Act.put, List.setIfInBounds_toArray, List.set_cons_zero, List.set_cons_succ]; rfl)) (CONT (.agg #[.int .i64 id, .slice Bc nl.length cc], fA, fc, g) _ ⟨HGL.out, HD3.out, HE3.out, HG3.out⟩)
      · refine box_step (by rfl) (N := 18) rfl (cs := #[.int .i64 0, .int .i64 0, .slice none 0 0]) (t := 27) (by first | (go_simp; done) | (go_simp; rfl)) ?_
        intro g hg w2 hG hbL
        have HI2 := Aside0.mk (HI1.out.move hbL)
        have HD2 := Aside0.mk (below_step HD1.out hbL)
        have HK2 := Aside0.mk (Kd.C_below HK1.out hbL)
        have HG2 := Aside0.mk hG
        have HGL := Aside0.mk (show Wd.heap.size ≤ g from by have := HD1.out.size; omega)
        clear hbL hG hg
        refine hK.out _ _ ⟨(blk_cell HI2.out.x 0).trans rfl, (blk_cell HI2.out.x 1).trans rfl, (blk_cell HI2.out.x 2).trans rfl, (blk_cell HI2.out.cfg 0).trans rfl, (blk_cell HI2.out.cfg 1).trans rfl⟩ (fun hHeld => ?_)
        clear hK K
        refine norm_ (a' := ?_) ?_ ?_
        rotate_left
        · show Act.put _ (some 18) _ = _
          simp only [Act.put, List.setIfInBounds_toArray, List.set_cons_zero, List.set_cons_succ, i64_w, i32_w]
          rfl
        refine one_ (i := 6) (N := some 51) #[true, true, true, true, true, true, true, false, false, false, true, false, false] rfl rfl (one_of HT_.out (by kernel_rfl)) (by decide) (fun K hK => ?_)
        refine goes_ Try.func16 (by kernel_rfl) rfl #[.agg #[.int .i64 ow, .int .i64 tr, .slice A1 ps.length c1], .int .i64 n, .int .i64 owner, .int .i64 en, .agg #[.int .i64 id, .slice Bc nl.length cc]] (by rfl) rfl rfl (by (try simp only [List.map_toArray, List.map_cons, List.map_nil]); first | done | rfl) ?_
        refine (EXT.out _ Bc cc HI2.out.row HK2.out HKc.out).mono ?_
        rintro e w3 ⟨fA, fc, rfl, hRf, hbL⟩
        refine ⟨_, rfl, ?_⟩
        have HI3 := Aside0.mk (HI2.out.move hbL)
        have HD3 := Aside0.mk (below_step HD2.out hbL)
        have HG3 := Aside0.mk (blk_below HG2.out hbL)
        have HK3 := Aside0.mk (Kd.C_below HK2.out hbL)
        have HE3 := Aside0.mk (Kd.R_mono (ok' := fun q => Wd.heap.size ≤ q) hRf (fun q hq => Nat.le_trans HD2.out.size hq))
        clear hbL hRf
        refine hK.out _ _ ⟨(blk_cell HI3.out.x 0).trans rfl, (blk_cell HI3.out.x 1).trans rfl, (blk_cell HI3.out.x 2).trans rfl, (blk_cell HI3.out.cfg 0).trans rfl, (blk_cell HI3.out.cfg 1).trans rfl⟩ (fun hHeld => ?_)
        clear hK K
        refine norm_ (a' := ?_) ?_ ?_
        rotate_left
        · show Act.put _ (some 51) _ = _
          simp only [Act.put, List.setIfInBounds_toArray, List.set_cons_zero, List.set_cons_succ, i64_w, i32_w]
          rfl
        refine pure_ (i := 7) (N := (some 44)) (v := ?_) (a' := ?_) #[true, true, true, true, true, true, true, true, false, false, true, false, false] rfl rfl (any_of HT_.out (by kernel_rfl)) (fun _ _ _ h => h) (Or.inl ⟨by rfl, ?_⟩) ?_ ?_
        rotate_left
        · intro w'
          go_simp
          with_reducible rfl
        rotate_left
        · simp only [Act.put, List.setIfInBounds_toArray, List.set_cons_zero, List.set_cons_succ, i64_w, i32_w]
          rfl
        refine pure_ (i := 8) (N := (some 52)) (v := ?_) (a' := ?_) #[true, true, true, true, true, true, true, true, true, false, true, false, false] rfl rfl (any_of HT_.out (by kernel_rfl)) (fun _ _ _ h => h) (Or.inl ⟨by rfl, ?_⟩) ?_ ?_
        rotate_left
        · intro w'
          go_simp
          with_reducible rfl
        rotate_left
        · simp only [Act.put, List.setIfInBounds_toArray, List.set_cons_zero, List.set_cons_succ, i64_w, i32_w]
          rfl
        refine pure_ (i := 9) (N := (some 53)) (v := ?_) (a' := ?_) #[true, true, true, true, true, true, true, true, true, true, true, false, false] rfl rfl (any_of HT_.out (by kernel_rfl)) (fun _ _ _ h => h) (Or.inl ⟨by rfl, ?_⟩) ?_ ?_
        rotate_left
        · intro w'
          go_simp
          with_reducible rfl
        rotate_left
        · simp only [Act.put, List.setIfInBounds_toArray, List.set_cons_zero, List.set_cons_succ, i64_w, i32_w]
          rfl
        exact norm_ (by first | (simp only [putAll, Act.put, List.setIfInBounds_toArray, List.set_cons_zero, List.set_cons_succ]; done) | (simp only [putAll, Act.put, List.setIfInBounds_toArray, List.set_cons_zero, List.set_cons_succ]; rfl)) (CONT (.agg #[.int .i64 id, .slice Bc nl.length cc], fA, fc, g) _ ⟨HGL.out, HD3.out, HE3.out, HG3.out⟩)
    · refine box_step (by rfl) (N := 18) rfl (cs := #[.int .i64 0, .int .i64 0, .slice none 0 0]) (t := 27) (by first | (go_simp; done) | (go_simp; rfl)) ?_
      intro g hg w1 hG hbL
      have HI1 := Aside0.mk (HI0.out.move hbL)
      have HD1 := Aside0.mk (below_step HD0.out hbL)
      have HG1 := Aside0.mk hG
      have HGL := Aside0.mk (show Wd.heap.size ≤ g from by have := HD0.out.size; omega)
      clear hbL hG hg
      refine hK.out _ _ ⟨(blk_cell HI1.out.x 0).trans rfl, (blk_cell HI1.out.x 1).trans rfl, (blk_cell HI1.out.x 2).trans rfl, (blk_cell HI1.out.cfg 0).trans rfl, (blk_cell HI1.out.cfg 1).trans rfl⟩ (fun hHeld => ?_)
      clear hK K
      refine norm_ (a' := ?_) ?_ ?_
      rotate_left
      · show Act.put _ (some 18) _ = _
        simp only [Act.put, List.setIfInBounds_toArray, List.set_cons_zero, List.set_cons_succ, i64_w, i32_w]
        rfl
      refine one_ (i := 5) (N := some 50) #[true, true, true, true, true, true, false, false, false, false, true, false, false] rfl rfl (one_of HT_.out (by kernel_rfl)) (by decide) (fun K hK => ?_)
      refine goes_ Try.func20 (by kernel_rfl) rfl #[.agg #[.int .i64 id, .slice B nl.length c2]] (by rfl) rfl rfl (by (try simp only [List.map_toArray, List.map_cons, List.map_nil]); first | done | rfl) ?_
      refine (config_c id B c2 nl _ HI1.out.nodes hnl).mono ?_
      rintro e w2 ⟨Bc, cc, rfl, hRc, hbL⟩
      refine ⟨_, rfl, ?_⟩
      have HI2 := Aside0.mk (HI1.out.move hbL)
      have HD2 := Aside0.mk (below_step HD1.out hbL)
      have HG2 := Aside0.mk (blk_below HG1.out hbL)
      have HK2 := Aside0.mk (Kd.R_reads' hRc).2.2
      have HKc := Aside0.mk (Kd.R_reads' hRc).2.1
      clear hbL hRc
      refine hK.out _ _ ⟨(blk_cell HI2.out.x 0).trans rfl, (blk_cell HI2.out.x 1).trans rfl, (blk_cell HI2.out.x 2).trans rfl, (blk_cell HI2.out.cfg 0).trans rfl, (blk_cell HI2.out.cfg 1).trans rfl⟩ (fun hHeld => ?_)
      clear hK K
      refine norm_ (a' := ?_) ?_ ?_
      rotate_left
      · show Act.put _ (some 50) _ = _
        simp only [Act.put, List.setIfInBounds_toArray, List.set_cons_zero, List.set_cons_succ, i64_w, i32_w]
        rfl
      refine one_ (i := 6) (N := some 51) #[true, true, true, true, true, true, true, false, false, false, true, false, false] rfl rfl (one_of HT_.out (by kernel_rfl)) (by decide) (fun K hK => ?_)
      refine goes_ Try.func16 (by kernel_rfl) rfl #[.agg #[.int .i64 ow, .int .i64 tr, .slice A1 ps.length c1], .int .i64 n, .int .i64 owner, .int .i64 en, .agg #[.int .i64 id, .slice Bc nl.length cc]] (by rfl) rfl rfl (by (try simp only [List.map_toArray, List.map_cons, List.map_nil]); first | done | rfl) ?_
      refine (EXT.out _ Bc cc HI2.out.row HK2.out HKc.out).mono ?_
      rintro e w3 ⟨fA, fc, rfl, hRf, hbL⟩
      refine ⟨_, rfl, ?_⟩
      have HI3 := Aside0.mk (HI2.out.move hbL)
      have HD3 := Aside0.mk (below_step HD2.out hbL)
      have HG3 := Aside0.mk (blk_below HG2.out hbL)
      have HK3 := Aside0.mk (Kd.C_below HK2.out hbL)
      have HE3 := Aside0.mk (Kd.R_mono (ok' := fun q => Wd.heap.size ≤ q) hRf (fun q hq => Nat.le_trans HD2.out.size hq))
      clear hbL hRf
      refine hK.out _ _ ⟨(blk_cell HI3.out.x 0).trans rfl, (blk_cell HI3.out.x 1).trans rfl, (blk_cell HI3.out.x 2).trans rfl, (blk_cell HI3.out.cfg 0).trans rfl, (blk_cell HI3.out.cfg 1).trans rfl⟩ (fun hHeld => ?_)
      clear hK K
      refine norm_ (a' := ?_) ?_ ?_
      rotate_left
      · show Act.put _ (some 51) _ = _
        simp only [Act.put, List.setIfInBounds_toArray, List.set_cons_zero, List.set_cons_succ, i64_w, i32_w]
        rfl
      refine pure_ (i := 7) (N := (some 44)) (v := ?_) (a' := ?_) #[true, true, true, true, true, true, true, true, false, false, true, false, false] rfl rfl (any_of HT_.out (by kernel_rfl)) (fun _ _ _ h => h) (Or.inl ⟨by rfl, ?_⟩) ?_ ?_
      rotate_left
      · intro w'
        go_simp
        with_reducible rfl
      rotate_left
      · simp only [Act.put, List.setIfInBounds_toArray, List.set_cons_zero, List.set_cons_succ, i64_w, i32_w]
        rfl
      refine pure_ (i := 8) (N := (some 52)) (v := ?_) (a' := ?_) #[true, true, true, true, true, true, true, true, true, false, true, false, false] rfl rfl (any_of HT_.out (by kernel_rfl)) (fun _ _ _ h => h) (Or.inl ⟨by rfl, ?_⟩) ?_ ?_
      rotate_left
      · intro w'
        go_simp
        with_reducible rfl
      rotate_left
      · simp only [Act.put, List.setIfInBounds_toArray, List.set_cons_zero, List.set_cons_succ, i64_w, i32_w]
        rfl
      refine pure_ (i := 9) (N := (some 53)) (v := ?_) (a' := ?_) #[true, true, true, true, true, true, true, true, true, true, true, false, false] rfl rfl (any_of HT_.out (by kernel_rfl)) (fun _ _ _ h => h) (Or.inl ⟨by rfl, ?_⟩) ?_ ?_
      rotate_left
      · intro w'
        go_simp
        with_reducible rfl
      rotate_left
      · simp only [Act.put, List.setIfInBounds_toArray, List.set_cons_zero, List.set_cons_succ, i64_w, i32_w]
        rfl
      exact norm_ (by first | (simp only [putAll, Act.put, List.setIfInBounds_toArray, List.set_cons_zero, List.set_cons_succ]; done) | (simp only [putAll, Act.put, List.setIfInBounds_toArray, List.set_cons_zero, List.set_cons_succ]; rfl)) (CONT (.agg #[.int .i64 id, .slice Bc nl.length cc], fA, fc, g) _ ⟨HGL.out, HD3.out, HE3.out, HG3.out⟩)
  rintro ⟨v50, fA, fc, g⟩ w5 ⟨hgl, hD, hE, hG⟩
  dsimp only at hgl hE hG
  refine norm_ (a' := ?_) ?_ ?_
  rotate_left
  · simp only [putAll, Act.put, List.setIfInBounds_toArray, List.set_cons_zero, List.set_cons_succ]
    rfl
  have z0 : w5.cell? ⟨g, 0, none⟩ = some (.int .i64 0) := (blk_cell hG 0).trans rfl
  have z1 : w5.cell? ⟨g, 1, none⟩ = some (.int .i64 0) := (blk_cell hG 1).trans rfl
  have z2 : w5.cell? ⟨g, 2, none⟩ = some (.slice none 0 0) := (blk_cell hG 2).trans rfl
  have f0 := blk_frozen hG 0
  have f1_ := blk_frozen hG 1
  have f2_ := blk_frozen hG 2
  have HF5 := Aside0.mk (put3_R (x := .int .i64 fo) (y := .int .i64 ft) (z := .slice fA E.length fc) hE hG (by decide))
  have HG5 := Aside0.mk (put3 (x := .int .i64 fo) (y := .int .i64 ft) (z := .slice fA E.length fc) hG)
  have HD5 := Aside0.mk (put3_B (x := .int .i64 fo) (y := .int .i64 ft) (z := .slice fA E.length fc) hD hgl)
  have HGL := Aside0.mk hgl
  clear hE hG hD hgl hHeld
  refine last_ (i := 11) (N := none) #[true, true, true, true, true, true, true, true, true, true, true, true, false] rfl rfl (one_of HT_.out (by kernel_rfl)) (by decide) (fun K hK => ?_)
  refine skip_ (w1 := ?_) (by rfl) rfl ?_ ?_
  rotate_left
  · go_simp
    rfl
  refine hK.out _ _ ?_
  clear hK K
  clear z0 z1 z2 f0 f1_ f2_
  generalize (((w5.setCell ⟨g, 0, none⟩ (.int .i64 fo)).setCell ⟨g, 1, none⟩ (.int .i64 ft)).setCell ⟨g, 2, none⟩ (.slice fA E.length fc)) = w6 at HF5 HG5 HD5 ⊢
  refine pure_ (i := 12) (N := (some 19)) (v := ?_) (a' := ?_) #[true, true, true, true, true, true, true, true, true, true, true, true, true] rfl rfl (any_of HT_.out (by kernel_rfl)) (fun _ _ _ h => h) (Or.inl ⟨by rfl, ?_⟩) ?_ ?_
  rotate_left
  · intro w'
    go_simp
    with_reducible rfl
  rotate_left
  · simp only [Act.put, List.setIfInBounds_toArray, List.set_cons_zero, List.set_cons_succ, i64_w, i32_w]
    rfl
  refine done_ (done_of HT_.out (by kernel_rfl)) ?_
  clear HT_ HW_
  have HI5 := Aside0.mk (HI0.out.move HD5.out)
  have qa0 : w6.cell? ⟨W.heap.size, 0, none⟩ = some (.int .i64 ow) := (blk_cell HI5.out.arg 0).trans rfl
  have qa1 : w6.cell? ⟨W.heap.size, 1, none⟩ = some (.int .i64 tr) := (blk_cell HI5.out.arg 1).trans rfl
  have qa2 : w6.cell? ⟨W.heap.size, 2, none⟩ = some (.slice A ps.length c) := (blk_cell HI5.out.arg 2).trans rfl
  have qb0 : w6.cell? ⟨W.heap.size + 1, 0, none⟩ = some (.int .i64 id) := (blk_cell HI5.out.cfg 0).trans rfl
  have qb1 : w6.cell? ⟨W.heap.size + 1, 1, none⟩ = some (.slice B nl.length c2) := (blk_cell HI5.out.cfg 1).trans rfl
  go_wp2_with fail
  refine (REXT.out w6 HI5.out.arow HI5.out.nodes).mono ?_
  rintro e w7 ⟨hA, hc_, rfl, hCh, hbL⟩
  clear qa0 qa1 qa2 qb0 qb1
  have HI5_ := Aside0.mk (HI5.out.move hbL)
  have HG5_ := Aside0.mk (blk_below HG5.out hbL)
  have HF5_ := Aside0.mk (Kd.R_below HF5.out hbL)
  have HD5_ := Aside0.mk (below_step HD5.out hbL)
  clear HI5 HG5 HF5 HD5
  have HI5 := HI5_
  have HG5 := HG5_
  have HF5 := HF5_
  have HD5 := HD5_
  clear HI5_ HG5_ HF5_ HD5_
  clear hbL
  have HCH := Aside0.mk (hCh)
  have hal := below_alloc (Below.refl w7.heap.size w7) (.cells #[.int .i64 fo, .int .i64 ft, .slice hA E.length hc_] 24 (0, 0))
  have BH := Aside0.mk (heap_alloc_new w7 (.cells #[.int .i64 fo, .int .i64 ft, .slice hA E.length hc_] 24 (0, 0)))
  have HI5_ := Aside0.mk (HI5.out.move hal)
  have HG5_ := Aside0.mk (blk_below HG5.out hal)
  have HF5_ := Aside0.mk (Kd.R_below HF5.out hal)
  have HD5_ := Aside0.mk (below_step HD5.out hal)
  have HCH_ := Aside0.mk (Kd.C_below HCH.out hal)
  clear HI5 HG5 HF5 HD5 HCH
  have HI5 := HI5_
  have HG5 := HG5_
  have HF5 := HF5_
  have HD5 := HD5_
  have HCH := HCH_
  clear HI5_ HG5_ HF5_ HD5_ HCH_
  clear hal
  clear hCh
  have qa0 : (w7.alloc (.cells #[.int .i64 fo, .int .i64 ft, .slice hA E.length hc_] 24 (0, 0))).cell? ⟨gx, 0, none⟩ = some (.int .i64 ow) := (blk_cell HI5.out.x 0).trans rfl
  have qa1 : (w7.alloc (.cells #[.int .i64 fo, .int .i64 ft, .slice hA E.length hc_] 24 (0, 0))).cell? ⟨gx, 1, none⟩ = some (.int .i64 tr) := (blk_cell HI5.out.x 1).trans rfl
  have qa2 : (w7.alloc (.cells #[.int .i64 fo, .int .i64 ft, .slice hA E.length hc_] 24 (0, 0))).cell? ⟨gx, 2, none⟩ = some (.slice A1 ps.length c1) := (blk_cell HI5.out.x 2).trans rfl
  go_wp2_with fail
  refine (CUT.out (w7.alloc (.cells #[.int .i64 fo, .int .i64 ft, .slice hA E.length hc_] 24 (0, 0))) HI5.out.row).mono ?_
  rintro e w8 ⟨jA, jc, rfl, hCj, hbL⟩
  clear qa0 qa1 qa2
  have HI5_ := Aside0.mk (HI5.out.move hbL)
  have HG5_ := Aside0.mk (blk_below HG5.out hbL)
  have HF5_ := Aside0.mk (Kd.R_below HF5.out hbL)
  have HD5_ := Aside0.mk (below_step HD5.out hbL)
  have HCH_ := Aside0.mk (Kd.C_below HCH.out hbL)
  have BH_ := Aside0.mk (blk_below BH.out hbL)
  clear HI5 HG5 HF5 HD5 HCH BH
  have HI5 := HI5_
  have HG5 := HG5_
  have HF5 := HF5_
  have HD5 := HD5_
  have HCH := HCH_
  have BH := BH_
  clear HI5_ HG5_ HF5_ HD5_ HCH_ BH_
  clear hbL
  have HCJ := Aside0.mk (hCj)
  have hal := below_alloc (Below.refl w8.heap.size w8) (.cells #[.int .i64 jo, .int .i64 jt, .slice jA J.length jc] 27 (0, 0))
  have BJ := Aside0.mk (heap_alloc_new w8 (.cells #[.int .i64 jo, .int .i64 jt, .slice jA J.length jc] 27 (0, 0)))
  have HI5_ := Aside0.mk (HI5.out.move hal)
  have HG5_ := Aside0.mk (blk_below HG5.out hal)
  have HF5_ := Aside0.mk (Kd.R_below HF5.out hal)
  have HD5_ := Aside0.mk (below_step HD5.out hal)
  have HCH_ := Aside0.mk (Kd.C_below HCH.out hal)
  have BH_ := Aside0.mk (blk_below BH.out hal)
  have HCJ_ := Aside0.mk (Kd.C_below HCJ.out hal)
  clear HI5 HG5 HF5 HD5 HCH BH HCJ
  have HI5 := HI5_
  have HG5 := HG5_
  have HF5 := HF5_
  have HD5 := HD5_
  have HCH := HCH_
  have BH := BH_
  have HCJ := HCJ_
  clear HI5_ HG5_ HF5_ HD5_ HCH_ BH_ HCJ_
  clear hal
  clear hCj
  have qa0 : (w8.alloc (.cells #[.int .i64 jo, .int .i64 jt, .slice jA J.length jc] 27 (0, 0))).cell? ⟨W.heap.size, 0, none⟩ = some (.int .i64 ow) := (blk_cell HI5.out.arg 0).trans rfl
  have qa1 : (w8.alloc (.cells #[.int .i64 jo, .int .i64 jt, .slice jA J.length jc] 27 (0, 0))).cell? ⟨W.heap.size, 1, none⟩ = some (.int .i64 tr) := (blk_cell HI5.out.arg 1).trans rfl
  have qa2 : (w8.alloc (.cells #[.int .i64 jo, .int .i64 jt, .slice jA J.length jc] 27 (0, 0))).cell? ⟨W.heap.size, 2, none⟩ = some (.slice A ps.length c) := (blk_cell HI5.out.arg 2).trans rfl
  go_wp2_with fail
  refine (RCUT.out (w8.alloc (.cells #[.int .i64 jo, .int .i64 jt, .slice jA J.length jc] 27 (0, 0))) HI5.out.arow).mono ?_
  rintro e w9 ⟨lA, lc, rfl, hCl, hbL⟩
  clear qa0 qa1 qa2
  have HI5_ := Aside0.mk (HI5.out.move hbL)
  have HG5_ := Aside0.mk (blk_below HG5.out hbL)
  have HF5_ := Aside0.mk (Kd.R_below HF5.out hbL)
  have HD5_ := Aside0.mk (below_step HD5.out hbL)
  have HCH_ := Aside0.mk (Kd.C_below HCH.out hbL)
  have BH_ := Aside0.mk (blk_below BH.out hbL)
  have HCJ_ := Aside0.mk (Kd.C_below HCJ.out hbL)
  have BJ_ := Aside0.mk (blk_below BJ.out hbL)
  clear HI5 HG5 HF5 HD5 HCH BH HCJ BJ
  have HI5 := HI5_
  have HG5 := HG5_
  have HF5 := HF5_
  have HD5 := HD5_
  have HCH := HCH_
  have BH := BH_
  have HCJ := HCJ_
  have BJ := BJ_
  clear HI5_ HG5_ HF5_ HD5_ HCH_ BH_ HCJ_ BJ_
  clear hbL
  have HCL := Aside0.mk (hCl)
  have hal := below_alloc (Below.refl w9.heap.size w9) (.cells #[.int .i64 jo, .int .i64 jt, .slice lA J.length lc] 24 (0, 0))
  have BL := Aside0.mk (heap_alloc_new w9 (.cells #[.int .i64 jo, .int .i64 jt, .slice lA J.length lc] 24 (0, 0)))
  have HI5_ := Aside0.mk (HI5.out.move hal)
  have HG5_ := Aside0.mk (blk_below HG5.out hal)
  have HF5_ := Aside0.mk (Kd.R_below HF5.out hal)
  have HD5_ := Aside0.mk (below_step HD5.out hal)
  have HCH_ := Aside0.mk (Kd.C_below HCH.out hal)
  have BH_ := Aside0.mk (blk_below BH.out hal)
  have HCJ_ := Aside0.mk (Kd.C_below HCJ.out hal)
  have BJ_ := Aside0.mk (blk_below BJ.out hal)
  have HCL_ := Aside0.mk (Kd.C_below HCL.out hal)
  clear HI5 HG5 HF5 HD5 HCH BH HCJ BJ HCL
  have HI5 := HI5_
  have HG5 := HG5_
  have HF5 := HF5_
  have HD5 := HD5_
  have HCH := HCH_
  have BH := BH_
  have HCJ := HCJ_
  have BJ := BJ_
  have HCL := HCL_
  clear HI5_ HG5_ HF5_ HD5_ HCH_ BH_ HCJ_ BJ_ HCL_
  clear hal
  clear hCl REXT RCUT EXT CUT
  go_wp2_with fail
  have hdr := below_drew (Below.refl (w9.alloc (.cells #[.int .i64 jo, .int .i64 jt, .slice lA J.length lc] 24 (0, 0))).heap.size (w9.alloc (.cells #[.int .i64 jo, .int .i64 jt, .slice lA J.length lc] 24 (0, 0))))
  have HI5_ := Aside0.mk (HI5.out.move hdr)
  have HG5_ := Aside0.mk (blk_below HG5.out hdr)
  have HF5_ := Aside0.mk (Kd.R_below HF5.out hdr)
  have HD5_ := Aside0.mk (below_step HD5.out hdr)
  have HCH_ := Aside0.mk (Kd.C_below HCH.out hdr)
  have BH_ := Aside0.mk (blk_below BH.out hdr)
  have HCJ_ := Aside0.mk (Kd.C_below HCJ.out hdr)
  have BJ_ := Aside0.mk (blk_below BJ.out hdr)
  have HCL_ := Aside0.mk (Kd.C_below HCL.out hdr)
  have BL_ := Aside0.mk (blk_below BL.out hdr)
  clear HI5 HG5 HF5 HD5 HCH BH HCJ BJ HCL BL
  have HI5 := HI5_
  have HG5 := HG5_
  have HF5 := HF5_
  have HD5 := HD5_
  have HCH := HCH_
  have BH := BH_
  have HCJ := HCJ_
  have BJ := BJ_
  have HCL := HCL_
  have BL := BL_
  clear HI5_ HG5_ HF5_ HD5_ HCH_ BH_ HCJ_ BJ_ HCL_ BL_
  clear hdr
  refine start_ (n := 48) (S := fun w' => w'.cell? ⟨g, 0, none⟩ = some (.int .i64 fo) ∧ w'.cell? ⟨g, 1, none⟩ = some (.int .i64 ft) ∧ w'.cell? ⟨g, 2, none⟩ = some (.slice fA E.length fc) ∧ w'.cell? ⟨w7.heap.size, 0, none⟩ = some (.int .i64 fo) ∧ w'.cell? ⟨w7.heap.size, 1, none⟩ = some (.int .i64 ft) ∧ w'.cell? ⟨w7.heap.size, 2, none⟩ = some (.slice hA E.length hc_) ∧ w'.cell? ⟨w8.heap.size, 0, none⟩ = some (.int .i64 jo) ∧ w'.cell? ⟨w8.heap.size, 1, none⟩ = some (.int .i64 jt) ∧ w'.cell? ⟨w8.heap.size, 2, none⟩ = some (.slice jA J.length jc) ∧ w'.cell? ⟨w9.heap.size, 0, none⟩ = some (.int .i64 jo) ∧ w'.cell? ⟨w9.heap.size, 1, none⟩ = some (.int .i64 jt) ∧ w'.cell? ⟨w9.heap.size, 2, none⟩ = some (.slice lA J.length lc) ∧ w'.cell? ⟨gx, 0, none⟩ = some (.int .i64 ow) ∧ w'.cell? ⟨gx, 1, none⟩ = some (.int .i64 tr) ∧ w'.cell? ⟨gx, 2, none⟩ = some (.slice A1 ps.length c1) ∧ w'.cell? ⟨W.heap.size, 0, none⟩ = some (.int .i64 ow) ∧ w'.cell? ⟨W.heap.size, 1, none⟩ = some (.int .i64 tr) ∧ w'.cell? ⟨W.heap.size, 2, none⟩ = some (.slice A ps.length c)) (ds := []) #[false, false, false, false, false, false, false, false, false, false, false, false, false, false, false, false, false, false, false, false, false, false, false, false, false, false, false, false, false, false, false, false, false, false, false, false, false, false, false, false, false, false, false, false, false, false, false, false] (by kernel_rfl) rfl rfl ⟨(blk_cell HG5.out 0).trans rfl, (blk_cell HG5.out 1).trans rfl, (blk_cell HG5.out 2).trans rfl, (blk_cell BH.out 0).trans rfl, (blk_cell BH.out 1).trans rfl, (blk_cell BH.out 2).trans rfl, (blk_cell BJ.out 0).trans rfl, (blk_cell BJ.out 1).trans rfl, (blk_cell BJ.out 2).trans rfl, (blk_cell BL.out 0).trans rfl, (blk_cell BL.out 1).trans rfl, (blk_cell BL.out 2).trans rfl, (blk_cell HI5.out.x 0).trans rfl, (blk_cell HI5.out.x 1).trans rfl, (blk_cell HI5.out.x 2).trans rfl, (blk_cell HI5.out.arg 0).trans rfl, (blk_cell HI5.out.arg 1).trans rfl, (blk_cell HI5.out.arg 2).trans rfl⟩ (fun hHeld => ?_); refine with_tabW tabM8 bitsM8 (fun HT_ HW_ => ?_)
  generalize hwd : (w9.alloc _).drew = WM at HI5 HG5 HF5 HD5 HCH BH HCJ BJ HCL BL hHeld ⊢
  clear hwd
  refine pure_ (i := 0) (N := (some 77)) (v := ?_) (a' := ?_) #[true, false, false, false, false, false, false, false, false, false, false, false, false, false, false, false, false, false, false, false, false, false, false, false, false, false, false, false, false, false, false, false, false, false, false, false, false, false, false, false, false, false, false, false, false, false, false, false] rfl rfl (any_of HT_.out (by kernel_rfl)) (fun _ _ _ h => h) (Or.inl ⟨by rfl, ?_⟩) ?_ ?_
  rotate_left
  · intro w'
    go_simp
    with_reducible rfl
  rotate_left
  · simp only [Act.put, List.setIfInBounds_toArray, List.set_cons_zero, List.set_cons_succ, i64_w, i32_w]
    rfl
  refine pure_ (i := 1) (N := (some 78)) (v := ?_) (a' := ?_) #[true, true, false, false, false, false, false, false, false, false, false, false, false, false, false, false, false, false, false, false, false, false, false, false, false, false, false, false, false, false, false, false, false, false, false, false, false, false, false, false, false, false, false, false, false, false, false, false] rfl rfl (any_of HT_.out (by kernel_rfl)) (fun _ _ _ h => h) (Or.inl ⟨by rfl, ?_⟩) ?_ ?_
  rotate_left
  · intro w'
    go_simp
    with_reducible rfl
  rotate_left
  · simp only [Act.put, List.setIfInBounds_toArray, List.set_cons_zero, List.set_cons_succ, i64_w, i32_w]
    rfl
  refine pure_ (i := 2) (N := (some 79)) (v := ?_) (a' := ?_) #[true, true, true, false, false, false, false, false, false, false, false, false, false, false, false, false, false, false, false, false, false, false, false, false, false, false, false, false, false, false, false, false, false, false, false, false, false, false, false, false, false, false, false, false, false, false, false, false] rfl rfl (any_of HT_.out (by kernel_rfl)) (fun _ _ _ h => h) (Or.inl ⟨by rfl, ?_⟩) ?_ ?_
  rotate_left
  · intro w'
    go_simp
    with_reducible rfl
  rotate_left
  · simp only [Act.put, List.setIfInBounds_toArray, List.set_cons_zero, List.set_cons_succ, i64_w, i32_w]
    rfl
  refine pure_ (i := 3) (N := (some 80)) (v := ?_) (a' := ?_) #[true, true, true, true, false, false, false, false, false, false, false, false, false, false, false, false, false, false, false, false, false, false, false, false, false, false, false, false, false, false, false, false, false, false, false, false, false, false, false, false, false, false, false, false, false, false, false, false] rfl rfl (any_of HT_.out (by kernel_rfl)) (fun _ _ _ h => h) (Or.inl ⟨by rfl, ?_⟩) ?_ ?_
  rotate_left
  · intro w'
    go_simp
    with_reducible rfl
  rotate_left
  · simp only [Act.put, List.setIfInBounds_toArray, List.set_cons_zero, List.set_cons_succ, i64_w, i32_w]
    rfl
  refine pure_ (i := 4) (N := (some 81)) (v := ?_) (a' := ?_) #[true, true, true, true, true, false, false, false, false, false, false, false, false, false, false, false, false, false, false, false, false, false, false, false, false, false, false, false, false, false, false, false, false, false, false, false, false, false, false, false, false, false, false, false, false, false, false, false] rfl rfl (any_of HT_.out (by kernel_rfl)) (fun _ _ _ h => h) (Or.inl ⟨by rfl, ?_⟩) ?_ ?_
  rotate_left
  · intro w'
    go_simp
    with_reducible rfl
  rotate_left
  · simp only [Act.put, List.setIfInBounds_toArray, List.set_cons_zero, List.set_cons_succ, i64_w, i32_w]
    rfl
  refine pure_ (i := 5) (N := (some 82)) (v := ?_) (a' := ?_) #[true, true, true, true, true, true, false, false, false, false, false, false, false, false, false, false, false, false, false, false, false, false, false, false, false, false, false, false, false, false, false, false, false, false, false, false, false, false, false, false, false, false, false, false, false, false, false, false] rfl rfl (any_of HT_.out (by kernel_rfl)) (fun _ _ _ h => h) (Or.inl ⟨by rfl, ?_⟩) ?_ ?_
  rotate_left
  · intro w'
    go_simp
    with_reducible rfl
  rotate_left
  · simp only [Act.put, List.setIfInBounds_toArray, List.set_cons_zero, List.set_cons_succ, i64_w, i32_w]
    rfl
  refine pure_ (i := 6) (N := (some 83)) (v := ?_) (a' := ?_) #[true, true, true, true, true, true, true, false, false, false, false, false, false, false, false, false, false, false, false, false, false, false, false, false, false, false, false, false, false, false, false, false, false, false, false, false, false, false, false, false, false, false, false, false, false, false, false, false] rfl rfl (any_of HT_.out (by kernel_rfl)) (fun _ _ _ h => h) (Or.inl ⟨by rfl, ?_⟩) ?_ ?_
  rotate_left
  · intro w'
    go_simp
    with_reducible rfl
  rotate_left
  · simp only [Act.put, List.setIfInBounds_toArray, List.set_cons_zero, List.set_cons_succ, i64_w, i32_w]
    rfl
  refine pure_ (i := 7) (N := (some 84)) (v := ?_) (a' := ?_) #[true, true, true, true, true, true, true, true, false, false, false, false, false, false, false, false, false, false, false, false, false, false, false, false, false, false, false, false, false, false, false, false, false, false, false, false, false, false, false, false, false, false, false, false, false, false, false, false] rfl rfl (any_of HT_.out (by kernel_rfl)) (fun _ _ _ h => h) (Or.inl ⟨by rfl, ?_⟩) ?_ ?_
  rotate_left
  · intro w'
    go_simp
    with_reducible rfl
  rotate_left
  · simp only [Act.put, List.setIfInBounds_toArray, List.set_cons_zero, List.set_cons_succ, i64_w, i32_w]
    rfl
  refine pure_ (i := 8) (N := (some 85)) (v := ?_) (a' := ?_) #[true, true, true, true, true, true, true, true, true, false, false, false, false, false, false, false, false, false, false, false, false, false, false, false, false, false, false, false, false, false, false, false, false, false, false, false, false, false, false, false, false, false, false, false, false, false, false, false] rfl rfl (any_of HT_.out (by kernel_rfl)) (fun _ _ _ h => h) (Or.inl ⟨by rfl, ?_⟩) ?_ ?_
  rotate_left
  · intro w'
    go_simp
    with_reducible rfl
  rotate_left
  · simp only [Act.put, List.setIfInBounds_toArray, List.set_cons_zero, List.set_cons_succ, i64_w, i32_w]
    rfl
  refine pure_ (i := 9) (N := (some 86)) (v := ?_) (a' := ?_) #[true, true, true, true, true, true, true, true, true, true, false, false, false, false, false, false, false, false, false, false, false, false, false, false, false, false, false, false, false, false, false, false, false, false, false, false, false, false, false, false, false, false, false, false, false, false, false, false] rfl rfl (any_of HT_.out (by kernel_rfl)) (fun _ _ _ h => h) (Or.inl ⟨by rfl, ?_⟩) ?_ ?_
  rotate_left
  · intro w'
    go_simp
    with_reducible rfl
  rotate_left
  · simp only [Act.put, List.setIfInBounds_toArray, List.set_cons_zero, List.set_cons_succ, i64_w, i32_w]
    rfl
  refine pure_ (i := 10) (N := (some 87)) (v := ?_) (a' := ?_) #[true, true, true, true, true, true, true, true, true, true, true, false, false, false, false, false, false, false, false, false, false, false, false, false, false, false, false, false, false, false, false, false, false, false, false, false, false, false, false, false, false, false, false, false, false, false, false, false] rfl rfl (any_of HT_.out (by kernel_rfl)) (fun _ _ _ h => h) (Or.inl ⟨by rfl, ?_⟩) ?_ ?_
  rotate_left
  · intro w'
    go_simp
    with_reducible rfl
  rotate_left
  · simp only [Act.put, List.setIfInBounds_toArray, List.set_cons_zero, List.set_cons_succ, i64_w, i32_w]
    rfl
  refine pure_ (i := 11) (N := (some 88)) (v := ?_) (a' := ?_) #[true, true, true, true, true, true, true, true, true, true, true, true, false, false, false, false, false, false, false, false, false, false, false, false, false, false, false, false, false, false, false, false, false, false, false, false, false, false, false, false, false, false, false, false, false, false, false, false] rfl rfl (any_of HT_.out (by kernel_rfl)) (fun _ _ _ h => h) (Or.inl ⟨by rfl, ?_⟩) ?_ ?_
  rotate_left
  · intro w'
    go_simp
    with_reducible rfl
  rotate_left
  · simp only [Act.put, List.setIfInBounds_toArray, List.set_cons_zero, List.set_cons_succ, i64_w, i32_w]
    rfl
  refine pure_ (i := 12) (N := (some 89)) (v := ?_) (a' := ?_) #[true, true, true, true, true, true, true, true, true, true, true, true, true, false, false, false, false, false, false, false, false, false, false, false, false, false, false, false, false, false, false, false, false, false, false, false, false, false, false, false, false, false, false, false, false, false, false, false] rfl rfl (any_of HT_.out (by kernel_rfl)) (fun _ _ _ h => h) (Or.inl ⟨by rfl, ?_⟩) ?_ ?_
  rotate_left
  · intro w'
    go_simp
    with_reducible rfl
  rotate_left
  · simp only [Act.put, List.setIfInBounds_toArray, List.set_cons_zero, List.set_cons_succ, i64_w, i32_w]
    rfl
  refine pure_ (i := 13) (N := (some 90)) (v := ?_) (a' := ?_) #[true, true, true, true, true, true, true, true, true, true, true, true, true, true, false, false, false, false, false, false, false, false, false, false, false, false, false, false, false, false, false, false, false, false, false, false, false, false, false, false, false, false, false, false, false, false, false, false] rfl rfl (any_of HT_.out (by kernel_rfl)) (fun _ _ _ h => h) (Or.inl ⟨by rfl, ?_⟩) ?_ ?_
  rotate_left
  · intro w'
    go_simp
    with_reducible rfl
  rotate_left
  · simp only [Act.put, List.setIfInBounds_toArray, List.set_cons_zero, List.set_cons_succ, i64_w, i32_w]
    rfl
  refine take_ (i := 14) (N := (some 91)) (v := ?_) (a' := ?_) #[true, true, true, true, true, true, true, true, true, true, true, true, true, true, true, false, false, false, false, false, false, false, false, false, false, false, false, false, false, false, false, false, false, false, false, false, false, false, false, false, false, false, false, false, false, false, false, false] rfl rfl (take_ofW HT_.out HW_.out (by kernel_rfl)) (fun _ _ _ h => h) (Or.inl ⟨by rfl, ?_⟩) hHeld ?_ ?_
  rotate_left
  · rintro w' ⟨s0, s1, s2, s3, s4, s5, s6, s7, s8, s9, s10, s11, s12, s13, s14, s15, s16, s17⟩
    go_simp
    with_reducible rfl
  rotate_left
  · simp only [Act.put, List.setIfInBounds_toArray, List.set_cons_zero, List.set_cons_succ, i64_w, i32_w]
    rfl
  refine take_ (i := 15) (N := (some 92)) (v := ?_) (a' := ?_) #[true, true, true, true, true, true, true, true, true, true, true, true, true, true, true, true, false, false, false, false, false, false, false, false, false, false, false, false, false, false, false, false, false, false, false, false, false, false, false, false, false, false, false, false, false, false, false, false] rfl rfl (take_ofW HT_.out HW_.out (by kernel_rfl)) (fun _ _ _ h => h) (Or.inl ⟨by rfl, ?_⟩) hHeld ?_ ?_
  rotate_left
  · rintro w' ⟨s0, s1, s2, s3, s4, s5, s6, s7, s8, s9, s10, s11, s12, s13, s14, s15, s16, s17⟩
    go_simp
    with_reducible rfl
  rotate_left
  · simp only [Act.put, List.setIfInBounds_toArray, List.set_cons_zero, List.set_cons_succ, i64_w, i32_w]
    rfl
  refine one_ (i := 16) (N := (some 93)) #[true, true, true, true, true, true, true, true, true, true, true, true, true, true, true, true, true, false, false, false, false, false, false, false, false, false, false, false, false, false, false, false, false, false, false, false, false, false, false, false, false, false, false, false, false, false, false, false] rfl rfl (one_of HT_.out (by kernel_rfl)) (by decide) (fun K hK => ?_)
  refine goes_ Try.func10 (by kernel_rfl) rfl #[.agg #[.int .i64 fo, .int .i64 ft, .slice hA E.length hc_]] (by rfl) rfl rfl (by (try simp only [List.map_toArray, List.map_cons, List.map_nil]); first | done | rfl) ?_
  refine (own_c fo ft hA hc_ E _ HCH.out HEL.out HEN.out).mono ?_
  rintro e wc ⟨oA, oc, rfl, hRo, hbL⟩
  refine ⟨_, rfl, ?_⟩
  have HI5_ := Aside0.mk (HI5.out.move hbL)
  have HG5_ := Aside0.mk (blk_below HG5.out hbL)
  have HF5_ := Aside0.mk (Kd.R_below HF5.out hbL)
  have HD5_ := Aside0.mk (below_step HD5.out hbL)
  have HCH_ := Aside0.mk (Kd.C_below HCH.out hbL)
  have BH_ := Aside0.mk (blk_below BH.out hbL)
  have HCJ_ := Aside0.mk (Kd.C_below HCJ.out hbL)
  have BJ_ := Aside0.mk (blk_below BJ.out hbL)
  have HCL_ := Aside0.mk (Kd.C_below HCL.out hbL)
  have BL_ := Aside0.mk (blk_below BL.out hbL)
  clear HI5 HG5 HF5 HD5 HCH BH HCJ BJ HCL BL
  have HI5 := HI5_
  have HG5 := HG5_
  have HF5 := HF5_
  have HD5 := HD5_
  have HCH := HCH_
  have BH := BH_
  have HCJ := HCJ_
  have BJ := BJ_
  have HCL := HCL_
  have BL := BL_
  clear HI5_ HG5_ HF5_ HD5_ HCH_ BH_ HCJ_ BJ_ HCL_ BL_
  clear hbL
  have HCO := Aside0.mk ((Kd.R_reads' hRo).2.2)
  clear hRo
  refine hK.out _ _ ⟨(blk_cell HG5.out 0).trans rfl, (blk_cell HG5.out 1).trans rfl, (blk_cell HG5.out 2).trans rfl, (blk_cell BH.out 0).trans rfl, (blk_cell BH.out 1).trans rfl, (blk_cell BH.out 2).trans rfl, (blk_cell BJ.out 0).trans rfl, (blk_cell BJ.out 1).trans rfl, (blk_cell BJ.out 2).trans rfl, (blk_cell BL.out 0).trans rfl, (blk_cell BL.out 1).trans rfl, (blk_cell BL.out 2).trans rfl, (blk_cell HI5.out.x 0).trans rfl, (blk_cell HI5.out.x 1).trans rfl, (blk_cell HI5.out.x 2).trans rfl, (blk_cell HI5.out.arg 0).trans rfl, (blk_cell HI5.out.arg 1).trans rfl, (blk_cell HI5.out.arg 2).trans rfl⟩ (fun hHeld => ?_)
  clear hK K
  refine norm_ (a' := ?_) ?_ ?_
  rotate_left
  · show Act.put _ (some 93) _ = _
    simp only [Act.put, List.setIfInBounds_toArray, List.set_cons_zero, List.set_cons_succ, i64_w, i32_w]
    rfl
  refine one_ (i := 17) (N := (some 94)) #[true, true, true, true, true, true, true, true, true, true, true, true, true, true, true, true, true, true, false, false, false, false, false, false, false, false, false, false, false, false, false, false, false, false, false, false, false, false, false, false, false, false, false, false, false, false, false, false] rfl rfl (one_of HT_.out (by kernel_rfl)) (by decide) (fun K hK => ?_)
  refine goes_ Try.func24 (by kernel_rfl) rfl #[.agg #[.int .i64 fo, .int .i64 ft, .slice fA E.length fc], .agg #[.int .i64 fo, .int .i64 ft, .slice oA E.length oc]] (by rfl) rfl rfl (by (try simp only [List.map_toArray, List.map_cons, List.map_nil]); first | done | rfl) ?_
  refine (same_c fo ft fA oA fc oc E _ (Kd.R_reads' HF5.out).2.2 HCO.out).mono ?_
  rintro e wc ⟨rfl, hbL⟩
  refine ⟨_, rfl, ?_⟩
  have HI5_ := Aside0.mk (HI5.out.move hbL)
  have HG5_ := Aside0.mk (blk_below HG5.out hbL)
  have HF5_ := Aside0.mk (Kd.R_below HF5.out hbL)
  have HD5_ := Aside0.mk (below_step HD5.out hbL)
  have HCH_ := Aside0.mk (Kd.C_below HCH.out hbL)
  have BH_ := Aside0.mk (blk_below BH.out hbL)
  have HCJ_ := Aside0.mk (Kd.C_below HCJ.out hbL)
  have BJ_ := Aside0.mk (blk_below BJ.out hbL)
  have HCL_ := Aside0.mk (Kd.C_below HCL.out hbL)
  have BL_ := Aside0.mk (blk_below BL.out hbL)
  have HCO_ := Aside0.mk (Kd.C_below HCO.out hbL)
  clear HI5 HG5 HF5 HD5 HCH BH HCJ BJ HCL BL HCO
  have HI5 := HI5_
  have HG5 := HG5_
  have HF5 := HF5_
  have HD5 := HD5_
  have HCH := HCH_
  have BH := BH_
  have HCJ := HCJ_
  have BJ := BJ_
  have HCL := HCL_
  have BL := BL_
  have HCO := HCO_
  clear HI5_ HG5_ HF5_ HD5_ HCH_ BH_ HCJ_ BJ_ HCL_ BL_ HCO_
  clear hbL
  refine hK.out _ _ ⟨(blk_cell HG5.out 0).trans rfl, (blk_cell HG5.out 1).trans rfl, (blk_cell HG5.out 2).trans rfl, (blk_cell BH.out 0).trans rfl, (blk_cell BH.out 1).trans rfl, (blk_cell BH.out 2).trans rfl, (blk_cell BJ.out 0).trans rfl, (blk_cell BJ.out 1).trans rfl, (blk_cell BJ.out 2).trans rfl, (blk_cell BL.out 0).trans rfl, (blk_cell BL.out 1).trans rfl, (blk_cell BL.out 2).trans rfl, (blk_cell HI5.out.x 0).trans rfl, (blk_cell HI5.out.x 1).trans rfl, (blk_cell HI5.out.x 2).trans rfl, (blk_cell HI5.out.arg 0).trans rfl, (blk_cell HI5.out.arg 1).trans rfl, (blk_cell HI5.out.arg 2).trans rfl⟩ (fun hHeld => ?_)
  clear hK K
  refine norm_ (a' := ?_) ?_ ?_
  rotate_left
  · show Act.put _ (some 94) _ = _
    simp only [Act.put, List.setIfInBounds_toArray, List.set_cons_zero, List.set_cons_succ, i64_w, i32_w]
    rfl
  refine pure_ (i := 18) (N := (some 95)) (v := ?_) (a' := ?_) #[true, true, true, true, true, true, true, true, true, true, true, true, true, true, true, true, true, true, true, false, false, false, false, false, false, false, false, false, false, false, false, false, false, false, false, false, false, false, false, false, false, false, false, false, false, false, false, false] rfl rfl (any_of HT_.out (by kernel_rfl)) (fun _ _ _ h => h) (Or.inl ⟨by rfl, ?_⟩) ?_ ?_
  rotate_left
  · intro w'
    go_simp
    with_reducible rfl
  rotate_left
  · simp only [Act.put, List.setIfInBounds_toArray, List.set_cons_zero, List.set_cons_succ, i64_w, i32_w]
    rfl
  refine pure_ (i := 19) (N := (some 96)) (v := ?_) (a' := ?_) #[true, true, true, true, true, true, true, true, true, true, true, true, true, true, true, true, true, true, true, true, false, false, false, false, false, false, false, false, false, false, false, false, false, false, false, false, false, false, false, false, false, false, false, false, false, false, false, false] rfl rfl (any_of HT_.out (by kernel_rfl)) (fun _ _ _ h => h) (Or.inl ⟨by rfl, ?_⟩) ?_ ?_
  rotate_left
  · intro w'
    go_simp
    with_reducible rfl
  rotate_left
  · simp only [Act.put, List.setIfInBounds_toArray, List.set_cons_zero, List.set_cons_succ, i64_w, i32_w]
    rfl
  refine pure_ (i := 20) (N := (some 97)) (v := ?_) (a' := ?_) #[true, true, true, true, true, true, true, true, true, true, true, true, true, true, true, true, true, true, true, true, true, false, false, false, false, false, false, false, false, false, false, false, false, false, false, false, false, false, false, false, false, false, false, false, false, false, false, false] rfl rfl (any_of HT_.out (by kernel_rfl)) (fun _ _ _ h => h) (Or.inl ⟨by rfl, ?_⟩) ?_ ?_
  rotate_left
  · intro w'
    go_simp
    with_reducible rfl
  rotate_left
  · simp only [Act.put, List.setIfInBounds_toArray, List.set_cons_zero, List.set_cons_succ, i64_w, i32_w]
    rfl
  refine pure_ (i := 21) (N := (some 98)) (v := ?_) (a' := ?_) #[true, true, true, true, true, true, true, true, true, true, true, true, true, true, true, true, true, true, true, true, true, true, false, false, false, false, false, false, false, false, false, false, false, false, false, false, false, false, false, false, false, false, false, false, false, false, false, false] rfl rfl (any_of HT_.out (by kernel_rfl)) (fun _ _ _ h => h) (Or.inl ⟨by rfl, ?_⟩) ?_ ?_
  rotate_left
  · intro w'
    go_simp
    with_reducible rfl
  rotate_left
  · simp only [Act.put, List.setIfInBounds_toArray, List.set_cons_zero, List.set_cons_succ, i64_w, i32_w]
    rfl
  refine pure_ (i := 23) (N := (some 100)) (v := ?_) (a' := ?_) #[true, true, true, true, true, true, true, true, true, true, true, true, true, true, true, true, true, true, true, true, true, true, false, true, false, false, false, false, false, false, false, false, false, false, false, false, false, false, false, false, false, false, false, false, false, false, false, false] rfl rfl (any_of HT_.out (by kernel_rfl)) (fun _ _ _ h => h) (Or.inl ⟨by rfl, ?_⟩) ?_ ?_
  rotate_left
  · intro w'
    go_simp
    with_reducible rfl
  rotate_left
  · simp only [Act.put, List.setIfInBounds_toArray, List.set_cons_zero, List.set_cons_succ, i64_w, i32_w]
    rfl
  refine one_ (i := 22) (N := (some 99)) #[true, true, true, true, true, true, true, true, true, true, true, true, true, true, true, true, true, true, true, true, true, true, true, true, false, false, false, false, false, false, false, false, false, false, false, false, false, false, false, false, false, false, false, false, false, false, false, false] rfl rfl (one_of HT_.out (by kernel_rfl)) (by decide) (fun K hK => ?_)
  refine goes_ Try.func17 (by kernel_rfl) rfl #[.int .i64 fe] (by rfl) rfl rfl (by (try simp only [List.map_toArray, List.map_cons, List.map_nil]); first | done | rfl) ?_
  refine (num_c fe _).mono ?_
  rintro e wc ⟨rfl, rfl⟩
  refine ⟨_, rfl, ?_⟩
  refine hK.out _ _ ⟨(blk_cell HG5.out 0).trans rfl, (blk_cell HG5.out 1).trans rfl, (blk_cell HG5.out 2).trans rfl, (blk_cell BH.out 0).trans rfl, (blk_cell BH.out 1).trans rfl, (blk_cell BH.out 2).trans rfl, (blk_cell BJ.out 0).trans rfl, (blk_cell BJ.out 1).trans rfl, (blk_cell BJ.out 2).trans rfl, (blk_cell BL.out 0).trans rfl, (blk_cell BL.out 1).trans rfl, (blk_cell BL.out 2).trans rfl, (blk_cell HI5.out.x 0).trans rfl, (blk_cell HI5.out.x 1).trans rfl, (blk_cell HI5.out.x 2).trans rfl, (blk_cell HI5.out.arg 0).trans rfl, (blk_cell HI5.out.arg 1).trans rfl, (blk_cell HI5.out.arg 2).trans rfl⟩ (fun hHeld => ?_)
  clear hK K
  refine norm_ (a' := ?_) ?_ ?_
  rotate_left
  · show Act.put _ (some 99) _ = _
    simp only [Act.put, List.setIfInBounds_toArray, List.set_cons_zero, List.set_cons_succ, i64_w, i32_w]
    rfl
  refine pure_ (i := 24) (N := (some 101)) (v := ?_) (a' := ?_) #[true, true, true, true, true, true, true, true, true, true, true, true, true, true, true, true, true, true, true, true, true, true, true, true, true, false, false, false, false, false, false, false, false, false, false, false, false, false, false, false, false, false, false, false, false, false, false, false] rfl rfl (any_of HT_.out (by kernel_rfl)) (fun _ _ _ h => h) (Or.inl ⟨by rfl, ?_⟩) ?_ ?_
  rotate_left
  · intro w'
    go_simp
    with_reducible rfl
  rotate_left
  · simp only [Act.put, List.setIfInBounds_toArray, List.set_cons_zero, List.set_cons_succ, i64_w, i32_w]
    rfl
  refine pure_ (i := 25) (N := (some 102)) (v := ?_) (a' := ?_) #[true, true, true, true, true, true, true, true, true, true, true, true, true, true, true, true, true, true, true, true, true, true, true, true, true, true, false, false, false, false, false, false, false, false, false, false, false, false, false, false, false, false, false, false, false, false, false, false] rfl rfl (any_of HT_.out (by kernel_rfl)) (fun _ _ _ h => h) (Or.inl ⟨by rfl, ?_⟩) ?_ ?_
  rotate_left
  · intro w'
    go_simp
    with_reducible rfl
  rotate_left
  · simp only [Act.put, List.setIfInBounds_toArray, List.set_cons_zero, List.set_cons_succ, i64_w, i32_w]
    rfl
  refine pure_ (i := 26) (N := (some 103)) (v := ?_) (a' := ?_) #[true, true, true, true, true, true, true, true, true, true, true, true, true, true, true, true, true, true, true, true, true, true, true, true, true, true, true, false, false, false, false, false, false, false, false, false, false, false, false, false, false, false, false, false, false, false, false, false] rfl rfl (any_of HT_.out (by kernel_rfl)) (fun _ _ _ h => h) (Or.inl ⟨by rfl, ?_⟩) ?_ ?_
  rotate_left
  · intro w'
    go_simp
    with_reducible rfl
  rotate_left
  · simp only [Act.put, List.setIfInBounds_toArray, List.set_cons_zero, List.set_cons_succ, i64_w, i32_w]
    rfl
  refine take_ (i := 27) (N := (some 104)) (v := ?_) (a' := ?_) #[true, true, true, true, true, true, true, true, true, true, true, true, true, true, true, true, true, true, true, true, true, true, true, true, true, true, true, true, false, false, false, false, false, false, false, false, false, false, false, false, false, false, false, false, false, false, false, false] rfl rfl (take_ofW HT_.out HW_.out (by kernel_rfl)) (fun _ _ _ h => h) (Or.inl ⟨by rfl, ?_⟩) hHeld ?_ ?_
  rotate_left
  · rintro w' ⟨s0, s1, s2, s3, s4, s5, s6, s7, s8, s9, s10, s11, s12, s13, s14, s15, s16, s17⟩
    go_simp
    with_reducible rfl
  rotate_left
  · simp only [Act.put, List.setIfInBounds_toArray, List.set_cons_zero, List.set_cons_succ, i64_w, i32_w]
    rfl
  refine take_ (i := 28) (N := (some 105)) (v := ?_) (a' := ?_) #[true, true, true, true, true, true, true, true, true, true, true, true, true, true, true, true, true, true, true, true, true, true, true, true, true, true, true, true, true, false, false, false, false, false, false, false, false, false, false, false, false, false, false, false, false, false, false, false] rfl rfl (take_ofW HT_.out HW_.out (by kernel_rfl)) (fun _ _ _ h => h) (Or.inl ⟨by rfl, ?_⟩) hHeld ?_ ?_
  rotate_left
  · rintro w' ⟨s0, s1, s2, s3, s4, s5, s6, s7, s8, s9, s10, s11, s12, s13, s14, s15, s16, s17⟩
    go_simp
    with_reducible rfl
  rotate_left
  · simp only [Act.put, List.setIfInBounds_toArray, List.set_cons_zero, List.set_cons_succ, i64_w, i32_w]
    rfl
  refine one_ (i := 29) (N := (some 106)) #[true, true, true, true, true, true, true, true, true, true, true, true, true, true, true, true, true, true, true, true, true, true, true, true, true, true, true, true, true, true, false, false, false, false, false, false, false, false, false, false, false, false, false, false, false, false, false, false] rfl rfl (one_of HT_.out (by kernel_rfl)) (by decide) (fun K hK => ?_)
  refine goes_ Try.func10 (by kernel_rfl) rfl #[.agg #[.int .i64 jo, .int .i64 jt, .slice lA J.length lc]] (by rfl) rfl rfl (by (try simp only [List.map_toArray, List.map_cons, List.map_nil]); first | done | rfl) ?_
  refine (own_c jo jt lA lc J _ HCL.out HJL.out HJN.out).mono ?_
  rintro e wc ⟨oA2, oc2, rfl, hRo, hbL⟩
  refine ⟨_, rfl, ?_⟩
  have HI5_ := Aside0.mk (HI5.out.move hbL)
  have HG5_ := Aside0.mk (blk_below HG5.out hbL)
  have HF5_ := Aside0.mk (Kd.R_below HF5.out hbL)
  have HD5_ := Aside0.mk (below_step HD5.out hbL)
  have HCH_ := Aside0.mk (Kd.C_below HCH.out hbL)
  have BH_ := Aside0.mk (blk_below BH.out hbL)
  have HCJ_ := Aside0.mk (Kd.C_below HCJ.out hbL)
  have BJ_ := Aside0.mk (blk_below BJ.out hbL)
  have HCL_ := Aside0.mk (Kd.C_below HCL.out hbL)
  have BL_ := Aside0.mk (blk_below BL.out hbL)
  have HCO_ := Aside0.mk (Kd.C_below HCO.out hbL)
  clear HI5 HG5 HF5 HD5 HCH BH HCJ BJ HCL BL HCO
  have HI5 := HI5_
  have HG5 := HG5_
  have HF5 := HF5_
  have HD5 := HD5_
  have HCH := HCH_
  have BH := BH_
  have HCJ := HCJ_
  have BJ := BJ_
  have HCL := HCL_
  have BL := BL_
  have HCO := HCO_
  clear HI5_ HG5_ HF5_ HD5_ HCH_ BH_ HCJ_ BJ_ HCL_ BL_ HCO_
  clear hbL
  have HCO2 := Aside0.mk ((Kd.R_reads' hRo).2.2)
  clear hRo
  refine hK.out _ _ ⟨(blk_cell HG5.out 0).trans rfl, (blk_cell HG5.out 1).trans rfl, (blk_cell HG5.out 2).trans rfl, (blk_cell BH.out 0).trans rfl, (blk_cell BH.out 1).trans rfl, (blk_cell BH.out 2).trans rfl, (blk_cell BJ.out 0).trans rfl, (blk_cell BJ.out 1).trans rfl, (blk_cell BJ.out 2).trans rfl, (blk_cell BL.out 0).trans rfl, (blk_cell BL.out 1).trans rfl, (blk_cell BL.out 2).trans rfl, (blk_cell HI5.out.x 0).trans rfl, (blk_cell HI5.out.x 1).trans rfl, (blk_cell HI5.out.x 2).trans rfl, (blk_cell HI5.out.arg 0).trans rfl, (blk_cell HI5.out.arg 1).trans rfl, (blk_cell HI5.out.arg 2).trans rfl⟩ (fun hHeld => ?_)
  clear hK K
  refine norm_ (a' := ?_) ?_ ?_
  rotate_left
  · show Act.put _ (some 106) _ = _
    simp only [Act.put, List.setIfInBounds_toArray, List.set_cons_zero, List.set_cons_succ, i64_w, i32_w]
    rfl
  refine one_ (i := 30) (N := (some 107)) #[true, true, true, true, true, true, true, true, true, true, true, true, true, true, true, true, true, true, true, true, true, true, true, true, true, true, true, true, true, true, true, false, false, false, false, false, false, false, false, false, false, false, false, false, false, false, false, false] rfl rfl (one_of HT_.out (by kernel_rfl)) (by decide) (fun K hK => ?_)
  refine goes_ Try.func24 (by kernel_rfl) rfl #[.agg #[.int .i64 jo, .int .i64 jt, .slice jA J.length jc], .agg #[.int .i64 jo, .int .i64 jt, .slice oA2 J.length oc2]] (by rfl) rfl rfl (by (try simp only [List.map_toArray, List.map_cons, List.map_nil]); first | done | rfl) ?_
  refine (same_c jo jt jA oA2 jc oc2 J _ HCJ.out HCO2.out).mono ?_
  rintro e wc ⟨rfl, hbL⟩
  refine ⟨_, rfl, ?_⟩
  have HI5_ := Aside0.mk (HI5.out.move hbL)
  have HG5_ := Aside0.mk (blk_below HG5.out hbL)
  have HF5_ := Aside0.mk (Kd.R_below HF5.out hbL)
  have HD5_ := Aside0.mk (below_step HD5.out hbL)
  have HCH_ := Aside0.mk (Kd.C_below HCH.out hbL)
  have BH_ := Aside0.mk (blk_below BH.out hbL)
  have HCJ_ := Aside0.mk (Kd.C_below HCJ.out hbL)
  have BJ_ := Aside0.mk (blk_below BJ.out hbL)
  have HCL_ := Aside0.mk (Kd.C_below HCL.out hbL)
  have BL_ := Aside0.mk (blk_below BL.out hbL)
  have HCO_ := Aside0.mk (Kd.C_below HCO.out hbL)
  have HCO2_ := Aside0.mk (Kd.C_below HCO2.out hbL)
  clear HI5 HG5 HF5 HD5 HCH BH HCJ BJ HCL BL HCO HCO2
  have HI5 := HI5_
  have HG5 := HG5_
  have HF5 := HF5_
  have HD5 := HD5_
  have HCH := HCH_
  have BH := BH_
  have HCJ := HCJ_
  have BJ := BJ_
  have HCL := HCL_
  have BL := BL_
  have HCO := HCO_
  have HCO2 := HCO2_
  clear HI5_ HG5_ HF5_ HD5_ HCH_ BH_ HCJ_ BJ_ HCL_ BL_ HCO_ HCO2_
  clear hbL
  refine hK.out _ _ ⟨(blk_cell HG5.out 0).trans rfl, (blk_cell HG5.out 1).trans rfl, (blk_cell HG5.out 2).trans rfl, (blk_cell BH.out 0).trans rfl, (blk_cell BH.out 1).trans rfl, (blk_cell BH.out 2).trans rfl, (blk_cell BJ.out 0).trans rfl, (blk_cell BJ.out 1).trans rfl, (blk_cell BJ.out 2).trans rfl, (blk_cell BL.out 0).trans rfl, (blk_cell BL.out 1).trans rfl, (blk_cell BL.out 2).trans rfl, (blk_cell HI5.out.x 0).trans rfl, (blk_cell HI5.out.x 1).trans rfl, (blk_cell HI5.out.x 2).trans rfl, (blk_cell HI5.out.arg 0).trans rfl, (blk_cell HI5.out.arg 1).trans rfl, (blk_cell HI5.out.arg 2).trans rfl⟩ (fun hHeld => ?_)
  clear hK K
  refine norm_ (a' := ?_) ?_ ?_
  rotate_left
  · show Act.put _ (some 107) _ = _
    simp only [Act.put, List.setIfInBounds_toArray, List.set_cons_zero, List.set_cons_succ, i64_w, i32_w]
    rfl
  refine pure_ (i := 31) (N := (some 108)) (v := ?_) (a' := ?_) #[true, true, true, true, true, true, true, true, true, true, true, true, true, true, true, true, true, true, true, true, true, true, true, true, true, true, true, true, true, true, true, true, false, false, false, false, false, false, false, false, false, false, false, false, false, false, false, false] rfl rfl (any_of HT_.out (by kernel_rfl)) (fun _ _ _ h => h) (Or.inl ⟨by rfl, ?_⟩) ?_ ?_
  rotate_left
  · intro w'
    go_simp
    with_reducible rfl
  rotate_left
  · simp only [Act.put, List.setIfInBounds_toArray, List.set_cons_zero, List.set_cons_succ, i64_w, i32_w]
    rfl
  refine pure_ (i := 32) (N := (some 109)) (v := ?_) (a' := ?_) #[true, true, true, true, true, true, true, true, true, true, true, true, true, true, true, true, true, true, true, true, true, true, true, true, true, true, true, true, true, true, true, true, true, false, false, false, false, false, false, false, false, false, false, false, false, false, false, false] rfl rfl (any_of HT_.out (by kernel_rfl)) (fun _ _ _ h => h) (Or.inl ⟨by rfl, ?_⟩) ?_ ?_
  rotate_left
  · intro w'
    go_simp
    with_reducible rfl
  rotate_left
  · simp only [Act.put, List.setIfInBounds_toArray, List.set_cons_zero, List.set_cons_succ, i64_w, i32_w]
    rfl
  refine pure_ (i := 33) (N := (some 110)) (v := ?_) (a' := ?_) #[true, true, true, true, true, true, true, true, true, true, true, true, true, true, true, true, true, true, true, true, true, true, true, true, true, true, true, true, true, true, true, true, true, true, false, false, false, false, false, false, false, false, false, false, false, false, false, false] rfl rfl (any_of HT_.out (by kernel_rfl)) (fun _ _ _ h => h) (Or.inl ⟨by rfl, ?_⟩) ?_ ?_
  rotate_left
  · intro w'
    go_simp
    with_reducible rfl
  rotate_left
  · simp only [Act.put, List.setIfInBounds_toArray, List.set_cons_zero, List.set_cons_succ, i64_w, i32_w]
    rfl
  refine pure_ (i := 34) (N := (some 111)) (v := ?_) (a' := ?_) #[true, true, true, true, true, true, true, true, true, true, true, true, true, true, true, true, true, true, true, true, true, true, true, true, true, true, true, true, true, true, true, true, true, true, true, false, false, false, false, false, false, false, false, false, false, false, false, false] rfl rfl (any_of HT_.out (by kernel_rfl)) (fun _ _ _ h => h) (Or.inl ⟨by rfl, ?_⟩) ?_ ?_
  rotate_left
  · intro w'
    go_simp
    with_reducible rfl
  rotate_left
  · simp only [Act.put, List.setIfInBounds_toArray, List.set_cons_zero, List.set_cons_succ, i64_w, i32_w]
    rfl
  refine pure_ (i := 36) (N := (some 113)) (v := ?_) (a' := ?_) #[true, true, true, true, true, true, true, true, true, true, true, true, true, true, true, true, true, true, true, true, true, true, true, true, true, true, true, true, true, true, true, true, true, true, true, false, true, false, false, false, false, false, false, false, false, false, false, false] rfl rfl (any_of HT_.out (by kernel_rfl)) (fun _ _ _ h => h) (Or.inl ⟨by rfl, ?_⟩) ?_ ?_
  rotate_left
  · intro w'
    go_simp
    with_reducible rfl
  rotate_left
  · simp only [Act.put, List.setIfInBounds_toArray, List.set_cons_zero, List.set_cons_succ, i64_w, i32_w]
    rfl
  refine one_ (i := 35) (N := (some 112)) #[true, true, true, true, true, true, true, true, true, true, true, true, true, true, true, true, true, true, true, true, true, true, true, true, true, true, true, true, true, true, true, true, true, true, true, true, true, false, false, false, false, false, false, false, false, false, false, false] rfl rfl (one_of HT_.out (by kernel_rfl)) (by decide) (fun K hK => ?_)
  refine goes_ Try.func17 (by kernel_rfl) rfl #[.int .i64 je] (by rfl) rfl rfl (by (try simp only [List.map_toArray, List.map_cons, List.map_nil]); first | done | rfl) ?_
  refine (num_c je _).mono ?_
  rintro e wc ⟨rfl, rfl⟩
  refine ⟨_, rfl, ?_⟩
  refine hK.out _ _ ⟨(blk_cell HG5.out 0).trans rfl, (blk_cell HG5.out 1).trans rfl, (blk_cell HG5.out 2).trans rfl, (blk_cell BH.out 0).trans rfl, (blk_cell BH.out 1).trans rfl, (blk_cell BH.out 2).trans rfl, (blk_cell BJ.out 0).trans rfl, (blk_cell BJ.out 1).trans rfl, (blk_cell BJ.out 2).trans rfl, (blk_cell BL.out 0).trans rfl, (blk_cell BL.out 1).trans rfl, (blk_cell BL.out 2).trans rfl, (blk_cell HI5.out.x 0).trans rfl, (blk_cell HI5.out.x 1).trans rfl, (blk_cell HI5.out.x 2).trans rfl, (blk_cell HI5.out.arg 0).trans rfl, (blk_cell HI5.out.arg 1).trans rfl, (blk_cell HI5.out.arg 2).trans rfl⟩ (fun hHeld => ?_)
  clear hK K
  refine norm_ (a' := ?_) ?_ ?_
  rotate_left
  · show Act.put _ (some 112) _ = _
    simp only [Act.put, List.setIfInBounds_toArray, List.set_cons_zero, List.set_cons_succ, i64_w, i32_w]
    rfl
  refine pure_ (i := 37) (N := (some 114)) (v := ?_) (a' := ?_) #[true, true, true, true, true, true, true, true, true, true, true, true, true, true, true, true, true, true, true, true, true, true, true, true, true, true, true, true, true, true, true, true, true, true, true, true, true, true, false, false, false, false, false, false, false, false, false, false] rfl rfl (any_of HT_.out (by kernel_rfl)) (fun _ _ _ h => h) (Or.inl ⟨by rfl, ?_⟩) ?_ ?_
  rotate_left
  · intro w'
    go_simp
    with_reducible rfl
  rotate_left
  · simp only [Act.put, List.setIfInBounds_toArray, List.set_cons_zero, List.set_cons_succ, i64_w, i32_w]
    rfl
  refine pure_ (i := 38) (N := (some 115)) (v := ?_) (a' := ?_) #[true, true, true, true, true, true, true, true, true, true, true, true, true, true, true, true, true, true, true, true, true, true, true, true, true, true, true, true, true, true, true, true, true, true, true, true, true, true, true, false, false, false, false, false, false, false, false, false] rfl rfl (any_of HT_.out (by kernel_rfl)) (fun _ _ _ h => h) (Or.inl ⟨by rfl, ?_⟩) ?_ ?_
  rotate_left
  · intro w'
    go_simp
    with_reducible rfl
  rotate_left
  · simp only [Act.put, List.setIfInBounds_toArray, List.set_cons_zero, List.set_cons_succ, i64_w, i32_w]
    rfl
  refine pure_ (i := 39) (N := (some 116)) (v := ?_) (a' := ?_) #[true, true, true, true, true, true, true, true, true, true, true, true, true, true, true, true, true, true, true, true, true, true, true, true, true, true, true, true, true, true, true, true, true, true, true, true, true, true, true, true, false, false, false, false, false, false, false, false] rfl rfl (any_of HT_.out (by kernel_rfl)) (fun _ _ _ h => h) (Or.inl ⟨by rfl, ?_⟩) ?_ ?_
  rotate_left
  · intro w'
    go_simp
    with_reducible rfl
  rotate_left
  · simp only [Act.put, List.setIfInBounds_toArray, List.set_cons_zero, List.set_cons_succ, i64_w, i32_w]
    rfl
  refine take_ (i := 40) (N := (some 117)) (v := ?_) (a' := ?_) #[true, true, true, true, true, true, true, true, true, true, true, true, true, true, true, true, true, true, true, true, true, true, true, true, true, true, true, true, true, true, true, true, true, true, true, true, true, true, true, true, true, false, false, false, false, false, false, false] rfl rfl (take_ofW HT_.out HW_.out (by kernel_rfl)) (fun _ _ _ h => h) (Or.inl ⟨by rfl, ?_⟩) hHeld ?_ ?_
  rotate_left
  · rintro w' ⟨s0, s1, s2, s3, s4, s5, s6, s7, s8, s9, s10, s11, s12, s13, s14, s15, s16, s17⟩
    go_simp
    with_reducible rfl
  rotate_left
  · simp only [Act.put, List.setIfInBounds_toArray, List.set_cons_zero, List.set_cons_succ, i64_w, i32_w]
    rfl
  refine pure_ (i := 41) (N := (some 118)) (v := ?_) (a' := ?_) #[true, true, true, true, true, true, true, true, true, true, true, true, true, true, true, true, true, true, true, true, true, true, true, true, true, true, true, true, true, true, true, true, true, true, true, true, true, true, true, true, true, true, false, false, false, false, false, false] rfl rfl (any_of HT_.out (by kernel_rfl)) (fun _ _ _ h => h) (Or.inl ⟨by rfl, ?_⟩) ?_ ?_
  rotate_left
  · intro w'
    go_simp
    with_reducible rfl
  rotate_left
  · simp only [Act.put, List.setIfInBounds_toArray, List.set_cons_zero, List.set_cons_succ, i64_w, i32_w]
    rfl
  refine take_ (i := 43) (N := (some 120)) (v := ?_) (a' := ?_) #[true, true, true, true, true, true, true, true, true, true, true, true, true, true, true, true, true, true, true, true, true, true, true, true, true, true, true, true, true, true, true, true, true, true, true, true, true, true, true, true, true, true, false, true, false, false, false, false] rfl rfl (take_ofW HT_.out HW_.out (by kernel_rfl)) (fun _ _ _ h => h) (Or.inl ⟨by rfl, ?_⟩) hHeld ?_ ?_
  rotate_left
  · rintro w' ⟨s0, s1, s2, s3, s4, s5, s6, s7, s8, s9, s10, s11, s12, s13, s14, s15, s16, s17⟩
    go_simp
    with_reducible rfl
  rotate_left
  · simp only [Act.put, List.setIfInBounds_toArray, List.set_cons_zero, List.set_cons_succ, i64_w, i32_w]
    rfl
  refine pure_ (i := 44) (N := (some 121)) (v := ?_) (a' := ?_) #[true, true, true, true, true, true, true, true, true, true, true, true, true, true, true, true, true, true, true, true, true, true, true, true, true, true, true, true, true, true, true, true, true, true, true, true, true, true, true, true, true, true, false, true, true, false, false, false] rfl rfl (any_of HT_.out (by kernel_rfl)) (fun _ _ _ h => h) (Or.inl ⟨by rfl, ?_⟩) ?_ ?_
  rotate_left
  · intro w'
    go_simp
    with_reducible rfl
  rotate_left
  · simp only [Act.put, List.setIfInBounds_toArray, List.set_cons_zero, List.set_cons_succ, i64_w, i32_w]
    rfl
  refine one_ (i := 42) (N := (some 119)) #[true, true, true, true, true, true, true, true, true, true, true, true, true, true, true, true, true, true, true, true, true, true, true, true, true, true, true, true, true, true, true, true, true, true, true, true, true, true, true, true, true, true, true, true, true, false, false, false] rfl rfl (one_of HT_.out (by kernel_rfl)) (by decide) (fun K hK => ?_)
  refine goes_ Try.func13 (by kernel_rfl) rfl #[.agg #[.int .i64 ow, .int .i64 tr, .slice A1 ps.length c1], .int .i64 en] (by rfl) rfl rfl (by (try simp only [List.map_toArray, List.map_cons, List.map_nil]); first | done | rfl) ?_
  refine (end_c ow tr en A1 c1 ps _ HI5.out.row).mono ?_
  rintro e wc ⟨rfl, hbL⟩
  refine ⟨_, rfl, ?_⟩
  have HI5_ := Aside0.mk (HI5.out.move hbL)
  have HG5_ := Aside0.mk (blk_below HG5.out hbL)
  have HF5_ := Aside0.mk (Kd.R_below HF5.out hbL)
  have HD5_ := Aside0.mk (below_step HD5.out hbL)
  have HCH_ := Aside0.mk (Kd.C_below HCH.out hbL)
  have BH_ := Aside0.mk (blk_below BH.out hbL)
  have HCJ_ := Aside0.mk (Kd.C_below HCJ.out hbL)
  have BJ_ := Aside0.mk (blk_below BJ.out hbL)
  have HCL_ := Aside0.mk (Kd.C_below HCL.out hbL)
  have BL_ := Aside0.mk (blk_below BL.out hbL)
  have HCO_ := Aside0.mk (Kd.C_below HCO.out hbL)
  have HCO2_ := Aside0.mk (Kd.C_below HCO2.out hbL)
  clear HI5 HG5 HF5 HD5 HCH BH HCJ BJ HCL BL HCO HCO2
  have HI5 := HI5_
  have HG5 := HG5_
  have HF5 := HF5_
  have HD5 := HD5_
  have HCH := HCH_
  have BH := BH_
  have HCJ := HCJ_
  have BJ := BJ_
  have HCL := HCL_
  have BL := BL_
  have HCO := HCO_
  have HCO2 := HCO2_
  clear HI5_ HG5_ HF5_ HD5_ HCH_ BH_ HCJ_ BJ_ HCL_ BL_ HCO_ HCO2_
  clear hbL
  refine hK.out _ _ ⟨(blk_cell HG5.out 0).trans rfl, (blk_cell HG5.out 1).trans rfl, (blk_cell HG5.out 2).trans rfl, (blk_cell BH.out 0).trans rfl, (blk_cell BH.out 1).trans rfl, (blk_cell BH.out 2).trans rfl, (blk_cell BJ.out 0).trans rfl, (blk_cell BJ.out 1).trans rfl, (blk_cell BJ.out 2).trans rfl, (blk_cell BL.out 0).trans rfl, (blk_cell BL.out 1).trans rfl, (blk_cell BL.out 2).trans rfl, (blk_cell HI5.out.x 0).trans rfl, (blk_cell HI5.out.x 1).trans rfl, (blk_cell HI5.out.x 2).trans rfl, (blk_cell HI5.out.arg 0).trans rfl, (blk_cell HI5.out.arg 1).trans rfl, (blk_cell HI5.out.arg 2).trans rfl⟩ (fun hHeld => ?_)
  clear hK K
  refine norm_ (a' := ?_) ?_ ?_
  rotate_left
  · show Act.put _ (some 119) _ = _
    simp only [Act.put, List.setIfInBounds_toArray, List.set_cons_zero, List.set_cons_succ, i64_w, i32_w]
    rfl
  refine one_ (i := 45) (N := (some 122)) #[true, true, true, true, true, true, true, true, true, true, true, true, true, true, true, true, true, true, true, true, true, true, true, true, true, true, true, true, true, true, true, true, true, true, true, true, true, true, true, true, true, true, true, true, true, true, false, false] rfl rfl (one_of HT_.out (by kernel_rfl)) (by decide) (fun K hK => ?_)
  refine goes_ Try.func14 (by kernel_rfl) rfl #[.agg #[.int .i64 ow, .int .i64 tr, .slice A ps.length c], .int .i64 en] (by rfl) rfl rfl (by (try simp only [List.map_toArray, List.map_cons, List.map_nil]); first | done | rfl) ?_
  refine (refEnd_c ow tr en A c ps _ HI5.out.arow).mono ?_
  rintro e wc ⟨rfl, hbL⟩
  refine ⟨_, rfl, ?_⟩
  have HI5_ := Aside0.mk (HI5.out.move hbL)
  have HG5_ := Aside0.mk (blk_below HG5.out hbL)
  have HF5_ := Aside0.mk (Kd.R_below HF5.out hbL)
  have HD5_ := Aside0.mk (below_step HD5.out hbL)
  have HCH_ := Aside0.mk (Kd.C_below HCH.out hbL)
  have BH_ := Aside0.mk (blk_below BH.out hbL)
  have HCJ_ := Aside0.mk (Kd.C_below HCJ.out hbL)
  have BJ_ := Aside0.mk (blk_below BJ.out hbL)
  have HCL_ := Aside0.mk (Kd.C_below HCL.out hbL)
  have BL_ := Aside0.mk (blk_below BL.out hbL)
  have HCO_ := Aside0.mk (Kd.C_below HCO.out hbL)
  have HCO2_ := Aside0.mk (Kd.C_below HCO2.out hbL)
  clear HI5 HG5 HF5 HD5 HCH BH HCJ BJ HCL BL HCO HCO2
  have HI5 := HI5_
  have HG5 := HG5_
  have HF5 := HF5_
  have HD5 := HD5_
  have HCH := HCH_
  have BH := BH_
  have HCJ := HCJ_
  have BJ := BJ_
  have HCL := HCL_
  have BL := BL_
  have HCO := HCO_
  have HCO2 := HCO2_
  clear HI5_ HG5_ HF5_ HD5_ HCH_ BH_ HCJ_ BJ_ HCL_ BL_ HCO_ HCO2_
  clear hbL
  refine hK.out _ _ ⟨(blk_cell HG5.out 0).trans rfl, (blk_cell HG5.out 1).trans rfl, (blk_cell HG5.out 2).trans rfl, (blk_cell BH.out 0).trans rfl, (blk_cell BH.out 1).trans rfl, (blk_cell BH.out 2).trans rfl, (blk_cell BJ.out 0).trans rfl, (blk_cell BJ.out 1).trans rfl, (blk_cell BJ.out 2).trans rfl, (blk_cell BL.out 0).trans rfl, (blk_cell BL.out 1).trans rfl, (blk_cell BL.out 2).trans rfl, (blk_cell HI5.out.x 0).trans rfl, (blk_cell HI5.out.x 1).trans rfl, (blk_cell HI5.out.x 2).trans rfl, (blk_cell HI5.out.arg 0).trans rfl, (blk_cell HI5.out.arg 1).trans rfl, (blk_cell HI5.out.arg 2).trans rfl⟩ (fun hHeld => ?_)
  clear hK K
  refine norm_ (a' := ?_) ?_ ?_
  rotate_left
  · show Act.put _ (some 122) _ = _
    simp only [Act.put, List.setIfInBounds_toArray, List.set_cons_zero, List.set_cons_succ, i64_w, i32_w]
    rfl
  refine pure_ (i := 46) (N := (some 123)) (v := ?_) (a' := ?_) #[true, true, true, true, true, true, true, true, true, true, true, true, true, true, true, true, true, true, true, true, true, true, true, true, true, true, true, true, true, true, true, true, true, true, true, true, true, true, true, true, true, true, true, true, true, true, true, false] rfl rfl (any_of HT_.out (by kernel_rfl)) (fun _ _ _ h => h) (Or.inl ⟨by rfl, ?_⟩) ?_ ?_
  rotate_left
  · intro w'
    go_simp
    with_reducible rfl
  rotate_left
  · simp only [Act.put, List.setIfInBounds_toArray, List.set_cons_zero, List.set_cons_succ, i64_w, i32_w]
    rfl
  refine pure_ (i := 47) (N := (some 124)) (v := ?_) (a' := ?_) #[true, true, true, true, true, true, true, true, true, true, true, true, true, true, true, true, true, true, true, true, true, true, true, true, true, true, true, true, true, true, true, true, true, true, true, true, true, true, true, true, true, true, true, true, true, true, true, true] rfl rfl (any_of HT_.out (by kernel_rfl)) (fun _ _ _ h => h) (Or.inl ⟨by rfl, ?_⟩) ?_ ?_
  rotate_left
  · intro w'
    go_simp
    with_reducible rfl
  rotate_left
  · simp only [Act.put, List.setIfInBounds_toArray, List.set_cons_zero, List.set_cons_succ, i64_w, i32_w]
    rfl
  refine done_ (done_of HT_.out (by kernel_rfl)) ?_
  clear hHeld HT_ HW_ HCO HCO2 HCH BH HCJ BJ HCL BL HJL HJN
  obtain ⟨As, cs, hFP⟩ := fp_of HF5.out
  have HFP := Aside0.mk hFP
  clear hFP HF5
  go_wp2_with fail
  have HFI := Aside0.mk HI5.out
  clear HI5
  go_loopw [26, 27] (fun u26 u27 wr => ∃ q : Nat, q ≤ E.length ∧ u26 = .int .i64 q ∧ Aside0 (FP Wd.heap.size wr fA E As cs) ∧ Aside0 (Below Wd.heap.size Wd wr) ∧ Aside0 (wr.heap[g]? = some (.cells #[.int .i64 fo, .int .i64 ft, .slice fA E.length fc] 27 (0, 0)))) (fun u26 u27 wr => E.length - (intOf u26).toNat)
  case atStart => exact ⟨0, Nat.zero_le _, rfl, HFP, HD5, HG5⟩
  case round =>
    obtain ⟨q, hq, rfl, HF, HD, HG⟩ := hrel
    clear HFP HD5 HG5
    have g2 : wr.cell? ⟨g, 2, none⟩ = some (.slice fA E.length fc) := (blk_cell HG.out 2).trans rfl
    by_cases hlt : q < E.length
    · have hlt2 : (q : Int) < (E.length : Int) := by omega
      have HQ := Aside0.mk (And.intro (wrap_next (Nat.le_trans (Nat.le_mul_of_pos_right _ (by decide)) HEL.out) hlt) (And.intro (Nat.succ_le_of_lt hlt) (less_ hlt)))
      go_wp2_with fail
      clear g2
      go_loopw [27] (fun u27 wx => ∃ i : Nat, i ≤ (E.getD q part0).nodes.length ∧ u27 = .int .i64 i ∧ Aside0 (FP Wd.heap.size wx fA E As cs) ∧ Aside0 (Below Wd.heap.size Wd wx) ∧ Aside0 (wx.heap[g]? = some (.cells #[.int .i64 fo, .int .i64 ft, .slice fA E.length fc] 27 (0, 0)))) (fun u27 wx => (E.getD q part0).nodes.length - (intOf u27).toNat)
      case atStart => exact ⟨0, Nat.zero_le _, rfl, HF, HD, HG⟩
      case round =>
        obtain ⟨i, hi, rfl, HF1, HD1, HG1⟩ := hrel
        clear HF HD HG
        have g2 : wr.cell? ⟨g, 2, none⟩ = some (.slice fA E.length fc) := (blk_cell HG1.out 2).trans rfl
        obtain ⟨ad, hA, -, hcell⟩ := HF1.out.parts q hlt
        have HNL := Aside0.mk (show (E.getD q part0).nodes.length * 8 ≤ 140737488355328 from HEN.out _ (by rw [List.getD_eq_getElem?_getD, List.getElem?_eq_getElem hlt]; exact List.getElem_mem hlt))
        have HNODE := Aside0.mk (HF1.out.nodes q hlt)
        obtain ⟨L, hL⟩ : ∃ L, (E.getD q part0).nodes.length = L := ⟨_, rfl⟩
        rw [hL] at hi hcell HNL HNODE
        have HLL := Aside0.mk hL
        clear hL
        rw [hA] at g2
        have HAD := Aside0.mk hA
        clear hA
        by_cases hil : i < L
        · obtain ⟨nb, CS, e1, e2, e3, e4, e5, e6⟩ := HNODE.out (by omega)
          obtain ⟨b, bo, bs⟩ := nb
          dsimp only at e2 e3 e4 e5
          subst e2 e3
          rw [e1] at hcell
          have hil2 : (i : Int) < (L : Int) := by omega
          have e5_ := Aside0.mk e5
          have e4_ := Aside0.mk e4
          have n0 : wr.cell? ⟨b, i, none⟩ = some CS[i] := (blk_cell e5 i).trans (Array.getElem?_eq_getElem (by omega))
          have n1 := blk_frozen e5 i
          have n2 : wr.frozen? (Addr.add ⟨b, 0, none⟩ i) = false := by rw [add0]; exact n1
          have n3 : wr.cell? (Addr.add ⟨b, 0, none⟩ i) = some CS[i] := by rw [add0]; exact n0
          have HX := Aside0.mk (And.intro (wrap_next (Nat.le_trans (Nat.le_mul_of_pos_right _ (by decide)) HNL.out) hil) (And.intro (Nat.succ_le_of_lt hil) (less_ hil)))
          have hne : g ≠ b := fun e => by have h1 := HG1.out; rw [e, e5_.out] at h1; cases h1
          have HNE := Aside0.mk hne
          clear e1 e4 e5 hne
          go_wp2_with fail
          rw [HLL.out, HX.out.1]
          exact ⟨⟨i + 1, HX.out.2.1, rfl, Aside0.mk (HF1.out.set e5_.out _ rfl rfl), Aside0.mk (HD1.out.setCell (p := ⟨b, i, none⟩) e4_.out _), Aside0.mk ((Below.heap_setCell _ _ _ _ HNE.out).trans HG1.out)⟩, HX.out.2.2⟩
        · obtain rfl : i = L := by omega
          clear HNODE
          go_wp2_with fail
          rw [HQ.out.1]
          exact ⟨⟨q + 1, HQ.out.2.1, rfl, HF1, HD1, HG1⟩, HQ.out.2.2⟩
    · obtain rfl : q = E.length := by omega
      go_wp2_with fail
      have HM := Aside0.mk ((HI0.out.move HD.out).move (below_drew (Below.refl wr.heap.size wr)))
      clear HF HD HG g2 HFI HI0
      refine start_ (n := 8) (S := fun w' => w'.cell? ⟨gx, 0, none⟩ = some (.int .i64 ow) ∧ w'.cell? ⟨gx, 1, none⟩ = some (.int .i64 tr) ∧ w'.cell? ⟨gx, 2, none⟩ = some (.slice A1 ps.length c1) ∧ w'.cell? ⟨W.heap.size, 0, none⟩ = some (.int .i64 ow) ∧ w'.cell? ⟨W.heap.size, 1, none⟩ = some (.int .i64 tr) ∧ w'.cell? ⟨W.heap.size, 2, none⟩ = some (.slice A ps.length c)) (ds := []) #[false, false, false, false, false, false, false, false] (by kernel_rfl) rfl rfl ⟨(blk_cell HM.out.x 0).trans rfl, (blk_cell HM.out.x 1).trans rfl, (blk_cell HM.out.x 2).trans rfl, (blk_cell HM.out.arg 0).trans rfl, (blk_cell HM.out.arg 1).trans rfl, (blk_cell HM.out.arg 2).trans rfl⟩ (fun hHeld => ?_); refine with_tabW tabM17 bitsM17 (fun HT_ HW_ => ?_)
      generalize hwd : wr.drew = We at HM hHeld ⊢
      clear hwd
      refine take_ (i := 0) (N := (some 153)) (v := ?_) (a' := ?_) #[true, false, false, false, false, false, false, false] rfl rfl (take_ofW HT_.out HW_.out (by kernel_rfl)) (fun _ _ _ h => h) (Or.inl ⟨by rfl, ?_⟩) hHeld ?_ ?_
      rotate_left
      · rintro w' ⟨s0, s1, s2, s3, s4, s5⟩
        go_simp
        with_reducible rfl
      rotate_left
      · simp only [Act.put, List.setIfInBounds_toArray, List.set_cons_zero, List.set_cons_succ, i64_w, i32_w]
        rfl
      refine take_ (i := 1) (N := (some 154)) (v := ?_) (a' := ?_) #[true, true, false, false, false, false, false, false] rfl rfl (take_ofW HT_.out HW_.out (by kernel_rfl)) (fun _ _ _ h => h) (Or.inl ⟨by rfl, ?_⟩) hHeld ?_ ?_
      rotate_left
      · rintro w' ⟨s0, s1, s2, s3, s4, s5⟩
        go_simp
        with_reducible rfl
      rotate_left
      · simp only [Act.put, List.setIfInBounds_toArray, List.set_cons_zero, List.set_cons_succ, i64_w, i32_w]
        rfl
      refine one_ (i := 2) (N := (some 155)) #[true, true, true, false, false, false, false, false] rfl rfl (one_of HT_.out (by kernel_rfl)) (by decide) (fun K hK => ?_)
      refine goes_ Try.func10 (by kernel_rfl) rfl #[.agg #[.int .i64 ow, .int .i64 tr, .slice A ps.length c]] (by rfl) rfl rfl (by (try simp only [List.map_toArray, List.map_cons, List.map_nil]); first | done | rfl) ?_
      refine (own_c ow tr A c ps _ HM.out.arow (by omega) HN.out).mono ?_
      rintro e wc ⟨oA, oc, rfl, hRo, hbL⟩
      refine ⟨_, rfl, ?_⟩
      have HM_ := Aside0.mk (HM.out.move hbL)
      have HRO := Aside0.mk (Kd.R_reads' hRo).2.2
      clear hRo
      clear HM hbL
      have HM := HM_
      clear HM_
      refine hK.out _ _ ⟨(blk_cell HM.out.x 0).trans rfl, (blk_cell HM.out.x 1).trans rfl, (blk_cell HM.out.x 2).trans rfl, (blk_cell HM.out.arg 0).trans rfl, (blk_cell HM.out.arg 1).trans rfl, (blk_cell HM.out.arg 2).trans rfl⟩ (fun hHeld => ?_)
      clear hK K
      refine norm_ (a' := ?_) ?_ ?_
      rotate_left
      · show Act.put _ (some 155) _ = _
        simp only [Act.put, List.setIfInBounds_toArray, List.set_cons_zero, List.set_cons_succ, i64_w, i32_w]
        rfl
      refine one_ (i := 3) (N := (some 156)) #[true, true, true, true, false, false, false, false] rfl rfl (one_of HT_.out (by kernel_rfl)) (by decide) (fun K hK => ?_)
      refine goes_ Try.func24 (by kernel_rfl) rfl #[.agg #[.int .i64 ow, .int .i64 tr, .slice A1 ps.length c1], .agg #[.int .i64 ow, .int .i64 tr, .slice oA ps.length oc]] (by rfl) rfl rfl (by (try simp only [List.map_toArray, List.map_cons, List.map_nil]); first | done | rfl) ?_
      refine (same_c ow tr A1 oA c1 oc ps _ HM.out.row HRO.out).mono ?_
      rintro e wc ⟨rfl, hbL⟩
      refine ⟨_, rfl, ?_⟩
      have HM_ := Aside0.mk (HM.out.move hbL)
      clear HM hbL
      have HM := HM_
      clear HM_
      refine hK.out _ _ ⟨(blk_cell HM.out.x 0).trans rfl, (blk_cell HM.out.x 1).trans rfl, (blk_cell HM.out.x 2).trans rfl, (blk_cell HM.out.arg 0).trans rfl, (blk_cell HM.out.arg 1).trans rfl, (blk_cell HM.out.arg 2).trans rfl⟩ (fun hHeld => ?_)
      clear hK K
      refine norm_ (a' := ?_) ?_ ?_
      rotate_left
      · show Act.put _ (some 156) _ = _
        simp only [Act.put, List.setIfInBounds_toArray, List.set_cons_zero, List.set_cons_succ, i64_w, i32_w]
        rfl
      refine pure_ (i := 4) (N := (some 157)) (v := ?_) (a' := ?_) #[true, true, true, true, true, false, false, false] rfl rfl (any_of HT_.out (by kernel_rfl)) (fun _ _ _ h => h) (Or.inl ⟨by rfl, ?_⟩) ?_ ?_
      rotate_left
      · intro w'
        go_simp
        with_reducible rfl
      rotate_left
      · simp only [Act.put, List.setIfInBounds_toArray, List.set_cons_zero, List.set_cons_succ, i64_w, i32_w]
        rfl
      refine one_ (i := 5) (N := (some 158)) #[true, true, true, true, true, true, false, false] rfl rfl (one_of HT_.out (by kernel_rfl)) (by decide) (fun K hK => ?_)
      refine goes_ Try.func15 (by kernel_rfl) rfl #[] (by rfl) rfl rfl (by (try simp only [List.map_toArray, List.map_cons, List.map_nil]); first | done | rfl) ?_
      refine (knows_c _).mono ?_
      rintro e wc ⟨rfl, hbL⟩
      refine ⟨_, rfl, ?_⟩
      have HM_ := Aside0.mk (HM.out.move hbL)
      clear HM hbL
      have HM := HM_
      clear HM_
      refine hK.out _ _ ⟨(blk_cell HM.out.x 0).trans rfl, (blk_cell HM.out.x 1).trans rfl, (blk_cell HM.out.x 2).trans rfl, (blk_cell HM.out.arg 0).trans rfl, (blk_cell HM.out.arg 1).trans rfl, (blk_cell HM.out.arg 2).trans rfl⟩ (fun hHeld => ?_)
      clear hK K
      refine norm_ (a' := ?_) ?_ ?_
      rotate_left
      · show Act.put _ (some 158) _ = _
        simp only [Act.put, List.setIfInBounds_toArray, List.set_cons_zero, List.set_cons_succ, i64_w, i32_w]
        rfl
      refine pure_ (i := 6) (N := (some 159)) (v := ?_) (a' := ?_) #[true, true, true, true, true, true, true, false] rfl rfl (any_of HT_.out (by kernel_rfl)) (fun _ _ _ h => h) (Or.inl ⟨by rfl, ?_⟩) ?_ ?_
      rotate_left
      · intro w'
        go_simp
        with_reducible rfl
      rotate_left
      · simp only [Act.put, List.setIfInBounds_toArray, List.set_cons_zero, List.set_cons_succ, i64_w, i32_w]
        rfl
      refine pure_ (i := 7) (N := (some 10)) (v := ?_) (a' := ?_) #[true, true, true, true, true, true, true, true] rfl rfl (any_of HT_.out (by kernel_rfl)) (fun _ _ _ h => h) (Or.inl ⟨by rfl, ?_⟩) ?_ ?_
      rotate_left
      · intro w'
        go_simp
        with_reducible rfl
      rotate_left
      · simp only [Act.put, List.setIfInBounds_toArray, List.set_cons_zero, List.set_cons_succ, i64_w, i32_w]
        rfl
      refine done_ (done_of HT_.out (by kernel_rfl)) ?_
      clear hHeld HT_ HW_
      go_wp2_with fail
      go_ret
      exact ⟨rfl, HM.out.below⟩
end Go.Proofs.Ytpcoelimabojcaa.Hand
