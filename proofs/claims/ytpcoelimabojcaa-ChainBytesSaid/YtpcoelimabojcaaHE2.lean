/- The document's Decode. -/
import Derived.Test.YtpcoelimabojcaaHD4
import Derived.Test.YtpcoelimabojcaaHE1
import Derived.Test.YtpcoelimabojcaaHC23
namespace Go.Proofs.Ytpcoelimabojcaa.Hand
open Go.RowKit Go.Proofs.Ytpcoelimabojcaa Go.Proofs.YtpcoelimabojcaaW.PrintWords Go.Proofs.YtpcoelimabojcaaW.PrintLast
set_option linter.unusedVariables false
set_option linter.unusedSimpArgs false
theorem info68' : (Try.prog.info? 68).map (fun i => (i.zero, i.size, i.bytes)) = some (some (.agg #[.int .i64 0, .int .i64 0, .slice none 0 0]), 3, 40) := by kernel_rfl
theorem refCheck_c (ow tr n : Int) (A : Option Addr) (c : Nat) (ps : List PartV) (W : World) (hr : Kd.C k53 W A ps.length ps) (hc : ps.length ≤ c) (hl : ps.length ≤ 9223372036854775807) (hn : ∀ p ∈ ps, p.nodes.length ≤ 9223372036854775807) :
    Calls Try.prog 30 #[.agg #[.int .i64 ow, .int .i64 tr, .slice A ps.length c], .int .i64 n] W fun e W' => e = .returned (.int .i64 (errB (rightF ow tr ps n))) ∧ Below W.heap.size W W' := by
  have hlm : (ps.map toS).length = ps.length := List.length_map _
  have h := R0.gazetteref10_Check.calls (checkK ps) ow tr A c (ps.map toS) n _ W (C_toS hr) (by rw [hlm]; exact hc) (check10_ev n ow tr ps hl hn _ (Nat.le_refl _))
  rw [hlm] at h
  exact h
/-- What is known while it is read: if something was missing, there is none; else it is what is left to read. -/
def RG {α : Type} (X : Option α) (bad : Bool) (Y : Option α) : Prop := (bad = true → X = none) ∧ (bad = false → X = Y)
theorem RG.step {α : Type} {l : List Int} {p size : Int} {bad : Bool} {X : Option α} {f : Int × Int → Option α} (h : RG X bad ((numD l p size).bind f)) {v q : Int} {b : Bool} (e : rnumF l p size bad = (v, q, b)) : RG X b (f (v, q)) := by
  unfold rnumF at e
  split at e
  · rename_i hc
    obtain ⟨h0, rfl⟩ := hc
    simp only [Prod.mk.injEq] at e
    obtain ⟨rfl, rfl, rfl⟩ := e
    refine ⟨fun h => (Bool.noConfusion h), fun _ => ?_⟩
    rw [h.2 rfl, numD_ok h0, Option.bind_some]
  · rename_i hc
    simp only [Prod.mk.injEq] at e
    obtain ⟨rfl, rfl, rfl⟩ := e
    refine ⟨fun _ => ?_, fun h => (Bool.noConfusion h)⟩
    cases bad with
    | true => exact h.1 rfl
    | false => rw [h.2 rfl, numD_no (fun h0 => hc ⟨h0, rfl⟩)]; rfl
theorem rnumF_nat {l : List Int} (hb : isBytes l) (p size : Int) (bad : Bool) : ∃ (v : Nat) (q : Int) (b : Bool), rnumF l p size bad = ((v : Int), q, b) ∧ v < 256 ^ size.toNat := by
  unfold rnumF
  split
  · obtain ⟨v, h1, h2⟩ := getF_nat hb p size
    exact ⟨v, _, false, by rw [h1], h2⟩
  · exact ⟨0, _, _, rfl, Nat.pow_pos (by decide)⟩
/-- What the document's Decode leaves. -/
def RDecP (l : List Int) (n : Int) (W : World) (e : Ending) (W' : World) : Prop :=
  Below W.heap.size W W' ∧ ∃ A c, e = .returned (.tuple #[.agg #[.int .i64 (decF l n).1, .int .i64 (decF l n).2.1, .slice A (decF l n).2.2.1.length c], .int .i64 (decF l n).2.2.2]) ∧ (decF l n).2.2.1.length ≤ c ∧ Kd.C k53 W' A (decF l n).2.2.1.length (decF l n).2.2.1
/-- Its memory: what it will hand back, the reader at a place, the chain so far. -/
structure RI (W : World) (A : Option Addr) (c : Nat) (l : List Int) (g : Nat) (o t : Int) (v : Value) (ps : List PartV) (p : Int) (bad : Bool) (gp : Nat) (w : World) : Prop where
  below : Below W.heap.size W w
  hg : W.heap.size + 1 < g
  out : w.heap[W.heap.size]? = some (.cells #[.int .i64 0, .int .i64 0, .slice none 0 0] 24 (0, 0))
  rd : w.heap[W.heap.size + 1]? = some (.cells #[.slice A l.length c, .int .i64 p, .bool bad] 86 (0, 0))
  ch : w.heap[g]? = some (.cells #[.int .i64 o, .int .i64 t, v] 24 (0, 0))
  row : Kd.R k53 68 w 0 (fun k => g < k ∧ (gp = 0 ∨ k < gp)) v ps
  src : Kd.C (Kd.int .u8) w A l.length l
theorem RI.num {W w : World} {A : Option Addr} {c : Nat} {l : List Int} {g : Nat} {o t : Int} {v : Value} {ps : List PartV} {p : Int} {bad : Bool} {gp : Nat} {w' : World} {p' : Int} {bad' : Bool} (h : RI W A c l g o t v ps p bad gp w) (hg : w.grownBy w' (some (W.heap.size + 1))) (hr : w'.heap[W.heap.size + 1]? = some (.cells #[.slice A l.length c, .int .i64 p', .bool bad'] 86 (0, 0))) (h0 : Kd.C (Kd.int .u8) W A l.length l) : RI W A c l g o t v ps p' bad' gp w' := by
  have hgg := h.hg
  have hb : Below W.heap.size W w' := Below.grown h.below hg h.below.size (by rintro k hk; injection hk with hk; omega)
  have blk : ∀ k ob, w.heap[k]? = some ob → k ≠ W.heap.size + 1 → w'.heap[k]? = some ob := fun k ob hk hne => (hg.block k (blk_lt hk) (by intro e; injection e with e; exact hne e)).trans hk
  exact ⟨hb, hgg, blk _ _ h.out (by omega), hr, blk _ _ h.ch (by omega), Kd.R_grown h.row hg (fun k hk e => by injection e with e; omega), Kd.C_below h0 hb⟩
theorem RI.set1 {W w : World} {A : Option Addr} {c : Nat} {l : List Int} {g : Nat} {o t : Int} {v : Value} {ps : List PartV} {p : Int} {bad : Bool} {gp : Nat} (h : RI W A c l g o t v ps p bad gp w) (t' : Int) (h0 : Kd.C (Kd.int .u8) W A l.length l) : RI W A c l g o t' v ps p bad gp (w.setCell ⟨g, 1, none⟩ (.int .i64 t')) := by
  have hgg := h.hg
  have hb : Below W.heap.size W (w.setCell ⟨g, 1, none⟩ (.int .i64 t')) := h.below.setCell (p := ⟨g, 1, none⟩) (show W.heap.size ≤ g by omega) _
  exact ⟨hb, hgg, (Below.heap_setCell _ _ _ _ (by intro e; simp only at e; omega)).trans h.out, (Below.heap_setCell _ _ _ _ (by intro e; simp only at e; omega)).trans h.rd, blk_put h.ch 1 _ rfl, Kd.R_set h.row h.ch (by decide) 1 _, Kd.C_below h0 hb⟩
theorem RI.kept {W w : World} {A : Option Addr} {c : Nat} {l : List Int} {g : Nat} {o t : Int} {v : Value} {ps : List PartV} {p : Int} {bad : Bool} {gp : Nat} {w' : World} (h : RI W A c l g o t v ps p bad gp w) (hb : Below w.heap.size w w') : RI W A c l g o t v ps p bad gp w' :=
  ⟨below_step h.below hb, h.hg, blk_below h.out hb, blk_below h.rd hb, blk_below h.ch hb, Kd.R_below h.row hb, Kd.C_below h.src hb⟩
theorem RI.alloc {W w : World} {A : Option Addr} {c : Nat} {l : List Int} {g : Nat} {o t : Int} {v : Value} {ps : List PartV} {p : Int} {bad : Bool} {gp : Nat} (h : RI W A c l g o t v ps p bad gp w) (ob : Obj) : RI W A c l g o t v ps p bad gp (w.alloc ob) :=
  ⟨below_alloc h.below ob, h.hg, blk_alloc h.out ob, blk_alloc h.rd ob, blk_alloc h.ch ob, Kd.R_alloc h.row ob, Kd.C_alloc h.src ob⟩
theorem RI.part {W w : World} {A : Option Addr} {c : Nat} {l : List Int} {g : Nat} {o t : Int} {v : Value} {ps : List PartV} {p : Int} {bad : Bool} {gp : Nat} (h : RI W A c l g o t v ps p bad gp w) : RI W A c l g o t v ps p bad w.heap.size w :=
  ⟨h.below, h.hg, h.out, h.rd, h.ch, Kd.R_mono (Kd.R_bound h.row) (fun k hk => ⟨hk.1.1, .inr hk.2.2.1⟩), h.src⟩
theorem RI.grown {W w : World} {A : Option Addr} {c : Nat} {l : List Int} {g : Nat} {o t : Int} {v : Value} {ps : List PartV} {p : Int} {bad : Bool} {gp : Nat} {w' : World} (h : RI W A c l g o t v ps p bad gp w) (hgp : g < gp) {row : Option Nat} (hg : w.grownBy w' row) (hr : ∀ k, k ≤ gp → some k ≠ row) (h0 : Kd.C (Kd.int .u8) W A l.length l) : RI W A c l g o t v ps p bad gp w' := by
  have hgg := h.hg
  have hb : Below W.heap.size W w' := Below.grown h.below hg h.below.size (fun k hk => by
    rcases Nat.lt_or_ge gp k with h1 | h1
    · omega
    · exact absurd hk.symm (hr k h1))
  have blk : ∀ k ob, w.heap[k]? = some ob → k ≤ gp → w'.heap[k]? = some ob := fun k ob hk hle => (hg.block k (blk_lt hk) (hr k hle)).trans hk
  exact ⟨hb, hgg, blk _ _ h.out (by omega), blk _ _ h.rd (by omega), blk _ _ h.ch (by omega), Kd.R_grown h.row hg (fun k hk => hr k (by have := hk.2; omega)), Kd.C_below h0 hb⟩
theorem RI.app {W w : World} {A : Option Addr} {c : Nat} {l : List Int} {g : Nat} {o t : Int} {v : Value} {ps : List PartV} {p : Int} {bad : Bool} {gp : Nat} {w' : World} {v1 : Value} {ps1 : List PartV} (h : RI W A c l g o t v ps p bad gp w) (hg : w.grownBy w' v.ownBlock) (hR : Kd.R k53 68 w' 0 (fun k => g < k) v1 ps1) (h0 : Kd.C (Kd.int .u8) W A l.length l) :
    w'.heap[g]? = some (.cells #[.int .i64 o, .int .i64 t, v] 24 (0, 0)) ∧ RI W A c l g o t v1 ps1 p bad 0 (w'.setCell ⟨g, 2, none⟩ v1) := by
  have hgg := h.hg
  have hne : ∀ k, k ≤ g → some k ≠ v.ownBlock := fun k hk e => by have := (h.row.1 k e.symm).1; omega
  have hb : Below W.heap.size W w' := Below.grown h.below hg h.below.size (fun k hk => by have := (h.row.1 k hk).1; omega)
  have hb2 : Below W.heap.size W (w'.setCell ⟨g, 2, none⟩ v1) := hb.setCell (p := ⟨g, 2, none⟩) (show W.heap.size ≤ g by omega) v1
  have blk : ∀ k ob, w.heap[k]? = some ob → k ≤ g → w'.heap[k]? = some ob := fun k ob hk hle => (hg.block k (blk_lt hk) (hne k hle)).trans hk
  have b0 := blk _ _ h.ch (by omega)
  exact ⟨b0, hb2, hgg, (Below.heap_setCell _ _ _ _ (by intro e; simp only at e; omega)).trans (blk _ _ h.out (by omega)), (Below.heap_setCell _ _ _ _ (by intro e; simp only at e; omega)).trans (blk _ _ h.rd (by omega)), blk_put b0 2 v1 rfl, Kd.R_mono (Kd.R_set hR b0 (by decide) 2 v1) (fun k hk => ⟨hk, .inl rfl⟩), Kd.C_below h0 hb2⟩
theorem RI.far {W w : World} {A : Option Addr} {c : Nat} {l : List Int} {g : Nat} {o t : Int} {v : Value} {ps : List PartV} {p : Int} {bad : Bool} {gp : Nat} (h : RI W A c l g o t v ps p bad gp w) (hgp : g < gp) (i : Nat) (u : Value) (h0 : Kd.C (Kd.int .u8) W A l.length l) : RI W A c l g o t v ps p bad gp (w.setCell ⟨gp, i, none⟩ u) := by
  have hgg := h.hg
  have hb : Below W.heap.size W (w.setCell ⟨gp, i, none⟩ u) := h.below.setCell (p := ⟨gp, i, none⟩) (by simp only; omega) _
  exact ⟨hb, hgg, (Below.heap_setCell _ _ _ _ (by intro e; simp only at e; omega)).trans h.out, (Below.heap_setCell _ _ _ _ (by intro e; simp only at e; omega)).trans h.rd, (Below.heap_setCell _ _ _ _ (by intro e; simp only at e; omega)).trans h.ch, Kd.R_far (p := ⟨gp, i, none⟩) h.row (fun k hk => by have h1 := hk.2; show k ≠ gp; omega) u, Kd.C_below h0 hb⟩
theorem door26 {l : List Int} {n o t e : Int} {ps : List PartV} {W w : World} {c3 : Nat} {A2 : Option Addr} {ts : Array Value} (hO : w.heap[W.heap.size]? = some (.cells #[.int .i64 o, .int .i64 t, .slice A2 ps.length c3] 24 (0, 0))) (hB : Below W.heap.size W w)
    (t4 : ts.getD 4 undef = .pointer (some ⟨W.heap.size, 0, none⟩)) (t5 : ts.getD 5 undef = .int .i64 e) (hd : decF l n = (o, t, ps, e)) (hc : ps.length ≤ c3) (hC : Kd.C k53 w A2 ps.length ps) :
    bodyPost Try.prog Try.f26 (RDecP l n W) .ret { tmps := ts, defers := [] } w := by
  have r0 : w.cell? ⟨W.heap.size, 0, none⟩ = some (.int .i64 o) := (blk_cell hO 0).trans rfl
  have r1 : w.cell? ⟨W.heap.size, 1, none⟩ = some (.int .i64 t) := (blk_cell hO 1).trans rfl
  have r2 : w.cell? ⟨W.heap.size, 2, none⟩ = some (.slice A2 ps.length c3) := (blk_cell hO 2).trans rfl
  rw [Array.getD_eq_getD_getElem?] at t4 t5
  exact bodyPost_ret (v := .tuple #[.agg #[.int .i64 o, .int .i64 t, .slice A2 ps.length c3], .int .i64 e]) (by simp [results, Try.results26, go_sem, t4, t5, r0, r1, r2]) rfl ⟨hB, A2, c3, by rw [hd], by rw [hd]; exact hc, by rw [hd]; exact hC⟩
def TM16 : Bool × List (List Nat × List Nat) := (true, [([], []), ([0], [0]), ([1], [1]), ([], []), ([3], [3]), ([4], [4]), ([2, 5, 4], [2, 5]), ([0, 1, 2, 3, 4, 5, 6], []), ([7, 0, 1, 2, 3, 4, 5, 6], [7]), ([8, 6, 6, 0, 1, 2, 3, 4, 5, 6], [6, 8])])
def BM16 : List Nat := [0, 1, 3, 0, 8, 24, 63, 127, 255, 511]
theorem tabM16 : rtab .any (opsOf Try.f26 16) = TM16 := by kernel_rfl
theorem bitsM16 : waitsOk TM16.2 BM16 = true := by kernel_rfl
set_option maxHeartbeats 6400000 in
set_option maxRecDepth 100000 in
theorem refDecode_c (n : Int) (A : Option Addr) (c : Nat) (l : List Int) (W : World) (hr : Kd.C (Kd.int .u8) W A l.length l) (hc : l.length ≤ c) (hb : isBytes l) :
    Calls Try.prog 26 #[.slice A l.length c, .int .i64 n] W (RDecP l n W) := by
  obtain ⟨o1, ho1⟩ : ∃ o1 : Obj, o1 = .cells #[.int .i64 0, .int .i64 0, .slice none 0 0] 24 (0, 0) := ⟨_, rfl⟩
  have e1 : (W.alloc o1).heap.size = W.heap.size + 1 := Array.size_push _
  have b1 := heap_alloc_new W o1
  have hbl := below_alloc (Below.refl W.heap.size W) o1
  have HR := Aside0.mk hr
  have HY := Aside0.mk hb
  have HC := Aside0.mk hc
  by_cases hn : 256 < n
  · have hd : decide (n > 256) = true := decide_eq_true hn
    have z0 : (W.alloc o1).cell? ⟨W.heap.size, 0, none⟩ = some (.int .i64 0) := by rw [ho1] at b1 ⊢; exact (blk_cell b1 0).trans rfl
    clear e1 b1 hbl hr hb hc
    subst ho1
    go_enter Try.func26, Try.ntmps26
    go_wp2_with fail
    have hdn : decF l n = (0, 0, [], 6) := if_pos hn
    have BO6 := heap_alloc_new W (.cells #[.int .i64 0, .int .i64 0, .slice none 0 0] 24 (0, 0))
    have r0 : (W.alloc (.cells #[.int .i64 0, .int .i64 0, .slice none 0 0] 24 (0, 0))).cell? ⟨W.heap.size, 0, none⟩ = some (.int .i64 0) := (blk_cell BO6 0).trans rfl
    have r1 : (W.alloc (.cells #[.int .i64 0, .int .i64 0, .slice none 0 0] 24 (0, 0))).cell? ⟨W.heap.size, 1, none⟩ = some (.int .i64 0) := (blk_cell BO6 1).trans rfl
    have r2 : (W.alloc (.cells #[.int .i64 0, .int .i64 0, .slice none 0 0] 24 (0, 0))).cell? ⟨W.heap.size, 2, none⟩ = some (.slice none 0 0) := (blk_cell BO6 2).trans rfl
    exact bodyPost_ret (v := .tuple #[.agg #[.int .i64 0, .int .i64 0, .slice none 0 0], .int .i64 6]) (by simp [results, Try.results26, go_sem, r0, r1, r2]) rfl ⟨below_alloc (Below.refl W.heap.size W) _, none, 0, by rw [hdn]; rfl, by rw [hdn]; exact Nat.le_refl _, by rw [hdn]; exact Kd.C_nil _ _⟩
  · have hd : decide (n > 256) = false := decide_eq_false hn
    obtain ⟨o3, ho3⟩ : ∃ o3 : Obj, o3 = .cells #[.slice A l.length c, .int .i64 0, .bool false] 86 (0, 0) := ⟨_, rfl⟩
    have b3 := heap_alloc_new (W.alloc o1) o3
    rw [e1] at b3
    have hb3 := below_alloc hbl o3
    have BO := Aside0.mk (show ((W.alloc o1).alloc o3).heap[W.heap.size]? = some (.cells #[.int .i64 0, .int .i64 0, .slice none 0 0] 24 (0, 0)) by rw [← ho1]; exact blk_alloc b1 o3)
    have BR := Aside0.mk (show ((W.alloc o1).alloc o3).heap[W.heap.size + 1]? = some (.cells #[.slice A l.length c, .int .i64 0, .bool false] 86 (0, 0)) by rw [← ho3]; exact b3)
    have HB := Aside0.mk hb3
    have HS := Aside0.mk (Kd.C_below hr hb3)
    have HNN := Aside0.mk (Int.not_lt.1 hn)
    have E1 := Aside0.mk e1
    clear b1 hbl hr hb b3 hb3 e1
    subst ho1 ho3
    go_enter Try.func26, Try.ntmps26
    go_wp2_with fail
    refine (rnum_c (W.heap.size + 1) A c l 0 1 false _ BR.out HS.out HC.out HY.out).mono ?_
    rintro e w1 ⟨rfl, hr1, hg1⟩
    obtain ⟨ow, p1, bad1, hv_, hv2_⟩ := rnumF_nat HY.out 0 1 false
    have GX := Aside0.mk (RG.step (X := goodD l n) ⟨fun h => Bool.noConfusion h, fun _ => goodD_eq l n⟩ hv_)
    rw [hv_] at hr1 ⊢
    clear hv_ hv2_
    have hbw : Below W.heap.size W w1 := Below.grown HB.out hg1 HB.out.size (by rintro k hk; injection hk with hk; omega)
    have BO1 := Aside0.mk ((hg1.block _ (blk_lt BO.out) (by intro e; injection e with e; omega)).trans BO.out)
    have hsz1 : W.heap.size + 1 < w1.heap.size := blk_lt hr1
    obtain ⟨oc, hoc⟩ : ∃ oc : Obj, oc = .cells #[.int .i64 (ow : Int), .int .i64 0, .slice none 0 0] 24 (0, 0) := ⟨_, rfl⟩
    have HI := Aside0.mk (show RI W A c l w1.heap.size (ow : Int) 0 (.slice none 0 0) [] p1 bad1 0 (w1.alloc oc) from ⟨below_alloc hbw oc, hsz1, blk_alloc BO1.out oc, blk_alloc hr1 oc, by rw [← hoc]; exact heap_alloc_new w1 oc, Kd.R_nil _ _ _ _ _, Kd.C_below HR.out (below_alloc hbw oc)⟩)
    subst hoc
    clear hr1 hg1 hbw BO1 BO BR HB HS E1
    go_wp2_with fail
    refine (rnum_c (W.heap.size + 1) A c l p1 6 bad1 _ HI.out.rd HI.out.src HC.out HY.out).mono ?_
    rintro e w2 ⟨rfl, hr1, hg1⟩
    have HI2 := Aside0.mk (HI.out.num hg1 hr1 HR.out)
    obtain ⟨tr, p2, bad2, hv_, hv2_⟩ := rnumF_nat HY.out p1 6 bad1
    have GHI2 := Aside0.mk (RG.step (X := goodD l n) GX.out hv_)
    rw [hv_] at HI2 ⊢
    have NHI2 := Aside0.mk hv2_
    clear hv_ hv2_ hr1 hg1 HI
    have hsz2 : w1.heap.size < w2.heap.size := blk_lt HI2.out.ch
    have z1 : w2.cell? ⟨w1.heap.size, 1, none⟩ = some (.int .i64 0) := (blk_cell HI2.out.ch 1).trans rfl
    have f1 := blk_frozen HI2.out.ch 1
    have HJ2 := Aside0.mk (HI2.out.set1 (tr : Int) HR.out)
    clear HI2
    go_wp2_with fail
    clear z1 f1
    refine (rnum_c (W.heap.size + 1) A c l p2 1 bad2 _ HJ2.out.rd HJ2.out.src HC.out HY.out).mono ?_
    rintro e w3 ⟨rfl, hr1, hg1⟩
    have HI3 := Aside0.mk (HJ2.out.num hg1 hr1 HR.out)
    obtain ⟨N, p3, bad3, hv_, hv2_⟩ := rnumF_nat HY.out p2 1 bad2
    have GHI3 := Aside0.mk (RG.step (X := goodD l n) GHI2.out hv_)
    rw [hv_] at HI3 ⊢
    have NHI3 := Aside0.mk hv2_
    clear hv_ hv2_ hr1 hg1 HJ2
    have hN3 : N < 256 := NHI3.out
    have GN := Aside0.mk (show RG (goodD l n) bad3 (stP l n (ow : Int) (tr : Int) N [] p3) from GHI3.out)
    clear GX NHI2 GHI2
    go_wp2_with fail
    go_loopw [9] (fun u9 wr => ∃ (i : Nat) (v : Value) (acc : List PartV) (p : Int) (bad : Bool), i ≤ N ∧ u9 = .int .i64 i ∧ acc.length = i ∧ Aside0 (RI W A c l w1.heap.size (ow : Int) (tr : Int) v acc p bad 0 wr) ∧ Aside0 (∀ x ∈ acc, x.nodes.length < 256) ∧ Aside0 (RG (goodD l n) bad (stP l n (ow : Int) (tr : Int) (N - i) acc p))) (fun u9 wr => N - (intOf u9).toNat)
    case atStart => exact ⟨0, _, [], p3, bad3, Nat.zero_le _, rfl, rfl, HI3, ⟨by intro x hx; cases hx⟩, GN⟩
    case round =>
      obtain ⟨i, v, acc, p, bad, hi, rfl, hal, HK, HKN, GK⟩ := hrel
      clear HI3 GN GHI3 NHI3
      have q0 : wr.cell? ⟨W.heap.size + 1, 2, none⟩ = some (.bool bad) := (blk_cell HK.out.rd 2).trans rfl
      have hmax := Kd.C_max HK.out.src
      by_cases hlt : i < N
      rotate_left
      · obtain rfl : i = N := by omega
        subst hal
        obtain ⟨Av, cv, rfl⟩ := Kd.R_slice HK.out.row
        have x0 : wr.cell? ⟨W.heap.size, 0, none⟩ = some (.int .i64 0) := (blk_cell HK.out.out 0).trans rfl
        have x1 : wr.cell? ⟨W.heap.size, 1, none⟩ = some (.int .i64 0) := (blk_cell HK.out.out 1).trans rfl
        have x2 : wr.cell? ⟨W.heap.size, 2, none⟩ = some (.slice none 0 0) := (blk_cell HK.out.out 2).trans rfl
        have f0 := blk_frozen HK.out.out 0
        have f1 := blk_frozen HK.out.out 1
        have f2 := blk_frozen HK.out.out 2
        cases bad
        rotate_left
        · have GNO := Aside0.mk (GK.out.1 rfl)
          go_wp2_with fail
          have hgn : goodD l n = none := GNO.out
          have k3 := put3 (x := .int .i64 0) (y := .int .i64 0) (z := .slice none 0 0) HK.out.out
          exact door26 (ps := []) k3 (put3_B HK.out.below (Nat.le_refl _)) rfl rfl (by rw [decF, if_neg (Int.not_lt.2 HNN.out), hgn]) (Nat.le_refl _) (Kd.C_nil _ _)
        have GE := Aside0.mk (show goodD l n = if p = (l.length : Int) ∧ rightF (ow : Int) (tr : Int) acc n = true then some ((ow : Int), (tr : Int), acc) else none by rw [GK.out.2 rfl, Nat.sub_self]; rfl)
        have b1 : wr.cell? ⟨W.heap.size + 1, 1, none⟩ = some (.int .i64 p) := (blk_cell HK.out.rd 1).trans rfl
        have c0 : wr.cell? ⟨w1.heap.size, 0, none⟩ = some (.int .i64 (ow : Int)) := (blk_cell HK.out.ch 0).trans rfl
        have c1 : wr.cell? ⟨w1.heap.size, 1, none⟩ = some (.int .i64 (tr : Int)) := (blk_cell HK.out.ch 1).trans rfl
        have c2 : wr.cell? ⟨w1.heap.size, 2, none⟩ = some (.slice Av acc.length cv) := (blk_cell HK.out.ch 2).trans rfl
        by_cases hpl : p = (l.length : Int)
        rotate_left
        · have hdp : (p != (l.length : Int)) = true := bne_iff_ne.2 hpl
          have hdq : decide (p = (l.length : Int)) = false := decide_eq_false hpl
          have GNO := Aside0.mk (show goodD l n = none by rw [GE.out, if_neg (fun h => hpl h.1)])
          go_wp2_with fail
          have hgn : goodD l n = none := GNO.out
          have k3 := put3 (x := .int .i64 0) (y := .int .i64 0) (z := .slice none 0 0) HK.out.out
          exact door26 (ps := []) k3 (put3_B HK.out.below (Nat.le_refl _)) rfl rfl (by rw [decF, if_neg (Int.not_lt.2 HNN.out), hgn]) (Nat.le_refl _) (Kd.C_nil _ _)
        have hdp : (p != (l.length : Int)) = false := by rw [hpl]; exact bne_self_eq_false _
        obtain ⟨-, hcap, hCC⟩ := Kd.R_reads' HK.out.row
        cases hrt : rightF (ow : Int) (tr : Int) acc n
        · go_wp2_with (first | (go_at_call 30; refine (refCheck_c (ow : Int) (tr : Int) n Av cv acc _ hCC hcap (by omega) (fun x hx => by have := HKN.out x hx; omega)).mono ?_; rintro e wE ⟨rfl, bel⟩; rw [hrt]; have HE := Aside0.mk (HK.out.kept bel); have c0 : wE.cell? ⟨w1.heap.size, 0, none⟩ = some (.int .i64 (ow : Int)) := (blk_cell HE.out.ch 0).trans rfl; have c1 : wE.cell? ⟨w1.heap.size, 1, none⟩ = some (.int .i64 (tr : Int)) := (blk_cell HE.out.ch 1).trans rfl; have c2 : wE.cell? ⟨w1.heap.size, 2, none⟩ = some (.slice Av acc.length cv) := (blk_cell HE.out.ch 2).trans rfl; have x0 : wE.cell? ⟨W.heap.size, 0, none⟩ = some (.int .i64 0) := (blk_cell HE.out.out 0).trans rfl; have x1 : wE.cell? ⟨W.heap.size, 1, none⟩ = some (.int .i64 0) := (blk_cell HE.out.out 1).trans rfl; have x2 : wE.cell? ⟨W.heap.size, 2, none⟩ = some (.slice none 0 0) := (blk_cell HE.out.out 2).trans rfl; have f0 := blk_frozen HE.out.out 0; have f1 := blk_frozen HE.out.out 1; have f2 := blk_frozen HE.out.out 2; clear bel HK) | fail)
          have hgn : goodD l n = none := by rw [GE.out, if_neg (fun h => by rw [hrt] at h; exact absurd h.2 (by decide))]
          have k3 := put3 (x := .int .i64 0) (y := .int .i64 0) (z := .slice none 0 0) HE.out.out
          exact door26 (ps := []) k3 (put3_B HE.out.below (Nat.le_refl _)) rfl rfl (by rw [decF, if_neg (Int.not_lt.2 HNN.out), hgn]) (Nat.le_refl _) (Kd.C_nil _ _)
        go_wp2_with (first | (go_at_call 30; refine (refCheck_c (ow : Int) (tr : Int) n Av cv acc _ hCC hcap (by omega) (fun x hx => by have := HKN.out x hx; omega)).mono ?_; rintro e wE ⟨rfl, bel⟩; rw [hrt]; have HE := Aside0.mk (HK.out.kept bel); have c0 : wE.cell? ⟨w1.heap.size, 0, none⟩ = some (.int .i64 (ow : Int)) := (blk_cell HE.out.ch 0).trans rfl; have c1 : wE.cell? ⟨w1.heap.size, 1, none⟩ = some (.int .i64 (tr : Int)) := (blk_cell HE.out.ch 1).trans rfl; have c2 : wE.cell? ⟨w1.heap.size, 2, none⟩ = some (.slice Av acc.length cv) := (blk_cell HE.out.ch 2).trans rfl; have x0 : wE.cell? ⟨W.heap.size, 0, none⟩ = some (.int .i64 0) := (blk_cell HE.out.out 0).trans rfl; have x1 : wE.cell? ⟨W.heap.size, 1, none⟩ = some (.int .i64 0) := (blk_cell HE.out.out 1).trans rfl; have x2 : wE.cell? ⟨W.heap.size, 2, none⟩ = some (.slice none 0 0) := (blk_cell HE.out.out 2).trans rfl; have f0 := blk_frozen HE.out.out 0; have f1 := blk_frozen HE.out.out 1; have f2 := blk_frozen HE.out.out 2; clear bel HK) | fail)
        have hgn : goodD l n = some ((ow : Int), (tr : Int), acc) := by rw [GE.out, if_pos ⟨hpl, hrt⟩]
        have k3 := put3 (x := .int .i64 (ow : Int)) (y := .int .i64 (tr : Int)) (z := .slice Av acc.length cv) HE.out.out
        have hR3 := put3_R (x := .int .i64 (ow : Int)) (y := .int .i64 (tr : Int)) (z := .slice Av acc.length cv) HE.out.row HE.out.out (by decide)
        exact door26 k3 (put3_B HE.out.below (Nat.le_refl _)) rfl rfl (by rw [decF, if_neg (Int.not_lt.2 HNN.out), hgn]) hcap (Kd.R_reads' hR3).2.2
      have hlt2 : (i : Int) < (N : Int) := by omega
      cases bad
      rotate_left
      · obtain ⟨Av, cv, rfl⟩ := Kd.R_slice HK.out.row
        have GNO := Aside0.mk (GK.out.1 rfl)
        have x0 : wr.cell? ⟨W.heap.size, 0, none⟩ = some (.int .i64 0) := (blk_cell HK.out.out 0).trans rfl
        have x1 : wr.cell? ⟨W.heap.size, 1, none⟩ = some (.int .i64 0) := (blk_cell HK.out.out 1).trans rfl
        have x2 : wr.cell? ⟨W.heap.size, 2, none⟩ = some (.slice none 0 0) := (blk_cell HK.out.out 2).trans rfl
        have f0 := blk_frozen HK.out.out 0
        have f1 := blk_frozen HK.out.out 1
        have f2 := blk_frozen HK.out.out 2
        go_wp2_with fail
        have hgn : goodD l n = none := GNO.out
        have k3 := put3 (x := .int .i64 0) (y := .int .i64 0) (z := .slice none 0 0) HK.out.out
        exact door26 (ps := []) k3 (put3_B HK.out.below (Nat.le_refl _)) rfl rfl (by rw [decF, if_neg (Int.not_lt.2 HNN.out), hgn]) (Nat.le_refl _) (Kd.C_nil _ _)
      obtain ⟨k, hk⟩ : ∃ k, N - i = k + 1 := ⟨N - i - 1, by omega⟩
      have GK1 := Aside0.mk (show RG (goodD l n) false (stP l n (ow : Int) (tr : Int) (k + 1) acc p) by rw [← hk]; exact GK.out)
      rw [stP_succ] at GK1
      clear GK
      go_wp2_with fail
      refine (rnum_c (W.heap.size + 1) A c l p 6 false _ HK.out.rd HK.out.src HC.out HY.out).mono ?_
      rintro e w4 ⟨rfl, hr1, hg1⟩
      have HK1 := Aside0.mk (HK.out.num hg1 hr1 HR.out)
      obtain ⟨fi, q1, bad4, hv_, hv2_⟩ := rnumF_nat HY.out p 6 false
      have GHK1 := Aside0.mk (RG.step (X := goodD l n) GK1.out hv_)
      rw [hv_] at HK1 ⊢
      have NHK1 := Aside0.mk hv2_
      clear hv_ hv2_ hr1 hg1 HK
      have hr4 : w1.heap.size < w4.heap.size := blk_lt HK1.out.ch
      obtain ⟨ov, hov⟩ : ∃ ov : Obj, ov = .cells #[.int .i64 (fi : Int), .int .i64 0, .slice none 0 0] 68 (0, 0) := ⟨_, rfl⟩
      have HK2 := Aside0.mk (HK1.out.part.alloc ov)
      have BV := Aside0.mk (heap_alloc_new w4 ov)
      subst hov
      clear HK1 GK1
      go_wp2_with fail
      refine (rnum_c (W.heap.size + 1) A c l q1 6 bad4 _ HK2.out.rd HK2.out.src HC.out HY.out).mono ?_
      rintro e w5 ⟨rfl, hr1, hg1⟩
      have HK3 := Aside0.mk (HK2.out.num hg1 hr1 HR.out)
      have BV5 := Aside0.mk ((hg1.block _ (blk_lt BV.out) (by intro e; injection e with e; omega)).trans BV.out)
      obtain ⟨id, q2, bad5, hv_, hv2_⟩ := rnumF_nat HY.out q1 6 bad4
      have GHK3 := Aside0.mk (RG.step (X := goodD l n) GHK1.out hv_)
      rw [hv_] at HK3 ⊢
      have NHK3 := Aside0.mk hv2_
      clear hv_ hv2_ hr1 hg1 HK2
      have y1 : w5.cell? ⟨w4.heap.size, 1, none⟩ = some (.int .i64 0) := (blk_cell BV5.out 1).trans rfl
      have y2 := blk_frozen BV5.out 1
      have HK4 := Aside0.mk (HK3.out.far hr4 1 (.int .i64 (id : Int)) HR.out)
      have BV6 := Aside0.mk (blk_put BV5.out 1 (.int .i64 (id : Int)) rfl)
      clear HK3 BV BV5 GHK1 NHK1
      go_wp2_with fail
      clear y1 y2
      refine (rnum_c (W.heap.size + 1) A c l q2 1 bad5 _ HK4.out.rd HK4.out.src HC.out HY.out).mono ?_
      rintro e w6 ⟨rfl, hr1, hg1⟩
      have HK5 := Aside0.mk (HK4.out.num hg1 hr1 HR.out)
      have BV7 := Aside0.mk ((hg1.block _ (blk_lt BV6.out) (by intro e; injection e with e; omega)).trans BV6.out)
      obtain ⟨M, q3, bad6, hv_, hv2_⟩ := rnumF_nat HY.out q2 1 bad5
      have GHK5 := Aside0.mk (RG.step (X := goodD l n) GHK3.out hv_)
      rw [hv_] at HK5 ⊢
      have NHK5 := Aside0.mk hv2_
      clear hv_ hv2_ hr1 hg1 HK4
      have hM3 : M < 256 := NHK5.out
      clear BV6 GHK3 NHK3 NHK5
      have GM := Aside0.mk (show RG (goodD l n) bad6 ((nodesD l M [] q3).bind (fun q : List Int × Int => stP l n (ow : Int) (tr : Int) k (acc ++ [⟨(fi : Int), (id : Int), q.1⟩]) q.2)) from GHK5.out)
      clear GHK5
      go_wp2_with fail
      go_loopw [12] (fun u12 wx => ∃ (j : Nat) (v2 : Value) (ns : List Int) (p' : Int) (bd : Bool), j ≤ M ∧ u12 = .int .i64 j ∧ ns.length = j ∧ Aside0 (RI W A c l w1.heap.size (ow : Int) (tr : Int) v acc p' bd w4.heap.size wx) ∧ Aside0 (wx.heap[w4.heap.size]? = some (.cells #[.int .i64 (fi : Int), .int .i64 (id : Int), v2] 68 (0, 0))) ∧ Aside0 (Kd.R (Kd.int .i64) 3 wx 0 (fun k => w4.heap.size < k) v2 ns) ∧ Aside0 (RG (goodD l n) bd ((nodesD l (M - j) ns p').bind (fun q : List Int × Int => stP l n (ow : Int) (tr : Int) k (acc ++ [⟨(fi : Int), (id : Int), q.1⟩]) q.2)))) (fun u12 wx => M - (intOf u12).toNat)
      case atStart => exact ⟨0, _, [], q3, bad6, Nat.zero_le _, rfl, rfl, HK5, BV7, ⟨Kd.R_nil _ _ _ _ _⟩, GM⟩
      case round =>
        obtain ⟨j, v2, ns, p', bd, hj, rfl, hns, HL, BL, RL, GL⟩ := hrel
        subst hns
        clear HK5 BV7 GM
        have q1_ : wr.cell? ⟨W.heap.size + 1, 2, none⟩ = some (.bool bd) := (blk_cell HL.out.rd 2).trans rfl
        by_cases hjl : ns.length < M
        rotate_left
        · obtain rfl : M = ns.length := by omega
          have GE := Aside0.mk (show RG (goodD l n) bd (stP l n (ow : Int) (tr : Int) k (acc ++ [(⟨(fi : Int), (id : Int), ns⟩ : PartV)]) p') by have := GL.out; rw [Nat.sub_self] at this; exact this)
          obtain ⟨A2, c2, rfl⟩ := Kd.R_slice RL.out
          obtain ⟨Av, cv, rfl⟩ := Kd.R_slice HL.out.row
          have a0 : wr.cell? ⟨w4.heap.size, 0, none⟩ = some (.int .i64 (fi : Int)) := (blk_cell BL.out 0).trans rfl
          have a1 : wr.cell? ⟨w4.heap.size, 1, none⟩ = some (.int .i64 (id : Int)) := (blk_cell BL.out 1).trans rfl
          have a2 : wr.cell? ⟨w4.heap.size, 2, none⟩ = some (.slice A2 ns.length c2) := (blk_cell BL.out 2).trans rfl
          have ao : wr.cell? ⟨w1.heap.size, 2, none⟩ = some (.slice Av acc.length cv) := (blk_cell HL.out.ch 2).trans rfl
          have hsz : w4.heap.size < wr.heap.size := blk_lt BL.out
          have HKP := Aside0.mk (show ∀ k, w4.heap.size < k → w1.heap.size < k ∧ some k ≠ (Value.slice Av acc.length cv).ownBlock from fun k hk => ⟨by omega, fun e => by have := (HL.out.row.1 k e.symm).2; omega⟩)
          have hfresh : ∀ (wl : World) k, w4.heap.size < wl.heap.size → wl.heap.size ≤ k → w1.heap.size < k := fun wl k h1 h2 => by omega
          have hcnt : (acc.length + [(⟨(fi : Int), (id : Int), ns⟩ : PartV)].length) * 40 ≤ 140737488355328 := by show (acc.length + 1) * 40 ≤ _; omega
          have HL1 := Aside0.mk (show (acc ++ [(⟨(fi : Int), (id : Int), ns⟩ : PartV)]).length = acc.length + 1 by rw [List.length_append]; rfl)
          have HIX := Aside0.mk (And.intro (Nat.succ_le_of_lt hlt) (And.intro (less_ hlt) (wrap_next (show N ≤ 140737488355328 by omega) hlt)))
          have HKX := Aside0.mk (show N - (i + 1) = k by omega)
          have HAL := Aside0.mk hal
          have HKM := Aside0.mk (show ∀ x ∈ acc ++ [(⟨(fi : Int), (id : Int), ns⟩ : PartV)], x.nodes.length < 256 from fun x hx => by rcases List.mem_append.1 hx with h | h; exact HKN.out x h; rw [List.mem_singleton] at h; subst h; show ns.length < 256; omega)
          clear GL hk hal
          go_wp2_with (first | ((with_reducible refine gate_dst (N := 72) rfl ?_); refine Kd.R_lit k53 (w0 := wr) 0 68 ?hg (N := 72) ?hd (xs := [(⟨(fi : Int), (id : Int), ns⟩ : PartV)]) (inner := [.int .i64 (fi : Int), .int .i64 (id : Int), .slice A2 ns.length c2]) (ok := fun k => w4.heap.size < k) (okp := fun k => w4.heap.size < k) ?hr ?hp (fun _ hk => hk) ?hf (Below.refl _ _) (Nat.zero_le _) (by simp) ?_; (case hg => rfl); (case hd => rfl); (case hr => first | (go_simp; done) | (go_simp; rfl)); (case hp => exact (Reps.snoc (Reps.none _ 3) (k53_mkM (x := (⟨(fi : Int), (id : Int), ns⟩ : PartV)) RL.out) rfl)); (case hf => exact hsz); intro vl_ wl_ HOl_ _ hgl_ _; obtain ⟨A6, c6, hv6, _, hx6⟩ := OwnRow.reads HOl_.2; subst hv6; have hb6 : Below wr.heap.size wr wl_ := ⟨hgl_.os, hgl_.tape, hgl_.output, hgl_.size, fun k hk => hgl_.block k hk (by simp)⟩; have HX := Aside0.mk (hx6.imp_ (Below.refl _ _) (fun p c h => k53.M_mono (fun k hk => hk.1) h)); have HL7 := Aside0.mk (HL.out.kept hb6); have HO7 := Aside0.mk (Kd.R_mono (ok' := fun k => w1.heap.size < k) HL7.out.row (fun _ h => h.1)); have hs7 := Nat.lt_of_lt_of_le hsz hb6.size; clear HOl_ hgl_ hx6 hb6) | (refine Kd.R_append_rows k53 (Rr := k53.M wl_ 0 (fun k => w4.heap.size < k)) (w0 := wl_) 0 rfl (.tmp 70) (.tmp 72) 22 68 (.agg #[.int .i64 0, .int .i64 0, .slice none 0 0]) 40 rfl Try.underlying22 info68' rfl (by decide) (by decide) (.slice Av acc.length cv) acc [(⟨(fi : Int), (id : Int), ns⟩ : PartV)] A6 _ c6 (fun k => w1.heap.size < k) (fun k => w4.heap.size < k) ?e1 ?e2 HO7.out HX.out (fun _ _ h => h) HKP.out (fun k hk => hfresh wl_ k hs7 hk) (Below.refl _ _) (Nat.zero_le _) ?e7 ?_; (case e1 => rfl); (case e2 => rfl); (case e7 => exact hcnt); intro v7 w7 ho7 _ hg7 _; obtain ⟨A7, c7, hv7⟩ := Kd.R_slice ho7; rw [HL1.out] at hv7; subst hv7; have HAP := Aside0.mk (HL7.out.app hg7 ho7 HR.out); have z8 : w7.cell? ⟨w1.heap.size, 2, none⟩ = some (.slice Av acc.length cv) := (blk_cell HAP.out.1 2).trans rfl; have f8 := blk_frozen HAP.out.1 2; clear ho7 hg7 HX HO7 HL7))
          exact ⟨⟨i + 1, _, _, p', _, HIX.out.1, rfl, HL1.out.trans (congrArg (· + 1) HAL.out), Aside0.mk HAP.out.2, HKM, Aside0.mk (by rw [HKX.out]; exact GE.out)⟩, HIX.out.2.1⟩
        have hjl2 : (ns.length : Int) < (M : Int) := by omega
        cases bd
        rotate_left
        · have GE := Aside0.mk (show RG (goodD l n) true (stP l n (ow : Int) (tr : Int) k (acc ++ [(⟨(fi : Int), (id : Int), ns⟩ : PartV)]) p') from ⟨fun _ => GL.out.1 rfl, fun h => Bool.noConfusion h⟩)
          obtain ⟨A2, c2, rfl⟩ := Kd.R_slice RL.out
          obtain ⟨Av, cv, rfl⟩ := Kd.R_slice HL.out.row
          have a0 : wr.cell? ⟨w4.heap.size, 0, none⟩ = some (.int .i64 (fi : Int)) := (blk_cell BL.out 0).trans rfl
          have a1 : wr.cell? ⟨w4.heap.size, 1, none⟩ = some (.int .i64 (id : Int)) := (blk_cell BL.out 1).trans rfl
          have a2 : wr.cell? ⟨w4.heap.size, 2, none⟩ = some (.slice A2 ns.length c2) := (blk_cell BL.out 2).trans rfl
          have ao : wr.cell? ⟨w1.heap.size, 2, none⟩ = some (.slice Av acc.length cv) := (blk_cell HL.out.ch 2).trans rfl
          have hsz : w4.heap.size < wr.heap.size := blk_lt BL.out
          have HKP := Aside0.mk (show ∀ k, w4.heap.size < k → w1.heap.size < k ∧ some k ≠ (Value.slice Av acc.length cv).ownBlock from fun k hk => ⟨by omega, fun e => by have := (HL.out.row.1 k e.symm).2; omega⟩)
          have hfresh : ∀ (wl : World) k, w4.heap.size < wl.heap.size → wl.heap.size ≤ k → w1.heap.size < k := fun wl k h1 h2 => by omega
          have hcnt : (acc.length + [(⟨(fi : Int), (id : Int), ns⟩ : PartV)].length) * 40 ≤ 140737488355328 := by show (acc.length + 1) * 40 ≤ _; omega
          have HL1 := Aside0.mk (show (acc ++ [(⟨(fi : Int), (id : Int), ns⟩ : PartV)]).length = acc.length + 1 by rw [List.length_append]; rfl)
          have HIX := Aside0.mk (And.intro (Nat.succ_le_of_lt hlt) (And.intro (less_ hlt) (wrap_next (show N ≤ 140737488355328 by omega) hlt)))
          have HKX := Aside0.mk (show N - (i + 1) = k by omega)
          have HAL := Aside0.mk hal
          have HKM := Aside0.mk (show ∀ x ∈ acc ++ [(⟨(fi : Int), (id : Int), ns⟩ : PartV)], x.nodes.length < 256 from fun x hx => by rcases List.mem_append.1 hx with h | h; exact HKN.out x h; rw [List.mem_singleton] at h; subst h; show ns.length < 256; omega)
          clear GL hk hal
          go_wp2_with (first | ((with_reducible refine gate_dst (N := 72) rfl ?_); refine Kd.R_lit k53 (w0 := wr) 0 68 ?hg (N := 72) ?hd (xs := [(⟨(fi : Int), (id : Int), ns⟩ : PartV)]) (inner := [.int .i64 (fi : Int), .int .i64 (id : Int), .slice A2 ns.length c2]) (ok := fun k => w4.heap.size < k) (okp := fun k => w4.heap.size < k) ?hr ?hp (fun _ hk => hk) ?hf (Below.refl _ _) (Nat.zero_le _) (by simp) ?_; (case hg => rfl); (case hd => rfl); (case hr => first | (go_simp; done) | (go_simp; rfl)); (case hp => exact (Reps.snoc (Reps.none _ 3) (k53_mkM (x := (⟨(fi : Int), (id : Int), ns⟩ : PartV)) RL.out) rfl)); (case hf => exact hsz); intro vl_ wl_ HOl_ _ hgl_ _; obtain ⟨A6, c6, hv6, _, hx6⟩ := OwnRow.reads HOl_.2; subst hv6; have hb6 : Below wr.heap.size wr wl_ := ⟨hgl_.os, hgl_.tape, hgl_.output, hgl_.size, fun k hk => hgl_.block k hk (by simp)⟩; have HX := Aside0.mk (hx6.imp_ (Below.refl _ _) (fun p c h => k53.M_mono (fun k hk => hk.1) h)); have HL7 := Aside0.mk (HL.out.kept hb6); have HO7 := Aside0.mk (Kd.R_mono (ok' := fun k => w1.heap.size < k) HL7.out.row (fun _ h => h.1)); have hs7 := Nat.lt_of_lt_of_le hsz hb6.size; clear HOl_ hgl_ hx6 hb6) | (refine Kd.R_append_rows k53 (Rr := k53.M wl_ 0 (fun k => w4.heap.size < k)) (w0 := wl_) 0 rfl (.tmp 70) (.tmp 72) 22 68 (.agg #[.int .i64 0, .int .i64 0, .slice none 0 0]) 40 rfl Try.underlying22 info68' rfl (by decide) (by decide) (.slice Av acc.length cv) acc [(⟨(fi : Int), (id : Int), ns⟩ : PartV)] A6 _ c6 (fun k => w1.heap.size < k) (fun k => w4.heap.size < k) ?e1 ?e2 HO7.out HX.out (fun _ _ h => h) HKP.out (fun k hk => hfresh wl_ k hs7 hk) (Below.refl _ _) (Nat.zero_le _) ?e7 ?_; (case e1 => rfl); (case e2 => rfl); (case e7 => exact hcnt); intro v7 w7 ho7 _ hg7 _; obtain ⟨A7, c7, hv7⟩ := Kd.R_slice ho7; rw [HL1.out] at hv7; subst hv7; have HAP := Aside0.mk (HL7.out.app hg7 ho7 HR.out); have z8 : w7.cell? ⟨w1.heap.size, 2, none⟩ = some (.slice Av acc.length cv) := (blk_cell HAP.out.1 2).trans rfl; have f8 := blk_frozen HAP.out.1 2; clear ho7 hg7 HX HO7 HL7))
          exact ⟨⟨i + 1, _, _, p', _, HIX.out.1, rfl, HL1.out.trans (congrArg (· + 1) HAL.out), Aside0.mk HAP.out.2, HKM, Aside0.mk (by rw [HKX.out]; exact GE.out)⟩, HIX.out.2.1⟩
        obtain ⟨k2, hk2⟩ : ∃ k2, M - ns.length = k2 + 1 := ⟨M - ns.length - 1, by omega⟩
        have GL1 := Aside0.mk (show RG (goodD l n) false ((numD l p' 1).bind fun x => (nodesD l k2 (ns ++ [x.1]) x.2).bind (fun q : List Int × Int => stP l n (ow : Int) (tr : Int) k (acc ++ [⟨(fi : Int), (id : Int), q.1⟩]) q.2)) by have h := GL.out; rw [hk2] at h; simpa only [nodesD, Option.bind_assoc] using h)
        obtain ⟨A2, c2, rfl⟩ := Kd.R_slice RL.out
        have hdrw := below_drew (Below.refl wr.heap.size wr)
        have HLd := Aside0.mk (HL.out.kept hdrw)
        have BLd := Aside0.mk (blk_below BL.out hdrw)
        have RLd := Aside0.mk (Kd.R_below RL.out hdrw)
        clear GL hdrw
        go_wp2_with fail
        refine start_ (n := 10) (S := fun w' => w'.cell? ⟨w4.heap.size, 2, none⟩ = some (.slice A2 ns.length c2)) (ds := [6, 9]) #[false, false, false, false, false, false, false, false, false, false] (by kernel_rfl) rfl rfl (by exact (blk_cell BLd.out 2).trans rfl) (fun hHeld => ?_); refine with_tabW tabM16 bitsM16 (fun HT_ HW_ => ?_)
        generalize hwd : wr.drew = Wd at HLd BLd RLd hHeld ⊢
        clear hwd HL BL RL q1_
        refine pure_ (i := 0) (N := (some 60)) (v := ?_) (a' := ?_) #[true, false, false, false, false, false, false, false, false, false] rfl rfl (any_of HT_.out (by kernel_rfl)) (fun _ _ _ h => h) (Or.inl ⟨by rfl, ?_⟩) ?_ ?_
        rotate_left
        · intro w'
          go_simp
          with_reducible rfl
        rotate_left
        · simp only [Act.put, List.setIfInBounds_toArray, List.set_cons_zero, List.set_cons_succ, i64_w, i32_w]
          rfl
        refine pure_ (i := 1) (N := (some 61)) (v := ?_) (a' := ?_) #[true, true, false, false, false, false, false, false, false, false] rfl rfl (any_of HT_.out (by kernel_rfl)) (fun _ _ _ h => h) (Or.inl ⟨by rfl, ?_⟩) ?_ ?_
        rotate_left
        · intro w'
          go_simp
          with_reducible rfl
        rotate_left
        · simp only [Act.put, List.setIfInBounds_toArray, List.set_cons_zero, List.set_cons_succ, i64_w, i32_w]
          rfl
        refine take_ (i := 2) (N := (some 62)) (v := ?_) (a' := ?_) #[true, true, true, false, false, false, false, false, false, false] rfl rfl (take_ofW HT_.out HW_.out (by kernel_rfl)) (fun _ _ _ h => h) (Or.inl ⟨by rfl, ?_⟩) hHeld ?_ ?_
        rotate_left
        · rintro w' s0
          go_simp
          with_reducible rfl
        rotate_left
        · simp only [Act.put, List.setIfInBounds_toArray, List.set_cons_zero, List.set_cons_succ, i64_w, i32_w]
          rfl
        refine pure_ (i := 3) (N := (some 63)) (v := ?_) (a' := ?_) #[true, true, true, true, false, false, false, false, false, false] rfl rfl (any_of HT_.out (by kernel_rfl)) (fun _ _ _ h => h) (Or.inl ⟨by rfl, ?_⟩) ?_ ?_
        rotate_left
        · intro w'
          go_simp
          with_reducible rfl
        rotate_left
        · simp only [Act.put, List.setIfInBounds_toArray, List.set_cons_zero, List.set_cons_succ, i64_w, i32_w]
          rfl
        refine one_ (i := 4) (N := (some 64)) #[true, true, true, true, true, false, false, false, false, false] rfl rfl (one_of HT_.out (by kernel_rfl)) (by decide) (fun K hK => ?_)
        refine goes_ Try.func44 (by kernel_rfl) rfl #[.pointer (some ⟨W.heap.size + 1, 0, none⟩), .int .i64 1] (by rfl) rfl rfl (by (try simp only [List.map_toArray, List.map_cons, List.map_nil]); first | done | rfl) ?_
        refine (rnum_c (W.heap.size + 1) A c l p' 1 false _ HLd.out.rd HLd.out.src HC.out HY.out).mono ?_
        rintro e w7 ⟨rfl, hr1, hg1⟩
        refine ⟨_, rfl, ?_⟩
        have HL7 := Aside0.mk (HLd.out.num hg1 hr1 HR.out)
        have BL7 := Aside0.mk ((hg1.block _ (blk_lt BLd.out) (by intro e; injection e with e; omega)).trans BLd.out)
        have RL7 := Aside0.mk (Kd.R_grown RLd.out hg1 (fun k hk e => by injection e with e; omega))
        obtain ⟨x, p9, bd9, hv_, hv2_⟩ := rnumF_nat HY.out p' 1 false
        have G7 := Aside0.mk (RG.step (X := goodD l n) GL1.out hv_)
        rw [hv_] at HL7 ⊢
        clear hv_ hv2_ hr1 hg1 GL1 HLd BLd RLd
        refine hK.out _ _ (by exact (blk_cell BL7.out 2).trans rfl) (fun hHeld => ?_)
        clear hK K
        refine norm_ (a' := ?_) ?_ ?_
        rotate_left
        · show Act.put _ (some 64) _ = _
          simp only [Act.put, List.setIfInBounds_toArray, List.set_cons_zero, List.set_cons_succ, i64_w, i32_w]
          rfl
        refine one_ (i := 5) (N := (some 65)) #[true, true, true, true, true, true, false, false, false, false] rfl rfl (one_of HT_.out (by kernel_rfl)) (by decide) (fun K hK => ?_)
        refine Kd.R_lit_step (Kd.int .i64) (w0 := w7) 0 3 (by rfl) (N := 65) rfl (xs := [(x : Int)]) (inner := [.int .i64 (x : Int)]) (ok := fun k => w7.heap.size ≤ k) (okp := fun k => w7.heap.size ≤ k) ?hr ?hp (fun _ hk => hk) (Nat.le_refl _) (Below.refl _ _) (Nat.zero_le _) (by simp) ?_
        case hr => first | (go_simp; done) | (go_simp; rfl)
        case hp => exact Reps.snoc (Reps.none _ 1) rfl rfl
        intro v8 w8 HO8 _ hg8 _
        have hb8 : Below w7.heap.size w7 w8 := ⟨hg8.os, hg8.tape, hg8.output, hg8.size, fun k hk => hg8.block k hk (by simp)⟩
        have HL8 := Aside0.mk (HL7.out.kept hb8)
        have BL8 := Aside0.mk (blk_below BL7.out hb8)
        have RL8 := Aside0.mk (Kd.R_below RL7.out hb8)
        obtain ⟨A8, c8, rfl⟩ := Kd.R_slice HO8
        have HC8 := Aside0.mk (Kd.R_reads' HO8).2.2
        clear HL7 BL7 RL7 hb8 hg8 HO8
        refine hK.out _ _ (by exact (blk_cell BL8.out 2).trans rfl) (fun hHeld => ?_)
        clear hK K
        refine norm_ (a' := ?_) ?_ ?_
        rotate_left
        · show Act.put _ (some 65) _ = _
          simp only [Act.put, List.setIfInBounds_toArray, List.set_cons_zero, List.set_cons_succ, i64_w, i32_w]
          rfl
        refine last_ (i := 6) (N := (some 66)) #[true, true, true, true, true, true, true, false, false, false] rfl rfl (one_of HT_.out (by kernel_rfl)) (by decide) (fun K hK => ?_)
        refine Kd.R_append_rows_step (Kd.int .i64) (w0 := w8) 0 (by rfl) (.tmp 62) (.tmp 65) 36 3 (.int .i64 0) 8 rfl Try.underlying36 infoI rfl (by decide) (by decide) (.slice A2 ns.length c2) ns [(x : Int)] A8 _ c8 (fun k => w4.heap.size < k) (fun _ => False) rfl rfl RL8.out HC8.out (fun x cs h => h) (fun k h => h.elim) (fun k hk => by have := blk_lt BL8.out; omega) (Below.refl _ _) (Nat.zero_le _) (by show (ns.length + 1) * 8 ≤ _; omega) ?_
        intro v9 w9 ho9 _ hg9 _
        obtain ⟨A9, c9, rfl⟩ := Kd.R_slice ho9
        have hl9 : (ns ++ [(x : Int)]).length = ns.length + 1 := by rw [List.length_append]; rfl
        rw [hl9] at ho9 ⊢
        clear hl9
        have hne : ∀ k, k ≤ w4.heap.size → some k ≠ (Value.slice A2 ns.length c2).ownBlock := fun k hk e => by have := RL8.out.1 k e.symm; omega
        have HL9 := Aside0.mk (HL8.out.grown hr4 hg9 hne HR.out)
        have BL9 := Aside0.mk ((hg9.block _ (blk_lt BL8.out) (hne _ (Nat.le_refl _))).trans BL8.out)
        have RL9 := Aside0.mk ho9
        have z9 : w9.cell? ⟨w4.heap.size, 2, none⟩ = some (.slice A2 ns.length c2) := (blk_cell BL9.out 2).trans rfl
        have f9 := blk_frozen BL9.out 2
        clear ho9 hg9 hne HL8 BL8 RL8 HC8
        refine hK.out _ _ ?_
        clear hK K
        refine norm_ (a' := ?_) ?_ ?_
        rotate_left
        · show Act.put _ (some 66) _ = _
          simp only [Act.put, List.setIfInBounds_toArray, List.set_cons_zero, List.set_cons_succ, i64_w, i32_w]
          rfl
        refine pure_ (i := 7) (N := (some 67)) (v := ?_) (a' := ?_) #[true, true, true, true, true, true, true, true, false, false] rfl rfl (any_of HT_.out (by kernel_rfl)) (fun _ _ _ h => h) (Or.inl ⟨by rfl, ?_⟩) ?_ ?_
        rotate_left
        · intro w'
          go_simp
          with_reducible rfl
        rotate_left
        · simp only [Act.put, List.setIfInBounds_toArray, List.set_cons_zero, List.set_cons_succ, i64_w, i32_w]
          rfl
        refine pure_ (i := 8) (N := (some 68)) (v := ?_) (a' := ?_) #[true, true, true, true, true, true, true, true, true, false] rfl rfl (any_of HT_.out (by kernel_rfl)) (fun _ _ _ h => h) (Or.inl ⟨by rfl, ?_⟩) ?_ ?_
        rotate_left
        · intro w'
          go_simp
          with_reducible rfl
        rotate_left
        · simp only [Act.put, List.setIfInBounds_toArray, List.set_cons_zero, List.set_cons_succ, i64_w, i32_w]
          rfl
        refine last_ (i := 9) (N := none) #[true, true, true, true, true, true, true, true, true, true] rfl rfl (one_of HT_.out (by kernel_rfl)) (by decide) (fun K hK => ?_)
        refine skip_ (w1 := ?_) (by rfl) rfl ?_ ?_
        rotate_left
        · go_simp
          rfl
        refine hK.out _ _ ?_
        clear hK K
        refine done_ (done_of HT_.out (by kernel_rfl)) ?_
        clear hHeld HT_ HW_ z9 f9
        have HL10 := Aside0.mk (HL9.out.far hr4 2 (.slice A9 (ns.length + 1) c9) HR.out)
        have BL10 := Aside0.mk (blk_put BL9.out 2 (.slice A9 (ns.length + 1) c9) rfl)
        have RL10 := Aside0.mk (Kd.R_set RL9.out BL9.out (by decide) 2 (.slice A9 (ns.length + 1) c9))
        have G10 := Aside0.mk (show RG (goodD l n) bd9 ((nodesD l (M - (ns.length + 1)) (ns ++ [(x : Int)]) p9).bind (fun q : List Int × Int => stP l n (ow : Int) (tr : Int) k (acc ++ [⟨(fi : Int), (id : Int), q.1⟩]) q.2)) by rw [show M - (ns.length + 1) = k2 by omega]; exact G7.out)
        have HJX := Aside0.mk (And.intro (wrap_next (show M ≤ 140737488355328 by omega) hjl) (And.intro (Nat.succ_le_of_lt hjl) (And.intro (less_ hjl) (show (ns ++ [(x : Int)]).length = ns.length + 1 by rw [List.length_append]; rfl))))
        clear HL9 BL9 RL9 G7
        go_wp2_with fail
        exact ⟨⟨ns.length + 1, _, _, _, _, HJX.out.2.1, rfl, HJX.out.2.2.2, HL10, BL10, RL10, G10⟩, HJX.out.2.2.1⟩
end Go.Proofs.Ytpcoelimabojcaa.Hand
