/- Decode. -/
import Derived.Test.YtpcoelimabojcaaHD3
namespace Go.Proofs.Ytpcoelimabojcaa.Hand
open Go.RowKit Go.Proofs.Ytpcoelimabojcaa Go.Proofs.YtpcoelimabojcaaW.PrintWords Go.Proofs.YtpcoelimabojcaaW.PrintLast
set_option linter.unusedVariables false
set_option linter.unusedSimpArgs false
/-- What is left to read, stage by stage. -/
def stP (l : List Int) (n o t : Int) (k : Nat) (acc : List PartV) (p : Int) : Option (Int × Int × List PartV) :=
  (partsD l k acc p).bind fun q => if q.2 = (l.length : Int) ∧ rightF o t q.1 n = true then some (o, t, q.1) else none
def stN (l : List Int) (n o t p : Int) : Option (Int × Int × List PartV) := (numD l p 1).bind fun m => stP l n o t m.1.toNat [] m.2
def stT (l : List Int) (n o p : Int) : Option (Int × Int × List PartV) := (numD l p 6).bind fun t => stN l n o t.1 t.2
theorem goodD_eq (l : List Int) (n : Int) : goodD l n = (numD l 0 1).bind fun o => stT l n o.1 o.2 := by
  simp only [goodD, chainD, stT, stN, stP, Option.bind_assoc, Option.bind_some]
theorem stP_zero (l : List Int) (n o t : Int) (acc : List PartV) (p : Int) : stP l n o t 0 acc p = if p = (l.length : Int) ∧ rightF o t acc n = true then some (o, t, acc) else none := rfl
theorem stP_succ (l : List Int) (n o t : Int) (k : Nat) (acc : List PartV) (p : Int) : stP l n o t (k + 1) acc p = (numD l p 6).bind fun a => (numD l a.2 6).bind fun b => (numD l b.2 1).bind fun m => (nodesD l m.1.toNat [] m.2).bind fun q => stP l n o t k (acc ++ [⟨a.1, b.1, q.1⟩]) q.2 := by
  simp only [stP, partsD, partD, Option.bind_assoc, Option.bind_some]
theorem getF_nat {l : List Int} (hb : isBytes l) (p size : Int) : ∃ N : Nat, (getF l p size).1 = (N : Int) ∧ N < 256 ^ size.toNat := by
  have z : (0 : Nat) < 256 ^ size.toNat := Nat.pow_pos (by decide)
  unfold getF
  split
  · exact ⟨0, rfl, z⟩
  split
  · exact ⟨0, rfl, z⟩
  split
  · exact ⟨0, rfl, z⟩
  split
  · split
    · refine ⟨_, rfl, ?_⟩
      have h1 := leN_lt ((l.take (p + size).toNat).drop p.toNat) (fun x hx => hb x (List.mem_of_mem_take (List.mem_of_mem_drop hx)))
      refine Nat.lt_of_lt_of_le h1 (Nat.pow_le_pow_right (by decide) ?_)
      rw [List.length_drop, List.length_take]
      omega
    · exact ⟨0, rfl, z⟩
  · exact ⟨0, rfl, z⟩
theorem numD_ok {l : List Int} {p size : Int} (h : (getF l p size).2.2 = 0) : numD l p size = some ((getF l p size).1, (getF l p size).2.1) := if_pos h
theorem numD_no {l : List Int} {p size : Int} (h : (getF l p size).2.2 ≠ 0) : numD l p size = none := if_neg h
/-- Decode's memory: the chain so far, the error, the reader at a place. -/
structure DecI (W : World) (A : Option Addr) (c : Nat) (l : List Int) (o t : Int) (v : Value) (ps : List PartV) (p : Int) (gp : Nat) (w : World) : Prop where
  below : Below W.heap.size W w
  out : w.heap[W.heap.size]? = some (.cells #[.int .i64 o, .int .i64 t, v] 27 (0, 0))
  err : w.heap[W.heap.size + 1]? = some (.cells #[.int .i64 0] 37 (0, 0))
  rd : w.heap[W.heap.size + 1 + 1]? = some (.cells #[.slice A l.length c, .int .i64 p] 82 (0, 0))
  row : Kd.R k53 53 w 0 (fun k => W.heap.size + 1 + 1 < k ∧ (gp = 0 ∨ k < gp)) v ps
  src : Kd.C (Kd.int .u8) w A l.length l
theorem DecI.num {W w w' : World} {A : Option Addr} {c : Nat} {l : List Int} {o t : Int} {v : Value} {ps : List PartV} {p p' : Int} {gp : Nat} (h : DecI W A c l o t v ps p gp w) (hg : w.grownBy w' (some (W.heap.size + 1 + 1))) (hr : w'.heap[W.heap.size + 1 + 1]? = some (.cells #[.slice A l.length c, .int .i64 p'] 82 (0, 0))) (h0 : Kd.C (Kd.int .u8) W A l.length l) : DecI W A c l o t v ps p' gp w' := by
  have hb : Below W.heap.size W w' := Below.grown h.below hg h.below.size (by rintro k hk; injection hk with hk; omega)
  have blk : ∀ k ob, w.heap[k]? = some ob → k ≠ W.heap.size + 1 + 1 → w'.heap[k]? = some ob := fun k ob hk hne => (hg.block k (blk_lt hk) (by intro e; injection e with e; exact hne e)).trans hk
  exact ⟨hb, blk _ _ h.out (by omega), blk _ _ h.err (by omega), hr, Kd.R_grown h.row hg (fun k hk e => by injection e with e; omega), Kd.C_below h0 hb⟩
theorem DecI.set0 {W w : World} {A : Option Addr} {c : Nat} {l : List Int} {o t : Int} {v : Value} {ps : List PartV} {p : Int} {gp : Nat} (h : DecI W A c l o t v ps p gp w) (o' : Int) (h0 : Kd.C (Kd.int .u8) W A l.length l) : DecI W A c l o' t v ps p gp (w.setCell ⟨W.heap.size, 0, none⟩ (.int .i64 o')) := by
  have hb : Below W.heap.size W (w.setCell ⟨W.heap.size, 0, none⟩ (.int .i64 o')) := h.below.setCell (p := ⟨W.heap.size, 0, none⟩) (Nat.le_refl _) _
  exact ⟨hb, blk_put h.out 0 _ rfl, (Below.heap_setCell _ _ _ _ (by intro e; simp only at e; omega)).trans h.err, (Below.heap_setCell _ _ _ _ (by intro e; simp only at e; omega)).trans h.rd, Kd.R_set h.row h.out (by decide) 0 _, Kd.C_below h0 hb⟩
theorem DecI.set1 {W w : World} {A : Option Addr} {c : Nat} {l : List Int} {o t : Int} {v : Value} {ps : List PartV} {p : Int} {gp : Nat} (h : DecI W A c l o t v ps p gp w) (t' : Int) (h0 : Kd.C (Kd.int .u8) W A l.length l) : DecI W A c l o t' v ps p gp (w.setCell ⟨W.heap.size, 1, none⟩ (.int .i64 t')) := by
  have hb : Below W.heap.size W (w.setCell ⟨W.heap.size, 1, none⟩ (.int .i64 t')) := h.below.setCell (p := ⟨W.heap.size, 1, none⟩) (Nat.le_refl _) _
  exact ⟨hb, blk_put h.out 1 _ rfl, (Below.heap_setCell _ _ _ _ (by intro e; simp only at e; omega)).trans h.err, (Below.heap_setCell _ _ _ _ (by intro e; simp only at e; omega)).trans h.rd, Kd.R_set h.row h.out (by decide) 1 _, Kd.C_below h0 hb⟩
theorem less_ {q n : Nat} (h : q < n) : n - (intOf (.int .i64 ((q + 1 : Nat) : Int))).toNat < n - (intOf (.int .i64 (q : Int))).toNat := by simp [intOf]; omega
theorem wrap_next {q n : Nat} (h : n ≤ 140737488355328) (hq : q < n) : wrap64 ((q : Int) + 1) = ((q + 1 : Nat) : Int) := by unfold wrap64; omega
theorem put25' {R : Ending → World → Prop} {ch : List PanicEntry} {a : Act} {v : Value} {w : World} (N : Nat) (hN : N ≠ 4 ∧ N ≠ 5) (h : bodyPostD Try.prog Try.f25 R (.panic ch) (a.put (some N) v) w) : bodyPostD Try.prog Try.f25 R (.panic ch) a w := put25 (K := fun _ _ => True) N hN h
theorem DecI.kept {W w w' : World} {A : Option Addr} {c : Nat} {l : List Int} {o t : Int} {v : Value} {ps : List PartV} {p : Int} {gp : Nat} (h : DecI W A c l o t v ps p gp w) (hb : Below w.heap.size w w') : DecI W A c l o t v ps p gp w' :=
  ⟨below_step h.below hb, blk_below h.out hb, blk_below h.err hb, blk_below h.rd hb, Kd.R_below h.row hb, Kd.C_below h.src hb⟩
theorem DecI.alloc {W w : World} {A : Option Addr} {c : Nat} {l : List Int} {o t : Int} {v : Value} {ps : List PartV} {p : Int} {gp : Nat} (h : DecI W A c l o t v ps p gp w) (ob : Obj) : DecI W A c l o t v ps p gp (w.alloc ob) :=
  ⟨below_alloc h.below ob, blk_alloc h.out ob, blk_alloc h.err ob, blk_alloc h.rd ob, Kd.R_alloc h.row ob, Kd.C_alloc h.src ob⟩
theorem DecI.part {W w : World} {A : Option Addr} {c : Nat} {l : List Int} {o t : Int} {v : Value} {ps : List PartV} {p : Int} {gp : Nat} (h : DecI W A c l o t v ps p gp w) : DecI W A c l o t v ps p w.heap.size w :=
  ⟨h.below, h.out, h.err, h.rd, Kd.R_mono (Kd.R_bound h.row) (fun k hk => ⟨hk.1.1, .inr hk.2.2.1⟩), h.src⟩
theorem DecI.grown {W w w' : World} {A : Option Addr} {c : Nat} {l : List Int} {o t : Int} {v : Value} {ps : List PartV} {p : Int} {gp : Nat} (h : DecI W A c l o t v ps p gp w) (hgp : W.heap.size + 1 + 1 < gp) {row : Option Nat} (hg : w.grownBy w' row) (hr : ∀ k, k ≤ gp → some k ≠ row) (h0 : Kd.C (Kd.int .u8) W A l.length l) : DecI W A c l o t v ps p gp w' := by
  have hb : Below W.heap.size W w' := Below.grown h.below hg h.below.size (fun k hk => by
    rcases Nat.lt_or_ge gp k with h1 | h1
    · omega
    · exact absurd hk.symm (hr k h1))
  have blk : ∀ k ob, w.heap[k]? = some ob → k ≤ gp → w'.heap[k]? = some ob := fun k ob hk hle => (hg.block k (blk_lt hk) (hr k hle)).trans hk
  exact ⟨hb, blk _ _ h.out (by omega), blk _ _ h.err (by omega), blk _ _ h.rd (by omega), Kd.R_grown h.row hg (fun k hk => hr k (by have := hk.2; omega)), Kd.C_below h0 hb⟩
theorem DecI.app {W w w' : World} {A : Option Addr} {c : Nat} {l : List Int} {o t : Int} {v v1 : Value} {ps ps1 : List PartV} {p : Int} {gp : Nat} (h : DecI W A c l o t v ps p gp w) (hg : w.grownBy w' v.ownBlock) (hR : Kd.R k53 53 w' 0 (fun k => W.heap.size + 1 + 1 < k) v1 ps1) (h0 : Kd.C (Kd.int .u8) W A l.length l) :
    w'.heap[W.heap.size]? = some (.cells #[.int .i64 o, .int .i64 t, v] 27 (0, 0)) ∧ DecI W A c l o t v1 ps1 p 0 (w'.setCell ⟨W.heap.size, 2, none⟩ v1) := by
  have hne : ∀ k, k ≤ W.heap.size + 1 + 1 → some k ≠ v.ownBlock := fun k hk e => by have := (h.row.1 k e.symm).1; omega
  have hb : Below W.heap.size W w' := Below.grown h.below hg h.below.size (fun k hk => by have := (h.row.1 k hk).1; omega)
  have hb2 : Below W.heap.size W (w'.setCell ⟨W.heap.size, 2, none⟩ v1) := hb.setCell (p := ⟨W.heap.size, 2, none⟩) (Nat.le_refl _) v1
  have blk : ∀ k ob, w.heap[k]? = some ob → k ≤ W.heap.size + 1 + 1 → w'.heap[k]? = some ob := fun k ob hk hle => (hg.block k (blk_lt hk) (hne k hle)).trans hk
  have b0 := blk _ _ h.out (by omega)
  exact ⟨b0, hb2, blk_put b0 2 v1 rfl, (Below.heap_setCell _ _ _ _ (by intro e; simp only at e; omega)).trans (blk _ _ h.err (by omega)), (Below.heap_setCell _ _ _ _ (by intro e; simp only at e; omega)).trans (blk _ _ h.rd (by omega)), Kd.R_mono (Kd.R_set hR b0 (by decide) 2 v1) (fun k hk => ⟨hk, .inl rfl⟩), Kd.C_below h0 hb2⟩
theorem DecI.far {W w : World} {A : Option Addr} {c : Nat} {l : List Int} {o t : Int} {v : Value} {ps : List PartV} {p : Int} {gp : Nat} (h : DecI W A c l o t v ps p gp w) (hgp : W.heap.size + 1 + 1 < gp) (i : Nat) (u : Value) (h0 : Kd.C (Kd.int .u8) W A l.length l) : DecI W A c l o t v ps p gp (w.setCell ⟨gp, i, none⟩ u) := by
  have hb : Below W.heap.size W (w.setCell ⟨gp, i, none⟩ u) := h.below.setCell (p := ⟨gp, i, none⟩) (by simp only; omega) _
  exact ⟨hb, (Below.heap_setCell _ _ _ _ (by intro e; simp only at e; omega)).trans h.out, (Below.heap_setCell _ _ _ _ (by intro e; simp only at e; omega)).trans h.err, (Below.heap_setCell _ _ _ _ (by intro e; simp only at e; omega)).trans h.rd, Kd.R_far (p := ⟨gp, i, none⟩) h.row (fun k hk => by have h1 := hk.2; show k ≠ gp; omega) u, Kd.C_below h0 hb⟩
def TN13 : Bool × List (List Nat × List Nat) := (true, [([], []), ([0], [0]), ([1], [1]), ([], []), ([3], [3]), ([4], [4]), ([2, 5, 4], [2, 5]), ([0, 1, 2, 3, 4, 5, 6], []), ([7, 0, 1, 2, 3, 4, 5, 6], [7]), ([8, 6, 6, 0, 1, 2, 3, 4, 5, 6], [6, 8])])
def BN13 : List Nat := [0, 1, 3, 0, 8, 24, 63, 127, 255, 511]
theorem tabN13 : rtab .any (opsOf Try.f25 13) = TN13 := by kernel_rfl
theorem bitsN13 : waitsOk TN13.2 BN13 = true := by kernel_rfl
set_option maxHeartbeats 6400000 in
set_option maxRecDepth 100000 in
theorem decode_c (n : Int) (A : Option Addr) (c : Nat) (l : List Int) (W : World) (hr : Kd.C (Kd.int .u8) W A l.length l) (hc : l.length ≤ c) (hb : isBytes l) :
    Calls Try.prog 25 #[.slice A l.length c, .int .i64 n] W (DecP l n W) := by
  have hmf : ∀ (fn : Fn) (first cap : Array Value) (w : World), (Instr.makeFunc fn first cap).run Try.prog w = .ok (.func fn first cap) w := fun _ _ _ _ => rfl
  obtain ⟨o1, ho1⟩ : ∃ o1 : Obj, o1 = .cells #[.int .i64 0, .int .i64 0, .slice none 0 0] 27 (0, 0) := ⟨_, rfl⟩
  obtain ⟨o2, ho2⟩ : ∃ o2 : Obj, o2 = .cells #[.int .i64 0] 37 (0, 0) := ⟨_, rfl⟩
  have e1 : (W.alloc o1).heap.size = W.heap.size + 1 := Array.size_push _
  have e2 : ((W.alloc o1).alloc o2).heap.size = W.heap.size + 1 + 1 := by rw [← e1]; exact Array.size_push _
  have b1 := blk_alloc (heap_alloc_new W o1) o2
  have b2 := heap_alloc_new (W.alloc o1) o2
  rw [e1] at b2
  have hbl := below_alloc (below_alloc (Below.refl W.heap.size W) o1) o2
  have HR := Aside0.mk hr
  have HY := Aside0.mk hb
  have HC := Aside0.mk hc
  by_cases hn : 256 < n
  · have hd : decide (n > 256) = true := decide_eq_true hn
    have BO := Aside0.mk b1
    have BE := Aside0.mk b2
    have HB := Aside0.mk hbl
    have z0 : ((W.alloc o1).alloc o2).cell? ⟨W.heap.size, 0, none⟩ = some (.int .i64 0) := by rw [ho1] at b1 ⊢; exact (blk_cell b1 0).trans rfl
    clear e1 e2 b1 b2 hbl hr hb hc
    subst ho1 ho2
    go_enter_defers Try.func25, Try.ntmps25
    go_wp2_with fail
    have BE6 := heap_alloc_new (W.alloc (.cells #[.int .i64 0, .int .i64 0, .slice none 0 0] 27 (0, 0))) (.cells #[.int .i64 6] 37 (0, 0))
    have hs1 : (W.alloc (.cells #[.int .i64 0, .int .i64 0, .slice none 0 0] 27 (0, 0))).heap.size = W.heap.size + 1 := Array.size_push _
    rw [hs1] at BE6
    have BO6 := blk_alloc (heap_alloc_new W (.cells #[.int .i64 0, .int .i64 0, .slice none 0 0] 27 (0, 0))) (.cells #[.int .i64 6] 37 (0, 0))
    have hdn : decF l n = (0, 0, [], 6) := if_pos hn
    have r0 : ((W.alloc (.cells #[.int .i64 0, .int .i64 0, .slice none 0 0] 27 (0, 0))).alloc (.cells #[.int .i64 6] 37 (0, 0))).cell? ⟨W.heap.size, 0, none⟩ = some (.int .i64 0) := (blk_cell BO6 0).trans rfl
    have r1 : ((W.alloc (.cells #[.int .i64 0, .int .i64 0, .slice none 0 0] 27 (0, 0))).alloc (.cells #[.int .i64 6] 37 (0, 0))).cell? ⟨W.heap.size, 1, none⟩ = some (.int .i64 0) := (blk_cell BO6 1).trans rfl
    have r2 : ((W.alloc (.cells #[.int .i64 0, .int .i64 0, .slice none 0 0] 27 (0, 0))).alloc (.cells #[.int .i64 6] 37 (0, 0))).cell? ⟨W.heap.size, 2, none⟩ = some (.slice none 0 0) := (blk_cell BO6 2).trans rfl
    have r3 : ((W.alloc (.cells #[.int .i64 0, .int .i64 0, .slice none 0 0] 27 (0, 0))).alloc (.cells #[.int .i64 6] 37 (0, 0))).cell? ⟨W.heap.size + 1, 0, none⟩ = some (.int .i64 6) := (blk_cell BE6 0).trans rfl
    exact ⟨.tuple #[.agg #[.int .i64 0, .int .i64 0, .slice none 0 0], .int .i64 6], by simp [results, Try.results25, go_sem, r0, r1, r2, r3], below_alloc (below_alloc (Below.refl W.heap.size W) _) _, none, 0, by rw [hdn]; rfl, by rw [hdn]; exact Kd.R_nil _ _ _ _ _⟩
  · have hd : decide (n > 256) = false := decide_eq_false hn
    obtain ⟨o3, ho3⟩ : ∃ o3 : Obj, o3 = .cells #[.slice A l.length c, .int .i64 0] 82 (0, 0) := ⟨_, rfl⟩
    have hI : DecI W A c l 0 0 (.slice none 0 0) [] 0 0 (((W.alloc o1).alloc o2).alloc o3) := by
      have b3 := heap_alloc_new ((W.alloc o1).alloc o2) o3
      rw [e2] at b3
      have hb3 := below_alloc hbl o3
      refine ⟨hb3, ?_, ?_, ?_, Kd.R_nil _ _ _ _ _, Kd.C_below hr hb3⟩
      · rw [← ho1]; exact blk_alloc b1 o3
      · rw [← ho2]; exact blk_alloc b2 o3
      · rw [← ho3]; exact b3
    have HI := Aside0.mk hI
    have HNN := Aside0.mk (Int.not_lt.1 hn)
    clear e1 b1 b2 hbl hr hb hI
    have E2 := Aside0.mk e2
    subst ho1 ho2 ho3
    clear e2
    go_enter_defers Try.func25, Try.ntmps25
    go_wp2_with fail
    have hG_ : goodD l n = (numD l 0 1).bind fun o => stT l n o.1 o.2 := goodD_eq l n
    by_cases h1 : (getF l 0 1).2.2 = 0
    rotate_left
    · refine (num_no (W.heap.size + 1 + 1) A c l 0 1 _ HI.out.rd HI.out.src HC.out HY.out h1).mono ?_
      rintro e w_ ⟨rfl, hbL⟩
      exact door25 (blk_below HI.out.out hbL) (blk_below HI.out.err hbL) (by omega) (Nat.le_refl _) (Nat.le_succ _) (below_step HI.out.below hbL) rfl rfl (Int.not_lt.2 HNN.out) (by rw [hG_, numD_no h1]; rfl) 22
    refine (num_ok (W.heap.size + 1 + 1) A c l 0 1 _ HI.out.rd HI.out.src HC.out HY.out h1).mono ?_
    rintro e w1 ⟨rfl, hr1, hg1⟩
    have HI1 := Aside0.mk (HI.out.num hg1 hr1 HR.out)
    rw [numD_ok h1, Option.bind_some] at hG_
    obtain ⟨ow, hv_, hv2_⟩ := getF_nat HY.out 0 1
    obtain ⟨p1, hp_⟩ : ∃ q, (getF l 0 1).2.1 = q := ⟨_, rfl⟩
    rw [hv_, hp_] at hG_
    rw [hp_] at HI1
    rw [hv_]
    have GHI1 := Aside0.mk hG_
    have NHI1 := Aside0.mk hv2_
    clear hG_ hv_ hv2_ hp_ hr1 hg1 h1 HI
    have z0 : w1.cell? ⟨W.heap.size, 0, none⟩ = some (.int .i64 0) := (blk_cell HI1.out.out 0).trans rfl
    have f0 := blk_frozen HI1.out.out 0
    have HJ1 := Aside0.mk (HI1.out.set0 (ow : Int) HR.out)
    clear HI1
    go_wp2_with fail
    clear z0 f0
    have hG_ : goodD l n = (numD l p1 6).bind fun t => stN l n (ow : Int) t.1 t.2 := GHI1.out
    by_cases h1 : (getF l p1 6).2.2 = 0
    rotate_left
    · refine (num_no (W.heap.size + 1 + 1) A c l p1 6 _ HJ1.out.rd HJ1.out.src HC.out HY.out h1).mono ?_
      rintro e w_ ⟨rfl, hbL⟩
      exact door25 (blk_below HJ1.out.out hbL) (blk_below HJ1.out.err hbL) (by omega) (Nat.le_refl _) (Nat.le_succ _) (below_step HJ1.out.below hbL) rfl rfl (Int.not_lt.2 HNN.out) (by rw [hG_, numD_no h1]; rfl) 22
    refine (num_ok (W.heap.size + 1 + 1) A c l p1 6 _ HJ1.out.rd HJ1.out.src HC.out HY.out h1).mono ?_
    rintro e w2 ⟨rfl, hr1, hg1⟩
    have HI2 := Aside0.mk (HJ1.out.num hg1 hr1 HR.out)
    rw [numD_ok h1, Option.bind_some] at hG_
    obtain ⟨tr, hv_, hv2_⟩ := getF_nat HY.out p1 6
    obtain ⟨p2, hp_⟩ : ∃ q, (getF l p1 6).2.1 = q := ⟨_, rfl⟩
    rw [hv_, hp_] at hG_
    rw [hp_] at HI2
    rw [hv_]
    have GHI2 := Aside0.mk hG_
    have NHI2 := Aside0.mk hv2_
    clear hG_ hv_ hv2_ hp_ hr1 hg1 h1 HJ1
    have z1 : w2.cell? ⟨W.heap.size, 1, none⟩ = some (.int .i64 0) := (blk_cell HI2.out.out 1).trans rfl
    have f1 := blk_frozen HI2.out.out 1
    have HJ2 := Aside0.mk (HI2.out.set1 (tr : Int) HR.out)
    clear HI2
    go_wp2_with fail
    clear z1 f1
    have hG_ : goodD l n = (numD l p2 1).bind fun m => stP l n (ow : Int) (tr : Int) m.1.toNat [] m.2 := GHI2.out
    by_cases h1 : (getF l p2 1).2.2 = 0
    rotate_left
    · refine (num_no (W.heap.size + 1 + 1) A c l p2 1 _ HJ2.out.rd HJ2.out.src HC.out HY.out h1).mono ?_
      rintro e w_ ⟨rfl, hbL⟩
      exact door25 (blk_below HJ2.out.out hbL) (blk_below HJ2.out.err hbL) (by omega) (Nat.le_refl _) (Nat.le_succ _) (below_step HJ2.out.below hbL) rfl rfl (Int.not_lt.2 HNN.out) (by rw [hG_, numD_no h1]; rfl) 22
    refine (num_ok (W.heap.size + 1 + 1) A c l p2 1 _ HJ2.out.rd HJ2.out.src HC.out HY.out h1).mono ?_
    rintro e w3 ⟨rfl, hr1, hg1⟩
    have HI3 := Aside0.mk (HJ2.out.num hg1 hr1 HR.out)
    rw [numD_ok h1, Option.bind_some] at hG_
    obtain ⟨N, hv_, hv2_⟩ := getF_nat HY.out p2 1
    obtain ⟨p3, hp_⟩ : ∃ q, (getF l p2 1).2.1 = q := ⟨_, rfl⟩
    rw [hv_, hp_] at hG_
    rw [hp_] at HI3
    rw [hv_]
    have GHI3 := Aside0.mk hG_
    have NHI3 := Aside0.mk hv2_
    clear hG_ hv_ hv2_ hp_ hr1 hg1 h1 HJ2
    have hN3 : N < 256 := NHI3.out
    have GN := Aside0.mk (show goodD l n = stP l n (ow : Int) (tr : Int) N [] p3 by rw [GHI3.out, Int.toNat_natCast])
    go_wp2_with fail
    go_loopw [7, 23] (fun u7 u23 wr => ∃ (i : Nat) (v : Value) (acc : List PartV) (p : Int), i ≤ N ∧ u23 = .int .i64 i ∧ acc.length = i ∧ Aside0 (DecI W A c l (ow : Int) (tr : Int) v acc p 0 wr) ∧ Aside0 (goodD l n = stP l n (ow : Int) (tr : Int) (N - i) acc p)) (fun u7 u23 wr => N - (intOf u23).toNat)
    case atStart => exact ⟨0, _, [], p3, Nat.zero_le _, rfl, rfl, HI3, GN⟩
    case round =>
      obtain ⟨i, v, acc, p, hi, rfl, hal, HK, GK⟩ := hrel
      clear HI3 GN GHI3 NHI3
      by_cases hlt : i < N
      · have hlt2 : (i : Int) < (N : Int) := by omega
        obtain ⟨k, hk⟩ : ∃ k, N - i = k + 1 := ⟨N - i - 1, by omega⟩
        have GK1 := Aside0.mk (show goodD l n = stP l n (ow : Int) (tr : Int) (k + 1) acc p by rw [GK.out, hk])
        clear GK
        go_wp2_with fail
        have hG_ : goodD l n = (numD l p 6).bind fun a => (numD l a.2 6).bind fun b => (numD l b.2 1).bind fun m => (nodesD l m.1.toNat [] m.2).bind fun q => stP l n (ow : Int) (tr : Int) k (acc ++ [⟨a.1, b.1, q.1⟩]) q.2 := GK1.out.trans (stP_succ ..)
        by_cases h1 : (getF l p 6).2.2 = 0
        rotate_left
        · refine (num_no (W.heap.size + 1 + 1) A c l p 6 _ HK.out.rd HK.out.src HC.out HY.out h1).mono ?_
          rintro e w_ ⟨rfl, hbL⟩
          exact door25 (blk_below HK.out.out hbL) (blk_below HK.out.err hbL) (by omega) (Nat.le_refl _) (Nat.le_succ _) (below_step HK.out.below hbL) rfl rfl (Int.not_lt.2 HNN.out) (by rw [hG_, numD_no h1]; rfl) 22
        refine (num_ok (W.heap.size + 1 + 1) A c l p 6 _ HK.out.rd HK.out.src HC.out HY.out h1).mono ?_
        rintro e w4 ⟨rfl, hr1, hg1⟩
        have HK1 := Aside0.mk (HK.out.num hg1 hr1 HR.out)
        rw [numD_ok h1, Option.bind_some] at hG_
        obtain ⟨fi, hv_, hv2_⟩ := getF_nat HY.out p 6
        obtain ⟨q1, hp_⟩ : ∃ q, (getF l p 6).2.1 = q := ⟨_, rfl⟩
        rw [hv_, hp_] at hG_
        rw [hp_] at HK1
        rw [hv_]
        have GHK1 := Aside0.mk hG_
        have NHK1 := Aside0.mk hv2_
        clear hG_ hv_ hv2_ hp_ hr1 hg1 h1 HK
        have hr4 : W.heap.size + 1 + 1 < w4.heap.size := blk_lt HK1.out.rd
        obtain ⟨ov, hov⟩ : ∃ ov : Obj, ov = .cells #[.int .i64 (fi : Int), .int .i64 0, .slice none 0 0] 53 (0, 0) := ⟨_, rfl⟩
        have HK2 := Aside0.mk (HK1.out.part.alloc ov)
        have BV := Aside0.mk (heap_alloc_new w4 ov)
        subst hov
        clear HK1 GK1
        go_wp2_with fail
        have hG_ : goodD l n = (numD l q1 6).bind fun b => (numD l b.2 1).bind fun m => (nodesD l m.1.toNat [] m.2).bind fun q => stP l n (ow : Int) (tr : Int) k (acc ++ [⟨(fi : Int), b.1, q.1⟩]) q.2 := GHK1.out
        by_cases h1 : (getF l q1 6).2.2 = 0
        rotate_left
        · refine (num_no (W.heap.size + 1 + 1) A c l q1 6 _ HK2.out.rd HK2.out.src HC.out HY.out h1).mono ?_
          rintro e w_ ⟨rfl, hbL⟩
          exact door25 (blk_below HK2.out.out hbL) (blk_below HK2.out.err hbL) (by omega) (Nat.le_refl _) (Nat.le_succ _) (below_step HK2.out.below hbL) rfl rfl (Int.not_lt.2 HNN.out) (by rw [hG_, numD_no h1]; rfl) 22
        refine (num_ok (W.heap.size + 1 + 1) A c l q1 6 _ HK2.out.rd HK2.out.src HC.out HY.out h1).mono ?_
        rintro e w5 ⟨rfl, hr1, hg1⟩
        have HK3 := Aside0.mk (HK2.out.num hg1 hr1 HR.out)
        have BV5 := Aside0.mk ((hg1.block _ (blk_lt BV.out) (by intro e; injection e with e; omega)).trans BV.out)
        rw [numD_ok h1, Option.bind_some] at hG_
        obtain ⟨id, hv_, hv2_⟩ := getF_nat HY.out q1 6
        obtain ⟨q2, hp_⟩ : ∃ q, (getF l q1 6).2.1 = q := ⟨_, rfl⟩
        rw [hv_, hp_] at hG_
        rw [hp_] at HK3
        rw [hv_]
        have GHK3 := Aside0.mk hG_
        have NHK3 := Aside0.mk hv2_
        clear hG_ hv_ hv2_ hp_ hr1 hg1 h1 HK2
        have y1 : w5.cell? ⟨w4.heap.size, 1, none⟩ = some (.int .i64 0) := (blk_cell BV5.out 1).trans rfl
        have y2 := blk_frozen BV5.out 1
        have HK4 := Aside0.mk (HK3.out.far hr4 1 (.int .i64 (id : Int)) HR.out)
        have BV6 := Aside0.mk (blk_put BV5.out 1 (.int .i64 (id : Int)) rfl)
        clear HK3 BV BV5 GHK1 NHK1
        go_wp2_with fail
        clear y1 y2
        have hG_ : goodD l n = (numD l q2 1).bind fun m => (nodesD l m.1.toNat [] m.2).bind fun q => stP l n (ow : Int) (tr : Int) k (acc ++ [⟨(fi : Int), (id : Int), q.1⟩]) q.2 := GHK3.out
        by_cases h1 : (getF l q2 1).2.2 = 0
        rotate_left
        · refine (num_no (W.heap.size + 1 + 1) A c l q2 1 _ HK4.out.rd HK4.out.src HC.out HY.out h1).mono ?_
          rintro e w_ ⟨rfl, hbL⟩
          exact door25 (blk_below HK4.out.out hbL) (blk_below HK4.out.err hbL) (by omega) (Nat.le_refl _) (Nat.le_succ _) (below_step HK4.out.below hbL) rfl rfl (Int.not_lt.2 HNN.out) (by rw [hG_, numD_no h1]; rfl) 22
        refine (num_ok (W.heap.size + 1 + 1) A c l q2 1 _ HK4.out.rd HK4.out.src HC.out HY.out h1).mono ?_
        rintro e w6 ⟨rfl, hr1, hg1⟩
        have HK5 := Aside0.mk (HK4.out.num hg1 hr1 HR.out)
        have BV7 := Aside0.mk ((hg1.block _ (blk_lt BV6.out) (by intro e; injection e with e; omega)).trans BV6.out)
        rw [numD_ok h1, Option.bind_some] at hG_
        obtain ⟨M, hv_, hv2_⟩ := getF_nat HY.out q2 1
        obtain ⟨q3, hp_⟩ : ∃ q, (getF l q2 1).2.1 = q := ⟨_, rfl⟩
        rw [hv_, hp_] at hG_
        rw [hp_] at HK5
        rw [hv_]
        have GHK5 := Aside0.mk hG_
        have NHK5 := Aside0.mk hv2_
        clear hG_ hv_ hv2_ hp_ hr1 hg1 h1 HK4
        have hM3 : M < 256 := NHK5.out
        clear BV6 GHK3 NHK3 NHK5
        have GM := Aside0.mk (show goodD l n = (nodesD l M [] q3).bind fun q => stP l n (ow : Int) (tr : Int) k (acc ++ [⟨(fi : Int), (id : Int), q.1⟩]) q.2 by rw [GHK5.out, Int.toNat_natCast])
        clear GHK5
        go_wp2_with fail
        go_loopw [34] (fun u34 wx => ∃ (j : Nat) (v2 : Value) (ns : List Int) (p' : Int), j ≤ M ∧ u34 = .int .i64 j ∧ ns.length = j ∧ Aside0 (DecI W A c l (ow : Int) (tr : Int) v acc p' w4.heap.size wx) ∧ Aside0 (wx.heap[w4.heap.size]? = some (.cells #[.int .i64 (fi : Int), .int .i64 (id : Int), v2] 53 (0, 0))) ∧ Aside0 (Kd.R (Kd.int .i64) 3 wx 0 (fun k => w4.heap.size < k) v2 ns) ∧ Aside0 (goodD l n = (nodesD l (M - j) ns p').bind fun q => stP l n (ow : Int) (tr : Int) k (acc ++ [⟨(fi : Int), (id : Int), q.1⟩]) q.2)) (fun u34 wx => M - (intOf u34).toNat)
        case atStart => exact ⟨0, _, [], q3, Nat.zero_le _, rfl, rfl, HK5, BV7, ⟨Kd.R_nil _ _ _ _ _⟩, GM⟩
        case round =>
          obtain ⟨j, v2, ns, p', hj, rfl, hns, HL, BL, RL, GL⟩ := hrel
          subst hns
          clear HK5 BV7 GM
          by_cases hjl : ns.length < M
          · have hjl2 : (ns.length : Int) < (M : Int) := by omega
            obtain ⟨k2, hk2⟩ : ∃ k2, M - ns.length = k2 + 1 := ⟨M - ns.length - 1, by omega⟩
            have GL1 := Aside0.mk (show goodD l n = (numD l p' 1).bind fun x => (nodesD l k2 (ns ++ [x.1]) x.2).bind fun q => stP l n (ow : Int) (tr : Int) k (acc ++ [⟨(fi : Int), (id : Int), q.1⟩]) q.2 by rw [GL.out, hk2]; simp only [nodesD, Option.bind_assoc])
            obtain ⟨A2, c2, rfl⟩ := Kd.R_slice RL.out
            have hdrw := below_drew (Below.refl wr.heap.size wr)
            have HLd := Aside0.mk (HL.out.kept hdrw)
            have BLd := Aside0.mk (blk_below BL.out hdrw)
            have RLd := Aside0.mk (Kd.R_below RL.out hdrw)
            clear GL hdrw
            go_wp2_with fail
            refine start_ (n := 10) (S := fun w' => w'.cell? ⟨w4.heap.size, 2, none⟩ = some (.slice A2 ns.length c2)) (ds := [6, 9]) #[false, false, false, false, false, false, false, false, false, false] (by kernel_rfl) rfl rfl (by exact (blk_cell BLd.out 2).trans rfl) (fun hHeld => ?_); refine with_tabW tabN13 bitsN13 (fun HT_ HW_ => ?_)
            generalize hwd : wr.drew = Wd at HLd BLd RLd hHeld ⊢
            clear hwd HL BL RL
            refine pure_ (i := 0) (N := (some 36)) (v := ?_) (a' := ?_) #[true, false, false, false, false, false, false, false, false, false] rfl rfl (any_of HT_.out (by kernel_rfl)) (fun _ _ _ h => put25' 36 (by decide) h) (Or.inl ⟨by rfl, ?_⟩) ?_ ?_
            rotate_left
            · intro w'
              go_simp
              with_reducible rfl
            rotate_left
            · simp only [Act.put, List.setIfInBounds_toArray, List.set_cons_zero, List.set_cons_succ, i64_w, i32_w]
              rfl
            refine pure_ (i := 1) (N := (some 37)) (v := ?_) (a' := ?_) #[true, true, false, false, false, false, false, false, false, false] rfl rfl (any_of HT_.out (by kernel_rfl)) (fun _ _ _ h => put25' 37 (by decide) h) (Or.inl ⟨by rfl, ?_⟩) ?_ ?_
            rotate_left
            · intro w'
              go_simp
              with_reducible rfl
            rotate_left
            · simp only [Act.put, List.setIfInBounds_toArray, List.set_cons_zero, List.set_cons_succ, i64_w, i32_w]
              rfl
            refine take_ (i := 2) (N := (some 38)) (v := ?_) (a' := ?_) #[true, true, true, false, false, false, false, false, false, false] rfl rfl (take_ofW HT_.out HW_.out (by kernel_rfl)) (fun _ _ _ h => put25' 38 (by decide) h) (Or.inl ⟨by rfl, ?_⟩) hHeld ?_ ?_
            rotate_left
            · rintro w' s0
              go_simp
              with_reducible rfl
            rotate_left
            · simp only [Act.put, List.setIfInBounds_toArray, List.set_cons_zero, List.set_cons_succ, i64_w, i32_w]
              rfl
            refine pure_ (i := 3) (N := (some 39)) (v := ?_) (a' := ?_) #[true, true, true, true, false, false, false, false, false, false] rfl rfl (any_of HT_.out (by kernel_rfl)) (fun _ _ _ h => put25' 39 (by decide) h) (Or.inl ⟨by rfl, ?_⟩) ?_ ?_
            rotate_left
            · intro w'
              go_simp
              with_reducible rfl
            rotate_left
            · simp only [Act.put, List.setIfInBounds_toArray, List.set_cons_zero, List.set_cons_succ, i64_w, i32_w]
              rfl
            by_cases h1 : (getF l p' 1).2.2 = 0
            rotate_left
            · refine one_ (i := 4) (N := (some 40)) #[true, true, true, true, true, false, false, false, false, false] rfl rfl (one_of HT_.out (by kernel_rfl)) (by decide) (fun K hK => ?_)
              refine dies_ Try.func43 (by kernel_rfl) rfl #[.pointer (some ⟨W.heap.size + 1 + 1, 0, none⟩), .int .i64 1] (by rfl) rfl rfl (by (try simp only [List.map_toArray, List.map_cons, List.map_nil]); first | done | rfl) ?_
              refine (num_no (W.heap.size + 1 + 1) A c l p' 1 _ HLd.out.rd HLd.out.src HC.out HY.out h1).mono ?_
              rintro e w_ ⟨rfl, hbL⟩
              refine ⟨_, rfl, ?_⟩
              exact door25 (blk_below HLd.out.out hbL) (blk_below HLd.out.err hbL) (by omega) (Nat.le_refl _) (Nat.le_succ _) (below_step HLd.out.below hbL) rfl rfl (Int.not_lt.2 HNN.out) (by rw [GL1.out, numD_no h1]; rfl) 22
            refine one_ (i := 4) (N := (some 40)) #[true, true, true, true, true, false, false, false, false, false] rfl rfl (one_of HT_.out (by kernel_rfl)) (by decide) (fun K hK => ?_)
            refine goes_ Try.func43 (by kernel_rfl) rfl #[.pointer (some ⟨W.heap.size + 1 + 1, 0, none⟩), .int .i64 1] (by rfl) rfl rfl (by (try simp only [List.map_toArray, List.map_cons, List.map_nil]); first | done | rfl) ?_
            refine (num_ok (W.heap.size + 1 + 1) A c l p' 1 _ HLd.out.rd HLd.out.src HC.out HY.out h1).mono ?_
            rintro e w7 ⟨rfl, hr1, hg1⟩
            refine ⟨_, rfl, ?_⟩
            have HL7 := Aside0.mk (HLd.out.num hg1 hr1 HR.out)
            have BL7 := Aside0.mk ((hg1.block _ (blk_lt BLd.out) (by intro e; injection e with e; omega)).trans BLd.out)
            have RL7 := Aside0.mk (Kd.R_grown RLd.out hg1 (fun k hk e => by injection e with e; omega))
            have hG_ := GL1.out
            rw [numD_ok h1, Option.bind_some] at hG_
            obtain ⟨x, hv_, hv2_⟩ := getF_nat HY.out p' 1
            obtain ⟨p9, hp_⟩ : ∃ q, (getF l p' 1).2.1 = q := ⟨_, rfl⟩
            rw [hv_, hp_] at hG_
            rw [hp_] at HL7
            rw [hv_]
            have G7 := Aside0.mk hG_
            clear hG_ hv_ hp_ hv2_ hr1 hg1 GL1 HLd BLd RLd
            refine hK.out _ _ (by exact (blk_cell BL7.out 2).trans rfl) (fun hHeld => ?_)
            clear hK K
            refine norm_ (a' := ?_) ?_ ?_
            rotate_left
            · show Act.put _ (some 40) _ = _
              simp only [Act.put, List.setIfInBounds_toArray, List.set_cons_zero, List.set_cons_succ, i64_w, i32_w]
              rfl
            refine one_ (i := 5) (N := (some 41)) #[true, true, true, true, true, true, false, false, false, false] rfl rfl (one_of HT_.out (by kernel_rfl)) (by decide) (fun K hK => ?_)
            refine Kd.R_lit_step (Kd.int .i64) (w0 := w7) 0 3 (by rfl) (N := 41) rfl (xs := [(x : Int)]) (inner := [.int .i64 (x : Int)]) (ok := fun k => w7.heap.size ≤ k) (okp := fun k => w7.heap.size ≤ k) ?hr ?hp (fun _ hk => hk) (Nat.le_refl _) (Below.refl _ _) (Nat.zero_le _) (by simp) ?_
            case hr => first | (go_simp; done) | (go_simp; rfl)
            case hp => exact Reps.snoc (Reps.none _ 1) rfl rfl
            intro v8 w8 HO8 _ hg8 _
            have hb8 : Below w7.heap.size w7 w8 := ⟨hg8.os, hg8.tape, hg8.output, hg8.size, fun k hk => hg8.block k hk (by simp)⟩
            have HL8 := Aside0.mk (HL7.out.kept hb8)
            have BL8 := Aside0.mk (blk_below BL7.out hb8)
            have RL8 := Aside0.mk (Kd.R_below RL7.out hb8)
            obtain ⟨A8, c8, rfl⟩ := Kd.R_slice HO8
            have HC8 := Aside0.mk (Kd.R_reads' HO8).2.2
            clear HL7 BL7 RL7 hb8 hg8 HO8
            refine hK.out _ _ (by exact (blk_cell BL8.out 2).trans rfl) (fun hHeld => ?_)
            clear hK K
            refine norm_ (a' := ?_) ?_ ?_
            rotate_left
            · show Act.put _ (some 41) _ = _
              simp only [Act.put, List.setIfInBounds_toArray, List.set_cons_zero, List.set_cons_succ, i64_w, i32_w]
              rfl
            refine last_ (i := 6) (N := (some 42)) #[true, true, true, true, true, true, true, false, false, false] rfl rfl (one_of HT_.out (by kernel_rfl)) (by decide) (fun K hK => ?_)
            refine Kd.R_append_rows_step (Kd.int .i64) (w0 := w8) 0 (by rfl) (.tmp 38) (.tmp 41) 36 3 (.int .i64 0) 8 rfl Try.underlying36 infoI rfl (by decide) (by decide) (.slice A2 ns.length c2) ns [(x : Int)] A8 _ c8 (fun k => w4.heap.size < k) (fun _ => False) rfl rfl RL8.out HC8.out (fun x cs h => h) (fun k h => h.elim) (fun k hk => by have := blk_lt BL8.out; omega) (Below.refl _ _) (Nat.zero_le _) (by show (ns.length + 1) * 8 ≤ _; omega) ?_
            intro v9 w9 ho9 _ hg9 _
            obtain ⟨A9, c9, rfl⟩ := Kd.R_slice ho9
            have hl9 : (ns ++ [(x : Int)]).length = ns.length + 1 := by rw [List.length_append]; rfl
            rw [hl9] at ho9 ⊢
            clear hl9
            have hne : ∀ k, k ≤ w4.heap.size → some k ≠ (Value.slice A2 ns.length c2).ownBlock := fun k hk e => by have := RL8.out.1 k e.symm; omega
            have HL9 := Aside0.mk (HL8.out.grown hr4 hg9 hne HR.out)
            have BL9 := Aside0.mk ((hg9.block _ (blk_lt BL8.out) (hne _ (Nat.le_refl _))).trans BL8.out)
            have RL9 := Aside0.mk ho9
            have z9 : w9.cell? ⟨w4.heap.size, 2, none⟩ = some (.slice A2 ns.length c2) := (blk_cell BL9.out 2).trans rfl
            have f9 := blk_frozen BL9.out 2
            clear ho9 hg9 hne HL8 BL8 RL8 HC8
            refine hK.out _ _ ?_
            clear hK K
            refine norm_ (a' := ?_) ?_ ?_
            rotate_left
            · show Act.put _ (some 42) _ = _
              simp only [Act.put, List.setIfInBounds_toArray, List.set_cons_zero, List.set_cons_succ, i64_w, i32_w]
              rfl
            refine pure_ (i := 7) (N := (some 43)) (v := ?_) (a' := ?_) #[true, true, true, true, true, true, true, true, false, false] rfl rfl (any_of HT_.out (by kernel_rfl)) (fun _ _ _ h => put25' 43 (by decide) h) (Or.inl ⟨by rfl, ?_⟩) ?_ ?_
            rotate_left
            · intro w'
              go_simp
              with_reducible rfl
            rotate_left
            · simp only [Act.put, List.setIfInBounds_toArray, List.set_cons_zero, List.set_cons_succ, i64_w, i32_w]
              rfl
            refine pure_ (i := 8) (N := (some 44)) (v := ?_) (a' := ?_) #[true, true, true, true, true, true, true, true, true, false] rfl rfl (any_of HT_.out (by kernel_rfl)) (fun _ _ _ h => put25' 44 (by decide) h) (Or.inl ⟨by rfl, ?_⟩) ?_ ?_
            rotate_left
            · intro w'
              go_simp
              with_reducible rfl
            rotate_left
            · simp only [Act.put, List.setIfInBounds_toArray, List.set_cons_zero, List.set_cons_succ, i64_w, i32_w]
              rfl
            refine last_ (i := 9) (N := none) #[true, true, true, true, true, true, true, true, true, true] rfl rfl (one_of HT_.out (by kernel_rfl)) (by decide) (fun K hK => ?_)
            refine skip_ (w1 := ?_) (by rfl) rfl ?_ ?_
            rotate_left
            · go_simp
              rfl
            refine hK.out _ _ ?_
            clear hK K
            refine done_ (done_of HT_.out (by kernel_rfl)) ?_
            clear hHeld HT_ HW_ z9 f9
            have HL10 := Aside0.mk (HL9.out.far hr4 2 (.slice A9 (ns.length + 1) c9) HR.out)
            have BL10 := Aside0.mk (blk_put BL9.out 2 (.slice A9 (ns.length + 1) c9) rfl)
            have RL10 := Aside0.mk (Kd.R_set RL9.out BL9.out (by decide) 2 (.slice A9 (ns.length + 1) c9))
            have G10 := Aside0.mk (show goodD l n = (nodesD l (M - (ns.length + 1)) (ns ++ [(x : Int)]) p9).bind fun q => stP l n (ow : Int) (tr : Int) k (acc ++ [⟨(fi : Int), (id : Int), q.1⟩]) q.2 by rw [show M - (ns.length + 1) = k2 by omega]; exact G7.out)
            have HJX := Aside0.mk (And.intro (wrap_next (show M ≤ 140737488355328 by omega) hjl) (And.intro (Nat.succ_le_of_lt hjl) (And.intro (less_ hjl) (show (ns ++ [(x : Int)]).length = ns.length + 1 by rw [List.length_append]; rfl))))
            clear HL9 BL9 RL9 G7
            go_wp2_with fail
            exact ⟨⟨ns.length + 1, _, _, _, HJX.out.2.1, rfl, HJX.out.2.2.2, HL10, BL10, RL10, G10⟩, HJX.out.2.2.1⟩
          · obtain rfl : M = ns.length := by omega
            obtain ⟨A2, c2, rfl⟩ := Kd.R_slice RL.out
            obtain ⟨Av, cv, rfl⟩ := Kd.R_slice HL.out.row
            have GE := Aside0.mk (show goodD l n = stP l n (ow : Int) (tr : Int) k (acc ++ [(⟨(fi : Int), (id : Int), ns⟩ : PartV)]) p' by rw [GL.out, Nat.sub_self]; rfl)
            have a0 : wr.cell? ⟨w4.heap.size, 0, none⟩ = some (.int .i64 (fi : Int)) := (blk_cell BL.out 0).trans rfl
            have a1 : wr.cell? ⟨w4.heap.size, 1, none⟩ = some (.int .i64 (id : Int)) := (blk_cell BL.out 1).trans rfl
            have a2 : wr.cell? ⟨w4.heap.size, 2, none⟩ = some (.slice A2 ns.length c2) := (blk_cell BL.out 2).trans rfl
            have ao : wr.cell? ⟨W.heap.size, 2, none⟩ = some (.slice Av acc.length cv) := (blk_cell HL.out.out 2).trans rfl
            have hsz : w4.heap.size < wr.heap.size := blk_lt BL.out
            have HKP := Aside0.mk (show ∀ k, w4.heap.size < k → W.heap.size + 1 + 1 < k ∧ some k ≠ (Value.slice Av acc.length cv).ownBlock from fun k hk => ⟨by omega, fun e => by have := (HL.out.row.1 k e.symm).2; omega⟩)
            have hfresh : ∀ (wl : World) k, w4.heap.size < wl.heap.size → wl.heap.size ≤ k → W.heap.size + 1 + 1 < k := fun wl k h1 h2 => by omega
            have hcnt : (acc.length + [(⟨(fi : Int), (id : Int), ns⟩ : PartV)].length) * 40 ≤ 140737488355328 := by show (acc.length + 1) * 40 ≤ _; omega
            have HL1 := Aside0.mk (show (acc ++ [(⟨(fi : Int), (id : Int), ns⟩ : PartV)]).length = acc.length + 1 by rw [List.length_append]; rfl)
            have HIX := Aside0.mk (And.intro (Nat.succ_le_of_lt hlt) (less_ hlt))
            have HKX := Aside0.mk (show N - (i + 1) = k by omega)
            have HAL := Aside0.mk hal
            clear GL hk hal
            go_wp2_with (first | ((with_reducible refine gate_dst (N := 49) rfl ?_); refine Kd.R_lit k53 (w0 := wr) 0 53 ?hg (N := 49) ?hd (xs := [(⟨(fi : Int), (id : Int), ns⟩ : PartV)]) (inner := [.int .i64 (fi : Int), .int .i64 (id : Int), .slice A2 ns.length c2]) (ok := fun k => w4.heap.size < k) (okp := fun k => w4.heap.size < k) ?hr ?hp (fun _ hk => hk) ?hf (Below.refl _ _) (Nat.zero_le _) (by simp) ?_; (case hg => rfl); (case hd => rfl); (case hr => first | (go_simp; done) | (go_simp; rfl)); (case hp => exact (Reps.snoc (Reps.none _ 3) (k53_mkM (x := (⟨(fi : Int), (id : Int), ns⟩ : PartV)) RL.out) rfl)); (case hf => exact hsz); intro vl_ wl_ HOl_ _ hgl_ _; obtain ⟨A6, c6, hv6, _, hx6⟩ := OwnRow.reads HOl_.2; subst hv6; have hb6 : Below wr.heap.size wr wl_ := ⟨hgl_.os, hgl_.tape, hgl_.output, hgl_.size, fun k hk => hgl_.block k hk (by simp)⟩; have HX := Aside0.mk (hx6.imp_ (Below.refl _ _) (fun p c h => k53.M_mono (fun k hk => hk.1) h)); have HL7 := Aside0.mk (HL.out.kept hb6); have HO7 := Aside0.mk (Kd.R_mono (ok' := fun k => W.heap.size + 1 + 1 < k) HL7.out.row (fun _ h => h.1)); have hs7 := Nat.lt_of_lt_of_le hsz hb6.size; clear HOl_ hgl_ hx6 hb6) | (refine Kd.R_append_rows k53 (Rr := k53.M wl_ 0 (fun k => w4.heap.size < k)) (w0 := wl_) 0 rfl (.tmp 47) (.tmp 49) 25 53 (.agg #[.int .i64 0, .int .i64 0, .slice none 0 0]) 40 rfl Try.underlying25 infoP rfl (by decide) (by decide) (.slice Av acc.length cv) acc [(⟨(fi : Int), (id : Int), ns⟩ : PartV)] A6 _ c6 (fun k => W.heap.size + 1 + 1 < k) (fun k => w4.heap.size < k) ?e1 ?e2 HO7.out HX.out (fun _ _ h => h) HKP.out (fun k hk => hfresh wl_ k hs7 hk) (Below.refl _ _) (Nat.zero_le _) ?e7 ?_; (case e1 => rfl); (case e2 => rfl); (case e7 => exact hcnt); intro v7 w7 ho7 _ hg7 _; obtain ⟨A7, c7, hv7⟩ := Kd.R_slice ho7; rw [HL1.out] at hv7; subst hv7; have HAP := Aside0.mk (HL7.out.app hg7 ho7 HR.out); have z8 : w7.cell? ⟨W.heap.size, 2, none⟩ = some (.slice Av acc.length cv) := (blk_cell HAP.out.1 2).trans rfl; have f8 := blk_frozen HAP.out.1 2; clear ho7 hg7 HX HO7 HL7))
            exact ⟨⟨i + 1, _, _, p', HIX.out.1, rfl, HL1.out.trans (congrArg (· + 1) HAL.out), Aside0.mk HAP.out.2, Aside0.mk (by rw [HKX.out]; exact GE.out)⟩, HIX.out.2⟩
      · obtain rfl : i = N := by omega
        subst hal
        have GE := Aside0.mk (show goodD l n = if p = (l.length : Int) ∧ rightF (ow : Int) (tr : Int) acc n = true then some ((ow : Int), (tr : Int), acc) else none by rw [GK.out, Nat.sub_self]; rfl)
        obtain ⟨Av, cv, rfl⟩ := Kd.R_slice HK.out.row
        have b1 : wr.cell? ⟨W.heap.size + 1 + 1, 1, none⟩ = some (.int .i64 p) := (blk_cell HK.out.rd 1).trans rfl
        have c0 : wr.cell? ⟨W.heap.size, 0, none⟩ = some (.int .i64 (ow : Int)) := (blk_cell HK.out.out 0).trans rfl
        have c1 : wr.cell? ⟨W.heap.size, 1, none⟩ = some (.int .i64 (tr : Int)) := (blk_cell HK.out.out 1).trans rfl
        have c2 : wr.cell? ⟨W.heap.size, 2, none⟩ = some (.slice Av acc.length cv) := (blk_cell HK.out.out 2).trans rfl
        clear GK
        by_cases hpl : p = (l.length : Int)
        rotate_left
        · have hdp : (p == (l.length : Int)) = false := beq_eq_false_iff_ne.2 hpl
          have hdq : decide (p = (l.length : Int)) = false := decide_eq_false hpl
          have hg : goodD l n = none := by rw [GE.out, if_neg (fun h => hpl h.1)]
          go_wp2_with (first | (go_at_call 36; refine (demand_no 22 _).mono ?_; rintro e w_ ⟨rfl, rfl⟩) | fail)
          exact door25 HK.out.out HK.out.err (by omega) (Nat.le_refl _) (Nat.le_succ _) HK.out.below rfl rfl (Int.not_lt.2 HNN.out) hg 22
        subst hpl
        go_wp2_with (first | (go_at_call 36; refine (demand_ok 22 _).mono ?_; rintro e w_ ⟨rfl, rfl⟩) | fail)
        refine (right_c (ow : Int) (tr : Int) n Av cv acc _ (Kd.R_reads' HK.out.row).2.2).mono ?_
        rintro e wE ⟨⟨hrt, rfl⟩ | ⟨hrt, rfl⟩, bel⟩
        rotate_left
        · have hg : goodD l n = none := by rw [GE.out, if_neg (fun h => by rw [hrt] at h; exact absurd h.2 (by decide))]
          exact door25 (blk_below HK.out.out bel) (blk_below HK.out.err bel) (by omega) (Nat.le_refl _) (Nat.le_succ _) (below_step HK.out.below bel) rfl rfl (Int.not_lt.2 HNN.out) hg 1
        have HE := Aside0.mk (HK.out.kept bel)
        have hg : goodD l n = some ((ow : Int), (tr : Int), acc) := by rw [GE.out, if_pos ⟨by first | rfl | trivial, hrt⟩]
        have HGG := Aside0.mk hg
        clear hg hrt bel HK GE b1 c0 c1 c2
        have c0 : wE.cell? ⟨W.heap.size, 0, none⟩ = some (.int .i64 (ow : Int)) := (blk_cell HE.out.out 0).trans rfl
        have c1 : wE.cell? ⟨W.heap.size, 1, none⟩ = some (.int .i64 (tr : Int)) := (blk_cell HE.out.out 1).trans rfl
        have c2 : wE.cell? ⟨W.heap.size, 2, none⟩ = some (.slice Av acc.length cv) := (blk_cell HE.out.out 2).trans rfl
        have d0 : wE.cell? ⟨W.heap.size + 1, 0, none⟩ = some (.int .i64 0) := (blk_cell HE.out.err 0).trans rfl
        have f0 := blk_frozen HE.out.out 0
        have f1 := blk_frozen HE.out.out 1
        have f2 := blk_frozen HE.out.out 2
        have f3 := blk_frozen HE.out.err 0
        go_wp2_with fail
        have e3 := (Below.heap_setCell _ ⟨W.heap.size, 2, none⟩ (.slice Av acc.length cv) (W.heap.size + 1) (by intro e; simp only at e; omega)).trans ((Below.heap_setCell _ ⟨W.heap.size, 1, none⟩ (.int .i64 (tr : Int)) (W.heap.size + 1) (by intro e; simp only at e; omega)).trans ((Below.heap_setCell wE ⟨W.heap.size, 0, none⟩ (.int .i64 (ow : Int)) (W.heap.size + 1) (by intro e; simp only at e; omega)).trans HE.out.err))
        have k3 := put3 (x := .int .i64 (ow : Int)) (y := .int .i64 (tr : Int)) (z := .slice Av acc.length cv) HE.out.out
        have hR3 := put3_R (x := .int .i64 (ow : Int)) (y := .int .i64 (tr : Int)) (z := .slice Av acc.length cv) (Kd.R_mono (ok' := fun k => W.heap.size ≤ k) HE.out.row (fun k hk => by omega)) HE.out.out (by decide)
        exact door25ok ((Below.heap_setCell _ ⟨W.heap.size + 1, 0, none⟩ (.int .i64 0) W.heap.size (by intro e; simp only at e; omega)).trans k3) (blk_put e3 0 (.int .i64 0) rfl) ((put3_B HE.out.below (Nat.le_refl _)).setCell (p := ⟨W.heap.size + 1, 0, none⟩) (Nat.le_succ _) _) rfl rfl (Int.not_lt.2 HNN.out) HGG.out rfl (Kd.R_set hR3 e3 (by decide) 0 _)
end Go.Proofs.Ytpcoelimabojcaa.Hand
