/- A producer in its row is changed: ending, remove. -/
import Derived.Test.YtofegigbhohebaaTE3
namespace Go.Proofs.Ytofegigbhohebaa.Hand
open Go.RowKit Go.Proofs.Ytofegigbhohebaa Go.Proofs.YtofegigbhohebaaW.PrintWords Go.Proofs.YtofegigbhohebaaW.PrintLast
set_option linter.unusedVariables false
set_option linter.unusedSimpArgs false
/-- A row in which one producer (from cell o on) has been changed to r. -/
structure PU (o : Nat) (c0 cur : Array Value) (r : RP) : Prop where
  size : cur.size = c0.size
  oth : ∀ j, j < o ∨ o + 6 ≤ j → cur[j]? = c0[j]?
  new : ∀ j, j < 6 → cur[o + j]? = (rpL r)[j]?
theorem PU.set {o : Nat} {c0 cur : Array Value} {r : RP} (h : PU o c0 cur r) (j : Nat) (hj : j < 6) (v : Value) (r' : RP) (e : (rpL r).set j v = rpL r') : PU o c0 (cur.setIfInBounds (o + j) v) r' := by
  refine ⟨by rw [Array.size_setIfInBounds]; exact h.size, fun i hi => ?_, fun i hi => ?_⟩
  · rw [Array.getElem?_setIfInBounds_ne (by omega)]
    exact h.oth i hi
  · rw [← e]
    by_cases hij : i = j
    · subst hij
      have hlt : o + i < cur.size := by
        have := h.new i hi
        have h6 : (rpL r)[i]? = some ((rpL r)[i]'(by show i < 6; exact hi)) := List.getElem?_eq_getElem _
        rw [h6] at this
        exact (Array.getElem?_eq_some_iff.1 this).1
      rw [Array.getElem?_setIfInBounds_self_of_lt hlt, List.getElem?_set_self (by show i < 6; exact hi)]
    · rw [Array.getElem?_setIfInBounds_ne (by omega), List.getElem?_set_ne (by omega)]
      exact h.new i hi
theorem setCell_grown (W : World) (g o : Nat) (u : Value) : W.grownBy (W.setCell ⟨g, o, none⟩ u) (some g) := ⟨rfl, rfl, rfl, by simp [World.setCell], fun k _ hk => Below.heap_setCell _ _ _ k (fun e => hk (by rw [e]))⟩
theorem setCell_size (W : World) (p : Addr) (u : Value) : (W.setCell p u).heap.size = W.heap.size := by simp [World.setCell]
set_option maxHeartbeats 1600000 in
set_option maxRecDepth 100000 in
theorem rending_c (g o : Nat) (c0 cur : Array Value) (r : RP) (A : Option Addr) (c : Nat) (st : Int) (w : World) (hb : w.heap[g]? = some (.cells cur 127 (0, 0))) (hu : PU o c0 cur r) (hv : r.2 = .slice A r.1.places.length c) :
    Calls Try.prog 73 #[.pointer (some ⟨g, o, none⟩), .int .i64 st] w fun e w' => e = .returned (.tuple #[]) ∧ ∃ cur', w'.heap[g]? = some (.cells cur' 127 (0, 0)) ∧ PU o c0 cur' (endP r.1 st, r.2) ∧ w.grownBy w' (some g) ∧ w'.heap.size = w.heap.size := by
  have c3 : w.cell? ⟨g, o + 3, none⟩ = some (.int .i64 r.1.status) := (blk_cell hb (o + 3)).trans (hu.new 3 (by decide))
  have f3 := blk_frozen hb (o + 3)
  have c5 : w.cell? ⟨g, o + 5, none⟩ = some (.slice A r.1.places.length c) := (blk_cell hb (o + 5)).trans ((hu.new 5 (by decide)).trans (congrArg some hv))
  have HB := Aside0.mk hb
  have HU := Aside0.mk hu
  obtain ⟨p, s⟩ := r
  dsimp only at hv c3 c5 ⊢
  have HV := Aside0.mk hv
  clear hb hu hv
  by_cases h0 : p.places.length = 0
  · have hE := Aside0.mk (show endP p st = { p with status := 0 } by unfold endP; rw [if_pos h0])
    have hl0 : ((p.places.length : Nat) : Int) = 0 := by omega
    go_enter Try.func73, Try.ntmps73
    go_wp2_with fail
    go_end0
    refine ⟨rfl, _, blk_put (blk_put HB.out (o + 3) (.int .i64 st) rfl) (o + 3) (.int .i64 0) rfl, by rw [hE.out]; exact (HU.out.set 3 (by decide) (.int .i64 st) ({ p with status := st }, s) rfl).set 3 (by decide) (.int .i64 0) _ rfl, World.grownBy.trans (setCell_grown _ _ _ _) (setCell_grown _ _ _ _), by rw [setCell_size, setCell_size]⟩
  · have hE := Aside0.mk (show endP p st = { p with status := st } by unfold endP; rw [if_neg h0])
    have hl0 : ¬ ((p.places.length : Nat) : Int) = 0 := by omega
    go_enter Try.func73, Try.ntmps73
    go_wp2_with fail
    go_end0
    exact ⟨rfl, _, blk_put HB.out (o + 3) (.int .i64 st) rfl, by rw [hE.out]; exact HU.out.set 3 (by decide) (.int .i64 st) _ rfl, setCell_grown _ _ _ _, by rw [setCell_size]⟩
set_option maxHeartbeats 1600000 in
set_option maxRecDepth 100000 in
theorem rremove_c (g o : Nat) (c0 cur : Array Value) (r : RP) (A : Option Addr) (c : Nat) (x : Int) (w : World) (hb : w.heap[g]? = some (.cells cur 127 (0, 0))) (hu : PU o c0 cur r) (hv : r.2 = .slice A r.1.places.length c) (hr : Kd.C (Kd.int .i64) w A r.1.places.length r.1.places) (hl : r.1.places.length ≤ 100) :
    Calls Try.prog 75 #[.pointer (some ⟨g, o, none⟩), .int .i64 x] w fun e w' => e = .returned (.tuple #[]) ∧ ∃ cur' v', w'.heap[g]? = some (.cells cur' 127 (0, 0)) ∧ PU o c0 cur' ({ r.1 with places := r.1.places.filter fun n => !decide (n = x) }, v') ∧ w.grownBy w' (some g) ∧ Kd.R (Kd.int .i64) 3 w' 0 (fun k => w.heap.size ≤ k) v' (r.1.places.filter fun n => !decide (n = x)) := by
  have HB := Aside0.mk hb
  have HU := Aside0.mk hu
  have HC := Aside0.mk hr
  have c5 : w.cell? ⟨g, o + 5, none⟩ = some (.slice A r.1.places.length c) := (blk_cell hb (o + 5)).trans ((hu.new 5 (by decide)).trans (congrArg some hv))
  have H5 := Aside0.mk (show cur[o + 5]? = some (.slice A r.1.places.length c) from (hu.new 5 (by decide)).trans (congrArg some hv))
  have hlt := blk_lt hb
  clear hb hu hr
  obtain ⟨l, hll⟩ : ∃ l, r.1.places = l := ⟨_, rfl⟩
  rw [hll] at HC hl c5 H5 ⊢
  go_enter Try.func75, Try.ntmps75
  go_wp2_with fail
  go_loopw [4, 5] (fun v i wr => ∃ k : Nat, k ≤ l.length ∧ i = .int .i64 (k : Int) ∧ Below w.heap.size w wr ∧ Kd.R (Kd.int .i64) 3 wr w.heap.size (fun _ => True) v ((l.take k).filter fun n => !decide (n = x))) (fun v i _ => l.length - (intOf i).toNat)
  case atStart => exact ⟨0, Nat.zero_le _, rfl, Below.refl _ _, by rw [List.take_zero]; exact Kd.R_nil _ _ _ _ _⟩
  case round =>
    obtain ⟨k, hk, rfl, hbl, hR⟩ := hrel
    have HW := Aside0.mk hbl
    have HRR := Aside0.mk hR
    have c5 : wr.cell? ⟨g, o + 5, none⟩ = some (.slice A l.length c) := (blk_cell (blk_below HB.out hbl) (o + 5)).trans H5.out
    clear hR
    by_cases hkl : k < l.length
    · have hkc : (k : Int) < (l.length : Int) := by omega
      obtain ⟨ad, rfl, hc⟩ := Kd.at_int (Kd.C_below HC.out hbl) (k : Int) (by omega) (by omega)
      rw [Int.toNat_natCast, show rd l (k : Int) = l[k] by unfold rd; simp [hkl]] at hc
      have HT := Aside0.mk (show (l.take (k + 1)).filter (fun n => !decide (n = x)) = (l.take k).filter (fun n => !decide (n = x)) ++ (if l[k] = x then [] else [l[k]]) by
        rw [List.take_succ_eq_append_getElem hkl, List.filter_append]
        congr 1
        by_cases e : l[k] = x <;> simp [e])
      have hfl : ((l.take k).filter (fun n => !decide (n = x))).length ≤ 100 := Nat.le_trans (List.length_filter_le _ _) (by rw [List.length_take]; omega)
      clear hbl
      by_cases he : l[k] = x
      · rw [he] at hc
        rw [if_pos he, List.append_nil] at HT
        go_wp2_with fail
        exact ⟨⟨k + 1, by omega, rfl, HW.out, by rw [HT.out]; exact HRR.out⟩, by simp only [intOf]; omega⟩
      · have he' : (l[k] != x) = true := bne_iff_ne.2 he
        rw [if_neg he] at HT
        have HB2 := Aside0.mk (fun V (h : Below wr.heap.size wr V) => (blk_cell (blk_below HB.out (below_step HW.out h)) (o + 5)).trans H5.out)
        generalize l[k] = y at hc he he' HT
        generalize (l.take k).filter (fun n => !decide (n = x)) = fl at HRR HT hfl
        have hsz : w.heap.size ≤ wr.heap.size := HW.out.size
        go_wp2_with (first
          | ((with_reducible refine gate_dst (N := 32) rfl ?_); refine Kd.R_lit (Kd.int .i64) (w0 := wr) wr.heap.size 3 ?hg (N := 32) ?hd (xs := [y]) (inner := [.int .i64 y]) (ok := fun _ => True) (okp := fun _ => True) ?hr ?hp (fun _ hk => hk) trivial (Below.refl _ _) (Nat.le_refl _) (by simp) ?_; (case hg => rfl); (case hd => rfl); (case hr => first | (go_simp; done) | (go_simp; rfl)); (case hp => exact Reps.snoc (Reps.none _ 1) rfl rfl); intro vl_ wl_ HOl_ hbl_ hgl_ hatl_; have hrl := Kd.R_below HRR.out hbl_; obtain ⟨Al_, cl_, rfl⟩ := Kd.R_slice HOl_; have HCl_ := (Kd.R_reads' HOl_).2.2; clear hgl_ hatl_)
          | (refine Kd.R_append_row (w0 := wl_) (Value.int .i64) 0 w.heap.size rfl (.tmp 24) (.tmp 32) 48 3 (.int .i64 0) 8 rfl Try.underlying48 infoI64 rfl (by omega) u4 fl [y] Al_ _ cl_ (fun _ => True) rfl rfl (fun _ _ => trivial) hrl HCl_ (Below.refl _ _) (Nat.le_trans hsz hbl_.size) (by simp; omega) ?_; intro v1_ W1_ ho_ hb_ hg_ hat_; have HF := Aside0.mk (show Below w.heap.size w W1_ ∧ Kd.R (Kd.int .i64) 3 W1_ w.heap.size (fun _ => True) v1_ (fl ++ [y]) from ⟨(below_step HW.out hbl_).trans hb_, ho_⟩); clear ho_ hb_ hg_ hat_ hrl HOl_ HCl_ hbl_))
        exact ⟨⟨k + 1, by omega, rfl, HF.out.1, by rw [HT.out]; exact HF.out.2⟩, by simp only [intOf]; omega⟩
    · have hkc : ¬ (k : Int) < (l.length : Int) := by omega
      have hkk : l.take k = l := List.take_of_length_le (by omega)
      rw [hkk] at HRR
      clear hbl
      obtain ⟨Au, cu, hu4⟩ := Kd.R_slice HRR.out
      subst hu4
      have f5 := blk_frozen (blk_below HB.out HW.out) (o + 5)
      go_wp2_with fail
      go_end0
      have hR0 := Kd.R_lower (Kd.R_mono (Kd.R_bound HRR.out) (ok' := fun k => w.heap.size ≤ k) (fun k hk => hk.2.1)) (Nat.zero_le _)
      refine ⟨rfl, _, blk_put (blk_below HB.out HW.out) (o + 5) _ rfl, _, HU.out.set 5 (by decide) _ _ (by rw [← hll]; rfl), World.grownBy.trans (⟨HW.out.os, HW.out.tape, HW.out.output, HW.out.size, fun k hk _ => HW.out.block k hk⟩ : w.grownBy wr (some g)) (setCell_grown _ _ _ _), Kd.R_move hR0 (fun k hk => Below.heap_setCell _ _ _ k (fun e => ?_))⟩
      have e : k = g := e
      omega
end Go.Proofs.Ytofegigbhohebaa.Hand
