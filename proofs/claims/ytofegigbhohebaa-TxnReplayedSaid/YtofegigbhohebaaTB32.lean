/- TxnFences. -/
import Derived.Test.YtofegigbhohebaaTB31
import Derived.Test.YtofegigbhohebaaTBIns
namespace Go.Proofs.Ytofegigbhohebaa.Hand
open Go.RowKit Go.Proofs.Ytofegigbhohebaa Go.Proofs.YtofegigbhohebaaW.PrintWords Go.Proofs.YtofegigbhohebaaW.PrintLast
set_option linter.unusedVariables false
set_option linter.unusedSimpArgs false
theorem eq27 (a b : Int) (c : Bool) (d : Nat) (w : World) : (Op.equalIn (d + 2) 27 (.agg #[.int .i64 a, .int .i64 b, .bool c]) (.agg #[.int .i64 a, .int .i64 b, .bool c])).run Try.prog w = .ok true w := by
  simp [go_sem, show Try.prog.stoodInHeld 27 = false by kernel_rfl]
theorem eqE6 (a0 b0 a1 b1 a2 b2 a3 b3 a4 b4 a5 b5 : Int) (c0 c1 c2 c3 c4 c5 : Bool) (w : World) : (Op.equalIn 10000 28 (.agg #[.int .i64 a0, .int .i64 b0, .bool c0, .int .i64 a1, .int .i64 b1, .bool c1, .int .i64 a2, .int .i64 b2, .bool c2, .int .i64 a3, .int .i64 b3, .bool c3, .int .i64 a4, .int .i64 b4, .bool c4, .int .i64 a5, .int .i64 b5, .bool c5]) (.agg #[.int .i64 a0, .int .i64 b0, .bool c0, .int .i64 a1, .int .i64 b1, .bool c1, .int .i64 a2, .int .i64 b2, .bool c2, .int .i64 a3, .int .i64 b3, .bool c3, .int .i64 a4, .int .i64 b4, .bool c4, .int .i64 a5, .int .i64 b5, .bool c5])).run Try.prog w = .ok true w := by
  have u := Try.underlying28
  unfold Op.equalIn
  rw [Sem.run_bind, run_underlying u]
  have i27 : ∀ w, (isAgg 27).run Try.prog w = .ok true w := fun w => by kernel_rfl
  have s27 : ∀ w, (sizeOf 27).run Try.prog w = .ok 3 w := fun w => by kernel_rfl
  have e27 : ∀ a b c w, (Op.equalIn 9999 27 (.agg #[.int .i64 a, .int .i64 b, .bool c]) (.agg #[.int .i64 a, .int .i64 b, .bool c])).run Try.prog w = .ok true w := fun a b c w => eq27 a b c 9997 w
  simp [go_sem, show List.range' 0 6 = [0, 1, 2, 3, 4, 5] from rfl, Sem.run_bind, i27, s27, e27]
theorem eqSt (ps : List ProdV) (w : World) : (binOp .eql 28 (.agg (stA ps 6)) (.agg (stA ps 6))).run Try.prog w = .ok (.bool true) w := by
  rw [run_eql_struct, show (Op.equalIn 10000 28 (.agg (stA ps 6)) (.agg (stA ps 6))).run Try.prog w = .ok true w from eqE6 _ _ _ _ _ _ _ _ _ _ _ _ _ _ _ _ _ _ w]
  rfl
theorem neSt (ps : List ProdV) (w : World) : (binOp .neq 28 (.agg (stA ps 6)) (.agg (stA ps 6))).run Try.prog w = .ok (.bool false) w := by
  rw [run_neq_struct, show (Op.equalIn 10000 28 (.agg (stA ps 6)) (.agg (stA ps 6))).run Try.prog w = .ok true w from eqE6 _ _ _ _ _ _ _ _ _ _ _ _ _ _ _ _ _ _ w]
  rfl
theorem status_ok {ps : List ProdV} {k : Int} : (statusF ps k).2.2 = true ↔ 0 ≤ k ∧ k < ps.length := by
  unfold statusF
  split
  · simp_all
  · simp_all
theorem fence_no {ps : List ProdV} {x : EvV} (h1 : x.kind ≠ 1) (h5 : x.kind ≠ 5) (h : (statusF ps x.producer).2.2 = false) : (decideF ps x).2 ≠ 0 := by
  have hn : ¬ (0 ≤ x.producer ∧ x.producer < ps.length) := fun e => by rw [status_ok.2 e] at h; cases h
  unfold decideF
  cases hr : rightE x with
  | false => simp
  | true =>
    obtain ⟨hpr, -⟩ := right_in hr
    rw [if_pos rfl, if_neg h1, if_neg h5, if_pos (by omega)]
    decide
theorem fence_same {ps : List ProdV} {x : EvV} (h1 : x.kind ≠ 1) (h5 : x.kind ≠ 5) (h : (statusF ps x.producer).2.2 = true) (he : (statusF ps x.producer).2.1 = x.epoch) : (decideF ps x).2 ≠ 50 := by
  have hn := status_ok.1 h
  have he' : (prodAt ps x.producer).epoch = x.epoch := by
    unfold statusF at he
    rwa [if_pos hn] at he
  unfold decideF
  cases hr : rightE x with
  | false => simp
  | true =>
    rw [if_pos rfl, if_neg h1, if_neg h5, if_neg (by omega)]
    unfold doneF
    rw [if_neg (by simpa using he')]
    repeat' split
    all_goals first | decide | simp
theorem fence_other {ps : List ProdV} {x : EvV} (h1 : x.kind ≠ 1) (h5 : x.kind ≠ 5) (h : (statusF ps x.producer).2.2 = true) (he : (statusF ps x.producer).2.1 ≠ x.epoch) : ((decideF ps x).2 = 1 ∨ (decideF ps x).2 = 50) ∧ applyF ps x = ps := by
  have hn := status_ok.1 h
  have he' : (prodAt ps x.producer).epoch ≠ x.epoch := by
    unfold statusF at he
    rwa [if_pos hn] at he
  have hd : (decideF ps x).2 = 1 ∨ (decideF ps x).2 = 50 := by
    unfold decideF
    cases hr : rightE x with
    | false => simp
    | true =>
      rw [if_pos rfl, if_neg h1, if_neg h5, if_neg (by omega)]
      unfold doneF
      rw [if_pos he']
      exact .inr rfl
  exact ⟨hd, by unfold applyF; rw [if_pos (.inl (by omega))]⟩
/-- The book behind many events. -/
def appsF (ps : List ProdV) (l : List EvV) : List ProdV := l.foldl applyF ps
theorem appsF_snoc (ps : List ProdV) (l : List EvV) (k : Nat) (x : EvV) (h : l[k]? = some x) : appsF ps (l.take (k + 1)) = applyF (appsF ps (l.take k)) x := by
  unfold appsF
  rw [List.take_add_one, h, Option.toList_some, List.foldl_append]
  rfl
set_option maxRecDepth 100000 in
theorem ev_cells {w : World} {A : Option Addr} {l : List EvV} (h : EvRow w A l) (k : Nat) (hk : k < l.length) : ∃ ad x, A = some ad ∧ l[k]? = some x ∧ w.cell? (ad.add (k * 8)) = some (.int .i64 x.kind) ∧ w.cell? ⟨(ad.add (k * 8)).block, (ad.add (k * 8)).off + 1, none⟩ = some (.string x.name) ∧ w.cell? ⟨(ad.add (k * 8)).block, (ad.add (k * 8)).off + 2, none⟩ = some (.int .i64 x.producer) ∧ w.cell? ⟨(ad.add (k * 8)).block, (ad.add (k * 8)).off + 3, none⟩ = some (.int .i64 x.epoch) ∧ w.cell? ⟨(ad.add (k * 8)).block, (ad.add (k * 8)).off + 4, none⟩ = some (.int .i64 x.place) ∧ w.cell? ⟨(ad.add (k * 8)).block, (ad.add (k * 8)).off + 5, none⟩ = some (.int .i64 x.timeout) ∧ w.cell? ⟨(ad.add (k * 8)).block, (ad.add (k * 8)).off + 6, none⟩ = some (.int .i64 x.now) ∧ w.cell? ⟨(ad.add (k * 8)).block, (ad.add (k * 8)).off + 7, none⟩ = some (.bool x.yes) := by
  obtain ⟨ad, hA, hc⟩ := h.2 k l[k] (List.getElem?_eq_getElem hk)
  have e : ∀ j, (⟨(ad.add (k * 8)).block, (ad.add (k * 8)).off + (j + 1), none⟩ : Addr) = ad.add (k * 8 + (j + 1)) := fun j => by
    unfold Addr.add
    split
    · rename_i h0
      rw [if_neg (by omega), h0, Nat.zero_add]
    · rw [if_neg (by omega)]
      simp only [Nat.add_assoc]
  refine ⟨ad, l[k], hA, List.getElem?_eq_getElem hk, hc 0 _ rfl, ?_, ?_, ?_, ?_, ?_, ?_, ?_⟩
  · rw [e 0]; exact hc 1 _ rfl
  · rw [e 1]; exact hc 2 _ rfl
  · rw [e 2]; exact hc 3 _ rfl
  · rw [e 3]; exact hc 4 _ rfl
  · rw [e 4]; exact hc 5 _ rfl
  · rw [e 5]; exact hc 6 _ rfl
  · rw [e 6]; exact hc 7 _ rfl
theorem bel_setRow {B g : Nat} {w0 w : World} (hb : Below B w0 w) (hg : B ≤ g) (cs : Array Value) : Below B w0 (w.setRow g cs) :=
  ⟨hb.os, hb.tape, hb.output, by rw [size_setRow]; exact hb.size, fun k hk => (setRow_other w g k cs (by omega)).trans (hb.block k hk)⟩
theorem run_load28 {ps : List ProdV} {B : Nat} {w : World} (ev : Operand → Value) (o : Oper) (ho : o.op = .load 28 (.tmp 7)) (hx : ev (.tmp 7) = .pointer (some ⟨B, 0, none⟩)) (hg : w.heap[B]? = some (.cells (stA ps 6) 28 (0, 0))) : (execOp ev o).run Try.prog w = .ok (.value (.agg (stA ps 6))) w := by
  unfold execOp
  simp only [ho, hx, Instr.loadAt, Instr.sureAddr, Sem.run_bind, Sem.run_pure, Result.andThen_ok, run_loadVar_row w B 28 28 (stA ps 6) (0, 0) _ hg Try.underlying28 rfl info28]
theorem run_eq28 {ps : List ProdV} (ev : Operand → Value) (o : Oper) (ho : o.op = .binOp .eql 28 (.tmp 90) (.tmp 91) 28) (hx : ev (.tmp 90) = .agg (stA ps 6)) (hy : ev (.tmp 91) = .agg (stA ps 6)) (w : World) : (execOp ev o).run Try.prog w = .ok (.value (.bool true)) w := by
  have hm : Try.prog.eqGuardType Try.prog.depth 28 = false := by kernel_rfl
  unfold execOp
  simp only [ho, hx, hy, Sem.run_bind, run_eqGuard_agg, hm, Result.andThen_ok, eqSt, Sem.run_pure]
--TABS
def TF16 : Bool × List (List Nat × List Nat) := (true, [([], []), ([0], [0]), ([1], [1]), ([2, 1], [2]), ([3], [3]), ([4, 3, 3], [3, 4]), ([3], [3]), ([5, 6, 3], [3, 5, 6]), ([3, 7], [3, 7]), ([8, 5], [8]), ([9], [9]), ([10, 9, 9], [9, 10]), ([11, 9], [9, 11]), ([9], [9]), ([12, 13, 9], [9, 12, 13]), ([9, 14], [9, 14]), ([15, 11, 0, 1, 2, 3, 4, 5, 6, 7, 8, 9, 10, 11, 12, 13, 14, 15], [15])])
def BF16 : List Nat := [0, 1, 3, 7, 15, 31, 15, 127, 255, 511, 1023, 2047, 4095, 1023, 16383, 32767, 65535]
theorem tabF16 : rtab .any (opsOf Try.f4 16) = TF16 := by kernel_rfl
theorem bitsF16 : waitsOk TF16.2 BF16 = true := by kernel_rfl
set_option maxHeartbeats 6400000 in
set_option maxRecDepth 100000 in
theorem fences_c (A : Option Addr) (c : Nat) (l : List EvV) (x : EvV) (w : World) (hr : EvRow w A l) : Calls Try.prog 4 #[.slice A l.length c, evE x] w fun e w' => e = .returned (.bool true) ∧ Below w.heap.size w w' := by
  have HR := Aside0.mk hr
  have hlm := hr.1
  have HO := Aside0.mk (fun W => own_c x W)
  have hb1 := below_alloc (Below.refl w.heap.size w) (.cells #[.int .i64 x.kind, .string x.name, .int .i64 x.producer, .int .i64 x.epoch, .int .i64 x.place, .int .i64 x.timeout, .int .i64 x.now, .bool x.yes] 35 (0, 0))
  have HX := Aside0.mk (heap_alloc_new w (.cells #[.int .i64 x.kind, .string x.name, .int .i64 x.producer, .int .i64 x.epoch, .int .i64 x.place, .int .i64 x.timeout, .int .i64 x.now, .bool x.yes] 35 (0, 0)))
  have HB := Aside0.mk hb1
  clear hr hb1
  obtain ⟨kind, name, producer, epoch, place, timeout, now, yes⟩ := x
  unfold evE at HO ⊢
  go_enter Try.func4, Try.ntmps4
  go_wp2_with (first
    | (go_at_call 12; refine (new_c _).mono ?_; rintro e w1 ⟨own, gb, rfl, hbi, hb, hz⟩; have K1 := Aside0.mk (KI.mk hbi good_nil hb hz); clear hbi hb hz)
    | (go_at_call 13; refine (knows_c _).mono ?_; rintro e w2 ⟨rfl, hb⟩; have K2 := Aside0.mk (K1.out.move hb); clear hb K1))
  generalize w.alloc (.cells #[.int .i64 kind, .string name, .int .i64 producer, .int .i64 epoch, .int .i64 place, .int .i64 timeout, .int .i64 now, .bool yes] 35 (0, 0)) = W0 at HX HB K2
  have HR2 := Aside0.mk (HR.out.below HB.out)
  have HX0 := Aside0.mk HX.out
  clear HR
  go_loopw [6] (fun i wr => ∃ (k : Nat) (own : Nat → Nat) (gs : List Nat), k ≤ l.length ∧ i = .int .i64 (k : Int) ∧ KI own gb gs (appsF [] (l.take k)) W0 wr) (fun i _ => l.length - (intOf i).toNat)
  case atStart => exact ⟨0, own, [], Nat.zero_le _, rfl, K2.out⟩
  case round =>
    obtain ⟨k, own3, gs3, hk, rfl, hK⟩ := hrel
    have K3 := Aside0.mk hK
    clear hK K2
    by_cases hkl : k < l.length
    · have hkc : (k : Int) < (l.length : Int) := by omega
      obtain ⟨ad, x, hA, hx, e0, e1, e2, e3, e4, e5, e6, e7⟩ := ev_cells (HR2.out.below K3.out.below) k hkl
      subst hA
      have HXK := Aside0.mk (appsF_snoc [] l k x hx)
      have HO2 := Aside0.mk (fun W => own_c x W)
      have HAP := Aside0.mk (fun {own} {gs} {V : World} (h : KI own gb gs (appsF [] (l.take k)) W0 V) => h.appl x)
      obtain ⟨kind', name', producer', epoch', place', timeout', now', yes'⟩ := x
      unfold evE at HO2 HAP
      dsimp only at e0 e1 e2 e3 e4 e5 e6 e7
      go_wp2_with (first
        | (go_at_call 16; refine (HO2.out _).mono ?_; rintro e w4 ⟨rfl, hb⟩; have K4 := Aside0.mk (K3.out.move hb); clear hb K3)
        | (go_at_call 15; refine (HAP.out K4.out).mono ?_; rintro e w5 ⟨rfl, own5, gs5, hk5, -⟩; have K5 := Aside0.mk hk5; clear hk5 K4))
      have hK5 := K5.out
      rw [← HXK.out] at hK5
      exact ⟨⟨k + 1, own5, gs5, by omega, rfl, hK5⟩, by simp only [intOf]; omega⟩
    · have hkc : ¬ (k : Int) < (l.length : Int) := by omega
      obtain ⟨ps, hps⟩ : ∃ ps, appsF [] (l.take k) = ps := ⟨_, rfl⟩
      rw [hps] at K3
      clear hps
      have HX3 := Aside0.mk (blk_below HX.out K3.out.below)
      clear HX
      go_wp2_with (first
        | (go_at_call 14; refine (states_c K3.out.bi).mono ?_; rintro e w4 ⟨rfl, hb⟩; have K4 := Aside0.mk (K3.out.move hb); have HX4 := Aside0.mk (blk_below HX3.out hb); clear hb K3 HX3)
        | (refine gate_ (.store 28 (.tmp 7) (.tmp 34)) rfl ?_; refine wpList_store_row rfl 28 (.tmp 7) (.tmp 34) rfl w4.heap.size (stA ps 6) rfl rfl 28 (stA ps 0) (heap_alloc_new w4 (.cells (stA ps 0) 28 (0, 0))) info28 rfl (stA_one ps 6) ?_))
      --BEGIN
      have hbl := bel_setRow (below_alloc (Below.refl w4.heap.size w4) (.cells (stA ps 0) 28 (0, 0))) (Nat.le_refl _) (stA ps 6)
      have K5 := Aside0.mk (K4.out.move hbl)
      have HX5 := Aside0.mk (blk_below HX4.out hbl)
      have HS5 := Aside0.mk (setRow_heap (w4.alloc (.cells (stA ps 0) 28 (0, 0))) w4.heap.size (stA ps 0) (stA ps 6) 28 (0, 0) (heap_alloc_new w4 _))
      have HZ1 := Aside0.mk (K4.out.zero _ (blk_lt HX0.out))
      have HZ2 := Aside0.mk (show own3 w4.heap.size = 0 from Classical.byContradiction fun e => Nat.lt_irrefl _ (K4.out.bi.lt _ e))
      clear hbl K4 HX4
      obtain ⟨B7, hB7⟩ : ∃ B7, w4.heap.size = B7 := ⟨_, rfl⟩
      obtain ⟨w5, hw5⟩ : ∃ w5, (w4.alloc (.cells (stA ps 0) 28 (0, 0))).setRow w4.heap.size (stA ps 6) = w5 := ⟨_, rfl⟩
      rw [hw5] at K5 HX5 HS5
      rw [hB7] at HS5 HZ2
      have HW5 := Aside0.mk hw5
      clear hw5
      change Calls _ _ _ ((w4.alloc (.cells (stA ps 0) 28 (0, 0))).setRow w4.heap.size (stA ps 6)) _
      rw [HW5.out, hB7]
      clear HW5 hB7
      have HAP := Aside0.mk (fun {own} {gs} {V : World} (h : KI own gb gs ps W0 V) => h.appl ⟨kind, name, producer, epoch, place, timeout, now, yes⟩)
      unfold evE at HAP
      obtain ⟨⟨s, ep, ok⟩, hst⟩ : ∃ q, statusF ps producer = q := ⟨_, rfl⟩
      have HST := Aside0.mk hst
      have HF1 := Aside0.mk (@fence_no ps ⟨kind, name, producer, epoch, place, timeout, now, yes⟩)
      have HF2 := Aside0.mk (@fence_same ps ⟨kind, name, producer, epoch, place, timeout, now, yes⟩)
      have HF3 := Aside0.mk (@fence_other ps ⟨kind, name, producer, epoch, place, timeout, now, yes⟩)
      dsimp only at HF1 HF2 HF3
      rw [hst] at HF1 HF2 HF3
      obtain ⟨d, hd⟩ : ∃ d, (decideF ps ⟨kind, name, producer, epoch, place, timeout, now, yes⟩).2 = d := ⟨_, rfl⟩
      rw [hd] at HAP HF1 HF2 HF3
      clear hst hd
      by_cases hk1 : kind = 1
      · subst hk1
        go_wp2_with (first
          | (go_at_call 17; refine (todo_c K5.out.bi K5.out.good).mono ?_; rintro e w6 ⟨v, rfl, hrow, hb⟩; have K6 := Aside0.mk (K5.out.move hb); have HX6 := Aside0.mk (blk_below HX5.out hb); have HS6 := Aside0.mk (blk_below HS5.out hb); obtain ⟨A6, c6, rfl⟩ := own_slice hrow; have y2 := (blk_cell HX6.out 2).trans rfl; clear hb hrow K5 HX5 HS5)
          | (go_at_call 18; refine (status_c K6.out.bi producer).mono ?_; rintro e w7 ⟨rfl, hb⟩; rw [HST.out]; have K7 := Aside0.mk (K6.out.move hb); have HX7 := Aside0.mk (blk_below HX6.out hb); have HS7 := Aside0.mk (blk_below HS6.out hb); clear y2; have y0 := (blk_cell HX7.out 0).trans rfl; have y1 := (blk_cell HX7.out 1).trans rfl; have y2 := (blk_cell HX7.out 2).trans rfl; have y3 := (blk_cell HX7.out 3).trans rfl; have y4 := (blk_cell HX7.out 4).trans rfl; have y5 := (blk_cell HX7.out 5).trans rfl; have y6 := (blk_cell HX7.out 6).trans rfl; have y7 := (blk_cell HX7.out 7).trans rfl; clear hb K6 HX6 HS6)
          | (go_at_call 16; refine (HO.out _).mono ?_; rintro e w8 ⟨rfl, hb⟩; have K8 := Aside0.mk (K7.out.move hb); have HX8 := Aside0.mk (blk_below HX7.out hb); have HS8 := Aside0.mk (blk_below HS7.out hb); clear hb K7 HX7 HS7 y0 y1 y2 y3 y4 y5 y6 y7)
          | (go_at_call 15; refine (HAP.out K8.out).mono ?_; rintro e w9 ⟨rfl, own9, gs9, hk9, hkp⟩; have K9 := Aside0.mk hk9; have HX9 := Aside0.mk (hkp _ _ ⟨HZ1.out, HX8.out⟩).2; have HS9 := Aside0.mk (hkp _ _ ⟨HZ2.out, HS8.out⟩).2; have y0 := (blk_cell HX9.out 0).trans rfl; have y3 := (blk_cell HX9.out 3).trans rfl; clear hk9 hkp K8 HX8 HS8)
          | (go_at_call 19; refine (num_c _ _).mono ?_; rintro e w' ⟨rfl, rfl⟩))
        all_goals exact bodyPost_ret (v := .bool true) (by simp [results, Try.results4, go_sem]) rfl ⟨rfl, below_step HB.out K9.out.below⟩
      have hk1' : (kind == 1) = false := beq_eq_false_iff_ne.2 hk1
      by_cases hk5 : kind = 5
      · subst hk5
        go_wp2_with (first
          | (go_at_call 17; refine (todo_c K5.out.bi K5.out.good).mono ?_; rintro e w6 ⟨v, rfl, hrow, hb⟩; have K6 := Aside0.mk (K5.out.move hb); have HX6 := Aside0.mk (blk_below HX5.out hb); have HS6 := Aside0.mk (blk_below HS5.out hb); obtain ⟨A6, c6, rfl⟩ := own_slice hrow; have y2 := (blk_cell HX6.out 2).trans rfl; clear hb hrow K5 HX5 HS5)
          | (go_at_call 18; refine (status_c K6.out.bi producer).mono ?_; rintro e w7 ⟨rfl, hb⟩; rw [HST.out]; have K7 := Aside0.mk (K6.out.move hb); have HX7 := Aside0.mk (blk_below HX6.out hb); have HS7 := Aside0.mk (blk_below HS6.out hb); clear y2; have y0 := (blk_cell HX7.out 0).trans rfl; have y1 := (blk_cell HX7.out 1).trans rfl; have y2 := (blk_cell HX7.out 2).trans rfl; have y3 := (blk_cell HX7.out 3).trans rfl; have y4 := (blk_cell HX7.out 4).trans rfl; have y5 := (blk_cell HX7.out 5).trans rfl; have y6 := (blk_cell HX7.out 6).trans rfl; have y7 := (blk_cell HX7.out 7).trans rfl; clear hb K6 HX6 HS6)
          | (go_at_call 16; refine (HO.out _).mono ?_; rintro e w8 ⟨rfl, hb⟩; have K8 := Aside0.mk (K7.out.move hb); have HX8 := Aside0.mk (blk_below HX7.out hb); have HS8 := Aside0.mk (blk_below HS7.out hb); clear hb K7 HX7 HS7 y0 y1 y2 y3 y4 y5 y6 y7)
          | (go_at_call 15; refine (HAP.out K8.out).mono ?_; rintro e w9 ⟨rfl, own9, gs9, hk9, hkp⟩; have K9 := Aside0.mk hk9; have HX9 := Aside0.mk (hkp _ _ ⟨HZ1.out, HX8.out⟩).2; have HS9 := Aside0.mk (hkp _ _ ⟨HZ2.out, HS8.out⟩).2; have y0 := (blk_cell HX9.out 0).trans rfl; have y3 := (blk_cell HX9.out 3).trans rfl; clear hk9 hkp K8 HX8 HS8)
          | (go_at_call 19; refine (num_c _ _).mono ?_; rintro e w' ⟨rfl, rfl⟩))
        all_goals exact bodyPost_ret (v := .bool true) (by simp [results, Try.results4, go_sem]) rfl ⟨rfl, below_step HB.out K9.out.below⟩
      have hk5' : (kind == 5) = false := beq_eq_false_iff_ne.2 hk5
      cases ok
      · have hd : (d != 0) = true := bne_iff_ne.2 (HF1.out hk1 hk5 rfl)
        go_wp2_with (first
          | (go_at_call 17; refine (todo_c K5.out.bi K5.out.good).mono ?_; rintro e w6 ⟨v, rfl, hrow, hb⟩; have K6 := Aside0.mk (K5.out.move hb); have HX6 := Aside0.mk (blk_below HX5.out hb); have HS6 := Aside0.mk (blk_below HS5.out hb); obtain ⟨A6, c6, rfl⟩ := own_slice hrow; have y2 := (blk_cell HX6.out 2).trans rfl; clear hb hrow K5 HX5 HS5)
          | (go_at_call 18; refine (status_c K6.out.bi producer).mono ?_; rintro e w7 ⟨rfl, hb⟩; rw [HST.out]; have K7 := Aside0.mk (K6.out.move hb); have HX7 := Aside0.mk (blk_below HX6.out hb); have HS7 := Aside0.mk (blk_below HS6.out hb); clear y2; have y0 := (blk_cell HX7.out 0).trans rfl; have y1 := (blk_cell HX7.out 1).trans rfl; have y2 := (blk_cell HX7.out 2).trans rfl; have y3 := (blk_cell HX7.out 3).trans rfl; have y4 := (blk_cell HX7.out 4).trans rfl; have y5 := (blk_cell HX7.out 5).trans rfl; have y6 := (blk_cell HX7.out 6).trans rfl; have y7 := (blk_cell HX7.out 7).trans rfl; clear hb K6 HX6 HS6)
          | (go_at_call 16; refine (HO.out _).mono ?_; rintro e w8 ⟨rfl, hb⟩; have K8 := Aside0.mk (K7.out.move hb); have HX8 := Aside0.mk (blk_below HX7.out hb); have HS8 := Aside0.mk (blk_below HS7.out hb); clear hb K7 HX7 HS7 y0 y1 y2 y3 y4 y5 y6 y7)
          | (go_at_call 15; refine (HAP.out K8.out).mono ?_; rintro e w9 ⟨rfl, own9, gs9, hk9, hkp⟩; have K9 := Aside0.mk hk9; have HX9 := Aside0.mk (hkp _ _ ⟨HZ1.out, HX8.out⟩).2; have HS9 := Aside0.mk (hkp _ _ ⟨HZ2.out, HS8.out⟩).2; have y0 := (blk_cell HX9.out 0).trans rfl; have y3 := (blk_cell HX9.out 3).trans rfl; clear hk9 hkp K8 HX8 HS8)
          | (go_at_call 19; refine (num_c _ _).mono ?_; rintro e w' ⟨rfl, rfl⟩))
        all_goals exact bodyPost_ret (v := .bool true) (by simp [results, Try.results4, go_sem]) rfl ⟨rfl, below_step HB.out K9.out.below⟩
      by_cases hep : ep = epoch
      · have hd : (d != 50) = true := bne_iff_ne.2 (HF2.out hk1 hk5 rfl hep)
        subst hep
        go_wp2_with (first
          | (go_at_call 17; refine (todo_c K5.out.bi K5.out.good).mono ?_; rintro e w6 ⟨v, rfl, hrow, hb⟩; have K6 := Aside0.mk (K5.out.move hb); have HX6 := Aside0.mk (blk_below HX5.out hb); have HS6 := Aside0.mk (blk_below HS5.out hb); obtain ⟨A6, c6, rfl⟩ := own_slice hrow; have y2 := (blk_cell HX6.out 2).trans rfl; clear hb hrow K5 HX5 HS5)
          | (go_at_call 18; refine (status_c K6.out.bi producer).mono ?_; rintro e w7 ⟨rfl, hb⟩; rw [HST.out]; have K7 := Aside0.mk (K6.out.move hb); have HX7 := Aside0.mk (blk_below HX6.out hb); have HS7 := Aside0.mk (blk_below HS6.out hb); clear y2; have y0 := (blk_cell HX7.out 0).trans rfl; have y1 := (blk_cell HX7.out 1).trans rfl; have y2 := (blk_cell HX7.out 2).trans rfl; have y3 := (blk_cell HX7.out 3).trans rfl; have y4 := (blk_cell HX7.out 4).trans rfl; have y5 := (blk_cell HX7.out 5).trans rfl; have y6 := (blk_cell HX7.out 6).trans rfl; have y7 := (blk_cell HX7.out 7).trans rfl; clear hb K6 HX6 HS6)
          | (go_at_call 16; refine (HO.out _).mono ?_; rintro e w8 ⟨rfl, hb⟩; have K8 := Aside0.mk (K7.out.move hb); have HX8 := Aside0.mk (blk_below HX7.out hb); have HS8 := Aside0.mk (blk_below HS7.out hb); clear hb K7 HX7 HS7 y0 y1 y2 y3 y4 y5 y6 y7)
          | (go_at_call 15; refine (HAP.out K8.out).mono ?_; rintro e w9 ⟨rfl, own9, gs9, hk9, hkp⟩; have K9 := Aside0.mk hk9; have HX9 := Aside0.mk (hkp _ _ ⟨HZ1.out, HX8.out⟩).2; have HS9 := Aside0.mk (hkp _ _ ⟨HZ2.out, HS8.out⟩).2; have y0 := (blk_cell HX9.out 0).trans rfl; have y3 := (blk_cell HX9.out 3).trans rfl; clear hk9 hkp K8 HX8 HS8)
          | (go_at_call 19; refine (num_c _ _).mono ?_; rintro e w' ⟨rfl, rfl⟩))
        all_goals exact bodyPost_ret (v := .bool true) (by simp [results, Try.results4, go_sem]) rfl ⟨rfl, below_step HB.out K9.out.below⟩
      have hep' : (ep == epoch) = false := beq_eq_false_iff_ne.2 hep
      obtain ⟨hd0, hap⟩ := HF3.out hk1 hk5 rfl hep
      rw [hap] at HAP
      clear hap
      rcases hd0 with rfl | rfl
      all_goals
        go_wp2_with (first
          | (go_at_call 17; refine (todo_c K5.out.bi K5.out.good).mono ?_; rintro e w6 ⟨v, rfl, hrow, hb⟩; have K6 := Aside0.mk (K5.out.move hb); have HX6 := Aside0.mk (blk_below HX5.out hb); have HS6 := Aside0.mk (blk_below HS5.out hb); obtain ⟨A6, c6, rfl⟩ := own_slice hrow; have y2 := (blk_cell HX6.out 2).trans rfl; clear hb hrow K5 HX5 HS5)
          | (go_at_call 18; refine (status_c K6.out.bi producer).mono ?_; rintro e w7 ⟨rfl, hb⟩; rw [HST.out]; have K7 := Aside0.mk (K6.out.move hb); have HX7 := Aside0.mk (blk_below HX6.out hb); have HS7 := Aside0.mk (blk_below HS6.out hb); clear y2; have y0 := (blk_cell HX7.out 0).trans rfl; have y1 := (blk_cell HX7.out 1).trans rfl; have y2 := (blk_cell HX7.out 2).trans rfl; have y3 := (blk_cell HX7.out 3).trans rfl; have y4 := (blk_cell HX7.out 4).trans rfl; have y5 := (blk_cell HX7.out 5).trans rfl; have y6 := (blk_cell HX7.out 6).trans rfl; have y7 := (blk_cell HX7.out 7).trans rfl; clear hb K6 HX6 HS6)
          | (go_at_call 16; refine (HO.out _).mono ?_; rintro e w8 ⟨rfl, hb⟩; have K8 := Aside0.mk (K7.out.move hb); have HX8 := Aside0.mk (blk_below HX7.out hb); have HS8 := Aside0.mk (blk_below HS7.out hb); clear hb K7 HX7 HS7 y0 y1 y2 y3 y4 y5 y6 y7)
          | (go_at_call 15; refine (HAP.out K8.out).mono ?_; rintro e w9 ⟨rfl, own9, gs9, hk9, hkp⟩; have K9 := Aside0.mk hk9; have HX9 := Aside0.mk (hkp _ _ ⟨HZ1.out, HX8.out⟩).2; have HS9 := Aside0.mk (hkp _ _ ⟨HZ2.out, HS8.out⟩).2; have y0 := (blk_cell HX9.out 0).trans rfl; have y3 := (blk_cell HX9.out 3).trans rfl; clear hk9 hkp K8 HX8 HS8)
          | (go_at_call 19; refine (num_c _ _).mono ?_; rintro e w' ⟨rfl, rfl⟩))
        have hdr := below_drew (Below.refl w9.heap.size w9)
        have K10 := Aside0.mk (K9.out.move hdr)
        have HS10 := Aside0.mk (blk_below HS9.out hdr)
        clear hdr HX9 y0 y3
        refine start_ (n := 17) (S := fun w' => w'.heap[B7]? = some (.cells (stA ps 6) 28 (0, 0))) (ds := []) #[false, false, false, false, false, false, false, false, false, false, false, false, false, false, false, false, false] (by kernel_rfl) rfl rfl HS9.out (fun hHeld => ?_); refine with_tabW tabF16 bitsF16 (fun HT_ HW_ => ?_)
        generalize w9.drew = w10 at K10 HS10 hHeld ⊢
        refine pure_ (i := 0) (N := (some 85)) (v := ?_) (a' := ?_) #[true, false, false, false, false, false, false, false, false, false, false, false, false, false, false, false, false] rfl rfl (any_of HT_.out (by kernel_rfl)) (fun _ _ _ h => h) (Or.inl ⟨by rfl, ?_⟩) ?_ ?_
        rotate_left
        · intro w'
          go_simp
          with_reducible rfl
        rotate_left
        · simp only [Act.put, List.setIfInBounds_toArray, List.set_cons_zero, List.set_cons_succ, i64_w, i32_w]
          rfl
        refine one_ (i := 1) (N := (some 86)) #[true, true, false, false, false, false, false, false, false, false, false, false, false, false, false, false, false] rfl rfl (one_of HT_.out (by kernel_rfl)) (by decide) (fun K hK => ?_)
        refine goes_ Try.func19 (by kernel_rfl) rfl #[.int .i64 _] (by rfl) rfl rfl (by (try simp only [List.map_toArray, List.map_cons, List.map_nil]); first | done | rfl) ?_
        refine (num_c _ _).mono ?_
        rintro e w' ⟨rfl, rfl⟩
        refine ⟨_, rfl, ?_⟩
        refine hK.out _ _ HS10.out (fun hHeld => ?_)
        clear hK K
        refine norm_ (a' := ?_) ?_ ?_
        rotate_left
        · show Act.put _ (some 86) _ = _
          simp only [Act.put, List.setIfInBounds_toArray, List.set_cons_zero, List.set_cons_succ, i64_w, i32_w]
          rfl
        refine pure_ (i := 2) (N := (some 87)) (v := ?_) (a' := ?_) #[true, true, true, false, false, false, false, false, false, false, false, false, false, false, false, false, false] rfl rfl (any_of HT_.out (by kernel_rfl)) (fun _ _ _ h => h) (Or.inl ⟨by rfl, ?_⟩) ?_ ?_
        rotate_left
        · intro w'
          go_simp
          with_reducible rfl
        rotate_left
        · simp only [Act.put, List.setIfInBounds_toArray, List.set_cons_zero, List.set_cons_succ, i64_w, i32_w]
          rfl
        refine pure_ (i := 3) (N := (some 88)) (v := ?_) (a' := ?_) #[true, true, true, true, false, false, false, false, false, false, false, false, false, false, false, false, false] rfl rfl (any_of HT_.out (by kernel_rfl)) (fun _ _ _ h => h) (Or.inl ⟨by rfl, ?_⟩) ?_ ?_
        rotate_left
        · intro w'
          go_simp
          with_reducible rfl
        rotate_left
        · simp only [Act.put, List.setIfInBounds_toArray, List.set_cons_zero, List.set_cons_succ, i64_w, i32_w]
          rfl
        refine take_ (i := 6) (N := (some 91)) (v := .agg (stA ps 6)) #[true, true, true, true, false, false, true, false, false, false, false, false, false, false, false, false, false] rfl rfl (take_ofW HT_.out HW_.out (by kernel_rfl)) (fun _ _ _ h => h) (Or.inl ⟨by rfl, fun w' s0 => run_load28 _ _ rfl rfl s0⟩) hHeld rfl ?_
        refine norm_ (a' := ?_) ?_ ?_
        rotate_left
        · show Act.put _ (some 91) _ = _
          simp only [Act.put, List.setIfInBounds_toArray, List.set_cons_zero, List.set_cons_succ, i64_w, i32_w]
          rfl
        refine pure_ (i := 4) (N := (some 89)) (v := ?_) (a' := ?_) #[true, true, true, true, true, false, true, false, false, false, false, false, false, false, false, false, false] rfl rfl (any_of HT_.out (by kernel_rfl)) (fun _ _ _ h => h) (Or.inl ⟨by rfl, ?_⟩) ?_ ?_
        rotate_left
        · intro w'
          go_simp
          with_reducible rfl
        rotate_left
        · simp only [Act.put, List.setIfInBounds_toArray, List.set_cons_zero, List.set_cons_succ, i64_w, i32_w]
          rfl
        refine one_ (i := 5) (N := (some 90)) #[true, true, true, true, true, true, true, false, false, false, false, false, false, false, false, false, false] rfl rfl (one_of HT_.out (by kernel_rfl)) (by decide) (fun K hK => ?_)
        refine goes_ Try.func14 (by kernel_rfl) rfl #[.pointer (some ⟨gb, 0, none⟩)] (by rfl) rfl rfl (by (try simp only [List.map_toArray, List.map_cons, List.map_nil]); first | done | rfl) ?_
        refine (states_c K10.out.bi).mono ?_
        rintro e w11 ⟨rfl, hb11⟩
        have K11 := Aside0.mk (K10.out.move hb11)
        have HS11 := Aside0.mk (blk_below HS10.out hb11)
        clear hb11
        refine ⟨_, rfl, ?_⟩
        refine hK.out _ _ HS11.out (fun hHeld => ?_)
        clear hK K
        refine norm_ (a' := ?_) ?_ ?_
        rotate_left
        · show Act.put _ (some 90) _ = _
          simp only [Act.put, List.setIfInBounds_toArray, List.set_cons_zero, List.set_cons_succ, i64_w, i32_w]
          rfl
        refine pure_ (i := 7) (N := (some 92)) (v := .bool true) #[true, true, true, true, true, true, true, true, false, false, false, false, false, false, false, false, false] rfl rfl (any_of HT_.out (by kernel_rfl)) (fun _ _ _ h => h) (Or.inl ⟨by rfl, fun w' => run_eq28 _ _ rfl rfl rfl w'⟩) rfl ?_
        refine norm_ (a' := ?_) ?_ ?_
        rotate_left
        · show Act.put _ (some 92) _ = _
          simp only [Act.put, List.setIfInBounds_toArray, List.set_cons_zero, List.set_cons_succ, i64_w, i32_w]
          rfl
        refine pure_ (i := 8) (N := (some 93)) (v := ?_) (a' := ?_) #[true, true, true, true, true, true, true, true, true, false, false, false, false, false, false, false, false] rfl rfl (any_of HT_.out (by kernel_rfl)) (fun _ _ _ h => h) (Or.inl ⟨by rfl, ?_⟩) ?_ ?_
        rotate_left
        · intro w'
          go_simp
          with_reducible rfl
        rotate_left
        · simp only [Act.put, List.setIfInBounds_toArray, List.set_cons_zero, List.set_cons_succ, i64_w, i32_w]
          rfl
        refine pure_ (i := 9) (N := (some 94)) (v := ?_) (a' := ?_) #[true, true, true, true, true, true, true, true, true, true, false, false, false, false, false, false, false] rfl rfl (any_of HT_.out (by kernel_rfl)) (fun _ _ _ h => h) (Or.inl ⟨by rfl, ?_⟩) ?_ ?_
        rotate_left
        · intro w'
          go_simp
          with_reducible rfl
        rotate_left
        · simp only [Act.put, List.setIfInBounds_toArray, List.set_cons_zero, List.set_cons_succ, i64_w, i32_w]
          rfl
        refine pure_ (i := 10) (N := (some 95)) (v := ?_) (a' := ?_) #[true, true, true, true, true, true, true, true, true, true, true, false, false, false, false, false, false] rfl rfl (any_of HT_.out (by kernel_rfl)) (fun _ _ _ h => h) (Or.inl ⟨by rfl, ?_⟩) ?_ ?_
        rotate_left
        · intro w'
          go_simp
          with_reducible rfl
        rotate_left
        · simp only [Act.put, List.setIfInBounds_toArray, List.set_cons_zero, List.set_cons_succ, i64_w, i32_w]
          rfl
        refine pure_ (i := 13) (N := (some 98)) (v := ?_) (a' := ?_) #[true, true, true, true, true, true, true, true, true, true, true, false, false, true, false, false, false] rfl rfl (any_of HT_.out (by kernel_rfl)) (fun _ _ _ h => h) (Or.inl ⟨by rfl, ?_⟩) ?_ ?_
        rotate_left
        · intro w'
          go_simp
          with_reducible rfl
        rotate_left
        · simp only [Act.put, List.setIfInBounds_toArray, List.set_cons_zero, List.set_cons_succ, i64_w, i32_w]
          rfl
        refine one_ (i := 11) (N := (some 96)) #[true, true, true, true, true, true, true, true, true, true, true, true, false, true, false, false, false] rfl rfl (one_of HT_.out (by kernel_rfl)) (by decide) (fun K hK => ?_)
        refine goes_ Try.func17 (by kernel_rfl) rfl #[.pointer (some ⟨gb, 0, none⟩)] (by rfl) rfl rfl (by (try simp only [List.map_toArray, List.map_cons, List.map_nil]); first | done | rfl) ?_
        refine (todo_c K11.out.bi K11.out.good).mono ?_
        rintro e w12 ⟨v, rfl, hrow, hb12⟩
        have K12 := Aside0.mk (K11.out.move hb12)
        have HS12 := Aside0.mk (blk_below HS11.out hb12)
        obtain ⟨A12, c12, rfl⟩ := own_slice hrow
        clear hb12 hrow
        refine ⟨_, rfl, ?_⟩
        refine hK.out _ _ HS12.out (fun hHeld => ?_)
        clear hK K
        refine norm_ (a' := ?_) ?_ ?_
        rotate_left
        · show Act.put _ (some 96) _ = _
          simp only [Act.put, List.setIfInBounds_toArray, List.set_cons_zero, List.set_cons_succ, i64_w, i32_w]
          rfl
        refine pure_ (i := 12) (N := (some 97)) (v := ?_) (a' := ?_) #[true, true, true, true, true, true, true, true, true, true, true, true, true, true, false, false, false] rfl rfl (any_of HT_.out (by kernel_rfl)) (fun _ _ _ h => h) (Or.inl ⟨by rfl, ?_⟩) ?_ ?_
        rotate_left
        · intro w'
          go_simp
          with_reducible rfl
        rotate_left
        · simp only [Act.put, List.setIfInBounds_toArray, List.set_cons_zero, List.set_cons_succ, i64_w, i32_w]
          rfl
        refine pure_ (i := 14) (N := (some 99)) (v := ?_) (a' := ?_) #[true, true, true, true, true, true, true, true, true, true, true, true, true, true, true, false, false] rfl rfl (any_of HT_.out (by kernel_rfl)) (fun _ _ _ h => h) (Or.inl ⟨by rfl, ?_⟩) ?_ ?_
        rotate_left
        · intro w'
          go_simp
          with_reducible rfl
        rotate_left
        · simp only [Act.put, List.setIfInBounds_toArray, List.set_cons_zero, List.set_cons_succ, i64_w, i32_w]
          rfl
        refine pure_ (i := 15) (N := (some 100)) (v := ?_) (a' := ?_) #[true, true, true, true, true, true, true, true, true, true, true, true, true, true, true, true, false] rfl rfl (any_of HT_.out (by kernel_rfl)) (fun _ _ _ h => h) (Or.inl ⟨by rfl, ?_⟩) ?_ ?_
        rotate_left
        · intro w'
          go_simp
          with_reducible rfl
        rotate_left
        · simp only [Act.put, List.setIfInBounds_toArray, List.set_cons_zero, List.set_cons_succ, i64_w, i32_w]
          rfl
        refine pure_ (i := 16) (N := (some 4)) (v := ?_) (a' := ?_) #[true, true, true, true, true, true, true, true, true, true, true, true, true, true, true, true, true] rfl rfl (any_of HT_.out (by kernel_rfl)) (fun _ _ _ h => h) (Or.inl ⟨by rfl, ?_⟩) ?_ ?_
        rotate_left
        · intro w'
          go_simp
          with_reducible rfl
        rotate_left
        · simp only [Act.put, List.setIfInBounds_toArray, List.set_cons_zero, List.set_cons_succ, i64_w, i32_w]
          rfl
        refine done_ (done_of HT_.out (by kernel_rfl)) ?_
        clear hHeld HT_ HW_
        go_wp2_with fail
        have htd : ((todosF ps).length : Int) = ((todosF ps).length : Int) := rfl
        exact bodyPost_ret (v := .bool true) (by simp [results, Try.results4, go_sem]) rfl ⟨rfl, below_step HB.out K12.out.below⟩
end Go.Proofs.Ytofegigbhohebaa.Hand
