/- Todo: the iterator. -/
import Derived.Test.YtofegigbhohebaaTB15
import Derived.RangeFuncNested
import Derived.RangeFuncBound
import Derived.RangeFuncCalls
import Derived.RangeFuncLeaves
import Derived.Shelf.Abstract
import Derived.Shelf.RegionOpen
import Derived.OwnWalkIn
import Derived.TacticsInMore
import Derived.LoopNIn
import Derived.LoopIn
namespace Go.Proofs.Ytofegigbhohebaa.Hand
open Go.RowKit Go.Shelf Go.Proofs.Ytofegigbhohebaa Go.Proofs.YtofegigbhohebaaW.PrintWords Go.Proofs.YtofegigbhohebaaW.PrintLast
set_option linter.unusedVariables false
set_option linter.unusedSimpArgs false
attribute [local go_sem] Oper.semAt_some
/-- What is to be written. -/
structure TdV where
  producer : Int
  epoch : Int
  place : Int
  yes : Bool
def tdV (t : TdV) : Value := .agg #[.int .i64 t.producer, .int .i64 t.epoch, .int .i64 t.place, .bool t.yes]
def tdOf (i : Nat) (p : ProdV) : List TdV := if endsP p = true then p.places.map fun n => ⟨i, p.epoch, n, decide (p.status = 2)⟩ else []
def todosUpto (ps : List ProdV) (k : Nat) : List TdV := (List.range k).flatMap fun i => tdOf i (ps.getD i prod0)
def todosF (ps : List ProdV) : List TdV := todosUpto ps ps.length
theorem todosUpto_succ (ps : List ProdV) (k : Nat) : todosUpto ps (k + 1) = todosUpto ps k ++ tdOf k (ps.getD k prod0) := by simp [todosUpto, List.range_succ]
theorem todosUpto_le (ps : List ProdV) : ∀ (k m : Nat), k ≤ m → todosUpto ps k <+: todosUpto ps m
  | k, m, h => by
    induction m with
    | zero => rw [show k = 0 by omega]; exact List.prefix_refl _
    | succ m ih =>
      rcases Nat.lt_or_ge k (m + 1) with h1 | h1
      · rw [todosUpto_succ]; exact (ih (by omega)).trans (List.prefix_append _ _)
      · rw [show k = m + 1 by omega]; exact List.prefix_refl _
set_option maxRecDepth 100000 in
set_option maxHeartbeats 2000000 in
theorem ends_in (F : Fence) (n : Nat) (h42 : F.fn 42) (hro : F.round = none) (g : Nat) (p : ProdV) (v : Value) (w : World) (hb : w.heap[g]? = some (.cells (prodC p v) 85 (0, 0))) : CallsIn F n Try.prog 42 #[.pointer (some ⟨g, 0, none⟩)] w fun e w' => e = .returned (.bool (endsP p)) ∧ w' = w := by
  have y3 : w.cell? ⟨g, 3, none⟩ = some (.int .i64 p.status) := (blk_cell hb 3).trans rfl
  refine callsIn_of_wp Try.func42 rfl h42 ?_ hro
  simp only [Try.ntmps42, List.size_toArray, List.length_cons, List.length_nil, Nat.reduceAdd, Nat.reduceSub, Array.replicate_succ, Array.replicate_zero, List.push_toArray, List.append_toArray, List.nil_append, List.cons_append]
  clear hb
  by_cases h2 : p.status = 2
  · rw [h2] at y3
    gi_wp2
    go_ret
    refine ⟨?_, rfl⟩
    simp [endsP, h2]
  · have h2' : (p.status == 2) = false := beq_eq_false_iff_ne.2 h2
    gi_wp2
    all_goals (go_ret; refine ⟨?_, rfl⟩; (first | (simp_all [endsP]; done) | (simp_all [endsP]; rfl)))
set_option maxRecDepth 100000 in
set_option maxHeartbeats 4000000 in
theorem todos1_in (fnn : FuncId → Prop) (n : Nat) (h64 : fnn 64) (h42 : fnn 42) (hn : 1 ≤ n) (l Bs : Nat) {own : Nat → Nat} {gb : Nat} {gs : List Nat} {ps : List ProdV} (w0 : World) (hB : BI own gb gs ps w0) (hG : Good ps) (J Jx : List TdV → World → Prop)
    (hY : ∀ (pre : List TdV) (x : TdV) (W : World), J pre W → pre.length < (todosF ps).length → YieldAt ({ fn := fnn, depth := none, alive := false } : Fence) (n - 1) Try.prog l #[tdV x] W fun e W' =>
      (e = .returned (.bool true) ∧ J (pre ++ [x]) W' ∧ Below w0.heap.size W W') ∨ (e = .returned (.bool false) ∧ Jx (pre ++ [x]) W'))
    (hJd : ∀ pre W, J pre W → J pre W.drew) (W : World) (hW : Below w0.heap.size w0 W) (hBs : W.cell? ⟨Bs, 0, none⟩ = some (.pointer (some ⟨gb, 0, none⟩))) (h0 : J [] W) :
    CallsIn ({ fn := fnn, depth := none, alive := false } : Fence) n Try.prog 64 #[.func (.yield l) #[] #[], .pointer (some ⟨Bs, 0, none⟩)] W fun e W' => (∃ v, e = .returned v) ∧ ((∃ ys, ys = todosF ps ∧ J ys W') ∨ (∃ pre, pre <+: todosF ps ∧ Jx pre W')) := by
  refine callsIn_of_wp Try.func64 rfl h64 ?_ rfl
  simp only [Try.ntmps64, List.size_toArray, List.length_cons, List.length_nil, Nat.reduceAdd, Nat.reduceSub, Array.replicate_succ, Array.replicate_zero, List.push_toArray, List.append_toArray, List.nil_append, List.cons_append]
  obtain ⟨A, c, B, b00, -, -, -, -, hrow⟩ := hB.cells
  have HRW := Aside0.mk hrow
  have b0 := (hW.cell (p := ⟨gb, 0, none⟩) (World.block_lt_of_cell? w0 ⟨gb, 0, none⟩ b00)).trans b00
  have HB := Aside0.mk hB
  have hlen := hG.len
  have HPL := Aside0.mk (fun i (hi : i < ps.length) => (hG.at_ hi).len)
  clear hB hG hrow b00
  gi_wp2
  gi_loopw [12] (fun i wr => ∃ k : Nat, k ≤ ps.length ∧ i = .int .i64 (k : Int) ∧ J (todosUpto ps k) wr ∧ Below w0.heap.size w0 wr)
    (fun i _ => ps.length - (intOf i).toNat)
  case atStart => exact ⟨0, Nat.zero_le _, rfl, h0, hW⟩
  case round =>
    obtain ⟨k, hk, rfl, hJs, hnx⟩ := hrel
    rcases Nat.lt_or_ge k ps.length with hkl | hkl
    rotate_left
    · obtain rfl : k = ps.length := by omega
      gi_wp2
      go_end0
      exact ⟨⟨_, rfl⟩, .inl ⟨_, rfl, hJs⟩⟩
    have hjc : (k : Int) < (ps.length : Int) := by omega
    obtain ⟨p, hp⟩ : ∃ p, ps.getD k prod0 = p := ⟨_, rfl⟩
    obtain ⟨g, hgg⟩ : ∃ g, gs.getD k 0 = g := ⟨_, rfl⟩
    have hbw := HB.out.below hnx
    obtain ⟨ad, rfl, hcell0⟩ := HRW.out k hkl
    rw [hgg] at hcell0
    have hcell := (hnx.cell (p := ad.add k) (World.block_lt_of_cell? w0 _ hcell0)).trans hcell0
    obtain ⟨hog, v, hb0, hv0⟩ := HB.out.prod k hkl
    rw [hp, hgg] at hb0
    rw [hp] at hv0
    obtain ⟨Av, cv, rfl⟩ := Kd.R_slice hv0
    have HPB := Aside0.mk (fun (W' : World) (h : Below w0.heap.size w0 W') => (h.block g (blk_lt hb0)).trans hb0)
    have HPV := Aside0.mk (fun (W' : World) (h : Below w0.heap.size w0 W') => Kd.R_below hv0 h)
    have hb := HPB.out wr hnx
    have hv := HPV.out wr hnx
    clear hb0 hv0 hog
    have HPN := Aside0.mk (by have := HPL.out k hkl; rw [hp] at this; exact this : p.places.length ≤ 100)
    have HN := Aside0.mk hnx
    have HJ := Aside0.mk hJs
    have HBW := Aside0.mk hbw
    have PB := Aside0.mk hb
    have PV := Aside0.mk hv
    have HP := Aside0.mk hp
    clear hnx hJs hbw hb hv hp hcell0
    have HS := Aside0.mk (todosUpto_succ ps k)
    rw [HP.out] at HS
    cases hen : endsP p with
    | false =>
      gi_wp2_with (refine ⟨h42, ?_⟩; gi_at_call 42; refine (ends_in ({ fn := fnn, depth := none, alive := false } : Fence) (n - 1) h42 rfl g p _ _ PB.out).mono ?_; rintro e w' ⟨rfl, rfl⟩; rw [hen])
      go_roundw
      case rel => exact ⟨k + 1, by omega, by go_num, by rw [HS.out, show tdOf k p = [] by unfold tdOf; rw [hen]; rfl, List.append_nil]; exact HJ.out, HN.out⟩
      case measure =>
        simp only [intOf]
        omega
    | true =>
      have HT := Aside0.mk (show tdOf k p = p.places.map (fun n => (⟨k, p.epoch, n, decide (p.status = 2)⟩ : TdV)) by unfold tdOf; rw [hen]; rfl)
      have p5 : wr.cell? ⟨g, 5, none⟩ = some (.slice Av p.places.length cv) := (blk_cell PB.out 5).trans rfl
      gi_wp2_with (refine ⟨h42, ?_⟩; gi_at_call 42; refine (ends_in ({ fn := fnn, depth := none, alive := false } : Fence) (n - 1) h42 rfl g p _ _ PB.out).mono ?_; rintro e w' ⟨rfl, rfl⟩; rw [hen])
      have hpn := HPN.out
      clear p5 hcell hen
      gi_loopw [25] (fun i wr => ∃ m : Nat, m ≤ p.places.length ∧ i = .int .i64 (m : Int) ∧ J (todosUpto ps k ++ (tdOf k p).take m) wr ∧ Below w0.heap.size w0 wr)
        (fun i _ => p.places.length - (intOf i).toNat)
      case atStart => exact ⟨0, Nat.zero_le _, rfl, by rw [List.take_zero, List.append_nil]; exact HJ.out, HN.out⟩
      case round =>
        obtain ⟨m, hm, rfl, hJs, hnx⟩ := hrel
        rcases Nat.lt_or_ge m p.places.length with hml | hml
        rotate_left
        · obtain rfl : m = p.places.length := by omega
          have hJe : J (todosUpto ps (k + 1)) wr := by
            rw [HS.out]
            rw [List.take_of_length_le (by rw [HT.out, List.length_map]; exact Nat.le_refl _)] at hJs
            exact hJs
          gi_wp2
          exact ⟨⟨k + 1, by omega, by go_num, hJe, hnx⟩, by simp only [intOf]; omega⟩
        obtain ⟨x, hx⟩ : ∃ x : TdV, x = ⟨k, p.epoch, p.places[m], decide (p.status = 2)⟩ := ⟨_, rfl⟩
        have htk : (tdOf k p).take (m + 1) = (tdOf k p).take m ++ [x] := by
          rw [HT.out, hx, List.take_add_one, List.getElem?_map, List.getElem?_eq_getElem hml]
          rfl
        have hpre : todosUpto ps k ++ (tdOf k p).take (m + 1) <+: todosF ps := by
          refine List.IsPrefix.trans ?_ (todosUpto_le ps (k + 1) ps.length (by omega))
          rw [HS.out]
          exact (List.prefix_append_right_inj _).2 (List.take_prefix _ _)
        have hpl : (todosUpto ps k ++ (tdOf k p).take m).length < (todosF ps).length := by
          have := hpre.length_le
          rw [htk, List.length_append, List.length_append, List.length_singleton] at this
          rw [List.length_append]
          omega
        have hdr := below_drew (Below.refl wr.heap.size wr)
        have hnx0 := hnx
        replace hnx := hnx.trans (Below.mono hdr (Nat.le_trans hnx0.size (Nat.le_refl _)))
        replace hJs := hJd _ _ hJs
        clear hnx0 hdr
        obtain ⟨fn, tmps, assign, body, hy, hR⟩ := hY _ x wr.drew hJs hpl
        have hb2 := HPB.out wr.drew hnx
        have p2 : wr.drew.cell? ⟨g, 2, none⟩ = some (.int .i64 p.epoch) := (blk_cell hb2 2).trans rfl
        have p3 : wr.drew.cell? ⟨g, 3, none⟩ = some (.int .i64 p.status) := (blk_cell hb2 3).trans rfl
        obtain ⟨av, hav, hpc⟩ := C_cells (Kd.R_reads' (HPV.out wr.drew hnx)).2.2 (by omega)
        subst hav
        have hpcm := hpc m hml
        have hgm : p.places.getD m 0 = p.places[m] := by rw [List.getD_eq_getElem?_getD, List.getElem?_eq_getElem hml]; rfl
        rw [hgm] at hpcm
        have HXX := Aside0.mk hx
        rw [hx] at hy
        simp only [tdV] at hy
        have hmc : (m : Int) < (p.places.length : Int) := by omega
        have HTK := Aside0.mk htk
        have HPRE := Aside0.mk hpre
        have HNX := Aside0.mk hnx
        have HJS := Aside0.mk hJs
        have hdec : (p.status == 2) = decide (p.status = 2) := rfl
        clear hb2 hpc hgm hx htk hpre hnx hJs hpl
        have hpcm2 : wr.cell? (av.add m) = some (.int .i64 p.places[m]) := hpcm
        gi_wp2
        refine wpIn_region_any (by kernel_rfl) ?_
        try (change wpAnyIn _ _ _ _ _ _ _ _ _ (World.drew _))
        refine wpAnyIn_take (i := 0) (v := ?_) rfl rfl (by kernel_rfl) (by kernel_rfl) (by kernel_rfl) (fun _ _ _ h => h) ⟨Or.inl ⟨by rfl, ?_⟩, fun _ => rfl⟩ ?_
        all_goals first | (intro w; go_simp; done) | (intro w; go_simp; with_reducible rfl) | skip
        refine wpAnyIn_take (i := 1) (v := ?_) rfl rfl (by kernel_rfl) (by kernel_rfl) (by kernel_rfl) (fun _ _ _ h => h) ⟨Or.inl ⟨by rfl, ?_⟩, fun _ => rfl⟩ ?_
        all_goals first | (intro w; go_simp; done) | (intro w; go_simp; with_reducible rfl) | skip
        refine wpAnyIn_take (i := 2) (v := ?_) rfl rfl (by kernel_rfl) (by kernel_rfl) (by kernel_rfl) (fun _ _ _ h => h) ⟨Or.inl ⟨by rfl, ?_⟩, fun _ => rfl⟩ ?_
        all_goals first | (intro w; go_simp; done) | (intro w; go_simp; with_reducible rfl) | skip
        refine wpAnyIn_take (i := 3) (v := ?_) rfl rfl (by kernel_rfl) (by kernel_rfl) (by kernel_rfl) (fun _ _ _ h => h) ⟨Or.inl ⟨by rfl, ?_⟩, fun _ => rfl⟩ ?_
        all_goals first | (intro w; go_simp; done) | (intro w; go_simp; with_reducible rfl) | skip
        refine wpAnyIn_take (i := 4) (v := ?_) rfl rfl (by kernel_rfl) (by kernel_rfl) (by kernel_rfl) (fun _ _ _ h => h) ⟨Or.inl ⟨by rfl, ?_⟩, fun _ => rfl⟩ ?_
        all_goals first | (intro w; go_simp; done) | (intro w; go_simp; with_reducible rfl) | skip
        refine wpAnyIn_take (i := 6) (v := ?_) rfl rfl (by kernel_rfl) (by kernel_rfl) (by kernel_rfl) (fun _ _ _ h => h) ⟨Or.inl ⟨by rfl, ?_⟩, fun _ => rfl⟩ ?_
        all_goals first | (intro w; go_simp; done) | (intro w; go_simp; with_reducible rfl) | skip
        refine wpAnyIn_take (i := 7) (v := ?_) rfl rfl (by kernel_rfl) (by kernel_rfl) (by kernel_rfl) (fun _ _ _ h => h) ⟨Or.inl ⟨by rfl, ?_⟩, fun _ => rfl⟩ ?_
        all_goals first | (intro w; go_simp; done) | (intro w; go_simp; with_reducible rfl) | skip
        refine wpAnyIn_take (i := 8) (v := ?_) rfl rfl (by kernel_rfl) (by kernel_rfl) (by kernel_rfl) (fun _ _ _ h => h) ⟨Or.inl ⟨by rfl, ?_⟩, fun _ => rfl⟩ ?_
        all_goals first | (intro w; go_simp; done) | (intro w; go_simp; with_reducible rfl) | skip
        refine wpAnyIn_take (i := 9) (v := ?_) rfl rfl (by kernel_rfl) (by kernel_rfl) (by kernel_rfl) (fun _ _ _ h => h) ⟨Or.inl ⟨by rfl, ?_⟩, fun _ => rfl⟩ ?_
        all_goals first | (intro w; go_simp; done) | (intro w; go_simp; with_reducible rfl) | skip
        refine wpAnyIn_ready (rs := [5, 10]) (by kernel_rfl) (by simp) ?_
        refine AllReadyIn.cons rfl (fun K hK => ?_) (AllReadyIn.cons rfl (fun K hK => ?_) AllReadyIn.nil)
        · go_simp
          refine hK _ _ ?_
          clear hK K
          refine wpAnyIn_ready (rs := [10]) (by kernel_rfl) (by simp) ?_
          refine AllReadyIn.cons rfl (fun K hK => ?_) AllReadyIn.nil
          go_simp
          refine hK _ _ ?_
          clear hK K
          refine wpAnyIn_take (i := 11) (v := ?_) rfl rfl (by kernel_rfl) (by kernel_rfl) (by kernel_rfl) (fun _ _ _ h => h) ⟨Or.inl ⟨by rfl, ?_⟩, fun _ => rfl⟩ ?_
          all_goals first | (intro w; go_simp; done) | (intro w; go_simp; with_reducible rfl) | skip
          refine wpAnyIn_take (i := 12) (v := ?_) rfl rfl (by kernel_rfl) (by kernel_rfl) (by kernel_rfl) (fun _ _ _ h => h) ⟨Or.inl ⟨by rfl, ?_⟩, fun _ => rfl⟩ ?_
          all_goals first | (intro w; go_simp; done) | (intro w; go_simp; with_reducible rfl) | skip
          refine wpAnyIn_ready (rs := [13]) (by kernel_rfl) (by simp) ?_
          refine AllReadyIn.cons rfl (fun K hK => ?_) AllReadyIn.nil
          go_simp
          gi_wp2
          refine hR.mono ?_
          rintro e W3 (⟨rfl, hJ3, hk3⟩ | ⟨rfl, hJx3⟩)
          · refine hK _ _ ?_
            clear hK K
            refine wpAnyIn_take (i := 14) (v := ?_) rfl rfl (by kernel_rfl) (by kernel_rfl) (by kernel_rfl) (fun _ _ _ h => h) ⟨Or.inl ⟨by rfl, ?_⟩, fun _ => rfl⟩ ?_
            all_goals first | (intro w; go_simp; done) | (intro w; go_simp; with_reducible rfl) | skip
            refine wpAnyIn_done (by kernel_rfl) ?_ _
            gi_wp2
            exact ⟨⟨m + 1, by omega, by go_num, by rw [HTK.out, ← List.append_assoc]; exact hJ3, HNX.out.trans hk3⟩, by simp only [intOf]; omega⟩
          · refine hK _ _ ?_
            clear hK K
            refine wpAnyIn_take (i := 14) (v := ?_) rfl rfl (by kernel_rfl) (by kernel_rfl) (by kernel_rfl) (fun _ _ _ h => h) ⟨Or.inl ⟨by rfl, ?_⟩, fun _ => rfl⟩ ?_
            all_goals first | (intro w; go_simp; done) | (intro w; go_simp; with_reducible rfl) | skip
            refine wpAnyIn_done (by kernel_rfl) ?_ _
            gi_wp2
            refine bodyPost_ret (results_none rfl _ _ _) rfl ⟨⟨_, rfl⟩, .inr ⟨_, HPRE.out, ?_⟩⟩
            rw [HTK.out, ← List.append_assoc]
            exact hJx3
        · go_simp
          refine hK _ _ ?_
          clear hK K
          refine wpAnyIn_take (i := 11) (v := ?_) rfl rfl (by kernel_rfl) (by kernel_rfl) (by kernel_rfl) (fun _ _ _ h => h) ⟨Or.inl ⟨by rfl, ?_⟩, fun _ => rfl⟩ ?_
          all_goals first | (intro w; go_simp; done) | (intro w; go_simp; with_reducible rfl) | skip
          refine wpAnyIn_ready (rs := [5]) (by kernel_rfl) (by simp) ?_
          refine AllReadyIn.cons rfl (fun K hK => ?_) AllReadyIn.nil
          go_simp
          refine hK _ _ ?_
          clear hK K
          refine wpAnyIn_take (i := 12) (v := ?_) rfl rfl (by kernel_rfl) (by kernel_rfl) (by kernel_rfl) (fun _ _ _ h => h) ⟨Or.inl ⟨by rfl, ?_⟩, fun _ => rfl⟩ ?_
          all_goals first | (intro w; go_simp; done) | (intro w; go_simp; with_reducible rfl) | skip
          refine wpAnyIn_ready (rs := [13]) (by kernel_rfl) (by simp) ?_
          refine AllReadyIn.cons rfl (fun K hK => ?_) AllReadyIn.nil
          go_simp
          gi_wp2
          refine hR.mono ?_
          rintro e W3 (⟨rfl, hJ3, hk3⟩ | ⟨rfl, hJx3⟩)
          · refine hK _ _ ?_
            clear hK K
            refine wpAnyIn_take (i := 14) (v := ?_) rfl rfl (by kernel_rfl) (by kernel_rfl) (by kernel_rfl) (fun _ _ _ h => h) ⟨Or.inl ⟨by rfl, ?_⟩, fun _ => rfl⟩ ?_
            all_goals first | (intro w; go_simp; done) | (intro w; go_simp; with_reducible rfl) | skip
            refine wpAnyIn_done (by kernel_rfl) ?_ _
            gi_wp2
            exact ⟨⟨m + 1, by omega, by go_num, by rw [HTK.out, ← List.append_assoc]; exact hJ3, HNX.out.trans hk3⟩, by simp only [intOf]; omega⟩
          · refine hK _ _ ?_
            clear hK K
            refine wpAnyIn_take (i := 14) (v := ?_) rfl rfl (by kernel_rfl) (by kernel_rfl) (by kernel_rfl) (fun _ _ _ h => h) ⟨Or.inl ⟨by rfl, ?_⟩, fun _ => rfl⟩ ?_
            all_goals first | (intro w; go_simp; done) | (intro w; go_simp; with_reducible rfl) | skip
            refine wpAnyIn_done (by kernel_rfl) ?_ _
            gi_wp2
            refine bodyPost_ret (results_none rfl _ _ _) rfl ⟨⟨_, rfl⟩, .inr ⟨_, HPRE.out, ?_⟩⟩
            rw [HTK.out, ← List.append_assoc]
            exact hJx3
end Go.Proofs.Ytofegigbhohebaa.Hand
