/- Copies: Clone of numbers; Grow of nothing. -/
import Derived.Test.YtpcoelimabojcaaHC6
import Derived.Lib.AppendZerosOnto
import Derived.Lib.Walk
namespace Go.Proofs.Ytpcoelimabojcaa.Hand
open Go.RowKit Go.Proofs.Ytpcoelimabojcaa Go.Proofs.YtpcoelimabojcaaW.PrintWords Go.Proofs.YtpcoelimabojcaaW.PrintLast
set_option linter.unusedVariables false
set_option linter.unusedSimpArgs false
theorem eq_nil0 (n c : Nat) (w : World) : (binOp .eql 36 (.slice none n c) (.slice none 0 0)).run Try.prog w = .ok (.bool true) w := by kernel_rfl
theorem eq_nil1 (ad : Addr) (n c : Nat) (w : World) : (binOp .eql 36 (.slice (some ad) n c) (.slice none 0 0)).run Try.prog w = .ok (.bool false) w := by kernel_rfl
set_option maxHeartbeats 1600000 in
set_option maxRecDepth 100000 in
theorem clone_c (A : Option Addr) (c : Nat) (l : List Int) (W : World) (hr : Kd.C (Kd.int .i64) W A l.length l) (hl : l.length * 8 ≤ 140737488355328) :
    Calls Try.prog 53 #[.slice A l.length c] W fun e W' => ∃ v, e = .returned v ∧ Kd.R (Kd.int .i64) 3 W' W.heap.size (fun _ => True) v l ∧ Below W.heap.size W W' := by
  have HR := Aside0.mk hr
  rcases A with _ | ad
  · have h0 : l = [] := by
      rcases Nat.eq_zero_or_pos l.length with h0 | h0
      · exact List.eq_nil_of_length_eq_zero h0
      · obtain ⟨ad, h, _⟩ := hr.2.2 h0
        cases h
    subst h0
    clear hr
    have q0 := eq_nil0
    go_enter Try.func53, Try.ntmps53
    go_wp2_with fail
    go_ret
    exact ⟨_, rfl, Kd.R_nil _ _ _ _ _, Below.refl _ _⟩
  · clear hr
    have q0 := eq_nil1
    go_enter Try.func53, Try.ntmps53
    go_wp2_with (first | ((with_reducible refine gate_dst (N := 5) rfl ?_); refine Kd.R_lit (Kd.int .i64) (w0 := W) W.heap.size 3 ?hg (N := 5) ?hd (xs := ([] : List Int)) (inner := []) (ok := fun _ => True) (okp := fun _ => True) ?hr ?hp (fun _ hk => hk) trivial (Below.refl _ _) (Nat.le_refl _) (by simp) ?_; (case hg => rfl); (case hd => rfl); (case hr => first | (go_simp; done) | (go_simp; rfl)); (case hp => exact Reps.none _ _); intro vl_ wl_ HOl_ hbl_ hgl_ hatl_; have HCl_ := Kd.C_below HR.out hbl_; clear hgl_ hatl_) | (refine Kd.R_append_row (Value.int .i64) 0 W.heap.size rfl (.tmp 5) (.tmp 6) 36 3 (.int .i64 0) 8 rfl Try.underlying36 infoI rfl (by omega) vl_ [] l (some ad) _ c (fun _ => True) rfl rfl (fun _ _ => trivial) HOl_ HCl_ hbl_ (below_size hbl_) (by simp; omega) ?_; intro v1_ W1_ ho_ hb_ hg_ hat_; clear HOl_ HCl_ hbl_ hg_ hat_))
    go_ret
    exact ⟨_, rfl, ho_, hb_⟩
/-- A part as it lies in memory, its nodes' slice raw. -/
abbrev SlV := Option Addr × Nat × Nat
def encSl (x : SlV) : Value := .slice x.1 x.2.1 x.2.2
theorem encSl_one (x : SlV) : (encSl x).oneCell' = true := rfl
abbrev RawP := Int × Int × SlV
def kRaw : Kd RawP := Kd.pair (Kd.int .i64) (Kd.pair (Kd.int .i64) (Kd.scalar encSl encSl_one))
set_option maxHeartbeats 1600000 in
set_option maxRecDepth 100000 in
theorem grow_nil (n : Nat) (h0 : 0 < n) (hn : n * 40 ≤ 140737488355328) (W : World) :
    Calls Try.prog 59 #[.slice none 0 0, .int .i64 n] W fun e W' => ∃ cap, e = .returned (.slice (some ⟨W.heap.size, 0, none⟩) 0 cap) ∧ Kd.R kRaw 53 W' 0 (fun k => W.heap.size ≤ k) (.slice (some ⟨W.heap.size, 0, none⟩) 0 cap) [] ∧ Below W.heap.size W W' := by
  obtain ⟨i0, hi, hz, hsz, hby⟩ := info_parts infoP
  have hold : (Builtin.firstCells i0.size 0 (.slice none 0 0)).run Try.prog W.drew = .ok (([] : List Value).toArray) W.drew := run_firstCells_none W.drew i0.size 0 0 0
  have hrz := fun ty => Lib.run_append_grow_zeros (P := Try.prog) W 25 3 ty 53 i0 (.agg #[.int .i64 0, .int .i64 0, .slice none 0 0]) .i64 .i64 Try.underlying25 Try.underlying3 hi hz none 0 0 [] hold n h0 (by omega) (by omega) (by omega) (by rw [hby]; omega) (growslice_fits (by omega) (by rw [hby]; omega))
  rw [Nat.zero_add] at hrz
  have hGn : n ≤ grownCap W n 0 53 := grownCap_ge W _ _ _
  have hGm : grownCap W n 0 53 ≤ maxLen := grownCap_le_maxLen W n 0 53 (by unfold maxLen; omega)
  obtain ⟨G, hG⟩ : ∃ G, G = grownCap W n 0 53 := ⟨_, rfl⟩
  rw [← hG] at hrz hGn hGm
  have hG63 : G ≤ 9223372036854775807 := by unfold maxLen at hGm; omega
  have h2 : wrap64 (n : Int) = (n : Int) := by unfold wrap64; omega
  have h4 : (n : Int) > 0 := by omega
  obtain ⟨o, ho⟩ : ∃ o, o = (Obj.cells (([] : List Value).toArray ++ Builtin.zeroCells (Value.agg #[.int .i64 0, .int .i64 0, .slice none 0 0]).cells n ++ Builtin.zeroCells (Value.agg #[.int .i64 0, .int .i64 0, .slice none 0 0]).cells (G - n)) 53 (0, 0)) := ⟨_, rfl⟩
  rw [← ho] at hrz
  have HO := Aside0.mk ho
  have HG := Aside0.mk hGm
  clear hold ho hG hGm hi hz hsz hby
  go_enter Try.func59, Try.ntmps59
  go_wp2_with (at_builtin; refine Lib.wpList_append_run _ rfl _ _ _ _ rfl _ _ rfl rfl _ _ (hrz _) ?_)
  go_ret
  refine ⟨G, rfl, ⟨fun k hk => by have : W.heap.size = k := by (simpa [Value.ownBlock] using hk)
                                  omega, [], ⟨rfl, .inr ⟨W.heap.size, G, _, rfl, Nat.zero_le _, blk_drew (by have h := heap_alloc_new W o; rwa [HO.out] at h ⊢), Nat.zero_le _, HG.out, ?_, by simp⟩⟩, Reps.none _ _⟩, below_drew1 (below_alloc (Below.refl _ _) _)⟩
  simp only [Array.size_append, List.size_toArray, List.length_nil, size_zeroCells]
  show 0 + n * 3 + (G - n) * 3 = G * 3
  omega
theorem grow_0 (W : World) : Calls Try.prog 59 #[.slice none 0 0, .int .i64 0] W fun e W' => e = .returned (.slice none 0 0) ∧ W = W' := by
  go_enter Try.func59, Try.ntmps59
  go_wp2_with fail
  go_ret
  exact ⟨rfl, rfl⟩
theorem grow_c (n : Nat) (hn : n * 40 ≤ 140737488355328) (W : World) :
    Calls Try.prog 59 #[.slice none 0 0, .int .i64 n] W fun e W' => ∃ v, e = .returned v ∧ Kd.R kRaw 53 W' 0 (fun k => W.heap.size ≤ k) v [] ∧ Below W.heap.size W W' := by
  rcases Nat.eq_zero_or_pos n with h0 | h0
  · subst h0
    refine (grow_0 W).mono ?_
    rintro e W' ⟨rfl, rfl⟩
    exact ⟨_, rfl, Kd.R_nil _ _ _ _ _, Below.refl _ _⟩
  · refine (grow_nil n h0 hn W).mono ?_
    rintro e W' ⟨cap, rfl, h1, h2⟩
    exact ⟨_, rfl, h1, h2⟩
set_option maxHeartbeats 6400000 in
set_option maxRecDepth 100000 in
theorem concat_c (ad A B : Option Addr) (a0 : Addr) (n m c c2 c3 : Nat) (ras rbs : List RawP) (W : World) (x0 : W.cell? a0 = some (.slice A n c)) (x1 : W.cell? ⟨a0.block, a0.off + 1, none⟩ = some (.slice B m c2)) (ha : Kd.C kRaw W A n ras) (hb : Kd.C kRaw W B m rbs) (hl : (n + m) * 40 ≤ 140737488355328) :
    Calls Try.prog 52 #[.slice (some a0) 2 c3] W fun e W' => ∃ v, e = .returned v ∧ Kd.R kRaw 53 W' 0 (fun k => W.heap.size ≤ k) v (ras ++ rbs) ∧ Below W.heap.size W W' := by
  have HA := Aside0.mk ha
  have HB := Aside0.mk hb
  have X0 := Aside0.mk x0
  have X1 := Aside0.mk x1
  have hla : ras.length = n := ha.1
  have hlb : rbs.length = m := hb.1
  have HLA := Aside0.mk hla
  have HLB := Aside0.mk hlb
  clear ha hb hla hlb
  go_enter Try.func52, Try.ntmps52
  go_wp2_with fail
  go_loopw [3, 11] (fun u3 u11 wr => (W = wr) ∧ ((u11 = .int .i64 (0 : Nat) ∧ u3 = .int .i64 (0 : Nat)) ∨ (u11 = .int .i64 (1 : Nat) ∧ u3 = .int .i64 (n : Nat)) ∨ (u11 = .int .i64 (2 : Nat) ∧ u3 = .int .i64 ((n + m : Nat) : Int)))) (fun u3 u11 wr => 2 - (intOf u11).toNat)
  case atStart => exact ⟨rfl, .inl ⟨rfl, rfl⟩⟩
  case round =>
    obtain ⟨rfl, ⟨rfl, rfl⟩ | ⟨rfl, rfl⟩ | ⟨rfl, rfl⟩⟩ := hrel
    · go_wp2_with fail
      go_roundw
      case rel => exact ⟨by first | trivial | rfl, .inr (.inl ⟨rfl, by go_num⟩)⟩
      case measure => simp [intOf]
    · have hw : wrap64 ((n : Int) + (m : Int)) = ((n + m : Nat) : Int) := by unfold wrap64; omega
      have hs : decide (((n + m : Nat) : Int) < 0) = false := by rw [decide_eq_false_iff_not]; omega
      go_wp2_with fail
      go_roundw
      case rel => exact ⟨by first | trivial | rfl, .inr (.inr ⟨rfl, by go_num⟩)⟩
      case measure => simp [intOf]
    · go_wp2_with fail
      refine (grow_c (n + m) hl W).mono ?_
      rintro e w2 ⟨v0, rfl, hr0, hb0⟩
      have HR0 := Aside0.mk hr0
      have HB0 := Aside0.mk hb0
      clear hr0 hb0
      go_wp2_with fail
      clear x0 x1
      go_loopw [6, 27] (fun u6 u27 wr => Aside0 (Below W.heap.size W wr) ∧ ((u27 = .int .i64 (0 : Nat) ∧ Aside0 (Kd.R kRaw 53 wr 0 (fun k => W.heap.size ≤ k) u6 [])) ∨ (u27 = .int .i64 (1 : Nat) ∧ Aside0 (Kd.R kRaw 53 wr 0 (fun k => W.heap.size ≤ k) u6 ras)) ∨ (u27 = .int .i64 (2 : Nat) ∧ Aside0 (Kd.R kRaw 53 wr 0 (fun k => W.heap.size ≤ k) u6 (ras ++ rbs))))) (fun u6 u27 wr => 2 - (intOf u27).toNat)
      case atStart => exact ⟨HB0, .inl ⟨rfl, HR0⟩⟩
      case round =>
        obtain ⟨HBW, ⟨rfl, HR⟩ | ⟨rfl, HR⟩ | ⟨rfl, HR⟩⟩ := hrel
        · obtain ⟨Av, cv, rfl⟩ := Kd.R_slice HR.out
          have y : wr.cell? a0 = some (.slice A n c) := (HBW.out.cell (World.block_lt_of_cell? W _ X0.out)).trans X0.out
          have HRD := Aside0.mk (Kd.C_below HA.out HBW.out)
          clear HR0 HB0
          go_wp2_with (first | (refine Kd.R_append_rows kRaw (Rr := kRaw.K W) (w0 := wr) 0 rfl (.tmp 31) (.tmp 32) 25 53 (.agg #[.int .i64 0, .int .i64 0, .slice none 0 0]) 40 rfl Try.underlying25 infoP rfl (by decide) (by decide) (.slice Av ([] : List RawP).length cv) [] ras A n c (fun k => W.heap.size ≤ k) (fun _ => False) ?e1 ?e2 HR.out ?e4 (fun _ _ h => h) (fun _ h => h.elim) (fun k hk => Nat.le_trans HBW.out.size hk) (Below.refl _ _) (Nat.zero_le _) ?e3 ?_; (case e1 => rfl); (case e2 => rfl); (case e4 => exact HRD.out); (case e3 => (show (0 + n) * 40 ≤ _; omega)); intro v1_ W1_ ho1_ _ hg1_ hat1_))
          have HRN := Aside0.mk ho1_
          have HBN := Aside0.mk (show Below W.heap.size W W1_ from HBW.out.trans ⟨hg1_.os, hg1_.tape, hg1_.output, hg1_.size, fun k hk => hg1_.block k (Nat.lt_of_lt_of_le hk HBW.out.size) (fun e => by have := HR.out.1 k e.symm; omega)⟩)
          clear ho1_ hg1_ hat1_ y
          go_wp2_with fail
          go_roundw
          case rel => exact ⟨HBN, .inr (.inl ⟨by go_num, ⟨by have h := HRN.out; simpa using h⟩⟩)⟩
          case measure => simp [intOf]
        · obtain ⟨Av, cv, rfl⟩ := Kd.R_slice HR.out
          have y : wr.cell? ⟨a0.block, a0.off + 1, none⟩ = some (.slice B m c2) := (HBW.out.cell (World.block_lt_of_cell? W _ X1.out)).trans X1.out
          have HRD := Aside0.mk (Kd.C_below HB.out HBW.out)
          clear HR0 HB0
          go_wp2_with (first | (refine Kd.R_append_rows kRaw (Rr := kRaw.K W) (w0 := wr) 0 rfl (.tmp 31) (.tmp 32) 25 53 (.agg #[.int .i64 0, .int .i64 0, .slice none 0 0]) 40 rfl Try.underlying25 infoP rfl (by decide) (by decide) (.slice Av (ras : List RawP).length cv) ras rbs B m c2 (fun k => W.heap.size ≤ k) (fun _ => False) ?e1 ?e2 HR.out ?e4 (fun _ _ h => h) (fun _ h => h.elim) (fun k hk => Nat.le_trans HBW.out.size hk) (Below.refl _ _) (Nat.zero_le _) ?e3 ?_; (case e1 => rfl); (case e2 => rfl); (case e4 => exact HRD.out); (case e3 => (rw [HLA.out]; exact hl)); intro v1_ W1_ ho1_ _ hg1_ hat1_))
          have HRN := Aside0.mk ho1_
          have HBN := Aside0.mk (show Below W.heap.size W W1_ from HBW.out.trans ⟨hg1_.os, hg1_.tape, hg1_.output, hg1_.size, fun k hk => hg1_.block k (Nat.lt_of_lt_of_le hk HBW.out.size) (fun e => by have := HR.out.1 k e.symm; omega)⟩)
          clear ho1_ hg1_ hat1_ y
          go_wp2_with fail
          go_roundw
          case rel => exact ⟨HBN, .inr (.inr ⟨by go_num, HRN⟩)⟩
          case measure => simp [intOf]
        · clear HR0 HB0 HA HB X0 X1
          go_wp2_with fail
          go_ret
          exact ⟨_, rfl, HR.out, HBW.out⟩
end Go.Proofs.Ytpcoelimabojcaa.Hand
