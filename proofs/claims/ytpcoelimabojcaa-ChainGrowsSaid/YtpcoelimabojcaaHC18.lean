/- ChainGrows' walk. -/
import Derived.Test.YtpcoelimabojcaaHC17
namespace Go.Proofs.Ytpcoelimabojcaa.Hand
open Go.RowKit Go.Proofs.Ytpcoelimabojcaa Go.Proofs.YtpcoelimabojcaaW.PrintWords Go.Proofs.YtpcoelimabojcaaW.PrintLast
set_option linter.unusedVariables false
set_option linter.unusedSimpArgs false
/-- The owner of the chain behind k rounds. -/
def ownerF : Nat → Int
  | 0 => 0
  | k + 1 => (k % 16 : Nat)
theorem ownerF_in (k : Nat) : 0 ≤ ownerF k ∧ ownerF k < 16 := by
  cases k with
  | zero => exact ⟨Int.le_refl 0, by decide⟩
  | succ k => simp only [ownerF]; omega
theorem grown_len (l : List Int) (k : Nat) : (grown (endsF l) k).length ≤ k := by
  cases k with
  | zero => simp [grown]
  | succ k => rw [grown, List.length_map]; exact (keptN_ok (F := endsF l) rfl (fun i => (endsF_step l i).1) k).2.2.2.2
theorem grow_parts (l : List Int) (k : Nat) : extParts 0 (grown (endsF l) k) (endsF l k) ⟨endsF l k, (k : Int), [0, 1, 2]⟩ = grown (endsF l) (k + 1) := ext_grown (F := endsF l) rfl (fun i => (endsF_step l i).1) (fun i => (endsF_in l i).1) k
theorem grow_err (l : List Int) (k : Nat) (hk : k < 60) : extErr (ownerF k) 0 (grown (endsF l) k) 3 ((k % 16 : Nat) : Int) (endsF l k) ⟨endsF l k, (k : Int), [0, 1, 2]⟩ = 0 := by
  have hlen := grown_len l k
  have r1 := grown_right (F := endsF l) rfl (endsF_step l) (endsF_in l) (ownerF k) (ownerF_in k) k (by omega)
  have r2 := grown_right (F := endsF l) rfl (endsF_step l) (endsF_in l) ((k % 16 : Nat) : Int) (by omega) (k + 1) (by omega)
  have hmid : (if (grown (endsF l) k).length = 0 then endsF l k = 0 else max (lastF (grown (endsF l) k)) 0 ≤ endsF l k ∧ endsF l k ≤ lastF (grown (endsF l) k) + 4096) := by
   cases k with
   | zero => simp [grown, endsF]
   | succ k =>
      have hP := keptN_ok (F := endsF l) rfl (fun i => (endsF_step l i).1) k
      have e1 : (grown (endsF l) (k + 1)).length = (keptN (endsF l) k).length := List.length_map _
      have e2 : lastF (grown (endsF l) (k + 1)) = endsF l k := by rw [grown, lastF_map _ hP.2.2.2.1, hP.2.2.1]
      have s1 := endsF_step l k
      have s2 := endsF_in l (k + 1)
      rw [if_neg (by have := hP.2.2.2.1; omega), e2]
      omega
  rw [extErr, if_neg (by rw [r1]; simp), if_neg (fun h => h (.inl (by omega))), grow_parts, if_neg (fun h => h hmid), if_neg (by rw [r2]; simp)]
theorem grown_nodes (l : List Int) (k : Nat) : ∀ p ∈ grown (endsF l) k, p.nodes = [0, 1, 2] := by
  cases k with
  | zero => intro p hp; simp [grown] at hp
  | succ k => intro p hp; simp only [grown, List.mem_map] at hp; obtain ⟨j, _, rfl⟩ := hp; rfl
theorem int_cell {w : World} {A : Option Addr} {l : List Int} (h : Kd.C (Kd.int .i64) w A l.length l) (k : Nat) (hk : k < l.length) : ∃ ad, A = some ad ∧ ∀ W1, Below w.heap.size w W1 → W1.cell? (ad.add k) = some (.int .i64 (l.getD k 0)) := by
  obtain ⟨ad, cs, hA, -, hK, hcell⟩ := ReadsRow.get_ h 0 (k : Int) (by omega) (by omega)
  rw [Int.toNat_natCast] at hK hcell
  have hK' : cs = [.int .i64 (l.getD k 0)] := hK
  subst hK'
  have g := hcell 0 _ rfl
  rw [show k * (Kd.int IntKind.i64).sz + 0 = k from Nat.mul_one k] at g
  exact ⟨ad, hA, fun W1 hb => (hb.cell (World.block_lt_of_cell? w _ g)).trans g⟩
theorem stepL_walk (x : Int) : -4097 < x.tmod 4097 ∧ x.tmod 4097 < 4097 ∧ 0 ≤ (x.tmod 4097 + 4097).tmod 4097 ∧ (x.tmod 4097 + 4097).tmod 4097 < 4097 := by
  have h1 := Int.tmod_lt_of_pos x (show (0 : Int) < 4097 by decide)
  have h3 : -4097 < x.tmod 4097 := by
    have := Int.lt_tmod_of_pos x (show (0 : Int) < 4097 by decide)
    omega
  have := stepL_in x
  unfold stepL at this
  omega
theorem grown_ok (l : List Int) (k : Nat) (hk : k ≤ 60) : rightF (ownerF k) 0 (grown (endsF l) k) 3 = true := grown_right (F := endsF l) rfl (endsF_step l) (endsF_in l) (ownerF k) (ownerF_in k) k hk
theorem grown_at (l : List Int) (k j : Nat) (hk : k ≤ 60) (hj : j < k) (addr : Int) (h1 : endsF l j ≤ addr) (h2 : addr < endsF l (j + 1)) : whereF 0 (grown (endsF l) k) addr = ((j : Int), addr - endsF l j, true) := grown_where (F := endsF l) rfl (endsF_step l) (endsF_in l) k j hk hj addr h1 h2
theorem R_own_lt {α : Type} {d : Kd α} {e base : Nat} {ok : Nat → Prop} {w : World} {v : Value} {xs : List α} (h : d.R e w base ok v xs) {q : Nat} (hq : w.heap.size ≤ q) : some q ≠ v.ownBlock := fun he => by have := Kd.R_lt h q he.symm; omega
/-- What ChainGrows holds between two rounds: the chain, two lists of its own. -/
structure GrowI (B0 : Nat) (l : List Int) (k : Nat) (v5 v6 : Value) (W0 w : World) : Prop where
  below : Below B0 W0 w
  chain : ∃ A c, w.heap[B0]? = some (.cells #[.int .i64 (ownerF k), .int .i64 0, .slice A (grown (endsF l) k).length c] 27 (0, 0)) ∧ Kd.R k53 53 w 0 (fun q => (B0 < q ∧ some q ≠ v5.ownBlock) ∧ some q ≠ v6.ownBlock) (.slice A (grown (endsF l) k).length c) (grown (endsF l) k)
  firsts : Kd.R (Kd.int .i64) 3 w 0 (fun q => B0 < q ∧ some q ≠ v6.ownBlock) v5 ((List.range k).map (endsF l))
  ids : Kd.R (Kd.int .i64) 3 w 0 (fun q => B0 < q) v6 ((List.range k).map fun i : Nat => (i : Int))
def TG22 : Bool × List (List Nat × List Nat) := (true, [([], []), ([], []), ([], []), ([1, 2], [1, 2]), ([3], [3]), ([0, 4], [0, 4]), ([5], [5]), ([6], [6]), ([6], [6]), ([6], [6]), ([7, 5, 0, 1, 2, 3, 4, 5, 6, 7], [7]), ([8, 10, 0, 1, 2, 3, 4, 5, 6, 7, 8, 10], [8]), ([9, 11, 0, 1, 2, 3, 4, 5, 6, 7, 8, 9, 10, 11], [9])])
def BG22 : List Nat := [0, 0, 0, 6, 14, 31, 63, 127, 127, 127, 255, 1535, 4095]
theorem tabG22 : rtab .any (opsOf Try.f4 22) = TG22 := by kernel_rfl
theorem bitsG22 : waitsOk TG22.2 BG22 = true := by kernel_rfl
theorem GrowI.move {B0 : Nat} {l : List Int} {k : Nat} {v5 v6 : Value} {W0 w w1 : World} (h : GrowI B0 l k v5 v6 W0 w) (hb : Below w.heap.size w w1) : GrowI B0 l k v5 v6 W0 w1 := by
  obtain ⟨h1, ⟨A, c, h2, h3⟩, h4, h5⟩ := h
  exact ⟨h1.trans (hb.mono (Nat.le_of_lt (blk_lt h2))), ⟨A, c, blk_below h2 hb, Kd.R_below h3 hb⟩, Kd.R_below h4 hb, Kd.R_below h5 hb⟩
set_option maxHeartbeats 6400000 in
set_option maxRecDepth 100000 in
theorem lawGrows (A : Option Addr) (c : Nat) (l : List Int) (W : World) (hr : Kd.C (Kd.int .i64) W A l.length l) (hc : l.length ≤ c) (hwf : ∀ x ∈ l, (Lit.int .i64 x).wf = true) :
    Calls Try.prog 4 #[.slice A l.length c] W fun e W' => e = .returned (.bool true) ∧ Below W.heap.size W W' := by
  have hmax := Kd.C_max hr
  have HR := Aside0.mk hr
  have HWF := Aside0.mk hwf
  clear hr hwf
  go_enter Try.func4, Try.ntmps4
  go_wp2_with fail
  have HI0 : GrowI W.heap.size l 0 (.slice none 0 0) (.slice none 0 0) W (W.alloc (.cells #[.int .i64 0, .int .i64 0, .slice none 0 0] 27 (0, 0))) :=
    ⟨below_alloc (Below.refl _ _) _, ⟨none, 0, heap_alloc_new _ _, Kd.R_nil _ _ _ _ _⟩, Kd.R_nil _ _ _ _ _, Kd.R_nil _ _ _ _ _⟩
  go_loopw [4, 5, 6, 7, 8, 9] (fun u4 u5 u6 u7 u8 u9 wr => ∃ k : Nat, k ≤ l.length ∧ k ≤ 60 ∧ u4 = .int .i64 (endsF l k) ∧ u7 = .int .i64 k ∧ GrowI W.heap.size l k u5 u6 W wr) (fun u4 u5 u6 u7 u8 u9 wr => 60 - (intOf u7).toNat)
  case atStart => exact ⟨0, Nat.zero_le _, Nat.zero_le _, rfl, rfl, HI0⟩
  case round =>
    obtain ⟨k, hk, hk2, rfl, rfl, HI⟩ := hrel
    clear HI0
    have HII := Aside0.mk HI
    by_cases hlt : k < l.length ∧ k < 60
    · obtain ⟨h1, h2⟩ := hlt
      obtain ⟨A1, c1, hb, hR⟩ := HI.chain
      have x0 : wr.cell? ⟨W.heap.size, 0, none⟩ = some (.int .i64 (ownerF k)) := (blk_cell hb 0).trans rfl
      have x1 : wr.cell? ⟨W.heap.size, 1, none⟩ = some (.int .i64 0) := (blk_cell hb 1).trans rfl
      have x2 : wr.cell? ⟨W.heap.size, 2, none⟩ = some (.slice A1 (grown (endsF l) k).length c1) := (blk_cell hb 2).trans rfl
      have HB := Aside0.mk hb
      have HRC := Aside0.mk hR
      have HBE := Aside0.mk HI.below
      have H5 := Aside0.mk HI.firsts
      have H6 := Aside0.mk HI.ids
      have HE := Aside0.mk (grow_err l k h2)
      have HPS := Aside0.mk (grow_parts l k)
      have HL := Aside0.mk (grown_len l k)
      clear HI hb hR
      go_wp2_with fail
      have h3 : Kd.C (Kd.int .i64) (wr.alloc (.cells #[.int .i64 0, .int .i64 1, .int .i64 2] 3 (0, 0))) (some ⟨wr.heap.size, 0, none⟩) 3 [0, 1, 2] := C_ints (xs := [0, 1, 2]) (heap_alloc_new wr _) rfl (by decide)
      have hcc := (Kd.R_reads' HRC.out).2.1
      have hmod : (k : Int) % 16 = ((k % 16 : Nat) : Int) := by omega
      rw [hmod]
      refine (extend_c (ownerF k) 0 3 ((k % 16 : Nat) : Int) (endsF l k) k A1 (some ⟨wr.heap.size, 0, none⟩) c1 3 (grown (endsF l) k) [0, 1, 2] _ (Kd.C_alloc (Kd.R_reads' HRC.out).2.2 _) h3 hcc (Nat.le_refl _) (by have := HL.out; omega) (fun p hp => by rw [grown_nodes l k p hp]; decide) (by decide)).mono ?_
      rintro e w2 ⟨hb2, ⟨hx, rfl⟩ | ⟨hx, A2, c2, rfl, hR2⟩⟩
      · exact absurd HE.out hx
      rw [HPS.out] at hR2 ⊢
      obtain ⟨ow', how⟩ : ∃ ow' : Int, ((k % 16 : Nat) : Int) = ow' := ⟨_, rfl⟩
      simp only [how] at hx ⊢
      have HOW := Aside0.mk (show ownerF (k + 1) = ow' from how)
      obtain ⟨o8, ho8⟩ : ∃ o8 : Obj, o8 = .cells #[.int .i64 ow', .int .i64 0, .slice A2 (grown (endsF l) (k + 1)).length c2] 27 (0, 0) := ⟨_, rfl⟩
      have bel := below_alloc (below_step (below_alloc (Below.refl wr.heap.size wr) _) hb2) o8
      have hb0 := blk_below HB.out bel
      have HB2 := Aside0.mk hb0
      have HX2 := Aside0.mk (heap_alloc_new w2 o8)
      have H52 := Aside0.mk (Kd.R_below H5.out bel)
      have H62 := Aside0.mk (Kd.R_below H6.out bel)
      have HBE2 := Aside0.mk (below_step HBE.out bel)
      have HRC2 := Aside0.mk (Kd.R_alloc hR2 o8)
      have HL5 := Aside0.mk (fun q (hq : wr.heap.size ≤ q) => R_own_lt H5.out hq)
      have HL6 := Aside0.mk (fun q (hq : wr.heap.size ≤ q) => R_own_lt H6.out hq)
      have HL0 := Aside0.mk HBE.out.size
      have HSZ := Aside0.mk (show (wr.alloc (.cells #[.int .i64 0, .int .i64 1, .int .i64 2] 3 (0, 0))).heap.size = wr.heap.size + 1 from Array.size_push _)
      have y0 : (w2.alloc o8).cell? ⟨W.heap.size, 0, none⟩ = some (.int .i64 (ownerF k)) := (blk_cell hb0 0).trans rfl
      have y1 : (w2.alloc o8).cell? ⟨W.heap.size, 1, none⟩ = some (.int .i64 0) := (blk_cell hb0 1).trans rfl
      have y2 : (w2.alloc o8).cell? ⟨W.heap.size, 2, none⟩ = some (.slice A1 (grown (endsF l) k).length c1) := (blk_cell hb0 2).trans rfl
      have fz0 := blk_frozen hb0 0
      have fz1 := blk_frozen hb0 1
      have fz2 := blk_frozen hb0 2
      subst ho8
      clear how bel hb0 hR2 hx hb2 x0 x1 x2 HB H5 H6 HBE HRC h3 hcc hmod HE HPS HL
      go_upto_region 12 with ((with_reducible refine (num_c _ _).mono ?_); rintro e w3 ⟨rfl, rfl⟩)
      have hbm := put3 (x := .int .i64 ow') (y := .int .i64 0) (z := .slice A2 (grown (endsF l) (k + 1)).length c2) HB2.out
      have h5m := Kd.R_far (Kd.R_far (Kd.R_far H52.out (p := ⟨W.heap.size, 0, none⟩) (fun q hq => by show q ≠ W.heap.size; omega) (.int .i64 ow')) (p := ⟨W.heap.size, 1, none⟩) (fun q hq => by show q ≠ W.heap.size; omega) (.int .i64 0)) (p := ⟨W.heap.size, 2, none⟩) (fun q hq => by show q ≠ W.heap.size; omega) (.slice A2 (grown (endsF l) (k + 1)).length c2)
      have h6m := Kd.R_far (Kd.R_far (Kd.R_far H62.out (p := ⟨W.heap.size, 0, none⟩) (fun q hq => by show q ≠ W.heap.size; omega) (.int .i64 ow')) (p := ⟨W.heap.size, 1, none⟩) (fun q hq => by show q ≠ W.heap.size; omega) (.int .i64 0)) (p := ⟨W.heap.size, 2, none⟩) (fun q hq => by show q ≠ W.heap.size; omega) (.slice A2 (grown (endsF l) (k + 1)).length c2)
      have hcm := put3_R (x := .int .i64 ow') (y := .int .i64 0) (z := .slice A2 (grown (endsF l) (k + 1)).length c2) HRC2.out HB2.out (by decide)
      have hcm2 := Kd.R_mono (ok' := fun q => (W.heap.size < q ∧ some q ≠ u5.ownBlock) ∧ some q ≠ u6.ownBlock) hcm (fun q hq => by
        have h1 := HSZ.out
        have h2 := HL0.out
        exact ⟨⟨by omega, HL5.out q (by omega)⟩, HL6.out q (by omega)⟩)
      have hbe := put3_B (x := .int .i64 ow') (y := .int .i64 0) (z := .slice A2 (grown (endsF l) (k + 1)).length c2) HBE2.out (Nat.le_refl _)
      clear HSZ HL0 HL5 HL6 HB2 HX2 H52 H62 HBE2 HRC2 y0 y1 y2 fz0 fz1 fz2 hcm
      generalize ((((w2.alloc (.cells #[.int .i64 ow', .int .i64 0, .slice A2 (grown (endsF l) (k + 1)).length c2] 27 (0, 0))).setCell ⟨W.heap.size, 0, none⟩ (.int .i64 ow')).setCell ⟨W.heap.size, 1, none⟩ (.int .i64 0)).setCell ⟨W.heap.size, 2, none⟩ (.slice A2 (grown (endsF l) (k + 1)).length c2)) = Wm at hbm h5m h6m hcm2 hbe ⊢
      have HBm := Aside0.mk hbm
      have H5m := Aside0.mk (Kd.R_alloc h5m (.cells #[.int .i64 (endsF l k)] 3 (0, 0)))
      have H6m := Aside0.mk (Kd.R_alloc (Kd.R_mono (ok' := fun q => W.heap.size < q ∧ some q ≠ u5.ownBlock) (Kd.R_tight2 rfl h6m) (fun q hq => ⟨hq.2, fun e => (h5m.1 q e.symm).2 hq.1⟩)) (.cells #[.int .i64 (endsF l k)] 3 (0, 0)))
      have HCm := Aside0.mk (Kd.R_alloc (Kd.R_mono (ok' := fun q => (W.heap.size < q ∧ some q ≠ u6.ownBlock) ∧ some q ≠ u5.ownBlock) hcm2 (fun q hq => ⟨⟨hq.1.1, hq.2⟩, hq.1.2⟩)) (.cells #[.int .i64 (endsF l k)] 3 (0, 0)))
      have HBEm := Aside0.mk (below_alloc hbe (.cells #[.int .i64 (endsF l k)] 3 (0, 0)))
      have HBm2 := Aside0.mk (blk_alloc hbm (.cells #[.int .i64 (endsF l k)] 3 (0, 0)))
      have hxc : Kd.C (Kd.int .i64) (Wm.alloc (.cells #[.int .i64 (endsF l k)] 3 (0, 0))) (some ⟨Wm.heap.size, 0, none⟩) 1 [endsF l k] := C_ints (xs := [endsF l k]) (heap_alloc_new Wm _) rfl (by simp)
      have HXC := Aside0.mk hxc
      have HFR := Aside0.mk (show ∀ q, (Wm.alloc (.cells #[.int .i64 (endsF l k)] 3 (0, 0))).heap.size ≤ q → W.heap.size < q ∧ some q ≠ u6.ownBlock from fun q hq => ⟨by have := blk_lt HBm2.out; omega, R_own_lt H6m.out hq⟩)
      have HLE := Aside0.mk (show (((List.range k).map (endsF l)).length + 1) * 8 ≤ 140737488355328 by rw [List.length_map, List.length_range]; omega)
      have HBZ := Aside0.mk (show Below 0 (Wm.alloc (.cells #[.int .i64 (endsF l k)] 3 (0, 0))) (Wm.alloc (.cells #[.int .i64 (endsF l k)] 3 (0, 0))) from Below.refl 0 _)
      clear hbm h5m h6m hcm2 hbe hxc
      go_upto_region 13 with (at_builtin; refine Kd.R_append_rows (Kd.int .i64) (Rr := (Kd.int .i64).K (Wm.alloc (.cells #[.int .i64 (endsF l k)] 3 (0, 0)))) (w0 := Wm.alloc (.cells #[.int .i64 (endsF l k)] 3 (0, 0))) 0 rfl (.tmp 44) (.tmp 46) 36 3 (.int .i64 0) 8 rfl Try.underlying36 infoI rfl (by decide) (by decide) u5 ((List.range k).map (endsF l)) [endsF l k] (some ⟨Wm.heap.size, 0, none⟩) 1 1 (fun q => W.heap.size < q ∧ some q ≠ u6.ownBlock) (fun _ => False) rfl rfl H5m.out HXC.out (fun x cs h => h) (fun k h => h.elim) HFR.out HBZ.out (Nat.zero_le _) HLE.out ?_; intro v5 w5 ho5 hb5 hg5 hat5; clear hb5; have HO5 := Aside0.mk ho5; have HG5 := Aside0.mk hg5; have HAT5 := Aside0.mk hat5; clear ho5 hg5 hat5)
      have hb5 := blk_grown HBm2.out HG5.out (fun e => by have := (H5m.out.1 _ e.symm).1; omega)
      have h65 := Kd.R_after H6m.out HG5.out HAT5.out
      have hc5 := Kd.R_after HCm.out HG5.out HAT5.out
      have hbe5 := HBEm.out.grown HG5.out (by have := blk_lt HBm2.out; omega) (fun q hq => by have := (H5m.out.1 q hq).1; omega)
      have HBm3 := Aside0.mk (blk_alloc hb5 (.cells #[.int .i64 (k : Int)] 3 (0, 0)))
      have HBE3 := Aside0.mk (below_alloc hbe5 (.cells #[.int .i64 (k : Int)] 3 (0, 0)))
      have HO53 := Aside0.mk (Kd.R_alloc HO5.out (.cells #[.int .i64 (k : Int)] 3 (0, 0)))
      have HC3 := Aside0.mk (Kd.R_alloc (Kd.R_mono (ok' := fun q => (W.heap.size < q ∧ some q ≠ v5.ownBlock) ∧ some q ≠ u6.ownBlock) hc5 (fun q hq => ⟨⟨hq.1.1, hq.2⟩, hq.1.2⟩)) (.cells #[.int .i64 (k : Int)] 3 (0, 0)))
      have H63 := Aside0.mk (Kd.R_alloc (Kd.R_mono (ok' := fun q => W.heap.size < q) h65 (fun q hq => hq.1)) (.cells #[.int .i64 (k : Int)] 3 (0, 0)))
      have hxc : Kd.C (Kd.int .i64) (w5.alloc (.cells #[.int .i64 (k : Int)] 3 (0, 0))) (some ⟨w5.heap.size, 0, none⟩) 1 [(k : Int)] := C_ints (xs := [(k : Int)]) (heap_alloc_new w5 _) rfl (by simp)
      have HXC3 := Aside0.mk hxc
      have HFR3 := Aside0.mk (show ∀ q, (w5.alloc (.cells #[.int .i64 (k : Int)] 3 (0, 0))).heap.size ≤ q → W.heap.size < q from fun q hq => by have := blk_lt HBm3.out; omega)
      have HLE3 := Aside0.mk (show (((List.range k).map (fun i : Nat => (i : Int))).length + 1) * 8 ≤ 140737488355328 by rw [List.length_map, List.length_range]; omega)
      have HBZ3 := Aside0.mk (show Below 0 (w5.alloc (.cells #[.int .i64 (k : Int)] 3 (0, 0))) (w5.alloc (.cells #[.int .i64 (k : Int)] 3 (0, 0))) from Below.refl 0 _)
      clear hb5 h65 hc5 hbe5 hxc HBm H5m H6m HCm HBEm HBm2 HXC HFR HLE HBZ HO5 HG5 HAT5
      go_upto_region 14 with (at_builtin; refine Kd.R_append_rows (Kd.int .i64) (Rr := (Kd.int .i64).K (w5.alloc (.cells #[.int .i64 (k : Int)] 3 (0, 0)))) (w0 := w5.alloc (.cells #[.int .i64 (k : Int)] 3 (0, 0))) 0 rfl (.tmp 48) (.tmp 50) 36 3 (.int .i64 0) 8 rfl Try.underlying36 infoI rfl (by decide) (by decide) u6 ((List.range k).map (fun i : Nat => (i : Int))) [(k : Int)] (some ⟨w5.heap.size, 0, none⟩) 1 1 (fun q => W.heap.size < q) (fun _ => False) rfl rfl H63.out HXC3.out (fun x cs h => h) (fun k h => h.elim) HFR3.out HBZ3.out (Nat.zero_le _) HLE3.out ?_; intro v6 w6 ho5 hb5 hg5 hat5; clear hb5; have HO5 := Aside0.mk ho5; have HG5 := Aside0.mk hg5; have HAT5 := Aside0.mk hat5; clear ho5 hg5 hat5)
      have hb6 := blk_grown HBm3.out HG5.out (fun e => by have := (H63.out.1 _ e.symm); omega)
      have h56 := Kd.R_after HO53.out HG5.out HAT5.out
      have hc6 := Kd.R_after HC3.out HG5.out HAT5.out
      have hbe6 := HBE3.out.grown HG5.out (by have := blk_lt HBm3.out; omega) (fun q hq => by have := (H63.out.1 q hq); omega)
      have HI2 := Aside0.mk (show GrowI W.heap.size l (k + 1) v5 v6 W w6 from ⟨hbe6, ⟨A2, c2, by rw [HOW.out]; exact hb6, hc6⟩, by rw [List.range_succ, List.map_append]; exact h56, by rw [List.range_succ, List.map_append]; exact HO5.out⟩)
      clear hb6 h56 hc6 HBm3 HBE3 HO53 HC3 H63 HXC3 HFR3 HLE3 HBZ3 HO5 HG5 HAT5 HOW
      obtain ⟨ad, rfl, hcell⟩ := int_cell HR.out k h1
      have z0 := hcell w6 hbe6
      clear hcell hbe6
      go_wp2_with fail
      refine ⟨⟨k + 1, by omega, by omega, ?_, by go_num, HI2.out⟩, by simp [intOf]; omega⟩
      have e : l.getD k 0 = l[k] := by rw [List.getD_eq_getElem?_getD, List.getElem?_eq_getElem h1]; rfl
      have s := stepL_walk l[k]
      have s2 := endsF_in l k
      rw [endsF, e, stepL]
      have w1 : wrap64 (l[k].tmod 4097 + 4097) = l[k].tmod 4097 + 4097 := by unfold wrap64; omega
      rw [w1]
      have w2 : wrap64 (endsF l k + (l[k].tmod 4097 + 4097).tmod 4097) = endsF l k + (l[k].tmod 4097 + 4097).tmod 4097 := by unfold wrap64; omega
      rw [w2]
    · clear HI
      have HKL := Aside0.mk hlt
      have hpre : (k : Int) < l.length ∧ decide ((k : Int) < 60) = false ∨ decide (k < l.length) = false := by
        by_cases q : k < l.length
        · exact .inl ⟨by omega, decide_eq_false (by omega)⟩
        · exact .inr (decide_eq_false (by omega))
      clear hlt
      rcases hpre with ⟨q1, q2⟩ | q1
      all_goals
        obtain ⟨A5, c5, h5⟩ := Kd.R_slice HII.out.firsts
        obtain ⟨A6, c6, h6⟩ := Kd.R_slice HII.out.ids
        rw [List.length_map, List.length_range] at h5 h6
        subst h5 h6
        go_wp2_with fail
        clear HR HWF
        go_loopw [10, 11, 12, 13, 14, 15, 16, 17] (fun u10 u11 u12 u13 u14 u15 u16 u17 wx => ∃ j : Nat, j ≤ k ∧ u10 = .int .i64 j ∧ GrowI W.heap.size l k (.slice A5 k c5) (.slice A6 k c6) W wx) (fun u10 u11 u12 u13 u14 u15 u16 u17 wx => k - (intOf u10).toNat)
        case atStart => exact ⟨0, Nat.zero_le _, rfl, HII.out⟩
        case round =>
          obtain ⟨j, hj, rfl, HJ⟩ := hrel
          clear HII
          have HJJ := Aside0.mk HJ
          have HS := Aside0.mk (endsF_step l)
          have HN := Aside0.mk (endsF_in l)
          by_cases hjk : j < k
          · obtain ⟨A1, c1, hb, hR⟩ := HJ.chain
            have HB := Aside0.mk hb
            have HRC := Aside0.mk (Kd.R_reads' hR).2.2
            obtain ⟨a5, hA5, hc5⟩ := int_cell (l := (List.range k).map (endsF l)) (by have := (Kd.R_reads' HJ.firsts).2.2; exact this) j (by simpa using hjk)
            obtain ⟨a6, hA6, hc6⟩ := int_cell (l := (List.range k).map (fun i : Nat => (i : Int))) (by have := (Kd.R_reads' HJ.ids).2.2; exact this) j (by simpa using hjk)
            have e5 : ((List.range k).map (endsF l)).getD j 0 = endsF l j := by simp [List.getD_eq_getElem?_getD, hjk]
            have e6 : ((List.range k).map (fun i : Nat => (i : Int))).getD j 0 = (j : Int) := by simp [List.getD_eq_getElem?_getD, hjk]
            rw [e5] at hc5
            rw [e6] at hc6
            have hs := endsF_step l j
            have hn := endsF_in l j
            have hn2 := endsF_in l (j + 1)
            obtain ⟨f, hf⟩ : ∃ f, endsF l j = f := ⟨_, rfl⟩
            obtain ⟨t, ht⟩ : ∃ t, endsF l (j + 1) = t := ⟨_, rfl⟩
            rw [hf] at hc5 hs hn
            rw [ht] at hs hn2
            have HF := Aside0.mk hf
            have HT1 := Aside0.mk ht
            have H5C := Aside0.mk hc5
            have H6C := Aside0.mk hc6
            subst hA5 hA6
            clear hc5 hc6 e5 e6 HS HN
            rcases Nat.lt_or_ge (j + 1) k with hjk2 | hjk2
            · obtain ⟨a7, hA7, hc7⟩ := int_cell (l := (List.range k).map (endsF l)) (by have := (Kd.R_reads' HJ.firsts).2.2; exact this) (j + 1) (by simpa using hjk2)
              have e7 : ((List.range k).map (endsF l)).getD (j + 1) 0 = endsF l (j + 1) := by simp [List.getD_eq_getElem?_getD, hjk2]
              rw [e7, ht] at hc7
              injection hA7 with hA7
              subst hA7
              have y7 : wr.cell? ⟨a5.block, a5.off + (j + 1), none⟩ = some (.int .i64 t) := by have h := hc7 wr (Below.refl _ _); simpa [Addr.add] using h
              have hd7 : (j : Int) + 1 < (k : Int) := by omega
              have htn : ((j : Int) + 1).toNat = j + 1 := by omega
              have hwn : wrap64 ((j : Int) + 1) = (j : Int) + 1 := by unfold wrap64; omega
              clear hc7 e7 HJ hb hR hf ht
              go_upto_region 21 with fail
              clear y7 htn hwn
              have x0 : wr.cell? ⟨W.heap.size, 0, none⟩ = some (.int .i64 (ownerF k)) := (blk_cell HB.out 0).trans rfl
              have x1 : wr.cell? ⟨W.heap.size, 1, none⟩ = some (.int .i64 0) := (blk_cell HB.out 1).trans rfl
              have x2 : wr.cell? ⟨W.heap.size, 2, none⟩ = some (.slice A1 (grown (endsF l) k).length c1) := (blk_cell HB.out 2).trans rfl
              have y0 : wr.cell? (a5.add j) = some (.int .i64 f) := H5C.out _ (Below.refl _ _)
              by_cases hE : t = f
              · have hEq : (t == f) = true := beq_iff_eq.2 hE
                clear hE
                go_wp2_with fail
                exact ⟨⟨j + 1, by omega, by go_num, HJJ.out⟩, by simp [intOf]; omega⟩
              · have hEq : (t == f) = false := beq_eq_false_iff_ne.2 hE
                have hft : f < t := by omega
                have WH1 := Aside0.mk (fun (w : World) (hC : Kd.C k53 w A1 (grown (endsF l) k).length (grown (endsF l) k)) => by
                  have h := where_c (ownerF k) 0 f A1 c1 (grown (endsF l) k) w hC
                  rw [grown_at l k j (by omega) hjk f (by rw [HF.out]; exact Int.le_refl _) (by rw [HT1.out]; exact hft), HF.out, Int.sub_self] at h
                  exact h)
                have WH2 := Aside0.mk (fun (w : World) (hC : Kd.C k53 w A1 (grown (endsF l) k).length (grown (endsF l) k)) => by
                  have h := where_c (ownerF k) 0 (t - 1) A1 c1 (grown (endsF l) k) w hC
                  rw [grown_at l k j (by omega) hjk (t - 1) (by rw [HF.out]; omega) (by rw [HT1.out]; omega), HF.out] at h
                  exact h)
                clear hE
                go_wp2_with fail
                have BC4 := Aside0.mk (blk_drew HB.out)
                have HC4 := Aside0.mk (Kd.C_drew HRC.out)
                have BL4 := Aside0.mk (below_drew (Below.refl wr.heap.size wr))
                clear x0 x1 x2 y0
                refine start_ (n := 13) (S := fun w' => w'.cell? ⟨W.heap.size, 0, none⟩ = some (.int .i64 (ownerF k)) ∧ w'.cell? ⟨W.heap.size, 1, none⟩ = some (.int .i64 0) ∧ w'.cell? ⟨W.heap.size, 2, none⟩ = some (.slice A1 (grown (endsF l) k).length c1) ∧ w'.cell? (a5.add j) = some (.int .i64 f)) (ds := []) #[false, false, false, false, false, false, false, false, false, false, false, false, false] (by kernel_rfl) rfl rfl ⟨(blk_cell BC4.out 0).trans rfl, (blk_cell BC4.out 1).trans rfl, (blk_cell BC4.out 2).trans rfl, H5C.out _ BL4.out⟩ (fun hHeld => ?_); refine with_tabW tabG22 bitsG22 (fun HT_ HW_ => ?_)
                generalize hwd : wr.drew = Wd at BC4 HC4 BL4 hHeld ⊢
                clear hwd
                refine take_ (i := 0) (N := (some 85)) (v := ?_) (a' := ?_) #[true, false, false, false, false, false, false, false, false, false, false, false, false] rfl rfl (take_ofW HT_.out HW_.out (by kernel_rfl)) (fun _ _ _ h => h) (Or.inl ⟨by rfl, ?_⟩) hHeld ?_ ?_
                rotate_left
                · rintro w' ⟨s0, s1, s2, s3⟩
                  go_simp
                  with_reducible rfl
                rotate_left
                · simp only [Act.put, List.setIfInBounds_toArray, List.set_cons_zero, List.set_cons_succ, i64_w, i32_w]
                  rfl
                refine pure_ (i := 1) (N := (some 86)) (v := ?_) (a' := ?_) #[true, true, false, false, false, false, false, false, false, false, false, false, false] rfl rfl (any_of HT_.out (by kernel_rfl)) (fun _ _ _ h => h) (Or.inl ⟨by rfl, ?_⟩) ?_ ?_
                rotate_left
                · intro w'
                  go_simp
                  with_reducible rfl
                rotate_left
                · simp only [Act.put, List.setIfInBounds_toArray, List.set_cons_zero, List.set_cons_succ, i64_w, i32_w]
                  rfl
                refine pure_ (i := 2) (N := (some 87)) (v := ?_) (a' := ?_) #[true, true, true, false, false, false, false, false, false, false, false, false, false] rfl rfl (any_of HT_.out (by kernel_rfl)) (fun _ _ _ h => h) (Or.inl ⟨by rfl, ?_⟩) ?_ ?_
                rotate_left
                · intro w'
                  go_simp
                  with_reducible rfl
                rotate_left
                · simp only [Act.put, List.setIfInBounds_toArray, List.set_cons_zero, List.set_cons_succ, i64_w, i32_w]
                  rfl
                refine pure_ (i := 3) (N := (some 88)) (v := ?_) (a' := ?_) #[true, true, true, true, false, false, false, false, false, false, false, false, false] rfl rfl (any_of HT_.out (by kernel_rfl)) (fun _ _ _ h => h) (Or.inl ⟨by rfl, ?_⟩) ?_ ?_
                rotate_left
                · intro w'
                  go_simp
                  with_reducible rfl
                rotate_left
                · simp only [Act.put, List.setIfInBounds_toArray, List.set_cons_zero, List.set_cons_succ, i64_w, i32_w]
                  rfl
                refine take_ (i := 4) (N := (some 89)) (v := ?_) (a' := ?_) #[true, true, true, true, true, false, false, false, false, false, false, false, false] rfl rfl (take_ofW HT_.out HW_.out (by kernel_rfl)) (fun _ _ _ h => h) (Or.inl ⟨by rfl, ?_⟩) hHeld ?_ ?_
                rotate_left
                · rintro w' ⟨s0, s1, s2, s3⟩
                  go_simp
                  with_reducible rfl
                rotate_left
                · simp only [Act.put, List.setIfInBounds_toArray, List.set_cons_zero, List.set_cons_succ, i64_w, i32_w]
                  rfl
                refine one_ (i := 5) (N := (some 90)) #[true, true, true, true, true, true, false, false, false, false, false, false, false] rfl rfl (one_of HT_.out (by kernel_rfl)) (by decide) (fun K hK => ?_)
                refine goes_ Try.func18 (by kernel_rfl) rfl #[.agg #[.int .i64 (ownerF k), .int .i64 0, .slice A1 (grown (endsF l) k).length c1], .int .i64 f] (by rfl) rfl rfl (by (try simp only [List.map_toArray, List.map_cons, List.map_nil]); first | done | rfl) ?_
                refine (WH1.out _ HC4.out).mono ?_
                rintro e w5 ⟨rfl, hbL⟩
                refine ⟨_, rfl, ?_⟩
                have BC5 := Aside0.mk (blk_below BC4.out hbL)
                have HC5 := Aside0.mk (Kd.C_below HC4.out hbL)
                have BL5 := Aside0.mk (below_step BL4.out hbL)
                clear hbL BC4 HC4 BL4
                refine hK.out _ _ ⟨(blk_cell BC5.out 0).trans rfl, (blk_cell BC5.out 1).trans rfl, (blk_cell BC5.out 2).trans rfl, H5C.out _ BL5.out⟩ (fun hHeld => ?_)
                clear hK K
                refine norm_ (a' := ?_) ?_ ?_
                rotate_left
                · show Act.put _ (some 90) _ = _
                  simp only [Act.put, List.setIfInBounds_toArray, List.set_cons_zero, List.set_cons_succ, i64_w, i32_w]
                  rfl
                refine pure_ (i := 6) (N := (some 84)) (v := ?_) (a' := ?_) #[true, true, true, true, true, true, true, false, false, false, false, false, false] rfl rfl (any_of HT_.out (by kernel_rfl)) (fun _ _ _ h => h) (Or.inl ⟨by rfl, ?_⟩) ?_ ?_
                rotate_left
                · intro w'
                  go_simp
                  with_reducible rfl
                rotate_left
                · simp only [Act.put, List.setIfInBounds_toArray, List.set_cons_zero, List.set_cons_succ, i64_w, i32_w]
                  rfl
                refine pure_ (i := 7) (N := (some 91)) (v := ?_) (a' := ?_) #[true, true, true, true, true, true, true, true, false, false, false, false, false] rfl rfl (any_of HT_.out (by kernel_rfl)) (fun _ _ _ h => h) (Or.inl ⟨by rfl, ?_⟩) ?_ ?_
                rotate_left
                · intro w'
                  go_simp
                  with_reducible rfl
                rotate_left
                · simp only [Act.put, List.setIfInBounds_toArray, List.set_cons_zero, List.set_cons_succ, i64_w, i32_w]
                  rfl
                refine pure_ (i := 8) (N := (some 92)) (v := ?_) (a' := ?_) #[true, true, true, true, true, true, true, true, true, false, false, false, false] rfl rfl (any_of HT_.out (by kernel_rfl)) (fun _ _ _ h => h) (Or.inl ⟨by rfl, ?_⟩) ?_ ?_
                rotate_left
                · intro w'
                  go_simp
                  with_reducible rfl
                rotate_left
                · simp only [Act.put, List.setIfInBounds_toArray, List.set_cons_zero, List.set_cons_succ, i64_w, i32_w]
                  rfl
                refine pure_ (i := 9) (N := (some 93)) (v := ?_) (a' := ?_) #[true, true, true, true, true, true, true, true, true, true, false, false, false] rfl rfl (any_of HT_.out (by kernel_rfl)) (fun _ _ _ h => h) (Or.inl ⟨by rfl, ?_⟩) ?_ ?_
                rotate_left
                · intro w'
                  go_simp
                  with_reducible rfl
                rotate_left
                · simp only [Act.put, List.setIfInBounds_toArray, List.set_cons_zero, List.set_cons_succ, i64_w, i32_w]
                  rfl
                refine pure_ (i := 10) (N := (some 12)) (v := ?_) (a' := ?_) #[true, true, true, true, true, true, true, true, true, true, true, false, false] rfl rfl (any_of HT_.out (by kernel_rfl)) (fun _ _ _ h => h) (Or.inl ⟨by rfl, ?_⟩) ?_ ?_
                rotate_left
                · intro w'
                  go_simp
                  with_reducible rfl
                rotate_left
                · simp only [Act.put, List.setIfInBounds_toArray, List.set_cons_zero, List.set_cons_succ, i64_w, i32_w]
                  rfl
                refine pure_ (i := 11) (N := (some 13)) (v := ?_) (a' := ?_) #[true, true, true, true, true, true, true, true, true, true, true, true, false] rfl rfl (any_of HT_.out (by kernel_rfl)) (fun _ _ _ h => h) (Or.inl ⟨by rfl, ?_⟩) ?_ ?_
                rotate_left
                · intro w'
                  go_simp
                  with_reducible rfl
                rotate_left
                · simp only [Act.put, List.setIfInBounds_toArray, List.set_cons_zero, List.set_cons_succ, i64_w, i32_w]
                  rfl
                refine pure_ (i := 12) (N := (some 14)) (v := ?_) (a' := ?_) #[true, true, true, true, true, true, true, true, true, true, true, true, true] rfl rfl (any_of HT_.out (by kernel_rfl)) (fun _ _ _ h => h) (Or.inl ⟨by rfl, ?_⟩) ?_ ?_
                rotate_left
                · intro w'
                  go_simp
                  with_reducible rfl
                rotate_left
                · simp only [Act.put, List.setIfInBounds_toArray, List.set_cons_zero, List.set_cons_succ, i64_w, i32_w]
                  rfl
                refine done_ (done_of HT_.out (by kernel_rfl)) ?_
                clear hHeld HT_ HW_
                have z0 : w5.cell? ⟨W.heap.size, 0, none⟩ = some (.int .i64 (ownerF k)) := (blk_cell BC5.out 0).trans rfl
                have z1 : w5.cell? ⟨W.heap.size, 1, none⟩ = some (.int .i64 0) := (blk_cell BC5.out 1).trans rfl
                have z2 : w5.cell? ⟨W.heap.size, 2, none⟩ = some (.slice A1 (grown (endsF l) k).length c1) := (blk_cell BC5.out 2).trans rfl
                go_wp2_with fail
                refine (WH2.out _ HC5.out).mono ?_
                rintro e w6 ⟨rfl, hb6⟩
                have BL6 := Aside0.mk (below_step BL5.out hb6)
                have y5 : w6.cell? (a5.add j) = some (.int .i64 f) := H5C.out _ BL6.out
                have y6 : w6.cell? (a6.add j) = some (.int .i64 j) := H6C.out _ BL6.out
                clear hb6 z0 z1 z2 BC5 HC5 BL5
                have hj2 : (j : Int) < (k : Int) := by omega
                go_wp2_with fail
                exact ⟨⟨j + 1, by omega, by go_num, HJJ.out.move BL6.out⟩, by simp [intOf]; omega⟩
            · have hd7 : decide ((j : Int) + 1 < (k : Int)) = false := decide_eq_false (by omega)
              have hk1 : k = j + 1 := by omega
              have ht2 : endsF l k = t := by rw [hk1, ht]
              clear HJ hb hR hf ht hk1
              subst ht2
              go_upto_region 21 with fail
              have x0 : wr.cell? ⟨W.heap.size, 0, none⟩ = some (.int .i64 (ownerF k)) := (blk_cell HB.out 0).trans rfl
              have x1 : wr.cell? ⟨W.heap.size, 1, none⟩ = some (.int .i64 0) := (blk_cell HB.out 1).trans rfl
              have x2 : wr.cell? ⟨W.heap.size, 2, none⟩ = some (.slice A1 (grown (endsF l) k).length c1) := (blk_cell HB.out 2).trans rfl
              have y0 : wr.cell? (a5.add j) = some (.int .i64 f) := H5C.out _ (Below.refl _ _)
              by_cases hE : (endsF l k) = f
              · have hEq : ((endsF l k) == f) = true := beq_iff_eq.2 hE
                clear hE
                go_wp2_with fail
                exact ⟨⟨j + 1, by omega, by go_num, HJJ.out⟩, by simp [intOf]; omega⟩
              · have hEq : ((endsF l k) == f) = false := beq_eq_false_iff_ne.2 hE
                have hft : f < (endsF l k) := by omega
                have WH1 := Aside0.mk (fun (w : World) (hC : Kd.C k53 w A1 (grown (endsF l) k).length (grown (endsF l) k)) => by
                  have h := where_c (ownerF k) 0 f A1 c1 (grown (endsF l) k) w hC
                  rw [grown_at l k j (by omega) hjk f (by rw [HF.out]; exact Int.le_refl _) (by rw [HT1.out]; exact hft), HF.out, Int.sub_self] at h
                  exact h)
                have WH2 := Aside0.mk (fun (w : World) (hC : Kd.C k53 w A1 (grown (endsF l) k).length (grown (endsF l) k)) => by
                  have h := where_c (ownerF k) 0 ((endsF l k) - 1) A1 c1 (grown (endsF l) k) w hC
                  rw [grown_at l k j (by omega) hjk ((endsF l k) - 1) (by rw [HF.out]; omega) (by rw [HT1.out]; omega), HF.out] at h
                  exact h)
                clear hE
                go_wp2_with fail
                have BC4 := Aside0.mk (blk_drew HB.out)
                have HC4 := Aside0.mk (Kd.C_drew HRC.out)
                have BL4 := Aside0.mk (below_drew (Below.refl wr.heap.size wr))
                clear x0 x1 x2 y0
                refine start_ (n := 13) (S := fun w' => w'.cell? ⟨W.heap.size, 0, none⟩ = some (.int .i64 (ownerF k)) ∧ w'.cell? ⟨W.heap.size, 1, none⟩ = some (.int .i64 0) ∧ w'.cell? ⟨W.heap.size, 2, none⟩ = some (.slice A1 (grown (endsF l) k).length c1) ∧ w'.cell? (a5.add j) = some (.int .i64 f)) (ds := []) #[false, false, false, false, false, false, false, false, false, false, false, false, false] (by kernel_rfl) rfl rfl ⟨(blk_cell BC4.out 0).trans rfl, (blk_cell BC4.out 1).trans rfl, (blk_cell BC4.out 2).trans rfl, H5C.out _ BL4.out⟩ (fun hHeld => ?_); refine with_tabW tabG22 bitsG22 (fun HT_ HW_ => ?_)
                generalize hwd : wr.drew = Wd at BC4 HC4 BL4 hHeld ⊢
                clear hwd
                refine take_ (i := 0) (N := (some 85)) (v := ?_) (a' := ?_) #[true, false, false, false, false, false, false, false, false, false, false, false, false] rfl rfl (take_ofW HT_.out HW_.out (by kernel_rfl)) (fun _ _ _ h => h) (Or.inl ⟨by rfl, ?_⟩) hHeld ?_ ?_
                rotate_left
                · rintro w' ⟨s0, s1, s2, s3⟩
                  go_simp
                  with_reducible rfl
                rotate_left
                · simp only [Act.put, List.setIfInBounds_toArray, List.set_cons_zero, List.set_cons_succ, i64_w, i32_w]
                  rfl
                refine pure_ (i := 1) (N := (some 86)) (v := ?_) (a' := ?_) #[true, true, false, false, false, false, false, false, false, false, false, false, false] rfl rfl (any_of HT_.out (by kernel_rfl)) (fun _ _ _ h => h) (Or.inl ⟨by rfl, ?_⟩) ?_ ?_
                rotate_left
                · intro w'
                  go_simp
                  with_reducible rfl
                rotate_left
                · simp only [Act.put, List.setIfInBounds_toArray, List.set_cons_zero, List.set_cons_succ, i64_w, i32_w]
                  rfl
                refine pure_ (i := 2) (N := (some 87)) (v := ?_) (a' := ?_) #[true, true, true, false, false, false, false, false, false, false, false, false, false] rfl rfl (any_of HT_.out (by kernel_rfl)) (fun _ _ _ h => h) (Or.inl ⟨by rfl, ?_⟩) ?_ ?_
                rotate_left
                · intro w'
                  go_simp
                  with_reducible rfl
                rotate_left
                · simp only [Act.put, List.setIfInBounds_toArray, List.set_cons_zero, List.set_cons_succ, i64_w, i32_w]
                  rfl
                refine pure_ (i := 3) (N := (some 88)) (v := ?_) (a' := ?_) #[true, true, true, true, false, false, false, false, false, false, false, false, false] rfl rfl (any_of HT_.out (by kernel_rfl)) (fun _ _ _ h => h) (Or.inl ⟨by rfl, ?_⟩) ?_ ?_
                rotate_left
                · intro w'
                  go_simp
                  with_reducible rfl
                rotate_left
                · simp only [Act.put, List.setIfInBounds_toArray, List.set_cons_zero, List.set_cons_succ, i64_w, i32_w]
                  rfl
                refine take_ (i := 4) (N := (some 89)) (v := ?_) (a' := ?_) #[true, true, true, true, true, false, false, false, false, false, false, false, false] rfl rfl (take_ofW HT_.out HW_.out (by kernel_rfl)) (fun _ _ _ h => h) (Or.inl ⟨by rfl, ?_⟩) hHeld ?_ ?_
                rotate_left
                · rintro w' ⟨s0, s1, s2, s3⟩
                  go_simp
                  with_reducible rfl
                rotate_left
                · simp only [Act.put, List.setIfInBounds_toArray, List.set_cons_zero, List.set_cons_succ, i64_w, i32_w]
                  rfl
                refine one_ (i := 5) (N := (some 90)) #[true, true, true, true, true, true, false, false, false, false, false, false, false] rfl rfl (one_of HT_.out (by kernel_rfl)) (by decide) (fun K hK => ?_)
                refine goes_ Try.func18 (by kernel_rfl) rfl #[.agg #[.int .i64 (ownerF k), .int .i64 0, .slice A1 (grown (endsF l) k).length c1], .int .i64 f] (by rfl) rfl rfl (by (try simp only [List.map_toArray, List.map_cons, List.map_nil]); first | done | rfl) ?_
                refine (WH1.out _ HC4.out).mono ?_
                rintro e w5 ⟨rfl, hbL⟩
                refine ⟨_, rfl, ?_⟩
                have BC5 := Aside0.mk (blk_below BC4.out hbL)
                have HC5 := Aside0.mk (Kd.C_below HC4.out hbL)
                have BL5 := Aside0.mk (below_step BL4.out hbL)
                clear hbL BC4 HC4 BL4
                refine hK.out _ _ ⟨(blk_cell BC5.out 0).trans rfl, (blk_cell BC5.out 1).trans rfl, (blk_cell BC5.out 2).trans rfl, H5C.out _ BL5.out⟩ (fun hHeld => ?_)
                clear hK K
                refine norm_ (a' := ?_) ?_ ?_
                rotate_left
                · show Act.put _ (some 90) _ = _
                  simp only [Act.put, List.setIfInBounds_toArray, List.set_cons_zero, List.set_cons_succ, i64_w, i32_w]
                  rfl
                refine pure_ (i := 6) (N := (some 84)) (v := ?_) (a' := ?_) #[true, true, true, true, true, true, true, false, false, false, false, false, false] rfl rfl (any_of HT_.out (by kernel_rfl)) (fun _ _ _ h => h) (Or.inl ⟨by rfl, ?_⟩) ?_ ?_
                rotate_left
                · intro w'
                  go_simp
                  with_reducible rfl
                rotate_left
                · simp only [Act.put, List.setIfInBounds_toArray, List.set_cons_zero, List.set_cons_succ, i64_w, i32_w]
                  rfl
                refine pure_ (i := 7) (N := (some 91)) (v := ?_) (a' := ?_) #[true, true, true, true, true, true, true, true, false, false, false, false, false] rfl rfl (any_of HT_.out (by kernel_rfl)) (fun _ _ _ h => h) (Or.inl ⟨by rfl, ?_⟩) ?_ ?_
                rotate_left
                · intro w'
                  go_simp
                  with_reducible rfl
                rotate_left
                · simp only [Act.put, List.setIfInBounds_toArray, List.set_cons_zero, List.set_cons_succ, i64_w, i32_w]
                  rfl
                refine pure_ (i := 8) (N := (some 92)) (v := ?_) (a' := ?_) #[true, true, true, true, true, true, true, true, true, false, false, false, false] rfl rfl (any_of HT_.out (by kernel_rfl)) (fun _ _ _ h => h) (Or.inl ⟨by rfl, ?_⟩) ?_ ?_
                rotate_left
                · intro w'
                  go_simp
                  with_reducible rfl
                rotate_left
                · simp only [Act.put, List.setIfInBounds_toArray, List.set_cons_zero, List.set_cons_succ, i64_w, i32_w]
                  rfl
                refine pure_ (i := 9) (N := (some 93)) (v := ?_) (a' := ?_) #[true, true, true, true, true, true, true, true, true, true, false, false, false] rfl rfl (any_of HT_.out (by kernel_rfl)) (fun _ _ _ h => h) (Or.inl ⟨by rfl, ?_⟩) ?_ ?_
                rotate_left
                · intro w'
                  go_simp
                  with_reducible rfl
                rotate_left
                · simp only [Act.put, List.setIfInBounds_toArray, List.set_cons_zero, List.set_cons_succ, i64_w, i32_w]
                  rfl
                refine pure_ (i := 10) (N := (some 12)) (v := ?_) (a' := ?_) #[true, true, true, true, true, true, true, true, true, true, true, false, false] rfl rfl (any_of HT_.out (by kernel_rfl)) (fun _ _ _ h => h) (Or.inl ⟨by rfl, ?_⟩) ?_ ?_
                rotate_left
                · intro w'
                  go_simp
                  with_reducible rfl
                rotate_left
                · simp only [Act.put, List.setIfInBounds_toArray, List.set_cons_zero, List.set_cons_succ, i64_w, i32_w]
                  rfl
                refine pure_ (i := 11) (N := (some 13)) (v := ?_) (a' := ?_) #[true, true, true, true, true, true, true, true, true, true, true, true, false] rfl rfl (any_of HT_.out (by kernel_rfl)) (fun _ _ _ h => h) (Or.inl ⟨by rfl, ?_⟩) ?_ ?_
                rotate_left
                · intro w'
                  go_simp
                  with_reducible rfl
                rotate_left
                · simp only [Act.put, List.setIfInBounds_toArray, List.set_cons_zero, List.set_cons_succ, i64_w, i32_w]
                  rfl
                refine pure_ (i := 12) (N := (some 14)) (v := ?_) (a' := ?_) #[true, true, true, true, true, true, true, true, true, true, true, true, true] rfl rfl (any_of HT_.out (by kernel_rfl)) (fun _ _ _ h => h) (Or.inl ⟨by rfl, ?_⟩) ?_ ?_
                rotate_left
                · intro w'
                  go_simp
                  with_reducible rfl
                rotate_left
                · simp only [Act.put, List.setIfInBounds_toArray, List.set_cons_zero, List.set_cons_succ, i64_w, i32_w]
                  rfl
                refine done_ (done_of HT_.out (by kernel_rfl)) ?_
                clear hHeld HT_ HW_
                have z0 : w5.cell? ⟨W.heap.size, 0, none⟩ = some (.int .i64 (ownerF k)) := (blk_cell BC5.out 0).trans rfl
                have z1 : w5.cell? ⟨W.heap.size, 1, none⟩ = some (.int .i64 0) := (blk_cell BC5.out 1).trans rfl
                have z2 : w5.cell? ⟨W.heap.size, 2, none⟩ = some (.slice A1 (grown (endsF l) k).length c1) := (blk_cell BC5.out 2).trans rfl
                go_wp2_with fail
                refine (WH2.out _ HC5.out).mono ?_
                rintro e w6 ⟨rfl, hb6⟩
                have BL6 := Aside0.mk (below_step BL5.out hb6)
                have y5 : w6.cell? (a5.add j) = some (.int .i64 f) := H5C.out _ BL6.out
                have y6 : w6.cell? (a6.add j) = some (.int .i64 j) := H6C.out _ BL6.out
                clear hb6 z0 z1 z2 BC5 HC5 BL5
                have hj2 : (j : Int) < (k : Int) := by omega
                go_wp2_with fail
                exact ⟨⟨j + 1, by omega, by go_num, HJJ.out.move BL6.out⟩, by simp [intOf]; omega⟩
          · obtain rfl : j = k := by omega
            obtain ⟨A1, c1, hb, hR⟩ := HJ.chain
            have HBE := Aside0.mk HJ.below
            have x0 : wr.cell? ⟨W.heap.size, 0, none⟩ = some (.int .i64 (ownerF j)) := (blk_cell hb 0).trans rfl
            have x1 : wr.cell? ⟨W.heap.size, 1, none⟩ = some (.int .i64 0) := (blk_cell hb 1).trans rfl
            have x2 : wr.cell? ⟨W.heap.size, 2, none⟩ = some (.slice A1 (grown (endsF l) j).length c1) := (blk_cell hb 2).trans rfl
            have HRC := Aside0.mk (Kd.R_reads' hR).2.2
            have HRT := Aside0.mk (grown_ok l j (by omega))
            have hjf : decide ((j : Int) < (j : Int)) = false := decide_eq_false (by omega)
            clear HJ hb hR HS HN HKL
            go_wp2_with fail
            refine (check_c (ownerF j) 0 3 A1 c1 (grown (endsF l) j) wr HRC.out).mono ?_
            rintro e w5 ⟨rfl, hb5⟩
            rw [HRT.out]
            have HB5 := Aside0.mk (below_step HBE.out hb5)
            clear hb5 x0 x1 x2
            simp only [errB]
            go_wp2_with ((with_reducible refine (num_c _ _).mono ?_); rintro e w7 ⟨rfl, rfl⟩)
            refine (knows_c w5).mono ?_
            rintro e w8 ⟨rfl, hb8⟩
            have HB8 := Aside0.mk (below_step HB5.out hb8)
            clear hb8
            go_wp2_with fail
            go_ret
            exact ⟨rfl, HB8.out⟩
end Go.Proofs.Ytpcoelimabojcaa.Hand
