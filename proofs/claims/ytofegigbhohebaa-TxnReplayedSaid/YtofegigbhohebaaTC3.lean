/- PutEvent. -/
import Derived.Test.YtofegigbhohebaaTC2
import Derived.Test.YtofegigbhohebaaTB2
namespace Go.Proofs.Ytofegigbhohebaa.Hand
open Go.RowKit Go.Proofs.Ytofegigbhohebaa Go.Proofs.YtofegigbhohebaaW.PrintWords Go.Proofs.YtofegigbhohebaaW.PrintLast
set_option linter.unusedVariables false
set_option linter.unusedSimpArgs false
def numAt (x : EvV) (j : Nat) : Int := [x.producer, x.epoch, x.place, x.timeout, x.now].getD j 0
def numsUpto (x : EvV) (m : Nat) : List Int := (List.range m).flatMap fun j => lowL (numAt x j).toNat 6
theorem numsUpto_succ (x : EvV) (m : Nat) : numsUpto x (m + 1) = numsUpto x m ++ lowL (numAt x m).toNat 6 := by simp [numsUpto, List.range_succ]
theorem numsUpto_len (x : EvV) : ∀ m, (numsUpto x m).length = 6 * m
  | 0 => rfl
  | m + 1 => by rw [numsUpto_succ, List.length_append, numsUpto_len x m, lowL_length]; omega
theorem numsUpto_all (x : EvV) : numsUpto x 5 = evNums x := by
  rw [numsUpto_succ, numsUpto_succ, numsUpto_succ, numsUpto_succ, numsUpto_succ]
  rfl
theorem put_num {n : Int} (h0 : 0 ≤ n) (h1 : n < 281474976710656) : wire_Put.f n 6 = some (lowL n.toNat 6, 0) := by
  unfold wire_Put.f putF
  rw [if_neg (by decide), if_neg (by decide), if_neg (by omega), if_neg (by rw [show (256 : Int) ^ Int.toNat 6 = 281474976710656 from rfl]; omega)]
  rfl
theorem infoU8 : (Try.prog.info? 5).map (fun i => (i.zero, i.size, i.bytes)) = some (some (.int .u8 0), 1, 1) := by kernel_rfl
theorem row_not_box {w : World} {base : Nat} {ok : Nat → Prop} {v : Value} {xs : List Int} {g : Nat} {cs : Array Value} (h : Kd.R (Kd.int .u8) 5 w base ok v xs) (hg : w.heap[g]? = some (.cells cs 33 (0, 0))) : some g ≠ v.ownBlock := by
  obtain ⟨-, ⟨rfl, -⟩ | ⟨g', cap, cur, rfl, -, hcur, -⟩⟩ := Kd.own_of_R h
  · intro e; cases e
  · intro e
    have : g = g' := by injection e
    subst this
    rw [hg] at hcur
    cases hcur
theorem idx5_0 (a b c d e : Int) (w : World) : (Instr.index 95 (.agg #[.int .i64 a, .int .i64 b, .int .i64 c, .int .i64 d, .int .i64 e]) (.int .i64 ((0 : Nat) : Int))).run Try.prog w = .ok (.int .i64 a) w := by kernel_rfl
theorem idx5_1 (a b c d e : Int) (w : World) : (Instr.index 95 (.agg #[.int .i64 a, .int .i64 b, .int .i64 c, .int .i64 d, .int .i64 e]) (.int .i64 ((1 : Nat) : Int))).run Try.prog w = .ok (.int .i64 b) w := by kernel_rfl
theorem idx5_2 (a b c d e : Int) (w : World) : (Instr.index 95 (.agg #[.int .i64 a, .int .i64 b, .int .i64 c, .int .i64 d, .int .i64 e]) (.int .i64 ((2 : Nat) : Int))).run Try.prog w = .ok (.int .i64 c) w := by kernel_rfl
theorem idx5_3 (a b c d e : Int) (w : World) : (Instr.index 95 (.agg #[.int .i64 a, .int .i64 b, .int .i64 c, .int .i64 d, .int .i64 e]) (.int .i64 ((3 : Nat) : Int))).run Try.prog w = .ok (.int .i64 d) w := by kernel_rfl
theorem idx5_4 (a b c d e : Int) (w : World) : (Instr.index 95 (.agg #[.int .i64 a, .int .i64 b, .int .i64 c, .int .i64 d, .int .i64 e]) (.int .i64 ((4 : Nat) : Int))).run Try.prog w = .ok (.int .i64 e) w := by kernel_rfl
set_option maxHeartbeats 6400000 in
set_option maxRecDepth 100000 in
theorem putEvent_c (x : EvV) (w : World) : Calls Try.prog 25 #[evE x] w fun e w' => ∃ v : Value, e = .returned (.tuple #[v, .int .i64 (putEF x).2]) ∧ Kd.R (Kd.int .u8) 5 w' w.heap.size (fun _ => True) v (putEF x).1 ∧ Below w.heap.size w w' := by
  have HR := Aside0.mk (fun W => right_c x W)
  have hb1 := below_alloc (Below.refl w.heap.size w) (.cells #[.int .i64 x.kind, .string x.name, .int .i64 x.producer, .int .i64 x.epoch, .int .i64 x.place, .int .i64 x.timeout, .int .i64 x.now, .bool x.yes] 33 (0, 0))
  have HX := Aside0.mk (heap_alloc_new w (.cells #[.int .i64 x.kind, .string x.name, .int .i64 x.producer, .int .i64 x.epoch, .int .i64 x.place, .int .i64 x.timeout, .int .i64 x.now, .bool x.yes] 33 (0, 0)))
  have HB := Aside0.mk hb1
  clear hb1
  cases hr : rightE x with
  | false =>
    have HP := Aside0.mk (show putEF x = ([], 1) by unfold putEF; rw [hr]; rfl)
    rw [HP.out]
    clear HP
    unfold evE at HR ⊢
    go_enter Try.func25, Try.ntmps25
    go_wp2_with (go_at_call 38; refine (HR.out _).mono ?_; rintro e w2 ⟨rfl, hb2⟩; rw [hr]; have HB2 := Aside0.mk (below_step HB.out hb2); clear hb2)
    exact bodyPost_ret (v := .tuple #[.slice none 0 0, .int .i64 1]) (by simp [results, Try.results25, go_sem]) rfl ⟨_, rfl, Kd.R_nil _ _ _ _ _, HB2.out⟩
  | true =>
    have HP := Aside0.mk (show putEF x = (encE x, 0) by unfold putEF; rw [hr]; rfl)
    rw [HP.out]
    clear HP
    have HRT := Aside0.mk hr
    clear hr
    obtain ⟨kind, name, producer, epoch, place, timeout, now, yes⟩ := x
    unfold evE at HR ⊢
    dsimp only at HX HB
    obtain ⟨h1, h2, h3, h4, h5⟩ := right_in HRT.out
    dsimp only at h1 h2 h3 h4 h5
    have HNS := Aside0.mk (name_short HRT.out)
    dsimp only at HNS
    have HFR := Aside0.mk (fun (z : Int) (hz : (if yes = true then 1 else 0) = z) => show wire_Frame.f 33 ([kind % 256, z] ++ numsUpto ⟨kind, name, producer, epoch, place, timeout, now, yes⟩ 5 ++ (textEnc name).1) = some (encE ⟨kind, name, producer, epoch, place, timeout, now, yes⟩, 0) by
      subst hz
      have e : [kind % 256, if yes = true then 1 else 0] ++ numsUpto ⟨kind, name, producer, epoch, place, timeout, now, yes⟩ 5 ++ (textEnc name).1 = evBody ⟨kind, name, producer, epoch, place, timeout, now, yes⟩ := by rw [numsUpto_all]; rfl
      rw [e]
      unfold wire_Frame.f
      rw [if_pos ((isB_iff _).2 (evBody_bytes _)), frame_ok HRT.out])
    have HTE := Aside0.mk (textEnc_len HNS.out)
    have HTX := Aside0.mk (show wire_Text.f name = some ((textEnc name).1, (textEnc name).2) from rfl)
    generalize (textEnc name).1 = tx at HFR HTE HTX
    generalize (textEnc name).2 = te at HTX
    have HNL := Aside0.mk (numsUpto_len ⟨kind, name, producer, epoch, place, timeout, now, yes⟩)
    have HN0 := Aside0.mk (show numsUpto ⟨kind, name, producer, epoch, place, timeout, now, yes⟩ 0 = [] from rfl)
    have HN1 := Aside0.mk (show numsUpto ⟨kind, name, producer, epoch, place, timeout, now, yes⟩ 1 = numsUpto ⟨kind, name, producer, epoch, place, timeout, now, yes⟩ 0 ++ lowL producer.toNat 6 from numsUpto_succ _ 0)
    have HN2 := Aside0.mk (show numsUpto ⟨kind, name, producer, epoch, place, timeout, now, yes⟩ 2 = numsUpto ⟨kind, name, producer, epoch, place, timeout, now, yes⟩ 1 ++ lowL epoch.toNat 6 from numsUpto_succ _ 1)
    have HN3 := Aside0.mk (show numsUpto ⟨kind, name, producer, epoch, place, timeout, now, yes⟩ 3 = numsUpto ⟨kind, name, producer, epoch, place, timeout, now, yes⟩ 2 ++ lowL place.toNat 6 from numsUpto_succ _ 2)
    have HN4 := Aside0.mk (show numsUpto ⟨kind, name, producer, epoch, place, timeout, now, yes⟩ 4 = numsUpto ⟨kind, name, producer, epoch, place, timeout, now, yes⟩ 3 ++ lowL timeout.toNat 6 from numsUpto_succ _ 3)
    have HN5 := Aside0.mk (show numsUpto ⟨kind, name, producer, epoch, place, timeout, now, yes⟩ 5 = numsUpto ⟨kind, name, producer, epoch, place, timeout, now, yes⟩ 4 ++ lowL now.toNat 6 from numsUpto_succ _ 4)
    have P1 := Aside0.mk (put_num h1.1 h1.2)
    have P2' := Aside0.mk (put_num h2.1 (by omega))
    have P3 := Aside0.mk (put_num h3.1 h3.2)
    have P4 := Aside0.mk (put_num h4.1 (by omega))
    have P5 := Aside0.mk (put_num h5.1 h5.2)
    clear h1 h2 h3 h4 h5
    generalize numsUpto ⟨kind, name, producer, epoch, place, timeout, now, yes⟩ = nu at HFR HNL HN0 HN1 HN2 HN3 HN4 HN5
    generalize encE ⟨kind, name, producer, epoch, place, timeout, now, yes⟩ = ee at HFR ⊢
    have key : ∀ (z : Int) (w3 : World) (B : Nat), (if yes = true then 1 else 0) = z → Below w.heap.size w w3 → w3.heap[w.heap.size]? = some (.cells #[.int .i64 kind, .string name, .int .i64 producer, .int .i64 epoch, .int .i64 place, .int .i64 timeout, .int .i64 now, .bool yes] 33 (0, 0)) → w.heap.size ≤ B → w3.heap[B]? = some (.cells #[.int .u8 (kind % 256), .int .u8 z] 5 (0, 0)) → Kd.R (Kd.int .u8) 5 w3 w.heap.size (fun _ => True) (.slice (some ⟨B, 0, none⟩) 2 2) [kind % 256, z] := by
      intro z w3 B hz hb hx hB hrow
      exact Kd.R_of_own ⟨rfl, .inr ⟨B, 2, _, rfl, hB, hrow, by simp, by decide, rfl, rfl⟩⟩ (fun _ _ => trivial)
    cases yes
    · go_enter Try.func25, Try.ntmps25
      go_upto_region 6 with (go_at_call 38; refine (HR.out _).mono ?_; rintro e w2 ⟨rfl, hb2⟩; rw [HRT.out]; have HB2 := Aside0.mk (below_step HB.out hb2); have HX2 := Aside0.mk (blk_below HX.out hb2); have y0 := (blk_cell HX2.out 0).trans rfl; have z7 : (w2.alloc (.cells #[.int .u8 (kind % 256), .int .u8 0] 5 (0, 0))).cell? ⟨w.heap.size, 7, none⟩ = some (.bool false) := (blk_cell (blk_alloc HX2.out _) 7).trans rfl; clear hb2)
      have hbl := below_alloc HB2.out (.cells #[.int .u8 (kind % 256), .int .u8 0] 5 (0, 0))
      have hxl := blk_alloc HX2.out (.cells #[.int .u8 (kind % 256), .int .u8 0] 5 (0, 0))
      have hrl := heap_alloc_new w2 (.cells #[.int .u8 (kind % 256), .int .u8 0] 5 (0, 0))
      have HO3 := Aside0.mk (key 0 _ _ rfl hbl hxl HB2.out.size hrl)
      have HB3 := Aside0.mk hbl
      have HX3 := Aside0.mk hxl
      clear hbl hxl hrl key y0 z7 HX2 HB HX
      generalize (w2.alloc (.cells #[.int .u8 (kind % 256), .int .u8 0] 5 (0, 0))) = w3 at HO3 HB3 HX3 ⊢
      --TAIL0
      have q1 := (blk_cell HX3.out 1).trans rfl
      have q2 := (blk_cell HX3.out 2).trans rfl
      have q3 := (blk_cell HX3.out 3).trans rfl
      have q4 := (blk_cell HX3.out 4).trans rfl
      have q5 := (blk_cell HX3.out 5).trans rfl
      have q6 := (blk_cell HX3.out 6).trans rfl
      have hF := Aside0.mk (HFR.out 0 rfl)
      clear HFR
      generalize hhd : ([kind % 256, 0] : List Int) = hd at HO3 hF
      have HHL := Aside0.mk (show hd.length = 2 by rw [← hhd]; rfl)
      clear hhd
      go_wp2_with fail
      clear q1 q2 q3 q4 q5 q6
      go_loopw [4, 6, 7, 8, 33] (fun u4 u6 u7 u8 i wr => ∃ m : Nat, m ≤ 5 ∧ i = .int .i64 (m : Int) ∧ Kd.R (Kd.int .u8) 5 wr w.heap.size (fun _ => True) u4 (hd ++ nu m) ∧ Below w.heap.size w wr ∧ wr.heap[w.heap.size]? = some (.cells #[.int .i64 kind, .string name, .int .i64 producer, .int .i64 epoch, .int .i64 place, .int .i64 timeout, .int .i64 now, .bool false] 33 (0, 0))) (fun _ _ _ _ i _ => 5 - (intOf i).toNat)
      case atStart => exact ⟨0, by decide, rfl, by rw [HN0.out, List.append_nil]; exact HO3.out, HB3.out, HX3.out⟩
      case round =>
        obtain ⟨m, hm, rfl, hO, hB, hX⟩ := hrel
        have HO4 := Aside0.mk hO
        have HB4 := Aside0.mk hB
        have HX4 := Aside0.mk hX
        obtain ⟨L, hL⟩ : ∃ L, hd ++ nu m = L := ⟨_, rfl⟩
        have HLN := Aside0.mk (show L.length = 2 + 6 * m by rw [← hL, List.length_append, HHL.out, HNL.out m])
        have HLE := Aside0.mk hL
        clear hO hB hX HO3 HB3 HX3
        rw [hL] at HO4
        clear hL
        obtain ⟨A4, c4, rfl⟩ := Kd.R_slice HO4.out
        by_cases hm5 : m = 5
        · subst hm5
          have q1 := (blk_cell HX4.out 1).trans rfl
          obtain ⟨M, hM⟩ : ∃ M, L ++ tx = M := ⟨_, rfl⟩
          have HFM := Aside0.mk (show wire_Frame.f 33 M = some (ee, 0) by rw [← hM, ← HLE.out]; exact hF.out)
          have HM := Aside0.mk hM
          clear hM
          go_wp2_with (first
              | (go_at_call 48; refine (wire_Text.calls name tx te _ HTX.out).mono ?_; rintro e w5 ⟨v5, rfl, hR5, hb5⟩; obtain ⟨A5, c5, rfl⟩ := Kd.R_slice hR5; have HC5 := Aside0.mk (Kd.R_reads' hR5).2.2; have HO5 := Aside0.mk (Kd.R_below HO4.out hb5); have HB5 := Aside0.mk (below_step HB4.out hb5); clear hR5 hb5 HO4 HB4 HX4)
              | (refine Kd.R_append_row (Value.int .u8) 0 w.heap.size rfl (.tmp 51) (.tmp 52) 64 5 (.int .u8 0) 1 rfl Try.underlying64 infoU8 rfl (by omega) _ L tx A5 _ c5 (fun _ => True) rfl rfl (fun _ _ => trivial) HO5.out HC5.out HB5.out HB5.out.size (by have a2 := HLN.out; have a3 := HTE.out; omega) ?_; intro v6 w6 ho6 hb6 hg6 hat6; rw [HM.out] at ho6; have HO6 := Aside0.mk ho6; have HB6 := Aside0.mk hb6; obtain ⟨A6, c6, rfl⟩ := Kd.R_slice ho6; clear ho6 hb6 hg6 hat6 HO5 HC5 HB5)
              | (go_at_call 49; refine (wire_Frame.calls 33 A6 c6 _ _ _ _ (Kd.R_reads' HO6.out).2.2 (Kd.R_reads' HO6.out).2.1 HFM.out).mono ?_; rintro e w7 ⟨v7, rfl, hR7, hb7⟩; have HR7 := Aside0.mk hR7; have HB7 := Aside0.mk hb7; clear hR7 hb7))
          exact bodyPost_ret (v := .tuple #[v7, .int .i64 0]) (by simp [results, Try.results25, go_sem]) rfl ⟨_, rfl, Kd.R_lower HR7.out HB6.out.size, below_step HB6.out HB7.out⟩
        · rcases (show m = 0 ∨ m = 1 ∨ m = 2 ∨ m = 3 ∨ m = 4 by omega) with rfl | rfl | rfl | rfl | rfl
          · have hix := idx5_0 producer epoch place timeout now wr
            rw [show (((0 : Nat)) : Int) = 0 from rfl] at hix ⊢
            go_wp2_with (first
              | (go_at_call 47; refine (wire_Put.calls producer 6 _ _ _ P1.out).mono ?_; rintro e w5 ⟨v5, rfl, hR5, hb5⟩; obtain ⟨A5, c5, rfl⟩ := Kd.R_slice hR5; have HC5 := Aside0.mk (Kd.R_reads' hR5).2.2; have HO5 := Aside0.mk (Kd.R_below HO4.out hb5); have HB5 := Aside0.mk (below_step HB4.out hb5); have HX5 := Aside0.mk (blk_below HX4.out hb5); clear hR5 hb5 HO4 HB4 HX4)
              | (refine Kd.R_append_row (Value.int .u8) 0 w.heap.size rfl (.tmp 41) (.tmp 42) 64 5 (.int .u8 0) 1 rfl Try.underlying64 infoU8 rfl (by omega) _ L (lowL producer.toNat 6) A5 _ c5 (fun _ => True) rfl rfl (fun _ _ => trivial) HO5.out HC5.out HB5.out HB5.out.size (by have a2 := HLN.out; rw [lowL_length]; omega) ?_; intro v6 w6 ho6 hb6 hg6 hat6; have HX6 := Aside0.mk (blk_grown HX5.out hg6 (row_not_box HO5.out HX5.out)); have HO6 := Aside0.mk ho6; have HB6 := Aside0.mk hb6; clear ho6 hb6 hg6 hat6 HO5 HC5 HB5 HX5))
            exact ⟨⟨1, by decide, rfl, by rw [HN1.out, ← List.append_assoc, HLE.out]; exact HO6.out, HB6.out, HX6.out⟩, by decide⟩
          · have hix := idx5_1 producer epoch place timeout now wr
            rw [show (((1 : Nat)) : Int) = 1 from rfl] at hix ⊢
            go_wp2_with (first
              | (go_at_call 47; refine (wire_Put.calls epoch 6 _ _ _ P2'.out).mono ?_; rintro e w5 ⟨v5, rfl, hR5, hb5⟩; obtain ⟨A5, c5, rfl⟩ := Kd.R_slice hR5; have HC5 := Aside0.mk (Kd.R_reads' hR5).2.2; have HO5 := Aside0.mk (Kd.R_below HO4.out hb5); have HB5 := Aside0.mk (below_step HB4.out hb5); have HX5 := Aside0.mk (blk_below HX4.out hb5); clear hR5 hb5 HO4 HB4 HX4)
              | (refine Kd.R_append_row (Value.int .u8) 0 w.heap.size rfl (.tmp 41) (.tmp 42) 64 5 (.int .u8 0) 1 rfl Try.underlying64 infoU8 rfl (by omega) _ L (lowL epoch.toNat 6) A5 _ c5 (fun _ => True) rfl rfl (fun _ _ => trivial) HO5.out HC5.out HB5.out HB5.out.size (by have a2 := HLN.out; rw [lowL_length]; omega) ?_; intro v6 w6 ho6 hb6 hg6 hat6; have HX6 := Aside0.mk (blk_grown HX5.out hg6 (row_not_box HO5.out HX5.out)); have HO6 := Aside0.mk ho6; have HB6 := Aside0.mk hb6; clear ho6 hb6 hg6 hat6 HO5 HC5 HB5 HX5))
            exact ⟨⟨2, by decide, rfl, by rw [HN2.out, ← List.append_assoc, HLE.out]; exact HO6.out, HB6.out, HX6.out⟩, by decide⟩
          · have hix := idx5_2 producer epoch place timeout now wr
            rw [show (((2 : Nat)) : Int) = 2 from rfl] at hix ⊢
            go_wp2_with (first
              | (go_at_call 47; refine (wire_Put.calls place 6 _ _ _ P3.out).mono ?_; rintro e w5 ⟨v5, rfl, hR5, hb5⟩; obtain ⟨A5, c5, rfl⟩ := Kd.R_slice hR5; have HC5 := Aside0.mk (Kd.R_reads' hR5).2.2; have HO5 := Aside0.mk (Kd.R_below HO4.out hb5); have HB5 := Aside0.mk (below_step HB4.out hb5); have HX5 := Aside0.mk (blk_below HX4.out hb5); clear hR5 hb5 HO4 HB4 HX4)
              | (refine Kd.R_append_row (Value.int .u8) 0 w.heap.size rfl (.tmp 41) (.tmp 42) 64 5 (.int .u8 0) 1 rfl Try.underlying64 infoU8 rfl (by omega) _ L (lowL place.toNat 6) A5 _ c5 (fun _ => True) rfl rfl (fun _ _ => trivial) HO5.out HC5.out HB5.out HB5.out.size (by have a2 := HLN.out; rw [lowL_length]; omega) ?_; intro v6 w6 ho6 hb6 hg6 hat6; have HX6 := Aside0.mk (blk_grown HX5.out hg6 (row_not_box HO5.out HX5.out)); have HO6 := Aside0.mk ho6; have HB6 := Aside0.mk hb6; clear ho6 hb6 hg6 hat6 HO5 HC5 HB5 HX5))
            exact ⟨⟨3, by decide, rfl, by rw [HN3.out, ← List.append_assoc, HLE.out]; exact HO6.out, HB6.out, HX6.out⟩, by decide⟩
          · have hix := idx5_3 producer epoch place timeout now wr
            rw [show (((3 : Nat)) : Int) = 3 from rfl] at hix ⊢
            go_wp2_with (first
              | (go_at_call 47; refine (wire_Put.calls timeout 6 _ _ _ P4.out).mono ?_; rintro e w5 ⟨v5, rfl, hR5, hb5⟩; obtain ⟨A5, c5, rfl⟩ := Kd.R_slice hR5; have HC5 := Aside0.mk (Kd.R_reads' hR5).2.2; have HO5 := Aside0.mk (Kd.R_below HO4.out hb5); have HB5 := Aside0.mk (below_step HB4.out hb5); have HX5 := Aside0.mk (blk_below HX4.out hb5); clear hR5 hb5 HO4 HB4 HX4)
              | (refine Kd.R_append_row (Value.int .u8) 0 w.heap.size rfl (.tmp 41) (.tmp 42) 64 5 (.int .u8 0) 1 rfl Try.underlying64 infoU8 rfl (by omega) _ L (lowL timeout.toNat 6) A5 _ c5 (fun _ => True) rfl rfl (fun _ _ => trivial) HO5.out HC5.out HB5.out HB5.out.size (by have a2 := HLN.out; rw [lowL_length]; omega) ?_; intro v6 w6 ho6 hb6 hg6 hat6; have HX6 := Aside0.mk (blk_grown HX5.out hg6 (row_not_box HO5.out HX5.out)); have HO6 := Aside0.mk ho6; have HB6 := Aside0.mk hb6; clear ho6 hb6 hg6 hat6 HO5 HC5 HB5 HX5))
            exact ⟨⟨4, by decide, rfl, by rw [HN4.out, ← List.append_assoc, HLE.out]; exact HO6.out, HB6.out, HX6.out⟩, by decide⟩
          · have hix := idx5_4 producer epoch place timeout now wr
            rw [show (((4 : Nat)) : Int) = 4 from rfl] at hix ⊢
            go_wp2_with (first
              | (go_at_call 47; refine (wire_Put.calls now 6 _ _ _ P5.out).mono ?_; rintro e w5 ⟨v5, rfl, hR5, hb5⟩; obtain ⟨A5, c5, rfl⟩ := Kd.R_slice hR5; have HC5 := Aside0.mk (Kd.R_reads' hR5).2.2; have HO5 := Aside0.mk (Kd.R_below HO4.out hb5); have HB5 := Aside0.mk (below_step HB4.out hb5); have HX5 := Aside0.mk (blk_below HX4.out hb5); clear hR5 hb5 HO4 HB4 HX4)
              | (refine Kd.R_append_row (Value.int .u8) 0 w.heap.size rfl (.tmp 41) (.tmp 42) 64 5 (.int .u8 0) 1 rfl Try.underlying64 infoU8 rfl (by omega) _ L (lowL now.toNat 6) A5 _ c5 (fun _ => True) rfl rfl (fun _ _ => trivial) HO5.out HC5.out HB5.out HB5.out.size (by have a2 := HLN.out; rw [lowL_length]; omega) ?_; intro v6 w6 ho6 hb6 hg6 hat6; have HX6 := Aside0.mk (blk_grown HX5.out hg6 (row_not_box HO5.out HX5.out)); have HO6 := Aside0.mk ho6; have HB6 := Aside0.mk hb6; clear ho6 hb6 hg6 hat6 HO5 HC5 HB5 HX5))
            exact ⟨⟨5, by decide, rfl, by rw [HN5.out, ← List.append_assoc, HLE.out]; exact HO6.out, HB6.out, HX6.out⟩, by decide⟩
      --END0
    · go_enter Try.func25, Try.ntmps25
      go_upto_region 6 with (go_at_call 38; refine (HR.out _).mono ?_; rintro e w2 ⟨rfl, hb2⟩; rw [HRT.out]; have HB2 := Aside0.mk (below_step HB.out hb2); have HX2 := Aside0.mk (blk_below HX.out hb2); have y0 := (blk_cell HX2.out 0).trans rfl; have z7 : (w2.alloc (.cells #[.int .u8 (kind % 256), .int .u8 0] 5 (0, 0))).cell? ⟨w.heap.size, 7, none⟩ = some (.bool true) := (blk_cell (blk_alloc HX2.out _) 7).trans rfl; have r1 := blk_frozen (heap_alloc_new w2 (.cells #[.int .u8 (kind % 256), .int .u8 0] 5 (0, 0))) 1; have r2 := (blk_cell (heap_alloc_new w2 (.cells #[.int .u8 (kind % 256), .int .u8 0] 5 (0, 0))) 1).trans rfl; clear hb2)
      have hbl := below_alloc HB2.out (.cells #[.int .u8 (kind % 256), .int .u8 1] 5 (0, 0))
      have hxl := blk_alloc HX2.out (.cells #[.int .u8 (kind % 256), .int .u8 1] 5 (0, 0))
      have hrl := heap_alloc_new w2 (.cells #[.int .u8 (kind % 256), .int .u8 1] 5 (0, 0))
      have HO3 := Aside0.mk (key 1 _ _ rfl hbl hxl HB2.out.size hrl)
      have HB3 := Aside0.mk hbl
      have HX3 := Aside0.mk hxl
      clear hbl hxl hrl key y0 z7 r1 r2 HX2 HB HX
      generalize (w2.alloc (.cells #[.int .u8 (kind % 256), .int .u8 1] 5 (0, 0))) = w3 at HO3 HB3 HX3 ⊢
      --TAIL1
      have q1 := (blk_cell HX3.out 1).trans rfl
      have q2 := (blk_cell HX3.out 2).trans rfl
      have q3 := (blk_cell HX3.out 3).trans rfl
      have q4 := (blk_cell HX3.out 4).trans rfl
      have q5 := (blk_cell HX3.out 5).trans rfl
      have q6 := (blk_cell HX3.out 6).trans rfl
      have hF := Aside0.mk (HFR.out 1 rfl)
      clear HFR
      generalize hhd : ([kind % 256, 1] : List Int) = hd at HO3 hF
      have HHL := Aside0.mk (show hd.length = 2 by rw [← hhd]; rfl)
      clear hhd
      go_wp2_with fail
      clear q1 q2 q3 q4 q5 q6
      go_loopw [4, 6, 7, 8, 33] (fun u4 u6 u7 u8 i wr => ∃ m : Nat, m ≤ 5 ∧ i = .int .i64 (m : Int) ∧ Kd.R (Kd.int .u8) 5 wr w.heap.size (fun _ => True) u4 (hd ++ nu m) ∧ Below w.heap.size w wr ∧ wr.heap[w.heap.size]? = some (.cells #[.int .i64 kind, .string name, .int .i64 producer, .int .i64 epoch, .int .i64 place, .int .i64 timeout, .int .i64 now, .bool true] 33 (0, 0))) (fun _ _ _ _ i _ => 5 - (intOf i).toNat)
      case atStart => exact ⟨0, by decide, rfl, by rw [HN0.out, List.append_nil]; exact HO3.out, HB3.out, HX3.out⟩
      case round =>
        obtain ⟨m, hm, rfl, hO, hB, hX⟩ := hrel
        have HO4 := Aside0.mk hO
        have HB4 := Aside0.mk hB
        have HX4 := Aside0.mk hX
        obtain ⟨L, hL⟩ : ∃ L, hd ++ nu m = L := ⟨_, rfl⟩
        have HLN := Aside0.mk (show L.length = 2 + 6 * m by rw [← hL, List.length_append, HHL.out, HNL.out m])
        have HLE := Aside0.mk hL
        clear hO hB hX HO3 HB3 HX3
        rw [hL] at HO4
        clear hL
        obtain ⟨A4, c4, rfl⟩ := Kd.R_slice HO4.out
        by_cases hm5 : m = 5
        · subst hm5
          have q1 := (blk_cell HX4.out 1).trans rfl
          obtain ⟨M, hM⟩ : ∃ M, L ++ tx = M := ⟨_, rfl⟩
          have HFM := Aside0.mk (show wire_Frame.f 33 M = some (ee, 0) by rw [← hM, ← HLE.out]; exact hF.out)
          have HM := Aside0.mk hM
          clear hM
          go_wp2_with (first
              | (go_at_call 48; refine (wire_Text.calls name tx te _ HTX.out).mono ?_; rintro e w5 ⟨v5, rfl, hR5, hb5⟩; obtain ⟨A5, c5, rfl⟩ := Kd.R_slice hR5; have HC5 := Aside0.mk (Kd.R_reads' hR5).2.2; have HO5 := Aside0.mk (Kd.R_below HO4.out hb5); have HB5 := Aside0.mk (below_step HB4.out hb5); clear hR5 hb5 HO4 HB4 HX4)
              | (refine Kd.R_append_row (Value.int .u8) 0 w.heap.size rfl (.tmp 51) (.tmp 52) 64 5 (.int .u8 0) 1 rfl Try.underlying64 infoU8 rfl (by omega) _ L tx A5 _ c5 (fun _ => True) rfl rfl (fun _ _ => trivial) HO5.out HC5.out HB5.out HB5.out.size (by have a2 := HLN.out; have a3 := HTE.out; omega) ?_; intro v6 w6 ho6 hb6 hg6 hat6; rw [HM.out] at ho6; have HO6 := Aside0.mk ho6; have HB6 := Aside0.mk hb6; obtain ⟨A6, c6, rfl⟩ := Kd.R_slice ho6; clear ho6 hb6 hg6 hat6 HO5 HC5 HB5)
              | (go_at_call 49; refine (wire_Frame.calls 33 A6 c6 _ _ _ _ (Kd.R_reads' HO6.out).2.2 (Kd.R_reads' HO6.out).2.1 HFM.out).mono ?_; rintro e w7 ⟨v7, rfl, hR7, hb7⟩; have HR7 := Aside0.mk hR7; have HB7 := Aside0.mk hb7; clear hR7 hb7))
          exact bodyPost_ret (v := .tuple #[v7, .int .i64 0]) (by simp [results, Try.results25, go_sem]) rfl ⟨_, rfl, Kd.R_lower HR7.out HB6.out.size, below_step HB6.out HB7.out⟩
        · rcases (show m = 0 ∨ m = 1 ∨ m = 2 ∨ m = 3 ∨ m = 4 by omega) with rfl | rfl | rfl | rfl | rfl
          · have hix := idx5_0 producer epoch place timeout now wr
            rw [show (((0 : Nat)) : Int) = 0 from rfl] at hix ⊢
            go_wp2_with (first
              | (go_at_call 47; refine (wire_Put.calls producer 6 _ _ _ P1.out).mono ?_; rintro e w5 ⟨v5, rfl, hR5, hb5⟩; obtain ⟨A5, c5, rfl⟩ := Kd.R_slice hR5; have HC5 := Aside0.mk (Kd.R_reads' hR5).2.2; have HO5 := Aside0.mk (Kd.R_below HO4.out hb5); have HB5 := Aside0.mk (below_step HB4.out hb5); have HX5 := Aside0.mk (blk_below HX4.out hb5); clear hR5 hb5 HO4 HB4 HX4)
              | (refine Kd.R_append_row (Value.int .u8) 0 w.heap.size rfl (.tmp 41) (.tmp 42) 64 5 (.int .u8 0) 1 rfl Try.underlying64 infoU8 rfl (by omega) _ L (lowL producer.toNat 6) A5 _ c5 (fun _ => True) rfl rfl (fun _ _ => trivial) HO5.out HC5.out HB5.out HB5.out.size (by have a2 := HLN.out; rw [lowL_length]; omega) ?_; intro v6 w6 ho6 hb6 hg6 hat6; have HX6 := Aside0.mk (blk_grown HX5.out hg6 (row_not_box HO5.out HX5.out)); have HO6 := Aside0.mk ho6; have HB6 := Aside0.mk hb6; clear ho6 hb6 hg6 hat6 HO5 HC5 HB5 HX5))
            exact ⟨⟨1, by decide, rfl, by rw [HN1.out, ← List.append_assoc, HLE.out]; exact HO6.out, HB6.out, HX6.out⟩, by decide⟩
          · have hix := idx5_1 producer epoch place timeout now wr
            rw [show (((1 : Nat)) : Int) = 1 from rfl] at hix ⊢
            go_wp2_with (first
              | (go_at_call 47; refine (wire_Put.calls epoch 6 _ _ _ P2'.out).mono ?_; rintro e w5 ⟨v5, rfl, hR5, hb5⟩; obtain ⟨A5, c5, rfl⟩ := Kd.R_slice hR5; have HC5 := Aside0.mk (Kd.R_reads' hR5).2.2; have HO5 := Aside0.mk (Kd.R_below HO4.out hb5); have HB5 := Aside0.mk (below_step HB4.out hb5); have HX5 := Aside0.mk (blk_below HX4.out hb5); clear hR5 hb5 HO4 HB4 HX4)
              | (refine Kd.R_append_row (Value.int .u8) 0 w.heap.size rfl (.tmp 41) (.tmp 42) 64 5 (.int .u8 0) 1 rfl Try.underlying64 infoU8 rfl (by omega) _ L (lowL epoch.toNat 6) A5 _ c5 (fun _ => True) rfl rfl (fun _ _ => trivial) HO5.out HC5.out HB5.out HB5.out.size (by have a2 := HLN.out; rw [lowL_length]; omega) ?_; intro v6 w6 ho6 hb6 hg6 hat6; have HX6 := Aside0.mk (blk_grown HX5.out hg6 (row_not_box HO5.out HX5.out)); have HO6 := Aside0.mk ho6; have HB6 := Aside0.mk hb6; clear ho6 hb6 hg6 hat6 HO5 HC5 HB5 HX5))
            exact ⟨⟨2, by decide, rfl, by rw [HN2.out, ← List.append_assoc, HLE.out]; exact HO6.out, HB6.out, HX6.out⟩, by decide⟩
          · have hix := idx5_2 producer epoch place timeout now wr
            rw [show (((2 : Nat)) : Int) = 2 from rfl] at hix ⊢
            go_wp2_with (first
              | (go_at_call 47; refine (wire_Put.calls place 6 _ _ _ P3.out).mono ?_; rintro e w5 ⟨v5, rfl, hR5, hb5⟩; obtain ⟨A5, c5, rfl⟩ := Kd.R_slice hR5; have HC5 := Aside0.mk (Kd.R_reads' hR5).2.2; have HO5 := Aside0.mk (Kd.R_below HO4.out hb5); have HB5 := Aside0.mk (below_step HB4.out hb5); have HX5 := Aside0.mk (blk_below HX4.out hb5); clear hR5 hb5 HO4 HB4 HX4)
              | (refine Kd.R_append_row (Value.int .u8) 0 w.heap.size rfl (.tmp 41) (.tmp 42) 64 5 (.int .u8 0) 1 rfl Try.underlying64 infoU8 rfl (by omega) _ L (lowL place.toNat 6) A5 _ c5 (fun _ => True) rfl rfl (fun _ _ => trivial) HO5.out HC5.out HB5.out HB5.out.size (by have a2 := HLN.out; rw [lowL_length]; omega) ?_; intro v6 w6 ho6 hb6 hg6 hat6; have HX6 := Aside0.mk (blk_grown HX5.out hg6 (row_not_box HO5.out HX5.out)); have HO6 := Aside0.mk ho6; have HB6 := Aside0.mk hb6; clear ho6 hb6 hg6 hat6 HO5 HC5 HB5 HX5))
            exact ⟨⟨3, by decide, rfl, by rw [HN3.out, ← List.append_assoc, HLE.out]; exact HO6.out, HB6.out, HX6.out⟩, by decide⟩
          · have hix := idx5_3 producer epoch place timeout now wr
            rw [show (((3 : Nat)) : Int) = 3 from rfl] at hix ⊢
            go_wp2_with (first
              | (go_at_call 47; refine (wire_Put.calls timeout 6 _ _ _ P4.out).mono ?_; rintro e w5 ⟨v5, rfl, hR5, hb5⟩; obtain ⟨A5, c5, rfl⟩ := Kd.R_slice hR5; have HC5 := Aside0.mk (Kd.R_reads' hR5).2.2; have HO5 := Aside0.mk (Kd.R_below HO4.out hb5); have HB5 := Aside0.mk (below_step HB4.out hb5); have HX5 := Aside0.mk (blk_below HX4.out hb5); clear hR5 hb5 HO4 HB4 HX4)
              | (refine Kd.R_append_row (Value.int .u8) 0 w.heap.size rfl (.tmp 41) (.tmp 42) 64 5 (.int .u8 0) 1 rfl Try.underlying64 infoU8 rfl (by omega) _ L (lowL timeout.toNat 6) A5 _ c5 (fun _ => True) rfl rfl (fun _ _ => trivial) HO5.out HC5.out HB5.out HB5.out.size (by have a2 := HLN.out; rw [lowL_length]; omega) ?_; intro v6 w6 ho6 hb6 hg6 hat6; have HX6 := Aside0.mk (blk_grown HX5.out hg6 (row_not_box HO5.out HX5.out)); have HO6 := Aside0.mk ho6; have HB6 := Aside0.mk hb6; clear ho6 hb6 hg6 hat6 HO5 HC5 HB5 HX5))
            exact ⟨⟨4, by decide, rfl, by rw [HN4.out, ← List.append_assoc, HLE.out]; exact HO6.out, HB6.out, HX6.out⟩, by decide⟩
          · have hix := idx5_4 producer epoch place timeout now wr
            rw [show (((4 : Nat)) : Int) = 4 from rfl] at hix ⊢
            go_wp2_with (first
              | (go_at_call 47; refine (wire_Put.calls now 6 _ _ _ P5.out).mono ?_; rintro e w5 ⟨v5, rfl, hR5, hb5⟩; obtain ⟨A5, c5, rfl⟩ := Kd.R_slice hR5; have HC5 := Aside0.mk (Kd.R_reads' hR5).2.2; have HO5 := Aside0.mk (Kd.R_below HO4.out hb5); have HB5 := Aside0.mk (below_step HB4.out hb5); have HX5 := Aside0.mk (blk_below HX4.out hb5); clear hR5 hb5 HO4 HB4 HX4)
              | (refine Kd.R_append_row (Value.int .u8) 0 w.heap.size rfl (.tmp 41) (.tmp 42) 64 5 (.int .u8 0) 1 rfl Try.underlying64 infoU8 rfl (by omega) _ L (lowL now.toNat 6) A5 _ c5 (fun _ => True) rfl rfl (fun _ _ => trivial) HO5.out HC5.out HB5.out HB5.out.size (by have a2 := HLN.out; rw [lowL_length]; omega) ?_; intro v6 w6 ho6 hb6 hg6 hat6; have HX6 := Aside0.mk (blk_grown HX5.out hg6 (row_not_box HO5.out HX5.out)); have HO6 := Aside0.mk ho6; have HB6 := Aside0.mk hb6; clear ho6 hb6 hg6 hat6 HO5 HC5 HB5 HX5))
            exact ⟨⟨5, by decide, rfl, by rw [HN5.out, ← List.append_assoc, HLE.out]; exact HO6.out, HB6.out, HX6.out⟩, by decide⟩
      --END1
end Go.Proofs.Ytofegigbhohebaa.Hand
