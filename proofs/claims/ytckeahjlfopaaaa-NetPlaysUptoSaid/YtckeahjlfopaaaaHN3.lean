/- net's small functions: Clone, put, take. -/
import Derived.Test.YtckeahjlfopaaaaHN2
namespace Go.Proofs.Ytckeahjlfopaaaa.Hand
open Go.RowKit Go.Proofs.Ytckeahjlfopaaaa Go.Proofs.YtckeahjlfopaaaaW.PrintWords Go.Proofs.YtckeahjlfopaaaaW.PrintLast
set_option linter.unusedVariables false
set_option linter.unusedSimpArgs false
theorem eq_nil0 (n c : Nat) (w : World) : (binOp .eql 22 (.slice none n c) (.slice none 0 0)).run Try.prog w = .ok (.bool true) w := by kernel_rfl
theorem eq_nil1 (ad : Addr) (n c : Nat) (w : World) : (binOp .eql 22 (.slice (some ad) n c) (.slice none 0 0)).run Try.prog w = .ok (.bool false) w := by kernel_rfl
set_option maxHeartbeats 1600000 in
set_option maxRecDepth 100000 in
theorem clone_c (A : Option Addr) (c : Nat) (l : List Int) (W : World) (hr : Kd.C (Kd.int .u8) W A l.length l) (hl : l.length ≤ 140737488351232) :
    Calls Try.prog 22 #[.slice A l.length c] W fun e W' => ∃ v, e = .returned v ∧ Kd.R (Kd.int .u8) 5 W' W.heap.size (fun _ => True) v l ∧ Below W.heap.size W W' := by
  have HR := Aside0.mk hr
  rcases A with _ | ad
  · have h0 : l = [] := by
      rcases Nat.eq_zero_or_pos l.length with h0 | h0
      · exact List.eq_nil_of_length_eq_zero h0
      · obtain ⟨ad, h, _⟩ := hr.2.2 h0
        cases h
    subst h0
    clear hr
    have q0 := eq_nil0
    go_enter Try.func22, Try.ntmps22
    go_wp2_with fail
    go_ret
    exact ⟨_, rfl, Kd.R_nil _ _ _ _ _, Below.refl _ _⟩
  · clear hr
    have q0 := eq_nil1
    go_enter Try.func22, Try.ntmps22
    go_wp2_with (first | ((with_reducible refine gate_dst (N := 5) rfl ?_); refine Kd.R_lit (Kd.int .u8) (w0 := W) W.heap.size 5 ?hg (N := 5) ?hd (xs := ([] : List Int)) (inner := []) (ok := fun _ => True) (okp := fun _ => True) ?hr ?hp (fun _ hk => hk) trivial (Below.refl _ _) (Nat.le_refl _) (by simp) ?_; (case hg => rfl); (case hd => rfl); (case hr => first | (go_simp; done) | (go_simp; rfl)); (case hp => exact Reps.none _ _); intro vl_ wl_ HOl_ hbl_ hgl_ hatl_; have HCl_ := Kd.C_below HR.out hbl_; clear hgl_ hatl_) | (refine Kd.R_append_row (Value.int .u8) 0 W.heap.size rfl (.tmp 5) (.tmp 6) 22 5 (.int .u8 0) 1 rfl Try.underlying22 infoB rfl (by omega) vl_ [] l (some ad) _ c (fun _ => True) rfl rfl (fun _ _ => trivial) HOl_ HCl_ hbl_ (below_size hbl_) (by simp; omega) ?_; intro v1_ W1_ ho_ hb_ hg_ hat_; clear HOl_ HCl_ hbl_ hg_ hat_))
    go_ret
    exact ⟨_, rfl, ho_, hb_⟩
set_option maxHeartbeats 1600000 in
set_option maxRecDepth 100000 in
theorem put_int (g : Nat) (v vm : Value) (made : Bool) (lu l : List Int) (A : Option Addr) (c : Nat) (ok : Nat → Prop) (W : World) (hg0 : W.heap[g]? = some (.cells #[v, vm, .bool made] 54 (0, 0))) (HO0 : Kd.R (Kd.int .i64) 3 W 0 ok v lu) (hr : Kd.C (Kd.int .i64) W A l.length l)
    (hfresh : ∀ k, W.heap.size ≤ k → ok k) (hl : (lu.length + l.length) * 8 ≤ 140737488355328) :
    Calls Try.prog 19 #[.pointer (some ⟨g, 0, none⟩), .slice A l.length c] W fun e W' => e = .returned (.tuple #[]) ∧ ∃ v', W'.heap[g]? = some (.cells #[v', vm, .bool made] 54 (0, 0)) ∧ Kd.R (Kd.int .i64) 3 W' 0 ok v' (lu ++ l) ∧ Fr (fun k => k = g ∨ some k = v.ownBlock) W W' ∧ (v'.ownBlock = v.ownBlock ∨ ∃ b, v'.ownBlock = some b ∧ W.heap.size ≤ b) := by
  have HO := Aside0.mk HO0
  have HR := Aside0.mk hr
  have BK := Aside0.mk hg0
  have hne := Aside0.mk (Kd.R_ne HO0 hg0 (by decide))
  obtain ⟨A0, c0, rfl⟩ := Kd.R_slice HO0
  have z0 : W.cell? ⟨g, 0, none⟩ = some (.slice A0 lu.length c0) := (blk_cell hg0 0).trans rfl
  clear hr HO0 hg0
  go_enter Try.func19, Try.ntmps19
  go_wp2_with (first | (refine Kd.R_append_row (Value.int .i64) 0 0 rfl (.tmp 8) (.tmp 9) 27 3 (.int .i64 0) 8 rfl Try.underlying27 infoI rfl (by omega) _ lu l A _ c ok rfl rfl hfresh HO.out HR.out (Below.refl _ _) (Nat.zero_le _) hl ?_; intro v1_ W1_ ho_ hb_ hg_ hat_; obtain ⟨A1, c1, rfl⟩ := Kd.R_slice ho_; have BK1 := Aside0.mk (blk_grown BK.out hg_ hne.out); have z1 : W1_.cell? ⟨g, 0, none⟩ = some (.slice A0 lu.length c0) := (blk_cell BK1.out 0).trans rfl; have f1 := blk_frozen BK1.out 0; have HO1 := Aside0.mk ho_; clear ho_ hb_))
  refine bodyPost_end (results_none rfl _ _ _) rfl ⟨rfl, .slice A1 (lu ++ l).length c1, ?_, ?_, ?_, ?_⟩
  · have h := blk_put BK1.out 0 (.slice A1 (lu ++ l).length c1) rfl
    rwa [List.length_append] at h ⊢
  · exact Kd.R_set HO1.out BK1.out (by decide) 0 (.slice A1 (lu.length + l.length) c1)
  · exact (Fr.of_grown (F := fun k => k = g ∨ some k = (Value.slice A0 lu.length c0).ownBlock) hg_ (fun q hq => .inr hq)).trans (Fr.set (F := fun k => k = g) _ g 0 _ rfl) (fun q hq => .inl (.inl hq))
  · exact hat_
set_option maxHeartbeats 1600000 in
set_option maxRecDepth 100000 in
/-- One message more (out of a row of one, as the program makes it). -/
theorem put_msg (g : Nat) (v vm : Value) (made : Bool) (la : List (Int × List Int)) (m : Int × List Int) (A : Option Addr) (c : Nat) (ok okp : Nat → Prop) (W : World) (hg0 : W.heap[g]? = some (.cells #[v, vm, .bool made] 54 (0, 0))) (HO0 : Kd.R k60 60 W 0 ok vm la)
    (hx : ReadsRow (k60.M W 0 okp) 2 W A 1 [m]) (hokp : ∀ k, okp k → ok k ∧ some k ≠ vm.ownBlock) (hfresh : ∀ k, W.heap.size ≤ k → ok k) (hl : (la.length + 1) * 32 ≤ 140737488355328) :
    Calls Try.prog 21 #[.pointer (some ⟨g, 1, none⟩), .slice A 1 c] W fun e W' => e = .returned (.tuple #[]) ∧ ∃ vm', W'.heap[g]? = some (.cells #[v, vm', .bool made] 54 (0, 0)) ∧ Kd.R k60 60 W' 0 ok vm' (la ++ [m]) ∧ Fr (fun k => k = g ∨ some k = vm.ownBlock) W W' ∧ (vm'.ownBlock = vm.ownBlock ∨ ∃ b, vm'.ownBlock = some b ∧ W.heap.size ≤ b) := by
  have HO := Aside0.mk HO0
  have BK := Aside0.mk hg0
  have HX := Aside0.mk hx
  have hne := Aside0.mk (Kd.R_ne HO0 hg0 (by decide))
  obtain ⟨A0, c0, rfl⟩ := Kd.R_slice HO0
  have z0 : W.cell? ⟨g, 1, none⟩ = some (.slice A0 la.length c0) := (blk_cell hg0 1).trans rfl
  clear hx HO0 hg0
  go_enter Try.func21, Try.ntmps21
  go_wp2_with (first | (refine Kd.R_append_rows k60 (Rr := k60.M W 0 okp) 0 rfl (.tmp 8) (.tmp 9) 50 60 (.agg #[.int .i64 0, .slice none 0 0]) 32 rfl Try.underlying50 infoM rfl (by decide) (by decide) _ la [m] A _ c ok okp rfl rfl HO.out HX.out (fun _ _ h => h) hokp hfresh (Below.refl _ _) (Nat.zero_le _) hl ?_; intro v1_ W1_ ho_ hb_ hg_ hat_; obtain ⟨A1, c1, rfl⟩ := Kd.R_slice ho_; have BK1 := Aside0.mk (blk_grown BK.out hg_ hne.out); have z1 : W1_.cell? ⟨g, 1, none⟩ = some (.slice A0 la.length c0) := (blk_cell BK1.out 1).trans rfl; have f1 := blk_frozen BK1.out 1; have HO1 := Aside0.mk ho_; clear ho_ hb_))
  refine bodyPost_end (results_none rfl _ _ _) rfl ⟨rfl, .slice A1 (la ++ [m]).length c1, ?_, ?_, ?_, ?_⟩
  · have h := blk_put BK1.out 1 (.slice A1 (la ++ [m]).length c1) rfl
    rwa [List.length_append] at h ⊢
  · exact Kd.R_set HO1.out BK1.out (by decide) 1 (.slice A1 (la.length + 1) c1)
  · exact (Fr.of_grown (F := fun k => k = g ∨ some k = (Value.slice A0 la.length c0).ownBlock) hg_ (fun q hq => .inr hq)).trans (Fr.set (F := fun k => k = g) _ g 1 _ rfl) (fun q hq => .inl (.inl hq))
  · exact hat_
set_option maxHeartbeats 1600000 in
set_option maxRecDepth 100000 in
theorem take_int_no (g : Nat) (v vm : Value) (made : Bool) (lu : List Int) (k : Int) (W : World) (hg0 : W.heap[g]? = some (.cells #[v, vm, .bool made] 54 (0, 0))) (ok : Nat → Prop) (HO0 : Kd.R (Kd.int .i64) 3 W 0 ok v lu) (hk : k < 0 ∨ lu.length ≤ k) :
    Calls Try.prog 20 #[.pointer (some ⟨g, 0, none⟩), .int .i64 k] W fun e W' => e = .returned (.tuple #[.int .i64 0, .bool false]) ∧ W = W' := by
  obtain ⟨A0, c0, rfl⟩ := Kd.R_slice HO0
  have z0 : W.cell? ⟨g, 0, none⟩ = some (.slice A0 lu.length c0) := (blk_cell hg0 0).trans rfl
  clear HO0 hg0
  by_cases h0 : k < 0
  · go_enter Try.func20, Try.ntmps20
    go_wp2_with fail
    go_ret2
    exact ⟨rfl, rfl⟩
  · have h1 : (lu.length : Int) ≤ k := by omega
    go_enter Try.func20, Try.ntmps20
    go_wp2_with fail
    go_ret2
    exact ⟨rfl, rfl⟩
set_option maxHeartbeats 1600000 in
set_option maxRecDepth 100000 in
theorem take_int (g : Nat) (v vm : Value) (made : Bool) (lu : List Int) (k : Nat) (W : World) (hg0 : W.heap[g]? = some (.cells #[v, vm, .bool made] 54 (0, 0))) (ok : Nat → Prop) (HO0 : Kd.R (Kd.int .i64) 3 W 0 ok v lu) (hk : k < lu.length) :
    Calls Try.prog 20 #[.pointer (some ⟨g, 0, none⟩), .int .i64 k] W fun e W' => e = .returned (.tuple #[.int .i64 (lu.getD k 0), .bool true]) ∧ ∃ v', W'.heap[g]? = some (.cells #[v', vm, .bool made] 54 (0, 0)) ∧ Kd.R (Kd.int .i64) 3 W' 0 ok v' (lu.eraseIdx k) ∧ Fr (fun k => k = g ∨ some k = v.ownBlock) W W' ∧ v'.ownBlock = v.ownBlock := by
  have hmax := Kd.C_max (Kd.R_reads HO0).choose_spec.choose_spec.2.2
  obtain ⟨gl, cap, rfl, _, _, _⟩ := Kd.R_form HO0 (by omega)
  have HO := Aside0.mk HO0
  have BK := Aside0.mk hg0
  have hne := Aside0.mk (Kd.R_ne HO0 hg0 (by decide))
  have z0 : W.cell? ⟨g, 0, none⟩ = some (.slice (some ⟨gl, 0, none⟩) lu.length cap) := (blk_cell hg0 0).trans rfl
  have hc := (Kd.R_cell (0 : Int) HO0 (k : Int) (by omega) (by omega)).1
  rw [Int.toNat_natCast] at hc
  rw [show rdOf (0 : Int) lu (k : Int) = lu.getD k 0 by unfold rdOf; rw [Int.toNat_natCast]] at hc
  clear HO0 hg0
  go_enter Try.func20, Try.ntmps20
  go_wp2_with fail
  refine (del_int gl lu.length cap k lu ok W HO.out hk).mono ?_
  rintro e W1 ⟨rfl, ho1, hg1⟩
  have HO1 := Aside0.mk ho1
  have BK1 := Aside0.mk (blk_grown BK.out hg1 hne.out)
  have z1 : W1.cell? ⟨g, 0, none⟩ = some (.slice (some ⟨gl, 0, none⟩) lu.length cap) := (blk_cell BK1.out 0).trans rfl
  have f1 := blk_frozen BK1.out 0
  clear ho1 hc z0
  go_wp2_with fail
  go_ret2
  refine ⟨by simp [List.getD_eq_getElem?_getD, hk], .slice (some ⟨gl, 0, none⟩) (lu.length - 1) cap, blk_put BK1.out 0 _ rfl, Kd.R_set HO1.out BK1.out (by decide) 0 _, ?_, rfl⟩
  exact (Fr.of_grown (F := fun k => k = g ∨ some k = (Value.slice (some ⟨gl, 0, none⟩) lu.length cap).ownBlock) hg1 (fun q hq => .inr (by rw [hq]; simp [Value.ownBlock]))).trans (Fr.set (F := fun k => k = g) _ g 0 _ rfl) (fun q hq => .inl (.inl hq))
theorem k60_openM {w : World} {base : Nat} {ok : Nat → Prop} {x : Int × List Int} {cs : List Value} (h : k60.M w base ok x cs) : ∃ vb, cs = [.int .i64 x.1, vb] ∧ Kd.R (Kd.int .u8) 5 w base ok vb x.2 := by
  obtain ⟨a, b, rfl, ha, v, rfl, hR⟩ := h
  have ha' : a = [.int .i64 x.1] := ha
  subst ha'
  exact ⟨v, rfl, hR⟩
theorem k60_mkM {w : World} {base : Nat} {ok : Nat → Prop} {x : Int × List Int} {vb : Value} (h : Kd.R (Kd.int .u8) 5 w base ok vb x.2) : k60.M w base ok x [.int .i64 x.1, vb] := ⟨[.int .i64 x.1], [vb], rfl, rfl, vb, rfl, h⟩
def zM : Obj := .cells #[.int .i64 0, .slice none 0 0] 60 (0, 0)
set_option maxHeartbeats 1600000 in
set_option maxRecDepth 100000 in
theorem take_msg_no (g : Nat) (v vm : Value) (made : Bool) (la : List (Int × List Int)) (k : Int) (W : World) (hg0 : W.heap[g]? = some (.cells #[v, vm, .bool made] 54 (0, 0))) (ok : Nat → Prop) (HO0 : Kd.R k60 60 W 0 ok vm la) (hk : k < 0 ∨ la.length ≤ k) :
    Calls Try.prog 23 #[.pointer (some ⟨g, 1, none⟩), .int .i64 k] W fun e W' => e = .returned (.tuple #[.agg #[.int .i64 0, .slice none 0 0], .bool false]) ∧ Below W.heap.size W W' := by
  obtain ⟨A0, c0, rfl⟩ := Kd.R_slice HO0
  have z0 : (W.alloc (.cells #[.int .i64 0, .slice none 0 0] 60 (0, 0))).cell? ⟨g, 1, none⟩ = some (.slice A0 la.length c0) := (blk_cell (blk_alloc hg0 _) 1).trans rfl
  clear HO0 hg0
  by_cases h0 : k < 0
  · go_enter Try.func23, Try.ntmps23
    go_wp2_with fail
    exact bodyPost_ret (v := .tuple #[.agg #[.int .i64 0, .slice none 0 0], .bool false]) (by simp [results, Try.results23, go_sem]) rfl ⟨rfl, below_alloc (Below.refl _ _) _⟩
  · have h1 : (la.length : Int) ≤ k := by omega
    go_enter Try.func23, Try.ntmps23
    go_wp2_with fail
    exact bodyPost_ret (v := .tuple #[.agg #[.int .i64 0, .slice none 0 0], .bool false]) (by simp [results, Try.results23, go_sem]) rfl ⟨rfl, below_alloc (Below.refl _ _) _⟩
set_option maxHeartbeats 1600000 in
set_option maxRecDepth 100000 in
theorem take_msg (g : Nat) (v vm : Value) (made : Bool) (la : List (Int × List Int)) (k : Nat) (W : World) (hg0 : W.heap[g]? = some (.cells #[v, vm, .bool made] 54 (0, 0))) (ok : Nat → Prop) (HO0 : Kd.R k60 60 W 0 ok vm la) (hk : k < la.length) :
    Calls Try.prog 23 #[.pointer (some ⟨g, 1, none⟩), .int .i64 k] W fun e W' => ∃ A c, e = .returned (.tuple #[.agg #[.int .i64 (la.getD k (0, [])).1, .slice A (la.getD k (0, [])).2.length c], .bool true]) ∧ Kd.C (Kd.int .u8) W' A (la.getD k (0, [])).2.length (la.getD k (0, [])).2 ∧
      ∃ vm', W'.heap[g]? = some (.cells #[v, vm', .bool made] 54 (0, 0)) ∧ Kd.R k60 60 W' 0 ok vm' (la.eraseIdx k) ∧ Fr (fun k => k = g ∨ some k = vm.ownBlock) W W' ∧ vm'.ownBlock = vm.ownBlock := by
  have hmax := Kd.C_max (Kd.R_reads HO0).choose_spec.choose_spec.2.2
  replace HO0 : Kd.R k60 60 W 0 (fun k => ok k ∧ k < W.heap.size) vm la := Kd.R_mono (Kd.R_bound HO0) (fun _ h => ⟨h.1, h.2.2.1⟩)
  obtain ⟨gm, cap, rfl, _, hlt, cellsm, htm⟩ := Kd.R_form HO0 (by omega)
  obtain ⟨c2, hcl, hM, hcc, _⟩ := Kd.R_elem HO0 (0, []) (k : Int) (by omega) (by omega)
  rw [Int.toNat_natCast] at hM hcc
  obtain ⟨vb, rfl, hRb⟩ := k60_openM hM
  obtain ⟨Ab, cb, rfl⟩ := Kd.R_slice hRb
  have hne := Aside0.mk (Kd.R_ne HO0 hg0 (by decide))
  have z0 : (W.alloc (.cells #[.int .i64 0, .slice none 0 0] 60 (0, 0))).cell? ⟨g, 1, none⟩ = some (.slice (some ⟨gm, 0, none⟩) la.length cap) := (blk_cell (blk_alloc hg0 _) 1).trans rfl
  have x0 : (W.alloc (.cells #[.int .i64 0, .slice none 0 0] 60 (0, 0))).cell? ⟨gm, k * 2, none⟩ = some (.int .i64 (la.getD k (0, [])).1) := ((below_alloc (Below.refl _ W) zM).cell (p := ⟨gm, k * 2, none⟩) hlt).trans (hcc 0 _ rfl)
  have x1 : (W.alloc (.cells #[.int .i64 0, .slice none 0 0] 60 (0, 0))).cell? ⟨gm, k * 2 + 1, none⟩ = some (.slice Ab (la.getD k (0, [])).2.length cb) := ((below_alloc (Below.refl _ W) zM).cell (p := ⟨gm, k * 2 + 1, none⟩) hlt).trans (hcc 1 _ rfl)
  have hneg : W.heap.size ≠ g := Nat.ne_of_gt (blk_lt hg0)
  have HF := Aside0.mk HO0
  generalize hel : la.getD k (0, []) = el at *
  have hZ : ∃ Z2 : Obj, Z2 = .cells #[.int .i64 el.1, .slice Ab el.2.length cb] 60 (0, 0) := ⟨_, rfl⟩
  obtain ⟨Z2, hZ2⟩ := hZ
  have HO := Aside0.mk (Kd.R_alloc HO0 Z2)
  have BK := Aside0.mk (blk_alloc hg0 Z2)
  have HB := Aside0.mk (Kd.R_alloc hRb Z2)
  have BZ := Aside0.mk (heap_alloc_new W Z2)
  have z1 : (W.alloc (.cells #[.int .i64 el.1, .slice Ab el.2.length cb] 60 (0, 0))).cell? ⟨g, 1, none⟩ = some (.slice (some ⟨gm, 0, none⟩) la.length cap) := (blk_cell (blk_alloc hg0 _) 1).trans rfl
  clear HO0 hg0 hM hcc hRb htm hcl
  go_enter Try.func23, Try.ntmps23
  go_wp2_with fail
  rw [← hZ2]
  refine (del_msg gm la.length cap k la (fun k => ok k ∧ k < W.heap.size) _ HO.out hk).mono ?_
  rintro e W1 ⟨rfl, ho1, hg1⟩
  have HO1 := Aside0.mk ho1
  have BK1 := Aside0.mk (blk_grown BK.out hg1 hne.out)
  have BZ1 := Aside0.mk (blk_grown BZ.out hg1 (by simp [Value.ownBlock]; omega))
  have HB1 := Aside0.mk (Kd.R_grown HB.out hg1 (fun k hk e => hk.2 (by injection e)))
  subst hZ2
  have z2 : W1.cell? ⟨g, 1, none⟩ = some (.slice (some ⟨gm, 0, none⟩) la.length cap) := (blk_cell BK1.out 1).trans rfl
  have f2 := blk_frozen BK1.out 1
  have y0 : W1.cell? ⟨W.heap.size, 0, none⟩ = some (.int .i64 el.1) := (blk_cell BZ1.out 0).trans rfl
  have y1 : W1.cell? ⟨W.heap.size, 1, none⟩ = some (.slice Ab el.2.length cb) := (blk_cell BZ1.out 1).trans rfl
  have h0 := blk_frozen BZ1.out 0
  have h1 := blk_frozen BZ1.out 1
  have hnge : g ≠ W.heap.size := Ne.symm hneg
  clear ho1 z0 z1 x0 x1
  go_wp2_with fail
  have hv : ∃ v' : Value, v' = .slice (some ⟨gm, 0, none⟩) (la.length - 1) cap := ⟨_, rfl⟩
  obtain ⟨v', hv'⟩ := hv
  rw [← hv'] at HO1 ⊢
  have BK2 := blk_put BK1.out 1 v' rfl
  have BZ2 := (Below.heap_setCell W1 ⟨g, 1, none⟩ v' W.heap.size hneg).trans BZ1.out
  have HB2 := Kd.R_set HB1.out BK1.out (by decide) 1 v'
  have HO2 := Kd.R_set HO1.out BK1.out (by decide) 1 v'
  have HB3 := Kd.R_far (p := ⟨W.heap.size, 1, none⟩) (Kd.R_far (p := ⟨W.heap.size, 0, none⟩) HB2 (fun k hk => by have := hk.1.2; simp only; omega) (.int .i64 el.1)) (fun k hk => by have := hk.1.2; simp only; omega) (.slice Ab el.2.length cb)
  have HO3 := Kd.R_far (p := ⟨W.heap.size, 1, none⟩) (Kd.R_far (p := ⟨W.heap.size, 0, none⟩) HO2 (fun k hk => by have := hk.2; simp only; omega) (.int .i64 el.1)) (fun k hk => by have := hk.2; simp only; omega) (.slice Ab el.2.length cb)
  refine bodyPost_ret (v := .tuple #[.agg #[.int .i64 el.1, .slice Ab el.2.length cb], .bool true]) (by simp [results, Try.results23, go_sem, y0, y1, h0, h1, hneg, hnge]) rfl ⟨Ab, cb, rfl, (Kd.R_reads' HB3).2.2, v', ?_, Kd.R_mono HO3 (fun _ h => h.1), ?_, ?_⟩
  · exact (Below.heap_setCell _ ⟨W.heap.size, 1, none⟩ _ g hnge).trans ((Below.heap_setCell _ ⟨W.heap.size, 0, none⟩ _ g hnge).trans BK2)
  · have q1 : Fr (fun k => k = g ∨ some k = (Value.slice (some ⟨gm, 0, none⟩) la.length cap).ownBlock) W W1 := (Fr.of_below (below_alloc (Below.refl _ W) _)).trans (Fr.of_grown (F := fun k => some k = (Value.slice (some ⟨gm, 0, none⟩) la.length cap).ownBlock) hg1 (fun q hq => by rw [hq]; simp [Value.ownBlock])) (fun q hq => .inl (.inr hq))
    refine ((q1.trans (Fr.set (F := fun k => k = g) _ g 1 _ rfl) (fun q hq => .inl (.inl hq))).trans (Fr.set (F := fun k => k = W.heap.size) _ W.heap.size 0 _ rfl) (fun q hq => .inr (by omega))).trans (Fr.set (F := fun k => k = W.heap.size) _ W.heap.size 1 _ rfl) (fun q hq => .inr (by omega))
  · rw [hv']; simp [Value.ownBlock]
end Go.Proofs.Ytckeahjlfopaaaa.Hand
