/- The document's net in memory, and what its Luck does. -/
import Derived.Test.YtckeahjlfopaaaaHN7
namespace Go.Proofs.Ytckeahjlfopaaaa.Hand
open Go.RowKit Go.Proofs.Ytckeahjlfopaaaa Go.Proofs.YtckeahjlfopaaaaW.PrintWords Go.Proofs.YtckeahjlfopaaaaW.PrintLast
set_option linter.unusedVariables false
set_option linter.unusedSimpArgs false
theorem infoR : (Try.prog.info? 73).map (fun i => (i.zero, i.size, i.bytes)) = some (some (.agg #[.int .i64 0, .slice none 0 0]), 2, 32) := by kernel_rfl
/-- Numbers that are read the same wherever F is as it was. -/
def SC (F : Nat → Prop) (W : World) (A : Option Addr) (l : List Int) : Prop := ∀ W' : World, (∀ k, F k → W'.heap[k]? = W.heap[k]?) → Kd.C (Kd.int .i64) W' A l.length l
section
variable {F G : Nat → Prop} {W W' : World} {A : Option Addr} {l : List Int}
theorem SC.c (h : SC F W A l) : Kd.C (Kd.int .i64) W A l.length l := h W (fun _ _ => rfl)
theorem SC.move (h : SC F W A l) (hm : ∀ k, F k → W'.heap[k]? = W.heap[k]?) : SC F W' A l := fun W2 h2 => h W2 (fun k hk => (h2 k hk).trans (hm k hk))
theorem SC.fr (h : SC F W A l) (hf : Fr G W W') (hl : ∀ k, F k → k < W.heap.size) (hd : ∀ k, F k → ¬ G k) : SC F W' A l := h.move (fun k hk => hf.block k (hl k hk) (hd k hk))
theorem SC.of_R {e base c : Nat} {ok : Nat → Prop} (h : Kd.R (Kd.int .i64) e W base ok (.slice A l.length c) l) : SC (fun k => base ≤ k ∧ k < W.heap.size) W A l :=
  fun W' hm => (Kd.R_reads' (Kd.R_step (Kd.R_bound h) (fun k hk _ => hm k ⟨hk.2.1, hk.2.2.1⟩))).2.2
theorem SC.tail {x : Int} {c : Nat} (h : SC F W A (x :: l)) (hc : (x :: l).length ≤ c) : SC F W (if c = 1 then A else A.map (·.add 1)) l := fun W' hm => by
  have := Kd.C_drop (m := 1) (h W' hm) (by simp) hc
  simp only [Nat.one_mul, List.drop_succ_cons, List.drop_zero] at this
  exact this
theorem SC.nil (F : Nat → Prop) (W : World) : SC F W none [] := fun W' _ => (Kd.R_reads' (Kd.R_nil (Kd.int .i64) 3 W' 0 (fun _ => True))).2.2
end
/-- The document's net at g: luck that waits (which is never written), late messages; all of it lies in F. -/
structure RI (W : World) (F : Nat → Prop) (g : Nat) (lu : List Int) (la : List (Int × List Int)) : Prop where
  ex : ∃ FW FL A c vm, lu.length ≤ c ∧ W.heap[g]? = some (.cells #[.slice A lu.length c, vm] 45 (0, 0)) ∧ SC FW W A lu ∧ Kd.R k60 73 W 0 FL vm la ∧ (∀ k, FW k → F k ∧ k ≠ g ∧ ¬ FL k) ∧ (∀ k, FL k → F k ∧ k ≠ g)
  own : F g
  lt : ∀ k, F k → k < W.heap.size
section
variable {W W' : World} {F G FW FL : Nat → Prop} {g c : Nat} {A : Option Addr} {vm : Value} {lu lu' : List Int} {la la' : List (Int × List Int)}
theorem RI.frame (h : RI W F g lu la) (hf : Fr G W W') (hd : ∀ k, F k → ¬ G k) : RI W' F g lu la := by
  obtain ⟨⟨FW, FL, A, c, vm, hc, h1, h2, h3, h4, h5⟩, ho, hl⟩ := h
  exact ⟨⟨FW, FL, A, c, vm, hc, hf.blk h1 (hd g ho), h2.fr hf (fun k hk => hl k (h4 k hk).1) (fun k hk => hd k (h4 k hk).1), hf.R h3 (fun k hk => hd k (h5 k hk).1), h4, h5⟩, ho, fun k hk => Nat.lt_of_lt_of_le (hl k hk) hf.size⟩
theorem RI.below (h : RI W F g lu la) (hb : Below W.heap.size W W') : RI W' F g lu la := h.frame (G := fun _ => False) (Fr.of_below hb) (fun _ _ => id)
/-- Luck that waits is another, in new rows. -/
theorem RI.luck_step {A' : Option Addr} {c' : Nat} (h3 : Kd.R k60 73 W 0 FL vm la) (h5 : ∀ k, FL k → F k ∧ k ≠ g) (ho : F g) (hl : ∀ k, F k → k < W.heap.size)
    (hc : lu'.length ≤ c') (h1 : W'.heap[g]? = some (.cells #[.slice A' lu'.length c', vm] 45 (0, 0))) (h2 : SC (fun k => W.heap.size ≤ k ∧ k < W'.heap.size) W' A' lu') (hf : Fr (fun k => k = g) W W') : RI W' (more F W W') g lu' la ∧ Fr F W W' := by
  refine ⟨⟨⟨_, FL, A', c', vm, hc, h1, h2, hf.R h3 (fun k hk he => (h5 k hk).2 he), fun k hk => ⟨.inr hk, fun e => ?_, fun hk' => ?_⟩, fun k hk => ⟨.inl (h5 k hk).1, (h5 k hk).2⟩⟩, .inl ho, fun k hk => ?_⟩, hf.mono (fun q hq => hq ▸ ho)⟩
  · have := hl g ho; omega
  · have := hl k (h5 k hk').1; omega
  · rcases hk with h | h
    · exact Nat.lt_of_lt_of_le (hl k h) hf.size
    · exact h.2
/-- Luck is cut: the same cells, further on. -/
theorem RI.cut_step {A' : Option Addr} {c' : Nat} (h3 : Kd.R k60 73 W 0 FL vm la) (h4 : ∀ k, FW k → F k ∧ k ≠ g ∧ ¬ FL k) (h5 : ∀ k, FL k → F k ∧ k ≠ g) (ho : F g) (hl : ∀ k, F k → k < W.heap.size)
    (hc : lu'.length ≤ c') (h1 : W'.heap[g]? = some (.cells #[.slice A' lu'.length c', vm] 45 (0, 0))) (h2 : SC FW W A' lu') (hf : Fr (fun k => k = g) W W') : RI W' F g lu' la ∧ Fr F W W' :=
  ⟨⟨⟨FW, FL, A', c', vm, hc, h1, h2.fr hf (fun k hk => hl k (h4 k hk).1) (fun k hk => (h4 k hk).2.1), hf.R h3 (fun k hk he => (h5 k hk).2 he), h4, h5⟩, ho, fun k hk => Nat.lt_of_lt_of_le (hl k hk) hf.size⟩, hf.mono (fun q hq => hq ▸ ho)⟩
/-- The messages are others. -/
theorem RI.late_step {vm' : Value} (hc : lu.length ≤ c) (h2 : SC FW W A lu) (h3 : Kd.R k60 73 W 0 FL vm la) (h4 : ∀ k, FW k → F k ∧ k ≠ g ∧ ¬ FL k) (h5 : ∀ k, FL k → F k ∧ k ≠ g) (ho : F g) (hl : ∀ k, F k → k < W.heap.size)
    (h1 : W'.heap[g]? = some (.cells #[.slice A lu.length c, vm'] 45 (0, 0))) (h6 : Kd.R k60 73 W' 0 (fun k => FL k ∨ W.heap.size ≤ k) vm' la') (hf : Fr (fun k => k = g ∨ some k = vm.ownBlock) W W') : RI W' (more F W W') g lu la' ∧ Fr F W W' := by
  have h7 := Kd.R_bound h6
  refine ⟨⟨⟨FW, _, A, c, vm', hc, h1, h2.fr hf (fun k hk => hl k (h4 k hk).1) (fun k hk he => ?_), h7, fun k hk => ⟨.inl (h4 k hk).1, (h4 k hk).2.1, fun he => ?_⟩, fun k hk => ⟨?_, fun e => ?_⟩⟩, .inl ho, fun k hk => ?_⟩, hf.mono (fun q hq => ?_)⟩
  · rcases he with he | he
    · exact (h4 k hk).2.1 he
    · exact (h4 k hk).2.2 (h3.1 k he.symm)
  · rcases he.1 with he | he
    · exact (h4 k hk).2.2 he
    · have := hl k (h4 k hk).1; omega
  · rcases hk.1 with h | h
    · exact .inl (h5 k h).1
    · exact .inr ⟨h, hk.2.2.1⟩
  · rcases hk.1 with h | h
    · exact (h5 k h).2 e
    · have := hl g ho; omega
  · rcases hk with h | h
    · exact Nat.lt_of_lt_of_le (hl k h) hf.size
    · exact h.2
  · rcases hq with rfl | hq
    · exact ho
    · exact (h5 q (h3.1 q hq.symm)).1
end
set_option maxHeartbeats 1600000 in
set_option maxRecDepth 100000 in
theorem luck_r {W : World} {F : Nat → Prop} {g : Nat} {lu : List Int} {la : List (Int × List Int)} (h : RI W F g lu la) (A : Option Addr) (c : Nat) (l : List Int) (hr : Kd.C (Kd.int .i64) W A l.length l) (hl : (lu.length + l.length) * 8 ≤ 140737488355328) :
    Calls Try.prog 24 #[.pointer (some ⟨g, 0, none⟩), .slice A l.length c] W fun e W' => e = .returned (.tuple #[]) ∧ ∃ F', RI W' F' g (lu ++ l) la ∧ (∀ k, F' k → F k ∨ W.heap.size ≤ k) ∧ Fr F W W' := by
  obtain ⟨⟨FW, FL, A0, c0, vm, hc, h1, h2, h3, h4, h5⟩, ho, hlt⟩ := h
  have H := Aside0.mk (And.intro h1 (And.intro h2.c (And.intro h3 (And.intro h5 (And.intro ho hlt)))))
  have HR := Aside0.mk hr
  have hne := hlt g ho
  clear h1 h2 h3 h4 h5 ho hlt hr hc
  go_enter Try.func24, Try.ntmps24
  go_wp2_with (first | ((with_reducible refine gate_dst (N := 5) rfl ?_); refine Kd.R_lit (Kd.int .i64) (w0 := W) W.heap.size 3 ?hg (N := 5) ?hd (xs := ([] : List Int)) (inner := []) (ok := fun _ => True) (okp := fun _ => True) ?hr ?hp (fun _ hk => hk) trivial (Below.refl _ _) (Nat.le_refl _) (by simp) ?_; (case hg => rfl); (case hd => rfl); (case hr => first | (go_simp; done) | (go_simp; rfl)); (case hp => exact Reps.none _ _); intro vl_ wl_ HOl_ hbl_ hgl_ hatl_; have z0 : wl_.cell? ⟨g, 0, none⟩ = some (.slice A0 lu.length c0) := (blk_cell (blk_below H.out.1 hbl_) 0).trans rfl; clear hgl_ hatl_) | (refine Kd.R_append_row (Value.int .i64) 0 W.heap.size rfl (.tmp 5) (.tmp 9) 27 3 (.int .i64 0) 8 rfl Try.underlying27 infoI rfl (by omega) vl_ [] lu A0 _ c0 (fun _ => True) rfl rfl (fun _ _ => trivial) HOl_ (Kd.C_below H.out.2.1 hbl_) hbl_ (below_size hbl_) (by simp; omega) ?_; intro v1_ W1_ ho1_ hb1_ hg_ hat_; clear HOl_ hbl_ hg_ hat_ z0) | (refine Kd.R_append_row (Value.int .i64) 0 W.heap.size rfl (.tmp 10) (.tmp 11) 27 3 (.int .i64 0) 8 rfl Try.underlying27 infoI rfl (by omega) v1_ ([] ++ lu) l A _ c (fun _ => True) rfl rfl (fun _ _ => trivial) ho1_ (Kd.C_below HR.out hb1_) hb1_ (below_size hb1_) (by simp; omega) ?_; intro v2_ W2_ ho2_ hb2_ hg_ hat_; rw [List.nil_append] at ho2_; obtain ⟨A2, c2, rfl⟩ := Kd.R_slice ho2_; have BK2 := Aside0.mk (blk_below H.out.1 hb2_); have f2 := blk_frozen BK2.out 0; have z2 : W2_.cell? ⟨g, 0, none⟩ = some (.slice A0 lu.length c0) := (blk_cell BK2.out 0).trans rfl; have HO2 := Aside0.mk ho2_; have HB2 := Aside0.mk hb2_; clear ho1_ hb1_ hg_ hat_ ho2_ hb2_))
  have hcc := Kd.R_reads' HO2.out
  refine bodyPost_end (results_none rfl _ _ _) rfl ⟨rfl, ?_⟩
  have K := RI.luck_step (W' := W2_.setCell ⟨g, 0, none⟩ (.slice A2 (lu.length + l.length) c2)) (lu' := lu ++ l) H.out.2.2.1 H.out.2.2.2.1 H.out.2.2.2.2.1 H.out.2.2.2.2.2 hcc.2.1 (by have h := blk_put BK2.out 0 (.slice A2 (lu ++ l).length c2) rfl; rwa [List.length_append] at h ⊢)
    ((SC.of_R HO2.out).fr (Fr.set (F := fun k => k = g) W2_ g 0 _ rfl) (fun k hk => hk.2) (fun k hk he => by omega) |> fun h => by simpa [World.setCell] using h)
    ((Fr.of_below HB2.out).trans (Fr.set (F := fun k => k = g) _ g 0 _ rfl) (fun q hq => .inl hq))
  exact ⟨_, K.1, fun k hk => hk.imp id (fun h => h.1), K.2⟩
end Go.Proofs.Ytckeahjlfopaaaa.Hand
