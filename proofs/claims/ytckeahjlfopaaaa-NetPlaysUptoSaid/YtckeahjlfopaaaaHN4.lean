/- A Net in memory, and what its methods do. -/
import Derived.Test.YtckeahjlfopaaaaHN3
namespace Go.Proofs.Ytckeahjlfopaaaa.Hand
open Go.RowKit Go.Proofs.Ytckeahjlfopaaaa Go.Proofs.YtckeahjlfopaaaaW.PrintWords Go.Proofs.YtckeahjlfopaaaaW.PrintLast
set_option linter.unusedVariables false
set_option linter.unusedSimpArgs false
/-- A net at g: luck that waits, late messages; all of it lies in F. -/
structure NI (W : World) (F : Nat → Prop) (g : Nat) (lu : List Int) (la : List (Int × List Int)) : Prop where
  ex : ∃ v vm, W.heap[g]? = some (.cells #[v, vm, .bool true] 54 (0, 0)) ∧ Kd.R (Kd.int .i64) 3 W 0 F v lu ∧ Kd.R k60 60 W 0 F vm la
  own : F g
  lt : ∀ k, F k → k < W.heap.size
def more (F : Nat → Prop) (W W' : World) : Nat → Prop := fun k => F k ∨ (W.heap.size ≤ k ∧ k < W'.heap.size)
section
variable {W W' : World} {F G : Nat → Prop} {g : Nat} {lu lu' : List Int} {la la' : List (Int × List Int)}
theorem NI.frame (h : NI W F g lu la) (hf : Fr G W W') (hd : ∀ k, F k → ¬ G k) : NI W' F g lu la := by
  obtain ⟨⟨v, vm, h1, h2, h3⟩, ho, hl⟩ := h
  exact ⟨⟨v, vm, hf.blk h1 (hd g ho), hf.R h2 hd, hf.R h3 hd⟩, ho, fun k hk => Nat.lt_of_lt_of_le (hl k hk) hf.size⟩
theorem NI.below (h : NI W F g lu la) (hb : Below W.heap.size W W') : NI W' F g lu la := h.frame (G := fun _ => False) (Fr.of_below hb) (fun _ _ => id)
theorem NI.grow (h : NI W F g lu la) (hs : ∀ k, F k → G k) (hl : ∀ k, G k → k < W.heap.size) : NI W G g lu la := by
  obtain ⟨⟨v, vm, h1, h2, h3⟩, ho, _⟩ := h
  exact ⟨⟨v, vm, h1, Kd.R_mono h2 hs, Kd.R_mono h3 hs⟩, hs g ho, hl⟩
theorem NI.luck_step {v vm v' : Value} (h0 : W.heap[g]? = some (.cells #[v, vm, .bool true] 54 (0, 0))) (hv : Kd.R (Kd.int .i64) 3 W 0 F v lu) (hvm : Kd.R k60 60 W 0 F vm la) (ho : F g) (hl : ∀ k, F k → k < W.heap.size)
    (h1 : W'.heap[g]? = some (.cells #[v', vm, .bool true] 54 (0, 0))) (hv' : Kd.R (Kd.int .i64) 3 W' 0 (fun k => F k ∨ W.heap.size ≤ k) v' lu') (hf : Fr (fun k => k = g ∨ some k = v.ownBlock) W W') : NI W' (more F W W') g lu' la ∧ Fr F W W' := by
  have hvmt := Kd.R_apart' (Kd.R_types hvm h0 (by decide)) (Kd.R_typed hv) (by decide)
  refine ⟨⟨⟨v', vm, h1, Kd.R_mono (Kd.R_bound hv') (fun k hk => ?_), Kd.R_mono (hf.R hvmt (fun k hk hc => ?_)) (fun k hk => .inl hk.1.1)⟩, .inl ho, fun k hk => ?_⟩, hf.mono (fun q hq => ?_)⟩
  · rcases hk.1 with h | h
    · exact .inl h
    · exact .inr ⟨h, hk.2.2.1⟩
  · rcases hc with rfl | hc
    · exact hk.1.2 rfl
    · exact hk.2 hc
  · rcases hk with h | h
    · exact Nat.lt_of_lt_of_le (hl k h) hf.size
    · exact h.2
  · rcases hq with rfl | hq
    · exact ho
    · exact hv.1 q hq.symm
theorem NI.late_step {v vm vm' : Value} (h0 : W.heap[g]? = some (.cells #[v, vm, .bool true] 54 (0, 0))) (hv : Kd.R (Kd.int .i64) 3 W 0 F v lu) (hvm : Kd.R k60 60 W 0 F vm la) (ho : F g) (hl : ∀ k, F k → k < W.heap.size)
    (h1 : W'.heap[g]? = some (.cells #[v, vm', .bool true] 54 (0, 0))) (hv' : Kd.R k60 60 W' 0 (fun k => F k ∨ W.heap.size ≤ k) vm' la') (hf : Fr (fun k => k = g ∨ some k = vm.ownBlock) W W') : NI W' (more F W W') g lu la' ∧ Fr F W W' := by
  have hvt := Kd.R_apart' (Kd.R_types hv h0 (by decide)) (Kd.R_typed hvm) (by decide)
  refine ⟨⟨⟨v, vm', h1, Kd.R_mono (hf.R hvt (fun k hk hc => ?_)) (fun k hk => .inl hk.1.1), Kd.R_mono (Kd.R_bound hv') (fun k hk => ?_)⟩, .inl ho, fun k hk => ?_⟩, hf.mono (fun q hq => ?_)⟩
  · rcases hc with rfl | hc
    · exact hk.1.2 rfl
    · exact hk.2 hc
  · rcases hk.1 with h | h
    · exact .inl h
    · exact .inr ⟨h, hk.2.2.1⟩
  · rcases hk with h | h
    · exact Nat.lt_of_lt_of_le (hl k h) hf.size
    · exact h.2
  · rcases hq with rfl | hq
    · exact ho
    · exact hvm.1 q hq.symm
end
theorem eq_p0 (g : Nat) (w : World) : (binOp .neq 23 (.pointer (some ⟨g, 0, none⟩)) (.pointer none)).run Try.prog w = .ok (.bool true) w := by kernel_rfl
theorem eq_p1 (w : World) : (binOp .neq 23 (.pointer none) (.pointer none)).run Try.prog w = .ok (.bool false) w := by kernel_rfl
theorem made_c (g : Nat) (v vm : Value) (b : Bool) (W : World) (h : W.heap[g]? = some (.cells #[v, vm, .bool b] 54 (0, 0))) : Calls Try.prog 16 #[.pointer (some ⟨g, 0, none⟩)] W fun e W' => e = .returned (.bool b) ∧ W = W' := by
  have z : W.cell? ⟨g, 2, none⟩ = some (.bool b) := (blk_cell h 2).trans rfl
  have q := eq_p0
  clear h
  go_enter Try.func16, Try.ntmps16
  go_wp2_with fail
  go_ret
  exact ⟨rfl, rfl⟩
theorem made_nil (W : World) : Calls Try.prog 16 #[.pointer none] W fun e W' => e = .returned (.bool false) ∧ W = W' := by
  have q := eq_p1
  go_enter Try.func16, Try.ntmps16
  go_wp2_with fail
  go_ret
  exact ⟨rfl, rfl⟩
theorem none_c (g : Nat) (v vm : Value) (b : Bool) (W : World) (h : W.heap[g]? = some (.cells #[v, vm, .bool b] 54 (0, 0))) : Calls Try.prog 18 #[.pointer (some ⟨g, 0, none⟩)] W fun e W' => e = .returned (.bool (!b)) ∧ W = W' := by
  go_enter Try.func18, Try.ntmps18
  go_wp2_with fail
  refine (made_c g v vm b W h).mono ?_
  rintro e w ⟨rfl, rfl⟩
  go_wp2_with fail
  go_ret
  exact ⟨rfl, rfl⟩
theorem none_nil (W : World) : Calls Try.prog 18 #[.pointer none] W fun e W' => e = .returned (.bool true) ∧ W = W' := by
  go_enter Try.func18, Try.ntmps18
  go_wp2_with fail
  refine (made_nil W).mono ?_
  rintro e w ⟨rfl, rfl⟩
  go_wp2_with fail
  go_ret
  exact ⟨rfl, rfl⟩
theorem new_c (W : World) : Calls Try.prog 7 #[] W fun e W' => e = .returned (.pointer (some ⟨W.heap.size, 0, none⟩)) ∧ NI W' (fun k => W.heap.size ≤ k ∧ k < W'.heap.size) W.heap.size [] [] ∧ Below W.heap.size W W' := by
  go_enter Try.func7, Try.ntmps7
  go_wp2_with fail
  go_ret
  refine ⟨rfl, ⟨⟨.slice none 0 0, .slice none 0 0, heap_alloc_new W _, Kd.R_nil _ _ _ _ _, Kd.R_nil _ _ _ _ _⟩, ⟨Nat.le_refl _, by simp⟩, fun k hk => hk.2⟩, below_alloc (Below.refl _ _) _⟩
end Go.Proofs.Ytckeahjlfopaaaa.Hand
