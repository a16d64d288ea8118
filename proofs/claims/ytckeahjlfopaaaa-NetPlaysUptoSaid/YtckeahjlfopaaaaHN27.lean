/- What the two laws over lists of calls say of these lists; two nets, by turns. -/
import Derived.Test.YtckeahjlfopaaaaHN26
namespace Go.Proofs.Ytckeahjlfopaaaa.Hand
open Go.RowKit Go.Proofs.Ytckeahjlfopaaaa Go.Proofs.YtckeahjlfopaaaaW.PrintWords Go.Proofs.YtckeahjlfopaaaaW.PrintLast
set_option linter.unusedVariables false
set_option linter.unusedSimpArgs false
def sumL : List OpV → Nat
  | [] => 0
  | o :: r => o.l.length + sumL r
theorem sumL_take : ∀ (ops : List OpV) (j : Nat) (h : j < ops.length), sumL (ops.take (j + 1)) = sumL (ops.take j) + ops[j].l.length
  | o :: r, 0, h => by simp [sumL]
  | o :: r, j + 1, h => by
    have := sumL_take r j (by simpa using h)
    simp only [List.take_succ_cons, sumL, List.getElem_cons_succ, this]; omega
theorem sumL_le : ∀ (ops : List OpV) (j : Nat), sumL (ops.take j) ≤ sumL ops
  | [], j => by simp [sumL]
  | o :: r, 0 => by simp [sumL]
  | o :: r, j + 1 => by
    have := sumL_le r j
    simp only [List.take_succ_cons, sumL]; omega
/-- An op's cells, in any world behind the first. -/
theorem op_cells {w : World} {A : Option Addr} {ops : List OpV} (h : Kd.C k35 w A ops.length ops) (j : Nat) (hj : j < ops.length) : ∃ ad A1 c1 A2 c2, A = some ad ∧ Kd.C (Kd.int .u8) w A1 ops[j].b.length ops[j].b ∧ Kd.C (Kd.int .i64) w A2 ops[j].l.length ops[j].l ∧
    ∀ W : World, Below w.heap.size w W → W.cell? (ad.add (j * 4)) = some (.int .i64 ops[j].kind) ∧ W.cell? ⟨(ad.add (j * 4)).block, (ad.add (j * 4)).off + 1, none⟩ = some (.int .i64 ops[j].n) ∧ W.cell? ⟨(ad.add (j * 4)).block, (ad.add (j * 4)).off + 2, none⟩ = some (.slice A1 ops[j].b.length c1) ∧ W.cell? ⟨(ad.add (j * 4)).block, (ad.add (j * 4)).off + 3, none⟩ = some (.slice A2 ops[j].l.length c2) := by
  obtain ⟨ad, c, e, hl, hK, hc⟩ := ReadsRow.get_ h ⟨0, 0, [], []⟩ (j : Int) (by omega) (by omega)
  rw [Int.toNat_natCast, show ops.getD j ⟨0, 0, [], []⟩ = ops[j] by rw [List.getD_eq_getElem?_getD, List.getElem?_eq_getElem hj]; rfl] at hK
  rw [Int.toNat_natCast] at hc
  obtain ⟨A1, c1, A2, c2, rfl, _, h1, _, h2⟩ := k35_open hK
  refine ⟨ad, A1, c1, A2, c2, e, h1, h2, fun W hb => ?_⟩
  have g := fun i u (hu : [Value.int .i64 ops[j].kind, .int .i64 ops[j].n, .slice A1 ops[j].b.length c1, .slice A2 ops[j].l.length c2][i]? = some u) => (hb.cell (World.block_lt_of_cell? w _ (hc i u hu))).trans (hc i u hu)
  have aa : ∀ i, (ad.add (j * 4)).add i = ad.add (j * 4 + i) := fun i => add_add ad _ _
  have ff : ∀ i, (⟨(ad.add (j * 4)).block, (ad.add (j * 4)).off + (i + 1), none⟩ : Addr) = ad.add (j * 4 + (i + 1)) := fun i => by rw [← aa]; rfl
  rw [ff 0, ff 1, ff 2]
  exact ⟨g 0 _ rfl, g 1 _ rfl, g 2 _ rfl, g 3 _ rfl⟩
theorem eq_q0 (g : Nat) (w : World) : (binOp .eql 23 (.pointer (some ⟨g, 0, none⟩)) (.pointer none)).run Try.prog w = .ok (.bool false) w := by kernel_rfl
/-- Two pairs of nets, each apart from the other, all behind w. -/
structure PP (w W : World) (g r m q : Nat) (lu : List Int) (la : List (Int × List Int)) (lu2 : List Int) (la2 : List (Int × List Int)) : Prop where
  ex : ∃ F G : Nat → Prop, PI W F g r lu la ∧ PI W G m q lu2 la2 ∧ (∀ k, F k → ¬ G k) ∧ (∀ k, F k → w.heap.size ≤ k) ∧ (∀ k, G k → w.heap.size ≤ k)
  bel : Below w.heap.size w W
section
variable {w W W' : World} {g r m q : Nat} {lu lu' lu2 lu2' : List Int} {la la' la2 la2' : List (Int × List Int)} {F G F' G' : Nat → Prop}
theorem PP.below (h : PP w W g r m q lu la lu2 la2) (hb : Below W.heap.size W W') : PP w W' g r m q lu la lu2 la2 := by
  obtain ⟨⟨F, G, h1, h2, h3, h4, h5⟩, h6⟩ := h
  exact ⟨⟨F, G, h1.below hb, h2.below hb, h3, h4, h5⟩, below_step h6 hb⟩
theorem PP.one (h1 : PI W F g r lu la) (h2 : PI W G m q lu2 la2) (h3 : ∀ k, F k → ¬ G k) (h4 : ∀ k, F k → w.heap.size ≤ k) (h5 : ∀ k, G k → w.heap.size ≤ k) (h6 : Below w.heap.size w W)
    (k1 : PI W' F' g r lu' la') (k2 : ∀ k, F' k → F k ∨ W.heap.size ≤ k) (k3 : Fr F W W') : PP w W' g r m q lu' la' lu2 la2 :=
  ⟨⟨F', G, k1, h2.frame k3 (fun k hg hf => h3 k hf hg), fun k hk hg => (k2 k hk).elim (fun h => h3 k h hg) (fun h => by have := h2.lt k hg; omega), fun k hk => (k2 k hk).elim (h4 k) (fun h => Nat.le_trans h6.size h), h5⟩, h6.trans (k3.below h4 h6.size)⟩
theorem PP.two (h1 : PI W F g r lu la) (h2 : PI W G m q lu2 la2) (h3 : ∀ k, F k → ¬ G k) (h4 : ∀ k, F k → w.heap.size ≤ k) (h5 : ∀ k, G k → w.heap.size ≤ k) (h6 : Below w.heap.size w W)
    (k1 : PI W' G' m q lu2' la2') (k2 : ∀ k, G' k → G k ∨ W.heap.size ≤ k) (k3 : Fr G W W') : PP w W' g r m q lu la lu2' la2' :=
  ⟨⟨F, G', h1.frame k3 h3, k1, fun k hk hg => (k2 k hg).elim (fun h => h3 k hk h) (fun h => by have := h1.lt k hk; omega), h4, fun k hk => (k2 k hk).elim (h5 k) (fun h => Nat.le_trans h6.size h)⟩, h6.trans (k3.below h5 h6.size)⟩
end
/-- What a call on the first pair leaves. -/
def Post1 (w : World) (g r m q a c : Nat) (lu2 : List Int) (la2 : List (Int × List Int)) (e : Ending) (W' : World) : Prop :=
  e = .returned (.bool true) ∧ ∃ lu la, PP w W' g r m q lu la lu2 la2 ∧ lu.length ≤ a ∧ la.length ≤ c ∧ ∀ m ∈ la, m.2.length ≤ 140737488351232
def Post2 (w : World) (g r m q a c : Nat) (lu : List Int) (la : List (Int × List Int)) (e : Ending) (W' : World) : Prop :=
  e = .returned (.bool true) ∧ ∃ lu2 la2, PP w W' g r m q lu la lu2 la2 ∧ lu2.length ≤ a ∧ la2.length ≤ c ∧ ∀ m ∈ la2, m.2.length ≤ 140737488351232
section
variable {w W : World} {g r m q : Nat} {lu lu2 : List Int} {la la2 : List (Int × List Int)}
theorem step_1 (h : PP w W g r m q lu la lu2 la2) (ki nn : Int) (A1 A2 : Option Addr) (c1 c2 : Nat) (b l : List Int) (hr1 : Kd.C (Kd.int .u8) w A1 b.length b) (hr2 : Kd.C (Kd.int .i64) w A2 l.length l)
    (hlu : (lu.length + l.length) * 8 ≤ 140737488355328) (hla : (la.length + 1) * 32 ≤ 140737488355328) (hb : b.length ≤ 140737488351232) (hm : ∀ m ∈ la, m.2.length ≤ 140737488351232) :
    Calls Try.prog 17 #[.pointer (some ⟨g, 0, none⟩), .pointer (some ⟨r, 0, none⟩), .agg #[.int .i64 ki, .int .i64 nn, .slice A1 b.length c1, .slice A2 l.length c2]] W (Post1 w g r m q (lu.length + l.length) (la.length + 1) lu2 la2) := by
  obtain ⟨⟨F, G, h1, h2, h3, h4, h5⟩, h6⟩ := h
  refine (step_c h1 ki nn A1 A2 c1 c2 b l (fun W' hf => Kd.C_below hr1 (h6.trans (hf.below h4 h6.size))) (fun W' hf => Kd.C_below hr2 (h6.trans (hf.below h4 h6.size))) hlu hla hb hm).mono ?_
  rintro e W' ⟨he, F', lu', la', k1, k2, k3, k4, k5, k6⟩
  exact ⟨he, lu', la', PP.one h1 h2 h3 h4 h5 h6 k1 k2 k3, k4, k5, k6⟩
theorem step_2 (h : PP w W g r m q lu la lu2 la2) (ki nn : Int) (A1 A2 : Option Addr) (c1 c2 : Nat) (b l : List Int) (hr1 : Kd.C (Kd.int .u8) w A1 b.length b) (hr2 : Kd.C (Kd.int .i64) w A2 l.length l)
    (hlu : (lu2.length + l.length) * 8 ≤ 140737488355328) (hla : (la2.length + 1) * 32 ≤ 140737488355328) (hb : b.length ≤ 140737488351232) (hm : ∀ m ∈ la2, m.2.length ≤ 140737488351232) :
    Calls Try.prog 17 #[.pointer (some ⟨m, 0, none⟩), .pointer (some ⟨q, 0, none⟩), .agg #[.int .i64 ki, .int .i64 nn, .slice A1 b.length c1, .slice A2 l.length c2]] W (Post2 w g r m q (lu2.length + l.length) (la2.length + 1) lu la) := by
  obtain ⟨⟨F, G, h1, h2, h3, h4, h5⟩, h6⟩ := h
  refine (step_c h2 ki nn A1 A2 c1 c2 b l (fun W' hf => Kd.C_below hr1 (h6.trans (hf.below h5 h6.size))) (fun W' hf => Kd.C_below hr2 (h6.trans (hf.below h5 h6.size))) hlu hla hb hm).mono ?_
  rintro e W' ⟨he, F', lu', la', k1, k2, k3, k4, k5, k6⟩
  exact ⟨he, lu', la', PP.two h1 h2 h3 h4 h5 h6 k1 k2 k3, k4, k5, k6⟩
end
/-- Where it begins: two nets and two of the document's, all new. -/
theorem PP.start {w W1 W2 : World} (h1 : NI W1 (fun k => w.heap.size ≤ k ∧ k < W1.heap.size) w.heap.size [] []) (b1 : Below w.heap.size w W1) (h2 : NI W2 (fun k => W1.heap.size ≤ k ∧ k < W2.heap.size) W1.heap.size [] []) (b2 : Below W1.heap.size W1 W2) (o : Obj) (ho : o = .cells #[.slice none 0 0, .slice none 0 0] 45 (0, 0)) :
    PP w ((W2.alloc o).alloc o) w.heap.size W2.heap.size W1.heap.size (W2.heap.size + 1) [] [] [] [] := by
  subst ho
  rw [show W2.heap.size + 1 = (W2.alloc (.cells #[.slice none 0 0, .slice none 0 0] 45 (0, 0))).heap.size from (Array.size_push _).symm]
  have s1 : ∀ (X : World) (o : Obj), (X.alloc o).heap.size = X.heap.size + 1 := fun X o => Array.size_push _
  have hb3 := below_alloc (Below.refl W2.heap.size W2) (.cells #[.slice none 0 0, .slice none 0 0] 45 (0, 0))
  have hb4 := below_alloc (Below.refl (W2.alloc (.cells #[.slice none 0 0, .slice none 0 0] 45 (0, 0))).heap.size _) (.cells #[.slice none 0 0, .slice none 0 0] 45 (0, 0))
  have e3 := s1 W2 (.cells #[.slice none 0 0, .slice none 0 0] 45 (0, 0))
  have e4 := s1 (W2.alloc (.cells #[.slice none 0 0, .slice none 0 0] 45 (0, 0))) (.cells #[.slice none 0 0, .slice none 0 0] 45 (0, 0))
  have n1 := ((h1.below b2).below hb3).below hb4
  have n2 := (h2.below hb3).below hb4
  have l1 := b1.size
  have l2 := b2.size
  have l3 := h1.lt _ h1.own
  have l4 := h2.lt _ h2.own
  have ri : ∀ (X : World) (p : Nat), X.heap[p]? = some (.cells #[.slice none 0 0, .slice none 0 0] 45 (0, 0)) → RI X (fun k => k = p) p [] [] := fun X p hp =>
    ⟨⟨fun _ => False, fun _ => False, none, 0, .slice none 0 0, Nat.le_refl _, hp, SC.nil _ _, Kd.R_nil _ _ _ _ _, fun k hk => hk.elim, fun k hk => hk.elim⟩, rfl, fun k hk => by subst hk; exact blk_lt hp⟩
  have r1 := (ri _ _ (heap_alloc_new W2 (.cells #[.slice none 0 0, .slice none 0 0] 45 (0, 0)))).below hb4
  have r2 := ri _ _ (heap_alloc_new (W2.alloc (.cells #[.slice none 0 0, .slice none 0 0] 45 (0, 0))) (.cells #[.slice none 0 0, .slice none 0 0] 45 (0, 0)))
  generalize (W2.alloc (.cells #[.slice none 0 0, .slice none 0 0] 45 (0, 0))).alloc (.cells #[.slice none 0 0, .slice none 0 0] 45 (0, 0)) = W4 at *
  generalize W2.alloc (.cells #[.slice none 0 0, .slice none 0 0] 45 (0, 0)) = W3 at *
  refine ⟨⟨fun k => (w.heap.size ≤ k ∧ k < W1.heap.size) ∨ k = W2.heap.size, fun k => (W1.heap.size ≤ k ∧ k < W2.heap.size) ∨ k = W3.heap.size,
    ⟨⟨_, _, n1, r1, fun k hk => .inl hk, fun k hk => ⟨.inr hk, fun h => by omega⟩⟩, fun k hk => by omega⟩, ⟨⟨_, _, n2, r2, fun k hk => .inl hk, fun k hk => ⟨.inr hk, fun h => by omega⟩⟩, fun k hk => by omega⟩, fun k hk hg => by omega, fun k hk => by omega, fun k hk => by omega⟩, below_step (below_step (below_step b1 b2) hb3) hb4⟩
end Go.Proofs.Ytckeahjlfopaaaa.Hand
