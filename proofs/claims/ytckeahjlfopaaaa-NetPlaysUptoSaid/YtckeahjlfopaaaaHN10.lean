/- A net and a list of what was sent, side by side. -/
import Derived.Test.YtckeahjlfopaaaaHN7
namespace Go.Proofs.Ytckeahjlfopaaaa.Hand
open Go.RowKit Go.Proofs.Ytckeahjlfopaaaa Go.Proofs.YtckeahjlfopaaaaW.PrintWords Go.Proofs.YtckeahjlfopaaaaW.PrintLast
set_option linter.unusedVariables false
set_option linter.unusedSimpArgs false
/-- An Op: kind, number, bytes, numbers. -/
structure OpV where
  kind : Int
  n : Int
  b : List Int
  l : List Int
def k35 : Kd OpV := Kd.iso (Kd.pair (Kd.int .i64) (Kd.pair (Kd.int .i64) (Kd.pair (Kd.slice 5 (Kd.int .u8)) (Kd.slice 3 (Kd.int .i64))))) (fun o : OpV => (o.kind, o.n, o.b, o.l))
theorem k35_open {w : World} {x : OpV} {cs : List Value} (h : k35.K w x cs) : ∃ A c A' c', cs = [.int .i64 x.kind, .int .i64 x.n, .slice A x.b.length c, .slice A' x.l.length c'] ∧ x.b.length ≤ c ∧ Kd.C (Kd.int .u8) w A x.b.length x.b ∧ x.l.length ≤ c' ∧ Kd.C (Kd.int .i64) w A' x.l.length x.l := by
  obtain ⟨a, r1, rfl, ha, r2, r3, rfl, hb, r4, r5, rfl, ⟨A, c, rfl, h1, h2⟩, ⟨A', c', rfl, h3, h4⟩⟩ := h
  have ha' : a = [.int .i64 x.kind] := ha
  have hb' : r2 = [.int .i64 x.n] := hb
  subst ha' hb'
  exact ⟨A, c, A', c', rfl, h1, h2, h3, h4⟩
/-- What was sent: to whom, whether it may still come, its bytes. -/
structure Sent where
  dest : Int
  n : Int
  b : ByteArray
def k37 : Kd Sent := Kd.iso (Kd.pair (Kd.int .i64) (Kd.pair (Kd.int .i64) Kd.string)) (fun s : Sent => (s.dest, s.n, s.b))
theorem k37_openM {w : World} {base : Nat} {ok : Nat → Prop} {x : Sent} {cs : List Value} (h : k37.M w base ok x cs) : cs = [.int .i64 x.dest, .int .i64 x.n, .string x.b] := by
  obtain ⟨a, r1, rfl, ha, r2, r3, rfl, hb, hc⟩ := h
  have ha' : a = [.int .i64 x.dest] := ha
  have hb' : r2 = [.int .i64 x.n] := hb
  have hc' : r3 = [.string x.b] := hc
  subst ha' hb' hc'
  rfl
theorem k37_mkM (w : World) (base : Nat) (ok : Nat → Prop) (x : Sent) : k37.M w base ok x [.int .i64 x.dest, .int .i64 x.n, .string x.b] := ⟨[.int .i64 x.dest], [.int .i64 x.n, .string x.b], rfl, rfl, [.int .i64 x.n], [.string x.b], rfl, rfl, rfl⟩
theorem infoS : (Try.prog.info? 37).map (fun i => (i.zero, i.size, i.bytes)) = some (some (.agg #[.int .i64 0, .int .i64 0, .string ⟨#[]⟩]), 3, 32) := by kernel_rfl
structure NA (w W : World) (g : Nat) (lu : List Int) (la : List (Int × List Int)) (v : Value) (al : List Sent) (X : Option (Nat × Obj)) : Prop where
  ex : ∃ F G, NI W F g lu la ∧ Kd.R k37 37 W 0 G v al ∧ (∀ k, F k → ¬ G k) ∧ (∀ k, F k → w.heap.size ≤ k) ∧ (∀ k, G k → w.heap.size ≤ k ∧ k < W.heap.size) ∧ (∀ q o, X = some (q, o) → W.heap[q]? = some o ∧ ¬ F q ∧ ¬ G q)
  bel : Below w.heap.size w W
section
variable {w W W' : World} {g : Nat} {lu lu' : List Int} {la la' : List (Int × List Int)} {v v' : Value} {al al' : List Sent} {X : Option (Nat × Obj)}
theorem NA.start (h : NS w W g lu la) : NA w W g lu la (.slice none 0 0) [] none := by
  obtain ⟨⟨F, h1, h2⟩, h3⟩ := h
  exact ⟨⟨F, fun _ => False, h1, Kd.R_nil _ _ _ _ _, fun _ _ => id, h2, fun _ h => h.elim, fun _ _ h => by cases h⟩, h3⟩
theorem NA.ns (h : NA w W g lu la v al X) : NS w W g lu la := by
  obtain ⟨⟨F, G, h1, h2, h3, h4, h5, hX⟩, h6⟩ := h
  exact ⟨⟨F, h1, h4⟩, h6⟩
theorem NA.step {F F' G : Nat → Prop} (hR : Kd.R k37 37 W 0 G v al) (hd : ∀ k, F k → ¬ G k) (hF : ∀ k, F k → w.heap.size ≤ k) (hG : ∀ k, G k → w.heap.size ≤ k ∧ k < W.heap.size) (hX : ∀ q o, X = some (q, o) → W.heap[q]? = some o ∧ ¬ F q ∧ ¬ G q) (hw : Below w.heap.size w W) (h1 : NI W' F' g lu' la') (h2 : ∀ k, F' k → F k ∨ W.heap.size ≤ k) (h3 : Fr F W W') : NA w W' g lu' la' v al X :=
  ⟨⟨F', G, h1, h3.R hR (fun k hg hf => hd k hf hg), fun k hk hg => (h2 k hk).elim (fun h => hd k h hg) (fun h => by have := (hG k hg).2; omega), fun k hk => (h2 k hk).elim (hF k) (fun h => Nat.le_trans hw.size h), fun k hk => ⟨(hG k hk).1, Nat.lt_of_lt_of_le (hG k hk).2 h3.size⟩, fun q o hq => by
    obtain ⟨a, b, c⟩ := hX q o hq
    exact ⟨h3.blk a b, fun hf => (h2 q hf).elim b (fun h => by have := blk_lt a; omega), c⟩⟩, hw.trans (h3.below hF hw.size)⟩
theorem NA.below (h : NA w W g lu la v al X) (hb : Below W.heap.size W W') : NA w W' g lu la v al X := by
  obtain ⟨⟨F, G, h1, h2, h3, h4, h5, hX⟩, h6⟩ := h
  exact NA.step h2 h3 h4 h5 hX h6 (h1.below hb) (fun k hk => .inl hk) (Fr.of_below hb)
/-- A block of the caller's own, set beside. -/
theorem NA.box (h : NA w W g lu la v al X) (o : Obj) : NA w (W.alloc o) g lu la v al (some (W.heap.size, o)) := by
  obtain ⟨⟨F, G, h1, h2, h3, h4, h5, hX⟩, h6⟩ := h
  have hb := below_alloc (Below.refl W.heap.size W) o
  refine ⟨⟨F, G, h1.below hb, Kd.R_below h2 hb, h3, h4, fun k hk => ⟨(h5 k hk).1, Nat.lt_of_lt_of_le (h5 k hk).2 hb.size⟩, fun q o' hq => ?_⟩, below_step h6 hb⟩
  injection hq with hq
  injection hq with e1 e2
  subst e1 e2
  exact ⟨heap_alloc_new W _, fun hf => by have := h1.lt _ hf; omega, fun hg => by have := (h5 _ hg).2; omega⟩
theorem NA.unbox (h : NA w W g lu la v al X) : NA w W g lu la v al none := by
  obtain ⟨⟨F, G, h1, h2, h3, h4, h5, hX⟩, h6⟩ := h
  exact ⟨⟨F, G, h1, h2, h3, h4, h5, fun q o hq => by cases hq⟩, h6⟩
theorem NA.inbox {q : Nat} {o : Obj} (h : NA w W g lu la v al (some (q, o))) : W.heap[q]? = some o := by
  obtain ⟨⟨F, G, h1, h2, h3, h4, h5, hX⟩, h6⟩ := h
  exact (hX q o rfl).1
theorem NA.row (h : NA w W g lu la v al X) : ∃ G, Kd.R k37 37 W 0 G v al := by
  obtain ⟨⟨F, G, h1, h2, h3, h4, h5, hX⟩, h6⟩ := h
  exact ⟨G, h2⟩
/-- The list is written, in place or anew. -/
theorem NA.list (h : NA w W g lu la v al X) (hv' : ∀ G : Nat → Prop, Kd.R k37 37 W 0 G v al → (∀ k, W.heap.size ≤ k → G k) → Kd.R k37 37 W' 0 G v' al') (hg : W.grownBy W' v.ownBlock) : NA w W' g lu la v' al' X := by
  obtain ⟨⟨F, G, h1, h2, h3, h4, h5, hX⟩, h6⟩ := h
  have hfr : Fr (fun k => some k = v.ownBlock) W W' := Fr.of_grown hg (fun q hq => hq)
  have hb := Kd.R_bound (hv' (fun k => G k ∨ W.heap.size ≤ k) (Kd.R_mono h2 (fun _ h => .inl h)) (fun k hk => .inr hk))
  refine ⟨⟨F, fun k => (G k ∨ W.heap.size ≤ k) ∧ k < W'.heap.size, h1.frame hfr (fun k hf hk => h3 k hf (h2.1 k hk.symm)), Kd.R_mono hb (fun k hk => ⟨hk.1, hk.2.2.1⟩), fun k hf hg => ?_, h4, fun k hk => ⟨?_, hk.2⟩, fun q o hq => ?_⟩, ?_⟩
  · rcases hg.1 with hg | hg
    · exact h3 k hf hg
    · have := h1.lt k hf; omega
  · rcases hk.1 with hg | hg
    · exact (h5 k hg).1
    · exact Nat.le_trans h6.size hg
  · obtain ⟨a, b, c⟩ := hX q o hq
    exact ⟨hfr.blk a (fun e => c (h2.1 q e.symm)), b, fun hg => hg.1.elim c (fun h => by have := blk_lt a; omega)⟩
  · exact h6.trans (hfr.below (fun q hq => (h5 q (h2.1 q hq.symm)).1) h6.size)
theorem luck_n (h : NA w W g lu la v al X) (A : Option Addr) (c : Nat) (l : List Int) (hr : Kd.C (Kd.int .i64) W A l.length l) (hl : (lu.length + l.length) * 8 ≤ 140737488355328) :
    Calls Try.prog 9 #[.pointer (some ⟨g, 0, none⟩), .slice A l.length c] W fun e W' => e = .returned (.tuple #[]) ∧ NA w W' g (lu ++ l) la v al X := by
  obtain ⟨⟨F, G, h1, h2, h3, h4, h5, hX⟩, h6⟩ := h
  refine (luck_c F g lu l la A c W h1 hr hl).mono ?_
  rintro e W' ⟨he, k1, k2⟩
  exact ⟨he, NA.step h2 h3 h4 h5 hX h6 k1 (fun k hk => hk.imp id (fun h => h.1)) k2⟩
theorem send_n (h : NA w W g lu la v al X) (hb : Below W.heap.size W W') (dest : Int) (A : Option Addr) (c : Nat) (b : List Int) (hr : Kd.R (Kd.int .u8) 5 W' 0 (fun k => W.heap.size ≤ k) (.slice A b.length c) b) (hl : b.length ≤ 140737488351232) (hla : (la.length + 1) * 32 ≤ 140737488355328) :
    Calls Try.prog 10 #[.pointer (some ⟨g, 0, none⟩), .int .i64 dest, .slice A b.length c] W' fun e W2 => e = .returned (.tuple #[.int .i64 (fateF (restF (hd0 lu))).1, .bool (fateF (restF (hd0 lu))).2]) ∧ NA w W2 g lu.tail (if restF (hd0 lu) = 3 then la ++ [(dest, b)] else la) v al X := by
  have h' := h.below hb
  obtain ⟨⟨F, G, h1, h2, h3, h4, h5, hX⟩, h6⟩ := h
  have hd : ∀ k, W.heap.size ≤ k → ¬ F k := fun k hk hf => by have := h1.lt k hf; omega
  refine (send_c F g dest lu la A c b W' (h1.below hb) (fun W2 hf => (Kd.R_reads' (hf.R hr hd)).2.2) hl hla).mono ?_
  rintro e W2 ⟨he, F', k1, k2, k3⟩
  exact ⟨he, NA.step (Kd.R_below h2 hb) h3 h4 (fun k hk => ⟨(h5 k hk).1, Nat.lt_of_lt_of_le (h5 k hk).2 hb.size⟩) (fun q o hq => ⟨blk_below (hX q o hq).1 hb, (hX q o hq).2⟩) (below_step h6 hb) k1 k2 k3⟩
theorem take_n (h : NA w W g lu la v al X) (k : Nat) (hk : k < la.length) (hb : (la.getD k (0, [])).2.length ≤ 140737488351232) :
    Calls Try.prog 15 #[.pointer (some ⟨g, 0, none⟩), .int .i64 k] W fun e W' => ∃ A c, e = .returned (.tuple #[.int .i64 (la.getD k (0, [])).1, .slice A (la.getD k (0, [])).2.length c, .bool true]) ∧ Kd.C (Kd.int .u8) W' A (la.getD k (0, [])).2.length (la.getD k (0, [])).2 ∧ NA w W' g lu (la.eraseIdx k) v al X := by
  obtain ⟨⟨F, G, h1, h2, h3, h4, h5, hX⟩, h6⟩ := h
  refine (takeN_c h1 k hk hb).mono ?_
  rintro e W' ⟨A, c, F', he, hC, k1, k2, k3⟩
  exact ⟨A, c, he, hC, NA.step h2 h3 h4 h5 hX h6 k1 k2 k3⟩
theorem take_n_no (h : NA w W g lu la v al X) (k : Int) (hk : k < 0 ∨ la.length ≤ k) :
    Calls Try.prog 15 #[.pointer (some ⟨g, 0, none⟩), .int .i64 k] W fun e W' => e = .returned (.tuple #[.int .i64 0, .slice none 0 0, .bool false]) ∧ NA w W' g lu la v al X := by
  have h' := h
  obtain ⟨⟨F, G, h1, h2, h3, h4, h5, hX⟩, h6⟩ := h
  refine (takeN_no h1 k hk).mono ?_
  rintro e W' ⟨he, hb⟩
  exact ⟨he, h'.below hb⟩
theorem double_n (h : NA w W g lu la v al X) (k : Nat) (hk : k < la.length) (hb : (la.getD k (0, [])).2.length ≤ 140737488351232) (hla : (la.length + 1) * 32 ≤ 140737488355328) :
    Calls Try.prog 14 #[.pointer (some ⟨g, 0, none⟩), .int .i64 k] W fun e W' => e = .returned (.bool true) ∧ NA w W' g lu (la ++ [la.getD k (0, [])]) v al X := by
  obtain ⟨⟨F, G, h1, h2, h3, h4, h5, hX⟩, h6⟩ := h
  refine (double_c h1 k hk hb hla).mono ?_
  rintro e W' ⟨F', he, k1, k2, k3⟩
  exact ⟨he, NA.step h2 h3 h4 h5 hX h6 k1 k2 k3⟩
theorem double_n2 {W0 : World} (h : NA w W0 g lu la v al X) (hb0 : Below W0.heap.size W0 W) (k : Nat) (hk : k < la.length) (hb : (la.getD k (0, [])).2.length ≤ 140737488351232) (hla : (la.length + 1) * 32 ≤ 140737488355328) :
    Calls Try.prog 14 #[.pointer (some ⟨g, 0, none⟩), .int .i64 k] W fun e W' => e = .returned (.bool true) ∧ NA w W' g lu (la ++ [la.getD k (0, [])]) v al X ∧ Fr (fun k => k < W0.heap.size) W W' := by
  have h' := h.below hb0
  obtain ⟨⟨F, G, h1, h2, h3, h4, h5, hX⟩, h6⟩ := h
  refine (double_c (h1.below hb0) k hk hb hla).mono ?_
  rintro e W' ⟨F', he, k1, k2, k3⟩
  exact ⟨he, NA.step (Kd.R_below h2 hb0) h3 h4 (fun k hk => ⟨(h5 k hk).1, Nat.lt_of_lt_of_le (h5 k hk).2 hb0.size⟩) (fun q o hq => ⟨blk_below (hX q o hq).1 hb0, (hX q o hq).2⟩) (below_step h6 hb0) k1 k2 k3, k3.mono h1.lt⟩
/-- The list is written: what the walk knows of it. -/
theorem NA.open_ (h : NA w W g lu la v al X) : ∃ G : Nat → Prop, Kd.R k37 37 W 0 G v al ∧ ∀ (W' : World) (v' : Value) (al' : List Sent), Kd.R k37 37 W' 0 (fun k => G k ∨ W.heap.size ≤ k) v' al' → W.grownBy W' v.ownBlock → NA w W' g lu la v' al' X := by
  obtain ⟨⟨F, G, h1, h2, h3, h4, h5, hX⟩, h6⟩ := h
  refine ⟨G, h2, fun W' v' al' hv' hg => ?_⟩
  have hfr : Fr (fun k => some k = v.ownBlock) W W' := Fr.of_grown hg (fun q hq => hq)
  have hb := Kd.R_bound hv'
  refine ⟨⟨F, fun k => (G k ∨ W.heap.size ≤ k) ∧ k < W'.heap.size, h1.frame hfr (fun k hf hk => h3 k hf (h2.1 k hk.symm)), Kd.R_mono hb (fun k hk => ⟨hk.1, hk.2.2.1⟩), fun k hf hg => ?_, h4, fun k hk => ⟨?_, hk.2⟩, fun q o hq => ?_⟩, ?_⟩
  · rcases hg.1 with hg | hg
    · exact h3 k hf hg
    · have := h1.lt k hf; omega
  · rcases hk.1 with hg | hg
    · exact (h5 k hg).1
    · exact Nat.le_trans h6.size hg
  · obtain ⟨a, b, c⟩ := hX q o hq
    exact ⟨hfr.blk a (fun e => c (h2.1 q e.symm)), b, fun hg => hg.1.elim c (fun h => by have := blk_lt a; omega)⟩
  · exact h6.trans (hfr.below (fun q hq => (h5 q (h2.1 q hq.symm)).1) h6.size)
/-- An element's cells. -/
theorem NA.elem (h : NA w W g lu la v al X) (q : Nat) (hq : q < al.length) : ∃ ga cap, v = .slice (some ⟨ga, 0, none⟩) al.length cap ∧ W.cell? ⟨ga, q * 3, none⟩ = some (.int .i64 al[q].dest) ∧ W.cell? ⟨ga, q * 3 + 1, none⟩ = some (.int .i64 al[q].n) ∧ W.cell? ⟨ga, q * 3 + 2, none⟩ = some (.string al[q].b) ∧ W.frozen? ⟨ga, q * 3 + 1, none⟩ = false ∧
    NA w (W.setCell ⟨ga, q * 3 + 1, none⟩ (.int .i64 0)) g lu la v (al.set q ⟨al[q].dest, 0, al[q].b⟩) X := by
  obtain ⟨G, hR, hw⟩ := h.open_
  obtain ⟨ga, cap, rfl, _, _, _⟩ := Kd.R_form hR (by omega)
  obtain ⟨c, hcl, hM, hcc, hfz⟩ := Kd.R_elem hR ⟨0, 0, ⟨#[]⟩⟩ (q : Int) (by omega) (by omega)
  rw [Int.toNat_natCast] at hM hcc hfz
  have hget : al.getD q ⟨0, 0, ⟨#[]⟩⟩ = al[q] := by rw [List.getD_eq_getElem?_getD, List.getElem?_eq_getElem hq]; rfl
  rw [hget] at hM
  obtain rfl := k37_openM hM
  have hs := Kd.R_seg hR (q : Int) (by omega) (by omega) (c := [.int .i64 al[q].dest, .int .i64 al[q].n, .string al[q].b]) (seg := [.int .i64 0]) (j := 1) rfl (by rw [Int.toNat_natCast]; exact hcc) (by decide) (x' := ⟨al[q].dest, 0, al[q].b⟩) (k37_mkM _ _ (fun _ => False) _) (fun k hk => hk.elim)
  rw [Int.toNat_natCast] at hs
  refine ⟨ga, cap, rfl, hcc 0 _ rfl, hcc 1 _ rfl, hcc 2 _ rfl, hfz 1, hw _ _ _ (Kd.R_mono hs.1 (fun _ h => .inl h)) ?_⟩
  have e : (Value.slice (some ⟨ga, 0, none⟩) al.length cap).ownBlock = some ga := by simp [Value.ownBlock]
  rw [e]
  exact hs.2
end
end Go.Proofs.Ytckeahjlfopaaaa.Hand
