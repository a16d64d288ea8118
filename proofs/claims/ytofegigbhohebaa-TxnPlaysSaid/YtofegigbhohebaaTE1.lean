/- The document's book in memory. -/
import Derived.Test.YtofegigbhohebaaTB6
namespace Go.Proofs.Ytofegigbhohebaa.Hand
open Go.RowKit Go.Proofs.Ytofegigbhohebaa Go.Proofs.YtofegigbhohebaaW.PrintWords
set_option linter.unusedVariables false
set_option linter.unusedSimpArgs false
/-- A producer and the slice of its places. -/
abbrev RP := ProdV × Value
def rpL (r : RP) : List Value := [.string r.1.name, .int .i64 r.1.timeout, .int .i64 r.1.epoch, .int .i64 r.1.status, .int .i64 r.1.since, r.2]
def rpsL (rs : List RP) : List Value := rs.flatMap rpL
def rp0 : RP := (prod0, .slice none 0 0)
theorem rpsL_len (rs : List RP) : (rpsL rs).length = rs.length * 6 := by
  induction rs with
  | nil => rfl
  | cons a m ih =>
    show (rpL a ++ rpsL m).length = _
    rw [List.length_append, ih, List.length_cons]
    show 6 + _ = _
    omega
theorem rpsL_at (rs : List RP) : ∀ (k : Nat) (r : RP), rs[k]? = some r → ∀ j, j < 6 → (rpsL rs)[k * 6 + j]? = (rpL r)[j]? := by
  induction rs with
  | nil => intro k t h; simp at h
  | cons a m ih =>
    intro k t h j hj
    have e : rpsL (a :: m) = rpL a ++ rpsL m := rfl
    cases k with
    | zero =>
      simp only [List.getElem?_cons_zero, Option.some.injEq] at h
      subst h
      rw [e, List.getElem?_append_left (by show _ < 6; omega), Nat.zero_mul, Nat.zero_add]
    | succ k =>
      have := ih k t (by simpa using h) j hj
      rw [e, List.getElem?_append_right (by show 6 ≤ _; omega), show (k + 1) * 6 + j - (rpL a).length = k * 6 + j by show _ - 6 = _; omega]
      exact this
/-- The document's book: its block, the row of its producers, their places. -/
structure RB (own : Nat → Prop) (gb : Nat) (rs : List RP) (w : World) : Prop where
  lt : ∀ k, own k → k < w.heap.size
  ogb : own gb
  row : ∃ v, w.heap[gb]? = some (.cells #[v] 55 (0, 0)) ∧ w.ownsRow 0 127 6 v rs.length (rpsL rs) ∧ ∀ g, v.ownBlock = some g → own g
  each : ∀ r ∈ rs, Kd.R (Kd.int .i64) 3 w 0 own r.2 r.1.places
/-- What isn't the book's is as it was. -/
structure FrP (own : Nat → Prop) (w w' : World) : Prop where
  os : w'.os = w.os
  tape : w'.tape = w.tape
  output : w'.output = w.output
  size : w.heap.size ≤ w'.heap.size
  block : ∀ k, k < w.heap.size → ¬ own k → w'.heap[k]? = w.heap[k]?
variable {own : Nat → Prop} {gb : Nat} {rs : List RP} {w w' : World}
theorem FrP.refl (own : Nat → Prop) (w : World) : FrP own w w := ⟨rfl, rfl, rfl, Nat.le_refl _, fun _ _ _ => rfl⟩
theorem FrP.below (own : Nat → Prop) (hb : Below w.heap.size w w') : FrP own w w' := ⟨hb.os, hb.tape, hb.output, hb.size, fun k hk _ => hb.block k hk⟩
theorem FrP.trans {own' : Nat → Prop} {w'' : World} (h : FrP own w w') (h2 : FrP own' w' w'') (ho : ∀ k, k < w.heap.size → own' k → own k) : FrP own w w'' :=
  ⟨h2.os.trans h.os, h2.tape.trans h.tape, h2.output.trans h.output, Nat.le_trans h.size h2.size, fun k hk h0 => (h2.block k (Nat.lt_of_lt_of_le hk h.size) (fun e => h0 (ho k hk e))).trans (h.block k hk h0)⟩
theorem FrP.grown {g : Nat} (hg : w.grownBy w' (some g)) (ho : own g) : FrP own w w' := ⟨hg.os, hg.tape, hg.output, hg.size, fun k hk h0 => hg.block k hk (fun e => h0 (by injection e with e; rw [e]; exact ho))⟩
theorem FrP.out {W : World} (h : FrP own w w') (hb : Below W.heap.size W w) (h0 : ∀ k, k < W.heap.size → ¬ own k) : Below W.heap.size W w' :=
  ⟨h.os.trans hb.os, h.tape.trans hb.tape, h.output.trans hb.output, Nat.le_trans hb.size h.size, fun k hk => (h.block k (Nat.lt_of_lt_of_le hk hb.size) (h0 k hk)).trans (hb.block k hk)⟩
theorem RB.step (h : RB own gb rs w) (hs : w.heap.size ≤ w'.heap.size) (hk : ∀ k, own k → w'.heap[k]? = w.heap[k]?) : RB own gb rs w' := by
  obtain ⟨v, h1, h2, h3⟩ := h.row
  refine ⟨fun k hk => Nat.lt_of_lt_of_le (h.lt k hk) hs, h.ogb, ⟨v, (hk gb h.ogb).trans h1, ⟨h2.1, ?_⟩, h3⟩, fun r hr => Kd.R_move (h.each r hr) (fun k e => hk k e)⟩
  rcases h2.2 with hn | ⟨g, cap, cur, rfl, hb, hgg, rest⟩
  · exact .inl hn
  · exact .inr ⟨g, cap, cur, rfl, hb, (hk g (h3 g rfl)).trans hgg, rest⟩
theorem RB.below (h : RB own gb rs w) (hb : Below w.heap.size w w') : RB own gb rs w' := h.step hb.size (fun k hk => hb.block k (h.lt k hk))
/-- The book as it is read. -/
theorem RB.read (h : RB own gb rs w) : ∃ A c, w.heap[gb]? = some (.cells #[.slice A rs.length c] 55 (0, 0)) ∧ rs.length ≤ 9223372036854775807 ∧ ∀ k r, rs[k]? = some r → ∃ g cur, A = some ⟨g, 0, none⟩ ∧ own g ∧ w.heap[g]? = some (.cells cur 127 (0, 0)) ∧ ∀ j, j < 6 → cur[k * 6 + j]? = (rpL r)[j]? := by
  obtain ⟨v, h1, h2, h3⟩ := h.row
  rcases h2.2 with ⟨rfl, h0⟩ | ⟨g, cap, cur, rfl, hb, hgg, hc, hm, hs, ht⟩
  · refine ⟨none, 0, by rw [h0]; exact h1, by omega, fun k r hr => ?_⟩
    have := (List.getElem?_eq_some_iff.1 hr).1
    omega
  · refine ⟨_, cap, h1, by simp only [maxLen] at hm; omega, fun k r hr => ⟨g, cur, rfl, h3 g rfl, hgg, fun j hj => ?_⟩⟩
    have hk := (List.getElem?_eq_some_iff.1 hr).1
    rw [← rpsL_at rs k r hr j hj, ← ht, List.getElem?_take_of_lt (by omega)]
    simp
theorem RB.len (h : RB own gb rs w) : rs.length ≤ 9223372036854775807 := by
  obtain ⟨_, _, _, h, _⟩ := h.read
  exact h
theorem rps_set (rs : List RP) (k : Nat) (r : RP) (hk : k < rs.length) : (∀ i q, (rs.set k r)[i]? = some q → (i = k ∧ q = r) ∨ (i ≠ k ∧ rs[i]? = some q)) := by
  intro i q h
  by_cases e : i = k
  · subst e
    rw [List.getElem?_set_self hk] at h
    exact .inl ⟨rfl, (Option.some.inj h).symm⟩
  · rw [List.getElem?_set_ne (fun x => e x.symm)] at h
    exact .inr ⟨e, h⟩
/-- A producer has changed. -/
theorem RB.put (h : RB own gb rs w) {own' : Nat → Prop} {k g : Nat} {r r' : RP} {A : Option Addr} {c : Nat} {cur cur' : Array Value} (hr : rs[k]? = some r) (hb : w.heap[gb]? = some (.cells #[.slice (some ⟨g, 0, none⟩) rs.length c] 55 (0, 0))) (hg : w.heap[g]? = some (.cells cur 127 (0, 0)))
    (hs : w.heap.size ≤ w'.heap.size) (hk : ∀ x, own x → x ≠ g → w'.heap[x]? = w.heap[x]?) (ho : ∀ x, own x → own' x) (hlt : ∀ x, own' x → x < w'.heap.size)
    (hg' : w'.heap[g]? = some (.cells cur' 127 (0, 0))) (hsz : cur'.size = cur.size) (hoth : ∀ j, j < k * 6 ∨ k * 6 + 6 ≤ j → cur'[j]? = cur[j]?) (hnew : ∀ j, j < 6 → cur'[k * 6 + j]? = (rpL r')[j]?)
    (hv : Kd.R (Kd.int .i64) 3 w' 0 own' r'.2 r'.1.places) : RB own' gb (rs.set k r') w' := by
  have hkl := (List.getElem?_eq_some_iff.1 hr).1
  obtain ⟨v, h1, h2, h3⟩ := h.row
  have hv1 : v = .slice (some ⟨g, 0, none⟩) rs.length c := by
    rw [h1] at hb
    injection hb with hb
    injection hb with hb
    simpa using hb
  subst hv1
  have hog : own g := h3 g rfl
  have hgne : gb ≠ g := blk_ne h1 hg (by decide)
  refine ⟨hlt, ho gb h.ogb, ⟨_, (hk gb h.ogb hgne).trans h1, ⟨by rw [rpsL_len], .inr ?_⟩, fun x hx => ho x (h3 x hx)⟩, fun q hq => ?_⟩
  · rcases h2.2 with ⟨h0, _⟩ | ⟨g0, cap, cur0, he, hb0, hgg, hc, hm, hs0, ht⟩
    · cases h0
    · injection he with he1 he2 he3
      injection he1 with he1
      injection he1 with he1
      subst he1 he3
      obtain rfl : cur0 = cur := by
        rw [hgg] at hg
        injection hg with hg
        injection hg
      refine ⟨g, c, cur', by rw [List.length_set], Nat.zero_le _, hg', by rw [List.length_set]; exact hc, hm, by rw [hsz]; exact hs0, ?_⟩
      rw [List.length_set]
      refine List.ext_getElem? fun n => ?_
      by_cases hn : n < rs.length * 6
      · rw [List.getElem?_take_of_lt hn]
        have hi : n / 6 < rs.length := by omega
        obtain ⟨q, hq⟩ : ∃ q, (rs.set k r')[n / 6]? = some q := ⟨_, List.getElem?_eq_getElem (by rw [List.length_set]; exact hi)⟩
        have e : n = n / 6 * 6 + n % 6 := by omega
        have hqa := rpsL_at _ _ q hq (n % 6) (by omega)
        rw [← e] at hqa
        rw [hqa]
        rcases rps_set rs k r' hkl _ _ hq with ⟨e1, rfl⟩ | ⟨e1, hq1⟩
        · have := hnew (n % 6) (by omega)
          rw [← e1, ← e] at this
          simpa using this
        · have h4 := hoth n (by omega)
          have h5 := rpsL_at rs _ q hq1 (n % 6) (by omega)
          rw [← e, ← ht, List.getElem?_take_of_lt hn] at h5
          rw [← h5]
          simpa using h4
      · rw [List.getElem?_eq_none (by rw [List.length_take]; omega), List.getElem?_eq_none (by rw [rpsL_len, List.length_set]; omega)]
  · obtain ⟨i, hi⟩ := List.mem_iff_getElem?.1 hq
    rcases rps_set rs k r' hkl _ _ hi with ⟨e1, rfl⟩ | ⟨e1, hq1⟩
    · exact hv
    · have hR := h.each q (List.mem_iff_getElem?.2 ⟨_, hq1⟩)
      refine Kd.R_mono (ok := fun x => own x ∧ x ≠ g) (Kd.R_move (Kd.R_mono (Kd.R_bound hR) (fun x hx => ⟨hx.1, ?_⟩)) (fun x hx => hk x hx.1 hx.2)) (fun x hx => ho x hx.1)
      obtain ⟨_, _, _, t, ht, cs, hcs⟩ := hx
      intro e
      subst e
      rw [hg] at hcs
      injection hcs with hcs
      injection hcs with h1 h2
      subst h2
      exact absurd ht (by simp [Kd.E, Kd.int, Kd.scalar])
end Go.Proofs.Ytofegigbhohebaa.Hand
