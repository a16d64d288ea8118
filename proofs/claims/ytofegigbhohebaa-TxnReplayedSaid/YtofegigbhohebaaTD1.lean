/- Two books side by side. -/
import Derived.Test.YtofegigbhohebaaTC7
import Derived.Test.YtofegigbhohebaaTB32
namespace Go.Proofs.Ytofegigbhohebaa.Hand
open Go.RowKit Go.Proofs.Ytofegigbhohebaa Go.Proofs.YtofegigbhohebaaW.PrintWords
set_option linter.unusedVariables false
set_option linter.unusedSimpArgs false
/-- Two books that a function made, apart from one another. -/
structure K2 (oa ob : Nat → Nat) (ga gb : Nat) (gsa gsb : List Nat) (pa pb : List ProdV) (w0 w : World) : Prop where
  a : KI oa ga gsa pa w0 w
  b : KI ob gb gsb pb w0 w
  ap : ∀ k, oa k ≠ 0 → ob k = 0
variable {oa ob : Nat → Nat} {ga gb : Nat} {gsa gsb : List Nat} {pa pb : List ProdV} {w0 w w' : World}
theorem K2.ap' (h : K2 oa ob ga gb gsa gsb pa pb w0 w) (k : Nat) (hk : ob k ≠ 0) : oa k = 0 := Classical.byContradiction fun e => hk (h.ap k e)
theorem K2.swap (h : K2 oa ob ga gb gsa gsb pa pb w0 w) : K2 ob oa gb ga gsb gsa pb pa w0 w := ⟨h.b, h.a, h.ap'⟩
theorem K2.move (h : K2 oa ob ga gb gsa gsb pa pb w0 w) (hb : Below w.heap.size w w') : K2 oa ob ga gb gsa gsb pa pb w0 w' := ⟨h.a.move hb, h.b.move hb, h.ap⟩
theorem K2.made (h : KI oa ga gsa pa w0 w) (hb : BI ob gb [] [] w') (hw : Below w.heap.size w w') (hz : ∀ k, k < w.heap.size → ob k = 0) : K2 oa ob ga gb gsa [] pa [] w0 w' :=
  ⟨h.move hw, ⟨hb, good_nil, below_step h.below hw, fun k hk => hz k (Nat.lt_of_lt_of_le hk h.below.size)⟩, fun k hk => hz k (h.bi.lt k hk)⟩
theorem K2.appl (h : K2 oa ob ga gb gsa gsb pa pb w0 w) (x : EvV) : Calls Try.prog 15 #[.pointer (some ⟨ga, 0, none⟩), evE x] w fun e w' => e = .returned (.int .i64 (decideF pa x).2) ∧ ∃ oa' gsa', K2 oa' ob ga gb gsa' gsb (applyF pa x) pb w0 w' := by
  refine (apply_c h.a.bi h.a.good x).mono ?_
  rintro e w' ⟨rfl, oa', gsa', h1, h2, h3⟩
  have hz : ∀ k, ob k ≠ 0 → k < w.heap.size ∧ oa' k = 0 := fun k hk => by
    have hlt := h.b.bi.lt k hk
    exact ⟨hlt, (h3 k hlt).trans (h.ap' k hk)⟩
  refine ⟨rfl, oa', gsa', ⟨h1, h.a.good.apply x, h2.out h.a.below h.a.zero, fun k hk => (h3 k (Nat.lt_of_lt_of_le hk h.a.below.size)).trans (h.a.zero k hk)⟩, ⟨h.b.bi.step h2.size (fun k hk => h2.block k (hz k hk).1 (h.ap' k hk)), h.b.good, h2.out h.b.below h.a.zero, h.b.zero⟩, fun k hk => Classical.byContradiction fun e => hk (hz k e).2⟩
theorem K2.applB (h : K2 oa ob ga gb gsa gsb pa pb w0 w) (x : EvV) : Calls Try.prog 15 #[.pointer (some ⟨gb, 0, none⟩), evE x] w fun e w' => e = .returned (.int .i64 (decideF pb x).2) ∧ ∃ ob' gsb', K2 oa ob' ga gb gsa gsb' pa (applyF pb x) w0 w' := by
  refine (h.swap.appl x).mono ?_
  rintro e w' ⟨rfl, ob', gsb', h1⟩
  exact ⟨rfl, ob', gsb', h1.swap⟩
/-- An event's cells in its row. -/
theorem ev_at {w : World} {ad : Addr} {l : List EvV} (h : EvRow w (some ad) l) (k : Nat) (x : EvV) (hx : l[k]? = some x) : w.cell? (ad.add (k * 8)) = some (.int .i64 x.kind) ∧ w.cell? ⟨(ad.add (k * 8)).block, (ad.add (k * 8)).off + 1, none⟩ = some (.string x.name) ∧ w.cell? ⟨(ad.add (k * 8)).block, (ad.add (k * 8)).off + 2, none⟩ = some (.int .i64 x.producer) ∧ w.cell? ⟨(ad.add (k * 8)).block, (ad.add (k * 8)).off + 3, none⟩ = some (.int .i64 x.epoch) ∧ w.cell? ⟨(ad.add (k * 8)).block, (ad.add (k * 8)).off + 4, none⟩ = some (.int .i64 x.place) ∧ w.cell? ⟨(ad.add (k * 8)).block, (ad.add (k * 8)).off + 5, none⟩ = some (.int .i64 x.timeout) ∧ w.cell? ⟨(ad.add (k * 8)).block, (ad.add (k * 8)).off + 6, none⟩ = some (.int .i64 x.now) ∧ w.cell? ⟨(ad.add (k * 8)).block, (ad.add (k * 8)).off + 7, none⟩ = some (.bool x.yes) := by
  obtain ⟨ad', x', hA, hx', h⟩ := ev_cells h k (List.getElem?_eq_some_iff.1 hx).1
  obtain rfl := Option.some.inj hA
  obtain rfl := Option.some.inj (hx.symm.trans hx')
  exact h
theorem decide_right {ps : List ProdV} {x : EvV} (h : (decideF ps x).2 = 0) : rightE x = true := by
  unfold decideF at h
  cases hr : rightE x with
  | true => rfl
  | false => rw [hr] at h; simp at h
theorem apply_skip {ps : List ProdV} {x : EvV} {d : Bool} {n : Int} (h : decideF ps x = (d, n)) (hs : n ≠ 0 ∨ d = true) : applyF ps x = ps := by
  unfold applyF
  rw [h, if_pos hs]
/-- The cells of a row of Todos. -/
theorem td_cells {cur : Array Value} {l : List TdV} (h : cur.toList.take (l.length * 4) = tdsC l) (k : Nat) (t : TdV) (ht : l[k]? = some t) : cur[k * 4]? = some (.int .i64 t.producer) ∧ cur[k * 4 + 1]? = some (.int .i64 t.epoch) ∧ cur[k * 4 + 2]? = some (.int .i64 t.place) ∧ cur[k * 4 + 3]? = some (.bool t.yes) := by
  have hlen : ∀ m : List TdV, (tdsC m).length = m.length * 4 := fun m => by
    induction m with
    | nil => rfl
    | cons a m ih =>
      show (tdC a ++ tdsC m).length = _
      rw [List.length_append, ih, List.length_cons]
      show 4 + _ = _
      omega
  have hk := (List.getElem?_eq_some_iff.1 ht).1
  have key : ∀ (m : List TdV) (k : Nat) (t : TdV), m[k]? = some t → ∀ j v, (tdC t)[j]? = some v → (tdsC m)[k * 4 + j]? = some v := by
    intro m
    induction m with
    | nil => intro k t h; simp at h
    | cons a m ih =>
      intro k t h j v hj
      have e : tdsC (a :: m) = tdC a ++ tdsC m := rfl
      cases k with
      | zero =>
        simp only [List.getElem?_cons_zero, Option.some.injEq] at h
        subst h
        have hj4 := (List.getElem?_eq_some_iff.1 hj).1
        rw [e, List.getElem?_append_left (by omega), Nat.zero_mul, Nat.zero_add]
        exact hj
      | succ k =>
        have := ih k t (by simpa using h) j v hj
        rw [e, List.getElem?_append_right (by show 4 ≤ _; omega), show (k + 1) * 4 + j - (tdC a).length = k * 4 + j by show _ - 4 = _; omega]
        exact this
  have out : ∀ j v, (tdC t)[j]? = some v → cur[k * 4 + j]? = some v := fun j v hj => by
    have h1 := key l k t ht j v hj
    have hj4 := (List.getElem?_eq_some_iff.1 hj).1
    have hj4 : j < 4 := hj4
    rw [← h, List.getElem?_take_of_lt (by omega)] at h1
    simpa using h1
  exact ⟨out 0 _ rfl, out 1 _ rfl, out 2 _ rfl, out 3 _ rfl⟩
/-- A row of Todos in memory. -/
def TdRow (w : World) (A : Option Addr) (l : List TdV) : Prop := ∀ k t, l[k]? = some t → ∃ ad, A = some ad ∧ w.cell? (ad.add (k * 4)) = some (.int .i64 t.producer) ∧ w.cell? ⟨(ad.add (k * 4)).block, (ad.add (k * 4)).off + 1, none⟩ = some (.int .i64 t.epoch) ∧ w.cell? ⟨(ad.add (k * 4)).block, (ad.add (k * 4)).off + 2, none⟩ = some (.int .i64 t.place) ∧ w.cell? ⟨(ad.add (k * 4)).block, (ad.add (k * 4)).off + 3, none⟩ = some (.bool t.yes)
theorem TdRow.below {w w' : World} {A : Option Addr} {l : List TdV} (h : TdRow w A l) (hb : Below w.heap.size w w') : TdRow w' A l := by
  intro k t ht
  obtain ⟨ad, hA, h0, h1, h2, h3⟩ := h k t ht
  have mv : ∀ (p : Addr) v, w.cell? p = some v → w'.cell? p = some v := fun p v e => (hb.cell (p := p) (World.block_lt_of_cell? w _ e)).trans e
  exact ⟨ad, hA, mv _ _ h0, mv _ _ h1, mv _ _ h2, mv _ _ h3⟩
theorem td_open {w : World} {base : Nat} {v : Value} {l : List TdV} (h : w.ownsRow base 46 4 v l.length (tdsC l)) : ∃ A c, v = .slice A l.length c ∧ l.length ≤ c ∧ TdRow w A l := by
  obtain ⟨-, ⟨rfl, h0⟩ | ⟨g, cap, cur, rfl, -, hcur, hc, -, -, ht⟩⟩ := h
  · refine ⟨none, 0, by rw [h0], by omega, fun k t ht => ?_⟩
    have := (List.getElem?_eq_some_iff.1 ht).1
    omega
  · refine ⟨_, cap, rfl, hc, fun k t hk => ⟨_, rfl, ?_⟩⟩
    obtain ⟨h0, h1, h2, h3⟩ := td_cells ht k t hk
    have e : ((⟨g, 0, none⟩ : Addr).add (k * 4)) = ⟨g, k * 4, none⟩ := by
      unfold Addr.add
      split
      · rename_i e; rw [e]
      · simp
    rw [e]
    exact ⟨(blk_cell hcur _).trans h0, (blk_cell hcur _).trans h1, (blk_cell hcur _).trans h2, (blk_cell hcur _).trans h3⟩
end Go.Proofs.Ytofegigbhohebaa.Hand
