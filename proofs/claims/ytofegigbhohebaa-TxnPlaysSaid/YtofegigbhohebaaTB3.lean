/- The book in memory. -/
import Derived.Test.YtofegigbhohebaaTB1
import Derived.MapKept
import Derived.Carry
namespace Go.Proofs.Ytofegigbhohebaa.Hand
open Go.RowKit Go.Proofs.Ytofegigbhohebaa Go.Proofs.YtofegigbhohebaaW.PrintWords Go.MapKept
set_option linter.unusedVariables false
set_option linter.unusedSimpArgs false
/-- Block B is a map from each name to its place in the list. -/
def MapS (W : World) (B : Nat) (l : List ByteArray) : Prop :=
  ∃ (es : Array MapEntry) (clock : Nat), W.heap[B]? = some (.map es clock) ∧ (∀ e ∈ es.toList, ∃ (s : ByteArray) (i : Nat), e.key = .string s ∧ l[i]? = some s ∧ e.val = .int .i64 i) ∧ ∀ s : ByteArray, (∃ e ∈ es.toList, e.key = .string s) ↔ s ∈ l
theorem MapS.made (W : World) : MapS (W.alloc (.map #[] 0)) W.heap.size [] := ⟨#[], 0, (heap_alloc W _).1, fun e he => by simp at he, fun k => by simp⟩
theorem MapS.lt {W : World} {B : Nat} {l : List ByteArray} (h : MapS W B l) : B < W.heap.size := by
  obtain ⟨es, c, hb, _⟩ := h
  exact (Array.getElem?_eq_some_iff.1 hb).1
theorem MapS.move {W W' : World} {B : Nat} {l : List ByteArray} (h : MapS W B l) (hb : W'.heap[B]? = W.heap[B]?) : MapS W' B l := by
  obtain ⟨es, c, h1, h2⟩ := h
  exact ⟨es, c, hb.trans h1, h2⟩
/-- A name's place; 0: none. -/
def idxV (l : List ByteArray) (s : ByteArray) : Int := if s ∈ l then (l.idxOf s : Int) else 0
theorem und60 : Try.prog.underlying 60 = some (.map 9 3) := by kernel_rfl
theorem und9 : Try.prog.underlying 9 = some .string := by kernel_rfl
theorem zero3 (w : World) : (zeroValue 3).run Try.prog w = .ok (.int .i64 0) w := by kernel_rfl
theorem isKeyS (x : ByteArray) : IsKey .string (.string x) := by simp [IsKey]
theorem idx_of {l : List ByteArray} (hn : l.Nodup) {s : ByteArray} {i : Nat} (h : l[i]? = some s) : s ∈ l ∧ l.idxOf s = i := by
  obtain ⟨hi, rfl⟩ := List.getElem?_eq_some_iff.1 h
  exact ⟨List.getElem_mem hi, hn.idxOf_getElem i hi⟩
theorem MapS.look {W : World} {B : Nat} {l : List ByteArray} (h : MapS W B l) (hn : l.Nodup) (x : ByteArray) : (Instr.lookup 60 (.map (some B)) (.string x) true).run Try.prog W = .ok (.tuple #[.int .i64 (idxV l x), .bool (decide (x ∈ l))]) W := by
  obtain ⟨es, c, hb, h1, h2⟩ := h
  have hk : ∀ e ∈ es.toList, IsKey .string e.key := fun e he => by obtain ⟨s, i, hk, _⟩ := h1 e he; rw [hk]; exact isKeyS s
  unfold Instr.lookup
  simp only [Sem.run_bind, run_underlying und60, Result.andThen, Go.MapKept.run_getObj_map hb, Sem.run_pure, run_checkKey und9 (isKeyS x)]
  rcases findNow_spec (isKeyS x) es.toList 0 hk with ⟨h3, h4⟩ | ⟨j, e, h3, h4, h5⟩
  · have hx : ¬ x ∈ l := fun hx => by obtain ⟨e, he, hk⟩ := (h2 x).2 hx; exact h4 e he hk
    simp [run_findKey und9 h3, zero3, Result.andThen, hx, idxV]
  · have he := List.mem_of_getElem? h4
    obtain ⟨s, i, hs, hi, hv⟩ := h1 e he
    rw [h5] at hs
    cases hs
    obtain ⟨hx, hix⟩ := idx_of hn hi
    simp [run_findKey und9 h3, Result.andThen, hx, hv, idxV, hix]
theorem MapS.put {W : World} {B : Nat} {l : List ByteArray} (h : MapS W B l) (x : ByteArray) (hx : x ∉ l) : ∃ W', (Instr.mapUpdate 60 (.map (some B)) (.string x) (.int .i64 l.length)).run Try.prog W = .ok () W' ∧ MapS W' B (l ++ [x]) ∧ W.grownBy W' (some B) := by
  obtain ⟨es, c, hb, h1, h2⟩ := h
  have hk : ∀ e ∈ es.toList, IsKey .string e.key := fun e he => by obtain ⟨s, i, hk, _⟩ := h1 e he; rw [hk]; exact isKeyS s
  have grow : ∀ o, W.grownBy { W with heap := W.heap.setIfInBounds B o } (some B) := fun o => ⟨rfl, rfl, rfl, by simp, fun k _ hk => (heap_set (o' := o) hb).2 k (fun e => hk (by rw [e]))⟩
  rcases findNow_spec (isKeyS x) es.toList 0 hk with ⟨h3, h4⟩ | ⟨j, e, h3, h4, h5⟩
  · refine ⟨_, ?_, ⟨es.push { key := .string x, val := .int .i64 l.length, born := c }, c + 1, (heap_set hb).1, ?_, ?_⟩, grow _⟩
    · unfold Instr.mapUpdate
      simp only [Sem.run_bind, run_underlying und60, Result.andThen, Go.MapKept.run_getObj_map hb, run_checkKey und9 (isKeyS x), run_findKey und9 h3, run_setObj_map _ hb]
    · intro e he
      simp only [Array.toList_push, List.mem_append, List.mem_singleton] at he
      rcases he with he | rfl
      · obtain ⟨s, i, e1, e2, e3⟩ := h1 e he
        exact ⟨s, i, e1, by rw [List.getElem?_append_left (List.getElem?_eq_some_iff.1 e2).1]; exact e2, e3⟩
      · exact ⟨x, l.length, rfl, by simp, rfl⟩
    · intro k
      simp only [Array.toList_push, List.mem_append, List.mem_singleton, ← h2 k]
      constructor
      · rintro ⟨e, he | rfl, hk⟩
        · exact .inl ⟨e, he, hk⟩
        · simp at hk; exact .inr hk.symm
      · rintro (⟨e, he, hk⟩ | rfl)
        · exact ⟨e, .inl he, hk⟩
        · exact ⟨_, .inr rfl, rfl⟩
  · exact absurd ((h2 x).1 ⟨e, List.mem_of_getElem? h4, h5⟩) hx
def kPtr : Kd Nat := Kd.scalar (fun g => .pointer (some ⟨g, 0, none⟩)) (fun _ => rfl)
def prod0 : ProdV := ⟨ByteArray.empty, 0, 0, 0, 0, []⟩
def prodC (p : ProdV) (v : Value) : Array Value := #[.string p.name, .int .i64 p.timeout, .int .i64 p.epoch, .int .i64 p.status, .int .i64 p.since, v]
/-- A book in memory. own: whose each block is: 0: not the book's; 1: its own; i + 2: the ith producer's. -/
structure BI (own : Nat → Nat) (gb : Nat) (gs : List Nat) (ps : List ProdV) (w : World) : Prop where
  lt : ∀ k, own k ≠ 0 → k < w.heap.size
  len : gs.length = ps.length
  book : ∃ A c B, w.heap[gb]? = some (.cells #[.slice A ps.length c, .map (some B), .bool true] 62 (0, 0)) ∧ Kd.R kPtr 83 w 0 (fun k => own k = 1) (.slice A ps.length c) gs ∧ MapS w B (ps.map ProdV.name) ∧ own B = 1
  ogb : own gb = 1
  prod : ∀ i, i < ps.length → own (gs.getD i 0) = i + 2 ∧ ∃ v, w.heap[gs.getD i 0]? = some (.cells (prodC (ps.getD i prod0) v) 85 (0, 0)) ∧ Kd.R (Kd.int .i64) 3 w 0 (fun k => own k = i + 2) v (ps.getD i prod0).places
/-- What isn't the book's is as it was. -/
structure Fr (own : Nat → Nat) (w w' : World) : Prop where
  os : w'.os = w.os
  tape : w'.tape = w.tape
  output : w'.output = w.output
  size : w.heap.size ≤ w'.heap.size
  block : ∀ k, k < w.heap.size → own k = 0 → w'.heap[k]? = w.heap[k]?
variable {own : Nat → Nat} {gb : Nat} {gs : List Nat} {ps : List ProdV} {w w' : World}
theorem BI.step (h : BI own gb gs ps w) (hs : w.heap.size ≤ w'.heap.size) (hk : ∀ k, own k ≠ 0 → w'.heap[k]? = w.heap[k]?) : BI own gb gs ps w' := by
  obtain ⟨A, c, B, h1, h2, h3, h4⟩ := h.book
  refine ⟨fun k hk => Nat.lt_of_lt_of_le (h.lt k hk) hs, h.len, ⟨A, c, B, (hk gb (by rw [h.ogb]; decide)).trans h1, Kd.R_move h2 (fun k e => hk k (by rw [e]; decide)), h3.move (hk B (by rw [h4]; decide)), h4⟩, h.ogb, fun i hi => ?_⟩
  obtain ⟨e1, v, e2, e3⟩ := h.prod i hi
  exact ⟨e1, v, (hk _ (by rw [e1]; omega)).trans e2, Kd.R_move e3 (fun k e => hk k (by rw [e]; omega))⟩
theorem BI.below (h : BI own gb gs ps w) (hb : Below w.heap.size w w') : BI own gb gs ps w' := h.step hb.size (fun k hk => hb.block k (h.lt k hk))
theorem Fr.refl (own : Nat → Nat) (w : World) : Fr own w w := ⟨rfl, rfl, rfl, Nat.le_refl _, fun _ _ _ => rfl⟩
theorem Fr.below (own : Nat → Nat) (hb : Below w.heap.size w w') : Fr own w w' := ⟨hb.os, hb.tape, hb.output, hb.size, fun k hk _ => hb.block k hk⟩
theorem Fr.trans {own' : Nat → Nat} {w'' : World} (h : Fr own w w') (h2 : Fr own' w' w'') (ho : ∀ k, k < w.heap.size → own' k = own k) : Fr own w w'' :=
  ⟨h2.os.trans h.os, h2.tape.trans h.tape, h2.output.trans h.output, Nat.le_trans h.size h2.size, fun k hk h0 => (h2.block k (Nat.lt_of_lt_of_le hk h.size) (by rw [ho k hk, h0])).trans (h.block k hk h0)⟩
theorem Fr.out {W : World} (h : Fr own w w') (hb : Below W.heap.size W w) (h0 : ∀ k, k < W.heap.size → own k = 0) : Below W.heap.size W w' :=
  ⟨h.os.trans hb.os, h.tape.trans hb.tape, h.output.trans hb.output, Nat.le_trans hb.size h.size, fun k hk => (h.block k (Nat.lt_of_lt_of_le hk hb.size) (h0 k hk)).trans (hb.block k hk)⟩
/-- A producer has changed. -/
theorem BI.put (h : BI own gb gs ps w) {i : Nat} (hi : i < ps.length) {own' : Nat → Nat} {p' : ProdV} {v' : Value} (hn : p'.name = (ps.getD i prod0).name) (hs : w.heap.size ≤ w'.heap.size) (hk : ∀ k, own k ≠ 0 → own k ≠ i + 2 → w'.heap[k]? = w.heap[k]?)
    (ho : ∀ k, own k ≠ 0 → own' k = own k) (hlt : ∀ k, own' k ≠ 0 → k < w'.heap.size) (hb : w'.heap[gs.getD i 0]? = some (.cells (prodC p' v') 85 (0, 0))) (hv : Kd.R (Kd.int .i64) 3 w' 0 (fun k => own' k = i + 2) v' p'.places) : BI own' gb gs (ps.set i p') w' := by
  have hon : ∀ k n, own k = n + 1 → own' k = n + 1 := fun k n e => by rw [ho k (by rw [e]; omega), e]
  obtain ⟨A, c, B, h1, h2, h3, h4⟩ := h.book
  have hnames : (ps.set i p').map ProdV.name = ps.map ProdV.name := by
    rw [List.map_set, hn]
    refine List.ext_getElem? fun j => ?_
    rw [List.getElem?_set]
    split
    · rename_i e
      subst e
      rw [List.length_map, if_pos hi, List.getElem?_map, List.getD_eq_getElem?_getD, List.getElem?_eq_getElem hi]
      rfl
    · rfl
  refine ⟨hlt, by rw [List.length_set]; exact h.len, ⟨A, c, B, ?_, Kd.R_mono ?_ (fun k e => hon k 0 e), ?_, hon B 0 h4⟩, hon gb 0 h.ogb, fun j hj => ?_⟩
  · rw [List.length_set]; exact (hk gb (by rw [h.ogb]; decide) (by rw [h.ogb]; omega)).trans h1
  · rw [List.length_set]; exact Kd.R_move h2 (fun k e => hk k (by rw [e]; decide) (by rw [e]; omega))
  · rw [hnames]; exact h3.move (hk B (by rw [h4]; decide) (by rw [h4]; omega))
  · rw [List.length_set] at hj
    obtain ⟨e1, v, e2, e3⟩ := h.prod j hj
    refine ⟨hon _ (j + 1) e1, ?_⟩
    by_cases hij : i = j
    · subst hij
      have : (ps.set i p').getD i prod0 = p' := by rw [List.getD_eq_getElem?_getD, List.getElem?_set_self hi]; rfl
      rw [this]
      exact ⟨v', hb, hv⟩
    · have : (ps.set i p').getD j prod0 = ps.getD j prod0 := by rw [List.getD_eq_getElem?_getD, List.getElem?_set_ne hij, List.getD_eq_getElem?_getD]
      rw [this]
      exact ⟨v, (hk _ (by rw [e1]; omega) (by rw [e1]; omega)).trans e2, Kd.R_mono (Kd.R_move e3 (fun k e => hk k (by rw [e]; omega) (by rw [e]; omega))) (fun k e => hon k (j + 1) e)⟩
/-- A producer more. -/
theorem BI.push (h : BI own gb gs ps w) {own' : Nat → Nat} {p : ProdV} {g : Nat} {v : Value} {A : Option Addr} {c B : Nat} (hs : w.heap.size ≤ w'.heap.size) (hk : ∀ k, own k ≠ 0 → own k ≠ 1 → w'.heap[k]? = w.heap[k]?)
    (ho : ∀ k, own k ≠ 0 → own' k = own k) (hlt : ∀ k, own' k ≠ 0 → k < w'.heap.size) (hgb : w'.heap[gb]? = some (.cells #[.slice A (ps.length + 1) c, .map (some B), .bool true] 62 (0, 0))) (hrow : Kd.R kPtr 83 w' 0 (fun k => own' k = 1) (.slice A (ps.length + 1) c) (gs ++ [g])) (hm : MapS w' B ((ps ++ [p]).map ProdV.name)) (hB : own' B = 1)
    (hg : own' g = ps.length + 2) (hb : w'.heap[g]? = some (.cells (prodC p v) 85 (0, 0))) (hv : Kd.R (Kd.int .i64) 3 w' 0 (fun k => own' k = ps.length + 2) v p.places) : BI own' gb (gs ++ [g]) (ps ++ [p]) w' := by
  have hon : ∀ k n, own k = n + 1 → own' k = n + 1 := fun k n e => by rw [ho k (by rw [e]; omega), e]
  have hl : (ps ++ [p]).length = ps.length + 1 := by rw [List.length_append]; rfl
  refine ⟨hlt, by rw [List.length_append, hl, h.len]; rfl, ⟨A, c, B, by rw [hl]; exact hgb, by rw [hl]; exact hrow, hm, hB⟩, hon gb 0 h.ogb, fun j hj => ?_⟩
  rw [hl] at hj
  by_cases hjl : j < ps.length
  · obtain ⟨e1, u, e2, e3⟩ := h.prod j hjl
    have g1 : (gs ++ [g]).getD j 0 = gs.getD j 0 := by rw [List.getD_eq_getElem?_getD, List.getElem?_append_left (by rw [h.len]; exact hjl), List.getD_eq_getElem?_getD]
    have g2 : (ps ++ [p]).getD j prod0 = ps.getD j prod0 := by rw [List.getD_eq_getElem?_getD, List.getElem?_append_left hjl, List.getD_eq_getElem?_getD]
    rw [g1, g2]
    exact ⟨hon _ (j + 1) e1, u, (hk _ (by rw [e1]; omega) (by rw [e1]; omega)).trans e2, Kd.R_mono (Kd.R_move e3 (fun k e => hk k (by rw [e]; omega) (by rw [e]; omega))) (fun k e => hon k (j + 1) e)⟩
  · obtain rfl : j = ps.length := by omega
    have g1 : (gs ++ [g]).getD ps.length 0 = g := by rw [← h.len, List.getD_eq_getElem?_getD]; simp
    have g2 : (ps ++ [p]).getD ps.length prod0 = p := by rw [List.getD_eq_getElem?_getD]; simp
    rw [g1, g2]
    exact ⟨hg, v, hb, hv⟩
end Go.Proofs.Ytofegigbhohebaa.Hand
