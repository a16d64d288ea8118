/- A row of events that comes in, opened. -/
import Derived.Lib.SmallJoins
import Derived.Deep.Slices
import Derived.OpenShut
import Derived.Test.YtofegigbhohebaaTBIn
namespace Go.Proofs.Ytofegigbhohebaa.Hand
open Go.ChangeShapes Go.WideShapes Go.RowKit Go.Deep Go.Proofs.YtofegigbhohebaaW.PrintWords
set_option linter.unusedVariables false
set_option linter.unusedSimpArgs false
def evL (x : EvV) : List Value := [.int .i64 x.kind, .string x.name, .int .i64 x.producer, .int .i64 x.epoch, .int .i64 x.place, .int .i64 x.timeout, .int .i64 x.now, .bool x.yes]
def wfE (x : EvV) : Prop := wfI x.kind ∧ wfI x.producer ∧ wfI x.epoch ∧ wfI x.place ∧ wfI x.timeout ∧ wfI x.now ∧ x.name.size ≤ maxLen
/-- A row of events. -/
def EvRow (w : World) (A : Option Addr) (l : List EvV) : Prop := l.length ≤ 9223372036854775807 ∧ ∀ i x, l[i]? = some x → ∃ ad, A = some ad ∧ ∀ j v, (evL x)[j]? = some v → w.cell? (ad.add (i * 8 + j)) = some v
theorem EvRow.below {w w' : World} {A : Option Addr} {l : List EvV} (h : EvRow w A l) (hb : Below w.heap.size w w') : EvRow w' A l :=
  ⟨h.1, fun i x hx => by
    obtain ⟨ad, hA, hc⟩ := h.2 i x hx
    exact ⟨ad, hA, fun j v hj => (hb.cell (p := ad.add (i * 8 + j)) (World.block_lt_of_cell? w _ (hc j v hj))).trans (hc j v hj)⟩⟩
theorem list8 {α : Type} : ∀ {l : List α}, l.length = 8 → ∃ a b c d e f g h, l = [a, b, c, d, e, f, g, h]
  | [a, b, c, d, e, f, g, h], _ => ⟨a, b, c, d, e, f, g, h, rfl⟩
set_option maxRecDepth 100000 in
theorem event_cells {H : Type} {enc : TypeId × Value → H} {w : World} {base : Nat} {held : Bool} {fuel : Nat} {cs : List Value} {y : DataW H × List MemPlace} (hf : DataW.trod enc Try.prog w base (fun _ => true) held fuel 35 cs = some y) : ∃ x : EvV, cs = evL x ∧ wfE x := by
  obtain ⟨xs, n, _, -, hl, hlen, ht⟩ := DataW.trod_struct Try.underlying35 hf
  rw [c35_] at hl
  obtain ⟨v0, v1, v2, v3, v4, v5, v6, v7, rfl⟩ := list8 hl
  match xs, hlen with
  | [y0, y1, y2, y3, y4, y5, y6, y7], _ =>
    have t0 := ht 0 _ rfl
    have t1 := ht 1 _ rfl
    have t2 := ht 2 _ rfl
    have t3 := ht 3 _ rfl
    have t4 := ht 4 _ rfl
    have t5 := ht 5 _ rfl
    have t6 := ht 6 _ rfl
    have t7 := ht 7 _ rfl
    obtain ⟨a0, e0, -, w0⟩ := DataW.trod_int (k := .i64) (by kernel_rfl) t0
    obtain ⟨a1, e1, -, w1⟩ := DataW.trod_string (by kernel_rfl) t1
    obtain ⟨a2, e2, -, w2⟩ := DataW.trod_int (k := .i64) (by kernel_rfl) t2
    obtain ⟨a3, e3, -, w3⟩ := DataW.trod_int (k := .i64) (by kernel_rfl) t3
    obtain ⟨a4, e4, -, w4⟩ := DataW.trod_int (k := .i64) (by kernel_rfl) t4
    obtain ⟨a5, e5, -, w5⟩ := DataW.trod_int (k := .i64) (by kernel_rfl) t5
    obtain ⟨a6, e6, -, w6⟩ := DataW.trod_int (k := .i64) (by kernel_rfl) t6
    obtain ⟨a7, e7, -⟩ := DataW.trod_bool (by kernel_rfl) t7
    have q0 : [v0] = [Value.int .i64 a0] := e0
    have q1 : [v1] = [Value.string a1] := e1
    have q2 : [v2] = [Value.int .i64 a2] := e2
    have q3 : [v3] = [Value.int .i64 a3] := e3
    have q4 : [v4] = [Value.int .i64 a4] := e4
    have q5 : [v5] = [Value.int .i64 a5] := e5
    have q6 : [v6] = [Value.int .i64 a6] := e6
    have q7 : [v7] = [Value.bool a7] := e7
    simp only [List.cons.injEq, and_true] at q0 q1 q2 q3 q4 q5 q6 q7
    subst q0 q1 q2 q3 q4 q5 q6 q7
    exact ⟨⟨a0, a1, a2, a3, a4, a5, a6, a7⟩, rfl, w0, w2, w3, w4, w5, w6, w1⟩
theorem cells?_eight {w : World} {base : Nat} {a : Addr} {l : List Value} (h : w.cells? base a 8 = some l) : ∀ j v, l[j]? = some v → w.cell? (a.add j) = some v := by
  unfold World.cells? at h
  split at h
  · intro j v hj
    have hlen := mapM_some_length h
    have hj2 : j < l.length := (List.getElem?_eq_some_iff.1 hj).1
    have hj8 : j < 8 := by rw [hlen] at hj2; simpa using hj2
    have g := mapM_some_get h j j (by simp [hj8])
    rw [hj] at g
    exact g
  · cases h
set_option maxRecDepth 100000 in
theorem events_open {H : Type} {enc : TypeId × Value → H} {r : Reach} {b0 : Nat} {w : World} {base : Nat} {held : Bool} {v : Value} {d : DataW H} {p : List MemPlace}
    (hv : Value.okWide Try.prog w r b0 22 v) (h : DataW.Trod enc Try.prog w base (fun _ => true) held 22 v d p) : ∃ (A : Option Addr) (c : Nat) (l : List EvV), v = .slice A l.length c ∧ l.length ≤ c ∧ EvRow w A l ∧ ∀ x ∈ l, wfE x := by
  have u22 : Try.prog.underlying 22 = some (.slice 35) := by kernel_rfl
  obtain ⟨a1, len1, cap1, rfl⟩ := okWide_slice Try.underlying22 hv
  obtain ⟨fuel, hf⟩ := h
  rcases open_slice u22 hf with ⟨hcs, -⟩ | ⟨a, len, cap, m, n, D, Pl, hcs, hb, hl, hm, hmm, -, hx⟩
  · simp [Value.cells] at hcs
    obtain ⟨rfl, rfl, rfl⟩ := hcs
    exact ⟨none, 0, [], rfl, Nat.le_refl _, ⟨by simp, fun i x hx => by simp at hx⟩, fun x hx => by cases hx⟩
  simp [Value.cells] at hcs
  obtain ⟨rfl, rfl, rfl⟩ := hcs
  simp only [if_true] at hmm
  subst hmm
  rw [c35_] at hx
  have each : ∀ i, i < m → ∃ x : EvV, (∀ j v, (evL x)[j]? = some v → w.cell? (a.add (i * 8 + j)) = some v) ∧ wfE x := by
    intro i hi
    obtain ⟨cs', hc, ht⟩ := hx i hi
    obtain ⟨x, rfl, hw⟩ := event_cells ht
    refine ⟨x, fun j v hj => ?_, hw⟩
    have := cells?_eight hc j v hj
    rw [Deep.add_add] at this
    exact this
  haveI : Inhabited EvV := ⟨⟨0, ByteArray.empty, 0, 0, 0, 0, 0, false⟩⟩
  obtain ⟨R, hR⟩ := choose_lt each
  have hlenx : ((List.range len1).map R).length = len1 := by simp
  refine ⟨some a, m, (List.range len1).map R, by rw [hlenx], by rw [hlenx]; exact hl, ⟨?_, fun i x hx => ⟨a, rfl, ?_⟩⟩, fun x hx => ?_⟩
  · rw [hlenx]; have : m ≤ 9223372036854775807 := hm; omega
  · rw [List.getElem?_map] at hx
    obtain ⟨i', hi', rfl⟩ := Option.map_eq_some_iff.1 hx
    obtain ⟨hi1, hi2⟩ := List.getElem?_eq_some_iff.1 hi'
    simp only [List.length_range, List.getElem_range] at hi1 hi2
    subst hi2
    exact (hR i (by omega)).1
  · obtain ⟨i, hi, rfl⟩ := List.mem_map.1 hx
    exact (hR i (by have := List.mem_range.1 hi; omega)).2
end Go.Proofs.Ytofegigbhohebaa.Hand
