/- A row of ops that comes in, opened; what its bulk says. -/
import Derived.Lib.SmallJoins
import Derived.SizedLaws
import Derived.WalkKit
import Derived.ProofKit
import Derived.OpenShut
import Derived.Deep.Strs
import Derived.Test.YtckeahjlfopaaaaHN29
import Derived.Test.YtckeahjlfopaaaaRows
namespace Go.Proofs.Ytckeahjlfopaaaa.Hand
open Go.ChangeShapes Go.WideShapes Go.RowKit Go.Deep Go.Proofs.YtckeahjlfopaaaaW.PrintWords
set_option linter.unusedVariables false
def fKind : Field := { name := "Kind", type := 3, offset := 0, embedded := false, tag := "", pkgPath := "", byteOffset := 0 }
def fN : Field := { name := "N", type := 3, offset := 1, embedded := false, tag := "", pkgPath := "", byteOffset := 8 }
def fB : Field := { name := "B", type := 22, offset := 2, embedded := false, tag := "", pkgPath := "", byteOffset := 16 }
def fL : Field := { name := "L", type := 27, offset := 3, embedded := false, tag := "", pkgPath := "", byteOffset := 40 }
theorem s35 : Try.prog.underlying 35 = some (.struct #[fKind, fN, fB, fL]) := by kernel_rfl
theorem bulk_lits {H : Type} (k : IntKind) : ∀ (l : List Int), Rows.uptoBulkAll (lits (H := H) k l) = l.length
  | [] => rfl
  | x :: l => by
    have h := bulk_lits (H := H) k l
    simp only [lits, List.map_cons, Rows.uptoBulkAll, Rows.uptoBulk, List.length_cons] at h ⊢
    omega
theorem bulk_le {H : Type} : ∀ {ds : List (DataW H)} {d : DataW H}, d ∈ ds → Rows.uptoBulk d ≤ Rows.uptoBulkAll ds
  | [], _, h => by cases h
  | x :: r, d, h => by
    simp only [Rows.uptoBulkAll]
    rcases List.mem_cons.1 h with e | e
    · subst e; omega
    · have := bulk_le e; omega
/-- A row of whole numbers, read at any kind. -/
theorem ints_open {H : Type} {enc : TypeId × Value → H} {w : World} {base : Nat} {held : Bool} {fuel : Nat} {cs : List Value} {y : DataW H × List MemPlace} {t e : TypeId} {k : IntKind}
    (hu : Try.prog.underlying t = some (.slice e)) (he : Try.prog.underlying e = some (.int k)) (hc : Try.prog.cellsOf e = 1)
    (h : DataW.trod enc Try.prog w base (fun _ => true) held fuel t cs = some y) :
    ∃ (A : Option Addr) (c : Nat) (l : List Int), cs = [.slice A l.length c] ∧ l.length ≤ c ∧ Kd.C (Kd.int k) w A l.length l ∧ l.length ≤ Rows.uptoBulk y.1 := by
  rcases open_ints hu he hc h with ⟨hcs, hy⟩ | ⟨x, len, cap, zs, hcs, _, hl, hm, hz, hy, hcell, hwz⟩
  · subst hcs hy
    exact ⟨none, 0, [], rfl, Nat.le_refl _, ⟨rfl, by simp, fun h => absurd h (by simp)⟩, by simp⟩
  · simp only [if_true] at hz
    have w1 : ∃ zs : List Int, ((some x : Option Addr) = none ∧ len = 0 ∧ cap = 0 ∧ zs = []) ∨ ∃ x', some x = some x' ∧ len ≤ cap ∧ cap ≤ maxLen ∧ zs.length = cap ∧ (∀ i, i < zs.length → w.cell? (x'.add i) = some (.int k (zs.getD i 0))) ∧ ∀ n ∈ zs, (Lit.int k n).wf = true :=
      ⟨zs, .inr ⟨x, rfl, hl, hm, by simpa using hz, hcell, hwz⟩⟩
    have hlt : (zs.take len).length = len := by rw [List.length_take]; omega
    refine ⟨some x, cap, zs.take len, by rw [hcs, hlt], by rw [hlt]; exact hl, ?_, ?_⟩
    · refine ⟨rfl, ?_, fun h0 => ⟨x, rfl, fun j p hj => ?_⟩⟩
      · rw [hlt]; have : cap ≤ 9223372036854775807 := hm; omega
      · have hj1 : j < (zs.take len).length := (List.getElem?_eq_some_iff.1 hj).1
        have hj2 : j < zs.length := by rw [hlt] at hj1; omega
        have hp : zs.getD j 0 = p := by
          rw [List.getElem?_take_of_lt (by rw [hlt] at hj1; exact hj1)] at hj
          rw [List.getD_eq_getElem?_getD, hj]; rfl
        refine ⟨[.int k p], rfl, rfl, fun i u hu => ?_⟩
        match i, hu with
        | 0, hu =>
          simp at hu; subst hu
          have := hcell j hj2
          rw [hp] at this
          exact (congrArg w.cell? (congrArg x.add (show j * 1 + 0 = j by omega))).trans this
        | i + 1, hu => simp at hu
    · subst hy
      simp only [Rows.uptoBulk, bulk_lits]
      omega
theorem k35_mk {w : World} {o : OpV} {A A' : Option Addr} {c c' : Nat} (h1 : o.b.length ≤ c) (h2 : Kd.C (Kd.int .u8) w A o.b.length o.b) (h3 : o.l.length ≤ c') (h4 : Kd.C (Kd.int .i64) w A' o.l.length o.l) : k35.K w o [.int .i64 o.kind, .int .i64 o.n, .slice A o.b.length c, .slice A' o.l.length c'] :=
  ⟨[.int .i64 o.kind], [.int .i64 o.n, .slice A o.b.length c, .slice A' o.l.length c'], rfl, rfl, [.int .i64 o.n], [.slice A o.b.length c, .slice A' o.l.length c'], rfl, rfl, [.slice A o.b.length c], [.slice A' o.l.length c'], rfl, ⟨A, c, rfl, h1, h2⟩, ⟨A', c', rfl, h3, h4⟩⟩
theorem cells?_four {w : World} {base : Nat} {a : Addr} {x y z v : Value} (h : w.cells? base a 4 = some [x, y, z, v]) : w.cell? (a.add 0) = some x ∧ w.cell? (a.add 1) = some y ∧ w.cell? (a.add 2) = some z ∧ w.cell? (a.add 3) = some v := by
  unfold World.cells? at h
  split at h
  · have g0 := mapM_some_get h 0 0 (by simp)
    have g1 := mapM_some_get h 1 1 (by simp)
    have g2 := mapM_some_get h 2 2 (by simp)
    have g3 := mapM_some_get h 3 3 (by simp)
    simp only [List.getElem?_cons_zero, List.getElem?_cons_succ] at g0 g1 g2 g3
    exact ⟨g0, g1, g2, g3⟩
  · cases h
theorem sum_bulk {H : Type} (D : Nat → DataW H) (R : Nat → OpV) : ∀ (l : List Nat), (∀ i ∈ l, (R i).b.length + (R i).l.length + 1 ≤ Rows.uptoBulk (D i)) → (l.map R).length + sumL (l.map R) ≤ Rows.uptoBulkAll (l.map D)
  | [], _ => by simp [sumL, Rows.uptoBulkAll]
  | i :: l, h => by
    have h1 := sum_bulk D R l (fun i hi => h i (List.mem_cons_of_mem _ hi))
    have h2 := h i List.mem_cons_self
    simp only [List.map_cons, sumL, Rows.uptoBulkAll, List.length_cons] at h1 ⊢
    omega
theorem ops_open {H : Type} {enc : TypeId × Value → H} {w : World} {base : Nat} {held : Bool} {fuel : Nat} {cs : List Value} {y : DataW H × List MemPlace}
    (h : DataW.trod enc Try.prog w base (fun _ => true) held fuel 32 cs = some y) :
    ∃ (A : Option Addr) (c : Nat) (ops : List OpV), cs = [.slice A ops.length c] ∧ Kd.C k35 w A ops.length ops ∧ ops.length + sumL ops ≤ Rows.uptoBulk y.1 ∧ ∀ o ∈ ops, o.b.length ≤ Rows.uptoBulk y.1 := by
  have u32 : Try.prog.underlying 32 = some (.slice 35) := by kernel_rfl
  have c35 : Try.prog.cellsOf 35 = 4 := by kernel_rfl
  rcases open_slice u32 h with ⟨rfl, rfl⟩ | ⟨a, len, cap, m, n, D, Pl, rfl, hb, hl, hm, hmm, rfl, hx⟩
  · exact ⟨none, 0, [], rfl, ⟨rfl, by simp, fun h => absurd h (by simp)⟩, by simp [sumL], fun o ho => by cases ho⟩
  simp only [if_true] at hmm
  subst hmm
  rw [c35] at hx
  have each : ∀ i, i < m → ∃ r : OpV × Option Addr × Nat × Option Addr × Nat, w.cell? (a.add (i * 4 + 0)) = some (.int .i64 r.1.kind) ∧ w.cell? (a.add (i * 4 + 1)) = some (.int .i64 r.1.n) ∧ w.cell? (a.add (i * 4 + 2)) = some (.slice r.2.1 r.1.b.length r.2.2.1) ∧ w.cell? (a.add (i * 4 + 3)) = some (.slice r.2.2.2.1 r.1.l.length r.2.2.2.2) ∧
      k35.K w r.1 [.int .i64 r.1.kind, .int .i64 r.1.n, .slice r.2.1 r.1.b.length r.2.2.1, .slice r.2.2.2.1 r.1.l.length r.2.2.2.2] ∧ r.1.b.length + r.1.l.length + 1 ≤ Rows.uptoBulk (D i) := by
    intro i hi
    obtain ⟨cs', hc, ht⟩ := hx i hi
    obtain ⟨y0, y1, y2, y3, k, hy, hlen, h0, h1, h2, h3⟩ := Go.Joins.trod_struct4 s35 ht
    rw [c35] at hlen
    match cs', hlen with
    | [v0, v1, v2, v3], _ =>
      obtain ⟨x0, e0, _⟩ := DataW.trod_int Try.underlying3 h0
      obtain ⟨x1, e1, _⟩ := DataW.trod_int Try.underlying3 h1
      obtain ⟨A2, c2, l2, e2, q2, C2, b2⟩ := ints_open Try.underlying22 Try.underlying5 (by kernel_rfl) h2
      obtain ⟨A3, c3, l3, e3, q3, C3, b3⟩ := ints_open Try.underlying27 Try.underlying3 (by kernel_rfl) h3
      have e0' : [v0] = [Value.int .i64 x0] := e0
      have e1' : [v1] = [Value.int .i64 x1] := e1
      have e2' : [v2] = [Value.slice A2 l2.length c2] := e2
      have e3' : [v3] = [Value.slice A3 l3.length c3] := e3
      simp only [List.cons.injEq, and_true] at e0' e1' e2' e3'
      subst e0' e1' e2' e3'
      obtain ⟨k0, k1, k2, k3⟩ := cells?_four hc
      rw [Deep.add_add] at k0 k1 k2 k3
      refine ⟨(⟨x0, x1, l2, l3⟩, A2, c2, A3, c3), k0, k1, k2, k3, k35_mk q2 C2 q3 C3, ?_⟩
      have hD : D i = _ := (Prod.mk.inj hy).1
      rw [hD]
      simp only [Rows.uptoBulk, Rows.uptoBulkAll]
      omega
  haveI : Inhabited OpV := ⟨⟨0, 0, [], []⟩⟩
  haveI : Inhabited (OpV × Option Addr × Nat × Option Addr × Nat) := ⟨(⟨0, 0, [], []⟩, none, 0, none, 0)⟩
  obtain ⟨R, hR⟩ := choose_lt each
  have hlenx : ((List.range len).map fun i => (R i).1).length = len := by simp
  have hsum := sum_bulk D (fun i => (R i).1) (List.range len) (fun i hi => (hR i (by have := List.mem_range.1 hi; omega)).2.2.2.2.2)
  refine ⟨some a, m, (List.range len).map fun i => (R i).1, by rw [hlenx], ⟨rfl, ?_, fun _ => ⟨a, rfl, fun j p hj => ?_⟩⟩, ?_, fun o ho => ?_⟩
  · rw [hlenx]; have : m ≤ 9223372036854775807 := hm; omega
  · have hj1 : j < len := by rw [← hlenx]; exact (List.getElem?_eq_some_iff.1 hj).1
    have hp : p = (R j).1 := by
      simp [hj1] at hj
      exact hj.symm
    subst hp
    obtain ⟨k0, k1, k2, k3, k4, _⟩ := hR j (by omega)
    refine ⟨_, rfl, k4, fun i u hu => ?_⟩
    match i, hu with
    | 0, hu => simp at hu; subst hu; exact k0
    | 1, hu => simp at hu; subst hu; exact k1
    | 2, hu => simp at hu; subst hu; exact k2
    | 3, hu => simp at hu; subst hu; exact k3
    | i + 4, hu => simp at hu
  · simp only [Rows.uptoBulk]
    omega
  · simp only [List.mem_map, List.mem_range] at ho
    obtain ⟨i, hi, rfl⟩ := ho
    have h1 := (hR i (by omega)).2.2.2.2.2
    have h2 : Rows.uptoBulk (D i) ≤ Rows.uptoBulkAll ((List.range len).map D) := bulk_le (List.mem_map.2 ⟨i, List.mem_range.2 hi, rfl⟩)
    simp only [Rows.uptoBulk]
    omega
end Go.Proofs.Ytckeahjlfopaaaa.Hand
