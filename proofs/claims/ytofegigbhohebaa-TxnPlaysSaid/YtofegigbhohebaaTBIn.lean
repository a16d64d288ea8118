/- An event that comes in, opened. -/
import Derived.Deep.Strs
import Derived.SizedLaws
import Derived.WideShapes
import Derived.Test.YtofegigbhohebaaTB1
import Derived.Test.YtofegigbhohebaaChecked
namespace Go.Proofs.Ytofegigbhohebaa.Hand
open Go.ChangeShapes Go.WideShapes Go.RowKit Go.Deep Go.Proofs.YtofegigbhohebaaW.PrintWords
set_option linter.unusedVariables false
set_option linter.unusedSimpArgs false
theorem array8 {α : Type} {cs : Array α} (h : cs.size = 8) : ∃ c0 c1 c2 c3 c4 c5 c6 c7, cs = #[c0, c1, c2, c3, c4, c5, c6, c7] := by
  obtain ⟨l⟩ := cs
  match l, h with
  | [c0, c1, c2, c3, c4, c5, c6, c7], _ => exact ⟨c0, c1, c2, c3, c4, c5, c6, c7, rfl⟩
theorem c35_ : Try.prog.cellsOf 35 = 8 := by kernel_rfl
theorem cc3 : Try.prog.cellsOf 3 = 1 := by kernel_rfl
theorem cc9 : Try.prog.cellsOf 9 = 1 := by kernel_rfl
theorem cc4 : Try.prog.cellsOf 4 = 1 := by kernel_rfl
def wfI (n : Int) : Prop := (Lit.int .i64 n).wf = true
set_option maxRecDepth 100000 in
theorem event_open {H : Type} {enc : TypeId × Value → H} {r : Reach} {b0 : Nat} {w : World} {base : Nat} {held : Bool} {v : Value} {d : DataW H} {p : List MemPlace}
    (hv : Value.okWide Try.prog w r b0 35 v) (h : DataW.Trod enc Try.prog w base (fun _ => true) held 35 v d p) :
    ∃ x : EvV, v = evE x ∧ (wfI x.kind ∧ wfI x.producer ∧ wfI x.epoch ∧ wfI x.place ∧ wfI x.timeout ∧ wfI x.now ∧ x.name.size ≤ maxLen) := by
  obtain ⟨cs, rfl, hsz⟩ := okWide_struct Try.underlying35 hv
  rw [c35_] at hsz
  obtain ⟨v0, v1, v2, v3, v4, v5, v6, v7, rfl⟩ := array8 hsz
  obtain ⟨fuel, hf⟩ := h
  obtain ⟨xs, n, _, -, hl, hlen, ht⟩ := DataW.trod_struct Try.underlying35 hf
  match xs, hlen with
  | [y0, y1, y2, y3, y4, y5, y6, y7], _ =>
    have t0 := ht 0 _ rfl
    have t1 := ht 1 _ rfl
    have t2 := ht 2 _ rfl
    have t3 := ht 3 _ rfl
    have t4 := ht 4 _ rfl
    have t5 := ht 5 _ rfl
    have t6 := ht 6 _ rfl
    have t7 := ht 7 _ rfl
    obtain ⟨a0, e0, -, w0⟩ := DataW.trod_int (k := .i64) (by kernel_rfl) t0
    obtain ⟨a1, e1, -, w1⟩ := DataW.trod_string (by kernel_rfl) t1
    obtain ⟨a2, e2, -, w2⟩ := DataW.trod_int (k := .i64) (by kernel_rfl) t2
    obtain ⟨a3, e3, -, w3⟩ := DataW.trod_int (k := .i64) (by kernel_rfl) t3
    obtain ⟨a4, e4, -, w4⟩ := DataW.trod_int (k := .i64) (by kernel_rfl) t4
    obtain ⟨a5, e5, -, w5⟩ := DataW.trod_int (k := .i64) (by kernel_rfl) t5
    obtain ⟨a6, e6, -, w6⟩ := DataW.trod_int (k := .i64) (by kernel_rfl) t6
    obtain ⟨a7, e7, -⟩ := DataW.trod_bool (by kernel_rfl) t7
    have q0 : [v0] = [Value.int .i64 a0] := e0
    have q1 : [v1] = [Value.string a1] := e1
    have q2 : [v2] = [Value.int .i64 a2] := e2
    have q3 : [v3] = [Value.int .i64 a3] := e3
    have q4 : [v4] = [Value.int .i64 a4] := e4
    have q5 : [v5] = [Value.int .i64 a5] := e5
    have q6 : [v6] = [Value.int .i64 a6] := e6
    have q7 : [v7] = [Value.bool a7] := e7
    simp only [List.cons.injEq, and_true] at q0 q1 q2 q3 q4 q5 q6 q7
    subst q0 q1 q2 q3 q4 q5 q6 q7
    exact ⟨⟨a0, a1, a2, a3, a4, a5, a6, a7⟩, rfl, w0, w2, w3, w4, w5, w6, w1⟩
end Go.Proofs.Ytofegigbhohebaa.Hand
