/- What Decode answers, and its two doors. -/
import Derived.Test.YtpcoelimabojcaaHC12
import Derived.Test.YtpcoelimabojcaaHD1
import Derived.Test.YtpcoelimabojcaaHD2
namespace Go.Proofs.Ytpcoelimabojcaa.Hand
open Go.RowKit Go.Proofs.Ytpcoelimabojcaa Go.Proofs.YtpcoelimabojcaaW.PrintWords Go.Proofs.YtpcoelimabojcaaW.PrintLast
set_option linter.unusedVariables false
set_option linter.unusedSimpArgs false
/-- A number read: it, and the place behind it. -/
def numD (l : List Int) (p size : Int) : Option (Int × Int) := if (getF l p size).2.2 = 0 then some ((getF l p size).1, (getF l p size).2.1) else none
def nodesD (l : List Int) : Nat → List Int → Int → Option (List Int × Int)
  | 0, acc, p => some (acc, p)
  | k + 1, acc, p => (numD l p 1).bind fun q => nodesD l k (acc ++ [q.1]) q.2
def partD (l : List Int) (p : Int) : Option (PartV × Int) :=
  (numD l p 6).bind fun a => (numD l a.2 6).bind fun b => (numD l b.2 1).bind fun m => (nodesD l m.1.toNat [] m.2).bind fun q => some (⟨a.1, b.1, q.1⟩, q.2)
def partsD (l : List Int) : Nat → List PartV → Int → Option (List PartV × Int)
  | 0, acc, p => some (acc, p)
  | k + 1, acc, p => (partD l p).bind fun q => partsD l k (acc ++ [q.1]) q.2
def chainD (l : List Int) : Option ((Int × Int × List PartV) × Int) :=
  (numD l 0 1).bind fun o => (numD l o.2 6).bind fun t => (numD l t.2 1).bind fun n => (partsD l n.1.toNat [] n.2).bind fun q => some ((o.1, t.1, q.1), q.2)
/-- A chain that was read and may be; none: it may not. -/
def goodD (l : List Int) (n : Int) : Option (Int × Int × List PartV) :=
  (chainD l).bind fun q => if q.2 = (l.length : Int) ∧ rightF q.1.1 q.1.2.1 q.1.2.2 n = true then some q.1 else none
/-- What Decode answers. -/
def decF (l : List Int) (n : Int) : Int × Int × List PartV × Int :=
  if 256 < n then (0, 0, [], 6) else match goodD l n with
    | none => (0, 0, [], 22)
    | some q => (q.1, q.2.1, q.2.2, 0)
/-- What Decode leaves. -/
def DecP (l : List Int) (n : Int) (W : World) (e : Ending) (W' : World) : Prop :=
  Below W.heap.size W W' ∧ ∃ A c, e = .returned (.tuple #[.agg #[.int .i64 (decF l n).1, .int .i64 (decF l n).2.1, .slice A (decF l n).2.2.1.length c], .int .i64 (decF l n).2.2.2]) ∧ Kd.R k53 53 W' 0 (fun k => W.heap.size ≤ k) (.slice A (decF l n).2.2.1.length c) (decF l n).2.2.1
theorem put25 {R : Ending → World → Prop} {K : Act → World → Prop} {ch : List PanicEntry} {a : Act} {v : Value} {w : World} (N : Nat) (hN : N ≠ 4 ∧ N ≠ 5) (h : Exit.then K (bodyPostD Try.prog Try.f25 R) (.panic ch) (a.put (some N) v) w) : Exit.then K (bodyPostD Try.prog Try.f25 R) (.panic ch) a w := by
  refine leaves_tmps (t := (a.put (some N) v).tmps) (fun w => ?_) _ _ _ h
  show (results Try.f25 (a.tmps.setIfInBounds N v)).run Try.prog w = _
  simp [results, Try.results25, go_sem, Array.getElem?_setIfInBounds, hN.1, hN.2]
/-- Where Decode ends well. -/
theorem door25ok {l : List Int} {n o t : Int} {ps : List PartV} {W w : World} {g h L c3 : Nat} {A2 : Option Addr} {ts : Array Value} (hO : w.heap[g]? = some (.cells #[.int .i64 o, .int .i64 t, .slice A2 L c3] 27 (0, 0))) (hE : w.heap[h]? = some (.cells #[.int .i64 0] 37 (0, 0))) (hB : Below W.heap.size W w)
    (t4 : ts.getD 4 undef = .pointer (some ⟨g, 0, none⟩)) (t5 : ts.getD 5 undef = .pointer (some ⟨h, 0, none⟩)) (hn : ¬ 256 < n) (hD : goodD l n = some (o, t, ps)) (hL : L = ps.length) (hR : Kd.R k53 53 w 0 (fun k => W.heap.size ≤ k) (.slice A2 L c3) ps) :
    bodyPostD Try.prog Try.f25 (DecP l n W) .ret { tmps := ts, defers := [{ target := .fn (.func 42) #[.pointer (some ⟨g, 0, none⟩), .pointer (some ⟨h, 0, none⟩)], args := #[] }] } w := by
  subst hL
  have hd : decF l n = (o, t, ps, 0) := by rw [decF, if_neg hn, hD]
  refine leaves_cons (f := 42) (args := #[.pointer (some ⟨g, 0, none⟩), .pointer (some ⟨h, 0, none⟩)]) (by simp) (by simp [go_sem]) ?_
  refine (idle42 ⟨g, 0, none⟩ ⟨h, 0, none⟩ w).mono ?_
  rintro e u' w'' ⟨rfl, rfl, rfl⟩
  have r0 : w''.cell? ⟨g, 0, none⟩ = some (.int .i64 o) := (blk_cell hO 0).trans rfl
  have r1 : w''.cell? ⟨g, 1, none⟩ = some (.int .i64 t) := (blk_cell hO 1).trans rfl
  have r2 : w''.cell? ⟨g, 2, none⟩ = some (.slice A2 ps.length c3) := (blk_cell hO 2).trans rfl
  have r3 : w''.cell? ⟨h, 0, none⟩ = some (.int .i64 0) := (blk_cell hE 0).trans rfl
  refine ⟨.tuple #[.agg #[.int .i64 o, .int .i64 t, .slice A2 ps.length c3], .int .i64 0], ?_, hB, A2, c3, by rw [hd], by rw [hd]; exact hR⟩
  rw [Array.getD_eq_getD_getElem?] at t4 t5
  simp [results, Try.results25, go_sem, t4, t5, r0, r1, r2, r3]
/-- Where Decode gives up. -/
theorem door25 {l : List Int} {n : Int} {W w : World} {g h : Nat} {x y z : Value} {e0 : Int} {ts : Array Value} (hO : w.heap[g]? = some (.cells #[x, y, z] 27 (0, 0))) (hE : w.heap[h]? = some (.cells #[.int .i64 e0] 37 (0, 0))) (hgh : g ≠ h) (hg : W.heap.size ≤ g) (hh : W.heap.size ≤ h) (hB : Below W.heap.size W w)
    (t4 : ts.getD 4 undef = .pointer (some ⟨g, 0, none⟩)) (t5 : ts.getD 5 undef = .pointer (some ⟨h, 0, none⟩)) (hn : ¬ 256 < n) (hD : goodD l n = none) (ev : Int) :
    bodyPostD Try.prog Try.f25 (DecP l n W) (.panic [{ v := .iface 37 (.int .i64 ev), recovered := false }]) { tmps := ts, defers := [{ target := .fn (.func 42) #[.pointer (some ⟨g, 0, none⟩), .pointer (some ⟨h, 0, none⟩)], args := #[] }] } w := by
  have hd : decF l n = (0, 0, [], 22) := by rw [decF, if_neg hn, hD]
  refine leaves_cons (f := 42) (args := #[.pointer (some ⟨g, 0, none⟩), .pointer (some ⟨h, 0, none⟩)]) (by simp) (by simp [go_sem]) ?_
  refine (catch42 g h x y z e0 ev [] w hO hE hgh).mono ?_
  rintro e u' w'' ⟨rfl, rfl, h1, h2, h3⟩
  have r0 : w''.cell? ⟨g, 0, none⟩ = some (.int .i64 0) := (blk_cell h1 0).trans rfl
  have r1 : w''.cell? ⟨g, 1, none⟩ = some (.int .i64 0) := (blk_cell h1 1).trans rfl
  have r2 : w''.cell? ⟨g, 2, none⟩ = some (.slice none 0 0) := (blk_cell h1 2).trans rfl
  have r3 : w''.cell? ⟨h, 0, none⟩ = some (.int .i64 22) := (blk_cell h2 0).trans rfl
  refine ⟨.tuple #[.agg #[.int .i64 0, .int .i64 0, .slice none 0 0], .int .i64 22], ?_, hB.trans (h3 _ hg hh hB.size), none, 0, by rw [hd]; rfl, by rw [hd]; exact Kd.R_nil _ _ _ _ _⟩
  rw [Array.getD_eq_getD_getElem?] at t4 t5
  simp [results, Try.results25, go_sem, t4, t5, r0, r1, r2, r3]
end Go.Proofs.Ytpcoelimabojcaa.Hand
