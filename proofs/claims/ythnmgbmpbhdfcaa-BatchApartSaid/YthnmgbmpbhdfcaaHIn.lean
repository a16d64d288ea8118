/- An argument of rows of whole numbers, opened: what the walks read of it, and how long its rows may be. Written by hand. A batch that comes in, opened: what the walks read of it, and how great its parts may be. Written by hand. Bytes that come in, opened. -/
import Derived.Deep.Matrix
import Derived.SizedLaws
import Derived.Test.YthnmgbmpbhdfcaaWWords
import Derived.Deep.Strs
import Derived.Test.YthnmgbmpbhdfcaaHB1
import Derived.WalkKit
import Derived.ProofKit
import Derived.ShutString
import Derived.ChangeOld
import Derived.Below
import Derived.OpenShut
import Derived.Test.YthnmgbmpbhdfcaaWSized
namespace Go.Proofs.Ythnmgbmpbhdfcaa.Hand
open Go.ChangeShapes Go.WideShapes Go.RowKit Go.Deep Go.Proofs.YthnmgbmpbhdfcaaW.PrintWords

theorem mem_weightsAll {H : Type} {P : Program} {e : TypeId} : ∀ {ds : List (DataW H)} {d : DataW H}, d ∈ ds → ∀ n ∈ d.weights P e, n ∈ DataW.weightsAll P e ds
  | x :: r, d, hd, n, hn => by
    rw [DataW.weightsAll, List.mem_append]
    rcases List.mem_cons.1 hd with rfl | h
    · exact .inl hn
    · exact .inr (mem_weightsAll h n hn)
/-- The rows as read: one form for nil and any other. -/
def rowsOf (len : Nat) (L : Nat → Nat) (Z : Nat → List Int) : List (List Int) := (List.range len).map fun r => (Z r).take (L r)
theorem rows_open {H : Type} {enc : TypeId × Value → H} {P : Program} {w : World} {base : Nat} {held : Bool} {t e q : TypeId} {k : IntKind} {ts : List TypeId} {ds : List (DataW H)} {j : Nat} {a : Option Addr} {len cap : Nat} {d : DataW H} {ps : List MemPlace}
    (ht : P.underlying t = some (.slice e)) (he : P.underlying e = some (.slice q)) (hq : P.underlying q = some (.int k)) (ce : P.cellsOf e = 1) (cq : P.cellsOf q = 1) (cb : P.bytesOf q = 1)
    (h : DataW.Trod enc P w base (fun _ => true) held t (.slice a len cap) d ps)
    (hsz : (DataW.weightsEach P ts ds).all (· ≤ reachBytes) = true) (htj : ts[j]? = some t) (hdj : ds[j]? = some d) :
    ∃ xs : List (List Int), xs.length = len ∧ len ≤ cap ∧ Kd.C (Kd.slice q (Kd.int k)) w a xs.length xs ∧ ∀ r ∈ xs, (∀ n ∈ r, (Lit.int k n).wf = true) ∧ r.length ≤ 140737488351232 := by
  obtain ⟨fuel, hf⟩ := h
  rcases open_int_rows ht he hq ce cq hf with ⟨hcs, _⟩ | ⟨x, l, c, A, L, C, Z, hcs, _, hl, hm, hx, hr⟩
  · simp [Value.cells] at hcs
    obtain ⟨rfl, rfl, rfl⟩ := hcs
    exact ⟨[], rfl, by omega, ⟨rfl, by simp, fun h => absurd h (by simp)⟩, fun r hr => by cases hr⟩
  · simp [Value.cells] at hcs
    obtain ⟨rfl, rfl, rfl⟩ := hcs
    obtain ⟨hd, _⟩ := Prod.mk.inj hx
    subst hd
    have hxl : (rowsOf len L Z).length = len := by simp [rowsOf]
    have hlenr : ∀ i, i < len → ((Z i).take (L i)).length = L i := by
      intro i hi
      obtain ⟨_, h1, _, h3, _⟩ := hr i (by omega)
      rw [List.length_take, h3]; omega
    have hmax : cap ≤ 9223372036854775807 := hm
    refine ⟨rowsOf len L Z, hxl, hl, ⟨rfl, by omega, fun _ => ⟨x, rfl, fun j p hj => ?_⟩⟩, fun r hrm => ?_⟩
    · have hj1 : j < len := by rw [← hxl]; exact (List.getElem?_eq_some_iff.1 hj).1
      have hp : p = (Z j).take (L j) := by
        simp [rowsOf, hj1] at hj
        exact hj.symm
      subst hp
      obtain ⟨h0, h1, h2, h3, h4, h5, h6⟩ := hr j (by omega)
      have hLl := hlenr j hj1
      refine ⟨[.slice (A j) (L j) (C j)], rfl, ⟨A j, C j, by rw [hLl], by rw [hLl]; exact h1, ?_⟩, fun i u hu => ?_⟩
      · have hmax2 : C j ≤ 9223372036854775807 := h2
        refine ⟨rfl, by rw [hLl]; omega, fun hpos => ?_⟩
        rw [hLl] at hpos
        cases hA : A j with
        | none => have := h5 hA; omega
        | some y =>
          refine ⟨y, rfl, fun i p hi => ?_⟩
          have hi1 : i < L j := by rw [← hLl]; exact (List.getElem?_eq_some_iff.1 hi).1
          have hc := (h6 y hA).2 i (by omega)
          rw [List.getElem?_take_of_lt hi1] at hi
          rw [List.getD_eq_getElem?_getD, hi] at hc
          refine ⟨[.int k p], rfl, rfl, fun i2 u hu => ?_⟩
          have hi2 : i2 < 1 := (List.getElem?_eq_some_iff.1 hu).1
          obtain rfl : i2 = 0 := by omega
          simp at hu
          subst hu
          have e : i * (Kd.int k).sz + 0 = i := by show i * 1 + 0 = i; omega
          rw [e]; exact hc
      · have hi2 : i < 1 := (List.getElem?_eq_some_iff.1 hu).1
        obtain rfl : i = 0 := by omega
        simp at hu
        subst hu
        have e : j * (Kd.slice q (Kd.int k)).sz + 0 = j := by show j * 1 + 0 = j; omega
        rw [e]; exact h0
    · simp only [rowsOf, List.mem_map, List.mem_range] at hrm
      obtain ⟨i, hi, rfl⟩ := hrm
      obtain ⟨h0, h1, h2, h3, h4, h5, h6⟩ := hr i (by omega)
      refine ⟨fun n hn => h4 n (List.mem_of_mem_take hn), ?_⟩
      rw [hlenr i hi]
      cases hA : A i with
      | none => have := h5 hA; omega
      | some y =>
        have hmem : (Z i).length * 1 ∈ DataW.weights P t (DataW.slice ((List.range len).map fun r => intRow (H := H) k (A r) (L r) (Z r)) ((List.range (cap - len)).map fun j => intRow k (A (len + j)) (L (len + j)) (Z (len + j)))) := by
          rw [DataW.weights, ht]
          refine List.mem_cons_of_mem _ (List.mem_append_left _ (mem_weightsAll (d := intRow k (A i) (L i) (Z i)) (List.mem_map.2 ⟨i, List.mem_range.2 hi, rfl⟩) _ ?_))
          rw [hA, intRow]
          simp only [DataW.weights, he, cb]
          refine List.mem_cons.2 (.inl ?_)
          simp [lits]
          omega
        have := List.all_eq_true.1 hsz _ (DataW.weights_mem_each htj hdj _ hmem)
        have hre : reachBytes = 140737488351232 := by decide
        rw [hre] at this
        have := of_decide_eq_true this
        omega
end Go.Proofs.Ythnmgbmpbhdfcaa.Hand
namespace Go.Proofs.Ythnmgbmpbhdfcaa.Hand
open Go.ChangeShapes Go.WideShapes Go.RowKit Go.Deep Go.Proofs.YthnmgbmpbhdfcaaW.PrintWords Go.Proofs.Ythnmgbmpbhdfcaa.B0

theorem cells?_three {w : World} {base : Nat} {a : Addr} {x y z : Value} (h : w.cells? base a 3 = some [x, y, z]) : w.cell? (a.add 0) = some x ∧ w.cell? (a.add 1) = some y ∧ w.cell? (a.add 2) = some z := by
  unfold World.cells? at h
  split at h
  · have g0 := mapM_some_get h 0 0 (by simp)
    have g1 := mapM_some_get h 1 1 (by simp)
    have g2 := mapM_some_get h 2 2 (by simp)
    simp only [List.getElem?_cons_zero, List.getElem?_cons_succ] at g0 g1 g2
    exact ⟨g0, g1, g2⟩
  · cases h
theorem add_add_ (a : Addr) (i j : Nat) : (a.add i).add j = a.add (i + j) := Go.Deep.add_add a i j

def fKey : Field := { name := "Key", type := 9, offset := 0, embedded := false, tag := "", pkgPath := "", byteOffset := 0 }
def fValue : Field := { name := "Value", type := 9, offset := 1, embedded := false, tag := "", pkgPath := "", byteOffset := 16 }
def fDead : Field := { name := "Dead", type := 4, offset := 2, embedded := false, tag := "", pkgPath := "", byteOffset := 32 }
def bFields : Array Field := #[{ name := "Kind", type := 3, offset := 0, embedded := false, tag := "", pkgPath := "", byteOffset := 0 }, { name := "Producer", type := 3, offset := 1, embedded := false, tag := "", pkgPath := "", byteOffset := 8 }, { name := "Epoch", type := 3, offset := 2, embedded := false, tag := "", pkgPath := "", byteOffset := 16 }, { name := "Seq", type := 3, offset := 3, embedded := false, tag := "", pkgPath := "", byteOffset := 24 }, { name := "InTxn", type := 4, offset := 4, embedded := false, tag := "", pkgPath := "", byteOffset := 32 }, { name := "Records", type := 22, offset := 5, embedded := false, tag := "", pkgPath := "", byteOffset := 40 }]
/-- A row of records, read at every index. -/
theorem recs_open {H : Type} {enc : TypeId × Value → H} {w : World} {base : Nat} {held : Bool} {fuel : Nat} {cs : List Value} {y : DataW H × List MemPlace}
    (h : DataW.trod enc Try.prog w base (fun _ => true) held fuel 22 cs = some y) :
    ∃ (A : Option Addr) (c : Nat) (xs : List S47), cs = [.slice A xs.length c] ∧ xs.length ≤ c ∧ Kd.C k47 w A xs.length xs ∧
      ∀ ns : List Nat, (∀ n ∈ DataW.weights Try.prog 22 y.1, n ∈ ns) → ns.all (· ≤ reachBytes) = true → xs.length * 40 ≤ 140737488351232 ∧ ∀ r ∈ xs, r.f0.size ≤ 140737488351232 ∧ r.f1.size ≤ 140737488351232 := by
  have u22 : Try.prog.underlying 22 = some (.slice 47) := by kernel_rfl
  have c47 : Try.prog.cellsOf 47 = 3 := by kernel_rfl
  have b47 : Try.prog.bytesOf 47 = 40 := by kernel_rfl
  rcases open_slice u22 h with ⟨rfl, rfl⟩ | ⟨a, len, cap, m, n, D, Pl, rfl, hb, hl, hm, hmm, rfl, hx⟩
  · exact ⟨none, 0, [], rfl, Nat.le_refl _, ⟨rfl, by simp, fun h => absurd h (by simp)⟩, fun ns _ _ => ⟨by simp, fun r hr => by cases hr⟩⟩
  simp only [if_true] at hmm
  subst hmm
  rw [c47] at hx
  have each : ∀ i, i < m → ∃ r : ByteArray × ByteArray × Bool, w.cell? (a.add (i * 3 + 0)) = some (.string r.1) ∧ w.cell? (a.add (i * 3 + 1)) = some (.string r.2.1) ∧ w.cell? (a.add (i * 3 + 2)) = some (.bool r.2.2) ∧
      D i = .agg [.lit (.string r.1.data.toList), .lit (.string r.2.1.data.toList), .lit (.bool r.2.2)] := by
    intro i hi
    obtain ⟨cs', hc, ht⟩ := hx i hi
    obtain ⟨y0, y1, y2, k, hy, hlen, h0, h1, h2⟩ := trod_struct3 (f0 := fKey) (f1 := fValue) (f2 := fDead) (by kernel_rfl) ht
    obtain ⟨s0, e0, z0, _⟩ := DataW.trod_string (by kernel_rfl) h0
    obtain ⟨s1, e1, z1, _⟩ := DataW.trod_string (by kernel_rfl) h1
    obtain ⟨b2, e2, z2⟩ := DataW.trod_bool (by kernel_rfl) h2
    rw [c47] at hlen
    match cs', hlen with
    | [v0, v1, v2], _ =>
      have q0 : [v0] = [Value.string s0] := e0
      have q1 : [v1] = [Value.string s1] := e1
      have q2 : [v2] = [Value.bool b2] := e2
      simp only [List.cons.injEq, and_true] at q0 q1 q2
      subst q0 q1 q2
      obtain ⟨k0, k1, k2⟩ := cells?_three hc
      rw [add_add_] at k0 k1 k2
      refine ⟨(s0, s1, b2), k0, k1, k2, ?_⟩
      have := (Prod.mk.inj hy).1
      rw [this, z0, z1, z2]
  obtain ⟨R, hR⟩ := choose_lt each
  have hlenx : ((List.range len).map fun i => (⟨(R i).1, (R i).2.1, (R i).2.2⟩ : S47)).length = len := by simp
  refine ⟨some a, m, (List.range len).map fun i => (⟨(R i).1, (R i).2.1, (R i).2.2⟩ : S47), by rw [hlenx], by rw [hlenx]; exact hl, ⟨rfl, ?_, fun _ => ⟨a, rfl, fun j p hj => ?_⟩⟩, fun ns hns hall => ⟨?_, fun r hr => ?_⟩⟩
  · rw [hlenx]; have : m ≤ 9223372036854775807 := hm; omega
  · have hj1 : j < len := by rw [← hlenx]; exact (List.getElem?_eq_some_iff.1 hj).1
    have hp : p = ⟨(R j).1, (R j).2.1, (R j).2.2⟩ := by
      simp [hj1] at hj
      exact hj.symm
    subst hp
    obtain ⟨k0, k1, k2, _⟩ := hR j (by omega)
    refine ⟨_, rfl, k47_mk w _, fun i u hu => ?_⟩
    match i, hu with
    | 0, hu => simp at hu; subst hu; exact k0
    | 1, hu => simp at hu; subst hu; exact k1
    | 2, hu => simp at hu; subst hu; exact k2
    | i + 3, hu => simp at hu
  · rw [hlenx]
    have hw := hns ((((List.range len).map D).length + ((List.range (m - len)).map fun j => D (len + j)).length) * Try.prog.bytesOf 47) (by
      rw [DataW.weights, u22]; exact List.mem_cons_self)
    have h2 := of_decide_eq_true (List.all_eq_true.1 hall _ hw)
    rw [b47, show reachBytes = 140737488351232 by decide, List.length_map, List.length_map, List.length_range, List.length_range] at h2
    omega
  · simp only [List.mem_map, List.mem_range] at hr
    obtain ⟨i, hi, rfl⟩ := hr
    obtain ⟨_, _, _, hD⟩ := hR i (by omega)
    have hmem : ∀ n ∈ DataW.weights Try.prog 47 (D i), n ∈ ns := fun n hn => hns n (by
      rw [DataW.weights, u22]
      exact List.mem_cons_of_mem _ (List.mem_append_left _ (mem_weightsAll (List.mem_map.2 ⟨i, List.mem_range.2 hi, rfl⟩) n hn)))
    have us : Try.prog.underlying 47 = some (.struct #[fKey, fValue, fDead]) := by kernel_rfl
    rw [hD] at hmem
    have m0 := hmem (R i).1.data.toList.length (by simp [DataW.weights, us, DataW.weightsEach])
    have m1 := hmem (R i).2.1.data.toList.length (by simp [DataW.weights, us, DataW.weightsEach])
    have h0 := of_decide_eq_true (List.all_eq_true.1 hall _ m0)
    have h1 := of_decide_eq_true (List.all_eq_true.1 hall _ m1)
    rw [show reachBytes = 140737488351232 by decide] at h0 h1
    exact ⟨by simpa using h0, by simpa using h1⟩
theorem array6 {α : Type} {cs : Array α} (h : cs.size = 6) : ∃ c0 c1 c2 c3 c4 c5, cs = #[c0, c1, c2, c3, c4, c5] := by
  obtain ⟨l⟩ := cs
  match l, h with
  | [c0, c1, c2, c3, c4, c5], _ => exact ⟨c0, c1, c2, c3, c4, c5, rfl⟩
/-- A batch by value. -/
theorem batch_open {H : Type} {enc : TypeId × Value → H} {r : Reach} {b0 : Nat} {w : World} {base : Nat} {held : Bool} {v : Value} {d : DataW H} {p : List MemPlace}
    (hv : Value.okWide Try.prog w r b0 24 v) (h : DataW.Trod enc Try.prog w base (fun _ => true) held 24 v d p) :
    ∃ (a0 a1 a2 a3 : Int) (a4 : Bool) (A : Option Addr) (c : Nat) (xs : List S47), v = .agg (bcells a0 a1 a2 a3 a4 A xs.length c) ∧ xs.length ≤ c ∧ Kd.C k47 w A xs.length xs ∧
      ((Lit.int .i64 a0).wf = true ∧ (Lit.int .i64 a1).wf = true ∧ (Lit.int .i64 a2).wf = true ∧ (Lit.int .i64 a3).wf = true) ∧
      ∀ (ts : List TypeId) (ds : List (DataW H)) (j : Nat), ts[j]? = some 24 → ds[j]? = some d → (DataW.weightsEach Try.prog ts ds).all (· ≤ reachBytes) = true → xs.length * 40 ≤ 140737488351232 ∧ ∀ r ∈ xs, r.f0.size ≤ 140737488351232 ∧ r.f1.size ≤ 140737488351232 := by
  have us : Try.prog.underlying 24 = some (.struct bFields) := by kernel_rfl
  obtain ⟨cs, rfl, hsz⟩ := okWide_struct us hv
  obtain ⟨v0, v1, v2, v3, v4, v5, rfl⟩ := array6 (hsz.trans (by kernel_rfl))
  obtain ⟨fuel, hf⟩ := h
  obtain ⟨ys, n, _, hx, hl, hlen, hfs⟩ := DataW.trod_struct us hf
  match ys, hlen with
  | [y0, y1, y2, y3, y4, y5], _ =>
    obtain ⟨a0, e0, z0, w0⟩ := DataW.trod_int (k := .i64) (by kernel_rfl) (hfs 0 _ rfl)
    obtain ⟨a1, e1, z1, w1⟩ := DataW.trod_int (k := .i64) (by kernel_rfl) (hfs 1 _ rfl)
    obtain ⟨a2, e2, z2, w2⟩ := DataW.trod_int (k := .i64) (by kernel_rfl) (hfs 2 _ rfl)
    obtain ⟨a3, e3, z3, w3⟩ := DataW.trod_int (k := .i64) (by kernel_rfl) (hfs 3 _ rfl)
    obtain ⟨a4, e4, z4⟩ := DataW.trod_bool (by kernel_rfl) (hfs 4 _ rfl)
    obtain ⟨A, c, xs, e5, hc, hC, hw⟩ := recs_open (hfs 5 _ rfl)
    have q0 : [v0] = [Value.int .i64 a0] := e0
    have q1 : [v1] = [Value.int .i64 a1] := e1
    have q2 : [v2] = [Value.int .i64 a2] := e2
    have q3 : [v3] = [Value.int .i64 a3] := e3
    have q4 : [v4] = [Value.bool a4] := e4
    have q5 : [v5] = [Value.slice A xs.length c] := e5
    simp only [List.cons.injEq, and_true] at q0 q1 q2 q3 q4 q5
    subst q0 q1 q2 q3 q4 q5
    have hd : d = DataW.agg [y0.1, y1.1, y2.1, y3.1, y4.1, y5.1] := (Prod.mk.inj hx).1
    refine ⟨a0, a1, a2, a3, a4, A, c, xs, rfl, hc, hC, ⟨w0, w1, w2, w3⟩, fun ts ds j hts hds hall => hw _ (fun n hn => ?_) hall⟩
    refine DataW.weights_mem_each hts hds n ?_
    rw [hd, DataW.weights, us]
    exact DataW.weights_mem_each (j := 5) (t := 22) (d := y5.1) rfl rfl n hn
end Go.Proofs.Ythnmgbmpbhdfcaa.Hand
namespace Go.Proofs.Ythnmgbmpbhdfcaa.Hand
open Go.ChangeShapes Go.WideShapes Go.ChangeAt Go.RowKit Go.Deep Go.Proofs.YthnmgbmpbhdfcaaW.PrintWords Go.Proofs.Ythnmgbmpbhdfcaa.B0
theorem bytes_open {H : Type} {enc : TypeId × Value → H} {r : Reach} {b0 : Nat} {w : World} {base : Nat} {held : Bool} {v : Value} {d : DataW H} {p : List MemPlace} {ts : List TypeId} {ds : List (DataW H)} {j : Nat}
    (hv : Value.okWide Try.prog w r b0 33 v) (h : DataW.Trod enc Try.prog w base (fun _ => true) held 33 v d p) (hsz : (DataW.weightsEach Try.prog ts ds).all (· ≤ reachBytes) = true) (ht : ts[j]? = some 33) (hd : ds[j]? = some d) :
    ∃ (A : Option Addr) (c : Nat) (l : List Int), v = .slice A l.length c ∧ l.length ≤ c ∧ Kd.C (Kd.int .u8) w A l.length l ∧ isB l = true ∧ l.length ≤ 140737488351232 := by
  obtain ⟨a1, len1, cap1, rfl⟩ := okWide_slice Try.underlying33 hv
  have y1 : len1 * 1 ≤ 140737488351232 := Go.Proofs.YthnmgbmpbhdfcaaW.PrintWords.sized_ints hsz (j := j) (t := 33) ht hd Try.underlying33 Try.underlying5 (by kernel_rfl) (by kernel_rfl) h
  have w1 : ∃ zs : List Int, (a1 = none ∧ len1 = 0 ∧ cap1 = 0 ∧ zs = []) ∨ ∃ x, a1 = some x ∧ len1 ≤ cap1 ∧ cap1 ≤ maxLen ∧ zs.length = cap1 ∧ (∀ i, i < zs.length → w.cell? (x.add i) = some (.int .u8 (zs.getD i 0))) ∧ ∀ n ∈ zs, (Lit.int .u8 n).wf = true := by
    obtain ⟨fuel, hf⟩ := h
    rcases open_ints Try.underlying33 Try.underlying5 (by kernel_rfl) hf with ⟨hcs, _⟩ | ⟨x, l, c, zs, hcs, _, hl, hm, hz, _, hcell, hwz⟩
    · simp [Value.cells] at hcs
      obtain ⟨rfl, rfl, rfl⟩ := hcs
      exact ⟨[], .inl ⟨rfl, rfl, rfl, rfl⟩⟩
    · simp [Value.cells] at hcs
      obtain ⟨rfl, rfl, rfl⟩ := hcs
      exact ⟨zs, .inr ⟨_, rfl, hl, hm, by simpa using hz, hcell, hwz⟩⟩
  obtain ⟨zs, w1⟩ := w1
  obtain ⟨l2, rfl, hr2, hm2, hw2, hc2⟩ := ReadsInt.ofRowC w1
  exact ⟨a1, cap1, l2, rfl, hc2, Kd.C_of_reads (d := (0 : Int)) (h1 := fun _ => rfl) hr2, (isB_iff l2).2 (fun x hx => bounds_u8 (hw2 x hx)), by omega⟩
end Go.Proofs.Ythnmgbmpbhdfcaa.Hand
