/- A row of calls that comes in, opened. -/
import Derived.Lib.SmallJoins
import Derived.Deep.Slices
import Derived.Deep.Strs
import Derived.OpenShut
import Derived.SizedLaws
import Derived.WideShapes
import Derived.Test.YtamiglolpchplaaR0x0
import Derived.Test.YtamiglolpchplaaChecked
namespace Go.Proofs.Ytamiglolpchplaa.Hand
open Go.ChangeShapes Go.WideShapes Go.RowKit Go.Deep Go.Proofs.YtamiglolpchplaaW.PrintWords Go.Proofs.Ytamiglolpchplaa.R0
set_option linter.unusedVariables false
set_option linter.unusedSimpArgs false
theorem mem_weightsAll {H : Type} {P : Program} {e : TypeId} : ∀ {ds : List (DataW H)} {d : DataW H}, d ∈ ds → ∀ n ∈ d.weights P e, n ∈ DataW.weightsAll P e ds
  | x :: r, d, hd, n, hn => by
    rw [DataW.weightsAll, List.mem_append]
    rcases List.mem_cons.1 hd with rfl | h
    · exact .inl hn
    · exact .inr (mem_weightsAll h n hn)
theorem c35_ : Try.prog.cellsOf 35 = 7 := by kernel_rfl
theorem b35_ : Try.prog.bytesOf 35 = 72 := by kernel_rfl
theorem c9_ : Try.prog.cellsOf 9 = 1 := by kernel_rfl
theorem b9_ : Try.prog.bytesOf 9 = 16 := by kernel_rfl
theorem u32_ : Try.prog.underlying 32 = some (.slice 9) := by kernel_rfl
theorem u22_ : Try.prog.underlying 22 = some (.slice 35) := by kernel_rfl
theorem cells?_any {w : World} {base : Nat} {a : Addr} {n : Nat} {l : List Value} (h : w.cells? base a n = some l) : ∀ j v, l[j]? = some v → w.cell? (a.add j) = some v := by
  unfold World.cells? at h
  split at h
  · intro j v hj
    have hlen := mapM_some_length h
    have hj2 : j < l.length := (List.getElem?_eq_some_iff.1 hj).1
    have hj8 : j < n := by rw [hlen] at hj2; simpa using hj2
    have g := mapM_some_get h j j (by simp [hj8])
    rw [hj] at g
    exact g
  · cases h
/-- A row of strings. -/
theorem strs_open {H : Type} {enc : TypeId × Value → H} {w : World} {base : Nat} {held : Bool} {fuel : Nat} {cs : List Value} {y : DataW H × List MemPlace}
    (h : DataW.trod enc Try.prog w base (fun _ => true) held fuel 32 cs = some y) :
    ∃ (A : Option Addr) (c : Nat) (xs : List ByteArray), cs = [.slice A xs.length c] ∧ xs.length ≤ c ∧ Kd.string.C w A xs.length xs ∧
      ∀ ns : List Nat, (∀ n ∈ DataW.weights Try.prog 32 y.1, n ∈ ns) → ns.all (· ≤ reachBytes) = true → xs.length * 16 ≤ 140737488351232 := by
  rcases open_slice u32_ h with ⟨rfl, rfl⟩ | ⟨a, len, cap, m, n, D, Pl, rfl, hb, hl, hm, hmm, rfl, hx⟩
  · exact ⟨none, 0, [], rfl, Nat.le_refl _, Kd.C_nil _ _, fun ns _ _ => by simp⟩
  simp only [if_true] at hmm
  subst hmm
  rw [c9_] at hx
  have each : ∀ i, i < m → ∃ s : ByteArray, w.cell? (a.add i) = some (.string s) := by
    intro i hi
    obtain ⟨cs', hc, ht⟩ := hx i hi
    obtain ⟨s0, e0, -, -⟩ := DataW.trod_string (by kernel_rfl) ht
    subst e0
    refine ⟨s0, ?_⟩
    have := cells?_any hc 0 _ rfl
    rw [Deep.add_add, Nat.add_zero, Nat.mul_one] at this
    exact this
  obtain ⟨R, hR⟩ := choose_lt each
  have hlenx : ((List.range len).map R).length = len := by simp
  refine ⟨some a, m, (List.range len).map R, by rw [hlenx], by rw [hlenx]; exact hl, ⟨rfl, ?_, fun _ => ⟨a, rfl, fun j p hj => ?_⟩⟩, fun ns hns hall => ?_⟩
  · rw [hlenx]; have : m ≤ 9223372036854775807 := hm; omega
  · have hj1 : j < len := by rw [← hlenx]; exact (List.getElem?_eq_some_iff.1 hj).1
    have hp : p = R j := by
      simp [hj1] at hj
      exact hj.symm
    subst hp
    refine ⟨[.string (R j)], rfl, rfl, fun i u hu => ?_⟩
    match i, hu with
    | 0, hu =>
      simp at hu; subst hu
      have e1 : j * Kd.string.sz + 0 = j := by show j * 1 + 0 = j; omega
      rw [e1]; exact hR j (by omega)
    | i + 1, hu => simp at hu
  · rw [hlenx]
    have hw := hns ((((List.range len).map D).length + ((List.range (m - len)).map fun j => D (len + j)).length) * Try.prog.bytesOf 9) (by
      rw [DataW.weights, u32_]; exact List.mem_cons_self)
    have h2 := of_decide_eq_true (List.all_eq_true.1 hall _ hw)
    rw [b9_, show reachBytes = 140737488351232 by decide, List.length_map, List.length_map, List.length_range, List.length_range] at h2
    omega
theorem list7 {α : Type} : ∀ {l : List α}, l.length = 7 → ∃ a b c d e f g, l = [a, b, c, d, e, f, g]
  | [a, b, c, d, e, f, g], _ => ⟨a, b, c, d, e, f, g, rfl⟩
set_option maxRecDepth 100000 in
theorem call_open {H : Type} {enc : TypeId × Value → H} {w : World} {base : Nat} {held : Bool} {fuel : Nat} {cs : List Value} {y : DataW H × List MemPlace} (hf : DataW.trod enc Try.prog w base (fun _ => true) held fuel 35 cs = some y) :
    ∃ x : S35, k35.K w x cs ∧ ∀ ns : List Nat, (∀ n ∈ DataW.weights Try.prog 35 y.1, n ∈ ns) → ns.all (· ≤ reachBytes) = true → x.f6.length * 16 ≤ 140737488351232 := by
  obtain ⟨xs, n, _, hy, hl, hlen, ht⟩ := DataW.trod_struct Try.underlying35 hf
  rw [c35_] at hl
  obtain ⟨v0, v1, v2, v3, v4, v5, v6, rfl⟩ := list7 hl
  match xs, hlen with
  | [y0, y1, y2, y3, y4, y5, y6], _ =>
    obtain ⟨a0, e0, -⟩ := DataW.trod_bool (by kernel_rfl) (ht 0 _ rfl)
    obtain ⟨a1, e1, -⟩ := DataW.trod_bool (by kernel_rfl) (ht 1 _ rfl)
    obtain ⟨a2, e2, -, w2⟩ := DataW.trod_int (k := .i64) (by kernel_rfl) (ht 2 _ rfl)
    obtain ⟨a3, e3, -, w3⟩ := DataW.trod_int (k := .i64) (by kernel_rfl) (ht 3 _ rfl)
    obtain ⟨a4, e4, -, w4⟩ := DataW.trod_int (k := .i64) (by kernel_rfl) (ht 4 _ rfl)
    obtain ⟨a5, e5, -, w5⟩ := DataW.trod_string (by kernel_rfl) (ht 5 _ rfl)
    obtain ⟨A, c, zs, e6, hc, hC, hw⟩ := strs_open (ht 6 _ rfl)
    have q0 : [v0] = [Value.bool a0] := e0
    have q1 : [v1] = [Value.bool a1] := e1
    have q2 : [v2] = [Value.int .i64 a2] := e2
    have q3 : [v3] = [Value.int .i64 a3] := e3
    have q4 : [v4] = [Value.int .i64 a4] := e4
    have q5 : [v5] = [Value.string a5] := e5
    have q6 : [v6] = [Value.slice A zs.length c] := e6
    simp only [List.cons.injEq, and_true] at q0 q1 q2 q3 q4 q5 q6
    subst q0 q1 q2 q3 q4 q5 q6
    refine ⟨⟨a0, a1, a2, a3, a4, a5, zs⟩, k35_mk w _ hc hC, fun ns hns hall => hw ns (fun n hn => hns n ?_) hall⟩
    have hd : y.1 = DataW.agg [y0.1, y1.1, y2.1, y3.1, y4.1, y5.1, y6.1] := by rw [hy]; rfl
    rw [hd, DataW.weights, Try.underlying35]
    exact DataW.weights_mem_each (j := 6) (t := 32) (d := y6.1) rfl rfl n hn
set_option maxRecDepth 100000 in
theorem calls_open {H : Type} {enc : TypeId × Value → H} {r : Reach} {b0 : Nat} {w : World} {base : Nat} {held : Bool} {v : Value} {d : DataW H} {p : List MemPlace}
    (hv : Value.okWide Try.prog w r b0 22 v) (h : DataW.Trod enc Try.prog w base (fun _ => true) held 22 v d p) :
    ∃ (A : Option Addr) (c : Nat) (l : List S35), v = .slice A l.length c ∧ l.length ≤ c ∧ Kd.C k35 w A l.length l ∧
      ∀ (ts : List TypeId) (ds : List (DataW H)) (j : Nat), ts[j]? = some 22 → ds[j]? = some d → (DataW.weightsEach Try.prog ts ds).all (· ≤ reachBytes) = true → l.length * 72 ≤ 140737488351232 ∧ ∀ x ∈ l, x.f6.length * 16 ≤ 140737488351232 := by
  obtain ⟨a1, len1, cap1, rfl⟩ := okWide_slice Try.underlying22 hv
  obtain ⟨fuel, hf⟩ := h
  rcases open_slice u22_ hf with ⟨hcs, hd⟩ | ⟨a, len, cap, m, n, D, Pl, hcs, hb, hl, hm, hmm, hd, hx⟩
  · simp [Value.cells] at hcs
    obtain ⟨rfl, rfl, rfl⟩ := hcs
    exact ⟨none, 0, [], rfl, Nat.le_refl _, Kd.C_nil _ _, fun ts ds j _ _ _ => ⟨by simp, fun x hx => by cases hx⟩⟩
  simp [Value.cells] at hcs
  obtain ⟨rfl, rfl, rfl⟩ := hcs
  simp only [if_true] at hmm
  subst hmm
  rw [c35_] at hx
  have each : ∀ i, i < m → ∃ (x : S35), (∃ cs', w.cells? base (a.add (i * 7)) 7 = some cs' ∧ k35.K w x cs') ∧ ∀ ns : List Nat, (∀ n ∈ DataW.weights Try.prog 35 (D i), n ∈ ns) → ns.all (· ≤ reachBytes) = true → x.f6.length * 16 ≤ 140737488351232 := by
    intro i hi
    obtain ⟨cs', hc, ht⟩ := hx i hi
    obtain ⟨x, hk, hw⟩ := call_open ht
    exact ⟨x, ⟨cs', hc, hk⟩, hw⟩
  haveI : Inhabited S35 := ⟨z35⟩
  obtain ⟨R, hR⟩ := choose_lt each
  have hlenx : ((List.range len1).map R).length = len1 := by simp
  refine ⟨some a, m, (List.range len1).map R, by rw [hlenx], by rw [hlenx]; exact hl, ⟨rfl, ?_, fun _ => ⟨a, rfl, fun j p hj => ?_⟩⟩, fun ts ds j hts hds hall => ⟨?_, fun x hx => ?_⟩⟩
  · rw [hlenx]; have : m ≤ 9223372036854775807 := hm; omega
  · have hj1 : j < len1 := by rw [← hlenx]; exact (List.getElem?_eq_some_iff.1 hj).1
    have hp : p = R j := by
      simp [hj1] at hj
      exact hj.symm
    subst hp
    obtain ⟨⟨cs', hc, hk⟩, -⟩ := hR j (by omega)
    refine ⟨cs', k35.K_len hk, hk, fun i u hu => ?_⟩
    have := cells?_any hc i u hu
    rw [Deep.add_add] at this
    exact this
  · rw [hlenx]
    have hd2 : d = DataW.slice ((List.range len1).map D) ((List.range (m - len1)).map fun j => D (len1 + j)) := (Prod.mk.inj hd).1
    have hw := DataW.weights_mem_each hts hds ((((List.range len1).map D).length + ((List.range (m - len1)).map fun j => D (len1 + j)).length) * Try.prog.bytesOf 35) (by
      rw [hd2, DataW.weights, u22_]; exact List.mem_cons_self)
    have h2 := of_decide_eq_true (List.all_eq_true.1 hall _ hw)
    rw [b35_, show reachBytes = 140737488351232 by decide, List.length_map, List.length_map, List.length_range, List.length_range] at h2
    omega
  · simp only [List.mem_map, List.mem_range] at hx
    obtain ⟨i, hi, rfl⟩ := hx
    obtain ⟨-, hw⟩ := hR i (by omega)
    have hd2 : d = DataW.slice ((List.range len1).map D) ((List.range (m - len1)).map fun j => D (len1 + j)) := (Prod.mk.inj hd).1
    refine hw _ (fun n hn => DataW.weights_mem_each hts hds n ?_) hall
    rw [hd2, DataW.weights, u22_]
    exact List.mem_cons_of_mem _ (List.mem_append_left _ (mem_weightsAll (List.mem_map.2 ⟨i, List.mem_range.2 hi, rfl⟩) n hn))
end Go.Proofs.Ytamiglolpchplaa.Hand
