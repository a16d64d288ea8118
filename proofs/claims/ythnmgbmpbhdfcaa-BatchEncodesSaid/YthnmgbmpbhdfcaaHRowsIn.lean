/- An argument of rows of whole numbers, opened: what the walks read of it, and how long its rows may be. Written by hand. -/
import Derived.Deep.Matrix
import Derived.SizedLaws
import Derived.Test.YthnmgbmpbhdfcaaWWords
namespace Go.Proofs.Ythnmgbmpbhdfcaa.Hand
open Go.ChangeShapes Go.WideShapes Go.RowKit Go.Deep Go.Proofs.YthnmgbmpbhdfcaaW.PrintWords

theorem mem_weightsAll {H : Type} {P : Program} {e : TypeId} : ∀ {ds : List (DataW H)} {d : DataW H}, d ∈ ds → ∀ n ∈ d.weights P e, n ∈ DataW.weightsAll P e ds
  | x :: r, d, hd, n, hn => by
    rw [DataW.weightsAll, List.mem_append]
    rcases List.mem_cons.1 hd with rfl | h
    · exact .inl hn
    · exact .inr (mem_weightsAll h n hn)
/-- The rows as read: one form for nil and any other. -/
def rowsOf (len : Nat) (L : Nat → Nat) (Z : Nat → List Int) : List (List Int) := (List.range len).map fun r => (Z r).take (L r)
theorem rows_open {H : Type} {enc : TypeId × Value → H} {P : Program} {w : World} {base : Nat} {held : Bool} {t e q : TypeId} {k : IntKind} {ts : List TypeId} {ds : List (DataW H)} {j : Nat} {a : Option Addr} {len cap : Nat} {d : DataW H} {ps : List MemPlace}
    (ht : P.underlying t = some (.slice e)) (he : P.underlying e = some (.slice q)) (hq : P.underlying q = some (.int k)) (ce : P.cellsOf e = 1) (cq : P.cellsOf q = 1) (cb : P.bytesOf q = 1)
    (h : DataW.Trod enc P w base (fun _ => true) held t (.slice a len cap) d ps)
    (hsz : (DataW.weightsEach P ts ds).all (· ≤ reachBytes) = true) (htj : ts[j]? = some t) (hdj : ds[j]? = some d) :
    ∃ xs : List (List Int), xs.length = len ∧ len ≤ cap ∧ Kd.C (Kd.slice q (Kd.int k)) w a xs.length xs ∧ ∀ r ∈ xs, (∀ n ∈ r, (Lit.int k n).wf = true) ∧ r.length ≤ 140737488351232 := by
  obtain ⟨fuel, hf⟩ := h
  rcases open_int_rows ht he hq ce cq hf with ⟨hcs, _⟩ | ⟨x, l, c, A, L, C, Z, hcs, _, hl, hm, hx, hr⟩
  · simp [Value.cells] at hcs
    obtain ⟨rfl, rfl, rfl⟩ := hcs
    exact ⟨[], rfl, by omega, ⟨rfl, by simp, fun h => absurd h (by simp)⟩, fun r hr => by cases hr⟩
  · simp [Value.cells] at hcs
    obtain ⟨rfl, rfl, rfl⟩ := hcs
    obtain ⟨hd, _⟩ := Prod.mk.inj hx
    subst hd
    have hxl : (rowsOf len L Z).length = len := by simp [rowsOf]
    have hlenr : ∀ i, i < len → ((Z i).take (L i)).length = L i := by
      intro i hi
      obtain ⟨_, h1, _, h3, _⟩ := hr i (by omega)
      rw [List.length_take, h3]; omega
    have hmax : cap ≤ 9223372036854775807 := hm
    refine ⟨rowsOf len L Z, hxl, hl, ⟨rfl, by omega, fun _ => ⟨x, rfl, fun j p hj => ?_⟩⟩, fun r hrm => ?_⟩
    · have hj1 : j < len := by rw [← hxl]; exact (List.getElem?_eq_some_iff.1 hj).1
      have hp : p = (Z j).take (L j) := by
        simp [rowsOf, hj1] at hj
        exact hj.symm
      subst hp
      obtain ⟨h0, h1, h2, h3, h4, h5, h6⟩ := hr j (by omega)
      have hLl := hlenr j hj1
      refine ⟨[.slice (A j) (L j) (C j)], rfl, ⟨A j, C j, by rw [hLl], by rw [hLl]; exact h1, ?_⟩, fun i u hu => ?_⟩
      · have hmax2 : C j ≤ 9223372036854775807 := h2
        refine ⟨rfl, by rw [hLl]; omega, fun hpos => ?_⟩
        rw [hLl] at hpos
        cases hA : A j with
        | none => have := h5 hA; omega
        | some y =>
          refine ⟨y, rfl, fun i p hi => ?_⟩
          have hi1 : i < L j := by rw [← hLl]; exact (List.getElem?_eq_some_iff.1 hi).1
          have hc := (h6 y hA).2 i (by omega)
          rw [List.getElem?_take_of_lt hi1] at hi
          rw [List.getD_eq_getElem?_getD, hi] at hc
          refine ⟨[.int k p], rfl, rfl, fun i2 u hu => ?_⟩
          have hi2 : i2 < 1 := (List.getElem?_eq_some_iff.1 hu).1
          obtain rfl : i2 = 0 := by omega
          simp at hu
          subst hu
          have e : i * (Kd.int k).sz + 0 = i := by show i * 1 + 0 = i; omega
          rw [e]; exact hc
      · have hi2 : i < 1 := (List.getElem?_eq_some_iff.1 hu).1
        obtain rfl : i = 0 := by omega
        simp at hu
        subst hu
        have e : j * (Kd.slice q (Kd.int k)).sz + 0 = j := by show j * 1 + 0 = j; omega
        rw [e]; exact h0
    · simp only [rowsOf, List.mem_map, List.mem_range] at hrm
      obtain ⟨i, hi, rfl⟩ := hrm
      obtain ⟨h0, h1, h2, h3, h4, h5, h6⟩ := hr i (by omega)
      refine ⟨fun n hn => h4 n (List.mem_of_mem_take hn), ?_⟩
      rw [hlenr i hi]
      cases hA : A i with
      | none => have := h5 hA; omega
      | some y =>
        have hmem : (Z i).length * 1 ∈ DataW.weights P t (DataW.slice ((List.range len).map fun r => intRow (H := H) k (A r) (L r) (Z r)) ((List.range (cap - len)).map fun j => intRow k (A (len + j)) (L (len + j)) (Z (len + j)))) := by
          rw [DataW.weights, ht]
          refine List.mem_cons_of_mem _ (List.mem_append_left _ (mem_weightsAll (d := intRow k (A i) (L i) (Z i)) (List.mem_map.2 ⟨i, List.mem_range.2 hi, rfl⟩) _ ?_))
          rw [hA, intRow]
          simp only [DataW.weights, he, cb]
          refine List.mem_cons.2 (.inl ?_)
          simp [lits]
          omega
        have := List.all_eq_true.1 hsz _ (DataW.weights_mem_each htj hdj _ hmem)
        have hre : reachBytes = 140737488351232 := by decide
        rw [hre] at this
        have := of_decide_eq_true this
        omega
end Go.Proofs.Ythnmgbmpbhdfcaa.Hand
