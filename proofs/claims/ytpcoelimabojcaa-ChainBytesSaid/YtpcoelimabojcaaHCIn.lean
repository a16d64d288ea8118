/- A chain and a config that come in, opened: what the walks read of them, and how great their parts may be. -/
import Derived.Deep.Strs
import Derived.Deep.Matrix
import Derived.SizedLaws
import Derived.WideShapes
import Derived.Test.YtpcoelimabojcaaHC4
namespace Go.Proofs.Ytpcoelimabojcaa.Hand
open Go.ChangeShapes Go.WideShapes Go.RowKit Go.Deep Go.Proofs.YtpcoelimabojcaaW.PrintWords
set_option linter.unusedVariables false
set_option linter.unusedSimpArgs false
theorem mem_weightsAll {H : Type} {P : Program} {e : TypeId} : ∀ {ds : List (DataW H)} {d : DataW H}, d ∈ ds → ∀ n ∈ d.weights P e, n ∈ DataW.weightsAll P e ds
  | x :: r, d, hd, n, hn => by
    rw [DataW.weightsAll, List.mem_append]
    rcases List.mem_cons.1 hd with rfl | h
    · exact .inl hn
    · exact .inr (mem_weightsAll h n hn)
theorem cells?_three {w : World} {base : Nat} {a : Addr} {x y z : Value} (h : w.cells? base a 3 = some [x, y, z]) : w.cell? (a.add 0) = some x ∧ w.cell? (a.add 1) = some y ∧ w.cell? (a.add 2) = some z := by
  unfold World.cells? at h
  split at h
  · have g0 := mapM_some_get h 0 0 (by simp)
    have g1 := mapM_some_get h 1 1 (by simp)
    have g2 := mapM_some_get h 2 2 (by simp)
    simp only [List.getElem?_cons_zero, List.getElem?_cons_succ] at g0 g1 g2
    exact ⟨g0, g1, g2⟩
  · cases h
theorem add_add_ (a : Addr) (i j : Nat) : (a.add i).add j = a.add (i + j) := Go.Deep.add_add a i j
set_option maxRecDepth 100000 in
/-- Whole numbers, read at every index. -/
theorem ints_open {H : Type} {enc : TypeId × Value → H} {w : World} {base : Nat} {held : Bool} {fuel : Nat} {cs : List Value} {y : DataW H × List MemPlace}
    (h : DataW.trod enc Try.prog w base (fun _ => true) held fuel 36 cs = some y) :
    ∃ (A : Option Addr) (c : Nat) (l : List Int), cs = [.slice A l.length c] ∧ l.length ≤ c ∧ Kd.C (Kd.int .i64) w A l.length l ∧
      ∀ ns : List Nat, (∀ n ∈ DataW.weights Try.prog 36 y.1, n ∈ ns) → ns.all (· ≤ reachBytes) = true → l.length * 8 ≤ 140737488351232 := by
  have u36 : Try.prog.underlying 36 = some (.slice 3) := by kernel_rfl
  have b3 : Try.prog.bytesOf 3 = 8 := by kernel_rfl
  rcases open_ints (k := .i64) u36 (by kernel_rfl) (by kernel_rfl) h with ⟨rfl, rfl⟩ | ⟨a, len, cap, zs, rfl, hb, hl, hm, hz, rfl, hcell, hwf⟩
  · exact ⟨none, 0, [], rfl, Nat.le_refl _, Kd.C_nil _ _, fun ns _ _ => by simp⟩
  simp only [if_true] at hz
  have hlen : (zs.take len).length = len := by rw [List.length_take]; omega
  have hm' : cap ≤ 9223372036854775807 := hm
  refine ⟨some a, cap, zs.take len, by rw [hlen], by omega, ⟨rfl, by omega, fun _ => ⟨a, rfl, fun j p hj => ⟨[.int .i64 p], rfl, rfl, fun i u hu => ?_⟩⟩⟩, fun ns hns hall => ?_⟩
  · have hi2 : i < 1 := (List.getElem?_eq_some_iff.1 hu).1
    obtain rfl : i = 0 := by omega
    simp at hu
    subst hu
    have hj1 : j < len := by rw [← hlen]; exact (List.getElem?_eq_some_iff.1 hj).1
    have hc := hcell j (by omega)
    rw [List.getElem?_take_of_lt hj1] at hj
    rw [List.getD_eq_getElem?_getD, hj] at hc
    have e : j * (Kd.int .i64).sz + 0 = j := by show j * 1 + 0 = j; omega
    rw [e]; exact hc
  · rw [hlen]
    have hw := hns (((lits (H := H) .i64 (zs.take len)).length + (lits (H := H) .i64 (zs.drop len)).length) * Try.prog.bytesOf 3) (by
      rw [DataW.weights, u36]; exact List.mem_cons_self)
    have h2 := of_decide_eq_true (List.all_eq_true.1 hall _ hw)
    rw [b3, show reachBytes = 140737488351232 by decide] at h2
    simp only [lits, List.length_map, List.length_take, List.length_drop] at h2
    omega
def fFirst : Field := { name := "First", type := 3, offset := 0, embedded := false, tag := "", pkgPath := "", byteOffset := 0 }
def fConfig : Field := { name := "Config", type := 45, offset := 1, embedded := false, tag := "", pkgPath := "", byteOffset := 8 }
def fID : Field := { name := "ID", type := 3, offset := 0, embedded := false, tag := "", pkgPath := "", byteOffset := 0 }
def fNodes : Field := { name := "Nodes", type := 36, offset := 1, embedded := false, tag := "", pkgPath := "", byteOffset := 8 }
def fOwner : Field := { name := "Owner", type := 3, offset := 0, embedded := false, tag := "", pkgPath := "", byteOffset := 0 }
def fTrim : Field := { name := "Trim", type := 3, offset := 1, embedded := false, tag := "", pkgPath := "", byteOffset := 8 }
def fParts : Field := { name := "Parts", type := 22, offset := 2, embedded := false, tag := "", pkgPath := "", byteOffset := 16 }
theorem u45 : Try.prog.underlying 45 = some (.struct #[fID, fNodes]) := by kernel_rfl
theorem u68 : Try.prog.underlying 68 = some (.struct #[fFirst, fConfig]) := by kernel_rfl
theorem u24 : Try.prog.underlying 24 = some (.struct #[fOwner, fTrim, fParts]) := by kernel_rfl
theorem c45 : Try.prog.cellsOf 45 = 2 := by kernel_rfl
theorem c36 : Try.prog.cellsOf 36 = 1 := by kernel_rfl
theorem c3_ : Try.prog.cellsOf 3 = 1 := by kernel_rfl
theorem c22 : Try.prog.cellsOf 22 = 1 := by kernel_rfl
theorem c68 : Try.prog.cellsOf 68 = 3 := by kernel_rfl
theorem b68 : Try.prog.bytesOf 68 = 40 := by kernel_rfl
set_option maxRecDepth 100000 in
/-- A config's cells. -/
theorem cfg_open {H : Type} {enc : TypeId × Value → H} {w : World} {base : Nat} {held : Bool} {fuel : Nat} {cs : List Value} {y : DataW H × List MemPlace}
    (h : DataW.trod enc Try.prog w base (fun _ => true) held fuel 45 cs = some y) :
    ∃ (id : Int) (A : Option Addr) (c : Nat) (l : List Int), cs = [.int .i64 id, .slice A l.length c] ∧ (Lit.int .i64 id).wf = true ∧ l.length ≤ c ∧ Kd.C (Kd.int .i64) w A l.length l ∧
      ∀ ns : List Nat, (∀ n ∈ DataW.weights Try.prog 45 y.1, n ∈ ns) → ns.all (· ≤ reachBytes) = true → l.length * 8 ≤ 140737488351232 := by
  obtain ⟨y0, y1, n, rfl, hlen, h0, h1⟩ := trod_struct2 u45 h
  rw [c45] at hlen
  match cs, hlen with
  | [v0, v1], _ =>
    obtain ⟨id, e0, z0, w0⟩ := DataW.trod_int (k := .i64) (by kernel_rfl) h0
    obtain ⟨A, c, l, e1, hc, hC, hw⟩ := ints_open h1
    have q0 : [v0] = [Value.int .i64 id] := e0
    have q1 : [v1] = [Value.slice A l.length c] := e1
    simp only [List.cons.injEq, and_true] at q0 q1
    subst q0 q1
    refine ⟨id, A, c, l, rfl, w0, hc, hC, fun ns hns hall => hw ns (fun m hm => hns m ?_) hall⟩
    rw [DataW.weights, u45]
    exact DataW.weights_mem_each (j := 1) (t := 36) (d := y1.1) rfl rfl m hm
instance : Inhabited PartV := ⟨part0⟩
set_option maxRecDepth 100000 in
/-- A row of parts, read at every index. -/
theorem parts_open {H : Type} {enc : TypeId × Value → H} {w : World} {base : Nat} {held : Bool} {fuel : Nat} {cs : List Value} {y : DataW H × List MemPlace}
    (h : DataW.trod enc Try.prog w base (fun _ => true) held fuel 22 cs = some y) :
    ∃ (A : Option Addr) (c : Nat) (xs : List PartV), cs = [.slice A xs.length c] ∧ xs.length ≤ c ∧ Kd.C k53 w A xs.length xs ∧
      ∀ ns : List Nat, (∀ n ∈ DataW.weights Try.prog 22 y.1, n ∈ ns) → ns.all (· ≤ reachBytes) = true → xs.length * 40 ≤ 140737488351232 ∧ ∀ p ∈ xs, p.nodes.length * 8 ≤ 140737488351232 := by
  have u22 : Try.prog.underlying 22 = some (.slice 68) := by kernel_rfl
  rcases open_slice u22 h with ⟨rfl, rfl⟩ | ⟨a, len, cap, m, n, D, Pl, rfl, hb, hl, hm, hmm, rfl, hx⟩
  · exact ⟨none, 0, [], rfl, Nat.le_refl _, Kd.C_nil _ _, fun ns _ _ => ⟨by simp, fun r hr => by cases hr⟩⟩
  simp only [if_true] at hmm
  subst hmm
  rw [c68] at hx
  have each : ∀ i, i < m → ∃ p : PartV, ∃ B c2, p.nodes.length ≤ c2 ∧ Kd.C (Kd.int .i64) w B p.nodes.length p.nodes ∧ w.cell? (a.add (i * 3 + 0)) = some (.int .i64 p.first) ∧ w.cell? (a.add (i * 3 + 1)) = some (.int .i64 p.id) ∧ w.cell? (a.add (i * 3 + 2)) = some (.slice B p.nodes.length c2) ∧
      ∀ ns : List Nat, (∀ n ∈ DataW.weights Try.prog 68 (D i), n ∈ ns) → ns.all (· ≤ reachBytes) = true → p.nodes.length * 8 ≤ 140737488351232 := by
    intro i hi
    obtain ⟨cs', hc, ht⟩ := hx i hi
    obtain ⟨y0, y1, k, hy, hlen, h0, h1⟩ := trod_struct2 u68 ht
    rw [c68] at hlen
    match cs', hlen with
    | [v0, v1, v2], _ =>
      obtain ⟨f, e0, z0, w0⟩ := DataW.trod_int (k := .i64) (by kernel_rfl) h0
      obtain ⟨id, B, c2, l, e1, w1, hc2, hC, hw⟩ := cfg_open h1
      have q0 : [v0] = [Value.int .i64 f] := e0
      have e1' : List.take (Try.prog.cellsOf 45) [v1, v2] = [Value.int .i64 id, Value.slice B l.length c2] := e1
      rw [c45] at e1'
      have q1 : [v1, v2] = [Value.int .i64 id, Value.slice B l.length c2] := e1'
      simp only [List.cons.injEq, and_true] at q0 q1
      obtain ⟨q1, q2⟩ := q1
      subst q0 q1 q2
      obtain ⟨k0, k1, k2⟩ := cells?_three hc
      rw [add_add_] at k0 k1 k2
      refine ⟨⟨f, id, l⟩, B, c2, hc2, hC, k0, k1, k2, fun ns hns hall => hw ns (fun m hm => hns m ?_) hall⟩
      rw [(Prod.mk.inj hy).1, DataW.weights, u68]
      exact DataW.weights_mem_each (j := 1) (t := 45) (d := y1.1) rfl rfl m hm
  obtain ⟨R, hR⟩ := choose_lt each
  have hlenx : ((List.range len).map R).length = len := by simp
  refine ⟨some a, m, (List.range len).map R, by rw [hlenx], by rw [hlenx]; exact hl, ⟨rfl, ?_, fun _ => ⟨a, rfl, fun j p hj => ?_⟩⟩, fun ns hns hall => ⟨?_, fun r hr => ?_⟩⟩
  · rw [hlenx]; have : m ≤ 9223372036854775807 := hm; omega
  · have hj1 : j < len := by rw [← hlenx]; exact (List.getElem?_eq_some_iff.1 hj).1
    have hp : p = R j := by
      simp [hj1] at hj
      exact hj.symm
    subst hp
    obtain ⟨B, c2, g1, g2, k0, k1, k2, _⟩ := hR j (by omega)
    refine ⟨_, rfl, k53_mk g1 g2, fun i u hu => ?_⟩
    match i, hu with
    | 0, hu => simp at hu; subst hu; exact k0
    | 1, hu => simp at hu; subst hu; exact k1
    | 2, hu => simp at hu; subst hu; exact k2
    | i + 3, hu => simp at hu
  · rw [hlenx]
    have hw := hns ((((List.range len).map D).length + ((List.range (m - len)).map fun j => D (len + j)).length) * Try.prog.bytesOf 68) (by
      rw [DataW.weights, u22]; exact List.mem_cons_self)
    have h2 := of_decide_eq_true (List.all_eq_true.1 hall _ hw)
    rw [b68, show reachBytes = 140737488351232 by decide, List.length_map, List.length_map, List.length_range, List.length_range] at h2
    omega
  · simp only [List.mem_map, List.mem_range] at hr
    obtain ⟨i, hi, rfl⟩ := hr
    obtain ⟨_, _, _, _, _, _, _, hD⟩ := hR i (by omega)
    exact hD ns (fun n hn => hns n (by
      rw [DataW.weights, u22]
      exact List.mem_cons_of_mem _ (List.mem_append_left _ (mem_weightsAll (List.mem_map.2 ⟨i, List.mem_range.2 hi, rfl⟩) n hn)))) hall
theorem array3 {α : Type} {cs : Array α} (h : cs.size = 3) : ∃ c0 c1 c2, cs = #[c0, c1, c2] := by
  obtain ⟨l⟩ := cs
  match l, h with
  | [c0, c1, c2], _ => exact ⟨c0, c1, c2, rfl⟩
theorem array2 {α : Type} {cs : Array α} (h : cs.size = 2) : ∃ c0 c1, cs = #[c0, c1] := by
  obtain ⟨l⟩ := cs
  match l, h with
  | [c0, c1], _ => exact ⟨c0, c1, rfl⟩
set_option maxRecDepth 100000 in
/-- A chain by value. -/
theorem chain_open {H : Type} {enc : TypeId × Value → H} {r : Reach} {b0 : Nat} {w : World} {base : Nat} {held : Bool} {v : Value} {d : DataW H} {p : List MemPlace}
    (hv : Value.okWide Try.prog w r b0 24 v) (h : DataW.Trod enc Try.prog w base (fun _ => true) held 24 v d p) :
    ∃ (ow tr : Int) (A : Option Addr) (c : Nat) (xs : List PartV), v = .agg #[.int .i64 ow, .int .i64 tr, .slice A xs.length c] ∧ xs.length ≤ c ∧ Kd.C k53 w A xs.length xs ∧ ((Lit.int .i64 ow).wf = true ∧ (Lit.int .i64 tr).wf = true) ∧
      ∀ (ts : List TypeId) (ds : List (DataW H)) (j : Nat), ts[j]? = some 24 → ds[j]? = some d → (DataW.weightsEach Try.prog ts ds).all (· ≤ reachBytes) = true → xs.length * 40 ≤ 140737488351232 ∧ ∀ p ∈ xs, p.nodes.length * 8 ≤ 140737488351232 := by
  obtain ⟨cs, rfl, hsz⟩ := okWide_struct u24 hv
  obtain ⟨v0, v1, v2, rfl⟩ := array3 (hsz.trans (by kernel_rfl))
  obtain ⟨fuel, hf⟩ := h
  obtain ⟨y0, y1, y2, n, hx, hl, h0, h1, h2⟩ := trod_struct3 u24 hf
  obtain ⟨ow, e0, z0, w0⟩ := DataW.trod_int (k := .i64) (by kernel_rfl) h0
  obtain ⟨tr, e1, z1, w1⟩ := DataW.trod_int (k := .i64) (by kernel_rfl) h1
  obtain ⟨A, c, xs, e2, hc, hC, hw⟩ := parts_open h2
  have q0 : [v0] = [Value.int .i64 ow] := e0
  have q1 : [v1] = [Value.int .i64 tr] := e1
  have q2 : [v2] = [Value.slice A xs.length c] := e2
  simp only [List.cons.injEq, and_true] at q0 q1 q2
  subst q0 q1 q2
  refine ⟨ow, tr, A, c, xs, rfl, hc, hC, ⟨w0, w1⟩, fun ts ds j hts hds hall => hw _ (fun n hn => ?_) hall⟩
  refine DataW.weights_mem_each hts hds n ?_
  rw [(Prod.mk.inj hx).1, DataW.weights, u24]
  exact DataW.weights_mem_each (j := 2) (t := 22) (d := y2.1) rfl rfl n hn
set_option maxRecDepth 100000 in
/-- A config by value. -/
theorem config_open {H : Type} {enc : TypeId × Value → H} {r : Reach} {b0 : Nat} {w : World} {base : Nat} {held : Bool} {v : Value} {d : DataW H} {p : List MemPlace}
    (hv : Value.okWide Try.prog w r b0 45 v) (h : DataW.Trod enc Try.prog w base (fun _ => true) held 45 v d p) :
    ∃ (id : Int) (A : Option Addr) (c : Nat) (l : List Int), v = .agg #[.int .i64 id, .slice A l.length c] ∧ l.length ≤ c ∧ Kd.C (Kd.int .i64) w A l.length l ∧ (Lit.int .i64 id).wf = true ∧
      ∀ (ts : List TypeId) (ds : List (DataW H)) (j : Nat), ts[j]? = some 45 → ds[j]? = some d → (DataW.weightsEach Try.prog ts ds).all (· ≤ reachBytes) = true → l.length * 8 ≤ 140737488351232 := by
  obtain ⟨cs, rfl, hsz⟩ := okWide_struct u45 hv
  obtain ⟨v0, v1, rfl⟩ := array2 (hsz.trans (by kernel_rfl))
  obtain ⟨fuel, hf⟩ := h
  obtain ⟨id, A, c, l, e, w0, hc, hC, hw⟩ := cfg_open hf
  have q : [v0, v1] = [Value.int .i64 id, Value.slice A l.length c] := e
  simp only [List.cons.injEq, and_true] at q
  obtain ⟨rfl, rfl⟩ := q
  exact ⟨id, A, c, l, rfl, hc, hC, w0, fun ts ds j hts hds hall => hw _ (fun n hn => DataW.weights_mem_each hts hds n hn) hall⟩
end Go.Proofs.Ytpcoelimabojcaa.Hand
