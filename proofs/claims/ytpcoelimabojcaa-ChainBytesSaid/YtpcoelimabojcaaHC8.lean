/- Frames with a footprint; a chain's parts as they lie in memory. -/
import Derived.Test.YtpcoelimabojcaaHC7
namespace Go.Proofs.Ytpcoelimabojcaa.Hand
open Go.RowKit Go.Proofs.Ytpcoelimabojcaa Go.Proofs.YtpcoelimabojcaaW.PrintWords Go.Proofs.YtpcoelimabojcaaW.PrintLast
set_option linter.unusedVariables false
set_option linter.unusedSimpArgs false
/-- What existed outside F is as it was. -/
structure Fr (F : Nat → Prop) (w w' : World) : Prop where
  os : w'.os = w.os
  tape : w'.tape = w.tape
  output : w'.output = w.output
  size : w.heap.size ≤ w'.heap.size
  block : ∀ k, k < w.heap.size → ¬ F k → w'.heap[k]? = w.heap[k]?
section
variable {F G : Nat → Prop} {w w' w'' W : World}
theorem Fr.refl (F : Nat → Prop) (w : World) : Fr F w w := ⟨rfl, rfl, rfl, Nat.le_refl _, fun _ _ _ => rfl⟩
theorem Fr.trans (h : Fr F w w') (k : Fr G w' w'') (hG : ∀ q, G q → F q ∨ w.heap.size ≤ q) : Fr F w w'' :=
  ⟨k.os.trans h.os, k.tape.trans h.tape, k.output.trans h.output, Nat.le_trans h.size k.size, fun q hq hF => (k.block q (Nat.lt_of_lt_of_le hq h.size) (fun hg => by rcases hG q hg with h1 | h1; exact hF h1; omega)).trans (h.block q hq hF)⟩
theorem Fr.of_below (h : Below w.heap.size w w') : Fr F w w' := ⟨h.os, h.tape, h.output, h.size, fun q hq _ => h.block q hq⟩
theorem Fr.of_grown {row : Option Nat} (h : w.grownBy w' row) (hr : ∀ q, some q = row → F q) : Fr F w w' := ⟨h.os, h.tape, h.output, h.size, fun q hq hn => h.block q hq (fun e => hn (hr q e))⟩
theorem Fr.blk (h : Fr F w w') {g : Nat} {o : Obj} (hg : w.heap[g]? = some o) (hn : ¬ F g) : w'.heap[g]? = some o := (h.block g (blk_lt hg) hn).trans hg
theorem Fr.R {α : Type} {d : Kd α} {e base : Nat} {ok : Nat → Prop} {v : Value} {xs : List α} (h : Fr F w w') (hr : d.R e w base ok v xs) (hd : ∀ k, ok k → ¬ F k) : d.R e w' base ok v xs := Kd.R_step hr (fun k ho hk => h.block k hk (hd k ho))
theorem Fr.set (w : World) (g i : Nat) (v : Value) (hF : F g) : Fr F w (w.setCell ⟨g, i, none⟩ v) :=
  ⟨rfl, rfl, rfl, by simp [World.setCell], fun k _ hk => Below.heap_setCell _ _ _ k (fun e => hk (by rw [e]; exact hF))⟩
end
def rawz : RawP := (0, 0, (none, 0, 0))
theorem kRaw_mk (w : World) (x : RawP) : kRaw.K w x [.int .i64 x.1, .int .i64 x.2.1, .slice x.2.2.1 x.2.2.2.1 x.2.2.2.2] := ⟨[.int .i64 x.1], [.int .i64 x.2.1, .slice x.2.2.1 x.2.2.2.1 x.2.2.2.2], rfl, rfl, [.int .i64 x.2.1], [.slice x.2.2.1 x.2.2.2.1 x.2.2.2.2], rfl, rfl, rfl⟩
theorem kRaw_openM {w : World} {base : Nat} {ok : Nat → Prop} {x : RawP} {cs : List Value} (h : kRaw.M w base ok x cs) : cs = [.int .i64 x.1, .int .i64 x.2.1, .slice x.2.2.1 x.2.2.2.1 x.2.2.2.2] := by
  obtain ⟨a, r1, rfl, ha, r2, r3, rfl, hb, hc⟩ := h
  have ha' : a = [.int .i64 x.1] := ha
  have hb' : r2 = [.int .i64 x.2.1] := hb
  have hc' : r3 = [encSl x.2.2] := hc
  subst ha' hb' hc'
  rfl
theorem choose_lt' {α : Type} [Inhabited α] {n : Nat} {P : Nat → α → Prop} (h : ∀ i, i < n → ∃ r, P i r) : ∃ R : Nat → α, ∀ i, i < n → P i (R i) :=
  ⟨fun i => if hi : i < n then (h i hi).choose else default, fun i hi => by simp only [dif_pos hi]; exact (h i hi).choose_spec⟩
/-- What a raw part leads to. -/
def RawOk (W : World) (p : PartV) (r : RawP) : Prop := ∃ pA pc, r = (p.first, p.id, (pA, p.nodes.length, pc)) ∧ p.nodes.length ≤ pc ∧ Kd.C (Kd.int .i64) W pA p.nodes.length p.nodes
theorem raw_of {W : World} {A : Option Addr} {ps : List PartV} (h : Kd.C k53 W A ps.length ps) : ∃ ras : List RawP, ras.length = ps.length ∧ Kd.C kRaw W A ps.length ras ∧ ∀ i (hi : i < ps.length), RawOk W ps[i] (ras.getD i rawz) := by
  have hmax := Kd.C_max h
  have each : ∀ i, i < ps.length → ∃ r : RawP, RawOk W (ps.getD i part0) r ∧ ∃ ad, A = some ad ∧ ∀ j u, [Value.int .i64 r.1, .int .i64 r.2.1, .slice r.2.2.1 r.2.2.2.1 r.2.2.2.2][j]? = some u → W.cell? (ad.add (i * 3 + j)) = some u := by
    intro i hi
    rw [List.getD_eq_getElem?_getD, List.getElem?_eq_getElem hi, Option.getD_some]
    obtain ⟨ad, A1, c1, e, h0, h1, hc⟩ := part_cells h i hi
    obtain ⟨x0, x1, x2⟩ := hc W (Below.refl _ _)
    refine ⟨(ps[i].first, ps[i].id, (A1, ps[i].nodes.length, c1)), ⟨A1, c1, rfl, h0, h1⟩, ad, e, fun j u hu => ?_⟩
    have aa : ∀ q, (ad.add (i * 3)).add q = ad.add (i * 3 + q) := fun q => add_add ad _ _
    have ff : ∀ q, (⟨(ad.add (i * 3)).block, (ad.add (i * 3)).off + (q + 1), none⟩ : Addr) = ad.add (i * 3 + (q + 1)) := fun q => by rw [← aa]; rfl
    rw [ff 0] at x1
    rw [ff 1] at x2
    match j, hu with
    | 0, hu => simp at hu; subst hu; exact x0
    | 1, hu => simp at hu; subst hu; exact x1
    | 2, hu => simp at hu; subst hu; exact x2
    | j + 3, hu => simp at hu
  haveI : Inhabited RawP := ⟨rawz⟩
  obtain ⟨R, hR⟩ := choose_lt' each
  have hlenx : ((List.range ps.length).map R).length = ps.length := by simp
  refine ⟨(List.range ps.length).map R, hlenx, ⟨hlenx, hmax, fun hp => ?_⟩, fun i hi => ?_⟩
  · obtain ⟨ad, e, _⟩ := h.2.2 hp
    refine ⟨ad, e, fun j p hj => ?_⟩
    have hj1 : j < ps.length := by rw [← hlenx]; exact (List.getElem?_eq_some_iff.1 hj).1
    have hp : p = R j := by simp [hj1] at hj; exact hj.symm
    subst hp
    obtain ⟨_, ad', e', hc⟩ := hR j hj1
    rw [e] at e'
    injection e' with e'
    subst e'
    exact ⟨_, rfl, kRaw_mk W (R j), fun i u hu => hc i u hu⟩
  · have h1 := (hR i hi).1
    rw [List.getD_eq_getElem?_getD, List.getElem?_eq_getElem hi, Option.getD_some] at h1
    rw [List.getD_eq_getElem?_getD, List.getElem?_eq_getElem (by rw [hlenx]; exact hi)]
    simpa using h1
end Go.Proofs.Ytpcoelimabojcaa.Hand
