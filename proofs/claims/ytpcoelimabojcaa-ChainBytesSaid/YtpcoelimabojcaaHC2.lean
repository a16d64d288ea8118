/- Parts of a chain in memory; in, demand, last, a config's check. -/
import Derived.Test.YtpcoelimabojcaaProg
import Derived.Below
import Derived.Deep.Draws
import Derived.Deep.AppendLies
import Derived.Maps.AppendAt
import Derived.OwnWalk
import Derived.Laws.BytesArg
import Derived.Laws.MakeOwn
import Derived.Laws.OwnMore
import Derived.Deep.OwnRows
import Derived.Tactics
import Derived.Lib.ConvBytes
import Derived.Laws.Slices
import Derived.WalkKit
import Derived.KernelRfl
import Derived.RowKit3
import Derived.Deep.LoopGhost
import Derived.Deep.QuietTactic
import Derived.BigQuiet
import Derived.WideLaws
import Derived.Deep.DeepCutAuto
import Derived.Deep.CutBlock
import Derived.Deep.RegionHeld3
import Derived.Laws.Rows
import Derived.Lib.AppendStr
import Derived.ArgAppend
import Derived.OrdersHeld
import Derived.Laws.BitsLemmas
import Derived.RowKit
import Derived.Maps.Own
import Derived.WalkLawsBesides
import Derived.Defers
import Derived.Recover
import Derived.Test.YtpcoelimabojcaaHVE
import Derived.Test.YtpcoelimabojcaaHC1
namespace Go.Proofs.Ytpcoelimabojcaa.Hand
open Go.RowKit Go.Proofs.Ytpcoelimabojcaa Go.Proofs.YtpcoelimabojcaaW.PrintWords Go.Proofs.YtpcoelimabojcaaW.PrintLast
set_option linter.unusedVariables false
set_option linter.unusedSimpArgs false
/-- A part of a chain: where it begins, its loglet, the loglet's nodes. -/
structure PartV where
  first : Int
  id : Int
  nodes : List Int
def k53 : Kd PartV := Kd.iso (Kd.pair (Kd.int .i64) (Kd.pair (Kd.int .i64) (Kd.slice 3 (Kd.int .i64)))) (fun p : PartV => (p.first, p.id, p.nodes))
theorem k53_open {w : World} {x : PartV} {cs : List Value} (h : k53.K w x cs) : ∃ A c, cs = [.int .i64 x.first, .int .i64 x.id, .slice A x.nodes.length c] ∧ x.nodes.length ≤ c ∧ Kd.C (Kd.int .i64) w A x.nodes.length x.nodes := by
  obtain ⟨a, r1, rfl, ha, r2, r3, rfl, hb, ⟨A, c, rfl, h1, h2⟩⟩ := h
  have ha' : a = [.int .i64 x.first] := ha
  have hb' : r2 = [.int .i64 x.id] := hb
  subst ha' hb'
  exact ⟨A, c, rfl, h1, h2⟩
theorem k53_mk {w : World} {x : PartV} {A : Option Addr} {c : Nat} (h1 : x.nodes.length ≤ c) (h2 : Kd.C (Kd.int .i64) w A x.nodes.length x.nodes) : k53.K w x [.int .i64 x.first, .int .i64 x.id, .slice A x.nodes.length c] :=
  ⟨[.int .i64 x.first], [.int .i64 x.id, .slice A x.nodes.length c], rfl, rfl, [.int .i64 x.id], [.slice A x.nodes.length c], rfl, rfl, ⟨A, c, rfl, h1, h2⟩⟩
theorem k53_openM {w : World} {base : Nat} {ok : Nat → Prop} {x : PartV} {cs : List Value} (h : k53.M w base ok x cs) : ∃ vb, cs = [.int .i64 x.first, .int .i64 x.id, vb] ∧ Kd.R (Kd.int .i64) 3 w base ok vb x.nodes := by
  obtain ⟨a, r1, rfl, ha, r2, r3, rfl, hb, v, rfl, hR⟩ := h
  have ha' : a = [.int .i64 x.first] := ha
  have hb' : r2 = [.int .i64 x.id] := hb
  subst ha' hb'
  exact ⟨v, rfl, hR⟩
theorem k53_mkM {w : World} {base : Nat} {ok : Nat → Prop} {x : PartV} {vb : Value} (h : Kd.R (Kd.int .i64) 3 w base ok vb x.nodes) : k53.M w base ok x [.int .i64 x.first, .int .i64 x.id, vb] :=
  ⟨[.int .i64 x.first], [.int .i64 x.id, vb], rfl, rfl, [.int .i64 x.id], [vb], rfl, rfl, ⟨vb, rfl, h⟩⟩
theorem infoI : (Try.prog.info? 3).map (fun i => (i.zero, i.size, i.bytes)) = some (some (.int .i64 0), 1, 8) := by kernel_rfl
theorem infoP : (Try.prog.info? 53).map (fun i => (i.zero, i.size, i.bytes)) = some (some (.agg #[.int .i64 0, .int .i64 0, .slice none 0 0]), 3, 40) := by kernel_rfl
theorem infoQ : (Try.prog.info? 68).map (fun i => (i.zero, i.size, i.bytes)) = some (some (.agg #[.int .i64 0, .int .i64 0, .slice none 0 0]), 3, 40) := by kernel_rfl
/-- Is it a number? -/
def inB (n : Int) : Bool := decide (0 ≤ n) && decide (n < 281474976710656)
theorem in_c (n : Int) (W : World) : Calls Try.prog 50 #[.int .i64 n] W fun e W' => e = .returned (.bool (inB n)) ∧ W = W' := by
  by_cases h0 : 0 ≤ n
  · go_enter Try.func50, Try.ntmps50
    go_wp2_with fail
    go_ret
    exact ⟨by simp [inB, h0], rfl⟩
  · go_enter Try.func50, Try.ntmps50
    go_wp2_with fail
    go_ret
    exact ⟨by rw [inB, show decide (0 ≤ n) = false from by simpa using h0]; rfl, rfl⟩
theorem demand_ok (x : Int) (W : World) : Calls Try.prog 36 #[.bool true, .int .i64 x] W fun e W' => e = .returned (.tuple #[]) ∧ W = W' := by
  go_enter Try.func36, Try.ntmps36
  go_wp2_with fail
  go_end0
  exact ⟨rfl, rfl⟩
theorem demand_no (x : Int) (W : World) : Calls Try.prog 36 #[.bool false, .int .i64 x] W fun e W' => e = .panicked [{ v := .iface 37 (.int .i64 x), recovered := false }] ∧ W = W' := by
  go_enter Try.func36, Try.ntmps36
  go_wp2_with fail
  exact ⟨rfl, rfl, rfl⟩
/-- The last part's First; 0 without parts. -/
def lastF (ps : List PartV) : Int := match ps.getLast? with | some p => p.first | none => 0
/-- A part's cells, in any world behind the first. -/
theorem part_cells {w : World} {A : Option Addr} {ps : List PartV} (h : Kd.C k53 w A ps.length ps) (j : Nat) (hj : j < ps.length) : ∃ ad A1 c1, A = some ad ∧ ps[j].nodes.length ≤ c1 ∧ Kd.C (Kd.int .i64) w A1 ps[j].nodes.length ps[j].nodes ∧
    ∀ W : World, Below w.heap.size w W → W.cell? (ad.add (j * 3)) = some (.int .i64 ps[j].first) ∧ W.cell? ⟨(ad.add (j * 3)).block, (ad.add (j * 3)).off + 1, none⟩ = some (.int .i64 ps[j].id) ∧ W.cell? ⟨(ad.add (j * 3)).block, (ad.add (j * 3)).off + 2, none⟩ = some (.slice A1 ps[j].nodes.length c1) := by
  obtain ⟨ad, c, e, hl, hK, hc⟩ := ReadsRow.get_ h ⟨0, 0, []⟩ (j : Int) (by omega) (by omega)
  rw [Int.toNat_natCast, show ps.getD j ⟨0, 0, []⟩ = ps[j] by rw [List.getD_eq_getElem?_getD, List.getElem?_eq_getElem hj]; rfl] at hK
  rw [Int.toNat_natCast] at hc
  obtain ⟨A1, c1, rfl, h0, h1⟩ := k53_open hK
  refine ⟨ad, A1, c1, e, h0, h1, fun W hb => ?_⟩
  have g := fun i u (hu : [Value.int .i64 ps[j].first, .int .i64 ps[j].id, .slice A1 ps[j].nodes.length c1][i]? = some u) => (hb.cell (World.block_lt_of_cell? w _ (hc i u hu))).trans (hc i u hu)
  have aa : ∀ i, (ad.add (j * 3)).add i = ad.add (j * 3 + i) := fun i => add_add ad _ _
  have ff : ∀ i, (⟨(ad.add (j * 3)).block, (ad.add (j * 3)).off + (i + 1), none⟩ : Addr) = ad.add (j * 3 + (i + 1)) := fun i => by rw [← aa]; rfl
  rw [ff 0, ff 1]
  exact ⟨g 0 _ rfl, g 1 _ rfl, g 2 _ rfl⟩
set_option maxRecDepth 100000 in
theorem last_c (ow tr : Int) (A : Option Addr) (c : Nat) (ps : List PartV) (W : World) (hr : Kd.C k53 W A ps.length ps) :
    Calls Try.prog 35 #[.agg #[.int .i64 ow, .int .i64 tr, .slice A ps.length c]] W fun e W' => e = .returned (.int .i64 (lastF ps)) ∧ Below W.heap.size W W' := by
  rcases Nat.eq_zero_or_pos ps.length with h0 | h0
  · have : ps = [] := List.eq_nil_of_length_eq_zero h0
    subst this
    clear hr
    go_enter Try.func35, Try.ntmps35
    go_wp2_with fail
    go_ret
    exact ⟨rfl, below_alloc (Below.refl _ _) _⟩
  · obtain ⟨n, hn⟩ : ∃ n, ps.length = n + 1 := ⟨ps.length - 1, by omega⟩
    have hmax := Kd.C_max hr
    obtain ⟨ad, A1, c1, rfl, _, _, hcc⟩ := part_cells hr n (by omega)
    obtain ⟨x0, -, -⟩ := hcc (W.alloc (.cells #[.int .i64 ow, .int .i64 tr, .slice (some ad) ps.length c] 27 (0, 0))) (below_alloc (Below.refl _ _) _)
    have hl : lastF ps = ps[n].first := by
      unfold lastF
      rw [List.getLast?_eq_getElem?, show ps[ps.length - 1]? = some ps[n] from by rw [show ps.length - 1 = n by omega]; exact List.getElem?_eq_getElem _]
    rw [hl]
    generalize ps[n].first = f at x0
    clear hl hcc hr
    rw [hn] at x0 hmax ⊢

    go_enter Try.func35, Try.ntmps35
    go_wp2_with fail
    go_ret
    exact ⟨rfl, below_alloc (Below.refl _ _) _⟩
end Go.Proofs.Ytpcoelimabojcaa.Hand
