/- Extend and Cut, the chain's and the document's: each hands back the same. -/
import Derived.Test.YtpcoelimabojcaaHC24
namespace Go.Proofs.Ytpcoelimabojcaa.Hand
open Go.RowKit Go.Proofs.Ytpcoelimabojcaa Go.Proofs.YtpcoelimabojcaaW.PrintWords Go.Proofs.Ytpcoelimabojcaa.R0
set_option linter.unusedVariables false
set_option linter.unusedSimpArgs false
/-- What Extend and Cut hand back. -/
def extR (ow tr : Int) (ps : List PartV) (n owner en : Int) (nx : PartV) : Int × Int × List PartV × Int :=
  if extErr ow tr ps n owner en nx = 0 then (owner, tr, extParts tr ps en nx, 0) else (0, 0, [], extErr ow tr ps n owner en nx)
def cutR (ow tr : Int) (ps : List PartV) (n addr : Int) : Int × Int × List PartV × Int :=
  if cutErr ow tr ps n addr = 0 then (ow, addr, cutParts ps addr, 0) else (0, 0, [], cutErr ow tr ps n addr)
theorem extend2_c (ow tr n owner en id : Int) (A B : Option Addr) (c c2 : Nat) (ps : List PartV) (nl : List Int) (W : World) (hr : Kd.C k53 W A ps.length ps) (hq : Kd.C (Kd.int .i64) W B nl.length nl) (hc : ps.length ≤ c) (hc2 : nl.length ≤ c2) (hl : (ps.length + 1) * 40 ≤ 140737488355328) (hn : ∀ p ∈ ps, p.nodes.length * 8 ≤ 140737488355328) (hnl : nl.length * 8 ≤ 140737488355328) :
    Calls Try.prog 16 #[.agg #[.int .i64 ow, .int .i64 tr, .slice A ps.length c], .int .i64 n, .int .i64 owner, .int .i64 en, .agg #[.int .i64 id, .slice B nl.length c2]] W fun e W' => ∃ A' c', e = .returned (.tuple #[.agg #[.int .i64 (extR ow tr ps n owner en ⟨en, id, nl⟩).1, .int .i64 (extR ow tr ps n owner en ⟨en, id, nl⟩).2.1, .slice A' (extR ow tr ps n owner en ⟨en, id, nl⟩).2.2.1.length c'], .int .i64 (extR ow tr ps n owner en ⟨en, id, nl⟩).2.2.2]) ∧ Kd.R k53 53 W' 0 (fun k => W.heap.size ≤ k) (.slice A' (extR ow tr ps n owner en ⟨en, id, nl⟩).2.2.1.length c') (extR ow tr ps n owner en ⟨en, id, nl⟩).2.2.1 ∧ Below W.heap.size W W' := by
  refine (extend_c ow tr n owner en id A B c c2 ps nl W hr hq hc hc2 hl hn hnl).mono ?_
  rintro e W' ⟨hb, ⟨h1, h2⟩ | ⟨h1, A', c', h2, h3⟩⟩
  · have e : extR ow tr ps n owner en ⟨en, id, nl⟩ = (0, 0, [], extErr ow tr ps n owner en ⟨en, id, nl⟩) := if_neg h1
    rw [e]
    exact ⟨none, 0, h2, Kd.R_nil _ _ _ _ _, hb⟩
  · have e : extR ow tr ps n owner en ⟨en, id, nl⟩ = (owner, tr, extParts tr ps en ⟨en, id, nl⟩, 0) := if_pos h1
    rw [e]
    exact ⟨A', c', h2, h3, hb⟩
theorem cut2_c (ow tr n addr : Int) (A : Option Addr) (c : Nat) (ps : List PartV) (W : World) (hr : Kd.C k53 W A ps.length ps) (hl : ps.length * 40 ≤ 140737488355328) (hn : ∀ p ∈ ps, p.nodes.length * 8 ≤ 140737488355328) :
    Calls Try.prog 22 #[.agg #[.int .i64 ow, .int .i64 tr, .slice A ps.length c], .int .i64 n, .int .i64 addr] W fun e W' => ∃ A' c', e = .returned (.tuple #[.agg #[.int .i64 (cutR ow tr ps n addr).1, .int .i64 (cutR ow tr ps n addr).2.1, .slice A' (cutR ow tr ps n addr).2.2.1.length c'], .int .i64 (cutR ow tr ps n addr).2.2.2]) ∧ Kd.C k53 W' A' (cutR ow tr ps n addr).2.2.1.length (cutR ow tr ps n addr).2.2.1 ∧ Below W.heap.size W W' := by
  refine (cut_c ow tr n addr A c ps W hr hl hn).mono ?_
  rintro e W' ⟨hb, ⟨h1, h2⟩ | ⟨h1, A', c', h2, h3, h4⟩⟩
  · have e : cutR ow tr ps n addr = (0, 0, [], cutErr ow tr ps n addr) := if_neg h1
    rw [e]
    exact ⟨none, 0, h2, Kd.C_nil _ _, hb⟩
  · have e : cutR ow tr ps n addr = (ow, addr, cutParts ps addr, 0) := if_pos h1
    rw [e]
    exact ⟨A', c', h2, h4, hb⟩
theorem refExtend_c (ow tr n owner en id : Int) (A B : Option Addr) (c c2 : Nat) (ps : List PartV) (nl : List Int) (W : World) (hr : Kd.C k53 W A ps.length ps) (hq : Kd.C (Kd.int .i64) W B nl.length nl) (hc : ps.length ≤ c) (hc2 : nl.length ≤ c2) (hl : ps.length + 1 ≤ 3518437208883) (hn : ∀ p ∈ ps, p.nodes.length < 17592186044416) (hnl : nl.length < 17592186044416) :
    Calls Try.prog 21 #[.agg #[.int .i64 ow, .int .i64 tr, .slice A ps.length c], .int .i64 n, .int .i64 owner, .int .i64 en, .agg #[.int .i64 id, .slice B nl.length c2]] W fun e W' => ∃ A' c', e = .returned (.tuple #[.agg #[.int .i64 (extR ow tr ps n owner en ⟨en, id, nl⟩).1, .int .i64 (extR ow tr ps n owner en ⟨en, id, nl⟩).2.1, .slice A' (extR ow tr ps n owner en ⟨en, id, nl⟩).2.2.1.length c'], .int .i64 (extR ow tr ps n owner en ⟨en, id, nl⟩).2.2.2]) ∧ Kd.C k53 W' A' (extR ow tr ps n owner en ⟨en, id, nl⟩).2.2.1.length (extR ow tr ps n owner en ⟨en, id, nl⟩).2.2.1 ∧ Below W.heap.size W W' := by
  obtain ⟨K, hK⟩ := ext10_ev n ow tr owner en id nl ps hl hn hnl
  have hf : gazetteref10_Extend.f K ow tr (ps.map toS) n owner en id nl = some ((extR ow tr ps n owner en ⟨en, id, nl⟩).1, (extR ow tr ps n owner en ⟨en, id, nl⟩).2.1, (extR ow tr ps n owner en ⟨en, id, nl⟩).2.2.1.map toS, (extR ow tr ps n owner en ⟨en, id, nl⟩).2.2.2) := by
    rw [hK K (Nat.le_refl _)]
    unfold extR
    split <;> rfl
  have hC := C_toS hr
  have hlm : (ps.map toS).length = ps.length := List.length_map _
  have hcall := gazetteref10_Extend.calls K ow tr A c (ps.map toS) n owner en id B c2 nl _ _ _ _ W hC (by rw [hlm]; exact hc) hq hc2 hf
  rw [hlm] at hcall
  refine hcall.mono ?_
  rintro e W' ⟨v, rfl, hS, hb⟩
  obtain ⟨A', c', rfl⟩ := Kd.R_slice (Kd.S_R hS)
  have h3 := C_ofS (Kd.R_reads' (Kd.S_R hS)).2.2
  rw [List.length_map]
  exact ⟨A', c', rfl, h3, hb⟩
theorem refCut_c (ow tr n addr : Int) (A : Option Addr) (c : Nat) (ps : List PartV) (W : World) (hr : Kd.C k53 W A ps.length ps) (hc : ps.length ≤ c) (hl : ps.length ≤ 3518437208883) (hn : ∀ p ∈ ps, p.nodes.length < 17592186044416) :
    Calls Try.prog 23 #[.agg #[.int .i64 ow, .int .i64 tr, .slice A ps.length c], .int .i64 n, .int .i64 addr] W fun e W' => ∃ A' c', e = .returned (.tuple #[.agg #[.int .i64 (cutR ow tr ps n addr).1, .int .i64 (cutR ow tr ps n addr).2.1, .slice A' (cutR ow tr ps n addr).2.2.1.length c'], .int .i64 (cutR ow tr ps n addr).2.2.2]) ∧ Kd.C k53 W' A' (cutR ow tr ps n addr).2.2.1.length (cutR ow tr ps n addr).2.2.1 ∧ Below W.heap.size W W' := by
  have hf : gazetteref10_Cut.f (checkK ps + ps.length + 2) ow tr (ps.map toS) n addr = some ((cutR ow tr ps n addr).1, (cutR ow tr ps n addr).2.1, (cutR ow tr ps n addr).2.2.1.map toS, (cutR ow tr ps n addr).2.2.2) := by
    rw [cut10_ev n ow tr addr ps hl hn _ (Nat.le_refl _)]
    unfold cutR
    split <;> rfl
  have hlm : (ps.map toS).length = ps.length := List.length_map _
  have hcall := gazetteref10_Cut.calls _ ow tr A c (ps.map toS) n addr _ _ _ _ W (C_toS hr) (by rw [hlm]; exact hc) hf
  rw [hlm] at hcall
  refine hcall.mono ?_
  rintro e W' ⟨v, rfl, hS, hb⟩
  obtain ⟨A', c', rfl, -⟩ := Kd.Q_slice hS
  have h3 := C_ofS (Kd.Q_reads' hS).2.2
  rw [List.length_map]
  exact ⟨A', c', rfl, h3, hb⟩
/-- How great what they hand back may be. -/
theorem extR_in {ow tr n owner en id : Int} {ps : List PartV} {nl : List Int} {M L : Nat} (hl : ps.length + 1 ≤ L) (hn : ∀ p ∈ ps, p.nodes.length ≤ M) (hnl : nl.length ≤ M) : (extR ow tr ps n owner en ⟨en, id, nl⟩).2.2.1.length ≤ L ∧ ∀ p ∈ (extR ow tr ps n owner en ⟨en, id, nl⟩).2.2.1, p.nodes.length ≤ M := by
  unfold extR
  split
  · constructor
    · show (extParts tr ps en ⟨en, id, nl⟩).length ≤ L
      unfold extParts
      rw [List.length_append, List.length_singleton]
      split
      · rw [List.length_take]; omega
      · omega
    · intro p hp
      replace hp : p ∈ extParts tr ps en ⟨en, id, nl⟩ := hp
      unfold extParts at hp
      rcases List.mem_append.1 hp with h | h
      · split at h
        · exact hn p (List.mem_of_mem_take h)
        · exact hn p h
      · rw [List.mem_singleton] at h; rw [h]; exact hnl
  · exact ⟨Nat.zero_le _, fun p hp => by cases hp⟩
theorem cutR_in {ow tr n addr : Int} {ps : List PartV} {M L : Nat} (hl : ps.length ≤ L) (hn : ∀ p ∈ ps, p.nodes.length ≤ M) : (cutR ow tr ps n addr).2.2.1.length ≤ L ∧ ∀ p ∈ (cutR ow tr ps n addr).2.2.1, p.nodes.length ≤ M := by
  unfold cutR
  split
  · constructor
    · show (cutParts ps addr).length ≤ L
      unfold cutParts
      rw [List.length_drop]; omega
    · exact fun p hp => hn p (List.mem_of_mem_drop hp)
  · exact ⟨Nat.zero_le _, fun p hp => by cases hp⟩
end Go.Proofs.Ytpcoelimabojcaa.Hand
