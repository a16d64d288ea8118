-- The row of NetPlays, where what it reads is of a bulk at most 1048576. Written by hand (after mkrow.py's).
import Derived.Test.YtckeahjlfopaaaaRows
import Derived.Test.YtckeahjlfopaaaaHN28
import Derived.WalkKit
import Derived.ProofKit
import Derived.OpenShut
import Derived.ShutString
import Derived.ChangeOld
import Derived.Below
import Derived.SizedLaws
import Derived.JoinedCond
import Derived.Deep.CondSized
import Derived.Test.YtckeahjlfopaaaaWSized
import Derived.Test.YtckeahjlfopaaaaWWords
namespace Go.Proofs.Ytckeahjlfopaaaa.netPlaysUpto
open Go.ChangeShapes Go.WideShapes Go.ChangeAt Go.RowKit
open Go.Proofs.YtckeahjlfopaaaaW.PrintWords (Kd ReadsInt)
set_option linter.unusedVariables false
theorem own : ownKnob Try.prog.godebug = none := by kernel_rfl
theorem laidOut : laidOutB Try.prog = true := by kernel_rfl
set_option maxRecDepth 100000 in
theorem lifted (os : Os) (started : os.Started) (H : Type) (enc : TypeId × Value → H) (F : Stop.Interp) :
    ReturnsInHanded {} Try.checked os 5 .any ((Rows.OpenSpec.upto Rows.netPlaysSpec).pre6 enc Try.prog Try.f5 Rows.netPlaysUptoRow.domain false) (((Rows.OpenSpec.upto Rows.netPlaysSpec).at F).post enc Try.prog Try.f5 false true false false) := by
  refine returnsInHanded_of_cond_sized (C := Try.checked) (s := (Rows.OpenSpec.upto Rows.netPlaysSpec)) (k := Rows.uptoSmall) rfl own started (by kernel_rfl) Try.func5
    (OpenSpec.witness (enc := enc) (C := Try.checked) (s := (Rows.OpenSpec.upto Rows.netPlaysSpec)) (k := Rows.uptoSmall) rfl false ⟨#[], #[.slice none 0 0, .slice none 0 0], []⟩ 8 (by kernel_rfl) (by kernel_rfl) (by kernel_rfl) (x := ([.nil, .nil], [], [])) (by kernel_rfl) rfl (by kernel_rfl)) ?_
  intro W base args ds gs before hval0 hW hcnd hk0 hsz0 _
  have hk : Rows.uptoSmall H (ds ++ gs) = true := hk0
  have hW' := hW
  obtain ⟨p, q, hA0, hV, rfl, hfz, hnd⟩ := hW
  have hA : DataW.TrodAll enc Try.prog W 0 (fun _ => true) true Try.f5.params.toList args.toList ds p := hA0
  have hval : ∀ (j : Nat) t v, Try.f5.params[j]? = some t → args[j]? = some v → Value.okWide Try.prog W .any base t v := hval0
  rw [Try.params5] at hA hval
  obtain ⟨v0, vs0, d0, ds0, p0, q0, hargs, rfl, rfl, h0, r0⟩ := trodAll_cons hA
  obtain ⟨v1, vs1, d1, ds1, p1, q1, hargs1, rfl, rfl, h1, r1⟩ := trodAll_cons r0
  obtain ⟨rfl, rfl, rfl⟩ := trodAll_nil r1
  subst hargs1
  obtain rfl : args = #[v0, v1] := by cases args; simp_all
  obtain ⟨rfl, rfl⟩ := trodVars_none hV
  have k2 := h0
  have k3 := h1
  have lt2 : ∀ x ∈ p0, x.block < W.heap.size := by obtain ⟨m, hm⟩ := k2; exact DataW.trod_lt m _ _ _ hm
  have lt3 : ∀ x ∈ p1, x.block < W.heap.size := by obtain ⟨m, hm⟩ := k3; exact DataW.trod_lt m _ _ _ hm
  obtain ⟨a1, len1, cap1, rfl⟩ := okWide_slice (show Try.prog.underlying 32 = some (.slice 35) by kernel_rfl) (hval 0 32 v0 rfl rfl)
  obtain ⟨a2, len2, cap2, rfl⟩ := okWide_slice (show Try.prog.underlying 32 = some (.slice 35) by kernel_rfl) (hval 1 32 v1 rfl rfl)
  have hall : Rows.uptoBulkAll ([d0, d1] ++ ([] : List (DataW H))) ≤ 1048576 := of_decide_eq_true hk
  have hbulk : Rows.uptoBulk d0 ≤ 1048576 := by
    have h2 := Hand.bulk_le (ds := [d0, d1] ++ ([] : List (DataW H))) (d := d0) (by simp)
    omega
  have hbulk2 : Rows.uptoBulk d1 ≤ 1048576 := by
    have h2 := Hand.bulk_le (ds := [d0, d1] ++ ([] : List (DataW H))) (d := d1) (by simp)
    omega
  obtain ⟨fuel, hf⟩ := h0
  obtain ⟨A, c, ops, hcs, hC, hs, hb⟩ := Hand.ops_open hf
  dsimp only at hs hb
  have hcs2 : [Value.slice a1 len1 cap1] = [.slice A ops.length c] := hcs
  simp only [List.cons.injEq, and_true, Value.slice.injEq] at hcs2
  obtain ⟨rfl, rfl, rfl⟩ := hcs2
  obtain ⟨fuel', hf'⟩ := h1
  obtain ⟨A', c', ops', hcs', hC', hs', hb'⟩ := Hand.ops_open hf'
  dsimp only at hs' hb'
  have hcs2' : [Value.slice a2 len2 cap2] = [.slice A' ops'.length c'] := hcs'
  simp only [List.cons.injEq, and_true, Value.slice.injEq] at hcs2'
  obtain ⟨rfl, rfl, rfl⟩ := hcs2'
  clear hA0 hval0 hsz0 hk0 hk
  refine (Hand.lawPlays a1 cap1 ops a2 cap2 ops' W hC hC' (by omega) (by omega) (fun o ho => by have := hb o ho; omega) (by omega) (by omega) (fun o ho => by have := hb' o ho; omega)).mono fun e W' ⟨he, bel⟩ => ?_
  subst he
  exact ⟨_, rfl, _, _, _, [], _, [], hW', trodAll_mk1 (shut_bool Try.underlying4 _), (trodAll_cons_mk (Below.trod laidOut (by kernel_rfl) (of_decide_eq_true (by kernel_rfl)) k2 bel lt2) (trodAll_cons_mk (Below.trod laidOut (by kernel_rfl) (of_decide_eq_true (by kernel_rfl)) k3 bel lt3) trodAll_mk0)), rfl, bel.frame _, fun h => by cases h⟩
theorem over : Rows.netPlaysUptoRow.holds Try.pinned (Rows.OpenSpec.upto Rows.netPlaysSpec) :=
  OpenClaim.holds_of_cond 5 Try.f5 rfl rfl rfl rfl rfl rfl rfl ⟨rfl, rfl, rfl, rfl, rfl⟩ rfl rfl rfl rfl rfl (by kernel_rfl) Try.func5 (by kernel_rfl)
    (of_decide_eq_true (by kernel_rfl)) (by unfold Func.isWrapper; first | (rw [if_pos (by decide +kernel)]; kernel_rfl) | (rw [if_neg (by decide +kernel)]; exact ⟨rfl, rfl⟩))
    (fun os started H enc _ F => lifted os started H enc F)
theorem proved : Rows.NetPlaysUptoSaid := over
#print axioms proved
end Go.Proofs.Ytckeahjlfopaaaa.netPlaysUpto
namespace Go.Proofs.Ytckeahjlfopaaaa
/-- The row, under a short name, for the claim. -/
theorem netPlaysUpto_holds : Rows.NetPlaysUptoSaid := netPlaysUpto.proved
end Go.Proofs.Ytckeahjlfopaaaa
