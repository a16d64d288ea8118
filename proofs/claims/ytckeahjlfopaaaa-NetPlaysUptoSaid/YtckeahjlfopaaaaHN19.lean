/- step: a call on both nets answers true. -/
import Derived.Test.YtckeahjlfopaaaaHN20
namespace Go.Proofs.Ytckeahjlfopaaaa.Hand
open Go.RowKit Go.Proofs.Ytckeahjlfopaaaa Go.Proofs.YtckeahjlfopaaaaW.PrintWords Go.Proofs.YtckeahjlfopaaaaW.PrintLast
set_option linter.unusedVariables false
set_option linter.unusedSimpArgs false
def StepP (F0 : Nat → Prop) (W0 : World) (g r a c : Nat) (e : Ending) (W' : World) : Prop :=
  e = .returned (.bool true) ∧ ∃ F lu la, PI W' F g r lu la ∧ (∀ k, F k → F0 k ∨ W0.heap.size ≤ k) ∧ Fr F0 W0 W' ∧ lu.length ≤ a ∧ la.length ≤ c ∧ ∀ m ∈ la, m.2.length ≤ 140737488351232
theorem StepP.mk {F0 F1 F2 : Nat → Prop} {W0 W : World} {g r q a c : Nat} {lu : List Int} {la : List (Int × List Int)} {ob : Obj} (h : PX F0 W0 F1 F2 W g r lu la lu la q ob) (h0 : ∀ k, F0 k → k < W0.heap.size) (h1 : lu.length ≤ a) (h2 : la.length ≤ c) (h3 : ∀ m ∈ la, m.2.length ≤ 140737488351232) {e : Ending} (he : e = .returned (.bool true)) : StepP F0 W0 g r a c e W := by
  obtain ⟨F, h4, h5, h6⟩ := h.stop h0
  exact ⟨he, F, lu, la, h4, h5, h6, h1, h2, h3⟩
theorem PX.other {F0 F1 F2 G : Nat → Prop} {W0 W W' : World} {g r q : Nat} {lu lu2 : List Int} {la la2 : List (Int × List Int)} {ob : Obj} (h : PX F0 W0 F1 F2 W g r lu la lu2 la2 q ob) (hf : Fr G W W') (d1 : ∀ k, F1 k → ¬ G k) (d2 : ∀ k, F2 k → ¬ G k) (hG : ∀ k, G k → W0.heap.size ≤ k ∧ k ≠ q) : PX F0 W0 F1 F2 W' g r lu la lu2 la2 q ob :=
  ⟨h.n.frame hf d1, h.d.frame hf d2, h.h1, h.h2, hf.blk h.box (fun he => (hG q he).2 rfl), h.qs, h.fr.trans hf (fun k hk => .inr (hG k hk).1)⟩
theorem conv_nil (W : World) : (convert 22 9 (.slice none 0 0)).run Try.prog W = .ok (.string (strOfNums [])) W := conv_c (A := none) (x := []) 0 (Kd.R_reads' (Kd.R_nil (Kd.int .u8) 5 W 0 (fun _ => True))).2.2
theorem int_ne (x : Int) : (x != x) = false := by simp
theorem getD_in {la : List (Int × List Int)} {k : Nat} (h : k < la.length) : la.getD k (0, []) ∈ la := by
  rw [List.getD_eq_getElem?_getD, List.getElem?_eq_getElem h]; exact List.getElem_mem h
def TP31 : Bool × List (List Nat × List Nat) := (true, [([], []), ([0], [0]), ([], []), ([2], [2]), ([3], [3]), ([4], [4]), ([5], [5]), ([1, 6], [1, 6]), ([7, 1], [7]), ([8], [8]), ([9, 8, 8], [8, 9]), ([8], [8]), ([11, 8], [8, 11]), ([12, 8], [8, 12]), ([13, 8], [8, 13]), ([14, 8], [8, 14]), ([10, 15, 8], [8, 10, 15]), ([8, 16], [8, 16]), ([17, 10, 0, 1, 2, 3, 4, 5, 6, 7, 8, 9, 10, 11, 12, 13, 14, 15, 16, 17], [17])])
def BP31 : List Nat := [0, 1, 0, 4, 12, 28, 60, 127, 255, 511, 1023, 511, 2559, 6655, 14847, 31231, 65535, 131071, 262143]
theorem tabP31 : rtab .any (opsOf Try.f17 31) = TP31 := by kernel_rfl
theorem bitsP31 : waitsOk TP31.2 BP31 = true := by kernel_rfl
def TP2 : Bool × List (List Nat × List Nat) := (true, [([], []), ([], []), ([1], [1]), ([0, 2], [0, 2]), ([], []), ([], []), ([5], [5]), ([4, 6, 3], [4, 6]), ([3, 7], [3, 7])])
def BP2 : List Nat := [0, 0, 2, 7, 0, 0, 32, 127, 255]
theorem tabP2 : rtab .any (opsOf Try.f17 2) = TP2 := by kernel_rfl
theorem bitsP2 : waitsOk TP2.2 BP2 = true := by kernel_rfl
end Go.Proofs.Ytckeahjlfopaaaa.Hand
