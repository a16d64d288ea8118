-- Written by a program of this session (hprint.py, over the kit's print.py). Not trusted: Lean checks it.
import Derived.Test.YtpcoelimabojcaaR0x0
import Derived.Test.YtpcoelimabojcaaR0x2
import Derived.Test.YtpcoelimabojcaaR0x3
namespace Go.Proofs.Ytpcoelimabojcaa.R0
open Go.RowKit Go.Proofs.YtpcoelimabojcaaW.PrintWords Go.Proofs.YtpcoelimabojcaaW.PrintLast Go.Proofs.YtpcoelimabojcaaW.PrintMore
attribute [local go_sem] max2_int min2_int max_two min_two max_three min_three max_four min_four   -- for this text's walks alone
set_option linter.unusedVariables false
set_option linter.unusedSimpArgs false

/-! ### gazetteref10_Extend: function 21 -/
mutual
def gazetteref10_Extend.j0 : Nat → Int → Int → Int → Int → Bool → Int → Int → List (S68) → Int → List Int → Option (Int × Int × (List (S68)) × Int)
  | 0, _, _, _, _, _, _, _, _, _, _ => none
  | k + 1, x1, x2, x3, x12, x34, x134000, x134001, x134002, x135000, x135001 => if x34 = true then (some (0, 0, ([] : List (S68)), 7)) else (if x12 = 0 then (if x3 = 0 then (if x12 > 0 then (if 0 ≤ (wrap64 (x12 - 1)) then (if (wrap64 (x12 - 1)) < (x134002.length : Int) then (if x3 < ((rd_T68 x134002 (wrap64 (x12 - 1))).f0) then (gazetteref10_Extend.j1 k x1 x2 x3 x12 true x134000 x134001 x134002 x135000 x135001) else (if x3 > (wrap64 (((rd_T68 x134002 (wrap64 (x12 - 1))).f0) + 4096)) then (gazetteref10_Extend.j1 k x1 x2 x3 x12 true x134000 x134001 x134002 x135000 x135001) else (gazetteref10_Extend.j1 k x1 x2 x3 x12 (decide (x3 < x134001)) x134000 x134001 x134002 x135000 x135001))) else (none)) else (none)) else (gazetteref10_Extend.j1 k x1 x2 x3 x12 false x134000 x134001 x134002 x135000 x135001)) else (gazetteref10_Extend.j1 k x1 x2 x3 x12 true x134000 x134001 x134002 x135000 x135001)) else (if x12 > 0 then (if 0 ≤ (wrap64 (x12 - 1)) then (if (wrap64 (x12 - 1)) < (x134002.length : Int) then (if x3 < ((rd_T68 x134002 (wrap64 (x12 - 1))).f0) then (gazetteref10_Extend.j1 k x1 x2 x3 x12 true x134000 x134001 x134002 x135000 x135001) else (if x3 > (wrap64 (((rd_T68 x134002 (wrap64 (x12 - 1))).f0) + 4096)) then (gazetteref10_Extend.j1 k x1 x2 x3 x12 true x134000 x134001 x134002 x135000 x135001) else (gazetteref10_Extend.j1 k x1 x2 x3 x12 (decide (x3 < x134001)) x134000 x134001 x134002 x135000 x135001))) else (none)) else (none)) else (gazetteref10_Extend.j1 k x1 x2 x3 x12 false x134000 x134001 x134002 x135000 x135001)))
def gazetteref10_Extend.j1 : Nat → Int → Int → Int → Int → Bool → Int → Int → List (S68) → Int → List Int → Option (Int × Int × (List (S68)) × Int)
  | 0, _, _, _, _, _, _, _, _, _, _ => none
  | k + 1, x1, x2, x3, x12, x74, x134000, x134001, x134002, x135000, x135001 => if x74 = true then (some (0, 0, ([] : List (S68)), 1)) else ((gazetteref10_own.f k x134000 x134001 x134002).bind fun bt142 => (if x12 > 0 then (if 0 ≤ (wrap64 (x12 - 1)) then (if (wrap64 (x12 - 1)) < (x134002.length : Int) then (if ((rd_T68 x134002 (wrap64 (x12 - 1))).f0) = x3 then (gazetteref10_Extend.j2 k x1 x3 x12 true x135000 x135001 x2 bt142.2.1 bt142.2.2) else (if x12 = 1 then (gazetteref10_Extend.j2 k x1 x3 x12 (x134001 == x3) x135000 x135001 x2 bt142.2.1 bt142.2.2) else (gazetteref10_Extend.j2 k x1 x3 x12 false x135000 x135001 x2 bt142.2.1 bt142.2.2))) else (none)) else (none)) else (if x12 = 1 then (gazetteref10_Extend.j2 k x1 x3 x12 (x134001 == x3) x135000 x135001 x2 bt142.2.1 bt142.2.2) else (gazetteref10_Extend.j2 k x1 x3 x12 false x135000 x135001 x2 bt142.2.1 bt142.2.2))))
def gazetteref10_Extend.j2 : Nat → Int → Int → Int → Bool → Int → List Int → Int → Int → List (S68) → Option (Int × Int × (List (S68)) × Int)
  | 0, _, _, _, _, _, _, _, _, _ => none
  | k + 1, x1, x3, x12, x102, x135000, x135001, x148000, x148001, x148002 => if x102 = true then (if 0 ≤ (wrap64 (x12 - 1)) then (if (wrap64 (x12 - 1)) ≤ (x148002.length : Int) then ((some (x148002.take ((wrap64 (x12 - 1)) : Int).toNat : List (S68))).bind fun y149 => ((some (([] : List Int) : List Int)).bind fun y152 => (if y152.length + x135001.length < 17592186044416 then (if y149.length < 3518437208883 then ((some (y149 ++ [(⟨x3, (⟨x135000, (y152 ++ x135001)⟩ : S45)⟩ : S68)] : List (S68))).bind fun y158 => ((gazetteref10_Check.f k x148000 x148001 y158 x1).bind fun t161 => (if t161 = 0 then (some (x148000, x148001, y158, 0)) else (some (0, 0, ([] : List (S68)), 1))))) else (none)) else (none)))) else (none)) else (none)) else ((some (([] : List Int) : List Int)).bind fun y162 => (if y162.length + x135001.length < 17592186044416 then (if x148002.length < 3518437208883 then ((some (x148002 ++ [(⟨x3, (⟨x135000, (y162 ++ x135001)⟩ : S45)⟩ : S68)] : List (S68))).bind fun y168 => ((gazetteref10_Check.f k x148000 x148001 y168 x1).bind fun t171 => (if t171 = 0 then (some (x148000, x148001, y168, 0)) else (some (0, 0, ([] : List (S68)), 1))))) else (none)) else (none)))
end
def gazetteref10_Extend.f (k : Nat) (a0_0 : Int) (a0_1 : Int) (l0_2 : List (S68)) (a1 : Int) (a2 : Int) (a3 : Int) (a4_0 : Int) (l4_1 : List Int) : Option (Int × Int × (List (S68)) × Int) := (gazetteref10_Check.f k a0_0 a0_1 l0_2 a1).bind fun t136 => (if t136 = 0 then (if (l0_2.length : Int) = 64 then (if 0 ≤ (wrap64 ((l0_2.length : Int) - 1)) then (if (wrap64 ((l0_2.length : Int) - 1)) < (l0_2.length : Int) then (gazetteref10_Extend.j0 k a1 a2 a3 (l0_2.length : Int) (a3 != ((rd_T68 l0_2 (wrap64 ((l0_2.length : Int) - 1))).f0)) a0_0 a0_1 l0_2 a4_0 l4_1) else (none)) else (none)) else (gazetteref10_Extend.j0 k a1 a2 a3 (l0_2.length : Int) false a0_0 a0_1 l0_2 a4_0 l4_1)) else (some (0, 0, ([] : List (S68)), 1)))
theorem gazetteref10_Extend.mono_l : ∀ k, (∀ y0 y1 y2 y3 y4 y5 y6 y7 y8 y9, LeO (gazetteref10_Extend.j0 k y0 y1 y2 y3 y4 y5 y6 y7 y8 y9) (gazetteref10_Extend.j0 (k + 1) y0 y1 y2 y3 y4 y5 y6 y7 y8 y9)) ∧ (∀ y0 y1 y2 y3 y4 y5 y6 y7 y8 y9, LeO (gazetteref10_Extend.j1 k y0 y1 y2 y3 y4 y5 y6 y7 y8 y9) (gazetteref10_Extend.j1 (k + 1) y0 y1 y2 y3 y4 y5 y6 y7 y8 y9)) ∧ (∀ y0 y1 y2 y3 y4 y5 y6 y7 y8, LeO (gazetteref10_Extend.j2 k y0 y1 y2 y3 y4 y5 y6 y7 y8) (gazetteref10_Extend.j2 (k + 1) y0 y1 y2 y3 y4 y5 y6 y7 y8))
  | 0 => ⟨fun _ _ _ _ _ _ _ _ _ _ r h => by simp [gazetteref10_Extend.j0] at h, fun _ _ _ _ _ _ _ _ _ _ r h => by simp [gazetteref10_Extend.j1] at h, fun _ _ _ _ _ _ _ _ _ r h => by simp [gazetteref10_Extend.j2] at h⟩
  | k + 1 => by
    obtain ⟨ih0, ih1, ih2⟩ := gazetteref10_Extend.mono_l k
    refine ⟨?_, ?_, ?_⟩
    · intro y0 y1 y2 y3 y4 y5 y6 y7 y8 y9
      unfold gazetteref10_Extend.j0
      repeat' first
      | (with_reducible exact ih0 _ _ _ _ _ _ _ _ _ _)
      | (with_reducible exact ih1 _ _ _ _ _ _ _ _ _ _)
      | (with_reducible exact ih2 _ _ _ _ _ _ _ _ _)
      | (with_reducible exact gazetteref10_Check.mono _ _ _ _ _)
      | (with_reducible exact gazetteref10_own.mono _ _ _ _)
      | (with_reducible exact LeO.refl _)
      | (with_reducible exact LeO.none _)
      | (with_reducible refine LeO.ite ?_ ?_)
      | (with_reducible refine LeO.bind ?_ (fun _ => ?_))
      | exact ih0 _ _ _ _ _ _ _ _ _ _
      | exact ih1 _ _ _ _ _ _ _ _ _ _
      | exact ih2 _ _ _ _ _ _ _ _ _
      | exact gazetteref10_Check.mono _ _ _ _ _
      | exact gazetteref10_own.mono _ _ _ _
      | exact LeO.none _
      | refine LeO.ite ?_ ?_
      | refine LeO.bind ?_ (fun _ => ?_)
    · intro y0 y1 y2 y3 y4 y5 y6 y7 y8 y9
      unfold gazetteref10_Extend.j1
      repeat' first
      | (with_reducible exact ih0 _ _ _ _ _ _ _ _ _ _)
      | (with_reducible exact ih1 _ _ _ _ _ _ _ _ _ _)
      | (with_reducible exact ih2 _ _ _ _ _ _ _ _ _)
      | (with_reducible exact gazetteref10_Check.mono _ _ _ _ _)
      | (with_reducible exact gazetteref10_own.mono _ _ _ _)
      | (with_reducible exact LeO.refl _)
      | (with_reducible exact LeO.none _)
      | (with_reducible refine LeO.ite ?_ ?_)
      | (with_reducible refine LeO.bind ?_ (fun _ => ?_))
      | exact ih0 _ _ _ _ _ _ _ _ _ _
      | exact ih1 _ _ _ _ _ _ _ _ _ _
      | exact ih2 _ _ _ _ _ _ _ _ _
      | exact gazetteref10_Check.mono _ _ _ _ _
      | exact gazetteref10_own.mono _ _ _ _
      | exact LeO.none _
      | refine LeO.ite ?_ ?_
      | refine LeO.bind ?_ (fun _ => ?_)
    · intro y0 y1 y2 y3 y4 y5 y6 y7 y8
      unfold gazetteref10_Extend.j2
      repeat' first
      | (with_reducible exact ih0 _ _ _ _ _ _ _ _ _ _)
      | (with_reducible exact ih1 _ _ _ _ _ _ _ _ _ _)
      | (with_reducible exact ih2 _ _ _ _ _ _ _ _ _)
      | (with_reducible exact gazetteref10_Check.mono _ _ _ _ _)
      | (with_reducible exact gazetteref10_own.mono _ _ _ _)
      | (with_reducible exact LeO.refl _)
      | (with_reducible exact LeO.none _)
      | (with_reducible refine LeO.ite ?_ ?_)
      | (with_reducible refine LeO.bind ?_ (fun _ => ?_))
      | exact ih0 _ _ _ _ _ _ _ _ _ _
      | exact ih1 _ _ _ _ _ _ _ _ _ _
      | exact ih2 _ _ _ _ _ _ _ _ _
      | exact gazetteref10_Check.mono _ _ _ _ _
      | exact gazetteref10_own.mono _ _ _ _
      | exact LeO.none _
      | refine LeO.ite ?_ ?_
      | refine LeO.bind ?_ (fun _ => ?_)
theorem gazetteref10_Extend.mono : ∀ a0 a1 a2 a3 a4 a5 a6 a7 k, LeO (gazetteref10_Extend.f k a0 a1 a2 a3 a4 a5 a6 a7) (gazetteref10_Extend.f (k + 1) a0 a1 a2 a3 a4 a5 a6 a7) := by
  intro a0 a1 a2 a3 a4 a5 a6 a7 k
  obtain ⟨ih0, ih1, ih2⟩ := gazetteref10_Extend.mono_l k
  unfold gazetteref10_Extend.f
  repeat' first
      | (with_reducible exact ih0 _ _ _ _ _ _ _ _ _ _)
      | (with_reducible exact ih1 _ _ _ _ _ _ _ _ _ _)
      | (with_reducible exact ih2 _ _ _ _ _ _ _ _ _)
      | (with_reducible exact gazetteref10_Check.mono _ _ _ _ _)
      | (with_reducible exact gazetteref10_own.mono _ _ _ _)
      | (with_reducible exact LeO.refl _)
      | (with_reducible exact LeO.none _)
      | (with_reducible refine LeO.ite ?_ ?_)
      | (with_reducible refine LeO.bind ?_ (fun _ => ?_))
      | exact ih0 _ _ _ _ _ _ _ _ _ _
      | exact ih1 _ _ _ _ _ _ _ _ _ _
      | exact ih2 _ _ _ _ _ _ _ _ _
      | exact gazetteref10_Check.mono _ _ _ _ _
      | exact gazetteref10_own.mono _ _ _ _
      | exact LeO.none _
      | refine LeO.ite ?_ ?_
      | refine LeO.bind ?_ (fun _ => ?_)
def gazetteref10_Extend.T12 : Bool × List (List Nat × List Nat) := (true, [([], []), ([0], [0]), ([], []), ([], []), ([3], [3]), ([], []), ([], []), ([6], [6]), ([5, 7], [5, 7]), ([4, 8], [4, 8]), ([2, 9], [2, 9]), ([10], [10]), ([1, 11, 8], [1, 11]), ([0, 1, 2, 3, 4, 5, 6, 7, 8, 9, 10, 11, 12], []), ([13, 12, 12, 0, 1, 2, 3, 4, 5, 6, 7, 8, 9, 10, 11, 12], [12, 13])])
def gazetteref10_Extend.B12 : List Nat := [0, 1, 0, 0, 8, 0, 0, 64, 224, 504, 1020, 2044, 4095, 8191, 16383]
theorem gazetteref10_Extend.tab12 : rtab .any (opsOf Try.f21 12) = gazetteref10_Extend.T12 := by kernel_rfl
theorem gazetteref10_Extend.bits12 : waitsOk gazetteref10_Extend.T12.2 gazetteref10_Extend.B12 = true := by kernel_rfl
end Go.Proofs.Ytpcoelimabojcaa.R0
