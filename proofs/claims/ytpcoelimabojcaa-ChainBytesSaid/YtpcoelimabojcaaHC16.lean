/- where. -/
import Derived.Test.YtpcoelimabojcaaHC14
namespace Go.Proofs.Ytpcoelimabojcaa.Hand
open Go.RowKit Go.Proofs.Ytpcoelimabojcaa Go.Proofs.YtpcoelimabojcaaW.PrintWords Go.Proofs.YtpcoelimabojcaaW.PrintLast
set_option linter.unusedVariables false
set_option linter.unusedSimpArgs false
/-- Of an address: the loglet, and the place in it. -/
def whereF (tr : Int) (ps : List PartV) (addr : Int) : Int × Int × Bool :=
  if (findF tr ps addr).2.2 = true then ((ps.getD (findF tr ps addr).1.toNat part0).id, (findF tr ps addr).2.1, true) else (0, 0, false)
theorem findDown_range (ps : List PartV) (addr : Int) : ∀ n, (findDown ps addr n).2.2 = true → ∃ k : Nat, (findDown ps addr n).1 = k ∧ k < n
  | 0, h => by simp [findDown] at h
  | n + 1, h => by
    rw [findDown] at h ⊢
    split at h
    · rename_i h1
      rw [if_pos h1]
      split at h
      · simp at h
      · rename_i h2
        rw [if_neg h2]
        exact ⟨n, rfl, Nat.lt_succ_self n⟩
    · rename_i h1
      rw [if_neg h1]
      obtain ⟨k, h2, h3⟩ := findDown_range ps addr n h
      exact ⟨k, h2, by omega⟩
theorem findF_range {tr : Int} {ps : List PartV} {addr : Int} (h : (findF tr ps addr).2.2 = true) : ∃ k : Nat, (findF tr ps addr).1 = k ∧ k < ps.length := by
  unfold findF at h ⊢
  split at h
  · simp at h
  · rename_i h1
    rw [if_neg h1]
    exact findDown_range ps addr _ h
set_option maxHeartbeats 1600000 in
set_option maxRecDepth 100000 in
theorem where_c (ow tr addr : Int) (A : Option Addr) (c : Nat) (ps : List PartV) (W : World) (hr : Kd.C k53 W A ps.length ps) :
    Calls Try.prog 18 #[.agg #[.int .i64 ow, .int .i64 tr, .slice A ps.length c], .int .i64 addr] W fun e W' => e = .returned (.tuple #[.int .i64 (whereF tr ps addr).1, .int .i64 (whereF tr ps addr).2.1, .bool (whereF tr ps addr).2.2]) ∧ Below W.heap.size W W' := by
  have hmax := Kd.C_max hr
  have HR := Aside0.mk hr
  have HC0 := Aside0.mk (Kd.C_alloc hr (.cells #[.int .i64 ow, .int .i64 tr, .slice A ps.length c] 27 (0, 0)))
  have HB0 := Aside0.mk (below_alloc (Below.refl W.heap.size W) (.cells #[.int .i64 ow, .int .i64 tr, .slice A ps.length c] 27 (0, 0)))
  have BX0 := Aside0.mk (heap_alloc_new W (.cells #[.int .i64 ow, .int .i64 tr, .slice A ps.length c] 27 (0, 0)))
  clear hr
  go_enter Try.func18, Try.ntmps18
  go_wp2_with fail
  refine (find_c ow tr addr A c ps _ HC0.out).mono ?_
  rintro e W1 ⟨rfl, hb⟩
  have HB1 := Aside0.mk (below_step HB0.out hb)
  have BX1 := Aside0.mk (blk_below BX0.out hb)
  have x0 : W1.cell? ⟨W.heap.size, 0, none⟩ = some (.int .i64 ow) := (blk_cell BX1.out 0).trans rfl
  have x1 : W1.cell? ⟨W.heap.size, 1, none⟩ = some (.int .i64 tr) := (blk_cell BX1.out 1).trans rfl
  have x2 : W1.cell? ⟨W.heap.size, 2, none⟩ = some (.slice A ps.length c) := (blk_cell BX1.out 2).trans rfl
  clear hb BX0 HB0 HC0
  obtain ⟨wf, hwf⟩ : ∃ wf, whereF tr ps addr = wf := ⟨_, rfl⟩
  have HW := Aside0.mk hwf
  clear hwf
  by_cases hok : (findF tr ps addr).2.2 = true
  · obtain ⟨k, hk, hlt⟩ := findF_range hok
    have hw := HW.out
    rw [whereF, if_pos hok, hk, Int.toNat_natCast, List.getD_eq_getElem?_getD, List.getElem?_eq_getElem hlt, Option.getD_some] at hw
    rw [hok, hk]
    obtain ⟨pos, hpos⟩ : ∃ pos, (findF tr ps addr).2.1 = pos := ⟨_, rfl⟩
    rw [hpos] at hw ⊢
    obtain ⟨ad, A1, c1, rfl, _, _, hcc⟩ := part_cells HR.out k hlt
    obtain ⟨-, y1, -⟩ := hcc W1 HB1.out
    generalize ps[k].id = id at hw y1
    have HZ := Aside0.mk hw
    have hd : decide ((ps.length : Int) ≤ (k : Int)) = false := decide_eq_false (by omega)
    have hd0 : (k : Int) < (ps.length : Int) := by omega
    clear hcc hok hk hpos hw
    go_wp2_with fail
    exact bodyPost_ret (v := .tuple #[.int .i64 id, .int .i64 pos, .bool true]) (by simp [results, Try.results18, go_sem]) rfl ⟨by rw [HW.out, ← HZ.out], HB1.out⟩
  · have hw := HW.out
    rw [whereF, if_neg hok] at hw
    have hok' : (findF tr ps addr).2.2 = false := by simpa using hok
    rw [hok']
    obtain ⟨f1, hf1⟩ : ∃ f, (findF tr ps addr).1 = f := ⟨_, rfl⟩
    obtain ⟨f2, hf2⟩ : ∃ f, (findF tr ps addr).2.1 = f := ⟨_, rfl⟩
    rw [hf1, hf2]
    have HZ := Aside0.mk hw
    clear hf1 hf2 hok hok' hw
    go_wp2_with fail
    exact bodyPost_ret (v := .tuple #[.int .i64 0, .int .i64 0, .bool false]) (by simp [results, Try.results18, go_sem]) rfl ⟨by rw [HW.out, ← HZ.out], HB1.out⟩
end Go.Proofs.Ytpcoelimabojcaa.Hand
