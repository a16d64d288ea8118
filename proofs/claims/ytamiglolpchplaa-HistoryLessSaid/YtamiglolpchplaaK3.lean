/- slices.Delete of one element: in place. -/
import Derived.Test.YtamiglolpchplaaK2
import Derived.Test.YtamiglolpchplaaWEqStruct
import Derived.Test.YtamiglolpchplaaWGuard
import Derived.Maps.AppendAt
import Derived.Laws.MakeOwn
import Derived.Deep.DeepCutAuto
import Derived.Deep.CutBlock
import Derived.Deep.RegionHeld3
import Derived.OrdersHeld
namespace Go.Proofs.Ytamiglolpchplaa.Hand
open Go.RowKit Go.Proofs.Ytamiglolpchplaa Go.Proofs.YtamiglolpchplaaW.PrintWords Go.Proofs.YtamiglolpchplaaW.PrintLast
set_option linter.unusedVariables false
set_option linter.unusedSimpArgs false
theorem infoP : (Try.prog.info? 34).map (fun i => (i.zero, i.size, i.bytes)) = some (some (.agg #[.bool false, .bool false, .int .i64 0, .int .i64 0, .int .i64 0, .string ⟨#[]⟩, .slice none 0 0]), 7, 72) := by kernel_rfl
theorem clear_run {P : Program} {W : World} (t ty e : TypeId) (z : Value) (q : Nat × Nat) (ht : P.underlying t = some (.slice e)) (hinfo : (P.info? e).map (fun i => (i.zero, i.size, i.bytes)) = some (some z, q)) (g o c2 : Nat) (hcell : ∀ j, j < z.cells.size → (W.cell? ⟨g, o + j, none⟩).isSome = true)
    (hfz : ∀ j, j < z.cells.size → W.frozen? ⟨g, o + j, none⟩ = false) (h1 : ∀ v ∈ z.cells.toList, v.oneCell' = true) :
    (Builtin.clear_ #[t] ty #[.slice (some ⟨g, o, none⟩) 1 c2]).run P W = .ok (.tuple #[]) (W.setCells g o z.cells.toList) := by
  obtain ⟨i, hi, hzz⟩ := Option.map_eq_some_iff.1 hinfo
  simp only [Prod.mk.injEq] at hzz
  obtain ⟨hz, _⟩ := hzz
  have hr := run_storeCells_cells (P := P) g o z.cells.toList 0 W (by simpa using hcell) (by simpa using hfz) h1
  have e1 : (Builtin.zeroCells z.cells 1).toList = z.cells.toList := by
    simp only [Builtin.zeroCells, Nat.one_mul]
    apply List.ext_getElem?
    intro j
    by_cases hj : j < z.cells.size
    · simp [hj, Nat.mod_eq_of_lt hj]
    · simp [hj]
  have hr0 : Sem.run P (storeCells ⟨g, o, none⟩ z.cells.toList) W = .ok () (W.setCells g o z.cells.toList) := by simpa using hr
  simp [Builtin.clear_, run_underlying ht, zeroValue, typeInfo, hi, hz, e1, hr0]

def TX32 : Bool × List (List Nat × List Nat) := (true, [([], []), ([], []), ([0, 1], [0, 1]), ([], []), ([], []), ([3, 4], [3, 4]), ([2, 5], [2, 5]), ([6, 6, 0, 1, 2, 3, 4, 5, 6], [0, 3, 6])])
def BX32 : List Nat := [0, 0, 3, 0, 0, 24, 63, 127]
theorem tabX32 : rtab .any (opsOf Try.f32 5) = TX32 := by kernel_rfl
theorem bitsX32 : waitsOk TX32.2 BX32 = true := by kernel_rfl

set_option maxHeartbeats 1600000 in
set_option maxRecDepth 100000 in
theorem del_c (g n c k : Nat) (xs : List (CallP)) (ok : Nat → Prop) (W : World) (HO0 : Kd.R kP 34 W 0 ok (.slice (some ⟨g, 0, none⟩) n c) xs) (hk : k < n) :
    Calls Try.prog 32 #[.slice (some ⟨g, 0, none⟩) n c, .int .i64 k, .int .i64 ((k : Int) + 1)] W fun e' W' => e' = .returned (.slice (some ⟨g, 0, none⟩) (n - 1) c) ∧ Kd.R kP 34 W' 0 ok (.slice (some ⟨g, 0, none⟩) (n - 1) c) (xs.eraseIdx k) ∧ W.grownBy W' (some g) := by
  have HO := Aside0.mk HO0
  obtain ⟨hn, hnc, _⟩ := Kd.R_reads' HO0
  have hmax := Kd.C_max (Kd.R_reads' HO0).2.2
  clear HO0
  obtain ⟨m, rfl⟩ : ∃ m, n = m + 1 := ⟨n - 1, by omega⟩
  have HL := Aside0.mk hn
  have hkc : k ≤ c := by omega
  have hk1 : (0 : Int) ≤ (k : Int) + 1 := by omega
  have hk2 : k ≤ m := by omega
  clear hn
  go_enter Try.func32, Try.ntmps32
  go_wp2_with fail
  have HO_ := Aside0.mk (Kd.R_drew HO.out)
  refine start_ (n := 8) (S := fun _ => True) (ds := []) #[false, false, false, false, false, false, false, false] (by kernel_rfl) rfl rfl trivial (fun hHeld => ?_); refine with_tabW tabX32 bitsX32 (fun HT_ HW_ => ?_)
  generalize hwd : W.drew = Wd at HO_ hHeld ⊢
  refine pure_ (i := 0) (N := (some 20)) (v := ?_) (a' := ?_) #[true, false, false, false, false, false, false, false] rfl rfl (any_of HT_.out (by kernel_rfl)) (fun _ _ _ h => h) (Or.inl ⟨by rfl, ?_⟩) ?_ ?_
  rotate_left
  · intro w'
    go_simp
    with_reducible rfl
  rotate_left
  · simp only [Act.put, List.setIfInBounds_toArray, List.set_cons_zero, List.set_cons_succ, i64_w, i32_w]
    rfl
  refine pure_ (i := 1) (N := (some 21)) (v := ?_) (a' := ?_) #[true, true, false, false, false, false, false, false] rfl rfl (any_of HT_.out (by kernel_rfl)) (fun _ _ _ h => h) (Or.inl ⟨by rfl, ?_⟩) ?_ ?_
  rotate_left
  · intro w'
    go_simp
    with_reducible rfl
  rotate_left
  · simp only [Act.put, List.setIfInBounds_toArray, List.set_cons_zero, List.set_cons_succ, i64_w, i32_w]
    rfl
  refine pure_ (i := 2) (N := (some 22)) (v := ?_) (a' := ?_) #[true, true, true, false, false, false, false, false] rfl rfl (any_of HT_.out (by kernel_rfl)) (fun _ _ _ h => h) (Or.inl ⟨by rfl, ?_⟩) ?_ ?_
  rotate_left
  · intro w'
    go_simp
    with_reducible rfl
  rotate_left
  · simp only [Act.put, List.setIfInBounds_toArray, List.set_cons_zero, List.set_cons_succ, i64_w, i32_w]
    rfl
  refine pure_ (i := 3) (N := (some 23)) (v := ?_) (a' := ?_) #[true, true, true, true, false, false, false, false] rfl rfl (any_of HT_.out (by kernel_rfl)) (fun _ _ _ h => h) (Or.inl ⟨by rfl, ?_⟩) ?_ ?_
  rotate_left
  · intro w'
    go_simp
    with_reducible rfl
  rotate_left
  · simp only [Act.put, List.setIfInBounds_toArray, List.set_cons_zero, List.set_cons_succ, i64_w, i32_w]
    rfl
  refine pure_ (i := 4) (N := (some 24)) (v := ?_) (a' := ?_) #[true, true, true, true, true, false, false, false] rfl rfl (any_of HT_.out (by kernel_rfl)) (fun _ _ _ h => h) (Or.inl ⟨by rfl, ?_⟩) ?_ ?_
  rotate_left
  · intro w'
    go_simp
    with_reducible rfl
  rotate_left
  · simp only [Act.put, List.setIfInBounds_toArray, List.set_cons_zero, List.set_cons_succ, i64_w, i32_w]
    rfl
  refine pure_ (i := 5) (N := (some 25)) (v := ?_) (a' := ?_) #[true, true, true, true, true, true, false, false] rfl rfl (any_of HT_.out (by kernel_rfl)) (fun _ _ _ h => h) (Or.inl ⟨by rfl, ?_⟩) ?_ ?_
  rotate_left
  · intro w'
    go_simp
    with_reducible rfl
  rotate_left
  · simp only [Act.put, List.setIfInBounds_toArray, List.set_cons_zero, List.set_cons_succ, i64_w, i32_w]
    rfl
  refine one_ (i := 6) (N := (some 26)) #[true, true, true, true, true, true, true, false] rfl rfl (one_of HT_.out (by kernel_rfl)) (by decide) (fun K hK => ?_)
  refine Kd.R_delete_step kP (w0 := Wd) 0 (by rfl) (.tmp 22) (.tmp 25) 23 34 rfl Try.underlying23 (by kernel_rfl) (g := g) (n := m + 1) (c := c) (k := k) (xs := xs) (ok := ok) rfl rfl ?hA (by omega) HO_.out hk (Below.refl _ _) (Nat.zero_le _) ?_
  case hA => simp [Addr.add, Kd.int, Kd.scalar, kP]
  intro W1 HO1 _ hg1
  refine hK.out _ _ trivial (fun hHeld => ?_)
  clear hK K
  refine norm_ (a' := ?_) ?_ ?_
  rotate_left
  · show Act.put _ (some 26) _ = _
    simp only [Act.put, List.setIfInBounds_toArray, List.set_cons_zero, List.set_cons_succ, i64_w, i32_w]
    rfl
  refine pure_ (i := 7) (N := (some 0)) (v := ?_) (a' := ?_) #[true, true, true, true, true, true, true, true] rfl rfl (any_of HT_.out (by kernel_rfl)) (fun _ _ _ h => h) (Or.inl ⟨by rfl, ?_⟩) ?_ ?_
  rotate_left
  · intro w'
    go_simp
    with_reducible rfl
  rotate_left
  · simp only [Act.put, List.setIfInBounds_toArray, List.set_cons_zero, List.set_cons_succ, i64_w, i32_w]
    rfl
  refine done_ (done_of HT_.out (by kernel_rfl)) ?_
  have HO2 := Aside0.mk HO1
  clear HO1 HO_ HO hHeld HT_ HW_
  have hcl : ∀ c2, (Builtin.clear_ #[23] 0 #[.slice (some ⟨g, m * 7, none⟩) 1 c2]).run Try.prog W1 = .ok (.tuple #[]) (W1.setCells g (m * 7) [.bool false, .bool false, .int .i64 0, .int .i64 0, .int .i64 0, .string ⟨#[]⟩, .slice none 0 0]) := fun c2 => by
    have hroom := fun j hj => R_room HO2.out (m * 7 + j) (show m * 7 + j < c * 7 by have : j < 7 := hj; omega)
    exact clear_run 23 0 34 (.agg #[.bool false, .bool false, .int .i64 0, .int .i64 0, .int .i64 0, .string ⟨#[]⟩, .slice none 0 0]) _ Try.underlying23 infoP g (m * 7) c2 (fun j hj => (hroom j hj).1) (fun j hj => (hroom j hj).2) (by decide)
  have HB := R_behind HO2.out [.bool false, .bool false, .int .i64 0, .int .i64 0, .int .i64 0, .string ⟨#[]⟩, .slice none 0 0] (m * 7) (by show (m + 1 - 1) * 7 ≤ _; omega) (by show m * 7 + 7 ≤ c * 7; omega)
  have HO3 := Aside0.mk HB.1
  have hg2 := (((grown_below (below_drew (Below.refl _ W)) (some g)).trans (by rw [hwd]; exact hg1)).trans HB.2)
  clear HB HO2
  go_wp2_with fail
  all_goals go_ret
  all_goals (try subst_vars)
  all_goals exact ⟨rfl, HO3.out, hg2⟩
end Go.Proofs.Ytamiglolpchplaa.Hand
