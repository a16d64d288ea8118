/- knows: a run of its own. -/
import Derived.Test.YtofegigbhohebaaTB18
namespace Go.Proofs.Ytofegigbhohebaa.Hand
open Go.RowKit Go.Proofs.Ytofegigbhohebaa Go.Proofs.YtofegigbhohebaaW.PrintWords Go.Proofs.YtofegigbhohebaaW.PrintLast
set_option linter.unusedVariables false
set_option linter.unusedSimpArgs false
variable {own : Nat → Nat} {gb : Nat} {gs : List Nat} {ps : List ProdV} {w w' : World}
/-- A book that a function made, with nothing of what lay there before it. -/
structure KI (own : Nat → Nat) (gb : Nat) (gs : List Nat) (ps : List ProdV) (w0 w : World) : Prop where
  bi : BI own gb gs ps w
  good : Good ps
  below : Below w0.heap.size w0 w
  zero : ∀ k, k < w0.heap.size → own k = 0
theorem KI.move {w0 : World} (h : KI own gb gs ps w0 w) (hb : Below w.heap.size w w') : KI own gb gs ps w0 w' := ⟨h.bi.below hb, h.good, below_step h.below hb, h.zero⟩
theorem KI.does {w0 : World} {ps' : List ProdV} (h : KI own gb gs ps w0 w) (hd : DoP own gb ps' w w') (hg : Good ps') : ∃ own' gs', KI own' gb gs' ps' w0 w' ∧ (∀ g o, own g = 0 ∧ w.heap[g]? = some o → own' g = 0 ∧ w'.heap[g]? = some o) := by
  obtain ⟨own', gs', h1, h2, h3⟩ := hd
  refine ⟨own', gs', ⟨h1, hg, h2.out h.below h.zero, fun k hk => (h3 k (Nat.lt_of_lt_of_le hk h.below.size)).trans (h.zero k hk)⟩, fun g o ⟨h4, h5⟩ => ?_⟩
  have hlt := (Array.getElem?_eq_some_iff.1 h5).1
  exact ⟨(h3 g hlt).trans h4, (h2.block g hlt h4).trans h5⟩
theorem good_nil : Good [] := ⟨by decide, by simp [nmsOf], fun p h => by cases h⟩
def nmX : ByteArray := ⟨#[120]⟩
def kx1 : EvV := ⟨1, nmX, 0, 0, 0, 10, 0, false⟩
def kx2 : EvV := ⟨2, ByteArray.empty, 0, 0, 3, 0, 0, false⟩
def kx3 : EvV := ⟨3, ByteArray.empty, 0, 0, 0, 0, 0, true⟩
def kx4 : EvV := ⟨4, ByteArray.empty, 0, 0, 3, 0, 0, false⟩
def kp1 : List ProdV := [⟨nmX, 10, 0, 0, 0, []⟩]
def kp2 : List ProdV := [⟨nmX, 10, 0, 1, 0, [3]⟩]
def kp3 : List ProdV := [⟨nmX, 10, 0, 2, 0, [3]⟩]
def kp4 : List ProdV := [⟨nmX, 10, 0, 0, 0, []⟩]
def kp5 : List ProdV := [⟨nmX, 10, 1, 0, 0, []⟩]
theorem kd1 : (decideF [] kx1).2 = 0 := by kernel_rfl
theorem kd2 : (decideF kp1 kx2).2 = 0 := by kernel_rfl
theorem kd3 : (decideF kp2 kx3).2 = 0 := by kernel_rfl
theorem kd4 : (decideF kp3 kx4).2 = 0 := by kernel_rfl
theorem kd5 : (decideF kp4 kx1).2 = 0 := by kernel_rfl
theorem kd6 : (decideF kp5 kx2).2 = 50 := by kernel_rfl
theorem ka1 : applyF [] kx1 = kp1 := by kernel_rfl
theorem ka2 : applyF kp1 kx2 = kp2 := by kernel_rfl
theorem ka3 : applyF kp2 kx3 = kp3 := by kernel_rfl
theorem ka4 : applyF kp3 kx4 = kp4 := by kernel_rfl
theorem ka5 : applyF kp4 kx1 = kp5 := by kernel_rfl
theorem ka6 : applyF kp5 kx2 = kp5 := by kernel_rfl
theorem ks4 : statusF kp4 0 = (0, 0, true) := by kernel_rfl
theorem kt3 : todosF kp3 = [⟨0, 0, 3, true⟩] := by kernel_rfl
set_option maxRecDepth 100000 in
theorem num_c (n : Int) (w : World) : Calls Try.prog 19 #[.int .i64 n] w fun e w' => e = .returned (.int .i64 n) ∧ w' = w := by
  go_enter Try.func19, Try.ntmps19
  go_wp2_with fail
  go_ret
  exact ⟨rfl, rfl⟩
theorem KI.apply {w0 : World} (h : KI own gb gs ps w0 w) (x : EvV) (hk5 : x.kind ≠ 5) (n : Int) (hn : (decideF ps x).2 = n) (ps' : List ProdV) (hp : applyF ps x = ps') : Calls Try.prog 15 #[.pointer (some ⟨gb, 0, none⟩), evE x] w fun e w' => e = .returned (.int .i64 n) ∧ ∃ own' gs', KI own' gb gs' ps' w0 w' ∧ (∀ g o, own g = 0 ∧ w.heap[g]? = some o → own' g = 0 ∧ w'.heap[g]? = some o) := by
  refine (apply5_c h.bi h.good x hk5).mono ?_
  rintro e w' ⟨rfl, hd⟩
  rw [hn]
  exact ⟨rfl, h.does hd (h.good.apply x) |> fun ⟨a, b, c, d⟩ => ⟨a, b, hp ▸ c, d⟩⟩
set_option maxHeartbeats 6400000 in
set_option maxRecDepth 100000 in
theorem knows_c (w : World) : Calls Try.prog 13 #[] w fun e w' => e = .returned (.bool true) ∧ Below w.heap.size w w' := by
  go_enter Try.func13, Try.ntmps13
  go_wp2_with fail
  go_at_call 12
  refine (new_c w).mono ?_
  rintro e w1 ⟨own, gb, rfl, hbi, hb, hz⟩
  have K1 := Aside0.mk (KI.mk hbi good_nil hb hz)
  clear hbi hb hz
  go_wp2_with fail
  go_at_call 15
  refine (K1.out.apply kx1 (by decide) 0 kd1 kp1 ka1).mono ?_
  rintro e w2 ⟨rfl, own2, gs2, hk, -⟩
  have K2 := Aside0.mk hk
  clear hk K1
  go_wp2_with fail
  go_at_call 15
  refine (K2.out.apply kx2 (by decide) 0 kd2 kp2 ka2).mono ?_
  rintro e w3 ⟨rfl, own3, gs3, hk, hkp⟩
  have K3 := Aside0.mk hk
  clear hk hkp K2
  go_wp2_with fail
  go_at_call 15
  refine (K3.out.apply kx3 (by decide) 0 kd3 kp3 ka3).mono ?_
  rintro e w4 ⟨rfl, own4, gs4, hk, hkp⟩
  have K4 := Aside0.mk hk
  clear hk hkp K3
  go_wp2_with fail
  go_at_call 17
  refine (todo_c K4.out.bi K4.out.good).mono ?_
  rintro e w5 ⟨v, rfl, hrow, hb5⟩
  rw [kt3] at hrow
  obtain ⟨-, ⟨-, h0⟩ | ⟨g, cap, cur, rfl, hg, hcur, -, -, hcs, hct⟩⟩ := hrow
  · cases h0
  have K5 := Aside0.mk (K4.out.move hb5)
  have R5 := Aside0.mk (show own4 g = 0 ∧ w5.heap[g]? = some (.cells cur 46 (0, 0)) from ⟨Classical.byContradiction fun e => Nat.lt_irrefl _ (Nat.lt_of_lt_of_le (K4.out.bi.lt g e) hg), hcur⟩)
  have HCT := Aside0.mk hct
  clear hct hcs hcur hg hb5 K4
  go_wp2_with fail
  go_at_call 15
  refine (K5.out.apply kx4 (by decide) 0 kd4 kp4 ka4).mono ?_
  rintro e w6 ⟨rfl, own6, gs6, hk, hkp⟩
  have K6 := Aside0.mk hk
  have R6 := Aside0.mk (hkp _ _ R5.out)
  clear hk hkp K5 R5
  go_wp2_with fail
  go_at_call 18
  refine (status_c K6.out.bi 0).mono ?_
  rintro e w7 ⟨rfl, hb7⟩
  rw [ks4]
  have K7 := Aside0.mk (K6.out.move hb7)
  have R7 := Aside0.mk (And.intro R6.out.1 ((hb7.block g (Array.getElem?_eq_some_iff.1 R6.out.2).1).trans R6.out.2))
  clear hb7 K6 R6
  go_wp2_with fail
  go_at_call 15
  refine (K7.out.apply kx1 (by decide) 0 kd5 kp5 ka5).mono ?_
  rintro e w8 ⟨rfl, own8, gs8, hk, hkp⟩
  have K8 := Aside0.mk hk
  have R8 := Aside0.mk (hkp _ _ R7.out)
  clear hk hkp K7 R7
  go_wp2_with fail
  go_at_call 15
  refine (K8.out.apply kx2 (by decide) 50 kd6 kp5 ka6).mono ?_
  rintro e w9 ⟨rfl, own9, gs9, hk, hkp⟩
  have K9 := Aside0.mk hk
  have R9 := Aside0.mk (hkp _ _ R8.out)
  clear hk hkp K8 R8
  go_wp2_with fail
  have e2 : cur[2]? = some (.int .i64 3) := by
    have := congrArg (fun l => l[2]?) HCT.out
    simpa [tdsC, tdC, List.getElem?_take] using this
  have e3 : cur[3]? = some (.bool true) := by
    have := congrArg (fun l => l[3]?) HCT.out
    simpa [tdsC, tdC, List.getElem?_take] using this
  have c2 : w9.cell? ⟨g, 2, none⟩ = some (.int .i64 3) := (blk_cell R9.out.2 2).trans e2
  have c3 : w9.cell? ⟨g, 3, none⟩ = some (.bool true) := (blk_cell R9.out.2 3).trans e3
  clear e2 e3
  go_wp2_with (go_at_call 19; refine (num_c _ _).mono ?_; rintro e w' ⟨rfl, rfl⟩)
  exact bodyPost_ret (v := .bool true) (by simp [results, Try.results13, go_sem]) rfl ⟨rfl, K9.out.below⟩
end Go.Proofs.Ytofegigbhohebaa.Hand
