/- The contracts of Right, Check and Shown as the printed texts want them. What can't have been; the histories that the statements know. What the statements know of the program. -/
import Derived.Test.YtamiglolpchplaaR0x1
import Derived.Test.YtamiglolpchplaaLA
import Derived.Test.YtamiglolpchplaaWEqStruct
import Derived.Test.YtamiglolpchplaaWGuard
namespace Go.Proofs.Ytamiglolpchplaa.Hand
open Go.RowKit Go.Proofs.Ytamiglolpchplaa Go.Proofs.YtamiglolpchplaaW.PrintWords Go.Proofs.YtamiglolpchplaaW.PrintLast Go.Proofs.Ytamiglolpchplaa.R0
set_option linter.unusedVariables false
set_option linter.unusedSimpArgs false
def toV (x : S34) : CallV := ⟨x.f0, x.f1, x.f2, x.f3, x.f4, x.f5, x.f6⟩
theorem choose_list {α β : Type} : ∀ (xs : List α) (P : Nat → α → β → Prop), (∀ j x, xs[j]? = some x → ∃ r, P j x r) → ∃ rs : List β, rs.length = xs.length ∧ ∀ (j : Nat) (x : α), xs[j]? = some x → ∃ r, rs[j]? = some r ∧ P j x r
  | [], P, _ => ⟨[], rfl, fun j x h => by simp at h⟩
  | a :: xs, P, h => by
    obtain ⟨r0, h0⟩ := h 0 a rfl
    obtain ⟨rs, h1, h2⟩ := choose_list xs (fun j => P (j + 1)) (fun j x hx => h (j + 1) x (by simpa using hx))
    refine ⟨r0 :: rs, by simp [h1], fun j x hx => ?_⟩
    cases j with
    | zero =>
      have e : a = x := by simpa using hx
      subst e
      exact ⟨r0, rfl, h0⟩
    | succ j =>
      obtain ⟨r, hr, hp⟩ := h2 j x (by simpa using hx)
      exact ⟨r, by simpa using hr, hp⟩
/-- A row of calls that is read, raw. -/
theorem raw_of {w : World} {A : Option Addr} {n : Nat} {xs : List S34} (h : Kd.C k34 w A n xs) : ∃ rs : List CallP, Kd.C kP w A rs.length rs ∧ rs.length = n ∧ rs.map (·.1) = xs.map toV ∧ ∀ r ∈ rs, ValOK w r := by
  rcases Nat.eq_zero_or_pos n with h0 | hpos
  · subst h0
    have : xs = [] := List.eq_nil_of_length_eq_zero h.1
    subst this
    exact ⟨[], ⟨rfl, by decide, fun h => absurd h (Nat.lt_irrefl 0)⟩, rfl, rfl, fun r hr => by simp at hr⟩
  obtain ⟨ad, e, hc⟩ := h.2.2 hpos
  have key : ∀ j x, xs[j]? = some x → ∃ r : CallP, r.1 = toV x ∧ ValOK w r ∧ ∀ i u, (crP r)[i]? = some u → w.cell? (ad.add (j * 7 + i)) = some u := fun j x hx => by
    obtain ⟨c, hs, hr, hcell⟩ := hc j x hx
    obtain ⟨A6, c6, hcs, l6, g6⟩ := k34_open hr
    refine ⟨(toV x, A6, x.f6.length, c6), rfl, ⟨rfl, l6, g6⟩, fun i u hi => hcell i u ?_⟩
    rw [hcs]; exact hi
  obtain ⟨rs, h1, h2⟩ := choose_list xs _ key
  have hlen : rs.length = n := h1.trans h.1
  refine ⟨rs, ⟨rfl, by rw [hlen]; exact h.2.1, fun _ => ⟨ad, e, fun j p hj => ?_⟩⟩, hlen, ?_, fun r hr => ?_⟩
  · have hjl : j < xs.length := by have := (List.getElem?_eq_some_iff.1 hj).1; omega
    obtain ⟨r, hr, _, _, hcell⟩ := h2 j _ (List.getElem?_eq_getElem hjl)
    rw [hj] at hr
    injection hr with hr
    subst hr
    exact ⟨crP p, rfl, rfl, hcell⟩
  · apply List.ext_getElem
    · simp [h1]
    · intro j a1 a2
      rw [List.length_map] at a1 a2
      obtain ⟨r, hr, hv, _⟩ := h2 j _ (List.getElem?_eq_getElem a2)
      rw [List.getElem?_eq_getElem a1] at hr
      injection hr with hr
      rw [List.getElem_map, List.getElem_map, hr]
      exact hv
  · obtain ⟨j, hj, rfl⟩ := List.mem_iff_getElem.1 hr
    obtain ⟨r, hr, _, hv, _⟩ := h2 j _ (List.getElem?_eq_getElem (by omega))
    rw [List.getElem?_eq_getElem hj] at hr
    injection hr with hr
    rw [hr]; exact hv
def history_Right.f (l0 : List S34) : Option Bool := some (rightF (l0.map toV))
theorem history_Right.calls (A0 : Option Addr) (c0 : Nat) (l0 : List S34) (r : Bool) (w : World) (hr0 : Kd.C k34 w A0 l0.length l0) (hc0 : l0.length ≤ c0) (h : history_Right.f l0 = some r) :
    Calls Try.prog 9 #[.slice A0 l0.length c0] w fun e w' => e = .returned (.bool r) ∧ Below w.heap.size w w' := by
  obtain ⟨rs, h1, h2, h3, h4⟩ := raw_of hr0
  injection h with h
  rw [← h, ← h3, ← h2]
  exact right_c A0 c0 rs w h1 (fun r hr => (h4 r hr).1)
def history_Shown.f (l0 : List S34) : Option Int := some (shownF (l0.map toV))
theorem history_Shown.calls (A0 : Option Addr) (c0 : Nat) (l0 : List S34) (r : Int) (w : World) (hr0 : Kd.C k34 w A0 l0.length l0) (hc0 : l0.length ≤ c0) (h : history_Shown.f l0 = some r) :
    Calls Try.prog 14 #[.slice A0 l0.length c0] w fun e w' => e = .returned (.int .i64 r) ∧ Below w.heap.size w w' := by
  obtain ⟨rs, h1, h2, h3, h4⟩ := raw_of hr0
  injection h with h
  rw [← h, ← h3, ← h2]
  exact shown_c A0 c0 rs w h1 h4
/-- What Check says (P2004). -/
def checkC (l : List CallV) : Int := if rightF l = true then checkR ((l.filter fun c => c.done).mergeSort (fun x y => decide (x.fin ≤ y.fin))) (l.filter fun c => !c.done && !c.read) (shownF l).toNat else 1
theorem sorted_done (l : List CallV) : ((l.filter fun c => c.done).mergeSort (fun x y => decide (x.fin ≤ y.fin))).Perm (l.filter fun c => c.done) ∧ ((l.filter fun c => c.done).mergeSort (fun x y => decide (x.fin ≤ y.fin))).Pairwise (fun x y => x.fin ≤ y.fin) := by
  refine ⟨List.mergeSort_perm _ _, ?_⟩
  have := List.pairwise_mergeSort (le := fun x y : CallV => decide (x.fin ≤ y.fin)) (fun a b c h1 h2 => by simp only [decide_eq_true_eq] at *; omega) (fun a b => by simp only [Bool.or_eq_true, decide_eq_true_eq]; omega) (l.filter fun c => c.done)
  exact this.imp fun h => by simpa using h
theorem checkC_V (l : List CallV) : CheckV l (checkC l) := by
  unfold checkC
  cases hr : rightF l with
  | false => exact .inl ⟨hr, rfl⟩
  | true => exact .inr ⟨hr, _, (sorted_done l).1, (sorted_done l).2, rfl⟩
theorem checkC_0 {l : List CallV} (hr : rightF l = true) (h : Lin l) : checkC l = 0 := by
  rcases checkV_iff (checkC_V l) with ⟨h1, h2⟩ | ⟨h1, h2, h3⟩ | ⟨h1, h2, h3⟩
  · rw [hr] at h1; cases h1
  · exact h3
  · exact absurd h h2
theorem checkC_51 {l : List CallV} (hr : rightF l = true) (h : ¬ Lin l) : checkC l = 51 := by
  rcases checkV_iff (checkC_V l) with ⟨h1, h2⟩ | ⟨h1, h2, h3⟩ | ⟨h1, h2, h3⟩
  · rw [hr] at h1; cases h1
  · exact absurd h2 h
  · exact h3
theorem checkC_1 {l : List CallV} (hr : rightF l = false) : checkC l = 1 := by rw [checkC, if_neg (by rw [hr]; decide)]
theorem lin_of_C {l : List CallV} (h : checkC l = 0) : rightF l = true ∧ Lin l := by
  rcases checkV_iff (checkC_V l) with ⟨h1, h2⟩ | ⟨h1, h2, h3⟩ | ⟨h1, h2, h3⟩
  · rw [h2] at h; cases h
  · exact ⟨h1, h2⟩
  · rw [h3] at h; cases h
theorem checkC_of {l : List CallV} {r : Int} (h : CheckV l r) : r = checkC l := by
  rcases checkV_iff h with ⟨h1, h2⟩ | ⟨h1, h2, h3⟩ | ⟨h1, h2, h3⟩
  · rw [checkC_1 h1, h2]
  · rw [checkC_0 h1 h2, h3]
  · rw [checkC_51 h1 h2, h3]
def history_Check.f (l0 : List S34) : Option Int := some (checkC (l0.map toV))
theorem history_Check.calls (A0 : Option Addr) (c0 : Nat) (l0 : List S34) (r : Int) (w : World) (hr0 : Kd.C k34 w A0 l0.length l0) (hc0 : l0.length ≤ c0) (h : history_Check.f l0 = some r) :
    Calls Try.prog 12 #[.slice A0 l0.length c0] w fun e w' => e = .returned (.int .i64 r) ∧ Below w.heap.size w w' := by
  obtain ⟨rs, h1, h2, h3, h4⟩ := raw_of hr0
  injection h with h
  rw [← h, ← h3, ← h2]
  refine (check_c A0 c0 rs w h1 h4).mono ?_
  rintro e w' ⟨⟨r, rfl, hv⟩, hb⟩
  exact ⟨by rw [checkC_of hv], hb⟩
end Go.Proofs.Ytamiglolpchplaa.Hand
namespace Go.Proofs.Ytamiglolpchplaa.Hand
open Go.RowKit Go.Proofs.Ytamiglolpchplaa Go.Proofs.YtamiglolpchplaaW.PrintWords Go.Proofs.YtamiglolpchplaaW.PrintLast
set_option linter.unusedVariables false
set_option linter.unusedSimpArgs false
theorem zero_done {D P : List CallV} {n : Nat} (h : checkR D P n = 0) : ∃ log own, DoneS D D (fun _ => none) (fun _ => none) log own := by
  rw [checkR] at h
  split at h
  · cases h
  rename_i log own hdone
  exact ⟨log, own, doneF_some D D _ _ _ _ hdone⟩
theorem lin_done {l : List CallV} (hr : rightF l = true) (hl : Lin l) : ∃ D : List CallV, (∀ c, c ∈ D ↔ c ∈ l ∧ c.done = true) ∧ D.Pairwise (fun x y => x.fin ≤ y.fin) ∧ ∃ log own, DoneS D D (fun _ => none) (fun _ => none) log own := by
  obtain ⟨D, hD⟩ : ∃ D, D = (l.filter fun c => c.done).mergeSort (fun x y => decide (x.fin ≤ y.fin)) := ⟨_, rfl⟩
  have hp : D.Perm (l.filter fun c => c.done) := by rw [hD]; exact List.mergeSort_perm _ _
  have hs : D.Pairwise (fun x y => x.fin ≤ y.fin) := by
    have := List.pairwise_mergeSort (le := fun x y : CallV => decide (x.fin ≤ y.fin)) (fun a b c h1 h2 => by simp only [decide_eq_true_eq] at *; omega) (fun a b => by simp only [Bool.or_eq_true, decide_eq_true_eq]; omega) (l.filter fun c => c.done)
    rw [hD]
    exact this.imp fun h => by simpa using h
  have h0 := check_of_lin hr hl (.inr ⟨hr, D, hp, hs, rfl⟩)
  exact ⟨D, fun c => by rw [hp.mem_iff, List.mem_filter], hs, zero_done h0⟩
/-- A call that shows less than one that ended ahead of its Begin. -/
theorem not_lin_rank {l : List CallV} (hr : rightF l = true) {x y : CallV} (hx : x ∈ l) (hxd : x.done = true) (hy : y ∈ l) (hyd : y.done = true) (hf : y.fin < x.bgn) (hk : rankF x < rankF y) : ¬ Lin l := fun hl => by
  obtain ⟨D, hm, hs, log, own, hS⟩ := lin_done hr hl
  have h1 := hS.le x ((hm x).2 ⟨hx, hxd⟩)
  have h2 := ((leastB_le x.bgn D 0 _ (fun c hc => ((hm c).1 hc).2) hs).1 h1).2 y ((hm y).2 ⟨hy, hyd⟩) hyd hf
  omega
/-- Two appends at one offset. -/
theorem not_lin_off {l : List CallV} (hr : rightF l = true) {x y : CallV} (hx : x ∈ l) (hxd : x.done = true) (hxr : x.read = false) (hy : y ∈ l) (hyd : y.done = true) (hyr : y.read = false) (ho : x.offset = y.offset) (hne : x ≠ y) : ¬ Lin l := fun hl => by
  obtain ⟨D, hm, hs, log, own, hS⟩ := lin_done hr hl
  exact hne (pair_eq (fun _ _ h e => h e.symm) hS.ne x (List.mem_filter.2 ⟨(hm x).2 ⟨hx, hxd⟩, by rw [hxr]; rfl⟩) y (List.mem_filter.2 ⟨(hm y).2 ⟨hy, hyd⟩, by rw [hyr]; rfl⟩) (fun h => h ho))
/-- Two that show unlike things. -/
theorem not_lin_show {l : List CallV} (hr : rightF l = true) {x y : CallV} (hx : x ∈ l) (hxd : x.done = true) (hy : y ∈ l) (hyd : y.done = true) {i : Int} {u v : ByteArray} (h1 : ShowsAt x i u) (h2 : ShowsAt y i v) (hne : u ≠ v) : ¬ Lin l := fun hl => by
  obtain ⟨D, hm, hs, log, own, hS⟩ := lin_done hr hl
  have a1 := hS.sh x ((hm x).2 ⟨hx, hxd⟩) i u h1
  have a2 := hS.sh y ((hm y).2 ⟨hy, hyd⟩) i v h2
  rw [a1] at a2
  injection a2 with a2
  exact hne a2
def ka : CallV := ⟨false, true, 0, 1, 0, ⟨#[97]⟩, []⟩
def kb : CallV := ⟨true, true, 2, 3, 0, ⟨#[]⟩, [⟨#[97]⟩]⟩
def kc : CallV := ⟨true, true, 2, 3, 0, ⟨#[]⟩, []⟩
def kd : CallV := ⟨false, true, 0, 1, 0, ⟨#[98]⟩, []⟩
theorem k_ab : checkC [ka, kb] = 0 := by
  refine checkC_0 (by decide +kernel) ⟨[ka, kb], [], .refl _, fun c hc => by simp at hc, fun c hc _ => ?_, ?_, ?_⟩
  · simp only [List.mem_cons, List.not_mem_nil, or_false] at hc
    rcases hc with rfl | rfl <;> rfl
  · exact ⟨fun _ => rfl, rfl, trivial⟩
  · refine List.pairwise_cons.2 ⟨fun y hy => ?_, List.pairwise_cons.2 ⟨fun y hy => by simp at hy, .nil⟩⟩
    simp only [List.mem_singleton] at hy
    subst hy
    decide
theorem k_ac : checkC [ka, kc] = 51 := checkC_51 (by decide +kernel) (not_lin_rank (x := kc) (y := ka) (by decide +kernel) (by simp) rfl (by simp) rfl (by decide) (by decide))
theorem k_ad : checkC [ka, kd] = 51 := checkC_51 (by decide +kernel) (not_lin_off (x := ka) (y := kd) (by decide +kernel) (by simp) rfl rfl (by simp) rfl rfl rfl (fun e => by
  have := congrArg CallV.value e
  revert this
  decide +kernel))
theorem k_sh : shownF [ka, kb] = 1 := by decide +kernel
theorem k_rt : rightF [ka] = true := by decide +kernel
end Go.Proofs.Ytamiglolpchplaa.Hand
namespace Go.Proofs.Ytamiglolpchplaa.Hand
open Go.RowKit Go.Proofs.Ytamiglolpchplaa Go.Proofs.YtamiglolpchplaaW.PrintWords Go.Proofs.YtamiglolpchplaaW.PrintLast
set_option linter.unusedVariables false
set_option linter.unusedSimpArgs false
theorem cells7 {w : World} {g t : Nat} {a b c d e f h : Value} (hb : w.heap[g]? = some (.cells #[a, b, c, d, e, f, h] t (0, 0))) : w.cell? ⟨g, 0, none⟩ = some a ∧ w.cell? ⟨g, 1, none⟩ = some b ∧ w.cell? ⟨g, 2, none⟩ = some c ∧ w.cell? ⟨g, 3, none⟩ = some d ∧ w.cell? ⟨g, 4, none⟩ = some e ∧ w.cell? ⟨g, 5, none⟩ = some f ∧ w.cell? ⟨g, 6, none⟩ = some h :=
  ⟨(blk_cell hb 0).trans rfl, (blk_cell hb 1).trans rfl, (blk_cell hb 2).trans rfl, (blk_cell hb 3).trans rfl, (blk_cell hb 4).trans rfl, (blk_cell hb 5).trans rfl, (blk_cell hb 6).trans rfl⟩
theorem reps1 (w : World) (b : Nat) (ok : Nat → Prop) (x : CallP) : Reps (kP.M w b ok) 7 [x] (crP x) := ⟨rfl, fun j p hj => by
  cases j with
  | zero => have e : x = p := by simpa using hj
            subst e; rfl
  | succ j => simp at hj⟩
theorem reps2 (w : World) (b : Nat) (ok : Nat → Prop) (x y : CallP) : Reps (kP.M w b ok) 7 [x, y] (crP x ++ crP y) := ⟨rfl, fun j p hj => by
  match j with
  | 0 => have e : x = p := by simpa using hj
         subst e; rfl
  | 1 => have e : y = p := by simpa using hj
         subst e; rfl
  | j + 2 => simp at hj⟩
set_option maxRecDepth 100000 in
theorem num_c (x : Int) (w : World) : Calls Try.prog 11 #[.int .i64 x] w fun e w' => e = .returned (.int .i64 x) ∧ w = w' := by
  go_enter Try.func11, Try.ntmps11
  go_wp2_with fail
  go_ret
  exact ⟨rfl, rfl⟩
/-- The four calls in memory. -/
structure KN (w : World) (ga gb gc gd : Nat) (A6 : Option Addr) (c6 : Nat) (W : World) : Prop where
  a : W.heap[ga]? = some (.cells #[.bool false, .bool true, .int .i64 0, .int .i64 1, .int .i64 0, .string ⟨#[97]⟩, .slice none 0 0] 34 (0, 0))
  b : W.heap[gb]? = some (.cells #[.bool true, .bool true, .int .i64 2, .int .i64 3, .int .i64 0, .string ⟨#[]⟩, .slice A6 1 c6] 34 (0, 0))
  c : W.heap[gc]? = some (.cells #[.bool true, .bool true, .int .i64 2, .int .i64 3, .int .i64 0, .string ⟨#[]⟩, .slice none 0 0] 34 (0, 0))
  d : W.heap[gd]? = some (.cells #[.bool false, .bool true, .int .i64 0, .int .i64 1, .int .i64 0, .string ⟨#[98]⟩, .slice none 0 0] 34 (0, 0))
  v : Kd.string.C W A6 1 [⟨#[97]⟩]
  l : 1 ≤ c6
  bl : Below w.heap.size w W
theorem KN.move {w W W' : World} {ga gb gc gd : Nat} {A6 : Option Addr} {c6 : Nat} (h : KN w ga gb gc gd A6 c6 W) (hb : Below W.heap.size W W') : KN w ga gb gc gd A6 c6 W' :=
  ⟨blk_below h.a hb, blk_below h.b hb, blk_below h.c hb, blk_below h.d hb, Kd.C_below h.v hb, h.l, below_step h.bl hb⟩
theorem KN.ok {w W : World} {ga gb gc gd : Nat} {A6 : Option Addr} {c6 : Nat} (h : KN w ga gb gc gd A6 c6 W) : ValOK W (ka, none, 0, 0) ∧ ValOK W (kb, A6, 1, c6) ∧ ValOK W (kc, none, 0, 0) ∧ ValOK W (kd, none, 0, 0) :=
  ⟨⟨rfl, Nat.le_refl _, Kd.C_nil _ _⟩, ⟨rfl, h.l, h.v⟩, ⟨rfl, Nat.le_refl _, Kd.C_nil _ _⟩, ⟨rfl, Nat.le_refl _, Kd.C_nil _ _⟩⟩
theorem kn_0 {w WL : World} {ga gb gc gd : Nat} {A6 AL : Option Addr} {c6 cl : Nat} (hc : Kd.C kP WL AL 2 ([(ka, none, 0, 0), (kb, A6, 1, c6)] : List CallP)) (hk : KN w ga gb gc gd A6 c6 WL) : Calls Try.prog 12 #[.slice AL 2 cl] WL fun e w' => e = .returned (.int .i64 0) ∧ KN w ga gb gc gd A6 c6 w' := by
  have hv : ∀ r ∈ ([(ka, none, 0, 0), (kb, A6, 1, c6)] : List CallP), ValOK WL r := by
    intro r hr
    simp only [List.mem_cons, List.not_mem_nil, or_false] at hr
    rcases hr with rfl | rfl
    · exact hk.ok.1
    · exact hk.ok.2.1
  refine (check_c AL cl ([(ka, none, 0, 0), (kb, A6, 1, c6)] : List CallP) WL hc hv).mono ?_
  rintro e w' ⟨⟨r, rfl, h1⟩, h2⟩
  have hr : r = 0 := (checkC_of h1).trans k_ab
  subst hr
  exact ⟨rfl, hk.move h2⟩
theorem kn_1 {w WL : World} {ga gb gc gd : Nat} {A6 AL : Option Addr} {c6 cl : Nat} (hc : Kd.C kP WL AL 2 ([(ka, none, 0, 0), (kc, none, 0, 0)] : List CallP)) (hk : KN w ga gb gc gd A6 c6 WL) : Calls Try.prog 12 #[.slice AL 2 cl] WL fun e w' => e = .returned (.int .i64 51) ∧ KN w ga gb gc gd A6 c6 w' := by
  have hv : ∀ r ∈ ([(ka, none, 0, 0), (kc, none, 0, 0)] : List CallP), ValOK WL r := by
    intro r hr
    simp only [List.mem_cons, List.not_mem_nil, or_false] at hr
    rcases hr with rfl | rfl
    · exact hk.ok.1
    · exact hk.ok.2.2.1
  refine (check_c AL cl ([(ka, none, 0, 0), (kc, none, 0, 0)] : List CallP) WL hc hv).mono ?_
  rintro e w' ⟨⟨r, rfl, h1⟩, h2⟩
  have hr : r = 51 := (checkC_of h1).trans k_ac
  subst hr
  exact ⟨rfl, hk.move h2⟩
theorem kn_2 {w WL : World} {ga gb gc gd : Nat} {A6 AL : Option Addr} {c6 cl : Nat} (hc : Kd.C kP WL AL 2 ([(ka, none, 0, 0), (kd, none, 0, 0)] : List CallP)) (hk : KN w ga gb gc gd A6 c6 WL) : Calls Try.prog 12 #[.slice AL 2 cl] WL fun e w' => e = .returned (.int .i64 51) ∧ KN w ga gb gc gd A6 c6 w' := by
  have hv : ∀ r ∈ ([(ka, none, 0, 0), (kd, none, 0, 0)] : List CallP), ValOK WL r := by
    intro r hr
    simp only [List.mem_cons, List.not_mem_nil, or_false] at hr
    rcases hr with rfl | rfl
    · exact hk.ok.1
    · exact hk.ok.2.2.2
  refine (check_c AL cl ([(ka, none, 0, 0), (kd, none, 0, 0)] : List CallP) WL hc hv).mono ?_
  rintro e w' ⟨⟨r, rfl, h1⟩, h2⟩
  have hr : r = 51 := (checkC_of h1).trans k_ad
  subst hr
  exact ⟨rfl, hk.move h2⟩
theorem kn_3 {w WL : World} {ga gb gc gd : Nat} {A6 AL : Option Addr} {c6 cl : Nat} (hc : Kd.C kP WL AL 2 ([(ka, none, 0, 0), (kb, A6, 1, c6)] : List CallP)) (hk : KN w ga gb gc gd A6 c6 WL) : Calls Try.prog 14 #[.slice AL 2 cl] WL fun e w' => e = .returned (.int .i64 1) ∧ KN w ga gb gc gd A6 c6 w' := by
  have hv : ∀ r ∈ ([(ka, none, 0, 0), (kb, A6, 1, c6)] : List CallP), ValOK WL r := by
    intro r hr
    simp only [List.mem_cons, List.not_mem_nil, or_false] at hr
    rcases hr with rfl | rfl
    · exact hk.ok.1
    · exact hk.ok.2.1
  refine (shown_c AL cl ([(ka, none, 0, 0), (kb, A6, 1, c6)] : List CallP) WL hc hv).mono ?_
  rintro e w' ⟨rfl, h2⟩
  exact ⟨by rw [show shownF (([(ka, none, 0, 0), (kb, A6, 1, c6)] : List CallP).map (·.1)) = 1 from k_sh], hk.move h2⟩
theorem kn_4 {w WL : World} {ga gb gc gd : Nat} {A6 AL : Option Addr} {c6 cl : Nat} (hc : Kd.C kP WL AL 1 ([(ka, none, 0, 0)] : List CallP)) (hk : KN w ga gb gc gd A6 c6 WL) : Calls Try.prog 9 #[.slice AL 1 cl] WL fun e w' => e = .returned (.bool true) ∧ KN w ga gb gc gd A6 c6 w' := by
  have hv : ∀ r ∈ ([(ka, none, 0, 0)] : List CallP), ValOK WL r := by
    intro r hr
    simp only [List.mem_cons, List.not_mem_nil, or_false] at hr
    subst hr
    exact hk.ok.1
  refine (right_c AL cl ([(ka, none, 0, 0)] : List CallP) WL hc (fun r hr => (hv r hr).1)).mono ?_
  rintro e w' ⟨rfl, h2⟩
  exact ⟨by rw [show rightF (([(ka, none, 0, 0)] : List CallP).map (·.1)) = true from k_rt], hk.move h2⟩
set_option maxHeartbeats 8000000 in
set_option maxRecDepth 100000 in
theorem knows_c (w : World) : Calls Try.prog 16 #[] w fun e w' => e = .returned (.bool true) ∧ Below w.heap.size w w' := by
  have BA0 := Aside0.mk (heap_alloc_new w (.cells #[.bool false, .bool true, .int .i64 0, .int .i64 1, .int .i64 0, .string ⟨#[97]⟩, .slice none 0 0] 34 (0, 0)))
  have HB0 := Aside0.mk (below_alloc (Below.refl w.heap.size w) (.cells #[.bool false, .bool true, .int .i64 0, .int .i64 1, .int .i64 0, .string ⟨#[97]⟩, .slice none 0 0] 34 (0, 0)))
  go_enter Try.func16, Try.ntmps16
  go_upto_region 5 with (first
    | ((with_reducible refine gate_dst (N := 6) rfl ?_); refine Kd.R_lit Kd.string (w0 := (w.alloc (.cells #[.bool false, .bool true, .int .i64 0, .int .i64 1, .int .i64 0, .string ⟨#[97]⟩, .slice none 0 0] 34 (0, 0)))) (w.alloc (.cells #[.bool false, .bool true, .int .i64 0, .int .i64 1, .int .i64 0, .string ⟨#[97]⟩, .slice none 0 0] 34 (0, 0))).heap.size 9 ?hg (N := 6) ?hd (xs := ([⟨#[97]⟩] : List ByteArray)) (inner := [.string ⟨#[97]⟩]) (ok := fun _ => True) (okp := fun _ => True) ?hr ?hp (fun _ hk => hk) trivial (Below.refl _ _) (Nat.le_refl _) (by simp) ?_; (case hg => rfl); (case hd => rfl); (case hr => first | (go_simp; done) | (go_simp; rfl)); (case hp => exact (Reps.one (show Kd.M Kd.string _ _ _ ⟨#[97]⟩ [.string ⟨#[97]⟩] from rfl) (Reps.none _ _))); intro vs_ w2_ HOs_ hbs_ hgs_ hats_; clear hgs_ hats_; obtain ⟨A6, c6, e6_, h6_, hC6_⟩ := Kd.R_reads HOs_; subst e6_; have HC6 := Aside0.mk hC6_; have H6 := Aside0.mk h6_; have BA2 := Aside0.mk (blk_below BA0.out hbs_); have HB2 := Aside0.mk (below_step HB0.out hbs_); clear HOs_ hbs_ h6_ hC6_))
  have K0 := Aside0.mk (show KN w w.heap.size w2_.heap.size (w2_.heap.size + 1) (w2_.heap.size + 2) A6 c6 (((w2_.alloc (.cells #[.bool true, .bool true, .int .i64 2, .int .i64 3, .int .i64 0, .string ⟨#[]⟩, .slice A6 1 c6] 34 (0, 0))).alloc (.cells #[.bool true, .bool true, .int .i64 2, .int .i64 3, .int .i64 0, .string ⟨#[]⟩, .slice none 0 0] 34 (0, 0))).alloc (.cells #[.bool false, .bool true, .int .i64 0, .int .i64 1, .int .i64 0, .string ⟨#[98]⟩, .slice none 0 0] 34 (0, 0))) from by
    have s1 : (w2_.alloc (.cells #[.bool true, .bool true, .int .i64 2, .int .i64 3, .int .i64 0, .string ⟨#[]⟩, .slice A6 1 c6] 34 (0, 0))).heap.size = w2_.heap.size + 1 := Array.size_push _
    have s2 : ((w2_.alloc (.cells #[.bool true, .bool true, .int .i64 2, .int .i64 3, .int .i64 0, .string ⟨#[]⟩, .slice A6 1 c6] 34 (0, 0))).alloc (.cells #[.bool true, .bool true, .int .i64 2, .int .i64 3, .int .i64 0, .string ⟨#[]⟩, .slice none 0 0] 34 (0, 0))).heap.size = w2_.heap.size + 2 := by rw [show ((w2_.alloc (.cells #[.bool true, .bool true, .int .i64 2, .int .i64 3, .int .i64 0, .string ⟨#[]⟩, .slice A6 1 c6] 34 (0, 0))).alloc (.cells #[.bool true, .bool true, .int .i64 2, .int .i64 3, .int .i64 0, .string ⟨#[]⟩, .slice none 0 0] 34 (0, 0))).heap.size = (w2_.alloc (.cells #[.bool true, .bool true, .int .i64 2, .int .i64 3, .int .i64 0, .string ⟨#[]⟩, .slice A6 1 c6] 34 (0, 0))).heap.size + 1 from Array.size_push _, s1]
    have b3 := heap_alloc_new (w2_.alloc (.cells #[.bool true, .bool true, .int .i64 2, .int .i64 3, .int .i64 0, .string ⟨#[]⟩, .slice A6 1 c6] 34 (0, 0))) (.cells #[.bool true, .bool true, .int .i64 2, .int .i64 3, .int .i64 0, .string ⟨#[]⟩, .slice none 0 0] 34 (0, 0))
    rw [s1] at b3
    have b4 := heap_alloc_new ((w2_.alloc (.cells #[.bool true, .bool true, .int .i64 2, .int .i64 3, .int .i64 0, .string ⟨#[]⟩, .slice A6 1 c6] 34 (0, 0))).alloc (.cells #[.bool true, .bool true, .int .i64 2, .int .i64 3, .int .i64 0, .string ⟨#[]⟩, .slice none 0 0] 34 (0, 0))) (.cells #[.bool false, .bool true, .int .i64 0, .int .i64 1, .int .i64 0, .string ⟨#[98]⟩, .slice none 0 0] 34 (0, 0))
    rw [s2] at b4
    have hb : Below w2_.heap.size w2_ (((w2_.alloc (.cells #[.bool true, .bool true, .int .i64 2, .int .i64 3, .int .i64 0, .string ⟨#[]⟩, .slice A6 1 c6] 34 (0, 0))).alloc (.cells #[.bool true, .bool true, .int .i64 2, .int .i64 3, .int .i64 0, .string ⟨#[]⟩, .slice none 0 0] 34 (0, 0))).alloc (.cells #[.bool false, .bool true, .int .i64 0, .int .i64 1, .int .i64 0, .string ⟨#[98]⟩, .slice none 0 0] 34 (0, 0))) := below_alloc (below_alloc (below_alloc (Below.refl _ _) _) _) _
    exact ⟨blk_below BA2.out hb, blk_alloc (blk_alloc (heap_alloc_new w2_ _) _) _, blk_alloc b3 _, b4, Kd.C_below HC6.out hb, H6.out, below_step HB2.out hb⟩)
  clear BA0 HB0 HC6 H6 BA2 HB2
  generalize (((w2_.alloc (.cells #[.bool true, .bool true, .int .i64 2, .int .i64 3, .int .i64 0, .string ⟨#[]⟩, .slice A6 1 c6] 34 (0, 0))).alloc (.cells #[.bool true, .bool true, .int .i64 2, .int .i64 3, .int .i64 0, .string ⟨#[]⟩, .slice none 0 0] 34 (0, 0))).alloc (.cells #[.bool false, .bool true, .int .i64 0, .int .i64 1, .int .i64 0, .string ⟨#[98]⟩, .slice none 0 0] 34 (0, 0))) = WC_ at K0 ⊢
  generalize w2_.heap.size + 2 = gd at K0 ⊢
  generalize w2_.heap.size + 1 = gc at K0 ⊢
  generalize w2_.heap.size = gb at K0 ⊢
  obtain ⟨ga, hga⟩ : ∃ ga, w.heap.size = ga := ⟨_, rfl⟩
  have KK := Aside0.mk (show KN w ga gb gc gd A6 c6 WC_ from hga ▸ K0.out)
  rw [hga]
  clear K0 hga
  obtain ⟨z0, z1, z2, z3, z4, z5, z6⟩ := cells7 KK.out.a
  obtain ⟨y0, y1, y2, y3, y4, y5, y6⟩ := cells7 KK.out.b
  go_wp2_with (first
    | ((with_reducible refine gate_dst (N := 12) rfl ?_); (try (refine gate_guard (by rfl) ?_; dsimp only)); refine Kd.R_lit kP (w0 := WC_) WC_.heap.size 34 ?hg (N := 12) ?hd (xs := ([(ka, none, 0, 0), (kb, A6, 1, c6)] : List CallP)) (inner := crP (ka, none, 0, 0) ++ crP (kb, A6, 1, c6)) (ok := fun _ => True) (okp := fun _ => True) ?hr ?hp (fun _ hk => hk) trivial (Below.refl _ _) (Nat.le_refl _) (by simp) ?_; (case hg => rfl); (case hd => rfl); (case hr => first | (go_simp; done) | (go_simp; rfl)); (case hp => exact reps2 _ _ _ _ _); intro vl_ WL_ HOl_ hbl_ hgl_ hatl_; clear hgl_ hatl_; obtain ⟨AL_, cl_, el_, hl_, hCl_⟩ := Kd.R_reads HOl_; subst el_; have HCL := Aside0.mk hCl_; have HHL := Aside0.mk hl_; have KL := Aside0.mk (KN.move KK.out hbl_); clear HOl_ hbl_ hl_ hCl_ z0 z1 z2 z3 z4 z5 z6 y0 y1 y2 y3 y4 y5 y6)
    | ((with_reducible refine gate_dst (N := 19) rfl ?_); (try (refine gate_guard (by rfl) ?_; dsimp only)); refine Kd.R_lit kP (w0 := WC_) WC_.heap.size 34 ?hg (N := 19) ?hd (xs := ([(ka, none, 0, 0), (kc, none, 0, 0)] : List CallP)) (inner := crP (ka, none, 0, 0) ++ crP (kc, none, 0, 0)) (ok := fun _ => True) (okp := fun _ => True) ?hr ?hp (fun _ hk => hk) trivial (Below.refl _ _) (Nat.le_refl _) (by simp) ?_; (case hg => rfl); (case hd => rfl); (case hr => first | (go_simp; done) | (go_simp; rfl)); (case hp => exact reps2 _ _ _ _ _); intro vl_ WL_ HOl_ hbl_ hgl_ hatl_; clear hgl_ hatl_; obtain ⟨AL_, cl_, el_, hl_, hCl_⟩ := Kd.R_reads HOl_; subst el_; have HCL := Aside0.mk hCl_; have HHL := Aside0.mk hl_; have KL := Aside0.mk (KN.move KK.out hbl_); clear HOl_ hbl_ hl_ hCl_ z0 z1 z2 z3 z4 z5 z6 y0 y1 y2 y3 y4 y5 y6)
    | ((with_reducible refine gate_dst (N := 27) rfl ?_); (try (refine gate_guard (by rfl) ?_; dsimp only)); refine Kd.R_lit kP (w0 := WC_) WC_.heap.size 34 ?hg (N := 27) ?hd (xs := ([(ka, none, 0, 0), (kd, none, 0, 0)] : List CallP)) (inner := crP (ka, none, 0, 0) ++ crP (kd, none, 0, 0)) (ok := fun _ => True) (okp := fun _ => True) ?hr ?hp (fun _ hk => hk) trivial (Below.refl _ _) (Nat.le_refl _) (by simp) ?_; (case hg => rfl); (case hd => rfl); (case hr => first | (go_simp; done) | (go_simp; rfl)); (case hp => exact reps2 _ _ _ _ _); intro vl_ WL_ HOl_ hbl_ hgl_ hatl_; clear hgl_ hatl_; obtain ⟨AL_, cl_, el_, hl_, hCl_⟩ := Kd.R_reads HOl_; subst el_; have HCL := Aside0.mk hCl_; have HHL := Aside0.mk hl_; have KL := Aside0.mk (KN.move KK.out hbl_); clear HOl_ hbl_ hl_ hCl_ z0 z1 z2 z3 z4 z5 z6 y0 y1 y2 y3 y4 y5 y6)
    | ((with_reducible refine gate_dst (N := 35) rfl ?_); (try (refine gate_guard (by rfl) ?_; dsimp only)); refine Kd.R_lit kP (w0 := WC_) WC_.heap.size 34 ?hg (N := 35) ?hd (xs := ([(ka, none, 0, 0), (kb, A6, 1, c6)] : List CallP)) (inner := crP (ka, none, 0, 0) ++ crP (kb, A6, 1, c6)) (ok := fun _ => True) (okp := fun _ => True) ?hr ?hp (fun _ hk => hk) trivial (Below.refl _ _) (Nat.le_refl _) (by simp) ?_; (case hg => rfl); (case hd => rfl); (case hr => first | (go_simp; done) | (go_simp; rfl)); (case hp => exact reps2 _ _ _ _ _); intro vl_ WL_ HOl_ hbl_ hgl_ hatl_; clear hgl_ hatl_; obtain ⟨AL_, cl_, el_, hl_, hCl_⟩ := Kd.R_reads HOl_; subst el_; have HCL := Aside0.mk hCl_; have HHL := Aside0.mk hl_; have KL := Aside0.mk (KN.move KK.out hbl_); clear HOl_ hbl_ hl_ hCl_ z0 z1 z2 z3 z4 z5 z6 y0 y1 y2 y3 y4 y5 y6)
    | ((with_reducible refine gate_dst (N := 41) rfl ?_); (try (refine gate_guard (by rfl) ?_; dsimp only)); refine Kd.R_lit kP (w0 := WC_) WC_.heap.size 34 ?hg (N := 41) ?hd (xs := ([(ka, none, 0, 0)] : List CallP)) (inner := crP (ka, none, 0, 0)) (ok := fun _ => True) (okp := fun _ => True) ?hr ?hp (fun _ hk => hk) trivial (Below.refl _ _) (Nat.le_refl _) (by simp) ?_; (case hg => rfl); (case hd => rfl); (case hr => first | (go_simp; done) | (go_simp; rfl)); (case hp => exact reps1 _ _ _ _); intro vl_ WL_ HOl_ hbl_ hgl_ hatl_; clear hgl_ hatl_; obtain ⟨AL_, cl_, el_, hl_, hCl_⟩ := Kd.R_reads HOl_; subst el_; have HCL := Aside0.mk hCl_; have HHL := Aside0.mk hl_; have KL := Aside0.mk (KN.move KK.out hbl_); clear HOl_ hbl_ hl_ hCl_ z0 z1 z2 z3 z4 z5 z6 y0 y1 y2 y3 y4 y5 y6)
    | (go_at_call 11; refine (num_c _ _).mono ?_; rintro e' WN_ ⟨rfl, rfl⟩)
    | (go_at_call 12; refine (kn_0 HCL.out KL.out).mono ?_; rintro e' WC_ ⟨rfl, hk_⟩; have KK := Aside0.mk hk_; clear hk_; obtain ⟨z0, z1, z2, z3, z4, z5, z6⟩ := cells7 KK.out.a; obtain ⟨y0, y1, y2, y3, y4, y5, y6⟩ := cells7 KK.out.c)
    | (go_at_call 12; refine (kn_1 HCL.out KL.out).mono ?_; rintro e' WC_ ⟨rfl, hk_⟩; have KK := Aside0.mk hk_; clear hk_; obtain ⟨z0, z1, z2, z3, z4, z5, z6⟩ := cells7 KK.out.a; obtain ⟨y0, y1, y2, y3, y4, y5, y6⟩ := cells7 KK.out.d)
    | (go_at_call 12; refine (kn_2 HCL.out KL.out).mono ?_; rintro e' WC_ ⟨rfl, hk_⟩; have KK := Aside0.mk hk_; clear hk_; obtain ⟨z0, z1, z2, z3, z4, z5, z6⟩ := cells7 KK.out.a; obtain ⟨y0, y1, y2, y3, y4, y5, y6⟩ := cells7 KK.out.b)
    | (go_at_call 14; refine (kn_3 HCL.out KL.out).mono ?_; rintro e' WC_ ⟨rfl, hk_⟩; have KK := Aside0.mk hk_; clear hk_; obtain ⟨z0, z1, z2, z3, z4, z5, z6⟩ := cells7 KK.out.a; have y0 := trivial; have y1 := trivial; have y2 := trivial; have y3 := trivial; have y4 := trivial; have y5 := trivial; have y6 := trivial)
    | (go_at_call 9; refine (kn_4 HCL.out KL.out).mono ?_; rintro e' WC_ ⟨rfl, hk_⟩; have KK := Aside0.mk hk_; clear hk_))
  go_ret
  exact ⟨rfl, KK.out.bl⟩
def gazettelaw20_knows.f : Option Bool := some true
theorem gazettelaw20_knows.calls (r : Bool) (w : World) (h : gazettelaw20_knows.f = some r) : Calls Try.prog 16 #[] w fun e w' => e = .returned (.bool r) ∧ Below w.heap.size w w' := by
  injection h with h
  subst h
  exact knows_c w
end Go.Proofs.Ytamiglolpchplaa.Hand
