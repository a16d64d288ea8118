/- The comparison; the insertion sort. -/
import Derived.Test.YtamiglolpchplaaJ3
import Derived.Shelf.SlGeneric
import Derived.Ground.SlsfProg
namespace Go.Proofs.Ytamiglolpchplaa.Hand
open Go.RowKit Go.Shelf Go.Lib Go.Sort Go.Proofs.Ytamiglolpchplaa Go.Proofs.YtamiglolpchplaaW.PrintWords Go.Proofs.YtamiglolpchplaaW.PrintLast
set_option linter.unusedVariables false
set_option linter.unusedSimpArgs false
def cfE (x y : CallR) : Int := x.1.1.fin - y.1.1.fin
set_option maxRecDepth 100000 in
theorem cmp_c (x y : CallR) (w : World) : Calls Try.prog 25 #[.agg (crL x).toArray, .agg (crL y).toArray] w fun e w' => e = .returned (.int .i64 (cfE x y)) ∧ ∃ os, w' = grow w os := by
  obtain ⟨⟨⟨rd, dn, bg, fi, of, va, vs⟩, A, n, c⟩, hx0, hx1⟩ := x
  obtain ⟨⟨⟨rd', dn', bg', fi', of', va', vs'⟩, A', n', c'⟩, hy0, hy1⟩ := y
  dsimp only at hx0 hx1 hy0 hy1
  have hw : wrap64 (fi - fi') = fi - fi' := by unfold wrap64; omega
  unfold crL crP cfE
  dsimp only
  clear hx0 hx1 hy0 hy1
  go_enter Try.func25, Try.ntmps25
  go_wp2_with fail
  refine bodyPost_ret (v := .int .i64 (fi - fi')) (by simp [results, Try.results25, go_sem, hw]) rfl ⟨rfl, ?os, ?fin⟩
  rotate_left
  · rw [alloc_eq_grow, alloc_eq_grow, grow_grow]
theorem cmpLays (w : World) (blk off size : Nat) : CmpLays Try.prog 25 #[] crL 7 cfE blk off size w := by
  intro m os dk hs x y
  refine (cmp_c x y _).mono ?_
  rintro e w' ⟨rfl, os', rfl⟩
  exact ⟨rfl, 0, os', rfl⟩
theorem ltE_swo : SWO (ltOf cfE) := by
  refine ⟨fun x => ?_, fun x y z h1 h2 => ?_, fun x y z h1 h2 => ?_⟩
  · simp [ltOf, cfE]
  · have h1 : cfE x y < 0 := of_decide_eq_true h1
    have h2 : cfE y z < 0 := of_decide_eq_true h2
    unfold cfE at h1 h2
    exact decide_eq_true (show cfE x z < 0 by unfold cfE; omega)
  · have h1 : ¬ cfE x y < 0 := of_decide_eq_false h1
    have h2 : ¬ cfE y z < 0 := of_decide_eq_false h2
    unfold cfE at h1 h2
    exact decide_eq_false (show ¬ cfE x z < 0 by unfold cfE; omega)
end Go.Proofs.Ytamiglolpchplaa.Hand
namespace Go.Proofs
open Go.Shelf
shelf_lay_g SlLaysF0.n20 Slsf 20 at Try 44 as Try.laysIns44
end Go.Proofs
namespace Go.Proofs.Ytamiglolpchplaa.Hand
open Go.RowKit Go.Shelf Go.Lib Go.Sort Go.Proofs.Ytamiglolpchplaa Go.Proofs.YtamiglolpchplaaW.PrintWords Go.Proofs.YtamiglolpchplaaW.PrintLast
theorem eg25 (args : Array Value) (w : World) : (callFunc 25 args).run Try.prog w = .ok (.enter 25 args) w := enters_of Try.func25 (by kernel_rfl) rfl args w
/-- insertionSort on [a, b). -/
theorem insert_c (blk off cap a b n : Nat) (d0 e : Array CallR) (w0 w : World) (hH : HoldsK crL 7 w0 blk off d0) (hs : SWK crL 7 w0 blk off e w) (hblk : blk < w0.heap.size) (h0 : d0.size = n) (hn : e.size = n) (hab : a ≤ b) (hb : b ≤ n) (hsz : n < 4611686018427387904) :
    Calls Try.prog 44 #[.slice (some ⟨blk, off, none⟩) n cap, .int .i64 a, .int .i64 b, .func (.func 25) #[] #[]] w fun e' w' => e' = .returned (.tuple #[]) ∧ ∃ e1, SWK crL 7 w0 blk off e1 w' ∧ PermIn a b e e1 ∧ SortedIn (ltOf cfE) a b e1 := by
  subst hn
  have hcon := AnyQ.insertionSortCmpFunc Try.laysIns44 7 agg34 size34 crL crL_len crL_one cfE 25 #[] blk off cap a b e w eg25 (cmpLays w blk off e.size) (hs.holds hblk hH h0.symm) (hs.lt hblk) hab hb hsz
  change Calls Try.prog 44 _ _ _ at hcon
  obtain ⟨hp, hso⟩ := insertionSort_holds ltE_swo e a b hab hb
  refine hcon.mono ?_
  rintro e' w' ⟨rfl, m, os, rfl⟩
  exact ⟨rfl, _, hs.on hblk m _ os hp.1, hp, hso⟩
end Go.Proofs.Ytamiglolpchplaa.Hand
