/- rotate. -/
import Derived.Test.YtamiglolpchplaaJ2
namespace Go.Proofs.Ytamiglolpchplaa.Hand
open Go.RowKit Go.Shelf Go.Lib Go.Sort Go.Proofs.Ytamiglolpchplaa Go.Proofs.YtamiglolpchplaaW.PrintWords Go.Proofs.YtamiglolpchplaaW.PrintLast
set_option linter.unusedVariables false
set_option linter.unusedSimpArgs false
theorem SWK.comp {w0 W W' : World} {blk off : Nat} {dk dk' : Array CallR} (h : SWK crL 7 w0 blk off dk W) (hblk : blk < w0.heap.size) (h2 : SWK crL 7 W blk off dk' W') (hs : dk'.size = dk.size) : SWK crL 7 w0 blk off dk' W' := by
  obtain ⟨n, os, rfl⟩ := h2
  exact h.on hblk n dk' os hs
theorem swapRange_n (blk off cap a b n sz : Nat) (d0 e : Array CallR) (cv : Value) (w0 w : World) (hH : HoldsK crL 7 w0 blk off d0) (hs : SWK crL 7 w0 blk off e w) (hblk : blk < w0.heap.size) (hsz0 : d0.size = sz) (hsz : e.size = sz) (hab : a + n ≤ b) (hb : b + n ≤ sz) (hm : sz < 4611686018427387904) :
    Calls Try.prog 47 #[.slice (some ⟨blk, off, none⟩) sz cap, .int .i64 a, .int .i64 b, .int .i64 n, cv] w fun e' w' => e' = .returned (.tuple #[]) ∧ SWK crL 7 w0 blk off (swR e a b n) w' := by
  subst hsz
  refine (swapRange_c blk off cap a b n e cv w (hs.holds hblk hH hsz0.symm) (hs.lt hblk) hab hb hm).mono ?_
  rintro e' w' ⟨rfl, h⟩
  exact ⟨rfl, SWK.comp hs hblk h (swR_size _ _ _ _)⟩
/-- What is still to be exchanged. -/
structure RoI (d : Array CallR) (x m y i j : Nat) (e : Array CallR) : Prop where
  i1 : 1 ≤ i
  j1 : 1 ≤ j
  im : i ≤ m - x
  jy : j ≤ y - m
  pm : PermIn x y d e
  go : ∀ d', Rot e (m - i) m (m + j) d' → Rot d x m y d'
theorem wsub {a b c : Nat} (h : c + b = a) (ha : a < 4611686018427387904) : wrap64 ((a : Int) - (b : Int)) = (c : Int) := by unfold wrap64; omega
theorem wsub2 {a b c k : Nat} (h : c + k = a + b) (ha : a + b < 4611686018427387904) : wrap64 ((a : Int) + (b : Int) - (k : Int)) = (c : Int) := by unfold wrap64; omega
set_option maxHeartbeats 4000000 in
set_option maxRecDepth 1000000 in
theorem rotate_c (blk off cap x m y : Nat) (d : Array CallR) (cv : Value) (w : World) (hH : HoldsK crL 7 w blk off d) (hblk : blk < w.heap.size) (hxm : x < m) (hmy : m < y) (hy : y ≤ d.size) (hsz : d.size < 4611686018427387904) :
    Calls Try.prog 46 #[.slice (some ⟨blk, off, none⟩) d.size cap, .int .i64 x, .int .i64 m, .int .i64 y, cv] w fun e w' => e = .returned (.tuple #[]) ∧ ∃ d', SWK crL 7 w blk off d' w' ∧ Rot d x m y d' ∧ PermIn x y d d' := by
  have HH := Aside0.mk hH
  have HN := Aside0.mk (And.intro hblk (And.intro hxm (And.intro hmy (And.intro hy hsz))))
  obtain ⟨i0, hi0⟩ : ∃ i0, i0 + x = m := ⟨m - x, by omega⟩
  obtain ⟨j0, hj0⟩ : ∃ j0, j0 + m = y := ⟨y - m, by omega⟩
  have h1 : m < 4611686018427387904 := by omega
  have h2 : y < 4611686018427387904 := by omega
  have HS := Aside0.mk (show RoI d x m y i0 j0 d from ⟨by omega, by omega, by omega, by omega, permIn_refl d x y, fun d' h => by
    have e1 : m - i0 = x := by omega
    have e2 : m + j0 = y := by omega
    rw [e1, e2] at h
    exact h⟩)
  have q1 := wsub hi0 h1
  have q2 := wsub hj0 h2
  clear hH hblk hxm hmy hy hsz hi0 hj0 h1 h2
  go_enter Try.func46, Try.ntmps46
  go_wp2_with fail
  go_loopw [10, 11] (fun vi vj wr => ∃ (i j : Nat) (e : Array CallR), vi = .int .i64 (i : Int) ∧ vj = .int .i64 (j : Int) ∧ RoI d x m y i j e ∧ SWK crL 7 w blk off e wr) (fun vi vj _ => (intOf vi).toNat + (intOf vj).toNat)
  case atStart => exact ⟨i0, j0, d, by (first | rfl | rw [q1]), by (first | rfl | rw [q2]), HS.out, SWK.start HH.out⟩
  case round =>
    obtain ⟨i, j, e, rfl, rfl, hri, hsw⟩ := hrel
    clear q1 q2
    have HR := Aside0.mk hri
    have HW := Aside0.mk hsw
    have HE := Aside0.mk (show e.size = d.size from hri.pm.1)
    obtain ⟨p, hp⟩ : ∃ p, p + i = m := ⟨m - i, by have := hri.im; omega⟩
    have hm : m < 4611686018427387904 := by have := HN.out; omega
    have hpm : m - i = p := by omega
    have hj1 := hri.j1
    have hi1 := hri.i1
    have hjy : m + j ≤ y := by have := hri.jy; have := HN.out.2.2.1; omega
    have hys : m + j ≤ d.size := Nat.le_trans hjy HN.out.2.2.2.1
    have hxp : x ≤ p := by have := hri.im; have := HN.out.2.1; omega
    have hmj : m + j < 4611686018427387904 := by have := HN.out; omega
    clear hri hsw
    by_cases hij : i = j
    · subst hij
      have hc := Aside0.mk (swapRange_n blk off cap p m i d.size d e cv w wr HH.out HW.out HN.out.1 rfl HE.out (by omega) hys HN.out.2.2.2.2)
      have HF := Aside0.mk (show Rot d x m y (swR e p m i) ∧ PermIn x y d (swR e p m i) from ⟨HR.out.go _ (by rw [hpm, ← hpm]; exact Rot.both e m i (by omega) (by rw [HE.out]; exact hys)), permIn_trans _ _ _ _ _ HR.out.pm (swR_perm e p m x y i hxp (by omega) hjy (by rw [HE.out]; exact HN.out.2.2.2.1))⟩)
      have q1 := wsub hp hm
      clear hp hm hpm hj1 hi1 hjy hys hxp hmj
      go_wp2_with (go_at_call 47; refine hc.out.mono ?_; rintro e' w2 ⟨rfl, h2⟩; have HW2 := Aside0.mk h2; clear h2)
      go_end0
      exact ⟨rfl, _, HW2.out, HF.out.1, HF.out.2⟩
    · have hne : ((i : Int) == (j : Int)) = false := beq_eq_false_iff_ne.2 (by omega)
      by_cases hgt : j < i
      · have hgc : (j : Int) < (i : Int) := by omega
        obtain ⟨i', hi'⟩ : ∃ i', i' + j = i := ⟨i - j, by omega⟩
        have hc := Aside0.mk (swapRange_n blk off cap p m j d.size d e cv w wr HH.out HW.out HN.out.1 rfl HE.out (by omega) hys HN.out.2.2.2.2)
        have HF := Aside0.mk (show RoI d x m y i' j (swR e p m j) from ⟨by omega, hj1, by have := HR.out.im; omega, HR.out.jy, permIn_trans _ _ _ _ _ HR.out.pm (swR_perm e p m x y j hxp (by omega) hjy (by rw [HE.out]; exact HN.out.2.2.2.1)), fun d' h => HR.out.go _ (by
          refine Rot.left e m i j (by omega) hj1 hgt (by rw [HE.out]; exact hys) d' ?_
          rw [hpm]
          have e1 : m - i' = p + j := by omega
          rw [e1] at h
          exact h)⟩)
        have hdec : (intOf (.int .i64 (i' : Int))).toNat + (intOf (.int .i64 (j : Int))).toNat < (intOf (.int .i64 (i : Int))).toNat + (intOf (.int .i64 (j : Int))).toNat := by simp only [intOf]; omega
        have hi2 : i < 4611686018427387904 := by omega
        have q1 := wsub hp hm
        have q2 := wsub hi' hi2
        clear hp hm hpm hj1 hi1 hjy hys hxp hmj hi' hi2 hgt
        go_wp2_with (go_at_call 47; refine hc.out.mono ?_; rintro e' w2 ⟨rfl, h2⟩; have HW2 := Aside0.mk h2; clear h2)
        exact ⟨⟨i', j, _, by rw [q2], rfl, HF.out, HW2.out⟩, by rw [q2]; exact hdec⟩
      · have hgc : ¬ (j : Int) < (i : Int) := by omega
        obtain ⟨j', hj'⟩ : ∃ j', j' + i = j := ⟨j - i, by omega⟩
        obtain ⟨q, hq⟩ : ∃ q, q + i = m + j := ⟨m + j - i, by omega⟩
        have hc := Aside0.mk (swapRange_n blk off cap p q i d.size d e cv w wr HH.out HW.out HN.out.1 rfl HE.out (by omega) (by omega) HN.out.2.2.2.2)
        have HF := Aside0.mk (show RoI d x m y i j' (swR e p q i) from ⟨hi1, by omega, HR.out.im, by have := HR.out.jy; omega, permIn_trans _ _ _ _ _ HR.out.pm (swR_perm e p q x y i hxp (by omega) (by omega) (by rw [HE.out]; exact HN.out.2.2.2.1)), fun d' h => HR.out.go _ (by
          refine Rot.right e m i j (by omega) hi1 (by omega) (by rw [HE.out]; exact hys) d' ?_
          have e1 : j - i = j' := by omega
          have e2 : m + j - i = q := by omega
          rw [e1, e2, hpm]
          rw [hpm] at h
          exact h)⟩)
        have hdec : (intOf (.int .i64 (i : Int))).toNat + (intOf (.int .i64 (j' : Int))).toNat < (intOf (.int .i64 (i : Int))).toNat + (intOf (.int .i64 (j : Int))).toNat := by simp only [intOf]; omega
        have hi2 : j < 4611686018427387904 := by omega
        have q1 := wsub hp hm
        have q2 := wsub hj' hi2
        have q3 := wrap_add m j hmj
        have q4 := wsub2 hq hmj
        clear hp hm hpm hj1 hi1 hjy hys hxp hmj hj' hi2 hq
        go_wp2_with (go_at_call 47; refine hc.out.mono ?_; rintro e' w2 ⟨rfl, h2⟩; have HW2 := Aside0.mk h2; clear h2)
        exact ⟨⟨i, j', _, rfl, by rw [q2], HF.out, HW2.out⟩, by rw [q2]; exact hdec⟩
end Go.Proofs.Ytamiglolpchplaa.Hand
