/- symMerge: the whole. -/
import Derived.Test.YtamiglolpchplaaJ6
namespace Go.Proofs.Ytamiglolpchplaa.Hand
open Go.RowKit Go.Shelf Go.Lib Go.Sort Go.Proofs.Ytamiglolpchplaa Go.Proofs.YtamiglolpchplaaW.PrintWords Go.Proofs.YtamiglolpchplaaW.PrintLast
set_option linter.unusedVariables false
set_option linter.unusedSimpArgs false
theorem rotate_n (blk off cap x m y n : Nat) (d0 d : Array CallR) (cv : Value) (w0 w : World) (hH : HoldsK crL 7 w0 blk off d0) (hs : SWK crL 7 w0 blk off d w) (hblk : blk < w0.heap.size) (h0 : d0.size = n) (hn : d.size = n) (hxm : x < m) (hmy : m < y) (hy : y ≤ n) (hsz : n < 4611686018427387904) :
    Calls Try.prog 46 #[.slice (some ⟨blk, off, none⟩) n cap, .int .i64 x, .int .i64 m, .int .i64 y, cv] w fun e w' => e = .returned (.tuple #[]) ∧ ∃ d', SWK crL 7 w0 blk off d' w' ∧ Rot d x m y d' ∧ PermIn x y d d' := by
  subst hn
  refine (rotate_c blk off cap x m y d cv w (hs.holds hblk hH h0.symm) (hs.lt hblk) hxm hmy hy hsz).mono ?_
  rintro e w' ⟨rfl, d', h1, h2, h3⟩
  exact ⟨rfl, d', SWK.comp hs hblk h1 h3.1, h2, h3⟩
/-- Where the middle lies; where is looked. -/
structure MW (a m b mid nn s0 r0 : Nat) : Prop where
  nn_ : mid + m = nn
  as0 : a ≤ s0
  sr : s0 ≤ r0
  rm : r0 ≤ m
  nb : nn ≤ b + s0
  mr : m + r0 ≤ nn
  sa : s0 = a ∨ nn = b + s0
  re : r0 = m ∨ nn = m + r0
  am : a < mid
  mb : mid < b
structure FiM (d : Array CallR) (nn s0 r0 s r : Nat) : Prop where
  s0s : s0 ≤ s
  sr : s ≤ r
  rr0 : r ≤ r0
  lo : s = s0 ∨ ltOf cfE d[nn - s]! d[s - 1]! = false
  hi : r = r0 ∨ ltOf cfE d[nn - 1 - r]! d[r]! = true
structure MS (d : Array CallR) (a m b mid s e : Nat) : Prop where
  as_ : a ≤ s
  sm : s ≤ m
  me : m ≤ e
  eb : e ≤ b
  hmid : mid = s + (e - m)
  am : a < mid
  mb : mid < b
  bz : b ≤ d.size
  s1 : SortedIn (ltOf cfE) a m d
  s2 : SortedIn (ltOf cfE) m b d
  c1 : s = a ∨ e = b ∨ ltOf cfE d[e]! d[s - 1]! = false
  c2 : s = m ∨ e = m ∨ ltOf cfE d[s]! d[e - 1]! = false
theorem MS.mk2 {d : Array CallR} {a m b mid nn s0 r0 s e : Nat} (W : MW a m b mid nn s0 r0) (F : FiM d nn s0 r0 s s) (he : e + s = nn) (hb : b ≤ d.size) (h1 : SortedIn (ltOf cfE) a m d) (h2 : SortedIn (ltOf cfE) m b d) : MS d a m b mid s e := by
  have w1 := W.nn_; have w2 := W.as0; have w3 := W.rm; have w4 := W.nb; have w5 := W.mr; have w6 := W.am; have w7 := W.mb; have f1 := F.s0s; have f2 := F.rr0
  refine ⟨by omega, by omega, by omega, by omega, by omega, w6, w7, hb, h1, h2, ?_, ?_⟩
  · rcases F.lo with h | h
    · rcases W.sa with g | g
      · exact .inl (by omega)
      · exact .inr (.inl (by omega))
    · have e1 : nn - s = e := by omega
      rw [e1] at h
      exact .inr (.inr h)
  · rcases F.hi with h | h
    · rcases W.re with g | g
      · exact .inl (by omega)
      · exact .inr (.inl (by omega))
    · have e1 : nn - 1 - s = e - 1 := by omega
      rw [e1] at h
      refine .inr (.inr ?_)
      cases h4 : ltOf cfE d[s]! d[e - 1]! with
      | false => rfl
      | true => exact absurd (ltE_swo.trans _ _ _ h h4) (by rw [ltE_swo.irrefl]; decide)
def R1 (d : Array CallR) (a m b s e : Nat) (d1 : Array CallR) : Prop := Rot d s m e d1 ∧ PermIn a b d d1
theorem MS.parts {d d1 : Array CallR} {a m b mid s e : Nat} (S : MS d a m b mid s e) (h : R1 d a m b s e d1) : SortedIn (ltOf cfE) a s d1 ∧ SortedIn (ltOf cfE) s mid d1 ∧ SortedIn (ltOf cfE) mid e d1 ∧ SortedIn (ltOf cfE) e b d1 ∧ ∀ i j, a ≤ i → i < mid → mid ≤ j → j < b → ltOf cfE d1[j]! d1[i]! = false := merge_parts ltE_swo d d1 a s m mid e b S.s1 S.s2 S.as_ S.sm S.me S.eb S.hmid S.c1 S.c2 h.1
theorem MS.none {d : Array CallR} {a m b mid s e : Nat} (S : MS d a m b mid s e) (h : ¬ (s < m ∧ m < e)) : R1 d a m b s e d := by
  refine ⟨?_, permIn_refl d a b⟩
  have := S.sm; have := S.me
  by_cases c : s = m
  · subst c; exact Rot.none_l d s e (by omega)
  · obtain rfl : e = m := by omega
    exact Rot.none_r d s e (by omega)
theorem MS.noL {d d1 : Array CallR} {a m b mid s e : Nat} (S : MS d a m b mid s e) (h : R1 d a m b s e d1) (hn : ¬ (a < s ∧ s < mid)) : PermIn a mid d1 d1 ∧ SortedIn (ltOf cfE) a mid d1 := by
  refine ⟨permIn_refl d1 a mid, ?_⟩
  obtain ⟨p1, p2, -, -, -⟩ := S.parts h
  have := S.as_; have := S.hmid; have := S.am
  by_cases c : s = a
  · subst c; exact p2
  · obtain rfl : s = mid := by omega
    exact p1
theorem sorted_far {d1 d2 : Array CallR} {a mid x y : Nat} (h : SortedIn (ltOf cfE) x y d1) (hp : PermIn a mid d1 d2) (hx : mid ≤ x) : SortedIn (ltOf cfE) x y d2 := by
  intro i j p q r
  rw [hp.2.1 i (.inr (by omega)), hp.2.1 j (.inr (by omega))]; exact h i j p q r
theorem MS.noR {d d1 d2 : Array CallR} {a m b mid s e : Nat} (S : MS d a m b mid s e) (h : R1 d a m b s e d1) (h2 : PermIn a mid d1 d2) (hn : ¬ (mid < e ∧ e < b)) : PermIn mid b d2 d2 ∧ SortedIn (ltOf cfE) mid b d2 := by
  refine ⟨permIn_refl d2 mid b, ?_⟩
  obtain ⟨-, -, p3, p4, -⟩ := S.parts h
  have := S.eb; have := S.hmid; have := S.me; have := S.sm; have := S.mb
  by_cases c : e = b
  · subst c; exact sorted_far p3 h2 (Nat.le_refl _)
  · obtain rfl : e = mid := by omega
    exact sorted_far p4 h2 (Nat.le_refl _)
theorem MS.fin {d d1 d2 d3 : Array CallR} {a m b mid s e : Nat} (S : MS d a m b mid s e) (h : R1 d a m b s e d1) (h2 : PermIn a mid d1 d2 ∧ SortedIn (ltOf cfE) a mid d2) (h3 : PermIn mid b d2 d3 ∧ SortedIn (ltOf cfE) mid b d3) : PermIn a b d d3 ∧ SortedIn (ltOf cfE) a b d3 := by
  obtain ⟨-, -, -, -, p5⟩ := S.parts h
  have hz := h.2.1
  have hz2 := h2.1.1
  have hb := S.bz
  refine ⟨permIn_trans _ _ _ _ _ h.2 (permIn_trans _ _ _ _ _ (permIn_mono d1 d2 a mid a b (Nat.le_refl _) (Nat.le_of_lt S.mb) (by omega) h2.1) (permIn_mono d2 d3 mid b a b (Nat.le_of_lt S.am) (Nat.le_refl _) (by omega) h3.1)), merge_done d1 d2 d3 a mid b (Nat.le_of_lt S.am) (Nat.le_of_lt S.mb) (by omega) p5 h2.1 h2.2 h3.1 h3.2⟩
end Go.Proofs.Ytamiglolpchplaa.Hand
