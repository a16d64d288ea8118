/- symMerge: any case; the stable sort's blocks, in plain words. -/
import Derived.Test.YtamiglolpchplaaJ8
namespace Go.Proofs.Ytamiglolpchplaa.Hand
open Go.RowKit Go.Shelf Go.Lib Go.Sort Go.Proofs.Ytamiglolpchplaa Go.Proofs.YtamiglolpchplaaW.PrintWords Go.Proofs.YtamiglolpchplaaW.PrintLast
set_option linter.unusedVariables false
set_option linter.unusedSimpArgs false
theorem merge_c (blk off cap n : Nat) (d0 : Array CallR) (w0 : World) (hH : HoldsK crL 7 w0 blk off d0) (hblk : blk < w0.heap.size) (h0 : d0.size = n) (hsz : n < 2305843009213693952) :
    ∀ (k a m b : Nat) (d : Array CallR) (w : World), b - a = k → a < m → m < b → b ≤ n → d.size = n → SWK crL 7 w0 blk off d w → SortedIn (ltOf cfE) a m d → SortedIn (ltOf cfE) m b d →
    Calls Try.prog 45 #[.slice (some ⟨blk, off, none⟩) n cap, .int .i64 a, .int .i64 m, .int .i64 b, .func (.func 25) #[] #[]] w fun e' w' => e' = .returned (.tuple #[]) ∧ ∃ e1, SWK crL 7 w0 blk off e1 w' ∧ PermIn a b d e1 ∧ SortedIn (ltOf cfE) a b e1 := by
  intro k
  induction k using Nat.strongRecOn with
  | _ k ih =>
    intro a m b d w hk ham hmb hb hn hs h1 h2
    by_cases c1 : a + 1 = m
    · exact merge_l blk off cap a m b n d0 d w0 w hH hs hblk h0 hn c1 hmb hb hsz h2
    by_cases c2 : m + 1 = b
    · exact merge_r blk off cap a m b n d0 d w0 w hH hs hblk h0 hn (by omega) c2 hb hsz h1
    exact merge_m blk off cap a m b n d0 d w0 w hH hs hblk h0 hn (by omega) (by omega) hb hsz h1 h2 (fun a' m' b' d' w' g1 g2 g3 g4 g5 g6 g7 g8 => ih (b' - a') (by omega) a' m' b' d' w' rfl g2 g3 g4 g5 g6 g7 g8)
/-- Sorted, block by block. -/
def BSo (B x y : Nat) (e : Array CallR) : Prop := ∀ i j, x ≤ i → i < j → j < y → i / B = j / B → ltOf cfE e[j]! e[i]! = false
theorem BSo.none (B x : Nat) (e : Array CallR) : BSo B x x e := fun i j p q r _ => by omega
theorem BSo.whole {B n : Nat} {e : Array CallR} (h : BSo B 0 n e) (hB : n ≤ B) : SortedIn (ltOf cfE) 0 n e := fun i j p q r => h i j p q r (by rw [Nat.div_eq_of_lt (by omega), Nat.div_eq_of_lt (by omega)])
theorem BSo.grow {B x y z : Nat} {e e1 : Array CallR} (h : BSo B x y e) (hp : PermIn y z e e1) (hs : SortedIn (ltOf cfE) y z e1) (hd : ∃ q, y = q * B) : BSo B x z e1 := by
  intro i j p q r hq
  by_cases c : j < y
  · rw [hp.2.1 i (.inl (by omega)), hp.2.1 j (.inl c)]; exact h i j p q c hq
  · obtain ⟨k, rfl⟩ := hd
    rcases Nat.eq_zero_or_pos B with h0 | h0
    · subst h0; exact hs i j (by omega) q r
    · have h1 : k ≤ j / B := (Nat.le_div_iff_mul_le h0).2 (by omega)
      have h2 : k * B ≤ i := (Nat.le_div_iff_mul_le h0).1 (by omega)
      exact hs i j h2 q r
theorem BSo.far {B x y z : Nat} {e e1 : Array CallR} (h : BSo B x z e) (hp : PermIn x y e e1) (hx : x ≤ y) : BSo B y z e1 := by
  intro i j p q r hq
  rw [hp.2.1 i (.inr (by omega)), hp.2.1 j (.inr (by omega))]
  exact h i j (by omega) q r hq
theorem BSo.part {B x y z : Nat} {e : Array CallR} (h : BSo B x z e) (hd : ∃ q, x = q * B) (hy : y ≤ x + B) (hz : y ≤ z) : SortedIn (ltOf cfE) x y e := by
  intro i j p q r
  obtain ⟨k, rfl⟩ := hd
  have e1 : k * B + B = (k + 1) * B := (Nat.succ_mul k B).symm
  refine h i j p q (by omega) ?_
  have a1 : i / B = k := Nat.div_eq_of_lt_le p (by omega)
  have a2 : j / B = k := Nat.div_eq_of_lt_le (by omega) (by omega)
  rw [a1, a2]
theorem BSo.sub {B x y z : Nat} {e : Array CallR} (h : BSo B x z e) (hx : x ≤ y) : BSo B y z e := fun i j p q r hq => h i j (by omega) q r hq
theorem wmul2 (a : Nat) (h : a < 2305843009213693952) : wrap64 (2 * (a : Int)) = ((2 * a : Nat) : Int) := by unfold wrap64; omega
theorem wmul2' (a : Nat) (h : a < 2305843009213693952) : wrap64 ((a : Int) * 2) = ((2 * a : Nat) : Int) := by unfold wrap64; omega
end Go.Proofs.Ytamiglolpchplaa.Hand
