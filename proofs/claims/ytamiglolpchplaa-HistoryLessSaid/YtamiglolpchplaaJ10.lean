/- The stable sort. -/
import Derived.Test.YtamiglolpchplaaJ9
namespace Go.Proofs.Ytamiglolpchplaa.Hand
open Go.RowKit Go.Shelf Go.Lib Go.Sort Go.Proofs.Ytamiglolpchplaa Go.Proofs.YtamiglolpchplaaW.PrintWords Go.Proofs.YtamiglolpchplaaW.PrintLast
set_option linter.unusedVariables false
set_option linter.unusedSimpArgs false
/-- Within the first loop; within the inner ones. -/
structure StA (d : Array CallR) (n B a : Nat) (e : Array CallR) : Prop where
  pm : PermIn 0 n d e
  bs : BSo B 0 a e
  dv : ∃ q, a = q * B
  an : a ≤ n
structure StB (d : Array CallR) (n B a : Nat) (e : Array CallR) : Prop where
  pm : PermIn 0 n d e
  b2 : BSo (2 * B) 0 a e
  b1 : BSo B a n e
  dv : ∃ q, a = q * (2 * B)
  an : a ≤ n
theorem pz {d e : Array CallR} {n a b : Nat} {e1 : Array CallR} (hz : d.size = n) (h : PermIn 0 n d e) (h1 : PermIn a b e e1) (hb : b ≤ n) : PermIn 0 n d e1 :=
  permIn_trans _ _ _ _ _ h (permIn_mono e e1 a b 0 n (Nat.zero_le _) hb (by have := h.1; omega) h1)
theorem StA.step {d e e1 : Array CallR} {n B a b : Nat} (hz : d.size = n) (h : StA d n B a e) (hb : b = a + B) (hbn : b ≤ n) (h1 : PermIn a b e e1) (h2 : SortedIn (ltOf cfE) a b e1) : StA d n B b e1 :=
  ⟨pz hz h.pm h1 hbn, h.bs.grow h1 h2 h.dv, by obtain ⟨q, hq⟩ := h.dv; exact ⟨q + 1, by rw [Nat.succ_mul]; omega⟩, hbn⟩
theorem StA.last {d e e1 : Array CallR} {n B a : Nat} (hz : d.size = n) (h : StA d n B a e) (h1 : PermIn a n e e1) (h2 : SortedIn (ltOf cfE) a n e1) : PermIn 0 n d e1 ∧ BSo B 0 n e1 :=
  ⟨pz hz h.pm h1 (Nat.le_refl _), h.bs.grow h1 h2 h.dv⟩
theorem StB.start {d e : Array CallR} {n B : Nat} (h : PermIn 0 n d e ∧ BSo B 0 n e) : StB d n B 0 e := ⟨h.1, BSo.none _ _ _, h.2, ⟨0, by omega⟩, Nat.zero_le _⟩
theorem StB.div {d e : Array CallR} {n B a : Nat} (h : StB d n B a e) : (∃ q, a = q * B) ∧ ∃ q, a + B = q * B := by
  obtain ⟨q, hq⟩ := h.dv
  have e1 : q * (2 * B) = (q * 2) * B := (Nat.mul_assoc q 2 B).symm
  exact ⟨⟨q * 2, by omega⟩, ⟨q * 2 + 1, by rw [Nat.succ_mul]; omega⟩⟩
theorem StB.step {d e e1 : Array CallR} {n B a b : Nat} (hz : d.size = n) (h : StB d n B a e) (hb : b = a + 2 * B) (hbn : b ≤ n) (h1 : PermIn a b e e1) (h2 : SortedIn (ltOf cfE) a b e1) : StB d n B b e1 :=
  ⟨pz hz h.pm h1 hbn, h.b2.grow h1 h2 h.dv, h.b1.far h1 (by omega), by obtain ⟨q, hq⟩ := h.dv; exact ⟨q + 1, by rw [Nat.succ_mul]; omega⟩, hbn⟩
theorem StB.two {d e : Array CallR} {n B a b m : Nat} (h : StB d n B a e) (hm : m = a + B) (hb : b ≤ a + 2 * B) (hmb : m ≤ b) (hbn : b ≤ n) : SortedIn (ltOf cfE) a m e ∧ SortedIn (ltOf cfE) m b e := by
  subst hm
  exact ⟨h.b1.part h.div.1 (Nat.le_refl _) (by omega), (h.b1.sub (by omega)).part h.div.2 (by omega) hbn⟩
theorem StB.last {d e e1 : Array CallR} {n B a : Nat} (hz : d.size = n) (h : StB d n B a e) (h1 : PermIn a n e e1) (h2 : SortedIn (ltOf cfE) a n e1) : PermIn 0 n d e1 ∧ BSo (2 * B) 0 n e1 :=
  ⟨pz hz h.pm h1 (Nat.le_refl _), h.b2.grow h1 h2 h.dv⟩
theorem StB.lone {d e : Array CallR} {n B a : Nat} (hz : d.size = n) (h : StB d n B a e) (hm : n ≤ a + B) : PermIn 0 n d e ∧ BSo (2 * B) 0 n e :=
  h.last hz (permIn_refl e a n) (h.b1.part h.div.1 hm (Nat.le_refl _))
set_option maxHeartbeats 4000000 in
set_option maxRecDepth 1000000 in
theorem stable_c (blk off cap n : Nat) (d : Array CallR) (w : World) (hH : HoldsK crL 7 w blk off d) (hblk : blk < w.heap.size) (hn : d.size = n) (hsz : n < 576460752303423488) :
    Calls Try.prog 43 #[.slice (some ⟨blk, off, none⟩) n cap, .int .i64 n, .func (.func 25) #[] #[]] w fun e' w' => e' = .returned (.tuple #[]) ∧ ∃ e1, SWK crL 7 w blk off e1 w' ∧ PermIn 0 n d e1 ∧ SortedIn (ltOf cfE) 0 n e1 := by
  have HN := Aside0.mk (And.intro hH (And.intro hblk (And.intro hn hsz)))
  have HI := Aside0.mk (fun (a b : Nat) (e : Array CallR) (w1 : World) (k1 : SWK crL 7 w blk off e w1) (k2 : e.size = n) (k3 : a ≤ b) (k4 : b ≤ n) => insert_c blk off cap a b n d e w w1 hH k1 hblk hn k2 k3 k4 (by omega))
  have HM := Aside0.mk (fun (a m b : Nat) (e : Array CallR) (w1 : World) (k1 : a < m) (k2 : m < b) (k3 : b ≤ n) (k4 : e.size = n) (k5 : SWK crL 7 w blk off e w1) => merge_c blk off cap n d w hH hblk hn (by omega) (b - a) a m b e w1 rfl k1 k2 k3 k4 k5)
  clear hH hblk hn hsz
  go_enter Try.func43, Try.ntmps43
  go_wp2_with fail
  go_loopw [7, 8] (fun va vb wr => ∃ (a b : Nat) (e : Array CallR), va = .int .i64 (a : Int) ∧ vb = .int .i64 (b : Int) ∧ b = a + 20 ∧ StA d n 20 a e ∧ SWK crL 7 w blk off e wr) (fun va vb _ => n - (intOf va).toNat)
  case atStart => exact ⟨0, 20, d, rfl, rfl, rfl, ⟨permIn_refl d 0 n, BSo.none _ _ _, ⟨0, by omega⟩, Nat.zero_le _⟩, SWK.start HN.out.1⟩
  case round =>
    obtain ⟨a, b, e, rfl, rfl, hb, hst, hsw⟩ := hrel
    have HS := Aside0.mk hst
    have HW := Aside0.mk hsw
    have HB := Aside0.mk hb
    have hz : e.size = n := hst.pm.1.trans HN.out.2.2.1
    have hab : a ≤ b := by omega
    clear hst hsw
    by_cases hbn : b ≤ n
    · have hc : (b : Int) ≤ (n : Int) := by omega
      have hI := Aside0.mk (HI.out a b e wr HW.out hz hab hbn)
      have AQ := Aside0.mk (show wrap64 ((b : Int) + 20) = ((b + 20 : Nat) : Int) from midU b 20 (by have := HN.out; omega))
      have HD := Aside0.mk (show n - (intOf (.int .i64 (b : Int))).toNat < n - (intOf (.int .i64 (a : Int))).toNat from by simp only [intOf]; omega)
      clear hz hb hab
      have q1 := AQ.out
      go_wp2_with (go_at_call 44; refine hI.out.mono ?_; rintro e' w2 ⟨rfl, e1, k1, k2, k3⟩; have HW1 := Aside0.mk k1; have HS1 := Aside0.mk (HS.out.step HN.out.2.2.1 HB.out hbn k2 k3); clear k1 k2 k3)
      exact ⟨⟨b, b + 20, _, rfl, by rw [q1], rfl, HS1.out, HW1.out⟩, HD.out⟩
    · have hc : ¬ (b : Int) ≤ (n : Int) := by omega
      have hI := Aside0.mk (HI.out a n e wr HW.out hz HS.out.an (Nat.le_refl _))
      clear hz hb hab hbn
      go_upto_region 7 with (go_at_call 44; refine hI.out.mono ?_; rintro e' w2 ⟨rfl, e1, k1, k2, k3⟩; have HW1 := Aside0.mk k1; have HS1 := Aside0.mk (HS.out.last HN.out.2.2.1 k2 k3); clear k1 k2 k3)
      go_loopw [6] (fun vB wr => ∃ (B : Nat) (e : Array CallR), vB = .int .i64 (B : Int) ∧ 0 < B ∧ B < 1152921504606846976 ∧ (PermIn 0 n d e ∧ BSo B 0 n e) ∧ SWK crL 7 w blk off e wr) (fun vB _ => n - (intOf vB).toNat)
      case atStart => exact ⟨20, _, rfl, by decide, by decide, HS1.out, HW1.out⟩
      case round =>
        obtain ⟨B, e, rfl, hB0, hB1, hst, hsw⟩ := hrel
        have HS2 := Aside0.mk hst
        have HW2 := Aside0.mk hsw
        clear hst hsw
        by_cases hBn : B < n
        · have hc2 : (B : Int) < (n : Int) := by omega
          have hB2 : B < 2305843009213693952 := by omega
          obtain ⟨D, hD⟩ : ∃ D, D = 2 * B := ⟨_, rfl⟩
          have A2 := Aside0.mk (show wrap64 (2 * (B : Int)) = (D : Int) from by rw [hD]; exact wmul2 B hB2)
          have A3 := Aside0.mk (show wrap64 ((B : Int) * 2) = (D : Int) from by rw [hD]; exact wmul2' B hB2)
          have AD := Aside0.mk hD
          have HB2 := Aside0.mk (show 0 < B ∧ B < n ∧ B < 576460752303423488 from ⟨hB0, hBn, by have := HN.out; omega⟩)
          clear hB0 hB1 hBn hB2 hD
          have q2 := A2.out
          go_wp2_with fail
          try rw [q2]
          clear q2
          go_loopw [7, 8] (fun va vb w3 => ∃ (a b : Nat) (e : Array CallR), va = .int .i64 (a : Int) ∧ vb = .int .i64 (b : Int) ∧ b = a + 2 * B ∧ StB d n B a e ∧ SWK crL 7 w blk off e w3) (fun va vb _ => n - (intOf va).toNat)
          case atStart => exact ⟨0, D, e, rfl, by (first | rfl | rw [A2.out]), by have := AD.out; omega, StB.start HS2.out, HW2.out⟩
          case round =>
            obtain ⟨a, b, e3, rfl, rfl, hb, hst, hsw⟩ := hrel
            have HS := Aside0.mk hst
            have HW := Aside0.mk hsw
            have HB := Aside0.mk hb
            have hz : e3.size = n := hst.pm.1.trans HN.out.2.2.1
            have han := hst.an
            obtain ⟨m, hm⟩ : ∃ m, m = a + B := ⟨_, rfl⟩
            have hnn := HN.out.2.2.2
            have hB5 := HB2.out
            clear hsw
            by_cases hbn : b ≤ n
            · have hc3 : (b : Int) ≤ (n : Int) := by omega
              have hT := hst.two hm (Nat.le_of_eq hb) (by omega) hbn
              have hM := Aside0.mk (HM.out a m b e3 wr (by omega) (by omega) hbn hz HW.out hT.1 hT.2)
              have A4 := Aside0.mk (show wrap64 ((a : Int) + (B : Int)) = (m : Int) from by rw [hm]; exact midU a B (by omega))
              obtain ⟨b2, hb2⟩ : ∃ b2, b2 = b + 2 * B := ⟨_, rfl⟩
              have A5 := Aside0.mk (show wrap64 ((b : Int) + (D : Int)) = (b2 : Int) from by rw [hb2, ← AD.out]; exact midU b D (by have := AD.out; omega))
              have HD := Aside0.mk (show n - (intOf (.int .i64 (b : Int))).toNat < n - (intOf (.int .i64 (a : Int))).toNat from by simp only [intOf]; omega)
              have Ab2 := Aside0.mk hb2
              clear hz hb hT hb2 hm han hnn hB5 hst
              have q2 := A2.out
              have q4 := A4.out
              have q5 := A5.out
              go_wp2_with (go_at_call 45; refine hM.out.mono ?_; rintro e' w4 ⟨rfl, e4, k1, k2, k3⟩; have HW4 := Aside0.mk k1; have HS4 := Aside0.mk (HS.out.step HN.out.2.2.1 HB.out hbn k2 k3); clear k1 k2 k3)
              exact ⟨⟨b, b2, _, rfl, by (first | rfl | rw [q5]), Ab2.out, HS4.out, HW4.out⟩, HD.out⟩
            · have hc3 : ¬ (b : Int) ≤ (n : Int) := by omega
              have A4 := Aside0.mk (show wrap64 ((a : Int) + (B : Int)) = (m : Int) from by rw [hm]; exact midU a B (by omega))
              have HD := Aside0.mk (show n - (intOf (.int .i64 (D : Int))).toNat < n - (intOf (.int .i64 (B : Int))).toNat from by have := AD.out; simp only [intOf]; omega)
              have HF := Aside0.mk (show 0 < D ∧ D < 1152921504606846976 from by have := AD.out; omega)
              by_cases hmn : m < n
              · have hc4 : (m : Int) < (n : Int) := by omega
                have hT := hst.two hm (b := n) (by omega) (by omega) (Nat.le_refl _)
                have hM := Aside0.mk (HM.out a m n e3 wr (by omega) hmn (Nat.le_refl _) hz HW.out hT.1 hT.2)
                clear hz hb hT hm han hnn hB5 hst hbn hmn
                have q3 := A3.out
                have q4 := A4.out
                go_wp2_with (go_at_call 45; refine hM.out.mono ?_; rintro e' w4 ⟨rfl, e4, k1, k2, k3⟩; have HW4 := Aside0.mk k1; have HS4 := Aside0.mk (HS.out.last HN.out.2.2.1 k2 k3); clear k1 k2 k3)
                exact ⟨⟨D, _, by (first | rfl | rw [q3]), HF.out.1, HF.out.2, by rw [AD.out]; exact HS4.out, HW4.out⟩, by (first | exact HD.out | (rw [q3]; exact HD.out))⟩
              · have Ac4 := Aside0.mk (show ¬ (m : Int) < (n : Int) from by omega)
                have HS4 := Aside0.mk (HS.out.lone HN.out.2.2.1 (by omega))
                clear hz hb hm han hnn hB5 hst hbn hmn
                have q3 := A3.out
                have q4 := A4.out
                have hc4 := Ac4.out
                go_wp2_with fail
                exact ⟨⟨D, _, by (first | rfl | rw [q3]), HF.out.1, HF.out.2, by rw [AD.out]; exact HS4.out, HW.out⟩, by (first | exact HD.out | (rw [q3]; exact HD.out))⟩
        · have hc2 : ¬ (B : Int) < (n : Int) := by omega
          go_wp2_with fail
          go_end0
          exact ⟨rfl, e, HW2.out, HS2.out.1, HS2.out.2.whole (by omega)⟩
end Go.Proofs.Ytamiglolpchplaa.Hand
