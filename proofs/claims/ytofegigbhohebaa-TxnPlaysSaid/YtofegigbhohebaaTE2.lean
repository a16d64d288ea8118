/- The document's small functions. -/
import Derived.Test.YtofegigbhohebaaTE1
namespace Go.Proofs.Ytofegigbhohebaa.Hand
open Go.RowKit Go.Proofs.Ytofegigbhohebaa Go.Proofs.YtofegigbhohebaaW.PrintWords Go.Proofs.YtofegigbhohebaaW.PrintLast
set_option linter.unusedVariables false
set_option linter.unusedSimpArgs false
def rpV (r : RP) : Value := .agg (prodC r.1 r.2)
set_option maxHeartbeats 1600000 in
set_option maxRecDepth 100000 in
theorem rends_c (r : RP) (w : World) : Calls Try.prog 70 #[rpV r] w fun e w' => e = .returned (.bool (endsP r.1)) ∧ Below w.heap.size w w' := by
  have HB := Aside0.mk (below_alloc (Below.refl w.heap.size w) (.cells (prodC r.1 r.2) 127 (0, 0)))
  obtain ⟨⟨nm, tmo, ep, st, si, pl⟩, v⟩ := r
  unfold rpV prodC at *
  unfold endsP
  dsimp only at HB ⊢
  by_cases h2 : st = 2
  · subst h2
    go_enter Try.func70, Try.ntmps70
    go_wp2_with fail
    go_ret
    exact ⟨retB (by simp), HB.out⟩
  · have h2' : (st == 2) = false := beq_eq_false_iff_ne.2 h2
    go_enter Try.func70, Try.ntmps70
    go_wp2_with fail
    go_ret
    exact ⟨retB (by by_cases h3 : st = 3 <;> simp [h2, h3]), HB.out⟩
set_option maxHeartbeats 1600000 in
set_option maxRecDepth 100000 in
theorem rover_c (r : RP) (hg : GoodP r.1) (now : Int) (w : World) : Calls Try.prog 71 #[rpV r, .int .i64 now] w fun e w' => e = .returned (.bool (overP r.1 now)) ∧ Below w.heap.size w w' := by
  have HB := Aside0.mk (below_alloc (Below.refl w.heap.size w) (.cells (prodC r.1 r.2) 127 (0, 0)))
  have hs0 := hg.s0
  have hs1 := hg.s1
  have ht0 := hg.t0
  have ht1 := hg.t1
  obtain ⟨⟨nm, tmo, ep, st, si, pl⟩, v⟩ := r
  unfold rpV prodC at *
  unfold overP
  dsimp only at HB hs0 hs1 ht0 ht1 ⊢
  have hw : wrap64 (si + tmo) = si + tmo := by unfold wrap64; omega
  by_cases h2 : st = 1
  · subst h2
    go_enter Try.func71, Try.ntmps71
    go_wp2_with fail
    go_ret
    exact ⟨retB (by simp), HB.out⟩
  · have h2' : (st == 1) = false := beq_eq_false_iff_ne.2 h2
    go_enter Try.func71, Try.ntmps71
    go_wp2_with fail
    go_ret
    exact ⟨retB (by simp [h2]), HB.out⟩
set_option maxHeartbeats 1600000 in
set_option maxRecDepth 100000 in
theorem rhas_c (r : RP) (A : Option Addr) (c : Nat) (hv : r.2 = .slice A r.1.places.length c) (x : Int) (w : World) (hr : Kd.C (Kd.int .i64) w A r.1.places.length r.1.places) : Calls Try.prog 72 #[rpV r, .int .i64 x] w fun e w' => e = .returned (.bool (decide (x ∈ r.1.places))) ∧ Below w.heap.size w w' := by
  have hb := below_alloc (Below.refl w.heap.size w) (.cells (prodC r.1 r.2) 127 (0, 0))
  have HC := Aside0.mk (Kd.C_below hr hb)
  have hmax : r.1.places.length ≤ 9223372036854775807 := Kd.C_max hr
  have HX := Aside0.mk (heap_alloc_new w (.cells (prodC r.1 r.2) 127 (0, 0)))
  have HB := Aside0.mk hb
  clear hb hr
  obtain ⟨⟨nm, tmo, ep, st, si, pl⟩, v⟩ := r
  unfold rpV prodC at *
  dsimp only at HB HC HX hv hmax ⊢
  subst hv
  go_enter Try.func72, Try.ntmps72
  go_wp2_with fail
  generalize (w.alloc (.cells #[.string nm, .int .i64 tmo, .int .i64 ep, .int .i64 st, .int .i64 si, .slice A pl.length c] 127 (0, 0))) = w1 at HB HC HX ⊢
  have x5 : w1.cell? ⟨w.heap.size, 5, none⟩ = some (.slice A pl.length c) := (blk_cell HX.out 5).trans rfl
  go_loopw [5] (fun i wr => ∃ k : Nat, k ≤ pl.length ∧ i = .int .i64 (k : Int) ∧ wr = w1 ∧ x ∉ pl.take k) (fun i _ => pl.length - (intOf i).toNat)
  case atStart => exact ⟨0, Nat.zero_le _, rfl, rfl, by simp⟩
  case round =>
    obtain ⟨k, hk, rfl, hwr, hn⟩ := hrel
    subst hwr
    by_cases hkl : k < pl.length
    · have hkc : (k : Int) < (pl.length : Int) := by omega
      obtain ⟨ad, rfl, hc⟩ := Kd.at_int HC.out (k : Int) (by omega) (by omega)
      rw [Int.toNat_natCast] at hc
      have hrd : rd pl (k : Int) = pl[k] := by unfold rd; simp [hkl]
      rw [hrd] at hc
      by_cases he : pl[k] = x
      · rw [he] at hc
        go_wp2_with fail
        have hm : x ∈ pl := by rw [← he]; exact List.getElem_mem hkl
        exact bodyPost_ret (v := .bool true) (by simp [results, Try.results72, go_sem]) rfl ⟨retB (by simp [hm]), HB.out⟩
      · have he' : (pl[k] == x) = false := beq_eq_false_iff_ne.2 he
        go_wp2_with fail
        exact ⟨⟨k + 1, by omega, rfl, by simp, fun h => by
          rw [List.take_succ_eq_append_getElem hkl, List.mem_append, List.mem_singleton] at h
          rcases h with h | h
          · exact hn h
          · exact he h.symm⟩, by simp only [intOf]; omega⟩
    · have hkc : ¬ (k : Int) < (pl.length : Int) := by omega
      rw [List.take_of_length_le (by omega)] at hn
      go_wp2_with fail
      exact bodyPost_ret (v := .bool false) (by simp [results, Try.results72, go_sem]) rfl ⟨retB (by simp [hn]), HB.out⟩
set_option maxHeartbeats 1600000 in
set_option maxRecDepth 100000 in
theorem ints_c (A B : Option Addr) (c d : Nat) (l : List Int) (w : World) (hr : Kd.C (Kd.int .i64) w A l.length l) (hq : Kd.C (Kd.int .i64) w B l.length l) : Calls Try.prog 78 #[.slice A l.length c, .slice B l.length d] w fun e w' => e = .returned (.bool true) ∧ Below w.heap.size w w' := by
  have HC := Aside0.mk hr
  have HD := Aside0.mk hq
  have hmax : l.length ≤ 9223372036854775807 := Kd.C_max hr
  clear hr hq
  go_enter Try.func78, Try.ntmps78
  go_wp2_with fail
  go_loopw [5] (fun i wr => ∃ k : Nat, k ≤ l.length ∧ i = .int .i64 (k : Int) ∧ Below w.heap.size w wr) (fun i _ => l.length - (intOf i).toNat)
  case atStart => exact ⟨0, Nat.zero_le _, rfl, Below.refl _ _⟩
  case round =>
    obtain ⟨k, hk, rfl, hb⟩ := hrel
    have HB := Aside0.mk hb
    by_cases hkl : k < l.length
    · have hkc : (k : Int) < (l.length : Int) := by omega
      obtain ⟨ad, rfl, hc⟩ := Kd.at_int (Kd.C_below HC.out hb) (k : Int) (by omega) (by omega)
      obtain ⟨ae, rfl, hd⟩ := Kd.at_int (Kd.C_below HD.out hb) (k : Int) (by omega) (by omega)
      rw [Int.toNat_natCast] at hc hd
      clear hb
      go_upto_region 6 with fail
      go_quiet (fail)
      have hbd := below_step HB.out (pw_below_drewN (Below.refl _ wr) nq)
      generalize wr.drewN nq = w9 at hbd ⊢
      go_wp2_with fail
      exact ⟨⟨k + 1, by omega, rfl, hbd⟩, by simp only [intOf]; omega⟩
    · have hkc : ¬ (k : Int) < (l.length : Int) := by omega
      clear hb
      go_wp2_with fail
      exact bodyPost_ret (v := .bool true) (by simp [results, Try.results78, go_sem]) rfl ⟨rfl, HB.out⟩
end Go.Proofs.Ytofegigbhohebaa.Hand
