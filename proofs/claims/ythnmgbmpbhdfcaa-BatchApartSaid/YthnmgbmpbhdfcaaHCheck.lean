/- batch.Check: what it computes. -/
import Derived.Test.YthnmgbmpbhdfcaaHQ
import Derived.Laws.EntriesVeiled
namespace Go.Proofs.Ythnmgbmpbhdfcaa.Hand
open Go.RowKit Go.Proofs.Ythnmgbmpbhdfcaa Go.Proofs.YthnmgbmpbhdfcaaW.PrintWords Go.Proofs.YthnmgbmpbhdfcaaW.PrintMore Go.Proofs.Ythnmgbmpbhdfcaa.B0

def recSize (s : Int) (r : S47) : Int := wrap64 (s + wrap64 (wrap64 (5 + (r.f0.size : Int)) + (r.f1.size : Int)))
def recsSize (l : List S47) : Int := l.foldl recSize 18
def recBad (r : S47) : Bool := decide ((r.f0.size : Int) > 1000) || decide ((r.f1.size : Int) > 4000) || (r.f2 && !r.f1.toList.isEmpty)
def recsBad (l : List S47) : Bool := l.any recBad
theorem heap_alloc3_new (w : World) (o1 o2 o3 : Obj) : (((w.alloc o1).alloc o2).alloc o3).heap[w.heap.size + 1 + 1]? = some o3 := by
  have := heap_alloc2_new (w.alloc o1) o2 o3
  have e : (w.alloc o1).heap.size = w.heap.size + 1 := by simp
  rwa [e] at this
def fv (f : Nat) (gs : List Nat) : Value := .func (.func f) #[] (gs.map fun g => Value.pointer (some ⟨g, 0, none⟩)).toArray
def qrow (g m : Nat) : Array Value := #[.func (.func 25) #[] #[.pointer (some ⟨g, 0, none⟩), .pointer (some ⟨m, 0, none⟩)], .int .i64 1, .func (.func 26) #[] #[.pointer (some ⟨g, 0, none⟩), .pointer (some ⟨m, 0, none⟩)], .int .i64 1, .func (.func 27) #[] #[.pointer (some ⟨g, 0, none⟩)], .int .i64 1, .func (.func 28) #[] #[.pointer (some ⟨g, 0, none⟩), .pointer (some ⟨m, 0, none⟩)], .int .i64 1,
  .func (.func 29) #[] #[.pointer (some ⟨m, 0, none⟩), .pointer (some ⟨g, 0, none⟩), .pointer (some ⟨g + 1 + 1, 0, none⟩)], .int .i64 6, .func (.func 30) #[] #[.pointer (some ⟨g, 0, none⟩)], .int .i64 53, .func (.func 31) #[] #[.pointer (some ⟨g + 1, 0, none⟩)], .int .i64 6]
def zrow14 : Array Value := #[.nilFunc, .int .i64 0, .nilFunc, .int .i64 0, .nilFunc, .int .i64 0, .nilFunc, .int .i64 0, .nilFunc, .int .i64 0, .nilFunc, .int .i64 0, .nilFunc, .int .i64 0]
theorem info49 : (Try.prog.info? 49).map (fun i => i.size) = some 14 := by kernel_rfl
theorem u49 : Try.prog.underlying 49 = some (.array 7 48) := by kernel_rfl
theorem qrow_at0 (g m : Nat) (W : World) : (Instr.index 49 (.agg #[.func (.func 25) #[] #[.pointer (some ⟨g, 0, none⟩), .pointer (some ⟨m, 0, none⟩)], .int .i64 1, .func (.func 26) #[] #[.pointer (some ⟨g, 0, none⟩), .pointer (some ⟨m, 0, none⟩)], .int .i64 1, .func (.func 27) #[] #[.pointer (some ⟨g, 0, none⟩)], .int .i64 1, .func (.func 28) #[] #[.pointer (some ⟨g, 0, none⟩), .pointer (some ⟨m, 0, none⟩)], .int .i64 1, .func (.func 29) #[] #[.pointer (some ⟨m, 0, none⟩), .pointer (some ⟨g, 0, none⟩), .pointer (some ⟨g + 1 + 1, 0, none⟩)], .int .i64 6, .func (.func 30) #[] #[.pointer (some ⟨g, 0, none⟩)], .int .i64 53, .func (.func 31) #[] #[.pointer (some ⟨g + 1, 0, none⟩)], .int .i64 6]) (.int .i64 0)).run Try.prog W = .ok (.agg #[.func (.func 25) #[] #[.pointer (some ⟨g, 0, none⟩), .pointer (some ⟨m, 0, none⟩)], .int .i64 1]) W := by kernel_rfl
theorem qrow_at1 (g m : Nat) (W : World) : (Instr.index 49 (.agg #[.func (.func 25) #[] #[.pointer (some ⟨g, 0, none⟩), .pointer (some ⟨m, 0, none⟩)], .int .i64 1, .func (.func 26) #[] #[.pointer (some ⟨g, 0, none⟩), .pointer (some ⟨m, 0, none⟩)], .int .i64 1, .func (.func 27) #[] #[.pointer (some ⟨g, 0, none⟩)], .int .i64 1, .func (.func 28) #[] #[.pointer (some ⟨g, 0, none⟩), .pointer (some ⟨m, 0, none⟩)], .int .i64 1, .func (.func 29) #[] #[.pointer (some ⟨m, 0, none⟩), .pointer (some ⟨g, 0, none⟩), .pointer (some ⟨g + 1 + 1, 0, none⟩)], .int .i64 6, .func (.func 30) #[] #[.pointer (some ⟨g, 0, none⟩)], .int .i64 53, .func (.func 31) #[] #[.pointer (some ⟨g + 1, 0, none⟩)], .int .i64 6]) (.int .i64 1)).run Try.prog W = .ok (.agg #[.func (.func 26) #[] #[.pointer (some ⟨g, 0, none⟩), .pointer (some ⟨m, 0, none⟩)], .int .i64 1]) W := by kernel_rfl
theorem qrow_at2 (g m : Nat) (W : World) : (Instr.index 49 (.agg #[.func (.func 25) #[] #[.pointer (some ⟨g, 0, none⟩), .pointer (some ⟨m, 0, none⟩)], .int .i64 1, .func (.func 26) #[] #[.pointer (some ⟨g, 0, none⟩), .pointer (some ⟨m, 0, none⟩)], .int .i64 1, .func (.func 27) #[] #[.pointer (some ⟨g, 0, none⟩)], .int .i64 1, .func (.func 28) #[] #[.pointer (some ⟨g, 0, none⟩), .pointer (some ⟨m, 0, none⟩)], .int .i64 1, .func (.func 29) #[] #[.pointer (some ⟨m, 0, none⟩), .pointer (some ⟨g, 0, none⟩), .pointer (some ⟨g + 1 + 1, 0, none⟩)], .int .i64 6, .func (.func 30) #[] #[.pointer (some ⟨g, 0, none⟩)], .int .i64 53, .func (.func 31) #[] #[.pointer (some ⟨g + 1, 0, none⟩)], .int .i64 6]) (.int .i64 2)).run Try.prog W = .ok (.agg #[.func (.func 27) #[] #[.pointer (some ⟨g, 0, none⟩)], .int .i64 1]) W := by kernel_rfl
theorem qrow_at3 (g m : Nat) (W : World) : (Instr.index 49 (.agg #[.func (.func 25) #[] #[.pointer (some ⟨g, 0, none⟩), .pointer (some ⟨m, 0, none⟩)], .int .i64 1, .func (.func 26) #[] #[.pointer (some ⟨g, 0, none⟩), .pointer (some ⟨m, 0, none⟩)], .int .i64 1, .func (.func 27) #[] #[.pointer (some ⟨g, 0, none⟩)], .int .i64 1, .func (.func 28) #[] #[.pointer (some ⟨g, 0, none⟩), .pointer (some ⟨m, 0, none⟩)], .int .i64 1, .func (.func 29) #[] #[.pointer (some ⟨m, 0, none⟩), .pointer (some ⟨g, 0, none⟩), .pointer (some ⟨g + 1 + 1, 0, none⟩)], .int .i64 6, .func (.func 30) #[] #[.pointer (some ⟨g, 0, none⟩)], .int .i64 53, .func (.func 31) #[] #[.pointer (some ⟨g + 1, 0, none⟩)], .int .i64 6]) (.int .i64 3)).run Try.prog W = .ok (.agg #[.func (.func 28) #[] #[.pointer (some ⟨g, 0, none⟩), .pointer (some ⟨m, 0, none⟩)], .int .i64 1]) W := by kernel_rfl
theorem qrow_at4 (g m : Nat) (W : World) : (Instr.index 49 (.agg #[.func (.func 25) #[] #[.pointer (some ⟨g, 0, none⟩), .pointer (some ⟨m, 0, none⟩)], .int .i64 1, .func (.func 26) #[] #[.pointer (some ⟨g, 0, none⟩), .pointer (some ⟨m, 0, none⟩)], .int .i64 1, .func (.func 27) #[] #[.pointer (some ⟨g, 0, none⟩)], .int .i64 1, .func (.func 28) #[] #[.pointer (some ⟨g, 0, none⟩), .pointer (some ⟨m, 0, none⟩)], .int .i64 1, .func (.func 29) #[] #[.pointer (some ⟨m, 0, none⟩), .pointer (some ⟨g, 0, none⟩), .pointer (some ⟨g + 1 + 1, 0, none⟩)], .int .i64 6, .func (.func 30) #[] #[.pointer (some ⟨g, 0, none⟩)], .int .i64 53, .func (.func 31) #[] #[.pointer (some ⟨g + 1, 0, none⟩)], .int .i64 6]) (.int .i64 4)).run Try.prog W = .ok (.agg #[.func (.func 29) #[] #[.pointer (some ⟨m, 0, none⟩), .pointer (some ⟨g, 0, none⟩), .pointer (some ⟨g + 1 + 1, 0, none⟩)], .int .i64 6]) W := by kernel_rfl
theorem qrow_at5 (g m : Nat) (W : World) : (Instr.index 49 (.agg #[.func (.func 25) #[] #[.pointer (some ⟨g, 0, none⟩), .pointer (some ⟨m, 0, none⟩)], .int .i64 1, .func (.func 26) #[] #[.pointer (some ⟨g, 0, none⟩), .pointer (some ⟨m, 0, none⟩)], .int .i64 1, .func (.func 27) #[] #[.pointer (some ⟨g, 0, none⟩)], .int .i64 1, .func (.func 28) #[] #[.pointer (some ⟨g, 0, none⟩), .pointer (some ⟨m, 0, none⟩)], .int .i64 1, .func (.func 29) #[] #[.pointer (some ⟨m, 0, none⟩), .pointer (some ⟨g, 0, none⟩), .pointer (some ⟨g + 1 + 1, 0, none⟩)], .int .i64 6, .func (.func 30) #[] #[.pointer (some ⟨g, 0, none⟩)], .int .i64 53, .func (.func 31) #[] #[.pointer (some ⟨g + 1, 0, none⟩)], .int .i64 6]) (.int .i64 5)).run Try.prog W = .ok (.agg #[.func (.func 30) #[] #[.pointer (some ⟨g, 0, none⟩)], .int .i64 53]) W := by kernel_rfl
theorem qrow_at6 (g m : Nat) (W : World) : (Instr.index 49 (.agg #[.func (.func 25) #[] #[.pointer (some ⟨g, 0, none⟩), .pointer (some ⟨m, 0, none⟩)], .int .i64 1, .func (.func 26) #[] #[.pointer (some ⟨g, 0, none⟩), .pointer (some ⟨m, 0, none⟩)], .int .i64 1, .func (.func 27) #[] #[.pointer (some ⟨g, 0, none⟩)], .int .i64 1, .func (.func 28) #[] #[.pointer (some ⟨g, 0, none⟩), .pointer (some ⟨m, 0, none⟩)], .int .i64 1, .func (.func 29) #[] #[.pointer (some ⟨m, 0, none⟩), .pointer (some ⟨g, 0, none⟩), .pointer (some ⟨g + 1 + 1, 0, none⟩)], .int .i64 6, .func (.func 30) #[] #[.pointer (some ⟨g, 0, none⟩)], .int .i64 53, .func (.func 31) #[] #[.pointer (some ⟨g + 1, 0, none⟩)], .int .i64 6]) (.int .i64 6)).run Try.prog W = .ok (.agg #[.func (.func 31) #[] #[.pointer (some ⟨g + 1, 0, none⟩)], .int .i64 6]) W := by kernel_rfl
/-- The questions' answers, with what each is told by. -/
def qlist (k p e s : Int) (t m : Bool) (n : Nat) (x : Bool) (z L : Int) : List (Bool × Int) :=
  [((k != 1) && !m, 1), ((p == -1) && (m || (e != 0) || (s != 0) || t), 1), (decide (p < -1) || decide (p ≥ 281474976710656), 1), (decide (e < 0) || decide (e ≥ 2147483648) || (m && ((s != 0) || t)), 1),
   ((m != ((n : Int) == 0)) || decide ((n : Int) > 64) || x, 6), (decide (s < 0) || decide (s > wrap64 (2147483648 - L)), 53), (decide (z > 65536), 6)]
def pickQ : List (Bool × Int) → Int
  | [] => 0
  | (b, e) :: r => if b = true then e else pickQ r
def markerB (k : Int) : Bool := if k = 2 then true else (k == 3)
def lenF (k : Int) (l : List S47) : Int := if markerB k = true then 1 else (l.length : Int)
theorem marker_ev (k p e s : Int) (t : Bool) (l : List S47) : batch_marker.f k p e s t l = some (markerB k) := by
  unfold batch_marker.f markerB; split <;> rfl
theorem Len_ev (k p e s : Int) (t : Bool) (l : List S47) : batch_Len.f k p e s t l = some (lenF k l) := by
  unfold batch_Len.f lenF; rw [marker_ev, Option.bind_some]; split <;> rfl
def checkF (k p e s : Int) (t : Bool) (l : List S47) : Int := pickQ (qlist k p e s t (markerB k) l.length (recsBad l) (recsSize l) (lenF k l))
theorem take_one {l : List S47} {k : Nat} (h : k < l.length) : l.take (k + 1) = l.take k ++ [rd_T47 l (k : Int)] := by
  rw [List.take_add_one, List.getElem?_eq_getElem h, rd_T47, Int.toNat_natCast, List.getD_eq_getElem?_getD, List.getElem?_eq_getElem h]; rfl
theorem recsSize_step {l : List S47} {k : Nat} (h : k < l.length) : recsSize (l.take (k + 1)) = recSize (recsSize (l.take k)) (rd_T47 l (k : Int)) := by
  rw [take_one h, recsSize, List.foldl_append]; rfl
theorem recsBad_step {l : List S47} {k : Nat} (h : k < l.length) : recsBad (l.take (k + 1)) = (recsBad (l.take k) || recBad (rd_T47 l (k : Int))) := by
  rw [take_one h, recsBad, List.any_append, List.any_cons, List.any_nil, Bool.or_false]; rfl

set_option maxHeartbeats 1600000 in
set_option maxRecDepth 100000 in
theorem Check_calls (a0 a1 a2 a3 : Int) (a4 : Bool) (A0 : Option Addr) (c0 : Nat) (l0 : List S47) (w : World) (hr0 : Kd.C k47 w A0 l0.length l0) (hc0 : l0.length ≤ c0) :
    Calls Try.prog 12 #[.agg (bcells a0 a1 a2 a3 a4 A0 l0.length c0)] w fun e w' => e = .returned (.int .i64 (checkF a0 a1 a2 a3 a4 l0)) ∧ Below w.heap.size w w' := by
  have HR := Aside0.mk hr0
  have hmax := Kd.C_max hr0
  clear hr0
  unfold bcells
  go_enter Try.func12, Try.ntmps12
  go_wp2_with fail
  go_loopw [6, 14] (fun r6 i14 wr => ∃ k : Nat, k ≤ l0.length ∧ i14 = .int .i64 k ∧ Aside0 (wr.heap[w.heap.size]? = some (.cells (bcells a0 a1 a2 a3 a4 A0 l0.length c0) 24 (0, 0)) ∧ wr.heap[w.heap.size + 1]? = some (.cells #[.int .i64 (recsSize (l0.take k))] 3 (0,0)) ∧ wr.heap[w.heap.size + 1 + 1]? = some (.cells #[.bool (recsBad (l0.take k))] 4 (0,0)) ∧ Below w.heap.size w wr)) (fun _ i14 _ => l0.length - (intOf i14).toNat)
  case atStart =>
    refine ⟨0, by omega, rfl, ⟨?_, ?_, ?_, ?_⟩⟩
    · exact blk_alloc (blk_alloc (blk_new w _) _) _
    · exact blk_alloc (heap_alloc2_new w _ _) _
    · exact heap_alloc3_new w _ _ _
    · exact below_alloc (below_alloc (below_alloc (Below.refl _ _) _) _) _
  case round =>
    obtain ⟨k, hk, rfl, HI⟩ := hrel
    by_cases hlt : k < l0.length
    · have hx := at_T47 (Kd.C_below HR.out HI.out.2.2.2) (k : Int) (by omega) (by omega)
      rw [Int.toNat_natCast] at hx
      obtain ⟨ad, hA, x0, x1, x2⟩ := hx
      have g0 : ∀ o, (wr.alloc o).cell? ⟨w.heap.size + 1, 0, none⟩ = some (.int .i64 (recsSize (l0.take k))) := fun o => m_cell (blk_alloc HI.out.2.1 o)
      have g1 : ∀ o, (wr.alloc o).cell? ⟨w.heap.size + 1 + 1, 0, none⟩ = some (.bool (recsBad (l0.take k))) := fun o => m_cell (blk_alloc HI.out.2.2.1 o)
      have f0 : ∀ o, (wr.alloc o).frozen? ⟨w.heap.size + 1, 0, none⟩ = false := fun o => blk_frozen (blk_alloc HI.out.2.1 o) 0
      have f1 : ∀ o, (wr.alloc o).frozen? ⟨w.heap.size + 1 + 1, 0, none⟩ = false := fun o => blk_frozen (blk_alloc HI.out.2.2.1 o) 0
      have hS : w.heap.size + 1 + 1 < wr.heap.size := blk_lt HI.out.2.2.1
      have hne1 : w.heap.size + 1 ≠ wr.heap.size := by omega
      have hne2 : w.heap.size + 1 + 1 ≠ wr.heap.size := by omega
      have hl1 : decide ((k : Int) < (l0.length : Int)) = true := by simpa using hlt
      subst hA
      have hk1 : k + 1 ≤ l0.length := hlt
      have hbs := recsBad_step hlt
      have hss := recsSize_step hlt
      go_wp2_with fail
      all_goals
        go_roundw
        case rel =>
          refine ⟨k + 1, hk1, by go_num, ⟨?_, ?_, ?_, ?_⟩⟩
          · exact blk_far (blk_far (blk_alloc HI.out.1 _) (by simp) _) (by simp; omega) _
          · rw [hss]; exact blk_far (blk_put (blk_alloc HI.out.2.1 _) 0 _ rfl) (by simp) _
          · rw [hbs]
            refine blk_put (blk_far (blk_alloc HI.out.2.2.1 _) (by simp) _) 0 _ ?_
            first | (simp [recBad, *]; done) | (simp_all [recBad]; done)
          · exact ((below_alloc HI.out.2.2.2 _).setCell (by simp) _).setCell (by simp; omega) _
        case measure => simp [intOf]; omega
    · have hl1 : decide ((k : Int) < (l0.length : Int)) = false := by simpa using hlt
      obtain rfl : k = l0.length := by omega
      rw [List.take_length] at HI
      obtain ⟨b0, b1, b2, b3, b4, b5⟩ := b_cells HI.out.1
      go_wp2_with fail
      refine (batch_marker.calls a0 a1 a2 a3 a4 A0 c0 l0 _ _ (Kd.C_below HR.out HI.out.2.2.2) hc0 (marker_ev ..)).mono ?_
      rintro e w1 ⟨rfl, hb⟩
      have HI1 := Aside0.mk (⟨blk_below HI.out.1 hb, blk_below HI.out.2.1 hb, blk_below HI.out.2.2.1 hb, below_step HI.out.2.2.2 hb⟩ : w1.heap[w.heap.size]? = some (.cells (bcells a0 a1 a2 a3 a4 A0 l0.length c0) 24 (0, 0)) ∧ w1.heap[w.heap.size + 1]? = some (.cells #[.int .i64 (recsSize l0)] 3 (0,0)) ∧ w1.heap[w.heap.size + 1 + 1]? = some (.cells #[.bool (recsBad l0)] 4 (0,0)) ∧ Below w.heap.size w w1)
      clear HI hb b0 b1 b2 b3 b4 b5
      go_wp2_with fail
      go_loopw [10, 69] (fun q10 i69 wr => ∃ k : Nat, k ≤ 7 ∧ i69 = .int .i64 k ∧ Aside0 (pickQ ((qlist a0 a1 a2 a3 a4 (markerB a0) l0.length (recsBad l0) (recsSize l0) (lenF a0 l0)).drop k) = checkF a0 a1 a2 a3 a4 l0) ∧ Aside0 (wr.heap[w.heap.size]? = some (.cells (bcells a0 a1 a2 a3 a4 A0 l0.length c0) 24 (0, 0)) ∧ wr.heap[w.heap.size + 1]? = some (.cells #[.int .i64 (recsSize l0)] 3 (0,0)) ∧ wr.heap[w.heap.size + 1 + 1]? = some (.cells #[.bool (recsBad l0)] 4 (0,0)) ∧ wr.heap[w1.heap.size]? = some (.cells #[.bool (markerB a0)] 4 (0,0)) ∧ Below w.heap.size w wr)) (fun _ i69 _ => 7 - (intOf i69).toNat)
      case atStart => exact ⟨0, by omega, rfl, ⟨rfl⟩, ⟨blk_alloc (blk_alloc HI1.out.1 _) _, blk_alloc (blk_alloc HI1.out.2.1 _) _, blk_alloc (blk_alloc HI1.out.2.2.1 _) _, blk_alloc (blk_new w1 _) _, below_alloc (below_alloc HI1.out.2.2.2 _) _⟩⟩
      case round =>
        obtain ⟨k, hk, rfl, HP, HI⟩ := hrel
        clear HI1
        rcases k with _ | _ | _ | _ | _ | _ | _ | k
        · have HP' : (if ((a0 != 1) && !(markerB a0)) = true then (1 : Int) else pickQ ((qlist a0 a1 a2 a3 a4 (markerB a0) l0.length (recsBad l0) (recsSize l0) (lenF a0 l0)).drop 1)) = checkF a0 a1 a2 a3 a4 l0 := HP.out
          clear HP
          have hx := qrow_at0 w.heap.size w1.heap.size
          go_wp2_with fail
          refine (q25 (blk_alloc HI.out.1 _) (blk_alloc HI.out.2.2.2.1 _)).mono ?_
          rintro e w2 ⟨he, hd⟩
          generalize hq : ((a0 != 1) && !(markerB a0)) = b at he HP'
          subst he
          obtain ⟨n2, rfl⟩ := hd.out
          cases b with
          | true =>
            rw [if_pos rfl] at HP'
            go_wp2_with fail
            go_ret
            exact ⟨by rw [← HP']; rfl, pw_below_drewN (below_alloc HI.out.2.2.2.2 _) _⟩
          | false =>
            rw [if_neg (by decide)] at HP'
            go_wp2_with fail
            go_roundw
            case rel =>
              exact ⟨1, by omega, by go_num, ⟨HP'⟩, ⟨blk_drewN (blk_alloc HI.out.1 _) _, blk_drewN (blk_alloc HI.out.2.1 _) _, blk_drewN (blk_alloc HI.out.2.2.1 _) _, blk_drewN (blk_alloc HI.out.2.2.2.1 _) _, pw_below_drewN (below_alloc HI.out.2.2.2.2 _) _⟩⟩
            case measure => simp [intOf]
        · have HP' : (if ((a1 == -1) && ((markerB a0) || (a2 != 0) || (a3 != 0) || a4)) = true then (1 : Int) else pickQ ((qlist a0 a1 a2 a3 a4 (markerB a0) l0.length (recsBad l0) (recsSize l0) (lenF a0 l0)).drop 2)) = checkF a0 a1 a2 a3 a4 l0 := HP.out
          clear HP
          have hx := qrow_at1 w.heap.size w1.heap.size
          go_wp2_with fail
          refine (q26 (blk_alloc HI.out.1 _) (blk_alloc HI.out.2.2.2.1 _)).mono ?_
          rintro e w2 ⟨he, hd⟩
          generalize hq : ((a1 == -1) && ((markerB a0) || (a2 != 0) || (a3 != 0) || a4)) = b at he HP'
          subst he
          obtain ⟨n2, rfl⟩ := hd.out
          cases b with
          | true =>
            rw [if_pos rfl] at HP'
            go_wp2_with fail
            go_ret
            exact ⟨by rw [← HP']; rfl, pw_below_drewN (below_alloc HI.out.2.2.2.2 _) _⟩
          | false =>
            rw [if_neg (by decide)] at HP'
            go_wp2_with fail
            go_roundw
            case rel =>
              exact ⟨2, by omega, by go_num, ⟨HP'⟩, ⟨blk_drewN (blk_alloc HI.out.1 _) _, blk_drewN (blk_alloc HI.out.2.1 _) _, blk_drewN (blk_alloc HI.out.2.2.1 _) _, blk_drewN (blk_alloc HI.out.2.2.2.1 _) _, pw_below_drewN (below_alloc HI.out.2.2.2.2 _) _⟩⟩
            case measure => simp [intOf]
        · have HP' : (if (decide (a1 < -1) || decide (a1 ≥ 281474976710656)) = true then (1 : Int) else pickQ ((qlist a0 a1 a2 a3 a4 (markerB a0) l0.length (recsBad l0) (recsSize l0) (lenF a0 l0)).drop 3)) = checkF a0 a1 a2 a3 a4 l0 := HP.out
          clear HP
          have hx := qrow_at2 w.heap.size w1.heap.size
          go_wp2_with fail
          refine (q27 (blk_alloc HI.out.1 _)).mono ?_
          rintro e w2 ⟨he, hd⟩
          generalize hq : (decide (a1 < -1) || decide (a1 ≥ 281474976710656)) = b at he HP'
          subst he
          obtain ⟨n2, rfl⟩ := hd.out
          cases b with
          | true =>
            rw [if_pos rfl] at HP'
            go_wp2_with fail
            go_ret
            exact ⟨by rw [← HP']; rfl, pw_below_drewN (below_alloc HI.out.2.2.2.2 _) _⟩
          | false =>
            rw [if_neg (by decide)] at HP'
            go_wp2_with fail
            go_roundw
            case rel =>
              exact ⟨3, by omega, by go_num, ⟨HP'⟩, ⟨blk_drewN (blk_alloc HI.out.1 _) _, blk_drewN (blk_alloc HI.out.2.1 _) _, blk_drewN (blk_alloc HI.out.2.2.1 _) _, blk_drewN (blk_alloc HI.out.2.2.2.1 _) _, pw_below_drewN (below_alloc HI.out.2.2.2.2 _) _⟩⟩
            case measure => simp [intOf]
        · have HP' : (if (decide (a2 < 0) || decide (a2 ≥ 2147483648) || ((markerB a0) && ((a3 != 0) || a4))) = true then (1 : Int) else pickQ ((qlist a0 a1 a2 a3 a4 (markerB a0) l0.length (recsBad l0) (recsSize l0) (lenF a0 l0)).drop 4)) = checkF a0 a1 a2 a3 a4 l0 := HP.out
          clear HP
          have hx := qrow_at3 w.heap.size w1.heap.size
          go_wp2_with fail
          refine (q28 (blk_alloc HI.out.1 _) (blk_alloc HI.out.2.2.2.1 _)).mono ?_
          rintro e w2 ⟨he, hd⟩
          generalize hq : (decide (a2 < 0) || decide (a2 ≥ 2147483648) || ((markerB a0) && ((a3 != 0) || a4))) = b at he HP'
          subst he
          obtain ⟨n2, rfl⟩ := hd.out
          cases b with
          | true =>
            rw [if_pos rfl] at HP'
            go_wp2_with fail
            go_ret
            exact ⟨by rw [← HP']; rfl, pw_below_drewN (below_alloc HI.out.2.2.2.2 _) _⟩
          | false =>
            rw [if_neg (by decide)] at HP'
            go_wp2_with fail
            go_roundw
            case rel =>
              exact ⟨4, by omega, by go_num, ⟨HP'⟩, ⟨blk_drewN (blk_alloc HI.out.1 _) _, blk_drewN (blk_alloc HI.out.2.1 _) _, blk_drewN (blk_alloc HI.out.2.2.1 _) _, blk_drewN (blk_alloc HI.out.2.2.2.1 _) _, pw_below_drewN (below_alloc HI.out.2.2.2.2 _) _⟩⟩
            case measure => simp [intOf]
        · have HP' : (if (((markerB a0) != ((l0.length : Int) == 0)) || decide ((l0.length : Int) > 64) || (recsBad l0)) = true then (6 : Int) else pickQ ((qlist a0 a1 a2 a3 a4 (markerB a0) l0.length (recsBad l0) (recsSize l0) (lenF a0 l0)).drop 5)) = checkF a0 a1 a2 a3 a4 l0 := HP.out
          clear HP
          have hx := qrow_at4 w.heap.size w1.heap.size
          go_wp2_with fail
          refine (q29 (blk_alloc HI.out.2.2.2.1 _) (blk_alloc HI.out.1 _) (blk_alloc HI.out.2.2.1 _)).mono ?_
          rintro e w2 ⟨he, hd⟩
          generalize hq : (((markerB a0) != ((l0.length : Int) == 0)) || decide ((l0.length : Int) > 64) || (recsBad l0)) = b at he HP'
          subst he
          obtain ⟨n2, rfl⟩ := hd.out
          cases b with
          | true =>
            rw [if_pos rfl] at HP'
            go_wp2_with fail
            go_ret
            exact ⟨by rw [← HP']; rfl, pw_below_drewN (below_alloc HI.out.2.2.2.2 _) _⟩
          | false =>
            rw [if_neg (by decide)] at HP'
            go_wp2_with fail
            go_roundw
            case rel =>
              exact ⟨5, by omega, by go_num, ⟨HP'⟩, ⟨blk_drewN (blk_alloc HI.out.1 _) _, blk_drewN (blk_alloc HI.out.2.1 _) _, blk_drewN (blk_alloc HI.out.2.2.1 _) _, blk_drewN (blk_alloc HI.out.2.2.2.1 _) _, pw_below_drewN (below_alloc HI.out.2.2.2.2 _) _⟩⟩
            case measure => simp [intOf]
        · have HP' : (if (decide (a3 < 0) || decide (a3 > wrap64 (2147483648 - (lenF a0 l0)))) = true then (53 : Int) else pickQ ((qlist a0 a1 a2 a3 a4 (markerB a0) l0.length (recsBad l0) (recsSize l0) (lenF a0 l0)).drop 6)) = checkF a0 a1 a2 a3 a4 l0 := HP.out
          clear HP
          have hx := qrow_at5 w.heap.size w1.heap.size
          go_wp2_with fail
          refine (q30 _ _ a0 a1 a2 a3 a4 A0 c0 l0 _ (blk_alloc HI.out.1 _) (Kd.C_below HR.out (below_alloc HI.out.2.2.2.2 _)) hc0 (Len_ev ..)).mono ?_
          rintro e w2 ⟨he, hd⟩
          generalize hq : (decide (a3 < 0) || decide (a3 > wrap64 (2147483648 - (lenF a0 l0)))) = b at he HP'
          subst he
          have hnew := blk_below (blk_new wr _) hd
          have hc_ : w2.cell? ⟨wr.heap.size, 1, none⟩ = some (.int .i64 53) := by rw [blk_cell hnew]; rfl
          cases b with
          | true =>
            rw [if_pos rfl] at HP'
            go_wp2_with fail
            go_ret
            exact ⟨by rw [← HP']; rfl, below_step (below_alloc HI.out.2.2.2.2 _) hd⟩
          | false =>
            rw [if_neg (by decide)] at HP'
            go_wp2_with fail
            go_roundw
            case rel =>
              exact ⟨6, by omega, by go_num, ⟨HP'⟩, ⟨blk_below (blk_alloc HI.out.1 _) hd, blk_below (blk_alloc HI.out.2.1 _) hd, blk_below (blk_alloc HI.out.2.2.1 _) hd, blk_below (blk_alloc HI.out.2.2.2.1 _) hd, below_step (below_alloc HI.out.2.2.2.2 _) hd⟩⟩
            case measure => simp [intOf]
        · have HP' : (if (decide ((recsSize l0) > 65536)) = true then (6 : Int) else pickQ ((qlist a0 a1 a2 a3 a4 (markerB a0) l0.length (recsBad l0) (recsSize l0) (lenF a0 l0)).drop 7)) = checkF a0 a1 a2 a3 a4 l0 := HP.out
          clear HP
          have hx := qrow_at6 w.heap.size w1.heap.size
          go_wp2_with fail
          refine (q31 (blk_alloc HI.out.2.1 _)).mono ?_
          rintro e w2 ⟨he, hd⟩
          generalize hq : (decide ((recsSize l0) > 65536)) = b at he HP'
          subst he
          obtain ⟨n2, rfl⟩ := hd.out
          cases b with
          | true =>
            rw [if_pos rfl] at HP'
            go_wp2_with fail
            go_ret
            exact ⟨by rw [← HP']; rfl, pw_below_drewN (below_alloc HI.out.2.2.2.2 _) _⟩
          | false =>
            rw [if_neg (by decide)] at HP'
            go_wp2_with fail
            go_roundw
            case rel =>
              exact ⟨7, by omega, by go_num, ⟨HP'⟩, ⟨blk_drewN (blk_alloc HI.out.1 _) _, blk_drewN (blk_alloc HI.out.2.1 _) _, blk_drewN (blk_alloc HI.out.2.2.1 _) _, blk_drewN (blk_alloc HI.out.2.2.2.1 _) _, pw_below_drewN (below_alloc HI.out.2.2.2.2 _) _⟩⟩
            case measure => simp [intOf]
        · obtain rfl : k = 0 := by omega
          have HP' : (0 : Int) = checkF a0 a1 a2 a3 a4 l0 := HP.out
          go_wp2_with fail
          go_ret
          exact ⟨by rw [← HP']; rfl, HI.out.2.2.2.2⟩
end Go.Proofs.Ythnmgbmpbhdfcaa.Hand
