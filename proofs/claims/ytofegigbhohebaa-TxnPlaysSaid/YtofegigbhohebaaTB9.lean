/- slices.DeleteFunc, at a row of one's own; what a mark does. -/
import Derived.Test.YtofegigbhohebaaTB8
namespace Go.Proofs.Ytofegigbhohebaa.Hand
open Go.RowKit Go.Proofs.Ytofegigbhohebaa Go.Proofs.YtofegigbhohebaaW.PrintWords Go.Proofs.YtofegigbhohebaaW.PrintLast Go.Lib Go.Sort
set_option linter.unusedVariables false
set_option linter.unusedSimpArgs false
theorem R_open {w : World} {ok : Nat → Prop} {g n cap : Nat} {xs : List Int} (h : Kd.R (Kd.int .i64) 3 w 0 ok (.slice (some ⟨g, 0, none⟩) n cap) xs) : ∃ cur, w.heap[g]? = some (.cells cur 3 (0, 0)) ∧ n = xs.length ∧ n ≤ cap ∧ cap ≤ maxLen ∧ cur.size = cap ∧ cur.toList.take n = xs.map (Value.int .i64) ∧ ok g := by
  have hn := (Kd.R_reads' h).1
  have ho := Kd.own_of_R (enc := Value.int .i64) h
  obtain ⟨h1, ⟨h2, -⟩ | ⟨g', cap', cur, h2, -, h3, h4, h5, h6, h7⟩⟩ := ho
  · cases h2
  · cases h2
    refine ⟨cur, h3, rfl, h4, h5, by rw [h6, Nat.mul_one], ?_, h.1 g (by simp [Value.ownBlock])⟩
    rw [Nat.mul_one] at h7
    rw [h7]
    simp [encs]
theorem R_mk {w : World} {ok : Nat → Prop} {g cap : Nat} {xs : List Int} {cur : Array Value} (h3 : w.heap[g]? = some (.cells cur 3 (0, 0))) (h4 : xs.length ≤ cap) (h5 : cap ≤ maxLen) (h6 : cur.size = cap) (h7 : cur.toList.take xs.length = xs.map (Value.int .i64)) (hok : ok g) : Kd.R (Kd.int .i64) 3 w 0 ok (.slice (some ⟨g, 0, none⟩) xs.length cap) xs := by
  refine Kd.R_of_own (enc := Value.int .i64) ⟨by simp [encs], .inr ⟨g, cap, cur, rfl, Nat.zero_le _, h3, h4, h5, by rw [h6, Nat.mul_one], ?_⟩⟩ (fun k hk => ?_)
  · rw [Nat.mul_one, h7]; simp [encs]
  · have : g = k := by simpa [Value.ownBlock] using hk
    exact this ▸ hok
theorem gives62 (place n : Int) (B : Nat) (W : World) (hc : W.cell? ⟨B, 4, none⟩ = some (.int .i64 place)) : FnGives Try.prog 62 #[.pointer (some ⟨B, 0, none⟩)] #[.int .i64 n] (.bool (decide (n = place))) W := by
  show Calls Try.prog 62 #[.int .i64 n, .pointer (some ⟨B, 0, none⟩)] W _
  go_enter Try.func62, Try.ntmps62
  go_wp2
  all_goals (go_ret; exact ⟨retB (by first | rfl | simp_all), 0, rfl⟩)
theorem putCells_take (d : Array Int) (r : List Int) (cur : Array Value) (h1 : r.length ≤ d.size) (h2 : d.toList.take r.length = r) (h3 : d.size ≤ cur.size) : (putCells (Value.int .i64) 0 d cur).toList.take r.length = r.map (Value.int .i64) := by
  apply List.ext_getElem?
  intro k
  rw [List.getElem?_take]
  split
  · rename_i hk
    have hkd : k < d.size := by omega
    have hkc : k < cur.size := by omega
    have hr : r[k]? = some d[k]! := by
      have e : r[k]? = (d.toList.take r.length)[k]? := by rw [h2]
      rw [e, List.getElem?_take, if_pos hk, Array.getElem?_toList, Array.getElem?_eq_getElem hkd, getElem!_pos d k hkd]
    unfold putCells
    rw [Array.getElem?_toList, Array.getElem?_mapIdx, Array.getElem?_eq_getElem hkc, List.getElem?_map, hr]
    simp [hkd]
  · rename_i hk
    rw [List.getElem?_map, List.getElem?_eq_none (by omega)]
    rfl
set_option maxRecDepth 100000 in
/-- DeleteFunc at a row of one's own: what is not the place stays, in its order. -/
theorem del_c {w : World} {ok : Nat → Prop} {g c B : Nat} {l : List Int} (h : Kd.R (Kd.int .i64) 3 w 0 ok (.slice (some ⟨g, 0, none⟩) l.length c) l) (place : Int) (hB : w.cell? ⟨B, 4, none⟩ = some (.int .i64 place)) (hne : B ≠ g) (hl : l.length ≤ 100) :
    Calls Try.prog 61 #[.slice (some ⟨g, 0, none⟩) l.length c, .func (.func 62) #[] #[.pointer (some ⟨B, 0, none⟩)]] w fun e w' => e = .returned (.slice (some ⟨g, 0, none⟩) (l.filter fun n => !decide (n = place)).length c) ∧ Kd.R (Kd.int .i64) 3 w' 0 ok (.slice (some ⟨g, 0, none⟩) (l.filter fun n => !decide (n = place)).length c) (l.filter fun n => !decide (n = place)) ∧ w.grownBy w' (some g) := by
  obtain ⟨cur, hh, -, hlc, hcm, hcs, ht, hok⟩ := R_open h
  have hBlt : B < w.heap.size := World.block_lt_of_cell? w ⟨B, 4, none⟩ hB
  have hglt : g < w.heap.size := (Array.getElem?_eq_some_iff.1 hh).1
  have eg : ∀ args w, (callFunc 62 args).run Try.prog w = .ok (.enter 62 args) w := enters_of Try.func62 (by kernel_rfl) rfl
  have hH : Holds (Value.int .i64) w g 0 l.toArray := by
    intro j hj
    rw [List.size_toArray] at hj
    refine ⟨?_, blk_frozen hh (0 + j)⟩
    rw [blk_cell hh (0 + j), Nat.zero_add]
    have h1 : (cur.toList.take l.length)[j]? = some (Value.int .i64 l[j]) := by rw [ht, List.getElem?_map, List.getElem?_eq_getElem hj]; rfl
    rw [List.getElem?_take, if_pos hj, Array.getElem?_toList] at h1
    rw [h1]
    simp [hj]
  have hcon := Try.slices_DeleteFunc (Value.int .i64) (fun _ => rfl) (fun n => decide (n = place)) 62 #[.pointer (some ⟨B, 0, none⟩)] eg 0 Try.zeroValue3 g 0 c l.toArray w
    (fun W x hb => gives62 place x B W ((hb.cell (p := ⟨B, 4, none⟩) hBlt).trans hB))
    (fun n os dk x _ => gives62 place x B _ (by
      unfold sortWorld
      rw [cell?_grow _ _ _ (by show B < (putRow _ _ _ _ _).heap.size; rw [size_putRow]; exact hBlt), cell?_putRow_other _ _ g 0 _ _ (Or.inl hne)]
      exact hB)) hH (by rw [List.size_toArray]; omega) (by rw [List.size_toArray]; exact hlc)
  rw [List.size_toArray] at hcon
  refine hcon.mono ?_
  rintro e w' ⟨rfl, q, rfl⟩
  obtain ⟨r, hr⟩ : ∃ r, (l.filter fun n => !decide (n = place)) = r := ⟨_, rfl⟩
  have hrl : r.length ≤ l.length := by rw [← hr]; exact List.length_filter_le _ _
  have e0 : (l.toArray.toList.filter fun n => !decide (n = place)) = r := hr
  rw [e0]
  refine ⟨rfl, ?_, ⟨rfl, rfl, rfl, by show w.heap.size ≤ (w.heap.modify _ _).size; simp, fun k hk hkg => ?_⟩⟩
  · have hheap : (putRow (Value.int .i64) (Sort.ahead w q) g 0 (r ++ List.replicate (l.length - r.length) 0).toArray).heap[g]? = some (.cells (putCells (Value.int .i64) 0 (r ++ List.replicate (l.length - r.length) 0).toArray cur) 3 (0, 0)) := by
      show (w.heap.modify g _)[g]? = _
      rw [Array.getElem?_modify, if_pos rfl, hh]
      rfl
    refine R_mk hheap (by omega) hcm ?_ ?_ hok
    · unfold putCells; rw [Array.size_mapIdx]; exact hcs
    · refine putCells_take _ r cur (by simp) (by simp) ?_
      rw [List.size_toArray, List.length_append, List.length_replicate]; omega
  · show (w.heap.modify g _)[k]? = _
    rw [Array.getElem?_modify, if_neg (fun e => hkg (by rw [e]))]
end Go.Proofs.Ytofegigbhohebaa.Hand
