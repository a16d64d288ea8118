/- slices.Insert of one number, at a row of one's own. -/
import Derived.Test.YtofegigbhohebaaTB10
import Derived.Test.YtofegigbhohebaaShIns
namespace Go.Proofs.Ytofegigbhohebaa.Hand
open Go.RowKit Go.Proofs.Ytofegigbhohebaa Go.Proofs.YtofegigbhohebaaW.PrintWords Go.Proofs.YtofegigbhohebaaW.PrintLast
set_option linter.unusedVariables false
set_option linter.unusedSimpArgs false
theorem heap_setCells {b : Nat} {t : TypeId} {fr : Nat × Nat} : ∀ (vs : List Value) (o : Nat) (w : World) (cur : Array Value), w.heap[b]? = some (.cells cur t fr) → ∃ cur', (w.setCells b o vs).heap[b]? = some (.cells cur' t fr) ∧ cur'.size = cur.size
  | [], _, w, cur, h => ⟨cur, h, rfl⟩
  | v :: r, o, w, cur, h => by
    obtain ⟨cur', h1, h2⟩ := heap_setCells r (o + 1) (w.setCell ⟨b, o, none⟩ v) (cur.setIfInBounds o v) (by
      show (w.heap.modify b _)[b]? = _
      rw [Array.getElem?_modify, if_pos rfl, h]
      rfl)
    exact ⟨cur', h1, by rw [h2, Array.size_setIfInBounds]⟩
theorem grown_setCells (b : Nat) : ∀ (vs : List Value) (o : Nat) (w : World), w.grownBy (w.setCells b o vs) (some b)
  | [], _, w => ⟨rfl, rfl, rfl, Nat.le_refl _, fun _ _ _ => rfl⟩
  | v :: r, o, w => by
    have h := grown_setCells b r (o + 1) (w.setCell ⟨b, o, none⟩ v)
    have hs : (w.setCell ⟨b, o, none⟩ v).heap.size = w.heap.size := by simp [World.setCell]
    exact ⟨h.os, h.tape, h.output, by rw [← hs]; exact h.size, fun k hk hne => (h.block k (by rw [hs]; exact hk) hne).trans (Below.heap_setCell w ⟨b, o, none⟩ v k (fun e => hne (by rw [e])))⟩
theorem size_setCells (b : Nat) : ∀ (vs : List Value) (o : Nat) (w : World), (w.setCells b o vs).heap.size = w.heap.size
  | [], _, w => rfl
  | v :: r, o, w => by rw [World.setCells, size_setCells b r]; simp [World.setCell]
theorem take_cells {w : World} {g : Nat} {cur : Array Value} {l : List Int} (hh : w.heap[g]? = some (.cells cur 3 (0, 0))) (h : ∀ j, j < l.length → w.cell? ⟨g, j, none⟩ = some (.int .i64 (l.getD j 0))) : cur.toList.take l.length = l.map (Value.int .i64) := by
  apply List.ext_getElem?
  intro j
  rw [List.getElem?_take]
  split
  · rename_i hj
    have := h j hj
    rw [blk_cell hh j] at this
    rw [Array.getElem?_toList, this, List.getElem?_map, List.getElem?_eq_getElem hj]
    simp [List.getD_eq_getElem?_getD, hj]
  · rename_i hj
    rw [List.getElem?_map, List.getElem?_eq_none (by omega)]
    rfl
theorem insertF_getD (l : List Int) (x : Int) (k : Nat) (hk : l.countP (· < x) = k) (j : Nat) : (insertF l x).getD j 0 = if j < k then l.getD j 0 else if j = k then x else l.getD (j - 1) 0 := by
  have hkl : k ≤ l.length := by rw [← hk]; exact List.countP_le_length
  unfold insertF
  rw [hk]
  have ht : (l.take k).length = k := by rw [List.length_take]; omega
  simp only [List.getD_eq_getElem?_getD]
  split
  · rename_i hj
    rw [List.getElem?_append_left (by rw [List.length_append, ht]; simp; omega), List.getElem?_append_left (by omega), List.getElem?_take, if_pos hj]
  · split
    · rename_i hj he
      subst he
      rw [List.getElem?_append_left (by rw [List.length_append, ht]; simp), List.getElem?_append_right (by omega), ht, Nat.sub_self]
      rfl
    · rename_i hj he
      rw [List.getElem?_append_right (by rw [List.length_append, ht]; simp; omega), List.length_append, ht, List.getElem?_drop]
      congr 2
      show k + (j - (k + 1)) = _
      omega
/-- What Insert leaves. -/
def InsP (w : World) (ok : Nat → Prop) (v : Value) (r : List Int) (e : Ending) (w' : World) : Prop := ∃ v', e = .returned v' ∧ Kd.R (Kd.int .i64) 3 w' 0 (fun k => ok k ∨ w.heap.size ≤ k ∧ k < w'.heap.size) v' r ∧ w.grownBy w' v.ownBlock
/-- In place: where the row is known cell by cell. -/
theorem InsP.stay {w w' : World} {ok : Nat → Prop} {g n c : Nat} {r : List Int} {cur : Array Value} (hh : w.heap[g]? = some (.cells cur 3 (0, 0))) (hcm : c ≤ maxLen) (hcs : cur.size = c) (hok : ok g) (hr : r.length = n) (hrc : n ≤ c)
    (hg : w.grownBy w' (some g)) (hb : ∃ cur', w'.heap[g]? = some (.cells cur' 3 (0, 0)) ∧ cur'.size = cur.size) (hcell : ∀ j, j < r.length → w'.cell? ⟨g, j, none⟩ = some (.int .i64 (r.getD j 0))) (m : Nat) : InsP w ok (.slice (some ⟨g, 0, none⟩) m c) r (.returned (.slice (some ⟨g, 0, none⟩) n c)) w' := by
  obtain ⟨cur', h1, h2⟩ := hb
  refine ⟨_, rfl, ?_, hg⟩
  rw [← hr] at hrc ⊢
  exact R_mk h1 hrc hcm (h2.trans hcs) (take_cells h1 hcell) (.inl hok)
theorem InsP.fresh {w w' : World} {ok : Nat → Prop} {n c : Nat} {r : List Int} {cur' : Array Value} {v : Value} {b : Nat} (hb : w.heap.size = b) (hcm : c ≤ maxLen) (hr : r.length = n) (hrc : n ≤ c)
    (hg : w.grownBy w' none) (h1 : w'.heap[b]? = some (.cells cur' 3 (0, 0))) (h2 : cur'.size = c) (hcell : ∀ j, j < r.length → w'.cell? ⟨b, j, none⟩ = some (.int .i64 (r.getD j 0))) : InsP w ok v r (.returned (.slice (some ⟨b, 0, none⟩) n c)) w' := by
  subst hb
  refine ⟨_, rfl, ?_, ⟨hg.os, hg.tape, hg.output, hg.size, fun k hk _ => hg.block k hk (by simp)⟩⟩
  rw [← hr] at hrc ⊢
  exact R_mk h1 hrc hcm h2 (take_cells h1 hcell) (.inr ⟨Nat.le_refl _, blk_lt h1⟩)
theorem grown_alloc_drew (w : World) (o : Obj) : w.grownBy (w.drew.alloc o) none := ⟨rfl, rfl, rfl, (by show w.heap.size ≤ (w.heap.push _).size; rw [Array.size_push]; exact Nat.le_succ _), fun k hk _ => (by show (w.heap.push _)[k]? = _; rw [Array.getElem?_push, if_neg (Nat.ne_of_lt hk)])⟩
theorem insert_nil (w : World) (ok : Nat → Prop) (x : Int) (vb vc : Nat) (cv : Array Value) (t : TypeId) (hvb : w.heap[vb]? = some (.cells cv t (0, 0))) (hcv : cv[0]? = some (.int .i64 x)) :
    Calls Try.prog 60 #[.slice none 0 0, .int .i64 (0 : Nat), .slice (some ⟨vb, 0, none⟩) 1 vc] w (InsP w ok (.slice none 0 0) [x]) := by
  refine (Any2.slices_Insert_int_end_grow Try.laysNm221 none 0 0 vb 0 1 vc [] [.int .i64 x] w (by omega) (by omega) (by omega) (by omega) rfl rfl (fun _ => rfl) (fun a h => by cases h) (fun j v hj => ?_) (fun v hv => ?_)).mono ?_
  · cases j with
    | zero => simp at hj; subst hj; exact (blk_cell hvb 0).trans hcv
    | succ j => simp at hj
  · simp at hv; subst hv; rfl
  · rintro e w' ⟨rfl, rfl⟩
    have hge := grownCap_ge w (0 + 1) 0 3
    have hle := grownCap_le_maxLen w (0 + 1) 0 3 (by simp [maxLen])
    simp only [show Try.laysNm221_ren.t 3 = 3 from rfl]
    generalize grownCap w (0 + 1) 0 3 = C at hge hle ⊢
    have hn := heap_alloc_new w.drew (Obj.cells (([] ++ [Value.int .i64 x]).toArray ++ Builtin.zeroCells (Value.int .i64 0).cells (C - (0 + 1))) 3)
    refine InsP.fresh rfl hle rfl hge (grown_alloc_drew w _) hn ?_ ?_
    · have hz : (Value.int .i64 0).cells.size = 1 := rfl
      rw [Array.size_append, size_zeroCells, hz, List.size_toArray]
      show 1 + _ = _
      omega
    · intro j hj
      have : j = 0 := by simpa using hj
      subst this
      refine (blk_cell hn 0).trans ?_
      rw [Array.getElem?_append_left (by simp)]
      rfl
theorem one_at {w : World} {vb : Nat} {x : Int} {cv : Array Value} {t : TypeId} (hvb : w.heap[vb]? = some (.cells cv t (0, 0))) (hcv : cv[0]? = some (.int .i64 x)) (j : Nat) (v : Value) (hj : [Value.int .i64 x][j]? = some v) : w.cell? ⟨vb, 0 + j, none⟩ = some v := by
  cases j with
  | zero => simp at hj; subst hj; exact (blk_cell hvb 0).trans hcv
  | succ j => simp at hj
theorem one_in {g o k : Nat} {x : Int} {W : World} (e : k = o) (h : (W.cell? ⟨g, o, none⟩).isSome = true) : (W.setCells g o [.int .i64 x]).cell? ⟨g, k, none⟩ = some (.int .i64 x) := by
  subst e
  obtain ⟨u, hu⟩ := Option.isSome_iff_exists.1 h
  exact World.cell?_setCell_same _ _ _ hu
theorem ints_one (l : List Int) : ∀ v ∈ l.map (Value.int .i64), v.oneCell' = true := by
  intro v hv
  obtain ⟨n, -, rfl⟩ := List.mem_map.1 hv
  rfl
set_option maxHeartbeats 1600000 in
theorem insert_c {w : World} {ok : Nat → Prop} {v : Value} {l : List Int} (h : Kd.R (Kd.int .i64) 3 w 0 ok v l) (hl : l.length ≤ 100) (x : Int) (vb vc : Nat) (cv : Array Value) (t : TypeId) (hvb : w.heap[vb]? = some (.cells cv t (0, 0))) (hcv : cv[0]? = some (.int .i64 x)) (hne : v.ownBlock ≠ some vb) :
    Calls Try.prog 60 #[v, .int .i64 (l.countP (· < x) : Nat), .slice (some ⟨vb, 0, none⟩) 1 vc] w (InsP w ok v (insertF l x)) := by
  obtain ⟨k, hk⟩ : ∃ k, l.countP (· < x) = k := ⟨_, rfl⟩
  have hkl : k ≤ l.length := by rw [← hk]; exact List.countP_le_length
  have hr : (insertF l x).length = l.length + 1 := insertF_len l x
  have hgetD := insertF_getD l x k hk
  rw [hk]
  obtain ⟨h1, ⟨rfl, h2⟩ | ⟨g, c, cur, rfl, -, hh, hlc, hcm, hcs, ht⟩⟩ := Kd.own_of_R (enc := Value.int .i64) h
  · have hl0 : l = [] := List.eq_nil_of_length_eq_zero (by simpa [encs] using h2)
    subst hl0
    have : k = 0 := by simpa using hk.symm
    subst this
    exact insert_nil w ok x vb vc cv t hvb hcv
  have hlen : (encs (Value.int .i64) l).length = l.length := by simp [encs]
  rw [Nat.mul_one] at hcs
  have hok := h.1 g (by simp [Value.ownBlock])
  have hvg : vb ≠ g := fun e => hne (by rw [e]; rfl)
  have hcur : ∀ j, j < l.length → w.cell? ⟨g, 0 + j, none⟩ = some (.int .i64 (l.getD j 0)) := fun j hj => by
    rw [blk_cell hh, Nat.zero_add]
    have e : (cur.toList.take l.length)[j]? = (l.map (Value.int .i64))[j]? := by
      rw [Nat.mul_one] at ht
      rw [ht]; simp [encs]
    rw [List.getElem?_take, if_pos hj, Array.getElem?_toList] at e
    rw [e, List.getElem?_map, List.getElem?_eq_getElem hj]
    simp [List.getD_eq_getElem?_getD, hj]
  have hcsm : ∀ j v, (l.map (Value.int .i64))[j]? = some v → w.cell? ⟨g, 0 + j, none⟩ = some v := fun j v hj => by
    rw [List.getElem?_map] at hj
    obtain ⟨n, hn, rfl⟩ := Option.map_eq_some_iff.1 hj
    obtain ⟨hjl, rfl⟩ := List.getElem?_eq_some_iff.1 hn
    rw [hcur j hjl, List.getD_eq_getElem?_getD, hn]; rfl
  have hsome : ∀ j, j < c → (w.cell? ⟨g, 0 + j, none⟩).isSome = true := fun j hj => by
    rw [blk_cell hh, Nat.zero_add, Array.getElem?_eq_getElem (by omega)]; rfl
  have hfz : ∀ j, w.frozen? ⟨g, 0 + j, none⟩ = false := fun j => blk_frozen hh _
  have hc63 : c ≤ 9223372036854775807 := by simp only [maxLen] at hcm; omega
  by_cases hroom : l.length + 1 ≤ c
  · by_cases hend : k = l.length
    · subst hend
      refine (Any2.slices_Insert_int_end_room Try.laysNm221 g 0 l.length c vb 0 1 vc [.int .i64 x] w (by omega) hroom hc63 rfl (fun j hj => by rw [Nat.add_assoc]; exact hsome _ (by omega)) (fun j hj => by rw [Nat.add_assoc]; exact hfz _) (one_at hvb hcv) (ints_one [x])).mono ?_
      rintro e w' ⟨rfl, rfl⟩
      refine InsP.stay hh hcm hcs hok hr hroom (grown_setCells _ _ _ _) (heap_setCells _ _ _ _ hh) (fun j hj => ?_) _
      rw [hgetD j]
      split
      · rw [World.cell?_setCells_out _ _ _ _ _ (fun _ _ => by left; show j < 0 + l.length; omega)]
        have := hcur j (by omega)
        rw [Nat.zero_add] at this
        exact this
      · have : j = l.length := by omega
        subst this
        rw [if_pos rfl]
        exact one_in (Nat.zero_add _).symm (hsome _ (by omega))
    · have hkn : k < l.length := by omega
      refine (Any2.slices_Insert_int_shift Try.laysNm221 g 0 l.length c k vb 0 1 vc (l.map (Value.int .i64)) [.int .i64 x] w hkn (by omega) hroom hc63 hvg (by simp) rfl hcsm (fun j hj => hsome j (by omega)) (fun j _ => hfz j) (one_at hvb hcv) (ints_one l) (ints_one [x])
        t 3 cv.size cur.size (by simp [World.shape?, hvb]) (by simp [World.shape?, hh]) (by omega) (blk_frozen hvb _) (blk_frozen hvb _)).mono ?_
      rintro e w' ⟨rfl, rfl⟩
      have hdl : ((l.map (Value.int .i64)).drop k).length = l.length - k := by simp
      have g1 := grown_setCells g ((l.map (Value.int .i64)).drop k) (0 + (k + 1)) w.drew
      obtain ⟨c1, b1, s1⟩ := heap_setCells (w := w.drew) ((l.map (Value.int .i64)).drop k) (0 + (k + 1)) (cur := cur) (b := g) (t := 3) (fr := (0, 0)) hh
      have g2 := grown_setCells g [.int .i64 x] (0 + k) (w.drew.setCells g (0 + (k + 1)) ((l.map (Value.int .i64)).drop k))
      obtain ⟨c2, b2, s2⟩ := heap_setCells (w := w.drew.setCells g (0 + (k + 1)) ((l.map (Value.int .i64)).drop k)) [.int .i64 x] (0 + k) (cur := c1) b1
      have hsz1 := size_setCells g ((l.map (Value.int .i64)).drop k) (0 + (k + 1)) w.drew
      refine InsP.stay hh hcm hcs hok hr hroom ⟨g2.os.trans g1.os, g2.tape.trans g1.tape, g2.output.trans g1.output, Nat.le_trans g1.size g2.size, fun j hj hne => (g2.block j (Nat.lt_of_lt_of_le hj g1.size) hne).trans (g1.block j hj hne)⟩ ⟨c2, b2, s2.trans s1⟩ (fun j hj => ?_) _
      rw [hgetD j]
      by_cases hjk : j = k
      · subst hjk
        rw [if_neg (Nat.lt_irrefl _), if_pos rfl]
        refine one_in (Nat.zero_add _).symm ?_
        rw [World.cell?_setCells_out _ _ _ _ _ (fun _ _ => by left; show 0 + j < 0 + (j + 1); omega)]
        exact hsome j (by omega)
      · rw [World.cell?_setCells_out _ _ _ _ _ (fun _ _ => by show j < 0 + k ∨ 0 + k + 1 ≤ j; omega)]
        by_cases hjl : j < k
        · rw [if_pos hjl, World.cell?_setCells_out _ _ _ _ _ (fun _ _ => by left; show j < 0 + (k + 1); omega), ← Nat.zero_add j]
          rw [Nat.zero_add j]
          have := hcur j (by omega)
          rw [Nat.zero_add] at this
          exact this
        · rw [if_neg hjl, if_neg hjk]
          obtain ⟨i, rfl⟩ : ∃ i, j = 0 + (k + 1) + i := ⟨j - (k + 1), by omega⟩
          have hi : i < ((l.map (Value.int .i64)).drop k).length := by rw [hdl]; omega
          rw [World.cell?_setCells_in g ((l.map (Value.int .i64)).drop k) (0 + (k + 1)) w.drew (fun i hi => by
            rw [hdl] at hi
            rw [Nat.add_assoc]
            exact hsome (k + 1 + i) (by omega)) i hi]
          rw [List.getElem_drop, List.getElem_map, show 0 + (k + 1) + i - 1 = k + i by omega, List.getD_eq_getElem?_getD, List.getElem?_eq_getElem (by rw [hdl] at hi; omega)]
          rfl
  · by_cases hend : k = l.length
    · subst hend
      refine (Any2.slices_Insert_int_end_grow Try.laysNm221 (some ⟨g, 0, none⟩) l.length c vb 0 1 vc (l.map (Value.int .i64)) [.int .i64 x] w (by omega) hlc (by omega) (by omega) (by simp) rfl (fun h => by cases h) (fun a ha j v hj => by cases ha; rw [add_]; exact hcsm j v hj) (one_at hvb hcv) (ints_one [x])).mono ?_
      rintro e w' ⟨rfl, rfl⟩
      have hge := grownCap_ge w (l.length + 1) c 3
      have hle := grownCap_le_maxLen w (l.length + 1) c 3 (by simp only [maxLen]; omega)
      simp only [show Try.laysNm221_ren.t 3 = 3 from rfl]
      generalize grownCap w (l.length + 1) c 3 = C at hge hle ⊢
      have hn := heap_alloc_new w.drew (Obj.cells (((l.map (Value.int .i64)) ++ [Value.int .i64 x]).toArray ++ Builtin.zeroCells (Value.int .i64 0).cells (C - (l.length + 1))) 3)
      refine InsP.fresh rfl hle hr hge (grown_alloc_drew w _) hn ?_ ?_
      · have hz : (Value.int .i64 0).cells.size = 1 := rfl
        rw [Array.size_append, size_zeroCells, hz, List.size_toArray, List.length_append, List.length_map]
        show l.length + 1 + _ = _
        omega
      · intro j hj
        refine (blk_cell hn j).trans ?_
        rw [Array.getElem?_append_left (by rw [List.size_toArray, List.length_append, List.length_map]; show j < l.length + 1; omega), List.getElem?_toArray, hgetD j]
        split
        · rw [List.getElem?_append_left (by rw [List.length_map]; omega), List.getElem?_map, List.getElem?_eq_getElem (by omega), List.getD_eq_getElem?_getD, List.getElem?_eq_getElem (by omega)]
          rfl
        · have : j = l.length := by omega
          subst this
          rw [if_pos rfl, List.getElem?_append_right (by rw [List.length_map]; omega), List.length_map, Nat.sub_self]
          rfl
    · have hkn : k < l.length := by omega
      refine (Any2.slices_Insert_int_grow Try.laysNm221 g 0 l.length c k vb 0 1 vc (l.map (Value.int .i64)) [.int .i64 x] w hkn (by omega) hlc (by omega) (by omega) (by simp) rfl hcsm (one_at hvb hcv) (ints_one l) (ints_one [x])).mono ?_
      rintro e w' ⟨rfl, rfl⟩
      have hge := grownCap_ge w (l.length + 1) c 3
      have hle := grownCap_le_maxLen w (l.length + 1) c 3 (by simp only [maxLen]; omega)
      simp only [show Try.laysNm221_ren.t 3 = 3 from rfl]
      generalize grownCap w (l.length + 1) c 3 = C at hge hle ⊢
      have hz : (Value.int .i64 0).cells.size = 1 := rfl
      have htk : ((l.map (Value.int .i64)).take k).toArray.size = k := by rw [List.size_toArray, List.length_take, List.length_map]; omega
      obtain ⟨O, hO⟩ : ∃ O, O = ((l.map (Value.int .i64)).take k).toArray ++ Builtin.zeroCells (Value.int .i64 0).cells (l.length + 1 - k) ++ Builtin.zeroCells (Value.int .i64 0).cells (C - (l.length + 1)) := ⟨_, rfl⟩
      have hOs : O.size = C := by rw [hO, Array.size_append, Array.size_append, size_zeroCells, size_zeroCells, hz, htk]; omega
      have hOk : ∀ j, j < k → O[j]? = some (.int .i64 (l.getD j 0)) := fun j hj => by
        rw [hO, Array.append_assoc, Array.getElem?_append_left (by rw [htk]; exact hj), List.getElem?_toArray, List.getElem?_take, if_pos hj, List.getElem?_map, List.getElem?_eq_getElem (by omega), List.getD_eq_getElem?_getD, List.getElem?_eq_getElem (by omega)]
        rfl
      rw [← hO]
      have hn := heap_alloc_new w (Obj.cells O 3)
      obtain ⟨b, hb⟩ : ∃ b, w.heap.size = b := ⟨_, rfl⟩
      have g0 : w.grownBy (w.alloc (.cells O 3)) none := ⟨rfl, rfl, rfl, (by show w.heap.size ≤ (w.heap.push _).size; rw [Array.size_push]; exact Nat.le_succ _), fun k hk _ => (by show (w.heap.push _)[k]? = _; rw [Array.getElem?_push, if_neg (Nat.ne_of_lt hk)])⟩
      rw [hb] at hn
      generalize hw1 : w.alloc (.cells O 3) = w1 at hn g0
      have hdl : ((l.map (Value.int .i64)).drop k).length = l.length - k := by simp
      have g1 := grown_setCells b [.int .i64 x] k w1.drew
      obtain ⟨c1, b1, s1⟩ := heap_setCells (w := w1.drew) [.int .i64 x] k (cur := O) (b := b) (t := 3) (fr := (0, 0)) hn
      have g2 := grown_setCells b ((l.map (Value.int .i64)).drop k) (k + 1) (w1.drew.setCells b k [.int .i64 x]).drew
      obtain ⟨c2, b2, s2⟩ := heap_setCells (w := (w1.drew.setCells b k [.int .i64 x]).drew) ((l.map (Value.int .i64)).drop k) (k + 1) (cur := c1) (b := b) (t := 3) (fr := (0, 0)) b1
      rw [hb]
      refine InsP.fresh hb (cur' := c2) hle hr hge ⟨g2.os.trans (g1.os.trans g0.os), g2.tape.trans (g1.tape.trans g0.tape), g2.output.trans (g1.output.trans g0.output), Nat.le_trans g0.size (Nat.le_trans g1.size g2.size), fun j hj _ => ?_⟩ b2 (s2.trans (s1.trans hOs)) (fun j hj => ?_)
      · have e1 : some j ≠ some b := fun e => by injection e with e; omega
        exact (g2.block j (Nat.lt_of_lt_of_le hj (Nat.le_trans g0.size g1.size)) e1).trans ((g1.block j (Nat.lt_of_lt_of_le hj g0.size) e1).trans (g0.block j hj (by simp)))
      rw [hgetD j]
      have hsome1 : ∀ i, i < C → ((w1.drew).cell? ⟨b, i, none⟩).isSome = true := fun i hi => by
        have := blk_cell hn i
        rw [Array.getElem?_eq_getElem (by omega)] at this
        exact (congrArg Option.isSome this).trans rfl
      by_cases hjk : j < k + 1
      · rw [World.cell?_setCells_out _ _ _ _ _ (fun _ _ => by left; exact hjk)]
        show (w1.drew.setCells b k [.int .i64 x]).cell? ⟨b, j, none⟩ = _
        by_cases hjk' : j = k
        · subst hjk'
          rw [if_neg (Nat.lt_irrefl _), if_pos rfl]
          exact one_in rfl (hsome1 _ (by omega))
        · rw [if_pos (by omega), World.cell?_setCells_out _ _ _ _ _ (fun _ _ => by left; show j < k; omega)]
          exact (blk_cell hn j).trans (hOk j (by omega))
      · rw [if_neg (by omega), if_neg (by omega)]
        obtain ⟨i, rfl⟩ : ∃ i, j = (k + 1) + i := ⟨j - (k + 1), by omega⟩
        have hi : i < ((l.map (Value.int .i64)).drop k).length := by rw [hdl]; omega
        rw [World.cell?_setCells_in b ((l.map (Value.int .i64)).drop k) (k + 1) _ (fun i hi => by
          rw [hdl] at hi
          have := blk_cell b1 (k + 1 + i)
          rw [Array.getElem?_eq_getElem (by omega)] at this
          exact (congrArg Option.isSome this).trans rfl) i hi]
        rw [List.getElem_drop, List.getElem_map, show (k + 1) + i - 1 = k + i by omega, List.getD_eq_getElem?_getD, List.getElem?_eq_getElem (by rw [hdl] at hi; omega)]
        rfl
end Go.Proofs.Ytofegigbhohebaa.Hand
