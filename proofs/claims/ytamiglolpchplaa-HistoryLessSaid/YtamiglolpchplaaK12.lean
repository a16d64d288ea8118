/- SortStableFunc at a row of one's own. -/
import Derived.Test.YtamiglolpchplaaKB
import Derived.Test.YtamiglolpchplaaJ10
namespace Go.Proofs.Ytamiglolpchplaa.Hand
open Go.RowKit Go.Shelf Go.Lib Go.Sort Go.Proofs.Ytamiglolpchplaa Go.Proofs.YtamiglolpchplaaW.PrintWords Go.Proofs.YtamiglolpchplaaW.PrintLast
set_option linter.unusedVariables false
set_option linter.unusedSimpArgs false
theorem flat_at (d : Array CallR) (i j : Nat) (hi : i < d.size) (hj : j < 7) : (flatK crL 7 d)[i * 7 + j]! = (crL d[i]!)[j]! := by
  rw [get_flatK crL 7 d (i * 7 + j) (by omega)]
  have h1 : (i * 7 + j) / 7 = i := by omega
  have h2 : (i * 7 + j) % 7 = j := by omega
  rw [h1, h2]
def rowsOf (d : Array CallR) : List CallP := d.toList.map (·.1)
theorem rowsOf_at (d : Array CallR) (i : Nat) (hi : i < d.size) : (rowsOf d)[i]? = some d[i]!.1 := by
  rw [rowsOf, List.getElem?_map, Array.getElem?_toList, Array.getElem?_eq_getElem hi, getElem!_pos d i hi]; rfl
theorem holds_of_R {w : World} {base : Nat} {ok : Nat → Prop} {g n cap : Nat} {d : Array CallR} (h : Kd.R kP 34 w base ok (.slice (some ⟨g, 0, none⟩) n cap) (rowsOf d)) : HoldsK crL 7 w g 0 d := by
  intro t ht
  rw [size_flatK] at ht
  have hn : n = (rowsOf d).length := (Kd.R_reads' h).1
  have hl : (rowsOf d).length = d.size := by rw [rowsOf, List.length_map, Array.length_toList]
  have hi : t / 7 < d.size := by omega
  have hj : t % 7 < 7 := Nat.mod_lt _ (by decide)
  have he : t / 7 * 7 + t % 7 = t := by omega
  refine ⟨?_, ?_⟩
  · have := at_Pg (Kd.R_reads' h).2.2 (t / 7) (by omega) _ (rowsOf_at d (t / 7) hi) (t % 7) (crL d[t / 7]!)[t % 7]! (by
      show (crL d[t / 7]!)[t % 7]? = _
      have hlen : t % 7 < (crL d[t / 7]!).length := by rw [crL_len]; exact hj
      rw [List.getElem?_eq_getElem hlen, getElem!_pos (crL d[t / 7]!) (t % 7) hlen])
    rw [he] at this
    rw [Nat.zero_add, this]
    have e2 := flat_at d (t / 7) (t % 7) hi hj
    rw [he] at e2
    rw [e2]; rfl
  · obtain ⟨cells, hc⟩ := Kd.R_typed h g (by simp [Value.ownBlock])
    exact blk_frozen hc _
theorem flat_list (d : Array CallR) : (flatK crL 7 d).toList.length = d.size * 7 := by rw [Array.length_toList, size_flatK]
theorem flat_reps (d : Array CallR) (R : CallP → List Value → Prop) (hR : ∀ x, R x (crP x)) : Reps R 7 (rowsOf d) (flatK crL 7 d).toList := by
  have hl : (rowsOf d).length = d.size := by rw [rowsOf, List.length_map, Array.length_toList]
  refine ⟨by rw [flat_list, hl], fun j p hp => ?_⟩
  have hj : j < d.size := by
    have := (List.getElem?_eq_some_iff.1 hp).1
    omega
  rw [rowsOf_at d j hj] at hp
  injection hp with hp
  have e : ((flatK crL 7 d).toList.drop (j * 7)).take 7 = crP p := by
    apply List.ext_getElem?
    intro k
    rw [List.getElem?_take]
    by_cases hk : k < 7
    · rw [if_pos hk, List.getElem?_drop]
      have hlt : j * 7 + k < (flatK crL 7 d).size := by rw [size_flatK]; omega
      rw [Array.getElem?_toList, Array.getElem?_eq_getElem hlt, ← getElem!_pos (flatK crL 7 d) (j * 7 + k) hlt, flat_at d j k hj hk]
      have hlen : k < (crL d[j]!).length := by rw [crL_len]; exact hk
      rw [getElem!_pos (crL d[j]!) k hlen, ← hp]
      exact (List.getElem?_eq_getElem hlen).symm
    · rw [if_neg hk, List.getElem?_eq_none (by rw [show (crP p).length = 7 from rfl]; omega)]
  rw [e]; exact hR p
theorem R_of_SWK {w w' : World} {base : Nat} {ok : Nat → Prop} {g n cap : Nat} {l : List CallP} {d' : Array CallR} (h : Kd.R kP 34 w base ok (.slice (some ⟨g, 0, none⟩) n cap) l) (hs : SWK crL 7 w g 0 d' w') (hz : d'.size = n) :
    Kd.R kP 34 w' base ok (.slice (some ⟨g, 0, none⟩) n cap) (rowsOf d') ∧ Fr (fun k => k = g) w w' := by
  obtain ⟨q, os, rfl⟩ := hs
  have hl : (rowsOf d').length = n := by rw [rowsOf, List.length_map, Array.length_toList, hz]
  have hheap : ∀ k, k < w.heap.size → (sortWorldK crL 7 w g 0 q d' os).heap[k]? = (w.heap.modify g (onCells (putCells id 0 (flatK crL 7 d'))))[k]? := fun k hk => by
    show ((w.heap.modify g (onCells (putCells id 0 (flatK crL 7 d')))) ++ os)[k]? = _
    rw [Array.getElem?_append_left (by rw [Array.size_modify]; exact hk)]
  have hnl : n = l.length := (Kd.R_reads' h).1
  obtain ⟨hok, inner, hown, hr⟩ := h
  obtain ⟨h1, ⟨h2, _⟩ | ⟨g', cap', cur, h2, hb, h3, h4, h5, h6, h7⟩⟩ := hown
  · cases h2
  injection h2 with ha _ hc
  injection ha with ha
  injection ha with hg
  subst hg; subst hc
  have hglt : g < w.heap.size := (Array.getElem?_eq_some_iff.1 h3).1
  have hcs : cur.size = cap * 7 := h6
  have hcur : (sortWorldK crL 7 w g 0 q d' os).heap[g]? = some (.cells (putCells id 0 (flatK crL 7 d') cur) 34 (0, 0)) := by
    rw [hheap g hglt, Array.getElem?_modify, if_pos rfl, h3]; rfl
  refine ⟨⟨hok, (flatK crL 7 d').toList, ⟨by rw [flat_list, hz, hl]; rfl, .inr ⟨g, cap, _, by rw [hl], hb, hcur, by omega, h5, ?_, ?_⟩⟩, flat_reps d' _ (fun x => rfl)⟩, ⟨rfl, rfl, rfl, ?_, fun k hk hne => ?_⟩⟩
  · unfold putCells; rw [Array.size_mapIdx]; exact h6
  · rw [hl]
    show List.take (n * 7) _ = _
    apply List.ext_getElem?
    intro k
    rw [List.getElem?_take]
    by_cases hk : k < n * 7
    · rw [if_pos hk]
      unfold putCells
      have hkc : k < cur.size := by rw [hcs]; omega
      have hkf : k < (flatK crL 7 d').size := by rw [size_flatK, hz]; exact hk
      rw [Array.getElem?_toList, Array.getElem?_mapIdx, Array.getElem?_eq_getElem hkc, Option.map_some, if_pos ⟨Nat.zero_le _, by omega⟩, Array.getElem?_toList, Array.getElem?_eq_getElem hkf, Nat.sub_zero, getElem!_pos (flatK crL 7 d') k hkf]
      rfl
    · rw [if_neg hk, List.getElem?_eq_none (by rw [flat_list, hz]; omega)]
  · show w.heap.size ≤ ((w.heap.modify g _) ++ os).size
    rw [Array.size_append, Array.size_modify]; omega
  · rw [hheap k hk, Array.getElem?_modify, if_neg (fun e => hne e.symm)]
theorem rows_lift : ∀ (l : List CallP), (∀ r ∈ l, 0 ≤ r.1.fin ∧ r.1.fin ≤ 1000000000) → ∃ d : List CallR, d.map (·.1) = l
  | [], _ => ⟨[], rfl⟩
  | r :: l, h => by
    obtain ⟨d, hd⟩ := rows_lift l (fun x hx => h x (.tail _ hx))
    exact ⟨⟨r, h r (.head _)⟩ :: d, by rw [List.map_cons, hd]⟩
set_option maxRecDepth 100000 in
theorem ins_nil (w : World) : Calls Try.prog 44 #[.slice none 0 0, .int .i64 0, .int .i64 0, .func (.func 25) #[] #[]] w fun e w' => e = .returned (.tuple #[]) ∧ w' = w := by
  go_enter Try.func44, Try.ntmps44
  go_wp2_with fail
  go_loopw [8] (fun u8 wr => u8 = .int .i64 1 ∧ w = wr) (fun u8 wr => 0)
  case atStart => exact ⟨rfl, rfl⟩
  case round =>
    obtain ⟨rfl, rfl⟩ := hrel
    go_wp2_with fail
    go_end0
    exact ⟨rfl, rfl⟩
set_option maxRecDepth 100000 in
theorem stable_nil (w : World) : Calls Try.prog 43 #[.slice none 0 0, .int .i64 0, .func (.func 25) #[] #[]] w fun e w' => e = .returned (.tuple #[]) ∧ w' = w := by
  have HI := Aside0.mk (ins_nil w)
  go_enter Try.func43, Try.ntmps43
  go_wp2_with fail
  go_loopw [7, 8] (fun u7 u8 wr => u7 = .int .i64 0 ∧ u8 = .int .i64 20 ∧ w = wr) (fun u7 u8 wr => 0)
  case atStart => exact ⟨rfl, rfl, rfl⟩
  case round =>
    obtain ⟨rfl, rfl, rfl⟩ := hrel
    go_upto_region 7 with (go_at_call 44; refine HI.out.mono ?_; rintro e' w2 ⟨rfl, rfl⟩)
    go_loopw [6] (fun u6 wr => u6 = .int .i64 20 ∧ w2 = wr) (fun u6 wr => 0)
    case atStart => exact ⟨rfl, rfl⟩
    case round =>
      obtain ⟨rfl, rfl⟩ := hrel
      go_wp2_with fail
      go_end0
      exact ⟨rfl, rfl⟩
theorem perm_extract {n : Nat} {d e : Array CallR} (hz : d.size = n) (h : PermIn 0 n d e) : (rowsOf e).Perm (rowsOf d) := by
  have h1 : e.extract 0 n = e := by rw [← hz, ← h.1]; exact Array.extract_size
  have h2 : d.extract 0 n = d := by rw [← hz]; exact Array.extract_size
  have := h.2.2
  rw [h1, h2] at this
  exact this.map _
theorem sorted_rows {n : Nat} {e : Array CallR} (hz : e.size = n) (h : SortedIn (ltOf cfE) 0 n e) : (rowsOf e).Pairwise (fun x y => x.1.fin ≤ y.1.fin) := by
  rw [List.pairwise_iff_getElem]
  intro i j hi hj hij
  have hl : (rowsOf e).length = n := by rw [rowsOf, List.length_map, Array.length_toList, hz]
  have a1 : (rowsOf e)[i] = e[i]!.1 := by
    have := rowsOf_at e i (by omega)
    rw [List.getElem?_eq_getElem hi] at this
    injection this
  have a2 : (rowsOf e)[j] = e[j]!.1 := by
    have := rowsOf_at e j (by omega)
    rw [List.getElem?_eq_getElem hj] at this
    injection this
  rw [a1, a2]
  have := h i j (Nat.zero_le _) hij (by omega)
  have : ¬ cfE e[j]! e[i]! < 0 := of_decide_eq_false this
  unfold cfE at this
  omega
set_option maxRecDepth 100000 in
theorem sort_c (base : Nat) (ok : Nat → Prop) (v : Value) (l : List CallP) (w : World) (hr : Kd.R kP 34 w base ok v l) (hl : l.length ≤ 1000) (hf : ∀ r ∈ l, 0 ≤ r.1.fin ∧ r.1.fin ≤ 1000000000) :
    Calls Try.prog 24 #[v, .func (.func 25) #[] #[]] w fun e w' => e = .returned (.tuple #[]) ∧ ∃ l', l'.Perm l ∧ l'.Pairwise (fun x y => x.1.fin ≤ y.1.fin) ∧ Kd.R kP 34 w' base ok v l' ∧ Fr (fun k => some k = v.ownBlock) w w' := by
  rcases R_cases hr with ⟨rfl, rfl⟩ | ⟨g, cap, rfl⟩
  · have HS := Aside0.mk (stable_nil w)
    have HR := Aside0.mk hr
    clear hr
    go_enter Try.func24, Try.ntmps24
    go_wp2_with (go_at_call 43; refine HS.out.mono ?_; rintro e' w2 ⟨rfl, rfl⟩)
    go_end0
    exact ⟨rfl, [], .refl _, .nil, HR.out, Fr.refl _ _⟩
  · obtain ⟨dl, hdl⟩ := rows_lift l hf
    have hrow : rowsOf dl.toArray = l := by rw [rowsOf]; exact hdl
    have hz : dl.toArray.size = l.length := by rw [← hdl, List.length_map]; rfl
    have hr2 := hr
    rw [← hrow] at hr2
    have hlen : (rowsOf dl.toArray).length = l.length := by rw [hrow]
    rw [hlen] at hr2
    have hH := holds_of_R hr2
    have hlt : g < w.heap.size := Kd.R_lt hr g (by simp [Value.ownBlock])
    have HS := Aside0.mk (stable_c g 0 cap l.length dl.toArray w hH hlt hz (by omega))
    have HE := Aside0.mk (fun (e1 : Array CallR) (w' : World) (h1 : SWK crL 7 w g 0 e1 w') (h2 : PermIn 0 l.length dl.toArray e1) (h3 : SortedIn (ltOf cfE) 0 l.length e1) =>
      show ∃ l', l'.Perm l ∧ l'.Pairwise (fun x y => x.1.fin ≤ y.1.fin) ∧ Kd.R kP 34 w' base ok (.slice (some ⟨g, 0, none⟩) l.length cap) l' ∧ Fr (fun k => some k = (Value.slice (some ⟨g, 0, none⟩) l.length cap).ownBlock) w w' from
        ⟨rowsOf e1, hrow ▸ perm_extract hz h2, sorted_rows (h2.1.trans hz) h3, (R_of_SWK hr h1 (h2.1.trans hz)).1, (R_of_SWK hr h1 (h2.1.trans hz)).2.mono fun q hq => by simp [Value.ownBlock, hq]⟩)
    clear hr hr2 hH hlt hz hrow hlen
    go_enter Try.func24, Try.ntmps24
    go_wp2_with (go_at_call 43; refine HS.out.mono ?_; rintro e' w2 ⟨rfl, e1, h1, h2, h3⟩; have HE1 := Aside0.mk (HE.out e1 w2 h1 h2 h3); clear h1 h2 h3)
    go_end0
    exact ⟨rfl, HE1.out⟩
end Go.Proofs.Ytamiglolpchplaa.Hand
