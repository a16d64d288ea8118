/- The document's book is read: find, Find, Status, Places. -/
import Derived.Test.YtofegigbhohebaaTE2
import Derived.Test.YtofegigbhohebaaTB24
namespace Go.Proofs.Ytofegigbhohebaa.Hand
open Go.RowKit Go.Proofs.Ytofegigbhohebaa Go.Proofs.YtofegigbhohebaaW.PrintWords Go.Proofs.YtofegigbhohebaaW.PrintLast
set_option linter.unusedVariables false
set_option linter.unusedSimpArgs false
def psOf (rs : List RP) : List ProdV := rs.map (·.1)
theorem psOf_len (rs : List RP) : (psOf rs).length = rs.length := List.length_map _
theorem psOf_at {rs : List RP} {k : Nat} {r : RP} (h : rs[k]? = some r) : (psOf rs).getD k prod0 = r.1 := by
  unfold psOf
  rw [List.getD_eq_getElem?_getD, List.getElem?_map, h]
  rfl
theorem nms_at {rs : List RP} {k : Nat} {r : RP} (h : rs[k]? = some r) : (nmsOf (psOf rs))[k]? = some r.1.name := by
  unfold nmsOf psOf
  rw [List.getElem?_map, List.getElem?_map, h]
  rfl
theorem nms_len (rs : List RP) : (nmsOf (psOf rs)).length = rs.length := by
  unfold nmsOf psOf
  rw [List.length_map, List.length_map]
theorem ba_inj {s t : ByteArray} (h : s.toList = t.toList) : s = t := by
  rw [ByteArray.toList_eq, ByteArray.toList_eq] at h
  cases s; cases t
  congr 1
  exact Array.toList_inj.1 h
theorem idx_first {l : List ByteArray} {k : Nat} {s : ByteArray} (h : l[k]? = some s) (hn : s ∉ l.take k) : s ∈ l ∧ l.idxOf s = k := by
  obtain ⟨hk, he⟩ := List.getElem?_eq_some_iff.1 h
  refine ⟨by rw [← he]; exact List.getElem_mem hk, ?_⟩
  have e : l = l.take k ++ s :: l.drop (k + 1) := by
    rw [← he, ← List.drop_eq_getElem_cons hk, List.take_append_drop]
  rw [e, List.idxOf_append, if_neg hn, List.idxOf_cons_self, List.length_take]
  omega
/-- What find answers. -/
def rfindF (l : List ByteArray) (s : ByteArray) : Int := if s ∈ l then (l.idxOf s : Int) else -1
variable {own : Nat → Prop} {gb : Nat} {rs : List RP} {w w' : World}
set_option maxHeartbeats 1600000 in
set_option maxRecDepth 100000 in
theorem rfind_c (h : RB own gb rs w) (s : ByteArray) : Calls Try.prog 69 #[.pointer (some ⟨gb, 0, none⟩), .string s] w fun e w' => e = .returned (.int .i64 (rfindF (nmsOf (psOf rs)) s)) ∧ Below w.heap.size w w' := by
  obtain ⟨A, c, hb, hmax, hrow⟩ := h.read
  have c0 : w.cell? ⟨gb, 0, none⟩ = some (.slice A rs.length c) := (blk_cell hb 0).trans rfl
  have HR := Aside0.mk hrow
  clear h hb hrow
  go_enter Try.func69, Try.ntmps69
  go_wp2_with fail
  go_loopw [5] (fun i wr => ∃ k : Nat, k ≤ rs.length ∧ i = .int .i64 (k : Int) ∧ wr = w ∧ s ∉ (nmsOf (psOf rs)).take k) (fun i _ => rs.length - (intOf i).toNat)
  case atStart => exact ⟨0, Nat.zero_le _, rfl, rfl, by simp⟩
  case round =>
    obtain ⟨k, hk, rfl, hwr, hn⟩ := hrel
    subst hwr
    by_cases hkl : k < rs.length
    · have hkc : (k : Int) < (rs.length : Int) := by omega
      obtain ⟨r, hr⟩ : ∃ r, rs[k]? = some r := ⟨_, List.getElem?_eq_getElem hkl⟩
      obtain ⟨g, cur, hA, -, hg, hj⟩ := HR.out k r hr
      subst hA
      have hnm := nms_at hr
      have c1 : wr.cell? ⟨g, k * 6, none⟩ = some (.string r.1.name) := (blk_cell hg (k * 6)).trans (hj 0 (by decide))
      clear hg hj hr
      generalize r.1.name = nm at c1 hnm
      by_cases he : nm = s
      · subst he
        obtain ⟨h1, h2⟩ := idx_first hnm hn
        have hF := Aside0.mk (show rfindF (nmsOf (psOf rs)) nm = (k : Int) by unfold rfindF; rw [if_pos h1, h2])
        clear hnm hn h1 h2
        go_wp2_with fail
        exact bodyPost_ret (v := .int .i64 (k : Int)) (by simp [results, Try.results69, go_sem]) rfl ⟨by rw [hF.out], Below.refl _ _⟩
      · have he' : (nm.toList == s.toList) = false := beq_eq_false_iff_ne.2 (fun e => he (ba_inj e))
        have hN := Aside0.mk (show s ∉ (nmsOf (psOf rs)).take (k + 1) from fun h => by
          rw [List.take_add_one, hnm, List.mem_append] at h
          rcases h with h | h
          · exact hn h
          · simp at h; exact he h.symm)
        clear hnm hn
        go_wp2_with fail
        exact ⟨⟨k + 1, by omega, rfl, by simp, hN.out⟩, by simp only [intOf]; omega⟩
    · have hkc : ¬ (k : Int) < (rs.length : Int) := by omega
      rw [List.take_of_length_le (by rw [nms_len]; omega)] at hn
      have hF := Aside0.mk (show rfindF (nmsOf (psOf rs)) s = -1 by unfold rfindF; rw [if_neg hn])
      clear hn
      go_wp2_with fail
      exact bodyPost_ret (v := .int .i64 (-1)) (by simp [results, Try.results69, go_sem]) rfl ⟨by rw [hF.out], Below.refl _ _⟩
set_option maxHeartbeats 1600000 in
set_option maxRecDepth 100000 in
theorem rFind_c (h : RB own gb rs w) (s : ByteArray) : Calls Try.prog 76 #[.pointer (some ⟨gb, 0, none⟩), .string s] w fun e w' => e = .returned (.tuple #[.int .i64 (findF (psOf rs) s).1, .int .i64 (findF (psOf rs) s).2.1, .bool (findF (psOf rs) s).2.2]) ∧ Below w.heap.size w w' := by
  have HI := Aside0.mk h
  have HF := Aside0.mk (rfind_c h s)
  unfold findF
  by_cases hm : s ∈ nmsOf (psOf rs)
  · have hk : (nmsOf (psOf rs)).idxOf s < rs.length := by rw [← nms_len]; exact List.idxOf_lt_length_of_mem hm
    rw [if_pos hm, show idxV (nmsOf (psOf rs)) s = ((nmsOf (psOf rs)).idxOf s : Int) from if_pos hm]
    rw [show rfindF (nmsOf (psOf rs)) s = ((nmsOf (psOf rs)).idxOf s : Int) from if_pos hm] at HF
    generalize (nmsOf (psOf rs)).idxOf s = k at HF hk ⊢
    obtain ⟨r, hr⟩ : ∃ r, rs[k]? = some r := ⟨_, List.getElem?_eq_getElem hk⟩
    have hp : prodAt (psOf rs) (k : Int) = r.1 := by unfold prodAt; rw [Int.toNat_natCast, psOf_at hr]
    rw [hp]
    have hkc : ¬ (k : Int) < 0 := by omega
    clear h hm hp
    dsimp only
    go_enter Try.func76, Try.ntmps76
    go_upto_region 4 with (go_at_call 69; refine HF.out.mono ?_; rintro e w1 ⟨rfl, hb1⟩; obtain ⟨A, c, hb, hmax, hrow⟩ := (HI.out.below hb1).read; have c0 : w1.cell? ⟨gb, 0, none⟩ = some (.slice A rs.length c) := (blk_cell hb 0).trans rfl; obtain ⟨g, cur, hA, -, hg, hj⟩ := hrow k r hr; subst hA; have c2 : w1.cell? ⟨g, k * 6 + 2, none⟩ = some (.int .i64 r.1.epoch) := (blk_cell hg (k * 6 + 2)).trans (hj 2 (by decide)); have HB := Aside0.mk hb1; clear hb hrow hg hj hb1)
    have hkr : (k : Int) < (rs.length : Int) := by omega
    go_quiet (fail)
    go_wp2_with fail
    exact bodyPost_ret (v := .tuple #[.int .i64 (k : Int), .int .i64 r.1.epoch, .bool true]) (by simp [results, Try.results76, go_sem]) rfl ⟨rfl, below_step HB.out (pw_below_drewN (Below.refl _ w1) _)⟩
  · rw [if_neg hm]
    rw [show rfindF (nmsOf (psOf rs)) s = -1 from if_neg hm] at HF
    go_enter Try.func76, Try.ntmps76
    go_wp2_with (go_at_call 69; refine HF.out.mono ?_; rintro e w1 ⟨rfl, hb1⟩; have HB := Aside0.mk hb1; clear hb1)
    exact bodyPost_ret (v := .tuple #[.int .i64 0, .int .i64 0, .bool false]) (by simp [results, Try.results76, go_sem]) rfl ⟨rfl, HB.out⟩
set_option maxHeartbeats 1600000 in
set_option maxRecDepth 100000 in
theorem rStatus_c (h : RB own gb rs w) (k : Int) : Calls Try.prog 77 #[.pointer (some ⟨gb, 0, none⟩), .int .i64 k] w fun e w' => e = .returned (.tuple #[.int .i64 (statusF (psOf rs) k).1, .int .i64 (statusF (psOf rs) k).2.1, .bool (statusF (psOf rs) k).2.2]) ∧ Below w.heap.size w w' := by
  obtain ⟨A, c, hb, hmax, hrow⟩ := h.read
  have c0 : w.cell? ⟨gb, 0, none⟩ = some (.slice A rs.length c) := (blk_cell hb 0).trans rfl
  unfold statusF
  rw [psOf_len]
  by_cases hk : 0 ≤ k ∧ k < rs.length
  · rw [if_pos hk]
    obtain ⟨hk0, hk1⟩ := hk
    obtain ⟨j, rfl⟩ := Int.eq_ofNat_of_zero_le hk0
    have hj : j < rs.length := by omega
    obtain ⟨r, hr⟩ : ∃ r, rs[j]? = some r := ⟨_, List.getElem?_eq_getElem hj⟩
    have hp : prodAt (psOf rs) (j : Int) = r.1 := by unfold prodAt; rw [Int.toNat_natCast, psOf_at hr]
    rw [hp]
    obtain ⟨g, cur, hA, -, hg, hc⟩ := hrow j r hr
    subst hA
    have c2 : w.cell? ⟨g, j * 6 + 2, none⟩ = some (.int .i64 r.1.epoch) := (blk_cell hg (j * 6 + 2)).trans (hc 2 (by decide))
    have c3 : w.cell? ⟨g, j * 6 + 3, none⟩ = some (.int .i64 r.1.status) := (blk_cell hg (j * 6 + 3)).trans (hc 3 (by decide))
    have hj0 : ¬ (j : Int) < 0 := by omega
    have hj1 : ¬ (rs.length : Int) ≤ (j : Int) := by omega
    clear h hb hrow hg hc hp hr
    dsimp only
    go_enter Try.func77, Try.ntmps77
    go_upto_region 3 with fail
    go_quiet (fail)
    go_wp2_with fail
    exact bodyPost_ret (v := .tuple #[.int .i64 r.1.status, .int .i64 r.1.epoch, .bool true]) (by simp [results, Try.results77, go_sem]) rfl ⟨rfl, pw_below_drewN (Below.refl _ w) _⟩
  · rw [if_neg hk]
    clear h hb hrow
    by_cases hk0 : k < 0
    · go_enter Try.func77, Try.ntmps77
      go_wp2_with fail
      exact bodyPost_ret (v := .tuple #[.int .i64 0, .int .i64 0, .bool false]) (by simp [results, Try.results77, go_sem]) rfl ⟨rfl, Below.refl _ _⟩
    · have hk1 : (rs.length : Int) ≤ k := by omega
      go_enter Try.func77, Try.ntmps77
      go_wp2_with fail
      exact bodyPost_ret (v := .tuple #[.int .i64 0, .int .i64 0, .bool false]) (by simp [results, Try.results77, go_sem]) rfl ⟨rfl, Below.refl _ _⟩
set_option maxHeartbeats 1600000 in
set_option maxRecDepth 100000 in
theorem rPlaces_c (h : RB own gb rs w) (hl : ∀ r ∈ rs, r.1.places.length ≤ 100) (k : Int) : Calls Try.prog 79 #[.pointer (some ⟨gb, 0, none⟩), .int .i64 k] w fun e w' => ∃ v, e = .returned v ∧ Kd.R (Kd.int .i64) 3 w' w.heap.size (fun _ => True) v (placesF (psOf rs) k) ∧ Below w.heap.size w w' := by
  obtain ⟨A, c, hb, hmax, hrow⟩ := h.read
  have c0 : w.cell? ⟨gb, 0, none⟩ = some (.slice A rs.length c) := (blk_cell hb 0).trans rfl
  unfold placesF
  rw [psOf_len]
  by_cases hk : 0 ≤ k ∧ k < rs.length
  · rw [if_pos hk]
    obtain ⟨hk0, hk1⟩ := hk
    obtain ⟨j, rfl⟩ := Int.eq_ofNat_of_zero_le hk0
    have hj : j < rs.length := by omega
    obtain ⟨r, hr⟩ : ∃ r, rs[j]? = some r := ⟨_, List.getElem?_eq_getElem hj⟩
    have hp : prodAt (psOf rs) (j : Int) = r.1 := by unfold prodAt; rw [Int.toNat_natCast, psOf_at hr]
    rw [hp]
    obtain ⟨g, cur, hA, -, hg, hc⟩ := hrow j r hr
    subst hA
    have hmem := List.mem_iff_getElem?.2 ⟨j, hr⟩
    have hR := h.each r hmem
    have hl1 := hl r hmem
    obtain ⟨Ap, cp, hv⟩ := Kd.R_slice hR
    rw [hv] at hR
    have HC := Aside0.mk (Kd.R_reads' hR).2.2
    have c5 : w.cell? ⟨g, j * 6 + 5, none⟩ = some r.2 := (blk_cell hg (j * 6 + 5)).trans (hc 5 (by decide))
    have HG := Aside0.mk (And.intro hb (And.intro hg (show cur[j * 6 + 5]? = some r.2 from hc 5 (by decide))))
    rw [hv] at c5 HG
    generalize r.1.places = l at HC hl1 c5 HG ⊢
    have hj0 : ¬ (j : Int) < 0 := by omega
    have hj1 : ¬ (rs.length : Int) ≤ (j : Int) := by omega
    clear h hrow hc hp hr hmem hR hv hl hb hg
    go_enter Try.func79, Try.ntmps79
    go_wp2_with (first
      | ((with_reducible refine gate_dst (N := 16) rfl ?_); refine Kd.R_lit (Kd.int .i64) (w0 := w) w.heap.size 3 ?hg (N := 16) ?hd (xs := ([] : List Int)) (inner := []) (ok := fun _ => True) (okp := fun _ => True) ?hr ?hp (fun _ hk => hk) trivial (Below.refl _ _) (Nat.le_refl _) (by simp) ?_; (case hg => rfl); (case hd => rfl); (case hr => first | (go_simp; done) | (go_simp; rfl)); (case hp => exact Reps.none _ _); intro vl_ wl_ HOl_ hbl_ hgl_ hatl_; have HCl_ := Kd.C_below HC.out hbl_; have c0 : wl_.cell? ⟨gb, 0, none⟩ = some (.slice (some ⟨g, 0, none⟩) rs.length c) := (blk_cell (blk_below HG.out.1 hbl_) 0).trans rfl; have c5 : wl_.cell? ⟨g, j * 6 + 5, none⟩ = some (.slice Ap l.length cp) := (blk_cell (blk_below HG.out.2.1 hbl_) (j * 6 + 5)).trans HG.out.2.2; clear hgl_ hatl_)
      | (refine Kd.R_append_row (Value.int .i64) 0 w.heap.size rfl (.tmp 16) (.tmp 24) 48 3 (.int .i64 0) 8 rfl Try.underlying48 infoI64 rfl (by omega) vl_ [] l Ap _ cp (fun _ => True) rfl rfl (fun _ _ => trivial) HOl_ HCl_ hbl_ (below_size hbl_) (by simp; omega) ?_; intro v1_ W1_ ho_ hb_ hg_ hat_; clear HOl_ HCl_ hbl_ hg_ hat_))
    exact bodyPost_ret (v := v1_) (by simp [results, Try.results79, go_sem]) rfl ⟨_, rfl, ho_, hb_⟩
  · rw [if_neg hk]
    clear h hb hrow
    by_cases hk0 : k < 0
    · go_enter Try.func79, Try.ntmps79
      go_wp2_with fail
      exact bodyPost_ret (v := .slice none 0 0) (by simp [results, Try.results79, go_sem]) rfl ⟨_, rfl, Kd.R_nil _ _ _ _ _, Below.refl _ _⟩
    · have hk1 : (rs.length : Int) ≤ k := by omega
      go_enter Try.func79, Try.ntmps79
      go_wp2_with fail
      exact bodyPost_ret (v := .slice none 0 0) (by simp [results, Try.results79, go_sem]) rfl ⟨_, rfl, Kd.R_nil _ _ _ _ _, Below.refl _ _⟩
end Go.Proofs.Ytofegigbhohebaa.Hand
