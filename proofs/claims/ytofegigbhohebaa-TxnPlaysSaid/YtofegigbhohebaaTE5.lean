/- A place more. -/
import Derived.Test.YtofegigbhohebaaTE4
namespace Go.Proofs.Ytofegigbhohebaa.Hand
open Go.RowKit Go.Proofs.Ytofegigbhohebaa Go.Proofs.YtofegigbhohebaaW.PrintWords Go.Proofs.YtofegigbhohebaaW.PrintLast
set_option linter.unusedVariables false
set_option linter.unusedSimpArgs false
theorem count_first {l : List Int} {x : Int} {k : Nat} (hs : l.Pairwise (· < ·)) (hk : k ≤ l.length) (h1 : ∀ y ∈ l.take k, y < x) (h2 : ∀ y, l[k]? = some y → ¬ y < x) : l.countP (· < x) = k := by
  have e : l.countP (· < x) = (l.take k).countP (· < x) + (l.drop k).countP (· < x) := by rw [← List.countP_append, List.take_append_drop]
  have e1 : (l.take k).countP (· < x) = k := by
    rw [List.countP_eq_length.2 (fun y hy => by simpa using h1 y hy), List.length_take]
    omega
  have e2 : (l.drop k).countP (· < x) = 0 := by
    rw [List.countP_eq_zero]
    intro y hy
    obtain ⟨i, hi⟩ := List.mem_iff_getElem?.1 hy
    rw [List.getElem?_drop] at hi
    have hkl : k < l.length := by
      have := (List.getElem?_eq_some_iff.1 hi).1
      omega
    have h3 := h2 l[k] (List.getElem?_eq_getElem hkl)
    have h4 : l[k] ≤ y := by
      obtain ⟨hi1, hi2⟩ := List.getElem?_eq_some_iff.1 hi
      rcases Nat.eq_zero_or_pos i with rfl | h0
      · exact Int.le_of_eq hi2
      · rw [← hi2]
        exact Int.le_of_lt ((List.pairwise_iff_getElem.1 hs) k (k + i) hkl hi1 (by omega))
    simp only [decide_eq_true_eq]
    omega
  omega
--TABS
def TE4 : Bool × List (List Nat × List Nat) := (true, [([], []), ([], []), ([], []), ([2], [2]), ([1, 3], [1, 3]), ([], []), ([5], [5]), ([6], [6]), ([7], [7]), ([], []), ([8, 9], [8, 9]), ([4, 10, 4], [4, 10]), ([0, 0, 1, 2, 3, 4, 5, 6, 7, 8, 9, 10, 11], [0]), ([12, 0, 1, 2, 3, 4, 5, 6, 7, 8, 9, 10, 11], [12]), ([13, 11, 11, 0, 1, 2, 3, 4, 5, 6, 7, 8, 9, 10, 11], [11, 13])])
def BE4 : List Nat := [0, 0, 0, 4, 14, 0, 32, 96, 224, 0, 992, 2046, 4095, 8191, 16383]
theorem tabE4 : rtab .any (opsOf Try.f74 4) = TE4 := by kernel_rfl
theorem bitsE4 : waitsOk TE4.2 BE4 = true := by kernel_rfl
set_option maxHeartbeats 3200000 in
set_option maxRecDepth 100000 in
theorem radd_c (g o : Nat) (c0 cur : Array Value) (r : RP) (A : Option Addr) (c : Nat) (x : Int) (w : World) (hb : w.heap[g]? = some (.cells cur 127 (0, 0))) (hu : PU o c0 cur r) (hv : r.2 = .slice A r.1.places.length c) (hlc : r.1.places.length ≤ c) (hr : Kd.C (Kd.int .i64) w A r.1.places.length r.1.places) (hl : r.1.places.length ≤ 100) (hs : r.1.places.Pairwise (· < ·)) :
    Calls Try.prog 74 #[.pointer (some ⟨g, o, none⟩), .int .i64 x] w fun e w' => e = .returned (.tuple #[]) ∧ ∃ cur' v', w'.heap[g]? = some (.cells cur' 127 (0, 0)) ∧ PU o c0 cur' ({ r.1 with places := insertF r.1.places x }, v') ∧ w.grownBy w' (some g) ∧ Kd.R (Kd.int .i64) 3 w' 0 (fun k => w.heap.size ≤ k) v' (insertF r.1.places x) := by
  have HB := Aside0.mk hb
  have HU := Aside0.mk hu
  have HC := Aside0.mk hr
  have c5 : w.cell? ⟨g, o + 5, none⟩ = some (.slice A r.1.places.length c) := (blk_cell hb (o + 5)).trans ((hu.new 5 (by decide)).trans (congrArg some hv))
  have H5 := Aside0.mk (show cur[o + 5]? = some (.slice A r.1.places.length c) from (hu.new 5 (by decide)).trans (congrArg some hv))
  have hlt := blk_lt hb
  clear hb hu hr hv
  obtain ⟨l, hll⟩ : ∃ l, r.1.places = l := ⟨_, rfl⟩
  rw [hll] at HC hl hlc hs c5 H5 ⊢
  have HS := Aside0.mk hs
  clear hs
  go_enter Try.func74, Try.ntmps74
  go_wp2_with fail
  go_loopw [4] (fun i wr => ∃ k : Nat, k ≤ l.length ∧ i = .int .i64 (k : Int) ∧ wr = w ∧ ∀ y ∈ l.take k, y < x) (fun i _ => l.length - (intOf i).toNat)
  case atStart => exact ⟨0, Nat.zero_le _, rfl, rfl, fun y h => by simp at h⟩
  case round =>
    obtain ⟨k, hk, rfl, hwr, hlx⟩ := hrel
    subst hwr
    have HX := Aside0.mk hlx
    clear hlx
    by_cases hgo : ∃ y, l[k]? = some y ∧ y < x
    · obtain ⟨y, hy, hyx⟩ := hgo
      have hkl := (List.getElem?_eq_some_iff.1 hy).1
      have hkc : (k : Int) < (l.length : Int) := by omega
      obtain ⟨ad, rfl, hc⟩ := Kd.at_int HC.out (k : Int) (by omega) (by omega)
      rw [Int.toNat_natCast, show rd l (k : Int) = y by unfold rd; simp [hy]] at hc
      have HN := Aside0.mk (show ∀ z ∈ l.take (k + 1), z < x from fun z hz => by
        rw [List.take_add_one, hy, List.mem_append] at hz
        rcases hz with hz | hz
        · exact HX.out z hz
        · simp at hz; rw [hz]; exact hyx)
      clear hy
      go_wp2_with fail
      exact ⟨⟨k + 1, by omega, rfl, by simp, HN.out⟩, by simp only [intOf]; omega⟩
    · have HKF := Aside0.mk (count_first HS.out hk HX.out (fun y hy hyx => hgo ⟨y, hy, hyx⟩))
      have HTK := Aside0.mk (Kd.C_take HC.out hk)
      have HDK := Aside0.mk (Kd.C_drop HC.out hk hlc)
      have hlk : (l.take k).length = k := by rw [List.length_take]; omega
      have hld : (l.drop k).length = l.length - k := List.length_drop
      have hst : k < l.length → ∃ ad y, A = some ad ∧ wr.cell? (ad.add k) = some (.int .i64 y) ∧ ¬ y < x := fun hkl => by
        obtain ⟨ad, rfl, hc⟩ := Kd.at_int HC.out (k : Int) (by omega) (by omega)
        rw [Int.toNat_natCast, show rd l (k : Int) = l[k] by unfold rd; simp [hkl]] at hc
        exact ⟨ad, _, rfl, hc, fun h => hgo ⟨_, List.getElem?_eq_getElem hkl, h⟩⟩
      have HI := Aside0.mk (show insertF l x = l.take k ++ [x] ++ l.drop k by unfold insertF; rw [HKF.out])
      clear hgo
      have HEX : Aside0 (∀ P : Prop, (k < l.length → P) → (k = l.length → P) → P) := Aside0.mk (fun P h1 h2 => by rcases Nat.lt_or_ge k l.length with h | h; exact h1 h; exact h2 (by omega))
      rw [hlk] at HTK
      clear HKF HEX HC HX
      rcases Nat.lt_or_ge k l.length with hkl | hkl
      · have hkc : (k : Int) < (l.length : Int) := by omega
        obtain ⟨ad, y, hA, hc, hyx⟩ := hst hkl
        clear hst
        subst hA
        go_upto_region 3 with fail
        obtain ⟨A', hA'⟩ : ∃ A', some ad = A' := ⟨_, rfl⟩
        rw [hA'] at HTK HDK H5 c5 ⊢
        clear hA' hc hyx hkc hkl
        go_upto_region 4 with (first
          | ((with_reducible refine gate_dst (N := 26) rfl ?_); refine Kd.R_lit (Kd.int .i64) (w0 := wr) wr.heap.size 3 ?hg (N := 26) ?hd (xs := ([] : List Int)) (inner := []) (ok := fun _ => True) (okp := fun _ => True) ?hr ?hp (fun _ hk => hk) trivial (Below.refl _ _) (Nat.le_refl _) (by simp) ?_; (case hg => rfl); (case hd => rfl); (case hr => first | (go_simp; done) | (go_simp; rfl)); (case hp => exact Reps.none _ _); intro vl_ wl_ HOl_ hbl_ hgl_ hatl_; have HCl_ := Kd.C_below HTK.out hbl_; have c5 : wl_.cell? ⟨g, o + 5, none⟩ = some (.slice A' l.length c) := (blk_cell (blk_below HB.out hbl_) (o + 5)).trans H5.out; clear hgl_ hatl_)
          | (refine Kd.R_append_row (w0 := wr) (Value.int .i64) 0 wr.heap.size rfl (.tmp 26) (.tmp 32) 48 3 (.int .i64 0) 8 rfl Try.underlying48 infoI64 rfl (by omega) vl_ [] (l.take k) A' _ c (fun _ => True) rfl rfl (fun _ _ => trivial) HOl_ HCl_ hbl_ (below_size hbl_) (by simp; omega) ?_; intro v1_ w2 ho_ hb_ hg_ hat_; rw [List.nil_append] at ho_; have HA2 := Aside0.mk (show Kd.R (Kd.int .i64) 3 w2 wr.heap.size (fun _ => True) v1_ (l.take k) from ho_); have HB2 := Aside0.mk hb_; clear HOl_ HCl_ hbl_ hg_ hat_ ho_ hb_ c5))
        have hdr := below_drew (Below.refl w2.heap.size w2)
        have HG3 := Aside0.mk (blk_below (blk_below HB.out HB2.out) hdr)
        have HA3 := Aside0.mk (Kd.R_below HA2.out hdr)
        have HB3 := Aside0.mk (below_step HB2.out hdr)
        clear hdr
        have c5 : w2.drew.cell? ⟨g, o + 5, none⟩ = some (.slice A' l.length c) := (blk_cell HG3.out (o + 5)).trans H5.out
        refine start_ (n := 15) (S := fun w' => w'.cell? ⟨g, o + 5, none⟩ = some (.slice A' l.length c)) (ds := [14]) #[false, false, false, false, false, false, false, false, false, false, false, false, false, false, false] (by kernel_rfl) rfl rfl c5 (fun hHeld => ?_); refine with_tabW tabE4 bitsE4 (fun HT_ HW_ => ?_)
        generalize w2.drew = w3 at HG3 HA3 HB3 c5 hHeld ⊢
        refine pure_ (i := 0) (N := (some 34)) (v := ?_) (a' := ?_) #[true, false, false, false, false, false, false, false, false, false, false, false, false, false, false] rfl rfl (any_of HT_.out (by kernel_rfl)) (fun _ _ _ h => h) (Or.inl ⟨by rfl, ?_⟩) ?_ ?_
        rotate_left
        · intro w'
          go_simp
          with_reducible rfl
        rotate_left
        · simp only [Act.put, List.setIfInBounds_toArray, List.set_cons_zero, List.set_cons_succ, i64_w, i32_w]
          rfl
        refine pure_ (i := 1) (N := (some 35)) (v := ?_) (a' := ?_) #[true, true, false, false, false, false, false, false, false, false, false, false, false, false, false] rfl rfl (any_of HT_.out (by kernel_rfl)) (fun _ _ _ h => h) (Or.inl ⟨by rfl, ?_⟩) ?_ ?_
        rotate_left
        · intro w'
          go_simp
          with_reducible rfl
        rotate_left
        · simp only [Act.put, List.setIfInBounds_toArray, List.set_cons_zero, List.set_cons_succ, i64_w, i32_w]
          rfl
        refine pure_ (i := 2) (N := (some 36)) (v := ?_) (a' := ?_) #[true, true, true, false, false, false, false, false, false, false, false, false, false, false, false] rfl rfl (any_of HT_.out (by kernel_rfl)) (fun _ _ _ h => h) (Or.inl ⟨by rfl, ?_⟩) ?_ ?_
        rotate_left
        · intro w'
          go_simp
          with_reducible rfl
        rotate_left
        · simp only [Act.put, List.setIfInBounds_toArray, List.set_cons_zero, List.set_cons_succ, i64_w, i32_w]
          rfl
        refine pure_ (i := 5) (N := (some 39)) (v := ?_) (a' := ?_) #[true, true, true, false, false, true, false, false, false, false, false, false, false, false, false] rfl rfl (any_of HT_.out (by kernel_rfl)) (fun _ _ _ h => h) (Or.inl ⟨by rfl, ?_⟩) ?_ ?_
        rotate_left
        · intro w'
          go_simp
          with_reducible rfl
        rotate_left
        · simp only [Act.put, List.setIfInBounds_toArray, List.set_cons_zero, List.set_cons_succ, i64_w, i32_w]
          rfl
        refine pure_ (i := 6) (N := (some 40)) (v := ?_) (a' := ?_) #[true, true, true, false, false, true, true, false, false, false, false, false, false, false, false] rfl rfl (any_of HT_.out (by kernel_rfl)) (fun _ _ _ h => h) (Or.inl ⟨by rfl, ?_⟩) ?_ ?_
        rotate_left
        · intro w'
          go_simp
          with_reducible rfl
        rotate_left
        · simp only [Act.put, List.setIfInBounds_toArray, List.set_cons_zero, List.set_cons_succ, i64_w, i32_w]
          rfl
        refine pure_ (i := 7) (N := (some 41)) (v := ?_) (a' := ?_) #[true, true, true, false, false, true, true, true, false, false, false, false, false, false, false] rfl rfl (any_of HT_.out (by kernel_rfl)) (fun _ _ _ h => h) (Or.inl ⟨by rfl, ?_⟩) ?_ ?_
        rotate_left
        · intro w'
          go_simp
          with_reducible rfl
        rotate_left
        · simp only [Act.put, List.setIfInBounds_toArray, List.set_cons_zero, List.set_cons_succ, i64_w, i32_w]
          rfl
        refine take_ (i := 8) (N := (some 42)) (v := .slice A' l.length c) (a' := ?_) #[true, true, true, false, false, true, true, true, true, false, false, false, false, false, false] rfl rfl (take_ofW HT_.out HW_.out (by kernel_rfl)) (fun _ _ _ h => h) (Or.inl ⟨by rfl, fun w' s0 => by go_simp⟩) hHeld ?_ ?_
        rotate_left
        · simp only [Act.put, List.setIfInBounds_toArray, List.set_cons_zero, List.set_cons_succ, i64_w, i32_w]
          rfl
        refine pure_ (i := 9) (N := (some 43)) (v := ?_) (a' := ?_) #[true, true, true, false, false, true, true, true, true, true, false, false, false, false, false] rfl rfl (any_of HT_.out (by kernel_rfl)) (fun _ _ _ h => h) (Or.inl ⟨by rfl, ?_⟩) ?_ ?_
        rotate_left
        · intro w'
          go_simp
          with_reducible rfl
        rotate_left
        · simp only [Act.put, List.setIfInBounds_toArray, List.set_cons_zero, List.set_cons_succ, i64_w, i32_w]
          rfl
        have hkc1 : (k : Int) ≤ (l.length : Int) := by omega
        have hkc2 : (l.length : Int) ≤ (c : Int) := by omega
        refine pure_ (i := 10) (N := (some 44)) (v := ?_) (a' := ?_) #[true, true, true, false, false, true, true, true, true, true, true, false, false, false, false] rfl rfl (any_of HT_.out (by kernel_rfl)) (fun _ _ _ h => h) (Or.inl ⟨by rfl, ?_⟩) ?_ ?_
        rotate_left
        · intro w'
          go_simp
          with_reducible rfl
        rotate_left
        · simp only [Act.put, List.setIfInBounds_toArray, List.set_cons_zero, List.set_cons_succ, i64_w, i32_w]
          rfl
        have HCB := Aside0.mk (fun (V : World) (h : Below wr.heap.size wr V) => (show Kd.C (Kd.int .i64) V (if c = k then A' else Option.map (fun x => x.add k) A') (l.length - k) (l.drop k) by have h2 := Kd.C_below HDK.out h; rw [hld, show k * (Kd.int .i64).sz = k from Nat.mul_one k] at h2; exact h2))
        clear HDK
        generalize (if c = k then A' else Option.map (fun x => x.add k) A') = B at HCB ⊢
        refine one_ (i := 3) (N := (some 37)) #[true, true, true, true, false, true, true, true, true, true, true, false, false, false, false] rfl rfl (one_of HT_.out (by kernel_rfl)) (by decide) (fun K hK => ?_)
        refine Kd.R_lit_step (Kd.int .i64) (w0 := w3) w3.heap.size 3 (by rfl) (N := 37) rfl (xs := [x]) (inner := [.int .i64 x]) (ok := fun _ => True) (okp := fun _ => True) ?hr ?hp (fun _ hk => hk) trivial (Below.refl _ _) (Nat.le_refl _) (by simp) ?_
        case hr => first | (go_simp; done) | (go_simp; rfl)
        case hp => exact Reps.snoc (Reps.none _ 1) rfl rfl
        intro v4 w4 HO4 hb4 _ _
        have HG4 := Aside0.mk (blk_below HG3.out hb4)
        have HA4 := Aside0.mk (Kd.R_below HA3.out hb4)
        have HB4 := Aside0.mk (below_step HB3.out hb4)
        obtain ⟨A4, c4, rfl⟩ := Kd.R_slice HO4
        have HO5 := Aside0.mk (Kd.R_reads' HO4).2.2
        clear HO4 hb4 HG3 HA3 HB3 c5
        have c5 : w4.cell? ⟨g, o + 5, none⟩ = some (.slice A' l.length c) := (blk_cell HG4.out (o + 5)).trans H5.out
        refine hK.out _ _ c5 (fun hHeld => ?_)
        clear hK K
        refine norm_ (a' := ?_) ?_ ?_
        rotate_left
        · show Act.put _ (some 37) _ = _
          simp only [Act.put, List.setIfInBounds_toArray, List.set_cons_zero, List.set_cons_succ, i64_w, i32_w]
          rfl
        refine one_ (i := 4) (N := (some 38)) #[true, true, true, true, true, true, true, true, true, true, true, false, false, false, false] rfl rfl (one_of HT_.out (by kernel_rfl)) (by decide) (fun K hK => ?_)
        refine Kd.R_append_rows_step (Kd.int .i64) (w0 := w4) wr.heap.size (by rfl) (.tmp 35) (.tmp 37) 48 3 (.int .i64 0) 8 rfl Try.underlying48 infoI64 rfl (by decide) (by decide) v1_ (l.take k) [x] A4 _ c4 (fun _ => True) (fun _ => False) rfl rfl HA4.out HO5.out (fun x cs h => h) (fun k h => h.elim) (fun _ _ => trivial) (Below.refl _ _) HB4.out.size (by rw [hlk]; simp; omega) ?_
        intro v5 w5 ho5 hb5 _ _
        have HG5 := Aside0.mk ((hb5.block g hlt).trans HG4.out)
        have HE5 := Aside0.mk (show Kd.C (Kd.int .i64) w5 B (l.length - k) (l.drop k) from HCB.out _ (HB4.out.trans hb5))
        have HA5 := Aside0.mk ho5
        have HB5 := Aside0.mk (HB4.out.trans hb5)
        clear ho5 hb5 HG4 HA4 HO5 HB4 c5
        have c5 : w5.cell? ⟨g, o + 5, none⟩ = some (.slice A' l.length c) := (blk_cell HG5.out (o + 5)).trans H5.out
        refine hK.out _ _ c5 (fun hHeld => ?_)
        clear hK K
        refine norm_ (a' := ?_) ?_ ?_
        rotate_left
        · show Act.put _ (some 38) _ = _
          simp only [Act.put, List.setIfInBounds_toArray, List.set_cons_zero, List.set_cons_succ, i64_w, i32_w]
          rfl
        refine one_ (i := 11) (N := (some 45)) #[true, true, true, true, true, true, true, true, true, true, true, true, false, false, false] rfl rfl (one_of HT_.out (by kernel_rfl)) (by decide) (fun K hK => ?_)
        refine Kd.R_append_rows_step (Kd.int .i64) (w0 := w5) wr.heap.size (by rfl) (.tmp 38) (.tmp 44) 48 3 (.int .i64 0) 8 rfl Try.underlying48 infoI64 rfl (by decide) (by decide) v5 (l.take k ++ [x]) (l.drop k) B _ (c - k) (fun _ => True) (fun _ => False) rfl rfl HA5.out HE5.out (fun x cs h => h) (fun k h => h.elim) (fun _ _ => trivial) (Below.refl _ _) HB5.out.size (by rw [List.length_append, hlk]; simp; omega) ?_
        intro v6 w6 ho6 hb6 _ _
        have HG6 := Aside0.mk ((hb6.block g hlt).trans HG5.out)
        rw [← HI.out] at ho6
        obtain ⟨A6, c6, rfl⟩ := Kd.R_slice ho6
        have HA6 := Aside0.mk ho6
        have HB6 := Aside0.mk (HB5.out.trans hb6)
        clear ho6 hb6 HG5 HA5 HE5 HB5 c5
        have c5 : w6.cell? ⟨g, o + 5, none⟩ = some (.slice A' l.length c) := (blk_cell HG6.out (o + 5)).trans H5.out
        have f5 := blk_frozen HG6.out (o + 5)
        refine hK.out _ _ c5 (fun hHeld => ?_)
        clear hK K
        refine norm_ (a' := ?_) ?_ ?_
        rotate_left
        · show Act.put _ (some 45) _ = _
          simp only [Act.put, List.setIfInBounds_toArray, List.set_cons_zero, List.set_cons_succ, i64_w, i32_w]
          rfl
        refine pure_ (i := 12) (N := (some 46)) (v := ?_) (a' := ?_) #[true, true, true, true, true, true, true, true, true, true, true, true, true, false, false] rfl rfl (any_of HT_.out (by kernel_rfl)) (fun _ _ _ h => h) (Or.inl ⟨by rfl, ?_⟩) ?_ ?_
        rotate_left
        · intro w'
          go_simp
          with_reducible rfl
        rotate_left
        · simp only [Act.put, List.setIfInBounds_toArray, List.set_cons_zero, List.set_cons_succ, i64_w, i32_w]
          rfl
        refine pure_ (i := 13) (N := (some 47)) (v := ?_) (a' := ?_) #[true, true, true, true, true, true, true, true, true, true, true, true, true, true, false] rfl rfl (any_of HT_.out (by kernel_rfl)) (fun _ _ _ h => h) (Or.inl ⟨by rfl, ?_⟩) ?_ ?_
        rotate_left
        · intro w'
          go_simp
          with_reducible rfl
        rotate_left
        · simp only [Act.put, List.setIfInBounds_toArray, List.set_cons_zero, List.set_cons_succ, i64_w, i32_w]
          rfl
        refine last_ (i := 14) (N := none) #[true, true, true, true, true, true, true, true, true, true, true, true, true, true, true] rfl rfl (one_of HT_.out (by kernel_rfl)) (by decide) (fun K hK => ?_)
        refine skip_ (w1 := ?_) (by rfl) rfl ?_ ?_
        rotate_left
        · go_simp
          rfl
        refine hK.out _ _ ?_
        clear hK K
        refine done_ (done_of HT_.out (by kernel_rfl)) ?_
        clear hHeld HT_ HW_ c5 f5
        go_wp2_with fail
        go_end0
        have hR0 := Kd.R_lower (Kd.R_mono (Kd.R_bound HA6.out) (ok' := fun k => wr.heap.size ≤ k) (fun k hk => hk.2.1)) (Nat.zero_le _)
        refine ⟨rfl, _, _, blk_put HG6.out (o + 5) _ rfl, HU.out.set 5 (by decide) _ _ (by rw [← hll]; rfl), World.grownBy.trans (⟨HB6.out.os, HB6.out.tape, HB6.out.output, HB6.out.size, fun k hk _ => HB6.out.block k hk⟩ : wr.grownBy w6 (some g)) (setCell_grown _ _ _ _), Kd.R_move hR0 (fun k hk => Below.heap_setCell _ _ _ k (fun e => ?_))⟩
        have e : k = g := e
        omega
      · have hkc : ¬ (k : Int) < (l.length : Int) := by omega
        clear hst
        go_upto_region 3 with fail
        obtain ⟨A', hA'⟩ : ∃ A', A = A' := ⟨_, rfl⟩
        rw [hA'] at HTK HDK H5 c5 ⊢
        clear hA' hkc hkl
        go_upto_region 4 with (first
          | ((with_reducible refine gate_dst (N := 26) rfl ?_); refine Kd.R_lit (Kd.int .i64) (w0 := wr) wr.heap.size 3 ?hg (N := 26) ?hd (xs := ([] : List Int)) (inner := []) (ok := fun _ => True) (okp := fun _ => True) ?hr ?hp (fun _ hk => hk) trivial (Below.refl _ _) (Nat.le_refl _) (by simp) ?_; (case hg => rfl); (case hd => rfl); (case hr => first | (go_simp; done) | (go_simp; rfl)); (case hp => exact Reps.none _ _); intro vl_ wl_ HOl_ hbl_ hgl_ hatl_; have HCl_ := Kd.C_below HTK.out hbl_; have c5 : wl_.cell? ⟨g, o + 5, none⟩ = some (.slice A' l.length c) := (blk_cell (blk_below HB.out hbl_) (o + 5)).trans H5.out; clear hgl_ hatl_)
          | (refine Kd.R_append_row (w0 := wr) (Value.int .i64) 0 wr.heap.size rfl (.tmp 26) (.tmp 32) 48 3 (.int .i64 0) 8 rfl Try.underlying48 infoI64 rfl (by omega) vl_ [] (l.take k) A' _ c (fun _ => True) rfl rfl (fun _ _ => trivial) HOl_ HCl_ hbl_ (below_size hbl_) (by simp; omega) ?_; intro v1_ w2 ho_ hb_ hg_ hat_; rw [List.nil_append] at ho_; have HA2 := Aside0.mk (show Kd.R (Kd.int .i64) 3 w2 wr.heap.size (fun _ => True) v1_ (l.take k) from ho_); have HB2 := Aside0.mk hb_; clear HOl_ HCl_ hbl_ hg_ hat_ ho_ hb_ c5))
        have hdr := below_drew (Below.refl w2.heap.size w2)
        have HG3 := Aside0.mk (blk_below (blk_below HB.out HB2.out) hdr)
        have HA3 := Aside0.mk (Kd.R_below HA2.out hdr)
        have HB3 := Aside0.mk (below_step HB2.out hdr)
        clear hdr
        have c5 : w2.drew.cell? ⟨g, o + 5, none⟩ = some (.slice A' l.length c) := (blk_cell HG3.out (o + 5)).trans H5.out
        refine start_ (n := 15) (S := fun w' => w'.cell? ⟨g, o + 5, none⟩ = some (.slice A' l.length c)) (ds := [14]) #[false, false, false, false, false, false, false, false, false, false, false, false, false, false, false] (by kernel_rfl) rfl rfl c5 (fun hHeld => ?_); refine with_tabW tabE4 bitsE4 (fun HT_ HW_ => ?_)
        generalize w2.drew = w3 at HG3 HA3 HB3 c5 hHeld ⊢
        refine pure_ (i := 0) (N := (some 34)) (v := ?_) (a' := ?_) #[true, false, false, false, false, false, false, false, false, false, false, false, false, false, false] rfl rfl (any_of HT_.out (by kernel_rfl)) (fun _ _ _ h => h) (Or.inl ⟨by rfl, ?_⟩) ?_ ?_
        rotate_left
        · intro w'
          go_simp
          with_reducible rfl
        rotate_left
        · simp only [Act.put, List.setIfInBounds_toArray, List.set_cons_zero, List.set_cons_succ, i64_w, i32_w]
          rfl
        refine pure_ (i := 1) (N := (some 35)) (v := ?_) (a' := ?_) #[true, true, false, false, false, false, false, false, false, false, false, false, false, false, false] rfl rfl (any_of HT_.out (by kernel_rfl)) (fun _ _ _ h => h) (Or.inl ⟨by rfl, ?_⟩) ?_ ?_
        rotate_left
        · intro w'
          go_simp
          with_reducible rfl
        rotate_left
        · simp only [Act.put, List.setIfInBounds_toArray, List.set_cons_zero, List.set_cons_succ, i64_w, i32_w]
          rfl
        refine pure_ (i := 2) (N := (some 36)) (v := ?_) (a' := ?_) #[true, true, true, false, false, false, false, false, false, false, false, false, false, false, false] rfl rfl (any_of HT_.out (by kernel_rfl)) (fun _ _ _ h => h) (Or.inl ⟨by rfl, ?_⟩) ?_ ?_
        rotate_left
        · intro w'
          go_simp
          with_reducible rfl
        rotate_left
        · simp only [Act.put, List.setIfInBounds_toArray, List.set_cons_zero, List.set_cons_succ, i64_w, i32_w]
          rfl
        refine pure_ (i := 5) (N := (some 39)) (v := ?_) (a' := ?_) #[true, true, true, false, false, true, false, false, false, false, false, false, false, false, false] rfl rfl (any_of HT_.out (by kernel_rfl)) (fun _ _ _ h => h) (Or.inl ⟨by rfl, ?_⟩) ?_ ?_
        rotate_left
        · intro w'
          go_simp
          with_reducible rfl
        rotate_left
        · simp only [Act.put, List.setIfInBounds_toArray, List.set_cons_zero, List.set_cons_succ, i64_w, i32_w]
          rfl
        refine pure_ (i := 6) (N := (some 40)) (v := ?_) (a' := ?_) #[true, true, true, false, false, true, true, false, false, false, false, false, false, false, false] rfl rfl (any_of HT_.out (by kernel_rfl)) (fun _ _ _ h => h) (Or.inl ⟨by rfl, ?_⟩) ?_ ?_
        rotate_left
        · intro w'
          go_simp
          with_reducible rfl
        rotate_left
        · simp only [Act.put, List.setIfInBounds_toArray, List.set_cons_zero, List.set_cons_succ, i64_w, i32_w]
          rfl
        refine pure_ (i := 7) (N := (some 41)) (v := ?_) (a' := ?_) #[true, true, true, false, false, true, true, true, false, false, false, false, false, false, false] rfl rfl (any_of HT_.out (by kernel_rfl)) (fun _ _ _ h => h) (Or.inl ⟨by rfl, ?_⟩) ?_ ?_
        rotate_left
        · intro w'
          go_simp
          with_reducible rfl
        rotate_left
        · simp only [Act.put, List.setIfInBounds_toArray, List.set_cons_zero, List.set_cons_succ, i64_w, i32_w]
          rfl
        refine take_ (i := 8) (N := (some 42)) (v := .slice A' l.length c) (a' := ?_) #[true, true, true, false, false, true, true, true, true, false, false, false, false, false, false] rfl rfl (take_ofW HT_.out HW_.out (by kernel_rfl)) (fun _ _ _ h => h) (Or.inl ⟨by rfl, fun w' s0 => by go_simp⟩) hHeld ?_ ?_
        rotate_left
        · simp only [Act.put, List.setIfInBounds_toArray, List.set_cons_zero, List.set_cons_succ, i64_w, i32_w]
          rfl
        refine pure_ (i := 9) (N := (some 43)) (v := ?_) (a' := ?_) #[true, true, true, false, false, true, true, true, true, true, false, false, false, false, false] rfl rfl (any_of HT_.out (by kernel_rfl)) (fun _ _ _ h => h) (Or.inl ⟨by rfl, ?_⟩) ?_ ?_
        rotate_left
        · intro w'
          go_simp
          with_reducible rfl
        rotate_left
        · simp only [Act.put, List.setIfInBounds_toArray, List.set_cons_zero, List.set_cons_succ, i64_w, i32_w]
          rfl
        have hkc1 : (k : Int) ≤ (l.length : Int) := by omega
        have hkc2 : (l.length : Int) ≤ (c : Int) := by omega
        refine pure_ (i := 10) (N := (some 44)) (v := ?_) (a' := ?_) #[true, true, true, false, false, true, true, true, true, true, true, false, false, false, false] rfl rfl (any_of HT_.out (by kernel_rfl)) (fun _ _ _ h => h) (Or.inl ⟨by rfl, ?_⟩) ?_ ?_
        rotate_left
        · intro w'
          go_simp
          with_reducible rfl
        rotate_left
        · simp only [Act.put, List.setIfInBounds_toArray, List.set_cons_zero, List.set_cons_succ, i64_w, i32_w]
          rfl
        have HCB := Aside0.mk (fun (V : World) (h : Below wr.heap.size wr V) => (show Kd.C (Kd.int .i64) V (if c = k then A' else Option.map (fun x => x.add k) A') (l.length - k) (l.drop k) by have h2 := Kd.C_below HDK.out h; rw [hld, show k * (Kd.int .i64).sz = k from Nat.mul_one k] at h2; exact h2))
        clear HDK
        generalize (if c = k then A' else Option.map (fun x => x.add k) A') = B at HCB ⊢
        refine one_ (i := 3) (N := (some 37)) #[true, true, true, true, false, true, true, true, true, true, true, false, false, false, false] rfl rfl (one_of HT_.out (by kernel_rfl)) (by decide) (fun K hK => ?_)
        refine Kd.R_lit_step (Kd.int .i64) (w0 := w3) w3.heap.size 3 (by rfl) (N := 37) rfl (xs := [x]) (inner := [.int .i64 x]) (ok := fun _ => True) (okp := fun _ => True) ?hr ?hp (fun _ hk => hk) trivial (Below.refl _ _) (Nat.le_refl _) (by simp) ?_
        case hr => first | (go_simp; done) | (go_simp; rfl)
        case hp => exact Reps.snoc (Reps.none _ 1) rfl rfl
        intro v4 w4 HO4 hb4 _ _
        have HG4 := Aside0.mk (blk_below HG3.out hb4)
        have HA4 := Aside0.mk (Kd.R_below HA3.out hb4)
        have HB4 := Aside0.mk (below_step HB3.out hb4)
        obtain ⟨A4, c4, rfl⟩ := Kd.R_slice HO4
        have HO5 := Aside0.mk (Kd.R_reads' HO4).2.2
        clear HO4 hb4 HG3 HA3 HB3 c5
        have c5 : w4.cell? ⟨g, o + 5, none⟩ = some (.slice A' l.length c) := (blk_cell HG4.out (o + 5)).trans H5.out
        refine hK.out _ _ c5 (fun hHeld => ?_)
        clear hK K
        refine norm_ (a' := ?_) ?_ ?_
        rotate_left
        · show Act.put _ (some 37) _ = _
          simp only [Act.put, List.setIfInBounds_toArray, List.set_cons_zero, List.set_cons_succ, i64_w, i32_w]
          rfl
        refine one_ (i := 4) (N := (some 38)) #[true, true, true, true, true, true, true, true, true, true, true, false, false, false, false] rfl rfl (one_of HT_.out (by kernel_rfl)) (by decide) (fun K hK => ?_)
        refine Kd.R_append_rows_step (Kd.int .i64) (w0 := w4) wr.heap.size (by rfl) (.tmp 35) (.tmp 37) 48 3 (.int .i64 0) 8 rfl Try.underlying48 infoI64 rfl (by decide) (by decide) v1_ (l.take k) [x] A4 _ c4 (fun _ => True) (fun _ => False) rfl rfl HA4.out HO5.out (fun x cs h => h) (fun k h => h.elim) (fun _ _ => trivial) (Below.refl _ _) HB4.out.size (by rw [hlk]; simp; omega) ?_
        intro v5 w5 ho5 hb5 _ _
        have HG5 := Aside0.mk ((hb5.block g hlt).trans HG4.out)
        have HE5 := Aside0.mk (show Kd.C (Kd.int .i64) w5 B (l.length - k) (l.drop k) from HCB.out _ (HB4.out.trans hb5))
        have HA5 := Aside0.mk ho5
        have HB5 := Aside0.mk (HB4.out.trans hb5)
        clear ho5 hb5 HG4 HA4 HO5 HB4 c5
        have c5 : w5.cell? ⟨g, o + 5, none⟩ = some (.slice A' l.length c) := (blk_cell HG5.out (o + 5)).trans H5.out
        refine hK.out _ _ c5 (fun hHeld => ?_)
        clear hK K
        refine norm_ (a' := ?_) ?_ ?_
        rotate_left
        · show Act.put _ (some 38) _ = _
          simp only [Act.put, List.setIfInBounds_toArray, List.set_cons_zero, List.set_cons_succ, i64_w, i32_w]
          rfl
        refine one_ (i := 11) (N := (some 45)) #[true, true, true, true, true, true, true, true, true, true, true, true, false, false, false] rfl rfl (one_of HT_.out (by kernel_rfl)) (by decide) (fun K hK => ?_)
        refine Kd.R_append_rows_step (Kd.int .i64) (w0 := w5) wr.heap.size (by rfl) (.tmp 38) (.tmp 44) 48 3 (.int .i64 0) 8 rfl Try.underlying48 infoI64 rfl (by decide) (by decide) v5 (l.take k ++ [x]) (l.drop k) B _ (c - k) (fun _ => True) (fun _ => False) rfl rfl HA5.out HE5.out (fun x cs h => h) (fun k h => h.elim) (fun _ _ => trivial) (Below.refl _ _) HB5.out.size (by rw [List.length_append, hlk]; simp; omega) ?_
        intro v6 w6 ho6 hb6 _ _
        have HG6 := Aside0.mk ((hb6.block g hlt).trans HG5.out)
        rw [← HI.out] at ho6
        obtain ⟨A6, c6, rfl⟩ := Kd.R_slice ho6
        have HA6 := Aside0.mk ho6
        have HB6 := Aside0.mk (HB5.out.trans hb6)
        clear ho6 hb6 HG5 HA5 HE5 HB5 c5
        have c5 : w6.cell? ⟨g, o + 5, none⟩ = some (.slice A' l.length c) := (blk_cell HG6.out (o + 5)).trans H5.out
        have f5 := blk_frozen HG6.out (o + 5)
        refine hK.out _ _ c5 (fun hHeld => ?_)
        clear hK K
        refine norm_ (a' := ?_) ?_ ?_
        rotate_left
        · show Act.put _ (some 45) _ = _
          simp only [Act.put, List.setIfInBounds_toArray, List.set_cons_zero, List.set_cons_succ, i64_w, i32_w]
          rfl
        refine pure_ (i := 12) (N := (some 46)) (v := ?_) (a' := ?_) #[true, true, true, true, true, true, true, true, true, true, true, true, true, false, false] rfl rfl (any_of HT_.out (by kernel_rfl)) (fun _ _ _ h => h) (Or.inl ⟨by rfl, ?_⟩) ?_ ?_
        rotate_left
        · intro w'
          go_simp
          with_reducible rfl
        rotate_left
        · simp only [Act.put, List.setIfInBounds_toArray, List.set_cons_zero, List.set_cons_succ, i64_w, i32_w]
          rfl
        refine pure_ (i := 13) (N := (some 47)) (v := ?_) (a' := ?_) #[true, true, true, true, true, true, true, true, true, true, true, true, true, true, false] rfl rfl (any_of HT_.out (by kernel_rfl)) (fun _ _ _ h => h) (Or.inl ⟨by rfl, ?_⟩) ?_ ?_
        rotate_left
        · intro w'
          go_simp
          with_reducible rfl
        rotate_left
        · simp only [Act.put, List.setIfInBounds_toArray, List.set_cons_zero, List.set_cons_succ, i64_w, i32_w]
          rfl
        refine last_ (i := 14) (N := none) #[true, true, true, true, true, true, true, true, true, true, true, true, true, true, true] rfl rfl (one_of HT_.out (by kernel_rfl)) (by decide) (fun K hK => ?_)
        refine skip_ (w1 := ?_) (by rfl) rfl ?_ ?_
        rotate_left
        · go_simp
          rfl
        refine hK.out _ _ ?_
        clear hK K
        refine done_ (done_of HT_.out (by kernel_rfl)) ?_
        clear hHeld HT_ HW_ c5 f5
        go_wp2_with fail
        go_end0
        have hR0 := Kd.R_lower (Kd.R_mono (Kd.R_bound HA6.out) (ok' := fun k => wr.heap.size ≤ k) (fun k hk => hk.2.1)) (Nat.zero_le _)
        refine ⟨rfl, _, _, blk_put HG6.out (o + 5) _ rfl, HU.out.set 5 (by decide) _ _ (by rw [← hll]; rfl), World.grownBy.trans (⟨HB6.out.os, HB6.out.tape, HB6.out.output, HB6.out.size, fun k hk _ => HB6.out.block k hk⟩ : wr.grownBy w6 (some g)) (setCell_grown _ _ _ _), Kd.R_move hR0 (fun k hk => Below.heap_setCell _ _ _ k (fun e => ?_))⟩
        have e : k = g := e
        omega
end Go.Proofs.Ytofegigbhohebaa.Hand
