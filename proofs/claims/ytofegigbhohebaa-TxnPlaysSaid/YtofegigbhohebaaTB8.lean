/- What events do: an end. -/
import Derived.Test.YtofegigbhohebaaTB7
namespace Go.Proofs.Ytofegigbhohebaa.Hand
open Go.RowKit Go.Proofs.Ytofegigbhohebaa Go.Proofs.YtofegigbhohebaaW.PrintWords Go.Proofs.YtofegigbhohebaaW.PrintLast
set_option linter.unusedVariables false
set_option linter.unusedSimpArgs false
/-- What an event's function leaves. -/
def DoP (own : Nat → Nat) (gb : Nat) (ps' : List ProdV) (w : World) (w' : World) : Prop := ∃ own' gs', BI own' gb gs' ps' w' ∧ Fr own w w' ∧ ∀ k, k < w.heap.size → own' k = own k
variable {own : Nat → Nat} {gb : Nat} {gs : List Nat} {ps : List ProdV} {w w' : World}
theorem Fr.grown {g : Nat} (hg : w.grownBy w' (some g)) (ho : own g ≠ 0) : Fr own w w' := ⟨hg.os, hg.tape, hg.output, hg.size, fun k hk h0 => hg.block k hk (fun e => ho (by injection e with e; rw [← e]; exact h0))⟩
/-- A producer's fields have changed, its places have not. -/
theorem BI.fld (h : BI own gb gs ps w) {i : Nat} (hi : i < ps.length) {p p' : ProdV} (hp : ps.getD i prod0 = p) {v : Value} (hn : p'.name = p.name) (hpl : p'.places = p.places) (hb0 : w.heap[gs.getD i 0]? = some (.cells (prodC p v) 85 (0, 0))) (hv : Kd.R (Kd.int .i64) 3 w 0 (fun k => own k = i + 2) v p.places)
    (hg : w.grownBy w' (some (gs.getD i 0))) (hb : w'.heap[gs.getD i 0]? = some (.cells (prodC p' v) 85 (0, 0))) : BI own gb gs (ps.set i p') w' := by
  subst hp
  obtain ⟨e1, -⟩ := h.prod i hi
  refine h.put hi hn hg.size (fun k h0 h1 => hg.block k (h.lt k h0) (fun e => h1 (by injection e with e; rw [e]; exact e1))) (fun _ _ => rfl) (fun k h0 => Nat.lt_of_lt_of_le (h.lt k h0) hg.size) hb ?_
  rw [hpl]
  exact Kd.R_mono (Kd.R_grown (Kd.R_types hv hb0 (by decide)) hg (fun k hk e => hk.2 (by injection e))) (fun k hk => hk.1)
def TB32 : Bool × List (List Nat × List Nat) := (true, [([], []), ([0], [0]), ([1], [1]), ([2], [2]), ([], []), ([4], [4]), ([3, 5], [3, 5]), ([6], [6]), ([], []), ([7, 8], [7, 8])])
def BB32 : List Nat := [0, 1, 3, 7, 0, 16, 63, 127, 0, 511]
theorem tabB32 : rtab .any (opsOf Try.f32 4) = TB32 := by kernel_rfl
theorem bitsB32 : waitsOk TB32.2 BB32 = true := by kernel_rfl
set_option maxHeartbeats 6400000 in
set_option maxRecDepth 100000 in
theorem endB_c (h : BI own gb gs ps w) (x : EvV) (j : Nat) (hj : j < ps.length) (hx : x.producer = (j : Int)) (p : ProdV) (hp : ps.getD j prod0 = p) : Calls Try.prog 32 #[.pointer (some ⟨gb, 0, none⟩), evE x] w fun e w' => e = .returned (.tuple #[]) ∧ DoP own gb (ps.set j (endP p (if x.yes = true then 2 else 3))) w w' := by
  obtain ⟨o1, ho1⟩ : ∃ o1 : Obj, o1 = .cells #[.int .i64 x.kind, .string x.name, .int .i64 x.producer, .int .i64 x.epoch, .int .i64 x.place, .int .i64 x.timeout, .int .i64 x.now, .bool x.yes] 33 (0, 0) := ⟨_, rfl⟩
  have hb1 := below_alloc (Below.refl w.heap.size w) o1
  have HI := Aside0.mk (h.below hb1)
  have HB := Aside0.mk hb1
  have b1 := heap_alloc_new w o1
  rw [ho1] at b1
  have HX := Aside0.mk (show (w.alloc o1).heap[w.heap.size]? = some (.cells #[.int .i64 x.kind, .string x.name, .int .i64 x.producer, .int .i64 x.epoch, .int .i64 x.place, .int .i64 x.timeout, .int .i64 x.now, .bool x.yes] 33 (0, 0)) by rw [ho1]; exact b1)
  clear b1 hb1 h
  obtain ⟨kind, name, producer, epoch, place, timeout, now, yes⟩ := x
  dsimp only at hx ho1 HX
  subst hx
  unfold evE
  have x7 := (blk_cell HX.out 7).trans rfl
  subst ho1
  have hjc : (j : Int) < (ps.length : Int) := by omega
  have HP := Aside0.mk hp
  clear hp
  cases yes
  · go_enter Try.func32, Try.ntmps32
    go_wp2_with fail
    generalize hW1 : (w.alloc (.cells #[.int .i64 kind, .string name, .int .i64 (j : Int), .int .i64 epoch, .int .i64 place, .int .i64 timeout, .int .i64 now, .bool false] 33 (0, 0))) = w1 at HI HB HX ⊢
    clear hW1
    have hdrw := below_drew (Below.refl w1.heap.size w1)
    have HI2 := Aside0.mk (HI.out.below hdrw)
    have HB2 := Aside0.mk (below_step HB.out hdrw)
    have HX2 := Aside0.mk (blk_below HX.out hdrw)
    clear hdrw
    obtain ⟨A2, c2, B2, b0, -, -, -, -, hrow⟩ := HI2.out.cells
    obtain ⟨ad, hA, hcell⟩ := hrow j hj
    subst hA
    clear hrow
    obtain ⟨hog, v, hb, hv⟩ := HI2.out.prod j hj
    rw [HP.out] at hb hv
    obtain ⟨Av, cv, rfl⟩ := Kd.R_slice hv
    have PB := Aside0.mk hb
    have PV := Aside0.mk hv
    have HOG := Aside0.mk hog
    clear hb hv hog
    obtain ⟨g, hgg⟩ : ∃ g, gs.getD j 0 = g := ⟨_, rfl⟩
    rw [hgg] at hcell PB HOG
    have HGG := Aside0.mk hgg
    clear hgg
    clear HI HB HX
    refine start_ (n := 10) (S := fun w' => w'.cell? ⟨gb, 0, none⟩ = some (.slice (some ad) ps.length c2) ∧ w'.cell? (ad.add j) = some (.pointer (some ⟨g, 0, none⟩)) ∧ w'.cell? ⟨w.heap.size, 2, none⟩ = some (.int .i64 (j : Int))) (ds := [9]) #[false, false, false, false, false, false, false, false, false, false] (by kernel_rfl) rfl rfl ⟨b0, hcell, (by exact (blk_cell HX2.out 2).trans rfl)⟩ (fun hHeld => ?_); refine with_tabW tabB32 bitsB32 (fun HT_ HW_ => ?_)
    generalize hwd : w1.drew = w2 at HI2 HB2 HX2 PB PV b0 hcell hHeld ⊢
    clear hwd
    refine pure_ (i := 0) (N := (some 7)) (v := ?_) (a' := ?_) #[true, false, false, false, false, false, false, false, false, false] rfl rfl (any_of HT_.out (by kernel_rfl)) (fun _ _ _ h => h) (Or.inl ⟨by rfl, ?_⟩) ?_ ?_
    rotate_left
    · intro w'
      go_simp
      with_reducible rfl
    rotate_left
    · simp only [Act.put, List.setIfInBounds_toArray, List.set_cons_zero, List.set_cons_succ, i64_w, i32_w]
      rfl
    refine pure_ (i := 1) (N := (some 8)) (v := ?_) (a' := ?_) #[true, true, false, false, false, false, false, false, false, false] rfl rfl (any_of HT_.out (by kernel_rfl)) (fun _ _ _ h => h) (Or.inl ⟨by rfl, ?_⟩) ?_ ?_
    rotate_left
    · intro w'
      go_simp
      with_reducible rfl
    rotate_left
    · simp only [Act.put, List.setIfInBounds_toArray, List.set_cons_zero, List.set_cons_succ, i64_w, i32_w]
      rfl
    refine pure_ (i := 2) (N := (some 9)) (v := ?_) (a' := ?_) #[true, true, true, false, false, false, false, false, false, false] rfl rfl (any_of HT_.out (by kernel_rfl)) (fun _ _ _ h => h) (Or.inl ⟨by rfl, ?_⟩) ?_ ?_
    rotate_left
    · intro w'
      go_simp
      with_reducible rfl
    rotate_left
    · simp only [Act.put, List.setIfInBounds_toArray, List.set_cons_zero, List.set_cons_succ, i64_w, i32_w]
      rfl
    refine take_ (i := 3) (N := (some 10)) (v := ?_) (a' := ?_) #[true, true, true, true, false, false, false, false, false, false] rfl rfl (take_ofW HT_.out HW_.out (by kernel_rfl)) (fun _ _ _ h => h) (Or.inl ⟨by rfl, ?_⟩) hHeld ?_ ?_
    rotate_left
    · rintro w' ⟨s0, s1, s2⟩
      go_simp
      with_reducible rfl
    rotate_left
    · simp only [Act.put, List.setIfInBounds_toArray, List.set_cons_zero, List.set_cons_succ, i64_w, i32_w]
      rfl
    refine pure_ (i := 4) (N := (some 11)) (v := ?_) (a' := ?_) #[true, true, true, true, true, false, false, false, false, false] rfl rfl (any_of HT_.out (by kernel_rfl)) (fun _ _ _ h => h) (Or.inl ⟨by rfl, ?_⟩) ?_ ?_
    rotate_left
    · intro w'
      go_simp
      with_reducible rfl
    rotate_left
    · simp only [Act.put, List.setIfInBounds_toArray, List.set_cons_zero, List.set_cons_succ, i64_w, i32_w]
      rfl
    refine take_ (i := 5) (N := (some 12)) (v := ?_) (a' := ?_) #[true, true, true, true, true, true, false, false, false, false] rfl rfl (take_ofW HT_.out HW_.out (by kernel_rfl)) (fun _ _ _ h => h) (Or.inl ⟨by rfl, ?_⟩) hHeld ?_ ?_
    rotate_left
    · rintro w' ⟨s0, s1, s2⟩
      go_simp
      with_reducible rfl
    rotate_left
    · simp only [Act.put, List.setIfInBounds_toArray, List.set_cons_zero, List.set_cons_succ, i64_w, i32_w]
      rfl
    refine pure_ (i := 6) (N := (some 13)) (v := ?_) (a' := ?_) #[true, true, true, true, true, true, true, false, false, false] rfl rfl (any_of HT_.out (by kernel_rfl)) (fun _ _ _ h => h) (Or.inl ⟨by rfl, ?_⟩) ?_ ?_
    rotate_left
    · intro w'
      go_simp
      with_reducible rfl
    rotate_left
    · simp only [Act.put, List.setIfInBounds_toArray, List.set_cons_zero, List.set_cons_succ, i64_w, i32_w]
      rfl
    refine take_ (i := 7) (N := (some 14)) (v := ?_) (a' := ?_) #[true, true, true, true, true, true, true, true, false, false] rfl rfl (take_ofW HT_.out HW_.out (by kernel_rfl)) (fun _ _ _ h => h) (Or.inl ⟨by rfl, ?_⟩) hHeld ?_ ?_
    rotate_left
    · rintro w' ⟨s0, s1, s2⟩
      go_simp
      with_reducible rfl
    rotate_left
    · simp only [Act.put, List.setIfInBounds_toArray, List.set_cons_zero, List.set_cons_succ, i64_w, i32_w]
      rfl
    refine pure_ (i := 8) (N := (some 15)) (v := ?_) (a' := ?_) #[true, true, true, true, true, true, true, true, true, false] rfl rfl (any_of HT_.out (by kernel_rfl)) (fun _ _ _ h => h) (Or.inl ⟨by rfl, ?_⟩) ?_ ?_
    rotate_left
    · intro w'
      go_simp
      with_reducible rfl
    rotate_left
    · simp only [Act.put, List.setIfInBounds_toArray, List.set_cons_zero, List.set_cons_succ, i64_w, i32_w]
      rfl
    refine last_ (i := 9) (N := (some 16)) #[true, true, true, true, true, true, true, true, true, true] rfl rfl (one_of HT_.out (by kernel_rfl)) (by decide) (fun K hK => ?_)
    refine goes_ Try.func58 (by kernel_rfl) rfl #[.pointer (some ⟨g, 0, none⟩), .int .i64 3] (by rfl) rfl rfl (by (try simp only [List.map_toArray, List.map_cons, List.map_nil]); first | done | rfl) ?_
    refine (end_c g p Av cv 3 _ PB.out).mono ?_
    rintro e w3 ⟨rfl, hb3, hg3, -⟩
    refine ⟨_, rfl, ?_⟩
    refine hK.out _ _ ?_
    clear hK K
    refine norm_ (a' := ?_) ?_ ?_
    rotate_left
    · show Act.put _ (some 16) _ = _
      simp only [Act.put, List.setIfInBounds_toArray, List.set_cons_zero, List.set_cons_succ, i64_w, i32_w]
      rfl
    refine done_ (done_of HT_.out (by kernel_rfl)) ?_
    clear hHeld HT_ HW_
    go_wp2_with fail
    go_end0
    rw [← HGG.out] at hg3 hb3 PB HOG
    refine ⟨rfl, own, gs, HI2.out.fld hj HP.out rfl rfl PB.out PV.out hg3 hb3, (Fr.below own HB2.out).trans (Fr.grown hg3 (by rw [HOG.out]; omega)) (fun _ _ => rfl), fun _ _ => rfl⟩
  · go_enter Try.func32, Try.ntmps32
    go_wp2_with fail
    generalize hW1 : (w.alloc (.cells #[.int .i64 kind, .string name, .int .i64 (j : Int), .int .i64 epoch, .int .i64 place, .int .i64 timeout, .int .i64 now, .bool true] 33 (0, 0))) = w1 at HI HB HX ⊢
    clear hW1
    have hdrw := below_drew (Below.refl w1.heap.size w1)
    have HI2 := Aside0.mk (HI.out.below hdrw)
    have HB2 := Aside0.mk (below_step HB.out hdrw)
    have HX2 := Aside0.mk (blk_below HX.out hdrw)
    clear hdrw
    obtain ⟨A2, c2, B2, b0, -, -, -, -, hrow⟩ := HI2.out.cells
    obtain ⟨ad, hA, hcell⟩ := hrow j hj
    subst hA
    clear hrow
    obtain ⟨hog, v, hb, hv⟩ := HI2.out.prod j hj
    rw [HP.out] at hb hv
    obtain ⟨Av, cv, rfl⟩ := Kd.R_slice hv
    have PB := Aside0.mk hb
    have PV := Aside0.mk hv
    have HOG := Aside0.mk hog
    clear hb hv hog
    obtain ⟨g, hgg⟩ : ∃ g, gs.getD j 0 = g := ⟨_, rfl⟩
    rw [hgg] at hcell PB HOG
    have HGG := Aside0.mk hgg
    clear hgg
    clear HI HB HX
    refine start_ (n := 10) (S := fun w' => w'.cell? ⟨gb, 0, none⟩ = some (.slice (some ad) ps.length c2) ∧ w'.cell? (ad.add j) = some (.pointer (some ⟨g, 0, none⟩)) ∧ w'.cell? ⟨w.heap.size, 2, none⟩ = some (.int .i64 (j : Int))) (ds := [9]) #[false, false, false, false, false, false, false, false, false, false] (by kernel_rfl) rfl rfl ⟨b0, hcell, (by exact (blk_cell HX2.out 2).trans rfl)⟩ (fun hHeld => ?_); refine with_tabW tabB32 bitsB32 (fun HT_ HW_ => ?_)
    generalize hwd : w1.drew = w2 at HI2 HB2 HX2 PB PV b0 hcell hHeld ⊢
    clear hwd
    refine pure_ (i := 0) (N := (some 7)) (v := ?_) (a' := ?_) #[true, false, false, false, false, false, false, false, false, false] rfl rfl (any_of HT_.out (by kernel_rfl)) (fun _ _ _ h => h) (Or.inl ⟨by rfl, ?_⟩) ?_ ?_
    rotate_left
    · intro w'
      go_simp
      with_reducible rfl
    rotate_left
    · simp only [Act.put, List.setIfInBounds_toArray, List.set_cons_zero, List.set_cons_succ, i64_w, i32_w]
      rfl
    refine pure_ (i := 1) (N := (some 8)) (v := ?_) (a' := ?_) #[true, true, false, false, false, false, false, false, false, false] rfl rfl (any_of HT_.out (by kernel_rfl)) (fun _ _ _ h => h) (Or.inl ⟨by rfl, ?_⟩) ?_ ?_
    rotate_left
    · intro w'
      go_simp
      with_reducible rfl
    rotate_left
    · simp only [Act.put, List.setIfInBounds_toArray, List.set_cons_zero, List.set_cons_succ, i64_w, i32_w]
      rfl
    refine pure_ (i := 2) (N := (some 9)) (v := ?_) (a' := ?_) #[true, true, true, false, false, false, false, false, false, false] rfl rfl (any_of HT_.out (by kernel_rfl)) (fun _ _ _ h => h) (Or.inl ⟨by rfl, ?_⟩) ?_ ?_
    rotate_left
    · intro w'
      go_simp
      with_reducible rfl
    rotate_left
    · simp only [Act.put, List.setIfInBounds_toArray, List.set_cons_zero, List.set_cons_succ, i64_w, i32_w]
      rfl
    refine take_ (i := 3) (N := (some 10)) (v := ?_) (a' := ?_) #[true, true, true, true, false, false, false, false, false, false] rfl rfl (take_ofW HT_.out HW_.out (by kernel_rfl)) (fun _ _ _ h => h) (Or.inl ⟨by rfl, ?_⟩) hHeld ?_ ?_
    rotate_left
    · rintro w' ⟨s0, s1, s2⟩
      go_simp
      with_reducible rfl
    rotate_left
    · simp only [Act.put, List.setIfInBounds_toArray, List.set_cons_zero, List.set_cons_succ, i64_w, i32_w]
      rfl
    refine pure_ (i := 4) (N := (some 11)) (v := ?_) (a' := ?_) #[true, true, true, true, true, false, false, false, false, false] rfl rfl (any_of HT_.out (by kernel_rfl)) (fun _ _ _ h => h) (Or.inl ⟨by rfl, ?_⟩) ?_ ?_
    rotate_left
    · intro w'
      go_simp
      with_reducible rfl
    rotate_left
    · simp only [Act.put, List.setIfInBounds_toArray, List.set_cons_zero, List.set_cons_succ, i64_w, i32_w]
      rfl
    refine take_ (i := 5) (N := (some 12)) (v := ?_) (a' := ?_) #[true, true, true, true, true, true, false, false, false, false] rfl rfl (take_ofW HT_.out HW_.out (by kernel_rfl)) (fun _ _ _ h => h) (Or.inl ⟨by rfl, ?_⟩) hHeld ?_ ?_
    rotate_left
    · rintro w' ⟨s0, s1, s2⟩
      go_simp
      with_reducible rfl
    rotate_left
    · simp only [Act.put, List.setIfInBounds_toArray, List.set_cons_zero, List.set_cons_succ, i64_w, i32_w]
      rfl
    refine pure_ (i := 6) (N := (some 13)) (v := ?_) (a' := ?_) #[true, true, true, true, true, true, true, false, false, false] rfl rfl (any_of HT_.out (by kernel_rfl)) (fun _ _ _ h => h) (Or.inl ⟨by rfl, ?_⟩) ?_ ?_
    rotate_left
    · intro w'
      go_simp
      with_reducible rfl
    rotate_left
    · simp only [Act.put, List.setIfInBounds_toArray, List.set_cons_zero, List.set_cons_succ, i64_w, i32_w]
      rfl
    refine take_ (i := 7) (N := (some 14)) (v := ?_) (a' := ?_) #[true, true, true, true, true, true, true, true, false, false] rfl rfl (take_ofW HT_.out HW_.out (by kernel_rfl)) (fun _ _ _ h => h) (Or.inl ⟨by rfl, ?_⟩) hHeld ?_ ?_
    rotate_left
    · rintro w' ⟨s0, s1, s2⟩
      go_simp
      with_reducible rfl
    rotate_left
    · simp only [Act.put, List.setIfInBounds_toArray, List.set_cons_zero, List.set_cons_succ, i64_w, i32_w]
      rfl
    refine pure_ (i := 8) (N := (some 15)) (v := ?_) (a' := ?_) #[true, true, true, true, true, true, true, true, true, false] rfl rfl (any_of HT_.out (by kernel_rfl)) (fun _ _ _ h => h) (Or.inl ⟨by rfl, ?_⟩) ?_ ?_
    rotate_left
    · intro w'
      go_simp
      with_reducible rfl
    rotate_left
    · simp only [Act.put, List.setIfInBounds_toArray, List.set_cons_zero, List.set_cons_succ, i64_w, i32_w]
      rfl
    refine last_ (i := 9) (N := (some 16)) #[true, true, true, true, true, true, true, true, true, true] rfl rfl (one_of HT_.out (by kernel_rfl)) (by decide) (fun K hK => ?_)
    refine goes_ Try.func58 (by kernel_rfl) rfl #[.pointer (some ⟨g, 0, none⟩), .int .i64 2] (by rfl) rfl rfl (by (try simp only [List.map_toArray, List.map_cons, List.map_nil]); first | done | rfl) ?_
    refine (end_c g p Av cv 2 _ PB.out).mono ?_
    rintro e w3 ⟨rfl, hb3, hg3, -⟩
    refine ⟨_, rfl, ?_⟩
    refine hK.out _ _ ?_
    clear hK K
    refine norm_ (a' := ?_) ?_ ?_
    rotate_left
    · show Act.put _ (some 16) _ = _
      simp only [Act.put, List.setIfInBounds_toArray, List.set_cons_zero, List.set_cons_succ, i64_w, i32_w]
      rfl
    refine done_ (done_of HT_.out (by kernel_rfl)) ?_
    clear hHeld HT_ HW_
    go_wp2_with fail
    go_end0
    rw [← HGG.out] at hg3 hb3 PB HOG
    refine ⟨rfl, own, gs, HI2.out.fld hj HP.out rfl rfl PB.out PV.out hg3 hb3, (Fr.below own HB2.out).trans (Fr.grown hg3 (by rw [HOG.out]; omega)) (fun _ _ => rfl), fun _ _ => rfl⟩
end Go.Proofs.Ytofegigbhohebaa.Hand
