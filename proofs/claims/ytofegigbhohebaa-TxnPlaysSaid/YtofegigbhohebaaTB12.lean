/- What an Add does. -/
import Derived.Test.YtofegigbhohebaaTB11
namespace Go.Proofs.Ytofegigbhohebaa.Hand
open Go.RowKit Go.Proofs.Ytofegigbhohebaa Go.Proofs.YtofegigbhohebaaW.PrintWords Go.Proofs.YtofegigbhohebaaW.PrintLast
set_option linter.unusedVariables false
set_option linter.unusedSimpArgs false
variable {own : Nat → Nat} {gb : Nat} {gs : List Nat} {ps : List ProdV} {w w' : World}
theorem search_c {w : World} {ok : Nat → Prop} {v : Value} {l : List Int} (h : Kd.R (Kd.int .i64) 3 w 0 ok v l) (x : Int) (hl : l.length ≤ 100) (hs : l.Pairwise (· < ·)) : Calls Try.prog 59 #[v, .int .i64 x] w fun e w' => e = .returned (.tuple #[.int .i64 (l.countP (· < x) : Nat), .bool (l.contains x)]) ∧ ∃ q, w' = w.drewN q := by
  rcases R_place h with ⟨rfl, A, c, rfl⟩ | ⟨b, c, rfl, hc, -, -, hcell⟩
  · exact (Try.slices_BinarySearch_int_empty A c x w).mono fun e w' h => ⟨by rw [h.1]; rfl, 0, h.2⟩
  · refine (Try.slices_BinarySearch_int b 0 l.length c l x w (Nat.le_refl _) (by omega) hcell (by rw [List.take_length]; exact hs.imp (fun h => by omega))).mono fun e w' h => ⟨?_, h.2⟩
    rw [h.1, List.take_length]
/-- Where an Add stands. -/
structure AdI (own : Nat → Nat) (gb : Nat) (gs : List Nat) (ps : List ProdV) (j : Nat) (g : Nat) (p : ProdV) (v : Value) (bx : Array Value) (w w1 : World) : Prop where
  bi : BI own gb gs (ps.set j p) w1
  fr : Fr own w w1
  box : w1.heap[w.heap.size]? = some (.cells bx 33 (0, 0))
  pb : w1.heap[g]? = some (.cells (prodC p v) 85 (0, 0))
  pv : Kd.R (Kd.int .i64) 3 w1 0 (fun k => own k = j + 2) v p.places
theorem AdI.move {j g : Nat} {p : ProdV} {v : Value} {bx : Array Value} {w2 : World} (h : AdI own gb gs ps j g p v bx w w') (hb : Below w'.heap.size w' w2) : AdI own gb gs ps j g p v bx w w2 :=
  ⟨h.bi.below hb, h.fr.trans (Fr.below own hb) (fun _ _ => rfl), blk_below h.box hb, blk_below h.pb hb, Kd.R_below h.pv hb⟩
/-- One field, what is no name and no row, is written. -/
theorem AdI.fld {j g : Nat} {p p' : ProdV} {v : Value} {bx : Array Value} (h : AdI own gb gs ps j g p v bx w w') (hj : j < ps.length) (hgg : gs.getD j 0 = g) (i : Nat) (u : Value) (hn : p'.name = p.name) (hpl : p'.places = p.places) (hc : (prodC p v).setIfInBounds i u = prodC p' v) : AdI own gb gs ps j g p' v bx w (w'.setCell ⟨g, i, none⟩ u) := by
  have hb := blk_put h.pb i u hc
  have hlen : j < (ps.set j p).length := by rw [List.length_set]; exact hj
  have hget : (ps.set j p).getD j prod0 = p := by rw [List.getD_eq_getElem?_getD, List.getElem?_set_self hj]; rfl
  have hg : w'.grownBy (w'.setCell ⟨g, i, none⟩ u) (some g) := ⟨rfl, rfl, rfl, by simp [World.setCell], fun k hk hne => Below.heap_setCell w' ⟨g, i, none⟩ u k (fun e => hne (by rw [e]))⟩
  have hog : own g = j + 2 := by rw [← hgg]; exact (h.bi.prod j hlen).1
  have h2 := h.bi.fld hlen hget hn hpl (by rw [hgg]; exact h.pb) h.pv (by rw [hgg]; exact hg) (by rw [hgg]; exact hb)
  rw [List.set_set] at h2
  refine ⟨h2, h.fr.trans (Fr.grown hg (by rw [hog]; omega)) (fun _ _ => rfl), ?_, hb, ?_⟩
  · refine (Below.heap_setCell w' ⟨g, i, none⟩ u w.heap.size (fun e => ?_)).trans h.box
    have := h.box
    rw [e] at this
    rw [h.pb] at this
    cases this
  · rw [hpl]; exact Kd.R_set h.pv h.pb (by decide) i u
theorem AdI.start (h : BI own gb gs ps w) (j : Nat) (hj : j < ps.length) (p : ProdV) (hp : ps.getD j prod0 = p) (g : Nat) (hg : gs.getD j 0 = g) (bx : Array Value) : ∃ v, AdI own gb gs ps j g p v bx w (w.alloc (.cells bx 33 (0, 0))) := by
  have hb1 := below_alloc (Below.refl w.heap.size w) (.cells bx 33 (0, 0))
  obtain ⟨hog, v, hb, hv⟩ := (h.below hb1).prod j hj
  rw [hp] at hb hv
  rw [hg] at hb
  refine ⟨v, ?_, Fr.below own hb1, heap_alloc_new w _, hb, hv⟩
  have : ps.set j p = ps := by rw [← hp, List.getD_eq_getElem?_getD, List.getElem?_eq_getElem hj]; exact List.set_getElem_self hj
  rw [this]
  exact h.below hb1
theorem AdI.ne {j g : Nat} {p : ProdV} {v : Value} {bx : Array Value} (h : AdI own gb gs ps j g p v bx w w') : some g ≠ v.ownBlock := fun e => by
  obtain ⟨hA, cur, t, hcur, ht⟩ : ∃ hA : True, ∃ cur t, w'.heap[g]? = some (.cells cur t (0, 0)) ∧ t = 3 := by
    cases v with
    | slice A n c =>
      cases A with
      | none => simp [Value.ownBlock] at e
      | some ad =>
        have hR2 := h.pv
        have ho := Kd.own_of_R (enc := Value.int .i64) hR2
        obtain ⟨h1, ⟨h2, -⟩ | ⟨g', cap', cur, h2, -, h3, -⟩⟩ := ho
        · cases h2
        · cases h2
          simp [Value.ownBlock] at e
          subst e
          exact ⟨trivial, cur, 3, h3, rfl⟩
    | _ => simp [Value.ownBlock] at e
  rw [h.pb] at hcur
  injection hcur with hcur
  injection hcur with _ hcur
  rw [ht] at hcur
  cases hcur
/-- Where it ends: the row has a place more. -/
theorem AdI.done {j g : Nat} {p : ProdV} {v v' : Value} {bx : Array Value} {w2 : World} {r : List Int} (h : AdI own gb gs ps j g p v bx w w') (hj : j < ps.length) (hgg : gs.getD j 0 = g) (hR : Kd.R (Kd.int .i64) 3 w2 0 (fun k => own k = j + 2 ∨ w'.heap.size ≤ k ∧ k < w2.heap.size) v' r) (hgr : w'.grownBy w2 v.ownBlock) (p' : ProdV) (hp' : p' = { p with places := r }) :
    DoP own gb (ps.set j p') w (w2.setCell ⟨g, 5, none⟩ v') := by
  subst hp'
  have hlen : j < (ps.set j p).length := by rw [List.length_set]; exact hj
  have hget : (ps.set j p).getD j prod0 = p := by rw [List.getD_eq_getElem?_getD, List.getElem?_set_self hj]; rfl
  have hog : own g = j + 2 := by rw [← hgg]; exact (h.bi.prod j hlen).1
  have hgv := h.ne
  have hvo : ∀ k, v.ownBlock = some k → own k = j + 2 := h.pv.1
  have hpb2 := blk_grown h.pb hgr hgv
  have hb := blk_put hpb2 5 v' (show (prodC p v).setIfInBounds 5 v' = prodC { p with places := r } v' from rfl)
  have hsz : (w2.setCell ⟨g, 5, none⟩ v').heap.size = w2.heap.size := by simp [World.setCell]
  have hblk : ∀ k, k < w'.heap.size → own k ≠ j + 2 → (w2.setCell ⟨g, 5, none⟩ v').heap[k]? = w'.heap[k]? := fun k hk ho => (Below.heap_setCell w2 ⟨g, 5, none⟩ v' k (fun e => ho (by rw [e]; exact hog))).trans (hgr.block k hk (fun e => ho (hvo k e.symm)))
  let own' : Nat → Nat := fun k => if w'.heap.size ≤ k ∧ k < w2.heap.size then j + 2 else own k
  have ho1 : ∀ k, k < w'.heap.size → own' k = own k := fun k hk => if_neg (by omega)
  refine ⟨own', gs, ?_, h.fr.trans ⟨hgr.os, hgr.tape, hgr.output, by rw [hsz]; exact hgr.size, fun k hk h0 => hblk k hk (by rw [h0]; omega)⟩ (fun _ _ => rfl), fun k hk => ho1 k (Nat.lt_of_lt_of_le hk h.fr.size)⟩
  have := h.bi.put hlen (own' := own') (w' := w2.setCell ⟨g, 5, none⟩ v') (p' := { p with places := r }) (v' := v') (by rw [hget]) (by rw [hsz]; exact hgr.size) (fun k h0 h1 => hblk k (h.bi.lt k h0) h1) (fun k h0 => ho1 k (h.bi.lt k h0)) (fun k h0 => ?_) (by rw [hgg]; exact hb) ?_
  · rw [List.set_set] at this; exact this
  · rw [hsz]
    by_cases hk : w'.heap.size ≤ k ∧ k < w2.heap.size
    · exact hk.2
    · have : own' k = own k := if_neg hk
      rw [this] at h0
      exact Nat.lt_of_lt_of_le (h.bi.lt k h0) hgr.size
  · refine Kd.R_mono (Kd.R_set hR hpb2 (by decide) 5 v') (fun k hk => ?_)
    show own' k = j + 2
    by_cases hk2 : w'.heap.size ≤ k ∧ k < w2.heap.size
    · exact if_pos hk2
    · rw [show own' k = own k from if_neg hk2]
      exact hk.resolve_right hk2
def TB313 : Bool × List (List Nat × List Nat) := (true, [([], []), ([], []), ([], []), ([2], [2]), ([0, 0], [0]), ([4, 0], [4]), ([5, 0], [5]), ([1, 0, 1, 2, 3, 4, 5, 6], [1]), ([7, 0, 1, 2, 3, 4, 5, 6], [7]), ([8, 3, 6, 0, 1, 2, 3, 4, 5, 6], [3, 8])])
def BB313 : List Nat := [0, 0, 0, 4, 1, 17, 49, 127, 255, 511]
theorem tabB313 : rtab .any (opsOf Try.f31 3) = TB313 := by kernel_rfl
theorem bitsB313 : waitsOk TB313.2 BB313 = true := by kernel_rfl
def TB315 : Bool × List (List Nat × List Nat) := (true, [([], []), ([], []), ([1], [1]), ([2], [2]), ([3], [3]), ([], []), ([], []), ([6], [6]), ([7], [7]), ([4, 5, 8], [4, 5, 8]), ([0, 0, 1, 2, 3, 4, 5, 6, 7, 8, 9], [0]), ([10, 0, 1, 2, 3, 4, 5, 6, 7, 8, 9], [10]), ([11, 9, 9, 0, 1, 2, 3, 4, 5, 6, 7, 8, 9], [9, 11])])
def BB315 : List Nat := [0, 0, 2, 6, 14, 0, 0, 64, 192, 510, 1023, 2047, 4095]
theorem tabB315 : rtab .any (opsOf Try.f31 5) = TB315 := by kernel_rfl
theorem bitsB315 : waitsOk TB315.2 BB315 = true := by kernel_rfl
set_option maxHeartbeats 6400000 in
set_option maxRecDepth 100000 in
theorem add_c (h : BI own gb gs ps w) (x : EvV) (j : Nat) (hj : j < ps.length) (hx : x.producer = (j : Int)) (p : ProdV) (hp : ps.getD j prod0 = p) (hl : p.places.length < 100) (hs : p.places.Pairwise (· < ·)) : Calls Try.prog 31 #[.pointer (some ⟨gb, 0, none⟩), evE x] w fun e w' => e = .returned (.tuple #[]) ∧ DoP own gb (ps.set j (addP p x)) w w' := by
  have HXP := Aside0.mk (show addP p x = if p.status = 0 then { p with status := 1, since := x.now, places := insertF p.places x.place } else { p with places := insertF p.places x.place } from rfl)
  obtain ⟨kind, name, producer, epoch, place, timeout, now, yes⟩ := x
  dsimp only at hx HXP
  subst hx
  rw [HXP.out]
  clear HXP
  unfold evE
  have hjc : (j : Int) < (ps.length : Int) := by omega
  obtain ⟨g, hgg⟩ : ∃ g, gs.getD j 0 = g := ⟨_, rfl⟩
  obtain ⟨v, hA⟩ := AdI.start h j hj p hp g hgg #[.int .i64 kind, .string name, .int .i64 (j : Int), .int .i64 epoch, .int .i64 place, .int .i64 timeout, .int .i64 now, .bool yes]
  obtain ⟨ad, hcell⟩ : ∃ ad, (∃ c2, (w.alloc (.cells #[.int .i64 kind, .string name, .int .i64 (j : Int), .int .i64 epoch, .int .i64 place, .int .i64 timeout, .int .i64 now, .bool yes] 33 (0, 0))).cell? ⟨gb, 0, none⟩ = some (.slice (some ad) ps.length c2)) ∧ (w.alloc (.cells #[.int .i64 kind, .string name, .int .i64 (j : Int), .int .i64 epoch, .int .i64 place, .int .i64 timeout, .int .i64 now, .bool yes] 33 (0, 0))).cell? (ad.add j) = some (.pointer (some ⟨g, 0, none⟩)) := by
    obtain ⟨A2, c2, B2, b0, -, -, -, -, hrow⟩ := hA.bi.cells
    rw [List.length_set] at b0 hrow
    obtain ⟨ad, hAd, hcell⟩ := hrow j hj
    rw [hgg] at hcell
    exact ⟨ad, ⟨c2, by rw [← hAd]; exact b0⟩, hcell⟩
  obtain ⟨⟨c2, b0⟩, hcell⟩ := hcell
  have HA := Aside0.mk hA
  have HGG := Aside0.mk hgg
  have HP := Aside0.mk hp
  have HS := Aside0.mk hs
  have HL := Aside0.mk hl
  have x2 : (w.alloc (.cells #[.int .i64 kind, .string name, .int .i64 (j : Int), .int .i64 epoch, .int .i64 place, .int .i64 timeout, .int .i64 now, .bool yes] 33 (0, 0))).cell? ⟨w.heap.size, 2, none⟩ = some (.int .i64 (j : Int)) := (blk_cell hA.box 2).trans rfl
  clear hA hgg hp hs hl h
  by_cases hst : p.status = 0
  · rw [if_pos hst]
    go_enter Try.func31, Try.ntmps31
    go_wp2_with fail
    go_quiet (fail)
    have HA2 := Aside0.mk (HA.out.move (pw_below_drewN (Below.refl _ _) nq))
    clear HA b0 hcell x2
    generalize (w.alloc (.cells #[.int .i64 kind, .string name, .int .i64 (j : Int), .int .i64 epoch, .int .i64 place, .int .i64 timeout, .int .i64 now, .bool yes] 33 (0, 0))).drewN nq = w2 at HA2 ⊢
    have p3 : w2.cell? ⟨g, 3, none⟩ = some (.int .i64 p.status) := (blk_cell HA2.out.pb 3).trans rfl
    rw [hst] at p3
    go_wp2_with fail
    have hdrw := below_drew (Below.refl w2.heap.size w2)
    have HA3 := Aside0.mk (HA2.out.move hdrw)
    clear hdrw HA2 p3
    have x6 : w2.drew.cell? ⟨w.heap.size, 6, none⟩ = some (.int .i64 now) := (blk_cell HA3.out.box 6).trans rfl
    refine start_ (n := 10) (S := fun w' => w'.cell? ⟨w.heap.size, 6, none⟩ = some (.int .i64 now)) (ds := [9]) #[false, false, false, false, false, false, false, false, false, false] (by kernel_rfl) rfl rfl x6 (fun hHeld => ?_); refine with_tabW tabB313 bitsB313 (fun HT_ HW_ => ?_)
    generalize hwd : w2.drew = w3 at HA3 x6 hHeld ⊢
    clear hwd
    refine pure_ (i := 0) (N := (some 20)) (v := ?_) (a' := ?_) #[true, false, false, false, false, false, false, false, false, false] rfl rfl (any_of HT_.out (by kernel_rfl)) (fun _ _ _ h => h) (Or.inl ⟨by rfl, ?_⟩) ?_ ?_
    rotate_left
    · intro w'
      go_simp
      with_reducible rfl
    rotate_left
    · simp only [Act.put, List.setIfInBounds_toArray, List.set_cons_zero, List.set_cons_succ, i64_w, i32_w]
      rfl
    refine pure_ (i := 1) (N := (some 21)) (v := ?_) (a' := ?_) #[true, true, false, false, false, false, false, false, false, false] rfl rfl (any_of HT_.out (by kernel_rfl)) (fun _ _ _ h => h) (Or.inl ⟨by rfl, ?_⟩) ?_ ?_
    rotate_left
    · intro w'
      go_simp
      with_reducible rfl
    rotate_left
    · simp only [Act.put, List.setIfInBounds_toArray, List.set_cons_zero, List.set_cons_succ, i64_w, i32_w]
      rfl
    refine pure_ (i := 2) (N := (some 22)) (v := ?_) (a' := ?_) #[true, true, true, false, false, false, false, false, false, false] rfl rfl (any_of HT_.out (by kernel_rfl)) (fun _ _ _ h => h) (Or.inl ⟨by rfl, ?_⟩) ?_ ?_
    rotate_left
    · intro w'
      go_simp
      with_reducible rfl
    rotate_left
    · simp only [Act.put, List.setIfInBounds_toArray, List.set_cons_zero, List.set_cons_succ, i64_w, i32_w]
      rfl
    refine take_ (i := 3) (N := (some 23)) (v := ?_) (a' := ?_) #[true, true, true, true, false, false, false, false, false, false] rfl rfl (take_ofW HT_.out HW_.out (by kernel_rfl)) (fun _ _ _ h => h) (Or.inl ⟨by rfl, ?_⟩) hHeld ?_ ?_
    rotate_left
    · rintro w' s0
      go_simp
      with_reducible rfl
    rotate_left
    · simp only [Act.put, List.setIfInBounds_toArray, List.set_cons_zero, List.set_cons_succ, i64_w, i32_w]
      rfl
    refine pure_ (i := 4) (N := (some 24)) (v := ?_) (a' := ?_) #[true, true, true, true, true, false, false, false, false, false] rfl rfl (any_of HT_.out (by kernel_rfl)) (fun _ _ _ h => h) (Or.inl ⟨by rfl, ?_⟩) ?_ ?_
    rotate_left
    · intro w'
      go_simp
      with_reducible rfl
    rotate_left
    · simp only [Act.put, List.setIfInBounds_toArray, List.set_cons_zero, List.set_cons_succ, i64_w, i32_w]
      rfl
    refine pure_ (i := 5) (N := (some 25)) (v := ?_) (a' := ?_) #[true, true, true, true, true, true, false, false, false, false] rfl rfl (any_of HT_.out (by kernel_rfl)) (fun _ _ _ h => h) (Or.inl ⟨by rfl, ?_⟩) ?_ ?_
    rotate_left
    · intro w'
      go_simp
      with_reducible rfl
    rotate_left
    · simp only [Act.put, List.setIfInBounds_toArray, List.set_cons_zero, List.set_cons_succ, i64_w, i32_w]
      rfl
    have HA3b := Aside0.mk (HA3.out.fld hj HGG.out 3 (.int .i64 1) (p' := { p with status := 1 }) rfl rfl rfl)
    have y3 : w3.cell? ⟨g, 3, none⟩ = some (.int .i64 p.status) := (blk_cell HA3.out.pb 3).trans rfl
    have f3 := blk_frozen HA3.out.pb 3
    refine one_ (i := 6) (N := none) #[true, true, true, true, true, true, true, false, false, false] rfl rfl (one_of HT_.out (by kernel_rfl)) (by decide) (fun K hK => ?_)
    refine skip_ (w1 := ?_) (by rfl) rfl ?_ ?_
    rotate_left
    · go_simp
      rfl
    have x6b : (w3.setCell ⟨g, 3, none⟩ (.int .i64 1)).cell? ⟨w.heap.size, 6, none⟩ = some (.int .i64 now) := (blk_cell HA3b.out.box 6).trans rfl
    refine hK.out _ _ x6b (fun hHeld => ?_)
    clear hK K
    refine pure_ (i := 7) (N := (some 26)) (v := ?_) (a' := ?_) #[true, true, true, true, true, true, true, true, false, false] rfl rfl (any_of HT_.out (by kernel_rfl)) (fun _ _ _ h => h) (Or.inl ⟨by rfl, ?_⟩) ?_ ?_
    rotate_left
    · intro w'
      go_simp
      with_reducible rfl
    rotate_left
    · simp only [Act.put, List.setIfInBounds_toArray, List.set_cons_zero, List.set_cons_succ, i64_w, i32_w]
      rfl
    refine pure_ (i := 8) (N := (some 27)) (v := ?_) (a' := ?_) #[true, true, true, true, true, true, true, true, true, false] rfl rfl (any_of HT_.out (by kernel_rfl)) (fun _ _ _ h => h) (Or.inl ⟨by rfl, ?_⟩) ?_ ?_
    rotate_left
    · intro w'
      go_simp
      with_reducible rfl
    rotate_left
    · simp only [Act.put, List.setIfInBounds_toArray, List.set_cons_zero, List.set_cons_succ, i64_w, i32_w]
      rfl
    clear HA3 y3 f3 x6
    generalize (w3.setCell ⟨g, 3, none⟩ (.int .i64 1)) = w4 at HA3b x6b hHeld ⊢
    have HA3c := Aside0.mk (HA3b.out.fld hj HGG.out 4 (.int .i64 now) (p' := { p with status := 1, since := now }) rfl rfl rfl)
    have y4 : w4.cell? ⟨g, 4, none⟩ = some (.int .i64 p.since) := (blk_cell HA3b.out.pb 4).trans rfl
    have f4 := blk_frozen HA3b.out.pb 4
    refine last_ (i := 9) (N := none) #[true, true, true, true, true, true, true, true, true, true] rfl rfl (one_of HT_.out (by kernel_rfl)) (by decide) (fun K hK => ?_)
    refine skip_ (w1 := ?_) (by rfl) rfl ?_ ?_
    rotate_left
    · go_simp
      rfl
    refine hK.out _ _ ?_
    clear hK K
    refine done_ (done_of HT_.out (by kernel_rfl)) ?_
    clear hHeld HT_ HW_ y4 f4 x6b HA3b
    generalize (w4.setCell ⟨g, 4, none⟩ (.int .i64 now)) = wb at HA3c ⊢
    have p5 : wb.cell? ⟨g, 5, none⟩ = some v := (blk_cell HA3c.out.pb 5).trans rfl
    have x4 : wb.cell? ⟨w.heap.size, 4, none⟩ = some (.int .i64 place) := (blk_cell HA3c.out.box 4).trans rfl
    go_wp2_with fail
    go_quiet ((go_at_call 59; exact Calls.quiet_of (search_c (Kd.R_drewN HA3c.out.pv _) place (Nat.le_of_lt HL.out) HS.out)))
    have HA4 := Aside0.mk (HA3c.out.move (pw_below_drewN (Below.refl _ _) nq))
    clear HA3c p5 x4
    generalize wb.drewN nq = w4 at HA4 ⊢
    go_wp2_with fail
    have hdrw := below_drew (Below.refl w4.heap.size w4)
    have HA5 := Aside0.mk (HA4.out.move hdrw)
    clear hdrw HA4
    have p5 : w4.drew.cell? ⟨g, 5, none⟩ = some v := (blk_cell HA5.out.pb 5).trans rfl
    have x4 : w4.drew.cell? ⟨w.heap.size, 4, none⟩ = some (.int .i64 place) := (blk_cell HA5.out.box 4).trans rfl
    refine start_ (n := 13) (S := fun w' => w'.cell? ⟨g, 5, none⟩ = some v ∧ w'.cell? ⟨w.heap.size, 4, none⟩ = some (.int .i64 place)) (ds := [9, 12]) #[false, false, false, false, false, false, false, false, false, false, false, false, false] (by kernel_rfl) rfl rfl ⟨p5, x4⟩ (fun hHeld => ?_); refine with_tabW tabB315 bitsB315 (fun HT_ HW_ => ?_)
    generalize hwd : w4.drew = w5 at HA5 p5 x4 hHeld ⊢
    clear hwd
    refine pure_ (i := 0) (N := (some 38)) (v := ?_) (a' := ?_) #[true, false, false, false, false, false, false, false, false, false, false, false, false] rfl rfl (any_of HT_.out (by kernel_rfl)) (fun _ _ _ h => h) (Or.inl ⟨by rfl, ?_⟩) ?_ ?_
    rotate_left
    · intro w'
      go_simp
      with_reducible rfl
    rotate_left
    · simp only [Act.put, List.setIfInBounds_toArray, List.set_cons_zero, List.set_cons_succ, i64_w, i32_w]
      rfl
    refine pure_ (i := 1) (N := (some 39)) (v := ?_) (a' := ?_) #[true, true, false, false, false, false, false, false, false, false, false, false, false] rfl rfl (any_of HT_.out (by kernel_rfl)) (fun _ _ _ h => h) (Or.inl ⟨by rfl, ?_⟩) ?_ ?_
    rotate_left
    · intro w'
      go_simp
      with_reducible rfl
    rotate_left
    · simp only [Act.put, List.setIfInBounds_toArray, List.set_cons_zero, List.set_cons_succ, i64_w, i32_w]
      rfl
    refine pure_ (i := 2) (N := (some 40)) (v := ?_) (a' := ?_) #[true, true, true, false, false, false, false, false, false, false, false, false, false] rfl rfl (any_of HT_.out (by kernel_rfl)) (fun _ _ _ h => h) (Or.inl ⟨by rfl, ?_⟩) ?_ ?_
    rotate_left
    · intro w'
      go_simp
      with_reducible rfl
    rotate_left
    · simp only [Act.put, List.setIfInBounds_toArray, List.set_cons_zero, List.set_cons_succ, i64_w, i32_w]
      rfl
    refine pure_ (i := 3) (N := (some 41)) (v := ?_) (a' := ?_) #[true, true, true, true, false, false, false, false, false, false, false, false, false] rfl rfl (any_of HT_.out (by kernel_rfl)) (fun _ _ _ h => h) (Or.inl ⟨by rfl, ?_⟩) ?_ ?_
    rotate_left
    · intro w'
      go_simp
      with_reducible rfl
    rotate_left
    · simp only [Act.put, List.setIfInBounds_toArray, List.set_cons_zero, List.set_cons_succ, i64_w, i32_w]
      rfl
    refine take_ (i := 4) (N := (some 42)) (v := ?_) (a' := ?_) #[true, true, true, true, true, false, false, false, false, false, false, false, false] rfl rfl (take_ofW HT_.out HW_.out (by kernel_rfl)) (fun _ _ _ h => h) (Or.inl ⟨by rfl, ?_⟩) hHeld ?_ ?_
    rotate_left
    · rintro w' ⟨s0, s1⟩
      go_simp
      with_reducible rfl
    rotate_left
    · simp only [Act.put, List.setIfInBounds_toArray, List.set_cons_zero, List.set_cons_succ, i64_w, i32_w]
      rfl
    refine pure_ (i := 5) (N := (some 43)) (v := ?_) (a' := ?_) #[true, true, true, true, true, true, false, false, false, false, false, false, false] rfl rfl (any_of HT_.out (by kernel_rfl)) (fun _ _ _ h => h) (Or.inl ⟨by rfl, ?_⟩) ?_ ?_
    rotate_left
    · intro w'
      go_simp
      with_reducible rfl
    rotate_left
    · simp only [Act.put, List.setIfInBounds_toArray, List.set_cons_zero, List.set_cons_succ, i64_w, i32_w]
      rfl
    refine pure_ (i := 6) (N := (some 44)) (v := ?_) (a' := ?_) #[true, true, true, true, true, true, true, false, false, false, false, false, false] rfl rfl (any_of HT_.out (by kernel_rfl)) (fun _ _ _ h => h) (Or.inl ⟨by rfl, ?_⟩) ?_ ?_
    rotate_left
    · intro w'
      go_simp
      with_reducible rfl
    rotate_left
    · simp only [Act.put, List.setIfInBounds_toArray, List.set_cons_zero, List.set_cons_succ, i64_w, i32_w]
      rfl
    refine take_ (i := 7) (N := (some 45)) (v := ?_) (a' := ?_) #[true, true, true, true, true, true, true, true, false, false, false, false, false] rfl rfl (take_ofW HT_.out HW_.out (by kernel_rfl)) (fun _ _ _ h => h) (Or.inl ⟨by rfl, ?_⟩) hHeld ?_ ?_
    rotate_left
    · rintro w' ⟨s0, s1⟩
      go_simp
      with_reducible rfl
    rotate_left
    · simp only [Act.put, List.setIfInBounds_toArray, List.set_cons_zero, List.set_cons_succ, i64_w, i32_w]
      rfl
    refine one_ (i := 8) (N := (some 46)) #[true, true, true, true, true, true, true, true, true, false, false, false, false] rfl rfl (one_of HT_.out (by kernel_rfl)) (by decide) (fun K hK => ?_)
    refine Kd.R_lit_step (Kd.int .i64) (w0 := w5) 0 3 (by rfl) (N := 46) rfl (xs := [place]) (inner := [.int .i64 place]) (ok := fun k => w5.heap.size ≤ k) (okp := fun k => w5.heap.size ≤ k) ?hr ?hp (fun _ hk => hk) (Nat.le_refl _) (Below.refl _ _) (Nat.zero_le _) (by simp) ?_
    case hr => first | (go_simp; done) | (go_simp; rfl)
    case hp => exact Reps.snoc (Reps.none _ 1) rfl rfl
    intro v8 w8 HO8 _ hg8 _
    have hb8 : Below w5.heap.size w5 w8 := ⟨hg8.os, hg8.tape, hg8.output, hg8.size, fun k hk => hg8.block k hk (by simp)⟩
    have HA8 := Aside0.mk (HA5.out.move hb8)
    obtain ⟨g8, c8, hv8, -, hlt8, CS8, hCS8⟩ := Kd.R_form HO8 (by simp)
    subst hv8
    obtain ⟨cv, hcv, -, hc8, -, hcs8, ht8, hok8⟩ := R_open HO8
    have hcv0 : cv[0]? = some (.int .i64 place) := by rw [← Array.getElem?_toList]; have := congrArg (·[0]?) ht8; rw [List.getElem?_take] at this; simpa using this
    have p5 : w8.cell? ⟨g, 5, none⟩ = some v := (blk_cell HA8.out.pb 5).trans rfl
    have x4 : w8.cell? ⟨w.heap.size, 4, none⟩ = some (.int .i64 place) := (blk_cell HA8.out.box 4).trans rfl
    have HNE := Aside0.mk (show v.ownBlock ≠ some g8 from fun e => by have h1 := HA8.out.pv.1 g8 e; have h2 := HA5.out.bi.lt g8 (by rw [h1]; omega); omega)
    have HCV := Aside0.mk hcv
    have HCV0 := Aside0.mk hcv0
    clear hb8 hg8 hlt8 hCS8 CS8 hcv hcv0 hc8 hcs8 ht8 hok8 HO8 HA5
    refine hK.out _ _ ⟨p5, x4⟩ (fun hHeld => ?_)
    clear hK K
    refine norm_ (a' := ?_) ?_ ?_
    rotate_left
    · show Act.put _ (some 46) _ = _
      simp only [Act.put, List.setIfInBounds_toArray, List.set_cons_zero, List.set_cons_succ, i64_w, i32_w]
      rfl
    refine last_ (i := 9) (N := (some 47)) #[true, true, true, true, true, true, true, true, true, true, false, false, false] rfl rfl (one_of HT_.out (by kernel_rfl)) (by decide) (fun K hK => ?_)
    refine goes_ Try.func60 (by kernel_rfl) rfl #[v, .int .i64 (p.places.countP (· < place) : Nat), .slice (some ⟨g8, 0, none⟩) 1 c8] (by rfl) rfl rfl (by (try simp only [List.map_toArray, List.map_cons, List.map_nil]); first | done | rfl) ?_
    refine (insert_c HA8.out.pv (Nat.le_of_lt HL.out) place g8 c8 cv 3 HCV.out HCV0.out HNE.out).mono ?_
    rintro e w9 ⟨v9, rfl, hR9, hg9⟩
    obtain ⟨A9, c9, rfl⟩ := Kd.R_slice hR9
    refine ⟨_, rfl, ?_⟩
    refine hK.out _ _ ?_
    clear hK K
    refine norm_ (a' := ?_) ?_ ?_
    rotate_left
    · show Act.put _ (some 47) _ = _
      simp only [Act.put, List.setIfInBounds_toArray, List.set_cons_zero, List.set_cons_succ, i64_w, i32_w]
      rfl
    have HR9 := Aside0.mk hR9
    have HG9 := Aside0.mk hg9
    clear hR9 hg9
    refine pure_ (i := 10) (N := (some 48)) (v := ?_) (a' := ?_) #[true, true, true, true, true, true, true, true, true, true, true, false, false] rfl rfl (any_of HT_.out (by kernel_rfl)) (fun _ _ _ h => h) (Or.inl ⟨by rfl, ?_⟩) ?_ ?_
    rotate_left
    · intro w'
      go_simp
      with_reducible rfl
    rotate_left
    · simp only [Act.put, List.setIfInBounds_toArray, List.set_cons_zero, List.set_cons_succ, i64_w, i32_w]
      rfl
    refine pure_ (i := 11) (N := (some 49)) (v := ?_) (a' := ?_) #[true, true, true, true, true, true, true, true, true, true, true, true, false] rfl rfl (any_of HT_.out (by kernel_rfl)) (fun _ _ _ h => h) (Or.inl ⟨by rfl, ?_⟩) ?_ ?_
    rotate_left
    · intro w'
      go_simp
      with_reducible rfl
    rotate_left
    · simp only [Act.put, List.setIfInBounds_toArray, List.set_cons_zero, List.set_cons_succ, i64_w, i32_w]
      rfl
    have HDN := Aside0.mk (HA8.out.done hj HGG.out HR9.out HG9.out ({ p with status := 1, since := now, places := insertF p.places place }) rfl)
    have PB9 := Aside0.mk (blk_grown HA8.out.pb HG9.out HA8.out.ne)
    have f9 := blk_frozen PB9.out 5
    have q9 : w9.cell? ⟨g, 5, none⟩ = some v := (blk_cell PB9.out 5).trans rfl
    refine last_ (i := 12) (N := none) #[true, true, true, true, true, true, true, true, true, true, true, true, true] rfl rfl (one_of HT_.out (by kernel_rfl)) (by decide) (fun K hK => ?_)
    refine skip_ (w1 := ?_) (by rfl) rfl ?_ ?_
    rotate_left
    · go_simp
      rfl
    refine hK.out _ _ ?_
    clear hK K
    refine done_ (done_of HT_.out (by kernel_rfl)) ?_
    clear hHeld HT_ HW_
    go_wp2_with fail
    go_end0
    exact ⟨rfl, HDN.out⟩
  · rw [if_neg hst]
    go_enter Try.func31, Try.ntmps31
    go_wp2_with fail
    go_quiet (fail)
    have HA2 := Aside0.mk (HA.out.move (pw_below_drewN (Below.refl _ _) nq))
    clear HA b0 hcell x2
    generalize (w.alloc (.cells #[.int .i64 kind, .string name, .int .i64 (j : Int), .int .i64 epoch, .int .i64 place, .int .i64 timeout, .int .i64 now, .bool yes] 33 (0, 0))).drewN nq = w2 at HA2 ⊢
    have p3 : w2.cell? ⟨g, 3, none⟩ = some (.int .i64 p.status) := (blk_cell HA2.out.pb 3).trans rfl
    have hst' : (p.status == 0) = false := beq_eq_false_iff_ne.2 hst
    go_wp2_with fail
    clear p3
    have p5 : w2.cell? ⟨g, 5, none⟩ = some v := (blk_cell HA2.out.pb 5).trans rfl
    have x4 : w2.cell? ⟨w.heap.size, 4, none⟩ = some (.int .i64 place) := (blk_cell HA2.out.box 4).trans rfl
    go_wp2_with fail
    go_quiet ((go_at_call 59; exact Calls.quiet_of (search_c (Kd.R_drewN HA2.out.pv _) place (Nat.le_of_lt HL.out) HS.out)))
    have HA4 := Aside0.mk (HA2.out.move (pw_below_drewN (Below.refl _ _) nq))
    clear HA2 p5 x4
    generalize w2.drewN nq = w4 at HA4 ⊢
    go_wp2_with fail
    have hdrw := below_drew (Below.refl w4.heap.size w4)
    have HA5 := Aside0.mk (HA4.out.move hdrw)
    clear hdrw HA4
    have p5 : w4.drew.cell? ⟨g, 5, none⟩ = some v := (blk_cell HA5.out.pb 5).trans rfl
    have x4 : w4.drew.cell? ⟨w.heap.size, 4, none⟩ = some (.int .i64 place) := (blk_cell HA5.out.box 4).trans rfl
    refine start_ (n := 13) (S := fun w' => w'.cell? ⟨g, 5, none⟩ = some v ∧ w'.cell? ⟨w.heap.size, 4, none⟩ = some (.int .i64 place)) (ds := [9, 12]) #[false, false, false, false, false, false, false, false, false, false, false, false, false] (by kernel_rfl) rfl rfl ⟨p5, x4⟩ (fun hHeld => ?_); refine with_tabW tabB315 bitsB315 (fun HT_ HW_ => ?_)
    generalize hwd : w4.drew = w5 at HA5 p5 x4 hHeld ⊢
    clear hwd
    refine pure_ (i := 0) (N := (some 38)) (v := ?_) (a' := ?_) #[true, false, false, false, false, false, false, false, false, false, false, false, false] rfl rfl (any_of HT_.out (by kernel_rfl)) (fun _ _ _ h => h) (Or.inl ⟨by rfl, ?_⟩) ?_ ?_
    rotate_left
    · intro w'
      go_simp
      with_reducible rfl
    rotate_left
    · simp only [Act.put, List.setIfInBounds_toArray, List.set_cons_zero, List.set_cons_succ, i64_w, i32_w]
      rfl
    refine pure_ (i := 1) (N := (some 39)) (v := ?_) (a' := ?_) #[true, true, false, false, false, false, false, false, false, false, false, false, false] rfl rfl (any_of HT_.out (by kernel_rfl)) (fun _ _ _ h => h) (Or.inl ⟨by rfl, ?_⟩) ?_ ?_
    rotate_left
    · intro w'
      go_simp
      with_reducible rfl
    rotate_left
    · simp only [Act.put, List.setIfInBounds_toArray, List.set_cons_zero, List.set_cons_succ, i64_w, i32_w]
      rfl
    refine pure_ (i := 2) (N := (some 40)) (v := ?_) (a' := ?_) #[true, true, true, false, false, false, false, false, false, false, false, false, false] rfl rfl (any_of HT_.out (by kernel_rfl)) (fun _ _ _ h => h) (Or.inl ⟨by rfl, ?_⟩) ?_ ?_
    rotate_left
    · intro w'
      go_simp
      with_reducible rfl
    rotate_left
    · simp only [Act.put, List.setIfInBounds_toArray, List.set_cons_zero, List.set_cons_succ, i64_w, i32_w]
      rfl
    refine pure_ (i := 3) (N := (some 41)) (v := ?_) (a' := ?_) #[true, true, true, true, false, false, false, false, false, false, false, false, false] rfl rfl (any_of HT_.out (by kernel_rfl)) (fun _ _ _ h => h) (Or.inl ⟨by rfl, ?_⟩) ?_ ?_
    rotate_left
    · intro w'
      go_simp
      with_reducible rfl
    rotate_left
    · simp only [Act.put, List.setIfInBounds_toArray, List.set_cons_zero, List.set_cons_succ, i64_w, i32_w]
      rfl
    refine take_ (i := 4) (N := (some 42)) (v := ?_) (a' := ?_) #[true, true, true, true, true, false, false, false, false, false, false, false, false] rfl rfl (take_ofW HT_.out HW_.out (by kernel_rfl)) (fun _ _ _ h => h) (Or.inl ⟨by rfl, ?_⟩) hHeld ?_ ?_
    rotate_left
    · rintro w' ⟨s0, s1⟩
      go_simp
      with_reducible rfl
    rotate_left
    · simp only [Act.put, List.setIfInBounds_toArray, List.set_cons_zero, List.set_cons_succ, i64_w, i32_w]
      rfl
    refine pure_ (i := 5) (N := (some 43)) (v := ?_) (a' := ?_) #[true, true, true, true, true, true, false, false, false, false, false, false, false] rfl rfl (any_of HT_.out (by kernel_rfl)) (fun _ _ _ h => h) (Or.inl ⟨by rfl, ?_⟩) ?_ ?_
    rotate_left
    · intro w'
      go_simp
      with_reducible rfl
    rotate_left
    · simp only [Act.put, List.setIfInBounds_toArray, List.set_cons_zero, List.set_cons_succ, i64_w, i32_w]
      rfl
    refine pure_ (i := 6) (N := (some 44)) (v := ?_) (a' := ?_) #[true, true, true, true, true, true, true, false, false, false, false, false, false] rfl rfl (any_of HT_.out (by kernel_rfl)) (fun _ _ _ h => h) (Or.inl ⟨by rfl, ?_⟩) ?_ ?_
    rotate_left
    · intro w'
      go_simp
      with_reducible rfl
    rotate_left
    · simp only [Act.put, List.setIfInBounds_toArray, List.set_cons_zero, List.set_cons_succ, i64_w, i32_w]
      rfl
    refine take_ (i := 7) (N := (some 45)) (v := ?_) (a' := ?_) #[true, true, true, true, true, true, true, true, false, false, false, false, false] rfl rfl (take_ofW HT_.out HW_.out (by kernel_rfl)) (fun _ _ _ h => h) (Or.inl ⟨by rfl, ?_⟩) hHeld ?_ ?_
    rotate_left
    · rintro w' ⟨s0, s1⟩
      go_simp
      with_reducible rfl
    rotate_left
    · simp only [Act.put, List.setIfInBounds_toArray, List.set_cons_zero, List.set_cons_succ, i64_w, i32_w]
      rfl
    refine one_ (i := 8) (N := (some 46)) #[true, true, true, true, true, true, true, true, true, false, false, false, false] rfl rfl (one_of HT_.out (by kernel_rfl)) (by decide) (fun K hK => ?_)
    refine Kd.R_lit_step (Kd.int .i64) (w0 := w5) 0 3 (by rfl) (N := 46) rfl (xs := [place]) (inner := [.int .i64 place]) (ok := fun k => w5.heap.size ≤ k) (okp := fun k => w5.heap.size ≤ k) ?hr ?hp (fun _ hk => hk) (Nat.le_refl _) (Below.refl _ _) (Nat.zero_le _) (by simp) ?_
    case hr => first | (go_simp; done) | (go_simp; rfl)
    case hp => exact Reps.snoc (Reps.none _ 1) rfl rfl
    intro v8 w8 HO8 _ hg8 _
    have hb8 : Below w5.heap.size w5 w8 := ⟨hg8.os, hg8.tape, hg8.output, hg8.size, fun k hk => hg8.block k hk (by simp)⟩
    have HA8 := Aside0.mk (HA5.out.move hb8)
    obtain ⟨g8, c8, hv8, -, hlt8, CS8, hCS8⟩ := Kd.R_form HO8 (by simp)
    subst hv8
    obtain ⟨cv, hcv, -, hc8, -, hcs8, ht8, hok8⟩ := R_open HO8
    have hcv0 : cv[0]? = some (.int .i64 place) := by rw [← Array.getElem?_toList]; have := congrArg (·[0]?) ht8; rw [List.getElem?_take] at this; simpa using this
    have p5 : w8.cell? ⟨g, 5, none⟩ = some v := (blk_cell HA8.out.pb 5).trans rfl
    have x4 : w8.cell? ⟨w.heap.size, 4, none⟩ = some (.int .i64 place) := (blk_cell HA8.out.box 4).trans rfl
    have HNE := Aside0.mk (show v.ownBlock ≠ some g8 from fun e => by have h1 := HA8.out.pv.1 g8 e; have h2 := HA5.out.bi.lt g8 (by rw [h1]; omega); omega)
    have HCV := Aside0.mk hcv
    have HCV0 := Aside0.mk hcv0
    clear hb8 hg8 hlt8 hCS8 CS8 hcv hcv0 hc8 hcs8 ht8 hok8 HO8 HA5
    refine hK.out _ _ ⟨p5, x4⟩ (fun hHeld => ?_)
    clear hK K
    refine norm_ (a' := ?_) ?_ ?_
    rotate_left
    · show Act.put _ (some 46) _ = _
      simp only [Act.put, List.setIfInBounds_toArray, List.set_cons_zero, List.set_cons_succ, i64_w, i32_w]
      rfl
    refine last_ (i := 9) (N := (some 47)) #[true, true, true, true, true, true, true, true, true, true, false, false, false] rfl rfl (one_of HT_.out (by kernel_rfl)) (by decide) (fun K hK => ?_)
    refine goes_ Try.func60 (by kernel_rfl) rfl #[v, .int .i64 (p.places.countP (· < place) : Nat), .slice (some ⟨g8, 0, none⟩) 1 c8] (by rfl) rfl rfl (by (try simp only [List.map_toArray, List.map_cons, List.map_nil]); first | done | rfl) ?_
    refine (insert_c HA8.out.pv (Nat.le_of_lt HL.out) place g8 c8 cv 3 HCV.out HCV0.out HNE.out).mono ?_
    rintro e w9 ⟨v9, rfl, hR9, hg9⟩
    obtain ⟨A9, c9, rfl⟩ := Kd.R_slice hR9
    refine ⟨_, rfl, ?_⟩
    refine hK.out _ _ ?_
    clear hK K
    refine norm_ (a' := ?_) ?_ ?_
    rotate_left
    · show Act.put _ (some 47) _ = _
      simp only [Act.put, List.setIfInBounds_toArray, List.set_cons_zero, List.set_cons_succ, i64_w, i32_w]
      rfl
    have HR9 := Aside0.mk hR9
    have HG9 := Aside0.mk hg9
    clear hR9 hg9
    refine pure_ (i := 10) (N := (some 48)) (v := ?_) (a' := ?_) #[true, true, true, true, true, true, true, true, true, true, true, false, false] rfl rfl (any_of HT_.out (by kernel_rfl)) (fun _ _ _ h => h) (Or.inl ⟨by rfl, ?_⟩) ?_ ?_
    rotate_left
    · intro w'
      go_simp
      with_reducible rfl
    rotate_left
    · simp only [Act.put, List.setIfInBounds_toArray, List.set_cons_zero, List.set_cons_succ, i64_w, i32_w]
      rfl
    refine pure_ (i := 11) (N := (some 49)) (v := ?_) (a' := ?_) #[true, true, true, true, true, true, true, true, true, true, true, true, false] rfl rfl (any_of HT_.out (by kernel_rfl)) (fun _ _ _ h => h) (Or.inl ⟨by rfl, ?_⟩) ?_ ?_
    rotate_left
    · intro w'
      go_simp
      with_reducible rfl
    rotate_left
    · simp only [Act.put, List.setIfInBounds_toArray, List.set_cons_zero, List.set_cons_succ, i64_w, i32_w]
      rfl
    have HDN := Aside0.mk (HA8.out.done hj HGG.out HR9.out HG9.out ({ p with places := insertF p.places place }) rfl)
    have PB9 := Aside0.mk (blk_grown HA8.out.pb HG9.out HA8.out.ne)
    have f9 := blk_frozen PB9.out 5
    have q9 : w9.cell? ⟨g, 5, none⟩ = some v := (blk_cell PB9.out 5).trans rfl
    refine last_ (i := 12) (N := none) #[true, true, true, true, true, true, true, true, true, true, true, true, true] rfl rfl (one_of HT_.out (by kernel_rfl)) (by decide) (fun K hK => ?_)
    refine skip_ (w1 := ?_) (by rfl) rfl ?_ ?_
    rotate_left
    · go_simp
      rfl
    refine hK.out _ _ ?_
    clear hK K
    refine done_ (done_of HT_.out (by kernel_rfl)) ?_
    clear hHeld HT_ HW_
    go_wp2_with fail
    go_end0
    exact ⟨rfl, HDN.out⟩
end Go.Proofs.Ytofegigbhohebaa.Hand
