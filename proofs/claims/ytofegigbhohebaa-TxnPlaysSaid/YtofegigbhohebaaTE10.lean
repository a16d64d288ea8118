/- The document's Todo. -/
import Derived.Test.YtofegigbhohebaaTE9
import Derived.Test.YtofegigbhohebaaTB18
namespace Go.Proofs.Ytofegigbhohebaa.Hand
open Go.RowKit Go.Proofs.Ytofegigbhohebaa Go.Proofs.YtofegigbhohebaaW.PrintWords Go.Proofs.YtofegigbhohebaaW.PrintLast
set_option linter.unusedVariables false
set_option linter.unusedSimpArgs false
/-- The cells of a row of Todos. -/
theorem td_cells {cur : Array Value} {l : List TdV} (h : cur.toList.take (l.length * 4) = tdsC l) (k : Nat) (t : TdV) (ht : l[k]? = some t) : cur[k * 4]? = some (.int .i64 t.producer) ∧ cur[k * 4 + 1]? = some (.int .i64 t.epoch) ∧ cur[k * 4 + 2]? = some (.int .i64 t.place) ∧ cur[k * 4 + 3]? = some (.bool t.yes) := by
  have hlen : ∀ m : List TdV, (tdsC m).length = m.length * 4 := fun m => by
    induction m with
    | nil => rfl
    | cons a m ih =>
      show (tdC a ++ tdsC m).length = _
      rw [List.length_append, ih, List.length_cons]
      show 4 + _ = _
      omega
  have hk := (List.getElem?_eq_some_iff.1 ht).1
  have key : ∀ (m : List TdV) (k : Nat) (t : TdV), m[k]? = some t → ∀ j v, (tdC t)[j]? = some v → (tdsC m)[k * 4 + j]? = some v := by
    intro m
    induction m with
    | nil => intro k t h; simp at h
    | cons a m ih =>
      intro k t h j v hj
      have e : tdsC (a :: m) = tdC a ++ tdsC m := rfl
      cases k with
      | zero =>
        simp only [List.getElem?_cons_zero, Option.some.injEq] at h
        subst h
        have hj4 := (List.getElem?_eq_some_iff.1 hj).1
        rw [e, List.getElem?_append_left (by omega), Nat.zero_mul, Nat.zero_add]
        exact hj
      | succ k =>
        have := ih k t (by simpa using h) j v hj
        rw [e, List.getElem?_append_right (by show 4 ≤ _; omega), show (k + 1) * 4 + j - (tdC a).length = k * 4 + j by show _ - 4 = _; omega]
        exact this
  have out : ∀ j v, (tdC t)[j]? = some v → cur[k * 4 + j]? = some v := fun j v hj => by
    have h1 := key l k t ht j v hj
    have hj4 := (List.getElem?_eq_some_iff.1 hj).1
    have hj4 : j < 4 := hj4
    rw [← h, List.getElem?_take_of_lt (by omega)] at h1
    simpa using h1
  exact ⟨out 0 _ rfl, out 1 _ rfl, out 2 _ rfl, out 3 _ rfl⟩
/-- A row of Todos in memory. -/
def TdRow (w : World) (A : Option Addr) (l : List TdV) : Prop := ∀ k t, l[k]? = some t → ∃ ad, A = some ad ∧ w.cell? (ad.add (k * 4)) = some (.int .i64 t.producer) ∧ w.cell? ⟨(ad.add (k * 4)).block, (ad.add (k * 4)).off + 1, none⟩ = some (.int .i64 t.epoch) ∧ w.cell? ⟨(ad.add (k * 4)).block, (ad.add (k * 4)).off + 2, none⟩ = some (.int .i64 t.place) ∧ w.cell? ⟨(ad.add (k * 4)).block, (ad.add (k * 4)).off + 3, none⟩ = some (.bool t.yes)
theorem TdRow.below {w w' : World} {A : Option Addr} {l : List TdV} (h : TdRow w A l) (hb : Below w.heap.size w w') : TdRow w' A l := by
  intro k t ht
  obtain ⟨ad, hA, h0, h1, h2, h3⟩ := h k t ht
  have mv : ∀ (p : Addr) v, w.cell? p = some v → w'.cell? p = some v := fun p v e => (hb.cell (p := p) (World.block_lt_of_cell? w _ e)).trans e
  exact ⟨ad, hA, mv _ _ h0, mv _ _ h1, mv _ _ h2, mv _ _ h3⟩
theorem td_open {w : World} {e4 : TypeId} {base : Nat} {v : Value} {l : List TdV} (h : w.ownsRow base e4 4 v l.length (tdsC l)) : ∃ A c, v = .slice A l.length c ∧ l.length ≤ c ∧ TdRow w A l := by
  obtain ⟨-, ⟨rfl, h0⟩ | ⟨g, cap, cur, rfl, -, hcur, hc, -, -, ht⟩⟩ := h
  · refine ⟨none, 0, by rw [h0], by omega, fun k t ht => ?_⟩
    have := (List.getElem?_eq_some_iff.1 ht).1
    omega
  · refine ⟨_, cap, rfl, hc, fun k t hk => ⟨_, rfl, ?_⟩⟩
    obtain ⟨h0, h1, h2, h3⟩ := td_cells ht k t hk
    have e : ((⟨g, 0, none⟩ : Addr).add (k * 4)) = ⟨g, k * 4, none⟩ := by
      unfold Addr.add
      split
      · rename_i e; rw [e]
      · simp
    rw [e]
    exact ⟨(blk_cell hcur _).trans h0, (blk_cell hcur _).trans h1, (blk_cell hcur _).trans h2, (blk_cell hcur _).trans h3⟩
def TD9 : Bool × List (List Nat × List Nat) := (true, [([], []), ([], []), ([], []), ([2], [2]), ([], []), ([4], [4]), ([], []), ([5, 6], [5, 6]), ([7], [7]), ([], []), ([9], [9]), ([10], [10]), ([1, 3, 8, 11], [1, 3, 8, 11]), ([12], [12]), ([0, 13], [0, 13]), ([14, 14, 0, 1, 2, 3, 4, 5, 6, 7, 8, 9, 10, 11, 12, 13, 14], [0, 14])])
def BD9 : List Nat := [0, 0, 0, 4, 0, 16, 0, 112, 240, 0, 512, 1536, 4094, 8190, 16383, 32767]
theorem tabD9 : rtab .any (opsOf Try.f80 9) = TD9 := by kernel_rfl
theorem bitsD9 : waitsOk TD9.2 BD9 = true := by kernel_rfl
theorem infoTD2 : (Try.prog.info? 132).map (fun i => (i.zero, i.size, i.bytes)) = some (some (.agg #[.int .i64 0, .int .i64 0, .int .i64 0, .bool false]), 4, 32) := by kernel_rfl
theorem tdC_one (t : TdV) : ∀ u ∈ tdC t, u.oneCell' = true := by
  intro u hu
  simp only [tdC, List.mem_cons, List.not_mem_nil, or_false] at hu
  rcases hu with rfl | rfl | rfl | rfl <;> rfl
/-- What is to be told of one producer. -/
def tdP (j : Nat) (en : Bool) (ep st : Int) (pl : List Int) : List TdV := if en = true then pl.map fun n => ⟨j, ep, n, decide (st = 2)⟩ else []
/-- Todo's state: its list, and the copy of a producer. -/
structure TI (own : Nat → Prop) (gb : Nat) (rs : List RP) (B : Nat) (lp : Array Value) (v : Value) (ts : List TdV) (w0 w : World) : Prop where
  rb : RB own gb rs w
  below : Below w0.heap.size w0 w
  loc : w.heap[B]? = some (.cells lp 127 (0, 0))
  row : w.ownsRow w0.heap.size 132 4 v ts.length (tdsC ts)
variable {own : Nat → Prop} {gb : Nat} {rs : List RP} {w w' : World}
theorem TI.move {B : Nat} {lp : Array Value} {v : Value} {ts : List TdV} {w0 : World} (h : TI own gb rs B lp v ts w0 w) (hb : Below w.heap.size w w') : TI own gb rs B lp v ts w0 w' :=
  ⟨h.rb.below hb, below_step h.below hb, blk_below h.loc hb, Go.Proofs.YtofegigbhohebaaW.PrintWords.own_move h.row (fun k hk => by obtain ⟨cs, hc⟩ := own_typed h.row k hk; exact hb.block k (blk_lt hc))⟩
set_option maxHeartbeats 3200000 in
set_option maxRecDepth 100000 in
theorem rTodo_c (h : RB own gb rs w) (hg : Good (psOf rs)) : Calls Try.prog 80 #[.pointer (some ⟨gb, 0, none⟩)] w fun e w' => ∃ A c, e = .returned (.slice A (todosF (psOf rs)).length c) ∧ TdRow w' A (todosF (psOf rs)) ∧ Below w.heap.size w w' := by
  have HH := Aside0.mk h
  have hmax := h.len
  have HG := Aside0.mk hg
  have hln : rs.length ≤ 1000 := by rw [← psOf_len]; exact hg.len
  clear h hg
  go_enter Try.func80, Try.ntmps80
  go_wp2_with fail
  go_loopw [3, 4] (fun v i wr => ∃ j : Nat, j ≤ rs.length ∧ i = .int .i64 (j : Int) ∧ RB own gb rs wr ∧ Below w.heap.size w wr ∧ wr.ownsRow w.heap.size 132 4 v (todosUpto (psOf rs) j).length (tdsC (todosUpto (psOf rs) j))) (fun v i _ => rs.length - (intOf i).toNat)
  case atStart => exact ⟨0, Nat.zero_le _, rfl, HH.out, Below.refl _ _, World.ownsRow_nil _ _ _ _⟩
  case round =>
    obtain ⟨j, hj, rfl, hrb, hbl, hro⟩ := hrel
    have HX := Aside0.mk (And.intro hrb (And.intro hbl hro))
    clear hrb hbl hro
    by_cases hjl : j < rs.length
    · have hjc : (j : Int) < (rs.length : Int) := by omega
      obtain ⟨⟨⟨nm, tm, ep, st, si, pl⟩, sl⟩, hrk⟩ : ∃ r, rs[j]? = some r := ⟨_, List.getElem?_eq_getElem hjl⟩
      have hmem := List.mem_iff_getElem?.2 ⟨j, hrk⟩
      have RE := Aside0.mk (fun W => rends_c (⟨nm, tm, ep, st, si, pl⟩, sl) W)
      unfold rpV prodC at RE
      dsimp only at RE
      obtain ⟨en, hen⟩ : ∃ en, endsP ⟨nm, tm, ep, st, si, pl⟩ = en := ⟨_, rfl⟩
      rw [hen] at RE
      have hpl : pl.length ≤ 100 := (HG.out.each _ (List.mem_map.2 ⟨_, hmem, rfl⟩)).len
      have htd : tdOf j ((psOf rs).getD j prod0) = tdP j en ep st pl := by
        rw [psOf_at hrk]
        unfold tdOf tdP
        rw [hen]
      have HTU := Aside0.mk (show todosUpto (psOf rs) (j + 1) = todosUpto (psOf rs) j ++ tdP j en ep st pl by rw [todosUpto_succ, htd])
      have HTL := Aside0.mk (todosUpto_len HG.out j (by rw [psOf_len]; omega))
      obtain ⟨Ap, cp, hv⟩ := Kd.R_slice (HX.out.1.each _ hmem)
      dsimp only at hv
      subst hv
      have HPL := Aside0.mk (fun (W : World) (h : RB own gb rs W) => (Kd.R_reads' (h.each _ hmem)).2.2)
      clear hen htd hmem
      obtain ⟨A, c, hb, -, hrow⟩ := HX.out.1.read
      have b0 : wr.cell? ⟨gb, 0, none⟩ = some (.slice A rs.length c) := (blk_cell hb 0).trans rfl
      obtain ⟨ad0, hA, e0, e1, e2, e3, e4, e5⟩ := rp_cells hrow j _ hrk
      subst hA
      dsimp only at e0 e1 e2 e3 e4 e5
      clear hb hrow
      have hal := below_alloc (Below.refl wr.heap.size wr) (.cells #[.string nm, .int .i64 tm, .int .i64 ep, .int .i64 st, .int .i64 si, .slice Ap pl.length cp] 127 (0, 0))
      have HS0 := Aside0.mk (TI.move (TI.mk (own := own) (B := wr.heap.size) (gb := gb) (rs := rs) (lp := #[.string nm, .int .i64 tm, .int .i64 ep, .int .i64 st, .int .i64 si, .slice Ap pl.length cp]) (w0 := w) (HX.out.1.below hal) (below_step HX.out.2.1 hal) (heap_alloc_new wr _) (World.ownsRow.alloc HX.out.2.2 _)) (Below.refl _ _))
      clear hal
      obtain ⟨t0, ht0⟩ : ∃ t0, todosUpto (psOf rs) j = t0 := ⟨_, rfl⟩
      rw [ht0] at HS0 HTU HTL
      have hj100 : t0.length ≤ 100000 := by have := HTL.out; omega
      clear ht0
      go_wp2_with fail
      generalize hB : wr.heap.size = B at HS0 ⊢
      generalize wr.alloc (.cells #[.string nm, .int .i64 tm, .int .i64 ep, .int .i64 st, .int .i64 si, .slice Ap pl.length cp] 127 (0, 0)) = w1 at HS0 ⊢
      have HNO := Aside0.mk (fun (q : Nat) (hq : w.heap.size ≤ q) (h : own q) => Nat.lt_irrefl _ (Nat.lt_of_lt_of_le (HH.out.lt q h) hq))
      clear hB b0 e0 e1 e2 e3 e4 e5 HX
      go_loopw [3, 6] (fun v i wq => ∃ m : Nat, m ≤ pl.length ∧ i = .int .i64 (m : Int) ∧ TI own gb rs B #[.string nm, .int .i64 tm, .int .i64 ep, .int .i64 st, .int .i64 si, .slice Ap pl.length cp] v (t0 ++ (tdP j en ep st pl).take m) w wq) (fun v i _ => pl.length - (intOf i).toNat)
      case atStart => exact ⟨0, Nat.zero_le _, rfl, by rw [List.take_zero, List.append_nil]; exact HS0.out⟩
      case round =>
        obtain ⟨m, hm, rfl, hti⟩ := hrel
        have HS := Aside0.mk hti
        clear hti HS0
        have z0 : wr.cell? ⟨B, 0, none⟩ = some (.string nm) := (blk_cell HS.out.loc 0).trans rfl
        have z1 : wr.cell? ⟨B, 1, none⟩ = some (.int .i64 tm) := (blk_cell HS.out.loc 1).trans rfl
        have z2 : wr.cell? ⟨B, 2, none⟩ = some (.int .i64 ep) := (blk_cell HS.out.loc 2).trans rfl
        have z3 : wr.cell? ⟨B, 3, none⟩ = some (.int .i64 st) := (blk_cell HS.out.loc 3).trans rfl
        have z4 : wr.cell? ⟨B, 4, none⟩ = some (.int .i64 si) := (blk_cell HS.out.loc 4).trans rfl
        have z5 : wr.cell? ⟨B, 5, none⟩ = some (.slice Ap pl.length cp) := (blk_cell HS.out.loc 5).trans rfl
        by_cases hml : m < pl.length
        · have hmc : (m : Int) < (pl.length : Int) := by omega
          have HPC0 := Aside0.mk (HPL.out _ HH.out)
          obtain ⟨ad, hAp, hc0⟩ := Kd.at_int HPC0.out (m : Int) (by omega) (by omega)
          subst hAp
          obtain ⟨y, hy⟩ : ∃ y, pl[m]? = some y := ⟨_, List.getElem?_eq_getElem hml⟩
          rw [Int.toNat_natCast, show rd pl (m : Int) = y by unfold rd; simp [hy]] at hc0
          have HPC := Aside0.mk (fun (V : World) (h : Below w.heap.size w V) => cell_bel h hc0)
          have hc := HPC.out _ HS.out.below
          clear hc0 HPC0
          cases en
          · have HE := Aside0.mk (show t0 ++ (tdP j false ep st pl).take m = t0 by simp [tdP])
            rw [HE.out] at HS
            have HE2 := Aside0.mk (HTU.out.trans (show t0 ++ tdP j false ep st pl = t0 by simp [tdP]))
            go_wp2_with (go_at_call 70; refine (RE.out _).mono ?_; rintro e w7 ⟨rfl, hb⟩; have HS7 := Aside0.mk (HS.out.move hb); clear hb z0 z1 z2 z3 z4 z5 hc)
            exact ⟨⟨j + 1, by omega, rfl, HS7.out.rb, HS7.out.below, by rw [HE2.out]; exact HS7.out.row⟩, by simp only [intOf]; omega⟩
          · have HE := Aside0.mk (show (tdP j true ep st pl).take (m + 1) = (tdP j true ep st pl).take m ++ [⟨(j : Int), ep, y, st == 2⟩] by
              unfold tdP
              rw [if_pos rfl, List.take_add_one, List.getElem?_map, hy]
              rfl)
            have hlt : (t0 ++ (tdP j true ep st pl).take m).length ≤ 100100 := by
              unfold tdP
              rw [if_pos rfl, List.length_append, List.length_take, List.length_map]
              omega
            have HE2 := Aside0.mk (show t0 ++ (tdP j true ep st pl).take (m + 1) = (t0 ++ (tdP j true ep st pl).take m) ++ [⟨(j : Int), ep, y, st == 2⟩] by rw [HE.out, List.append_assoc])
            clear HE hy
            generalize t0 ++ (tdP j true ep st pl).take m = ts at HS HE2 hlt
            go_upto_region 9 with (go_at_call 70; refine (RE.out _).mono ?_; rintro e w7 ⟨rfl, hb⟩; have HS7 := Aside0.mk (HS.out.move hb); clear hb z0 z1 z2 z3 z4 z5 hc HS; have z2 : w7.cell? ⟨B, 2, none⟩ = some (.int .i64 ep) := (blk_cell HS7.out.loc 2).trans rfl; have z3 : w7.cell? ⟨B, 3, none⟩ = some (.int .i64 st) := (blk_cell HS7.out.loc 3).trans rfl; have z5 : w7.cell? ⟨B, 5, none⟩ = some (.slice (some ad) pl.length cp) := (blk_cell HS7.out.loc 5).trans rfl; have hc := HPC.out _ HS7.out.below)
            have HS := HS7
            clear HS7
            have HSd := Aside0.mk (HS.out.move (below_drew (Below.refl w7.heap.size w7)))
            clear z2 z3 z5 hc
            have hc : w7.drew.cell? (ad.add m) = some (.int .i64 y) := HPC.out _ HSd.out.below
            have z2 : w7.drew.cell? ⟨B, 2, none⟩ = some (.int .i64 ep) := (blk_cell HSd.out.loc 2).trans rfl
            have z3 : w7.drew.cell? ⟨B, 3, none⟩ = some (.int .i64 st) := (blk_cell HSd.out.loc 3).trans rfl
            have z5 : w7.drew.cell? ⟨B, 5, none⟩ = some (.slice (some ad) pl.length cp) := (blk_cell HSd.out.loc 5).trans rfl
            refine start_ (n := 16) (S := fun w' => w'.cell? ⟨B, 2, none⟩ = some (.int .i64 ep) ∧ w'.cell? ⟨B, 3, none⟩ = some (.int .i64 st) ∧ w'.cell? ⟨B, 5, none⟩ = some (.slice (some ad) pl.length cp) ∧ w'.cell? (ad.add m) = some (.int .i64 y)) (ds := []) #[false, false, false, false, false, false, false, false, false, false, false, false, false, false, false, false] (by kernel_rfl) rfl rfl ⟨z2, z3, z5, hc⟩ (fun hHeld => ?_); refine with_tabW tabD9 bitsD9 (fun HT_ HW_ => ?_)
            generalize w7.drew = wd at HSd z2 z3 z5 hc hHeld ⊢
            refine pure_ (i := 0) (N := (some 34)) (v := ?_) (a' := ?_) #[true, false, false, false, false, false, false, false, false, false, false, false, false, false, false, false] rfl rfl (any_of HT_.out (by kernel_rfl)) (fun _ _ _ h => h) (Or.inl ⟨by rfl, ?_⟩) ?_ ?_
            rotate_left
            · intro w'
              go_simp
              with_reducible rfl
            rotate_left
            · simp only [Act.put, List.setIfInBounds_toArray, List.set_cons_zero, List.set_cons_succ, i64_w, i32_w]
              rfl
            refine pure_ (i := 1) (N := (some 35)) (v := ?_) (a' := ?_) #[true, true, false, false, false, false, false, false, false, false, false, false, false, false, false, false] rfl rfl (any_of HT_.out (by kernel_rfl)) (fun _ _ _ h => h) (Or.inl ⟨by rfl, ?_⟩) ?_ ?_
            rotate_left
            · intro w'
              go_simp
              with_reducible rfl
            rotate_left
            · simp only [Act.put, List.setIfInBounds_toArray, List.set_cons_zero, List.set_cons_succ, i64_w, i32_w]
              rfl
            refine pure_ (i := 2) (N := (some 36)) (v := ?_) (a' := ?_) #[true, true, true, false, false, false, false, false, false, false, false, false, false, false, false, false] rfl rfl (any_of HT_.out (by kernel_rfl)) (fun _ _ _ h => h) (Or.inl ⟨by rfl, ?_⟩) ?_ ?_
            rotate_left
            · intro w'
              go_simp
              with_reducible rfl
            rotate_left
            · simp only [Act.put, List.setIfInBounds_toArray, List.set_cons_zero, List.set_cons_succ, i64_w, i32_w]
              rfl
            refine take_ (i := 3) (N := (some 37)) (v := ?_) (a' := ?_) #[true, true, true, true, false, false, false, false, false, false, false, false, false, false, false, false] rfl rfl (take_ofW HT_.out HW_.out (by kernel_rfl)) (fun _ _ _ h => h) (Or.inl ⟨by rfl, ?_⟩) hHeld ?_ ?_
            rotate_left
            · rintro w' ⟨s0, s1, s2, s3⟩
              go_simp
              with_reducible rfl
            rotate_left
            · simp only [Act.put, List.setIfInBounds_toArray, List.set_cons_zero, List.set_cons_succ, i64_w, i32_w]
              rfl
            refine pure_ (i := 4) (N := (some 38)) (v := ?_) (a' := ?_) #[true, true, true, true, true, false, false, false, false, false, false, false, false, false, false, false] rfl rfl (any_of HT_.out (by kernel_rfl)) (fun _ _ _ h => h) (Or.inl ⟨by rfl, ?_⟩) ?_ ?_
            rotate_left
            · intro w'
              go_simp
              with_reducible rfl
            rotate_left
            · simp only [Act.put, List.setIfInBounds_toArray, List.set_cons_zero, List.set_cons_succ, i64_w, i32_w]
              rfl
            refine take_ (i := 5) (N := (some 39)) (v := ?_) (a' := ?_) #[true, true, true, true, true, true, false, false, false, false, false, false, false, false, false, false] rfl rfl (take_ofW HT_.out HW_.out (by kernel_rfl)) (fun _ _ _ h => h) (Or.inl ⟨by rfl, ?_⟩) hHeld ?_ ?_
            rotate_left
            · rintro w' ⟨s0, s1, s2, s3⟩
              go_simp
              with_reducible rfl
            rotate_left
            · simp only [Act.put, List.setIfInBounds_toArray, List.set_cons_zero, List.set_cons_succ, i64_w, i32_w]
              rfl
            refine pure_ (i := 6) (N := (some 40)) (v := ?_) (a' := ?_) #[true, true, true, true, true, true, true, false, false, false, false, false, false, false, false, false] rfl rfl (any_of HT_.out (by kernel_rfl)) (fun _ _ _ h => h) (Or.inl ⟨by rfl, ?_⟩) ?_ ?_
            rotate_left
            · intro w'
              go_simp
              with_reducible rfl
            rotate_left
            · simp only [Act.put, List.setIfInBounds_toArray, List.set_cons_zero, List.set_cons_succ, i64_w, i32_w]
              rfl
            refine pure_ (i := 7) (N := (some 41)) (v := ?_) (a' := ?_) #[true, true, true, true, true, true, true, true, false, false, false, false, false, false, false, false] rfl rfl (any_of HT_.out (by kernel_rfl)) (fun _ _ _ h => h) (Or.inl ⟨by rfl, ?_⟩) ?_ ?_
            rotate_left
            · intro w'
              go_simp
              with_reducible rfl
            rotate_left
            · simp only [Act.put, List.setIfInBounds_toArray, List.set_cons_zero, List.set_cons_succ, i64_w, i32_w]
              rfl
            refine take_ (i := 8) (N := (some 42)) (v := ?_) (a' := ?_) #[true, true, true, true, true, true, true, true, true, false, false, false, false, false, false, false] rfl rfl (take_ofW HT_.out HW_.out (by kernel_rfl)) (fun _ _ _ h => h) (Or.inl ⟨by rfl, ?_⟩) hHeld ?_ ?_
            rotate_left
            · rintro w' ⟨s0, s1, s2, s3⟩
              go_simp
              with_reducible rfl
            rotate_left
            · simp only [Act.put, List.setIfInBounds_toArray, List.set_cons_zero, List.set_cons_succ, i64_w, i32_w]
              rfl
            refine pure_ (i := 9) (N := (some 43)) (v := ?_) (a' := ?_) #[true, true, true, true, true, true, true, true, true, true, false, false, false, false, false, false] rfl rfl (any_of HT_.out (by kernel_rfl)) (fun _ _ _ h => h) (Or.inl ⟨by rfl, ?_⟩) ?_ ?_
            rotate_left
            · intro w'
              go_simp
              with_reducible rfl
            rotate_left
            · simp only [Act.put, List.setIfInBounds_toArray, List.set_cons_zero, List.set_cons_succ, i64_w, i32_w]
              rfl
            refine take_ (i := 10) (N := (some 44)) (v := ?_) (a' := ?_) #[true, true, true, true, true, true, true, true, true, true, true, false, false, false, false, false] rfl rfl (take_ofW HT_.out HW_.out (by kernel_rfl)) (fun _ _ _ h => h) (Or.inl ⟨by rfl, ?_⟩) hHeld ?_ ?_
            rotate_left
            · rintro w' ⟨s0, s1, s2, s3⟩
              go_simp
              with_reducible rfl
            rotate_left
            · simp only [Act.put, List.setIfInBounds_toArray, List.set_cons_zero, List.set_cons_succ, i64_w, i32_w]
              rfl
            refine pure_ (i := 11) (N := (some 45)) (v := ?_) (a' := ?_) #[true, true, true, true, true, true, true, true, true, true, true, true, false, false, false, false] rfl rfl (any_of HT_.out (by kernel_rfl)) (fun _ _ _ h => h) (Or.inl ⟨by rfl, ?_⟩) ?_ ?_
            rotate_left
            · intro w'
              go_simp
              with_reducible rfl
            rotate_left
            · simp only [Act.put, List.setIfInBounds_toArray, List.set_cons_zero, List.set_cons_succ, i64_w, i32_w]
              rfl
            refine pure_ (i := 12) (N := (some 46)) (v := ?_) (a' := ?_) #[true, true, true, true, true, true, true, true, true, true, true, true, true, false, false, false] rfl rfl (any_of HT_.out (by kernel_rfl)) (fun _ _ _ h => h) (Or.inl ⟨by rfl, ?_⟩) ?_ ?_
            rotate_left
            · intro w'
              go_simp
              with_reducible rfl
            rotate_left
            · simp only [Act.put, List.setIfInBounds_toArray, List.set_cons_zero, List.set_cons_succ, i64_w, i32_w]
              rfl
            refine one_ (i := 13) (N := (some 47)) #[true, true, true, true, true, true, true, true, true, true, true, true, true, true, false, false] rfl rfl (one_of HT_.out (by kernel_rfl)) (by decide) (fun K hK => ?_)
            refine event_step (v := .slice (some ⟨wd.heap.size, 0, none⟩) 1 1) (w1 := wd.alloc (.cells (tdC ⟨(j : Int), ep, y, st == 2⟩).toArray 132 (0, 0))) (by rfl) ?hr ?_
            case hr => first | (go_simp; done) | (go_simp; rfl)
            have hal := below_alloc (Below.refl wd.heap.size wd) (.cells (tdC ⟨(j : Int), ep, y, st == 2⟩).toArray 132 (0, 0))
            have hS := Aside0.mk (And.intro (cell_bel hal z2) (And.intro (cell_bel hal z3) (And.intro (cell_bel hal z5) (cell_bel hal hc))))
            clear hal z2 z3 z5 hc
            refine hK.out _ _ hS.out (fun hHeld => ?_)
            clear hK K
            refine norm_ (a' := ?_) ?_ ?_
            rotate_left
            · show Act.put _ (some 47) _ = _
              simp only [Act.put, List.setIfInBounds_toArray, List.set_cons_zero, List.set_cons_succ, i64_w, i32_w]
              rfl
            refine one_ (i := 14) (N := (some 48)) #[true, true, true, true, true, true, true, true, true, true, true, true, true, true, true, false] rfl rfl (one_of HT_.out (by kernel_rfl)) (by decide) (fun K hK => ?_)
            refine step_append_cells (w0 := wd) w.heap.size (by rfl) (.tmp 34) (.tmp 47) 130 132 (.agg #[.int .i64 0, .int .i64 0, .int .i64 0, .bool false]) 4 32 rfl Try.underlying130 infoTD2 rfl (by decide) (by decide) u3 ts.length (tdsC ts) (tdC ⟨(j : Int), ep, y, st == 2⟩) rfl rfl rfl (tdC_one _) HSd.out.row (Below.refl _ _) HSd.out.below.size (by omega) ?_
            intro v5 w5 ho5 hb5 hg5 hat5
            have HN := Aside0.mk (TI.mk (HSd.out.rb.step hg5.size (fun q hq => hg5.block q (HSd.out.rb.lt q hq) (fun e => absurd hq (HNO.out q (HSd.out.row.lt q e.symm).1)))) (HSd.out.below.trans hb5) (blk_grown HSd.out.loc hg5 (fun e => by obtain ⟨cells, hcc⟩ := own_typed HSd.out.row B e.symm; exact blk_ne HSd.out.loc hcc (by decide) rfl)) (show w5.ownsRow w.heap.size 132 4 v5 (ts ++ [(⟨(j : Int), ep, y, st == 2⟩ : TdV)]).length (tdsC (ts ++ [(⟨(j : Int), ep, y, st == 2⟩ : TdV)])) by rw [tdsC_snoc, List.length_append]; exact ho5))
            have hS5 := Aside0.mk (show w5.cell? ⟨B, 2, none⟩ = some (.int .i64 ep) ∧ w5.cell? ⟨B, 3, none⟩ = some (.int .i64 st) ∧ w5.cell? ⟨B, 5, none⟩ = some (.slice (some ad) pl.length cp) ∧ w5.cell? (ad.add m) = some (.int .i64 y) from ⟨(blk_cell HN.out.loc 2).trans rfl, (blk_cell HN.out.loc 3).trans rfl, (blk_cell HN.out.loc 5).trans rfl, HPC.out _ HN.out.below⟩)
            clear ho5 hb5 hg5 hat5 hS
            refine hK.out _ _ hS5.out (fun hHeld => ?_)
            clear hK K
            refine norm_ (a' := ?_) ?_ ?_
            rotate_left
            · show Act.put _ (some 48) _ = _
              simp only [Act.put, List.setIfInBounds_toArray, List.set_cons_zero, List.set_cons_succ, i64_w, i32_w]
              rfl
            refine pure_ (i := 15) (N := (some 3)) (v := ?_) (a' := ?_) #[true, true, true, true, true, true, true, true, true, true, true, true, true, true, true, true] rfl rfl (any_of HT_.out (by kernel_rfl)) (fun _ _ _ h => h) (Or.inl ⟨by rfl, ?_⟩) ?_ ?_
            rotate_left
            · intro w'
              go_simp
              with_reducible rfl
            rotate_left
            · simp only [Act.put, List.setIfInBounds_toArray, List.set_cons_zero, List.set_cons_succ, i64_w, i32_w]
              rfl
            refine done_ (done_of HT_.out (by kernel_rfl)) ?_
            clear hHeld HT_ HW_
            go_wp2_with fail
            exact ⟨⟨m + 1, by omega, rfl, by rw [HE2.out]; exact HN.out⟩, by simp only [intOf]; omega⟩
        · have hmc : ¬ (m : Int) < (pl.length : Int) := by omega
          have HE := Aside0.mk (show t0 ++ (tdP j en ep st pl).take m = todosUpto (psOf rs) (j + 1) by
            rw [HTU.out]
            congr 1
            refine List.take_of_length_le ?_
            unfold tdP
            cases en
            · exact Nat.zero_le _
            · rw [if_pos rfl, List.length_map]; omega)
          rw [HE.out] at HS
          go_wp2_with fail
          exact ⟨⟨j + 1, by omega, rfl, HS.out.rb, HS.out.below, HS.out.row⟩, by simp only [intOf]; omega⟩
    · have hjc : ¬ (j : Int) < (rs.length : Int) := by omega
      obtain rfl : j = rs.length := by omega
      obtain ⟨A, c, hb, -, hrow⟩ := HX.out.1.read
      have b0 : wr.cell? ⟨gb, 0, none⟩ = some (.slice A rs.length c) := (blk_cell hb 0).trans rfl
      clear hb hrow
      obtain ⟨A3, c3, hu3, -, htr⟩ := td_open HX.out.2.2
      have e : todosUpto (psOf rs) rs.length = todosF (psOf rs) := by unfold todosF; rw [psOf_len]
      rw [e] at hu3 htr
      subst hu3
      have HTR := Aside0.mk htr
      clear htr e
      go_wp2_with fail
      exact bodyPost_ret (v := .slice A3 (todosF (psOf rs)).length c3) (by simp [results, Try.results80, go_sem]) rfl ⟨A3, ⟨c3, rfl⟩, HTR.out, HX.out.2.1⟩
end Go.Proofs.Ytofegigbhohebaa.Hand
