/- like: both books side by side. -/
import Derived.Test.YtofegigbhohebaaTE10
import Derived.Test.YtofegigbhohebaaTB24
namespace Go.Proofs.Ytofegigbhohebaa.Hand
open Go.RowKit Go.Proofs.Ytofegigbhohebaa Go.Proofs.YtofegigbhohebaaW.PrintWords Go.Proofs.YtofegigbhohebaaW.PrintLast
set_option linter.unusedVariables false
set_option linter.unusedSimpArgs false
/-- The program's book and the document's hold the same. -/
structure PI (own : Nat → Nat) (gb : Nat) (gs : List Nat) (ownR : Nat → Prop) (rb : Nat) (rs : List RP) (ps : List ProdV) (w : World) : Prop where
  bi : BI own gb gs ps w
  good : Good ps
  rb : RB ownR rb rs w
  eq : psOf rs = ps
  ap : ∀ k, own k ≠ 0 → ¬ ownR k
variable {own : Nat → Nat} {gb : Nat} {gs : List Nat} {ownR : Nat → Prop} {rb : Nat} {rs : List RP} {ps : List ProdV} {w w' : World}
theorem PI.below (h : PI own gb gs ownR rb rs ps w) (hb : Below w.heap.size w w') : PI own gb gs ownR rb rs ps w' := ⟨h.bi.below hb, h.good, h.rb.below hb, h.eq, h.ap⟩
theorem PI.len (h : PI own gb gs ownR rb rs ps w) : rs.length = ps.length := by rw [← h.eq, psOf_len]
theorem PI.pl (h : PI own gb gs ownR rb rs ps w) : ∀ r ∈ rs, r.1.places.length ≤ 100 := fun r hr => (h.good.each r.1 (by rw [← h.eq]; exact List.mem_map.2 ⟨r, hr, rfl⟩)).len
theorem bel_setCell {B g i : Nat} {w0 w : World} (hb : Below B w0 w) (hg : B ≤ g) (u : Value) : Below B w0 (w.setCell ⟨g, i, none⟩ u) :=
  ⟨hb.os, hb.tape, hb.output, by rw [setCell_size]; exact hb.size, fun k hk => (Below.heap_setCell _ _ _ k (fun e => by have : k = g := e; omega)).trans (hb.block k hk)⟩
/-- A slice of one's own that is written. -/
def SL (B : Nat) (A : Option Addr) (n : Nat) (w : World) : Prop := n = 0 ∨ ∃ g cur, A = some ⟨g, 0, none⟩ ∧ B ≤ g ∧ w.heap[g]? = some (.cells cur 3 (0, 0)) ∧ n ≤ cur.size
theorem SL.start {B n c : Nat} {A : Option Addr} {xs : List Int} {ok : Nat → Prop} (h : Kd.R (Kd.int .i64) 3 w B ok (.slice A n c) xs) : SL B A n w := by
  obtain ⟨h1, ⟨h2, h3⟩ | ⟨g, cap, cur, h2, h3, h4, h5, h6, h7, -⟩⟩ := Kd.own_of_R h
  · injection h2 with _ h2
    exact .inl h2
  · injection h2 with h2 h8 h9
    exact .inr ⟨g, cur, h2, h3, h4, by omega⟩
set_option maxHeartbeats 6400000 in
set_option maxRecDepth 100000 in
theorem like_c (h : PI own gb gs ownR rb rs ps w) (x : EvV) : Calls Try.prog 46 #[.pointer (some ⟨gb, 0, none⟩), .pointer (some ⟨rb, 0, none⟩), evE x] w fun e w' => e = .returned (.bool true) ∧ Below w.heap.size w w' := by
  have HP := Aside0.mk (fun (V : World) (hb : Below w.heap.size w V) => h.below hb)
  have hln := h.len
  have hmx := h.good.len
  obtain ⟨kind, name, producer, epoch, place, timeout, now, yes⟩ := x
  unfold evE
  have hal := below_alloc (Below.refl w.heap.size w) (.cells #[.int .i64 kind, .string name, .int .i64 producer, .int .i64 epoch, .int .i64 place, .int .i64 timeout, .int .i64 now, .bool yes] 35 (0, 0))
  have y1 : (w.alloc (.cells #[.int .i64 kind, .string name, .int .i64 producer, .int .i64 epoch, .int .i64 place, .int .i64 timeout, .int .i64 now, .bool yes] 35 (0, 0))).cell? ⟨w.heap.size, 1, none⟩ = some (.string name) := (blk_cell (heap_alloc_new w _) 1).trans rfl
  have HX := Aside0.mk (heap_alloc_new w (.cells #[.int .i64 kind, .string name, .int .i64 producer, .int .i64 epoch, .int .i64 place, .int .i64 timeout, .int .i64 now, .bool yes] 35 (0, 0)))
  have HB := Aside0.mk hal
  have HF := Aside0.mk (fun (V : World) (hb : Below w.heap.size w V) => find_c (HP.out V hb).bi (HP.out V hb).good name)
  have HRF := Aside0.mk (fun (V : World) (hb : Below w.heap.size w V) => rFind_c (HP.out V hb).rb name)
  have HS := Aside0.mk (fun (V : World) (hb : Below w.heap.size w V) (k : Int) => status_c (HP.out V hb).bi k)
  have HRS := Aside0.mk (fun (V : World) (hb : Below w.heap.size w V) (k : Int) => rStatus_c (HP.out V hb).rb k)
  have HPL := Aside0.mk (fun (V : World) (hb : Below w.heap.size w V) (k : Int) => places_c (HP.out V hb).bi (HP.out V hb).good k)
  have HRP := Aside0.mk (fun (V : World) (hb : Below w.heap.size w V) (k : Int) => rPlaces_c (HP.out V hb).rb (HP.out V hb).pl k)
  have HT := Aside0.mk (fun (V : World) (hb : Below w.heap.size w V) => todo_c (HP.out V hb).bi (HP.out V hb).good)
  have HRT := Aside0.mk (fun (V : World) (hb : Below w.heap.size w V) => rTodo_c (HP.out V hb).rb (by rw [(HP.out V hb).eq]; exact (HP.out V hb).good))
  have HTL := Aside0.mk (todosF_len h.good)
  have HRD := Aside0.mk (fun (V : World) (hb : Below w.heap.size w V) => (HP.out V hb).rb.read)
  rw [h.eq] at HRF HRS HRP HRT
  clear hal h
  generalize findF ps name = ff at HF HRF
  obtain ⟨f1, f2, f3⟩ := ff
  dsimp only at HF HRF
  go_enter Try.func46, Try.ntmps46
  go_wp2_with (first
    | (go_at_call 23; refine (HF.out _ HB.out).mono ?_; rintro e w1 ⟨rfl, hb⟩; have HB1 := Aside0.mk (below_step HB.out hb); have HX1 := Aside0.mk (blk_below HX.out hb); clear hb HB HX y1; have y1 : w1.cell? ⟨w.heap.size, 1, none⟩ = some (.string name) := (blk_cell HX1.out 1).trans rfl)
    | (go_at_call 76; refine (HRF.out _ HB1.out).mono ?_; rintro e w2 ⟨rfl, hb⟩; have HB2 := Aside0.mk (below_step HB1.out hb); clear hb HB1 HX1 y1))
  go_loopw [13] (fun i wr => ∃ k : Nat, k ≤ rs.length + 2 ∧ i = .int .i64 ((k : Int) - 1) ∧ Below w.heap.size w wr) (fun i _ => (rs.length + 1 - intOf i).toNat)
  case atStart => exact ⟨0, Nat.zero_le _, rfl, HB2.out⟩
  case round =>
    obtain ⟨k, hk, rfl, hbk⟩ := hrel
    have HB3 := Aside0.mk hbk
    clear hbk HB2
    obtain ⟨A, c, hb, hmax, hrow⟩ := HRD.out _ HB3.out
    have b0 : wr.cell? ⟨rb, 0, none⟩ = some (.slice A rs.length c) := (blk_cell hb 0).trans rfl
    clear hb hrow
    by_cases hkl : k < rs.length + 2
    · have hkc : (k : Int) - 1 ≤ (rs.length : Int) := by omega
      obtain ⟨⟨s1, s2, s3⟩, hst⟩ : ∃ q, statusF ps ((k : Int) - 1) = q := ⟨_, rfl⟩
      have HSk := Aside0.mk (fun (V : World) (hb : Below w.heap.size w V) => HS.out V hb ((k : Int) - 1))
      have HRSk := Aside0.mk (fun (V : World) (hb : Below w.heap.size w V) => HRS.out V hb ((k : Int) - 1))
      rw [hst] at HSk HRSk
      clear hst
      obtain ⟨pl, hpl⟩ : ∃ q, placesF ps ((k : Int) - 1) = q := ⟨_, rfl⟩
      have HPk := Aside0.mk (fun (V : World) (hb : Below w.heap.size w V) => HPL.out V hb ((k : Int) - 1))
      have HRPk := Aside0.mk (fun (V : World) (hb : Below w.heap.size w V) => HRP.out V hb ((k : Int) - 1))
      rw [hpl] at HPk HRPk
      clear hpl
      dsimp only at HSk HRSk
      go_wp2_with (first
        | (go_at_call 18; refine (HSk.out _ HB3.out).mono ?_; rintro e w4 ⟨rfl, hb⟩; have HB4 := Aside0.mk (below_step HB3.out hb); clear hb HB3 b0)
        | (go_at_call 77; refine (HRSk.out _ HB4.out).mono ?_; rintro e w5 ⟨rfl, hb⟩; have HB5 := Aside0.mk (below_step HB4.out hb); clear hb HB4)
        | (go_at_call 21; refine (HPk.out _ HB5.out).mono ?_; rintro e w6 ⟨v6, rfl, hR6, hb⟩; have HB6 := Aside0.mk (below_step HB5.out hb); have HR6 := Aside0.mk (Kd.R_lower hR6 HB5.out.size); obtain ⟨A6, c6, hv6⟩ := Kd.R_slice hR6; subst hv6; clear hb HB5 hR6)
        | (go_at_call 79; refine (HRPk.out _ HB6.out).mono ?_; rintro e w7 ⟨v7, rfl, hR7, hb⟩; have HB7 := Aside0.mk (below_step HB6.out hb); have HR67 := Aside0.mk (Kd.R_below HR6.out hb); obtain ⟨A7, c7, hv7⟩ := Kd.R_slice hR7; subst hv7; have HC7 := Aside0.mk (Kd.R_reads' hR7).2.2; clear hb HB6 hR7)
        | (go_at_call 78; refine (ints_c A6 A7 c6 c7 pl _ (Kd.R_reads' HR67.out).2.2 HC7.out).mono ?_; rintro e w8 ⟨rfl, hb⟩; have HB8 := Aside0.mk (below_step HB7.out hb); have HR8 := Aside0.mk (Kd.R_below HR67.out hb); clear hb HB7 HR67 HC7))
      have HSL := Aside0.mk (SL.start HR8.out)
      have hpm : pl.length ≤ 9223372036854775807 := Kd.C_max (Kd.R_reads' HR8.out).2.2
      clear HR8
      go_loopw [21] (fun i wr => ∃ m : Nat, m ≤ pl.length ∧ i = .int .i64 (m : Int) ∧ Below w.heap.size w wr ∧ SL w.heap.size A6 pl.length wr) (fun i _ => pl.length - (intOf i).toNat)
      case atStart => exact ⟨0, Nat.zero_le _, rfl, HB8.out, HSL.out⟩
      case round =>
        obtain ⟨m, hm, rfl, hbm, hsl⟩ := hrel
        have HBM := Aside0.mk hbm
        clear hbm HB8 HSL
        by_cases hml : m < pl.length
        · have hmc : (m : Int) < (pl.length : Int) := by omega
          obtain ⟨g, cur, hA, hge, hg, hcs⟩ := hsl.resolve_left (by omega)
          subst hA
          obtain ⟨u, hu⟩ : ∃ u, cur[m]? = some u := ⟨_, Array.getElem?_eq_getElem (by omega)⟩
          have c0 : wr.cell? ⟨g, m, none⟩ = some u := (blk_cell hg m).trans hu
          have f0 := blk_frozen hg m
          have HN := Aside0.mk (show Below w.heap.size w (wr.setCell ⟨g, m, none⟩ (.int .i64 (-5))) ∧ SL w.heap.size (some ⟨g, 0, none⟩) pl.length (wr.setCell ⟨g, m, none⟩ (.int .i64 (-5))) from ⟨bel_setCell HBM.out hge _, .inr ⟨g, _, rfl, hge, blk_put hg m _ rfl, by rw [Array.size_setIfInBounds]; exact hcs⟩⟩)
          clear hg hu
          go_wp2_with fail
          exact ⟨⟨m + 1, by omega, rfl, HN.out⟩, by simp only [intOf]; omega⟩
        · have hmc : ¬ (m : Int) < (pl.length : Int) := by omega
          clear hsl
          go_wp2_with fail
          refine ⟨⟨k + 1, by omega, ?_, HBM.out⟩, by simp only [intOf]; omega⟩
          simp only [Value.int.injEq, true_and]
          omega
    · have hkc : ¬ (k : Int) - 1 ≤ (rs.length : Int) := by omega
      go_wp2_with (first
        | (go_at_call 17; refine (HT.out _ HB3.out).mono ?_; rintro e w4 ⟨v4, rfl, hrow, hb⟩; have HB4 := Aside0.mk (below_step HB3.out hb); obtain ⟨A4, c4, hv4, -, htr⟩ := td_open hrow; subst hv4; have HT4 := Aside0.mk htr; clear hb HB3 b0 hrow htr)
        | (go_at_call 80; refine (HRT.out _ HB4.out).mono ?_; rintro e w5 ⟨A5, c5, rfl, htr, hb⟩; have HB5 := Aside0.mk (below_step HB4.out hb); have HT5 := Aside0.mk (And.intro (HT4.out.below hb) htr); clear hb HB4 HT4 htr))
      generalize todosF ps = ts at HT5 HTL
      go_loopw [24] (fun i wr => ∃ m : Nat, m ≤ ts.length ∧ i = .int .i64 (m : Int) ∧ Below w.heap.size w wr ∧ TdRow wr A4 ts ∧ TdRow wr A5 ts) (fun i _ => ts.length - (intOf i).toNat)
      case atStart => exact ⟨0, Nat.zero_le _, rfl, HB5.out, HT5.out.1, HT5.out.2⟩
      case round =>
        obtain ⟨m, hm, rfl, hbq, hq4, hq5⟩ := hrel
        have HQ := Aside0.mk (And.intro hbq (And.intro hq4 hq5))
        clear hbq hq4 hq5 HB5 HT5
        by_cases hml : m < ts.length
        · have hmc : (m : Int) < (ts.length : Int) := by omega
          have htl := HTL.out
          obtain ⟨t, ht⟩ : ∃ t, ts[m]? = some t := ⟨_, List.getElem?_eq_getElem hml⟩
          obtain ⟨ad4, hA4, x0, x1, x2, x3⟩ := HQ.out.2.1 m t ht
          obtain ⟨ad5, hA5, y0, y1, y2, y3⟩ := HQ.out.2.2 m t ht
          subst hA4 hA5
          clear ht
          obtain ⟨tp, te, tl, ty⟩ := t
          dsimp only at x0 x1 x2 x3 y0 y1 y2 y3
          go_upto_region 24 with fail
          go_quiet (fail)
          have hdq : Below wr.heap.size wr (wr.drewN nq) := pw_below_drewN (Below.refl _ wr) nq
          have HQ2 := Aside0.mk (And.intro (below_step HQ.out.1 hdq) (And.intro (HQ.out.2.1.below hdq) (HQ.out.2.2.below hdq)))
          clear hdq
          generalize wr.drewN nq = w20 at HQ2 ⊢
          go_wp2_with fail
          exact ⟨⟨m + 1, by omega, rfl, HQ2.out⟩, by simp only [intOf]; omega⟩
        · have hmc : ¬ (m : Int) < (ts.length : Int) := by omega
          go_wp2_with fail
          exact bodyPost_ret (v := .bool true) (by simp [results, Try.results46, go_sem]) rfl ⟨rfl, HQ.out.1⟩
end Go.Proofs.Ytofegigbhohebaa.Hand
