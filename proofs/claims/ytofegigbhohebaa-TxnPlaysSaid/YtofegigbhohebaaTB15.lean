/- Apply: the map of its functions. -/
import Derived.Test.YtofegigbhohebaaTB14
namespace Go.Proofs.Ytofegigbhohebaa.Hand
open Go.RowKit Go.Proofs.Ytofegigbhohebaa Go.Proofs.YtofegigbhohebaaW.PrintWords Go.Proofs.YtofegigbhohebaaW.PrintLast Go.MapKept
set_option linter.unusedVariables false
set_option linter.unusedSimpArgs false
/-- Block B is a map from numbers to what stands in l. -/
def MapF (W : World) (B : Nat) (l : List (Int × Value)) : Prop := ∃ (es : Array MapEntry) (clock : Nat), W.heap[B]? = some (.map es clock) ∧ es.toList.map (fun e => (e.key, e.val)) = l.map (fun p => (Value.int .i64 p.1, p.2))
theorem und78 : Try.prog.underlying 78 = some (.map 3 77) := Try.underlying78
theorem undI : Try.prog.underlying 3 = some (.int .i64) := by kernel_rfl
theorem isKeyI (x : Int) : IsKey (.int .i64) (.int .i64 x) := by simp [IsKey]
theorem MapF.made (W : World) : MapF (W.alloc (.map #[] 0)) W.heap.size [] := ⟨#[], 0, (heap_alloc W _).1, rfl⟩
theorem MapF.keys {W : World} {B : Nat} {l : List (Int × Value)} {es : Array MapEntry} (h : es.toList.map (fun e => (e.key, e.val)) = l.map (fun p => (Value.int .i64 p.1, p.2))) : ∀ e ∈ es.toList, ∃ p ∈ l, e.key = .int .i64 p.1 ∧ e.val = p.2 := fun e he => by
  have : (e.key, e.val) ∈ es.toList.map (fun e => (e.key, e.val)) := List.mem_map.2 ⟨e, he, rfl⟩
  rw [h] at this
  obtain ⟨p, hp, e1⟩ := List.mem_map.1 this
  injection e1 with e1 e2
  exact ⟨p, hp, e1.symm, e2.symm⟩
theorem MapF.put {W : World} {B : Nat} {l : List (Int × Value)} (h : MapF W B l) (x : Int) (v : Value) (hx : ∀ p ∈ l, p.1 ≠ x) : ∃ W', (Instr.mapUpdate 78 (.map (some B)) (.int .i64 x) v).run Try.prog W = .ok () W' ∧ MapF W' B (l ++ [(x, v)]) ∧ W.grownBy W' (some B) := by
  obtain ⟨es, c, hb, h1⟩ := h

  have hk : ∀ e ∈ es.toList, IsKey (.int .i64) e.key := fun e he => by obtain ⟨p, -, hk, -⟩ := MapF.keys (W := W) (B := B) h1 e he; rw [hk]; exact isKeyI _
  have grow : ∀ o, W.grownBy { W with heap := W.heap.setIfInBounds B o } (some B) := fun o => ⟨rfl, rfl, rfl, by simp, fun k _ hk => (heap_set (o' := o) hb).2 k (fun e => hk (by rw [e]))⟩
  rcases findNow_spec (isKeyI x) es.toList 0 hk with ⟨h3, h4⟩ | ⟨j, e, h3, h4, h5⟩
  · refine ⟨_, ?_, ⟨es.push { key := .int .i64 x, val := v, born := c }, c + 1, (heap_set hb).1, ?_⟩, grow _⟩
    · unfold Instr.mapUpdate
      simp only [Sem.run_bind, run_underlying und78, Result.andThen, Go.MapKept.run_getObj_map hb, run_checkKey undI (isKeyI x), run_findKey undI h3, run_setObj_map _ hb]
    · rw [Array.toList_push, List.map_append, List.map_append, h1]
      rfl
  · obtain ⟨p, hp, e1, -⟩ := MapF.keys (W := W) (B := B) h1 e (List.mem_of_getElem? h4)
    rw [h5] at e1
    injection e1 with _ e1
    exact absurd e1.symm (hx p hp)
set_option maxRecDepth 100000 in
theorem MapF.look {W : World} {B : Nat} {l : List (Int × Value)} (h : MapF W B l) (x : Int) (v : Value) (hx : (x, v) ∈ l) (hu : ∀ p ∈ l, p.1 = x → p.2 = v) : (Instr.lookup 78 (.map (some B)) (.int .i64 x) false).run Try.prog W = .ok v W := by
  obtain ⟨es, c, hb, h1⟩ := h

  have hk : ∀ e ∈ es.toList, IsKey (.int .i64) e.key := fun e he => by obtain ⟨p, -, hk, -⟩ := MapF.keys (W := W) (B := B) h1 e he; rw [hk]; exact isKeyI _
  unfold Instr.lookup
  simp only [Sem.run_bind, run_underlying und78, Result.andThen, Go.MapKept.run_getObj_map hb, Sem.run_pure, run_checkKey undI (isKeyI x)]
  rcases findNow_spec (isKeyI x) es.toList 0 hk with ⟨h3, h4⟩ | ⟨j, e, h3, h4, h5⟩
  · exfalso
    have : (Value.int .i64 x, v) ∈ l.map (fun p => (Value.int .i64 p.1, p.2)) := List.mem_map.2 ⟨(x, v), hx, rfl⟩
    rw [← h1] at this
    obtain ⟨e, he, e1⟩ := List.mem_map.1 this
    injection e1 with e1 _
    exact h4 e he e1
  · obtain ⟨p, hp, e1, e2⟩ := MapF.keys (W := W) (B := B) h1 e (List.mem_of_getElem? h4)
    rw [h5] at e1
    injection e1 with _ e1
    have e3 := hu p hp e1.symm
    rw [e3] at e2
    simp only [run_findKey undI h3, Result.andThen, Sem.run_bind, Sem.run_pure, e2]
    rfl

/-- The five functions. -/
def fnsA (gb : Nat) : List (Int × Value) := [(1, .func (.func 30) #[.pointer (some ⟨gb, 0, none⟩)] #[]), (2, .func (.func 31) #[.pointer (some ⟨gb, 0, none⟩)] #[]), (3, .func (.func 32) #[.pointer (some ⟨gb, 0, none⟩)] #[]), (4, .func (.func 33) #[.pointer (some ⟨gb, 0, none⟩)] #[]), (5, .func (.func 34) #[.pointer (some ⟨gb, 0, none⟩)] #[])]
/-- What Apply's map comes of. -/
theorem fns_made (gb : Nat) (W : World) : ∃ W1 W2 W3 W4 W5, (Instr.mapUpdate 78 (.map (some W.heap.size)) (.int .i64 1) (.func (.func 30) #[.pointer (some ⟨gb, 0, none⟩)] #[])).run Try.prog (W.alloc (.map #[] 0)) = .ok () W1
    ∧ (Instr.mapUpdate 78 (.map (some W.heap.size)) (.int .i64 2) (.func (.func 31) #[.pointer (some ⟨gb, 0, none⟩)] #[])).run Try.prog W1 = .ok () W2
    ∧ (Instr.mapUpdate 78 (.map (some W.heap.size)) (.int .i64 3) (.func (.func 32) #[.pointer (some ⟨gb, 0, none⟩)] #[])).run Try.prog W2 = .ok () W3
    ∧ (Instr.mapUpdate 78 (.map (some W.heap.size)) (.int .i64 4) (.func (.func 33) #[.pointer (some ⟨gb, 0, none⟩)] #[])).run Try.prog W3 = .ok () W4
    ∧ (Instr.mapUpdate 78 (.map (some W.heap.size)) (.int .i64 5) (.func (.func 34) #[.pointer (some ⟨gb, 0, none⟩)] #[])).run Try.prog W4 = .ok () W5
    ∧ MapF W5 W.heap.size (fnsA gb) ∧ Below W.heap.size W W5 := by
  obtain ⟨W1, e1, m1, g1⟩ := (MapF.made W).put 1 (.func (.func 30) #[.pointer (some ⟨gb, 0, none⟩)] #[]) (by simp)
  obtain ⟨W2, e2, m2, g2⟩ := m1.put 2 (.func (.func 31) #[.pointer (some ⟨gb, 0, none⟩)] #[]) (by simp)
  obtain ⟨W3, e3, m3, g3⟩ := m2.put 3 (.func (.func 32) #[.pointer (some ⟨gb, 0, none⟩)] #[]) (by simp)
  obtain ⟨W4, e4, m4, g4⟩ := m3.put 4 (.func (.func 33) #[.pointer (some ⟨gb, 0, none⟩)] #[]) (by simp)
  obtain ⟨W5, e5, m5, g5⟩ := m4.put 5 (.func (.func 34) #[.pointer (some ⟨gb, 0, none⟩)] #[]) (by simp)
  refine ⟨W1, W2, W3, W4, W5, e1, e2, e3, e4, e5, m5, ?_⟩
  have b0 := below_alloc (Below.refl W.heap.size W) (.map #[] 0)
  have st : ∀ {U V : World}, Below W.heap.size W U → U.grownBy V (some W.heap.size) → Below W.heap.size W V := fun hb hg => ⟨hg.os.trans hb.os, hg.tape.trans hb.tape, hg.output.trans hb.output, Nat.le_trans hb.size hg.size, fun k hk => (hg.block k (Nat.lt_of_lt_of_le hk hb.size) (fun e => by injection e with e; omega)).trans (hb.block k hk)⟩
  exact st (st (st (st (st b0 g1) g2) g3) g4) g5
variable {own : Nat → Nat} {gb : Nat} {gs : List Nat} {ps : List ProdV} {w w' : World}
/-- An event of its function. -/
theorem does_c (h : BI own gb gs ps w) (hg : Good ps) (x : EvV) (hk5 : x.kind ≠ 5) (hd : decideF ps x = (false, 0)) : ∃ f : Nat, (x.kind, Value.func (.func f) #[.pointer (some ⟨gb, 0, none⟩)] #[]) ∈ fnsA gb ∧ (f = 30 ∨ f = 31 ∨ f = 32 ∨ f = 33) ∧ Calls Try.prog f #[.pointer (some ⟨gb, 0, none⟩), evE x] w fun e w' => e = .returned (.tuple #[]) ∧ DoP own gb (doesF ps x) w w' := by
  have hd1 : (decideF ps x).1 = false := by rw [hd]
  have hd2 : (decideF ps x).2 = 0 := by rw [hd]
  clear hd
  unfold decideF at hd1 hd2
  by_cases hr : rightE x = true
  rotate_left
  · rw [if_neg hr] at hd2; exact absurd hd2 (by decide)
  rw [if_pos hr] at hd1 hd2
  obtain ⟨hpr, hep, hpl, hti, hno⟩ := right_in hr
  unfold doesF
  by_cases h1 : x.kind = 1
  · rw [if_pos h1] at hd2 ⊢
    refine ⟨30, by rw [h1]; exact .head _, .inl rfl, ?_⟩
    unfold grantF at hd2
    by_cases hm : x.name ∈ nmsOf ps
    · rw [if_pos hm] at hd2 ⊢
      obtain ⟨hlt, hix⟩ := idx_lt hm
      have hgp := hg.at_ hlt
      have hne : (prodAt ps (idxV (nmsOf ps) x.name)).epoch ≠ 2147483647 := by
        intro e
        dsimp only at hd2
        rw [e] at hd2
        revert hd2
        split <;> decide
      have hne' : (ps.getD (idxV (nmsOf ps) x.name).toNat prod0).epoch ≠ 2147483647 := hne
      have he1 := hgp.e1
      have hlt2 : (ps.getD (idxV (nmsOf ps) x.name).toNat prod0).epoch < 2147483647 := by omega
      exact begin_old h hg.nd x hm (idxV (nmsOf ps) x.name).toNat (by rw [hix]; rfl) hlt _ rfl hgp.e0 hlt2
    · rw [if_neg hm] at hd2 ⊢
      have hl : ps.length < 1000 := by
        dsimp only at hd2
        split at hd2
        · cases hd2
        · omega
      exact begin_new h hg.nd x hm hl
  rw [if_neg h1] at hd1 hd2 ⊢
  rw [if_neg hk5] at hd1 hd2
  by_cases hlen : (ps.length : Int) ≤ x.producer
  · rw [if_pos hlen] at hd2; exact absurd hd2 (by decide)
  rw [if_neg hlen] at hd1 hd2
  have hlt : x.producer.toNat < ps.length := by omega
  have hgp := hg.at_ hlt
  have hpa : prodAt ps x.producer = ps.getD x.producer.toNat prod0 := rfl
  have hxj : x.producer = (x.producer.toNat : Int) := by omega
  rw [hpa] at hd1 hd2 ⊢
  unfold doneF at hd1 hd2
  by_cases h2 : x.kind = 2
  · rw [if_pos h2]
    refine ⟨31, by rw [h2]; exact .tail _ (.head _), .inr (.inl rfl), ?_⟩
    by_cases he : (ps.getD x.producer.toNat prod0).epoch ≠ x.epoch
    · rw [if_pos he] at hd2; exact absurd hd2 (by decide)
    rw [if_neg he, if_neg (by omega), if_pos h2] at hd1 hd2
    by_cases hen : endsP (ps.getD x.producer.toNat prod0) = true
    · rw [if_pos hen] at hd2; exact absurd hd2 (by decide)
    rw [if_neg hen] at hd1 hd2
    by_cases hmm : x.place ∈ (ps.getD x.producer.toNat prod0).places
    · rw [if_pos hmm] at hd1; cases hd1
    rw [if_neg hmm] at hd1 hd2
    by_cases hll : 100 ≤ (ps.getD x.producer.toNat prod0).places.length
    · rw [if_pos hll] at hd2; exact absurd hd2 (by decide)
    exact add_c h x x.producer.toNat hlt hxj _ rfl (by omega) hgp.srt
  rw [if_neg h2]
  by_cases h3 : x.kind = 3
  · rw [if_pos h3]
    exact ⟨32, by rw [h3]; exact .tail _ (.tail _ (.head _)), .inr (.inr (.inl rfl)), endB_c h x x.producer.toNat hlt hxj _ rfl⟩
  rw [if_neg h3]
  by_cases h4 : x.kind = 4
  · rw [if_pos h4]
    refine ⟨33, by rw [h4]; exact .tail _ (.tail _ (.tail _ (.head _))), .inr (.inr (.inr rfl)), mark_c h x x.producer.toNat hlt hxj _ rfl ?_ hgp.len⟩
    rw [if_pos h4] at hd1
    have : (!endsP (ps.getD x.producer.toNat prod0) || !decide (x.place ∈ (ps.getD x.producer.toNat prod0).places)) = false := by
      by_cases he : (ps.getD x.producer.toNat prod0).epoch ≠ x.epoch
      · rw [if_pos he] at hd2; exact absurd hd2 (by decide)
      · rw [if_neg he] at hd1; exact hd1
    simp only [Bool.or_eq_false_iff, Bool.not_eq_false', decide_eq_true_eq] at this
    exact this.2
  · exfalso
    unfold rightE at hr
    rw [if_neg h1, if_neg h2, if_neg h3, if_neg h4, if_neg hk5] at hr
    simp at hr
theorem DoP.behind {w0 : World} {ps' : List ProdV} (h : DoP own gb ps' w w') (hb : Below w0.heap.size w0 w) : DoP own gb ps' w0 w' := by
  obtain ⟨own', gs', h1, h2, h3⟩ := h
  exact ⟨own', gs', h1, (Fr.below own hb).trans h2 (fun _ _ => rfl), fun k hk => h3 k (Nat.lt_of_lt_of_le hk hb.size)⟩
set_option maxHeartbeats 6400000 in
set_option maxRecDepth 100000 in
theorem apply5_c (h : BI own gb gs ps w) (hg : Good ps) (x : EvV) (hk5 : x.kind ≠ 5) : Calls Try.prog 15 #[.pointer (some ⟨gb, 0, none⟩), evE x] w fun e w' => e = .returned (.int .i64 (decideF ps x).2) ∧ DoP own gb (applyF ps x) w w' := by
  have hmm := @run_makeMap Try.prog
  have hmf : ∀ (fn : Fn) (first cap : Array Value) (w : World), (Instr.makeFunc fn first cap).run Try.prog w = .ok (.func fn first cap) w := fun _ _ _ _ => rfl
  unfold evE
  have hAP := Aside0.mk (show applyF ps x = if (decideF ps x).2 ≠ 0 ∨ (decideF ps x).1 = true then ps else doesF ps x from rfl)
  have HX := Aside0.mk (heap_alloc_new w (.cells #[.int .i64 x.kind, .string x.name, .int .i64 x.producer, .int .i64 x.epoch, .int .i64 x.place, .int .i64 x.timeout, .int .i64 x.now, .bool x.yes] 33 (0, 0)))
  have hb1 := below_alloc (Below.refl w.heap.size w) (.cells #[.int .i64 x.kind, .string x.name, .int .i64 x.producer, .int .i64 x.epoch, .int .i64 x.place, .int .i64 x.timeout, .int .i64 x.now, .bool x.yes] 33 (0, 0))
  have HI := Aside0.mk (h.below hb1)
  have HB := Aside0.mk hb1
  have HG := Aside0.mk hg
  clear hb1 h hg
  obtain ⟨⟨d1, d2⟩, hd⟩ : ∃ d, decideF ps x = d := ⟨_, rfl⟩
  have HD := Aside0.mk hd
  rw [hd] at hAP ⊢
  dsimp only at hAP ⊢
  by_cases hd2 : d2 = 0
  rotate_left
  · have hne : (d2 != 0) = true := bne_iff_ne.2 hd2
    have HA := Aside0.mk (hAP.out.trans (if_pos (.inl hd2)))
    rw [HA.out]
    clear hAP HA hd
    go_enter Try.func15, Try.ntmps15
    go_wp2_with (first | (go_at_call 20; refine (decide5_c HI.out HG.out x hk5).mono ?_; rintro e w2 ⟨rfl, hb2⟩; rw [HD.out]; have HB2 := Aside0.mk hb2; clear hb2) | fail)
    have HI3 := Aside0.mk (HI.out.below HB2.out)
    have HB3 := Aside0.mk (below_step HB.out HB2.out)
    refine bodyPost_ret (v := .int .i64 d2) (by simp [results, Try.results15, go_sem]) rfl ⟨rfl, own, gs, HI3.out, Fr.below own HB3.out, fun _ _ => rfl⟩
  subst hd2
  cases d1
  rotate_left
  · have HA := Aside0.mk (hAP.out.trans (if_pos (.inr rfl)))
    rw [HA.out]
    clear hAP HA hd
    go_enter Try.func15, Try.ntmps15
    go_wp2_with (first | (go_at_call 20; refine (decide5_c HI.out HG.out x hk5).mono ?_; rintro e w2 ⟨rfl, hb2⟩; rw [HD.out]; have HB2 := Aside0.mk hb2; clear hb2) | fail)
    have HI3 := Aside0.mk (HI.out.below HB2.out)
    have HB3 := Aside0.mk (below_step HB.out HB2.out)
    refine bodyPost_ret (v := .int .i64 0) (by simp [results, Try.results15, go_sem]) rfl ⟨rfl, own, gs, HI3.out, Fr.below own HB3.out, fun _ _ => rfl⟩
  have HA := Aside0.mk (hAP.out.trans (if_neg (by simp)))
  rw [HA.out]
  clear hAP HA hd
  go_enter Try.func15, Try.ntmps15
  go_wp2_with (first | (go_at_call 20; refine (decide5_c HI.out HG.out x hk5).mono ?_; rintro e w2 ⟨rfl, hb2⟩; rw [HD.out]; have HB2 := Aside0.mk hb2; clear hb2) | fail)
  obtain ⟨W1, W2, W3, W4, W5, e1, e2, e3, e4, e5, m5, b5⟩ := fns_made gb w2
  have HB5 := Aside0.mk (below_step HB2.out b5)
  have HM5 := Aside0.mk m5
  clear m5 b5
  have HI5 := Aside0.mk (HI.out.below HB5.out)
  have HX5 := Aside0.mk (blk_below HX.out HB5.out)
  have y0 := (blk_cell HX5.out 0).trans rfl
  have y1 := (blk_cell HX5.out 1).trans rfl
  have y2 := (blk_cell HX5.out 2).trans rfl
  have y3 := (blk_cell HX5.out 3).trans rfl
  have y4 := (blk_cell HX5.out 4).trans rfl
  have y5 := (blk_cell HX5.out 5).trans rfl
  have y6 := (blk_cell HX5.out 6).trans rfl
  have y7 := (blk_cell HX5.out 7).trans rfl
  obtain ⟨f, hmem, hf, hcal⟩ := does_c HI5.out HG.out x hk5 HD.out
  have hlk := HM5.out.look x.kind _ hmem (by
    intro p hp hpx
    simp only [fnsA, List.mem_cons, List.not_mem_nil, or_false] at hp hmem
    rcases hp with rfl | rfl | rfl | rfl | rfl <;> rcases hmem with hm | hm | hm | hm | hm <;> simp_all)
  have HC := Aside0.mk hcal
  clear hmem hcal
  have HDF := Aside0.mk (fun (W' : World) (hd : DoP own gb (doesF ps x) W5 W') => hd.behind (below_step HB.out HB5.out))
  rcases hf with rfl | rfl | rfl | rfl
  · go_wp2_with (first | simp only [e1] | simp only [e2] | simp only [e3] | simp only [e4] | simp only [e5] | simp only [hlk])
    refine HC.out.mono ?_
    rintro e w6 ⟨rfl, hdo⟩
    have HDO := Aside0.mk (HDF.out w6 hdo)
    clear hdo
    go_wp2_with fail
    exact bodyPost_ret (v := .int .i64 0) (by simp [results, Try.results15, go_sem]) rfl ⟨rfl, HDO.out⟩
  · go_wp2_with (first | simp only [e1] | simp only [e2] | simp only [e3] | simp only [e4] | simp only [e5] | simp only [hlk])
    refine HC.out.mono ?_
    rintro e w6 ⟨rfl, hdo⟩
    have HDO := Aside0.mk (HDF.out w6 hdo)
    clear hdo
    go_wp2_with fail
    exact bodyPost_ret (v := .int .i64 0) (by simp [results, Try.results15, go_sem]) rfl ⟨rfl, HDO.out⟩
  · go_wp2_with (first | simp only [e1] | simp only [e2] | simp only [e3] | simp only [e4] | simp only [e5] | simp only [hlk])
    refine HC.out.mono ?_
    rintro e w6 ⟨rfl, hdo⟩
    have HDO := Aside0.mk (HDF.out w6 hdo)
    clear hdo
    go_wp2_with fail
    exact bodyPost_ret (v := .int .i64 0) (by simp [results, Try.results15, go_sem]) rfl ⟨rfl, HDO.out⟩
  · go_wp2_with (first | simp only [e1] | simp only [e2] | simp only [e3] | simp only [e4] | simp only [e5] | simp only [hlk])
    refine HC.out.mono ?_
    rintro e w6 ⟨rfl, hdo⟩
    have HDO := Aside0.mk (HDF.out w6 hdo)
    clear hdo
    go_wp2_with fail
    exact bodyPost_ret (v := .int .i64 0) (by simp [results, Try.results15, go_sem]) rfl ⟨rfl, HDO.out⟩
end Go.Proofs.Ytofegigbhohebaa.Hand
