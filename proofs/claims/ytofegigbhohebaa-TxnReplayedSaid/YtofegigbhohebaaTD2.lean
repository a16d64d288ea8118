/- TxnReplayed. -/
import Derived.Test.YtofegigbhohebaaTD1
namespace Go.Proofs.Ytofegigbhohebaa.Hand
open Go.RowKit Go.Proofs.Ytofegigbhohebaa Go.Proofs.YtofegigbhohebaaW.PrintWords Go.Proofs.YtofegigbhohebaaW.PrintLast
set_option linter.unusedVariables false
set_option linter.unusedSimpArgs false
theorem drewN_below (w : World) (n : Nat) : Below w.heap.size w (w.drewN n) := by
  exact drawn_below (Below.refl _ _) (by repeat (first | exact Drawn0.refl _ | apply Drawn0.step))
set_option maxHeartbeats 6400000 in
set_option maxRecDepth 100000 in
theorem replayed_c (A : Option Addr) (c : Nat) (l : List EvV) (w : World) (hr : EvRow w A l) : Calls Try.prog 10 #[.slice A l.length c] w fun e w' => e = .returned (.bool true) ∧ Below w.heap.size w w' := by
  have HR := Aside0.mk hr
  have hlm := hr.1
  clear hr
  go_enter Try.func10, Try.ntmps10
  go_upto_region 2 with (go_at_call 12; refine (new_c _).mono ?_; rintro e w1 ⟨own, gb, rfl, hbi, hb, hz⟩; have K1 := Aside0.mk (KI.mk hbi good_nil hb hz); clear hbi hb hz)
  go_wp2_with (first
    | (go_at_call 12; refine (new_c _).mono ?_; rintro e w2 ⟨own2, gb2, rfl, hbi, hb, hz⟩; have K2 := Aside0.mk (K2.made K1.out hbi hb hz); clear hbi hb hz K1)
    | (go_at_call 13; refine (knows_c _).mono ?_; rintro e w3 ⟨rfl, hb⟩; have K3 := Aside0.mk (K2.out.move hb); clear hb K2))
  go_loopw [5] (fun i wr => ∃ (k : Nat) (oa ob : Nat → Nat) (gsa gsb : List Nat), k ≤ l.length ∧ i = .int .i64 (k : Int) ∧ K2 oa ob gb gb2 gsa gsb (appsF [] (l.take k)) (appsF [] (l.take k)) w wr) (fun i _ => l.length - (intOf i).toNat)
  case atStart => exact ⟨0, own, own2, [], [], Nat.zero_le _, rfl, K3.out⟩
  case round =>
    obtain ⟨k, oa, ob, gsa, gsb, hk, rfl, hK⟩ := hrel
    have K6 := Aside0.mk hK
    clear hK K3
    by_cases hkl : k < l.length
    · have hkc : (k : Int) < (l.length : Int) := by omega
      obtain ⟨ad, x, hA, hx, e0, e1, e2, e3, e4, e5, e6, e7⟩ := ev_cells (HR.out.below K6.out.a.below) k hkl
      subst hA
      have HEV := Aside0.mk (fun (V : World) (h : Below w.heap.size w V) => ev_at (HR.out.below h) k x hx)
      have HXK := Aside0.mk (appsF_snoc [] l k x hx)
      obtain ⟨ps, hps⟩ : ∃ ps, appsF [] (l.take k) = ps := ⟨_, rfl⟩
      rw [hps] at K6 HXK
      have HO2 := Aside0.mk (fun W => own_c x W)
      have HDC := Aside0.mk (fun {oa ob gsa gsb} {V : World} (h : K2 oa ob gb gb2 gsa gsb ps ps w V) => decide_c h.a.bi h.a.good x)
      have HAP := Aside0.mk (fun {oa ob gsa gsb} {V : World} (h : K2 oa ob gb gb2 gsa gsb ps ps w V) => h.appl x)
      have HBP := Aside0.mk (fun {oa ob gsa gsb qs} {V : World} (h : K2 oa ob gb gb2 gsa gsb qs ps w V) => h.applB x)
      have HPU := Aside0.mk (fun (V : World) => putEvent_c x V)
      have HRI := Aside0.mk (@decide_right ps x)
      have HSK := Aside0.mk (@apply_skip ps x)
      have HGE := Aside0.mk (fun (h : rightE x = true) => And.intro (And.intro (get_put h) (show putEF x = (encE x, 0) by unfold putEF; rw [if_pos h])) (enc_isB h))
      obtain ⟨qs, hqs⟩ : ∃ qs, applyF ps x = qs := ⟨_, rfl⟩
      obtain ⟨⟨d, n⟩, hd⟩ : ∃ q, decideF ps x = q := ⟨_, rfl⟩
      rw [hqs] at HAP HBP HXK
      rw [hd] at HAP HBP HDC HRI
      have HSK2 := Aside0.mk (fun h => hqs.symm.trans (HSK.out hd h))
      clear hqs hps hd HSK
      obtain ⟨kind', name', producer', epoch', place', timeout', now', yes'⟩ := x
      unfold evE at HO2 HDC HAP HBP HPU
      dsimp only at e0 e1 e2 e3 e4 e5 e6 e7 HDC HAP HBP HRI
      have HEV : Aside0 (∀ V, Below w.heap.size w V → _) := HEV
      dsimp only at HEV
      by_cases hs : n ≠ 0 ∨ d = true
      · have hqp := Aside0.mk (HSK2.out hs)
        go_upto_region 12 with (first
          | (go_at_call 16; refine (HO2.out _).mono ?_; rintro e w7 ⟨rfl, hb⟩; have K7 := Aside0.mk (K6.out.move hb); clear hb K6)
          | (go_at_call 20; refine (HDC.out K7.out).mono ?_; rintro e w8 ⟨rfl, hb⟩; have K8 := Aside0.mk (K7.out.move hb); clear hb K7; obtain ⟨e0, e1, e2, e3, e4, e5, e6, e7⟩ := HEV.out _ K8.out.a.below)
          | (go_at_call 16; refine (HO2.out _).mono ?_; rintro e w9 ⟨rfl, hb⟩; have K9 := Aside0.mk (K8.out.move hb); clear hb K8)
          | (go_at_call 15; refine (HAP.out K9.out).mono ?_; rintro e w10 ⟨rfl, oa', gsa', hk10⟩; have K10 := Aside0.mk hk10; clear hk10 K9))
        have hqs := hqp.out
        subst hqs
        have HGO := Aside0.mk (show (∃ (k' : Nat) (oa ob : Nat → Nat) (gsa gsb : List Nat), k' ≤ l.length ∧ Value.int .i64 ((k : Int) + 1) = .int .i64 (k' : Int) ∧ K2 oa ob gb gb2 gsa gsb (appsF [] (l.take k')) (appsF [] (l.take k')) w w10) ∧ l.length - (intOf (.int .i64 ((k : Int) + 1))).toNat < l.length - (intOf (.int .i64 (k : Int))).toNat from ⟨⟨k + 1, _, _, _, _, by omega, rfl, by rw [HXK.out]; exact K10.out⟩, by simp only [intOf]; omega⟩)
        by_cases hn : n = 0
        · obtain rfl : d = true := by rcases hs with h | h; exact absurd hn h; exact h
          subst hn
          go_wp2_with (go_at_call 19; refine (num_c _ _).mono ?_; rintro e w' ⟨rfl, rfl⟩)
          exact HGO.out
        · have hn' : (n != 0) = true := bne_iff_ne.2 hn
          go_wp2_with (go_at_call 19; refine (num_c _ _).mono ?_; rintro e w' ⟨rfl, rfl⟩)
          exact HGO.out
      · obtain ⟨rfl, rfl⟩ : n = 0 ∧ d = false := by
          refine ⟨Classical.byContradiction fun e => hs (.inl e), ?_⟩
          cases d
          · rfl
          · exact absurd (.inr rfl) hs
        obtain ⟨⟨hgp, hpp⟩, hib⟩ := HGE.out (HRI.out rfl)
        rw [hpp] at HPU
        generalize encE ⟨kind', name', producer', epoch', place', timeout', now', yes'⟩ = bs at hgp hib HPU
        have HGG := Aside0.mk (fun (A' : Option Addr) (c' : Nat) (V : World) (h : Kd.C (Kd.int .u8) V A' bs.length bs) (hc' : bs.length ≤ c') => getEvent_c A' c' bs V h hc' ((isB_iff _).1 hib))
        rw [hgp] at HGG
        unfold evE at HGG
        dsimp only at HGG
        clear hgp hpp hib
        go_upto_region 15 with (first
          | (go_at_call 16; refine (HO2.out _).mono ?_; rintro e w7 ⟨rfl, hb⟩; have K7 := Aside0.mk (K6.out.move hb); clear hb K6)
          | (go_at_call 20; refine (HDC.out K7.out).mono ?_; rintro e w8 ⟨rfl, hb⟩; have K8 := Aside0.mk (K7.out.move hb); clear hb K7; obtain ⟨e0, e1, e2, e3, e4, e5, e6, e7⟩ := HEV.out _ K8.out.a.below)
          | (go_at_call 16; refine (HO2.out _).mono ?_; rintro e w9 ⟨rfl, hb⟩; have K9 := Aside0.mk (K8.out.move hb); clear hb K8)
          | (go_at_call 15; refine (HAP.out K9.out).mono ?_; rintro e w10 ⟨rfl, oa', gsa', hk10⟩; have K10 := Aside0.mk hk10; clear hk10 K9; obtain ⟨e0, e1, e2, e3, e4, e5, e6, e7⟩ := HEV.out _ K10.out.a.below)
          | (go_at_call 19; refine (num_c _ _).mono ?_; rintro e w' ⟨rfl, rfl⟩)
          | (go_at_call 16; refine (HO2.out _).mono ?_; rintro e w11 ⟨rfl, hb⟩; have K11 := Aside0.mk (K10.out.move hb); clear hb K10)
          | (go_at_call 25; refine (HPU.out _).mono ?_; rintro e w12 ⟨v12, rfl, hR12, hb⟩; obtain ⟨A12, c12, rfl⟩ := Kd.R_slice hR12; have HP12 := Aside0.mk (Kd.R_reads' hR12).2.2; have HN12 := Aside0.mk (Kd.R_reads' hR12).2.1; have K12 := Aside0.mk (K11.out.move hb); clear hb K11 hR12)
          | (go_at_call 27; refine (HGG.out _ _ _ HP12.out HN12.out).mono ?_; rintro e w13 ⟨rfl, hb⟩; have K13 := Aside0.mk (K12.out.move hb); clear hb K12))
        have hal := below_alloc (Below.refl w13.heap.size w13) (.cells #[.int .i64 kind', .string name', .int .i64 producer', .int .i64 epoch', .int .i64 place', .int .i64 timeout', .int .i64 now', .bool yes'] 33 (0, 0))
        have K14 := Aside0.mk (K13.out.move hal)
        have HX14 := Aside0.mk (heap_alloc_new w13 (.cells #[.int .i64 kind', .string name', .int .i64 producer', .int .i64 epoch', .int .i64 place', .int .i64 timeout', .int .i64 now', .bool yes'] 33 (0, 0)))
        clear hal K13 HP12 HN12 e0 e1 e2 e3 e4 e5 e6 e7
        generalize hB : w13.heap.size = B at HX14 ⊢
        generalize (w13.alloc (.cells #[.int .i64 kind', .string name', .int .i64 producer', .int .i64 epoch', .int .i64 place', .int .i64 timeout', .int .i64 now', .bool yes'] 33 (0, 0))) = w14 at K14 HX14 ⊢
        have y0 := (blk_cell HX14.out 0).trans rfl
        have y1 := (blk_cell HX14.out 1).trans rfl
        have y2 := (blk_cell HX14.out 2).trans rfl
        have y3 := (blk_cell HX14.out 3).trans rfl
        have y4 := (blk_cell HX14.out 4).trans rfl
        have y5 := (blk_cell HX14.out 5).trans rfl
        have y6 := (blk_cell HX14.out 6).trans rfl
        have y7 := (blk_cell HX14.out 7).trans rfl
        have HNU := Aside0.mk (fun (W : World) => num_c 0 W)
        go_wp2_with (first
          | (go_at_call 19; refine (HNU.out _).mono ?_; rintro e w' ⟨rfl, hww⟩; subst hww)
          | (go_at_call 15; refine (HBP.out K14.out).mono ?_; rintro e w15 ⟨rfl, ob', gsb', hk15⟩; have K15 := Aside0.mk hk15; clear hk15 K14 HX14 y0 y1 y2 y3 y4 y5 y6 y7))
        exact ⟨⟨k + 1, _, _, _, _, by omega, rfl, by rw [HXK.out]; exact K15.out⟩, by simp only [intOf]; omega⟩
    · obtain rfl : k = l.length := by omega
      have hkc : ¬ (l.length : Int) < (l.length : Int) := by omega
      rw [List.take_length] at K6
      have HNE := fun (W : World) => neSt (appsF [] l) W
      generalize appsF [] l = ps at K6 HNE
      go_wp2_with (first
        | (go_at_call 17; refine (todo_c K6.out.a.bi K6.out.a.good).mono ?_; rintro e w7 ⟨v7, rfl, hrow, hb⟩; have K7 := Aside0.mk (K6.out.move hb); obtain ⟨A7, c7, rfl, hc7, hT7⟩ := td_open hrow; have HT7 := Aside0.mk hT7; clear hb hrow hT7 K6)
        | (go_at_call 17; refine (todo_c K7.out.b.bi K7.out.b.good).mono ?_; rintro e w8 ⟨v8, rfl, hrow, hb⟩; have K8 := Aside0.mk (K7.out.move hb); obtain ⟨A8, c8, rfl, hc8, hT8⟩ := td_open hrow; have HT8 := Aside0.mk (And.intro hT8 (HT7.out.below hb)); clear hb hrow hT8 K7 HT7)
        | (go_at_call 14; refine (states_c K8.out.a.bi).mono ?_; rintro e w9 ⟨rfl, hb⟩; have K9 := Aside0.mk (K8.out.move hb); have HT9 := Aside0.mk (And.intro (HT8.out.1.below hb) (HT8.out.2.below hb)); clear hb K8 HT8)
        | (go_at_call 14; refine (states_c K9.out.b.bi).mono ?_; rintro e w10 ⟨rfl, hb⟩; have K10 := Aside0.mk (K9.out.move hb); have HT10 := Aside0.mk (And.intro (HT9.out.1.below hb) (HT9.out.2.below hb)); clear hb K9 HT9))
      have HTL := Aside0.mk (todosF_len K10.out.a.good)
      clear HNE
      generalize todosF ps = ts at HT10 HTL hc7 hc8 ⊢
      go_loopw [15] (fun i wq => ∃ m : Nat, m ≤ ts.length ∧ i = .int .i64 (m : Int) ∧ Below w.heap.size w wq ∧ TdRow wq A8 ts ∧ TdRow wq A7 ts) (fun i _ => ts.length - (intOf i).toNat)
      case atStart => exact ⟨0, Nat.zero_le _, rfl, K10.out.a.below, HT10.out.1, HT10.out.2⟩
      case round =>
        obtain ⟨m, hm, rfl, hbq, hq8, hq7⟩ := hrel
        have HQ := Aside0.mk (And.intro hbq (And.intro hq8 hq7))
        clear hbq hq8 hq7 K10 HT10
        by_cases hml : m < ts.length
        · have hmc : (m : Int) < (ts.length : Int) := by omega
          have htl := HTL.out
          obtain ⟨t, ht⟩ : ∃ t, ts[m]? = some t := ⟨_, List.getElem?_eq_getElem hml⟩
          obtain ⟨ad7, hA7, x0, x1, x2, x3⟩ := HQ.out.2.2 m t ht
          obtain ⟨ad8, hA8, y0, y1, y2, y3⟩ := HQ.out.2.1 m t ht
          subst hA7 hA8
          clear ht
          obtain ⟨tp, te, tl, ty⟩ := t
          dsimp only at x0 x1 x2 x3 y0 y1 y2 y3
          go_upto_region 24 with fail
          go_quiet (fail)
          have hdq : Below wr.heap.size wr (wr.drewN nq) := drewN_below wr nq
          have HQ2 := Aside0.mk (And.intro (below_step HQ.out.1 hdq) (And.intro (HQ.out.2.1.below hdq) (HQ.out.2.2.below hdq)))
          clear hdq
          generalize wr.drewN nq = w20 at HQ2 ⊢
          go_wp2_with fail
          exact ⟨⟨m + 1, by omega, rfl, HQ2.out⟩, by simp only [intOf]; omega⟩
        · have hmc : ¬ (m : Int) < (ts.length : Int) := by omega
          go_wp2_with fail
          exact bodyPost_ret (v := .bool true) (by simp [results, Try.results10, go_sem]) rfl ⟨rfl, HQ.out.1⟩
end Go.Proofs.Ytofegigbhohebaa.Hand
