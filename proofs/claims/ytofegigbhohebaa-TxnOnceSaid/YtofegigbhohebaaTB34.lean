/- TxnOnce. -/
import Derived.Test.YtofegigbhohebaaTB32
import Derived.Test.YtofegigbhohebaaTB33
namespace Go.Proofs.Ytofegigbhohebaa.Hand
open Go.RowKit Go.Proofs.Ytofegigbhohebaa Go.Proofs.YtofegigbhohebaaW.PrintWords Go.Proofs.YtofegigbhohebaaW.PrintLast
set_option linter.unusedVariables false
set_option linter.unusedSimpArgs false
theorem stA_at (ps : List ProdV) (k : Nat) (hk : k < 6) : (stA ps 6)[k * 3]? = some (.int .i64 (statusF ps k).1) ∧ (stA ps 6)[k * 3 + 1]? = some (.int .i64 (statusF ps k).2.1) ∧ (stA ps 6)[k * 3 + 2]? = some (.bool (statusF ps k).2.2) := by
  rcases (show k = 0 ∨ k = 1 ∨ k = 2 ∨ k = 3 ∨ k = 4 ∨ k = 5 by omega) with rfl | rfl | rfl | rfl | rfl | rfl <;> exact ⟨rfl, rfl, rfl⟩
theorem info27 : (Try.prog.info? 27).map (·.size) = some 3 := by kernel_rfl
/-- A stored row is where it was put, nothing below has changed. -/
theorem stored_row {w : World} {t : TypeId} (cs cs' : Array Value) : Below w.heap.size w ((w.alloc (.cells cs t (0, 0))).setRow w.heap.size cs') ∧ ((w.alloc (.cells cs t (0, 0))).setRow w.heap.size cs').heap[w.heap.size]? = some (.cells cs' t (0, 0)) :=
  ⟨bel_setRow (below_alloc (Below.refl w.heap.size w) _) (Nat.le_refl _) cs', setRow_heap _ _ _ _ _ _ (heap_alloc_new w _)⟩
theorem KI.setRow {own : Nat → Nat} {gb : Nat} {gs : List Nat} {ps : List ProdV} {w0 w : World} (h : KI own gb gs ps w0 w) {B : Nat} (hz : own B = 0) (hB : w0.heap.size ≤ B) (cs : Array Value) : KI own gb gs ps w0 (w.setRow B cs) :=
  ⟨h.bi.step (by rw [size_setRow]; exact Nat.le_refl _) (fun k hk => setRow_other w B k cs (fun e => hk (by rw [e]; exact hz))), h.good, bel_setRow h.below hB cs, h.zero⟩
set_option maxHeartbeats 6400000 in
set_option maxRecDepth 100000 in
theorem once_c (A : Option Addr) (c : Nat) (l : List EvV) (w : World) (hr : EvRow w A l) : Calls Try.prog 3 #[.slice A l.length c] w fun e w' => e = .returned (.bool true) ∧ Below w.heap.size w w' := by
  have HR := Aside0.mk hr
  have hlm := hr.1
  clear hr
  go_enter Try.func3, Try.ntmps3
  go_wp2_with (first
    | (go_at_call 12; refine (new_c _).mono ?_; rintro e w1 ⟨own, gb, rfl, hbi, hb, hz⟩; have K1 := Aside0.mk (KI.mk hbi good_nil hb hz); clear hbi hb hz)
    | (go_at_call 13; refine (knows_c _).mono ?_; rintro e w2 ⟨rfl, hb⟩; have K2 := Aside0.mk (K1.out.move hb); clear hb K1)
    | (go_at_call 14; refine (states_c K2.out.bi).mono ?_; rintro e w4 ⟨rfl, hb⟩; have K4 := Aside0.mk (K2.out.move hb); clear hb K2)
    | (refine gate_ (.store 28 (.tmp 4) (.tmp 18)) rfl ?_; refine wpList_store_row rfl 28 (.tmp 4) (.tmp 18) rfl w4.heap.size (stA [] 6) rfl rfl 28 (stA [] 0) (heap_alloc_new w4 (.cells (stA [] 0) 28 (0, 0))) info28 rfl (stA_one [] 6) ?_))
  obtain ⟨hsb, hsr⟩ := stored_row (w := w4) (t := 28) (stA [] 0) (stA [] 6)
  have K5 := Aside0.mk (K4.out.move hsb)
  have HZ := Aside0.mk (show own w4.heap.size = 0 from Classical.byContradiction fun e => Nat.lt_irrefl _ (K4.out.bi.lt _ e))
  have HS5 := Aside0.mk hsr
  have HB4 := Aside0.mk (K4.out.below.size)
  clear hsb hsr K4
  generalize hB4 : w4.heap.size = B4 at HS5 HB4 HZ ⊢
  go_loopw [5] (fun i wr => ∃ (k : Nat) (own : Nat → Nat) (gs : List Nat), k ≤ l.length ∧ i = .int .i64 (k : Int) ∧ KI own gb gs (appsF [] (l.take k)) w wr ∧ own B4 = 0 ∧ wr.heap[B4]? = some (.cells (stA (appsF [] (l.take k)) 6) 28 (0, 0))) (fun i _ => l.length - (intOf i).toNat)
  case atStart => exact ⟨0, own, [], Nat.zero_le _, rfl, by rw [← hB4]; exact K5.out, HZ.out, HS5.out⟩
  case round =>
    obtain ⟨k, own6, gs6, hk, rfl, hK, hz, hs⟩ := hrel
    have K6 := Aside0.mk hK
    have HZ6 := Aside0.mk hz
    have HS6 := Aside0.mk hs
    clear hK hz hs K5 HZ HS5
    by_cases hkl : k < l.length
    · have hkc : (k : Int) < (l.length : Int) := by omega
      obtain ⟨ad, x, hA, hx, e0, e1, e2, e3, e4, e5, e6, e7⟩ := ev_cells (HR.out.below K6.out.below) k hkl
      subst hA
      have HXK := Aside0.mk (appsF_snoc [] l k x hx)
      obtain ⟨ps, hps⟩ : ∃ ps, appsF [] (l.take k) = ps := ⟨_, rfl⟩
      rw [hps] at K6 HS6 HXK
      have HON := Aside0.mk (fun j => once_at K6.out.good x j)
      have HO2 := Aside0.mk (fun W => own_c x W)
      have HAP := Aside0.mk (fun {own} {gs} {V : World} (h : KI own gb gs ps w V) => h.appl x)
      obtain ⟨qs, hqs⟩ : ∃ qs, applyF ps x = qs := ⟨_, rfl⟩
      rw [hqs] at HON HAP HXK
      clear hqs hps
      obtain ⟨kind', name', producer', epoch', place', timeout', now', yes'⟩ := x
      unfold evE at HO2 HAP
      dsimp only at e0 e1 e2 e3 e4 e5 e6 e7
      go_wp2_with (first
        | (go_at_call 16; refine (HO2.out _).mono ?_; rintro e w7 ⟨rfl, hb⟩; have K7 := Aside0.mk (K6.out.move hb); have HS7 := Aside0.mk (blk_below HS6.out hb); clear hb K6 HS6)
        | (go_at_call 15; refine (HAP.out K7.out).mono ?_; rintro e w8 ⟨rfl, own8, gs8, hk8, hkp⟩; have K8 := Aside0.mk hk8; have HZ8 := Aside0.mk (hkp _ _ ⟨HZ6.out, HS7.out⟩).1; have HS8 := Aside0.mk (hkp _ _ ⟨HZ6.out, HS7.out⟩).2; clear hk8 hkp K7 HS7 HZ6)
        | (go_at_call 14; refine (states_c K8.out.bi).mono ?_; rintro e w9 ⟨rfl, hb⟩; have K9 := Aside0.mk (K8.out.move hb); have HS9 := Aside0.mk (blk_below HS8.out hb); clear hb K8 HS8)
        | (refine gate_ (.store 28 (.tmp 6) (.tmp 33)) rfl ?_; refine wpList_store_row rfl 28 (.tmp 6) (.tmp 33) rfl w9.heap.size (stA qs 6) rfl rfl 28 (stA qs 0) (heap_alloc_new w9 (.cells (stA qs 0) 28 (0, 0))) info28 rfl (stA_one qs 6) ?_))
      obtain ⟨hsb, hsr⟩ := stored_row (w := w9) (t := 28) (stA qs 0) (stA qs 6)
      have K10 := Aside0.mk (K9.out.move hsb)
      have HS10 := Aside0.mk (blk_below HS9.out hsb)
      have HQ10 := Aside0.mk hsr
      clear hsb hsr K9 HS9 e0 e1 e2 e3 e4 e5 e6 e7
      generalize hB6 : w9.heap.size = B6 at HQ10 ⊢
      go_loopw [7] (fun i wq => ∃ m : Nat, m ≤ 6 ∧ i = .int .i64 (m : Int) ∧ KI own8 gb gs8 qs w wq ∧ wq.heap[B4]? = some (.cells (stA ps 6) 28 (0, 0)) ∧ wq.heap[B6]? = some (.cells (stA qs 6) 28 (0, 0))) (fun i _ => 6 - (intOf i).toNat)
      case atStart => exact ⟨0, by decide, rfl, by rw [← hB6]; exact K10.out, by rw [← hB6]; exact HS10.out, HQ10.out⟩
      case round =>
        obtain ⟨m, hm, rfl, hK, hs4, hs6⟩ := hrel
        have KQ := Aside0.mk hK
        have H4 := Aside0.mk hs4
        have H6 := Aside0.mk hs6
        clear hK hs4 hs6 K10 HS10 HQ10
        by_cases hm6 : m < 6
        · have hmc : (m : Int) < 6 := by omega
          obtain ⟨a0, a1, a2⟩ := stA_at ps m hm6
          obtain ⟨b0, b1, b2⟩ := stA_at qs m hm6
          have hon := HON.out m
          have x0 := (blk_cell H4.out (m * 3)).trans a0
          have x1 := (blk_cell H4.out (m * 3 + 1)).trans a1
          have x2 := (blk_cell H4.out (m * 3 + 2)).trans a2
          clear a0 a1 a2
          generalize statusF ps m = S at hon x0 x1 x2
          obtain ⟨s, ep, ok⟩ := S
          generalize statusF qs m = S at hon b0 b1 b2
          obtain ⟨s', ep', ok'⟩ := S
          dsimp only at hon x0 x1 x2 b0 b1 b2
          obtain ⟨hep, hok, ⟨hs0, hs3⟩, h2, h3, h0⟩ := hon
          have hw1 := below_alloc (Below.refl wr.heap.size wr) (.cells #[.int .i64 s, .int .i64 ep, .bool ok] 27 (0, 0))
          have G6 := blk_below H6.out hw1
          have GX := heap_alloc_new wr (.cells #[.int .i64 s, .int .i64 ep, .bool ok] 27 (0, 0))
          have G4 := blk_below H4.out hw1
          have KX := KQ.out.move hw1
          obtain ⟨W1, hW1⟩ : ∃ W1, W1 = wr.alloc (.cells #[.int .i64 s, .int .i64 ep, .bool ok] 27 (0, 0)) := ⟨_, rfl⟩
          rw [← hW1] at G6 GX G4 KX
          have y0 := (blk_cell G6 (m * 3)).trans b0
          have y1 := (blk_cell G6 (m * 3 + 1)).trans b1
          have y2 := (blk_cell G6 (m * 3 + 2)).trans b2
          have hw2 := below_alloc (Below.refl W1.heap.size W1) (.cells #[.int .i64 s', .int .i64 ep', .bool ok'] 27 (0, 0))
          have HX2 := Aside0.mk (blk_below GX hw2)
          have HY2 := Aside0.mk (heap_alloc_new W1 (.cells #[.int .i64 s', .int .i64 ep', .bool ok'] 27 (0, 0)))
          have H42 := Aside0.mk (blk_below G4 hw2)
          have H62 := Aside0.mk (blk_below G6 hw2)
          have K2 := Aside0.mk (KX.move hw2)
          rw [hW1] at y0 y1 y2
          clear hw1 hw2 G6 GX G4 KX b0 b1 b2
          have HF := Aside0.mk (And.intro hep (And.intro hok (And.intro hs0 (And.intro hs3 (And.intro h2 (And.intro h3 h0))))))
          clear hep hok hs0 hs3 h2 h3 h0
          go_upto_region 15 with fail
          subst hW1
          have hz1 : (wr.alloc (.cells #[.int .i64 s, .int .i64 ep, .bool ok] 27 (0, 0))).heap.size = wr.heap.size + 1 := Array.size_push _
          rw [hz1] at HY2
          clear hz1 x0 x1 x2 y0 y1 y2
          generalize ((wr.alloc (.cells #[.int .i64 s, .int .i64 ep, .bool ok] 27 (0, 0))).alloc (.cells #[.int .i64 s', .int .i64 ep', .bool ok'] 27 (0, 0))) = W2 at HX2 HY2 H42 H62 K2 ⊢
          have x0 := (blk_cell HX2.out 0).trans rfl
          have x1 := (blk_cell HX2.out 1).trans rfl
          have x2 := (blk_cell HX2.out 2).trans rfl
          have y0 := (blk_cell HY2.out 0).trans rfl
          have y1 := (blk_cell HY2.out 1).trans rfl
          have y2 := (blk_cell HY2.out 2).trans rfl
          have hep : (ep' < ep) = False := eq_false (by have := HF.out.1; omega)
          have hs' : s' = 0 ∨ s' = 1 ∨ s' = 2 ∨ s' = 3 := by have := HF.out.2.2.1; have := HF.out.2.2.2.1; omega
          have hcs : (s = 0 ∧ (s' = 0 ∨ s' = 1)) ∨ (s = 2 ∧ (s' = 2 ∨ s' = 0)) ∨ (s = 3 ∧ (s' = 3 ∨ s' = 0)) ∨ (s ≠ 0 ∧ s ≠ 2 ∧ s ≠ 3) := by
            have := HF.out.2.2.2.2.1; have := HF.out.2.2.2.2.2.1; have := HF.out.2.2.2.2.2.2; omega
          have hok : (ok = false) ∨ (ok = true ∧ ok' = true) := by
            have := HF.out.2.1
            cases ok
            · exact .inl rfl
            · exact .inr ⟨rfl, this rfl⟩
          have hepc : ¬ ep' < ep := by have := HF.out.1; omega
          clear hep HF
          have HGO := Aside0.mk (show (∃ m' : Nat, m' ≤ 6 ∧ Value.int .i64 ((m : Int) + 1) = .int .i64 (m' : Int) ∧ KI own8 gb gs8 qs w W2 ∧ W2.heap[B4]? = some (.cells (stA ps 6) 28 (0, 0)) ∧ W2.heap[B6]? = some (.cells (stA qs 6) 28 (0, 0))) ∧ 6 - (intOf (.int .i64 ((m : Int) + 1))).toNat < 6 - (intOf (.int .i64 (m : Int))).toNat from ⟨⟨m + 1, by omega, rfl, K2.out, H42.out, H62.out⟩, by simp only [intOf]; omega⟩)
          rcases hok with rfl | ⟨rfl, rfl⟩
          all_goals
            rcases hcs with ⟨rfl, rfl | rfl⟩ | ⟨rfl, rfl | rfl⟩ | ⟨rfl, rfl | rfl⟩ | ⟨hn0, hn2, hn3⟩
            all_goals first
              | (go_wp2_with fail; exact HGO.out)
              | (have hn0' : (s == 0) = false := beq_eq_false_iff_ne.2 hn0
                 have hn2' : (s == 2) = false := beq_eq_false_iff_ne.2 hn2
                 have hn3' : (s == 3) = false := beq_eq_false_iff_ne.2 hn3
                 rcases hs' with rfl | rfl | rfl | rfl
                 all_goals (go_wp2_with fail; exact HGO.out))
        · obtain rfl : m = 6 := by omega
          go_wp2_with (first
            | (refine gate_ (.load 28 (.tmp 6)) rfl ?_; refine wpList_load_row rfl 28 (.tmp 6) rfl B6 rfl 28 (stA qs 6) (0, 0) _ H6.out Try.underlying28 rfl info28 ?_)
            | (refine gate_ (.store 28 (.tmp 4) (.tmp 104)) rfl ?_; refine wpList_store_row rfl 28 (.tmp 4) (.tmp 104) rfl B4 (stA qs 6) rfl rfl 28 (stA ps 6) H4.out info28 rfl (stA_one qs 6) ?_))
          exact ⟨⟨k + 1, own8, gs8, by omega, rfl, by rw [HXK.out]; exact KQ.out.setRow HZ8.out HB4.out _, HZ8.out, by rw [HXK.out]; exact setRow_heap wr B4 (stA ps 6) (stA qs 6) 28 (0, 0) H4.out⟩, by simp only [intOf]; omega⟩
    · have hkc : ¬ (k : Int) < (l.length : Int) := by omega
      go_wp2_with fail
      exact bodyPost_ret (v := .bool true) (by simp [results, Try.results3, go_sem]) rfl ⟨rfl, K6.out.below⟩
end Go.Proofs.Ytofegigbhohebaa.Hand
