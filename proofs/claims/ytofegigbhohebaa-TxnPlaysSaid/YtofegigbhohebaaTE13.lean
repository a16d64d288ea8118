/- TxnPlays. -/
import Derived.Test.YtofegigbhohebaaTE12
import Derived.Test.YtofegigbhohebaaTBIns
namespace Go.Proofs.Ytofegigbhohebaa.Hand
open Go.RowKit Go.Proofs.Ytofegigbhohebaa Go.Proofs.YtofegigbhohebaaW.PrintWords Go.Proofs.YtofegigbhohebaaW.PrintLast
set_option linter.unusedVariables false
set_option linter.unusedSimpArgs false
set_option maxRecDepth 100000 in
theorem ev_cells {w : World} {A : Option Addr} {l : List EvV} (h : EvRow w A l) (k : Nat) (hk : k < l.length) : ∃ ad x, A = some ad ∧ l[k]? = some x ∧ w.cell? (ad.add (k * 8)) = some (.int .i64 x.kind) ∧ w.cell? ⟨(ad.add (k * 8)).block, (ad.add (k * 8)).off + 1, none⟩ = some (.string x.name) ∧ w.cell? ⟨(ad.add (k * 8)).block, (ad.add (k * 8)).off + 2, none⟩ = some (.int .i64 x.producer) ∧ w.cell? ⟨(ad.add (k * 8)).block, (ad.add (k * 8)).off + 3, none⟩ = some (.int .i64 x.epoch) ∧ w.cell? ⟨(ad.add (k * 8)).block, (ad.add (k * 8)).off + 4, none⟩ = some (.int .i64 x.place) ∧ w.cell? ⟨(ad.add (k * 8)).block, (ad.add (k * 8)).off + 5, none⟩ = some (.int .i64 x.timeout) ∧ w.cell? ⟨(ad.add (k * 8)).block, (ad.add (k * 8)).off + 6, none⟩ = some (.int .i64 x.now) ∧ w.cell? ⟨(ad.add (k * 8)).block, (ad.add (k * 8)).off + 7, none⟩ = some (.bool x.yes) := by
  obtain ⟨ad, hA, hc⟩ := h.2 k l[k] (List.getElem?_eq_getElem hk)
  have e : ∀ j, (⟨(ad.add (k * 8)).block, (ad.add (k * 8)).off + (j + 1), none⟩ : Addr) = ad.add (k * 8 + (j + 1)) := fun j => by
    unfold Addr.add
    split
    · rename_i h0
      rw [if_neg (by omega), h0, Nat.zero_add]
    · rw [if_neg (by omega)]
      simp only [Nat.add_assoc]
  refine ⟨ad, l[k], hA, List.getElem?_eq_getElem hk, hc 0 _ rfl, ?_, ?_, ?_, ?_, ?_, ?_, ?_⟩
  · rw [e 0]; exact hc 1 _ rfl
  · rw [e 1]; exact hc 2 _ rfl
  · rw [e 2]; exact hc 3 _ rfl
  · rw [e 3]; exact hc 4 _ rfl
  · rw [e 4]; exact hc 5 _ rfl
  · rw [e 5]; exact hc 6 _ rfl
  · rw [e 6]; exact hc 7 _ rfl
/-- Two pairs of books, apart from one another, of one's own. -/
structure P2 (o1 : Nat → Nat) (b1 : Nat) (g1 : List Nat) (q1 : Nat → Prop) (r1 : Nat) (s1 : List RP) (p1 : List ProdV) (o2 : Nat → Nat) (b2 : Nat) (g2 : List Nat) (q2 : Nat → Prop) (r2 : Nat) (s2 : List RP) (p2 : List ProdV) (w0 w : World) : Prop where
  a : PI o1 b1 g1 q1 r1 s1 p1 w
  b : PI o2 b2 g2 q2 r2 s2 p2 w
  ap : ∀ k, fpP o1 q1 k → ¬ fpP o2 q2 k
  below : Below w0.heap.size w0 w
  za : ∀ k, k < w0.heap.size → ¬ fpP o1 q1 k
  zb : ∀ k, k < w0.heap.size → ¬ fpP o2 q2 k
variable {o1 : Nat → Nat} {b1 : Nat} {g1 : List Nat} {q1 : Nat → Prop} {r1 : Nat} {s1 : List RP} {p1 : List ProdV} {o2 : Nat → Nat} {b2 : Nat} {g2 : List Nat} {q2 : Nat → Prop} {r2 : Nat} {s2 : List RP} {p2 : List ProdV} {w0 w w' : World}
theorem P2.swap (h : P2 o1 b1 g1 q1 r1 s1 p1 o2 b2 g2 q2 r2 s2 p2 w0 w) : P2 o2 b2 g2 q2 r2 s2 p2 o1 b1 g1 q1 r1 s1 p1 w0 w := ⟨h.b, h.a, fun k hk h1 => h.ap k h1 hk, h.below, h.zb, h.za⟩
theorem P2.move (h : P2 o1 b1 g1 q1 r1 s1 p1 o2 b2 g2 q2 r2 s2 p2 w0 w) (hb : Below w.heap.size w w') : P2 o1 b1 g1 q1 r1 s1 p1 o2 b2 g2 q2 r2 s2 p2 w0 w' := ⟨h.a.below hb, h.b.below hb, h.ap, below_step h.below hb, h.za, h.zb⟩
theorem PI.lt {own : Nat → Nat} {gb : Nat} {gs : List Nat} {ownR : Nat → Prop} {rb : Nat} {rs : List RP} {ps : List ProdV} (h : PI own gb gs ownR rb rs ps w) (k : Nat) (hk : fpP own ownR k) : k < w.heap.size := hk.elim (h.bi.lt k) (h.rb.lt k)
theorem P2.stepA (h : P2 o1 b1 g1 q1 r1 s1 p1 o2 b2 g2 q2 r2 s2 p2 w0 w) (x : EvV) : Calls Try.prog 22 #[.pointer (some ⟨b1, 0, none⟩), .pointer (some ⟨r1, 0, none⟩), evE x] w fun e w' => e = .returned (.bool true) ∧ ∃ o1' g1' q1' s1' p1', P2 o1' b1 g1' q1' r1 s1' p1' o2 b2 g2 q2 r2 s2 p2 w0 w' := by
  refine (step_c h.a x).mono ?_
  rintro e w' ⟨rfl, o1', g1', q1', s1', h1, h2, h3⟩
  have hn : ∀ k, fpP o2 q2 k → w'.heap[k]? = w.heap[k]? := fun k hk => h2.block k (h.b.lt k hk) (fun e => h.ap k e hk)
  exact ⟨rfl, o1', g1', q1', s1', _, ⟨h1, ⟨h.b.bi.step h2.size (fun k hk => hn k (.inl hk)), h.b.good, h.b.rb.step h2.size (fun k hk => hn k (.inr hk)), h.b.eq, h.b.ap⟩, fun k hk hb => h.ap k (h3 k (h.b.lt k hb) hk) hb, h2.out h.below h.za, fun k hk hf => h.za k hk (h3 k (Nat.lt_of_lt_of_le hk h.below.size) hf), h.zb⟩⟩
theorem P2.stepB (h : P2 o1 b1 g1 q1 r1 s1 p1 o2 b2 g2 q2 r2 s2 p2 w0 w) (x : EvV) : Calls Try.prog 22 #[.pointer (some ⟨b2, 0, none⟩), .pointer (some ⟨r2, 0, none⟩), evE x] w fun e w' => e = .returned (.bool true) ∧ ∃ o2' g2' q2' s2' p2', P2 o1 b1 g1 q1 r1 s1 p1 o2' b2 g2' q2' r2 s2' p2' w0 w' := by
  refine (h.swap.stepA x).mono ?_
  rintro e w' ⟨rfl, a, b, c, d, f, h1⟩
  exact ⟨rfl, a, b, c, d, f, h1.swap⟩
theorem RB.new (w : World) : RB (fun k => k = w.heap.size) w.heap.size [] (w.alloc (.cells #[.slice none 0 0] 55 (0, 0))) :=
  ⟨fun k hk => by rw [hk]; show _ < (w.heap.push _).size; rw [Array.size_push]; exact Nat.lt_succ_self _, rfl, ⟨.slice none 0 0, heap_alloc_new w _, World.ownsRow_nil _ _ _ _, fun g hg => by simp [Value.ownBlock] at hg⟩, fun r hr => by cases hr⟩
set_option maxHeartbeats 6400000 in
set_option maxRecDepth 100000 in
theorem plays_c (A B : Option Addr) (c d : Nat) (l m : List EvV) (w : World) (hr : EvRow w A l) (hq : EvRow w B m) : Calls Try.prog 7 #[.slice A l.length c, .slice B m.length d] w fun e w' => e = .returned (.bool true) ∧ Below w.heap.size w w' := by
  have HR := Aside0.mk hr
  have HQ := Aside0.mk hq
  have hlm := hr.1
  have hmm := hq.1
  clear hr hq
  go_enter Try.func7, Try.ntmps7
  go_upto_region 2 with (go_at_call 12; refine (new_c _).mono ?_; rintro e w1 ⟨o1, b1, rfl, hbi, hb, hz⟩; have K1 := Aside0.mk (And.intro hbi (And.intro hb hz)); clear hbi hb hz)
  go_upto_region 5 with (go_at_call 12; refine (new_c _).mono ?_; rintro e w2 ⟨o2, b2, rfl, hbi, hb, hz⟩; have K2 := Aside0.mk (And.intro hbi (And.intro hb hz)); clear hbi hb hz)
  obtain ⟨O, hO⟩ : ∃ O : Obj, O = .cells #[.slice none 0 0] 55 (0, 0) := ⟨_, rfl⟩
  have ha3 := below_alloc (Below.refl w2.heap.size w2) (.cells #[.slice none 0 0] 55 (0, 0))
  have hs3 : (w2.alloc (.cells #[.slice none 0 0] 55 (0, 0))).heap.size = w2.heap.size + 1 := Array.size_push _
  have ha4 := below_alloc (Below.refl (w2.alloc (.cells #[.slice none 0 0] 55 (0, 0))).heap.size (w2.alloc (.cells #[.slice none 0 0] 55 (0, 0)))) (.cells #[.slice none 0 0] 55 (0, 0))
  have hn1 := (RB.new w2).below ha4
  have hn2 := RB.new (w2.alloc (.cells #[.slice none 0 0] 55 (0, 0)))
  rw [hs3] at hn2
  have h12 : w1.heap.size ≤ w2.heap.size := K2.out.2.1.size
  have h01 : w.heap.size ≤ w1.heap.size := K1.out.2.1.size
  have HP := Aside0.mk (P2.mk (p1 := []) (p2 := []) (w0 := w) (PI.mk (((K1.out.1.below K2.out.2.1).below ha3).below ha4) good_nil hn1 rfl (fun k hk e => by have := K1.out.1.lt k hk; omega)) (PI.mk ((K2.out.1.below ha3).below ha4) good_nil hn2 rfl (fun k hk e => by have := K2.out.1.lt k hk; omega))
    (fun k hk hf => by
      rcases hk with hk | hk
      · have h1 := K1.out.1.lt k hk
        rcases hf with hf | hf
        · exact hf (K2.out.2.2 k h1)
        · omega
      · rcases hf with hf | hf
        · have := K2.out.1.lt k hf; omega
        · omega)
    (below_step (below_step (below_step K1.out.2.1 K2.out.2.1) ha3) ha4)
    (fun k hk hf => by
      rcases hf with hf | hf
      · exact hf (K1.out.2.2 k hk)
      · omega)
    (fun k hk hf => by
      rcases hf with hf | hf
      · exact hf (K2.out.2.2 k (by omega))
      · omega))
  clear ha3 hs3 ha4 hn1 hn2 h12 h01 hO
  generalize (w2.alloc (.cells #[.slice none 0 0] 55 (0, 0))).alloc (.cells #[.slice none 0 0] 55 (0, 0)) = w4 at HP ⊢
  obtain ⟨r1, hr1⟩ : ∃ r1, w2.heap.size = r1 := ⟨_, rfl⟩
  rw [hr1] at HP ⊢
  obtain ⟨r2, hr2⟩ : ∃ r2, r1 + 1 = r2 := ⟨_, rfl⟩
  rw [hr2] at HP ⊢
  clear hr1 hr2 K1 K2
  go_wp2_with (go_at_call 13; refine (knows_c _).mono ?_; rintro e w5 ⟨rfl, hb⟩; have HP5 := Aside0.mk (HP.out.move hb); clear hb HP)
  go_loopw [9] (fun i wr => ∃ (k : Nat) (o1 o2 : Nat → Nat) (g1 g2 : List Nat) (q1 q2 : Nat → Prop) (s1 s2 : List RP) (p1 p2 : List ProdV), (k ≤ l.length ∨ k ≤ m.length) ∧ i = .int .i64 (k : Int) ∧ P2 o1 b1 g1 q1 r1 s1 p1 o2 b2 g2 q2 r2 s2 p2 w wr) (fun i _ => max l.length m.length - (intOf i).toNat)
  case atStart => exact ⟨0, _, _, _, _, _, _, _, _, _, _, .inl (Nat.zero_le _), rfl, HP5.out⟩
  case round =>
    obtain ⟨k, o1', o2', g1, g2, q1, q2, s1, s2, p1, p2, hk, rfl, hp⟩ := hrel
    have HP6 := Aside0.mk hp
    clear hp HP5
    by_cases hkl : k < l.length
    · have hkc : (k : Int) < (l.length : Int) := by omega
      obtain ⟨ad, x, hA, hx, e0, e1, e2, e3, e4, e5, e6, e7⟩ := ev_cells (HR.out.below HP6.out.below) k hkl
      subst hA
      have HSA := Aside0.mk (HP6.out.stepA x)
      clear hx
      obtain ⟨kind, name, producer, epoch, place, timeout, now, yes⟩ := x
      unfold evE at HSA
      dsimp only at e0 e1 e2 e3 e4 e5 e6 e7 HSA
      by_cases hkm : k < m.length
      · have hkd : (k : Int) < (m.length : Int) := by omega
        obtain ⟨bd, hB⟩ : ∃ bd, B = some bd := by
          obtain ⟨bd, _, hB, -⟩ := ev_cells (HQ.out.below HP6.out.below) k hkm
          exact ⟨bd, hB⟩
        subst hB
        go_wp2_with (first
          | (go_at_call 22; clear e0 e1 e2 e3 e4 e5 e6 e7; refine HSA.out.mono ?_; rintro e w7 ⟨rfl, o1'', g1'', q1'', s1'', p1'', hp⟩; have HP7 := Aside0.mk hp; clear hp HP6 HSA; obtain ⟨bd', x', hB', hx', e0, e1, e2, e3, e4, e5, e6, e7⟩ := ev_cells (HQ.out.below HP7.out.below) k hkm; obtain rfl := Option.some.inj hB'; clear hB' hx'; have HSB := Aside0.mk (HP7.out.stepB x'); obtain ⟨kind', name', producer', epoch', place', timeout', now', yes'⟩ := x'; unfold evE at HSB; dsimp only at e0 e1 e2 e3 e4 e5 e6 e7 HSB)
          | (go_at_call 22; clear e0 e1 e2 e3 e4 e5 e6 e7; refine HSB.out.mono ?_; rintro e w8 ⟨rfl, o2'', g2'', q2'', s2'', p2'', hp⟩; have HP8 := Aside0.mk hp; clear hp HP7 HSB))
        exact ⟨⟨k + 1, _, _, _, _, _, _, _, _, _, _, .inl (by omega), rfl, HP8.out⟩, by simp only [intOf]; omega⟩
      · have hkd : ¬ (k : Int) < (m.length : Int) := by omega
        go_wp2_with (go_at_call 22; clear e0 e1 e2 e3 e4 e5 e6 e7; refine HSA.out.mono ?_; rintro e w7 ⟨rfl, o1'', g1'', q1'', s1'', p1'', hp⟩; have HP7 := Aside0.mk hp; clear hp HP6 HSA)
        exact ⟨⟨k + 1, _, _, _, _, _, _, _, _, _, _, .inl (by omega), rfl, HP7.out⟩, by simp only [intOf]; omega⟩
    · have hkc : ¬ (k : Int) < (l.length : Int) := by omega
      by_cases hkm : k < m.length
      · have hkd : (k : Int) < (m.length : Int) := by omega
        obtain ⟨ad, x, hA, hx, e0, e1, e2, e3, e4, e5, e6, e7⟩ := ev_cells (HQ.out.below HP6.out.below) k hkm
        subst hA
        have HSB := Aside0.mk (HP6.out.stepB x)
        clear hx
        obtain ⟨kind, name, producer, epoch, place, timeout, now, yes⟩ := x
        unfold evE at HSB
        dsimp only at e0 e1 e2 e3 e4 e5 e6 e7 HSB
        go_wp2_with (go_at_call 22; clear e0 e1 e2 e3 e4 e5 e6 e7; refine HSB.out.mono ?_; rintro e w7 ⟨rfl, o1'', g1'', q1'', s1'', p1'', hp⟩; have HP7 := Aside0.mk hp; clear hp HP6 HSB)
        exact ⟨⟨k + 1, _, _, _, _, _, _, _, _, _, _, .inr (by omega), rfl, HP7.out⟩, by simp only [intOf]; omega⟩
      · have hkd : ¬ (k : Int) < (m.length : Int) := by omega
        go_wp2_with fail
        exact bodyPost_ret (v := .bool true) (by simp [results, Try.results7, go_sem]) rfl ⟨rfl, HP6.out.below⟩
end Go.Proofs.Ytofegigbhohebaa.Hand
