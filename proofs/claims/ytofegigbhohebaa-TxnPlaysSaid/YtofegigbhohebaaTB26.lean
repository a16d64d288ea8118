/- A range over a function whose body changes what the iterator reads: by indices. And the book's old. -/
import Derived.Test.YtofegigbhohebaaTB18
namespace Go.Proofs.Ytofegigbhohebaa.Hand
open Go.RowKit Go.Shelf Go.Proofs.Ytofegigbhohebaa Go.Proofs.YtofegigbhohebaaW.PrintWords Go.Proofs.YtofegigbhohebaaW.PrintLast
set_option linter.unusedVariables false
set_option linter.unusedSimpArgs false
attribute [local go_sem] Oper.semAt_some
section
variable {F : Fence} {n : Nat} {P : Program}
/-- What an iterator promises that goes through len places and hands over the values at those that are chosen. -/
def IdxStops (F : Fence) (n : Nat) (P : Program) (gf : Nat) (lb : Array Value) (val : Nat → Array Value) (chosen : Nat → Bool) (len : Nat) (R0 : World → Prop) (R : Nat → World → Prop) : Prop :=
  ∀ (l : Nat) (J Jx : Nat → World → Prop) (W : World), J 0 W → R0 W → (∀ i V, i < len → J i V → R i V) → (∀ i V m, J i V → J i (V.drewN m)) → (∀ i V, i < len → chosen i = false → J i V → J (i + 1) V) →
    (∀ i V, i < len → chosen i = true → J i V → YieldAt F (n - 1) P l (val i) V fun e V' => (e = .returned (.bool true) ∧ J (i + 1) V') ∨ (e = .returned (.bool false) ∧ Jx i V')) →
    CallsIn F n P gf (#[.func (.yield l) #[] #[]] ++ lb) W fun e V' => (∃ v, e = .returned v) ∧ (J len V' ∨ ∃ i, i < len ∧ chosen i = true ∧ Jx i V')
/-- How a round may be left. -/
def idxPost (b : Nat) (I : Nat → World → Prop) (Ix : Code → Nat → World → Prop) (i : Nat) (W : World) : Exit → Act → World → Prop
  | .normal, _, W' => KeepsFrom b W W' ∧ I (i + 1) W'
  | .ret, _, W' => KeepsFrom b W W' ∧ Ix .ret i W'
  | _, _, _ => False
theorem range_idx {g : Operand} {ps : Array Tmp} {assign body : Code} {Q : Exit → Act → World → Prop} {a : Act} {w : World} (hro : F.round = none) (h1 : 1 ≤ n) {gf : Nat} {lb : Array Value} (hg : a.eval g = .func (.func gf) #[] lb) (hFg : F.fn gf)
    (eg : ∀ args w, (callFunc gf args).run P w = .ok (.enter gf args) w) {val : Nat → Array Value} {chosen : Nat → Bool} {len : Nat} {R0 : World → Prop} {R : Nat → World → Prop} (hseq : IdxStops F (n - 1) P gf lb val chosen len R0 R) (hps : ∀ i, (val i).size = ps.size)
    (I : Nat → World → Prop) (Ix : Code → Nat → World → Prop) (hI : OwnFrom w.heap.size I) (hIx : ∀ c, OwnFrom w.heap.size (Ix c)) (h0 : I 0 w) (hR0 : ∀ W, I 0 W → R0 W) (hR : ∀ i W, i < len → I i W → R i W) (hd : ∀ i W m, I i W → I i (W.drewN m)) (hskip : ∀ i W, i < len → chosen i = false → I i W → I (i + 1) W) (a₁ : Nat → Act)
    (hassign : ∀ (l i : Nat) (W : World) (K : Act → World → Prop), K (a₁ i) W → assign.wpIn (F.inRound l) (n - 1 - 1) P (Exit.then K (fun _ _ _ => False)) { tmps := (ps.zip (val i)).foldl (fun t (p, v) => t.setIfInBounds p v) a.tmps, defers := [] } W)
    (hbody : ∀ (l i : Nat) (W : World), i < len → chosen i = true → I i W → body.wpIn (F.inRound l) (n - 1 - 1) P (idxPost w.heap.size I Ix i W) (a₁ i) W)
    (hdone : ∀ (D : Nat) (W : World), w.heap.size ≤ D → I len W → W.heap[D]? = some (.deferred (some [])) → Q .normal { a with defers := { target := .collected D, args := #[] } :: a.defers } W)
    (hstop : ∀ (D i : Nat) (W : World), w.heap.size ≤ D → i < len → chosen i = true → Ix .ret i W → W.heap[D]? = some (.deferred (some [])) → Code.ret.wpIn F n P Q { a with defers := { target := .collected D, args := #[] } :: a.defers } W) :
    (Code.rangeFunc g ps assign body).wpIn F n P Q a w := by
  refine wpIn_rangeFunc fun fn hfn => ?_
  rw [hro]
  let rc : LoopState → Option Code → Loop := fun st pe => { state := st, pending := pe, fn, tmps := a.tmps, params := ps, assign, body, defers := w.heap.size }
  have hs1 : (w.alloc (.deferred (some []))).heap.size = w.heap.size + 1 := World.size_alloc w _
  have hL1 : ((w.alloc (.deferred (some []))).alloc (.loop (rc .ready none))).heap[w.heap.size + 1]? = some (.loop (rc .ready none)) := by
    have := World.alloc_heap_new (w.alloc (.deferred (some []))) (.loop (rc .ready none))
    rwa [hs1] at this
  have hK1 : ((w.alloc (.deferred (some []))).alloc (.loop (rc .ready none))).heap[w.heap.size]? = some (.deferred (some [])) := (Below.heap_alloc _ _ _ (by rw [hs1]; omega)).trans (World.alloc_heap_new w _)
  have hI1 : I 0 ((w.alloc (.deferred (some []))).alloc (.loop (rc .ready none))) := hI.alloc _ (hI.alloc _ h0)
  refine ⟨w.heap.size + 1, [{ target := .collected w.heap.size, args := #[] }], (w.alloc (.deferred (some []))).alloc (.loop (rc .ready none)), { target := .fn (.func gf) lb, args := #[.func (.yield (w.heap.size + 1)) #[] #[]] }, (w.alloc (.deferred (some []))).alloc (.loop (rc .ready none)), gf,
    #[.func (.yield (w.heap.size + 1)) #[] #[]] ++ lb, (w.alloc (.deferred (some []))).alloc (.loop (rc .ready none)), run_enterLoop_outer _ _ _ _ _, ?_, ?_, ?_, fun _ => h1, ?_⟩
  · simp only [resolve, hg]; simp [go_sem]
  · intro f' hf'; simp [Target.leads] at hf'; subst hf'; exact hFg
  · simp [invoke, go_sem, eg]
  have put_ready : ∀ (st : LoopState) (pe : Option Code) (X : World), X.heap[w.heap.size + 1]? = some (.loop { rc .ready none with state := .busy }) → X.heap[w.heap.size]? = some (.deferred (some [])) →
      (X.putObj (w.heap.size + 1) (.loop (rc st pe))).heap[w.heap.size + 1]? = some (.loop (rc st pe)) ∧ (X.putObj (w.heap.size + 1) (.loop (rc st pe))).heap[w.heap.size]? = some (.deferred (some [])) :=
    fun st pe X hx hk => ⟨World.putObj_heap_same (Array.getElem?_eq_some_iff.1 hx).1, (World.putObj_heap_other (by omega)).trans hk⟩
  refine (hseq (w.heap.size + 1) (fun i W => I i W ∧ W.heap[w.heap.size + 1]? = some (.loop (rc .ready none)) ∧ W.heap[w.heap.size]? = some (.deferred (some [])))
    (fun i W => Ix .ret i W ∧ W.heap[w.heap.size + 1]? = some (.loop (rc .done (some .ret))) ∧ W.heap[w.heap.size]? = some (.deferred (some []))) _ ⟨hI1, hL1, hK1⟩ (hR0 _ hI1) (fun i V hi hJ => hR i V hi hJ.1) (fun i V m hJ => ⟨hd i V m hJ.1, hJ.2⟩)
    (fun i V hi hc hJ => ⟨hskip i V hi hc hJ.1, hJ.2⟩) ?_).mono ?_
  · rintro i W hi hc ⟨hJ, hl, hk⟩
    have hlt : w.heap.size + 1 < W.heap.size := (Array.getElem?_eq_some_iff.1 hl).1
    refine ⟨fn, _, assign, body, run_yield (P := P) (args := val i) hl (hps i), roundIn_of_wpIn hfn (hassign _ i W _ ⟨_, run_beginRound hl rfl, ?_⟩)⟩
    have hl2 : (W.putObj (w.heap.size + 1) (.loop { rc .ready none with state := .busy })).heap[w.heap.size + 1]? = some (.loop { rc .ready none with state := .busy }) := World.putObj_heap_same hlt
    have hk2 : (W.putObj (w.heap.size + 1) (.loop { rc .ready none with state := .busy })).heap[w.heap.size]? = some (.deferred (some [])) := (World.putObj_heap_other (by omega)).trans hk
    refine wpIn_mono (hbody _ i _ hi hc (hI.putObj _ hJ (by omega) hl rfl)) ?_
    rintro e a3 W3 hp
    cases e with
    | normal =>
      obtain ⟨hk3, hi3⟩ := hp
      have hl3 := hk3.same _ _ (by omega) hl2 rfl
      have hk4 := hk3.same _ _ (Nat.le_refl _) hk2 rfl
      exact ⟨_, _, run_endRound (P := P) none hl3, .inl ⟨rfl, hI.putObj _ hi3 (by omega) hl3 rfl, put_ready .ready none W3 hl3 hk4⟩⟩
    | ret =>
      obtain ⟨hk3, hi3⟩ := hp
      have hl3 := hk3.same _ _ (by omega) hl2 rfl
      have hk4 := hk3.same _ _ (Nat.le_refl _) hk2 rfl
      exact ⟨_, _, run_endRound (P := P) (some .ret) hl3, .inr ⟨rfl, (hIx _).putObj _ hi3 (by omega) hl3 rfl, put_ready .done (some .ret) W3 hl3 hk4⟩⟩
    | exit id => exact hp.elim
    | goto t => exact hp.elim
    | panic ch => exact hp.elim
    | outgrown => exact hp.elim
  · rintro e W2 ⟨⟨v, rfl⟩, ⟨hi, hl, hk⟩ | ⟨i, hi, hc, hx, hl, hk⟩⟩
    · exact ⟨none, _, run_endLoop (P := P) hl (by intro e; cases e), hdone _ _ (Nat.le_refl _) (hI.putObj _ hi (by omega) hl rfl) ((World.putObj_heap_other (by omega)).trans hk)⟩
    · exact ⟨some .ret, _, run_endLoop (P := P) hl (by intro e; cases e), hstop _ i _ (Nat.le_refl _) hi hc ((hIx .ret).putObj _ hx (by omega) hl rfl) ((World.putObj_heap_other (by omega)).trans hk)⟩
end
variable {own : Nat → Nat} {gb : Nat} {gs : List Nat} {ps : List ProdV} {w w' : World}
/-- What the iterator reads at a place. -/
def OldR (gs : List Nat) (ps : List ProdV) (ad : Addr) (Bn : Nat) (now : Int) (i : Nat) (W : World) : Prop :=
  W.cell? (ad.add i) = some (.pointer (some ⟨gs.getD i 0, 0, none⟩)) ∧ W.cell? ⟨Bn, 0, none⟩ = some (.int .i64 now) ∧ ∃ v, W.heap[gs.getD i 0]? = some (.cells (prodC (ps.getD i prod0) v) 85 (0, 0))
set_option maxRecDepth 100000 in
set_option maxHeartbeats 4000000 in
theorem old_stops (n : Nat) (hn : 1 ≤ n) (gs : List Nat) (ps : List ProdV) (hG : Good ps) (gb Bs Bn : Nat) (A : Option Addr) (c : Nat) (now : Int) :
    IdxStops ({ fn := fun _ => True, depth := none, alive := false } : Fence) n Try.prog 66 #[.pointer (some ⟨Bs, 0, none⟩), .pointer (some ⟨Bn, 0, none⟩)] (fun i => #[.pointer (some ⟨gs.getD i 0, 0, none⟩)]) (fun i => overP (ps.getD i prod0) now) ps.length
      (fun W => W.cell? ⟨Bs, 0, none⟩ = some (.pointer (some ⟨gb, 0, none⟩)) ∧ W.cell? ⟨gb, 0, none⟩ = some (.slice A ps.length c)) (fun i W => ∃ ad, A = some ad ∧ OldR gs ps ad Bn now i W) := by
  intro l J Jx W h0 hR0 hR hd hskip hY
  refine callsIn_of_wp Try.func66 rfl trivial ?_ rfl
  simp only [Try.ntmps66, List.size_toArray, List.length_cons, List.length_nil, Nat.reduceAdd, Nat.reduceSub, Array.replicate_succ, Array.replicate_zero, List.push_toArray, List.append_toArray, List.nil_append, List.cons_append]
  obtain ⟨b0, b1⟩ := hR0
  have hlen := hG.len
  have HG := Aside0.mk (fun i (hi : i < ps.length) => hG.at_ hi)
  clear hG
  gi_wp2
  gi_loopw [11] (fun i wr => ∃ k : Nat, k ≤ ps.length ∧ i = .int .i64 (k : Int) ∧ J k wr) (fun i _ => ps.length - (intOf i).toNat)
  case atStart => exact ⟨0, Nat.zero_le _, rfl, h0⟩
  case round =>
    obtain ⟨k, hk, rfl, hJ⟩ := hrel
    clear b0 b1
    rcases Nat.lt_or_ge k ps.length with hkl | hkl
    rotate_left
    · obtain rfl : k = ps.length := by omega
      gi_wp2
      go_end0
      exact ⟨⟨_, rfl⟩, .inl hJ⟩
    have hjc : (k : Int) < (ps.length : Int) := by omega
    obtain ⟨ad, rfl, r0, r1, v, r2⟩ := hR k wr hkl hJ
    have HS := Aside0.mk (fun V => hskip k V hkl)
    have HY := Aside0.mk (fun V => hY k V hkl)
    have HGP := Aside0.mk (HG.out k hkl)
    obtain ⟨p, hp⟩ : ∃ p, ps.getD k prod0 = p := ⟨_, rfl⟩
    obtain ⟨g, hgg⟩ : ∃ g, gs.getD k 0 = g := ⟨_, rfl⟩
    rw [hp] at r2 HS HY HGP
    rw [hgg] at r0 r2 HY
    have R2 := Aside0.mk r2
    have HJ := Aside0.mk hJ
    have HD := Aside0.mk hd
    clear r2 hJ hd hskip hY hR
    cases hov : overP p now with
    | false =>
      gi_wp2_with (gi_at_call 67; refine (callsIn_wide.2 (over_c g p v now _ R2.out HGP.out)).mono ?_; rintro e w' ⟨rfl, m, rfl⟩; rw [hov])
      go_roundw
      case rel => exact ⟨k + 1, by omega, by go_num, HS.out _ hov (HD.out _ _ _ HJ.out)⟩
      case measure =>
        simp only [intOf]
        omega
    | true =>
      gi_wp2_with (gi_at_call 67; refine (callsIn_wide.2 (over_c g p v now _ R2.out HGP.out)).mono ?_; rintro e w' ⟨rfl, m, rfl⟩; rw [hov]; obtain ⟨fn, tmps, assign, body, hy, hR⟩ := HY.out (wr.drewN m) hov (HD.out _ _ _ HJ.out))
      refine hR.mono ?_
      rintro e W3 (⟨rfl, hJ3⟩ | ⟨rfl, hJx3⟩)
      · gi_wp2
        exact ⟨⟨k + 1, by omega, by go_num, hJ3⟩, by simp only [intOf]; omega⟩
      · gi_wp2
        exact bodyPost_ret (results_none rfl _ _ _) rfl ⟨⟨_, rfl⟩, .inr ⟨k, hkl, by rw [hp]; exact hov, hJx3⟩⟩
end Go.Proofs.Ytofegigbhohebaa.Hand
