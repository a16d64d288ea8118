/- Check. -/
import Derived.Test.YtamiglolpchplaaKC
import Derived.Scope
import Derived.Laws.EntriesVeiled
namespace Go.Proofs.Ytamiglolpchplaa.Hand
open Go.RowKit Go.Proofs.Ytamiglolpchplaa Go.Proofs.YtamiglolpchplaaW.PrintWords Go.Proofs.YtamiglolpchplaaW.PrintLast
set_option linter.unusedVariables false
set_option linter.unusedSimpArgs false
/-- What Check says. -/
def CheckV (L : List CallV) (r : Int) : Prop := rightF L = false ∧ r = 1 ∨ rightF L = true ∧ ∃ D : List CallV, D.Perm (L.filter fun c => c.done) ∧ D.Pairwise (fun x y => x.fin ≤ y.fin) ∧ r = checkR D (L.filter fun c => !c.done && !c.read) (shownF L).toNat
structure CheckP (L : List CallV) (w : World) (e : Ending) (w' : World) : Prop where
  r : ∃ r : Int, e = .returned (.int .i64 r) ∧ CheckV L r
  b : Below w.heap.size w w'
/-- Behind the sort. -/
theorem ckStart {w W1 W2 W3 W4 W5 : World} {A1 A2 : Option Addr} {c1 c2 base1 : Nat} {l1 l1' ps : List CallP} (hb1 : Below w.heap.size w W1)
    (hr1 : Kd.R kP 34 W1 base1 (fun _ => True) (.slice A1 l1.length c1) l1) (hbase : w.heap.size ≤ base1) (e2 : W2 = W1.alloc (.cells #[.slice A1 l1.length c1] 23 (0, 0)))
    (hb2 : Below W2.heap.size W2 W3) (hr2 : Kd.R kP 34 W3 W2.heap.size (fun _ => True) (.slice A2 ps.length c2) ps) (e4 : W4 = W3.alloc (.cells #[.slice A2 ps.length c2] 23 (0, 0)))
    (hp : l1'.Perm l1) (hr3 : Kd.R kP 34 W5 base1 (fun _ => True) (.slice A1 l1.length c1) l1') (hf : Fr (fun k => some k = (Value.slice A1 l1.length c1).ownBlock) W4 W5) :
    ∃ bP, CkI w W1.heap.size W3.heap.size W5.heap.size (W5.heap.size + 1) (W5.heap.size + 2) bP A1 c1 l1' ps (fun _ => none) (fun _ => none) (((W5.alloc (.cells #[.func (.func 26) #[] #[.pointer (some ⟨W1.heap.size, 0, none⟩)]] 54 (0, 0))).alloc (.map #[] 0)).alloc (.map #[] 0)) := by
  have s2 : W2.heap.size = W1.heap.size + 1 := by rw [e2]; exact Array.size_push _
  have s4 : W4.heap.size = W3.heap.size + 1 := by rw [e4]; exact Array.size_push _
  have hl : l1'.length = l1.length := hp.length_eq
  have hlt1 : ∀ k, (Value.slice A1 l1.length c1).ownBlock = some k → k < W1.heap.size := Kd.R_lt hr1
  have hge1 : ∀ k, (Value.slice A1 l1.length c1).ownBlock = some k → w.heap.size ≤ k := fun k hk => Nat.le_trans hbase (Kd.R_base hr1 k hk)
  have hge2 : ∀ k, (Value.slice A2 ps.length c2).ownBlock = some k → W2.heap.size ≤ k := Kd.R_base hr2
  have hlt2 : ∀ k, (Value.slice A2 ps.length c2).ownBlock = some k → k < W3.heap.size := Kd.R_lt hr2
  have z12 : W2.heap.size ≤ W3.heap.size := hb2.size
  have bD2 : W2.heap[W1.heap.size]? = some (.cells #[.slice A1 l1.length c1] 23 (0, 0)) := by rw [e2]; exact heap_alloc_new W1 _
  have bD4 : W4.heap[W1.heap.size]? = some (.cells #[.slice A1 l1.length c1] 23 (0, 0)) := by rw [e4]; exact blk_alloc (blk_below bD2 hb2) _
  have bD5 : W5.heap[W1.heap.size]? = some (.cells #[.slice A1 l1.length c1] 23 (0, 0)) := hf.blk bD4 (fun e => by have := hlt1 _ e.symm; omega)
  have bP4 : W4.heap[W3.heap.size]? = some (.cells #[.slice A2 ps.length c2] 23 (0, 0)) := by rw [e4]; exact heap_alloc_new W3 _
  have bP5 : W5.heap[W3.heap.size]? = some (.cells #[.slice A2 ps.length c2] 23 (0, 0)) := hf.blk bP4 (fun e => by have := hlt1 _ e.symm; omega)
  have hr4 : Kd.R kP 34 W4 W2.heap.size (fun _ => True) (.slice A2 ps.length c2) ps := by rw [e4]; exact Kd.R_alloc hr2 _
  have hr5 : Kd.R kP 34 W5 W2.heap.size (fun k => W2.heap.size ≤ k) (.slice A2 ps.length c2) ps := hf.R (Kd.R_mono (Kd.R_bound hr4) (fun k hk => hk.2.1)) (fun k hk e => by have := hlt1 _ e.symm; omega)
  have hW5 : Below w.heap.size w W5 := by
    have a1 : Below w.heap.size w W2 := by rw [e2]; exact below_alloc hb1 _
    have a2 := below_step a1 hb2
    have a3 : Below w.heap.size w W4 := by rw [e4]; exact below_alloc a2 _
    exact ⟨hf.os.trans a3.os, hf.tape.trans a3.tape, hf.output.trans a3.output, Nat.le_trans a3.size hf.size, fun k hk => (hf.block k (Nat.lt_of_lt_of_le hk a3.size) (fun e => by have := hge1 k e.symm; omega)).trans (a3.block k hk)⟩
  obtain ⟨W6, e6⟩ : ∃ W6, W6 = W5.alloc (.cells #[.func (.func 26) #[] #[.pointer (some ⟨W1.heap.size, 0, none⟩)]] 54 (0, 0)) := ⟨_, rfl⟩
  rw [← e6]
  have s6 : W6.heap.size = W5.heap.size + 1 := by rw [e6]; exact Array.size_push _
  have s7 : (W6.alloc (.map #[] 0)).heap.size = W5.heap.size + 2 := by rw [show (W6.alloc (.map #[] 0)).heap.size = W6.heap.size + 1 from Array.size_push _, s6]
  have b56 : Below W5.heap.size W5 W6 := by rw [e6]; exact below_alloc (Below.refl _ _) _
  have b68 : Below W6.heap.size W6 ((W6.alloc (.map #[] 0)).alloc (.map #[] 0)) := below_alloc (below_alloc (Below.refl _ _) _) _
  have b58 := below_step b56 b68
  have m1 : MapG tIS (W6.alloc (.map #[] 0)) (W5.heap.size + 1) (fun _ => none) := by have := MapG.made (t := tIS) W6; rwa [s6] at this
  have m2 : MapG tIB ((W6.alloc (.map #[] 0)).alloc (.map #[] 0)) (W5.heap.size + 2) (fun _ => none) := by have := MapG.made (t := tIB) (W6.alloc (.map #[] 0)); rwa [s7] at this
  have hbP : ∃ bP : Option Nat, Kd.R kP 34 W5 W2.heap.size (fun k => some k = bP) (.slice A2 ps.length c2) ps ∧ ∀ k, some k = bP → W2.heap.size ≤ k ∧ k < W3.heap.size := by
    rcases R_cases hr5 with ⟨hv, hn⟩ | ⟨g, cap, hv⟩
    · refine ⟨none, ?_, fun k h => by cases h⟩
      rw [hv, hn]; exact Kd.R_nil _ _ _ _ _
    · have ho : (Value.slice A2 ps.length c2).ownBlock = some g := by rw [hv]; simp [Value.ownBlock]
      refine ⟨some g, ⟨fun k hk => by rw [ho] at hk; exact hk.symm, hr5.2.imp_ (fun _ _ h => h)⟩, fun k hk => ?_⟩
      injection hk with hk
      subst hk
      exact ⟨hge2 k ho, hlt2 k ho⟩
  have hA1 : ∀ ad, A1 = some ad → ad.block < W1.heap.size := fun ad e => by
    rcases R_cases hr1 with ⟨hv, hn⟩ | ⟨g, cap, hv⟩
    · injection hv with e1; rw [e] at e1; cases e1
    · have ho : (Value.slice A1 l1.length c1).ownBlock = some g := by rw [hv]; simp [Value.ownBlock]
      injection hv with e1
      rw [e] at e1
      injection e1 with e1
      rw [e1]; exact hlt1 g ho
  obtain ⟨bP, hrP, hneP⟩ := hbP
  have hz5 := hf.size
  refine ⟨bP, ⟨?_, ?_, ⟨⟨_, blk_below bP5 b58, Kd.R_below (Kd.R_lower hrP (Nat.zero_le _)) b58⟩, fun e => by have := (hneP _ e).2; omega⟩, ?_, m1.below (below_alloc (Below.refl _ _) _), m2, by omega, ?_, ?_, ?_, ?_, below_step hW5 b58⟩⟩
  · rw [hl]; exact (blk_cell (blk_below bD5 b58) 0).trans rfl
  · exact Kd.C_below ((Kd.R_reads' hr3).1 ▸ (Kd.R_reads' hr3).2.2) b58
  · have : W6.heap[W5.heap.size]? = some (.cells #[.func (.func 26) #[] #[.pointer (some ⟨W1.heap.size, 0, none⟩)]] 54 (0, 0)) := by rw [e6]; exact heap_alloc_new W5 _
    exact (blk_cell (blk_below this b68) 0).trans rfl
  · have := hW5.size; omega
  · have := hW5.size; omega
  · have hw1 := hb1.size
    intro k hk
    have hk2 : W2.heap.size ≤ k ∧ k ≤ W3.heap.size := by
      rcases hk with rfl | hk
      · exact ⟨z12, Nat.le_refl _⟩
      · have := hneP k hk; omega
    exact ⟨by omega, by omega, by omega, by omega, by omega, fun ad e => by have := hA1 ad e; omega⟩
  · intro k hk
    have hk2 : k ≤ W3.heap.size := by
      rcases hk with rfl | hk
      · exact Nat.le_refl _
      · have := hneP k hk; omega
    have := b58.size
    omega
theorem fin_ok {c : CallV} (h : aloneF c = true) (hd : c.done = true) : 0 ≤ c.fin ∧ c.fin ≤ 1000000000 := by
  simp only [aloneF, toldF, if_pos hd, Bool.and_eq_true, decide_eq_true_eq] at h
  omega
structure D1 (w : World) (aD aP aL bL bO : Nat) (bP : Option Nat) (AD : Option Addr) (cD : Nat) (ds ps : List CallP) (D : List CallV) (i : Nat) (log : Int → Option ByteArray) (own : Int → Option Bool) (wr : World) : Prop where
  go : doneF D D (fun _ => none) (fun _ => none) = doneF D (D.drop i) log own
  ck : CkI w aD aP aL bL bO bP AD cD ds ps log own wr
structure D2 (w : World) (aD aP aL bL bO : Nat) (bP : Option Nat) (AD : Option Addr) (cD : Nat) (ds ps : List CallP) (own : Int → Option Bool) (g : Nat) (cs : Array Value) (A2 : Option Addr) (fr : Int) (vl : List ByteArray) (log0 : Int → Option ByteArray) (k : Nat) (log : Int → Option ByteArray) (wr : World) : Prop where
  go : putAll fr vl log0 = putAll (fr + k) (vl.drop k) log
  ck : CkI w aD aP aL bL bO bP AD cD ds ps log own wr
  bk : wr.heap[g]? = some (.cells cs 34 (0, 0))
  vc : Kd.string.C wr A2 vl.length vl
theorem D2.put {w wr wr' : World} {aD aP aL bL bO cD : Nat} {bP : Option Nat} {AD : Option Addr} {ds ps : List CallP} {own : Int → Option Bool} {g : Nat} {cs : Array Value} {A2 : Option Addr} {fr : Int} {vl : List ByteArray} {log0 : Int → Option ByteArray} {k : Nat} {log : Int → Option ByteArray} {v : ByteArray} (h : D2 w aD aP aL bL bO bP AD cD ds ps own g cs A2 fr vl log0 k log wr)
    (hv : vl[k]? = some v) (hok : ¬ ((log (fr + k)).isSome = true ∧ (log (fr + k)).getD ⟨#[]⟩ ≠ v)) (hm : MapG tIS wr' bL (putF log (fr + k) v)) (hg : wr.grownBy wr' (some bL)) : D2 w aD aP aL bL bO bP AD cD ds ps own g cs A2 fr vl log0 (k + 1) (putF log (fr + k) v) wr' := by
  obtain ⟨h1, h2⟩ := List.getElem?_eq_some_iff.1 hv
  refine ⟨?_, h.ck.putLog hm hg, ?_, map_C h.ck.log_ hg h.vc⟩
  · rw [h.go, List.drop_eq_getElem_cons h1, h2, putAll, if_neg hok]
    congr 1
    show fr + (k : Int) + 1 = fr + ((k + 1 : Nat) : Int)
    omega
  · refine (hg.block g (blk_lt h.bk) (fun e => ?_)).trans h.bk
    injection e with e
    obtain ⟨es, c, hb, _⟩ := h.ck.log_
    rw [← e, h.bk] at hb
    cases hb
theorem D2.bad {w wr : World} {aD aP aL bL bO cD : Nat} {bP : Option Nat} {AD : Option Addr} {ds ps : List CallP} {own : Int → Option Bool} {g : Nat} {cs : Array Value} {A2 : Option Addr} {fr : Int} {vl : List ByteArray} {log0 : Int → Option ByteArray} {k : Nat} {log : Int → Option ByteArray} {v : ByteArray} (h : D2 w aD aP aL bL bO bP AD cD ds ps own g cs A2 fr vl log0 k log wr)
    (hv : vl[k]? = some v) (hok : (log (fr + k)).isSome = true ∧ (log (fr + k)).getD ⟨#[]⟩ ≠ v) : putAll fr vl log0 = none := by
  obtain ⟨h1, h2⟩ := List.getElem?_eq_some_iff.1 hv
  rw [h.go, List.drop_eq_getElem_cons h1, h2, putAll, if_pos hok]
theorem D1.next {D : List CallV} {i : Nat} {log log' : Int → Option ByteArray} {own : Int → Option Bool} {c : CallV} (go : doneF D D (fun _ => none) (fun _ => none) = doneF D (D.drop i) log own) (hd : D.drop i = c :: D.drop (i + 1)) (h1 : ¬ rankF c < leastB 0 c.bgn D) (h2 : c.read = true ∨ (own c.offset).getD false = false) (h3 : putAll (showsF c).1 (showsF c).2 log = some log') :
    doneF D D (fun _ => none) (fun _ => none) = doneF D (D.drop (i + 1)) log' (if c.read = true then own else putF own c.offset true) := by
  rw [go, hd, doneF, if_neg (fun h => h.elim h1 (fun h => by rcases h2 with h2 | h2; rw [h2] at h; exact absurd h.1 (by decide); rw [h2] at h; exact absurd h.2 (by decide))), h3]
theorem D1.stop {D : List CallV} {i : Nat} {log : Int → Option ByteArray} {own : Int → Option Bool} {c : CallV} (go : doneF D D (fun _ => none) (fun _ => none) = doneF D (D.drop i) log own) (hd : D.drop i = c :: D.drop (i + 1)) (h3 : putAll (showsF c).1 (showsF c).2 log = none) : doneF D D (fun _ => none) (fun _ => none) = none := by
  rw [go, hd, doneF]
  split
  · rfl
  · rw [h3]
theorem idx0 (W : World) : (Instr.index 63 (.agg #[.bool true, .bool false]) (.int .i64 0)).run Try.prog W = .ok (.bool true) W := by kernel_rfl
theorem idx1 (W : World) : (Instr.index 63 (.agg #[.bool true, .bool false]) (.int .i64 1)).run Try.prog W = .ok (.bool false) W := by kernel_rfl
theorem shownL_bounds : ∀ (l : List CallV) (n : Int), 0 ≤ n → n ≤ 2000 → (∀ c ∈ l, SmallC c) → 0 ≤ shownL n l ∧ shownL n l ≤ 2000
  | [], n, h0, h1, _ => ⟨h0, h1⟩
  | c :: l, n, h0, h1, hs => by
    obtain ⟨a1, a2, a3⟩ := showsF_small (hs c (.head _))
    exact shownL_bounds l _ (by split <;> omega) (by split <;> omega) (fun x hx => hs x (.tail _ hx))
theorem shownF_nat {L : List CallV} (h : rightF L = true) : ∃ N : Nat, shownF L = (N : Int) ∧ N ≤ 2000 := by
  obtain ⟨h1, h2⟩ := shownL_bounds L 0 (by omega) (by omega) (fun c hc => aloneF_small (rightF_alone h c hc))
  refine ⟨(shownF L).toNat, ?_, ?_⟩
  · rw [shownF, if_pos h]; omega
  · rw [shownF, if_pos h]; omega
section
variable {known : Bool} {log : Int → Option ByteArray} {own : Int → Option Bool} {D Q Q' : List CallV} {N i : Nat}
theorem PL.skip (hi : i < N) (h : (own i).getD false = true ∨ (log i).isSome ≠ known) : placesF known log own D (N - i) i Q = placesF known log own D (N - (i + 1)) (i + 1) Q := by
  have e : N - i = (N - (i + 1)) + 1 := by omega
  rw [e, placesF, if_pos h]
theorem PL.take (hi : i < N) (h : ¬ ((own i).getD false = true ∨ (log i).isSome ≠ known)) (ht : takeV (fitF known ((log i).getD ⟨#[]⟩) i D) Q = some Q') : placesF known log own D (N - i) i Q = placesF known log own D (N - (i + 1)) (i + 1) Q' := by
  have e : N - i = (N - (i + 1)) + 1 := by omega
  rw [e, placesF, if_neg h, ht]
theorem PL.stop (hi : i < N) (h : ¬ ((own i).getD false = true ∨ (log i).isSome ≠ known)) (ht : takeV (fitF known ((log i).getD ⟨#[]⟩) i D) Q = none) : placesF known log own D (N - i) i Q = none := by
  have e : N - i = (N - (i + 1)) + 1 := by omega
  rw [e, placesF, if_neg h, ht]
end
def PlJ (D P : List CallV) (log : Int → Option ByteArray) (own : Int → Option Bool) (N : Nat) : Nat → List CallV → Prop
  | 0, Q => Q = P
  | 1, Q => placesF true log own D N 0 P = some Q
  | _ + 2, Q => ∃ P1, placesF true log own D N 0 P = some P1 ∧ placesF false log own D N 0 P1 = some Q
theorem checkR_0 {D P Q : List CallV} {N : Nat} {log : Int → Option ByteArray} {own : Int → Option Bool} (h : doneF D D (fun _ => none) (fun _ => none) = some (log, own)) (hp : PlJ D P log own N 2 Q) : checkR D P N = 0 := by
  obtain ⟨P1, h1, h2⟩ := hp
  simp only [checkR, h, h1, h2]
theorem checkR_p0 {D P Q : List CallV} {N : Nat} {log : Int → Option ByteArray} {own : Int → Option Bool} (h : doneF D D (fun _ => none) (fun _ => none) = some (log, own)) (hp : PlJ D P log own N 0 Q) (hn : placesF true log own D N 0 Q = none) : checkR D P N = 51 := by
  have hp : Q = P := hp
  subst hp
  simp only [checkR, h, hn]
theorem checkR_p1 {D P Q : List CallV} {N : Nat} {log : Int → Option ByteArray} {own : Int → Option Bool} (h : doneF D D (fun _ => none) (fun _ => none) = some (log, own)) (hp : PlJ D P log own N 1 Q) (hn : placesF false log own D N 0 Q = none) : checkR D P N = 51 := by
  have hp : placesF true log own D N 0 P = some Q := hp
  simp only [checkR, h, hp, hn]
theorem takeF_len {q : CallP → Bool} {ps ps' : List CallP} (h : takeF q ps = some ps') : ps'.length ≤ ps.length := by
  unfold takeF at h
  split at h
  · injection h with h
    rw [← h]; exact List.length_eraseIdx_le _ _
  · cases h
structure PlI (w : World) (aD aP aL bL bO bk : Nat) (bP : Option Nat) (AD : Option Addr) (cD : Nat) (ds : List CallP) (known : Bool) (D Q : List CallV) (N : Nat) (log : Int → Option ByteArray) (own : Int → Option Bool) (i : Nat) (ps : List CallP) (wr : World) : Prop where
  go : placesF known log own D N 0 Q = placesF known log own D (N - i) i (ps.map (·.1))
  len : ps.length ≤ 1000
  ck : CkI w aD aP aL bL bO bP AD cD ds ps log own wr
  bk_ : wr.heap[bk]? = some (.cells #[.bool known] 4 (0, 0))
  far : ¬ (bk = aP ∨ some bk = bP)
theorem checkR_51 {D P : List CallV} {n : Nat} (h : doneF D D (fun _ => none) (fun _ => none) = none) : checkR D P n = 51 := by rw [checkR, h]
theorem at_S {w : World} {A : Option Addr} {n : Nat} {xs : List ByteArray} (h : Kd.string.C w A n xs) (i : Nat) (h1 : i < n) (x : ByteArray) (hx : xs[i]? = some x) : ∃ ad, A = some ad ∧ w.cell? (ad.add i) = some (.string x) := by
  obtain ⟨ad, e, hc⟩ := h.2.2 (by omega)
  obtain ⟨c, hs, hr, hcell⟩ := hc i x hx
  have hr : c = [.string x] := hr
  subst hr
  refine ⟨ad, e, ?_⟩
  have := hcell 0 _ rfl
  have e1 : i * Kd.string.sz + 0 = i := by show i * 1 + 0 = i; omega
  rwa [e1] at this
def TK12 : Bool × List (List Nat × List Nat) := (true, [([], []), ([], []), ([1], [1]), ([0, 2], [0, 2]), ([], []), ([4, 3], [4]), ([3, 5], [3, 5]), ([6, 5], [6]), ([7], [7]), ([8, 7], [7, 8]), ([9, 7], [7, 9]), ([10, 7, 7], [7, 10]), ([11], [11]), ([11], [11]), ([13, 11], [11, 13]), ([12, 14, 11], [11, 12, 14]), ([11, 15, 7], [7, 11, 15]), ([7, 16], [7, 16])])
def BK12 : List Nat := [0, 0, 2, 7, 0, 31, 63, 127, 255, 511, 1023, 2047, 4095, 4095, 12287, 32767, 65535, 131071]
theorem tabK12 : rtab .any (opsOf Try.f12 12) = TK12 := by kernel_rfl
theorem bitsK12 : waitsOk TK12.2 BK12 = true := by kernel_rfl
set_option maxHeartbeats 16000000 in
set_option maxRecDepth 100000 in
theorem check_c (A : Option Addr) (c : Nat) (rs : List CallP) (w : World) (hr : Kd.C kP w A rs.length rs) (hv : ∀ r ∈ rs, ValOK w r) :
    Calls Try.prog 12 #[.slice A rs.length c] w (CheckP (rs.map (·.1)) w) := by
  have hmm := @run_makeMap Try.prog
  have HR := Aside0.mk hr
  have HV := Aside0.mk hv
  have HG := Aside0.mk (right_c A c rs w hr (fun r h => (hv r h).1))
  have HSH := Aside0.mk (fun W (hb : Below w.heap.size w W) => shown_c A c rs W (Kd.C_below hr hb) (fun r h => (hv r h).below hb))
  obtain ⟨L, hL⟩ : ∃ L, L = rs.map (·.1) := ⟨_, rfl⟩
  have HL := Aside0.mk hL
  rw [← hL] at HG HSH ⊢
  obtain ⟨ok, hok⟩ : ∃ ok, rightF L = ok := ⟨_, rfl⟩
  have HK := Aside0.mk hok
  rw [hok] at HG
  clear hr hv hL hok
  cases ok with
  | false =>
    go_enter Try.func12, Try.ntmps12
    go_wp2_with fail
    refine wp_scope_straight ?_
    go_wp2_with (go_at_call 9; refine HG.out.mono ?_; rintro e' w2 ⟨rfl, hb2⟩; have HB2 := Aside0.mk hb2; clear hb2)
    simp only [Exit.noGoto]
    go_ret
    exact ⟨⟨1, rfl, .inl ⟨HK.out, rfl⟩⟩, HB2.out⟩
  | true =>
    have hlen : rs.length ≤ 1000 := by have := rightF_len HK.out; rwa [HL.out, List.length_map] at this
    have hal : ∀ r ∈ rs, aloneF r.1 = true := fun r h => rightF_alone HK.out r.1 (by rw [HL.out]; exact List.mem_map_of_mem h)
    have HK1 := Aside0.mk (fun W (hb : Below w.heap.size w W) => keepDone_c A c rs W (Kd.C_below HR.out hb) hlen)
    have HK2 := Aside0.mk (fun W (hb : Below w.heap.size w W) => keepPend_c A c rs W (Kd.C_below HR.out hb) hlen)
    obtain ⟨l1, hl1⟩ : ∃ l1, l1 = rs.filter fun x => x.1.done := ⟨_, rfl⟩
    obtain ⟨ps, hps⟩ : ∃ ps, ps = rs.filter fun x => !x.1.done && !x.1.read := ⟨_, rfl⟩
    have HSO := Aside0.mk (fun (base : Nat) (v : Value) (W : World) (h : Kd.R kP 34 W base (fun _ => True) v l1) => sort_c base (fun _ => True) v l1 W h (by rw [hl1]; exact Nat.le_trans (List.length_filter_le _ _) hlen) (fun r h => by
      rw [hl1] at h
      have hd := List.mem_filter.1 h
      exact fin_ok (hal r hd.1) (by simpa using hd.2)))
    rw [← hl1] at HK1
    rw [← hps] at HK2
    have HL1 := Aside0.mk hl1
    have HPS := Aside0.mk hps
    have HAL := Aside0.mk hal
    have HLEN := Aside0.mk hlen
    clear hl1 hps hal hlen
    go_enter Try.func12, Try.ntmps12
    go_wp2_with fail
    refine wp_scope_straight ?_
    go_upto_region 9 with (first
      | (go_at_call 9; refine HG.out.mono ?_; rintro e' w0 ⟨rfl, hb0⟩; have HB0 := Aside0.mk hb0; clear hb0)
      | (go_at_call 24; refine (HSO.out _ _ _ HR4.out).mono ?_; rintro e' W5 ⟨rfl, l1', hp, hs, h3, h4⟩; obtain ⟨bP, hck⟩ := ckStart HB1.out HR1.out HB0.out.size rfl HB3.out HR3.out rfl hp h3 h4; have HC0 := Aside0.mk hck; have HP := Aside0.mk hp; have HSD := Aside0.mk hs; clear hp hs h3 h4 hck z4)
      | (go_at_call 21; refine (HK2.out _ (below_alloc HB1.out _)).mono ?_; rintro e' W3 ⟨v2, rfl, h1, h2⟩; obtain ⟨A2, c2, e2⟩ := Kd.R_slice h1; subst e2; have HR3 := Aside0.mk h1; have HB3 := Aside0.mk h2; have HR4 := Aside0.mk (Kd.R_alloc (Kd.R_below (Kd.R_alloc HR1.out (.cells #[.slice A1 l1.length c1] 23 (0, 0))) h2) (.cells #[.slice A2 ps.length c2] 23 (0, 0))); have z4 := (blk_cell (blk_alloc (blk_below (heap_alloc_new W1 (.cells #[.slice A1 l1.length c1] 23 (0, 0))) h2) (.cells #[.slice A2 ps.length c2] 23 (0, 0))) 0).trans rfl; clear h1 h2)
      | (go_at_call 21; refine (HK1.out _ HB0.out).mono ?_; rintro e' W1 ⟨v1, rfl, h1, h2⟩; obtain ⟨A1, c1, e1⟩ := Kd.R_slice h1; subst e1; have HR1 := Aside0.mk h1; have HB1 := Aside0.mk (below_step HB0.out h2); clear h1 h2))
    have hcD := HC0.out.cellD
    have hmaxD := Kd.C_max HC0.out.cd
    have HDV := Aside0.mk (show ∀ r ∈ l1', r.2.2.1 = r.1.values.length ∧ SmallC r.1 from fun r h => by
      have h2 := HP.out.mem_iff.1 h
      rw [HL1.out] at h2
      have h3 := (List.mem_filter.1 h2).1
      exact ⟨(HV.out r h3).1, aloneF_small (HAL.out r h3)⟩)
    have HVV := Aside0.mk (show ∀ r ∈ l1', ValOK w r from fun r h => by
      have h2 := HP.out.mem_iff.1 h
      rw [HL1.out] at h2
      exact HV.out r (List.mem_filter.1 h2).1)
    have HOUT := Aside0.mk (show ∀ r : Int, r = checkR (l1'.map (·.1)) (ps.map (·.1)) (shownF L).toNat → CheckV L r from fun r hr => by
      refine .inr ⟨HK.out, l1'.map (·.1), ?_, ?_, ?_⟩
      · have h1 := HP.out.map (·.1)
        refine h1.trans (List.Perm.of_eq ?_)
        rw [HL1.out, HL.out, List.filter_map]; rfl
      · exact List.pairwise_map.2 HSD.out
      · rw [hr, HPS.out, HL.out, List.filter_map]; rfl)
    obtain ⟨D, hD⟩ : ∃ D, D = l1'.map (·.1) := ⟨_, rfl⟩
    have HDD := Aside0.mk hD
    obtain ⟨P, hPP⟩ : ∃ P, P = ps.map (·.1) := ⟨_, rfl⟩
    have HPP := Aside0.mk hPP
    rw [← hD, ← hPP] at HOUT
    clear hD hPP HR1 HB1 HR3 HB3 HR4 HG HK1 HK2 HSO HP HSD HB0
    generalize (((W5.alloc (Obj.cells #[Value.func (Fn.func 26) #[] #[Value.pointer (some ⟨W1.heap.size, 0, none⟩)]] 54 (0, 0))).alloc (Obj.map #[] 0)).alloc (Obj.map #[] 0)) = W8 at HC0 hcD ⊢
    generalize W5.heap.size + 2 = bO at HC0 ⊢
    generalize W5.heap.size + 1 = bL at HC0 ⊢
    generalize W5.heap.size = aL at HC0 ⊢
    generalize W1.heap.size = aD at HC0 hcD ⊢
    generalize W3.heap.size = aP at HC0 ⊢
    generalize A1 = AD at HC0 hcD ⊢
    generalize c1 = cD at HC0 hcD ⊢
    go_wp2_with fail
    clear hcD
    go_loopw [37] (fun u37 wr => ∃ (i : Nat) (log : Int → Option ByteArray) (own : Int → Option Bool), i ≤ l1'.length ∧ u37 = .int .i64 i ∧ D1 w aD aP aL bL bO bP AD cD l1' ps D i log own wr) (fun u37 wr => l1'.length - (intOf u37).toNat)
    case atStart => exact ⟨0, fun _ => none, fun _ => none, by omega, rfl, ⟨rfl, HC0.out⟩⟩
    case round =>
      obtain ⟨i, log, own, hi, rfl, hri⟩ := hrel
      have HI1 := Aside0.mk hri
      clear hri HC0
      obtain ⟨ds, hds⟩ : ∃ ds, ds = l1' := ⟨_, rfl⟩
      subst hds
      by_cases hi1 : i < ds.length
      · have hd : (i : Int) < (ds.length : Int) := by omega
        obtain ⟨⟨⟨rd, dn, bg, fi, of, va, vs⟩, A1, n1, c1⟩, hx⟩ : ∃ x, ds[i]? = some x := ⟨_, List.getElem?_eq_getElem hi1⟩
        have hvx := HDV.out _ (List.mem_of_getElem? hx)
        have HVX := Aside0.mk (HVV.out _ (List.mem_of_getElem? hx))
        have hn1 : n1 = vs.length := hvx.1
        subst hn1
        obtain ⟨ad, hA, x0, x1, x2, x3, x4, x5, x6⟩ := at_P HI1.out.ck.cd i hi1 _ hx
        subst hA
        obtain ⟨AD, hAD⟩ : ∃ AD, AD = some ad := ⟨_, rfl⟩
        rw [← hAD] at HI1
        have HAD := Aside0.mk hAD
        clear hAD
        dsimp only at x0 x1 x2 x3 x4 x5 x6
        obtain ⟨W1, hW1⟩ : ∃ W1, W1 = wr.alloc (.cells #[.bool rd, .bool dn, .int .i64 bg, .int .i64 fi, .int .i64 of, .string va, .slice A1 vs.length c1] 34 (0, 0)) := ⟨_, rfl⟩
        obtain ⟨g, hg⟩ : ∃ g, wr.heap.size = g := ⟨_, rfl⟩
        have BK := Aside0.mk (show W1.heap[g]? = some (.cells #[.bool rd, .bool dn, .int .i64 bg, .int .i64 fi, .int .i64 of, .string va, .slice A1 vs.length c1] 34 (0, 0)) from by rw [hW1, ← hg]; exact heap_alloc_new wr _)
        have HC := Aside0.mk (show CkI w aD aP aL bL bO bP AD cD ds ps log own W1 from by rw [hW1]; exact HI1.out.ck.below (below_alloc (Below.refl _ _) _))
        have HDR := Aside0.mk (show D.drop i = ⟨rd, dn, bg, fi, of, va, vs⟩ :: D.drop (i + 1) from by
          have hmem : D[i]? = some ⟨rd, dn, bg, fi, of, va, vs⟩ := by rw [HDD.out, List.getElem?_map, hx]; rfl
          obtain ⟨h1, h2⟩ := List.getElem?_eq_some_iff.1 hmem
          rw [← h2]; exact List.drop_eq_getElem_cons h1)
        have HSM := Aside0.mk hvx.2
        obtain ⟨lb, hlb⟩ : ∃ lb, leastB 0 bg D = lb := ⟨_, rfl⟩
        obtain ⟨rk, hrk⟩ : ∃ rk, rankF ⟨rd, dn, bg, fi, of, va, vs⟩ = rk := ⟨_, rfl⟩
        have HLB := Aside0.mk (show leastB 0 bg (ds.map (·.1)) = lb by rw [← HDD.out]; exact hlb)
        have HLB2 := Aside0.mk hlb
        have HRK := Aside0.mk hrk
        have HJ := Aside0.mk (show ds.length - (intOf (.int .i64 ((i : Int) + 1))).toNat < ds.length - (intOf (.int .i64 (i : Int))).toNat from by simp only [intOf]; omega)
        clear hx hvx hlb hrk
        go_upto_region 12 with fail
        rw [← hW1]
        clear hW1 x0 x1 x2 x3 x4 x5 x6
        by_cases hgt : rk < lb
        · have HGT := Aside0.mk (show decide (lb > rk) = true from decide_eq_true hgt)
          have HBAD := Aside0.mk (show doneF D D (fun _ => none) (fun _ => none) = none from by rw [HI1.out.go, HDR.out, doneF, if_pos (.inl (by rw [HLB2.out, HRK.out]; exact hgt))])
          clear hgt
          replace BK := Aside0.mk (blk_drew BK.out)
          replace HC := Aside0.mk (HC.out.below (below_drew1 (Below.refl _ _)))
          refine start_ (n := 18) (S := fun w' => w'.heap[g]? = some (.cells #[.bool rd, .bool dn, .int .i64 bg, .int .i64 fi, .int .i64 of, .string va, .slice A1 vs.length c1] 34 (0, 0)) ∧ CkI w aD aP aL bL bO bP AD cD ds ps log own w') (ds := []) #[false, false, false, false, false, false, false, false, false, false, false, false, false, false, false, false, false, false] (by kernel_rfl) rfl rfl ⟨BK.out, HC.out⟩ (fun hHeld => ?_); refine with_tabW tabK12 bitsK12 (fun HT_ HW_ => ?_)
          generalize hwd : W1.drew = wd at BK HC hHeld ⊢
          refine take_ (i := 0) (N := (some 41)) (v := .func (.func 26) #[] #[.pointer (some ⟨aD, 0, none⟩)]) #[true, false, false, false, false, false, false, false, false, false, false, false, false, false, false, false, false, false] rfl rfl (take_ofW HT_.out HW_.out (by kernel_rfl)) (fun _ _ _ h => h) (Or.inl ⟨by rfl, fun w' s0 => (by have q := s0.2.least_; go_simp)⟩) hHeld rfl ?_
          refine norm_ (a' := ?_) ?_ ?_
          rotate_left
          · show Act.put _ (some 41) _ = _
            simp only [Act.put, List.setIfInBounds_toArray, List.set_cons_zero, List.set_cons_succ, i64_w, i32_w]
            rfl
          refine pure_ (i := 1) (N := (some 42)) (v := ?_) (a' := ?_) #[true, true, false, false, false, false, false, false, false, false, false, false, false, false, false, false, false, false] rfl rfl (any_of HT_.out (by kernel_rfl)) (fun _ _ _ h => h) (Or.inl ⟨by rfl, ?_⟩) ?_ ?_
          rotate_left
          · intro w'
            go_simp
            with_reducible rfl
          rotate_left
          · simp only [Act.put, List.setIfInBounds_toArray, List.set_cons_zero, List.set_cons_succ, i64_w, i32_w]
            rfl
          refine take_ (i := 2) (N := (some 43)) (v := .int .i64 bg) #[true, true, true, false, false, false, false, false, false, false, false, false, false, false, false, false, false, false] rfl rfl (take_ofW HT_.out HW_.out (by kernel_rfl)) (fun _ _ _ h => h) (Or.inl ⟨by rfl, fun w' s0 => (by have q := (show w'.cell? ⟨g, 2, none⟩ = some (.int .i64 bg) from (blk_cell s0.1 2).trans rfl); go_simp)⟩) hHeld rfl ?_
          refine norm_ (a' := ?_) ?_ ?_
          rotate_left
          · show Act.put _ (some 43) _ = _
            simp only [Act.put, List.setIfInBounds_toArray, List.set_cons_zero, List.set_cons_succ, i64_w, i32_w]
            rfl
          refine take_ (i := 4) (N := (some 45)) (v := .agg #[.bool rd, .bool dn, .int .i64 bg, .int .i64 fi, .int .i64 of, .string va, .slice A1 vs.length c1]) #[true, true, true, false, true, false, false, false, false, false, false, false, false, false, false, false, false, false] rfl rfl (take_ofW HT_.out HW_.out (by kernel_rfl)) (fun _ _ _ h => h) (Or.inl ⟨by rfl, fun w' s0 => run_load34 _ _ (.tmp 9) rfl rfl (box_load s0.1)⟩) hHeld rfl ?_
          refine norm_ (a' := ?_) ?_ ?_
          rotate_left
          · show Act.put _ (some 45) _ = _
            simp only [Act.put, List.setIfInBounds_toArray, List.set_cons_zero, List.set_cons_succ, i64_w, i32_w]
            rfl
          refine one_ (i := 3) (N := (some 44)) #[true, true, true, true, true, false, false, false, false, false, false, false, false, false, false, false, false, false] rfl rfl (one_of HT_.out (by kernel_rfl)) (by decide) (fun K hK => ?_)
          refine goesf_ Try.func26 (by kernel_rfl) rfl #[.int .i64 bg, .pointer (some ⟨aD, 0, none⟩)] (by rfl) rfl ⟨_, _, rfl, rfl, by (simp only [List.map_toArray, List.map_cons, List.map_nil, List.append_toArray, List.cons_append, List.nil_append]; first | done | rfl)⟩ ?_
          refine (least_c bg aD ds wd HC.out.done_ HDV.out).mono ?_
          rintro e' w2 ⟨rfl, hb2⟩
          have BK2 := Aside0.mk (blk_below BK.out hb2)
          have HC2 := Aside0.mk (HC.out.below hb2)
          clear hb2
          refine ⟨.int .i64 lb, by rw [HLB.out], ?_⟩
          refine hK.out _ _ ⟨BK2.out, HC2.out⟩ (fun hHeld => ?_)
          clear hK K
          refine norm_ (a' := ?_) ?_ ?_
          rotate_left
          · show Act.put _ (some 44) _ = _
            simp only [Act.put, List.setIfInBounds_toArray, List.set_cons_zero, List.set_cons_succ, i64_w, i32_w]
            rfl
          refine one_ (i := 5) (N := (some 46)) #[true, true, true, true, true, true, false, false, false, false, false, false, false, false, false, false, false, false] rfl rfl (one_of HT_.out (by kernel_rfl)) (by decide) (fun K hK => ?_)
          refine goes_ Try.func27 (by kernel_rfl) rfl #[.agg #[.bool rd, .bool dn, .int .i64 bg, .int .i64 fi, .int .i64 of, .string va, .slice A1 vs.length c1]] (by rfl) rfl rfl (by (try simp only [List.map_toArray, List.map_cons, List.map_nil]); first | done | rfl) ?_
          refine (rank_c ⟨⟨rd, dn, bg, fi, of, va, vs⟩, A1, vs.length, c1⟩ rfl HSM.out w2).mono ?_
          rintro e' w3 ⟨rfl, hb3⟩
          have BK3 := Aside0.mk (blk_below BK2.out hb3)
          have HC3 := Aside0.mk (HC2.out.below hb3)
          clear hb3
          refine ⟨.int .i64 rk, by rw [HRK.out], ?_⟩
          refine hK.out _ _ ⟨BK3.out, HC3.out⟩ (fun hHeld => ?_)
          clear hK K
          refine norm_ (a' := ?_) ?_ ?_
          rotate_left
          · show Act.put _ (some 46) _ = _
            simp only [Act.put, List.setIfInBounds_toArray, List.set_cons_zero, List.set_cons_succ, i64_w, i32_w]
            rfl
          refine pure_ (i := 6) (N := (some 47)) (v := ?_) (a' := ?_) #[true, true, true, true, true, true, true, false, false, false, false, false, false, false, false, false, false, false] rfl rfl (any_of HT_.out (by kernel_rfl)) (fun _ _ _ h => h) (Or.inl ⟨by rfl, ?_⟩) ?_ ?_
          rotate_left
          · intro w'
            go_simp
            with_reducible rfl
          rotate_left
          · simp only [Act.put, List.setIfInBounds_toArray, List.set_cons_zero, List.set_cons_succ, i64_w, i32_w]
            rfl
          simp only [HGT.out]
          refine pure_ (i := 7) (N := (some 48)) (v := ?_) (a' := ?_) #[true, true, true, true, true, true, true, true, false, false, false, false, false, false, false, false, false, false] rfl rfl (any_of HT_.out (by kernel_rfl)) (fun _ _ _ h => h) (Or.inl ⟨by rfl, ?_⟩) ?_ ?_
          rotate_left
          · intro w'
            go_simp
            with_reducible rfl
          rotate_left
          · simp only [Act.put, List.setIfInBounds_toArray, List.set_cons_zero, List.set_cons_succ, i64_w, i32_w]
            rfl
          refine pure_ (i := 8) (N := (some 49)) (v := undef) (a' := ?_) #[true, true, true, true, true, true, true, true, true, false, false, false, false, false, false, false, false, false] rfl rfl (any_of HT_.out (by kernel_rfl)) (fun _ _ _ h => h) (Or.inr ⟨by rfl, rfl⟩) ?_ ?_
          rotate_left
          · simp only [Act.put, List.setIfInBounds_toArray, List.set_cons_zero, List.set_cons_succ, i64_w, i32_w]
            rfl
          refine pure_ (i := 9) (N := (some 50)) (v := undef) (a' := ?_) #[true, true, true, true, true, true, true, true, true, true, false, false, false, false, false, false, false, false] rfl rfl (any_of HT_.out (by kernel_rfl)) (fun _ _ _ h => h) (Or.inr ⟨by rfl, rfl⟩) ?_ ?_
          rotate_left
          · simp only [Act.put, List.setIfInBounds_toArray, List.set_cons_zero, List.set_cons_succ, i64_w, i32_w]
            rfl
          refine pure_ (i := 10) (N := (some 51)) (v := undef) (a' := ?_) #[true, true, true, true, true, true, true, true, true, true, true, false, false, false, false, false, false, false] rfl rfl (any_of HT_.out (by kernel_rfl)) (fun _ _ _ h => h) (Or.inr ⟨by rfl, rfl⟩) ?_ ?_
          rotate_left
          · simp only [Act.put, List.setIfInBounds_toArray, List.set_cons_zero, List.set_cons_succ, i64_w, i32_w]
            rfl
          refine pure_ (i := 11) (N := (some 52)) (v := undef) (a' := ?_) #[true, true, true, true, true, true, true, true, true, true, true, true, false, false, false, false, false, false] rfl rfl (any_of HT_.out (by kernel_rfl)) (fun _ _ _ h => h) (Or.inr ⟨by rfl, rfl⟩) ?_ ?_
          rotate_left
          · simp only [Act.put, List.setIfInBounds_toArray, List.set_cons_zero, List.set_cons_succ, i64_w, i32_w]
            rfl
          refine pure_ (i := 12) (N := (some 53)) (v := undef) (a' := ?_) #[true, true, true, true, true, true, true, true, true, true, true, true, true, false, false, false, false, false] rfl rfl (any_of HT_.out (by kernel_rfl)) (fun _ _ _ h => h) (Or.inr ⟨by rfl, rfl⟩) ?_ ?_
          rotate_left
          · simp only [Act.put, List.setIfInBounds_toArray, List.set_cons_zero, List.set_cons_succ, i64_w, i32_w]
            rfl
          refine pure_ (i := 13) (N := (some 54)) (v := undef) (a' := ?_) #[true, true, true, true, true, true, true, true, true, true, true, true, true, true, false, false, false, false] rfl rfl (any_of HT_.out (by kernel_rfl)) (fun _ _ _ h => h) (Or.inr ⟨by rfl, rfl⟩) ?_ ?_
          rotate_left
          · simp only [Act.put, List.setIfInBounds_toArray, List.set_cons_zero, List.set_cons_succ, i64_w, i32_w]
            rfl
          refine pure_ (i := 14) (N := (some 55)) (v := undef) (a' := ?_) #[true, true, true, true, true, true, true, true, true, true, true, true, true, true, true, false, false, false] rfl rfl (any_of HT_.out (by kernel_rfl)) (fun _ _ _ h => h) (Or.inr ⟨by rfl, rfl⟩) ?_ ?_
          rotate_left
          · simp only [Act.put, List.setIfInBounds_toArray, List.set_cons_zero, List.set_cons_succ, i64_w, i32_w]
            rfl
          refine pure_ (i := 15) (N := (some 56)) (v := undef) (a' := ?_) #[true, true, true, true, true, true, true, true, true, true, true, true, true, true, true, true, false, false] rfl rfl (any_of HT_.out (by kernel_rfl)) (fun _ _ _ h => h) (Or.inr ⟨by rfl, rfl⟩) ?_ ?_
          rotate_left
          · simp only [Act.put, List.setIfInBounds_toArray, List.set_cons_zero, List.set_cons_succ, i64_w, i32_w]
            rfl
          refine pure_ (i := 16) (N := (some 57)) (v := undef) (a' := ?_) #[true, true, true, true, true, true, true, true, true, true, true, true, true, true, true, true, true, false] rfl rfl (any_of HT_.out (by kernel_rfl)) (fun _ _ _ h => h) (Or.inr ⟨by rfl, rfl⟩) ?_ ?_
          rotate_left
          · simp only [Act.put, List.setIfInBounds_toArray, List.set_cons_zero, List.set_cons_succ, i64_w, i32_w]
            rfl
          refine pure_ (i := 17) (N := (some 58)) (v := ?_) (a' := ?_) #[true, true, true, true, true, true, true, true, true, true, true, true, true, true, true, true, true, true] rfl rfl (any_of HT_.out (by kernel_rfl)) (fun _ _ _ h => h) (Or.inl ⟨by rfl, ?_⟩) ?_ ?_
          rotate_left
          · intro w'
            go_simp
            with_reducible rfl
          rotate_left
          · simp only [Act.put, List.setIfInBounds_toArray, List.set_cons_zero, List.set_cons_succ, i64_w, i32_w]
            rfl
          refine done_ (done_of HT_.out (by kernel_rfl)) ?_
          clear hHeld HT_ HW_ BK HC BK2 HC2 hwd
          go_wp2_with fail
          try simp only [Exit.noGoto]
          go_ret
          exact ⟨⟨51, rfl, HOUT.out 51 (checkR_51 HBAD.out).symm⟩, HC3.out.below_⟩
        · have HGT := Aside0.mk (show decide (lb > rk) = false from decide_eq_false hgt)
          have HNG := Aside0.mk hgt
          clear hgt
          cases rd with
          | true =>
            replace BK := Aside0.mk (blk_drew BK.out)
            replace HC := Aside0.mk (HC.out.below (below_drew1 (Below.refl _ _)))
            refine start_ (n := 18) (S := fun w' => w'.heap[g]? = some (.cells #[.bool true, .bool dn, .int .i64 bg, .int .i64 fi, .int .i64 of, .string va, .slice A1 vs.length c1] 34 (0, 0)) ∧ CkI w aD aP aL bL bO bP AD cD ds ps log own w') (ds := []) #[false, false, false, false, false, false, false, false, false, false, false, false, false, false, false, false, false, false] (by kernel_rfl) rfl rfl ⟨BK.out, HC.out⟩ (fun hHeld => ?_); refine with_tabW tabK12 bitsK12 (fun HT_ HW_ => ?_)
            generalize hwd : W1.drew = wd at BK HC hHeld ⊢
            refine take_ (i := 0) (N := (some 41)) (v := .func (.func 26) #[] #[.pointer (some ⟨aD, 0, none⟩)]) #[true, false, false, false, false, false, false, false, false, false, false, false, false, false, false, false, false, false] rfl rfl (take_ofW HT_.out HW_.out (by kernel_rfl)) (fun _ _ _ h => h) (Or.inl ⟨by rfl, fun w' s0 => (by have q := s0.2.least_; go_simp)⟩) hHeld rfl ?_
            refine norm_ (a' := ?_) ?_ ?_
            rotate_left
            · show Act.put _ (some 41) _ = _
              simp only [Act.put, List.setIfInBounds_toArray, List.set_cons_zero, List.set_cons_succ, i64_w, i32_w]
              rfl
            refine pure_ (i := 1) (N := (some 42)) (v := ?_) (a' := ?_) #[true, true, false, false, false, false, false, false, false, false, false, false, false, false, false, false, false, false] rfl rfl (any_of HT_.out (by kernel_rfl)) (fun _ _ _ h => h) (Or.inl ⟨by rfl, ?_⟩) ?_ ?_
            rotate_left
            · intro w'
              go_simp
              with_reducible rfl
            rotate_left
            · simp only [Act.put, List.setIfInBounds_toArray, List.set_cons_zero, List.set_cons_succ, i64_w, i32_w]
              rfl
            refine take_ (i := 2) (N := (some 43)) (v := .int .i64 bg) #[true, true, true, false, false, false, false, false, false, false, false, false, false, false, false, false, false, false] rfl rfl (take_ofW HT_.out HW_.out (by kernel_rfl)) (fun _ _ _ h => h) (Or.inl ⟨by rfl, fun w' s0 => (by have q := (show w'.cell? ⟨g, 2, none⟩ = some (.int .i64 bg) from (blk_cell s0.1 2).trans rfl); go_simp)⟩) hHeld rfl ?_
            refine norm_ (a' := ?_) ?_ ?_
            rotate_left
            · show Act.put _ (some 43) _ = _
              simp only [Act.put, List.setIfInBounds_toArray, List.set_cons_zero, List.set_cons_succ, i64_w, i32_w]
              rfl
            refine take_ (i := 4) (N := (some 45)) (v := .agg #[.bool true, .bool dn, .int .i64 bg, .int .i64 fi, .int .i64 of, .string va, .slice A1 vs.length c1]) #[true, true, true, false, true, false, false, false, false, false, false, false, false, false, false, false, false, false] rfl rfl (take_ofW HT_.out HW_.out (by kernel_rfl)) (fun _ _ _ h => h) (Or.inl ⟨by rfl, fun w' s0 => run_load34 _ _ (.tmp 9) rfl rfl (box_load s0.1)⟩) hHeld rfl ?_
            refine norm_ (a' := ?_) ?_ ?_
            rotate_left
            · show Act.put _ (some 45) _ = _
              simp only [Act.put, List.setIfInBounds_toArray, List.set_cons_zero, List.set_cons_succ, i64_w, i32_w]
              rfl
            refine one_ (i := 3) (N := (some 44)) #[true, true, true, true, true, false, false, false, false, false, false, false, false, false, false, false, false, false] rfl rfl (one_of HT_.out (by kernel_rfl)) (by decide) (fun K hK => ?_)
            refine goesf_ Try.func26 (by kernel_rfl) rfl #[.int .i64 bg, .pointer (some ⟨aD, 0, none⟩)] (by rfl) rfl ⟨_, _, rfl, rfl, by (simp only [List.map_toArray, List.map_cons, List.map_nil, List.append_toArray, List.cons_append, List.nil_append]; first | done | rfl)⟩ ?_
            refine (least_c bg aD ds wd HC.out.done_ HDV.out).mono ?_
            rintro e' w2 ⟨rfl, hb2⟩
            have BK2 := Aside0.mk (blk_below BK.out hb2)
            have HC2 := Aside0.mk (HC.out.below hb2)
            clear hb2
            refine ⟨.int .i64 lb, by rw [HLB.out], ?_⟩
            refine hK.out _ _ ⟨BK2.out, HC2.out⟩ (fun hHeld => ?_)
            clear hK K
            refine norm_ (a' := ?_) ?_ ?_
            rotate_left
            · show Act.put _ (some 44) _ = _
              simp only [Act.put, List.setIfInBounds_toArray, List.set_cons_zero, List.set_cons_succ, i64_w, i32_w]
              rfl
            refine one_ (i := 5) (N := (some 46)) #[true, true, true, true, true, true, false, false, false, false, false, false, false, false, false, false, false, false] rfl rfl (one_of HT_.out (by kernel_rfl)) (by decide) (fun K hK => ?_)
            refine goes_ Try.func27 (by kernel_rfl) rfl #[.agg #[.bool true, .bool dn, .int .i64 bg, .int .i64 fi, .int .i64 of, .string va, .slice A1 vs.length c1]] (by rfl) rfl rfl (by (try simp only [List.map_toArray, List.map_cons, List.map_nil]); first | done | rfl) ?_
            refine (rank_c ⟨⟨true, dn, bg, fi, of, va, vs⟩, A1, vs.length, c1⟩ rfl HSM.out w2).mono ?_
            rintro e' w3 ⟨rfl, hb3⟩
            have BK3 := Aside0.mk (blk_below BK2.out hb3)
            have HC3 := Aside0.mk (HC2.out.below hb3)
            clear hb3
            refine ⟨.int .i64 rk, by rw [HRK.out], ?_⟩
            refine hK.out _ _ ⟨BK3.out, HC3.out⟩ (fun hHeld => ?_)
            clear hK K
            refine norm_ (a' := ?_) ?_ ?_
            rotate_left
            · show Act.put _ (some 46) _ = _
              simp only [Act.put, List.setIfInBounds_toArray, List.set_cons_zero, List.set_cons_succ, i64_w, i32_w]
              rfl
            refine pure_ (i := 6) (N := (some 47)) (v := ?_) (a' := ?_) #[true, true, true, true, true, true, true, false, false, false, false, false, false, false, false, false, false, false] rfl rfl (any_of HT_.out (by kernel_rfl)) (fun _ _ _ h => h) (Or.inl ⟨by rfl, ?_⟩) ?_ ?_
            rotate_left
            · intro w'
              go_simp
              with_reducible rfl
            rotate_left
            · simp only [Act.put, List.setIfInBounds_toArray, List.set_cons_zero, List.set_cons_succ, i64_w, i32_w]
              rfl
            simp only [HGT.out]
            refine pure_ (i := 7) (N := (some 48)) (v := ?_) (a' := ?_) #[true, true, true, true, true, true, true, true, false, false, false, false, false, false, false, false, false, false] rfl rfl (any_of HT_.out (by kernel_rfl)) (fun _ _ _ h => h) (Or.inl ⟨by rfl, ?_⟩) ?_ ?_
            rotate_left
            · intro w'
              go_simp
              with_reducible rfl
            rotate_left
            · simp only [Act.put, List.setIfInBounds_toArray, List.set_cons_zero, List.set_cons_succ, i64_w, i32_w]
              rfl
            refine pure_ (i := 8) (N := (some 49)) (v := ?_) (a' := ?_) #[true, true, true, true, true, true, true, true, true, false, false, false, false, false, false, false, false, false] rfl rfl (any_of HT_.out (by kernel_rfl)) (fun _ _ _ h => h) (Or.inl ⟨by rfl, ?_⟩) ?_ ?_
            rotate_left
            · intro w'
              go_simp
              with_reducible rfl
            rotate_left
            · simp only [Act.put, List.setIfInBounds_toArray, List.set_cons_zero, List.set_cons_succ, i64_w, i32_w]
              rfl
            refine take_ (i := 9) (N := (some 50)) (v := .bool true) #[true, true, true, true, true, true, true, true, true, true, false, false, false, false, false, false, false, false] rfl rfl (take_ofW HT_.out HW_.out (by kernel_rfl)) (fun _ _ _ h => h) (Or.inl ⟨by rfl, fun w' s0 => (by have q := (show w'.cell? ⟨g, 0, none⟩ = some (.bool true) from (blk_cell s0.1 0).trans rfl); go_simp)⟩) hHeld rfl ?_
            refine norm_ (a' := ?_) ?_ ?_
            rotate_left
            · show Act.put _ (some 50) _ = _
              simp only [Act.put, List.setIfInBounds_toArray, List.set_cons_zero, List.set_cons_succ, i64_w, i32_w]
              rfl
            refine pure_ (i := 10) (N := (some 51)) (v := ?_) (a' := ?_) #[true, true, true, true, true, true, true, true, true, true, true, false, false, false, false, false, false, false] rfl rfl (any_of HT_.out (by kernel_rfl)) (fun _ _ _ h => h) (Or.inl ⟨by rfl, ?_⟩) ?_ ?_
            rotate_left
            · intro w'
              go_simp
              with_reducible rfl
            rotate_left
            · simp only [Act.put, List.setIfInBounds_toArray, List.set_cons_zero, List.set_cons_succ, i64_w, i32_w]
              rfl
            refine pure_ (i := 11) (N := (some 52)) (v := ?_) (a' := ?_) #[true, true, true, true, true, true, true, true, true, true, true, true, false, false, false, false, false, false] rfl rfl (any_of HT_.out (by kernel_rfl)) (fun _ _ _ h => h) (Or.inl ⟨by rfl, ?_⟩) ?_ ?_
            rotate_left
            · intro w'
              go_simp
              with_reducible rfl
            rotate_left
            · simp only [Act.put, List.setIfInBounds_toArray, List.set_cons_zero, List.set_cons_succ, i64_w, i32_w]
              rfl
            refine pure_ (i := 12) (N := (some 53)) (v := undef) (a' := ?_) #[true, true, true, true, true, true, true, true, true, true, true, true, true, false, false, false, false, false] rfl rfl (any_of HT_.out (by kernel_rfl)) (fun _ _ _ h => h) (Or.inr ⟨by rfl, rfl⟩) ?_ ?_
            rotate_left
            · simp only [Act.put, List.setIfInBounds_toArray, List.set_cons_zero, List.set_cons_succ, i64_w, i32_w]
              rfl
            refine pure_ (i := 13) (N := (some 54)) (v := undef) (a' := ?_) #[true, true, true, true, true, true, true, true, true, true, true, true, true, true, false, false, false, false] rfl rfl (any_of HT_.out (by kernel_rfl)) (fun _ _ _ h => h) (Or.inr ⟨by rfl, rfl⟩) ?_ ?_
            rotate_left
            · simp only [Act.put, List.setIfInBounds_toArray, List.set_cons_zero, List.set_cons_succ, i64_w, i32_w]
              rfl
            refine pure_ (i := 14) (N := (some 55)) (v := undef) (a' := ?_) #[true, true, true, true, true, true, true, true, true, true, true, true, true, true, true, false, false, false] rfl rfl (any_of HT_.out (by kernel_rfl)) (fun _ _ _ h => h) (Or.inr ⟨by rfl, rfl⟩) ?_ ?_
            rotate_left
            · simp only [Act.put, List.setIfInBounds_toArray, List.set_cons_zero, List.set_cons_succ, i64_w, i32_w]
              rfl
            refine pure_ (i := 15) (N := (some 56)) (v := undef) (a' := ?_) #[true, true, true, true, true, true, true, true, true, true, true, true, true, true, true, true, false, false] rfl rfl (any_of HT_.out (by kernel_rfl)) (fun _ _ _ h => h) (Or.inr ⟨by rfl, rfl⟩) ?_ ?_
            rotate_left
            · simp only [Act.put, List.setIfInBounds_toArray, List.set_cons_zero, List.set_cons_succ, i64_w, i32_w]
              rfl
            refine pure_ (i := 16) (N := (some 57)) (v := ?_) (a' := ?_) #[true, true, true, true, true, true, true, true, true, true, true, true, true, true, true, true, true, false] rfl rfl (any_of HT_.out (by kernel_rfl)) (fun _ _ _ h => h) (Or.inl ⟨by rfl, ?_⟩) ?_ ?_
            rotate_left
            · intro w'
              go_simp
              with_reducible rfl
            rotate_left
            · simp only [Act.put, List.setIfInBounds_toArray, List.set_cons_zero, List.set_cons_succ, i64_w, i32_w]
              rfl
            refine pure_ (i := 17) (N := (some 58)) (v := ?_) (a' := ?_) #[true, true, true, true, true, true, true, true, true, true, true, true, true, true, true, true, true, true] rfl rfl (any_of HT_.out (by kernel_rfl)) (fun _ _ _ h => h) (Or.inl ⟨by rfl, ?_⟩) ?_ ?_
            rotate_left
            · intro w'
              go_simp
              with_reducible rfl
            rotate_left
            · simp only [Act.put, List.setIfInBounds_toArray, List.set_cons_zero, List.set_cons_succ, i64_w, i32_w]
              rfl
            refine done_ (done_of HT_.out (by kernel_rfl)) ?_
            clear hHeld HT_ HW_ BK HC BK2 HC2 hwd
            have z0 := (blk_cell BK3.out 0).trans rfl
            have z1 := (blk_cell BK3.out 1).trans rfl
            have z2 := (blk_cell BK3.out 2).trans rfl
            have z3 := (blk_cell BK3.out 3).trans rfl
            have z4 := (blk_cell BK3.out 4).trans rfl
            have z5 := (blk_cell BK3.out 5).trans rfl
            have z6 := (blk_cell BK3.out 6).trans rfl
            have HSW := Aside0.mk (shows_c ⟨⟨true, dn, bg, fi, of, va, vs⟩, A1, vs.length, c1⟩ w3 (HVX.out.below HC3.out.below_))
            obtain ⟨q1, q2, q3⟩ := showsF_small HSM.out
            dsimp only at HSW q1 q2 q3
            obtain ⟨s, hs⟩ : ∃ s, showsF ⟨true, dn, bg, fi, of, va, vs⟩ = s := ⟨_, rfl⟩
            rw [hs] at HSW q1 q2 q3
            obtain ⟨fr, vl⟩ := s
            have HSF := Aside0.mk hs
            dsimp only at HSW q1 q2 q3
            have HQ := Aside0.mk (And.intro q1 (And.intro q2 q3))
            clear hs q1 q2 q3
            go_wp2_with (go_at_call 28; refine HSW.out.mono ?_; rintro e' w4 ⟨A3, c3, rfl, g1, g2, hb4⟩; have HI2 := Aside0.mk (show D2 w aD aP aL bL bO bP AD cD ds ps own g #[.bool true, .bool dn, .int .i64 bg, .int .i64 fi, .int .i64 of, .string va, .slice A1 vs.length c1] A3 fr vl log 0 log w4 from ⟨by rw [List.drop_zero]; simp, HC3.out.below hb4, blk_below BK3.out hb4, g2⟩); clear g1 g2 hb4 z0 z1 z2 z3 z4 z5 z6)
            go_loopw [66] (fun u66 wr2 => ∃ (k : Nat) (log2 : Int → Option ByteArray), k ≤ vl.length ∧ u66 = .int .i64 k ∧ D2 w aD aP aL bL bO bP AD cD ds ps own g #[.bool true, .bool dn, .int .i64 bg, .int .i64 fi, .int .i64 of, .string va, .slice A1 vs.length c1] A3 fr vl log k log2 wr2) (fun u66 wr2 => vl.length - (intOf u66).toNat)
            case atStart => exact ⟨0, log, by omega, rfl, HI2.out⟩
            case round =>
              obtain ⟨k, log2, hk, rfl, hri⟩ := hrel
              have HI3 := Aside0.mk hri
              clear hri HI2
              by_cases hk1 : k < vl.length
              · have hd : (k : Int) < (vl.length : Int) := by omega
                obtain ⟨v, hv⟩ : ∃ v, vl[k]? = some v := ⟨_, List.getElem?_eq_getElem hk1⟩
                obtain ⟨ad3, hA3, y⟩ := at_S HI3.out.vc k hk1 v hv
                have hvm : vl.length ≤ 9223372036854775807 := by have := HQ.out; omega
                subst hA3
                have HVK := Aside0.mk hv
                have hq : wrap64 (fr + (k : Int)) = fr + (k : Int) := by have := HQ.out; unfold wrap64; omega
                have q := is_look2 HI3.out.ck.log_ (fr + (k : Int))
                have HJ2 := Aside0.mk (show vl.length - (intOf (.int .i64 ((k : Int) + 1))).toNat < vl.length - (intOf (.int .i64 (k : Int))).toNat from by simp only [intOf]; omega)
                obtain ⟨lk, hlk⟩ : ∃ lk, log2 (fr + (k : Int)) = lk := ⟨_, rfl⟩
                have HLK := Aside0.mk hlk
                rw [hlk] at q
                clear hv hlk
                cases lk with
                | none =>
                  obtain ⟨w5, hp5, hm5, hg5⟩ := is_put HI3.out.ck.log_ (fr + (k : Int)) v
                  have HN5 := Aside0.mk (HI3.out.put HVK.out (by rw [HLK.out]; simp) hm5 hg5)
                  clear hm5 hg5
                  dsimp only [Option.getD, Option.isSome] at q
                  go_wp2_with fail
                  exact ⟨⟨k + 1, _, by omega, rfl, HN5.out⟩, HJ2.out⟩
                | some u =>
                  dsimp only [Option.getD, Option.isSome] at q
                  by_cases huv : u = v
                  · subst huv
                    obtain ⟨w5, hp5, hm5, hg5⟩ := is_put HI3.out.ck.log_ (fr + (k : Int)) u
                    have HN5 := Aside0.mk (HI3.out.put HVK.out (by rw [HLK.out]; simp) hm5 hg5)
                    clear hm5 hg5
                    go_wp2_with fail
                    exact ⟨⟨k + 1, _, by omega, rfl, HN5.out⟩, HJ2.out⟩
                  · have HB5 := Aside0.mk (HI3.out.bad HVK.out (by rw [HLK.out]; exact ⟨rfl, huv⟩))
                    have HBAD := Aside0.mk (D1.stop HI1.out.go HDR.out (by rw [HSF.out]; exact HB5.out))
                    have huv2 : ¬ u.toList = v.toList := fun e => huv (by have := toList_beq u v; rw [e, beq_self_eq_true] at this; exact of_decide_eq_true this.symm)
                    have huv3 : (u.toList == v.toList) = false := by rw [toList_beq]; exact decide_eq_false huv
                    clear huv
                    go_wp2_with fail
                    try simp only [Exit.noGoto]
                    go_ret
                    exact ⟨⟨51, rfl, HOUT.out 51 (checkR_51 HBAD.out).symm⟩, HI3.out.ck.below_⟩
              · have hd : ¬ (k : Int) < (vl.length : Int) := by omega
                obtain rfl : k = vl.length := by omega
                have HPA := Aside0.mk (show putAll fr vl log = some log2 from by rw [HI3.out.go, List.drop_eq_nil_of_le (Nat.le_refl _), putAll])
                have y0 := (blk_cell HI3.out.bk 0).trans rfl
                have y4 := (blk_cell HI3.out.bk 4).trans rfl
                have HN6 := Aside0.mk (show D1 w aD aP aL bL bO bP AD cD ds ps D (i + 1) log2 own wr from ⟨(D1.next HI1.out.go HDR.out (by rw [HLB2.out, HRK.out]; have := HNG.out; omega) (.inl rfl) (by rw [HSF.out]; exact HPA.out)).trans (by rw [if_pos rfl]), HI3.out.ck⟩)
                go_wp2_with fail
                exact ⟨⟨i + 1, _, _, by omega, rfl, HAD.out ▸ HN6.out⟩, HJ.out⟩
          | false =>
            by_cases how : (own of).getD false = true
            · have HOW := Aside0.mk how
              have HBAD := Aside0.mk (show doneF D D (fun _ => none) (fun _ => none) = none from by rw [HI1.out.go, HDR.out, doneF, if_pos (.inr ⟨rfl, how⟩)])
              clear how
              replace BK := Aside0.mk (blk_drew BK.out)
              replace HC := Aside0.mk (HC.out.below (below_drew1 (Below.refl _ _)))
              refine start_ (n := 18) (S := fun w' => w'.heap[g]? = some (.cells #[.bool false, .bool dn, .int .i64 bg, .int .i64 fi, .int .i64 of, .string va, .slice A1 vs.length c1] 34 (0, 0)) ∧ CkI w aD aP aL bL bO bP AD cD ds ps log own w') (ds := []) #[false, false, false, false, false, false, false, false, false, false, false, false, false, false, false, false, false, false] (by kernel_rfl) rfl rfl ⟨BK.out, HC.out⟩ (fun hHeld => ?_); refine with_tabW tabK12 bitsK12 (fun HT_ HW_ => ?_)
              generalize hwd : W1.drew = wd at BK HC hHeld ⊢
              refine take_ (i := 0) (N := (some 41)) (v := .func (.func 26) #[] #[.pointer (some ⟨aD, 0, none⟩)]) #[true, false, false, false, false, false, false, false, false, false, false, false, false, false, false, false, false, false] rfl rfl (take_ofW HT_.out HW_.out (by kernel_rfl)) (fun _ _ _ h => h) (Or.inl ⟨by rfl, fun w' s0 => (by have q := s0.2.least_; go_simp)⟩) hHeld rfl ?_
              refine norm_ (a' := ?_) ?_ ?_
              rotate_left
              · show Act.put _ (some 41) _ = _
                simp only [Act.put, List.setIfInBounds_toArray, List.set_cons_zero, List.set_cons_succ, i64_w, i32_w]
                rfl
              refine pure_ (i := 1) (N := (some 42)) (v := ?_) (a' := ?_) #[true, true, false, false, false, false, false, false, false, false, false, false, false, false, false, false, false, false] rfl rfl (any_of HT_.out (by kernel_rfl)) (fun _ _ _ h => h) (Or.inl ⟨by rfl, ?_⟩) ?_ ?_
              rotate_left
              · intro w'
                go_simp
                with_reducible rfl
              rotate_left
              · simp only [Act.put, List.setIfInBounds_toArray, List.set_cons_zero, List.set_cons_succ, i64_w, i32_w]
                rfl
              refine take_ (i := 2) (N := (some 43)) (v := .int .i64 bg) #[true, true, true, false, false, false, false, false, false, false, false, false, false, false, false, false, false, false] rfl rfl (take_ofW HT_.out HW_.out (by kernel_rfl)) (fun _ _ _ h => h) (Or.inl ⟨by rfl, fun w' s0 => (by have q := (show w'.cell? ⟨g, 2, none⟩ = some (.int .i64 bg) from (blk_cell s0.1 2).trans rfl); go_simp)⟩) hHeld rfl ?_
              refine norm_ (a' := ?_) ?_ ?_
              rotate_left
              · show Act.put _ (some 43) _ = _
                simp only [Act.put, List.setIfInBounds_toArray, List.set_cons_zero, List.set_cons_succ, i64_w, i32_w]
                rfl
              refine take_ (i := 4) (N := (some 45)) (v := .agg #[.bool false, .bool dn, .int .i64 bg, .int .i64 fi, .int .i64 of, .string va, .slice A1 vs.length c1]) #[true, true, true, false, true, false, false, false, false, false, false, false, false, false, false, false, false, false] rfl rfl (take_ofW HT_.out HW_.out (by kernel_rfl)) (fun _ _ _ h => h) (Or.inl ⟨by rfl, fun w' s0 => run_load34 _ _ (.tmp 9) rfl rfl (box_load s0.1)⟩) hHeld rfl ?_
              refine norm_ (a' := ?_) ?_ ?_
              rotate_left
              · show Act.put _ (some 45) _ = _
                simp only [Act.put, List.setIfInBounds_toArray, List.set_cons_zero, List.set_cons_succ, i64_w, i32_w]
                rfl
              refine one_ (i := 3) (N := (some 44)) #[true, true, true, true, true, false, false, false, false, false, false, false, false, false, false, false, false, false] rfl rfl (one_of HT_.out (by kernel_rfl)) (by decide) (fun K hK => ?_)
              refine goesf_ Try.func26 (by kernel_rfl) rfl #[.int .i64 bg, .pointer (some ⟨aD, 0, none⟩)] (by rfl) rfl ⟨_, _, rfl, rfl, by (simp only [List.map_toArray, List.map_cons, List.map_nil, List.append_toArray, List.cons_append, List.nil_append]; first | done | rfl)⟩ ?_
              refine (least_c bg aD ds wd HC.out.done_ HDV.out).mono ?_
              rintro e' w2 ⟨rfl, hb2⟩
              have BK2 := Aside0.mk (blk_below BK.out hb2)
              have HC2 := Aside0.mk (HC.out.below hb2)
              clear hb2
              refine ⟨.int .i64 lb, by rw [HLB.out], ?_⟩
              refine hK.out _ _ ⟨BK2.out, HC2.out⟩ (fun hHeld => ?_)
              clear hK K
              refine norm_ (a' := ?_) ?_ ?_
              rotate_left
              · show Act.put _ (some 44) _ = _
                simp only [Act.put, List.setIfInBounds_toArray, List.set_cons_zero, List.set_cons_succ, i64_w, i32_w]
                rfl
              refine one_ (i := 5) (N := (some 46)) #[true, true, true, true, true, true, false, false, false, false, false, false, false, false, false, false, false, false] rfl rfl (one_of HT_.out (by kernel_rfl)) (by decide) (fun K hK => ?_)
              refine goes_ Try.func27 (by kernel_rfl) rfl #[.agg #[.bool false, .bool dn, .int .i64 bg, .int .i64 fi, .int .i64 of, .string va, .slice A1 vs.length c1]] (by rfl) rfl rfl (by (try simp only [List.map_toArray, List.map_cons, List.map_nil]); first | done | rfl) ?_
              refine (rank_c ⟨⟨false, dn, bg, fi, of, va, vs⟩, A1, vs.length, c1⟩ rfl HSM.out w2).mono ?_
              rintro e' w3 ⟨rfl, hb3⟩
              have BK3 := Aside0.mk (blk_below BK2.out hb3)
              have HC3 := Aside0.mk (HC2.out.below hb3)
              clear hb3
              refine ⟨.int .i64 rk, by rw [HRK.out], ?_⟩
              refine hK.out _ _ ⟨BK3.out, HC3.out⟩ (fun hHeld => ?_)
              clear hK K
              refine norm_ (a' := ?_) ?_ ?_
              rotate_left
              · show Act.put _ (some 46) _ = _
                simp only [Act.put, List.setIfInBounds_toArray, List.set_cons_zero, List.set_cons_succ, i64_w, i32_w]
                rfl
              refine pure_ (i := 6) (N := (some 47)) (v := ?_) (a' := ?_) #[true, true, true, true, true, true, true, false, false, false, false, false, false, false, false, false, false, false] rfl rfl (any_of HT_.out (by kernel_rfl)) (fun _ _ _ h => h) (Or.inl ⟨by rfl, ?_⟩) ?_ ?_
              rotate_left
              · intro w'
                go_simp
                with_reducible rfl
              rotate_left
              · simp only [Act.put, List.setIfInBounds_toArray, List.set_cons_zero, List.set_cons_succ, i64_w, i32_w]
                rfl
              simp only [HGT.out]
              refine pure_ (i := 7) (N := (some 48)) (v := ?_) (a' := ?_) #[true, true, true, true, true, true, true, true, false, false, false, false, false, false, false, false, false, false] rfl rfl (any_of HT_.out (by kernel_rfl)) (fun _ _ _ h => h) (Or.inl ⟨by rfl, ?_⟩) ?_ ?_
              rotate_left
              · intro w'
                go_simp
                with_reducible rfl
              rotate_left
              · simp only [Act.put, List.setIfInBounds_toArray, List.set_cons_zero, List.set_cons_succ, i64_w, i32_w]
                rfl
              refine pure_ (i := 8) (N := (some 49)) (v := ?_) (a' := ?_) #[true, true, true, true, true, true, true, true, true, false, false, false, false, false, false, false, false, false] rfl rfl (any_of HT_.out (by kernel_rfl)) (fun _ _ _ h => h) (Or.inl ⟨by rfl, ?_⟩) ?_ ?_
              rotate_left
              · intro w'
                go_simp
                with_reducible rfl
              rotate_left
              · simp only [Act.put, List.setIfInBounds_toArray, List.set_cons_zero, List.set_cons_succ, i64_w, i32_w]
                rfl
              refine take_ (i := 9) (N := (some 50)) (v := .bool false) #[true, true, true, true, true, true, true, true, true, true, false, false, false, false, false, false, false, false] rfl rfl (take_ofW HT_.out HW_.out (by kernel_rfl)) (fun _ _ _ h => h) (Or.inl ⟨by rfl, fun w' s0 => (by have q := (show w'.cell? ⟨g, 0, none⟩ = some (.bool false) from (blk_cell s0.1 0).trans rfl); go_simp)⟩) hHeld rfl ?_
              refine norm_ (a' := ?_) ?_ ?_
              rotate_left
              · show Act.put _ (some 50) _ = _
                simp only [Act.put, List.setIfInBounds_toArray, List.set_cons_zero, List.set_cons_succ, i64_w, i32_w]
                rfl
              refine pure_ (i := 10) (N := (some 51)) (v := ?_) (a' := ?_) #[true, true, true, true, true, true, true, true, true, true, true, false, false, false, false, false, false, false] rfl rfl (any_of HT_.out (by kernel_rfl)) (fun _ _ _ h => h) (Or.inl ⟨by rfl, ?_⟩) ?_ ?_
              rotate_left
              · intro w'
                go_simp
                with_reducible rfl
              rotate_left
              · simp only [Act.put, List.setIfInBounds_toArray, List.set_cons_zero, List.set_cons_succ, i64_w, i32_w]
                rfl
              refine pure_ (i := 11) (N := (some 52)) (v := ?_) (a' := ?_) #[true, true, true, true, true, true, true, true, true, true, true, true, false, false, false, false, false, false] rfl rfl (any_of HT_.out (by kernel_rfl)) (fun _ _ _ h => h) (Or.inl ⟨by rfl, ?_⟩) ?_ ?_
              rotate_left
              · intro w'
                go_simp
                with_reducible rfl
              rotate_left
              · simp only [Act.put, List.setIfInBounds_toArray, List.set_cons_zero, List.set_cons_succ, i64_w, i32_w]
                rfl
              refine pure_ (i := 12) (N := (some 53)) (v := ?_) (a' := ?_) #[true, true, true, true, true, true, true, true, true, true, true, true, true, false, false, false, false, false] rfl rfl (any_of HT_.out (by kernel_rfl)) (fun _ _ _ h => h) (Or.inl ⟨by rfl, ?_⟩) ?_ ?_
              rotate_left
              · intro w'
                go_simp
                with_reducible rfl
              rotate_left
              · simp only [Act.put, List.setIfInBounds_toArray, List.set_cons_zero, List.set_cons_succ, i64_w, i32_w]
                rfl
              refine pure_ (i := 13) (N := (some 54)) (v := ?_) (a' := ?_) #[true, true, true, true, true, true, true, true, true, true, true, true, true, true, false, false, false, false] rfl rfl (any_of HT_.out (by kernel_rfl)) (fun _ _ _ h => h) (Or.inl ⟨by rfl, ?_⟩) ?_ ?_
              rotate_left
              · intro w'
                go_simp
                with_reducible rfl
              rotate_left
              · simp only [Act.put, List.setIfInBounds_toArray, List.set_cons_zero, List.set_cons_succ, i64_w, i32_w]
                rfl
              refine take_ (i := 14) (N := (some 55)) (v := .int .i64 of) #[true, true, true, true, true, true, true, true, true, true, true, true, true, true, true, false, false, false] rfl rfl (take_ofW HT_.out HW_.out (by kernel_rfl)) (fun _ _ _ h => h) (Or.inl ⟨by rfl, fun w' s0 => (by have q := (show w'.cell? ⟨g, 4, none⟩ = some (.int .i64 of) from (blk_cell s0.1 4).trans rfl); go_simp)⟩) hHeld rfl ?_
              refine norm_ (a' := ?_) ?_ ?_
              rotate_left
              · show Act.put _ (some 55) _ = _
                simp only [Act.put, List.setIfInBounds_toArray, List.set_cons_zero, List.set_cons_succ, i64_w, i32_w]
                rfl
              refine take_ (i := 15) (N := (some 56)) (v := .bool true) #[true, true, true, true, true, true, true, true, true, true, true, true, true, true, true, true, false, false] rfl rfl (take_ofW HT_.out HW_.out (by kernel_rfl)) (fun _ _ _ h => h) (Or.inl ⟨by rfl, fun w' s0 => run_look _ _ 56 (.tmp 53) (.tmp 55) false rfl rfl rfl (by have q := ib_look s0.2.own_ of; rw [HOW.out] at q; exact q)⟩) hHeld rfl ?_
              refine norm_ (a' := ?_) ?_ ?_
              rotate_left
              · show Act.put _ (some 56) _ = _
                simp only [Act.put, List.setIfInBounds_toArray, List.set_cons_zero, List.set_cons_succ, i64_w, i32_w]
                rfl
              refine pure_ (i := 16) (N := (some 57)) (v := ?_) (a' := ?_) #[true, true, true, true, true, true, true, true, true, true, true, true, true, true, true, true, true, false] rfl rfl (any_of HT_.out (by kernel_rfl)) (fun _ _ _ h => h) (Or.inl ⟨by rfl, ?_⟩) ?_ ?_
              rotate_left
              · intro w'
                go_simp
                with_reducible rfl
              rotate_left
              · simp only [Act.put, List.setIfInBounds_toArray, List.set_cons_zero, List.set_cons_succ, i64_w, i32_w]
                rfl
              refine pure_ (i := 17) (N := (some 58)) (v := ?_) (a' := ?_) #[true, true, true, true, true, true, true, true, true, true, true, true, true, true, true, true, true, true] rfl rfl (any_of HT_.out (by kernel_rfl)) (fun _ _ _ h => h) (Or.inl ⟨by rfl, ?_⟩) ?_ ?_
              rotate_left
              · intro w'
                go_simp
                with_reducible rfl
              rotate_left
              · simp only [Act.put, List.setIfInBounds_toArray, List.set_cons_zero, List.set_cons_succ, i64_w, i32_w]
                rfl
              refine done_ (done_of HT_.out (by kernel_rfl)) ?_
              clear hHeld HT_ HW_ BK HC BK2 HC2 hwd
              go_wp2_with fail
              try simp only [Exit.noGoto]
              go_ret
              exact ⟨⟨51, rfl, HOUT.out 51 (checkR_51 HBAD.out).symm⟩, HC3.out.below_⟩
            · have HOW := Aside0.mk (show (own of).getD false = false from by simpa using how)
              clear how
              replace BK := Aside0.mk (blk_drew BK.out)
              replace HC := Aside0.mk (HC.out.below (below_drew1 (Below.refl _ _)))
              refine start_ (n := 18) (S := fun w' => w'.heap[g]? = some (.cells #[.bool false, .bool dn, .int .i64 bg, .int .i64 fi, .int .i64 of, .string va, .slice A1 vs.length c1] 34 (0, 0)) ∧ CkI w aD aP aL bL bO bP AD cD ds ps log own w') (ds := []) #[false, false, false, false, false, false, false, false, false, false, false, false, false, false, false, false, false, false] (by kernel_rfl) rfl rfl ⟨BK.out, HC.out⟩ (fun hHeld => ?_); refine with_tabW tabK12 bitsK12 (fun HT_ HW_ => ?_)
              generalize hwd : W1.drew = wd at BK HC hHeld ⊢
              refine take_ (i := 0) (N := (some 41)) (v := .func (.func 26) #[] #[.pointer (some ⟨aD, 0, none⟩)]) #[true, false, false, false, false, false, false, false, false, false, false, false, false, false, false, false, false, false] rfl rfl (take_ofW HT_.out HW_.out (by kernel_rfl)) (fun _ _ _ h => h) (Or.inl ⟨by rfl, fun w' s0 => (by have q := s0.2.least_; go_simp)⟩) hHeld rfl ?_
              refine norm_ (a' := ?_) ?_ ?_
              rotate_left
              · show Act.put _ (some 41) _ = _
                simp only [Act.put, List.setIfInBounds_toArray, List.set_cons_zero, List.set_cons_succ, i64_w, i32_w]
                rfl
              refine pure_ (i := 1) (N := (some 42)) (v := ?_) (a' := ?_) #[true, true, false, false, false, false, false, false, false, false, false, false, false, false, false, false, false, false] rfl rfl (any_of HT_.out (by kernel_rfl)) (fun _ _ _ h => h) (Or.inl ⟨by rfl, ?_⟩) ?_ ?_
              rotate_left
              · intro w'
                go_simp
                with_reducible rfl
              rotate_left
              · simp only [Act.put, List.setIfInBounds_toArray, List.set_cons_zero, List.set_cons_succ, i64_w, i32_w]
                rfl
              refine take_ (i := 2) (N := (some 43)) (v := .int .i64 bg) #[true, true, true, false, false, false, false, false, false, false, false, false, false, false, false, false, false, false] rfl rfl (take_ofW HT_.out HW_.out (by kernel_rfl)) (fun _ _ _ h => h) (Or.inl ⟨by rfl, fun w' s0 => (by have q := (show w'.cell? ⟨g, 2, none⟩ = some (.int .i64 bg) from (blk_cell s0.1 2).trans rfl); go_simp)⟩) hHeld rfl ?_
              refine norm_ (a' := ?_) ?_ ?_
              rotate_left
              · show Act.put _ (some 43) _ = _
                simp only [Act.put, List.setIfInBounds_toArray, List.set_cons_zero, List.set_cons_succ, i64_w, i32_w]
                rfl
              refine take_ (i := 4) (N := (some 45)) (v := .agg #[.bool false, .bool dn, .int .i64 bg, .int .i64 fi, .int .i64 of, .string va, .slice A1 vs.length c1]) #[true, true, true, false, true, false, false, false, false, false, false, false, false, false, false, false, false, false] rfl rfl (take_ofW HT_.out HW_.out (by kernel_rfl)) (fun _ _ _ h => h) (Or.inl ⟨by rfl, fun w' s0 => run_load34 _ _ (.tmp 9) rfl rfl (box_load s0.1)⟩) hHeld rfl ?_
              refine norm_ (a' := ?_) ?_ ?_
              rotate_left
              · show Act.put _ (some 45) _ = _
                simp only [Act.put, List.setIfInBounds_toArray, List.set_cons_zero, List.set_cons_succ, i64_w, i32_w]
                rfl
              refine one_ (i := 3) (N := (some 44)) #[true, true, true, true, true, false, false, false, false, false, false, false, false, false, false, false, false, false] rfl rfl (one_of HT_.out (by kernel_rfl)) (by decide) (fun K hK => ?_)
              refine goesf_ Try.func26 (by kernel_rfl) rfl #[.int .i64 bg, .pointer (some ⟨aD, 0, none⟩)] (by rfl) rfl ⟨_, _, rfl, rfl, by (simp only [List.map_toArray, List.map_cons, List.map_nil, List.append_toArray, List.cons_append, List.nil_append]; first | done | rfl)⟩ ?_
              refine (least_c bg aD ds wd HC.out.done_ HDV.out).mono ?_
              rintro e' w2 ⟨rfl, hb2⟩
              have BK2 := Aside0.mk (blk_below BK.out hb2)
              have HC2 := Aside0.mk (HC.out.below hb2)
              clear hb2
              refine ⟨.int .i64 lb, by rw [HLB.out], ?_⟩
              refine hK.out _ _ ⟨BK2.out, HC2.out⟩ (fun hHeld => ?_)
              clear hK K
              refine norm_ (a' := ?_) ?_ ?_
              rotate_left
              · show Act.put _ (some 44) _ = _
                simp only [Act.put, List.setIfInBounds_toArray, List.set_cons_zero, List.set_cons_succ, i64_w, i32_w]
                rfl
              refine one_ (i := 5) (N := (some 46)) #[true, true, true, true, true, true, false, false, false, false, false, false, false, false, false, false, false, false] rfl rfl (one_of HT_.out (by kernel_rfl)) (by decide) (fun K hK => ?_)
              refine goes_ Try.func27 (by kernel_rfl) rfl #[.agg #[.bool false, .bool dn, .int .i64 bg, .int .i64 fi, .int .i64 of, .string va, .slice A1 vs.length c1]] (by rfl) rfl rfl (by (try simp only [List.map_toArray, List.map_cons, List.map_nil]); first | done | rfl) ?_
              refine (rank_c ⟨⟨false, dn, bg, fi, of, va, vs⟩, A1, vs.length, c1⟩ rfl HSM.out w2).mono ?_
              rintro e' w3 ⟨rfl, hb3⟩
              have BK3 := Aside0.mk (blk_below BK2.out hb3)
              have HC3 := Aside0.mk (HC2.out.below hb3)
              clear hb3
              refine ⟨.int .i64 rk, by rw [HRK.out], ?_⟩
              refine hK.out _ _ ⟨BK3.out, HC3.out⟩ (fun hHeld => ?_)
              clear hK K
              refine norm_ (a' := ?_) ?_ ?_
              rotate_left
              · show Act.put _ (some 46) _ = _
                simp only [Act.put, List.setIfInBounds_toArray, List.set_cons_zero, List.set_cons_succ, i64_w, i32_w]
                rfl
              refine pure_ (i := 6) (N := (some 47)) (v := ?_) (a' := ?_) #[true, true, true, true, true, true, true, false, false, false, false, false, false, false, false, false, false, false] rfl rfl (any_of HT_.out (by kernel_rfl)) (fun _ _ _ h => h) (Or.inl ⟨by rfl, ?_⟩) ?_ ?_
              rotate_left
              · intro w'
                go_simp
                with_reducible rfl
              rotate_left
              · simp only [Act.put, List.setIfInBounds_toArray, List.set_cons_zero, List.set_cons_succ, i64_w, i32_w]
                rfl
              simp only [HGT.out]
              refine pure_ (i := 7) (N := (some 48)) (v := ?_) (a' := ?_) #[true, true, true, true, true, true, true, true, false, false, false, false, false, false, false, false, false, false] rfl rfl (any_of HT_.out (by kernel_rfl)) (fun _ _ _ h => h) (Or.inl ⟨by rfl, ?_⟩) ?_ ?_
              rotate_left
              · intro w'
                go_simp
                with_reducible rfl
              rotate_left
              · simp only [Act.put, List.setIfInBounds_toArray, List.set_cons_zero, List.set_cons_succ, i64_w, i32_w]
                rfl
              refine pure_ (i := 8) (N := (some 49)) (v := ?_) (a' := ?_) #[true, true, true, true, true, true, true, true, true, false, false, false, false, false, false, false, false, false] rfl rfl (any_of HT_.out (by kernel_rfl)) (fun _ _ _ h => h) (Or.inl ⟨by rfl, ?_⟩) ?_ ?_
              rotate_left
              · intro w'
                go_simp
                with_reducible rfl
              rotate_left
              · simp only [Act.put, List.setIfInBounds_toArray, List.set_cons_zero, List.set_cons_succ, i64_w, i32_w]
                rfl
              refine take_ (i := 9) (N := (some 50)) (v := .bool false) #[true, true, true, true, true, true, true, true, true, true, false, false, false, false, false, false, false, false] rfl rfl (take_ofW HT_.out HW_.out (by kernel_rfl)) (fun _ _ _ h => h) (Or.inl ⟨by rfl, fun w' s0 => (by have q := (show w'.cell? ⟨g, 0, none⟩ = some (.bool false) from (blk_cell s0.1 0).trans rfl); go_simp)⟩) hHeld rfl ?_
              refine norm_ (a' := ?_) ?_ ?_
              rotate_left
              · show Act.put _ (some 50) _ = _
                simp only [Act.put, List.setIfInBounds_toArray, List.set_cons_zero, List.set_cons_succ, i64_w, i32_w]
                rfl
              refine pure_ (i := 10) (N := (some 51)) (v := ?_) (a' := ?_) #[true, true, true, true, true, true, true, true, true, true, true, false, false, false, false, false, false, false] rfl rfl (any_of HT_.out (by kernel_rfl)) (fun _ _ _ h => h) (Or.inl ⟨by rfl, ?_⟩) ?_ ?_
              rotate_left
              · intro w'
                go_simp
                with_reducible rfl
              rotate_left
              · simp only [Act.put, List.setIfInBounds_toArray, List.set_cons_zero, List.set_cons_succ, i64_w, i32_w]
                rfl
              refine pure_ (i := 11) (N := (some 52)) (v := ?_) (a' := ?_) #[true, true, true, true, true, true, true, true, true, true, true, true, false, false, false, false, false, false] rfl rfl (any_of HT_.out (by kernel_rfl)) (fun _ _ _ h => h) (Or.inl ⟨by rfl, ?_⟩) ?_ ?_
              rotate_left
              · intro w'
                go_simp
                with_reducible rfl
              rotate_left
              · simp only [Act.put, List.setIfInBounds_toArray, List.set_cons_zero, List.set_cons_succ, i64_w, i32_w]
                rfl
              refine pure_ (i := 12) (N := (some 53)) (v := ?_) (a' := ?_) #[true, true, true, true, true, true, true, true, true, true, true, true, true, false, false, false, false, false] rfl rfl (any_of HT_.out (by kernel_rfl)) (fun _ _ _ h => h) (Or.inl ⟨by rfl, ?_⟩) ?_ ?_
              rotate_left
              · intro w'
                go_simp
                with_reducible rfl
              rotate_left
              · simp only [Act.put, List.setIfInBounds_toArray, List.set_cons_zero, List.set_cons_succ, i64_w, i32_w]
                rfl
              refine pure_ (i := 13) (N := (some 54)) (v := ?_) (a' := ?_) #[true, true, true, true, true, true, true, true, true, true, true, true, true, true, false, false, false, false] rfl rfl (any_of HT_.out (by kernel_rfl)) (fun _ _ _ h => h) (Or.inl ⟨by rfl, ?_⟩) ?_ ?_
              rotate_left
              · intro w'
                go_simp
                with_reducible rfl
              rotate_left
              · simp only [Act.put, List.setIfInBounds_toArray, List.set_cons_zero, List.set_cons_succ, i64_w, i32_w]
                rfl
              refine take_ (i := 14) (N := (some 55)) (v := .int .i64 of) #[true, true, true, true, true, true, true, true, true, true, true, true, true, true, true, false, false, false] rfl rfl (take_ofW HT_.out HW_.out (by kernel_rfl)) (fun _ _ _ h => h) (Or.inl ⟨by rfl, fun w' s0 => (by have q := (show w'.cell? ⟨g, 4, none⟩ = some (.int .i64 of) from (blk_cell s0.1 4).trans rfl); go_simp)⟩) hHeld rfl ?_
              refine norm_ (a' := ?_) ?_ ?_
              rotate_left
              · show Act.put _ (some 55) _ = _
                simp only [Act.put, List.setIfInBounds_toArray, List.set_cons_zero, List.set_cons_succ, i64_w, i32_w]
                rfl
              refine take_ (i := 15) (N := (some 56)) (v := .bool false) #[true, true, true, true, true, true, true, true, true, true, true, true, true, true, true, true, false, false] rfl rfl (take_ofW HT_.out HW_.out (by kernel_rfl)) (fun _ _ _ h => h) (Or.inl ⟨by rfl, fun w' s0 => run_look _ _ 56 (.tmp 53) (.tmp 55) false rfl rfl rfl (by have q := ib_look s0.2.own_ of; rw [HOW.out] at q; exact q)⟩) hHeld rfl ?_
              refine norm_ (a' := ?_) ?_ ?_
              rotate_left
              · show Act.put _ (some 56) _ = _
                simp only [Act.put, List.setIfInBounds_toArray, List.set_cons_zero, List.set_cons_succ, i64_w, i32_w]
                rfl
              refine pure_ (i := 16) (N := (some 57)) (v := ?_) (a' := ?_) #[true, true, true, true, true, true, true, true, true, true, true, true, true, true, true, true, true, false] rfl rfl (any_of HT_.out (by kernel_rfl)) (fun _ _ _ h => h) (Or.inl ⟨by rfl, ?_⟩) ?_ ?_
              rotate_left
              · intro w'
                go_simp
                with_reducible rfl
              rotate_left
              · simp only [Act.put, List.setIfInBounds_toArray, List.set_cons_zero, List.set_cons_succ, i64_w, i32_w]
                rfl
              refine pure_ (i := 17) (N := (some 58)) (v := ?_) (a' := ?_) #[true, true, true, true, true, true, true, true, true, true, true, true, true, true, true, true, true, true] rfl rfl (any_of HT_.out (by kernel_rfl)) (fun _ _ _ h => h) (Or.inl ⟨by rfl, ?_⟩) ?_ ?_
              rotate_left
              · intro w'
                go_simp
                with_reducible rfl
              rotate_left
              · simp only [Act.put, List.setIfInBounds_toArray, List.set_cons_zero, List.set_cons_succ, i64_w, i32_w]
                rfl
              refine done_ (done_of HT_.out (by kernel_rfl)) ?_
              clear hHeld HT_ HW_ BK HC BK2 HC2 hwd
              have z0 := (blk_cell BK3.out 0).trans rfl
              have z1 := (blk_cell BK3.out 1).trans rfl
              have z2 := (blk_cell BK3.out 2).trans rfl
              have z3 := (blk_cell BK3.out 3).trans rfl
              have z4 := (blk_cell BK3.out 4).trans rfl
              have z5 := (blk_cell BK3.out 5).trans rfl
              have z6 := (blk_cell BK3.out 6).trans rfl
              have HSW := Aside0.mk (shows_c ⟨⟨false, dn, bg, fi, of, va, vs⟩, A1, vs.length, c1⟩ w3 (HVX.out.below HC3.out.below_))
              obtain ⟨q1, q2, q3⟩ := showsF_small HSM.out
              dsimp only at HSW q1 q2 q3
              obtain ⟨s, hs⟩ : ∃ s, showsF ⟨false, dn, bg, fi, of, va, vs⟩ = s := ⟨_, rfl⟩
              rw [hs] at HSW q1 q2 q3
              obtain ⟨fr, vl⟩ := s
              have HSF := Aside0.mk hs
              dsimp only at HSW q1 q2 q3
              have HQ := Aside0.mk (And.intro q1 (And.intro q2 q3))
              clear hs q1 q2 q3
              go_wp2_with (go_at_call 28; refine HSW.out.mono ?_; rintro e' w4 ⟨A3, c3, rfl, g1, g2, hb4⟩; have HI2 := Aside0.mk (show D2 w aD aP aL bL bO bP AD cD ds ps own g #[.bool false, .bool dn, .int .i64 bg, .int .i64 fi, .int .i64 of, .string va, .slice A1 vs.length c1] A3 fr vl log 0 log w4 from ⟨by rw [List.drop_zero]; simp, HC3.out.below hb4, blk_below BK3.out hb4, g2⟩); clear g1 g2 hb4 z0 z1 z2 z3 z4 z5 z6)
              go_loopw [66] (fun u66 wr2 => ∃ (k : Nat) (log2 : Int → Option ByteArray), k ≤ vl.length ∧ u66 = .int .i64 k ∧ D2 w aD aP aL bL bO bP AD cD ds ps own g #[.bool false, .bool dn, .int .i64 bg, .int .i64 fi, .int .i64 of, .string va, .slice A1 vs.length c1] A3 fr vl log k log2 wr2) (fun u66 wr2 => vl.length - (intOf u66).toNat)
              case atStart => exact ⟨0, log, by omega, rfl, HI2.out⟩
              case round =>
                obtain ⟨k, log2, hk, rfl, hri⟩ := hrel
                have HI3 := Aside0.mk hri
                clear hri HI2
                by_cases hk1 : k < vl.length
                · have hd : (k : Int) < (vl.length : Int) := by omega
                  obtain ⟨v, hv⟩ : ∃ v, vl[k]? = some v := ⟨_, List.getElem?_eq_getElem hk1⟩
                  obtain ⟨ad3, hA3, y⟩ := at_S HI3.out.vc k hk1 v hv
                  have hvm : vl.length ≤ 9223372036854775807 := by have := HQ.out; omega
                  subst hA3
                  have HVK := Aside0.mk hv
                  have hq : wrap64 (fr + (k : Int)) = fr + (k : Int) := by have := HQ.out; unfold wrap64; omega
                  have q := is_look2 HI3.out.ck.log_ (fr + (k : Int))
                  have HJ2 := Aside0.mk (show vl.length - (intOf (.int .i64 ((k : Int) + 1))).toNat < vl.length - (intOf (.int .i64 (k : Int))).toNat from by simp only [intOf]; omega)
                  obtain ⟨lk, hlk⟩ : ∃ lk, log2 (fr + (k : Int)) = lk := ⟨_, rfl⟩
                  have HLK := Aside0.mk hlk
                  rw [hlk] at q
                  clear hv hlk
                  cases lk with
                  | none =>
                    obtain ⟨w5, hp5, hm5, hg5⟩ := is_put HI3.out.ck.log_ (fr + (k : Int)) v
                    have HN5 := Aside0.mk (HI3.out.put HVK.out (by rw [HLK.out]; simp) hm5 hg5)
                    clear hm5 hg5
                    dsimp only [Option.getD, Option.isSome] at q
                    go_wp2_with fail
                    exact ⟨⟨k + 1, _, by omega, rfl, HN5.out⟩, HJ2.out⟩
                  | some u =>
                    dsimp only [Option.getD, Option.isSome] at q
                    by_cases huv : u = v
                    · subst huv
                      obtain ⟨w5, hp5, hm5, hg5⟩ := is_put HI3.out.ck.log_ (fr + (k : Int)) u
                      have HN5 := Aside0.mk (HI3.out.put HVK.out (by rw [HLK.out]; simp) hm5 hg5)
                      clear hm5 hg5
                      go_wp2_with fail
                      exact ⟨⟨k + 1, _, by omega, rfl, HN5.out⟩, HJ2.out⟩
                    · have HB5 := Aside0.mk (HI3.out.bad HVK.out (by rw [HLK.out]; exact ⟨rfl, huv⟩))
                      have HBAD := Aside0.mk (D1.stop HI1.out.go HDR.out (by rw [HSF.out]; exact HB5.out))
                      have huv2 : ¬ u.toList = v.toList := fun e => huv (by have := toList_beq u v; rw [e, beq_self_eq_true] at this; exact of_decide_eq_true this.symm)
                      have huv3 : (u.toList == v.toList) = false := by rw [toList_beq]; exact decide_eq_false huv
                      clear huv
                      go_wp2_with fail
                      try simp only [Exit.noGoto]
                      go_ret
                      exact ⟨⟨51, rfl, HOUT.out 51 (checkR_51 HBAD.out).symm⟩, HI3.out.ck.below_⟩
                · have hd : ¬ (k : Int) < (vl.length : Int) := by omega
                  obtain rfl : k = vl.length := by omega
                  have HPA := Aside0.mk (show putAll fr vl log = some log2 from by rw [HI3.out.go, List.drop_eq_nil_of_le (Nat.le_refl _), putAll])
                  have y0 := (blk_cell HI3.out.bk 0).trans rfl
                  have y4 := (blk_cell HI3.out.bk 4).trans rfl
                  obtain ⟨w5, hp5, hm5, hg5⟩ := ib_put HI3.out.ck.own_ of true
                  have HN6 := Aside0.mk (show D1 w aD aP aL bL bO bP AD cD ds ps D (i + 1) log2 (putF own of true) w5 from ⟨(D1.next HI1.out.go HDR.out (by rw [HLB2.out, HRK.out]; have := HNG.out; omega) (.inr HOW.out) (by rw [HSF.out]; exact HPA.out)).trans (by rw [if_neg (show ¬ (false = true) from by decide)]), HI3.out.ck.putOwn hm5 hg5⟩)
                  clear hm5 hg5
                  go_wp2_with fail
                  exact ⟨⟨i + 1, _, _, by omega, rfl, HAD.out ▸ HN6.out⟩, HJ.out⟩
      · have hd : ¬ (i : Int) < (ds.length : Int) := by omega
        obtain rfl : i = ds.length := by omega
        have HDF := Aside0.mk (show doneF D D (fun _ => none) (fun _ => none) = some (log, own) from by rw [HI1.out.go, List.drop_eq_nil_of_le (by rw [HDD.out, List.length_map]; exact Nat.le_refl _), doneF])
        have HS6 := Aside0.mk (HSH.out wr HI1.out.ck.below_)
        have HPSL := Aside0.mk (show ps.length ≤ 1000 from by rw [HPS.out]; exact Nat.le_trans (List.length_filter_le _ _) HLEN.out)
        obtain ⟨N, hN, hN2⟩ := shownF_nat HK.out
        rw [hN] at HS6 HOUT
        rw [Int.toNat_natCast] at HOUT
        have HN2 := Aside0.mk hN2
        clear hN hN2
        go_upto_region 28 with (go_at_call 14; refine HS6.out.mono ?_; rintro e' w6 ⟨rfl, hb6⟩; have HC6 := Aside0.mk (HI1.out.ck.below hb6); clear hb6)
        refine wp_label ?_
        go_wp2_with fail
        go_loopw [17, 102] (fun u17 u102 wr => ∃ (j : Nat) (ps2 : List CallP), j ≤ 2 ∧ u102 = .int .i64 j ∧ u17 = .int .i64 N ∧ PlJ D P log own N j (ps2.map (·.1)) ∧ ps2.length ≤ 1000 ∧ CkI w aD aP aL bL bO bP AD cD ds ps2 log own wr) (fun u17 u102 wr => 2 - (intOf u102).toNat)
        case atStart => exact ⟨0, ps, by omega, rfl, rfl, HPP.out.symm, HPSL.out, HC6.out⟩
        case round =>
          obtain ⟨j, ps2, hj, rfl, rfl, hpl, hle, hck⟩ := hrel
          have HC7 := Aside0.mk hck
          clear hck HC6 HI1 hi hi1 hd
          match j, hj, hpl with
          | 0, _, hpl =>
            obtain ⟨Q, hQ⟩ : ∃ Q, Q = ps2.map (·.1) := ⟨_, rfl⟩
            have HQQ := Aside0.mk hQ
            rw [← hQ] at hpl
            have HPL := Aside0.mk hpl
            have HI5 := Aside0.mk (show PlI w aD aP aL bL bO wr.heap.size bP AD cD ds true D Q N log own 0 ps2 (wr.alloc (.cells #[.bool true] 4 (0, 0))) from ⟨by rw [Nat.sub_zero, hQ], hle, HC7.out.below (below_alloc (Below.refl _ _) _), heap_alloc_new wr _, fun e => Nat.lt_irrefl _ (HC7.out.lt _ e)⟩)
            have hNN : N ≤ 9223372036854775807 := by have := HN2.out; omega
            clear hQ hpl hle
            rw [show (((0 : Nat)) : Int) = 0 from rfl]
            have qx := idx0 wr
            go_wp2_with fail
            obtain ⟨bk, hbk⟩ : ∃ bk, wr.heap.size = bk := ⟨_, rfl⟩
            rw [hbk] at HI5
            try rw [hbk]
            clear HC7
            go_loopw [17, 106] (fun u17 u106 wr2 => ∃ (i : Nat) (ps3 : List CallP), i ≤ N ∧ u17 = .int .i64 N ∧ u106 = .int .i64 i ∧ PlI w aD aP aL bL bO bk bP AD cD ds true D Q N log own i ps3 wr2) (fun u17 u106 wr2 => N - (intOf u106).toNat)
            case atStart => exact ⟨0, ps2, by omega, rfl, rfl, HI5.out⟩
            case round =>
              obtain ⟨i, ps3, hi, rfl, rfl, hri⟩ := hrel
              have HI6 := Aside0.mk hri
              clear hri HI5
              by_cases hi1 : i < N
              · have hd : (i : Int) < (N : Int) := by omega
                obtain ⟨lk, hlk⟩ : ∃ lk, log (i : Int) = lk := ⟨_, rfl⟩
                have HLK := Aside0.mk hlk
                have q := is_look2 HI6.out.ck.log_ (i : Int)
                rw [hlk] at q
                clear hlk
                obtain ⟨ow, how⟩ : ∃ ow, (own (i : Int)).getD false = ow := ⟨_, rfl⟩
                have HOW := Aside0.mk how
                have q2 := fun (v : ByteArray) => ib_look (HI6.out.ck.below (below_alloc (Below.refl _ _) (.cells #[.string v] 9 (0, 0)))).own_ (i : Int)
                simp only [how] at q2
                clear how
                have z0 := fun (v : ByteArray) => (blk_cell (blk_alloc HI6.out.bk_ (.cells #[.string v] 9 (0, 0))) 0).trans rfl
                have HJ7 := Aside0.mk (show N - (intOf (.int .i64 ((i : Int) + 1))).toNat < N - (intOf (.int .i64 (i : Int))).toNat from by simp only [intOf]; omega)
                obtain ⟨v, ks, hvk⟩ : ∃ v ks, v = lk.getD ⟨#[]⟩ ∧ ks = lk.isSome := ⟨_, _, rfl, rfl⟩
                rw [← hvk.1, ← hvk.2] at q
                have HVK := Aside0.mk hvk
                clear hvk
                have q2 := q2 v
                have z0 := z0 v
                have HC8 := Aside0.mk (HI6.out.ck.below (below_alloc (Below.refl _ _) (.cells #[.string v] 9 (0, 0))))
                cases ow with
                | true =>
                  have HN8 := Aside0.mk (show PlI w aD aP aL bL bO bk bP AD cD ds true D Q N log own (i + 1) ps3 (wr.alloc (.cells #[.string v] 9 (0, 0))) from ⟨HI6.out.go.trans (PL.skip hi1 (.inl HOW.out)), HI6.out.len, HC8.out, blk_alloc HI6.out.bk_ _, HI6.out.far⟩)
                  go_wp2_with fail
                  exact ⟨⟨i + 1, ps3, by omega, rfl, rfl, HN8.out⟩, HJ7.out⟩
                | false =>
                  cases ks with
                  | false =>
                    have HN8 := Aside0.mk (show PlI w aD aP aL bL bO bk bP AD cD ds true D Q N log own (i + 1) ps3 (wr.alloc (.cells #[.string v] 9 (0, 0))) from ⟨HI6.out.go.trans (PL.skip hi1 (.inr (by rw [HLK.out, ← HVK.out.2]; decide))), HI6.out.len, HC8.out, blk_alloc HI6.out.bk_ _, HI6.out.far⟩)
                    go_wp2_with fail
                    exact ⟨⟨i + 1, ps3, by omega, rfl, rfl, HN8.out⟩, HJ7.out⟩
                  | true =>
                    have HNS := Aside0.mk (show ¬ ((own (i : Int)).getD false = true ∨ (log (i : Int)).isSome ≠ true) from by rw [HOW.out, HLK.out, ← HVK.out.2]; decide)
                    have HTK := Aside0.mk (take_c (i : Int) aP aL bk wr.heap.size aD bP true v ps3 ds (wr.alloc (.cells #[.string v] 9 (0, 0))) HC8.out.pend HI6.out.len HC8.out.least_ ((blk_cell (blk_alloc HI6.out.bk_ _) 0).trans rfl) ((blk_cell (heap_alloc_new wr _) 0).trans rfl) HC8.out.done_ HDV.out (by have := HN2.out; omega))
                    have HTM := Aside0.mk (takeF_map (fitF true v (i : Int) (ds.map (·.1))) ps3)
                    have HVE := Aside0.mk (show (log (i : Int)).getD ⟨#[]⟩ = v from by rw [HLK.out, HVK.out.1])
                    obtain ⟨tk, htk⟩ : ∃ tk, takeF (fun r : CallP => fitF true v (i : Int) (ds.map (·.1)) r.1) ps3 = tk := ⟨_, rfl⟩
                    rw [htk] at HTM
                    have HTF := Aside0.mk htk
                    clear htk
                    cases tk with
                    | none =>
                      have HNO := Aside0.mk (show placesF true log own D N 0 Q = none from HI6.out.go.trans (PL.stop hi1 HNS.out (by rw [HVE.out, HDD.out]; exact HTM.out.symm)))
                      go_wp2_with (go_at_call 29; refine HTK.out.mono ?_; rintro e' w9 ⟨he9, hp9, hf9⟩; rw [HTF.out] at he9 hp9; subst he9; have HC9 := Aside0.mk (HC8.out.take hp9 hf9); clear hp9 hf9)
                      try simp only [Exit.noGoto]
                      go_ret
                      exact ⟨⟨51, rfl, HOUT.out 51 (checkR_p0 HDF.out HPL.out HNO.out).symm⟩, HC9.out.below_⟩
                    | some ps4 =>
                      have HL4 := Aside0.mk (takeF_len HTF.out)
                      have HGO := Aside0.mk (show placesF true log own D N 0 Q = placesF true log own D (N - (i + 1)) (i + 1) (ps4.map (·.1)) from HI6.out.go.trans (PL.take hi1 HNS.out (by rw [HVE.out, HDD.out]; exact HTM.out.symm)))
                      go_wp2_with (go_at_call 29; refine HTK.out.mono ?_; rintro e' w9 ⟨he9, hp9, hf9⟩; rw [HTF.out] at he9 hp9; subst he9; have HN9 := Aside0.mk (show PlI w aD aP aL bL bO bk bP AD cD ds true D Q N log own (i + 1) ps4 w9 from ⟨HGO.out, Nat.le_trans HL4.out HI6.out.len, HC8.out.take hp9 hf9, hf9.blk (blk_alloc HI6.out.bk_ _) HI6.out.far, HI6.out.far⟩); clear hp9 hf9)
                      exact ⟨⟨i + 1, ps4, by omega, rfl, rfl, HN9.out⟩, HJ7.out⟩
              · have hd : ¬ (i : Int) < (N : Int) := by omega
                obtain rfl : i = N := by omega
                have HFI := Aside0.mk (show placesF true log own D i 0 Q = some (ps3.map (·.1)) from by rw [HI6.out.go, Nat.sub_self, placesF])
                go_wp2_with fail
                exact ⟨⟨1, ps3, by omega, rfl, rfl, (show PlJ D P log own i 1 (ps3.map (·.1)) from by have h0 : Q = P := HPL.out; rw [← h0]; exact HFI.out), HI6.out.len, HI6.out.ck⟩, by decide⟩
          | 1, _, hpl =>
            obtain ⟨Q, hQ⟩ : ∃ Q, Q = ps2.map (·.1) := ⟨_, rfl⟩
            have HQQ := Aside0.mk hQ
            rw [← hQ] at hpl
            have HPL := Aside0.mk hpl
            have HI5 := Aside0.mk (show PlI w aD aP aL bL bO wr.heap.size bP AD cD ds false D Q N log own 0 ps2 (wr.alloc (.cells #[.bool false] 4 (0, 0))) from ⟨by rw [Nat.sub_zero, hQ], hle, HC7.out.below (below_alloc (Below.refl _ _) _), heap_alloc_new wr _, fun e => Nat.lt_irrefl _ (HC7.out.lt _ e)⟩)
            have hNN : N ≤ 9223372036854775807 := by have := HN2.out; omega
            clear hQ hpl hle
            rw [show (((1 : Nat)) : Int) = 1 from rfl]
            have qx := idx1 wr
            go_wp2_with fail
            obtain ⟨bk, hbk⟩ : ∃ bk, wr.heap.size = bk := ⟨_, rfl⟩
            rw [hbk] at HI5
            try rw [hbk]
            clear HC7
            go_loopw [17, 106] (fun u17 u106 wr2 => ∃ (i : Nat) (ps3 : List CallP), i ≤ N ∧ u17 = .int .i64 N ∧ u106 = .int .i64 i ∧ PlI w aD aP aL bL bO bk bP AD cD ds false D Q N log own i ps3 wr2) (fun u17 u106 wr2 => N - (intOf u106).toNat)
            case atStart => exact ⟨0, ps2, by omega, rfl, rfl, HI5.out⟩
            case round =>
              obtain ⟨i, ps3, hi, rfl, rfl, hri⟩ := hrel
              have HI6 := Aside0.mk hri
              clear hri HI5
              by_cases hi1 : i < N
              · have hd : (i : Int) < (N : Int) := by omega
                obtain ⟨lk, hlk⟩ : ∃ lk, log (i : Int) = lk := ⟨_, rfl⟩
                have HLK := Aside0.mk hlk
                have q := is_look2 HI6.out.ck.log_ (i : Int)
                rw [hlk] at q
                clear hlk
                obtain ⟨ow, how⟩ : ∃ ow, (own (i : Int)).getD false = ow := ⟨_, rfl⟩
                have HOW := Aside0.mk how
                have q2 := fun (v : ByteArray) => ib_look (HI6.out.ck.below (below_alloc (Below.refl _ _) (.cells #[.string v] 9 (0, 0)))).own_ (i : Int)
                simp only [how] at q2
                clear how
                have z0 := fun (v : ByteArray) => (blk_cell (blk_alloc HI6.out.bk_ (.cells #[.string v] 9 (0, 0))) 0).trans rfl
                have HJ7 := Aside0.mk (show N - (intOf (.int .i64 ((i : Int) + 1))).toNat < N - (intOf (.int .i64 (i : Int))).toNat from by simp only [intOf]; omega)
                obtain ⟨v, ks, hvk⟩ : ∃ v ks, v = lk.getD ⟨#[]⟩ ∧ ks = lk.isSome := ⟨_, _, rfl, rfl⟩
                rw [← hvk.1, ← hvk.2] at q
                have HVK := Aside0.mk hvk
                clear hvk
                have q2 := q2 v
                have z0 := z0 v
                have HC8 := Aside0.mk (HI6.out.ck.below (below_alloc (Below.refl _ _) (.cells #[.string v] 9 (0, 0))))
                cases ow with
                | true =>
                  have HN8 := Aside0.mk (show PlI w aD aP aL bL bO bk bP AD cD ds false D Q N log own (i + 1) ps3 (wr.alloc (.cells #[.string v] 9 (0, 0))) from ⟨HI6.out.go.trans (PL.skip hi1 (.inl HOW.out)), HI6.out.len, HC8.out, blk_alloc HI6.out.bk_ _, HI6.out.far⟩)
                  go_wp2_with fail
                  exact ⟨⟨i + 1, ps3, by omega, rfl, rfl, HN8.out⟩, HJ7.out⟩
                | false =>
                  cases ks with
                  | true =>
                    have HN8 := Aside0.mk (show PlI w aD aP aL bL bO bk bP AD cD ds false D Q N log own (i + 1) ps3 (wr.alloc (.cells #[.string v] 9 (0, 0))) from ⟨HI6.out.go.trans (PL.skip hi1 (.inr (by rw [HLK.out, ← HVK.out.2]; decide))), HI6.out.len, HC8.out, blk_alloc HI6.out.bk_ _, HI6.out.far⟩)
                    go_wp2_with fail
                    exact ⟨⟨i + 1, ps3, by omega, rfl, rfl, HN8.out⟩, HJ7.out⟩
                  | false =>
                    have HNS := Aside0.mk (show ¬ ((own (i : Int)).getD false = true ∨ (log (i : Int)).isSome ≠ false) from by rw [HOW.out, HLK.out, ← HVK.out.2]; decide)
                    have HTK := Aside0.mk (take_c (i : Int) aP aL bk wr.heap.size aD bP false v ps3 ds (wr.alloc (.cells #[.string v] 9 (0, 0))) HC8.out.pend HI6.out.len HC8.out.least_ ((blk_cell (blk_alloc HI6.out.bk_ _) 0).trans rfl) ((blk_cell (heap_alloc_new wr _) 0).trans rfl) HC8.out.done_ HDV.out (by have := HN2.out; omega))
                    have HTM := Aside0.mk (takeF_map (fitF false v (i : Int) (ds.map (·.1))) ps3)
                    have HVE := Aside0.mk (show (log (i : Int)).getD ⟨#[]⟩ = v from by rw [HLK.out, HVK.out.1])
                    obtain ⟨tk, htk⟩ : ∃ tk, takeF (fun r : CallP => fitF false v (i : Int) (ds.map (·.1)) r.1) ps3 = tk := ⟨_, rfl⟩
                    rw [htk] at HTM
                    have HTF := Aside0.mk htk
                    clear htk
                    cases tk with
                    | none =>
                      have HNO := Aside0.mk (show placesF false log own D N 0 Q = none from HI6.out.go.trans (PL.stop hi1 HNS.out (by rw [HVE.out, HDD.out]; exact HTM.out.symm)))
                      go_wp2_with (go_at_call 29; refine HTK.out.mono ?_; rintro e' w9 ⟨he9, hp9, hf9⟩; rw [HTF.out] at he9 hp9; subst he9; have HC9 := Aside0.mk (HC8.out.take hp9 hf9); clear hp9 hf9)
                      try simp only [Exit.noGoto]
                      go_ret
                      exact ⟨⟨51, rfl, HOUT.out 51 (checkR_p1 HDF.out HPL.out HNO.out).symm⟩, HC9.out.below_⟩
                    | some ps4 =>
                      have HL4 := Aside0.mk (takeF_len HTF.out)
                      have HGO := Aside0.mk (show placesF false log own D N 0 Q = placesF false log own D (N - (i + 1)) (i + 1) (ps4.map (·.1)) from HI6.out.go.trans (PL.take hi1 HNS.out (by rw [HVE.out, HDD.out]; exact HTM.out.symm)))
                      go_wp2_with (go_at_call 29; refine HTK.out.mono ?_; rintro e' w9 ⟨he9, hp9, hf9⟩; rw [HTF.out] at he9 hp9; subst he9; have HN9 := Aside0.mk (show PlI w aD aP aL bL bO bk bP AD cD ds false D Q N log own (i + 1) ps4 w9 from ⟨HGO.out, Nat.le_trans HL4.out HI6.out.len, HC8.out.take hp9 hf9, hf9.blk (blk_alloc HI6.out.bk_ _) HI6.out.far, HI6.out.far⟩); clear hp9 hf9)
                      exact ⟨⟨i + 1, ps4, by omega, rfl, rfl, HN9.out⟩, HJ7.out⟩
              · have hd : ¬ (i : Int) < (N : Int) := by omega
                obtain rfl : i = N := by omega
                have HFI := Aside0.mk (show placesF false log own D i 0 Q = some (ps3.map (·.1)) from by rw [HI6.out.go, Nat.sub_self, placesF])
                go_wp2_with fail
                exact ⟨⟨2, ps3, by omega, rfl, rfl, (show PlJ D P log own i 2 (ps3.map (·.1)) from ⟨Q, HPL.out, HFI.out⟩), HI6.out.len, HI6.out.ck⟩, by decide⟩
          | 2, _, hpl =>
            go_wp2_with fail
            try simp only [Exit.noGoto]
            go_ret
            exact ⟨⟨0, rfl, HOUT.out 0 (checkR_0 HDF.out hpl).symm⟩, HC7.out.below_⟩
end Go.Proofs.Ytamiglolpchplaa.Hand
