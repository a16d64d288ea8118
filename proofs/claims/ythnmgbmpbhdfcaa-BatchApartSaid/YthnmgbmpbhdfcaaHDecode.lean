/- batch.Decode: what it computes. -/
import Derived.Test.YthnmgbmpbhdfcaaHRd
import Derived.Laws.EntriesVeiled
namespace Go.Proofs.Ythnmgbmpbhdfcaa.Hand
open Go.RowKit Go.Proofs.Ythnmgbmpbhdfcaa Go.Proofs.YthnmgbmpbhdfcaaW.PrintWords Go.Proofs.YthnmgbmpbhdfcaaW.PrintMore Go.Proofs.YthnmgbmpbhdfcaaW.PrintLast Go.Proofs.Ythnmgbmpbhdfcaa.B0

set_option linter.unusedSimpArgs false
/-- The reader's place and error behind a number, behind a text. -/
def numS (x : List Int) (st : Int × Int) (n : Int) : Int × Int := (if st.2 = 0 then (getF x st.1 n).2.1 else st.1, if st.2 = 0 then (getF x st.1 n).2.2 else st.2)
def txtS (x : List Int) (st : Int × Int) : Int × Int := (if st.2 = 0 then (textF x st.1).2.1 else st.1, if st.2 = 0 then (textF x st.1).2.2 else st.2)
def recV (x : List Int) (st : Int × Int) : S47 := ⟨(textF x (numS x st 1).1).1, (textF x (txtS x (numS x st 1)).1).1, (getF x st.1 1).1 != 0⟩
def recS (x : List Int) (st : Int × Int) : Int × Int := txtS x (txtS x (numS x st 1))
/-- At most m records. -/
def recsD (x : List Int) : Nat → Int × Int → List S47 × (Int × Int)
  | 0, st => ([], st)
  | m + 1, st => if st.2 = 0 then ((recV x st) :: (recsD x m (recS x st)).1, (recsD x m (recS x st)).2) else ([], st)
/-- The reader's struct. -/
def rdc (A : Option Addr) (n c : Nat) (st : Int × Int) : Array Value := #[.slice A n c, .int .i64 st.1, .int .i64 st.2]
theorem num_c (gr : Nat) (A : Option Addr) (c : Nat) (l : List Int) (st : Int × Int) (size : Int) (w : World) (hg : w.heap[gr]? = some (.cells (rdc A l.length c st) 59 (0, 0))) (hr : Kd.C (Kd.int .u8) w A l.length l) (hc : l.length ≤ c) (hb : isB l = true) :
    Calls Try.prog 37 #[.pointer (some ⟨gr, 0, none⟩), .int .i64 size] w fun e' w' => e' = .returned (.int .i64 (getF l st.1 size).1) ∧ w'.heap[gr]? = some (.cells (rdc A l.length c (numS l st size)) 59 (0, 0)) ∧ w.grownBy w' (some gr) :=
  rnumber_calls gr A c l st.1 st.2 size w hg hr hc hb
theorem txt_c (gr : Nat) (A : Option Addr) (c : Nat) (l : List Int) (st : Int × Int) (w : World) (hg : w.heap[gr]? = some (.cells (rdc A l.length c st) 59 (0, 0))) (hr : Kd.C (Kd.int .u8) w A l.length l) (hc : l.length ≤ c) (hb : isB l = true) :
    Calls Try.prog 38 #[.pointer (some ⟨gr, 0, none⟩)] w fun e' w' => e' = .returned (.string (textF l st.1).1) ∧ w'.heap[gr]? = some (.cells (rdc A l.length c (txtS l st)) 59 (0, 0)) ∧ w.grownBy w' (some gr) :=
  rtext_calls gr A c l st.1 st.2 w hg hr hc hb
/-- What is read ahead of the last two tests. -/
structure Dec where
  k : Int
  p : Int
  e : Int
  s : Int
  t : Bool
  l : List S47
def zeroDec : Dec := ⟨0, 0, 0, 0, false, []⟩
def st1 (x : List Int) : Int × Int := numS x (0, 0) 1
def st2 (x : List Int) : Int × Int := numS x (st1 x) 1
def st3 (x : List Int) : Int × Int := numS x (st2 x) 6
def st4 (x : List Int) : Int × Int := numS x (st3 x) 4
def st5 (x : List Int) : Int × Int := numS x (st4 x) 4
def st6 (x : List Int) : Int × Int := numS x (st5 x) 2
def cntD (x : List Int) : Int := (getF x (st5 x).1 2).1
def flgD (x : List Int) : Int := (getF x (st1 x).1 1).1
def rawD (x : List Int) : List S47 × (Int × Int) := recsD x (cntD x).toNat (st6 x)
def madeD (x : List Int) : Dec :=
  ⟨(getF x 0 1).1, if (bits .and .i64 (flgD x) 1 == 0) = true then -1 else (getF x (st2 x).1 6).1, (getF x (st3 x).1 4).1, (getF x (st4 x).1 4).1, bits .and .i64 (flgD x) 2 != 0, (rawD x).1⟩
def encD (d : Dec) : List Int × Int := encF d.k d.p d.e d.s d.t d.l
def decF (x : List Int) : Dec × Int :=
  if (rawD x).2.2 ≠ 0 then (zeroDec, 20)
  else if (encD (madeD x)).2 ≠ 0 then (zeroDec, 22)
  else if (strOfNums (encD (madeD x)).1).toList = (strOfNums x).toList then (madeD x, 0) else (zeroDec, 22)
/-- The result's block and the reader's, the reader at st. -/
structure DI (w : World) (A0 : Option Addr) (c0 : Nat) (l0 : List Int) (st : Int × Int) (W : World) : Prop where
  res : W.heap[w.heap.size]? = some (.cells (bcells 0 0 0 0 false none 0 0) 24 (0, 0))
  rd : W.heap[w.heap.size + 1]? = some (.cells (rdc A0 l0.length c0 st) 59 (0, 0))
  below : Below w.heap.size w W
theorem DI.next {w : World} {A0 : Option Addr} {c0 : Nat} {l0 : List Int} {st st' : Int × Int} {W W' : World} (h : DI w A0 c0 l0 st W) (hr : W'.heap[w.heap.size + 1]? = some (.cells (rdc A0 l0.length c0 st') 59 (0, 0))) (hg : W.grownBy W' (some (w.heap.size + 1))) : DI w A0 c0 l0 st' W' :=
  ⟨(hg.block _ (blk_lt h.res) (by simp)).trans h.res, hr, h.below.grown hg (h.below.size) (fun k e => by injection e; omega)⟩
theorem DI.kept {w : World} {A0 : Option Addr} {c0 : Nat} {l0 : List Int} {st : Int × Int} {W W' : World} (h : DI w A0 c0 l0 st W) (hb : Below W.heap.size W W') : DI w A0 c0 l0 st W' :=
  ⟨blk_below h.res hb, blk_below h.rd hb, below_step h.below hb⟩
theorem b_next {g : Nat} {W W' : World} {o : Obj} {r : Nat} (h : W.heap[g]? = some o) (hg : W.grownBy W' (some r)) (hne : g ≠ r) : W'.heap[g]? = some o :=
  (hg.block _ (blk_lt h) (by simpa using hne)).trans h
theorem getF_two {l : List Int} (hb : isB l = true) (p : Int) : ∃ n : Nat, (getF l p 2).1 = (n : Int) ∧ n < 65536 := by
  unfold getF
  split
  · exact ⟨0, rfl, by omega⟩
  split
  · exact ⟨0, rfl, by omega⟩
  split
  · exact ⟨0, rfl, by omega⟩
  split
  · split
    · refine ⟨_, rfl, ?_⟩
      have h := leN_lt ((l.take (p + 2).toNat).drop p.toNat) (fun x hx => (isB_iff l).1 hb x (List.mem_of_mem_take (List.mem_of_mem_drop hx)))
      have h2 : ((l.take (p + 2).toNat).drop p.toNat).length ≤ 2 := by rw [List.length_drop, List.length_take]; omega
      exact Nat.lt_of_lt_of_le h (Nat.le_trans (Nat.pow_le_pow_right (by omega) h2) (by decide))
    · exact ⟨0, rfl, by omega⟩
  · exact ⟨0, rfl, by omega⟩
theorem goesv_ {P : Program} {ops : Array Oper} {Q : Exit → Act → World → Prop} {oi : Oper} {N : Option Tmp} {a : Act} {w : World} {K : Act → World → Prop} {f : FuncId} {fn : Func} {xs : Array Operand} {ts : Array TypeId} (hf : P.funcs[f]? = some fn) (hname : (fn.name == "runtime.NumGoroutine") = false) (hb : fn.body.isSome = true) (args : Array Value)
    (hw : Region.wanted oi (yielded ops a.tmps) = true) (hN : oi.dst = N) (hop : ∃ x bound, oi.op = .call { callee := .value x, args := xs, argTypes := ts } ∧ a.eval x = .func (.func f) bound #[] ∧ bound ++ xs.map a.eval = args)
    (h : Calls P f args w fun e w' => ∃ v, e = .returned v ∧ K (a.put N v) w') : if Region.wanted oi (yielded ops a.tmps) = true then Oper.wp P oi a w K Q else K (a.put N undef) w := by
  obtain ⟨x, bound, hop, hx, hargs⟩ := hop
  refine call_ f args hw hN ?_ h
  have he := enters_ hf hname hb args w
  subst hargs
  unfold execOp
  simp [hop, resolve, Deferred.ofValue, invoke, hx, he]
def TD11 : Bool × List (List Nat × List Nat) := (true, [([], []), ([0], [0]), ([], []), ([], []), ([3], [3]), ([], []), ([5, 4], [5]), ([2, 4, 6], [2, 4, 6]), ([7], [7]), ([1, 8, 6], [1, 8]), ([0, 1, 2, 3, 4, 5, 6, 7, 8, 9], []), ([10, 9, 9, 0, 1, 2, 3, 4, 5, 6, 7, 8, 9], [9, 10])])
def BD11 : List Nat := [0, 1, 0, 0, 8, 0, 56, 124, 252, 511, 1023, 2047]
theorem tabD11 : rtab .any (opsOf Try.f21 11) = TD11 := by kernel_rfl
theorem bitsD11 : waitsOk TD11.2 BD11 = true := by kernel_rfl
/-- The batch that is made, in its block. -/
structure DB (w : World) (A0 : Option Addr) (c0 : Nat) (l0 : List Int) (st : Int × Int) (gb : Nat) (k p e s : Int) (t : Bool) (v : Value) (W : World) : Prop where
  di : DI w A0 c0 l0 st W
  bk : W.heap[gb]? = some (.cells #[.int .i64 k, .int .i64 p, .int .i64 e, .int .i64 s, .bool t, v] 24 (0, 0))
  gb2 : w.heap.size + 2 ≤ gb
section
variable {w : World} {A0 : Option Addr} {c0 : Nat} {l0 : List Int} {st st' : Int × Int} {gb : Nat} {k p e s : Int} {t : Bool} {v : Value} {W W' : World}
theorem DB.next (h : DB w A0 c0 l0 st gb k p e s t v W) (hr : W'.heap[w.heap.size + 1]? = some (.cells (rdc A0 l0.length c0 st') 59 (0, 0))) (hg : W.grownBy W' (some (w.heap.size + 1))) : DB w A0 c0 l0 st' gb k p e s t v W' :=
  ⟨h.di.next hr hg, b_next h.bk hg (by have := h.gb2; omega), h.gb2⟩
theorem DB.kept (h : DB w A0 c0 l0 st gb k p e s t v W) (hb : Below W.heap.size W W') : DB w A0 c0 l0 st gb k p e s t v W' :=
  ⟨h.di.kept hb, blk_below h.bk hb, h.gb2⟩
theorem DI.far (h : DI w A0 c0 l0 st W) (hg : W.grownBy W' (some gb)) (h2 : w.heap.size + 2 ≤ gb) : DI w A0 c0 l0 st W' :=
  ⟨b_next h.res hg (by omega), b_next h.rd hg (by omega), h.below.grown hg h.below.size (fun k e => by injection e; omega)⟩
theorem DB.keptG (h : DB w A0 c0 l0 st gb k p e s t v W) (hb : Below (gb + 1) W W') : DB w A0 c0 l0 st gb k p e s t v W' :=
  ⟨⟨(hb.block _ (by have := h.gb2; omega)).trans h.di.res, (hb.block _ (by have := h.gb2; omega)).trans h.di.rd, h.di.below.trans (hb.mono (by have := h.gb2; omega))⟩, (hb.block _ (by omega)).trans h.bk, h.gb2⟩
theorem DB.set0 (h : DB w A0 c0 l0 st gb k p e s t v W) (x : Int) : DB w A0 c0 l0 st gb x p e s t v (W.setCell ⟨gb, 0, none⟩ (.int .i64 x)) := ⟨h.di.far (grown_set W gb 0 _) h.gb2, blk_put h.bk 0 _ rfl, h.gb2⟩
theorem DB.set1 (h : DB w A0 c0 l0 st gb k p e s t v W) (x : Int) : DB w A0 c0 l0 st gb k x e s t v (W.setCell ⟨gb, 1, none⟩ (.int .i64 x)) := ⟨h.di.far (grown_set W gb 1 _) h.gb2, blk_put h.bk 1 _ rfl, h.gb2⟩
theorem DB.set2 (h : DB w A0 c0 l0 st gb k p e s t v W) (x : Int) : DB w A0 c0 l0 st gb k p x s t v (W.setCell ⟨gb, 2, none⟩ (.int .i64 x)) := ⟨h.di.far (grown_set W gb 2 _) h.gb2, blk_put h.bk 2 _ rfl, h.gb2⟩
theorem DB.set3 (h : DB w A0 c0 l0 st gb k p e s t v W) (x : Int) : DB w A0 c0 l0 st gb k p e x t v (W.setCell ⟨gb, 3, none⟩ (.int .i64 x)) := ⟨h.di.far (grown_set W gb 3 _) h.gb2, blk_put h.bk 3 _ rfl, h.gb2⟩
theorem DB.set4 (h : DB w A0 c0 l0 st gb k p e s t v W) (x : Bool) : DB w A0 c0 l0 st gb k p e s x v (W.setCell ⟨gb, 4, none⟩ (.bool x)) := ⟨h.di.far (grown_set W gb 4 _) h.gb2, blk_put h.bk 4 _ rfl, h.gb2⟩
theorem DB.set5 (h : DB w A0 c0 l0 st gb k p e s t v W) (x : Value) : DB w A0 c0 l0 st gb k p e s t x (W.setCell ⟨gb, 5, none⟩ x) := ⟨h.di.far (grown_set W gb 5 _) h.gb2, blk_put h.bk 5 _ rfl, h.gb2⟩
theorem DI.rcells (h : DI w A0 c0 l0 st W) : W.frozen? ⟨w.heap.size, 0, none⟩ = false ∧ W.frozen? ⟨w.heap.size, 1, none⟩ = false ∧ W.frozen? ⟨w.heap.size, 2, none⟩ = false ∧ W.frozen? ⟨w.heap.size, 3, none⟩ = false ∧ W.frozen? ⟨w.heap.size, 4, none⟩ = false ∧ W.frozen? ⟨w.heap.size, 5, none⟩ = false ∧
    W.cell? ⟨w.heap.size, 0, none⟩ = some (.int .i64 0) ∧ W.cell? ⟨w.heap.size, 1, none⟩ = some (.int .i64 0) ∧ W.cell? ⟨w.heap.size, 2, none⟩ = some (.int .i64 0) ∧ W.cell? ⟨w.heap.size, 3, none⟩ = some (.int .i64 0) ∧ W.cell? ⟨w.heap.size, 4, none⟩ = some (.bool false) ∧ W.cell? ⟨w.heap.size, 5, none⟩ = some (.slice none 0 0) :=
  ⟨blk_frozen h.res 0, blk_frozen h.res 1, blk_frozen h.res 2, blk_frozen h.res 3, blk_frozen h.res 4, blk_frozen h.res 5, (blk_cell h.res 0).trans rfl, (blk_cell h.res 1).trans rfl, (blk_cell h.res 2).trans rfl, (blk_cell h.res 3).trans rfl, (blk_cell h.res 4).trans rfl, (blk_cell h.res 5).trans rfl⟩
theorem DB.cells (h : DB w A0 c0 l0 st gb k p e s t v W) : W.cell? ⟨gb, 0, none⟩ = some (.int .i64 k) ∧ W.cell? ⟨gb, 1, none⟩ = some (.int .i64 p) ∧ W.cell? ⟨gb, 2, none⟩ = some (.int .i64 e) ∧ W.cell? ⟨gb, 3, none⟩ = some (.int .i64 s) ∧ W.cell? ⟨gb, 4, none⟩ = some (.bool t) ∧ W.cell? ⟨gb, 5, none⟩ = some v :=
  ⟨(blk_cell h.bk 0).trans rfl, (blk_cell h.bk 1).trans rfl, (blk_cell h.bk 2).trans rfl, (blk_cell h.bk 3).trans rfl, (blk_cell h.bk 4).trans rfl, (blk_cell h.bk 5).trans rfl⟩
theorem DB.frozen (h : DB w A0 c0 l0 st gb k p e s t v W) : W.frozen? ⟨gb, 0, none⟩ = false ∧ W.frozen? ⟨gb, 1, none⟩ = false ∧ W.frozen? ⟨gb, 2, none⟩ = false ∧ W.frozen? ⟨gb, 3, none⟩ = false ∧ W.frozen? ⟨gb, 4, none⟩ = false ∧ W.frozen? ⟨gb, 5, none⟩ = false :=
  ⟨blk_frozen h.bk 0, blk_frozen h.bk 1, blk_frozen h.bk 2, blk_frozen h.bk 3, blk_frozen h.bk 4, blk_frozen h.bk 5⟩
end
set_option maxHeartbeats 1600000 in
set_option maxRecDepth 100000 in
theorem Decode_calls (A0 : Option Addr) (c0 : Nat) (l0 : List Int) (w : World) (hr0 : Kd.C (Kd.int .u8) w A0 l0.length l0) (hc0 : l0.length ≤ c0) (hb : isB l0 = true) :
    Calls Try.prog 21 #[.slice A0 l0.length c0] w fun e w' => ∃ v5_ : Value, e = .returned (.tuple #[.agg #[.int .i64 (decF l0).1.k, .int .i64 (decF l0).1.p, .int .i64 (decF l0).1.e, .int .i64 (decF l0).1.s, .bool (decF l0).1.t, v5_], .int .i64 (decF l0).2]) ∧ Kd.R k47 47 w' w.heap.size (fun _ => True) v5_ (decF l0).1.l ∧ Below w.heap.size w w' := by
  have HR := Aside0.mk hr0
  have hmax := Kd.C_max hr0
  clear hr0
  go_enter Try.func21, Try.ntmps21
  go_wp2_with fail
  have D0 : DI w A0 c0 l0 (0, 0) ((w.alloc (.cells (bcells 0 0 0 0 false none 0 0) 24 (0, 0))).alloc (.cells (rdc A0 l0.length c0 (0, 0)) 59 (0, 0))) :=
    ⟨heap_alloc2_old w _ _, heap_alloc2_new w _ _, below_alloc (below_alloc (Below.refl _ _) _) _⟩
  refine (num_c (w.heap.size + 1) A0 c0 l0 (0, 0) 1 _ D0.rd (Kd.C_below HR.out D0.below) hc0 hb).mono ?_
  rintro e w1 ⟨rfl, hr1, hg1⟩
  have D1 := Aside0.mk (D0.next hr1 hg1)
  clear D0 hr1 hg1
  go_wp2_with fail
  have D2 : DB w A0 c0 l0 (st1 l0) w1.heap.size (getF l0 0 1).1 0 0 0 false (.slice none 0 0) (w1.alloc (.cells #[.int .i64 (getF l0 0 1).1, .int .i64 0, .int .i64 0, .int .i64 0, .bool false, .slice none 0 0] 24 (0, 0))) :=
    ⟨D1.out.kept (below_alloc (Below.refl _ _) _), heap_alloc_new w1 _, by have := blk_lt D1.out.rd; omega⟩
  refine (num_c (w.heap.size + 1) A0 c0 l0 (st1 l0) 1 _ D2.di.rd (Kd.C_below HR.out D2.di.below) hc0 hb).mono ?_
  rintro e w2 ⟨rfl, hr2, hg2⟩
  have D3 := Aside0.mk (D2.next hr2 hg2)
  clear D2 hr2 hg2
  clear D1
  generalize w1.heap.size = gb at D3 ⊢
  go_wp2_with fail
  refine (num_c (w.heap.size + 1) A0 c0 l0 (st2 l0) 6 _ D3.out.di.rd (Kd.C_below HR.out D3.out.di.below) hc0 hb).mono ?_
  rintro e w3 ⟨rfl, hr2, hg2⟩
  have D4 := Aside0.mk (D3.out.next hr2 hg2)
  clear D3 hr2 hg2
  go_wp2_with fail
  refine (num_c (w.heap.size + 1) A0 c0 l0 (st3 l0) 4 _ D4.out.di.rd (Kd.C_below HR.out D4.out.di.below) hc0 hb).mono ?_
  rintro e w4 ⟨rfl, hr2, hg2⟩
  have D5 := Aside0.mk (D4.out.next hr2 hg2)
  clear D4 hr2 hg2
  go_wp2_with fail
  refine (num_c (w.heap.size + 1) A0 c0 l0 (st4 l0) 4 _ D5.out.di.rd (Kd.C_below HR.out D5.out.di.below) hc0 hb).mono ?_
  rintro e w5 ⟨rfl, hr2, hg2⟩
  have D6 := Aside0.mk (D5.out.next hr2 hg2)
  clear D5 hr2 hg2
  obtain ⟨z0, z1, z2, z3, z4, z5⟩ := D6.out.cells
  obtain ⟨f0, f1, f2, f3, f4, f5⟩ := D6.out.frozen
  go_wp2_with fail
  have D7 := ((D6.out.set1 (getF l0 (st2 l0).1 6).1).set2 (getF l0 (st3 l0).1 4).1).set3 (getF l0 (st4 l0).1 4).1
  clear z0 z1 z2 z3 z4 z5 f0 f1 f2 f3 f4 f5 D6
  refine (num_c (w.heap.size + 1) A0 c0 l0 (st5 l0) 2 _ D7.di.rd (Kd.C_below HR.out D7.di.below) hc0 hb).mono ?_
  rintro e w6 ⟨rfl, hr2, hg2⟩
  have D8 := Aside0.mk (D7.next hr2 hg2)
  clear D7 hr2 hg2
  clear w1 w2 w3 w4 w5
  go_wp2_with fail
  obtain ⟨n, hn, hn2⟩ := getF_two hb (st5 l0).1
  have HN := Aside0.mk (show cntD l0 = (n : Int) from hn)
  rw [hn]
  clear hn
  go_loopw [10, 11] (fun u10 u11 wr => ∃ (j : Nat) (st : Int × Int) (recs : List S47) (A : Option Addr) (c : Nat), j ≤ n ∧ u10 = .int .i64 j ∧ Aside0 (DB w A0 c0 l0 st gb (getF l0 0 1).1 (getF l0 (st2 l0).1 6).1 (getF l0 (st3 l0).1 4).1 (getF l0 (st4 l0).1 4).1 false (.slice A recs.length c) wr) ∧ Aside0 (Kd.R k47 47 wr (gb + 1) (fun k => gb < k) (.slice A recs.length c) recs) ∧ recs.length ≤ j ∧ Aside0 (rawD l0 = (recs ++ (recsD l0 (n - j) st).1, (recsD l0 (n - j) st).2))) (fun u10 u11 wr => n - (intOf u10).toNat)
  case atStart => exact ⟨0, st6 l0, [], none, 0, by omega, rfl, ⟨D8.out⟩, ⟨Kd.R_nil _ _ _ _ _⟩, by simp, ⟨by unfold rawD; rw [HN.out]; rfl⟩⟩
  case round =>
    obtain ⟨j, st, recs, A, c, hj, rfl, D, RO, hrl, HE⟩ := hrel
    clear D8
    have cr2 : wr.cell? ⟨w.heap.size + 1, 2, none⟩ = some (.int .i64 st.2) := (blk_cell D.out.di.rd 2).trans rfl
    by_cases hlt : j < n
    · have hl1 : decide ((j : Int) < (n : Int)) = true := by simpa using hlt
      by_cases he : st.2 = 0
      · have he1 : (st.2 == 0) = true := by simpa using he
        go_wp2_with fail
        refine (num_c (w.heap.size + 1) A0 c0 l0 st 1 _ D.out.di.rd (Kd.C_below HR.out D.out.di.below) hc0 hb).mono ?_
        rintro e w7 ⟨rfl, hr2, hg2⟩
        have D1 := Aside0.mk (D.out.next hr2 hg2)
        have hgb := D.out.gb2
        have RO1 := Aside0.mk (Kd.R_grown RO.out hg2 (fun k hk e => by injection e; have := D.out.gb2; omega))
        clear D RO hr2 hg2 cr2 he1
        go_wp2_with fail
        have D := Aside0.mk (D1.out.kept (below_drew (Below.refl _ _)))
        have RO := Aside0.mk (Kd.R_drew RO1.out)
        clear D1 RO1
        refine start_ (n := 12) (S := fun w' => w'.cell? ⟨gb, 5, none⟩ = some (.slice A recs.length c)) (ds := [11]) #[false, false, false, false, false, false, false, false, false, false, false, false] (by kernel_rfl) rfl rfl D.out.cells.2.2.2.2.2 (fun hHeld => ?_); refine with_tabW tabD11 bitsD11 (fun HT_ HW_ => ?_)
        generalize w7.drew = w8 at D RO hHeld ⊢
        refine pure_ (i := 0) (N := (some 52)) (v := ?_) (a' := ?_) #[true, false, false, false, false, false, false, false, false, false, false, false] rfl rfl (any_of HT_.out (by kernel_rfl)) (fun _ _ _ h => h) (Or.inl ⟨by rfl, ?_⟩) ?_ ?_
        rotate_left
        · intro w'
          go_simp
          with_reducible rfl
        rotate_left
        · simp only [Act.put, List.setIfInBounds_toArray, List.set_cons_zero, List.set_cons_succ, i64_w, i32_w]
          rfl
        refine take_ (i := 1) (N := (some 53)) (v := ?_) (a' := ?_) #[true, true, false, false, false, false, false, false, false, false, false, false] rfl rfl (take_ofW HT_.out HW_.out (by kernel_rfl)) (fun _ _ _ h => h) (Or.inl ⟨by rfl, ?_⟩) hHeld ?_ ?_
        rotate_left
        · rintro w' s0
          go_simp
          with_reducible rfl
        rotate_left
        · simp only [Act.put, List.setIfInBounds_toArray, List.set_cons_zero, List.set_cons_succ, i64_w, i32_w]
          rfl
        refine pure_ (i := 2) (N := (some 54)) (v := ?_) (a' := ?_) #[true, true, true, false, false, false, false, false, false, false, false, false] rfl rfl (any_of HT_.out (by kernel_rfl)) (fun _ _ _ h => h) (Or.inl ⟨by rfl, ?_⟩) ?_ ?_
        rotate_left
        · intro w'
          go_simp
          with_reducible rfl
        rotate_left
        · simp only [Act.put, List.setIfInBounds_toArray, List.set_cons_zero, List.set_cons_succ, i64_w, i32_w]
          rfl
        refine pure_ (i := 3) (N := (some 55)) (v := ?_) (a' := ?_) #[true, true, true, true, false, false, false, false, false, false, false, false] rfl rfl (any_of HT_.out (by kernel_rfl)) (fun _ _ _ h => h) (Or.inl ⟨by rfl, ?_⟩) ?_ ?_
        rotate_left
        · intro w'
          go_simp
          with_reducible rfl
        rotate_left
        · simp only [Act.put, List.setIfInBounds_toArray, List.set_cons_zero, List.set_cons_succ, i64_w, i32_w]
          rfl
        refine pure_ (i := 5) (N := (some 57)) (v := ?_) (a' := ?_) #[true, true, true, true, false, true, false, false, false, false, false, false] rfl rfl (any_of HT_.out (by kernel_rfl)) (fun _ _ _ h => h) (Or.inl ⟨by rfl, ?_⟩) ?_ ?_
        rotate_left
        · intro w'
          go_simp
          with_reducible rfl
        rotate_left
        · simp only [Act.put, List.setIfInBounds_toArray, List.set_cons_zero, List.set_cons_succ, i64_w, i32_w]
          rfl
        refine one_ (i := 4) (N := (some 56)) #[true, true, true, true, true, true, false, false, false, false, false, false] rfl rfl (one_of HT_.out (by kernel_rfl)) (by decide) (fun K hK => ?_)
        refine goesv_ Try.func38 (by kernel_rfl) rfl #[.pointer (some ⟨w.heap.size + 1, 0, none⟩)] (by rfl) rfl ⟨_, _, rfl, rfl, by simp⟩ ?_
        refine (txt_c (w.heap.size + 1) A0 c0 l0 (numS l0 st 1) _ D.out.di.rd (Kd.C_below HR.out D.out.di.below) hc0 hb).mono ?_
        rintro e w9 ⟨rfl, hr2, hg2⟩
        refine ⟨_, rfl, ?_⟩
        have D_ := Aside0.mk (D.out.next hr2 hg2)
        have RO_ := Aside0.mk (Kd.R_grown RO.out hg2 (fun k hk e => by injection e; omega))
        clear D RO hr2 hg2
        have D := D_
        have RO := RO_
        clear D_ RO_
        refine hK.out _ _ D.out.cells.2.2.2.2.2 (fun hHeld => ?_)
        clear hK K
        refine norm_ (a' := ?_) ?_ ?_
        rotate_left
        · show Act.put _ (some 56) _ = _
          simp only [Act.put, List.setIfInBounds_toArray, List.set_cons_zero, List.set_cons_succ, i64_w, i32_w]
          rfl
        refine one_ (i := 6) (N := (some 58)) #[true, true, true, true, true, true, true, false, false, false, false, false] rfl rfl (one_of HT_.out (by kernel_rfl)) (by decide) (fun K hK => ?_)
        refine goesv_ Try.func38 (by kernel_rfl) rfl #[.pointer (some ⟨w.heap.size + 1, 0, none⟩)] (by rfl) rfl ⟨_, _, rfl, rfl, by simp⟩ ?_
        refine (txt_c (w.heap.size + 1) A0 c0 l0 (txtS l0 (numS l0 st 1)) _ D.out.di.rd (Kd.C_below HR.out D.out.di.below) hc0 hb).mono ?_
        rintro e w9 ⟨rfl, hr2, hg2⟩
        refine ⟨_, rfl, ?_⟩
        have D_ := Aside0.mk (D.out.next hr2 hg2)
        have RO_ := Aside0.mk (Kd.R_grown RO.out hg2 (fun k hk e => by injection e; omega))
        clear D RO hr2 hg2
        have D := D_
        have RO := RO_
        clear D_ RO_
        refine hK.out _ _ D.out.cells.2.2.2.2.2 (fun hHeld => ?_)
        clear hK K
        refine norm_ (a' := ?_) ?_ ?_
        rotate_left
        · show Act.put _ (some 58) _ = _
          simp only [Act.put, List.setIfInBounds_toArray, List.set_cons_zero, List.set_cons_succ, i64_w, i32_w]
          rfl
        refine pure_ (i := 7) (N := (some 59)) (v := ?_) (a' := ?_) #[true, true, true, true, true, true, true, true, false, false, false, false] rfl rfl (any_of HT_.out (by kernel_rfl)) (fun _ _ _ h => h) (Or.inl ⟨by rfl, ?_⟩) ?_ ?_
        rotate_left
        · intro w'
          go_simp
          with_reducible rfl
        rotate_left
        · simp only [Act.put, List.setIfInBounds_toArray, List.set_cons_zero, List.set_cons_succ, i64_w, i32_w]
          rfl
        refine one_ (i := 8) (N := (some 60)) #[true, true, true, true, true, true, true, true, true, false, false, false] rfl rfl (one_of HT_.out (by kernel_rfl)) (by decide) (fun K hK => ?_)
        refine Kd.R_lit_step k47 (w0 := w9) w9.heap.size 47 (by rfl) (N := 60) rfl (xs := [recV l0 st]) (inner := [.string (recV l0 st).f0, .string (recV l0 st).f1, .bool (recV l0 st).f2]) (ok := fun k => gb < k) (okp := fun k => gb < k) ?hr ?hp (fun _ hk => hk) ?hf (Below.refl _ _) (Nat.le_refl _) (by simp) ?_
        case hr => first | (go_simp; done) | (go_simp; rfl)
        case hp => exact (Reps.snoc (Reps.none _ 3) (k47_mkM _ _ _ (recV l0 st)) rfl)
        case hf => exact (by have := blk_lt D.out.bk; omega)
        intro v60 w10 HO hb4 hg4 hat4
        have D_ := Aside0.mk (D.out.kept hb4)
        have RO_ := Aside0.mk (Kd.R_below RO.out hb4)
        clear D RO
        have D := D_
        have RO := RO_
        clear D_ RO_
        refine hK.out _ _ D.out.cells.2.2.2.2.2 (fun hHeld => ?_)
        clear hK K
        refine norm_ (a' := ?_) ?_ ?_
        rotate_left
        · show Act.put _ (some 60) _ = _
          simp only [Act.put, List.setIfInBounds_toArray, List.set_cons_zero, List.set_cons_succ, i64_w, i32_w]
          rfl
        refine one_ (i := 9) (N := (some 61)) #[true, true, true, true, true, true, true, true, true, true, false, false] rfl rfl (one_of HT_.out (by kernel_rfl)) (by decide) (fun K hK => ?_)
        obtain ⟨A6, c6, rfl⟩ := Kd.R_slice HO
        have HX := (Kd.R_reads' HO).2.2
        obtain ⟨b6, hb6, hb7⟩ := hat4
        refine Kd.R_append_rows_step k47 (w0 := w10) (gb + 1) (by rfl) (.tmp 53) (.tmp 60) 22 47 _ 40 rfl Try.underlying22 info47 rfl (by decide) (by decide) (.slice A recs.length c) recs [recV l0 st] A6 _ c6 (fun k => gb < k) (fun _ => False) rfl rfl RO.out HX (fun x cs h => by rw [k47_open h]; exact k47_mkM _ _ _ x) (fun k hk => hk.elim) (fun k hk => by have := blk_lt D.out.bk; omega) (Below.refl _ _) (by have := blk_lt D.out.bk; omega) (by simp; omega) ?_
        intro v61 w11 RO11 hb11 hg11 hat11
        obtain ⟨A7, c7, rfl⟩ := Kd.R_slice RO11
        have D_ := Aside0.mk (D.out.keptG hb11)
        have RO_ := Aside0.mk RO11
        clear D RO HO HX hb6 hb7 hb11 hg11 hat11 RO11 hb4 hg4
        have D := D_
        have RO := RO_
        clear D_ RO_
        refine hK.out _ _ D.out.cells.2.2.2.2.2 (fun hHeld => ?_)
        clear hK K
        refine norm_ (a' := ?_) ?_ ?_
        rotate_left
        · show Act.put _ (some 61) _ = _
          simp only [Act.put, List.setIfInBounds_toArray, List.set_cons_zero, List.set_cons_succ, i64_w, i32_w]
          rfl
        refine pure_ (i := 10) (N := (some 62)) (v := ?_) (a' := ?_) #[true, true, true, true, true, true, true, true, true, true, true, false] rfl rfl (any_of HT_.out (by kernel_rfl)) (fun _ _ _ h => h) (Or.inl ⟨by rfl, ?_⟩) ?_ ?_
        rotate_left
        · intro w'
          go_simp
          with_reducible rfl
        rotate_left
        · simp only [Act.put, List.setIfInBounds_toArray, List.set_cons_zero, List.set_cons_succ, i64_w, i32_w]
          rfl
        have z5 := D.out.cells.2.2.2.2.2
        have f5 := D.out.frozen.2.2.2.2.2
        refine last_ (i := 11) (N := none) #[true, true, true, true, true, true, true, true, true, true, true, true] rfl rfl (one_of HT_.out (by kernel_rfl)) (by decide) (fun K hK => ?_)
        refine skip_ (w1 := ?_) (by rfl) rfl ?_ ?_
        rotate_left
        · go_simp
          rfl
        refine hK.out _ _ ?_
        clear hK K
        refine done_ (done_of HT_.out (by kernel_rfl)) ?_
        clear z5 f5 hHeld HT_ HW_
        have D_ := Aside0.mk (D.out.set5 (.slice A7 (recs ++ [recV l0 st]).length c7))
        have RO_ := Aside0.mk (Kd.R_far RO.out (p := ⟨gb, 5, none⟩) (fun k hk => by simp only; omega) (.slice A7 (recs ++ [recV l0 st]).length c7))
        clear D RO
        have hl7 : (recs ++ [recV l0 st]).length = recs.length + 1 := by simp
        go_wp2_with fail
        go_roundw
        case rel =>
          refine ⟨j + 1, recS l0 st, recs ++ [recV l0 st], A7, c7, by omega, by go_num, ⟨by have h := D_.out; rw [hl7] at h ⊢; exact h⟩, ⟨by have h := RO_.out; rw [hl7] at h ⊢; exact h⟩, by simp; omega, ⟨?_⟩⟩
          rw [HE.out, show n - j = (n - (j + 1)) + 1 by omega, recsD, if_pos he]; simp
        case measure => simp [intOf]; omega
      · have he1 : (st.2 == 0) = false := by simpa using he
        have hraw : rawD l0 = (recs, st) := by rw [HE.out, show n - j = (n - (j + 1)) + 1 by omega, recsD, if_neg he]; simp
        have HE := Aside0.mk hraw
        clear hraw
        have hst := he
        have hs1 : (st.2 != 0) = true := by simpa using hst
        obtain ⟨g0, g1, g2, g3, g4, g5, y0, y1, y2, y3, y4, y5⟩ := D.out.di.rcells
        go_wp2_with fail
        have e : decF l0 = (zeroDec, 20) := by unfold decF; rw [HE.out]; exact if_pos hst
        refine bodyPost_ret (v := .tuple #[.agg #[.int .i64 0, .int .i64 0, .int .i64 0, .int .i64 0, .bool false, .slice none 0 0], .int .i64 20]) (by simp [results, Try.results21, go_sem, y0, y1, y2, y3, y4, y5]) rfl ?_
        rw [e]
        exact ⟨_, rfl, Kd.R_nil _ _ _ _ _, (((((D.out.di.below.setCell (Nat.le_refl _) _).setCell (Nat.le_refl _) _).setCell (Nat.le_refl _) _).setCell (Nat.le_refl _) _).setCell (Nat.le_refl _) _).setCell (Nat.le_refl _) _⟩
    · have hl1 : decide ((j : Int) < (n : Int)) = false := by simpa using hlt
      have hraw : rawD l0 = (recs, st) := by rw [HE.out, show n - j = 0 by omega]; simp [recsD]
      by_cases hst : st.2 = 0
      · have HE := Aside0.mk hraw
        clear hraw
        have hs1 : (st.2 != 0) = false := by simpa using hst
        obtain ⟨z0, z1, z2, z3, z4, z5⟩ := D.out.cells
        obtain ⟨f0, f1, f2, f3, f4, f5⟩ := D.out.frozen
        have D4 := D.out.set4 (bits .and .i64 (flgD l0) 2 != 0)
        have RO4 := Kd.R_far RO.out (p := ⟨gb, 4, none⟩) (fun k hk => by simp only; omega) (.bool (bits .and .i64 (flgD l0) 2 != 0))
        by_cases hfl : (bits .and .i64 (flgD l0) 1 == 0) = true
        · have hfl1 : (bits .and .i64 (getF l0 (st1 l0).1 1).1 1 == 0) = true := hfl
          have hP := Aside0.mk (show madeD l0 = ⟨(getF l0 0 1).1, -1, (getF l0 (st3 l0).1 4).1, (getF l0 (st4 l0).1 4).1, bits .and .i64 (flgD l0) 2 != 0, recs⟩ by unfold madeD; rw [if_pos hfl, HE.out])
          have D5 := Aside0.mk (D4.set1 (-1))
          have RO5 := Aside0.mk (Kd.R_far RO4 (p := ⟨gb, 1, none⟩) (fun k hk => by simp only; omega) (.int .i64 (-1)))
          clear D4 RO4 hfl
          obtain ⟨hAc, hC⟩ := (Kd.R_reads' RO5.out).2
          go_wp2_with fail
          refine (Encode_calls _ _ _ _ _ A c recs _ hC hAc).mono ?_
          rintro e w9 ⟨v9, rfl, hR9, hb9⟩
          clear hC z0 z1 z2 z3 z4 z5 f0 f1 f2 f3 f4 f5
          have D6 := Aside0.mk (D5.out.kept hb9)
          have RO6 := Aside0.mk (Kd.R_below RO5.out hb9)
          obtain ⟨A9, c9, rfl⟩ := Kd.R_slice hR9
          have hq1 := Kd.C_string (P := Try.prog) (src := 33) (dst := 9) (e := 5) (c := c9) (by kernel_rfl) (by kernel_rfl) (by kernel_rfl) (Kd.R_reads' hR9).2.2
          have hq2 := Kd.C_string (P := Try.prog) (src := 33) (dst := 9) (e := 5) (c := c0) (by kernel_rfl) (by kernel_rfl) (by kernel_rfl) (Kd.C_below HR.out D6.out.di.below)
          clear D5 RO5 D RO hR9 hb9
          have HD := Aside0.mk (show decF l0 = if (encD (madeD l0)).2 ≠ 0 then (zeroDec, 22) else if (strOfNums (encD (madeD l0)).1).toList = (strOfNums l0).toList then (madeD l0, 0) else (zeroDec, 22) by unfold decF; rw [HE.out]; exact if_neg (by simpa using hst))
          rw [hP.out] at HD
          unfold encD at HD
          dsimp only at HD
          unfold flgD at HD D6
          generalize hE : encF _ _ _ _ _ _ = E at hq1 HD ⊢
          clear hE HE
          by_cases hc2 : E.2 = 0
          · have hc3 : (E.2 != 0) = false := by simpa using hc2
            by_cases hc4 : (strOfNums E.1).toList = (strOfNums l0).toList
            · have hc5 : ((strOfNums E.1).toList == (strOfNums l0).toList) = true := beq_iff_eq.mpr hc4
              have hc6 : ((strOfNums E.1).toList != (strOfNums l0).toList) = false := bne_eq_false_iff_eq.mpr hc4
              have HD2 := Aside0.mk (HD.out.trans ((if_neg (by simpa using hc2)).trans (if_pos hc4)))
              clear HD hc2 hc4
              obtain ⟨z0, z1, z2, z3, z4, z5⟩ := D6.out.cells
              obtain ⟨g0, g1, g2, g3, g4, g5, y0, y1, y2, y3, y4, y5⟩ := D6.out.di.rcells
              go_wp2_with fail
              refine bodyPost_ret (v := .tuple #[.agg #[.int .i64 (getF l0 0 1).1, .int .i64 (-1), .int .i64 (getF l0 (st3 l0).1 4).1, .int .i64 (getF l0 (st4 l0).1 4).1, .bool (bits .and .i64 (getF l0 (st1 l0).1 1).1 2 != 0), .slice A recs.length c], .int .i64 0]) (by simp [results, Try.results21, go_sem, y0, y1, y2, y3, y4, y5]) rfl ?_
              rw [HD2.out]
              have hfar : ∀ k, gb < k → k ≠ w.heap.size := fun k hk => by have := D6.out.gb2; omega
              exact ⟨_, rfl, Kd.R_lower (Kd.R_mono (Kd.R_far (Kd.R_far (Kd.R_far (Kd.R_far (Kd.R_far (Kd.R_far RO6.out hfar _) hfar _) hfar _) hfar _) hfar _) hfar _) (fun _ _ => trivial)) (by have := D6.out.gb2; omega), (((((D6.out.di.below.setCell (Nat.le_refl _) _).setCell (Nat.le_refl _) _).setCell (Nat.le_refl _) _).setCell (Nat.le_refl _) _).setCell (Nat.le_refl _) _).setCell (Nat.le_refl _) _⟩
            · have hc5 : ((strOfNums E.1).toList == (strOfNums l0).toList) = false := beq_eq_false_iff_ne.mpr hc4
              have hc6 : ((strOfNums E.1).toList != (strOfNums l0).toList) = true := bne_iff_ne.mpr hc4
              have HD2 := Aside0.mk (HD.out.trans ((if_neg (by simpa using hc2)).trans (if_neg hc4)))
              clear HD hc2 hc4
              obtain ⟨g0, g1, g2, g3, g4, g5, y0, y1, y2, y3, y4, y5⟩ := D6.out.di.rcells
              go_wp2_with fail
              refine bodyPost_ret (v := .tuple #[.agg #[.int .i64 0, .int .i64 0, .int .i64 0, .int .i64 0, .bool false, .slice none 0 0], .int .i64 22]) (by simp [results, Try.results21, go_sem, y0, y1, y2, y3, y4, y5]) rfl ?_
              rw [HD2.out]
              exact ⟨_, rfl, Kd.R_nil _ _ _ _ _, (((((D6.out.di.below.setCell (Nat.le_refl _) _).setCell (Nat.le_refl _) _).setCell (Nat.le_refl _) _).setCell (Nat.le_refl _) _).setCell (Nat.le_refl _) _).setCell (Nat.le_refl _) _⟩
          · have hc3 : (E.2 != 0) = true := by simpa using hc2
            have HD2 := Aside0.mk (HD.out.trans (if_pos hc2))
            clear HD hc2 hq1 hq2
            obtain ⟨g0, g1, g2, g3, g4, g5, y0, y1, y2, y3, y4, y5⟩ := D6.out.di.rcells
            go_wp2_with fail
            refine bodyPost_ret (v := .tuple #[.agg #[.int .i64 0, .int .i64 0, .int .i64 0, .int .i64 0, .bool false, .slice none 0 0], .int .i64 22]) (by simp [results, Try.results21, go_sem, y0, y1, y2, y3, y4, y5]) rfl ?_
            rw [HD2.out]
            exact ⟨_, rfl, Kd.R_nil _ _ _ _ _, (((((D6.out.di.below.setCell (Nat.le_refl _) _).setCell (Nat.le_refl _) _).setCell (Nat.le_refl _) _).setCell (Nat.le_refl _) _).setCell (Nat.le_refl _) _).setCell (Nat.le_refl _) _⟩
        · have hfl0 : (bits .and .i64 (flgD l0) 1 == 0) = false := by simpa using hfl
          have hfl1 : (bits .and .i64 (getF l0 (st1 l0).1 1).1 1 == 0) = false := hfl0
          have hP := Aside0.mk (show madeD l0 = ⟨(getF l0 0 1).1, (getF l0 (st2 l0).1 6).1, (getF l0 (st3 l0).1 4).1, (getF l0 (st4 l0).1 4).1, bits .and .i64 (flgD l0) 2 != 0, recs⟩ by unfold madeD; rw [if_neg hfl, HE.out])
          have D5 := Aside0.mk D4
          have RO5 := Aside0.mk RO4
          clear D4 RO4 hfl hfl0
          obtain ⟨hAc, hC⟩ := (Kd.R_reads' RO5.out).2
          go_wp2_with fail
          refine (Encode_calls _ _ _ _ _ A c recs _ hC hAc).mono ?_
          rintro e w9 ⟨v9, rfl, hR9, hb9⟩
          clear hC z0 z1 z2 z3 z4 z5 f0 f1 f2 f3 f4 f5
          have D6 := Aside0.mk (D5.out.kept hb9)
          have RO6 := Aside0.mk (Kd.R_below RO5.out hb9)
          obtain ⟨A9, c9, rfl⟩ := Kd.R_slice hR9
          have hq1 := Kd.C_string (P := Try.prog) (src := 33) (dst := 9) (e := 5) (c := c9) (by kernel_rfl) (by kernel_rfl) (by kernel_rfl) (Kd.R_reads' hR9).2.2
          have hq2 := Kd.C_string (P := Try.prog) (src := 33) (dst := 9) (e := 5) (c := c0) (by kernel_rfl) (by kernel_rfl) (by kernel_rfl) (Kd.C_below HR.out D6.out.di.below)
          clear D5 RO5 D RO hR9 hb9
          have HD := Aside0.mk (show decF l0 = if (encD (madeD l0)).2 ≠ 0 then (zeroDec, 22) else if (strOfNums (encD (madeD l0)).1).toList = (strOfNums l0).toList then (madeD l0, 0) else (zeroDec, 22) by unfold decF; rw [HE.out]; exact if_neg (by simpa using hst))
          rw [hP.out] at HD
          unfold encD at HD
          dsimp only at HD
          unfold flgD at HD D6
          generalize hE : encF _ _ _ _ _ _ = E at hq1 HD ⊢
          clear hE HE
          by_cases hc2 : E.2 = 0
          · have hc3 : (E.2 != 0) = false := by simpa using hc2
            by_cases hc4 : (strOfNums E.1).toList = (strOfNums l0).toList
            · have hc5 : ((strOfNums E.1).toList == (strOfNums l0).toList) = true := beq_iff_eq.mpr hc4
              have hc6 : ((strOfNums E.1).toList != (strOfNums l0).toList) = false := bne_eq_false_iff_eq.mpr hc4
              have HD2 := Aside0.mk (HD.out.trans ((if_neg (by simpa using hc2)).trans (if_pos hc4)))
              clear HD hc2 hc4
              obtain ⟨z0, z1, z2, z3, z4, z5⟩ := D6.out.cells
              obtain ⟨g0, g1, g2, g3, g4, g5, y0, y1, y2, y3, y4, y5⟩ := D6.out.di.rcells
              go_wp2_with fail
              refine bodyPost_ret (v := .tuple #[.agg #[.int .i64 (getF l0 0 1).1, .int .i64 ((getF l0 (st2 l0).1 6).1), .int .i64 (getF l0 (st3 l0).1 4).1, .int .i64 (getF l0 (st4 l0).1 4).1, .bool (bits .and .i64 (getF l0 (st1 l0).1 1).1 2 != 0), .slice A recs.length c], .int .i64 0]) (by simp [results, Try.results21, go_sem, y0, y1, y2, y3, y4, y5]) rfl ?_
              rw [HD2.out]
              have hfar : ∀ k, gb < k → k ≠ w.heap.size := fun k hk => by have := D6.out.gb2; omega
              exact ⟨_, rfl, Kd.R_lower (Kd.R_mono (Kd.R_far (Kd.R_far (Kd.R_far (Kd.R_far (Kd.R_far (Kd.R_far RO6.out hfar _) hfar _) hfar _) hfar _) hfar _) hfar _) (fun _ _ => trivial)) (by have := D6.out.gb2; omega), (((((D6.out.di.below.setCell (Nat.le_refl _) _).setCell (Nat.le_refl _) _).setCell (Nat.le_refl _) _).setCell (Nat.le_refl _) _).setCell (Nat.le_refl _) _).setCell (Nat.le_refl _) _⟩
            · have hc5 : ((strOfNums E.1).toList == (strOfNums l0).toList) = false := beq_eq_false_iff_ne.mpr hc4
              have hc6 : ((strOfNums E.1).toList != (strOfNums l0).toList) = true := bne_iff_ne.mpr hc4
              have HD2 := Aside0.mk (HD.out.trans ((if_neg (by simpa using hc2)).trans (if_neg hc4)))
              clear HD hc2 hc4
              obtain ⟨g0, g1, g2, g3, g4, g5, y0, y1, y2, y3, y4, y5⟩ := D6.out.di.rcells
              go_wp2_with fail
              refine bodyPost_ret (v := .tuple #[.agg #[.int .i64 0, .int .i64 0, .int .i64 0, .int .i64 0, .bool false, .slice none 0 0], .int .i64 22]) (by simp [results, Try.results21, go_sem, y0, y1, y2, y3, y4, y5]) rfl ?_
              rw [HD2.out]
              exact ⟨_, rfl, Kd.R_nil _ _ _ _ _, (((((D6.out.di.below.setCell (Nat.le_refl _) _).setCell (Nat.le_refl _) _).setCell (Nat.le_refl _) _).setCell (Nat.le_refl _) _).setCell (Nat.le_refl _) _).setCell (Nat.le_refl _) _⟩
          · have hc3 : (E.2 != 0) = true := by simpa using hc2
            have HD2 := Aside0.mk (HD.out.trans (if_pos hc2))
            clear HD hc2 hq1 hq2
            obtain ⟨g0, g1, g2, g3, g4, g5, y0, y1, y2, y3, y4, y5⟩ := D6.out.di.rcells
            go_wp2_with fail
            refine bodyPost_ret (v := .tuple #[.agg #[.int .i64 0, .int .i64 0, .int .i64 0, .int .i64 0, .bool false, .slice none 0 0], .int .i64 22]) (by simp [results, Try.results21, go_sem, y0, y1, y2, y3, y4, y5]) rfl ?_
            rw [HD2.out]
            exact ⟨_, rfl, Kd.R_nil _ _ _ _ _, (((((D6.out.di.below.setCell (Nat.le_refl _) _).setCell (Nat.le_refl _) _).setCell (Nat.le_refl _) _).setCell (Nat.le_refl _) _).setCell (Nat.le_refl _) _).setCell (Nat.le_refl _) _⟩
      · have HE := Aside0.mk hraw
        clear hraw
        have hs1 : (st.2 != 0) = true := by simpa using hst
        obtain ⟨g0, g1, g2, g3, g4, g5, y0, y1, y2, y3, y4, y5⟩ := D.out.di.rcells
        go_wp2_with fail
        have e : decF l0 = (zeroDec, 20) := by unfold decF; rw [HE.out]; exact if_pos hst
        refine bodyPost_ret (v := .tuple #[.agg #[.int .i64 0, .int .i64 0, .int .i64 0, .int .i64 0, .bool false, .slice none 0 0], .int .i64 20]) (by simp [results, Try.results21, go_sem, y0, y1, y2, y3, y4, y5]) rfl ?_
        rw [e]
        exact ⟨_, rfl, Kd.R_nil _ _ _ _ _, (((((D.out.di.below.setCell (Nat.le_refl _) _).setCell (Nat.le_refl _) _).setCell (Nat.le_refl _) _).setCell (Nat.le_refl _) _).setCell (Nat.le_refl _) _).setCell (Nat.le_refl _) _⟩
end Go.Proofs.Ythnmgbmpbhdfcaa.Hand
