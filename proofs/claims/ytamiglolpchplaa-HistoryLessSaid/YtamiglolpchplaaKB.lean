/- Right. Shown. Clone; IndexFunc; DeleteFunc; keep. DeleteFunc at a row of one's own. keep. -/
import Derived.Test.YtamiglolpchplaaK6
import Derived.Test.YtamiglolpchplaaWEqStruct
namespace Go.Proofs.Ytamiglolpchplaa.Hand
open Go.RowKit Go.Proofs.Ytamiglolpchplaa Go.Proofs.YtamiglolpchplaaW.PrintWords Go.Proofs.YtamiglolpchplaaW.PrintLast
set_option linter.unusedVariables false
set_option linter.unusedSimpArgs false
theorem box_load {w : World} {g : Nat} {a b c d e f h : Value} (hb : w.heap[g]? = some (.cells #[a, b, c, d, e, f, h] 34 (0, 0))) : Sem.run Try.prog (loadCellsFrom ⟨g, 0, none⟩ 0 7 #[]) w = .ok #[a, b, c, d, e, f, h] w := by
  have q := run_loadCellsFrom_list Try.prog w ⟨g, 0, none⟩ [a, b, c, d, e, f, h] 7 rfl (fun i u hi => by
    have e1 : (Addr.add ⟨g, 0, none⟩ i) = ⟨g, i, none⟩ := by unfold Addr.add; split <;> simp_all
    rw [e1, blk_cell hb i]
    simpa using hi)
  exact q
theorem beq_ba (a b : ByteArray) : (a == b) = (a.data == b.data) := by cases a; cases b; rfl
instance lawBA : LawfulBEq ByteArray where
  eq_of_beq {a b} h := by
    rw [beq_ba] at h
    have := eq_of_beq h
    cases a; cases b; simp_all
  rfl {a} := by rw [beq_ba]; exact beq_self_eq_true _
theorem run_look {w : World} {v m k : Value} (ev : Operand → Value) (o : Oper) (t : TypeId) (x y : Operand) (b : Bool) (ho : o.op = .lookup t x y b) (hx : ev x = m) (hy : ev y = k) (hl : (Instr.lookup t m k b).run Try.prog w = .ok v w) : (execOp ev o).run Try.prog w = .ok (.value v) w := by
  unfold execOp
  simp only [ho, hx, hy, Sem.run_bind, Sem.run_pure, Result.andThen_ok, hl]
def metF (met : List ByteArray) (s : ByteArray) : Option Bool := if s ∈ met then some true else none
theorem metF_in {met : List ByteArray} {s : ByteArray} (h : s ∈ met) : (metF met s).getD false = true := by rw [metF, if_pos h]; rfl
theorem metF_no {met : List ByteArray} {s : ByteArray} (h : s ∉ met) : (metF met s).getD false = false := by rw [metF, if_neg h]; rfl
theorem metF_nil : (fun _ => none) = metF [] := by funext s; simp [metF]
theorem metF_put (met : List ByteArray) (x : ByteArray) : putF (metF met) x true = metF (x :: met) := by
  funext s
  unfold putF metF
  by_cases h : s = x
  · subst h; simp
  · simp [h]
/-- Behind those whose appends' values are met. -/
def rightL (met : List ByteArray) : List CallV → Bool
  | [] => true
  | c :: cs => aloneF c && (c.read || !(decide (c.value ∈ met))) && rightL (if c.read = true then met else c.value :: met) cs
def rightF (l : List CallV) : Bool := rightL [] l && decide (l.length ≤ 1000)
theorem rightL_no1 {met : List ByteArray} {c : CallV} {cs : List CallV} (h : aloneF c = false) : rightL met (c :: cs) = false := by rw [rightL, h]; rfl
theorem rightL_no2 {met : List ByteArray} {c : CallV} {cs : List CallV} (h : c.read = false) (hm : c.value ∈ met) : rightL met (c :: cs) = false := by rw [rightL, h, decide_eq_true hm]; simp
theorem rightL_read {met : List ByteArray} {c : CallV} {cs : List CallV} (h : aloneF c = true) (hr : c.read = true) : rightL met (c :: cs) = rightL met cs := by rw [rightL, h, hr]; simp
theorem rightL_app {met : List ByteArray} {c : CallV} {cs : List CallV} (h : aloneF c = true) (hr : c.read = false) (hm : c.value ∉ met) : rightL met (c :: cs) = rightL (c.value :: met) cs := by rw [rightL, h, hr, decide_eq_false hm]; simp
theorem below_grown {w W W' : World} {B : Nat} (h : Below w.heap.size w W) (hg : W.grownBy W' (some B)) (hB : w.heap.size ≤ B) : Below w.heap.size w W' :=
  ⟨hg.os.trans h.os, hg.tape.trans h.tape, hg.output.trans h.output, Nat.le_trans h.size hg.size, fun k hk => (hg.block k (Nat.lt_of_lt_of_le hk h.size) (fun e => by injection e with e; omega)).trans (h.block k hk)⟩
structure RtI (w : World) (L : List CallV) (i : Nat) (met : List ByteArray) (wr : World) : Prop where
  go : rightL [] L = rightL met (L.drop i)
  mp : MapG tSB wr w.heap.size (metF met)
  bl : Below w.heap.size w wr
set_option maxHeartbeats 8000000 in
set_option maxRecDepth 100000 in
theorem right_c (A : Option Addr) (c : Nat) (rs : List CallP) (w : World) (hr : Kd.C kP w A rs.length rs) (hv : ∀ r ∈ rs, r.2.2.1 = r.1.values.length) :
    Calls Try.prog 9 #[.slice A rs.length c] w fun e w' => e = .returned (.bool (rightF (rs.map (·.1)))) ∧ Below w.heap.size w w' := by
  have hmm := @run_makeMap Try.prog
  have HR := Aside0.mk hr
  have HV := Aside0.mk hv
  have hmax := Kd.C_max hr
  obtain ⟨L, hL⟩ : ∃ L, L = rs.map (·.1) := ⟨_, rfl⟩
  have HL := Aside0.mk hL
  rw [← hL]
  have hM0 := MapG.made (t := tSB) w
  have HI := Aside0.mk (show RtI w L 0 [] (w.alloc (.map #[] 0)) from ⟨rfl, metF_nil ▸ hM0, below_alloc (Below.refl _ _) _⟩)
  clear hr hv hL hM0
  go_enter Try.func9, Try.ntmps9
  go_wp2_with fail
  go_loopw [9] (fun u9 wr => ∃ (i : Nat) (met : List ByteArray), i ≤ rs.length ∧ u9 = .int .i64 i ∧ RtI w L i met wr) (fun u9 wr => rs.length - (intOf u9).toNat)
  case atStart => exact ⟨0, [], by omega, rfl, HI.out⟩
  case round =>
    obtain ⟨i, met, hi, rfl, hri⟩ := hrel
    have HI1 := Aside0.mk hri
    clear HI hri
    by_cases hi1 : i < rs.length
    · have hd : (i : Int) < (rs.length : Int) := by omega
      obtain ⟨⟨⟨rd, dn, bg, fi, of, va, vs⟩, A1, n1, c1⟩, hx⟩ : ∃ x, rs[i]? = some x := ⟨_, List.getElem?_eq_getElem hi1⟩
      have hn1 : n1 = vs.length := HV.out _ (List.mem_of_getElem? hx)
      subst hn1
      obtain ⟨ad, hA, x0, x1, x2, x3, x4, x5, x6⟩ := at_P (Kd.C_below HR.out HI1.out.bl) i hi1 _ hx
      subst hA
      dsimp only at x0 x1 x2 x3 x4 x5 x6
      obtain ⟨W1, hW1⟩ : ∃ W1, W1 = wr.alloc (.cells #[.bool rd, .bool dn, .int .i64 bg, .int .i64 fi, .int .i64 of, .string va, .slice A1 vs.length c1] 34 (0, 0)) := ⟨_, rfl⟩
      obtain ⟨g, hg⟩ : ∃ g, wr.heap.size = g := ⟨_, rfl⟩
      have BK := Aside0.mk (show W1.heap[g]? = some (.cells #[.bool rd, .bool dn, .int .i64 bg, .int .i64 fi, .int .i64 of, .string va, .slice A1 vs.length c1] 34 (0, 0)) from by rw [hW1, ← hg]; exact heap_alloc_new wr _)
      have HB := Aside0.mk (show Below w.heap.size w W1 from by rw [hW1]; exact below_alloc HI1.out.bl _)
      have HM := Aside0.mk (show MapG tSB W1 w.heap.size (metF met) from by rw [hW1]; exact HI1.out.mp.below (below_alloc (Below.refl _ _) _))
      have HD := Aside0.mk (show L.drop i = ⟨rd, dn, bg, fi, of, va, vs⟩ :: L.drop (i + 1) from by
        have : L[i]? = some ⟨rd, dn, bg, fi, of, va, vs⟩ := by rw [HL.out, List.getElem?_map, hx]; rfl
        obtain ⟨h1, h2⟩ := List.getElem?_eq_some_iff.1 this
        rw [← h2]; exact List.drop_eq_getElem_cons h1)
      have HW1 := Aside0.mk hW1
      have hq : wrap64 ((i : Int) + 1) = ((i + 1 : Nat) : Int) := by unfold wrap64; omega
      have HQ := Aside0.mk hq
      clear hx hq
      have HC := Aside0.mk (alone_c ⟨⟨rd, dn, bg, fi, of, va, vs⟩, A1, vs.length, c1⟩ rfl W1)
      obtain ⟨ok, hok⟩ : ∃ ok, aloneF ⟨rd, dn, bg, fi, of, va, vs⟩ = ok := ⟨_, rfl⟩
      have HK := Aside0.mk hok
      rw [hok] at HC
      rw [hW1] at HC BK HB HM
      have y0 := (blk_cell BK.out 0).trans rfl
      have y1 := (blk_cell BK.out 1).trans rfl
      have y2 := (blk_cell BK.out 2).trans rfl
      have y3 := (blk_cell BK.out 3).trans rfl
      have y4 := (blk_cell BK.out 4).trans rfl
      have y5 := (blk_cell BK.out 5).trans rfl
      have y6 := (blk_cell BK.out 6).trans rfl
      clear hok hW1 HW1
      cases ok with
      | false =>
        go_wp2_with (go_at_call 19; refine HC.out.mono ?_; rintro e' w2 ⟨rfl, hb2⟩; have HB2 := Aside0.mk (below_step HB.out hb2); clear hb2)
        go_ret
        exact ⟨retB (by rw [rightF, HI1.out.go, HD.out, rightL_no1 HK.out]; rfl), HB2.out⟩
      | true =>
        cases rd with
        | true =>
          go_wp2_with (go_at_call 19; refine HC.out.mono ?_; rintro e' w2 ⟨rfl, hb2⟩; have HB2 := Aside0.mk (below_step HB.out hb2); have HM2 := Aside0.mk (HM.out.below hb2); have BK2 := Aside0.mk (blk_below BK.out hb2); have z0 := (blk_cell BK2.out 0).trans rfl; clear hb2 y0 y1 y2 y3 y4 y5 y6)
          exact ⟨⟨i + 1, met, by omega, by (first | rfl | rw [HQ.out]), ⟨by rw [HI1.out.go, HD.out, rightL_read HK.out rfl], HM2.out, HB2.out⟩⟩, by simp only [intOf]; omega⟩
        | false =>
          by_cases hm : va ∈ met
          · have HG := Aside0.mk (metF_in hm)
            have HM' := Aside0.mk hm
            clear hm
            go_wp2_with (go_at_call 19; refine HC.out.mono ?_; rintro e' w2 ⟨rfl, hb2⟩; have HB2 := Aside0.mk (below_step HB.out hb2); have HM2 := Aside0.mk (HM.out.below hb2); have BK2 := Aside0.mk (blk_below BK.out hb2); have z0 := (blk_cell BK2.out 0).trans rfl; have z5 := (blk_cell BK2.out 5).trans rfl; have q := sb_look HM2.out va; rw [HG.out] at q; clear hb2 y0 y1 y2 y3 y4 y5 y6)
            go_ret
            exact ⟨retB (by rw [rightF, HI1.out.go, HD.out, rightL_no2 rfl HM'.out]; rfl), HB2.out⟩
          · have HG := Aside0.mk (metF_no hm)
            have HM' := Aside0.mk hm
            clear hm
            go_wp2_with (go_at_call 19; refine HC.out.mono ?_; rintro e' w2 ⟨rfl, hb2⟩; have HB2 := Aside0.mk (below_step HB.out hb2); have HM2 := Aside0.mk (HM.out.below hb2); have BK2 := Aside0.mk (blk_below BK.out hb2); have z0 := (blk_cell BK2.out 0).trans rfl; have z5 := (blk_cell BK2.out 5).trans rfl; have q := sb_look HM2.out va; rw [HG.out] at q; obtain ⟨w3, hp3, hm3, hg3⟩ := sb_put HM2.out va true; rw [metF_put] at hm3; have HM3 := Aside0.mk hm3; have HG3 := Aside0.mk hg3; clear hb2 hm3 hg3 y0 y1 y2 y3 y4 y5 y6)
            have HB3 := Aside0.mk (below_grown HB2.out HG3.out (Nat.le_refl _))
            exact ⟨⟨i + 1, va :: met, by omega, by (first | rfl | rw [HQ.out]), ⟨by rw [HI1.out.go, HD.out, rightL_app HK.out rfl HM'.out], HM3.out, HB3.out⟩⟩, by simp only [intOf]; omega⟩
    · have hd : ¬ (i : Int) < (rs.length : Int) := by omega
      obtain rfl : i = rs.length := by omega
      have HE := Aside0.mk (show rightF L = decide (rs.length ≤ 1000) from by
        rw [rightF, HI1.out.go, List.drop_eq_nil_of_le (by rw [HL.out, List.length_map]; omega)]
        rw [HL.out, List.length_map]; simp [rightL])
      go_wp2_with fail
      all_goals (go_ret; exact ⟨retB (by rw [HE.out]; (first | exact decide_eq_decide.2 (by omega) | (symm; rw [decide_eq_true_eq]; omega) | (symm; rw [decide_eq_false_iff_not]; omega))), HI1.out.bl⟩)
end Go.Proofs.Ytamiglolpchplaa.Hand
namespace Go.Proofs.Ytamiglolpchplaa.Hand
open Go.RowKit Go.Proofs.Ytamiglolpchplaa Go.Proofs.YtamiglolpchplaaW.PrintWords Go.Proofs.YtamiglolpchplaaW.PrintLast
set_option linter.unusedVariables false
set_option linter.unusedSimpArgs false
theorem rightL_alone : ∀ (l : List CallV) (met : List ByteArray), rightL met l = true → ∀ c ∈ l, aloneF c = true
  | [], met, _ => fun c hc => by simp at hc
  | x :: l, met, h => fun c hc => by
    rw [rightL, Bool.and_eq_true, Bool.and_eq_true] at h
    rcases List.mem_cons.1 hc with rfl | hc
    · exact h.1.1
    · exact rightL_alone l _ h.2 c hc
theorem rightF_alone {l : List CallV} (h : rightF l = true) : ∀ c ∈ l, aloneF c = true := by
  rw [rightF, Bool.and_eq_true] at h
  exact rightL_alone l [] h.1
theorem rightF_len {l : List CallV} (h : rightF l = true) : l.length ≤ 1000 := by
  rw [rightF, Bool.and_eq_true] at h
  exact of_decide_eq_true h.2
theorem aloneF_small {c : CallV} (h : aloneF c = true) : SmallC c := by
  simp only [aloneF, kindF, Bool.and_eq_true] at h
  have hk := h.2
  by_cases hr : c.read = true
  · rw [if_pos hr] at hk
    simp only [Bool.and_eq_true, decide_eq_true_eq] at hk
    exact ⟨by omega, by omega, by omega⟩
  · rw [if_neg hr] at hk
    simp only [Bool.and_eq_true, decide_eq_true_eq] at hk
    exact ⟨by omega, by omega, by omega⟩
def shownL (n : Int) : List CallV → Int
  | [] => n
  | c :: cs => shownL (if 0 < (showsF c).2.length then max n ((showsF c).1 + ((showsF c).2.length : Int)) else n) cs
def shownF (l : List CallV) : Int := if rightF l = true then shownL 0 l else 0
theorem showsF_small {c : CallV} (h : SmallC c) : 0 ≤ (showsF c).1 ∧ (showsF c).1 ≤ 1000 ∧ (showsF c).2.length ≤ 1000 := by
  have h1 := h.o0; have h2 := h.o1; have h3 := h.vs
  unfold showsF
  split
  · split
    · exact ⟨by omega, by omega, h3⟩
    · exact ⟨h1, by show c.offset ≤ 1000; omega, by simp⟩
  · exact ⟨by omega, by omega, by simp⟩
/-- Behind what was laid first. -/
theorem below_under {w W2 : World} {o : Obj} (h : Below (w.alloc o).heap.size (w.alloc o) W2) : Below w.heap.size w W2 := below_step (below_alloc (Below.refl _ _) o) h
structure ShI (w : World) (L : List CallV) (i : Nat) (n : Int) (wr : World) : Prop where
  go : shownL 0 L = shownL n (L.drop i)
  bl : Below w.heap.size w wr
  n0 : 0 ≤ n
  n1 : n ≤ 2000
theorem ShI.step {w wr w2 : World} {L : List CallV} {i : Nat} {n : Int} {c : CallV} (h : ShI w L i n wr) (hd : L.drop i = c :: L.drop (i + 1)) (hb : Below wr.heap.size wr w2) (hs : SmallC c) :
    ShI w L (i + 1) (if 0 < (showsF c).2.length then max n ((showsF c).1 + ((showsF c).2.length : Int)) else n) w2 := by
  obtain ⟨h1, h2, h3⟩ := showsF_small hs
  refine ⟨by rw [h.go, hd, shownL], below_step h.bl hb, ?_, ?_⟩
  · have := h.n0; split <;> omega
  · have := h.n1; split <;> omega
set_option maxHeartbeats 8000000 in
set_option maxRecDepth 100000 in
theorem shown_c (A : Option Addr) (c : Nat) (rs : List CallP) (w : World) (hr : Kd.C kP w A rs.length rs) (hv : ∀ r ∈ rs, ValOK w r) :
    Calls Try.prog 14 #[.slice A rs.length c] w fun e w' => e = .returned (.int .i64 (shownF (rs.map (·.1)))) ∧ Below w.heap.size w w' := by
  have HR := Aside0.mk hr
  have HV := Aside0.mk hv
  have hmax := Kd.C_max hr
  have HG := Aside0.mk (right_c A c rs w hr (fun r h => (hv r h).1))
  obtain ⟨L, hL⟩ : ∃ L, L = rs.map (·.1) := ⟨_, rfl⟩
  have HL := Aside0.mk hL
  rw [← hL] at HG ⊢
  clear hr hv hL
  obtain ⟨ok, hok⟩ : ∃ ok, rightF L = ok := ⟨_, rfl⟩
  have HK := Aside0.mk hok
  rw [hok] at HG
  clear hok
  cases ok with
  | false =>
    have HE := Aside0.mk (show shownF L = 0 from if_neg (by rw [HK.out]; decide))
    rw [HE.out]
    go_enter Try.func14, Try.ntmps14
    go_wp2_with (go_at_call 9; refine HG.out.mono ?_; rintro e' w2 ⟨rfl, hb2⟩; have HB2 := Aside0.mk hb2; clear hb2)
    go_ret
    exact ⟨rfl, HB2.out⟩
  | true =>
    have HE := Aside0.mk (show shownF L = shownL 0 L from if_pos HK.out)
    rw [HE.out]
    go_enter Try.func14, Try.ntmps14
    go_wp2_with (go_at_call 9; refine HG.out.mono ?_; rintro e' w2 ⟨rfl, hb2⟩; have HB2 := Aside0.mk hb2; clear hb2)
    go_loopw [3, 12] (fun u3 u12 wr => ∃ (i : Nat) (n : Int), i ≤ rs.length ∧ u12 = .int .i64 i ∧ u3 = .int .i64 n ∧ ShI w L i n wr) (fun u3 u12 wr => rs.length - (intOf u12).toNat)
    case atStart => exact ⟨0, 0, by omega, rfl, rfl, ⟨rfl, HB2.out, by omega, by omega⟩⟩
    case round =>
      obtain ⟨i, n, hi, rfl, rfl, hri⟩ := hrel
      have HI1 := Aside0.mk hri
      clear hri
      by_cases hi1 : i < rs.length
      · have hd : (i : Int) < (rs.length : Int) := by omega
        obtain ⟨⟨⟨rd, dn, bg, fi, of, va, vs⟩, A1, n1, c1⟩, hx⟩ : ∃ x, rs[i]? = some x := ⟨_, List.getElem?_eq_getElem hi1⟩
        have hvx := HV.out _ (List.mem_of_getElem? hx)
        have hn1 : n1 = vs.length := hvx.1
        subst hn1
        obtain ⟨ad, hA, x0, x1, x2, x3, x4, x5, x6⟩ := at_P (Kd.C_below HR.out HI1.out.bl) i hi1 _ hx
        subst hA
        dsimp only at x0 x1 x2 x3 x4 x5 x6
        have hmem : L[i]? = some ⟨rd, dn, bg, fi, of, va, vs⟩ := by rw [HL.out, List.getElem?_map, hx]; rfl
        have HS := Aside0.mk (aloneF_small (rightF_alone HK.out _ (List.mem_of_getElem? hmem)))
        have HD := Aside0.mk (show L.drop i = ⟨rd, dn, bg, fi, of, va, vs⟩ :: L.drop (i + 1) from by
          obtain ⟨h1, h2⟩ := List.getElem?_eq_some_iff.1 hmem
          rw [← h2]; exact List.drop_eq_getElem_cons h1)
        have HC := Aside0.mk (shows_c ⟨⟨rd, dn, bg, fi, of, va, vs⟩, A1, vs.length, c1⟩ (wr.alloc (.cells #[.bool rd, .bool dn, .int .i64 bg, .int .i64 fi, .int .i64 of, .string va, .slice A1 vs.length c1] 34 (0, 0))) (hvx.below (below_alloc HI1.out.bl _)))
        have HST := Aside0.mk (fun w2 (hb : Below wr.heap.size wr w2) => HI1.out.step HD.out hb HS.out)
        obtain ⟨h1, h2, h3⟩ := showsF_small HS.out
        obtain ⟨s, hs⟩ : ∃ s, showsF ⟨rd, dn, bg, fi, of, va, vs⟩ = s := ⟨_, rfl⟩
        dsimp only at HC
        rw [hs] at h1 h2 h3 HC HST
        obtain ⟨fr, vl⟩ := s
        dsimp only at h1 h2 h3 HC HST
        have hq : wrap64 (fr + (vl.length : Int)) = fr + (vl.length : Int) := by unfold wrap64; omega
        have HQ := Aside0.mk hq
        clear h1 h2 h3 hq hmem hx hvx hs
        by_cases hp : 0 < vl.length
        · have hp' : (0 : Int) < (vl.length : Int) := by omega
          have HST2 := Aside0.mk (fun w2 hb => (if_pos hp) ▸ HST.out w2 hb)
          have hq := HQ.out
          go_wp2_with (go_at_call 28; refine HC.out.mono ?_; rintro e' w2 ⟨A2, c2, rfl, g1, g2, hb2⟩; have HB3 := Aside0.mk hb2; clear g1 g2 hb2)
          exact ⟨⟨i + 1, _, by omega, rfl, rfl, HST2.out _ (below_under HB3.out)⟩, by simp only [intOf]; omega⟩
        · have hp' : ¬ (0 : Int) < (vl.length : Int) := by omega
          have HST2 := Aside0.mk (fun w2 hb => (if_neg hp) ▸ HST.out w2 hb)
          go_wp2_with (go_at_call 28; refine HC.out.mono ?_; rintro e' w2 ⟨A2, c2, rfl, g1, g2, hb2⟩; have HB3 := Aside0.mk hb2; clear g1 g2 hb2)
          exact ⟨⟨i + 1, _, by omega, rfl, rfl, HST2.out _ (below_under HB3.out)⟩, by simp only [intOf]; omega⟩
      · have hd : ¬ (i : Int) < (rs.length : Int) := by omega
        obtain rfl : i = rs.length := by omega
        have HF := Aside0.mk (show shownL 0 L = n from by rw [HI1.out.go, List.drop_eq_nil_of_le (by rw [HL.out, List.length_map]; omega)]; rfl)
        go_wp2_with fail
        go_ret
        exact ⟨by rw [HF.out]; rfl, HI1.out.bl⟩
end Go.Proofs.Ytamiglolpchplaa.Hand
namespace Go.Proofs.Ytamiglolpchplaa.Hand
open Go.RowKit Go.Proofs.Ytamiglolpchplaa Go.Proofs.YtamiglolpchplaaW.PrintWords Go.Proofs.YtamiglolpchplaaW.PrintLast
set_option linter.unusedVariables false
set_option linter.unusedSimpArgs false
theorem eq_nil0 (n c : Nat) (w : World) : (binOp .eql 23 (.slice none n c) (.slice none 0 0)).run Try.prog w = .ok (.bool true) w := by kernel_rfl
theorem eq_nil1 (ad : Addr) (n c : Nat) (w : World) : (binOp .eql 23 (.slice (some ad) n c) (.slice none 0 0)).run Try.prog w = .ok (.bool false) w := by kernel_rfl
set_option maxHeartbeats 1600000 in
set_option maxRecDepth 100000 in
theorem clone_c (A : Option Addr) (c : Nat) (l : List CallP) (W : World) (hr : Kd.C kP W A l.length l) (hl : l.length ≤ 1000) :
    Calls Try.prog 41 #[.slice A l.length c] W fun e W' => ∃ v, e = .returned v ∧ Kd.R kP 34 W' W.heap.size (fun _ => True) v l ∧ Below W.heap.size W W' := by
  have HR := Aside0.mk hr
  rcases A with _ | ad
  · have h0 : l = [] := by
      rcases Nat.eq_zero_or_pos l.length with h0 | h0
      · exact List.eq_nil_of_length_eq_zero h0
      · obtain ⟨ad, h, _⟩ := hr.2.2 h0
        cases h
    subst h0
    clear hr
    have q0 := eq_nil0
    go_enter Try.func41, Try.ntmps41
    go_wp2_with fail
    go_ret
    exact ⟨_, rfl, Kd.R_nil _ _ _ _ _, Below.refl _ _⟩
  · clear hr
    have q0 := eq_nil1
    go_enter Try.func41, Try.ntmps41
    go_wp2_with (first | ((with_reducible refine gate_dst (N := 5) rfl ?_); refine Kd.R_lit kP (w0 := W) W.heap.size 34 ?hg (N := 5) ?hd (xs := ([] : List CallP)) (inner := []) (ok := fun _ => True) (okp := fun _ => True) ?hr ?hp (fun _ hk => hk) trivial (Below.refl _ _) (Nat.le_refl _) (by simp) ?_; (case hg => rfl); (case hd => rfl); (case hr => first | (go_simp; done) | (go_simp; rfl)); (case hp => exact Reps.none _ _); intro vl_ wl_ HOl_ hbl_ hgl_ hatl_; have HCl_ := Kd.C_below HR.out hbl_; clear hgl_ hatl_) | (refine Kd.R_append_rows kP (Rr := kP.K wl_) (w0 := W) W.heap.size rfl (.tmp 5) (.tmp 6) 23 34 (.agg #[.bool false, .bool false, .int .i64 0, .int .i64 0, .int .i64 0, .string ⟨#[]⟩, .slice none 0 0]) 72 rfl Try.underlying23 infoP rfl (by decide) (by decide) vl_ [] l (some ad) _ c (fun _ => True) (fun _ => False) rfl rfl HOl_ HCl_ (fun _ _ h => h) (fun _ h => h.elim) (fun _ _ => trivial) hbl_ (below_size hbl_) (by simp; omega) ?_; intro v1_ W1_ ho_ hb_ hg_ hat_; clear HOl_ HCl_ hbl_ hg_ hat_))
    go_ret
    exact ⟨_, rfl, ho_, hb_⟩
--IDX
def idxF (p : CallP → Bool) (rs : List CallP) : Int := match rs.findIdx? p with
  | some k => (k : Int)
  | none => -1
theorem idxF_some {p : CallP → Bool} {rs : List CallP} {i : Nat} {x : CallP} (hx : rs[i]? = some x) (hp : p x = true) (hn : ∀ j y, j < i → rs[j]? = some y → p y = false) : idxF p rs = (i : Int) := by
  have h : rs.findIdx? p = some i := by
    rw [List.findIdx?_eq_some_iff_getElem]
    obtain ⟨h1, h2⟩ := List.getElem?_eq_some_iff.1 hx
    refine ⟨h1, by rw [h2]; exact hp, fun j hj => ?_⟩
    have := hn j _ hj (List.getElem?_eq_getElem (by omega))
    simp [this]
  rw [idxF, h]
theorem idxF_none {p : CallP → Bool} {rs : List CallP} (hn : ∀ j y, j < rs.length → rs[j]? = some y → p y = false) : idxF p rs = -1 := by
  have h : rs.findIdx? p = none := by
    rw [List.findIdx?_eq_none_iff]
    intro x hx
    obtain ⟨j, hj, rfl⟩ := List.mem_iff_getElem.1 hx
    exact hn j _ hj (List.getElem?_eq_getElem hj)
  rw [idxF, h]
set_option maxHeartbeats 1600000 in
set_option maxRecDepth 100000 in
theorem index42_c (A : Option Addr) (c : Nat) (rs : List CallP) (p : CallP → Bool) (b0 : Value) (w : World) (hr : Kd.C kP w A rs.length rs)
    (hp : ∀ (W : World) (x : CallP), x ∈ rs → Below w.heap.size w W → Calls Try.prog 42 #[.agg (crP x).toArray, b0] W fun e w' => e = .returned (.bool (p x)) ∧ Below W.heap.size W w') :
    Calls Try.prog 30 #[.slice A rs.length c, .func (.func 42) #[] #[b0]] w fun e w' => e = .returned (.int .i64 (idxF p rs)) ∧ Below w.heap.size w w' := by
  have HR := Aside0.mk hr
  have HP := Aside0.mk hp
  have hmax := Kd.C_max hr
  clear hr hp
  go_enter Try.func30, Try.ntmps30
  go_wp2_with fail
  go_loopw [8] (fun u8 wr => ∃ i : Nat, i ≤ rs.length ∧ u8 = .int .i64 i ∧ (∀ j y, j < i → rs[j]? = some y → p y = false) ∧ Below w.heap.size w wr) (fun u8 wr => rs.length - (intOf u8).toNat)
  case atStart => exact ⟨0, by omega, rfl, fun j y h => by omega, Below.refl _ _⟩
  case round =>
    obtain ⟨i, hi, rfl, hn, hbl⟩ := hrel
    have HN := Aside0.mk hn
    have HB := Aside0.mk hbl
    clear hn hbl
    by_cases hi1 : i < rs.length
    · have hd : (i : Int) < (rs.length : Int) := by omega
      obtain ⟨x, hx⟩ : ∃ x, rs[i]? = some x := ⟨_, List.getElem?_eq_getElem hi1⟩
      have HX := Aside0.mk hx
      have HC := Aside0.mk (HP.out wr x (List.mem_of_getElem? hx) HB.out)
      obtain ⟨ad, hA, x0, x1, x2, x3, x4, x5, x6⟩ := at_P (Kd.C_below HR.out HB.out) i hi1 _ hx
      subst hA
      obtain ⟨b, hb⟩ : ∃ b, p x = b := ⟨_, rfl⟩
      have HPX := Aside0.mk hb
      rw [hb] at HC
      clear hx hb
      obtain ⟨⟨rd, dn, bg, fi, of, va, vs⟩, A1, n1, c1⟩ := x
      dsimp only at x0 x1 x2 x3 x4 x5 x6
      cases b with
      | true =>
        go_wp2_with (go_at_call 42; refine HC.out.mono ?_; rintro e' w2 ⟨rfl, hb2⟩; have HB2 := Aside0.mk (below_step HB.out hb2); clear hb2 x0 x1 x2 x3 x4 x5 x6)
        go_ret
        exact ⟨by rw [idxF_some HX.out HPX.out HN.out]; rfl, HB2.out⟩
      | false =>
        go_wp2_with (go_at_call 42; refine HC.out.mono ?_; rintro e' w2 ⟨rfl, hb2⟩; have HB2 := Aside0.mk (below_step HB.out hb2); clear hb2 x0 x1 x2 x3 x4 x5 x6)
        refine ⟨⟨i + 1, by omega, rfl, fun j y hj hy => ?_, HB2.out⟩, by simp only [intOf]; omega⟩
        by_cases e : j = i
        · subst e; rw [HX.out] at hy; injection hy with hy; rw [← hy]; exact HPX.out
        · exact HN.out j y (by omega) hy
    · have hd : ¬ (i : Int) < (rs.length : Int) := by omega
      obtain rfl : i = rs.length := by omega
      go_wp2_with fail
      go_ret
      exact ⟨by rw [idxF_none HN.out]; rfl, HB.out⟩
set_option maxHeartbeats 1600000 in
set_option maxRecDepth 100000 in
theorem index31_c (A : Option Addr) (c : Nat) (rs : List CallP) (p : CallP → Bool) (b0 b1 b2 : Value) (w : World) (hr : Kd.C kP w A rs.length rs)
    (hp : ∀ (W : World) (x : CallP), x ∈ rs → Below w.heap.size w W → Calls Try.prog 31 #[.agg (crP x).toArray, b0, b1, b2] W fun e w' => e = .returned (.bool (p x)) ∧ Below W.heap.size W w') :
    Calls Try.prog 30 #[.slice A rs.length c, .func (.func 31) #[] #[b0, b1, b2]] w fun e w' => e = .returned (.int .i64 (idxF p rs)) ∧ Below w.heap.size w w' := by
  have HR := Aside0.mk hr
  have HP := Aside0.mk hp
  have hmax := Kd.C_max hr
  clear hr hp
  go_enter Try.func30, Try.ntmps30
  go_wp2_with fail
  go_loopw [8] (fun u8 wr => ∃ i : Nat, i ≤ rs.length ∧ u8 = .int .i64 i ∧ (∀ j y, j < i → rs[j]? = some y → p y = false) ∧ Below w.heap.size w wr) (fun u8 wr => rs.length - (intOf u8).toNat)
  case atStart => exact ⟨0, by omega, rfl, fun j y h => by omega, Below.refl _ _⟩
  case round =>
    obtain ⟨i, hi, rfl, hn, hbl⟩ := hrel
    have HN := Aside0.mk hn
    have HB := Aside0.mk hbl
    clear hn hbl
    by_cases hi1 : i < rs.length
    · have hd : (i : Int) < (rs.length : Int) := by omega
      obtain ⟨x, hx⟩ : ∃ x, rs[i]? = some x := ⟨_, List.getElem?_eq_getElem hi1⟩
      have HX := Aside0.mk hx
      have HC := Aside0.mk (HP.out wr x (List.mem_of_getElem? hx) HB.out)
      obtain ⟨ad, hA, x0, x1, x2, x3, x4, x5, x6⟩ := at_P (Kd.C_below HR.out HB.out) i hi1 _ hx
      subst hA
      obtain ⟨b, hb⟩ : ∃ b, p x = b := ⟨_, rfl⟩
      have HPX := Aside0.mk hb
      rw [hb] at HC
      clear hx hb
      obtain ⟨⟨rd, dn, bg, fi, of, va, vs⟩, A1, n1, c1⟩ := x
      dsimp only at x0 x1 x2 x3 x4 x5 x6
      cases b with
      | true =>
        go_wp2_with (go_at_call 31; refine HC.out.mono ?_; rintro e' w2 ⟨rfl, hb2⟩; have HB2 := Aside0.mk (below_step HB.out hb2); clear hb2 x0 x1 x2 x3 x4 x5 x6)
        go_ret
        exact ⟨by rw [idxF_some HX.out HPX.out HN.out]; rfl, HB2.out⟩
      | false =>
        go_wp2_with (go_at_call 31; refine HC.out.mono ?_; rintro e' w2 ⟨rfl, hb2⟩; have HB2 := Aside0.mk (below_step HB.out hb2); clear hb2 x0 x1 x2 x3 x4 x5 x6)
        refine ⟨⟨i + 1, by omega, rfl, fun j y hj hy => ?_, HB2.out⟩, by simp only [intOf]; omega⟩
        by_cases e : j = i
        · subst e; rw [HX.out] at hy; injection hy with hy; rw [← hy]; exact HPX.out
        · exact HN.out j y (by omega) hy
    · have hd : ¬ (i : Int) < (rs.length : Int) := by omega
      obtain rfl : i = rs.length := by omega
      go_wp2_with fail
      go_ret
      exact ⟨by rw [idxF_none HN.out]; rfl, HB.out⟩
end Go.Proofs.Ytamiglolpchplaa.Hand
namespace Go.Proofs.Ytamiglolpchplaa.Hand
open Go.RowKit Go.Proofs.Ytamiglolpchplaa Go.Proofs.YtamiglolpchplaaW.PrintWords Go.Proofs.YtamiglolpchplaaW.PrintLast
set_option linter.unusedVariables false
set_option linter.unusedSimpArgs false
theorem clear_runN {P : Program} {W : World} (t ty e : TypeId) (z : Value) (q : Nat × Nat) (ht : P.underlying t = some (.slice e)) (hinfo : (P.info? e).map (fun i => (i.zero, i.size, i.bytes)) = some (some z, q)) (g o k c2 : Nat) (hk : 0 < k)
    (hcell : ∀ j, j < (Builtin.zeroCells z.cells k).toList.length → (W.cell? ⟨g, o + j, none⟩).isSome = true) (hfz : ∀ j, j < (Builtin.zeroCells z.cells k).toList.length → W.frozen? ⟨g, o + j, none⟩ = false) (h1 : ∀ v ∈ (Builtin.zeroCells z.cells k).toList, v.oneCell' = true) :
    (Builtin.clear_ #[t] ty #[.slice (some ⟨g, o, none⟩) k c2]).run P W = .ok (.tuple #[]) (W.setCells g o (Builtin.zeroCells z.cells k).toList) := by
  obtain ⟨i, hi, hzz⟩ := Option.map_eq_some_iff.1 hinfo
  simp only [Prod.mk.injEq] at hzz
  obtain ⟨hz, _⟩ := hzz
  have hr := run_storeCells_cells (P := P) g o (Builtin.zeroCells z.cells k).toList 0 W (by simpa using hcell) (by simpa using hfz) h1
  have hr0 : Sem.run P (storeCells ⟨g, o, none⟩ (Builtin.zeroCells z.cells k).toList) W = .ok () (W.setCells g o (Builtin.zeroCells z.cells k).toList) := by simpa using hr
  obtain ⟨k', rfl⟩ : ∃ k', k = k' + 1 := ⟨k - 1, by omega⟩
  simp [Builtin.clear_, run_underlying ht, zeroValue, typeInfo, hi, hz, hr0]
def zP : Value := .agg #[.bool false, .bool false, .int .i64 0, .int .i64 0, .int .i64 0, .string ⟨#[]⟩, .slice none 0 0]
theorem zP_len (k : Nat) : (Builtin.zeroCells zP.cells k).toList.length = k * 7 := by
  rw [Array.length_toList]
  unfold Builtin.zeroCells
  rw [Array.size_map, Array.size_range]
  rfl
theorem zP_one (k : Nat) : ∀ v ∈ (Builtin.zeroCells zP.cells k).toList, v.oneCell' = true := by
  intro v hv
  unfold Builtin.zeroCells at hv
  rw [Array.toList_map, List.mem_map] at hv
  obtain ⟨i, -, rfl⟩ := hv
  have hm : i % 7 < 7 := Nat.mod_lt _ (by decide)
  show ((#[Value.bool false, .bool false, .int .i64 0, .int .i64 0, .int .i64 0, .string ⟨#[]⟩, .slice none 0 0] : Array Value)[i % 7]!).oneCell' = true
  generalize i % 7 = m at hm
  match m, hm with
  | 0, _ => rfl
  | 1, _ => rfl
  | 2, _ => rfl
  | 3, _ => rfl
  | 4, _ => rfl
  | 5, _ => rfl
  | 6, _ => rfl
/-- What has been seen of the row, what is kept. -/
structure DfI (w : World) (g cap n base : Nat) (ok : Nat → Prop) (l : List CallP) (p : CallP → Bool) (i j : Nat) (cur : List CallP) (wr : World) : Prop where
  r : Kd.R kP 34 wr base ok (.slice (some ⟨g, 0, none⟩) n cap) cur
  fr : Fr (fun k => k = g) w wr
  ij : i < j
  jn : j ≤ n
  tl : ∀ t, j ≤ t → cur[t]? = l[t]?
  hd : cur.take i = (l.take j).filter fun x => !p x
theorem DfI.len {w : World} {g cap n base : Nat} {ok : Nat → Prop} {l : List CallP} {p : CallP → Bool} {i j : Nat} {cur : List CallP} {wr : World} (h : DfI w g cap n base ok l p i j cur wr) : cur.length = n := (Kd.R_reads' h.r).1.symm
theorem take_snoc {α : Type} {l : List α} {j : Nat} {x : α} (h : l[j]? = some x) : l.take (j + 1) = l.take j ++ [x] := by
  rw [List.take_add_one, h]; rfl
theorem DfI.start {w : World} {g cap n base : Nat} {ok : Nat → Prop} {l : List CallP} {p : CallP → Bool} {i : Nat} {x : CallP} {wr : World} (h : Kd.R kP 34 wr base ok (.slice (some ⟨g, 0, none⟩) n cap) l) (hf : Fr (fun k => k = g) w wr) (hx : l[i]? = some x) (hp : p x = true) (hn : ∀ j y, j < i → l[j]? = some y → p y = false) : DfI w g cap n base ok l p i (i + 1) l wr := by
  have hl : l.length = n := (Kd.R_reads' h).1.symm
  obtain ⟨h1, h2⟩ := List.getElem?_eq_some_iff.1 hx
  refine ⟨h, hf, by omega, by omega, fun t _ => rfl, ?_⟩
  rw [take_snoc hx, List.filter_append]
  have e1 : (l.take i).filter (fun x => !p x) = l.take i := by
    rw [List.filter_eq_self]
    intro y hy
    obtain ⟨t, ht, rfl⟩ := List.mem_iff_getElem.1 hy
    rw [List.length_take] at ht
    have := hn t (l.take i)[t] (by omega) (by rw [List.getElem_take]; exact List.getElem?_eq_getElem (by omega))
    rw [this]; rfl
  rw [e1]; simp [hp]
theorem DfI.skip {w : World} {g cap n base : Nat} {ok : Nat → Prop} {l : List CallP} {p : CallP → Bool} {i j : Nat} {cur : List CallP} {wr w2 : World} {x : CallP} (h : DfI w g cap n base ok l p i j cur wr) (hx : l[j]? = some x) (hp : p x = true) (hj : j < n) (hb : Below wr.heap.size wr w2) : DfI w g cap n base ok l p i (j + 1) cur w2 :=
  ⟨Kd.R_below h.r hb, h.fr.trans (Fr.of_below (F := fun k => k = g) hb) (fun q hq => .inl hq), by have := h.ij; omega, hj, fun t ht => h.tl t (by omega), by rw [h.hd, take_snoc hx, List.filter_append]; simp [hp]⟩
theorem DfI.put {w : World} {g cap n base : Nat} {ok : Nat → Prop} {l : List CallP} {p : CallP → Bool} {i j : Nat} {cur : List CallP} {wr w2 w3 : World} {x : CallP} (h : DfI w g cap n base ok l p i j cur wr) (hx : l[j]? = some x) (hp : p x = false) (hj : j < n) (hb : Below wr.heap.size wr w2)
    (hr : Kd.R kP 34 w3 base ok (.slice (some ⟨g, 0, none⟩) n cap) (cur.set i x)) (hg : w2.grownBy w3 (some g)) : DfI w g cap n base ok l p (i + 1) (j + 1) (cur.set i x) w3 := by
  have hl := h.len
  have hij := h.ij
  refine ⟨hr, (h.fr.trans (Fr.of_below (F := fun k => k = g) hb) (fun q hq => .inl hq)).trans (Fr.of_grown (F := fun k => k = g) hg (fun q hq => by injection hq)) (fun q hq => .inl hq), by omega, hj, fun t ht => ?_, ?_⟩
  · rw [List.getElem?_set_ne (by omega)]; exact h.tl t (by omega)
  · have hi : (cur.set i x)[i]? = some x := by rw [List.getElem?_set_self (by omega)]
    rw [take_snoc hi, take_snoc hx, List.filter_append, ← h.hd, List.take_set_of_le (Nat.le_refl i)]
    simp [hp]
theorem at_Pg {w : World} {g n : Nat} {xs : List CallP} (h : Kd.C kP w (some ⟨g, 0, none⟩) n xs) (i : Nat) (h1 : i < n) (x : CallP) (hx : xs[i]? = some x) : ∀ j u, (crP x)[j]? = some u → w.cell? ⟨g, i * 7 + j, none⟩ = some u := by
  obtain ⟨ad, e, hc⟩ := h.2.2 (by omega)
  injection e with e
  subst e
  obtain ⟨c, hs, hr, hcell⟩ := hc i x hx
  have hr : c = crP x := hr
  subst hr
  intro j u hj
  have := hcell j u hj
  rwa [add_plain] at this
theorem put_row {ops : Array Oper} {rest : List Oper} {o : Oper} {a : Act} {Q : Exit → Act → World → Prop} {W : World} {base g n cap : Nat} {ok : Nat → Prop} {cur : List CallP} (p x : Operand) (ho : o.op = .store 34 p x) (hN : o.dst = none) (hgd : o.guard = none) (r : CallP) (i : Nat) (y : CallP)
    (haddr : a.eval p = .pointer (some ⟨g, i * 7, none⟩)) (hx : a.eval x = .agg (crP r).toArray) (HO : Kd.R kP 34 W base ok (.slice (some ⟨g, 0, none⟩) n cap) cur) (hi : i < n) (hy : cur[i]? = some y)
    (h : ∀ w1, Kd.R kP 34 w1 base ok (.slice (some ⟨g, 0, none⟩) n cap) (cur.set i r) → W.grownBy w1 (some g) → wpList Try.prog ops Q rest a w1) : wpList Try.prog ops Q (o :: rest) a W := by
  have hn := (Kd.R_reads' HO).1
  exact Kd.R_store kP (w0 := W) base hN hgd 34 p x ho 34 (i : Int) 0 cur r (.agg (crP r).toArray) (crP r) (crP y) ok (fun _ => False) (o' := i * 7) haddr rfl hx rfl (by rw [show (crP r).length = 7 from rfl]; kernel_rfl) (crP_one r) HO (Int.natCast_nonneg i) (by omega) rfl
    (at_Pg (Kd.R_reads' HO).2.2 i (by omega) y hy) (Nat.le_refl 7) (show ([] ++ crP r ++ List.drop 7 (crP y)) = crP r from by simp [crP]) (fun _ h => h.elim) (Below.refl _ _) (fun w1 hr _ hg => h w1 hr hg)
set_option maxHeartbeats 6400000 in
set_option maxRecDepth 100000 in
theorem delfunc_c (g cap base : Nat) (ok : Nat → Prop) (l : List CallP) (p : CallP → Bool) (b0 : Value) (w : World) (hr : Kd.R kP 34 w base ok (.slice (some ⟨g, 0, none⟩) l.length cap) l) (hl : l.length ≤ 1000)
    (hp : ∀ (W : World) (x : CallP), x ∈ l → Fr (fun k => k = g) w W → Calls Try.prog 42 #[.agg (crP x).toArray, b0] W fun e w' => e = .returned (.bool (p x)) ∧ Below W.heap.size W w') :
    Calls Try.prog 40 #[.slice (some ⟨g, 0, none⟩) l.length cap, .func (.func 42) #[] #[b0]] w fun e w' => ∃ m, e = .returned (.slice (some ⟨g, 0, none⟩) m cap) ∧ Kd.R kP 34 w' base ok (.slice (some ⟨g, 0, none⟩) m cap) (l.filter fun x => !p x) ∧ Fr (fun k => k = g) w w' := by
  have HR := Aside0.mk hr
  have HP := Aside0.mk hp
  have HL := Aside0.mk hl
  have hcap := (Kd.R_reads' hr).2.1
  have HX := Aside0.mk (index42_c (some ⟨g, 0, none⟩) cap l p b0 w (Kd.R_reads' hr).2.2 (fun W x hx hb => hp W x hx (Fr.of_below hb)))
  clear hr hp
  obtain ⟨r, hr⟩ : ∃ r, l.findIdx? p = r := ⟨_, rfl⟩
  cases r with
  | none =>
    have he : idxF p l = -1 := by rw [idxF, hr]
    have hf : (l.filter fun x => !p x) = l := by
      rw [List.filter_eq_self]
      intro x hx
      rw [List.findIdx?_eq_none_iff.1 hr x hx]; rfl
    have HF := Aside0.mk hf
    rw [he] at HX
    clear hr he hf
    rw [HF.out]
    go_enter Try.func40, Try.ntmps40
    go_wp2_with (go_at_call 30; refine HX.out.mono ?_; rintro e' w2 ⟨rfl, hb2⟩; have HR2 := Aside0.mk (Kd.R_below HR.out hb2); have HF2 := Aside0.mk (Fr.of_below (F := fun k => k = g) hb2); clear hb2)
    go_ret
    exact ⟨_, rfl, HR2.out, HF2.out⟩
  | some i0 =>
    have he : idxF p l = (i0 : Int) := by rw [idxF, hr]
    obtain ⟨hi0, hpi, hno⟩ := List.findIdx?_eq_some_iff_getElem.1 hr
    have HS := Aside0.mk (fun w2 (hb : Below w.heap.size w w2) => DfI.start (w := w) (wr := w2) (p := p) (i := i0) (x := l[i0]) (Kd.R_below HR.out hb) (Fr.of_below hb) (List.getElem?_eq_getElem hi0) hpi (fun j y hj hy => by
      obtain ⟨h1, h2⟩ := List.getElem?_eq_some_iff.1 hy
      have := hno j hj
      rw [h2] at this
      simpa using this))
    rw [he] at HX
    have hne : ((i0 : Int) == -1) = false := beq_eq_false_iff_ne.2 (by omega)
    have AQ := Aside0.mk (show wrap64 ((i0 : Int) + 1) = ((i0 + 1 : Nat) : Int) from by unfold wrap64; omega)
    clear hr he hi0 hpi hno
    go_enter Try.func40, Try.ntmps40
    have hq := AQ.out
    go_wp2_with (go_at_call 30; refine HX.out.mono ?_; rintro e' w2 ⟨rfl, hb2⟩; have HS2 := Aside0.mk (HS.out _ hb2); clear hb2)
    clear hq
    go_loopw [5, 6] (fun u5 u6 wr => ∃ (i j : Nat) (cur : List CallP), u5 = .int .i64 i ∧ u6 = .int .i64 j ∧ DfI w g cap l.length base ok l p i j cur wr) (fun u5 u6 wr => l.length - (intOf u6).toNat)
    case atStart => exact ⟨i0, i0 + 1, l, rfl, by (first | rfl | rw [AQ.out]), HS2.out⟩
    case round =>
      obtain ⟨i, j, cur, rfl, rfl, hri⟩ := hrel
      have HI := Aside0.mk hri
      have hjn := hri.jn
      clear hri
      by_cases hj : j < l.length
      · have hd : (j : Int) < (l.length : Int) := by omega
        obtain ⟨x, hx⟩ : ∃ x, l[j]? = some x := ⟨_, List.getElem?_eq_getElem hj⟩
        have HXJ := Aside0.mk hx
        have hcx : cur[j]? = some x := (HI.out.tl j (Nat.le_refl j)).trans hx
        have hcell := at_Pg (Kd.R_reads' HI.out.r).2.2 j (by rw [HI.out.len]; exact hj) x hcx
        have HC := Aside0.mk (fun W (hb : Below wr.heap.size wr W) => HP.out W x (List.mem_of_getElem? hx) (HI.out.fr.trans (Fr.of_below (F := fun k => k = g) hb) (fun q hq => .inl hq)))
        obtain ⟨b, hb⟩ : ∃ b, p x = b := ⟨_, rfl⟩
        have HPX := Aside0.mk hb
        rw [hb] at HC
        clear hx hb hcx
        obtain ⟨⟨rd, dn, bg, fi, of, va, vs⟩, A1, n1, c1⟩ := x
        have x0 : wr.cell? ⟨g, j * 7, none⟩ = some (.bool rd) := hcell 0 _ rfl
        have x1 := hcell 1 _ rfl
        have x2 := hcell 2 _ rfl
        have x3 := hcell 3 _ rfl
        have x4 := hcell 4 _ rfl
        have x5 := hcell 5 _ rfl
        have x6 := hcell 6 _ rfl
        dsimp only at x0 x1 x2 x3 x4 x5 x6
        have BB := Aside0.mk (below_alloc (Below.refl wr.heap.size wr) (.cells #[.bool rd, .bool dn, .int .i64 bg, .int .i64 fi, .int .i64 of, .string va, .slice A1 n1 c1] 34 (0, 0)))
        have BK := Aside0.mk (heap_alloc_new wr (.cells #[.bool rd, .bool dn, .int .i64 bg, .int .i64 fi, .int .i64 of, .string va, .slice A1 n1 c1] 34 (0, 0)))
        have HJ := Aside0.mk (show l.length - (intOf (.int .i64 ((j : Int) + 1))).toNat < l.length - (intOf (.int .i64 (j : Int))).toNat from by simp only [intOf]; omega)
        have AQ1 := Aside0.mk (show wrap64 ((j : Int) + 1) = ((j + 1 : Nat) : Int) from by unfold wrap64; omega)
        have AQ2 := Aside0.mk (show wrap64 ((i : Int) + 1) = ((i + 1 : Nat) : Int) from by have := HI.out.ij; unfold wrap64; omega)
        have q1 := AQ1.out
        have q2 := AQ2.out
        clear hcell hjn
        cases b with
        | true =>
          go_wp2_with (go_at_call 42; refine (HC.out _ BB.out).mono ?_; rintro e' w2 ⟨rfl, hb2⟩; have HB2 := Aside0.mk (below_step BB.out hb2); clear hb2)
          exact ⟨⟨i, j + 1, cur, rfl, rfl, HI.out.skip HXJ.out HPX.out hj HB2.out⟩, HJ.out⟩
        | false =>
          obtain ⟨y, hy⟩ : ∃ y, cur[i]? = some y := ⟨_, List.getElem?_eq_getElem (by rw [HI.out.len]; have := HI.out.ij; omega)⟩
          have HY := Aside0.mk hy
          have hin : i < l.length := by have := HI.out.ij; omega
          have HIN := Aside0.mk hin
          have hin' : (i : Int) < (l.length : Int) := by omega
          clear hy hin
          go_wp2_with (first
            | (refine gate_ (.store 34 (.tmp 33) (.tmp 32)) rfl ?_; refine put_row (.tmp 33) (.tmp 32) rfl rfl rfl ⟨⟨rd, dn, bg, fi, of, va, vs⟩, A1, n1, c1⟩ i y rfl rfl HR2.out HIN.out HY.out ?_; intro w3 hr3 hg3; have HR3 := Aside0.mk hr3; have HG3 := Aside0.mk hg3; clear hr3 hg3)
            | (go_at_call 42; refine (HC.out _ BB.out).mono ?_; rintro e' W2_ ⟨rfl, hb2⟩; have HB2 := Aside0.mk (below_step BB.out hb2); have HR2 := Aside0.mk (Kd.R_below HI.out.r HB2.out); have HCY := Aside0.mk (at_Pg (Kd.R_reads' HR2.out).2.2 i (by rw [HI.out.len]; exact HIN.out) y HY.out); have HBB := Aside0.mk (Below.refl base W2_); have BK2 := Aside0.mk (blk_below BK.out hb2); have z0 := (blk_cell BK2.out 0).trans rfl; have z1 := (blk_cell BK2.out 1).trans rfl; have z2 := (blk_cell BK2.out 2).trans rfl; have z3 := (blk_cell BK2.out 3).trans rfl; have z4 := (blk_cell BK2.out 4).trans rfl; have z5 := (blk_cell BK2.out 5).trans rfl; have z6 := (blk_cell BK2.out 6).trans rfl; clear hb2 x0 x1 x2 x3 x4 x5 x6))
          exact ⟨⟨i + 1, j + 1, _, rfl, rfl, HI.out.put HXJ.out HPX.out hj HB2.out HR3.out HG3.out⟩, HJ.out⟩
      · have hd : ¬ (j : Int) < (l.length : Int) := by omega
        obtain rfl : j = l.length := by omega
        have hij := HI.out.ij
        have hlen := HI.out.len
        have hcl : ∀ c2, (Builtin.clear_ #[23] 0 #[.slice (some ⟨g, i * 7, none⟩) (l.length - i) c2]).run Try.prog wr = .ok (.tuple #[]) (wr.setCells g (i * 7) (Builtin.zeroCells zP.cells (l.length - i)).toList) := fun c2 => by
          have hroom := fun j (hj : j < (Builtin.zeroCells zP.cells (l.length - i)).toList.length) => R_room HI.out.r (i * 7 + j) (show i * 7 + j < cap * 7 by rw [zP_len] at hj; omega)
          exact clear_runN 23 0 34 zP _ Try.underlying23 infoP g (i * 7) (l.length - i) c2 (by omega) (fun j hj => (hroom j hj).1) (fun j hj => (hroom j hj).2) (zP_one _)
        have HB := R_behind (Kd.R_take HI.out.r (m := i) (by omega)) (Builtin.zeroCells zP.cells (l.length - i)).toList (i * 7) (Nat.le_refl _) (by rw [zP_len]; show i * 7 + (l.length - i) * 7 ≤ cap * 7; omega)
        have hhd : cur.take i = l.filter fun x => !p x := by rw [HI.out.hd, List.take_length]
        have HR4 := Aside0.mk (hhd ▸ HB.1)
        have HF4 := Aside0.mk (HI.out.fr.trans (Fr.of_grown (F := fun k => k = g) HB.2 (fun q hq => by injection hq)) (fun q hq => .inl hq))
        have hin : (i : Int) ≤ (l.length : Int) := by omega
        have hic : i ≤ cap := by omega
        have hil : i ≤ l.length := by omega
        have hci : ¬ cap = i := by omega
        obtain ⟨zs, hzs⟩ : ∃ zs, zs = (Builtin.zeroCells zP.cells (l.length - i)).toList := ⟨_, rfl⟩
        rw [← hzs] at hcl HR4 HF4
        clear HB hhd hij hlen hjn hzs
        go_wp2_with fail
        go_ret
        exact ⟨i, rfl, HR4.out, HF4.out⟩
end Go.Proofs.Ytamiglolpchplaa.Hand
namespace Go.Proofs.Ytamiglolpchplaa.Hand
open Go.RowKit Go.Proofs.Ytamiglolpchplaa Go.Proofs.YtamiglolpchplaaW.PrintWords Go.Proofs.YtamiglolpchplaaW.PrintLast
set_option linter.unusedVariables false
set_option linter.unusedSimpArgs false
theorem R_cases {w : World} {base : Nat} {ok : Nat → Prop} {v : Value} {l : List CallP} (h : Kd.R kP 34 w base ok v l) : (v = .slice none 0 0 ∧ l = []) ∨ ∃ g cap, v = .slice (some ⟨g, 0, none⟩) l.length cap := by
  obtain ⟨inner, ho⟩ := Kd.R_own h
  rcases ho.2 with ⟨hv, hx⟩ | ⟨g, cap, cur, hv, _⟩
  · refine .inl ⟨hv, ?_⟩
    obtain ⟨A, c, he, _⟩ := Kd.R_reads h
    rw [hv] at he
    injection he with _ h1 _
    exact List.eq_nil_of_length_eq_zero h1.symm
  · exact .inr ⟨g, cap, hv⟩
set_option maxRecDepth 100000 in
theorem delfunc_nil (p : CallP → Bool) (b0 : Value) (w : World) : Calls Try.prog 40 #[.slice none 0 0, .func (.func 42) #[] #[b0]] w fun e w' => e = .returned (.slice none 0 0) ∧ Below w.heap.size w w' := by
  have HX := Aside0.mk (index42_c none 0 [] p b0 w (Kd.C_nil kP w) (fun W x hx => by simp at hx))
  have he : idxF p [] = -1 := rfl
  rw [he] at HX
  clear he
  go_enter Try.func40, Try.ntmps40
  go_wp2_with (go_at_call 30; refine HX.out.mono ?_; rintro e' w2 ⟨rfl, hb2⟩; have HB2 := Aside0.mk hb2; clear hb2)
  go_ret
  exact ⟨rfl, HB2.out⟩
theorem delfunc_any (base : Nat) (ok : Nat → Prop) (v : Value) (l : List CallP) (p : CallP → Bool) (b0 : Value) (w : World) (hr : Kd.R kP 34 w base ok v l) (hl : l.length ≤ 1000)
    (hp : ∀ (W : World) (x : CallP), x ∈ l → Fr (fun k => some k = v.ownBlock) w W → Calls Try.prog 42 #[.agg (crP x).toArray, b0] W fun e w' => e = .returned (.bool (p x)) ∧ Below W.heap.size W w') :
    Calls Try.prog 40 #[v, .func (.func 42) #[] #[b0]] w fun e w' => ∃ v', e = .returned v' ∧ Kd.R kP 34 w' base ok v' (l.filter fun x => !p x) ∧ Fr (fun k => some k = v.ownBlock) w w' := by
  rcases R_cases hr with ⟨rfl, rfl⟩ | ⟨g, cap, rfl⟩
  · refine (delfunc_nil p b0 w).mono ?_
    rintro e w' ⟨rfl, hb⟩
    exact ⟨_, rfl, Kd.R_nil _ _ _ _ _, Fr.of_below hb⟩
  · have hb : ∀ q, q = g ↔ some q = (Value.slice (some ⟨g, 0, none⟩) l.length cap).ownBlock := fun q => by simp [Value.ownBlock]
    refine (delfunc_c g cap base ok l p b0 w hr hl (fun W x hx hf => hp W x hx (hf.mono fun q hq => (hb q).1 hq))).mono ?_
    rintro e w' ⟨m, rfl, h1, h2⟩
    exact ⟨_, rfl, h1, h2.mono fun q hq => (hb q).1 hq⟩
set_option maxRecDepth 100000 in
theorem notDone_c (x : CallP) (bx : Nat) (W : World) (hb : W.cell? ⟨bx, 0, none⟩ = some (.func (.func 22) #[] #[])) : Calls Try.prog 42 #[.agg (crP x).toArray, .pointer (some ⟨bx, 0, none⟩)] W fun e w' => e = .returned (.bool (!x.1.done)) ∧ Below W.heap.size W w' := by
  obtain ⟨⟨rd, dn, bg, fi, of, va, vs⟩, A, n, c⟩ := x
  have hlt := World.block_lt_of_cell? W ⟨bx, 0, none⟩ hb
  have BB := Aside0.mk (below_alloc (Below.refl W.heap.size W) (.cells #[.bool rd, .bool dn, .int .i64 bg, .int .i64 fi, .int .i64 of, .string va, .slice A n c] 34 (0, 0)))
  have BK := Aside0.mk (heap_alloc_new W (.cells #[.bool rd, .bool dn, .int .i64 bg, .int .i64 fi, .int .i64 of, .string va, .slice A n c] 34 (0, 0)))
  have HC := Aside0.mk (isDone_c ⟨⟨rd, dn, bg, fi, of, va, vs⟩, A, n, c⟩ (W.alloc (.cells #[.bool rd, .bool dn, .int .i64 bg, .int .i64 fi, .int .i64 of, .string va, .slice A n c] 34 (0, 0))))
  have y : (W.alloc (.cells #[.bool rd, .bool dn, .int .i64 bg, .int .i64 fi, .int .i64 of, .string va, .slice A n c] 34 (0, 0))).cell? ⟨bx, 0, none⟩ = some (.func (.func 22) #[] #[]) := (BB.out.cell (p := ⟨bx, 0, none⟩) hlt).trans hb
  unfold crP
  dsimp only
  clear hb hlt
  go_enter Try.func42, Try.ntmps42
  go_wp2_with (go_at_call 22; refine HC.out.mono ?_; rintro e' w2 ⟨rfl, hb2⟩; have HB2 := Aside0.mk (below_step BB.out hb2); clear hb2)
  all_goals (go_ret; exact ⟨retB (by cases dn <;> cases rd <;> (first | rfl | simp_all)), HB2.out⟩)
set_option maxHeartbeats 1600000 in
set_option maxRecDepth 100000 in
theorem keepDone_c (A : Option Addr) (c : Nat) (l : List CallP) (w : World) (hr : Kd.C kP w A l.length l) (hl : l.length ≤ 1000) :
    Calls Try.prog 21 #[.slice A l.length c, .func (.func 22) #[] #[]] w fun e w' => ∃ v, e = .returned v ∧ Kd.R kP 34 w' w.heap.size (fun _ => True) v (l.filter fun x => x.1.done) ∧ Below w.heap.size w w' := by
  obtain ⟨o, ho⟩ : ∃ o : Obj, o = .cells #[.func (.func 22) #[] #[]] 50 (0, 0) := ⟨_, rfl⟩
  have BB := Aside0.mk (below_alloc (Below.refl w.heap.size w) o)
  have BK := Aside0.mk (heap_alloc_new w o)
  have hsz : (w.alloc o).heap.size = w.heap.size + 1 := Array.size_push _
  have HCl := Aside0.mk (clone_c A c l (w.alloc o) (Kd.C_below hr (below_alloc (Below.refl _ _) o)) hl)
  have HD := Aside0.mk (fun (v : Value) (W1 : World) (h1 : Kd.R kP 34 W1 (w.alloc o).heap.size (fun _ => True) v l) (h2 : Below (w.alloc o).heap.size (w.alloc o) W1) =>
    delfunc_any (w.alloc o).heap.size (fun _ => True) v l (fun x => !x.1.done) (.pointer (some ⟨w.heap.size, 0, none⟩)) W1 h1 hl (fun W x hx hf => notDone_c x w.heap.size W (by
      have hb1 : W1.heap[w.heap.size]? = some o := blk_below BK.out h2
      have hb2 : W.heap[w.heap.size]? = some o := hf.blk hb1 (fun e => by have := Kd.R_base h1 _ e.symm; omega)
      rw [ho] at hb2
      exact (blk_cell hb2 0).trans rfl)))
  have HF := Aside0.mk (show (l.filter fun x => !(fun x : CallP => !x.1.done) x) = l.filter fun x => x.1.done from by simp)
  have hb0 : ∀ (W1 W2 : World) (v : Value), Kd.R kP 34 W1 (w.alloc o).heap.size (fun _ => True) v l → Below (w.alloc o).heap.size (w.alloc o) W1 → Fr (fun k => some k = v.ownBlock) W1 W2 → Below w.heap.size w W2 := fun W1 W2 v h1 h2 h3 =>
    (BB.out.trans ((Fr.below h3 (b := w.heap.size) (fun q hq => by have := Kd.R_base h1 q hq.symm; omega) (by have := h2.size; omega)) |> fun h4 => ⟨h4.os.trans h2.os, h4.tape.trans h2.tape, h4.output.trans h2.output, Nat.le_trans h2.size h4.size, fun k hk => (h4.block k hk).trans (h2.block k (by omega))⟩))
  have HB0 := Aside0.mk hb0
  have hsz2 := Aside0.mk hsz
  subst ho
  clear hr hsz hb0
  go_enter Try.func21, Try.ntmps21
  go_wp2_with (first
    | (go_at_call 41; refine HCl.out.mono ?_; rintro e' w1 ⟨v, rfl, h1, h2⟩; have H1 := Aside0.mk h1; have H2 := Aside0.mk h2; clear h1 h2)
    | (go_at_call 40; refine (HD.out _ _ H1.out H2.out).mono ?_; rintro e' w2 ⟨v2, rfl, h3, h4⟩; have H3 := Aside0.mk h3; have H4 := Aside0.mk h4; clear h3 h4))
  go_ret
  exact ⟨_, rfl, HF.out ▸ Kd.R_lower H3.out (by have := hsz2.out; omega), HB0.out _ _ _ H1.out H2.out H4.out⟩
set_option maxRecDepth 100000 in
theorem notPend_c (x : CallP) (bx : Nat) (W : World) (hb : W.cell? ⟨bx, 0, none⟩ = some (.func (.func 23) #[] #[])) : Calls Try.prog 42 #[.agg (crP x).toArray, .pointer (some ⟨bx, 0, none⟩)] W fun e w' => e = .returned (.bool (!(!x.1.done && !x.1.read))) ∧ Below W.heap.size W w' := by
  obtain ⟨⟨rd, dn, bg, fi, of, va, vs⟩, A, n, c⟩ := x
  have hlt := World.block_lt_of_cell? W ⟨bx, 0, none⟩ hb
  have BB := Aside0.mk (below_alloc (Below.refl W.heap.size W) (.cells #[.bool rd, .bool dn, .int .i64 bg, .int .i64 fi, .int .i64 of, .string va, .slice A n c] 34 (0, 0)))
  have BK := Aside0.mk (heap_alloc_new W (.cells #[.bool rd, .bool dn, .int .i64 bg, .int .i64 fi, .int .i64 of, .string va, .slice A n c] 34 (0, 0)))
  have HC := Aside0.mk (isPending_c ⟨⟨rd, dn, bg, fi, of, va, vs⟩, A, n, c⟩ (W.alloc (.cells #[.bool rd, .bool dn, .int .i64 bg, .int .i64 fi, .int .i64 of, .string va, .slice A n c] 34 (0, 0))))
  have y : (W.alloc (.cells #[.bool rd, .bool dn, .int .i64 bg, .int .i64 fi, .int .i64 of, .string va, .slice A n c] 34 (0, 0))).cell? ⟨bx, 0, none⟩ = some (.func (.func 23) #[] #[]) := (BB.out.cell (p := ⟨bx, 0, none⟩) hlt).trans hb
  unfold crP
  dsimp only
  clear hb hlt
  go_enter Try.func42, Try.ntmps42
  go_wp2_with (go_at_call 23; refine HC.out.mono ?_; rintro e' w2 ⟨rfl, hb2⟩; have HB2 := Aside0.mk (below_step BB.out hb2); clear hb2)
  all_goals (go_ret; exact ⟨retB (by cases dn <;> cases rd <;> (first | rfl | simp_all)), HB2.out⟩)
set_option maxHeartbeats 1600000 in
set_option maxRecDepth 100000 in
theorem keepPend_c (A : Option Addr) (c : Nat) (l : List CallP) (w : World) (hr : Kd.C kP w A l.length l) (hl : l.length ≤ 1000) :
    Calls Try.prog 21 #[.slice A l.length c, .func (.func 23) #[] #[]] w fun e w' => ∃ v, e = .returned v ∧ Kd.R kP 34 w' w.heap.size (fun _ => True) v (l.filter fun x => (!x.1.done && !x.1.read)) ∧ Below w.heap.size w w' := by
  obtain ⟨o, ho⟩ : ∃ o : Obj, o = .cells #[.func (.func 23) #[] #[]] 50 (0, 0) := ⟨_, rfl⟩
  have BB := Aside0.mk (below_alloc (Below.refl w.heap.size w) o)
  have BK := Aside0.mk (heap_alloc_new w o)
  have hsz : (w.alloc o).heap.size = w.heap.size + 1 := Array.size_push _
  have HCl := Aside0.mk (clone_c A c l (w.alloc o) (Kd.C_below hr (below_alloc (Below.refl _ _) o)) hl)
  have HD := Aside0.mk (fun (v : Value) (W1 : World) (h1 : Kd.R kP 34 W1 (w.alloc o).heap.size (fun _ => True) v l) (h2 : Below (w.alloc o).heap.size (w.alloc o) W1) =>
    delfunc_any (w.alloc o).heap.size (fun _ => True) v l (fun x => !(!x.1.done && !x.1.read)) (.pointer (some ⟨w.heap.size, 0, none⟩)) W1 h1 hl (fun W x hx hf => notPend_c x w.heap.size W (by
      have hb1 : W1.heap[w.heap.size]? = some o := blk_below BK.out h2
      have hb2 : W.heap[w.heap.size]? = some o := hf.blk hb1 (fun e => by have := Kd.R_base h1 _ e.symm; omega)
      rw [ho] at hb2
      exact (blk_cell hb2 0).trans rfl)))
  have HF := Aside0.mk (show (l.filter fun x => !(fun x : CallP => !(!x.1.done && !x.1.read)) x) = l.filter fun x => (!x.1.done && !x.1.read) from by simp)
  have hb0 : ∀ (W1 W2 : World) (v : Value), Kd.R kP 34 W1 (w.alloc o).heap.size (fun _ => True) v l → Below (w.alloc o).heap.size (w.alloc o) W1 → Fr (fun k => some k = v.ownBlock) W1 W2 → Below w.heap.size w W2 := fun W1 W2 v h1 h2 h3 =>
    (BB.out.trans ((Fr.below h3 (b := w.heap.size) (fun q hq => by have := Kd.R_base h1 q hq.symm; omega) (by have := h2.size; omega)) |> fun h4 => ⟨h4.os.trans h2.os, h4.tape.trans h2.tape, h4.output.trans h2.output, Nat.le_trans h2.size h4.size, fun k hk => (h4.block k hk).trans (h2.block k (by omega))⟩))
  have HB0 := Aside0.mk hb0
  have hsz2 := Aside0.mk hsz
  subst ho
  clear hr hsz hb0
  go_enter Try.func21, Try.ntmps21
  go_wp2_with (first
    | (go_at_call 41; refine HCl.out.mono ?_; rintro e' w1 ⟨v, rfl, h1, h2⟩; have H1 := Aside0.mk h1; have H2 := Aside0.mk h2; clear h1 h2)
    | (go_at_call 40; refine (HD.out _ _ H1.out H2.out).mono ?_; rintro e' w2 ⟨v2, rfl, h3, h4⟩; have H3 := Aside0.mk h3; have H4 := Aside0.mk h4; clear h3 h4))
  go_ret
  exact ⟨_, rfl, HF.out ▸ Kd.R_lower H3.out (by have := hsz2.out; omega), HB0.out _ _ _ H1.out H2.out H4.out⟩
end Go.Proofs.Ytamiglolpchplaa.Hand
