/- TxnTimes. -/
import Derived.Test.YtofegigbhohebaaTB29
import Derived.Test.YtofegigbhohebaaTB19
namespace Go.Proofs.Ytofegigbhohebaa.Hand
open Go.RowKit Go.Proofs.Ytofegigbhohebaa Go.Proofs.YtofegigbhohebaaW.PrintWords Go.Proofs.YtofegigbhohebaaW.PrintLast
set_option linter.unusedVariables false
set_option linter.unusedSimpArgs false
theorem KI.appl {own : Nat → Nat} {gb : Nat} {gs : List Nat} {ps : List ProdV} {w0 w : World} (h : KI own gb gs ps w0 w) (x : EvV) : Calls Try.prog 15 #[.pointer (some ⟨gb, 0, none⟩), evE x] w fun e w' => e = .returned (.int .i64 (decideF ps x).2) ∧ ∃ own' gs', KI own' gb gs' (applyF ps x) w0 w' ∧ (∀ g o, own g = 0 ∧ w.heap[g]? = some o → own' g = 0 ∧ w'.heap[g]? = some o) := by
  refine (apply_c h.bi h.good x).mono ?_
  rintro e w' ⟨rfl, hd⟩
  exact ⟨rfl, h.does hd (h.good.apply x)⟩
def nmT : ByteArray := ⟨#[116]⟩
def tm1 (T b : Int) : EvV := ⟨1, nmT, 0, 0, 0, T, b, false⟩
def tm2 (p b : Int) : EvV := ⟨2, ByteArray.empty, 0, 0, p, 0, b, false⟩
def tm3 (z : Int) : EvV := ⟨5, ByteArray.empty, 0, 0, 0, 0, z, false⟩
def tp1 (T : Int) : List ProdV := [⟨nmT, T, 0, 0, 0, []⟩]
def tp2 (T b p : Int) : List ProdV := [⟨nmT, T, 0, 1, b, [p]⟩]
def tp3 (T b p : Int) : List ProdV := [⟨nmT, T, 1, 3, b, [p]⟩]
theorem tr1 {T b : Int} (h0 : 1 ≤ T) (h1 : T ≤ 3600) (h2 : 0 ≤ b) (h3 : b < 100000) : rightE (tm1 T b) = true := by
  have hs : nmT.size = 1 := rfl
  have hn : nmT.toList.isEmpty = false := by kernel_rfl
  unfold rightE tm1 inE noName
  simp [hs, hn]
  omega
theorem tr2 {p b : Int} (h0 : 0 ≤ p) (h1 : p < 1000) (h2 : 0 ≤ b) (h3 : b < 100000) : rightE (tm2 p b) = true := by
  unfold rightE tm2 inE noName
  simp
  omega
theorem tr3 {z : Int} (h2 : 0 ≤ z) (h3 : z < 108000) : rightE (tm3 z) = true := by
  unfold rightE tm3 inE noName
  simp
  omega
theorem td1 {T b : Int} (h0 : 1 ≤ T) (h1 : T ≤ 3600) (h2 : 0 ≤ b) (h3 : b < 100000) : decideF [] (tm1 T b) = (false, 0) := by
  unfold decideF
  rw [tr1 h0 h1 h2 h3, if_pos rfl]
  rfl
theorem ta1 {T b : Int} (h0 : 1 ≤ T) (h1 : T ≤ 3600) (h2 : 0 ≤ b) (h3 : b < 100000) : applyF [] (tm1 T b) = tp1 T := by
  unfold applyF
  rw [td1 h0 h1 h2 h3]
  rfl
theorem td2 {T p b : Int} (h0 : 0 ≤ p) (h1 : p < 1000) (h2 : 0 ≤ b) (h3 : b < 100000) : decideF (tp1 T) (tm2 p b) = (false, 0) := by
  unfold decideF
  rw [tr2 h0 h1 h2 h3, if_pos rfl]
  rfl
theorem ta2 {T p b : Int} (h0 : 0 ≤ p) (h1 : p < 1000) (h2 : 0 ≤ b) (h3 : b < 100000) : applyF (tp1 T) (tm2 p b) = tp2 T b p := by
  unfold applyF
  rw [td2 h0 h1 h2 h3]
  rfl
theorem td3 {T p b z : Int} (h2 : 0 ≤ z) (h3 : z < 8000) (h4 : 0 ≤ b) (h5 : b < 100000) : decideF (tp2 T b p) (tm3 (b + z)) = (decide (z < T), 0) := by
  unfold decideF
  rw [tr3 (by omega) (by omega), if_pos rfl]
  have e : (tp2 T b p).any (fun q => overP q (tm3 (b + z)).now) = decide (T ≤ z) := by
    simp [tp2, tm3, overP]
  simp only [tm3] at e ⊢
  rw [e]
  by_cases h : z < T
  · simp [h]
  · simp [h]
    omega
theorem ta3 {T p b z : Int} (h2 : 0 ≤ z) (h3 : z < 8000) (h4 : 0 ≤ b) (h5 : b < 100000) : applyF (tp2 T b p) (tm3 (b + z)) = if z < T then tp2 T b p else tp3 T b p := by
  unfold applyF
  rw [td3 h2 h3 h4 h5]
  by_cases h : z < T
  · simp [h]
  · have e : doesF (tp2 T b p) (tm3 (b + z)) = (tp2 T b p).map fun q => expP q (b + z) := rfl
    rw [if_neg (by simp [h]), if_neg h, e]
    simp [tp2, expP, overP, endP, tp3, show T ≤ z by omega]
    rfl
def mdK (m x : Int) : Int := Int.tmod (Int.tmod x m + m) m
theorem mdK_bd {m : Int} (hm : 0 < m) (x : Int) : 0 ≤ mdK m x ∧ mdK m x < m := by
  unfold mdK
  have h1 := Int.tmod_lt_of_pos x (b := m) hm
  have h2 := Int.lt_tmod_of_pos x (b := m) hm
  exact ⟨Int.tmod_nonneg (a := Int.tmod x m + m) m (by omega), Int.tmod_lt_of_pos _ hm⟩
theorem mdK_w {m : Int} (hm : 0 < m) (h1 : m ≤ 100000) (x : Int) : Int.tmod (wrap64 (Int.tmod x m + m)) m = mdK m x := by
  have h1 := Int.tmod_lt_of_pos x (b := m) hm
  have h2 := Int.lt_tmod_of_pos x (b := m) hm
  rw [show wrap64 (Int.tmod x m + m) = Int.tmod x m + m by unfold wrap64; omega]
  rfl
theorem td_first {w : World} {base : Nat} {v : Value} {t : TdV} {l : List TdV} (h : w.ownsRow base 46 4 v (t :: l).length (tdsC (t :: l))) : ∃ g cap cur, v = .slice (some ⟨g, 0, none⟩) (t :: l).length cap ∧ w.heap[g]? = some (.cells cur 46 (0, 0)) ∧ cur[1]? = some (.int .i64 t.epoch) ∧ cur[2]? = some (.int .i64 t.place) ∧ cur[3]? = some (.bool t.yes) := by
  obtain ⟨-, ⟨-, h0⟩ | ⟨g, cap, cur, rfl, hg, hcur, -, -, hcs, hct⟩⟩ := h
  · cases h0
  · have e : ∀ k, k < 4 → cur[k]? = (tdC t)[k]? := fun k hk => by
      have := congrArg (fun l => l[k]?) hct
      rw [List.getElem?_take, if_pos (by rw [List.length_cons]; omega), Array.getElem?_toList] at this
      rw [this]
      show (tdC t ++ tdsC l)[k]? = _
      rw [List.getElem?_append_left (by simp [tdC]; omega)]
    exact ⟨g, cap, cur, rfl, hcur, e 1 (by decide), e 2 (by decide), e 3 (by decide)⟩
set_option maxHeartbeats 6400000 in
set_option maxRecDepth 100000 in
theorem times_c (t b z p : Int) (w : World) : Calls Try.prog 5 #[.int .i64 t, .int .i64 b, .int .i64 z, .int .i64 p] w fun e w' => e = .returned (.bool true) ∧ Below w.heap.size w w' := by
  have T1 := Aside0.mk (mdK_w (m := 3600) (by decide) (by decide) t)
  have T2 := Aside0.mk (mdK_w (m := 100000) (by decide) (by decide) b)
  have T3 := Aside0.mk (mdK_w (m := 8000) (by decide) (by decide) z)
  have T4 := Aside0.mk (mdK_w (m := 1000) (by decide) (by decide) p)
  have B1 := Aside0.mk (mdK_bd (m := 3600) (by decide) t)
  have B2 := Aside0.mk (mdK_bd (m := 100000) (by decide) b)
  have B3 := Aside0.mk (mdK_bd (m := 8000) (by decide) z)
  have B4 := Aside0.mk (mdK_bd (m := 1000) (by decide) p)
  go_enter Try.func5, Try.ntmps5
  go_upto_region 5 with fail
  rw [T1.out, T2.out, T3.out, T4.out]
  generalize mdK 3600 t = q at B1 ⊢
  generalize mdK 100000 b = b at B2 ⊢
  generalize mdK 8000 z = z at B3 ⊢
  generalize mdK 1000 p = p at B4 ⊢
  clear T1 T2 T3 T4
  obtain ⟨hb0, hb1⟩ := B2.out
  obtain ⟨hz0, hz1⟩ := B3.out
  obtain ⟨T, hT⟩ : ∃ T, T = 1 + q := ⟨_, rfl⟩
  have HT := Aside0.mk (show 1 ≤ T ∧ T ≤ 3600 by have := B1.out; omega)
  have HB := Aside0.mk (show 0 ≤ b ∧ b < 100000 from ⟨hb0, hb1⟩)
  have HZ := Aside0.mk (show 0 ≤ z ∧ z < 8000 from ⟨hz0, hz1⟩)
  rw [show wrap64 (1 + q) = T by have := B1.out; unfold wrap64; omega]
  clear hT B1 B2 B3
  have D1 := Aside0.mk (congrArg Prod.snd (td1 HT.out.1 HT.out.2 HB.out.1 HB.out.2))
  have D2 := Aside0.mk (congrArg Prod.snd (td2 (T := T) B4.out.1 B4.out.2 HB.out.1 HB.out.2))
  have D3 := Aside0.mk (td3 (T := T) (p := p) HZ.out.1 HZ.out.2 HB.out.1 HB.out.2)
  have A1 := Aside0.mk (ta1 HT.out.1 HT.out.2 HB.out.1 HB.out.2)
  have A2 := Aside0.mk (ta2 (T := T) B4.out.1 B4.out.2 HB.out.1 HB.out.2)
  have A3 := Aside0.mk (ta3 (T := T) (p := p) HZ.out.1 HZ.out.2 HB.out.1 HB.out.2)
  go_upto_region 12 with (first
    | (go_at_call 12; refine (new_c _).mono ?_; rintro e w1 ⟨own, gb, rfl, hbi, hb, hz⟩; have K1 := Aside0.mk (KI.mk hbi good_nil hb hz); clear hbi hb hz)
    | (go_at_call 13; refine (knows_c _).mono ?_; rintro e w2 ⟨rfl, hb⟩; have K2 := Aside0.mk (K1.out.move hb); clear hb K1)
    | (go_at_call 15; refine (K2.out.appl (tm1 T b)).mono ?_; rintro e w3 ⟨rfl, own3, gs3, hk, -⟩; rw [A1.out] at hk; rw [D1.out]; have K3 := Aside0.mk hk; clear hk K2)
    | (go_at_call 15; refine (K3.out.appl (tm2 p b)).mono ?_; rintro e w4 ⟨rfl, own4, gs4, hk, -⟩; rw [A2.out] at hk; rw [D2.out]; have K4 := Aside0.mk hk; clear hk K3)
    | (go_at_call 20; refine (decide_c K4.out.bi K4.out.good (tm3 (b + z))).mono ?_; rintro e w5 ⟨rfl, hb⟩; rw [D3.out]; have K5 := Aside0.mk (K4.out.move hb); clear hb K4)
    | (go_at_call 15; refine (K5.out.appl (tm3 (b + z))).mono ?_; rintro e w6 ⟨rfl, own6, gs6, hk, -⟩; rw [A3.out] at hk; rw [D3.out]; have K6 := Aside0.mk hk; clear hk K5))
  clear D1 D2 D3 A1 A2 A3
  by_cases h : z < T
  · rw [if_pos h] at K6
    rw [decide_eq_true h]
    have HS := Aside0.mk (show statusF (tp2 T b p) 0 = (1, 0, true) from rfl)
    have HTD := Aside0.mk (show todosF (tp2 T b p) = [] from rfl)
    go_wp2_with (first
      | (go_at_call 18; refine (status_c K6.out.bi 0).mono ?_; rintro e w7 ⟨rfl, hb⟩; rw [HS.out]; have K7 := Aside0.mk (K6.out.move hb); clear hb K6)
      | (go_at_call 19; refine (num_c _ _).mono ?_; rintro e w' ⟨rfl, rfl⟩)
      | (go_at_call 17; refine (todo_c K7.out.bi K7.out.good).mono ?_; rintro e w8 ⟨v, rfl, hrow, hb⟩; rw [HTD.out] at hrow; have K8 := Aside0.mk (K7.out.move hb); obtain ⟨A8, c8, rfl⟩ := own_slice hrow; clear hb hrow K7))
    exact bodyPost_ret (v := .bool true) (by simp [results, Try.results5, go_sem]) rfl ⟨rfl, K8.out.below⟩
  · rw [if_neg h] at K6
    rw [decide_eq_false h]
    have HS := Aside0.mk (show statusF (tp3 T b p) 0 = (3, 1, true) from rfl)
    have HTD := Aside0.mk (show todosF (tp3 T b p) = [⟨0, 1, p, false⟩] from rfl)
    go_wp2_with (first
      | (go_at_call 18; refine (status_c K6.out.bi 0).mono ?_; rintro e w7 ⟨rfl, hb⟩; rw [HS.out]; have K7 := Aside0.mk (K6.out.move hb); clear hb K6)
      | (go_at_call 19; refine (num_c _ _).mono ?_; rintro e w' ⟨rfl, rfl⟩)
      | (go_at_call 17; refine (todo_c K7.out.bi K7.out.good).mono ?_; rintro e w8 ⟨v, rfl, hrow, hb⟩; rw [HTD.out] at hrow; have K8 := Aside0.mk (K7.out.move hb); obtain ⟨g, cap, cur, rfl, hcur, hct⟩ := td_first hrow; have c1 := (blk_cell hcur 1).trans hct.1; have c2 := (blk_cell hcur 2).trans hct.2.1; have c3 := (blk_cell hcur 3).trans hct.2.2; clear hb hrow hcur hct K7))
    exact bodyPost_ret (v := .bool true) (by simp [results, Try.results5, go_sem]) rfl ⟨rfl, K8.out.below⟩
end Go.Proofs.Ytofegigbhohebaa.Hand
