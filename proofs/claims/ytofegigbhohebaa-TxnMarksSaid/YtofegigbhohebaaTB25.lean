/- TxnMarks. -/
import Derived.Test.YtofegigbhohebaaTB22
import Derived.Test.YtofegigbhohebaaTB23
import Derived.Test.YtofegigbhohebaaTB24
namespace Go.Proofs.Ytofegigbhohebaa.Hand
open Go.RowKit Go.Proofs.Ytofegigbhohebaa Go.Proofs.YtofegigbhohebaaW.PrintWords Go.Proofs.YtofegigbhohebaaW.PrintLast
set_option linter.unusedVariables false
set_option linter.unusedSimpArgs false
def mkI : EvV := ⟨1, nmX, 0, 0, 0, 10, 0, false⟩
theorem mi1 : (decideF [] mkI).2 = 0 := by kernel_rfl
theorem mi2 : applyF [] mkI = mkP [] 0 := by kernel_rfl
/-- The list of places and what is behind it. -/
structure ML (L : List Int) (st : Int) : Prop where
  st01 : st = 0 ∨ st = 1
  s0 : st = 0 ↔ L = []
  srt : L.Pairwise (· < ·)
  bd : ∀ x ∈ L, 0 ≤ x ∧ x < 1000
theorem ML.nil : ML [] 0 := ⟨.inl rfl, by simp, List.Pairwise.nil, by simp⟩
def putL (L : List Int) (p : Int) : List Int := if p ∈ L then L else insertF L p
theorem ML.put {L : List Int} {st p : Int} (h : ML L st) (h0 : 0 ≤ p) (h1 : p < 1000) : ML (putL L p) 1 := by
  unfold putL
  split
  · rename_i hm
    have hst1 : st = 1 := h.st01.resolve_left (fun e => by rw [h.s0.1 e] at hm; cases hm)
    subst hst1
    exact h
  · rename_i hm
    refine ⟨.inr rfl, ⟨fun e => absurd e (by decide), fun e => ?_⟩, insertF_sorted h.srt hm, fun x hx => ?_⟩
    · have := insertF_len L p; rw [e] at this; simp at this
    · rcases (insertF_mem h.srt).1 hx with rfl | hx
      · exact ⟨h0, h1⟩
      · exact h.bd x hx
theorem putL_len (L : List Int) (p : Int) : (putL L p).length = if decide (p ∈ L) = true then L.length else L.length + 1 := by
  unfold putL
  by_cases hm : p ∈ L
  · rw [if_pos hm, if_pos (by simpa using hm)]
  · rw [if_neg hm, if_neg (by simpa using hm), insertF_len]
def metF (L : List Int) (x : Int) : Bool := decide (x ∈ L)
theorem met_put {L : List Int} {st p : Int} (h : ML L st) : updF (metF L) p true = metF (putL L p) := by
  funext k
  unfold updF metF putL
  by_cases hm : p ∈ L
  · rw [if_pos hm]
    by_cases hk : k = p
    · subst hk; simp [hm]
    · rw [if_neg hk]
  · rw [if_neg hm]
    have := insertF_mem (x := p) (y := k) h.srt
    by_cases hk : k = p
    · subst hk; simp [this]
    · rw [if_neg hk]; simp [this, hk]
def modK (x : Int) : Int := Int.tmod (Int.tmod x 1000 + 1000) 1000
theorem modK_bd (x : Int) : 0 ≤ modK x ∧ modK x < 1000 := by
  unfold modK
  have h1 := Int.tmod_lt_of_pos x (b := 1000) (by decide)
  have h2 : -1000 < Int.tmod x 1000 := by
    have := Int.lt_tmod_of_pos x (b := 1000) (by decide)
    exact this
  have h3 := Int.tmod_nonneg (a := Int.tmod x 1000 + 1000) 1000 (by omega)
  have h4 := Int.tmod_lt_of_pos (Int.tmod x 1000 + 1000) (b := 1000) (by decide)
  exact ⟨h3, h4⟩
/-- Between two calls. -/
structure MI (own : Nat → Nat) (gb : Nat) (gs : List Nat) (ps : List ProdV) (B : Nat) (f : Int → Bool) (w0 w : World) : Prop where
  ki : KI own gb gs ps w0 w
  mp : MapIB w B f
  ob : own B = 0
  nb : w0.heap.size ≤ B
theorem MI.move {own : Nat → Nat} {gb : Nat} {gs : List Nat} {ps : List ProdV} {B : Nat} {f : Int → Bool} {w0 w w' : World} (h : MI own gb gs ps B f w0 w) (hb : Below w.heap.size w w') : MI own gb gs ps B f w0 w' := ⟨h.ki.move hb, h.mp.move (hb.block B h.mp.lt), h.ob, h.nb⟩
theorem MI.apply {own : Nat → Nat} {gb : Nat} {gs : List Nat} {ps : List ProdV} {B : Nat} {f : Int → Bool} {w0 w : World} (h : MI own gb gs ps B f w0 w) (x : EvV) (hk5 : x.kind ≠ 5) (n : Int) (hn : (decideF ps x).2 = n) (ps' : List ProdV) (hp : applyF ps x = ps') : Calls Try.prog 15 #[.pointer (some ⟨gb, 0, none⟩), evE x] w fun e w' => e = .returned (.int .i64 n) ∧ ∃ own' gs', MI own' gb gs' ps' B f w0 w' ∧ (∀ g o, own g = 0 ∧ w.heap[g]? = some o → own' g = 0 ∧ w'.heap[g]? = some o) := by
  refine (h.ki.apply x hk5 n hn ps' hp).mono ?_
  rintro e w' ⟨rfl, own', gs', hk, hkp⟩
  obtain ⟨es, c, hb, hr⟩ := h.mp
  obtain ⟨h1, h2⟩ := hkp _ _ ⟨h.ob, hb⟩
  exact ⟨rfl, own', gs', ⟨hk, ⟨es, c, h2, hr⟩, h1, h.nb⟩, hkp⟩
theorem MI.put {own : Nat → Nat} {gb : Nat} {gs : List Nat} {ps : List ProdV} {B : Nat} {f : Int → Bool} {w0 w : World} (h : MI own gb gs ps B f w0 w) (x : Int) (b : Bool) : ∃ W', (Instr.mapUpdate 49 (.map (some B)) (.int .i64 x) (.bool b)).run Try.prog w = .ok () W' ∧ MI own gb gs ps B (updF f x b) w0 W' ∧ w.grownBy W' (some B) := by
  obtain ⟨W', h1, h2, h3⟩ := h.mp.put x b
  refine ⟨W', h1, ⟨⟨h.ki.bi.step h3.size (fun k hk => h3.block k (h.ki.bi.lt k hk) (fun e => by cases e; exact hk h.ob)), h.ki.good, ?_, h.ki.zero⟩, h2, h.ob, h.nb⟩, h3⟩
  exact ⟨h3.os.trans h.ki.below.os, h3.tape.trans h.ki.below.tape, h3.output.trans h.ki.below.output, Nat.le_trans h.ki.below.size h3.size, fun k hk => (h3.block k (Nat.lt_of_lt_of_le hk h.ki.below.size) (fun e => by cases e; exact absurd h.nb (by omega))).trans (h.ki.below.block k hk)⟩
theorem C_at {A : Option Addr} {l : List Int} {w : World} (h : Kd.C (Kd.int .i64) w A l.length l) (m : Nat) (hm : m < l.length) : ∃ ad x, A = some ad ∧ w.cell? (ad.add m) = some (.int .i64 x) := by
  obtain ⟨ad, cs, hA, -, hK, hcell⟩ := ReadsRow.get_ h 0 (m : Int) (by omega) (by omega)
  rw [Int.toNat_natCast] at hK hcell
  have hK' : cs = [.int .i64 (l.getD m 0)] := hK
  subst hK'
  have g := hcell 0 _ rfl
  rw [show m * (Kd.int .i64).sz + 0 = m from Nat.mul_one m] at g
  exact ⟨ad, _, hA, g⟩
theorem tmod_in (x : Int) : -1000 < Int.tmod x 1000 ∧ Int.tmod x 1000 < 1000 := ⟨Int.lt_tmod_of_pos x (by decide), Int.tmod_lt_of_pos x (by decide)⟩
theorem wrap_in {x : Int} (h : -9223372036854775808 ≤ x ∧ x < 9223372036854775808) : wrap64 x = x := by unfold wrap64; omega
theorem stE_cases {L : List Int} (h : L ≠ []) (yes : Bool) : (stE L yes = 2 ∨ stE L yes = 3) ∧ decide (stE L yes = 2) = yes := by
  unfold stE
  rw [if_neg (fun e => h (List.eq_nil_of_length_eq_zero e))]
  cases yes <;> simp
theorem td_cells : ∀ (K : List Int) (yes : Bool) (k : Nat), k < K.length → (tdsC (K.map fun n => ⟨0, 0, n, yes⟩))[k * 4]? = some (.int .i64 0) ∧ (tdsC (K.map fun n => ⟨0, 0, n, yes⟩))[k * 4 + 2]? = some (.int .i64 (K.getD k 0)) ∧ (tdsC (K.map fun n => ⟨0, 0, n, yes⟩))[k * 4 + 3]? = some (.bool yes)
  | a :: K, yes, 0, _ => ⟨rfl, rfl, rfl⟩
  | a :: K, yes, k + 1, h => by
    have ih := td_cells K yes k (by simpa using h)
    have e : tdsC ((a :: K).map fun n => (⟨0, 0, n, yes⟩ : TdV)) = [.int .i64 0, .int .i64 0, .int .i64 a, .bool yes] ++ tdsC (K.map fun n => ⟨0, 0, n, yes⟩) := rfl
    rw [e]
    refine ⟨?_, ?_, ?_⟩
    · rw [List.getElem?_append_right (by simp; omega)]; exact (congrArg _ (by simp; omega)).trans ih.1
    · rw [List.getElem?_append_right (by simp; omega)]; exact (congrArg _ (by simp; omega)).trans ih.2.1
    · rw [List.getElem?_append_right (by simp; omega)]; exact (congrArg _ (by simp; omega)).trans ih.2.2
theorem td_at {w : World} {base : Nat} {v : Value} {K : List Int} {yes : Bool} (hK : K ≠ []) (h : w.ownsRow base 46 4 v (K.map fun n => (⟨0, 0, n, yes⟩ : TdV)).length (tdsC (K.map fun n => ⟨0, 0, n, yes⟩))) :
    ∃ g cap, v = .slice (some ⟨g, 0, none⟩) K.length cap ∧ base ≤ g ∧ ∃ cur, w.heap[g]? = some (.cells cur 46 (0, 0)) ∧ ∀ k, k < K.length → cur[k * 4]? = some (.int .i64 0) ∧ cur[k * 4 + 2]? = some (.int .i64 (K.getD k 0)) ∧ cur[k * 4 + 3]? = some (.bool yes) := by
  rw [List.length_map] at h
  obtain ⟨-, ⟨-, h0⟩ | ⟨g, cap, cur, rfl, hg, hcur, -, -, hcs, hct⟩⟩ := h
  · exact absurd (List.eq_nil_of_length_eq_zero h0) hK
  · refine ⟨g, cap, rfl, hg, cur, hcur, fun k hk => ?_⟩
    obtain ⟨h1, h2, h3⟩ := td_cells K yes k hk
    rw [← hct] at h1 h2 h3
    rw [List.getElem?_take, if_pos (by omega), Array.getElem?_toList] at h1 h2 h3
    exact ⟨h1, h2, h3⟩
theorem kmod_ok (x : Int) {n : Nat} (h0 : 0 < n) (h1 : n ≤ 50) : ∃ k : Nat, k < n ∧ Value.int .i64 (Int.tmod (wrap64 (Int.tmod x n + n)) n) = .int .i64 (k : Int) := by
  have a1 := Int.lt_tmod_of_pos x (b := (n : Int)) (by omega)
  have a2 := Int.tmod_lt_of_pos x (b := (n : Int)) (by omega)
  rw [wrap_in (by omega)]
  have a3 := Int.tmod_nonneg (a := Int.tmod x n + n) n (by omega)
  have a4 := Int.tmod_lt_of_pos (Int.tmod x n + n) (b := (n : Int)) (by omega)
  refine ⟨(Int.tmod (Int.tmod x n + n) n).toNat, by omega, ?_⟩
  rw [Int.toNat_of_nonneg a3]
def restL (K : List Int) (p : Int) : List Int := K.filter fun n => !decide (n = p)
theorem rest_sub {K : List Int} {p x : Int} (h : x ∈ restL K p) : x ∈ K := (List.mem_filter.1 h).1
theorem rest_srt {K : List Int} {p : Int} (h : K.Pairwise (· < ·)) : (restL K p).Pairwise (· < ·) := h.filter _
theorem rest_none {K : List Int} {p : Int} (h : p ∉ K) : restL K p = K := by
  unfold restL
  rw [List.filter_eq_self]
  intro a ha
  have : a ≠ p := fun e => h (e ▸ ha)
  simp [this]
theorem rest_len : ∀ {K : List Int} {p : Int}, K.Pairwise (· < ·) → p ∈ K → (restL K p).length + 1 = K.length
  | [], _, _, h => by cases h
  | a :: K, p, hs, h => by
    have hs' := List.pairwise_cons.1 hs
    by_cases e : a = p
    · subst e
      have hn : a ∉ K := fun hm => by have := hs'.1 a hm; omega
      have : restL (a :: K) a = restL K a := by simp [restL]
      rw [this, rest_none hn]; rfl
    · have hm : p ∈ K := by
        rcases List.mem_cons.1 h with h | h
        · exact absurd h.symm e
        · exact h
      have : restL (a :: K) p = a :: restL K p := by simp [restL, e]
      rw [this, List.length_cons, rest_len hs'.2 hm]; rfl
theorem mk_rest {K : List Int} {yes : Bool} {st : Int} (h : stE K yes = st) (p : Int) : mkP (K.filter fun n => !decide (n = p)) (if (K.filter fun n => !decide (n = p)).length = 0 then 0 else st) = mkP (restL K p) (stE (restL K p) yes) := by
  have e : (K.filter fun n => !decide (n = p)) = restL K p := rfl
  rw [e]
  by_cases h0 : (restL K p).length = 0
  · rw [if_pos h0]; unfold stE; rw [if_pos h0]
  · rw [if_neg h0, ← h]
    unfold stE
    rw [if_neg h0, if_neg]
    intro hk
    apply h0
    rw [List.eq_nil_of_length_eq_zero hk]; rfl
theorem met_del {K : List Int} {p : Int} : updF (metF K) p false = metF (restL K p) := by
  funext k
  unfold updF metF restL
  by_cases hk : k = p
  · subst hk; simp
  · rw [if_neg hk]; simp [hk]
set_option maxHeartbeats 6400000 in
set_option maxRecDepth 100000 in
theorem marks_c (A0 A2 : Option Addr) (c0 c2 : Nat) (l0 l2 : List Int) (yes : Bool) (w : World) (hr0 : Kd.C (Kd.int .i64) w A0 l0.length l0) (hr2 : Kd.C (Kd.int .i64) w A2 l2.length l2) :
    Calls Try.prog 6 #[.slice A0 l0.length c0, .bool yes, .slice A2 l2.length c2] w fun e w' => e = .returned (.bool true) ∧ Below w.heap.size w w' := by
  have R0 := Aside0.mk hr0
  have R2 := Aside0.mk hr2
  clear hr0 hr2
  have hmm := @run_makeMap Try.prog
  go_enter Try.func6, Try.ntmps6
  go_wp2_with (first
    | (go_at_call 12; refine (new_c w).mono ?_; rintro e w1 ⟨own, gb, rfl, hbi, hb, hz⟩; have K1 := Aside0.mk (KI.mk hbi good_nil hb hz); clear hbi hb hz)
    | (go_at_call 13; refine (knows_c _).mono ?_; rintro e w2 ⟨rfl, hb⟩; have K2 := Aside0.mk (K1.out.move hb); clear hb K1)
    | (go_at_call 15; refine (K2.out.apply mkI (by decide) 0 mi1 (mkP [] 0) mi2).mono ?_; rintro e w3 ⟨rfl, own3, gs3, hk, -⟩; have K3 := Aside0.mk hk; clear hk K2)
    | (go_at_call 19; refine (num_c _ _).mono ?_; rintro e w' ⟨rfl, rfl⟩))
  have M0 := Aside0.mk (show MI own3 gb gs3 (mkP [] 0) w'.heap.size (metF []) w (w'.alloc (.map #[] 0)) from ⟨K3.out.move (below_alloc (Below.refl _ _) _), (show metF [] = fun _ => false by funext x; simp [metF]) ▸ MapIB.made w', Classical.byContradiction fun e => Nat.lt_irrefl _ (K3.out.bi.lt _ e), K3.out.below.size⟩)
  generalize hB : w'.heap.size = B at M0 ⊢
  generalize (w'.alloc (.map #[] 0)) = w4 at M0 ⊢
  clear hB K3
  go_loopw [8, 10] (fun n i wr => ∃ (L : List Int) (st : Int) (own : Nat → Nat) (gs : List Nat) (m : Nat), m ≤ l0.length ∧ m ≤ 50 ∧ L.length ≤ m ∧ n = .int .i64 (L.length : Int) ∧ i = .int .i64 (m : Int) ∧ ML L st ∧ MI own gb gs (mkP L st) B (metF L) w wr) (fun n i _ => 50 - (intOf i).toNat)
  case atStart => exact ⟨[], 0, own3, gs3, 0, by omega, by omega, by simp, rfl, rfl, ML.nil, M0.out⟩
  case round =>
    obtain ⟨L, st, own4, gs4, m, hm0, hm5, hLm, rfl, rfl, hML, hMI⟩ := hrel
    have HM := Aside0.mk hMI
    have HL := Aside0.mk hML
    clear hMI hML M0
    by_cases hin : m < l0.length ∧ m < 50
    · obtain ⟨hin1, hin2⟩ := hin
      have hc1 : (m : Int) < (l0.length : Int) := by omega
      have hc2 : (m : Int) < 50 := by omega
      obtain ⟨ad, x, hA, hcell⟩ := C_at (Kd.C_below R0.out HM.out.ki.below) m hin1
      subst hA
      have h50 : (L.length : Int) + 1 ≤ 50 := by omega
      have HX := Aside0.mk (modK_bd x)
      have HXE := Aside0.mk (show Int.tmod (Int.tmod x 1000 + 1000) 1000 = modK x from rfl)
      have HT := Aside0.mk (tmod_in x)
      have HE := Aside0.mk (show Int.tmod (wrap64 (Int.tmod x 1000 + 1000)) 1000 = modK x by rw [show wrap64 (Int.tmod x 1000 + 1000) = Int.tmod x 1000 + 1000 from wrap_in (by have := HT.out; omega)]; rfl)
      clear HXE HT
      go_wp2_with (fail)
      rw [HE.out]
      generalize modK x = p at HX
      clear HE
      have HP1 := Aside0.mk (HL.out.put HX.out.1 HX.out.2)
      have HP2 := Aside0.mk (putL_len L p)
      refine (HM.out.apply (mkA p) (show (2 : Int) ≠ 5 by decide) 0 (congrArg Prod.snd (addD HX.out.1 HX.out.2 HL.out.st01 (by omega))) (mkP (putL L p) 1) (addA HX.out.1 HX.out.2 HL.out.st01 HL.out.s0 (by omega))).mono ?_
      rintro e w5 ⟨rfl, own5, gs5, hk, -⟩
      have HM5 := Aside0.mk hk
      clear hk
      have hlk := HM5.out.mp.look p
      obtain ⟨w6, hput, hm6, -⟩ := HM5.out.put p true
      rw [met_put HL.out] at hm6
      have HM6 := Aside0.mk hm6
      clear hm6
      have hlm : metF L p = decide (p ∈ L) := rfl
      rw [hlm] at hlk
      clear hlm
      by_cases hpm : p ∈ L
      · rw [decide_eq_true hpm] at hlk HP2
        rw [if_pos rfl] at HP2
        clear hpm
        go_wp2_with (go_at_call 19; refine (num_c _ _).mono ?_; rintro e w' ⟨rfl, rfl⟩)
        exact ⟨⟨putL L p, 1, own5, gs5, m + 1, by omega, by omega, by rw [HP2.out]; omega, by first | (rw [HP2.out]; done) | (rw [HP2.out]; rfl), rfl, HP1.out, HM6.out⟩, by simp only [intOf]; omega⟩
      · rw [decide_eq_false hpm] at hlk HP2
        rw [if_neg Bool.false_ne_true] at HP2
        clear hpm
        go_wp2_with (go_at_call 19; refine (num_c _ _).mono ?_; rintro e w' ⟨rfl, rfl⟩)
        exact ⟨⟨putL L p, 1, own5, gs5, m + 1, by omega, by omega, by rw [HP2.out]; omega, by first | (rw [HP2.out]; done) | (rw [HP2.out]; rfl), rfl, HP1.out, HM6.out⟩, by simp only [intOf]; omega⟩
    · have hx : ¬ (m : Int) < (l0.length : Int) ∨ ((m : Int) < (l0.length : Int) ∧ ¬ (m : Int) < 50) := by omega
      have hL50 : L.length ≤ 50 := by omega
      clear hin hLm
      have HBD := Aside0.mk HL.out.bd
      have HS := Aside0.mk HL.out.srt
      have HME := Aside0.mk (HM.out.apply (mkE yes) (show (3 : Int) ≠ 5 by decide) 0 (congrArg Prod.snd (endD yes HL.out.st01)) (mkP L (stE L yes)) (endA yes HL.out.st01 HL.out.s0))
      rcases hx with hx1 | ⟨hx1, hx2⟩
      all_goals
        go_wp2_with (first
          | (go_at_call 15; refine HME.out.mono ?_; rintro e w5 ⟨rfl, own5, gs5, hk, -⟩; have HM5 := Aside0.mk hk; clear hk HM)
          | (go_at_call 19; refine (num_c _ _).mono ?_; rintro e w' ⟨rfl, rfl⟩))
        clear HME HL
        go_loopw [8, 12] (fun n i wr => ∃ (K : List Int) (own : Nat → Nat) (gs : List Nat) (m : Nat), m + K.length ≤ 50 ∧ n = .int .i64 (K.length : Int) ∧ i = .int .i64 (m : Int) ∧ (∀ x ∈ K, 0 ≤ x ∧ x < 1000) ∧ K.Pairwise (· < ·) ∧ MI own gb gs (mkP K (stE K yes)) B (metF K) w wr) (fun n i _ => (intOf n).toNat)
        case atStart => exact ⟨L, own5, gs5, 0, by omega, rfl, rfl, HBD.out, HS.out, HM5.out⟩
        case round =>
          obtain ⟨K, own6, gs6, m, hmK, rfl, rfl, hbd, hsr, hMI⟩ := hrel
          have HM := Aside0.mk hMI
          have HKB := Aside0.mk hbd
          have HKS := Aside0.mk hsr
          clear hMI hbd hsr HM5 HBD HS
          by_cases hK : K = []
          · subst hK
            have HT := Aside0.mk (show todosF (mkP [] (stE [] yes)) = [] from by cases yes <;> kernel_rfl)
            have HST := Aside0.mk (show statusF (mkP [] (stE [] yes)) 0 = (0, 0, true) from by cases yes <;> kernel_rfl)
            have HPL := Aside0.mk (show placesF (mkP [] (stE [] yes)) 0 = [] from by cases yes <;> kernel_rfl)
            go_wp2_with (first
              | (go_at_call 18; refine (status_c HM.out.ki.bi 0).mono ?_; rintro e w6 ⟨rfl, hb⟩; have HM1 := Aside0.mk (HM.out.ki.move hb); clear hb; rw [HST.out])
              | (go_at_call 17; refine (todo_c HM1.out.bi HM1.out.good).mono ?_; rintro e w7 ⟨v, rfl, hrow, hb⟩; have HM2 := Aside0.mk (HM1.out.move hb); rw [HT.out] at hrow; clear hb; obtain ⟨A7, c7, rfl⟩ := own_slice hrow; clear hrow)
              | (go_at_call 21; refine (places_c HM2.out.bi HM2.out.good 0).mono ?_; rintro e w8 ⟨v, rfl, hrow, hb⟩; have HM3 := Aside0.mk (HM2.out.move hb); rw [HPL.out] at hrow; clear hb; obtain ⟨A8, c8, rfl⟩ := Kd.R_slice hrow; clear hrow))
            exact bodyPost_ret (v := .bool true) (by simp [results, Try.results6, go_sem]) rfl ⟨rfl, HM3.out.below⟩
          · have hKpos : 0 < K.length := List.length_pos_iff.2 hK
            have hKc : (0 : Int) < (K.length : Int) := by omega
            have hS := stE_cases hK yes
            have HS2 := Aside0.mk hS
            have HST := Aside0.mk (show statusF (mkP K (stE K yes)) 0 = (stE K yes, 0, true) from rfl)
            have HT := Aside0.mk (todosM (L := K) (st := stE K yes) hS.1)
            rw [hS.2] at HT
            clear hS
            generalize hst : stE K yes = sK at HS2 HST HT HM
            have HSK := Aside0.mk hst
            clear hst
            have h2 : sK = if yes = true then 2 else 3 := by
              have := HS2.out
              cases yes
              · rcases this.1 with h | h <;> simp [h] at this ⊢
              · rcases this.1 with h | h <;> simp [h] at this ⊢
            clear HS2
            cases yes
            all_goals
              simp only [if_true, Bool.false_eq_true, if_false] at h2
              subst h2
              go_upto_if 107 with (first
                | (go_at_call 17; refine (todo_c HM.out.ki.bi HM.out.ki.good).mono ?_; rintro e w7 ⟨v, rfl, hrow, hb⟩; have HM1 := Aside0.mk (HM.out.move hb); rw [HT.out] at hrow; obtain ⟨g, cap, rfl, hg, hcl⟩ := td_at hK hrow; have HG := Aside0.mk hg; have HCL := Aside0.mk hcl; clear hb hrow hcl hg)
                | (go_at_call 18; refine (status_c HM1.out.ki.bi 0).mono ?_; rintro e w8 ⟨rfl, hb⟩; have HM2 := Aside0.mk (HM1.out.move hb); have HGW := Aside0.mk (Nat.lt_of_lt_of_le HM.out.mp.lt HG.out); obtain ⟨cur, hgc, hcl⟩ := HCL.out; have HGC := Aside0.mk ((hb.block g (Array.getElem?_eq_some_iff.1 hgc).1).trans hgc); have HCC := Aside0.mk hcl; clear hb hgc hcl HCL; rw [HST.out]))
              go_cut [17] from 107 to 118 (fun u17 wx => ∃ k : Nat, k < K.length ∧ u17 = .int .i64 (k : Int) ∧ w8 = wx)
              case first =>
                by_cases hm2 : m < l2.length
                · have hc3 : (m : Int) < (l2.length : Int) := by omega
                  obtain ⟨ad, x, hA, hcell⟩ := C_at (Kd.C_below R2.out HM2.out.ki.below) m hm2
                  subst hA
                  go_wp2_with fail
                  go_meet
                  obtain ⟨k, h1, h2⟩ := kmod_ok x hKpos (show K.length ≤ 50 by omega)
                  exact ⟨k, h1, h2, rfl⟩
                · have hc3 : ¬ (m : Int) < (l2.length : Int) := by omega
                  go_wp2_with fail
                  go_meet
                  exact ⟨0, hKpos, rfl, rfl⟩
              case rest =>
                obtain ⟨k, hk, rfl, rfl⟩ := hcut
                obtain ⟨e0, e2, e3⟩ := HCC.out k hk
                have c0' : w8.cell? ⟨g, k * 4, none⟩ = some (.int .i64 0) := (blk_cell HGC.out _).trans e0
                have c2' : w8.cell? ⟨g, k * 4 + 2, none⟩ = some (.int .i64 (K.getD k 0)) := (blk_cell HGC.out _).trans e2
                have c3' := (blk_cell HGC.out _).trans e3
                have hmem : K.getD k 0 ∈ K := by rw [List.getD_eq_getElem?_getD, List.getElem?_eq_getElem hk]; exact List.getElem_mem hk
                generalize K.getD k 0 = p at c2' hmem e2
                have hlk := HM2.out.mp.look p
                rw [show metF K p = true from decide_eq_true hmem] at hlk
                obtain ⟨w9, hput, hm9, hg9⟩ := HM2.out.put p false
                have HM9 := Aside0.mk hm9
                have c2'' : w9.cell? ⟨g, k * 4 + 2, none⟩ = some (.int .i64 p) := (blk_cell ((hg9.block g (Array.getElem?_eq_some_iff.1 HGC.out).1 (fun e => by cases e; exact Nat.lt_irrefl _ HGW.out)).trans HGC.out) _).trans e2
                clear hm9 hg9 e0 e2 e3
                have HS3 := (stE_cases hK _).1.imp (fun h => HSK.out.symm.trans h) (fun h => HSK.out.symm.trans h)
                have HS3 := Aside0.mk HS3
                have HMD := Aside0.mk (markD (HKB.out p hmem).1 (HKB.out p hmem).2 HS3.out hmem)
                have HMA := Aside0.mk ((markA (HKB.out p hmem).1 (HKB.out p hmem).2 HS3.out hmem).trans (mk_rest HSK.out p))
                have HRL := Aside0.mk (rest_len HKS.out hmem)
                have HRP := Aside0.mk hmem
                clear hmem
                go_wp2_with (first
                  | (go_at_call 15; refine (HM9.out.apply (mkM p) (show (4 : Int) ≠ 5 by decide) 0 (congrArg Prod.snd HMD.out) _ HMA.out).mono ?_; rintro e w10 ⟨rfl, own10, gs10, hk10, -⟩; have HM10 := Aside0.mk hk10; clear hk10)
                  | (go_at_call 19; refine (num_c _ _).mono ?_; rintro e w' ⟨rfl, rfl⟩))
                refine ⟨⟨restL K p, own10, gs10, m + 1, by have := HRL.out; omega, ?_, rfl, fun x hx => HKB.out x (rest_sub hx), rest_srt HKS.out, ?_⟩, ?_⟩
                · rw [← HRL.out]; exact congrArg _ (by omega)
                · have := HM10.out; rw [met_del] at this; exact this
                · simp only [intOf]; omega
end Go.Proofs.Ytofegigbhohebaa.Hand
