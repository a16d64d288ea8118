/- What an Init does: a name that is new. -/
import Derived.Test.YtofegigbhohebaaTB13
namespace Go.Proofs.Ytofegigbhohebaa.Hand
open Go.RowKit Go.Proofs.Ytofegigbhohebaa Go.Proofs.YtofegigbhohebaaW.PrintWords Go.Proofs.YtofegigbhohebaaW.PrintLast
set_option linter.unusedVariables false
set_option linter.unusedSimpArgs false
variable {own : Nat → Nat} {gb : Nat} {gs : List Nat} {ps : List ProdV} {w w' : World}
theorem info83 : (Try.prog.info? 83).map (fun i => (i.zero, i.size, i.bytes)) = some (some (.pointer none), 1, 8) := by kernel_rfl
theorem own_blk {α : Type} {enc : α → Value} {h1 : ∀ x, (enc x).oneCell' = true} {e : Nat} {w : World} {base : Nat} {ok : Nat → Prop} {v : Value} {xs : List α} (h : (Kd.scalar enc h1).R e w base ok v xs) {k : Nat} (hk : v.ownBlock = some k) : ∃ cur, w.heap[k]? = some (.cells cur e (0, 0)) := by
  obtain ⟨h1, ⟨h2, -⟩ | ⟨g', cap', cur, h2, -, h3, -⟩⟩ := Kd.own_of_R h
  · subst h2; simp [Value.ownBlock] at hk
  · subst h2
    simp [Value.ownBlock] at hk
    subst hk
    exact ⟨cur, h3⟩
theorem own_ne {α : Type} {enc : α → Value} {h1 : ∀ x, (enc x).oneCell' = true} {e : Nat} {w : World} {base : Nat} {ok : Nat → Prop} {v : Value} {xs : List α} (h : (Kd.scalar enc h1).R e w base ok v xs) {g : Nat} {o : Obj} (hg : w.heap[g]? = some o) (ho : ∀ cur, o ≠ .cells cur e (0, 0)) : some g ≠ v.ownBlock := fun he => by
  obtain ⟨cur, hc⟩ := own_blk h he.symm
  rw [hg] at hc
  injection hc with hc
  exact ho cur hc
theorem own_move {α : Type} {enc : α → Value} {h1 : ∀ x, (enc x).oneCell' = true} {e : Nat} {w w' : World} {base : Nat} {ok ok' : Nat → Prop} {v : Value} {xs : List α} (h : (Kd.scalar enc h1).R e w base ok v xs) (hb : ∀ k, v.ownBlock = some k → w'.heap[k]? = w.heap[k]?) (hok : ∀ k, v.ownBlock = some k → ok' k) : (Kd.scalar enc h1).R e w' base ok' v xs := by
  refine Kd.R_of_own ?_ hok
  obtain ⟨h2, h3 | ⟨g, cap, cur, rfl, h4, h5, h6⟩⟩ := Kd.own_of_R h
  · exact ⟨h2, .inl h3⟩
  · exact ⟨h2, .inr ⟨g, cap, cur, rfl, h4, (hb g (by simp [Value.ownBlock])).trans h5, h6⟩⟩
/-- A book that gets a name: its map has the name, its list has it not yet. -/
structure NwI (own : Nat → Nat) (gb : Nat) (gs : List Nat) (ps : List ProdV) (name : ByteArray) (bx : Array Value) (A : Option Addr) (c B : Nat) (w w3 w1 : World) : Prop where
  bi : BI own gb gs ps w3
  fr : Fr own w w3
  lt : w.heap.size < w3.heap.size
  os : w1.os = w3.os
  tape : w1.tape = w3.tape
  output : w1.output = w3.output
  size : w3.heap.size ≤ w1.heap.size
  block : ∀ k, k < w3.heap.size → own k ≠ 1 → w1.heap[k]? = w3.heap[k]?
  box : w1.heap[w.heap.size]? = some (.cells bx 33 (0, 0))
  bk : w1.heap[gb]? = some (.cells #[.slice A ps.length c, .map (some B), .bool true] 62 (0, 0))
  row : Kd.R kPtr 83 w1 0 (fun k => own k = 1) (.slice A ps.length c) gs
  mp : MapS w1 B (ps.map ProdV.name ++ [name])
  oB : own B = 1
theorem NwI.move {name : ByteArray} {bx : Array Value} {A : Option Addr} {c B : Nat} {w3 w1 w2 : World} (h : NwI own gb gs ps name bx A c B w w3 w1) (hb : Below w1.heap.size w1 w2) : NwI own gb gs ps name bx A c B w w3 w2 :=
  ⟨h.bi, h.fr, h.lt, hb.os.trans h.os, hb.tape.trans h.tape, hb.output.trans h.output, Nat.le_trans h.size hb.size, fun k hk h1 => (hb.block k (Nat.lt_of_lt_of_le hk h.size)).trans (h.block k hk h1), blk_below h.box hb, blk_below h.bk hb, Kd.R_below h.row hb, h.mp.move (hb.block B h.mp.lt), h.oB⟩
/-- The map is written. -/
theorem NwI.start {name : ByteArray} {bx : Array Value} {w3 w4 : World} {A : Option Addr} {c B : Nat} (h : BI own gb gs ps w3) (hf : Fr own w w3) (hl : w.heap.size < w3.heap.size) (hw : own w.heap.size = 0) (hbx : w3.heap[w.heap.size]? = some (.cells bx 33 (0, 0)))
    (hbk : w3.heap[gb]? = some (.cells #[.slice A ps.length c, .map (some B), .bool true] 62 (0, 0))) (hrow : Kd.R kPtr 83 w3 0 (fun k => own k = 1) (.slice A ps.length c) gs) (hB : own B = 1) (hmm : ∃ es cl, w3.heap[B]? = some (.map es cl)) (hmp : MapS w4 B (ps.map ProdV.name ++ [name])) (hg : w3.grownBy w4 (some B)) : NwI own gb gs ps name bx A c B w w3 w4 := by
  obtain ⟨es, cl, hes⟩ := hmm
  have hgb : some gb ≠ some B := fun e => by injection e with e; rw [e, hes] at hbk; cases hbk
  refine ⟨h, hf, hl, hg.os, hg.tape, hg.output, hg.size, fun k hk h1 => hg.block k hk (fun e => h1 (by injection e with e; rw [e]; exact hB)), blk_grown hbx hg (fun e => by injection e with e; rw [e, hB] at hw; cases hw), blk_grown hbk hg hgb, own_move hrow (fun k hk => hg.block k (blk_lt (own_blk hrow hk).choose_spec) (fun e => ?_)) hrow.1, hmp, hB⟩
  injection e with e
  obtain ⟨cur, hc⟩ := own_blk hrow hk
  rw [e, hes] at hc
  cases hc
/-- .. and it is in the list. -/
theorem NwI.done {name : ByteArray} {bx : Array Value} {A A9 : Option Addr} {c c9 B gn : Nat} {t : Int} {w3 w1 w2 : World} (h : NwI own gb gs ps name bx A c B w w3 w1) (hgn : w3.heap.size ≤ gn) (hpb : w1.heap[gn]? = some (.cells (prodC ⟨name, t, 0, 0, 0, []⟩ (.slice none 0 0)) 85 (0, 0)))
    (hR : Kd.R kPtr 83 w2 0 (fun k => own k = 1 ∨ w3.heap.size ≤ k) (.slice A9 (ps.length + 1) c9) (gs ++ [gn])) (hg : w1.grownBy w2 (Value.slice A ps.length c).ownBlock) : DoP own gb (ps ++ [⟨name, t, 0, 0, 0, []⟩]) w (w2.setCell ⟨gb, 0, none⟩ (.slice A9 (ps.length + 1) c9)) := by
  have hgn1 : gn < w1.heap.size := blk_lt hpb
  have hgbv : some gb ≠ (Value.slice A ps.length c).ownBlock := own_ne h.row h.bk (fun cur e => by injection e with _ e; cases e)
  have hgnv : some gn ≠ (Value.slice A ps.length c).ownBlock := own_ne h.row hpb (fun cur e => by injection e with _ e; cases e)
  have hbk2 := blk_grown h.bk hg hgbv
  have hpb2 := blk_grown hpb hg hgnv
  have hgg : gn ≠ gb := fun e => by rw [e, h.bk] at hpb; injection hpb with hpb; injection hpb with _ hpb; cases hpb
  have hMB : ∃ es cl, w1.heap[B]? = some (.map es cl) := by obtain ⟨es, cl, h1, -⟩ := h.mp; exact ⟨es, cl, h1⟩
  obtain ⟨es, cl, hes⟩ := hMB
  have hBgb : B ≠ gb := fun e => by rw [e, h.bk] at hes; cases hes
  have hBv : some B ≠ (Value.slice A ps.length c).ownBlock := own_ne h.row hes (fun cur e => by cases e)
  have hWs : (w2.setCell ⟨gb, 0, none⟩ (.slice A9 (ps.length + 1) c9)).heap.size = w2.heap.size := by simp [World.setCell]
  have hset : ∀ k, k ≠ gb → (w2.setCell ⟨gb, 0, none⟩ (.slice A9 (ps.length + 1) c9)).heap[k]? = w2.heap[k]? := fun k hk => Below.heap_setCell w2 ⟨gb, 0, none⟩ _ k hk
  have h12 : w3.heap.size ≤ w2.heap.size := Nat.le_trans h.size hg.size
  have hblk : ∀ k, k < w3.heap.size → own k ≠ 1 → (w2.setCell ⟨gb, 0, none⟩ (.slice A9 (ps.length + 1) c9)).heap[k]? = w3.heap[k]? := fun k hk h1 =>
    (hset k (fun e => h1 (by rw [e]; exact h.bi.ogb))).trans ((hg.block k (Nat.lt_of_lt_of_le hk h.size) (fun e => h1 (h.row.1 k e.symm))).trans (h.block k hk h1))
  let own' : Nat → Nat := fun k => if w3.heap.size ≤ k ∧ k < w2.heap.size then (if k = gn then ps.length + 2 else 1) else own k
  have ho1 : ∀ k, k < w3.heap.size → own' k = own k := fun k hk => if_neg (fun h => Nat.lt_irrefl _ (Nat.lt_of_lt_of_le hk h.1))
  refine ⟨own', gs ++ [gn], ?_, h.fr.trans (w' := w3) ⟨hg.os.trans h.os, hg.tape.trans h.tape, hg.output.trans h.output, by rw [hWs]; exact h12, fun k hk h0 => hblk k hk (by rw [h0]; decide)⟩ (fun _ _ => rfl), fun k hk => ho1 k (Nat.lt_trans hk (Nat.lt_of_le_of_lt (Nat.le_refl _) h.lt))⟩
  refine h.bi.push (own' := own') (w' := w2.setCell ⟨gb, 0, none⟩ (.slice A9 (ps.length + 1) c9)) (g := gn) (p := ⟨name, t, 0, 0, 0, []⟩) (v := .slice none 0 0) (A := A9) (c := c9) (B := B) (by rw [hWs]; exact h12) (fun k h0 h1 => hblk k (h.bi.lt k h0) h1) (fun k h0 => ho1 k (h.bi.lt k h0)) (fun k h0 => ?_)
    (blk_put hbk2 0 _ rfl) (own_move hR (fun k hk => hset k ?_) (fun k hk => ?_)) ?_ ((ho1 B (h.bi.lt B (by rw [h.oB]; decide))).trans h.oB) ?_ ((hset gn hgg).trans hpb2) (Kd.R_nil _ _ _ _ _)
  · rw [hWs]
    by_cases hk : w3.heap.size ≤ k ∧ k < w2.heap.size
    · exact hk.2
    · rw [show own' k = own k from if_neg hk] at h0
      exact Nat.lt_of_lt_of_le (h.bi.lt k h0) h12
  · rintro rfl
    obtain ⟨cur, hc⟩ := own_blk hR hk
    rw [hbk2] at hc
    injection hc with hc
    injection hc with _ hc
    cases hc
  · obtain ⟨cur, hc⟩ := own_blk hR hk
    have hkn : k ≠ gn := fun e => by
      rw [e, hpb2] at hc
      injection hc with hc
      injection hc with _ hc
      cases hc
    show own' k = 1
    by_cases hk2 : w3.heap.size ≤ k
    · show (if w3.heap.size ≤ k ∧ k < w2.heap.size then (if k = gn then ps.length + 2 else 1) else own k) = 1
      rw [if_pos ⟨hk2, blk_lt hc⟩, if_neg hkn]
    · rw [ho1 k (Nat.lt_of_not_le hk2)]
      exact (hR.1 k hk).resolve_right hk2
  · rw [List.map_append]
    exact h.mp.move ((hset B hBgb).trans (hg.block B (blk_lt hes) hBv))
  · show (if w3.heap.size ≤ gn ∧ gn < w2.heap.size then (if gn = gn then ps.length + 2 else 1) else own gn) = ps.length + 2
    rw [if_pos ⟨hgn, Nat.lt_of_lt_of_le hgn1 hg.size⟩, if_pos rfl]
def TB303 : Bool × List (List Nat × List Nat) := (true, [([], []), ([0], [0]), ([1], [1]), ([2], [2]), ([], []), ([4], [4]), ([], []), ([6], [6]), ([7], [7]), ([8], [8]), ([9], [9]), ([3, 5, 10, 0, 1, 2, 3, 4, 5, 6, 7, 8, 9, 10], [3, 5, 10])])
def BB303 : List Nat := [0, 1, 3, 7, 0, 16, 0, 64, 192, 448, 960, 2047]
theorem tabB303 : rtab .any (opsOf Try.f30 3) = TB303 := by kernel_rfl
theorem bitsB303 : waitsOk TB303.2 BB303 = true := by kernel_rfl
def TB304 : Bool × List (List Nat × List Nat) := (true, [([], []), ([], []), ([1], [1]), ([2], [2]), ([3], [3]), ([], []), ([5], [5]), ([], []), ([7], [7]), ([6, 8], [6, 8]), ([9], [9]), ([10], [10]), ([4, 11], [4, 11]), ([0, 0, 1, 2, 3, 4, 5, 6, 7, 8, 9, 10, 11, 12], [0]), ([13, 0, 1, 2, 3, 4, 5, 6, 7, 8, 9, 10, 11, 12], [13]), ([14, 12, 12, 0, 1, 2, 3, 4, 5, 6, 7, 8, 9, 10, 11, 12], [12, 14])])
def BB304 : List Nat := [0, 0, 2, 6, 14, 0, 32, 0, 128, 480, 992, 2016, 4094, 8191, 16383, 32767]
theorem tabB304 : rtab .any (opsOf Try.f30 4) = TB304 := by kernel_rfl
theorem bitsB304 : waitsOk TB304.2 BB304 = true := by kernel_rfl
set_option maxHeartbeats 6400000 in
set_option maxRecDepth 100000 in
theorem begin_new (h : BI own gb gs ps w) (hnd : (nmsOf ps).Nodup) (x : EvV) (hs : x.name ∉ nmsOf ps) (hlen : ps.length < 1000) : Calls Try.prog 30 #[.pointer (some ⟨gb, 0, none⟩), evE x] w fun e w' => e = .returned (.tuple #[]) ∧ DoP own gb (ps ++ [⟨x.name, x.timeout, 0, 0, 0, []⟩]) w w' := by
  obtain ⟨kind, name, producer, epoch, place, timeout, now, yes⟩ := x
  dsimp only at hs ⊢
  unfold evE
  have hd : decide (name ∈ nmsOf ps) = false := decide_eq_false hs
  have hix : idxV (nmsOf ps) name = 0 := if_neg hs
  have hb1 := below_alloc (Below.refl w.heap.size w) (.cells #[.int .i64 kind, .string name, .int .i64 producer, .int .i64 epoch, .int .i64 place, .int .i64 timeout, .int .i64 now, .bool yes] 33 (0, 0))
  have h1 := h.below hb1
  obtain ⟨A, c, B, k1, k2, k3, k4⟩ := h1.book
  have hlk : ∀ n, (Instr.lookup 60 (.map (some B)) (.string name) true).run Try.prog ((w.alloc (.cells #[.int .i64 kind, .string name, .int .i64 producer, .int .i64 epoch, .int .i64 place, .int .i64 timeout, .int .i64 now, .bool yes] 33 (0, 0))).drewN n) = .ok (.tuple #[.int .i64 0, .bool false]) ((w.alloc (.cells #[.int .i64 kind, .string name, .int .i64 producer, .int .i64 epoch, .int .i64 place, .int .i64 timeout, .int .i64 now, .bool yes] 33 (0, 0))).drewN n) := fun n => by
    have e := (show MapS _ B (nmsOf ps) from k3.move (W' := (w.alloc (.cells #[.int .i64 kind, .string name, .int .i64 producer, .int .i64 epoch, .int .i64 place, .int .i64 timeout, .int .i64 now, .bool yes] 33 (0, 0))).drewN n) rfl).look hnd name
    rw [hix, hd] at e
    exact e
  have how : own w.heap.size = 0 := by
    by_cases e : own w.heap.size = 0
    · exact e
    · exact absurd (h.lt _ e) (Nat.lt_irrefl _)
  have x1 : (w.alloc (.cells #[.int .i64 kind, .string name, .int .i64 producer, .int .i64 epoch, .int .i64 place, .int .i64 timeout, .int .i64 now, .bool yes] 33 (0, 0))).cell? ⟨w.heap.size, 1, none⟩ = some (.string name) := (blk_cell (heap_alloc_new w _) 1).trans rfl
  have b1 : (w.alloc (.cells #[.int .i64 kind, .string name, .int .i64 producer, .int .i64 epoch, .int .i64 place, .int .i64 timeout, .int .i64 now, .bool yes] 33 (0, 0))).cell? ⟨gb, 1, none⟩ = some (.map (some B)) := (blk_cell k1 1).trans rfl
  have HX := Aside0.mk (heap_alloc_new w (.cells #[.int .i64 kind, .string name, .int .i64 producer, .int .i64 epoch, .int .i64 place, .int .i64 timeout, .int .i64 now, .bool yes] 33 (0, 0)))
  have HBK := Aside0.mk k1
  have HRW := Aside0.mk k2
  have HMP := Aside0.mk k3
  have HOB := Aside0.mk k4
  have HI := Aside0.mk h1
  have HF := Aside0.mk (Fr.below own hb1)
  have HLT := Aside0.mk (show w.heap.size < (w.alloc (.cells #[.int .i64 kind, .string name, .int .i64 producer, .int .i64 epoch, .int .i64 place, .int .i64 timeout, .int .i64 now, .bool yes] 33 (0, 0))).heap.size by show _ < (w.heap.push _).size; rw [Array.size_push]; exact Nat.lt_succ_self _)
  have HNM := Aside0.mk hs
  clear hs hd hix hb1 h1 k1 k2 k3 k4 h hnd
  go_enter Try.func30, Try.ntmps30
  go_wp2_with fail
  go_quiet (fail)
  go_wp2_with fail
  have hdr := below_drew (Below.refl ((w.alloc (.cells #[.int .i64 kind, .string name, .int .i64 producer, .int .i64 epoch, .int .i64 place, .int .i64 timeout, .int .i64 now, .bool yes] 33 (0, 0))).drewN nq).heap.size ((w.alloc (.cells #[.int .i64 kind, .string name, .int .i64 producer, .int .i64 epoch, .int .i64 place, .int .i64 timeout, .int .i64 now, .bool yes] 33 (0, 0))).drewN nq))
  have hdq := pw_below_drewN (Below.refl (w.alloc (.cells #[.int .i64 kind, .string name, .int .i64 producer, .int .i64 epoch, .int .i64 place, .int .i64 timeout, .int .i64 now, .bool yes] 33 (0, 0))).heap.size (w.alloc (.cells #[.int .i64 kind, .string name, .int .i64 producer, .int .i64 epoch, .int .i64 place, .int .i64 timeout, .int .i64 now, .bool yes] 33 (0, 0)))) nq
  have hdd := below_step hdq hdr
  have HX2 := Aside0.mk (blk_below HX.out hdd)
  have HBK2 := Aside0.mk (blk_below HBK.out hdd)
  have HRW2 := Aside0.mk (Kd.R_below HRW.out hdd)
  have HMP2 := Aside0.mk (HMP.out.move (hdd.block B HMP.out.lt))
  have HI2 := Aside0.mk (HI.out.below hdd)
  have HF2 := Aside0.mk (HF.out.trans (Fr.below own hdd) (fun _ _ => rfl))
  have HLT2 := Aside0.mk (Nat.lt_of_lt_of_le HLT.out hdd.size)
  clear hdr hdq hdd HX HBK HRW HMP HI HF HLT x1 b1 hlk
  have x1 : ((w.alloc (.cells #[.int .i64 kind, .string name, .int .i64 producer, .int .i64 epoch, .int .i64 place, .int .i64 timeout, .int .i64 now, .bool yes] 33 (0, 0))).drewN nq).drew.cell? ⟨w.heap.size, 1, none⟩ = some (.string name) := (blk_cell HX2.out 1).trans rfl
  have b1 : ((w.alloc (.cells #[.int .i64 kind, .string name, .int .i64 producer, .int .i64 epoch, .int .i64 place, .int .i64 timeout, .int .i64 now, .bool yes] 33 (0, 0))).drewN nq).drew.cell? ⟨gb, 1, none⟩ = some (.map (some B)) := (blk_cell HBK2.out 1).trans rfl
  have b0 : ((w.alloc (.cells #[.int .i64 kind, .string name, .int .i64 producer, .int .i64 epoch, .int .i64 place, .int .i64 timeout, .int .i64 now, .bool yes] 33 (0, 0))).drewN nq).drew.cell? ⟨gb, 0, none⟩ = some (.slice A ps.length c) := (blk_cell HBK2.out 0).trans rfl
  refine start_ (n := 12) (S := fun w' => w'.cell? ⟨gb, 1, none⟩ = some (.map (some B)) ∧ w'.cell? ⟨w.heap.size, 1, none⟩ = some (.string name) ∧ w'.cell? ⟨gb, 0, none⟩ = some (.slice A ps.length c)) (ds := [11]) #[false, false, false, false, false, false, false, false, false, false, false, false] (by kernel_rfl) rfl rfl ⟨b1, x1, b0⟩ (fun hHeld => ?_); refine with_tabW tabB303 bitsB303 (fun HT_ HW_ => ?_)
  generalize hwd : ((w.alloc (.cells #[.int .i64 kind, .string name, .int .i64 producer, .int .i64 epoch, .int .i64 place, .int .i64 timeout, .int .i64 now, .bool yes] 33 (0, 0))).drewN nq).drew = w3 at HX2 HBK2 HRW2 HMP2 HI2 HF2 HLT2 x1 b1 b0 hHeld ⊢
  clear hwd
  refine pure_ (i := 0) (N := (some 19)) (v := ?_) (a' := ?_) #[true, false, false, false, false, false, false, false, false, false, false, false] rfl rfl (any_of HT_.out (by kernel_rfl)) (fun _ _ _ h => h) (Or.inl ⟨by rfl, ?_⟩) ?_ ?_
  rotate_left
  · intro w'
    go_simp
    with_reducible rfl
  rotate_left
  · simp only [Act.put, List.setIfInBounds_toArray, List.set_cons_zero, List.set_cons_succ, i64_w, i32_w]
    rfl
  refine pure_ (i := 1) (N := (some 20)) (v := ?_) (a' := ?_) #[true, true, false, false, false, false, false, false, false, false, false, false] rfl rfl (any_of HT_.out (by kernel_rfl)) (fun _ _ _ h => h) (Or.inl ⟨by rfl, ?_⟩) ?_ ?_
  rotate_left
  · intro w'
    go_simp
    with_reducible rfl
  rotate_left
  · simp only [Act.put, List.setIfInBounds_toArray, List.set_cons_zero, List.set_cons_succ, i64_w, i32_w]
    rfl
  refine pure_ (i := 2) (N := (some 21)) (v := ?_) (a' := ?_) #[true, true, true, false, false, false, false, false, false, false, false, false] rfl rfl (any_of HT_.out (by kernel_rfl)) (fun _ _ _ h => h) (Or.inl ⟨by rfl, ?_⟩) ?_ ?_
  rotate_left
  · intro w'
    go_simp
    with_reducible rfl
  rotate_left
  · simp only [Act.put, List.setIfInBounds_toArray, List.set_cons_zero, List.set_cons_succ, i64_w, i32_w]
    rfl
  refine take_ (i := 3) (N := (some 22)) (v := ?_) (a' := ?_) #[true, true, true, true, false, false, false, false, false, false, false, false] rfl rfl (take_ofW HT_.out HW_.out (by kernel_rfl)) (fun _ _ _ h => h) (Or.inl ⟨by rfl, ?_⟩) hHeld ?_ ?_
  rotate_left
  · rintro w' ⟨s0, s1, s2⟩
    go_simp
    with_reducible rfl
  rotate_left
  · simp only [Act.put, List.setIfInBounds_toArray, List.set_cons_zero, List.set_cons_succ, i64_w, i32_w]
    rfl
  refine pure_ (i := 4) (N := (some 23)) (v := ?_) (a' := ?_) #[true, true, true, true, true, false, false, false, false, false, false, false] rfl rfl (any_of HT_.out (by kernel_rfl)) (fun _ _ _ h => h) (Or.inl ⟨by rfl, ?_⟩) ?_ ?_
  rotate_left
  · intro w'
    go_simp
    with_reducible rfl
  rotate_left
  · simp only [Act.put, List.setIfInBounds_toArray, List.set_cons_zero, List.set_cons_succ, i64_w, i32_w]
    rfl
  refine take_ (i := 5) (N := (some 24)) (v := ?_) (a' := ?_) #[true, true, true, true, true, true, false, false, false, false, false, false] rfl rfl (take_ofW HT_.out HW_.out (by kernel_rfl)) (fun _ _ _ h => h) (Or.inl ⟨by rfl, ?_⟩) hHeld ?_ ?_
  rotate_left
  · rintro w' ⟨s0, s1, s2⟩
    go_simp
    with_reducible rfl
  rotate_left
  · simp only [Act.put, List.setIfInBounds_toArray, List.set_cons_zero, List.set_cons_succ, i64_w, i32_w]
    rfl
  refine pure_ (i := 6) (N := (some 25)) (v := ?_) (a' := ?_) #[true, true, true, true, true, true, true, false, false, false, false, false] rfl rfl (any_of HT_.out (by kernel_rfl)) (fun _ _ _ h => h) (Or.inl ⟨by rfl, ?_⟩) ?_ ?_
  rotate_left
  · intro w'
    go_simp
    with_reducible rfl
  rotate_left
  · simp only [Act.put, List.setIfInBounds_toArray, List.set_cons_zero, List.set_cons_succ, i64_w, i32_w]
    rfl
  refine pure_ (i := 7) (N := (some 26)) (v := ?_) (a' := ?_) #[true, true, true, true, true, true, true, true, false, false, false, false] rfl rfl (any_of HT_.out (by kernel_rfl)) (fun _ _ _ h => h) (Or.inl ⟨by rfl, ?_⟩) ?_ ?_
  rotate_left
  · intro w'
    go_simp
    with_reducible rfl
  rotate_left
  · simp only [Act.put, List.setIfInBounds_toArray, List.set_cons_zero, List.set_cons_succ, i64_w, i32_w]
    rfl
  refine pure_ (i := 8) (N := (some 27)) (v := ?_) (a' := ?_) #[true, true, true, true, true, true, true, true, true, false, false, false] rfl rfl (any_of HT_.out (by kernel_rfl)) (fun _ _ _ h => h) (Or.inl ⟨by rfl, ?_⟩) ?_ ?_
  rotate_left
  · intro w'
    go_simp
    with_reducible rfl
  rotate_left
  · simp only [Act.put, List.setIfInBounds_toArray, List.set_cons_zero, List.set_cons_succ, i64_w, i32_w]
    rfl
  refine take_ (i := 9) (N := (some 28)) (v := ?_) (a' := ?_) #[true, true, true, true, true, true, true, true, true, true, false, false] rfl rfl (take_ofW HT_.out HW_.out (by kernel_rfl)) (fun _ _ _ h => h) (Or.inl ⟨by rfl, ?_⟩) hHeld ?_ ?_
  rotate_left
  · rintro w' ⟨s0, s1, s2⟩
    go_simp
    with_reducible rfl
  rotate_left
  · simp only [Act.put, List.setIfInBounds_toArray, List.set_cons_zero, List.set_cons_succ, i64_w, i32_w]
    rfl
  refine pure_ (i := 10) (N := (some 29)) (v := ?_) (a' := ?_) #[true, true, true, true, true, true, true, true, true, true, true, false] rfl rfl (any_of HT_.out (by kernel_rfl)) (fun _ _ _ h => h) (Or.inl ⟨by rfl, ?_⟩) ?_ ?_
  rotate_left
  · intro w'
    go_simp
    with_reducible rfl
  rotate_left
  · simp only [Act.put, List.setIfInBounds_toArray, List.set_cons_zero, List.set_cons_succ, i64_w, i32_w]
    rfl
  obtain ⟨w4, hmu, hmp4, hg4⟩ := HMP2.out.put name HNM.out
  rw [List.length_map] at hmu
  have HN4 := Aside0.mk (NwI.start HI2.out HF2.out HLT2.out how HX2.out HBK2.out HRW2.out HOB.out ⟨_, _, HMP2.out.choose_spec.choose_spec.1⟩ hmp4 hg4)
  clear hmp4 hg4
  refine last_ (i := 11) (N := none) #[true, true, true, true, true, true, true, true, true, true, true, true] rfl rfl (one_of HT_.out (by kernel_rfl)) (by decide) (fun K hK => ?_)
  refine skip_ (w1 := ?_) (by rfl) rfl ?_ ?_
  rotate_left
  · go_simp
    rfl
  refine hK.out _ _ ?_
  clear hK K
  refine done_ (done_of HT_.out (by kernel_rfl)) ?_
  clear hHeld HT_ HW_ x1 b1 b0 hmu HX2 HBK2 HRW2 HMP2 HI2 HF2 HLT2
  go_wp2_with fail
  have HN5 := Aside0.mk (HN4.out.move (below_drew (Below.refl _ _)))
  clear HN4
  have x1 : w4.drew.cell? ⟨w.heap.size, 1, none⟩ = some (.string name) := (blk_cell HN5.out.box 1).trans rfl
  have x5 : w4.drew.cell? ⟨w.heap.size, 5, none⟩ = some (.int .i64 timeout) := (blk_cell HN5.out.box 5).trans rfl
  have b0 : w4.drew.cell? ⟨gb, 0, none⟩ = some (.slice A ps.length c) := (blk_cell HN5.out.bk 0).trans rfl
  refine start_ (n := 16) (S := fun w' => w'.cell? ⟨gb, 0, none⟩ = some (.slice A ps.length c) ∧ w'.cell? ⟨w.heap.size, 1, none⟩ = some (.string name) ∧ w'.cell? ⟨w.heap.size, 5, none⟩ = some (.int .i64 timeout)) (ds := [12, 15]) #[false, false, false, false, false, false, false, false, false, false, false, false, false, false, false, false] (by kernel_rfl) rfl rfl ⟨b0, x1, x5⟩ (fun hHeld => ?_); refine with_tabW tabB304 bitsB304 (fun HT_ HW_ => ?_)
  generalize hwd : w4.drew = w5 at HN5 x1 x5 b0 hHeld ⊢
  clear hwd
  refine pure_ (i := 0) (N := (some 30)) (v := ?_) (a' := ?_) #[true, false, false, false, false, false, false, false, false, false, false, false, false, false, false, false] rfl rfl (any_of HT_.out (by kernel_rfl)) (fun _ _ _ h => h) (Or.inl ⟨by rfl, ?_⟩) ?_ ?_
  rotate_left
  · intro w'
    go_simp
    with_reducible rfl
  rotate_left
  · simp only [Act.put, List.setIfInBounds_toArray, List.set_cons_zero, List.set_cons_succ, i64_w, i32_w]
    rfl
  refine pure_ (i := 1) (N := (some 31)) (v := ?_) (a' := ?_) #[true, true, false, false, false, false, false, false, false, false, false, false, false, false, false, false] rfl rfl (any_of HT_.out (by kernel_rfl)) (fun _ _ _ h => h) (Or.inl ⟨by rfl, ?_⟩) ?_ ?_
  rotate_left
  · intro w'
    go_simp
    with_reducible rfl
  rotate_left
  · simp only [Act.put, List.setIfInBounds_toArray, List.set_cons_zero, List.set_cons_succ, i64_w, i32_w]
    rfl
  refine pure_ (i := 2) (N := (some 32)) (v := ?_) (a' := ?_) #[true, true, true, false, false, false, false, false, false, false, false, false, false, false, false, false] rfl rfl (any_of HT_.out (by kernel_rfl)) (fun _ _ _ h => h) (Or.inl ⟨by rfl, ?_⟩) ?_ ?_
  rotate_left
  · intro w'
    go_simp
    with_reducible rfl
  rotate_left
  · simp only [Act.put, List.setIfInBounds_toArray, List.set_cons_zero, List.set_cons_succ, i64_w, i32_w]
    rfl
  refine pure_ (i := 3) (N := (some 33)) (v := ?_) (a' := ?_) #[true, true, true, true, false, false, false, false, false, false, false, false, false, false, false, false] rfl rfl (any_of HT_.out (by kernel_rfl)) (fun _ _ _ h => h) (Or.inl ⟨by rfl, ?_⟩) ?_ ?_
  rotate_left
  · intro w'
    go_simp
    with_reducible rfl
  rotate_left
  · simp only [Act.put, List.setIfInBounds_toArray, List.set_cons_zero, List.set_cons_succ, i64_w, i32_w]
    rfl
  refine take_ (i := 4) (N := (some 34)) (v := ?_) (a' := ?_) #[true, true, true, true, true, false, false, false, false, false, false, false, false, false, false, false] rfl rfl (take_ofW HT_.out HW_.out (by kernel_rfl)) (fun _ _ _ h => h) (Or.inl ⟨by rfl, ?_⟩) hHeld ?_ ?_
  rotate_left
  · rintro w' ⟨s0, s1, s2⟩
    go_simp
    with_reducible rfl
  rotate_left
  · simp only [Act.put, List.setIfInBounds_toArray, List.set_cons_zero, List.set_cons_succ, i64_w, i32_w]
    rfl
  refine pure_ (i := 5) (N := (some 35)) (v := ?_) (a' := ?_) #[true, true, true, true, true, true, false, false, false, false, false, false, false, false, false, false] rfl rfl (any_of HT_.out (by kernel_rfl)) (fun _ _ _ h => h) (Or.inl ⟨by rfl, ?_⟩) ?_ ?_
  rotate_left
  · intro w'
    go_simp
    with_reducible rfl
  rotate_left
  · simp only [Act.put, List.setIfInBounds_toArray, List.set_cons_zero, List.set_cons_succ, i64_w, i32_w]
    rfl
  refine take_ (i := 6) (N := (some 36)) (v := ?_) (a' := ?_) #[true, true, true, true, true, true, true, false, false, false, false, false, false, false, false, false] rfl rfl (take_ofW HT_.out HW_.out (by kernel_rfl)) (fun _ _ _ h => h) (Or.inl ⟨by rfl, ?_⟩) hHeld ?_ ?_
  rotate_left
  · rintro w' ⟨s0, s1, s2⟩
    go_simp
    with_reducible rfl
  rotate_left
  · simp only [Act.put, List.setIfInBounds_toArray, List.set_cons_zero, List.set_cons_succ, i64_w, i32_w]
    rfl
  refine pure_ (i := 7) (N := (some 37)) (v := ?_) (a' := ?_) #[true, true, true, true, true, true, true, true, false, false, false, false, false, false, false, false] rfl rfl (any_of HT_.out (by kernel_rfl)) (fun _ _ _ h => h) (Or.inl ⟨by rfl, ?_⟩) ?_ ?_
  rotate_left
  · intro w'
    go_simp
    with_reducible rfl
  rotate_left
  · simp only [Act.put, List.setIfInBounds_toArray, List.set_cons_zero, List.set_cons_succ, i64_w, i32_w]
    rfl
  refine take_ (i := 8) (N := (some 38)) (v := ?_) (a' := ?_) #[true, true, true, true, true, true, true, true, true, false, false, false, false, false, false, false] rfl rfl (take_ofW HT_.out HW_.out (by kernel_rfl)) (fun _ _ _ h => h) (Or.inl ⟨by rfl, ?_⟩) hHeld ?_ ?_
  rotate_left
  · rintro w' ⟨s0, s1, s2⟩
    go_simp
    with_reducible rfl
  rotate_left
  · simp only [Act.put, List.setIfInBounds_toArray, List.set_cons_zero, List.set_cons_succ, i64_w, i32_w]
    rfl
  refine pure_ (i := 9) (N := (some 39)) (v := ?_) (a' := ?_) #[true, true, true, true, true, true, true, true, true, true, false, false, false, false, false, false] rfl rfl (any_of HT_.out (by kernel_rfl)) (fun _ _ _ h => h) (Or.inl ⟨by rfl, ?_⟩) ?_ ?_
  rotate_left
  · intro w'
    go_simp
    with_reducible rfl
  rotate_left
  · simp only [Act.put, List.setIfInBounds_toArray, List.set_cons_zero, List.set_cons_succ, i64_w, i32_w]
    rfl
  refine one_ (i := 10) (N := (some 40)) #[true, true, true, true, true, true, true, true, true, true, true, false, false, false, false, false] rfl rfl (one_of HT_.out (by kernel_rfl)) (by decide) (fun K hK => ?_)
  refine event_step (v := .pointer (some ⟨w5.heap.size, 0, none⟩)) (w1 := w5.alloc (.cells (prodC ⟨name, timeout, 0, 0, 0, []⟩ (.slice none 0 0)) 85 (0, 0))) (by rfl) ?hr ?_
  case hr => first | (go_simp; done) | (go_simp; rfl)
  have hb6 := below_alloc (Below.refl w5.heap.size w5) (.cells (prodC ⟨name, timeout, 0, 0, 0, []⟩ (.slice none 0 0)) 85 (0, 0))
  have HN6 := Aside0.mk (HN5.out.move hb6)
  have HP6 := Aside0.mk (heap_alloc_new w5 (.cells (prodC ⟨name, timeout, 0, 0, 0, []⟩ (.slice none 0 0)) 85 (0, 0)))
  have HGN := Aside0.mk HN5.out.size
  clear hb6
  obtain ⟨gn, hgn⟩ : ∃ gn, w5.heap.size = gn := ⟨_, rfl⟩
  rw [hgn] at HP6 HGN ⊢
  generalize (w5.alloc (.cells (prodC ⟨name, timeout, 0, 0, 0, []⟩ (.slice none 0 0)) 85 (0, 0))) = w6 at HN6 HP6 ⊢
  clear hgn HN5 x1 x5 b0
  have x1 : w6.cell? ⟨w.heap.size, 1, none⟩ = some (.string name) := (blk_cell HN6.out.box 1).trans rfl
  have x5 : w6.cell? ⟨w.heap.size, 5, none⟩ = some (.int .i64 timeout) := (blk_cell HN6.out.box 5).trans rfl
  have b0 : w6.cell? ⟨gb, 0, none⟩ = some (.slice A ps.length c) := (blk_cell HN6.out.bk 0).trans rfl
  refine hK.out _ _ ⟨b0, x1, x5⟩ (fun hHeld => ?_)
  clear hK K
  refine norm_ (a' := ?_) ?_ ?_
  rotate_left
  · show Act.put _ (some 40) _ = _
    simp only [Act.put, List.setIfInBounds_toArray, List.set_cons_zero, List.set_cons_succ, i64_w, i32_w]
    rfl
  refine one_ (i := 11) (N := (some 41)) #[true, true, true, true, true, true, true, true, true, true, true, true, false, false, false, false] rfl rfl (one_of HT_.out (by kernel_rfl)) (by decide) (fun K hK => ?_)
  refine Kd.R_lit_step kPtr (w0 := w6) 0 83 (by rfl) (N := 41) rfl (xs := [gn]) (inner := [.pointer (some ⟨gn, 0, none⟩)]) (ok := fun k => w6.heap.size ≤ k) (okp := fun k => w6.heap.size ≤ k) ?hr ?hp (fun _ hk => hk) (Nat.le_refl _) (Below.refl _ _) (Nat.zero_le _) (by simp) ?_
  case hr => first | (go_simp; done) | (go_simp; rfl)
  case hp => exact Reps.snoc (Reps.none _ 1) rfl rfl
  intro v7 w7 HO7 _ hg7 _
  have hb7 : Below w6.heap.size w6 w7 := ⟨hg7.os, hg7.tape, hg7.output, hg7.size, fun k hk => hg7.block k hk (by simp)⟩
  have HN7 := Aside0.mk (HN6.out.move hb7)
  have HP7 := Aside0.mk (blk_below HP6.out hb7)
  obtain ⟨A7, c7, rfl⟩ := Kd.R_slice HO7
  have HC7 := Aside0.mk (Kd.R_reads' HO7).2.2
  clear HN6 HP6 hb7 hg7 HO7 x1 x5 b0
  have x1 : w7.cell? ⟨w.heap.size, 1, none⟩ = some (.string name) := (blk_cell HN7.out.box 1).trans rfl
  have x5 : w7.cell? ⟨w.heap.size, 5, none⟩ = some (.int .i64 timeout) := (blk_cell HN7.out.box 5).trans rfl
  have b0 : w7.cell? ⟨gb, 0, none⟩ = some (.slice A ps.length c) := (blk_cell HN7.out.bk 0).trans rfl
  refine hK.out _ _ ⟨b0, x1, x5⟩ (fun hHeld => ?_)
  clear hK K
  refine norm_ (a' := ?_) ?_ ?_
  rotate_left
  · show Act.put _ (some 41) _ = _
    simp only [Act.put, List.setIfInBounds_toArray, List.set_cons_zero, List.set_cons_succ, i64_w, i32_w]
    rfl
  refine last_ (i := 12) (N := (some 42)) #[true, true, true, true, true, true, true, true, true, true, true, true, true, false, false, false] rfl rfl (one_of HT_.out (by kernel_rfl)) (by decide) (fun K hK => ?_)
  refine Kd.R_append_rows_step kPtr (w0 := w7) 0 (by rfl) (.tmp 34) (.tmp 41) 59 83 (.pointer none) 8 rfl Try.underlying59 info83 rfl (by decide) (by decide) (.slice A ps.length c) gs [gn] A7 _ c7 (fun k => own k = 1 ∨ w3.heap.size ≤ k) (fun _ => False) rfl rfl (Kd.R_mono HN7.out.row (fun k hk => .inl hk)) HC7.out (fun x cs h => h) (fun k h => h.elim) (fun k hk => .inr (Nat.le_trans HN7.out.size hk)) (Below.refl _ _) (Nat.zero_le _) (by rw [HN7.out.bi.len]; show (ps.length + 1) * 8 ≤ _; omega) ?_
  intro v9 w9 ho9 _ hg9 _
  obtain ⟨A9, c9, rfl⟩ := Kd.R_slice ho9
  have hl9 : (gs ++ [gn]).length = ps.length + 1 := by rw [List.length_append, HN7.out.bi.len]; rfl
  rw [hl9] at ho9 ⊢
  clear hl9
  have HDN := Aside0.mk (HN7.out.done HGN.out HP7.out ho9 hg9)
  have PB9 := Aside0.mk (show w9.heap[gb]? = some (.cells #[.slice A ps.length c, .map (some B), .bool true] 62 (0, 0)) from blk_grown HN7.out.bk hg9 (own_ne HN7.out.row HN7.out.bk (fun cur e => by injection e with _ e; cases e)))
  have z9 : w9.cell? ⟨gb, 0, none⟩ = some (.slice A ps.length c) := (blk_cell PB9.out 0).trans rfl
  have f9 := blk_frozen PB9.out 0
  clear ho9 hg9 HP7 HC7
  refine hK.out _ _ ?_
  clear hK K
  refine norm_ (a' := ?_) ?_ ?_
  rotate_left
  · show Act.put _ (some 42) _ = _
    simp only [Act.put, List.setIfInBounds_toArray, List.set_cons_zero, List.set_cons_succ, i64_w, i32_w]
    rfl
  refine pure_ (i := 13) (N := (some 43)) (v := ?_) (a' := ?_) #[true, true, true, true, true, true, true, true, true, true, true, true, true, true, false, false] rfl rfl (any_of HT_.out (by kernel_rfl)) (fun _ _ _ h => h) (Or.inl ⟨by rfl, ?_⟩) ?_ ?_
  rotate_left
  · intro w'
    go_simp
    with_reducible rfl
  rotate_left
  · simp only [Act.put, List.setIfInBounds_toArray, List.set_cons_zero, List.set_cons_succ, i64_w, i32_w]
    rfl
  refine pure_ (i := 14) (N := (some 44)) (v := ?_) (a' := ?_) #[true, true, true, true, true, true, true, true, true, true, true, true, true, true, true, false] rfl rfl (any_of HT_.out (by kernel_rfl)) (fun _ _ _ h => h) (Or.inl ⟨by rfl, ?_⟩) ?_ ?_
  rotate_left
  · intro w'
    go_simp
    with_reducible rfl
  rotate_left
  · simp only [Act.put, List.setIfInBounds_toArray, List.set_cons_zero, List.set_cons_succ, i64_w, i32_w]
    rfl
  refine last_ (i := 15) (N := none) #[true, true, true, true, true, true, true, true, true, true, true, true, true, true, true, true] rfl rfl (one_of HT_.out (by kernel_rfl)) (by decide) (fun K hK => ?_)
  refine skip_ (w1 := ?_) (by rfl) rfl ?_ ?_
  rotate_left
  · go_simp
    rfl
  refine hK.out _ _ ?_
  clear hK K
  refine done_ (done_of HT_.out (by kernel_rfl)) ?_
  clear hHeld HT_ HW_ z9 f9 x1 x5 b0
  go_wp2_with fail
  refine bodyPost_ret (v := .tuple #[]) (by simp [results, Try.results30, go_sem]) rfl ⟨rfl, HDN.out⟩
end Go.Proofs.Ytofegigbhohebaa.Hand
