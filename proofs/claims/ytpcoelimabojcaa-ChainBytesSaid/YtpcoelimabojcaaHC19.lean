/- Cut. -/
import Derived.Test.YtpcoelimabojcaaHC12
import Derived.Deep.CutRange
namespace Go.Proofs.Ytpcoelimabojcaa.Hand
open Go.RowKit Go.Proofs.Ytpcoelimabojcaa Go.Proofs.YtpcoelimabojcaaW.PrintWords Go.Proofs.YtpcoelimabojcaaW.PrintLast
set_option linter.unusedVariables false
set_option linter.unusedSimpArgs false
/-- How many parts a cut gives up, among those from the ith on. -/
def cutN (ps : List PartV) (addr : Int) : Nat → Nat → Nat
  | 0, m => m
  | f + 1, m => if m + 1 < ps.length ∧ (ps.getD (m + 1) part0).first ≤ addr then cutN ps addr f (m + 1) else m
def cutParts (ps : List PartV) (addr : Int) : List PartV := ps.drop (cutN ps addr ps.length 0)
/-- Cut's error. -/
def cutErr (ow tr : Int) (ps : List PartV) (n addr : Int) : Int :=
  if rightF ow tr ps n = false then 1 else if ¬ (tr ≤ addr ∧ addr ≤ lastF ps) then 1 else 0
/-- What Cut leaves. -/
def CutP (ow tr : Int) (ps : List PartV) (n addr : Int) (W : World) (e : Ending) (W' : World) : Prop :=
  Below W.heap.size W W' ∧ ((cutErr ow tr ps n addr ≠ 0 ∧ e = .returned (.tuple #[.agg #[.int .i64 0, .int .i64 0, .slice none 0 0], .int .i64 (cutErr ow tr ps n addr)])) ∨
    (cutErr ow tr ps n addr = 0 ∧ ∃ A c, e = .returned (.tuple #[.agg #[.int .i64 ow, .int .i64 addr, .slice A (cutParts ps addr).length c], .int .i64 0]) ∧ (cutParts ps addr).length ≤ c ∧ Kd.C k53 W' A (cutParts ps addr).length (cutParts ps addr)))
/-- Where Cut gives up. -/
theorem door22 {ow tr n addr : Int} {ps : List PartV} {W w : World} {g h : Nat} {x y z : Value} {e0 ev : Int} {t : Array Value} (hO : w.heap[g]? = some (.cells #[x, y, z] 27 (0, 0))) (hE : w.heap[h]? = some (.cells #[.int .i64 e0] 37 (0, 0))) (hgh : g ≠ h) (hg : W.heap.size ≤ g) (hh : W.heap.size ≤ h) (hB : Below W.heap.size W w)
    (t6 : t.getD 6 undef = .pointer (some ⟨g, 0, none⟩)) (t7 : t.getD 7 undef = .pointer (some ⟨h, 0, none⟩)) (herr : cutErr ow tr ps n addr = ev) (hne : ev ≠ 0) :
    bodyPostD Try.prog Try.f22 (CutP ow tr ps n addr W) (.panic [{ v := .iface 37 (.int .i64 ev), recovered := false }]) { tmps := t, defers := [{ target := .fn (.func 40) #[.pointer (some ⟨g, 0, none⟩), .pointer (some ⟨h, 0, none⟩)], args := #[] }] } w := by
  refine leaves_cons (f := 40) (args := #[.pointer (some ⟨g, 0, none⟩), .pointer (some ⟨h, 0, none⟩)]) (by simp) (by simp [go_sem]) ?_
  refine (catch40 g h x y z e0 ev [] w hO hE hgh).mono ?_
  rintro e u' w'' ⟨rfl, rfl, h1, h2, h3⟩
  have r0 : w''.cell? ⟨g, 0, none⟩ = some (.int .i64 0) := (blk_cell h1 0).trans rfl
  have r1 : w''.cell? ⟨g, 1, none⟩ = some (.int .i64 0) := (blk_cell h1 1).trans rfl
  have r2 : w''.cell? ⟨g, 2, none⟩ = some (.slice none 0 0) := (blk_cell h1 2).trans rfl
  have r3 : w''.cell? ⟨h, 0, none⟩ = some (.int .i64 ev) := (blk_cell h2 0).trans rfl
  refine ⟨.tuple #[.agg #[.int .i64 0, .int .i64 0, .slice none 0 0], .int .i64 ev], ?_, ?_⟩
  · rw [Array.getD_eq_getD_getElem?] at t6 t7
    simp [results, Try.results22, go_sem, t6, t7, r0, r1, r2, r3]
  · exact ⟨hB.trans (h3 _ hg hh hB.size), .inl ⟨by rw [herr]; exact hne, by rw [herr]⟩⟩
/-- Where Cut ends well. -/
theorem door22ok {ow tr n addr : Int} {ps xs : List PartV} {W w : World} {g h L c3 : Nat} {A2 : Option Addr} {t : Array Value} (hO : w.heap[g]? = some (.cells #[.int .i64 ow, .int .i64 addr, .slice A2 L c3] 27 (0, 0))) (hE : w.heap[h]? = some (.cells #[.int .i64 0] 37 (0, 0))) (hB : Below W.heap.size W w)
    (t6 : t.getD 6 undef = .pointer (some ⟨g, 0, none⟩)) (t7 : t.getD 7 undef = .pointer (some ⟨h, 0, none⟩)) (herr : cutErr ow tr ps n addr = 0) (hp : cutParts ps addr = xs) (hL : L = xs.length) (hc : L ≤ c3) (hR : Kd.C k53 w A2 xs.length xs) :
    bodyPostD Try.prog Try.f22 (CutP ow tr ps n addr W) .ret { tmps := t, defers := [{ target := .fn (.func 40) #[.pointer (some ⟨g, 0, none⟩), .pointer (some ⟨h, 0, none⟩)], args := #[] }] } w := by
  subst hL
  subst hp
  refine leaves_cons (f := 40) (args := #[.pointer (some ⟨g, 0, none⟩), .pointer (some ⟨h, 0, none⟩)]) (by simp) (by simp [go_sem]) ?_
  refine (idle40 ⟨g, 0, none⟩ ⟨h, 0, none⟩ w).mono ?_
  rintro e u' w'' ⟨rfl, rfl, rfl⟩
  have r0 : w''.cell? ⟨g, 0, none⟩ = some (.int .i64 ow) := (blk_cell hO 0).trans rfl
  have r1 : w''.cell? ⟨g, 1, none⟩ = some (.int .i64 addr) := (blk_cell hO 1).trans rfl
  have r2 : w''.cell? ⟨g, 2, none⟩ = some (.slice A2 (cutParts ps addr).length c3) := (blk_cell hO 2).trans rfl
  have r3 : w''.cell? ⟨h, 0, none⟩ = some (.int .i64 0) := (blk_cell hE 0).trans rfl
  refine ⟨.tuple #[.agg #[.int .i64 ow, .int .i64 addr, .slice A2 (cutParts ps addr).length c3], .int .i64 0], ?_, hB, .inr ⟨herr, A2, c3, rfl, hc, hR⟩⟩
  rw [Array.getD_eq_getD_getElem?] at t6 t7
  simp [results, Try.results22, go_sem, t6, t7, r0, r1, r2, r3]
/-- An address m parts on. -/
def adM (A : Option Addr) (m : Nat) : Option Addr := if m = 0 then A else A.map (·.add (m * 3))
theorem adM_C {w : World} {A : Option Addr} {ps : List PartV} (h : Kd.C k53 w A ps.length ps) (m : Nat) (hm : m ≤ ps.length) (hp : m < ps.length ∨ m = 0) : Kd.C k53 w (adM A m) (ps.drop m).length (ps.drop m) := by
  unfold adM
  by_cases h0 : m = 0
  · subst h0; rw [if_pos rfl]; exact h
  · have hd := Kd.C_drop (c := ps.length) h hm (Nat.le_refl _)
    rw [if_neg (by omega)] at hd
    rw [if_neg h0]
    exact hd
theorem adM_next {A : Option Addr} {ad : Addr} {m : Nat} (h : adM A m = some ad) : adM A (m + 1) = some ⟨ad.block, ad.off + 3, none⟩ := by
  have e : ∀ a : Addr, a.add 3 = ⟨a.block, a.off + 3, none⟩ := fun a => by simp [Addr.add]
  unfold adM at h ⊢
  rw [if_neg (Nat.succ_ne_zero m)]
  by_cases h0 : m = 0
  · subst h0
    rw [if_pos rfl] at h
    rw [h, ← e]
    simp
  · rw [if_neg h0] at h
    obtain ⟨a, ha, rfl⟩ := Option.map_eq_some_iff.1 h
    rw [ha, ← e, add_add a (m * 3) 3, show m * 3 + 3 = (m + 1) * 3 by omega]
    rfl
theorem cutN_step {ps : List PartV} {addr : Int} {f m : Nat} (h : m + 1 < ps.length ∧ (ps.getD (m + 1) part0).first ≤ addr) : cutN ps addr (f + 1) m = cutN ps addr f (m + 1) := by rw [cutN, if_pos h]
theorem cutN_stop {ps : List PartV} {addr : Int} {f m : Nat} (h : ¬ (m + 1 < ps.length ∧ (ps.getD (m + 1) part0).first ≤ addr)) : cutN ps addr f m = m := by
  cases f with
  | zero => rfl
  | succ f => rw [cutN, if_neg h]
/-- How long the slice in a cell is. -/
def lenOf : Option Value → Nat
  | some (.slice _ n _) => n
  | _ => 0
/-- Between two rounds of Cut's loop. -/
structure CutI (ow addr : Int) (ps : List PartV) (A : Option Addr) (c : Nat) (W w : World) (m L c' : Nat) : Prop where
  len : L = ps.length - m
  cap : c' = c - m
  room : m < ps.length ∨ m = 0
  cut : cutN ps addr L m = cutN ps addr ps.length 0
  out : w.heap[W.heap.size + 1]? = some (.cells #[.int .i64 ow, .int .i64 addr, .slice (adM A m) L c'] 27 (0, 0))
  err : w.heap[W.heap.size + 1 + 1]? = some (.cells #[.int .i64 0] 37 (0, 0))
  row : Kd.R k53 53 w 0 (fun k => W.heap.size ≤ k) (.slice A ps.length c) ps
  below : Below W.heap.size W w
set_option maxHeartbeats 6400000 in
set_option maxRecDepth 100000 in
theorem cut_c (ow tr n addr : Int) (A : Option Addr) (c : Nat) (ps : List PartV) (W : World) (hr : Kd.C k53 W A ps.length ps) (hl : ps.length * 40 ≤ 140737488355328) (hn : ∀ p ∈ ps, p.nodes.length * 8 ≤ 140737488355328) :
    Calls Try.prog 22 #[.agg #[.int .i64 ow, .int .i64 tr, .slice A ps.length c], .int .i64 n, .int .i64 addr] W (CutP ow tr ps n addr W) := by
  have hmf : ∀ (fn : Fn) (first cap : Array Value) (w : World), (Instr.makeFunc fn first cap).run Try.prog w = .ok (.func fn first cap) w := fun _ _ _ _ => rfl
  obtain ⟨o1, ho1⟩ : ∃ o1 : Obj, o1 = .cells #[.int .i64 ow, .int .i64 tr, .slice A ps.length c] 27 (0, 0) := ⟨_, rfl⟩
  obtain ⟨o3, ho3⟩ : ∃ o3 : Obj, o3 = .cells #[.int .i64 0, .int .i64 0, .slice none 0 0] 27 (0, 0) := ⟨_, rfl⟩
  obtain ⟨o4, ho4⟩ : ∃ o4 : Obj, o4 = .cells #[.int .i64 0] 37 (0, 0) := ⟨_, rfl⟩
  have e1 : (W.alloc o1).heap.size = W.heap.size + 1 := Array.size_push _
  have e2 : ((W.alloc o1).alloc o3).heap.size = W.heap.size + 1 + 1 := by rw [← e1]; exact Array.size_push _
  have b1 := blk_alloc (blk_alloc (heap_alloc_new W o1) o3) o4
  have b3 := blk_alloc (heap_alloc_new (W.alloc o1) o3) o4
  rw [e1] at b3
  have b4 := heap_alloc_new ((W.alloc o1).alloc o3) o4
  rw [e2] at b4
  have hb := below_alloc (below_alloc (below_alloc (Below.refl W.heap.size W) o1) o3) o4
  have BC := Aside0.mk b1
  have BO := Aside0.mk b3
  have BE := Aside0.mk b4
  have HB := Aside0.mk hb
  have HR := Aside0.mk hr
  subst ho1 ho3 ho4
  clear b1 b3 b4 e1 e2 hb hr
  go_enter_defers Try.func22, Try.ntmps22
  go_wp2_with fail
  refine (right_c ow tr n A c ps _ (Kd.C_below HR.out HB.out)).mono ?_
  rintro e W1 ⟨⟨hr1, rfl⟩ | ⟨hr1, rfl⟩, bel⟩
  rotate_left
  · have BO1 := blk_below BO.out bel
    have BE1 := blk_below BE.out bel
    exact door22 BO1 BE1 (by omega) (by omega) (by omega) (below_step HB.out bel) rfl rfl (by rw [cutErr, if_pos hr1]) (by decide)
  have BC1 := Aside0.mk (blk_below BC.out bel)
  have BO1 := Aside0.mk (blk_below BO.out bel)
  have BE1 := Aside0.mk (blk_below BE.out bel)
  have HB1 := Aside0.mk (below_step HB.out bel)
  have HR1 := Aside0.mk hr1
  have HHN := Aside0.mk hn
  have x0 : W1.cell? ⟨W.heap.size, 0, none⟩ = some (.int .i64 ow) := (blk_cell BC1.out 0).trans rfl
  have x1 : W1.cell? ⟨W.heap.size, 1, none⟩ = some (.int .i64 tr) := (blk_cell BC1.out 1).trans rfl
  have x2 : W1.cell? ⟨W.heap.size, 2, none⟩ = some (.slice A ps.length c) := (blk_cell BC1.out 2).trans rfl
  clear BC BO BE HB bel hr1 hn
  by_cases q1 : tr ≤ addr
  rotate_left
  · have hx := Aside0.mk (show cutErr ow tr ps n addr = 1 by rw [cutErr, if_neg (by rw [HR1.out]; simp), if_pos (fun h => q1 h.1)])
    have hq : decide (tr ≤ addr) = false := decide_eq_false q1
    clear q1
    go_wp2_with fail
    refine (demand_no 1 _).mono ?_
    rintro e w2 ⟨rfl, rfl⟩
    exact door22 BO1.out BE1.out (by omega) (by omega) (by omega) HB1.out rfl rfl hx.out (by decide)
  go_wp2_with fail
  refine (last_c ow tr A c ps W1 (Kd.C_below HR.out HB1.out)).mono ?_
  rintro e w2 ⟨rfl, hb2⟩
  have BO2 := Aside0.mk (blk_below BO1.out hb2)
  have BE2 := Aside0.mk (blk_below BE1.out hb2)
  have BC2 := Aside0.mk (blk_below BC1.out hb2)
  have HB2 := Aside0.mk (below_step HB1.out hb2)
  have y0 : w2.cell? ⟨W.heap.size, 0, none⟩ = some (.int .i64 ow) := (blk_cell BC2.out 0).trans rfl
  have y1 : w2.cell? ⟨W.heap.size, 1, none⟩ = some (.int .i64 tr) := (blk_cell BC2.out 1).trans rfl
  have y2 : w2.cell? ⟨W.heap.size, 2, none⟩ = some (.slice A ps.length c) := (blk_cell BC2.out 2).trans rfl
  clear BC1 BO1 BE1 HB1 hb2 x0 x1 x2
  obtain ⟨lf, hlf⟩ : ∃ lf, lastF ps = lf := ⟨_, rfl⟩
  have HLF := Aside0.mk hlf
  simp only [hlf]
  clear hlf
  by_cases q2 : addr ≤ lf
  rotate_left
  · have hx := Aside0.mk (show cutErr ow tr ps n addr = 1 by rw [cutErr, if_neg (by rw [HR1.out]; simp), if_pos (fun h => q2 (by rw [← HLF.out]; exact h.2))])
    have hq : decide (addr ≤ lf) = false := decide_eq_false q2
    clear q2
    go_wp2_with fail
    refine (demand_no 1 _).mono ?_
    rintro e w3 ⟨rfl, rfl⟩
    exact door22 BO2.out BE2.out (by omega) (by omega) (by omega) HB2.out rfl rfl hx.out (by decide)
  have hx := Aside0.mk (show cutErr ow tr ps n addr = 0 by rw [cutErr, if_neg (by rw [HR1.out]; simp), if_neg (fun h => h ⟨q1, by rw [HLF.out]; exact q2⟩)])
  have hq : decide (addr ≤ lf) = true := decide_eq_true q2
  clear q2
  go_wp2_with fail
  refine (demand_ok 1 _).mono ?_
  rintro e w3 ⟨rfl, rfl⟩
  go_wp2_with fail
  refine (cown_c ow tr A none c 0 ps [] w2 (Kd.C_below HR.out HB2.out) (Kd.C_nil _ _) (by simpa using hl) (by rw [List.append_nil]; exact HHN.out)).mono ?_
  rintro e W2 ⟨A2, c3, rfl, hR2, hb2⟩
  rw [List.append_nil, List.length_nil, Nat.add_zero] at hR2
  simp only [List.length_nil, Nat.add_zero]
  have bo2 := blk_below BO2.out hb2
  have be2 := blk_below BE2.out hb2
  have HB3 := Aside0.mk (below_step HB2.out hb2)
  have HR2 := Aside0.mk (Kd.R_mono (ok' := fun k => W.heap.size ≤ k) hR2 (fun k hk => Nat.le_trans HB2.out.size hk))
  have z0 : W2.cell? ⟨W.heap.size + 1, 0, none⟩ = some (.int .i64 0) := (blk_cell bo2 0).trans rfl
  have z1 : W2.cell? ⟨W.heap.size + 1, 1, none⟩ = some (.int .i64 0) := (blk_cell bo2 1).trans rfl
  have z2 : W2.cell? ⟨W.heap.size + 1, 2, none⟩ = some (.slice none 0 0) := (blk_cell bo2 2).trans rfl
  have f0 := blk_frozen bo2 0
  have f1 := blk_frozen bo2 1
  have f2 := blk_frozen bo2 2
  have k3 := put3 (x := .int .i64 ow) (y := .int .i64 tr) (z := .slice A2 ps.length c3) bo2
  have BO3 := Aside0.mk (blk_put k3 1 (.int .i64 addr) rfl)
  have HI := Aside0.mk (show CutI ow addr ps A2 c3 W ((((W2.setCell ⟨W.heap.size + 1, 0, none⟩ (.int .i64 ow)).setCell ⟨W.heap.size + 1, 1, none⟩ (.int .i64 tr)).setCell ⟨W.heap.size + 1, 2, none⟩ (.slice A2 ps.length c3)).setCell ⟨W.heap.size + 1, 1, none⟩ (.int .i64 addr)) 0 ps.length c3 from
    ⟨rfl, rfl, .inr rfl, rfl, BO3.out, (Below.heap_setCell _ _ _ _ (by intro e; simp only at e; omega)).trans ((Below.heap_setCell _ _ _ _ (by intro e; simp only at e; omega)).trans ((Below.heap_setCell _ _ _ _ (by intro e; simp only at e; omega)).trans ((Below.heap_setCell _ _ _ _ (by intro e; simp only at e; omega)).trans be2))),
      Kd.R_set (put3_R HR2.out bo2 (by decide)) k3 (by decide) 1 _, (put3_B HB3.out (by omega)).setCell (p := ⟨W.heap.size + 1, 1, none⟩) (by simp only; omega) _⟩)
  have hc3 := (Kd.R_reads' hR2).2.1
  have BE3 := Aside0.mk be2
  clear y0 y1 y2 hb2 bo2 be2 hR2 BO2 BE2 BC2 HB2 k3 BO3 BE3 HR2 HB3
  go_wp2_with fail
  go_loopw [27] (fun u27 wr => ∃ m L c' : Nat, CutI ow addr ps A2 c3 W wr m L c') (fun u27 wr => lenOf (wr.cell? ⟨W.heap.size + 1, 2, none⟩))
  case atStart => exact ⟨0, _, _, HI.out⟩
  case round =>
    obtain ⟨m, L, c', HJ⟩ := hrel
    have HJJ := Aside0.mk HJ
    have hL := HJ.len
    have hcp := HJ.cap
    have fz2 := blk_frozen HJ.out 2
    have hrm := HJ.room
    have hout := HJ.out
    have v0 : wr.cell? ⟨W.heap.size + 1, 0, none⟩ = some (.int .i64 ow) := (blk_cell hout 0).trans rfl
    have v1 : wr.cell? ⟨W.heap.size + 1, 1, none⟩ = some (.int .i64 addr) := (blk_cell hout 1).trans rfl
    have v2 : wr.cell? ⟨W.heap.size + 1, 2, none⟩ = some (.slice (adM A2 m) L c') := (blk_cell hout 2).trans rfl
    have hrow := (Kd.R_reads' HJ.row).2.2
    clear HI z0 z1 z2 f0 f1 f2
    by_cases hm1 : m + 1 < ps.length
    · have hC := adM_C hrow m (by omega) (.inl (by omega))
      have hdl : (ps.drop m).length = L := by rw [List.length_drop]; omega
      obtain ⟨ad, A5, c5, hA5, -, -, hcc⟩ := part_cells hC 1 (by omega)
      obtain ⟨p0, -, -⟩ := hcc wr (Below.refl _ _)
      have hg : (ps.drop m)[1].first = (ps.getD (m + 1) part0).first := by
        rw [List.getElem_drop, List.getD_eq_getElem?_getD, List.getElem?_eq_getElem hm1]; rfl
      rw [hg] at p0
      have p0' : wr.cell? ⟨ad.block, ad.off + 3, none⟩ = some (.int .i64 (ps.getD (m + 1) part0).first) := by simpa [Addr.add] using p0
      rw [hA5] at v2
      have hd1 : decide ((1 : Int) < (L : Int)) = true := decide_eq_true (by omega)
      have hd2 : (1 : Int) < (L : Int) := by omega
      obtain ⟨f, hf⟩ : ∃ f, (ps.getD (m + 1) part0).first = f := ⟨_, rfl⟩
      rw [hf] at p0 p0'
      by_cases hfa : f ≤ addr
      · have hst := cutN_step (ps := ps) (addr := addr) (f := L - 1) (m := m) ⟨hm1, by rw [hf]; exact hfa⟩
        rw [show L - 1 + 1 = L by omega, HJ.cut] at hst
        have HST := Aside0.mk hst
        have HF := Aside0.mk hf
        have HAD := Aside0.mk hA5
        have HOUT := Aside0.mk hout
        have hcc1 : decide (c' = 1) = false := decide_eq_false (by omega)
        have hcL : L ≤ c' := by omega
        have hL1 : 1 < L := by omega
        have HLL := Aside0.mk hL
        have HCP := Aside0.mk hcp
        clear hL hcp hst hf hA5 hcc hg hdl hC hrow HJ hout
        go_wp2_with fail
        refine ⟨⟨m + 1, L - 1, c' - 1, ?_⟩, ?_⟩
        · have hl2 := HLL.out
          have hc2 := HCP.out
          exact ⟨by omega, by omega, .inl hm1, HST.out.symm, by rw [adM_next HAD.out]; exact blk_put HOUT.out 2 _ rfl, (Below.heap_setCell _ _ _ _ (by intro e; simp only at e; omega)).trans HJJ.out.err, Kd.R_set HJJ.out.row HOUT.out (by decide) 2 _, HJJ.out.below.setCell (p := ⟨W.heap.size + 1, 2, none⟩) (by simp only; omega) _⟩
        · rw [v2]
          rw [show (wr.setCell ⟨W.heap.size + 1, 2, none⟩ (.slice (some ⟨ad.block, ad.off + 3, none⟩) (L - 1) (c' - 1))).cell? ⟨W.heap.size + 1, 2, none⟩ = some (.slice (some ⟨ad.block, ad.off + 3, none⟩) (L - 1) (c' - 1)) from (blk_cell (blk_put HOUT.out 2 _ rfl) 2).trans rfl]
          show L - 1 < L
          omega
      · have hst := cutN_stop (ps := ps) (addr := addr) (f := L) (m := m) (fun h => hfa (by rw [← hf]; exact h.2))
        have HST := Aside0.mk hst
        have HLL := Aside0.mk hL
        have HCP := Aside0.mk hcp
        have HAD := Aside0.mk hA5
        have w3_ : wr.cell? ⟨W.heap.size + 1 + 1, 0, none⟩ = some (.int .i64 0) := (blk_cell HJ.err 0).trans rfl
        have fz0 := blk_frozen HJ.out 0
        have fz1 := blk_frozen HJ.out 1
        have fz3 := blk_frozen HJ.err 0
        clear hL hcp hst hA5 hrow HJ hout hcc hg hdl hC hf
        go_wp2_with fail
        have hk := put3 (x := .int .i64 ow) (y := .int .i64 addr) (z := .slice (adM A2 m) L c') HJJ.out.out
        rw [← HAD.out]
        have hR4 := Kd.R_set (put3_R (x := .int .i64 ow) (y := .int .i64 addr) (z := .slice (adM A2 m) L c') HJJ.out.row HJJ.out.out (by decide)) ((Below.heap_setCell _ _ _ _ (by intro e; simp only at e; omega)).trans ((Below.heap_setCell _ _ _ _ (by intro e; simp only at e; omega)).trans ((Below.heap_setCell _ _ _ _ (by intro e; simp only at e; omega)).trans HJJ.out.err))) (by decide) 0 (.int .i64 0)
        refine door22ok (L := L) (c3 := c') (xs := ps.drop m) ((Below.heap_setCell _ _ _ _ (by intro e; simp only at e; omega)).trans hk) (blk_put ((Below.heap_setCell _ _ _ _ (by intro e; simp only at e; omega)).trans ((Below.heap_setCell _ _ _ _ (by intro e; simp only at e; omega)).trans ((Below.heap_setCell _ _ _ _ (by intro e; simp only at e; omega)).trans HJJ.out.err))) 0 (.int .i64 0) rfl) ((put3_B HJJ.out.below (by omega)).setCell (p := ⟨W.heap.size + 1 + 1, 0, none⟩) (by simp only; omega) _) rfl rfl hx.out (by rw [cutParts, ← HJJ.out.cut, HST.out]) (by rw [List.length_drop]; exact HLL.out) (by have h1 := HLL.out; have h2 := HCP.out; omega) (adM_C (Kd.R_reads' hR4).2.2 m (by omega) (by omega))
    · have hst := cutN_stop (ps := ps) (addr := addr) (f := L) (m := m) (fun h => hm1 h.1)
      have hd1 : decide ((1 : Int) < (L : Int)) = false := decide_eq_false (by omega)
      obtain ⟨Ad, hA5⟩ : ∃ Ad, adM A2 m = Ad := ⟨_, rfl⟩
      rw [hA5] at v2
      have HST := Aside0.mk hst
      have HLL := Aside0.mk hL
      have HCP := Aside0.mk hcp
      have HAD := Aside0.mk hA5
      have w3_ : wr.cell? ⟨W.heap.size + 1 + 1, 0, none⟩ = some (.int .i64 0) := (blk_cell HJ.err 0).trans rfl
      have fz0 := blk_frozen HJ.out 0
      have fz1 := blk_frozen HJ.out 1
      have fz3 := blk_frozen HJ.err 0
      clear hL hcp hst hA5 hrow HJ hout 
      go_wp2_with fail
      have hk := put3 (x := .int .i64 ow) (y := .int .i64 addr) (z := .slice (adM A2 m) L c') HJJ.out.out
      rw [← HAD.out]
      have hR4 := Kd.R_set (put3_R (x := .int .i64 ow) (y := .int .i64 addr) (z := .slice (adM A2 m) L c') HJJ.out.row HJJ.out.out (by decide)) ((Below.heap_setCell _ _ _ _ (by intro e; simp only at e; omega)).trans ((Below.heap_setCell _ _ _ _ (by intro e; simp only at e; omega)).trans ((Below.heap_setCell _ _ _ _ (by intro e; simp only at e; omega)).trans HJJ.out.err))) (by decide) 0 (.int .i64 0)
      refine door22ok (L := L) (c3 := c') (xs := ps.drop m) ((Below.heap_setCell _ _ _ _ (by intro e; simp only at e; omega)).trans hk) (blk_put ((Below.heap_setCell _ _ _ _ (by intro e; simp only at e; omega)).trans ((Below.heap_setCell _ _ _ _ (by intro e; simp only at e; omega)).trans ((Below.heap_setCell _ _ _ _ (by intro e; simp only at e; omega)).trans HJJ.out.err))) 0 (.int .i64 0) rfl) ((put3_B HJJ.out.below (by omega)).setCell (p := ⟨W.heap.size + 1 + 1, 0, none⟩) (by simp only; omega) _) rfl rfl hx.out (by rw [cutParts, ← HJJ.out.cut, HST.out]) (by rw [List.length_drop]; exact HLL.out) (by have h1 := HLL.out; have h2 := HCP.out; omega) (adM_C (Kd.R_reads' hR4).2.2 m (by omega) (by omega))
end Go.Proofs.Ytpcoelimabojcaa.Hand
