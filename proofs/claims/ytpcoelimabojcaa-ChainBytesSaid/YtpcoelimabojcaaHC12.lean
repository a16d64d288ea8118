/- Extend. -/
import Derived.Test.YtpcoelimabojcaaHC11
import Derived.Deep.CutRange
namespace Go.Proofs.Ytpcoelimabojcaa.Hand
open Go.RowKit Go.Proofs.Ytpcoelimabojcaa Go.Proofs.YtpcoelimabojcaaW.PrintWords Go.Proofs.YtpcoelimabojcaaW.PrintLast
set_option linter.unusedVariables false
set_option linter.unusedSimpArgs false
/-- The chain that Extend makes, if it does: its parts. -/
def extParts (tr : Int) (ps : List PartV) (en : Int) (nx : PartV) : List PartV :=
  (if 0 < ps.length ∧ (lastF ps = en ∨ ps.length = 1 ∧ tr = en) then ps.take (ps.length - 1) else ps) ++ [nx]
/-- Extend's error. -/
def extErr (ow tr : Int) (ps : List PartV) (n owner en : Int) (nx : PartV) : Int :=
  if rightF ow tr ps n = false then 1
  else if ¬ (ps.length < 64 ∨ 0 < ps.length ∧ lastF ps = en) then 7
  else if ¬ (if ps.length = 0 then en = 0 else max (lastF ps) tr ≤ en ∧ en ≤ lastF ps + 4096) then 1
  else if rightF owner tr (extParts tr ps en nx) n = false then 1 else 0
/-- What Extend leaves. -/
def ExtP (ow tr : Int) (ps : List PartV) (n owner en : Int) (nx : PartV) (W : World) (e : Ending) (W' : World) : Prop :=
  Below W.heap.size W W' ∧ ((extErr ow tr ps n owner en nx ≠ 0 ∧ e = .returned (.tuple #[.agg #[.int .i64 0, .int .i64 0, .slice none 0 0], .int .i64 (extErr ow tr ps n owner en nx)])) ∨
    (extErr ow tr ps n owner en nx = 0 ∧ ∃ A c, e = .returned (.tuple #[.agg #[.int .i64 owner, .int .i64 tr, .slice A (extParts tr ps en nx).length c], .int .i64 0]) ∧ Kd.R k53 53 W' 0 (fun k => W.heap.size ≤ k) (.slice A (extParts tr ps en nx).length c) (extParts tr ps en nx)))
theorem lastF_in {ow tr n : Int} {ps : List PartV} (h : rightF ow tr ps n = true) (hp : 0 < ps.length) : 0 ≤ lastF ps ∧ lastF ps < 281474976710656 := by
  simp only [rightF, Bool.and_eq_true] at h
  have h2 := rightAt_in h.2.1 (show ps.length - 1 < ps.length by omega)
  have e1 : lastF ps = (ps.getD (ps.length - 1) part0).first := by
    unfold lastF
    rw [List.getLast?_eq_getElem?, List.getD_eq_getElem?_getD, List.getElem?_eq_getElem (show ps.length - 1 < ps.length by omega)]
    rfl
  rwa [e1]
theorem leaves_tmps {P : Program} {fn : Func} {t t' : Array Value} {R : Ending → World → Prop} (h : ∀ w, (results fn t).run P w = (results fn t').run P w) : ∀ (ds : List Deferred) (u : FrameMode) (w : World), Leaves P fn t R ds u w → Leaves P fn t' R ds u w
  | [], .returning, w, hl => by
    obtain ⟨v, h1, h2⟩ := hl
    exact ⟨v, (h w).symm.trans h1, h2⟩
  | [], .panicking _, w, hl => hl
  | [], .run, w, hl => hl
  | d :: ds, u, w, hl => by
    obtain ⟨hu, fv, cap, f, args, h1, h2, h3⟩ := hl
    refine ⟨hu, fv, cap, f, args, h1, h2, h3.mono ?_⟩
    intro e u' w' he
    cases e with
    | returned v => exact leaves_tmps h ds _ _ he
    | panicked ch => exact leaves_tmps h ds _ _ he
    | outgrown => exact he
theorem put16 {R : Ending → World → Prop} {K : Act → World → Prop} {ch : List PanicEntry} {a : Act} {v : Value} {w : World} (N : Nat) (hN : N ≠ 10 ∧ N ≠ 11) (h : Exit.then K (bodyPostD Try.prog Try.f16 R) (.panic ch) (a.put (some N) v) w) : Exit.then K (bodyPostD Try.prog Try.f16 R) (.panic ch) a w := by
  refine leaves_tmps (t := (a.put (some N) v).tmps) (fun w => ?_) _ _ _ h
  show (results Try.f16 (a.tmps.setIfInBounds N v)).run Try.prog w = _
  simp [results, Try.results16, go_sem, Array.getElem?_setIfInBounds, hN.1, hN.2]
def TE8 : Bool × List (List Nat × List Nat) := (true, [([], []), ([], []), ([1], [1]), ([], []), ([3], [3]), ([2, 4], [2, 4]), ([0, 5], [0, 5]), ([6, 2], [6]), ([7], [7]), ([7], [7]), ([9, 7, 7], [7, 9]), ([10, 7], [7, 10]), ([8, 11, 7], [7, 8, 11]), ([7, 12], [7, 12]), ([13, 10], [13])])
def BE8 : List Nat := [0, 0, 2, 0, 8, 30, 63, 127, 255, 255, 767, 1791, 4095, 8191, 16383]
theorem tabE8 : rtab .any (opsOf Try.f16 8) = TE8 := by kernel_rfl
theorem bitsE8 : waitsOk TE8.2 BE8 = true := by kernel_rfl
/-- Where Extend ends well. -/
theorem door16ok {ow tr n owner en : Int} {ps xs : List PartV} {nx : PartV} {W w : World} {g h L c3 : Nat} {A2 : Option Addr} {t : Array Value} (hO : w.heap[g]? = some (.cells #[.int .i64 owner, .int .i64 tr, .slice A2 L c3] 27 (0, 0))) (hE : w.heap[h]? = some (.cells #[.int .i64 0] 37 (0, 0))) (hB : Below W.heap.size W w)
    (t10 : t.getD 10 undef = .pointer (some ⟨g, 0, none⟩)) (t11 : t.getD 11 undef = .pointer (some ⟨h, 0, none⟩)) (herr : extErr ow tr ps n owner en nx = 0) (hp : extParts tr ps en nx = xs) (hL : L = xs.length) (hR : Kd.R k53 53 w 0 (fun k => W.heap.size ≤ k) (.slice A2 L c3) xs) :
    bodyPostD Try.prog Try.f16 (ExtP ow tr ps n owner en nx W) .ret { tmps := t, defers := [{ target := .fn (.func 33) #[.pointer (some ⟨g, 0, none⟩), .pointer (some ⟨h, 0, none⟩)], args := #[] }] } w := by
  subst hL
  subst hp
  refine leaves_cons (f := 33) (args := #[.pointer (some ⟨g, 0, none⟩), .pointer (some ⟨h, 0, none⟩)]) (by simp) (by simp [go_sem]) ?_
  refine (idle33 ⟨g, 0, none⟩ ⟨h, 0, none⟩ w).mono ?_
  rintro e u' w'' ⟨rfl, rfl, rfl⟩
  have r0 : w''.cell? ⟨g, 0, none⟩ = some (.int .i64 owner) := (blk_cell hO 0).trans rfl
  have r1 : w''.cell? ⟨g, 1, none⟩ = some (.int .i64 tr) := (blk_cell hO 1).trans rfl
  have r2 : w''.cell? ⟨g, 2, none⟩ = some (.slice A2 (extParts tr ps en nx).length c3) := (blk_cell hO 2).trans rfl
  have r3 : w''.cell? ⟨h, 0, none⟩ = some (.int .i64 0) := (blk_cell hE 0).trans rfl
  refine ⟨.tuple #[.agg #[.int .i64 owner, .int .i64 tr, .slice A2 (extParts tr ps en nx).length c3], .int .i64 0], ?_, hB, .inr ⟨herr, A2, c3, rfl, hR⟩⟩
  rw [Array.getD_eq_getD_getElem?] at t10 t11
  simp [results, Try.results16, go_sem, t10, t11, r0, r1, r2, r3]
theorem C_one {W : World} {q : Nat} {f id : Int} {B : Option Addr} {nl : List Int} {c2 : Nat} {fz : Nat × Nat} (h : W.heap[q]? = some (.cells #[.int .i64 f, .int .i64 id, .slice B nl.length c2] 53 fz)) (hc2 : nl.length ≤ c2) (hn : Kd.C (Kd.int .i64) W B nl.length nl) : Kd.C k53 W (some ⟨q, 0, none⟩) 1 [⟨f, id, nl⟩] := by
  refine ⟨rfl, by decide, fun _ => ⟨_, rfl, fun j p hj => ?_⟩⟩
  match j, hj with
  | 0, hj =>
    simp at hj
    subst hj
    refine ⟨_, rfl, k53_mk (x := ⟨f, id, nl⟩) hc2 hn, fun i u hu => ?_⟩
    match i, hu with
    | 0, hu => simp at hu; subst hu; simp [World.cell?, h, Addr.add]
    | 1, hu => simp at hu; subst hu; simp [World.cell?, h, Addr.add]
    | 2, hu => simp at hu; subst hu; simp [World.cell?, h, Addr.add]
    | i + 3, hu => simp at hu
/-- Where Extend gives up. -/
theorem door16 {ow tr n owner en : Int} {ps : List PartV} {nx : PartV} {W w : World} {g h : Nat} {x y z : Value} {e0 ev : Int} {t : Array Value} (hO : w.heap[g]? = some (.cells #[x, y, z] 27 (0, 0))) (hE : w.heap[h]? = some (.cells #[.int .i64 e0] 37 (0, 0))) (hgh : g ≠ h) (hg : W.heap.size ≤ g) (hh : W.heap.size ≤ h) (hB : Below W.heap.size W w)
    (t10 : t.getD 10 undef = .pointer (some ⟨g, 0, none⟩)) (t11 : t.getD 11 undef = .pointer (some ⟨h, 0, none⟩)) (herr : extErr ow tr ps n owner en nx = ev) (hne : ev ≠ 0) :
    bodyPostD Try.prog Try.f16 (ExtP ow tr ps n owner en nx W) (.panic [{ v := .iface 37 (.int .i64 ev), recovered := false }]) { tmps := t, defers := [{ target := .fn (.func 33) #[.pointer (some ⟨g, 0, none⟩), .pointer (some ⟨h, 0, none⟩)], args := #[] }] } w := by
  refine leaves_cons (f := 33) (args := #[.pointer (some ⟨g, 0, none⟩), .pointer (some ⟨h, 0, none⟩)]) (by simp) (by simp [go_sem]) ?_
  refine (catch33 g h x y z e0 ev [] w hO hE hgh).mono ?_
  rintro e u' w'' ⟨rfl, rfl, h1, h2, h3⟩
  have r0 : w''.cell? ⟨g, 0, none⟩ = some (.int .i64 0) := (blk_cell h1 0).trans rfl
  have r1 : w''.cell? ⟨g, 1, none⟩ = some (.int .i64 0) := (blk_cell h1 1).trans rfl
  have r2 : w''.cell? ⟨g, 2, none⟩ = some (.slice none 0 0) := (blk_cell h1 2).trans rfl
  have r3 : w''.cell? ⟨h, 0, none⟩ = some (.int .i64 ev) := (blk_cell h2 0).trans rfl
  refine ⟨.tuple #[.agg #[.int .i64 0, .int .i64 0, .slice none 0 0], .int .i64 ev], ?_, ?_⟩
  · rw [Array.getD_eq_getD_getElem?] at t10 t11
    simp [results, Try.results16, go_sem, t10, t11, r0, r1, r2, r3]
  · exact ⟨hB.trans (h3 _ hg hh hB.size), .inl ⟨by rw [herr]; exact hne, by rw [herr]⟩⟩
set_option maxHeartbeats 6400000 in
set_option maxRecDepth 100000 in
theorem extend_c (ow tr n owner en id : Int) (A B : Option Addr) (c c2 : Nat) (ps : List PartV) (nl : List Int) (W : World) (hr : Kd.C k53 W A ps.length ps) (hq : Kd.C (Kd.int .i64) W B nl.length nl) (hc : ps.length ≤ c) (hc2 : nl.length ≤ c2) (hl : (ps.length + 1) * 40 ≤ 140737488355328) (hn : ∀ p ∈ ps, p.nodes.length * 8 ≤ 140737488355328) (hnl : nl.length * 8 ≤ 140737488355328) :
    Calls Try.prog 16 #[.agg #[.int .i64 ow, .int .i64 tr, .slice A ps.length c], .int .i64 n, .int .i64 owner, .int .i64 en, .agg #[.int .i64 id, .slice B nl.length c2]] W (ExtP ow tr ps n owner en ⟨en, id, nl⟩ W) := by
  have hmf : ∀ (fn : Fn) (first cap : Array Value) (w : World), (Instr.makeFunc fn first cap).run Try.prog w = .ok (.func fn first cap) w := fun _ _ _ _ => rfl
  obtain ⟨o1, ho1⟩ : ∃ o1 : Obj, o1 = .cells #[.int .i64 ow, .int .i64 tr, .slice A ps.length c] 27 (0, 0) := ⟨_, rfl⟩
  obtain ⟨o2, ho2⟩ : ∃ o2 : Obj, o2 = .cells #[.int .i64 id, .slice B nl.length c2] 41 (0, 0) := ⟨_, rfl⟩
  obtain ⟨o3, ho3⟩ : ∃ o3 : Obj, o3 = .cells #[.int .i64 0, .int .i64 0, .slice none 0 0] 27 (0, 0) := ⟨_, rfl⟩
  obtain ⟨o4, ho4⟩ : ∃ o4 : Obj, o4 = .cells #[.int .i64 0] 37 (0, 0) := ⟨_, rfl⟩
  have e1 : (W.alloc o1).heap.size = W.heap.size + 1 := Array.size_push _
  have e2 : ((W.alloc o1).alloc o2).heap.size = W.heap.size + 1 + 1 := by rw [← e1]; exact Array.size_push _
  have e3 : (((W.alloc o1).alloc o2).alloc o3).heap.size = W.heap.size + 1 + 1 + 1 := by rw [← e2]; exact Array.size_push _
  have b1 := blk_alloc (blk_alloc (blk_alloc (heap_alloc_new W o1) o2) o3) o4
  have b2 := blk_alloc (blk_alloc (heap_alloc_new (W.alloc o1) o2) o3) o4
  rw [e1] at b2
  have b3 := blk_alloc (heap_alloc_new ((W.alloc o1).alloc o2) o3) o4
  rw [e2] at b3
  have b4 := heap_alloc_new (((W.alloc o1).alloc o2).alloc o3) o4
  rw [e3] at b4
  have hb := below_alloc (below_alloc (below_alloc (below_alloc (Below.refl W.heap.size W) o1) o2) o3) o4
  have BC := Aside0.mk b1
  have BN := Aside0.mk b2
  have BO := Aside0.mk b3
  have BE := Aside0.mk b4
  have HB := Aside0.mk hb
  have HR := Aside0.mk hr
  have HQ := Aside0.mk hq
  subst ho1 ho2 ho3 ho4
  clear b1 b2 b3 b4 e1 e2 e3 hb hr hq
  go_enter_defers Try.func16, Try.ntmps16
  go_wp2_with fail
  refine (right_c ow tr n A c ps _ (Kd.C_below HR.out HB.out)).mono ?_
  rintro e W1 ⟨⟨hr1, rfl⟩ | ⟨hr1, rfl⟩, bel⟩
  rotate_left
  · have BO1 := blk_below BO.out bel
    have BE1 := blk_below BE.out bel
    exact door16 BO1 BE1 (by omega) (by omega) (by omega) (below_step HB.out bel) rfl rfl (by rw [extErr, if_pos hr1]) (by decide)
  have BC1 := Aside0.mk (blk_below BC.out bel)
  have BN1 := Aside0.mk (blk_below BN.out bel)
  have BO1 := Aside0.mk (blk_below BO.out bel)
  have BE1 := Aside0.mk (blk_below BE.out bel)
  have HB1 := Aside0.mk (below_step HB.out bel)
  have HR1 := Aside0.mk hr1
  have HHN := Aside0.mk hn
  have x0 : W1.cell? ⟨W.heap.size, 0, none⟩ = some (.int .i64 ow) := (blk_cell BC1.out 0).trans rfl
  have x1 : W1.cell? ⟨W.heap.size, 1, none⟩ = some (.int .i64 tr) := (blk_cell BC1.out 1).trans rfl
  have x2 : W1.cell? ⟨W.heap.size, 2, none⟩ = some (.slice A ps.length c) := (blk_cell BC1.out 2).trans rfl
  clear BC BN BO BE HB bel hr1 hn
  rcases Nat.eq_zero_or_pos ps.length with hz | hz
  · have hps : ps = [] := List.eq_nil_of_length_eq_zero hz
    subst hps
    have HPT := Aside0.mk (Kd.C_below HR.out HB1.out)
    by_cases q0 : en = 0
    · have hx := Aside0.mk (show extErr ow tr [] n owner en ⟨en, id, nl⟩ = (if rightF owner tr (extParts tr [] en ⟨en, id, nl⟩) n = false then 1 else 0) by
        rw [extErr, if_neg (by rw [HR1.out]; simp), if_neg (by simp), if_neg (by simp [q0])])
      have hp := Aside0.mk (show extParts tr [] en ⟨en, id, nl⟩ = [⟨en, id, nl⟩] by simp [extParts])
      have hd0 : (en == 0) = true := by simpa using q0
      have HQ0 := Aside0.mk q0
      clear q0
      go_wp2_with fail
      refine (demand_ok 7 _).mono ?_
      rintro e w2 ⟨rfl, rfl⟩
      go_wp2_with fail
      refine (demand_ok 1 _).mono ?_
      rintro e w2 ⟨rfl, rfl⟩
      have n0 : W1.cell? ⟨W.heap.size + 1, 0, none⟩ = some (.int .i64 id) := (blk_cell BN1.out 0).trans rfl
      have n1 : W1.cell? ⟨W.heap.size + 1, 1, none⟩ = some (.slice B nl.length c2) := (blk_cell BN1.out 1).trans rfl
      have HCP := Aside0.mk (C_one (heap_alloc_new W1 (.cells #[.int .i64 en, .int .i64 id, .slice B nl.length c2] 53 (0, 0))) hc2 (Kd.C_below (Kd.C_below HQ.out HB1.out) (below_alloc (Below.refl _ _) _)))
      have BOa := Aside0.mk (blk_alloc BO1.out (.cells #[.int .i64 en, .int .i64 id, .slice B nl.length c2] 53 (0, 0)))
      have BEa := Aside0.mk (blk_alloc BE1.out (.cells #[.int .i64 en, .int .i64 id, .slice B nl.length c2] 53 (0, 0)))
      have HBa := Aside0.mk (below_alloc HB1.out (.cells #[.int .i64 en, .int .i64 id, .slice B nl.length c2] 53 (0, 0)))
      have HPa := Aside0.mk (Kd.C_alloc HPT.out (.cells #[.int .i64 en, .int .i64 id, .slice B nl.length c2] 53 (0, 0)))
      have HLL := Aside0.mk (show (([] : List PartV).length + ([(⟨en, id, nl⟩ : PartV)]).length) * 40 ≤ 140737488355328 by simp)
      have HLN := Aside0.mk (show ∀ p ∈ ([] : List PartV) ++ [(⟨en, id, nl⟩ : PartV)], p.nodes.length * 8 ≤ 140737488355328 from fun p hp => by rw [List.nil_append, List.mem_singleton] at hp; rw [hp]; exact hnl)
      go_wp2_with fail
      refine (cown_c ow tr A (some ⟨W1.heap.size, 0, none⟩) c 1 (([] : List PartV)) [⟨en, id, nl⟩] _ HPa.out HCP.out HLL.out HLN.out).mono ?_
      rintro e W2 ⟨A2, c3, rfl, hR2, hb2⟩
      obtain ⟨L, hL⟩ : ∃ L, (([] : List PartV)).length + ([(⟨en, id, nl⟩ : PartV)]).length = L := ⟨_, rfl⟩
      rw [hL] at hR2
      have HL := Aside0.mk hL
      have bo2 := blk_below BOa.out hb2
      have be2 := blk_below BEa.out hb2
      have HB2 := Aside0.mk (below_step HBa.out hb2)
      have HR2 := Aside0.mk (Kd.R_mono (ok' := fun k => W.heap.size ≤ k) hR2 (fun k hk => Nat.le_trans HBa.out.size hk))
      have z0 : W2.cell? ⟨W.heap.size + 1 + 1, 0, none⟩ = some (.int .i64 0) := (blk_cell bo2 0).trans rfl
      have z1 : W2.cell? ⟨W.heap.size + 1 + 1, 1, none⟩ = some (.int .i64 0) := (blk_cell bo2 1).trans rfl
      have z2 : W2.cell? ⟨W.heap.size + 1 + 1, 2, none⟩ = some (.slice none 0 0) := (blk_cell bo2 2).trans rfl
      have f0 := blk_frozen bo2 0
      have f1 := blk_frozen bo2 1
      have f2 := blk_frozen bo2 2
      have k3 := put3 (x := .int .i64 ow) (y := .int .i64 tr) (z := .slice A2 L c3) bo2
      have k4 := blk_put k3 0 (.int .i64 owner) rfl
      have y' : (((W2.setCell ⟨W.heap.size + 1 + 1, 0, none⟩ (.int .i64 ow)).setCell ⟨W.heap.size + 1 + 1, 1, none⟩ (.int .i64 tr)).setCell ⟨W.heap.size + 1 + 1, 2, none⟩ (.slice A2 L c3)).cell? ⟨W.heap.size + 1 + 1, 0, none⟩ = some (.int .i64 ow) := (blk_cell k3 0).trans rfl
      have y0 : ((((W2.setCell ⟨W.heap.size + 1 + 1, 0, none⟩ (.int .i64 ow)).setCell ⟨W.heap.size + 1 + 1, 1, none⟩ (.int .i64 tr)).setCell ⟨W.heap.size + 1 + 1, 2, none⟩ (.slice A2 L c3)).setCell ⟨W.heap.size + 1 + 1, 0, none⟩ (.int .i64 owner)).cell? ⟨W.heap.size + 1 + 1, 0, none⟩ = some (.int .i64 owner) := (blk_cell k4 0).trans rfl
      have y1 : ((((W2.setCell ⟨W.heap.size + 1 + 1, 0, none⟩ (.int .i64 ow)).setCell ⟨W.heap.size + 1 + 1, 1, none⟩ (.int .i64 tr)).setCell ⟨W.heap.size + 1 + 1, 2, none⟩ (.slice A2 L c3)).setCell ⟨W.heap.size + 1 + 1, 0, none⟩ (.int .i64 owner)).cell? ⟨W.heap.size + 1 + 1, 1, none⟩ = some (.int .i64 tr) := (blk_cell k4 1).trans rfl
      have y2 : ((((W2.setCell ⟨W.heap.size + 1 + 1, 0, none⟩ (.int .i64 ow)).setCell ⟨W.heap.size + 1 + 1, 1, none⟩ (.int .i64 tr)).setCell ⟨W.heap.size + 1 + 1, 2, none⟩ (.slice A2 L c3)).setCell ⟨W.heap.size + 1 + 1, 0, none⟩ (.int .i64 owner)).cell? ⟨W.heap.size + 1 + 1, 2, none⟩ = some (.slice A2 L c3) := (blk_cell k4 2).trans rfl
      have HR4 := Aside0.mk (Kd.R_set (put3_R (x := .int .i64 ow) (y := .int .i64 tr) (z := .slice A2 L c3) HR2.out bo2 (by decide)) k3 (by decide) 0 (.int .i64 owner))
      have HB4 := Aside0.mk ((put3_B (x := .int .i64 ow) (y := .int .i64 tr) (z := .slice A2 L c3) HB2.out (show W.heap.size ≤ W.heap.size + 1 + 1 by omega)).setCell (p := ⟨W.heap.size + 1 + 1, 0, none⟩) (show W.heap.size ≤ W.heap.size + 1 + 1 by omega) (.int .i64 owner))
      have BE4 := Aside0.mk (show ((((W2.setCell ⟨W.heap.size + 1 + 1, 0, none⟩ (.int .i64 ow)).setCell ⟨W.heap.size + 1 + 1, 1, none⟩ (.int .i64 tr)).setCell ⟨W.heap.size + 1 + 1, 2, none⟩ (.slice A2 L c3)).setCell ⟨W.heap.size + 1 + 1, 0, none⟩ (.int .i64 owner)).heap[W.heap.size + 1 + 1 + 1]? = _ from (Below.heap_setCell _ _ _ _ (by intro e; simp only at e; omega)).trans ((Below.heap_setCell _ _ _ _ (by intro e; simp only at e; omega)).trans ((Below.heap_setCell _ _ _ _ (by intro e; simp only at e; omega)).trans ((Below.heap_setCell _ _ _ _ (by intro e; simp only at e; omega)).trans be2))))
      have BO4 := Aside0.mk (show ((((W2.setCell ⟨W.heap.size + 1 + 1, 0, none⟩ (.int .i64 ow)).setCell ⟨W.heap.size + 1 + 1, 1, none⟩ (.int .i64 tr)).setCell ⟨W.heap.size + 1 + 1, 2, none⟩ (.slice A2 L c3)).setCell ⟨W.heap.size + 1 + 1, 0, none⟩ (.int .i64 owner)).heap[W.heap.size + 1 + 1]? = some (.cells #[.int .i64 owner, .int .i64 tr, .slice A2 L c3] 27 (0, 0)) from k4)
      clear hR2 hb2 bo2 be2 k3 k4 HR2 HB2 BOa BEa HBa HPa HCP HLL HLN
      rw [hL]
      clear hL
      go_wp2_with fail
      have hlen : ((([] : List PartV)) ++ [(⟨en, id, nl⟩ : PartV)]).length = L := by rw [List.length_append]; exact HL.out
      have hC4 := (Kd.R_reads' (show Kd.R k53 53 ((((W2.setCell ⟨W.heap.size + 1 + 1, 0, none⟩ (.int .i64 ow)).setCell ⟨W.heap.size + 1 + 1, 1, none⟩ (.int .i64 tr)).setCell ⟨W.heap.size + 1 + 1, 2, none⟩ (.slice A2 L c3)).setCell ⟨W.heap.size + 1 + 1, 0, none⟩ (.int .i64 owner)) 0 (fun k => W.heap.size ≤ k) (.slice A2 ((([] : List PartV)) ++ [(⟨en, id, nl⟩ : PartV)]).length c3) ((([] : List PartV)) ++ [(⟨en, id, nl⟩ : PartV)]) from by rw [hlen]; exact HR4.out)).2.2
      have hrc := right_c owner tr n A2 c3 ((([] : List PartV)) ++ [(⟨en, id, nl⟩ : PartV)]) ((((W2.setCell ⟨W.heap.size + 1 + 1, 0, none⟩ (.int .i64 ow)).setCell ⟨W.heap.size + 1 + 1, 1, none⟩ (.int .i64 tr)).setCell ⟨W.heap.size + 1 + 1, 2, none⟩ (.slice A2 L c3)).setCell ⟨W.heap.size + 1 + 1, 0, none⟩ (.int .i64 owner)) hC4
      rw [hlen] at hrc
      refine hrc.mono ?_
      clear hrc hC4 hlen y' z0 z1 z2 f0 f1 f2
      generalize ((((W2.setCell ⟨W.heap.size + 1 + 1, 0, none⟩ (.int .i64 ow)).setCell ⟨W.heap.size + 1 + 1, 1, none⟩ (.int .i64 tr)).setCell ⟨W.heap.size + 1 + 1, 2, none⟩ (.slice A2 L c3)).setCell ⟨W.heap.size + 1 + 1, 0, none⟩ (.int .i64 owner)) = W4 at y0 y1 y2 HR4 HB4 BE4 BO4 ⊢
      rintro e W5 ⟨⟨hrt, rfl⟩ | ⟨hrt, rfl⟩, bel⟩
      rotate_left
      · exact door16 (blk_below BO4.out bel) (blk_below BE4.out bel) (by omega) (by omega) (by omega) (below_step HB4.out bel) rfl rfl (by rw [hx.out, hp.out]; exact if_pos hrt) (by decide)
      have HRT := Aside0.mk hrt
      have bo5 := blk_below BO4.out bel
      have be5 := blk_below BE4.out bel
      have HB5 := Aside0.mk (below_step HB4.out bel)
      have HR5 := Aside0.mk (Kd.R_below HR4.out bel)
      have w0 : W5.cell? ⟨W.heap.size + 1 + 1, 0, none⟩ = some (.int .i64 owner) := (blk_cell bo5 0).trans rfl
      have w1 : W5.cell? ⟨W.heap.size + 1 + 1, 1, none⟩ = some (.int .i64 tr) := (blk_cell bo5 1).trans rfl
      have w2 : W5.cell? ⟨W.heap.size + 1 + 1, 2, none⟩ = some (.slice A2 L c3) := (blk_cell bo5 2).trans rfl
      have w3 : W5.cell? ⟨W.heap.size + 1 + 1 + 1, 0, none⟩ = some (.int .i64 0) := (blk_cell be5 0).trans rfl
      have g0 := blk_frozen bo5 0
      have g1 := blk_frozen bo5 1
      have g2 := blk_frozen bo5 2
      have g3 := blk_frozen be5 0
      have BO5 := Aside0.mk bo5
      have BE5 := Aside0.mk be5
      clear y0 y1 y2 HR4 HB4 BE4 BO4 bel hrt bo5 be5
      go_wp2_with fail
      refine door16ok (L := L) (xs := (([] : List PartV)) ++ [⟨en, id, nl⟩]) ((Below.heap_setCell _ _ _ _ (by intro e; simp only at e; omega)).trans (put3 (x := .int .i64 owner) (y := .int .i64 tr) (z := .slice A2 L c3) BO5.out)) (blk_put ((Below.heap_setCell _ _ _ _ (by intro e; simp only at e; omega)).trans ((Below.heap_setCell _ _ _ _ (by intro e; simp only at e; omega)).trans ((Below.heap_setCell _ _ _ _ (by intro e; simp only at e; omega)).trans BE5.out))) 0 (.int .i64 0) rfl) ((put3_B HB5.out (by omega)).setCell (p := ⟨W.heap.size + 1 + 1 + 1, 0, none⟩) (by simp only; omega) _) rfl rfl (by rw [hx.out, hp.out]; exact if_neg (by show ¬ rightF owner tr ((([] : List PartV)) ++ [(⟨en, id, nl⟩ : PartV)]) n = false; rw [HRT.out]; simp)) (hp.out.trans rfl) (by rw [List.length_append]; exact HL.out.symm) ?_
      exact Kd.R_set (put3_R HR5.out BO5.out (by decide)) ((Below.heap_setCell _ _ _ _ (by intro e; simp only at e; omega)).trans ((Below.heap_setCell _ _ _ _ (by intro e; simp only at e; omega)).trans ((Below.heap_setCell _ _ _ _ (by intro e; simp only at e; omega)).trans BE5.out))) (by decide) 0 _

    · have hx := Aside0.mk (show extErr ow tr [] n owner en ⟨en, id, nl⟩ = 1 by
        rw [extErr, if_neg (by rw [HR1.out]; simp), if_neg (by simp), if_pos (by simp [q0])])
      have hd0 : (en == 0) = false := by simpa using q0
      clear q0
      go_wp2_with fail
      refine (demand_ok 7 _).mono ?_
      rintro e w2 ⟨rfl, rfl⟩
      go_wp2_with fail
      refine (demand_no 1 _).mono ?_
      rintro e w2 ⟨rfl, rfl⟩
      exact door16 BO1.out BE1.out (by omega) (by omega) (by omega) HB1.out rfl rfl hx.out (by decide)
  · have HPT := Aside0.mk (Kd.C_below HR.out HB1.out)
    have LAST := fun (Wd : World) (hc : Kd.C k53 Wd A ps.length ps) => last_c ow tr A c ps Wd hc
    have hz2 : ¬ ps.length = 0 := by omega
    have hz3 : ((ps.length : Int) == 0) = false := beq_eq_false_iff_ne.2 (by omega)
    have hz4 : (ps.length == 0) = false := beq_eq_false_iff_ne.2 (by omega)
    have hz5 : decide ((0 : Int) < (ps.length : Int)) = true := decide_eq_true (by omega)
    go_wp2_with fail
    refine (LAST W1 HPT.out).mono ?_
    rintro e w2 ⟨rfl, hb2⟩
    have BC2 := Aside0.mk (blk_below BC1.out hb2)
    have BN2 := Aside0.mk (blk_below BN1.out hb2)
    have BO2 := Aside0.mk (blk_below BO1.out hb2)
    have BE2 := Aside0.mk (blk_below BE1.out hb2)
    have HB2 := Aside0.mk (below_step HB1.out hb2)
    have HP2 := Aside0.mk (Kd.C_below HPT.out hb2)
    have x0' : w2.cell? ⟨W.heap.size, 0, none⟩ = some (.int .i64 ow) := (blk_cell BC2.out 0).trans rfl
    have x1' : w2.cell? ⟨W.heap.size, 1, none⟩ = some (.int .i64 tr) := (blk_cell BC2.out 1).trans rfl
    have x2' : w2.cell? ⟨W.heap.size, 2, none⟩ = some (.slice A ps.length c) := (blk_cell BC2.out 2).trans rfl
    clear hb2 BC1 BN1 BO1 BE1 HB1 HPT x0 x1 x2
    obtain ⟨emp, hemp⟩ : ∃ emp, (lastF ps == en) = emp := ⟨_, rfl⟩
    have HEMP := Aside0.mk hemp
    by_cases q64 : ps.length < 64 ∨ lastF ps = en
    rotate_left
    · have hx := Aside0.mk (show extErr ow tr ps n owner en ⟨en, id, nl⟩ = 7 by
        rw [extErr, if_neg (by rw [HR1.out]; simp), if_pos (by intro h; rcases h with h | h; exact q64 (.inl h); exact q64 (.inr h.2))])
      have q1 : emp = false := by rw [← hemp]; exact beq_eq_false_iff_ne.2 (fun h => q64 (.inr h))
      have q2 : decide ((ps.length : Int) < 64) = false := decide_eq_false (fun h => q64 (.inl (by omega)))
      clear q64
      subst q1
      go_wp2_with fail
      refine (demand_no 7 _).mono ?_
      rintro e w3 ⟨rfl, rfl⟩
      exact door16 BO2.out BE2.out (by omega) (by omega) (by omega) HB2.out rfl rfl hx.out (by decide)
    have HPN := Aside0.mk hz
    go_upto_region 5 with fail
    go_cut [13] from 29 to 34 (fun u13 wx => u13 = .bool emp ∧ w2 = wx)
    case first =>
      by_cases q1 : ps.length < 64
      · have q2 : decide ((ps.length : Int) < 64) = true := decide_eq_true (by omega)
        go_wp2_with fail
        refine (demand_ok 7 _).mono ?_
        rintro e w3 ⟨rfl, rfl⟩
        go_wp2_with fail
        go_meet
        exact ⟨rfl, rfl⟩
      · have q2 : decide ((ps.length : Int) < 64) = false := decide_eq_false (by omega)
        have q3 : emp = true := by rw [← hemp]; exact beq_iff_eq.2 (q64.resolve_left q1)
        subst q3
        go_wp2_with fail
        refine (demand_ok 7 _).mono ?_
        rintro e w3 ⟨rfl, rfl⟩
        go_wp2_with fail
        go_meet
        exact ⟨rfl, rfl⟩
    case rest =>
      obtain ⟨rfl, rfl⟩ := hcut
      have HQ64 := Aside0.mk q64
      clear q64 hemp
      go_wp2_with fail
      have BC5 := Aside0.mk (blk_drew BC2.out)
      have BN5 := Aside0.mk (blk_drew BN2.out)
      have BO5 := Aside0.mk (blk_drew BO2.out)
      have BE5 := Aside0.mk (blk_drew BE2.out)
      have HB5 := Aside0.mk (below_drew1 HB2.out)
      have HP5 := Aside0.mk (Kd.C_drew HP2.out)
      clear x0' x1' x2' BC2 BN2 BO2 BE2 HB2 HP2
      obtain ⟨lf, hlf⟩ : ∃ lf, lastF ps = lf := ⟨_, rfl⟩
      have hlb := Aside0.mk (show 0 ≤ lf ∧ lf < 281474976710656 by rw [← hlf]; exact lastF_in HR1.out HPN.out)
      have hxe : extErr ow tr ps n owner en ⟨en, id, nl⟩ = (if ¬ (max lf tr ≤ en ∧ en ≤ lf + 4096) then 1 else if rightF owner tr (extParts tr ps en ⟨en, id, nl⟩) n = false then 1 else 0) := by
        rw [← hlf]
        have a1 : ¬ rightF ow tr ps n = false := by rw [HR1.out]; simp
        have a2 : ¬ ¬ (ps.length < 64 ∨ 0 < ps.length ∧ lastF ps = en) := fun h => h (HQ64.out.imp (fun h => h) (fun h2 => ⟨HPN.out, h2⟩))
        unfold extErr
        rw [if_neg a1, if_neg a2]
        simp only [hz2, if_false]
      have HXE := Aside0.mk hxe
      simp only [hlf] at LAST ⊢
      have HLF := Aside0.mk hlf
      clear hxe hlf
      by_cases m1 : max lf tr ≤ en
      · have hwl : wrap64 (lf + 4096) = lf + 4096 := by have := hlb.out; unfold wrap64; omega
        have hm1 : decide (max lf tr ≤ en) = true := decide_eq_true m1
        by_cases m2 : en ≤ lf + 4096
        · have hx := Aside0.mk (show extErr ow tr ps n owner en ⟨en, id, nl⟩ = (if rightF owner tr (extParts tr ps en ⟨en, id, nl⟩) n = false then 1 else 0) by rw [HXE.out, if_neg (fun h => h ⟨m1, m2⟩)])
          have hm2 : decide (en ≤ lf + 4096) = true := decide_eq_true m2
          refine start_ (n := 15) (S := fun w' => w'.cell? ⟨W.heap.size, 0, none⟩ = some (.int .i64 ow) ∧ w'.cell? ⟨W.heap.size, 1, none⟩ = some (.int .i64 tr) ∧ w'.cell? ⟨W.heap.size, 2, none⟩ = some (.slice A ps.length c)) (ds := []) #[false, false, false, false, false, false, false, false, false, false, false, false, false, false, false] (by kernel_rfl) rfl rfl ⟨(blk_cell BC5.out 0).trans rfl, (blk_cell BC5.out 1).trans rfl, (blk_cell BC5.out 2).trans rfl⟩ (fun hHeld => ?_); refine with_tabW tabE8 bitsE8 (fun HT_ HW_ => ?_)
          generalize hwd : w2.drew = Wd at BC5 BN5 BO5 BE5 HB5 HP5 hHeld ⊢
          clear hwd
          refine pure_ (i := 0) (N := (some 40)) (v := ?_) (a' := ?_) #[true, false, false, false, false, false, false, false, false, false, false, false, false, false, false] rfl rfl (any_of HT_.out (by kernel_rfl)) (fun _ _ _ h => put16 40 (by decide) h) (Or.inl ⟨by rfl, ?_⟩) ?_ ?_
          rotate_left
          · intro w'
            go_simp
            with_reducible rfl
          rotate_left
          · simp only [Act.put, List.setIfInBounds_toArray, List.set_cons_zero, List.set_cons_succ, i64_w, i32_w]
            rfl
          refine take_ (i := 1) (N := (some 41)) (v := ?_) (a' := ?_) #[true, true, false, false, false, false, false, false, false, false, false, false, false, false, false] rfl rfl (take_ofW HT_.out HW_.out (by kernel_rfl)) (fun _ _ _ h => put16 41 (by decide) h) (Or.inl ⟨by rfl, ?_⟩) hHeld ?_ ?_
          rotate_left
          · rintro w' ⟨s0, s1, s2⟩
            go_simp
            with_reducible rfl
          rotate_left
          · simp only [Act.put, List.setIfInBounds_toArray, List.set_cons_zero, List.set_cons_succ, i64_w, i32_w]
            rfl
          refine pure_ (i := 3) (N := (some 43)) (v := ?_) (a' := ?_) #[true, true, false, true, false, false, false, false, false, false, false, false, false, false, false] rfl rfl (any_of HT_.out (by kernel_rfl)) (fun _ _ _ h => put16 43 (by decide) h) (Or.inl ⟨by rfl, ?_⟩) ?_ ?_
          rotate_left
          · intro w'
            go_simp
            with_reducible rfl
          rotate_left
          · simp only [Act.put, List.setIfInBounds_toArray, List.set_cons_zero, List.set_cons_succ, i64_w, i32_w]
            rfl
          refine take_ (i := 4) (N := (some 44)) (v := ?_) (a' := ?_) #[true, true, false, true, true, false, false, false, false, false, false, false, false, false, false] rfl rfl (take_ofW HT_.out HW_.out (by kernel_rfl)) (fun _ _ _ h => put16 44 (by decide) h) (Or.inl ⟨by rfl, ?_⟩) hHeld ?_ ?_
          rotate_left
          · rintro w' ⟨s0, s1, s2⟩
            go_simp
            with_reducible rfl
          rotate_left
          · simp only [Act.put, List.setIfInBounds_toArray, List.set_cons_zero, List.set_cons_succ, i64_w, i32_w]
            rfl
          refine one_ (i := 2) (N := (some 42)) #[true, true, true, true, true, false, false, false, false, false, false, false, false, false, false] rfl rfl (one_of HT_.out (by kernel_rfl)) (by decide) (fun K hK => ?_)
          refine goes_ Try.func35 (by kernel_rfl) rfl #[.agg #[.int .i64 ow, .int .i64 tr, .slice A ps.length c]] (by rfl) rfl rfl (by (try simp only [List.map_toArray, List.map_cons, List.map_nil]); first | done | rfl) ?_
          refine (LAST Wd HP5.out).mono ?_
          rintro e w5' ⟨rfl, hbL⟩
          refine ⟨_, rfl, ?_⟩
          have BC6 := Aside0.mk (blk_below BC5.out hbL)
          have BN6 := Aside0.mk (blk_below BN5.out hbL)
          have BO6 := Aside0.mk (blk_below BO5.out hbL)
          have BE6 := Aside0.mk (blk_below BE5.out hbL)
          have HB6 := Aside0.mk (below_step HB5.out hbL)
          have HP6 := Aside0.mk (Kd.C_below HP5.out hbL)
          clear hbL BC5 BN5 BO5 BE5 HB5 HP5
          refine hK.out _ _ ⟨(blk_cell BC6.out 0).trans rfl, (blk_cell BC6.out 1).trans rfl, (blk_cell BC6.out 2).trans rfl⟩ (fun hHeld => ?_)
          clear hK K
          refine norm_ (a' := ?_) ?_ ?_
          rotate_left
          · show Act.put _ (some 42) _ = _
            simp only [Act.put, List.setIfInBounds_toArray, List.set_cons_zero, List.set_cons_succ, i64_w, i32_w]
            rfl
          refine pure_ (i := 5) (N := (some 45)) (v := ?_) (a' := ?_) #[true, true, true, true, true, true, false, false, false, false, false, false, false, false, false] rfl rfl (any_of HT_.out (by kernel_rfl)) (fun _ _ _ h => put16 45 (by decide) h) (Or.inl ⟨by rfl, ?_⟩) ?_ ?_
          rotate_left
          · intro w'
            go_simp
            with_reducible rfl
          rotate_left
          · simp only [Act.put, List.setIfInBounds_toArray, List.set_cons_zero, List.set_cons_succ, i64_w, i32_w]
            rfl
          refine pure_ (i := 6) (N := (some 46)) (v := ?_) (a' := ?_) #[true, true, true, true, true, true, true, false, false, false, false, false, false, false, false] rfl rfl (any_of HT_.out (by kernel_rfl)) (fun _ _ _ h => put16 46 (by decide) h) (Or.inl ⟨by rfl, ?_⟩) ?_ ?_
          rotate_left
          · intro w'
            go_simp
            with_reducible rfl
          rotate_left
          · simp only [Act.put, List.setIfInBounds_toArray, List.set_cons_zero, List.set_cons_succ, i64_w, i32_w]
            rfl
          refine pure_ (i := 7) (N := (some 47)) (v := ?_) (a' := ?_) #[true, true, true, true, true, true, true, true, false, false, false, false, false, false, false] rfl rfl (any_of HT_.out (by kernel_rfl)) (fun _ _ _ h => put16 47 (by decide) h) (Or.inl ⟨by rfl, ?_⟩) ?_ ?_
          rotate_left
          · intro w'
            go_simp
            with_reducible rfl
          rotate_left
          · simp only [Act.put, List.setIfInBounds_toArray, List.set_cons_zero, List.set_cons_succ, i64_w, i32_w]
            rfl
          refine pure_ (i := 8) (N := (some 48)) (v := ?_) (a' := ?_) #[true, true, true, true, true, true, true, true, true, false, false, false, false, false, false] rfl rfl (any_of HT_.out (by kernel_rfl)) (fun _ _ _ h => put16 48 (by decide) h) (Or.inl ⟨by rfl, ?_⟩) ?_ ?_
          rotate_left
          · intro w'
            go_simp
            with_reducible rfl
          rotate_left
          · simp only [Act.put, List.setIfInBounds_toArray, List.set_cons_zero, List.set_cons_succ, i64_w, i32_w]
            rfl
          refine take_ (i := 9) (N := (some 49)) (v := ?_) (a' := ?_) #[true, true, true, true, true, true, true, true, true, true, false, false, false, false, false] rfl rfl (take_ofW HT_.out HW_.out (by kernel_rfl)) (fun _ _ _ h => put16 49 (by decide) h) (Or.inl ⟨by rfl, ?_⟩) hHeld ?_ ?_
          rotate_left
          · rintro w' ⟨s0, s1, s2⟩
            go_simp
            with_reducible rfl
          rotate_left
          · simp only [Act.put, List.setIfInBounds_toArray, List.set_cons_zero, List.set_cons_succ, i64_w, i32_w]
            rfl
          refine one_ (i := 10) (N := (some 50)) #[true, true, true, true, true, true, true, true, true, true, true, false, false, false, false] rfl rfl (one_of HT_.out (by kernel_rfl)) (by decide) (fun K hK => ?_)
          refine goes_ Try.func35 (by kernel_rfl) rfl #[.agg #[.int .i64 ow, .int .i64 tr, .slice A ps.length c]] (by rfl) rfl rfl (by (try simp only [List.map_toArray, List.map_cons, List.map_nil]); first | done | rfl) ?_
          refine (LAST w5' HP6.out).mono ?_
          rintro e w6' ⟨rfl, hbL⟩
          refine ⟨_, rfl, ?_⟩
          have BC7 := Aside0.mk (blk_below BC6.out hbL)
          have BN7 := Aside0.mk (blk_below BN6.out hbL)
          have BO7 := Aside0.mk (blk_below BO6.out hbL)
          have BE7 := Aside0.mk (blk_below BE6.out hbL)
          have HB7 := Aside0.mk (below_step HB6.out hbL)
          have HP7 := Aside0.mk (Kd.C_below HP6.out hbL)
          clear hbL BC6 BN6 BO6 BE6 HB6 HP6
          refine hK.out _ _ ⟨(blk_cell BC7.out 0).trans rfl, (blk_cell BC7.out 1).trans rfl, (blk_cell BC7.out 2).trans rfl⟩ (fun hHeld => ?_)
          clear hK K
          refine norm_ (a' := ?_) ?_ ?_
          rotate_left
          · show Act.put _ (some 50) _ = _
            simp only [Act.put, List.setIfInBounds_toArray, List.set_cons_zero, List.set_cons_succ, i64_w, i32_w]
            rfl
          refine pure_ (i := 11) (N := (some 51)) (v := ?_) (a' := ?_) #[true, true, true, true, true, true, true, true, true, true, true, true, false, false, false] rfl rfl (any_of HT_.out (by kernel_rfl)) (fun _ _ _ h => put16 51 (by decide) h) (Or.inl ⟨by rfl, ?_⟩) ?_ ?_
          rotate_left
          · intro w'
            go_simp
            with_reducible rfl
          rotate_left
          · simp only [Act.put, List.setIfInBounds_toArray, List.set_cons_zero, List.set_cons_succ, i64_w, i32_w]
            rfl
          refine pure_ (i := 12) (N := (some 52)) (v := ?_) (a' := ?_) #[true, true, true, true, true, true, true, true, true, true, true, true, true, false, false] rfl rfl (any_of HT_.out (by kernel_rfl)) (fun _ _ _ h => put16 52 (by decide) h) (Or.inl ⟨by rfl, ?_⟩) ?_ ?_
          rotate_left
          · intro w'
            go_simp
            with_reducible rfl
          rotate_left
          · simp only [Act.put, List.setIfInBounds_toArray, List.set_cons_zero, List.set_cons_succ, i64_w, i32_w]
            rfl
          refine pure_ (i := 13) (N := (some 53)) (v := ?_) (a' := ?_) #[true, true, true, true, true, true, true, true, true, true, true, true, true, true, false] rfl rfl (any_of HT_.out (by kernel_rfl)) (fun _ _ _ h => put16 53 (by decide) h) (Or.inl ⟨by rfl, ?_⟩) ?_ ?_
          rotate_left
          · intro w'
            go_simp
            with_reducible rfl
          rotate_left
          · simp only [Act.put, List.setIfInBounds_toArray, List.set_cons_zero, List.set_cons_succ, i64_w, i32_w]
            rfl
          refine one_ (i := 14) (N := (some 54)) #[true, true, true, true, true, true, true, true, true, true, true, true, true, true, true] rfl rfl (one_of HT_.out (by kernel_rfl)) (by decide) (fun K hK => ?_)
          refine goes_ Try.func36 (by kernel_rfl) rfl #[.bool true, .int .i64 1] (by rfl) rfl rfl (by (try simp only [List.map_toArray, List.map_cons, List.map_nil]); first | done | rfl) ?_
          refine (demand_ok 1 _).mono ?_
          rintro e w7 ⟨rfl, rfl⟩
          refine ⟨_, rfl, ?_⟩
          refine hK.out _ _ ⟨(blk_cell BC7.out 0).trans rfl, (blk_cell BC7.out 1).trans rfl, (blk_cell BC7.out 2).trans rfl⟩ (fun hHeld => ?_)
          clear hK K
          refine norm_ (a' := ?_) ?_ ?_
          rotate_left
          · show Act.put _ (some 54) _ = _
            simp only [Act.put, List.setIfInBounds_toArray, List.set_cons_zero, List.set_cons_succ, i64_w, i32_w]
            rfl
          refine done_ (done_of HT_.out (by kernel_rfl)) ?_
          clear hHeld HT_ HW_ LAST
          have HMX := Aside0.mk m1
          have HMY := Aside0.mk m2
          clear m1 m2 hwl hm1 hm2
          cases emp
          · have qe : ¬ lastF ps = en := beq_eq_false_iff_ne.1 HEMP.out
            by_cases qo : ps.length = 1 ∧ tr = en
            · have qe : lastF ps = en ∨ ps.length = 1 ∧ tr = en := .inr qo
              have q1 : ((ps.length : Int) == 1) = true := by rw [qo.1]; rfl
              have q2 : (tr == en) = true := beq_iff_eq.2 qo.2
              clear qo
              have c0 : w6'.cell? ⟨W.heap.size, 0, none⟩ = some (.int .i64 ow) := (blk_cell BC7.out 0).trans rfl
              have c1 : w6'.cell? ⟨W.heap.size, 1, none⟩ = some (.int .i64 tr) := (blk_cell BC7.out 1).trans rfl
              have c2_ : w6'.cell? ⟨W.heap.size, 2, none⟩ = some (.slice A ps.length c) := (blk_cell BC7.out 2).trans rfl
              obtain ⟨P, hP⟩ : ∃ P, ps.take (ps.length - 1) = P := ⟨_, rfl⟩
              have hPl : P.length = ps.length - 1 := by rw [← hP, List.length_take]; omega
              have hp := Aside0.mk (show extParts tr ps en ⟨en, id, nl⟩ = P ++ [⟨en, id, nl⟩] by rw [extParts, if_pos ⟨HPN.out, qe⟩, hP])
              clear qe
              have hcl : decide ((ps.length : Int) - 1 ≤ (c : Int)) = true := decide_eq_true (by omega)
              have fz := blk_frozen BC7.out 2
              have BC8 := Aside0.mk (blk_put BC7.out 2 (.slice A (ps.length - 1) c) rfl)
              have HPP := Aside0.mk (show Kd.C k53 W A P.length P from by rw [← hP]; exact Kd.C_take HR.out (Nat.sub_le _ _))
              have HB8 := Aside0.mk (HB7.out.setCell (p := ⟨W.heap.size, 2, none⟩) (Nat.le_refl _) (.slice A (ps.length - 1) c))
              have HP8 := Aside0.mk (Kd.C_below HPP.out HB8.out)
              have BO8 := Aside0.mk (show (w6'.setCell ⟨W.heap.size, 2, none⟩ (.slice A (ps.length - 1) c)).heap[W.heap.size + 1 + 1]? = _ from (Below.heap_setCell _ _ _ _ (by intro e; simp only at e; omega)).trans BO7.out)
              have BE8 := Aside0.mk (show (w6'.setCell ⟨W.heap.size, 2, none⟩ (.slice A (ps.length - 1) c)).heap[W.heap.size + 1 + 1 + 1]? = _ from (Below.heap_setCell _ _ _ _ (by intro e; simp only at e; omega)).trans BE7.out)
              have BN8 := Aside0.mk (show (w6'.setCell ⟨W.heap.size, 2, none⟩ (.slice A (ps.length - 1) c)).heap[W.heap.size + 1]? = _ from (Below.heap_setCell _ _ _ _ (by intro e; simp only at e; omega)).trans BN7.out)
              have d0 : (w6'.setCell ⟨W.heap.size, 2, none⟩ (.slice A (ps.length - 1) c)).cell? ⟨W.heap.size, 0, none⟩ = some (.int .i64 ow) := (blk_cell BC8.out 0).trans rfl
              have d1 : (w6'.setCell ⟨W.heap.size, 2, none⟩ (.slice A (ps.length - 1) c)).cell? ⟨W.heap.size, 1, none⟩ = some (.int .i64 tr) := (blk_cell BC8.out 1).trans rfl
              have d2 : (w6'.setCell ⟨W.heap.size, 2, none⟩ (.slice A (ps.length - 1) c)).cell? ⟨W.heap.size, 2, none⟩ = some (.slice A (ps.length - 1) c) := (blk_cell BC8.out 2).trans rfl
              have n0 : (w6'.setCell ⟨W.heap.size, 2, none⟩ (.slice A (ps.length - 1) c)).cell? ⟨W.heap.size + 1, 0, none⟩ = some (.int .i64 id) := (blk_cell BN8.out 0).trans rfl
              have n1 : (w6'.setCell ⟨W.heap.size, 2, none⟩ (.slice A (ps.length - 1) c)).cell? ⟨W.heap.size + 1, 1, none⟩ = some (.slice B nl.length c2) := (blk_cell BN8.out 1).trans rfl
              have HHP := Aside0.mk (show ∀ p ∈ P, p ∈ ps from fun p hp => List.mem_of_mem_take (hP ▸ hp))
              clear hP
              have HPL := Aside0.mk hPl
              clear hPl
              go_wp2_with fail
              obtain ⟨W8, hW8⟩ : ∃ W8, (w6'.setCell ⟨W.heap.size, 2, none⟩ (.slice A (ps.length - 1) c)) = W8 := ⟨_, rfl⟩
              have hsz : w6'.heap.size = W8.heap.size := by rw [← hW8]; simp
              rw [hW8, hsz, ← HPL.out]
              clear d0 d1 d2 n0 n1 c0 c1 c2_ fz
              have BO9 := Aside0.mk (show W8.heap[W.heap.size + 1 + 1]? = some (.cells #[.int .i64 0, .int .i64 0, .slice none 0 0] 27 (0, 0)) by rw [← hW8]; exact BO8.out)
              have BE9 := Aside0.mk (show W8.heap[W.heap.size + 1 + 1 + 1]? = some (.cells #[.int .i64 0] 37 (0, 0)) by rw [← hW8]; exact BE8.out)
              have HB9 := Aside0.mk (show Below W.heap.size W W8 by rw [← hW8]; exact HB8.out)
              have HP9 := Aside0.mk (show Kd.C k53 W8 A P.length P by rw [← hW8]; exact HP8.out)
              clear hW8 hsz BC7 BN7 BO7 BE7 HB7 HP7 BC8 BO8 BE8 BN8 HB8 HP8 HPP hcl
              have HCP := Aside0.mk (C_one (heap_alloc_new W8 (.cells #[.int .i64 en, .int .i64 id, .slice B nl.length c2] 53 (0, 0))) hc2 (Kd.C_below (Kd.C_below HQ.out HB9.out) (below_alloc (Below.refl _ _) _)))
              have BOa := Aside0.mk (blk_alloc BO9.out (.cells #[.int .i64 en, .int .i64 id, .slice B nl.length c2] 53 (0, 0)))
              have BEa := Aside0.mk (blk_alloc BE9.out (.cells #[.int .i64 en, .int .i64 id, .slice B nl.length c2] 53 (0, 0)))
              have HBa := Aside0.mk (below_alloc HB9.out (.cells #[.int .i64 en, .int .i64 id, .slice B nl.length c2] 53 (0, 0)))
              have HPa := Aside0.mk (Kd.C_alloc HP9.out (.cells #[.int .i64 en, .int .i64 id, .slice B nl.length c2] 53 (0, 0)))
              have HLL := Aside0.mk (show (P.length + ([(⟨en, id, nl⟩ : PartV)]).length) * 40 ≤ 140737488355328 by have := HPL.out; simp only [List.length_singleton]; omega)
              have HLN := Aside0.mk (show ∀ p ∈ P ++ [(⟨en, id, nl⟩ : PartV)], p.nodes.length * 8 ≤ 140737488355328 from fun p hp => (List.mem_append.1 hp).elim (fun h => HHN.out p (HHP.out p h)) (fun h => by rw [List.mem_singleton] at h; rw [h]; exact hnl))
              go_wp2_with fail
              refine (cown_c ow tr A (some ⟨W8.heap.size, 0, none⟩) c 1 (P) [⟨en, id, nl⟩] _ HPa.out HCP.out HLL.out HLN.out).mono ?_
              rintro e W2 ⟨A2, c3, rfl, hR2, hb2⟩
              obtain ⟨L, hL⟩ : ∃ L, (P).length + ([(⟨en, id, nl⟩ : PartV)]).length = L := ⟨_, rfl⟩
              rw [hL] at hR2
              have HL := Aside0.mk hL
              have bo2 := blk_below BOa.out hb2
              have be2 := blk_below BEa.out hb2
              have HB2 := Aside0.mk (below_step HBa.out hb2)
              have HR2 := Aside0.mk (Kd.R_mono (ok' := fun k => W.heap.size ≤ k) hR2 (fun k hk => Nat.le_trans HBa.out.size hk))
              have z0 : W2.cell? ⟨W.heap.size + 1 + 1, 0, none⟩ = some (.int .i64 0) := (blk_cell bo2 0).trans rfl
              have z1 : W2.cell? ⟨W.heap.size + 1 + 1, 1, none⟩ = some (.int .i64 0) := (blk_cell bo2 1).trans rfl
              have z2 : W2.cell? ⟨W.heap.size + 1 + 1, 2, none⟩ = some (.slice none 0 0) := (blk_cell bo2 2).trans rfl
              have f0 := blk_frozen bo2 0
              have f1 := blk_frozen bo2 1
              have f2 := blk_frozen bo2 2
              have k3 := put3 (x := .int .i64 ow) (y := .int .i64 tr) (z := .slice A2 L c3) bo2
              have k4 := blk_put k3 0 (.int .i64 owner) rfl
              have y' : (((W2.setCell ⟨W.heap.size + 1 + 1, 0, none⟩ (.int .i64 ow)).setCell ⟨W.heap.size + 1 + 1, 1, none⟩ (.int .i64 tr)).setCell ⟨W.heap.size + 1 + 1, 2, none⟩ (.slice A2 L c3)).cell? ⟨W.heap.size + 1 + 1, 0, none⟩ = some (.int .i64 ow) := (blk_cell k3 0).trans rfl
              have y0 : ((((W2.setCell ⟨W.heap.size + 1 + 1, 0, none⟩ (.int .i64 ow)).setCell ⟨W.heap.size + 1 + 1, 1, none⟩ (.int .i64 tr)).setCell ⟨W.heap.size + 1 + 1, 2, none⟩ (.slice A2 L c3)).setCell ⟨W.heap.size + 1 + 1, 0, none⟩ (.int .i64 owner)).cell? ⟨W.heap.size + 1 + 1, 0, none⟩ = some (.int .i64 owner) := (blk_cell k4 0).trans rfl
              have y1 : ((((W2.setCell ⟨W.heap.size + 1 + 1, 0, none⟩ (.int .i64 ow)).setCell ⟨W.heap.size + 1 + 1, 1, none⟩ (.int .i64 tr)).setCell ⟨W.heap.size + 1 + 1, 2, none⟩ (.slice A2 L c3)).setCell ⟨W.heap.size + 1 + 1, 0, none⟩ (.int .i64 owner)).cell? ⟨W.heap.size + 1 + 1, 1, none⟩ = some (.int .i64 tr) := (blk_cell k4 1).trans rfl
              have y2 : ((((W2.setCell ⟨W.heap.size + 1 + 1, 0, none⟩ (.int .i64 ow)).setCell ⟨W.heap.size + 1 + 1, 1, none⟩ (.int .i64 tr)).setCell ⟨W.heap.size + 1 + 1, 2, none⟩ (.slice A2 L c3)).setCell ⟨W.heap.size + 1 + 1, 0, none⟩ (.int .i64 owner)).cell? ⟨W.heap.size + 1 + 1, 2, none⟩ = some (.slice A2 L c3) := (blk_cell k4 2).trans rfl
              have HR4 := Aside0.mk (Kd.R_set (put3_R (x := .int .i64 ow) (y := .int .i64 tr) (z := .slice A2 L c3) HR2.out bo2 (by decide)) k3 (by decide) 0 (.int .i64 owner))
              have HB4 := Aside0.mk ((put3_B (x := .int .i64 ow) (y := .int .i64 tr) (z := .slice A2 L c3) HB2.out (show W.heap.size ≤ W.heap.size + 1 + 1 by omega)).setCell (p := ⟨W.heap.size + 1 + 1, 0, none⟩) (show W.heap.size ≤ W.heap.size + 1 + 1 by omega) (.int .i64 owner))
              have BE4 := Aside0.mk (show ((((W2.setCell ⟨W.heap.size + 1 + 1, 0, none⟩ (.int .i64 ow)).setCell ⟨W.heap.size + 1 + 1, 1, none⟩ (.int .i64 tr)).setCell ⟨W.heap.size + 1 + 1, 2, none⟩ (.slice A2 L c3)).setCell ⟨W.heap.size + 1 + 1, 0, none⟩ (.int .i64 owner)).heap[W.heap.size + 1 + 1 + 1]? = _ from (Below.heap_setCell _ _ _ _ (by intro e; simp only at e; omega)).trans ((Below.heap_setCell _ _ _ _ (by intro e; simp only at e; omega)).trans ((Below.heap_setCell _ _ _ _ (by intro e; simp only at e; omega)).trans ((Below.heap_setCell _ _ _ _ (by intro e; simp only at e; omega)).trans be2))))
              have BO4 := Aside0.mk (show ((((W2.setCell ⟨W.heap.size + 1 + 1, 0, none⟩ (.int .i64 ow)).setCell ⟨W.heap.size + 1 + 1, 1, none⟩ (.int .i64 tr)).setCell ⟨W.heap.size + 1 + 1, 2, none⟩ (.slice A2 L c3)).setCell ⟨W.heap.size + 1 + 1, 0, none⟩ (.int .i64 owner)).heap[W.heap.size + 1 + 1]? = some (.cells #[.int .i64 owner, .int .i64 tr, .slice A2 L c3] 27 (0, 0)) from k4)
              clear hR2 hb2 bo2 be2 k3 k4 HR2 HB2 BOa BEa HBa HPa HCP HLL HLN
              rw [hL]
              clear hL
              go_wp2_with fail
              have hlen : ((P) ++ [(⟨en, id, nl⟩ : PartV)]).length = L := by rw [List.length_append]; exact HL.out
              have hC4 := (Kd.R_reads' (show Kd.R k53 53 ((((W2.setCell ⟨W.heap.size + 1 + 1, 0, none⟩ (.int .i64 ow)).setCell ⟨W.heap.size + 1 + 1, 1, none⟩ (.int .i64 tr)).setCell ⟨W.heap.size + 1 + 1, 2, none⟩ (.slice A2 L c3)).setCell ⟨W.heap.size + 1 + 1, 0, none⟩ (.int .i64 owner)) 0 (fun k => W.heap.size ≤ k) (.slice A2 ((P) ++ [(⟨en, id, nl⟩ : PartV)]).length c3) ((P) ++ [(⟨en, id, nl⟩ : PartV)]) from by rw [hlen]; exact HR4.out)).2.2
              have hrc := right_c owner tr n A2 c3 ((P) ++ [(⟨en, id, nl⟩ : PartV)]) ((((W2.setCell ⟨W.heap.size + 1 + 1, 0, none⟩ (.int .i64 ow)).setCell ⟨W.heap.size + 1 + 1, 1, none⟩ (.int .i64 tr)).setCell ⟨W.heap.size + 1 + 1, 2, none⟩ (.slice A2 L c3)).setCell ⟨W.heap.size + 1 + 1, 0, none⟩ (.int .i64 owner)) hC4
              rw [hlen] at hrc
              refine hrc.mono ?_
              clear hrc hC4 hlen y' z0 z1 z2 f0 f1 f2
              generalize ((((W2.setCell ⟨W.heap.size + 1 + 1, 0, none⟩ (.int .i64 ow)).setCell ⟨W.heap.size + 1 + 1, 1, none⟩ (.int .i64 tr)).setCell ⟨W.heap.size + 1 + 1, 2, none⟩ (.slice A2 L c3)).setCell ⟨W.heap.size + 1 + 1, 0, none⟩ (.int .i64 owner)) = W4 at y0 y1 y2 HR4 HB4 BE4 BO4 ⊢
              rintro e W5 ⟨⟨hrt, rfl⟩ | ⟨hrt, rfl⟩, bel⟩
              rotate_left
              · exact door16 (blk_below BO4.out bel) (blk_below BE4.out bel) (by omega) (by omega) (by omega) (below_step HB4.out bel) rfl rfl (by rw [hx.out, hp.out]; exact if_pos hrt) (by decide)
              have HRT := Aside0.mk hrt
              have bo5 := blk_below BO4.out bel
              have be5 := blk_below BE4.out bel
              have HB5 := Aside0.mk (below_step HB4.out bel)
              have HR5 := Aside0.mk (Kd.R_below HR4.out bel)
              have w0 : W5.cell? ⟨W.heap.size + 1 + 1, 0, none⟩ = some (.int .i64 owner) := (blk_cell bo5 0).trans rfl
              have w1 : W5.cell? ⟨W.heap.size + 1 + 1, 1, none⟩ = some (.int .i64 tr) := (blk_cell bo5 1).trans rfl
              have w2 : W5.cell? ⟨W.heap.size + 1 + 1, 2, none⟩ = some (.slice A2 L c3) := (blk_cell bo5 2).trans rfl
              have w3 : W5.cell? ⟨W.heap.size + 1 + 1 + 1, 0, none⟩ = some (.int .i64 0) := (blk_cell be5 0).trans rfl
              have g0 := blk_frozen bo5 0
              have g1 := blk_frozen bo5 1
              have g2 := blk_frozen bo5 2
              have g3 := blk_frozen be5 0
              have BO5 := Aside0.mk bo5
              have BE5 := Aside0.mk be5
              clear y0 y1 y2 HR4 HB4 BE4 BO4 bel hrt bo5 be5
              go_wp2_with fail
              refine door16ok (L := L) (xs := (P) ++ [⟨en, id, nl⟩]) ((Below.heap_setCell _ _ _ _ (by intro e; simp only at e; omega)).trans (put3 (x := .int .i64 owner) (y := .int .i64 tr) (z := .slice A2 L c3) BO5.out)) (blk_put ((Below.heap_setCell _ _ _ _ (by intro e; simp only at e; omega)).trans ((Below.heap_setCell _ _ _ _ (by intro e; simp only at e; omega)).trans ((Below.heap_setCell _ _ _ _ (by intro e; simp only at e; omega)).trans BE5.out))) 0 (.int .i64 0) rfl) ((put3_B HB5.out (by omega)).setCell (p := ⟨W.heap.size + 1 + 1 + 1, 0, none⟩) (by simp only; omega) _) rfl rfl (by rw [hx.out, hp.out]; exact if_neg (by show ¬ rightF owner tr ((P) ++ [(⟨en, id, nl⟩ : PartV)]) n = false; rw [HRT.out]; simp)) (hp.out.trans rfl) (by rw [List.length_append]; exact HL.out.symm) ?_
              exact Kd.R_set (put3_R HR5.out BO5.out (by decide)) ((Below.heap_setCell _ _ _ _ (by intro e; simp only at e; omega)).trans ((Below.heap_setCell _ _ _ _ (by intro e; simp only at e; omega)).trans ((Below.heap_setCell _ _ _ _ (by intro e; simp only at e; omega)).trans BE5.out))) (by decide) 0 _
            · by_cases qq : ps.length = 1
              · have q1 : ((ps.length : Int) == 1) = true := by rw [qq]; rfl
                have q2 : (tr == en) = false := beq_eq_false_iff_ne.2 (fun h => qo ⟨qq, h⟩)
                clear qq
                have c0 : w6'.cell? ⟨W.heap.size, 0, none⟩ = some (.int .i64 ow) := (blk_cell BC7.out 0).trans rfl
                have c1 : w6'.cell? ⟨W.heap.size, 1, none⟩ = some (.int .i64 tr) := (blk_cell BC7.out 1).trans rfl
                have c2_ : w6'.cell? ⟨W.heap.size, 2, none⟩ = some (.slice A ps.length c) := (blk_cell BC7.out 2).trans rfl
                have hp := Aside0.mk (show extParts tr ps en ⟨en, id, nl⟩ = ps ++ [⟨en, id, nl⟩] by rw [extParts, if_neg (fun h => h.2.elim qe qo)])
                clear qe qo
                have n0 : w6'.cell? ⟨W.heap.size + 1, 0, none⟩ = some (.int .i64 id) := (blk_cell BN7.out 0).trans rfl
                have n1 : w6'.cell? ⟨W.heap.size + 1, 1, none⟩ = some (.slice B nl.length c2) := (blk_cell BN7.out 1).trans rfl
                go_wp2_with fail
                have HCP := Aside0.mk (C_one (heap_alloc_new w6' (.cells #[.int .i64 en, .int .i64 id, .slice B nl.length c2] 53 (0, 0))) hc2 (Kd.C_below (Kd.C_below HQ.out HB7.out) (below_alloc (Below.refl _ _) _)))
                have BOa := Aside0.mk (blk_alloc BO7.out (.cells #[.int .i64 en, .int .i64 id, .slice B nl.length c2] 53 (0, 0)))
                have BEa := Aside0.mk (blk_alloc BE7.out (.cells #[.int .i64 en, .int .i64 id, .slice B nl.length c2] 53 (0, 0)))
                have HBa := Aside0.mk (below_alloc HB7.out (.cells #[.int .i64 en, .int .i64 id, .slice B nl.length c2] 53 (0, 0)))
                have HPa := Aside0.mk (Kd.C_alloc HP7.out (.cells #[.int .i64 en, .int .i64 id, .slice B nl.length c2] 53 (0, 0)))
                have HLL := Aside0.mk (show (ps.length + ([(⟨en, id, nl⟩ : PartV)]).length) * 40 ≤ 140737488355328 from hl)
                have HLN := Aside0.mk (show ∀ p ∈ ps ++ [(⟨en, id, nl⟩ : PartV)], p.nodes.length * 8 ≤ 140737488355328 from fun p hp => (List.mem_append.1 hp).elim (HHN.out p) (fun h => by rw [List.mem_singleton] at h; rw [h]; exact hnl))
                go_wp2_with fail
                refine (cown_c ow tr A (some ⟨w6'.heap.size, 0, none⟩) c 1 (ps) [⟨en, id, nl⟩] _ HPa.out HCP.out HLL.out HLN.out).mono ?_
                rintro e W2 ⟨A2, c3, rfl, hR2, hb2⟩
                obtain ⟨L, hL⟩ : ∃ L, (ps).length + ([(⟨en, id, nl⟩ : PartV)]).length = L := ⟨_, rfl⟩
                rw [hL] at hR2
                have HL := Aside0.mk hL
                have bo2 := blk_below BOa.out hb2
                have be2 := blk_below BEa.out hb2
                have HB2 := Aside0.mk (below_step HBa.out hb2)
                have HR2 := Aside0.mk (Kd.R_mono (ok' := fun k => W.heap.size ≤ k) hR2 (fun k hk => Nat.le_trans HBa.out.size hk))
                have z0 : W2.cell? ⟨W.heap.size + 1 + 1, 0, none⟩ = some (.int .i64 0) := (blk_cell bo2 0).trans rfl
                have z1 : W2.cell? ⟨W.heap.size + 1 + 1, 1, none⟩ = some (.int .i64 0) := (blk_cell bo2 1).trans rfl
                have z2 : W2.cell? ⟨W.heap.size + 1 + 1, 2, none⟩ = some (.slice none 0 0) := (blk_cell bo2 2).trans rfl
                have f0 := blk_frozen bo2 0
                have f1 := blk_frozen bo2 1
                have f2 := blk_frozen bo2 2
                have k3 := put3 (x := .int .i64 ow) (y := .int .i64 tr) (z := .slice A2 L c3) bo2
                have k4 := blk_put k3 0 (.int .i64 owner) rfl
                have y' : (((W2.setCell ⟨W.heap.size + 1 + 1, 0, none⟩ (.int .i64 ow)).setCell ⟨W.heap.size + 1 + 1, 1, none⟩ (.int .i64 tr)).setCell ⟨W.heap.size + 1 + 1, 2, none⟩ (.slice A2 L c3)).cell? ⟨W.heap.size + 1 + 1, 0, none⟩ = some (.int .i64 ow) := (blk_cell k3 0).trans rfl
                have y0 : ((((W2.setCell ⟨W.heap.size + 1 + 1, 0, none⟩ (.int .i64 ow)).setCell ⟨W.heap.size + 1 + 1, 1, none⟩ (.int .i64 tr)).setCell ⟨W.heap.size + 1 + 1, 2, none⟩ (.slice A2 L c3)).setCell ⟨W.heap.size + 1 + 1, 0, none⟩ (.int .i64 owner)).cell? ⟨W.heap.size + 1 + 1, 0, none⟩ = some (.int .i64 owner) := (blk_cell k4 0).trans rfl
                have y1 : ((((W2.setCell ⟨W.heap.size + 1 + 1, 0, none⟩ (.int .i64 ow)).setCell ⟨W.heap.size + 1 + 1, 1, none⟩ (.int .i64 tr)).setCell ⟨W.heap.size + 1 + 1, 2, none⟩ (.slice A2 L c3)).setCell ⟨W.heap.size + 1 + 1, 0, none⟩ (.int .i64 owner)).cell? ⟨W.heap.size + 1 + 1, 1, none⟩ = some (.int .i64 tr) := (blk_cell k4 1).trans rfl
                have y2 : ((((W2.setCell ⟨W.heap.size + 1 + 1, 0, none⟩ (.int .i64 ow)).setCell ⟨W.heap.size + 1 + 1, 1, none⟩ (.int .i64 tr)).setCell ⟨W.heap.size + 1 + 1, 2, none⟩ (.slice A2 L c3)).setCell ⟨W.heap.size + 1 + 1, 0, none⟩ (.int .i64 owner)).cell? ⟨W.heap.size + 1 + 1, 2, none⟩ = some (.slice A2 L c3) := (blk_cell k4 2).trans rfl
                have HR4 := Aside0.mk (Kd.R_set (put3_R (x := .int .i64 ow) (y := .int .i64 tr) (z := .slice A2 L c3) HR2.out bo2 (by decide)) k3 (by decide) 0 (.int .i64 owner))
                have HB4 := Aside0.mk ((put3_B (x := .int .i64 ow) (y := .int .i64 tr) (z := .slice A2 L c3) HB2.out (show W.heap.size ≤ W.heap.size + 1 + 1 by omega)).setCell (p := ⟨W.heap.size + 1 + 1, 0, none⟩) (show W.heap.size ≤ W.heap.size + 1 + 1 by omega) (.int .i64 owner))
                have BE4 := Aside0.mk (show ((((W2.setCell ⟨W.heap.size + 1 + 1, 0, none⟩ (.int .i64 ow)).setCell ⟨W.heap.size + 1 + 1, 1, none⟩ (.int .i64 tr)).setCell ⟨W.heap.size + 1 + 1, 2, none⟩ (.slice A2 L c3)).setCell ⟨W.heap.size + 1 + 1, 0, none⟩ (.int .i64 owner)).heap[W.heap.size + 1 + 1 + 1]? = _ from (Below.heap_setCell _ _ _ _ (by intro e; simp only at e; omega)).trans ((Below.heap_setCell _ _ _ _ (by intro e; simp only at e; omega)).trans ((Below.heap_setCell _ _ _ _ (by intro e; simp only at e; omega)).trans ((Below.heap_setCell _ _ _ _ (by intro e; simp only at e; omega)).trans be2))))
                have BO4 := Aside0.mk (show ((((W2.setCell ⟨W.heap.size + 1 + 1, 0, none⟩ (.int .i64 ow)).setCell ⟨W.heap.size + 1 + 1, 1, none⟩ (.int .i64 tr)).setCell ⟨W.heap.size + 1 + 1, 2, none⟩ (.slice A2 L c3)).setCell ⟨W.heap.size + 1 + 1, 0, none⟩ (.int .i64 owner)).heap[W.heap.size + 1 + 1]? = some (.cells #[.int .i64 owner, .int .i64 tr, .slice A2 L c3] 27 (0, 0)) from k4)
                clear hR2 hb2 bo2 be2 k3 k4 HR2 HB2 BOa BEa HBa HPa HCP HLL HLN
                rw [hL]
                clear hL
                go_wp2_with fail
                have hlen : ((ps) ++ [(⟨en, id, nl⟩ : PartV)]).length = L := by rw [List.length_append]; exact HL.out
                have hC4 := (Kd.R_reads' (show Kd.R k53 53 ((((W2.setCell ⟨W.heap.size + 1 + 1, 0, none⟩ (.int .i64 ow)).setCell ⟨W.heap.size + 1 + 1, 1, none⟩ (.int .i64 tr)).setCell ⟨W.heap.size + 1 + 1, 2, none⟩ (.slice A2 L c3)).setCell ⟨W.heap.size + 1 + 1, 0, none⟩ (.int .i64 owner)) 0 (fun k => W.heap.size ≤ k) (.slice A2 ((ps) ++ [(⟨en, id, nl⟩ : PartV)]).length c3) ((ps) ++ [(⟨en, id, nl⟩ : PartV)]) from by rw [hlen]; exact HR4.out)).2.2
                have hrc := right_c owner tr n A2 c3 ((ps) ++ [(⟨en, id, nl⟩ : PartV)]) ((((W2.setCell ⟨W.heap.size + 1 + 1, 0, none⟩ (.int .i64 ow)).setCell ⟨W.heap.size + 1 + 1, 1, none⟩ (.int .i64 tr)).setCell ⟨W.heap.size + 1 + 1, 2, none⟩ (.slice A2 L c3)).setCell ⟨W.heap.size + 1 + 1, 0, none⟩ (.int .i64 owner)) hC4
                rw [hlen] at hrc
                refine hrc.mono ?_
                clear hrc hC4 hlen y' z0 z1 z2 f0 f1 f2
                generalize ((((W2.setCell ⟨W.heap.size + 1 + 1, 0, none⟩ (.int .i64 ow)).setCell ⟨W.heap.size + 1 + 1, 1, none⟩ (.int .i64 tr)).setCell ⟨W.heap.size + 1 + 1, 2, none⟩ (.slice A2 L c3)).setCell ⟨W.heap.size + 1 + 1, 0, none⟩ (.int .i64 owner)) = W4 at y0 y1 y2 HR4 HB4 BE4 BO4 ⊢
                rintro e W5 ⟨⟨hrt, rfl⟩ | ⟨hrt, rfl⟩, bel⟩
                rotate_left
                · exact door16 (blk_below BO4.out bel) (blk_below BE4.out bel) (by omega) (by omega) (by omega) (below_step HB4.out bel) rfl rfl (by rw [hx.out, hp.out]; exact if_pos hrt) (by decide)
                have HRT := Aside0.mk hrt
                have bo5 := blk_below BO4.out bel
                have be5 := blk_below BE4.out bel
                have HB5 := Aside0.mk (below_step HB4.out bel)
                have HR5 := Aside0.mk (Kd.R_below HR4.out bel)
                have w0 : W5.cell? ⟨W.heap.size + 1 + 1, 0, none⟩ = some (.int .i64 owner) := (blk_cell bo5 0).trans rfl
                have w1 : W5.cell? ⟨W.heap.size + 1 + 1, 1, none⟩ = some (.int .i64 tr) := (blk_cell bo5 1).trans rfl
                have w2 : W5.cell? ⟨W.heap.size + 1 + 1, 2, none⟩ = some (.slice A2 L c3) := (blk_cell bo5 2).trans rfl
                have w3 : W5.cell? ⟨W.heap.size + 1 + 1 + 1, 0, none⟩ = some (.int .i64 0) := (blk_cell be5 0).trans rfl
                have g0 := blk_frozen bo5 0
                have g1 := blk_frozen bo5 1
                have g2 := blk_frozen bo5 2
                have g3 := blk_frozen be5 0
                have BO5 := Aside0.mk bo5
                have BE5 := Aside0.mk be5
                clear y0 y1 y2 HR4 HB4 BE4 BO4 bel hrt bo5 be5
                go_wp2_with fail
                refine door16ok (L := L) (xs := (ps) ++ [⟨en, id, nl⟩]) ((Below.heap_setCell _ _ _ _ (by intro e; simp only at e; omega)).trans (put3 (x := .int .i64 owner) (y := .int .i64 tr) (z := .slice A2 L c3) BO5.out)) (blk_put ((Below.heap_setCell _ _ _ _ (by intro e; simp only at e; omega)).trans ((Below.heap_setCell _ _ _ _ (by intro e; simp only at e; omega)).trans ((Below.heap_setCell _ _ _ _ (by intro e; simp only at e; omega)).trans BE5.out))) 0 (.int .i64 0) rfl) ((put3_B HB5.out (by omega)).setCell (p := ⟨W.heap.size + 1 + 1 + 1, 0, none⟩) (by simp only; omega) _) rfl rfl (by rw [hx.out, hp.out]; exact if_neg (by show ¬ rightF owner tr ((ps) ++ [(⟨en, id, nl⟩ : PartV)]) n = false; rw [HRT.out]; simp)) (hp.out.trans rfl) (by rw [List.length_append]; exact HL.out.symm) ?_
                exact Kd.R_set (put3_R HR5.out BO5.out (by decide)) ((Below.heap_setCell _ _ _ _ (by intro e; simp only at e; omega)).trans ((Below.heap_setCell _ _ _ _ (by intro e; simp only at e; omega)).trans ((Below.heap_setCell _ _ _ _ (by intro e; simp only at e; omega)).trans BE5.out))) (by decide) 0 _
              · have q1 : ((ps.length : Int) == 1) = false := beq_eq_false_iff_ne.2 (by omega)
                clear qq
                have c0 : w6'.cell? ⟨W.heap.size, 0, none⟩ = some (.int .i64 ow) := (blk_cell BC7.out 0).trans rfl
                have c1 : w6'.cell? ⟨W.heap.size, 1, none⟩ = some (.int .i64 tr) := (blk_cell BC7.out 1).trans rfl
                have c2_ : w6'.cell? ⟨W.heap.size, 2, none⟩ = some (.slice A ps.length c) := (blk_cell BC7.out 2).trans rfl
                have hp := Aside0.mk (show extParts tr ps en ⟨en, id, nl⟩ = ps ++ [⟨en, id, nl⟩] by rw [extParts, if_neg (fun h => h.2.elim qe qo)])
                clear qe qo
                have n0 : w6'.cell? ⟨W.heap.size + 1, 0, none⟩ = some (.int .i64 id) := (blk_cell BN7.out 0).trans rfl
                have n1 : w6'.cell? ⟨W.heap.size + 1, 1, none⟩ = some (.slice B nl.length c2) := (blk_cell BN7.out 1).trans rfl
                go_wp2_with fail
                have HCP := Aside0.mk (C_one (heap_alloc_new w6' (.cells #[.int .i64 en, .int .i64 id, .slice B nl.length c2] 53 (0, 0))) hc2 (Kd.C_below (Kd.C_below HQ.out HB7.out) (below_alloc (Below.refl _ _) _)))
                have BOa := Aside0.mk (blk_alloc BO7.out (.cells #[.int .i64 en, .int .i64 id, .slice B nl.length c2] 53 (0, 0)))
                have BEa := Aside0.mk (blk_alloc BE7.out (.cells #[.int .i64 en, .int .i64 id, .slice B nl.length c2] 53 (0, 0)))
                have HBa := Aside0.mk (below_alloc HB7.out (.cells #[.int .i64 en, .int .i64 id, .slice B nl.length c2] 53 (0, 0)))
                have HPa := Aside0.mk (Kd.C_alloc HP7.out (.cells #[.int .i64 en, .int .i64 id, .slice B nl.length c2] 53 (0, 0)))
                have HLL := Aside0.mk (show (ps.length + ([(⟨en, id, nl⟩ : PartV)]).length) * 40 ≤ 140737488355328 from hl)
                have HLN := Aside0.mk (show ∀ p ∈ ps ++ [(⟨en, id, nl⟩ : PartV)], p.nodes.length * 8 ≤ 140737488355328 from fun p hp => (List.mem_append.1 hp).elim (HHN.out p) (fun h => by rw [List.mem_singleton] at h; rw [h]; exact hnl))
                go_wp2_with fail
                refine (cown_c ow tr A (some ⟨w6'.heap.size, 0, none⟩) c 1 (ps) [⟨en, id, nl⟩] _ HPa.out HCP.out HLL.out HLN.out).mono ?_
                rintro e W2 ⟨A2, c3, rfl, hR2, hb2⟩
                obtain ⟨L, hL⟩ : ∃ L, (ps).length + ([(⟨en, id, nl⟩ : PartV)]).length = L := ⟨_, rfl⟩
                rw [hL] at hR2
                have HL := Aside0.mk hL
                have bo2 := blk_below BOa.out hb2
                have be2 := blk_below BEa.out hb2
                have HB2 := Aside0.mk (below_step HBa.out hb2)
                have HR2 := Aside0.mk (Kd.R_mono (ok' := fun k => W.heap.size ≤ k) hR2 (fun k hk => Nat.le_trans HBa.out.size hk))
                have z0 : W2.cell? ⟨W.heap.size + 1 + 1, 0, none⟩ = some (.int .i64 0) := (blk_cell bo2 0).trans rfl
                have z1 : W2.cell? ⟨W.heap.size + 1 + 1, 1, none⟩ = some (.int .i64 0) := (blk_cell bo2 1).trans rfl
                have z2 : W2.cell? ⟨W.heap.size + 1 + 1, 2, none⟩ = some (.slice none 0 0) := (blk_cell bo2 2).trans rfl
                have f0 := blk_frozen bo2 0
                have f1 := blk_frozen bo2 1
                have f2 := blk_frozen bo2 2
                have k3 := put3 (x := .int .i64 ow) (y := .int .i64 tr) (z := .slice A2 L c3) bo2
                have k4 := blk_put k3 0 (.int .i64 owner) rfl
                have y' : (((W2.setCell ⟨W.heap.size + 1 + 1, 0, none⟩ (.int .i64 ow)).setCell ⟨W.heap.size + 1 + 1, 1, none⟩ (.int .i64 tr)).setCell ⟨W.heap.size + 1 + 1, 2, none⟩ (.slice A2 L c3)).cell? ⟨W.heap.size + 1 + 1, 0, none⟩ = some (.int .i64 ow) := (blk_cell k3 0).trans rfl
                have y0 : ((((W2.setCell ⟨W.heap.size + 1 + 1, 0, none⟩ (.int .i64 ow)).setCell ⟨W.heap.size + 1 + 1, 1, none⟩ (.int .i64 tr)).setCell ⟨W.heap.size + 1 + 1, 2, none⟩ (.slice A2 L c3)).setCell ⟨W.heap.size + 1 + 1, 0, none⟩ (.int .i64 owner)).cell? ⟨W.heap.size + 1 + 1, 0, none⟩ = some (.int .i64 owner) := (blk_cell k4 0).trans rfl
                have y1 : ((((W2.setCell ⟨W.heap.size + 1 + 1, 0, none⟩ (.int .i64 ow)).setCell ⟨W.heap.size + 1 + 1, 1, none⟩ (.int .i64 tr)).setCell ⟨W.heap.size + 1 + 1, 2, none⟩ (.slice A2 L c3)).setCell ⟨W.heap.size + 1 + 1, 0, none⟩ (.int .i64 owner)).cell? ⟨W.heap.size + 1 + 1, 1, none⟩ = some (.int .i64 tr) := (blk_cell k4 1).trans rfl
                have y2 : ((((W2.setCell ⟨W.heap.size + 1 + 1, 0, none⟩ (.int .i64 ow)).setCell ⟨W.heap.size + 1 + 1, 1, none⟩ (.int .i64 tr)).setCell ⟨W.heap.size + 1 + 1, 2, none⟩ (.slice A2 L c3)).setCell ⟨W.heap.size + 1 + 1, 0, none⟩ (.int .i64 owner)).cell? ⟨W.heap.size + 1 + 1, 2, none⟩ = some (.slice A2 L c3) := (blk_cell k4 2).trans rfl
                have HR4 := Aside0.mk (Kd.R_set (put3_R (x := .int .i64 ow) (y := .int .i64 tr) (z := .slice A2 L c3) HR2.out bo2 (by decide)) k3 (by decide) 0 (.int .i64 owner))
                have HB4 := Aside0.mk ((put3_B (x := .int .i64 ow) (y := .int .i64 tr) (z := .slice A2 L c3) HB2.out (show W.heap.size ≤ W.heap.size + 1 + 1 by omega)).setCell (p := ⟨W.heap.size + 1 + 1, 0, none⟩) (show W.heap.size ≤ W.heap.size + 1 + 1 by omega) (.int .i64 owner))
                have BE4 := Aside0.mk (show ((((W2.setCell ⟨W.heap.size + 1 + 1, 0, none⟩ (.int .i64 ow)).setCell ⟨W.heap.size + 1 + 1, 1, none⟩ (.int .i64 tr)).setCell ⟨W.heap.size + 1 + 1, 2, none⟩ (.slice A2 L c3)).setCell ⟨W.heap.size + 1 + 1, 0, none⟩ (.int .i64 owner)).heap[W.heap.size + 1 + 1 + 1]? = _ from (Below.heap_setCell _ _ _ _ (by intro e; simp only at e; omega)).trans ((Below.heap_setCell _ _ _ _ (by intro e; simp only at e; omega)).trans ((Below.heap_setCell _ _ _ _ (by intro e; simp only at e; omega)).trans ((Below.heap_setCell _ _ _ _ (by intro e; simp only at e; omega)).trans be2))))
                have BO4 := Aside0.mk (show ((((W2.setCell ⟨W.heap.size + 1 + 1, 0, none⟩ (.int .i64 ow)).setCell ⟨W.heap.size + 1 + 1, 1, none⟩ (.int .i64 tr)).setCell ⟨W.heap.size + 1 + 1, 2, none⟩ (.slice A2 L c3)).setCell ⟨W.heap.size + 1 + 1, 0, none⟩ (.int .i64 owner)).heap[W.heap.size + 1 + 1]? = some (.cells #[.int .i64 owner, .int .i64 tr, .slice A2 L c3] 27 (0, 0)) from k4)
                clear hR2 hb2 bo2 be2 k3 k4 HR2 HB2 BOa BEa HBa HPa HCP HLL HLN
                rw [hL]
                clear hL
                go_wp2_with fail
                have hlen : ((ps) ++ [(⟨en, id, nl⟩ : PartV)]).length = L := by rw [List.length_append]; exact HL.out
                have hC4 := (Kd.R_reads' (show Kd.R k53 53 ((((W2.setCell ⟨W.heap.size + 1 + 1, 0, none⟩ (.int .i64 ow)).setCell ⟨W.heap.size + 1 + 1, 1, none⟩ (.int .i64 tr)).setCell ⟨W.heap.size + 1 + 1, 2, none⟩ (.slice A2 L c3)).setCell ⟨W.heap.size + 1 + 1, 0, none⟩ (.int .i64 owner)) 0 (fun k => W.heap.size ≤ k) (.slice A2 ((ps) ++ [(⟨en, id, nl⟩ : PartV)]).length c3) ((ps) ++ [(⟨en, id, nl⟩ : PartV)]) from by rw [hlen]; exact HR4.out)).2.2
                have hrc := right_c owner tr n A2 c3 ((ps) ++ [(⟨en, id, nl⟩ : PartV)]) ((((W2.setCell ⟨W.heap.size + 1 + 1, 0, none⟩ (.int .i64 ow)).setCell ⟨W.heap.size + 1 + 1, 1, none⟩ (.int .i64 tr)).setCell ⟨W.heap.size + 1 + 1, 2, none⟩ (.slice A2 L c3)).setCell ⟨W.heap.size + 1 + 1, 0, none⟩ (.int .i64 owner)) hC4
                rw [hlen] at hrc
                refine hrc.mono ?_
                clear hrc hC4 hlen y' z0 z1 z2 f0 f1 f2
                generalize ((((W2.setCell ⟨W.heap.size + 1 + 1, 0, none⟩ (.int .i64 ow)).setCell ⟨W.heap.size + 1 + 1, 1, none⟩ (.int .i64 tr)).setCell ⟨W.heap.size + 1 + 1, 2, none⟩ (.slice A2 L c3)).setCell ⟨W.heap.size + 1 + 1, 0, none⟩ (.int .i64 owner)) = W4 at y0 y1 y2 HR4 HB4 BE4 BO4 ⊢
                rintro e W5 ⟨⟨hrt, rfl⟩ | ⟨hrt, rfl⟩, bel⟩
                rotate_left
                · exact door16 (blk_below BO4.out bel) (blk_below BE4.out bel) (by omega) (by omega) (by omega) (below_step HB4.out bel) rfl rfl (by rw [hx.out, hp.out]; exact if_pos hrt) (by decide)
                have HRT := Aside0.mk hrt
                have bo5 := blk_below BO4.out bel
                have be5 := blk_below BE4.out bel
                have HB5 := Aside0.mk (below_step HB4.out bel)
                have HR5 := Aside0.mk (Kd.R_below HR4.out bel)
                have w0 : W5.cell? ⟨W.heap.size + 1 + 1, 0, none⟩ = some (.int .i64 owner) := (blk_cell bo5 0).trans rfl
                have w1 : W5.cell? ⟨W.heap.size + 1 + 1, 1, none⟩ = some (.int .i64 tr) := (blk_cell bo5 1).trans rfl
                have w2 : W5.cell? ⟨W.heap.size + 1 + 1, 2, none⟩ = some (.slice A2 L c3) := (blk_cell bo5 2).trans rfl
                have w3 : W5.cell? ⟨W.heap.size + 1 + 1 + 1, 0, none⟩ = some (.int .i64 0) := (blk_cell be5 0).trans rfl
                have g0 := blk_frozen bo5 0
                have g1 := blk_frozen bo5 1
                have g2 := blk_frozen bo5 2
                have g3 := blk_frozen be5 0
                have BO5 := Aside0.mk bo5
                have BE5 := Aside0.mk be5
                clear y0 y1 y2 HR4 HB4 BE4 BO4 bel hrt bo5 be5
                go_wp2_with fail
                refine door16ok (L := L) (xs := (ps) ++ [⟨en, id, nl⟩]) ((Below.heap_setCell _ _ _ _ (by intro e; simp only at e; omega)).trans (put3 (x := .int .i64 owner) (y := .int .i64 tr) (z := .slice A2 L c3) BO5.out)) (blk_put ((Below.heap_setCell _ _ _ _ (by intro e; simp only at e; omega)).trans ((Below.heap_setCell _ _ _ _ (by intro e; simp only at e; omega)).trans ((Below.heap_setCell _ _ _ _ (by intro e; simp only at e; omega)).trans BE5.out))) 0 (.int .i64 0) rfl) ((put3_B HB5.out (by omega)).setCell (p := ⟨W.heap.size + 1 + 1 + 1, 0, none⟩) (by simp only; omega) _) rfl rfl (by rw [hx.out, hp.out]; exact if_neg (by show ¬ rightF owner tr ((ps) ++ [(⟨en, id, nl⟩ : PartV)]) n = false; rw [HRT.out]; simp)) (hp.out.trans rfl) (by rw [List.length_append]; exact HL.out.symm) ?_
                exact Kd.R_set (put3_R HR5.out BO5.out (by decide)) ((Below.heap_setCell _ _ _ _ (by intro e; simp only at e; omega)).trans ((Below.heap_setCell _ _ _ _ (by intro e; simp only at e; omega)).trans ((Below.heap_setCell _ _ _ _ (by intro e; simp only at e; omega)).trans BE5.out))) (by decide) 0 _
          · have qe : lastF ps = en ∨ ps.length = 1 ∧ tr = en := .inl (beq_iff_eq.1 HEMP.out)
            have c0 : w6'.cell? ⟨W.heap.size, 0, none⟩ = some (.int .i64 ow) := (blk_cell BC7.out 0).trans rfl
            have c1 : w6'.cell? ⟨W.heap.size, 1, none⟩ = some (.int .i64 tr) := (blk_cell BC7.out 1).trans rfl
            have c2_ : w6'.cell? ⟨W.heap.size, 2, none⟩ = some (.slice A ps.length c) := (blk_cell BC7.out 2).trans rfl
            obtain ⟨P, hP⟩ : ∃ P, ps.take (ps.length - 1) = P := ⟨_, rfl⟩
            have hPl : P.length = ps.length - 1 := by rw [← hP, List.length_take]; omega
            have hp := Aside0.mk (show extParts tr ps en ⟨en, id, nl⟩ = P ++ [⟨en, id, nl⟩] by rw [extParts, if_pos ⟨HPN.out, qe⟩, hP])
            clear qe
            have hcl : decide ((ps.length : Int) - 1 ≤ (c : Int)) = true := decide_eq_true (by omega)
            have fz := blk_frozen BC7.out 2
            have BC8 := Aside0.mk (blk_put BC7.out 2 (.slice A (ps.length - 1) c) rfl)
            have HPP := Aside0.mk (show Kd.C k53 W A P.length P from by rw [← hP]; exact Kd.C_take HR.out (Nat.sub_le _ _))
            have HB8 := Aside0.mk (HB7.out.setCell (p := ⟨W.heap.size, 2, none⟩) (Nat.le_refl _) (.slice A (ps.length - 1) c))
            have HP8 := Aside0.mk (Kd.C_below HPP.out HB8.out)
            have BO8 := Aside0.mk (show (w6'.setCell ⟨W.heap.size, 2, none⟩ (.slice A (ps.length - 1) c)).heap[W.heap.size + 1 + 1]? = _ from (Below.heap_setCell _ _ _ _ (by intro e; simp only at e; omega)).trans BO7.out)
            have BE8 := Aside0.mk (show (w6'.setCell ⟨W.heap.size, 2, none⟩ (.slice A (ps.length - 1) c)).heap[W.heap.size + 1 + 1 + 1]? = _ from (Below.heap_setCell _ _ _ _ (by intro e; simp only at e; omega)).trans BE7.out)
            have BN8 := Aside0.mk (show (w6'.setCell ⟨W.heap.size, 2, none⟩ (.slice A (ps.length - 1) c)).heap[W.heap.size + 1]? = _ from (Below.heap_setCell _ _ _ _ (by intro e; simp only at e; omega)).trans BN7.out)
            have d0 : (w6'.setCell ⟨W.heap.size, 2, none⟩ (.slice A (ps.length - 1) c)).cell? ⟨W.heap.size, 0, none⟩ = some (.int .i64 ow) := (blk_cell BC8.out 0).trans rfl
            have d1 : (w6'.setCell ⟨W.heap.size, 2, none⟩ (.slice A (ps.length - 1) c)).cell? ⟨W.heap.size, 1, none⟩ = some (.int .i64 tr) := (blk_cell BC8.out 1).trans rfl
            have d2 : (w6'.setCell ⟨W.heap.size, 2, none⟩ (.slice A (ps.length - 1) c)).cell? ⟨W.heap.size, 2, none⟩ = some (.slice A (ps.length - 1) c) := (blk_cell BC8.out 2).trans rfl
            have n0 : (w6'.setCell ⟨W.heap.size, 2, none⟩ (.slice A (ps.length - 1) c)).cell? ⟨W.heap.size + 1, 0, none⟩ = some (.int .i64 id) := (blk_cell BN8.out 0).trans rfl
            have n1 : (w6'.setCell ⟨W.heap.size, 2, none⟩ (.slice A (ps.length - 1) c)).cell? ⟨W.heap.size + 1, 1, none⟩ = some (.slice B nl.length c2) := (blk_cell BN8.out 1).trans rfl
            have HHP := Aside0.mk (show ∀ p ∈ P, p ∈ ps from fun p hp => List.mem_of_mem_take (hP ▸ hp))
            clear hP
            have HPL := Aside0.mk hPl
            clear hPl
            go_wp2_with fail
            obtain ⟨W8, hW8⟩ : ∃ W8, (w6'.setCell ⟨W.heap.size, 2, none⟩ (.slice A (ps.length - 1) c)) = W8 := ⟨_, rfl⟩
            have hsz : w6'.heap.size = W8.heap.size := by rw [← hW8]; simp
            rw [hW8, hsz, ← HPL.out]
            clear d0 d1 d2 n0 n1 c0 c1 c2_ fz
            have BO9 := Aside0.mk (show W8.heap[W.heap.size + 1 + 1]? = some (.cells #[.int .i64 0, .int .i64 0, .slice none 0 0] 27 (0, 0)) by rw [← hW8]; exact BO8.out)
            have BE9 := Aside0.mk (show W8.heap[W.heap.size + 1 + 1 + 1]? = some (.cells #[.int .i64 0] 37 (0, 0)) by rw [← hW8]; exact BE8.out)
            have HB9 := Aside0.mk (show Below W.heap.size W W8 by rw [← hW8]; exact HB8.out)
            have HP9 := Aside0.mk (show Kd.C k53 W8 A P.length P by rw [← hW8]; exact HP8.out)
            clear hW8 hsz BC7 BN7 BO7 BE7 HB7 HP7 BC8 BO8 BE8 BN8 HB8 HP8 HPP hcl
            have HCP := Aside0.mk (C_one (heap_alloc_new W8 (.cells #[.int .i64 en, .int .i64 id, .slice B nl.length c2] 53 (0, 0))) hc2 (Kd.C_below (Kd.C_below HQ.out HB9.out) (below_alloc (Below.refl _ _) _)))
            have BOa := Aside0.mk (blk_alloc BO9.out (.cells #[.int .i64 en, .int .i64 id, .slice B nl.length c2] 53 (0, 0)))
            have BEa := Aside0.mk (blk_alloc BE9.out (.cells #[.int .i64 en, .int .i64 id, .slice B nl.length c2] 53 (0, 0)))
            have HBa := Aside0.mk (below_alloc HB9.out (.cells #[.int .i64 en, .int .i64 id, .slice B nl.length c2] 53 (0, 0)))
            have HPa := Aside0.mk (Kd.C_alloc HP9.out (.cells #[.int .i64 en, .int .i64 id, .slice B nl.length c2] 53 (0, 0)))
            have HLL := Aside0.mk (show (P.length + ([(⟨en, id, nl⟩ : PartV)]).length) * 40 ≤ 140737488355328 by have := HPL.out; simp only [List.length_singleton]; omega)
            have HLN := Aside0.mk (show ∀ p ∈ P ++ [(⟨en, id, nl⟩ : PartV)], p.nodes.length * 8 ≤ 140737488355328 from fun p hp => (List.mem_append.1 hp).elim (fun h => HHN.out p (HHP.out p h)) (fun h => by rw [List.mem_singleton] at h; rw [h]; exact hnl))
            go_wp2_with fail
            refine (cown_c ow tr A (some ⟨W8.heap.size, 0, none⟩) c 1 (P) [⟨en, id, nl⟩] _ HPa.out HCP.out HLL.out HLN.out).mono ?_
            rintro e W2 ⟨A2, c3, rfl, hR2, hb2⟩
            obtain ⟨L, hL⟩ : ∃ L, (P).length + ([(⟨en, id, nl⟩ : PartV)]).length = L := ⟨_, rfl⟩
            rw [hL] at hR2
            have HL := Aside0.mk hL
            have bo2 := blk_below BOa.out hb2
            have be2 := blk_below BEa.out hb2
            have HB2 := Aside0.mk (below_step HBa.out hb2)
            have HR2 := Aside0.mk (Kd.R_mono (ok' := fun k => W.heap.size ≤ k) hR2 (fun k hk => Nat.le_trans HBa.out.size hk))
            have z0 : W2.cell? ⟨W.heap.size + 1 + 1, 0, none⟩ = some (.int .i64 0) := (blk_cell bo2 0).trans rfl
            have z1 : W2.cell? ⟨W.heap.size + 1 + 1, 1, none⟩ = some (.int .i64 0) := (blk_cell bo2 1).trans rfl
            have z2 : W2.cell? ⟨W.heap.size + 1 + 1, 2, none⟩ = some (.slice none 0 0) := (blk_cell bo2 2).trans rfl
            have f0 := blk_frozen bo2 0
            have f1 := blk_frozen bo2 1
            have f2 := blk_frozen bo2 2
            have k3 := put3 (x := .int .i64 ow) (y := .int .i64 tr) (z := .slice A2 L c3) bo2
            have k4 := blk_put k3 0 (.int .i64 owner) rfl
            have y' : (((W2.setCell ⟨W.heap.size + 1 + 1, 0, none⟩ (.int .i64 ow)).setCell ⟨W.heap.size + 1 + 1, 1, none⟩ (.int .i64 tr)).setCell ⟨W.heap.size + 1 + 1, 2, none⟩ (.slice A2 L c3)).cell? ⟨W.heap.size + 1 + 1, 0, none⟩ = some (.int .i64 ow) := (blk_cell k3 0).trans rfl
            have y0 : ((((W2.setCell ⟨W.heap.size + 1 + 1, 0, none⟩ (.int .i64 ow)).setCell ⟨W.heap.size + 1 + 1, 1, none⟩ (.int .i64 tr)).setCell ⟨W.heap.size + 1 + 1, 2, none⟩ (.slice A2 L c3)).setCell ⟨W.heap.size + 1 + 1, 0, none⟩ (.int .i64 owner)).cell? ⟨W.heap.size + 1 + 1, 0, none⟩ = some (.int .i64 owner) := (blk_cell k4 0).trans rfl
            have y1 : ((((W2.setCell ⟨W.heap.size + 1 + 1, 0, none⟩ (.int .i64 ow)).setCell ⟨W.heap.size + 1 + 1, 1, none⟩ (.int .i64 tr)).setCell ⟨W.heap.size + 1 + 1, 2, none⟩ (.slice A2 L c3)).setCell ⟨W.heap.size + 1 + 1, 0, none⟩ (.int .i64 owner)).cell? ⟨W.heap.size + 1 + 1, 1, none⟩ = some (.int .i64 tr) := (blk_cell k4 1).trans rfl
            have y2 : ((((W2.setCell ⟨W.heap.size + 1 + 1, 0, none⟩ (.int .i64 ow)).setCell ⟨W.heap.size + 1 + 1, 1, none⟩ (.int .i64 tr)).setCell ⟨W.heap.size + 1 + 1, 2, none⟩ (.slice A2 L c3)).setCell ⟨W.heap.size + 1 + 1, 0, none⟩ (.int .i64 owner)).cell? ⟨W.heap.size + 1 + 1, 2, none⟩ = some (.slice A2 L c3) := (blk_cell k4 2).trans rfl
            have HR4 := Aside0.mk (Kd.R_set (put3_R (x := .int .i64 ow) (y := .int .i64 tr) (z := .slice A2 L c3) HR2.out bo2 (by decide)) k3 (by decide) 0 (.int .i64 owner))
            have HB4 := Aside0.mk ((put3_B (x := .int .i64 ow) (y := .int .i64 tr) (z := .slice A2 L c3) HB2.out (show W.heap.size ≤ W.heap.size + 1 + 1 by omega)).setCell (p := ⟨W.heap.size + 1 + 1, 0, none⟩) (show W.heap.size ≤ W.heap.size + 1 + 1 by omega) (.int .i64 owner))
            have BE4 := Aside0.mk (show ((((W2.setCell ⟨W.heap.size + 1 + 1, 0, none⟩ (.int .i64 ow)).setCell ⟨W.heap.size + 1 + 1, 1, none⟩ (.int .i64 tr)).setCell ⟨W.heap.size + 1 + 1, 2, none⟩ (.slice A2 L c3)).setCell ⟨W.heap.size + 1 + 1, 0, none⟩ (.int .i64 owner)).heap[W.heap.size + 1 + 1 + 1]? = _ from (Below.heap_setCell _ _ _ _ (by intro e; simp only at e; omega)).trans ((Below.heap_setCell _ _ _ _ (by intro e; simp only at e; omega)).trans ((Below.heap_setCell _ _ _ _ (by intro e; simp only at e; omega)).trans ((Below.heap_setCell _ _ _ _ (by intro e; simp only at e; omega)).trans be2))))
            have BO4 := Aside0.mk (show ((((W2.setCell ⟨W.heap.size + 1 + 1, 0, none⟩ (.int .i64 ow)).setCell ⟨W.heap.size + 1 + 1, 1, none⟩ (.int .i64 tr)).setCell ⟨W.heap.size + 1 + 1, 2, none⟩ (.slice A2 L c3)).setCell ⟨W.heap.size + 1 + 1, 0, none⟩ (.int .i64 owner)).heap[W.heap.size + 1 + 1]? = some (.cells #[.int .i64 owner, .int .i64 tr, .slice A2 L c3] 27 (0, 0)) from k4)
            clear hR2 hb2 bo2 be2 k3 k4 HR2 HB2 BOa BEa HBa HPa HCP HLL HLN
            rw [hL]
            clear hL
            go_wp2_with fail
            have hlen : ((P) ++ [(⟨en, id, nl⟩ : PartV)]).length = L := by rw [List.length_append]; exact HL.out
            have hC4 := (Kd.R_reads' (show Kd.R k53 53 ((((W2.setCell ⟨W.heap.size + 1 + 1, 0, none⟩ (.int .i64 ow)).setCell ⟨W.heap.size + 1 + 1, 1, none⟩ (.int .i64 tr)).setCell ⟨W.heap.size + 1 + 1, 2, none⟩ (.slice A2 L c3)).setCell ⟨W.heap.size + 1 + 1, 0, none⟩ (.int .i64 owner)) 0 (fun k => W.heap.size ≤ k) (.slice A2 ((P) ++ [(⟨en, id, nl⟩ : PartV)]).length c3) ((P) ++ [(⟨en, id, nl⟩ : PartV)]) from by rw [hlen]; exact HR4.out)).2.2
            have hrc := right_c owner tr n A2 c3 ((P) ++ [(⟨en, id, nl⟩ : PartV)]) ((((W2.setCell ⟨W.heap.size + 1 + 1, 0, none⟩ (.int .i64 ow)).setCell ⟨W.heap.size + 1 + 1, 1, none⟩ (.int .i64 tr)).setCell ⟨W.heap.size + 1 + 1, 2, none⟩ (.slice A2 L c3)).setCell ⟨W.heap.size + 1 + 1, 0, none⟩ (.int .i64 owner)) hC4
            rw [hlen] at hrc
            refine hrc.mono ?_
            clear hrc hC4 hlen y' z0 z1 z2 f0 f1 f2
            generalize ((((W2.setCell ⟨W.heap.size + 1 + 1, 0, none⟩ (.int .i64 ow)).setCell ⟨W.heap.size + 1 + 1, 1, none⟩ (.int .i64 tr)).setCell ⟨W.heap.size + 1 + 1, 2, none⟩ (.slice A2 L c3)).setCell ⟨W.heap.size + 1 + 1, 0, none⟩ (.int .i64 owner)) = W4 at y0 y1 y2 HR4 HB4 BE4 BO4 ⊢
            rintro e W5 ⟨⟨hrt, rfl⟩ | ⟨hrt, rfl⟩, bel⟩
            rotate_left
            · exact door16 (blk_below BO4.out bel) (blk_below BE4.out bel) (by omega) (by omega) (by omega) (below_step HB4.out bel) rfl rfl (by rw [hx.out, hp.out]; exact if_pos hrt) (by decide)
            have HRT := Aside0.mk hrt
            have bo5 := blk_below BO4.out bel
            have be5 := blk_below BE4.out bel
            have HB5 := Aside0.mk (below_step HB4.out bel)
            have HR5 := Aside0.mk (Kd.R_below HR4.out bel)
            have w0 : W5.cell? ⟨W.heap.size + 1 + 1, 0, none⟩ = some (.int .i64 owner) := (blk_cell bo5 0).trans rfl
            have w1 : W5.cell? ⟨W.heap.size + 1 + 1, 1, none⟩ = some (.int .i64 tr) := (blk_cell bo5 1).trans rfl
            have w2 : W5.cell? ⟨W.heap.size + 1 + 1, 2, none⟩ = some (.slice A2 L c3) := (blk_cell bo5 2).trans rfl
            have w3 : W5.cell? ⟨W.heap.size + 1 + 1 + 1, 0, none⟩ = some (.int .i64 0) := (blk_cell be5 0).trans rfl
            have g0 := blk_frozen bo5 0
            have g1 := blk_frozen bo5 1
            have g2 := blk_frozen bo5 2
            have g3 := blk_frozen be5 0
            have BO5 := Aside0.mk bo5
            have BE5 := Aside0.mk be5
            clear y0 y1 y2 HR4 HB4 BE4 BO4 bel hrt bo5 be5
            go_wp2_with fail
            refine door16ok (L := L) (xs := (P) ++ [⟨en, id, nl⟩]) ((Below.heap_setCell _ _ _ _ (by intro e; simp only at e; omega)).trans (put3 (x := .int .i64 owner) (y := .int .i64 tr) (z := .slice A2 L c3) BO5.out)) (blk_put ((Below.heap_setCell _ _ _ _ (by intro e; simp only at e; omega)).trans ((Below.heap_setCell _ _ _ _ (by intro e; simp only at e; omega)).trans ((Below.heap_setCell _ _ _ _ (by intro e; simp only at e; omega)).trans BE5.out))) 0 (.int .i64 0) rfl) ((put3_B HB5.out (by omega)).setCell (p := ⟨W.heap.size + 1 + 1 + 1, 0, none⟩) (by simp only; omega) _) rfl rfl (by rw [hx.out, hp.out]; exact if_neg (by show ¬ rightF owner tr ((P) ++ [(⟨en, id, nl⟩ : PartV)]) n = false; rw [HRT.out]; simp)) (hp.out.trans rfl) (by rw [List.length_append]; exact HL.out.symm) ?_
            exact Kd.R_set (put3_R HR5.out BO5.out (by decide)) ((Below.heap_setCell _ _ _ _ (by intro e; simp only at e; omega)).trans ((Below.heap_setCell _ _ _ _ (by intro e; simp only at e; omega)).trans ((Below.heap_setCell _ _ _ _ (by intro e; simp only at e; omega)).trans BE5.out))) (by decide) 0 _
        · have hx := Aside0.mk (show extErr ow tr ps n owner en ⟨en, id, nl⟩ = 1 by rw [HXE.out, if_pos (fun h => m2 h.2)])
          have hm2 : decide (en ≤ lf + 4096) = false := decide_eq_false m2
          refine start_ (n := 15) (S := fun w' => w'.cell? ⟨W.heap.size, 0, none⟩ = some (.int .i64 ow) ∧ w'.cell? ⟨W.heap.size, 1, none⟩ = some (.int .i64 tr) ∧ w'.cell? ⟨W.heap.size, 2, none⟩ = some (.slice A ps.length c)) (ds := []) #[false, false, false, false, false, false, false, false, false, false, false, false, false, false, false] (by kernel_rfl) rfl rfl ⟨(blk_cell BC5.out 0).trans rfl, (blk_cell BC5.out 1).trans rfl, (blk_cell BC5.out 2).trans rfl⟩ (fun hHeld => ?_); refine with_tabW tabE8 bitsE8 (fun HT_ HW_ => ?_)
          generalize hwd : w2.drew = Wd at BC5 BN5 BO5 BE5 HB5 HP5 hHeld ⊢
          clear hwd
          refine pure_ (i := 0) (N := (some 40)) (v := ?_) (a' := ?_) #[true, false, false, false, false, false, false, false, false, false, false, false, false, false, false] rfl rfl (any_of HT_.out (by kernel_rfl)) (fun _ _ _ h => put16 40 (by decide) h) (Or.inl ⟨by rfl, ?_⟩) ?_ ?_
          rotate_left
          · intro w'
            go_simp
            with_reducible rfl
          rotate_left
          · simp only [Act.put, List.setIfInBounds_toArray, List.set_cons_zero, List.set_cons_succ, i64_w, i32_w]
            rfl
          refine take_ (i := 1) (N := (some 41)) (v := ?_) (a' := ?_) #[true, true, false, false, false, false, false, false, false, false, false, false, false, false, false] rfl rfl (take_ofW HT_.out HW_.out (by kernel_rfl)) (fun _ _ _ h => put16 41 (by decide) h) (Or.inl ⟨by rfl, ?_⟩) hHeld ?_ ?_
          rotate_left
          · rintro w' ⟨s0, s1, s2⟩
            go_simp
            with_reducible rfl
          rotate_left
          · simp only [Act.put, List.setIfInBounds_toArray, List.set_cons_zero, List.set_cons_succ, i64_w, i32_w]
            rfl
          refine pure_ (i := 3) (N := (some 43)) (v := ?_) (a' := ?_) #[true, true, false, true, false, false, false, false, false, false, false, false, false, false, false] rfl rfl (any_of HT_.out (by kernel_rfl)) (fun _ _ _ h => put16 43 (by decide) h) (Or.inl ⟨by rfl, ?_⟩) ?_ ?_
          rotate_left
          · intro w'
            go_simp
            with_reducible rfl
          rotate_left
          · simp only [Act.put, List.setIfInBounds_toArray, List.set_cons_zero, List.set_cons_succ, i64_w, i32_w]
            rfl
          refine take_ (i := 4) (N := (some 44)) (v := ?_) (a' := ?_) #[true, true, false, true, true, false, false, false, false, false, false, false, false, false, false] rfl rfl (take_ofW HT_.out HW_.out (by kernel_rfl)) (fun _ _ _ h => put16 44 (by decide) h) (Or.inl ⟨by rfl, ?_⟩) hHeld ?_ ?_
          rotate_left
          · rintro w' ⟨s0, s1, s2⟩
            go_simp
            with_reducible rfl
          rotate_left
          · simp only [Act.put, List.setIfInBounds_toArray, List.set_cons_zero, List.set_cons_succ, i64_w, i32_w]
            rfl
          refine one_ (i := 2) (N := (some 42)) #[true, true, true, true, true, false, false, false, false, false, false, false, false, false, false] rfl rfl (one_of HT_.out (by kernel_rfl)) (by decide) (fun K hK => ?_)
          refine goes_ Try.func35 (by kernel_rfl) rfl #[.agg #[.int .i64 ow, .int .i64 tr, .slice A ps.length c]] (by rfl) rfl rfl (by (try simp only [List.map_toArray, List.map_cons, List.map_nil]); first | done | rfl) ?_
          refine (LAST Wd HP5.out).mono ?_
          rintro e w5' ⟨rfl, hbL⟩
          refine ⟨_, rfl, ?_⟩
          have BC6 := Aside0.mk (blk_below BC5.out hbL)
          have BN6 := Aside0.mk (blk_below BN5.out hbL)
          have BO6 := Aside0.mk (blk_below BO5.out hbL)
          have BE6 := Aside0.mk (blk_below BE5.out hbL)
          have HB6 := Aside0.mk (below_step HB5.out hbL)
          have HP6 := Aside0.mk (Kd.C_below HP5.out hbL)
          clear hbL BC5 BN5 BO5 BE5 HB5 HP5
          refine hK.out _ _ ⟨(blk_cell BC6.out 0).trans rfl, (blk_cell BC6.out 1).trans rfl, (blk_cell BC6.out 2).trans rfl⟩ (fun hHeld => ?_)
          clear hK K
          refine norm_ (a' := ?_) ?_ ?_
          rotate_left
          · show Act.put _ (some 42) _ = _
            simp only [Act.put, List.setIfInBounds_toArray, List.set_cons_zero, List.set_cons_succ, i64_w, i32_w]
            rfl
          refine pure_ (i := 5) (N := (some 45)) (v := ?_) (a' := ?_) #[true, true, true, true, true, true, false, false, false, false, false, false, false, false, false] rfl rfl (any_of HT_.out (by kernel_rfl)) (fun _ _ _ h => put16 45 (by decide) h) (Or.inl ⟨by rfl, ?_⟩) ?_ ?_
          rotate_left
          · intro w'
            go_simp
            with_reducible rfl
          rotate_left
          · simp only [Act.put, List.setIfInBounds_toArray, List.set_cons_zero, List.set_cons_succ, i64_w, i32_w]
            rfl
          refine pure_ (i := 6) (N := (some 46)) (v := ?_) (a' := ?_) #[true, true, true, true, true, true, true, false, false, false, false, false, false, false, false] rfl rfl (any_of HT_.out (by kernel_rfl)) (fun _ _ _ h => put16 46 (by decide) h) (Or.inl ⟨by rfl, ?_⟩) ?_ ?_
          rotate_left
          · intro w'
            go_simp
            with_reducible rfl
          rotate_left
          · simp only [Act.put, List.setIfInBounds_toArray, List.set_cons_zero, List.set_cons_succ, i64_w, i32_w]
            rfl
          refine pure_ (i := 7) (N := (some 47)) (v := ?_) (a' := ?_) #[true, true, true, true, true, true, true, true, false, false, false, false, false, false, false] rfl rfl (any_of HT_.out (by kernel_rfl)) (fun _ _ _ h => put16 47 (by decide) h) (Or.inl ⟨by rfl, ?_⟩) ?_ ?_
          rotate_left
          · intro w'
            go_simp
            with_reducible rfl
          rotate_left
          · simp only [Act.put, List.setIfInBounds_toArray, List.set_cons_zero, List.set_cons_succ, i64_w, i32_w]
            rfl
          refine pure_ (i := 8) (N := (some 48)) (v := ?_) (a' := ?_) #[true, true, true, true, true, true, true, true, true, false, false, false, false, false, false] rfl rfl (any_of HT_.out (by kernel_rfl)) (fun _ _ _ h => put16 48 (by decide) h) (Or.inl ⟨by rfl, ?_⟩) ?_ ?_
          rotate_left
          · intro w'
            go_simp
            with_reducible rfl
          rotate_left
          · simp only [Act.put, List.setIfInBounds_toArray, List.set_cons_zero, List.set_cons_succ, i64_w, i32_w]
            rfl
          refine take_ (i := 9) (N := (some 49)) (v := ?_) (a' := ?_) #[true, true, true, true, true, true, true, true, true, true, false, false, false, false, false] rfl rfl (take_ofW HT_.out HW_.out (by kernel_rfl)) (fun _ _ _ h => put16 49 (by decide) h) (Or.inl ⟨by rfl, ?_⟩) hHeld ?_ ?_
          rotate_left
          · rintro w' ⟨s0, s1, s2⟩
            go_simp
            with_reducible rfl
          rotate_left
          · simp only [Act.put, List.setIfInBounds_toArray, List.set_cons_zero, List.set_cons_succ, i64_w, i32_w]
            rfl
          refine one_ (i := 10) (N := (some 50)) #[true, true, true, true, true, true, true, true, true, true, true, false, false, false, false] rfl rfl (one_of HT_.out (by kernel_rfl)) (by decide) (fun K hK => ?_)
          refine goes_ Try.func35 (by kernel_rfl) rfl #[.agg #[.int .i64 ow, .int .i64 tr, .slice A ps.length c]] (by rfl) rfl rfl (by (try simp only [List.map_toArray, List.map_cons, List.map_nil]); first | done | rfl) ?_
          refine (LAST w5' HP6.out).mono ?_
          rintro e w6' ⟨rfl, hbL⟩
          refine ⟨_, rfl, ?_⟩
          have BC7 := Aside0.mk (blk_below BC6.out hbL)
          have BN7 := Aside0.mk (blk_below BN6.out hbL)
          have BO7 := Aside0.mk (blk_below BO6.out hbL)
          have BE7 := Aside0.mk (blk_below BE6.out hbL)
          have HB7 := Aside0.mk (below_step HB6.out hbL)
          have HP7 := Aside0.mk (Kd.C_below HP6.out hbL)
          clear hbL BC6 BN6 BO6 BE6 HB6 HP6
          refine hK.out _ _ ⟨(blk_cell BC7.out 0).trans rfl, (blk_cell BC7.out 1).trans rfl, (blk_cell BC7.out 2).trans rfl⟩ (fun hHeld => ?_)
          clear hK K
          refine norm_ (a' := ?_) ?_ ?_
          rotate_left
          · show Act.put _ (some 50) _ = _
            simp only [Act.put, List.setIfInBounds_toArray, List.set_cons_zero, List.set_cons_succ, i64_w, i32_w]
            rfl
          refine pure_ (i := 11) (N := (some 51)) (v := ?_) (a' := ?_) #[true, true, true, true, true, true, true, true, true, true, true, true, false, false, false] rfl rfl (any_of HT_.out (by kernel_rfl)) (fun _ _ _ h => put16 51 (by decide) h) (Or.inl ⟨by rfl, ?_⟩) ?_ ?_
          rotate_left
          · intro w'
            go_simp
            with_reducible rfl
          rotate_left
          · simp only [Act.put, List.setIfInBounds_toArray, List.set_cons_zero, List.set_cons_succ, i64_w, i32_w]
            rfl
          refine pure_ (i := 12) (N := (some 52)) (v := ?_) (a' := ?_) #[true, true, true, true, true, true, true, true, true, true, true, true, true, false, false] rfl rfl (any_of HT_.out (by kernel_rfl)) (fun _ _ _ h => put16 52 (by decide) h) (Or.inl ⟨by rfl, ?_⟩) ?_ ?_
          rotate_left
          · intro w'
            go_simp
            with_reducible rfl
          rotate_left
          · simp only [Act.put, List.setIfInBounds_toArray, List.set_cons_zero, List.set_cons_succ, i64_w, i32_w]
            rfl
          refine pure_ (i := 13) (N := (some 53)) (v := ?_) (a' := ?_) #[true, true, true, true, true, true, true, true, true, true, true, true, true, true, false] rfl rfl (any_of HT_.out (by kernel_rfl)) (fun _ _ _ h => put16 53 (by decide) h) (Or.inl ⟨by rfl, ?_⟩) ?_ ?_
          rotate_left
          · intro w'
            go_simp
            with_reducible rfl
          rotate_left
          · simp only [Act.put, List.setIfInBounds_toArray, List.set_cons_zero, List.set_cons_succ, i64_w, i32_w]
            rfl
          refine one_ (i := 14) (N := (some 54)) #[true, true, true, true, true, true, true, true, true, true, true, true, true, true, true] rfl rfl (one_of HT_.out (by kernel_rfl)) (by decide) (fun K hK => ?_)
          refine dies_ Try.func36 (by kernel_rfl) rfl #[.bool false, .int .i64 1] (by rfl) rfl rfl (by (try simp only [List.map_toArray, List.map_cons, List.map_nil]); first | done | rfl) ?_
          refine (demand_no 1 _).mono ?_
          rintro e w7 ⟨rfl, rfl⟩
          refine ⟨_, rfl, ?_⟩
          exact door16 BO7.out BE7.out (by omega) (by omega) (by omega) HB7.out rfl rfl hx.out (by decide)
      · have hx := Aside0.mk (show extErr ow tr ps n owner en ⟨en, id, nl⟩ = 1 by rw [HXE.out, if_pos (fun h => m1 h.1)])
        have hm1 : decide (max lf tr ≤ en) = false := decide_eq_false m1
        refine start_ (n := 15) (S := fun w' => w'.cell? ⟨W.heap.size, 0, none⟩ = some (.int .i64 ow) ∧ w'.cell? ⟨W.heap.size, 1, none⟩ = some (.int .i64 tr) ∧ w'.cell? ⟨W.heap.size, 2, none⟩ = some (.slice A ps.length c)) (ds := []) #[false, false, false, false, false, false, false, false, false, false, false, false, false, false, false] (by kernel_rfl) rfl rfl ⟨(blk_cell BC5.out 0).trans rfl, (blk_cell BC5.out 1).trans rfl, (blk_cell BC5.out 2).trans rfl⟩ (fun hHeld => ?_); refine with_tabW tabE8 bitsE8 (fun HT_ HW_ => ?_)
        generalize hwd : w2.drew = Wd at BC5 BN5 BO5 BE5 HB5 HP5 hHeld ⊢
        clear hwd
        refine pure_ (i := 0) (N := (some 40)) (v := ?_) (a' := ?_) #[true, false, false, false, false, false, false, false, false, false, false, false, false, false, false] rfl rfl (any_of HT_.out (by kernel_rfl)) (fun _ _ _ h => put16 40 (by decide) h) (Or.inl ⟨by rfl, ?_⟩) ?_ ?_
        rotate_left
        · intro w'
          go_simp
          with_reducible rfl
        rotate_left
        · simp only [Act.put, List.setIfInBounds_toArray, List.set_cons_zero, List.set_cons_succ, i64_w, i32_w]
          rfl
        refine take_ (i := 1) (N := (some 41)) (v := ?_) (a' := ?_) #[true, true, false, false, false, false, false, false, false, false, false, false, false, false, false] rfl rfl (take_ofW HT_.out HW_.out (by kernel_rfl)) (fun _ _ _ h => put16 41 (by decide) h) (Or.inl ⟨by rfl, ?_⟩) hHeld ?_ ?_
        rotate_left
        · rintro w' ⟨s0, s1, s2⟩
          go_simp
          with_reducible rfl
        rotate_left
        · simp only [Act.put, List.setIfInBounds_toArray, List.set_cons_zero, List.set_cons_succ, i64_w, i32_w]
          rfl
        refine pure_ (i := 3) (N := (some 43)) (v := ?_) (a' := ?_) #[true, true, false, true, false, false, false, false, false, false, false, false, false, false, false] rfl rfl (any_of HT_.out (by kernel_rfl)) (fun _ _ _ h => put16 43 (by decide) h) (Or.inl ⟨by rfl, ?_⟩) ?_ ?_
        rotate_left
        · intro w'
          go_simp
          with_reducible rfl
        rotate_left
        · simp only [Act.put, List.setIfInBounds_toArray, List.set_cons_zero, List.set_cons_succ, i64_w, i32_w]
          rfl
        refine take_ (i := 4) (N := (some 44)) (v := ?_) (a' := ?_) #[true, true, false, true, true, false, false, false, false, false, false, false, false, false, false] rfl rfl (take_ofW HT_.out HW_.out (by kernel_rfl)) (fun _ _ _ h => put16 44 (by decide) h) (Or.inl ⟨by rfl, ?_⟩) hHeld ?_ ?_
        rotate_left
        · rintro w' ⟨s0, s1, s2⟩
          go_simp
          with_reducible rfl
        rotate_left
        · simp only [Act.put, List.setIfInBounds_toArray, List.set_cons_zero, List.set_cons_succ, i64_w, i32_w]
          rfl
        refine one_ (i := 2) (N := (some 42)) #[true, true, true, true, true, false, false, false, false, false, false, false, false, false, false] rfl rfl (one_of HT_.out (by kernel_rfl)) (by decide) (fun K hK => ?_)
        refine goes_ Try.func35 (by kernel_rfl) rfl #[.agg #[.int .i64 ow, .int .i64 tr, .slice A ps.length c]] (by rfl) rfl rfl (by (try simp only [List.map_toArray, List.map_cons, List.map_nil]); first | done | rfl) ?_
        refine (LAST Wd HP5.out).mono ?_
        rintro e w5' ⟨rfl, hbL⟩
        refine ⟨_, rfl, ?_⟩
        have BC6 := Aside0.mk (blk_below BC5.out hbL)
        have BN6 := Aside0.mk (blk_below BN5.out hbL)
        have BO6 := Aside0.mk (blk_below BO5.out hbL)
        have BE6 := Aside0.mk (blk_below BE5.out hbL)
        have HB6 := Aside0.mk (below_step HB5.out hbL)
        have HP6 := Aside0.mk (Kd.C_below HP5.out hbL)
        clear hbL BC5 BN5 BO5 BE5 HB5 HP5
        refine hK.out _ _ ⟨(blk_cell BC6.out 0).trans rfl, (blk_cell BC6.out 1).trans rfl, (blk_cell BC6.out 2).trans rfl⟩ (fun hHeld => ?_)
        clear hK K
        refine norm_ (a' := ?_) ?_ ?_
        rotate_left
        · show Act.put _ (some 42) _ = _
          simp only [Act.put, List.setIfInBounds_toArray, List.set_cons_zero, List.set_cons_succ, i64_w, i32_w]
          rfl
        refine pure_ (i := 5) (N := (some 45)) (v := ?_) (a' := ?_) #[true, true, true, true, true, true, false, false, false, false, false, false, false, false, false] rfl rfl (any_of HT_.out (by kernel_rfl)) (fun _ _ _ h => put16 45 (by decide) h) (Or.inl ⟨by rfl, ?_⟩) ?_ ?_
        rotate_left
        · intro w'
          go_simp
          with_reducible rfl
        rotate_left
        · simp only [Act.put, List.setIfInBounds_toArray, List.set_cons_zero, List.set_cons_succ, i64_w, i32_w]
          rfl
        refine pure_ (i := 6) (N := (some 46)) (v := ?_) (a' := ?_) #[true, true, true, true, true, true, true, false, false, false, false, false, false, false, false] rfl rfl (any_of HT_.out (by kernel_rfl)) (fun _ _ _ h => put16 46 (by decide) h) (Or.inl ⟨by rfl, ?_⟩) ?_ ?_
        rotate_left
        · intro w'
          go_simp
          with_reducible rfl
        rotate_left
        · simp only [Act.put, List.setIfInBounds_toArray, List.set_cons_zero, List.set_cons_succ, i64_w, i32_w]
          rfl
        refine pure_ (i := 7) (N := (some 47)) (v := ?_) (a' := ?_) #[true, true, true, true, true, true, true, true, false, false, false, false, false, false, false] rfl rfl (any_of HT_.out (by kernel_rfl)) (fun _ _ _ h => put16 47 (by decide) h) (Or.inl ⟨by rfl, ?_⟩) ?_ ?_
        rotate_left
        · intro w'
          go_simp
          with_reducible rfl
        rotate_left
        · simp only [Act.put, List.setIfInBounds_toArray, List.set_cons_zero, List.set_cons_succ, i64_w, i32_w]
          rfl
        refine pure_ (i := 8) (N := (some 48)) (v := undef) (a' := ?_) #[true, true, true, true, true, true, true, true, true, false, false, false, false, false, false] rfl rfl (any_of HT_.out (by kernel_rfl)) (fun _ _ _ h => put16 48 (by decide) h) (Or.inr ⟨by rfl, rfl⟩) ?_ ?_
        rotate_left
        · simp only [Act.put, List.setIfInBounds_toArray, List.set_cons_zero, List.set_cons_succ, i64_w, i32_w]
          rfl
        refine pure_ (i := 9) (N := (some 49)) (v := undef) (a' := ?_) #[true, true, true, true, true, true, true, true, true, true, false, false, false, false, false] rfl rfl (any_of HT_.out (by kernel_rfl)) (fun _ _ _ h => put16 49 (by decide) h) (Or.inr ⟨by rfl, rfl⟩) ?_ ?_
        rotate_left
        · simp only [Act.put, List.setIfInBounds_toArray, List.set_cons_zero, List.set_cons_succ, i64_w, i32_w]
          rfl
        refine one_ (i := 10) (N := (some 50)) #[true, true, true, true, true, true, true, true, true, true, true, false, false, false, false] rfl rfl (one_of HT_.out (by kernel_rfl)) (by decide) (fun K hK => ?_)
        refine off_ (by rfl) ?_
        refine hK.out _ _ ⟨(blk_cell BC6.out 0).trans rfl, (blk_cell BC6.out 1).trans rfl, (blk_cell BC6.out 2).trans rfl⟩ (fun hHeld => ?_)
        clear hK K
        refine norm_ (a' := ?_) ?_ ?_
        rotate_left
        · show Act.put _ (some 50) _ = _
          simp only [Act.put, List.setIfInBounds_toArray, List.set_cons_zero, List.set_cons_succ, i64_w, i32_w]
          rfl
        refine pure_ (i := 11) (N := (some 51)) (v := undef) (a' := ?_) #[true, true, true, true, true, true, true, true, true, true, true, true, false, false, false] rfl rfl (any_of HT_.out (by kernel_rfl)) (fun _ _ _ h => put16 51 (by decide) h) (Or.inr ⟨by rfl, rfl⟩) ?_ ?_
        rotate_left
        · simp only [Act.put, List.setIfInBounds_toArray, List.set_cons_zero, List.set_cons_succ, i64_w, i32_w]
          rfl
        refine pure_ (i := 12) (N := (some 52)) (v := undef) (a' := ?_) #[true, true, true, true, true, true, true, true, true, true, true, true, true, false, false] rfl rfl (any_of HT_.out (by kernel_rfl)) (fun _ _ _ h => put16 52 (by decide) h) (Or.inr ⟨by rfl, rfl⟩) ?_ ?_
        rotate_left
        · simp only [Act.put, List.setIfInBounds_toArray, List.set_cons_zero, List.set_cons_succ, i64_w, i32_w]
          rfl
        refine pure_ (i := 13) (N := (some 53)) (v := ?_) (a' := ?_) #[true, true, true, true, true, true, true, true, true, true, true, true, true, true, false] rfl rfl (any_of HT_.out (by kernel_rfl)) (fun _ _ _ h => put16 53 (by decide) h) (Or.inl ⟨by rfl, ?_⟩) ?_ ?_
        rotate_left
        · intro w'
          go_simp
          with_reducible rfl
        rotate_left
        · simp only [Act.put, List.setIfInBounds_toArray, List.set_cons_zero, List.set_cons_succ, i64_w, i32_w]
          rfl
        refine one_ (i := 14) (N := (some 54)) #[true, true, true, true, true, true, true, true, true, true, true, true, true, true, true] rfl rfl (one_of HT_.out (by kernel_rfl)) (by decide) (fun K hK => ?_)
        refine dies_ Try.func36 (by kernel_rfl) rfl #[.bool false, .int .i64 1] (by rfl) rfl rfl (by (try simp only [List.map_toArray, List.map_cons, List.map_nil]); first | done | rfl) ?_
        refine (demand_no 1 _).mono ?_
        rintro e w7 ⟨rfl, rfl⟩
        refine ⟨_, rfl, ?_⟩
        exact door16 BO6.out BE6.out (by omega) (by omega) (by omega) HB6.out rfl rfl hx.out (by decide)
end Go.Proofs.Ytpcoelimabojcaa.Hand
