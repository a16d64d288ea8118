/- What a mark does. -/
import Derived.Test.YtofegigbhohebaaTB9
namespace Go.Proofs.Ytofegigbhohebaa.Hand
open Go.RowKit Go.Proofs.Ytofegigbhohebaa Go.Proofs.YtofegigbhohebaaW.PrintWords Go.Proofs.YtofegigbhohebaaW.PrintLast
set_option linter.unusedVariables false
set_option linter.unusedSimpArgs false
variable {own : Nat → Nat} {gb : Nat} {gs : List Nat} {ps : List ProdV} {w w' : World}
set_option maxHeartbeats 6400000 in
set_option maxRecDepth 100000 in
theorem mark_c (h : BI own gb gs ps w) (x : EvV) (j : Nat) (hj : j < ps.length) (hx : x.producer = (j : Int)) (p : ProdV) (hp : ps.getD j prod0 = p) (hm : x.place ∈ p.places) (hl : p.places.length ≤ 100) : Calls Try.prog 33 #[.pointer (some ⟨gb, 0, none⟩), evE x] w fun e w' => e = .returned (.tuple #[]) ∧ DoP own gb (ps.set j (markP p x)) w w' := by
  have hmf : ∀ (fn : Fn) (first cap : Array Value) (w : World), (Instr.makeFunc fn first cap).run Try.prog w = .ok (.func fn first cap) w := fun _ _ _ _ => rfl
  obtain ⟨o1, ho1⟩ : ∃ o1 : Obj, o1 = .cells #[.int .i64 x.kind, .string x.name, .int .i64 x.producer, .int .i64 x.epoch, .int .i64 x.place, .int .i64 x.timeout, .int .i64 x.now, .bool x.yes] 33 (0, 0) := ⟨_, rfl⟩
  have hb1 := below_alloc (Below.refl w.heap.size w) o1
  have HI := Aside0.mk (h.below hb1)
  have HB := Aside0.mk hb1
  have b1 := heap_alloc_new w o1
  rw [ho1] at b1
  have HX := Aside0.mk (show (w.alloc o1).heap[w.heap.size]? = some (.cells #[.int .i64 x.kind, .string x.name, .int .i64 x.producer, .int .i64 x.epoch, .int .i64 x.place, .int .i64 x.timeout, .int .i64 x.now, .bool x.yes] 33 (0, 0)) by rw [ho1]; exact b1)
  clear b1 hb1 h
  have HME := Aside0.mk (show markP p x = endP { p with places := p.places.filter fun n => !decide (n = x.place) } p.status from rfl)
  obtain ⟨kind, name, producer, epoch, place, timeout, now, yes⟩ := x
  dsimp only at hx ho1 HX hm HME
  subst hx
  rw [HME.out]
  unfold evE
  have x2 := (blk_cell HX.out 2).trans rfl
  have x4 := (blk_cell HX.out 4).trans rfl
  have hjc : (j : Int) < (ps.length : Int) := by omega
  obtain ⟨A1, c1, B1, b0, -, -, -, -, hrow⟩ := HI.out.cells
  obtain ⟨ad, hA, hcell⟩ := hrow j hj
  subst hA
  clear hrow
  obtain ⟨hog, v, hb, hv⟩ := HI.out.prod j hj
  rw [hp] at hb hv
  rcases R_place hv with ⟨hnil, -⟩ | ⟨b, c, rfl, hlc, hob, ⟨CS, hCS⟩, -⟩
  · rw [hnil] at hm; cases hm
  obtain ⟨g, hgg⟩ : ∃ g, gs.getD j 0 = g := ⟨_, rfl⟩
  rw [hgg] at hcell hb hog
  have hxg : w.heap.size ≠ b := fun e => by rw [e] at HX; rw [HX.out] at hCS; cases hCS
  have HGG := Aside0.mk hgg
  have HP := Aside0.mk hp
  have PB := Aside0.mk hb
  have PV := Aside0.mk hv
  have HOG := Aside0.mk hog
  have HOB := Aside0.mk hob
  have HM := Aside0.mk hm
  clear hgg hp hv hog hob hm hCS HME
  have p5 : (w.alloc o1).cell? ⟨g, 5, none⟩ = some (.slice (some ⟨b, 0, none⟩) p.places.length c) := (blk_cell hb 5).trans rfl
  clear hb
  subst ho1
  go_enter Try.func33, Try.ntmps33
  go_wp2_with fail
  go_quiet (fail)
  go_wp2_with fail
  have hdr := pw_below_drewN (Below.refl (w.alloc (.cells #[.int .i64 kind, .string name, .int .i64 (j : Int), .int .i64 epoch, .int .i64 place, .int .i64 timeout, .int .i64 now, .bool yes] 33 (0, 0))).heap.size (w.alloc (.cells #[.int .i64 kind, .string name, .int .i64 (j : Int), .int .i64 epoch, .int .i64 place, .int .i64 timeout, .int .i64 now, .bool yes] 33 (0, 0)))) nq
  have HI2 := Aside0.mk (HI.out.below hdr)
  have HB2 := Aside0.mk (below_step HB.out hdr)
  have HX2 := Aside0.mk (blk_below HX.out hdr)
  have PB2 := Aside0.mk (blk_below PB.out hdr)
  have PV2 := Aside0.mk (Kd.R_below PV.out hdr)
  clear hdr HI HB HX PB PV b0 hcell p5 x2 x4
  generalize (w.alloc (.cells #[.int .i64 kind, .string name, .int .i64 (j : Int), .int .i64 epoch, .int .i64 place, .int .i64 timeout, .int .i64 now, .bool yes] 33 (0, 0))).drewN nq = w2 at HI2 HB2 HX2 PB2 PV2 ⊢
  refine (del_c PV2.out place ((blk_cell HX2.out 4).trans rfl) hxg hl).mono ?_
  rintro e w3 ⟨rfl, hR3, hg3⟩
  obtain ⟨r, hr⟩ : ∃ r, (p.places.filter fun n => !decide (n = place)) = r := ⟨_, rfl⟩
  rw [hr] at hR3 ⊢
  have hgb : g ≠ b := fun e => by
    obtain ⟨cur, hcur, -⟩ := R_open PV2.out
    have := PB2.out
    rw [e, hcur] at this
    cases this
  have PB3 := Aside0.mk (blk_grown PB2.out hg3 (fun e => hgb (by injection e)))
  have PR3 := Aside0.mk hR3
  have HG3 := Aside0.mk hg3
  have HRR := Aside0.mk hr
  clear hR3 hg3 hr
  have y5 : w3.cell? ⟨g, 5, none⟩ = some (.slice (some ⟨b, 0, none⟩) p.places.length c) := (blk_cell PB3.out 5).trans rfl
  have y3 : w3.cell? ⟨g, 3, none⟩ = some (.int .i64 p.status) := (blk_cell PB3.out 3).trans rfl
  have f5 := blk_frozen PB3.out 5
  have PB4 := Aside0.mk (show (w3.setCell ⟨g, 5, none⟩ (.slice (some ⟨b, 0, none⟩) r.length c)).heap[g]? = some (.cells (prodC { p with places := r } (.slice (some ⟨b, 0, none⟩) r.length c)) 85 (0, 0)) from blk_put PB3.out 5 (.slice (some ⟨b, 0, none⟩) r.length c) rfl)
  go_wp2_with fail
  refine (end_c g { p with places := r } (some ⟨b, 0, none⟩) c p.status _ PB4.out).mono ?_
  rintro e w5 ⟨rfl, hb5, hg5, -⟩
  have HB5 := Aside0.mk hb5
  have HG5 := Aside0.mk hg5
  clear hb5 hg5 y5 y3 f5
  go_wp2_with fail
  go_end0
  have hR4 := Kd.R_set PR3.out PB3.out (by decide) 5 (.slice (some ⟨b, 0, none⟩) r.length c)
  have hR5 := Kd.R_mono (Kd.R_grown (Kd.R_types hR4 PB4.out (by decide)) HG5.out (fun k hk e => hk.2 (by injection e))) (fun k hk => hk.1)
  have hblk : ∀ k, k < w2.heap.size → k ≠ b → k ≠ g → w5.heap[k]? = w2.heap[k]? := fun k hk h1 h2 =>
    (HG5.out.block k (Nat.lt_of_lt_of_le hk (by show w2.heap.size ≤ (w3.setCell _ _).heap.size; simp only [World.setCell, Array.size_modify]; exact HG3.out.size)) (fun e => h2 (by injection e))).trans ((Below.heap_setCell w3 ⟨g, 5, none⟩ _ k h2).trans (HG3.out.block k hk (fun e => h1 (by injection e))))
  have hsz : w2.heap.size ≤ w5.heap.size := Nat.le_trans HG3.out.size (Nat.le_trans (by simp [World.setCell]) HG5.out.size)
  have hfr : Fr own w2 w5 := ⟨HG5.out.os.trans HG3.out.os, HG5.out.tape.trans HG3.out.tape, HG5.out.output.trans HG3.out.output, hsz, fun k hk h0 => hblk k hk (fun e => by rw [e, HOB.out] at h0; omega) (fun e => by rw [e, HOG.out] at h0; omega)⟩
  refine ⟨rfl, own, gs, HI2.out.put hj (own' := own) (v' := .slice (some ⟨b, 0, none⟩) r.length c) ?_ hsz (fun k h0 h1 => hblk k (HI2.out.lt k h0) (fun e => h1 (by rw [e, HOB.out])) (fun e => h1 (by rw [e, HOG.out]))) (fun _ _ => rfl) (fun k h0 => Nat.lt_of_lt_of_le (HI2.out.lt k h0) hsz) ?_ ?_, (Fr.below own HB2.out).trans hfr (fun _ _ => rfl), fun _ _ => rfl⟩
  · rw [HP.out]; rfl
  · rw [HGG.out, HRR.out]; exact HB5.out
  · rw [HRR.out]; exact hR5
end Go.Proofs.Ytofegigbhohebaa.Hand
