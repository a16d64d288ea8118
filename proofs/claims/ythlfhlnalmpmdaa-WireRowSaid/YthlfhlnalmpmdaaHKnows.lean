/- gazettelaw01.knows: it answers true. -/
import Derived.Test.YthlfhlnalmpmdaaHFrame
import Derived.Lib.SlBytesConst
namespace Go.Proofs.Ythlfhlnalmpmdaa.Hand
open Go.RowKit Go.Proofs.Ythlfhlnalmpmdaa Go.Proofs.YthlfhlnalmpmdaaW.PrintWords Go.Proofs.YthlfhlnalmpmdaaW.PrintMore
theorem knows_frame : frameF 7 [] = ([7, 0, 0, 0, 0] ++ lowL (crcOf [7, 0, 0, 0, 0]) 4, 0) := by decide +kernel
theorem knows_crc : crcOf [49, 50, 51, 52, 53, 54, 55, 56, 57] = 3808858755 := by decide +kernel
theorem C_lit {W : World} {g : Nat} {t : TypeId} {fr : Nat × Nat} {l : List Int} (hn : l.length ≤ 9223372036854775807) (hg : W.heap[g]? = some (.cells (l.map (Value.int .u8)).toArray t fr)) : Kd.C (Kd.int .u8) W (some ⟨g, 0, none⟩) l.length l := by
  refine ⟨rfl, hn, fun _ => ⟨_, rfl, fun j p hj => ⟨[.int .u8 p], rfl, rfl, fun i u hu => ?_⟩⟩⟩
  obtain ⟨rfl, rfl⟩ : i = 0 ∧ u = .int .u8 p := by
    cases i with
    | zero => exact ⟨rfl, by simpa using hu.symm⟩
    | succ i => simp at hu
  rw [show (Kd.int IntKind.u8).sz = 1 from rfl, Nat.mul_one, Nat.add_zero, add_plain, cell_of_row W g j _ t fr hg]
  simp [hj]
set_option maxHeartbeats 1000000 in
theorem knows_calls0 (w : World) : Calls Try.prog 14 #[] w fun e w' => e = .returned (.bool true) ∧ Below w.heap.size w w' := by
  have HP := Aside0.mk (fun W => wire_Put.calls 258 2 [2, 1] 0 W rfl)
  have HF := Aside0.mk (fun W => wire_Frame.calls 7 none 0 [] ([7, 0, 0, 0, 0] ++ lowL (crcOf [7, 0, 0, 0, 0]) 4) 0 W (Kd.C_nil _ _) (Nat.le_refl _) (by unfold wire_Frame.f; rw [if_pos (show isB [] = true from rfl), knows_frame]))
  have HC := Aside0.mk (fun (W : World) (g : Nat) (t : TypeId) (fr : Nat × Nat) (hg : W.heap[g]? = some (.cells #[.int .u8 49, .int .u8 50, .int .u8 51, .int .u8 52, .int .u8 53, .int .u8 54, .int .u8 55, .int .u8 56, .int .u8 57] t fr)) => Crc_calls0 (some ⟨g, 0, none⟩) 9 [49, 50, 51, 52, 53, 54, 55, 56, 57] W (C_lit (by simp) hg) ((isB_iff _).1 rfl))
  rw [knows_crc] at HC
  have hlen : ([7, 0, 0, 0, 0] ++ lowL (crcOf [7, 0, 0, 0, 0]) 4).length = 9 := by simp [lowL_length]
  have kc := fun (W : World) (C : Array Value) (n c : Nat) => Lib.run_convert_bytes_const (P := Try.prog) W 22 5 C n c Try.underlying22 Try.underlying5
  go_enter Try.func14, Try.ntmps14
  go_wp2_with fail
  refine (HP.out _).mono ?_
  rintro e w1 ⟨v1, rfl, ho1, hb1⟩
  obtain ⟨A1, c1, e1⟩ := Kd.R_slice ho1
  subst e1
  have HO1 := Aside0.mk ho1
  have HB1 := Aside0.mk hb1
  clear ho1 hb1
  go_wp2_with fail
  refine (HF.out _).mono ?_
  rintro e w2 ⟨v2, rfl, ho2, hb2⟩
  obtain ⟨A2, c2, e2⟩ := Kd.R_slice ho2
  subst e2
  have hrd2 := (Kd.R_reads' ho2).2.2
  obtain ⟨g, cap, hv, _, _, _⟩ := Kd.R_form ho2 (by rw [hlen]; omega)
  obtain ⟨ad, had, hcell⟩ := Kd.at_int hrd2 0 (by omega) (by rw [hlen]; omega)
  injection hv with hv1 _ _
  rw [hv1] at had
  injection had with had
  subst hv1
  subst had
  have hcell : w2.cell? ⟨g, 0, none⟩ = some (.int .u8 7) := hcell
  have hstr : (convert 22 9 (.slice A1 2 c1)).run Try.prog w2 = .ok (.string ⟨#[2, 1]⟩) w2 := Kd.C_string (P := Try.prog) (c := c1) (dst := 9) Try.underlying22 Try.underlying5 Try.underlying9 (Kd.C_below (Kd.R_reads' HO1.out).2.2 hb2)
  have HB2 := Aside0.mk hb2
  rw [hlen]
  clear ho2 hb2 hrd2
  generalize [7, 0, 0, 0, 0] ++ lowL (crcOf [7, 0, 0, 0, 0]) 4 = fr at *
  go_wp2_with (first | (go_at_call 11; refine (HC.out _ _ _ _ (heap_alloc_new _ _)).mono ?_; rintro e w3 ⟨rfl, hb3⟩; have HB3 := Aside0.mk hb3; clear hb3) | go_in)
  go_ret
  exact ⟨rfl, below_then (below_then HB1.out HB1.out.size HB2.out) (below_then HB1.out HB1.out.size HB2.out).size (below_then (below_alloc (Below.refl _ _) _) (by simp) HB3.out)⟩
def gazettelaw01_knows.f : Option Bool := some true
theorem gazettelaw01_knows.calls (r : Bool) (w : World) (h : gazettelaw01_knows.f = some r) :
    Calls Try.prog 14 #[] w fun e w' => e = .returned (.bool r) ∧ Below w.heap.size w w' := by
  obtain rfl := Option.some.inj h
  exact knows_calls0 w
end Go.Proofs.Ythlfhlnalmpmdaa.Hand
