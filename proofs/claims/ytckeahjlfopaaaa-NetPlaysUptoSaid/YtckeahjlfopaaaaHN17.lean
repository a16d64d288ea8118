/- Lent and Stays: bytes with marked room behind them; bytes of one's own that are written in place. -/
import Derived.Test.YtckeahjlfopaaaaHN16
namespace Go.Proofs.Ytckeahjlfopaaaa.Hand
open Go.RowKit Go.Proofs.Ytckeahjlfopaaaa Go.Proofs.YtckeahjlfopaaaaW.PrintWords Go.Proofs.YtckeahjlfopaaaaW.PrintLast
set_option linter.unusedVariables false
set_option linter.unusedSimpArgs false
set_option maxHeartbeats 8000000 in
set_option maxRecDepth 100000 in
theorem lent_c (A0 : Option Addr) (c0 : Nat) (l : List Int) (W : World) (hr0 : Kd.C (Kd.int .u8) W A0 l.length l) (h : l.length ≤ 140737488351232) :
    Calls Try.prog 25 #[.slice A0 l.length c0] W fun e W' => ∃ (A : Option Addr) (c : Nat), e = .returned (.slice A l.length c) ∧ Kd.R (Kd.int .u8) 5 W' W.heap.size (fun _ => True) (.slice A (l.length + 2) c) (l ++ [201, 202]) ∧ Below W.heap.size W W' := by
  have HR := Aside0.mk hr0
  clear hr0
  go_enter Try.func25, Try.ntmps25
  go_wp2_with (first | ((with_reducible refine gate_dst (N := 4) rfl ?_); refine Kd.R_lit (Kd.int .u8) (w0 := W) W.heap.size 5 ?hg (N := 4) ?hd (xs := ([] : List Int)) (inner := []) (ok := fun _ => True) (okp := fun _ => True) ?hr ?hp (fun _ hk => hk) trivial (Below.refl _ _) (Nat.le_refl _) (by simp) ?_; (case hg => rfl); (case hd => rfl); (case hr => first | (go_simp; done) | (go_simp; rfl)); (case hp => exact Reps.none _ _); intro vl_ wl_ HOl_ hbl_ hgl_ hatl_; clear hgl_ hatl_) | (refine Kd.R_append_row (Value.int .u8) 0 W.heap.size rfl (.tmp 4) (.tmp 5) 22 5 (.int .u8 0) 1 rfl Try.underlying22 infoB rfl (by omega) vl_ [] l A0 _ c0 (fun _ => True) rfl rfl (fun _ _ => trivial) HOl_ (Kd.C_below HR.out hbl_) hbl_ (below_size hbl_) (by simp; omega) ?_; intro v1_ W1_ ho1_ hb1_ hg_ hat_; rw [List.nil_append] at ho1_; clear HOl_ hbl_ hg_ hat_) | ((with_reducible refine gate_dst (N := 8) rfl ?_); refine Kd.R_lit (Kd.int .u8) (w0 := W1_) W1_.heap.size 5 ?hg (N := 8) ?hd (xs := ([201, 202] : List Int)) (inner := [.int .u8 201, .int .u8 202]) (ok := fun _ => True) (okp := fun _ => True) ?hr ?hp (fun _ hk => hk) trivial (Below.refl _ _) (Nat.le_refl _) (by simp) ?_; (case hg => rfl); (case hd => rfl); (case hr => first | (go_simp; done) | (go_simp; rfl)); (case hp => exact (Reps.one (show Kd.M (Kd.int .u8) _ _ _ 201 [.int .u8 201] from rfl) (Reps.one (show Kd.M (Kd.int .u8) _ _ _ 202 [.int .u8 202] from rfl) (Reps.none _ _)))); intro vm_ wm_ HOm_ hbm_ hgm_ hatm_; obtain ⟨Am_, cm_, rfl⟩ := Kd.R_slice HOm_; have HCm_ := (Kd.R_reads' HOm_).2.2; have ho1m_ := Kd.R_below ho1_ hbm_; have hb1m_ := below_step hb1_ hbm_; clear hgm_ hatm_ HOm_ ho1_) | (refine Kd.R_append_row (Value.int .u8) 0 W.heap.size rfl (.tmp 7) (.tmp 8) 22 5 (.int .u8 0) 1 rfl Try.underlying22 infoB rfl (by omega) v1_ l ([201, 202] : List Int) Am_ _ cm_ (fun _ => True) ?e1 ?e2 (fun _ _ => trivial) ho1m_ HCm_ hb1m_ (below_size hb1m_) ?e3 ?_; (case e1 => rfl); (case e2 => rfl); (case e3 => (show (l.length + 2) * 1 ≤ _; omega)); intro v2_ W2_ ho2_ hb2_ hg_ hat_; obtain ⟨A2, c2, rfl⟩ := Kd.R_slice ho2_; rw [show (l ++ ([201, 202] : List Int)).length = l.length + 2 from by simp] at ho2_; have hq3 := Nat.le_trans (Nat.le_add_right l.length 2) (Kd.R_reads' ho2_).2.1; have HO2 := Aside0.mk ho2_; have HB2 := Aside0.mk hb2_; clear ho1m_ HCm_ hb1m_ hg_ hat_ ho2_ hb2_ hb1_ hbm_))
  go_ret
  exact ⟨A2, c2, rfl, HO2.out, HB2.out⟩
/-- The lent bytes themselves. -/
theorem C_lent {W : World} {A : Option Addr} {l : List Int} (h : Kd.C (Kd.int .u8) W A (l.length + 2) (l ++ [201, 202])) : Kd.C (Kd.int .u8) W A l.length l := by
  have h' : Kd.C (Kd.int .u8) W A (l ++ [201, 202]).length (l ++ [201, 202]) := by rw [List.length_append]; exact h
  have := Kd.C_take (m := l.length) h' (by simp)
  rwa [List.take_left] at this
set_option maxHeartbeats 1000000 in
theorem Stays_calls (A : Option Addr) (c : Nat) (A1 : Option Addr) (c1 : Nat) (l : List Int) (w : World) (hr : Kd.C (Kd.int .u8) w A (l.length + 2) (l ++ [201, 202])) (hc : l.length + 2 ≤ c) (hr1 : Kd.C (Kd.int .u8) w A1 l.length l) :
    Calls Try.prog 27 #[.slice A l.length c, .slice A1 l.length c1] w fun e w' => e = .returned (.bool true) ∧ Drawn0 w w' := by
  have hmax : l.length + 2 ≤ 9223372036854775807 := Kd.C_max hr
  have hl := C_lent hr
  have hs1 := fun m => Kd.C_string (P := Try.prog) (c := c) (dst := 9) Try.underlying22 Try.underlying5 Try.underlying9 (Kd.C_drewN hl m)
  have hs2 := fun m => Kd.C_string (P := Try.prog) (c := c1) (dst := 9) Try.underlying22 Try.underlying5 Try.underlying9 (Kd.C_drewN hr1 m)
  obtain ⟨ad, rfl, g1⟩ := Kd.at_int hr (l.length : Int) (by omega) (by omega)
  obtain ⟨ad', e', g2⟩ := Kd.at_int hr ((l.length + 1 : Nat) : Int) (by omega) (by omega)
  injection e' with e'
  subst e'
  rw [show rd (l ++ [201, 202]) (l.length : Int) = 201 by simp [rd], Int.toNat_natCast] at g1
  rw [show rd (l ++ [201, 202]) ((l.length + 1 : Nat) : Int) = 202 by simp [rd], Int.toNat_natCast] at g2
  have g3 : w.cell? ⟨ad.block, ad.off + (l.length + 1), none⟩ = some (.int .u8 202) := by
    have h := g2
    unfold Addr.add at h
    rw [if_neg (by omega)] at h
    exact h
  clear hr hr1 hl
  go_enter Try.func27, Try.ntmps27
  go_wp2_with fail
  go_quiet (fail)
  go_wp2_with fail
  go_ret
  exact ⟨rfl, by repeat (first | exact Drawn0.refl _ | apply Drawn0.step)⟩
end Go.Proofs.Ytckeahjlfopaaaa.Hand
