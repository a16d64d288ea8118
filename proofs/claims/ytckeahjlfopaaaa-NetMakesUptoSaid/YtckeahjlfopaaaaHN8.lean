/- The walk of NetFates: it answers true. -/
import Derived.Test.YtckeahjlfopaaaaHN7
namespace Go.Proofs.Ytckeahjlfopaaaa.Hand
open Go.RowKit Go.Proofs.Ytckeahjlfopaaaa Go.Proofs.YtckeahjlfopaaaaW.PrintWords Go.Proofs.YtckeahjlfopaaaaW.PrintLast
set_option linter.unusedVariables false
set_option linter.unusedSimpArgs false
theorem eq_q0 (g : Nat) (w : World) : (binOp .eql 23 (.pointer (some ⟨g, 0, none⟩)) (.pointer none)).run Try.prog w = .ok (.bool false) w := by kernel_rfl
set_option maxHeartbeats 2000000 in
set_option maxRecDepth 100000 in
theorem lawFates (c dest : Int) (A : Option Addr) (cap : Nat) (b : List Int) (w : World) (hr0 : Kd.C (Kd.int .u8) w A b.length b) (hb : b.length ≤ 140737488351232) :
    Calls Try.prog 3 #[.int .i64 c, .int .i64 dest, .slice A b.length cap] w fun e W' => e = .returned (.bool true) ∧ Below w.heap.size w W' := by
  have HA := Aside0.mk hr0
  have hx : ∃ r, restF c = r := ⟨_, rfl⟩
  obtain ⟨r, hr⟩ := hx
  have hr2 : (wrap64 (c.tmod 5 + 5)).tmod 5 = r := hr
  have hc := rest_cases c
  rw [hr] at hc
  have HR := Aside0.mk hr
  have qq := eq_q0
  clear hr hr0
  rcases hc with rfl | rfl | rfl | rfl | rfl
  · go_enter Try.func3, Try.ntmps3
    go_wp2_with fail
    refine (new_s w w (Below.refl _ _)).mono ?_
    rintro e W1 ⟨rfl, hs⟩
    have HS := Aside0.mk hs
    clear hs
    go_wp2_with fail
    refine (knows_c W1).mono ?_
    rintro e W2 ⟨rfl, hk⟩
    have HS2 := Aside0.mk (HS.out.below hk)
    clear HS hk
    go_wp2_with (first | ((with_reducible refine gate_dst (N := 21) rfl ?_); refine Kd.R_lit (Kd.int .i64) (w0 := W2) W2.heap.size 3 ?hg (N := 21) ?hd (xs := ([c] : List Int)) (inner := [.int .i64 (c)]) (ok := fun _ => True) (okp := fun _ => True) ?hr ?hp (fun _ hk => hk) trivial (Below.refl _ _) (Nat.le_refl _) (by simp) ?_; (case hg => rfl); (case hd => rfl); (case hr => first | (go_simp; done) | (go_simp; rfl)); (case hp => exact (Reps.one (show Kd.M (Kd.int .i64) _ _ _ (c) [.int .i64 (c)] from rfl) (Reps.none _ _))); intro vl_ wl_ HOL HBLL _ _; obtain ⟨AL, cL, rfl⟩ := Kd.R_slice HOL))
    refine (luck_s (HS2.out.below HBLL) AL cL [c] (Kd.R_reads' HOL).2.2 (by simp)).mono ?_
    rintro e W3 ⟨rfl, hs⟩
    have HS3 := Aside0.mk (show NS w W3 w.heap.size [c] [] from hs)
    have HA3 := Aside0.mk (Kd.C_below HA.out HS3.out.bel)
    clear hs HOL HBLL HS2
    go_wp2_with (first | ((with_reducible refine gate_dst (N := 26) rfl ?_); refine Kd.R_lit (Kd.int .u8) (w0 := W3) W3.heap.size 5 ?hg (N := 26) ?hd (xs := ([] : List Int)) (inner := []) (ok := fun _ => True) (okp := fun _ => True) ?hr ?hp (fun _ hk => hk) trivial (Below.refl _ _) (Nat.le_refl _) (by decide) ?_; (case hg => rfl); (case hd => rfl); (case hr => first | (go_simp; done) | (go_simp; rfl)); (case hp => exact Reps.none _ _); intro vl_ wl_ HOl_ hbl_ hgl_ hatl_; have HCl_ := Kd.C_below HA3.out hbl_; clear hgl_ hatl_) | (refine Kd.R_append_row (Value.int .u8) 0 W3.heap.size rfl (.tmp 26) (.tmp 27) 22 5 (.int .u8 0) 1 rfl Try.underlying22 infoB rfl (by omega) vl_ [] b A _ cap (fun _ => True) rfl rfl (fun _ _ => trivial) HOl_ HCl_ hbl_ (below_size hbl_) (by simp; omega) ?_; intro v1_ W4 ho_ hb_ hg_ hat_; clear HOl_ HCl_ hbl_ hg_ hat_; obtain ⟨A5, c5, rfl⟩ := Kd.R_slice ho_))
    simp only [List.nil_append] at ho_ ⊢
    refine (send_s HS3.out hb_ dest A5 c5 b (R_fresh ho_) hb (by decide)).mono ?_
    rintro e W5 ⟨rfl, hs, _⟩
    rw [show hd0 [c] = c from rfl, HR.out] at hs ⊢
    rw [show fateF 0 = (1, true) from by decide]
    dsimp only
    have HS5 := Aside0.mk (show NS w W5 w.heap.size [] [] from by simpa using hs)
    clear hs ho_ hb_ HS3 HA3
    go_wp2_with (first | ((with_reducible refine gate_dst (N := 36) rfl ?_); refine Kd.R_lit (Kd.int .i64) (w0 := W5) W5.heap.size 3 ?hg (N := 36) ?hd (xs := ([1, 0, 1, 0, 2] : List Int)) (inner := [.int .i64 (1), .int .i64 (0), .int .i64 (1), .int .i64 (0), .int .i64 (2)]) (ok := fun _ => True) (okp := fun _ => True) ?hr ?hp (fun _ hk => hk) trivial (Below.refl _ _) (Nat.le_refl _) (by simp) ?_; (case hg => rfl); (case hd => rfl); (case hr => first | (go_simp; done) | (go_simp; rfl)); (case hp => exact (Reps.one (show Kd.M (Kd.int .i64) _ _ _ (1) [.int .i64 (1)] from rfl) (Reps.one (show Kd.M (Kd.int .i64) _ _ _ (0) [.int .i64 (0)] from rfl) (Reps.one (show Kd.M (Kd.int .i64) _ _ _ (1) [.int .i64 (1)] from rfl) (Reps.one (show Kd.M (Kd.int .i64) _ _ _ (0) [.int .i64 (0)] from rfl) (Reps.one (show Kd.M (Kd.int .i64) _ _ _ (2) [.int .i64 (2)] from rfl) (Reps.none _ _))))))); intro vl_ wl_ HOT HBLT _ _; obtain ⟨gT, cT, rfl, _, _, _⟩ := Kd.R_form HOT (by decide); have x0 := (Kd.R_cell (0 : Int) HOT 0 (by decide) (by decide)).1; have HS6 := Aside0.mk (HS5.out.below HBLT); rw [show (0 : Int).toNat = 0 from rfl, show rdOf (0 : Int) ([1, 0, 1, 0, 2] : List Int) 0 = 1 from rfl] at x0; clear HOT HBLT HS5))
    refine (late_s HS6.out).mono ?_
    rintro e W7 ⟨rfl, rfl⟩
    go_wp2_with fail
    refine (left_s HS6.out).mono ?_
    rintro e W7 ⟨rfl, rfl⟩
    go_wp2_with fail
    go_ret
    exact ⟨rfl, HS6.out.bel⟩
  · go_enter Try.func3, Try.ntmps3
    go_wp2_with fail
    refine (new_s w w (Below.refl _ _)).mono ?_
    rintro e W1 ⟨rfl, hs⟩
    have HS := Aside0.mk hs
    clear hs
    go_wp2_with fail
    refine (knows_c W1).mono ?_
    rintro e W2 ⟨rfl, hk⟩
    have HS2 := Aside0.mk (HS.out.below hk)
    clear HS hk
    go_wp2_with (first | ((with_reducible refine gate_dst (N := 21) rfl ?_); refine Kd.R_lit (Kd.int .i64) (w0 := W2) W2.heap.size 3 ?hg (N := 21) ?hd (xs := ([c] : List Int)) (inner := [.int .i64 (c)]) (ok := fun _ => True) (okp := fun _ => True) ?hr ?hp (fun _ hk => hk) trivial (Below.refl _ _) (Nat.le_refl _) (by simp) ?_; (case hg => rfl); (case hd => rfl); (case hr => first | (go_simp; done) | (go_simp; rfl)); (case hp => exact (Reps.one (show Kd.M (Kd.int .i64) _ _ _ (c) [.int .i64 (c)] from rfl) (Reps.none _ _))); intro vl_ wl_ HOL HBLL _ _; obtain ⟨AL, cL, rfl⟩ := Kd.R_slice HOL))
    refine (luck_s (HS2.out.below HBLL) AL cL [c] (Kd.R_reads' HOL).2.2 (by simp)).mono ?_
    rintro e W3 ⟨rfl, hs⟩
    have HS3 := Aside0.mk (show NS w W3 w.heap.size [c] [] from hs)
    have HA3 := Aside0.mk (Kd.C_below HA.out HS3.out.bel)
    clear hs HOL HBLL HS2
    go_wp2_with (first | ((with_reducible refine gate_dst (N := 26) rfl ?_); refine Kd.R_lit (Kd.int .u8) (w0 := W3) W3.heap.size 5 ?hg (N := 26) ?hd (xs := ([] : List Int)) (inner := []) (ok := fun _ => True) (okp := fun _ => True) ?hr ?hp (fun _ hk => hk) trivial (Below.refl _ _) (Nat.le_refl _) (by decide) ?_; (case hg => rfl); (case hd => rfl); (case hr => first | (go_simp; done) | (go_simp; rfl)); (case hp => exact Reps.none _ _); intro vl_ wl_ HOl_ hbl_ hgl_ hatl_; have HCl_ := Kd.C_below HA3.out hbl_; clear hgl_ hatl_) | (refine Kd.R_append_row (Value.int .u8) 0 W3.heap.size rfl (.tmp 26) (.tmp 27) 22 5 (.int .u8 0) 1 rfl Try.underlying22 infoB rfl (by omega) vl_ [] b A _ cap (fun _ => True) rfl rfl (fun _ _ => trivial) HOl_ HCl_ hbl_ (below_size hbl_) (by simp; omega) ?_; intro v1_ W4 ho_ hb_ hg_ hat_; clear HOl_ HCl_ hbl_ hg_ hat_; obtain ⟨A5, c5, rfl⟩ := Kd.R_slice ho_))
    simp only [List.nil_append] at ho_ ⊢
    refine (send_s HS3.out hb_ dest A5 c5 b (R_fresh ho_) hb (by decide)).mono ?_
    rintro e W5 ⟨rfl, hs, _⟩
    rw [show hd0 [c] = c from rfl, HR.out] at hs ⊢
    rw [show fateF 1 = (0, false) from by decide]
    dsimp only
    have HS5 := Aside0.mk (show NS w W5 w.heap.size [] [] from by simpa using hs)
    clear hs ho_ hb_ HS3 HA3
    go_wp2_with (first | ((with_reducible refine gate_dst (N := 36) rfl ?_); refine Kd.R_lit (Kd.int .i64) (w0 := W5) W5.heap.size 3 ?hg (N := 36) ?hd (xs := ([1, 0, 1, 0, 2] : List Int)) (inner := [.int .i64 (1), .int .i64 (0), .int .i64 (1), .int .i64 (0), .int .i64 (2)]) (ok := fun _ => True) (okp := fun _ => True) ?hr ?hp (fun _ hk => hk) trivial (Below.refl _ _) (Nat.le_refl _) (by simp) ?_; (case hg => rfl); (case hd => rfl); (case hr => first | (go_simp; done) | (go_simp; rfl)); (case hp => exact (Reps.one (show Kd.M (Kd.int .i64) _ _ _ (1) [.int .i64 (1)] from rfl) (Reps.one (show Kd.M (Kd.int .i64) _ _ _ (0) [.int .i64 (0)] from rfl) (Reps.one (show Kd.M (Kd.int .i64) _ _ _ (1) [.int .i64 (1)] from rfl) (Reps.one (show Kd.M (Kd.int .i64) _ _ _ (0) [.int .i64 (0)] from rfl) (Reps.one (show Kd.M (Kd.int .i64) _ _ _ (2) [.int .i64 (2)] from rfl) (Reps.none _ _))))))); intro vl_ wl_ HOT HBLT _ _; obtain ⟨gT, cT, rfl, _, _, _⟩ := Kd.R_form HOT (by decide); have x0 := (Kd.R_cell (0 : Int) HOT 1 (by decide) (by decide)).1; have HS6 := Aside0.mk (HS5.out.below HBLT); rw [show (1 : Int).toNat = 1 from rfl, show rdOf (0 : Int) ([1, 0, 1, 0, 2] : List Int) 1 = 0 from rfl] at x0; clear HOT HBLT HS5))
    refine (late_s HS6.out).mono ?_
    rintro e W7 ⟨rfl, rfl⟩
    go_wp2_with fail
    refine (left_s HS6.out).mono ?_
    rintro e W7 ⟨rfl, rfl⟩
    go_wp2_with fail
    go_ret
    exact ⟨rfl, HS6.out.bel⟩
  · go_enter Try.func3, Try.ntmps3
    go_wp2_with fail
    refine (new_s w w (Below.refl _ _)).mono ?_
    rintro e W1 ⟨rfl, hs⟩
    have HS := Aside0.mk hs
    clear hs
    go_wp2_with fail
    refine (knows_c W1).mono ?_
    rintro e W2 ⟨rfl, hk⟩
    have HS2 := Aside0.mk (HS.out.below hk)
    clear HS hk
    go_wp2_with (first | ((with_reducible refine gate_dst (N := 21) rfl ?_); refine Kd.R_lit (Kd.int .i64) (w0 := W2) W2.heap.size 3 ?hg (N := 21) ?hd (xs := ([c] : List Int)) (inner := [.int .i64 (c)]) (ok := fun _ => True) (okp := fun _ => True) ?hr ?hp (fun _ hk => hk) trivial (Below.refl _ _) (Nat.le_refl _) (by simp) ?_; (case hg => rfl); (case hd => rfl); (case hr => first | (go_simp; done) | (go_simp; rfl)); (case hp => exact (Reps.one (show Kd.M (Kd.int .i64) _ _ _ (c) [.int .i64 (c)] from rfl) (Reps.none _ _))); intro vl_ wl_ HOL HBLL _ _; obtain ⟨AL, cL, rfl⟩ := Kd.R_slice HOL))
    refine (luck_s (HS2.out.below HBLL) AL cL [c] (Kd.R_reads' HOL).2.2 (by simp)).mono ?_
    rintro e W3 ⟨rfl, hs⟩
    have HS3 := Aside0.mk (show NS w W3 w.heap.size [c] [] from hs)
    have HA3 := Aside0.mk (Kd.C_below HA.out HS3.out.bel)
    clear hs HOL HBLL HS2
    go_wp2_with (first | ((with_reducible refine gate_dst (N := 26) rfl ?_); refine Kd.R_lit (Kd.int .u8) (w0 := W3) W3.heap.size 5 ?hg (N := 26) ?hd (xs := ([] : List Int)) (inner := []) (ok := fun _ => True) (okp := fun _ => True) ?hr ?hp (fun _ hk => hk) trivial (Below.refl _ _) (Nat.le_refl _) (by decide) ?_; (case hg => rfl); (case hd => rfl); (case hr => first | (go_simp; done) | (go_simp; rfl)); (case hp => exact Reps.none _ _); intro vl_ wl_ HOl_ hbl_ hgl_ hatl_; have HCl_ := Kd.C_below HA3.out hbl_; clear hgl_ hatl_) | (refine Kd.R_append_row (Value.int .u8) 0 W3.heap.size rfl (.tmp 26) (.tmp 27) 22 5 (.int .u8 0) 1 rfl Try.underlying22 infoB rfl (by omega) vl_ [] b A _ cap (fun _ => True) rfl rfl (fun _ _ => trivial) HOl_ HCl_ hbl_ (below_size hbl_) (by simp; omega) ?_; intro v1_ W4 ho_ hb_ hg_ hat_; clear HOl_ HCl_ hbl_ hg_ hat_; obtain ⟨A5, c5, rfl⟩ := Kd.R_slice ho_))
    simp only [List.nil_append] at ho_ ⊢
    refine (send_s HS3.out hb_ dest A5 c5 b (R_fresh ho_) hb (by decide)).mono ?_
    rintro e W5 ⟨rfl, hs, _⟩
    rw [show hd0 [c] = c from rfl, HR.out] at hs ⊢
    rw [show fateF 2 = (1, false) from by decide]
    dsimp only
    have HS5 := Aside0.mk (show NS w W5 w.heap.size [] [] from by simpa using hs)
    clear hs ho_ hb_ HS3 HA3
    go_wp2_with (first | ((with_reducible refine gate_dst (N := 36) rfl ?_); refine Kd.R_lit (Kd.int .i64) (w0 := W5) W5.heap.size 3 ?hg (N := 36) ?hd (xs := ([1, 0, 1, 0, 2] : List Int)) (inner := [.int .i64 (1), .int .i64 (0), .int .i64 (1), .int .i64 (0), .int .i64 (2)]) (ok := fun _ => True) (okp := fun _ => True) ?hr ?hp (fun _ hk => hk) trivial (Below.refl _ _) (Nat.le_refl _) (by simp) ?_; (case hg => rfl); (case hd => rfl); (case hr => first | (go_simp; done) | (go_simp; rfl)); (case hp => exact (Reps.one (show Kd.M (Kd.int .i64) _ _ _ (1) [.int .i64 (1)] from rfl) (Reps.one (show Kd.M (Kd.int .i64) _ _ _ (0) [.int .i64 (0)] from rfl) (Reps.one (show Kd.M (Kd.int .i64) _ _ _ (1) [.int .i64 (1)] from rfl) (Reps.one (show Kd.M (Kd.int .i64) _ _ _ (0) [.int .i64 (0)] from rfl) (Reps.one (show Kd.M (Kd.int .i64) _ _ _ (2) [.int .i64 (2)] from rfl) (Reps.none _ _))))))); intro vl_ wl_ HOT HBLT _ _; obtain ⟨gT, cT, rfl, _, _, _⟩ := Kd.R_form HOT (by decide); have x0 := (Kd.R_cell (0 : Int) HOT 2 (by decide) (by decide)).1; have HS6 := Aside0.mk (HS5.out.below HBLT); rw [show (2 : Int).toNat = 2 from rfl, show rdOf (0 : Int) ([1, 0, 1, 0, 2] : List Int) 2 = 1 from rfl] at x0; clear HOT HBLT HS5))
    refine (late_s HS6.out).mono ?_
    rintro e W7 ⟨rfl, rfl⟩
    go_wp2_with fail
    refine (left_s HS6.out).mono ?_
    rintro e W7 ⟨rfl, rfl⟩
    go_wp2_with fail
    go_ret
    exact ⟨rfl, HS6.out.bel⟩
  · go_enter Try.func3, Try.ntmps3
    go_wp2_with fail
    refine (new_s w w (Below.refl _ _)).mono ?_
    rintro e W1 ⟨rfl, hs⟩
    have HS := Aside0.mk hs
    clear hs
    go_wp2_with fail
    refine (knows_c W1).mono ?_
    rintro e W2 ⟨rfl, hk⟩
    have HS2 := Aside0.mk (HS.out.below hk)
    clear HS hk
    go_wp2_with (first | ((with_reducible refine gate_dst (N := 21) rfl ?_); refine Kd.R_lit (Kd.int .i64) (w0 := W2) W2.heap.size 3 ?hg (N := 21) ?hd (xs := ([c] : List Int)) (inner := [.int .i64 (c)]) (ok := fun _ => True) (okp := fun _ => True) ?hr ?hp (fun _ hk => hk) trivial (Below.refl _ _) (Nat.le_refl _) (by simp) ?_; (case hg => rfl); (case hd => rfl); (case hr => first | (go_simp; done) | (go_simp; rfl)); (case hp => exact (Reps.one (show Kd.M (Kd.int .i64) _ _ _ (c) [.int .i64 (c)] from rfl) (Reps.none _ _))); intro vl_ wl_ HOL HBLL _ _; obtain ⟨AL, cL, rfl⟩ := Kd.R_slice HOL))
    refine (luck_s (HS2.out.below HBLL) AL cL [c] (Kd.R_reads' HOL).2.2 (by simp)).mono ?_
    rintro e W3 ⟨rfl, hs⟩
    have HS3 := Aside0.mk (show NS w W3 w.heap.size [c] [] from hs)
    have HA3 := Aside0.mk (Kd.C_below HA.out HS3.out.bel)
    clear hs HOL HBLL HS2
    go_wp2_with (first | ((with_reducible refine gate_dst (N := 26) rfl ?_); refine Kd.R_lit (Kd.int .u8) (w0 := W3) W3.heap.size 5 ?hg (N := 26) ?hd (xs := ([] : List Int)) (inner := []) (ok := fun _ => True) (okp := fun _ => True) ?hr ?hp (fun _ hk => hk) trivial (Below.refl _ _) (Nat.le_refl _) (by decide) ?_; (case hg => rfl); (case hd => rfl); (case hr => first | (go_simp; done) | (go_simp; rfl)); (case hp => exact Reps.none _ _); intro vl_ wl_ HOl_ hbl_ hgl_ hatl_; have HCl_ := Kd.C_below HA3.out hbl_; clear hgl_ hatl_) | (refine Kd.R_append_row (Value.int .u8) 0 W3.heap.size rfl (.tmp 26) (.tmp 27) 22 5 (.int .u8 0) 1 rfl Try.underlying22 infoB rfl (by omega) vl_ [] b A _ cap (fun _ => True) rfl rfl (fun _ _ => trivial) HOl_ HCl_ hbl_ (below_size hbl_) (by simp; omega) ?_; intro v1_ W4 ho_ hb_ hg_ hat_; clear HOl_ HCl_ hbl_ hg_ hat_; obtain ⟨A5, c5, rfl⟩ := Kd.R_slice ho_))
    simp only [List.nil_append] at ho_ ⊢
    refine (send_s HS3.out hb_ dest A5 c5 b (R_fresh ho_) hb (by decide)).mono ?_
    rintro e W5 ⟨rfl, hs, _⟩
    rw [show hd0 [c] = c from rfl, HR.out] at hs ⊢
    rw [show fateF 3 = (0, false) from by decide]
    dsimp only
    have HS5 := Aside0.mk (show NS w W5 w.heap.size [] [(dest, b)] from by simpa using hs)
    clear hs ho_ hb_ HS3 HA3
    go_wp2_with (first | ((with_reducible refine gate_dst (N := 36) rfl ?_); refine Kd.R_lit (Kd.int .i64) (w0 := W5) W5.heap.size 3 ?hg (N := 36) ?hd (xs := ([1, 0, 1, 0, 2] : List Int)) (inner := [.int .i64 (1), .int .i64 (0), .int .i64 (1), .int .i64 (0), .int .i64 (2)]) (ok := fun _ => True) (okp := fun _ => True) ?hr ?hp (fun _ hk => hk) trivial (Below.refl _ _) (Nat.le_refl _) (by simp) ?_; (case hg => rfl); (case hd => rfl); (case hr => first | (go_simp; done) | (go_simp; rfl)); (case hp => exact (Reps.one (show Kd.M (Kd.int .i64) _ _ _ (1) [.int .i64 (1)] from rfl) (Reps.one (show Kd.M (Kd.int .i64) _ _ _ (0) [.int .i64 (0)] from rfl) (Reps.one (show Kd.M (Kd.int .i64) _ _ _ (1) [.int .i64 (1)] from rfl) (Reps.one (show Kd.M (Kd.int .i64) _ _ _ (0) [.int .i64 (0)] from rfl) (Reps.one (show Kd.M (Kd.int .i64) _ _ _ (2) [.int .i64 (2)] from rfl) (Reps.none _ _))))))); intro vl_ wl_ HOT HBLT _ _; obtain ⟨gT, cT, rfl, _, _, _⟩ := Kd.R_form HOT (by decide); have x0 := (Kd.R_cell (0 : Int) HOT 3 (by decide) (by decide)).1; have HS6 := Aside0.mk (HS5.out.below HBLT); rw [show (3 : Int).toNat = 3 from rfl, show rdOf (0 : Int) ([1, 0, 1, 0, 2] : List Int) 3 = 0 from rfl] at x0; clear HOT HBLT HS5))
    refine (late_s HS6.out).mono ?_
    rintro e W7 ⟨rfl, rfl⟩
    go_wp2_with fail
    refine (left_s HS6.out).mono ?_
    rintro e W7 ⟨rfl, rfl⟩
    go_wp2_with fail
    go_ret
    exact ⟨rfl, HS6.out.bel⟩
  · go_enter Try.func3, Try.ntmps3
    go_wp2_with fail
    refine (new_s w w (Below.refl _ _)).mono ?_
    rintro e W1 ⟨rfl, hs⟩
    have HS := Aside0.mk hs
    clear hs
    go_wp2_with fail
    refine (knows_c W1).mono ?_
    rintro e W2 ⟨rfl, hk⟩
    have HS2 := Aside0.mk (HS.out.below hk)
    clear HS hk
    go_wp2_with (first | ((with_reducible refine gate_dst (N := 21) rfl ?_); refine Kd.R_lit (Kd.int .i64) (w0 := W2) W2.heap.size 3 ?hg (N := 21) ?hd (xs := ([c] : List Int)) (inner := [.int .i64 (c)]) (ok := fun _ => True) (okp := fun _ => True) ?hr ?hp (fun _ hk => hk) trivial (Below.refl _ _) (Nat.le_refl _) (by simp) ?_; (case hg => rfl); (case hd => rfl); (case hr => first | (go_simp; done) | (go_simp; rfl)); (case hp => exact (Reps.one (show Kd.M (Kd.int .i64) _ _ _ (c) [.int .i64 (c)] from rfl) (Reps.none _ _))); intro vl_ wl_ HOL HBLL _ _; obtain ⟨AL, cL, rfl⟩ := Kd.R_slice HOL))
    refine (luck_s (HS2.out.below HBLL) AL cL [c] (Kd.R_reads' HOL).2.2 (by simp)).mono ?_
    rintro e W3 ⟨rfl, hs⟩
    have HS3 := Aside0.mk (show NS w W3 w.heap.size [c] [] from hs)
    have HA3 := Aside0.mk (Kd.C_below HA.out HS3.out.bel)
    clear hs HOL HBLL HS2
    go_wp2_with (first | ((with_reducible refine gate_dst (N := 26) rfl ?_); refine Kd.R_lit (Kd.int .u8) (w0 := W3) W3.heap.size 5 ?hg (N := 26) ?hd (xs := ([] : List Int)) (inner := []) (ok := fun _ => True) (okp := fun _ => True) ?hr ?hp (fun _ hk => hk) trivial (Below.refl _ _) (Nat.le_refl _) (by decide) ?_; (case hg => rfl); (case hd => rfl); (case hr => first | (go_simp; done) | (go_simp; rfl)); (case hp => exact Reps.none _ _); intro vl_ wl_ HOl_ hbl_ hgl_ hatl_; have HCl_ := Kd.C_below HA3.out hbl_; clear hgl_ hatl_) | (refine Kd.R_append_row (Value.int .u8) 0 W3.heap.size rfl (.tmp 26) (.tmp 27) 22 5 (.int .u8 0) 1 rfl Try.underlying22 infoB rfl (by omega) vl_ [] b A _ cap (fun _ => True) rfl rfl (fun _ _ => trivial) HOl_ HCl_ hbl_ (below_size hbl_) (by simp; omega) ?_; intro v1_ W4 ho_ hb_ hg_ hat_; clear HOl_ HCl_ hbl_ hg_ hat_; obtain ⟨A5, c5, rfl⟩ := Kd.R_slice ho_))
    simp only [List.nil_append] at ho_ ⊢
    refine (send_s HS3.out hb_ dest A5 c5 b (R_fresh ho_) hb (by decide)).mono ?_
    rintro e W5 ⟨rfl, hs, _⟩
    rw [show hd0 [c] = c from rfl, HR.out] at hs ⊢
    rw [show fateF 4 = (2, true) from by decide]
    dsimp only
    have HS5 := Aside0.mk (show NS w W5 w.heap.size [] [] from by simpa using hs)
    clear hs ho_ hb_ HS3 HA3
    go_wp2_with (first | ((with_reducible refine gate_dst (N := 36) rfl ?_); refine Kd.R_lit (Kd.int .i64) (w0 := W5) W5.heap.size 3 ?hg (N := 36) ?hd (xs := ([1, 0, 1, 0, 2] : List Int)) (inner := [.int .i64 (1), .int .i64 (0), .int .i64 (1), .int .i64 (0), .int .i64 (2)]) (ok := fun _ => True) (okp := fun _ => True) ?hr ?hp (fun _ hk => hk) trivial (Below.refl _ _) (Nat.le_refl _) (by simp) ?_; (case hg => rfl); (case hd => rfl); (case hr => first | (go_simp; done) | (go_simp; rfl)); (case hp => exact (Reps.one (show Kd.M (Kd.int .i64) _ _ _ (1) [.int .i64 (1)] from rfl) (Reps.one (show Kd.M (Kd.int .i64) _ _ _ (0) [.int .i64 (0)] from rfl) (Reps.one (show Kd.M (Kd.int .i64) _ _ _ (1) [.int .i64 (1)] from rfl) (Reps.one (show Kd.M (Kd.int .i64) _ _ _ (0) [.int .i64 (0)] from rfl) (Reps.one (show Kd.M (Kd.int .i64) _ _ _ (2) [.int .i64 (2)] from rfl) (Reps.none _ _))))))); intro vl_ wl_ HOT HBLT _ _; obtain ⟨gT, cT, rfl, _, _, _⟩ := Kd.R_form HOT (by decide); have x0 := (Kd.R_cell (0 : Int) HOT 4 (by decide) (by decide)).1; have HS6 := Aside0.mk (HS5.out.below HBLT); rw [show (4 : Int).toNat = 4 from rfl, show rdOf (0 : Int) ([1, 0, 1, 0, 2] : List Int) 4 = 2 from rfl] at x0; clear HOT HBLT HS5))
    refine (late_s HS6.out).mono ?_
    rintro e W7 ⟨rfl, rfl⟩
    go_wp2_with fail
    refine (left_s HS6.out).mono ?_
    rintro e W7 ⟨rfl, rfl⟩
    go_wp2_with fail
    go_ret
    exact ⟨rfl, HS6.out.bel⟩
end Go.Proofs.Ytckeahjlfopaaaa.Hand
