/- WireNumbers: the law's own walk: it answers true. -/
import Derived.Test.YthlfhlnalmpmdaaHLent
import Derived.Test.YthlfhlnalmpmdaaHPure
namespace Go.Proofs.Ythlfhlnalmpmdaa.PWireNumbers
open Go.RowKit Go.Proofs.Ythlfhlnalmpmdaa Go.Proofs.Ythlfhlnalmpmdaa.Hand Go.Proofs.YthlfhlnalmpmdaaW.PrintWords Go.Proofs.YthlfhlnalmpmdaaW.PrintMore
set_option maxHeartbeats 2000000 in
set_option maxRecDepth 100000 in
theorem law (n size : Int) (A0 : Option Addr) (c0 : Nat) (l0 : List Int) (p : Int) (w : World) (hr0 : Kd.C (Kd.int .u8) w A0 l0.length l0) (hc0 : l0.length ≤ c0) (hb : isBytes l0) (hlen : l0.length ≤ 140737488351232) :
    Calls Try.prog 4 #[.int .i64 n, .int .i64 size, .slice A0 l0.length c0, .int .i64 p] w fun e w' => e = .returned (.bool true) ∧ Below w.heap.size w w' := by
  have hB := (isB_iff l0).2 hb
  have HL := Aside0.mk (Lent_calls A0 c0 l0 w hr0 hc0 hlen)
  have HP := Aside0.mk (fun W => wire_Put.calls n size (putF n size).1 (putF n size).2 W rfl)
  have HQ := Aside0.mk (fun W => gazetteref01_Put.calls n size (putF n size).1 (putF n size).2 W rfl)
  have HG := Aside0.mk (fun (W : World) (A : Option Addr) (c : Nat) (hr : Kd.C (Kd.int .u8) W A l0.length l0) (hc : l0.length ≤ c) => Get_calls0 A c l0 p size W hr hc hb)
  have HH := Aside0.mk (fun (W : World) (h : Below w.heap.size w W) => refGet.calls A0 c0 l0 p size _ _ _ W (Kd.C_below hr0 h) hc0 (by unfold refGet.f wire_Get.f; rw [if_pos hB]))
  have HC := Aside0.mk (fun (W : World) (A : Option Addr) (c : Nat) (hr : Kd.C (Kd.int .u8) W A l0.length l0) => Crc_calls0 A c l0 W hr hb)
  have HD := Aside0.mk (fun (W : World) (h : Below w.heap.size w W) => refCrc_calls0 A0 c0 l0 W (Kd.C_below hr0 h) hb)
  have HS := Aside0.mk (fun (W : World) (A : Option Addr) (c : Nat) (hr : Kd.C (Kd.int .u8) W A (l0.length + 2) (l0 ++ [201, 202])) (hc : l0.length + 2 ≤ c) (h : Below w.heap.size w W) => Stays_calls A c A0 c0 l0 W hr hc (Kd.C_below hr0 h))
  have HK := Aside0.mk knows_calls0
  clear hr0 hb hB
  generalize putF n size = P at *
  generalize getF l0 p size = G at *
  generalize crcOf l0 = C at *
  obtain ⟨P1, P2⟩ := P
  obtain ⟨G1, G2, G3⟩ := G
  dsimp only at *
  go_enter Try.func4, Try.ntmps4
  go_wp2_with fail
  refine HL.out.mono ?_
  rintro e w1 ⟨A1, c1, rfl, hc1, hr1, hb1⟩
  have HR1 := Aside0.mk hr1
  have HB1 := Aside0.mk hb1
  clear hr1 hb1
  go_wp2_with fail
  refine (HP.out _).mono ?_
  rintro e w2 ⟨v2, rfl, ho2, hb2⟩
  have HO2 := Aside0.mk ho2
  have HB2 := Aside0.mk hb2
  clear ho2 hb2
  go_wp2_with fail
  refine (HQ.out _).mono ?_
  rintro e w3 ⟨v3, rfl, ho3, hb3⟩
  have HO3 := Aside0.mk ho3
  have HB3 := Aside0.mk hb3
  have HR3 := Aside0.mk (Kd.C_below (Kd.C_below HR1.out HB2.out) hb3)
  clear ho3 hb3
  go_wp2_with fail
  refine (HG.out _ _ _ (C_lent HR3.out) (by omega)).mono ?_
  rintro e w4 ⟨rfl, hb4⟩
  have HB4 := Aside0.mk (below_then (below_then (below_then HB1.out HB1.out.size HB2.out) (below_then HB1.out HB1.out.size HB2.out).size HB3.out) (below_then (below_then HB1.out HB1.out.size HB2.out) (below_then HB1.out HB1.out.size HB2.out).size HB3.out).size hb4)
  have HR4 := Aside0.mk (Kd.C_below HR3.out hb4)
  have HX4 := Aside0.mk hb4
  clear hb4
  go_wp2_with fail
  refine (HH.out _ HB4.out).mono ?_
  rintro e w5 ⟨rfl, hb5⟩
  have HB5 := Aside0.mk (below_then HB4.out HB4.out.size hb5)
  have HR5 := Aside0.mk (Kd.C_below HR4.out hb5)
  have hv2 := own_string (P := Try.prog) (dst := 9) Try.underlying22 Try.underlying5 Try.underlying9 (Kd.own_of_R (Kd.R_below (Kd.R_below (Kd.R_below HO2.out HB3.out) HX4.out) hb5))
  have hv3 := own_string (P := Try.prog) (dst := 9) Try.underlying22 Try.underlying5 Try.underlying9 (Kd.own_of_R (Kd.R_below (Kd.R_below HO3.out HX4.out) hb5))
  clear hb5
  go_wp2_with (first | (go_at_call 11; refine (HC.out _ _ _ (C_lent HR5.out)).mono ?_; rintro e w6 ⟨rfl, hb6⟩; have HB6 := Aside0.mk (below_then HB5.out HB5.out.size hb6); have HR6 := Aside0.mk (Kd.C_below HR5.out hb6); clear hb6) | (go_at_call 13; refine (HD.out _ HB6.out).mono ?_; rintro e w7 ⟨rfl, hb7⟩; have HB7 := Aside0.mk (below_then HB6.out HB6.out.size hb7); have HR7 := Aside0.mk (Kd.C_below HR6.out hb7); clear hb7) | (go_at_call 20; refine (HS.out _ _ _ HR7.out hc1 HB7.out).mono ?_; rintro e w8 ⟨rfl, hd8⟩; have HB8 := Aside0.mk (drawn_below HB7.out hd8); clear hd8) | (go_at_call 14; refine (HK.out _).mono ?_; rintro e w9 ⟨rfl, hb9⟩; have HB9 := Aside0.mk (below_then HB8.out HB8.out.size hb9); clear hb9) | go_in)
  go_ret
  exact ⟨rfl, HB9.out⟩
def gazettelaw01_WireNumbers.Pure : Prop := True
theorem gazettelaw01_WireNumbers.walk (_P : gazettelaw01_WireNumbers.Pure) (a0 : Int) (a1 : Int) (a2 : Option Addr) (len2 cap2 : Nat) (z2 : List Int) (a3 : Int) (w : World) (_w0 : (Lit.int .i64 a0).wf = true) (_w1 : (Lit.int .i64 a1).wf = true) (w2 : (a2 = none ∧ len2 = 0 ∧ cap2 = 0 ∧ z2 = []) ∨ ∃ x, a2 = some x ∧ len2 ≤ cap2 ∧ cap2 ≤ maxLen ∧ z2.length = cap2 ∧ (∀ i, i < z2.length → w.cell? (x.add i) = some (.int .u8 (z2.getD i 0))) ∧ ∀ n ∈ z2, (Lit.int .u8 n).wf = true) (y2 : len2 * 1 ≤ 140737488351232) (_w3 : (Lit.int .i64 a3).wf = true) :
    Calls Try.prog 4 #[.int .i64 a0, .int .i64 a1, .slice a2 len2 cap2, .int .i64 a3] w fun e w' => e = .returned (.bool true) ∧ Below w.heap.size w w' := by
  obtain ⟨l2, rfl, hr2, hm2, hw2, hc2⟩ := ReadsInt.ofRowC w2
  exact law a0 a1 _ _ l2 a3 w (Kd.C_of_reads (d := (0 : Int)) (h1 := fun _ => rfl) hr2) hc2 ((isB_iff l2).1 (isB_of_wf hw2)) (by omega)
end Go.Proofs.Ythlfhlnalmpmdaa.PWireNumbers
