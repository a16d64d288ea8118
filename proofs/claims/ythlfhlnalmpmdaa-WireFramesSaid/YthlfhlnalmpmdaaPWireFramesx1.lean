/- WireFrames: the law's own walk: it answers true. -/
import Derived.Test.YthlfhlnalmpmdaaHLent
import Derived.Test.YthlfhlnalmpmdaaHPure
namespace Go.Proofs.Ythlfhlnalmpmdaa.PWireFrames
open Go.RowKit Go.Proofs.Ythlfhlnalmpmdaa Go.Proofs.Ythlfhlnalmpmdaa.Hand Go.Proofs.YthlfhlnalmpmdaaW.PrintWords Go.Proofs.YthlfhlnalmpmdaaW.PrintMore
set_option maxHeartbeats 2000000 in
set_option maxRecDepth 100000 in
theorem law (kind : Int) (A1 : Option Addr) (c1 : Nat) (l1 : List Int) (A0 : Option Addr) (c0 : Nat) (l0 : List Int) (p : Int) (w : World) (hr1 : Kd.C (Kd.int .u8) w A1 l1.length l1) (hc1 : l1.length ≤ c1) (hb1 : isBytes l1) (hlen1 : l1.length ≤ 140737488351232) (hr0 : Kd.C (Kd.int .u8) w A0 l0.length l0) (hc0 : l0.length ≤ c0) (hb : isBytes l0) (hlen : l0.length ≤ 140737488351232) :
    Calls Try.prog 5 #[.int .i64 kind, .slice A1 l1.length c1, .slice A0 l0.length c0, .int .i64 p] w fun e w' => e = .returned (.bool true) ∧ Below w.heap.size w w' := by
  have hB := (isB_iff l0).2 hb
  have hB1 := (isB_iff l1).2 hb1
  have HL1 := Aside0.mk (Lent_calls A1 c1 l1 w hr1 hc1 hlen1)
  have HL0 := Aside0.mk (fun (W : World) (h : Below w.heap.size w W) => Lent_calls A0 c0 l0 W (Kd.C_below hr0 h) hc0 hlen)
  have HP := Aside0.mk (fun (W : World) (A : Option Addr) (c : Nat) (hr : Kd.C (Kd.int .u8) W A l1.length l1) (hc : l1.length ≤ c) => wire_Frame.calls kind A c l1 (frameF kind l1).1 (frameF kind l1).2 W hr hc (by unfold wire_Frame.f; rw [if_pos hB1]))
  have HQ := Aside0.mk (fun (W : World) (h : Below w.heap.size w W) => gazetteref01_Frame.calls kind A1 c1 l1 (frameF kind l1).1 (frameF kind l1).2 W (Kd.C_below hr1 h) hc1 (by unfold gazetteref01_Frame.f wire_Frame.f; rw [if_pos hB1]))
  have HG := Aside0.mk (fun (W : World) (A : Option Addr) (c : Nat) (hr : Kd.C (Kd.int .u8) W A l0.length l0) (hc : l0.length ≤ c) => wire_Unframe.calls A c l0 p (unfF l0 p).1 (unfF l0 p).2.1 (unfF l0 p).2.2.1 (unfF l0 p).2.2.2 W hr hc (by unfold wire_Unframe.f; rw [if_pos hB]))
  have HH := Aside0.mk (fun (W : World) (h : Below w.heap.size w W) => gazetteref01_Unframe.calls A0 c0 l0 p (unfF l0 p).1 (unfF l0 p).2.1 (unfF l0 p).2.2.1 (unfF l0 p).2.2.2 W (Kd.C_below hr0 h) hc0 (by unfold gazetteref01_Unframe.f; rw [if_pos ⟨hB, by omega⟩]))
  have HS1 := Aside0.mk (fun (W : World) (A : Option Addr) (c : Nat) (hr : Kd.C (Kd.int .u8) W A (l1.length + 2) (l1 ++ [201, 202])) (hc : l1.length + 2 ≤ c) (h : Below w.heap.size w W) => Stays_calls A c A1 c1 l1 W hr hc (Kd.C_below hr1 h))
  have HS0 := Aside0.mk (fun (W : World) (A : Option Addr) (c : Nat) (hr : Kd.C (Kd.int .u8) W A (l0.length + 2) (l0 ++ [201, 202])) (hc : l0.length + 2 ≤ c) (h : Below w.heap.size w W) => Stays_calls A c A0 c0 l0 W hr hc (Kd.C_below hr0 h))
  have HK := Aside0.mk knows_calls0
  clear hr0 hb hB hr1 hb1 hB1
  generalize frameF kind l1 = P at *
  generalize unfF l0 p = G at *
  obtain ⟨P1, P2⟩ := P
  obtain ⟨G1, G2, G3, G4⟩ := G
  dsimp only at *
  go_enter Try.func5, Try.ntmps5
  go_wp2_with fail
  refine HL1.out.mono ?_
  rintro e w1 ⟨X, cx, rfl, hcx, hrx, hb1⟩
  have HX1 := Aside0.mk hrx
  have HB1 := Aside0.mk hb1
  clear hrx hb1
  go_wp2_with fail
  refine (HL0.out _ HB1.out).mono ?_
  rintro e w2 ⟨Y, cy, rfl, hcy, hry, hb2⟩
  have HX2 := Aside0.mk (Kd.C_below HX1.out hb2)
  have HY2 := Aside0.mk hry
  have HB2 := Aside0.mk (below_then HB1.out HB1.out.size hb2)
  clear hry hb2
  go_wp2_with fail
  refine (HP.out _ _ _ (C_lent HX2.out) (by omega)).mono ?_
  rintro e w3 ⟨v3, rfl, ho3, hb3⟩
  have HO3 := Aside0.mk ho3
  have HX3 := Aside0.mk (Kd.C_below HX2.out hb3)
  have HY3 := Aside0.mk (Kd.C_below HY2.out hb3)
  have HB3 := Aside0.mk (below_then HB2.out HB2.out.size hb3)
  clear ho3 hb3
  go_wp2_with fail
  refine (HQ.out _ HB3.out).mono ?_
  rintro e w4 ⟨v4, rfl, ho4, hb4⟩
  have HO34 := Aside0.mk (Kd.R_below HO3.out hb4)
  have HO4 := Aside0.mk ho4
  have HX4 := Aside0.mk (Kd.C_below HX3.out hb4)
  have HY4 := Aside0.mk (Kd.C_below HY3.out hb4)
  have HB4 := Aside0.mk (below_then HB3.out HB3.out.size hb4)
  clear ho4 hb4
  go_wp2_with fail
  refine (HG.out _ _ _ (C_lent HY4.out) (by omega)).mono ?_
  rintro e w5 ⟨v5, rfl, ho5, hb5⟩
  have HO35 := Aside0.mk (Kd.R_below HO34.out hb5)
  have HO45 := Aside0.mk (Kd.R_below HO4.out hb5)
  have HO5 := Aside0.mk ho5
  have HX5 := Aside0.mk (Kd.C_below HX4.out hb5)
  have HY5 := Aside0.mk (Kd.C_below HY4.out hb5)
  have HB5 := Aside0.mk (below_then HB4.out HB4.out.size hb5)
  clear ho5 hb5
  go_wp2_with fail
  refine (HH.out _ HB5.out).mono ?_
  rintro e w6 ⟨v6, rfl, ho6, hb6⟩
  have hv3 := own_string (P := Try.prog) (dst := 9) Try.underlying22 Try.underlying5 Try.underlying9 (Kd.own_of_R (Kd.R_below HO35.out hb6))
  have hv4 := own_string (P := Try.prog) (dst := 9) Try.underlying22 Try.underlying5 Try.underlying9 (Kd.own_of_R (Kd.R_below HO45.out hb6))
  have hv5 := own_string (P := Try.prog) (dst := 9) Try.underlying22 Try.underlying5 Try.underlying9 (Kd.own_of_R (Kd.R_below HO5.out hb6))
  have hv6 := own_string (P := Try.prog) (dst := 9) Try.underlying22 Try.underlying5 Try.underlying9 (Kd.own_of_R ho6)
  have HX6 := Aside0.mk (Kd.C_below HX5.out hb6)
  have HY6 := Aside0.mk (Kd.C_below HY5.out hb6)
  have HB6 := Aside0.mk (below_then HB5.out HB5.out.size hb6)
  clear ho6 hb6
  go_wp2_with (go_at_call 19; refine (num_calls _ _).mono ?_; rintro e wq ⟨rfl, rfl⟩)
  refine (HS1.out _ _ _ HX6.out hcx HB6.out).mono ?_
  rintro e w7 ⟨rfl, hd7⟩
  have HB7 := Aside0.mk (drawn_below HB6.out hd7)
  have HY7 := Aside0.mk (Kd.C_below HY6.out hd7.below)
  clear hd7
  go_wp2_with fail
  refine (HS0.out _ _ _ HY7.out hcy HB7.out).mono ?_
  rintro e w8 ⟨rfl, hd8⟩
  have HB8 := Aside0.mk (drawn_below HB7.out hd8)
  clear hd8
  go_wp2_with fail
  refine (HK.out _).mono ?_
  rintro e w9 ⟨rfl, hb9⟩
  have HB9 := Aside0.mk (below_then HB8.out HB8.out.size hb9)
  clear hb9
  go_wp2_with fail
  go_ret
  exact ⟨rfl, HB9.out⟩
def gazettelaw01_WireFrames.Pure : Prop := True
theorem gazettelaw01_WireFrames.walk (_P : gazettelaw01_WireFrames.Pure) (a0 : Int) (a1 : Option Addr) (len1 cap1 : Nat) (z1 : List Int) (a2 : Option Addr) (len2 cap2 : Nat) (z2 : List Int) (a3 : Int) (w : World) (_w0 : (Lit.int .i64 a0).wf = true) (w1 : (a1 = none ∧ len1 = 0 ∧ cap1 = 0 ∧ z1 = []) ∨ ∃ x, a1 = some x ∧ len1 ≤ cap1 ∧ cap1 ≤ maxLen ∧ z1.length = cap1 ∧ (∀ i, i < z1.length → w.cell? (x.add i) = some (.int .u8 (z1.getD i 0))) ∧ ∀ n ∈ z1, (Lit.int .u8 n).wf = true) (y1 : len1 * 1 ≤ 140737488351232) (w2 : (a2 = none ∧ len2 = 0 ∧ cap2 = 0 ∧ z2 = []) ∨ ∃ x, a2 = some x ∧ len2 ≤ cap2 ∧ cap2 ≤ maxLen ∧ z2.length = cap2 ∧ (∀ i, i < z2.length → w.cell? (x.add i) = some (.int .u8 (z2.getD i 0))) ∧ ∀ n ∈ z2, (Lit.int .u8 n).wf = true) (y2 : len2 * 1 ≤ 140737488351232) (_w3 : (Lit.int .i64 a3).wf = true) :
    Calls Try.prog 5 #[.int .i64 a0, .slice a1 len1 cap1, .slice a2 len2 cap2, .int .i64 a3] w fun e w' => e = .returned (.bool true) ∧ Below w.heap.size w w' := by
  obtain ⟨l1, rfl, hr1, hm1, hw1, hc1⟩ := ReadsInt.ofRowC w1
  obtain ⟨l2, rfl, hr2, hm2, hw2, hc2⟩ := ReadsInt.ofRowC w2
  exact law a0 _ _ l1 _ _ l2 a3 w (Kd.C_of_reads (d := (0 : Int)) (h1 := fun _ => rfl) hr1) hc1 ((isB_iff l1).1 (isB_of_wf hw1)) (by omega) (Kd.C_of_reads (d := (0 : Int)) (h1 := fun _ => rfl) hr2) hc2 ((isB_iff l2).1 (isB_of_wf hw2)) (by omega)
end Go.Proofs.Ythlfhlnalmpmdaa.PWireFrames
