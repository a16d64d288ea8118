/- A net that a function has made itself: what its calls leave; knows. -/
import Derived.Test.YtckeahjlfopaaaaHN6
import Derived.Lib.SlBytesConst
namespace Go.Proofs.Ytckeahjlfopaaaa.Hand
open Go.RowKit Go.Proofs.Ytckeahjlfopaaaa Go.Proofs.YtckeahjlfopaaaaW.PrintWords Go.Proofs.YtckeahjlfopaaaaW.PrintLast
set_option linter.unusedVariables false
set_option linter.unusedSimpArgs false
/-- A net of one's own, made behind w. -/
structure NS (w W : World) (g : Nat) (lu : List Int) (la : List (Int × List Int)) : Prop where
  ex : ∃ F, NI W F g lu la ∧ ∀ k, F k → w.heap.size ≤ k
  bel : Below w.heap.size w W
section
variable {w W W' : World} {g : Nat} {lu : List Int} {la : List (Int × List Int)}
theorem NS.below (h : NS w W g lu la) (hb : Below W.heap.size W W') : NS w W' g lu la := by
  obtain ⟨⟨F, h1, h2⟩, h3⟩ := h
  exact ⟨⟨F, h1.below hb, h2⟩, below_step h3 hb⟩
theorem NS.step {F F' : Nat → Prop} {lu' : List Int} {la' : List (Int × List Int)} (hF : ∀ k, F k → w.heap.size ≤ k) (hw : Below w.heap.size w W) (h1 : NI W' F' g lu' la') (h2 : ∀ k, F' k → F k ∨ W.heap.size ≤ k) (h3 : Fr F W W') : NS w W' g lu' la' :=
  ⟨⟨F', h1, fun k hk => (h2 k hk).elim (hF k) (fun h => Nat.le_trans hw.size h)⟩, hw.trans (h3.below hF hw.size)⟩
theorem new_s (w W : World) (hw : Below w.heap.size w W) : Calls Try.prog 7 #[] W fun e W' => e = .returned (.pointer (some ⟨W.heap.size, 0, none⟩)) ∧ NS w W' W.heap.size [] [] := by
  refine (new_c W).mono ?_
  rintro e W' ⟨he, h1, h2⟩
  exact ⟨he, ⟨_, h1, fun k hk => Nat.le_trans hw.size hk.1⟩, below_step hw h2⟩
theorem luck_s (h : NS w W g lu la) (A : Option Addr) (c : Nat) (l : List Int) (hr : Kd.C (Kd.int .i64) W A l.length l) (hl : (lu.length + l.length) * 8 ≤ 140737488355328) :
    Calls Try.prog 9 #[.pointer (some ⟨g, 0, none⟩), .slice A l.length c] W fun e W' => e = .returned (.tuple #[]) ∧ NS w W' g (lu ++ l) la := by
  obtain ⟨⟨F, h1, h2⟩, h3⟩ := h
  refine (luck_c F g lu l la A c W h1 hr hl).mono ?_
  rintro e W' ⟨he, k1, k2⟩
  exact ⟨he, NS.step h2 h3 k1 (fun k hk => hk.imp id (fun h => h.1)) k2⟩
theorem send_s (h : NS w W g lu la) (hb : Below W.heap.size W W') (dest : Int) (A : Option Addr) (c : Nat) (b : List Int) (hr : Kd.R (Kd.int .u8) 5 W' 0 (fun k => W.heap.size ≤ k) (.slice A b.length c) b) (hl : b.length ≤ 140737488351232) (hla : (la.length + 1) * 32 ≤ 140737488355328) :
    Calls Try.prog 10 #[.pointer (some ⟨g, 0, none⟩), .int .i64 dest, .slice A b.length c] W' fun e W2 => e = .returned (.tuple #[.int .i64 (fateF (restF (hd0 lu))).1, .bool (fateF (restF (hd0 lu))).2]) ∧ NS w W2 g lu.tail (if restF (hd0 lu) = 3 then la ++ [(dest, b)] else la) ∧ Kd.R (Kd.int .u8) 5 W2 0 (fun k => W.heap.size ≤ k) (.slice A b.length c) b := by
  obtain ⟨⟨F, h1, h2⟩, h3⟩ := h
  have hd : ∀ k, W.heap.size ≤ k → ¬ F k := fun k hk hf => by have := h1.lt k hf; omega
  refine (send_c F g dest lu la A c b W' (h1.below hb) (fun W2 hf => (Kd.R_reads' (hf.R hr hd)).2.2) hl hla).mono ?_
  rintro e W2 ⟨he, F', k1, k2, k3⟩
  exact ⟨he, NS.step h2 (below_step h3 hb) k1 k2 k3, k3.R hr hd⟩
/-- Send of bytes that no call on the net can reach. -/
theorem send_a (h : NS w W g lu la) (hb : Below W.heap.size W W') (dest : Int) (A : Option Addr) (c : Nat) (b : List Int) (hr : ∀ W2, Fr (fun k => k < W.heap.size) W' W2 → Kd.C (Kd.int .u8) W2 A b.length b) (hl : b.length ≤ 140737488351232) (hla : (la.length + 1) * 32 ≤ 140737488355328) :
    Calls Try.prog 10 #[.pointer (some ⟨g, 0, none⟩), .int .i64 dest, .slice A b.length c] W' fun e W2 => e = .returned (.tuple #[.int .i64 (fateF (restF (hd0 lu))).1, .bool (fateF (restF (hd0 lu))).2]) ∧ NS w W2 g lu.tail (if restF (hd0 lu) = 3 then la ++ [(dest, b)] else la) := by
  obtain ⟨⟨F, h1, h2⟩, h3⟩ := h
  refine (send_c F g dest lu la A c b W' (h1.below hb) (fun W2 hf => hr W2 (hf.mono h1.lt)) hl hla).mono ?_
  rintro e W2 ⟨he, F', k1, k2, k3⟩
  exact ⟨he, NS.step h2 (below_step h3 hb) k1 k2 k3⟩
theorem const_C {W : World} {q : Nat} {x : Int} {f : Nat × Nat} (h : W.heap[q]? = some (.cells #[.int .u8 x] 5 f)) : Kd.C (Kd.int .u8) W (some ⟨q, 0, none⟩) 1 [x] := by
  refine Kd.C_of_reads (d := (0 : Int)) (h1 := fun _ => rfl) ⟨rfl, by omega, fun _ => ⟨_, rfl, fun j hj => ?_⟩⟩
  obtain rfl : j = 0 := by omega
  simp [World.cell?, h, Addr.add]
theorem take_s (h : NS w W g lu la) (k : Nat) (hk : k < la.length) (hb : (la.getD k (0, [])).2.length ≤ 140737488351232) :
    Calls Try.prog 15 #[.pointer (some ⟨g, 0, none⟩), .int .i64 k] W fun e W' => ∃ A c, e = .returned (.tuple #[.int .i64 (la.getD k (0, [])).1, .slice A (la.getD k (0, [])).2.length c, .bool true]) ∧ Kd.C (Kd.int .u8) W' A (la.getD k (0, [])).2.length (la.getD k (0, [])).2 ∧ NS w W' g lu (la.eraseIdx k) := by
  obtain ⟨⟨F, h1, h2⟩, h3⟩ := h
  refine (takeN_c h1 k hk hb).mono ?_
  rintro e W' ⟨A, c, F', he, hC, k1, k2, k3⟩
  exact ⟨A, c, he, hC, NS.step h2 h3 k1 k2 k3⟩
theorem take_s_no (h : NS w W g lu la) (k : Int) (hk : k < 0 ∨ la.length ≤ k) :
    Calls Try.prog 15 #[.pointer (some ⟨g, 0, none⟩), .int .i64 k] W fun e W' => e = .returned (.tuple #[.int .i64 0, .slice none 0 0, .bool false]) ∧ NS w W' g lu la := by
  have h' := h
  obtain ⟨⟨F, h1, h2⟩, h3⟩ := h
  refine (takeN_no h1 k hk).mono ?_
  rintro e W' ⟨he, hb⟩
  exact ⟨he, h'.below hb⟩
theorem msg_s (h : NS w W g lu la) (k : Nat) (hk : k < la.length) (hb : (la.getD k (0, [])).2.length ≤ 140737488351232) :
    Calls Try.prog 13 #[.pointer (some ⟨g, 0, none⟩), .int .i64 k] W fun e W' => ∃ A c, e = .returned (.tuple #[.int .i64 (la.getD k (0, [])).1, .slice A (la.getD k (0, [])).2.length c, .bool true]) ∧ Kd.R (Kd.int .u8) 5 W' W.heap.size (fun _ => True) (.slice A (la.getD k (0, [])).2.length c) (la.getD k (0, [])).2 ∧ Below W.heap.size W W' := by
  obtain ⟨⟨F, h1, h2⟩, h3⟩ := h
  exact msg_c h1 k hk hb
theorem msg_s_no (h : NS w W g lu la) (k : Int) (hk : k < 0 ∨ la.length ≤ k) :
    Calls Try.prog 13 #[.pointer (some ⟨g, 0, none⟩), .int .i64 k] W fun e W' => e = .returned (.tuple #[.int .i64 0, .slice none 0 0, .bool false]) ∧ W = W' := by
  obtain ⟨⟨F, h1, h2⟩, h3⟩ := h
  exact msg_no h1 k hk
theorem double_s (h : NS w W g lu la) (k : Nat) (hk : k < la.length) (hb : (la.getD k (0, [])).2.length ≤ 140737488351232) (hla : (la.length + 1) * 32 ≤ 140737488355328) :
    Calls Try.prog 14 #[.pointer (some ⟨g, 0, none⟩), .int .i64 k] W fun e W' => e = .returned (.bool true) ∧ NS w W' g lu (la ++ [la.getD k (0, [])]) := by
  obtain ⟨⟨F, h1, h2⟩, h3⟩ := h
  refine (double_c h1 k hk hb hla).mono ?_
  rintro e W' ⟨F', he, k1, k2, k3⟩
  exact ⟨he, NS.step h2 h3 k1 k2 k3⟩
theorem double_s_no (h : NS w W g lu la) (k : Int) (hk : k < 0 ∨ la.length ≤ k) : Calls Try.prog 14 #[.pointer (some ⟨g, 0, none⟩), .int .i64 k] W fun e W' => e = .returned (.bool false) ∧ W = W' := by
  obtain ⟨⟨F, h1, h2⟩, h3⟩ := h
  exact double_no h1 k hk
theorem late_s (h : NS w W g lu la) : Calls Try.prog 11 #[.pointer (some ⟨g, 0, none⟩)] W fun e W' => e = .returned (.int .i64 la.length) ∧ W = W' := by
  obtain ⟨⟨F, h1, h2⟩, h3⟩ := h
  exact late_ni h1
theorem left_s (h : NS w W g lu la) : Calls Try.prog 12 #[.pointer (some ⟨g, 0, none⟩)] W fun e W' => e = .returned (.int .i64 lu.length) ∧ W = W' := by
  obtain ⟨⟨F, h1, h2⟩, h3⟩ := h
  exact left_ni h1
theorem made_s (h : NS w W g lu la) : Calls Try.prog 16 #[.pointer (some ⟨g, 0, none⟩)] W fun e W' => e = .returned (.bool true) ∧ W = W' := by
  obtain ⟨⟨F, ⟨⟨v, vm, h1, _⟩, _, _⟩, _⟩, _⟩ := h
  exact made_c g v vm true W h1
end
theorem grown_none {W W' : World} (h : W.grownBy W' none) : Below W.heap.size W W' := ⟨h.os, h.tape, h.output, h.size, fun k hk => h.block k hk (by simp)⟩
theorem R_fresh {v : Value} {b : List Int} {W W' : World} (h : Kd.R (Kd.int .u8) 5 W' W.heap.size (fun _ => True) v b) : Kd.R (Kd.int .u8) 5 W' 0 (fun k => W.heap.size ≤ k) v b := Kd.R_lower (Kd.R_mono (Kd.R_bound h) (fun k h => h.2.1)) (Nat.zero_le _)
theorem conv_c {W : World} {A : Option Addr} {x : List Int} (c : Nat) (h : Kd.C (Kd.int .u8) W A x.length x) : (convert 22 9 (.slice A x.length c)).run Try.prog W = .ok (.string (strOfNums x)) W :=
  Kd.C_string (P := Try.prog) (src := 22) (dst := 9) (e := 5) (by kernel_rfl) (by kernel_rfl) (by kernel_rfl) h
theorem heap_alloc_marked (W : World) (o : Obj) : (W.alloc o).heap[W.heap.size]? = some o := heap_alloc_new W o
set_option maxHeartbeats 3200000 in
set_option maxRecDepth 100000 in
theorem knows_c (w : World) : Calls Try.prog 8 #[] w fun e W' => e = .returned (.bool true) ∧ Below w.heap.size w W' := by
  have kc := fun (w : World) (C : Array Value) (n c : Nat) => Lib.run_convert_bytes_const (P := Try.prog) w 22 5 C n c Try.underlying22 Try.underlying5
  go_enter Try.func8, Try.ntmps8
  go_wp2_with fail
  refine (new_s w w (Below.refl _ _)).mono ?_
  rintro e W1 ⟨rfl, hs⟩
  have HS := Aside0.mk hs
  clear hs
  go_wp2_with (first | ((with_reducible refine gate_dst (N := 13) rfl ?_); refine Kd.R_lit (Kd.int .i64) (w0 := W1) W1.heap.size 3 ?hg (N := 13) ?hd (xs := ([3, 1] : List Int)) (inner := [.int .i64 (3), .int .i64 (1)]) (ok := fun _ => True) (okp := fun _ => True) ?hr ?hp (fun _ hk => hk) trivial (Below.refl _ _) (Nat.le_refl _) (by decide) ?_; (case hg => rfl); (case hd => rfl); (case hr => first | (go_simp; done) | (go_simp; rfl)); (case hp => exact (Reps.one (show Kd.M (Kd.int .i64) _ _ _ (3) [.int .i64 (3)] from rfl) (Reps.one (show Kd.M (Kd.int .i64) _ _ _ (1) [.int .i64 (1)] from rfl) (Reps.none _ _)))); intro vl_ wl_ HOL HBLL _ _; obtain ⟨AL, cL, rfl⟩ := Kd.R_slice HOL))
  refine (luck_s (HS.out.below HBLL) AL cL [3, 1] (Kd.R_reads' HOL).2.2 (by decide)).mono ?_
  rintro e W2 ⟨rfl, hs⟩
  have HS2 := Aside0.mk (show NS w W2 w.heap.size [3, 1] [] from hs)
  clear hs HOL HBLL HS
  go_wp2_with fail
  refine (send_a (W' := W2.alloc (.cells #[.int .u8 97] 5 (1, 2))) HS2.out (below_alloc (Below.refl _ _) _) 2 (some ⟨W2.heap.size, 0, none⟩) 1 [97] (fun W9 hf => const_C (hf.blk (heap_alloc_marked W2 _) (by omega))) (by decide) (by decide)).mono ?_
  rintro e W3 ⟨rfl, hs⟩
  have hr_ : restF (hd0 [3, 1]) = 3 := by decide +kernel
  rw [hr_] at hs ⊢
  have HSP := Aside0.mk (show NS w W3 w.heap.size [1] [(2, [97])] from by simpa using hs)
  clear hs HS2 hr_
  rw [show fateF 3 = (0, false) from by decide]
  dsimp only
  go_wp2_with fail
  refine (send_a (W' := W3.alloc (.cells #[.int .u8 98] 5 (1, 2))) HSP.out (below_alloc (Below.refl _ _) _) 2 (some ⟨W3.heap.size, 0, none⟩) 1 [98] (fun W9 hf => const_C (hf.blk (heap_alloc_marked W3 _) (by omega))) (by decide) (by decide)).mono ?_
  rintro e W4 ⟨rfl, hs⟩
  have hr_ : restF (hd0 [1]) = 1 := by decide +kernel
  rw [hr_] at hs ⊢
  have HSQ := Aside0.mk (show NS w W4 w.heap.size [] [(2, [97])] from by simpa using hs)
  clear hs HSP hr_
  rw [show fateF 1 = (0, false) from by decide]
  dsimp only
  go_wp2_with fail
  refine (send_a (W' := W4.alloc (.cells #[.int .u8 99] 5 (1, 2))) HSQ.out (below_alloc (Below.refl _ _) _) 2 (some ⟨W4.heap.size, 0, none⟩) 1 [99] (fun W9 hf => const_C (hf.blk (heap_alloc_marked W4 _) (by omega))) (by decide) (by decide)).mono ?_
  rintro e W5 ⟨rfl, hs⟩
  have hr_ : restF (hd0 []) = 0 := by decide +kernel
  rw [hr_] at hs ⊢
  have HSS := Aside0.mk (show NS w W5 w.heap.size [] [(2, [97])] from by simpa using hs)
  clear hs HSQ hr_
  rw [show fateF 0 = (1, true) from by decide]
  dsimp only
  go_wp2_with fail
  refine (take_s HSS.out 0 (by simp) (by simp)).mono ?_
  rintro e W6 ⟨A6, c6, rfl, hC6, hs⟩
  have HS6 := Aside0.mk (show NS w W6 w.heap.size [] [] from hs)
  have hq : (convert 22 9 (.slice A6 1 c6)).run Try.prog W6 = .ok (.string (strOfNums [97])) W6 := conv_c c6 (show Kd.C (Kd.int .u8) W6 A6 ([97] : List Int).length [97] from hC6)
  clear hs hC6 HSS
  have hstr : (strOfNums [97]).toList = (⟨#[97]⟩ : ByteArray).toList := by rfl
  go_wp2_with fail
  refine (late_s HS6.out).mono ?_
  rintro e W7 ⟨rfl, rfl⟩
  go_wp2_with fail
  go_ret
  exact ⟨rfl, HS6.out.bel⟩
end Go.Proofs.Ytckeahjlfopaaaa.Hand
