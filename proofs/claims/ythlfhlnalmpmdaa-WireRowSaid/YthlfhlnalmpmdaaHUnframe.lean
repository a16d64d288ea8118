/- wire.Unframe: what it computes. -/
import Derived.Test.YthlfhlnalmpmdaaHText
import Derived.Test.YthlfhlnalmpmdaaHRefGet
namespace Go.Proofs.Ythlfhlnalmpmdaa.Hand
open Go.RowKit Go.Proofs.Ythlfhlnalmpmdaa Go.Proofs.YthlfhlnalmpmdaaW.PrintWords Go.Proofs.YthlfhlnalmpmdaaW.PrintMore
/-- The reader in the world W: at place p. -/
structure Rdr (w0 : World) (g : Nat) (A : Option Addr) (n c : Nat) (W : World) (p : Int) : Prop where
  below : Below w0.heap.size w0 W
  blk : W.heap[g]? = some (.cells #[.slice A n c, .int .i64 p] 66 (0, 0))
theorem Rdr.new {w : World} (A : Option Addr) (n c : Nat) (p : Int) : Rdr w w.heap.size A n c (w.alloc (.cells #[.slice A n c, .int .i64 p] 66)) p := ⟨below_alloc (Below.refl _ _) _, heap_alloc_new _ _⟩
theorem Rdr.drawn {w0 W W' : World} {g n c : Nat} {A : Option Addr} {p : Int} (h : Rdr w0 g A n c W p) (d : Drawn0 W W') : Rdr w0 g A n c W' p := ⟨drawn_below h.below d, drawn_blk d h.blk⟩
theorem Rdr.set {w0 W W' : World} {g n c : Nat} {A : Option Addr} {p q : Int} (h : Rdr w0 g A n c W p) (hg : w0.heap.size ≤ g) (d : Drawn0 (W.setCell ⟨g, 1, none⟩ (.int .i64 q)) W') : Rdr w0 g A n c W' q :=
  ⟨drawn_below (h.below.setCell hg _) d, drawn_blk d (by have := blk_set h.blk 1 (.int .i64 q); simpa using this)⟩
theorem Rdr.grow {w0 W W' : World} {g n c : Nat} {A : Option Addr} {p : Int} (h : Rdr w0 g A n c W p) (hb : Below W.heap.size W W') : Rdr w0 g A n c W' p := ⟨below_then h.below h.below.size hb, (hb.block g (blk_lt h.blk)).trans h.blk⟩
theorem Rdr.at {w0 W : World} {g n c : Nat} {A : Option Addr} {p : Int} (h : Rdr w0 g A n c W p) : W.cell? ⟨g, 1, none⟩ = some (.int .i64 p) := by rw [blk_cell h.blk 1]; rfl

theorem results_tmp4 {fn : Func} {t u v x : Tmp} (h : fn.results = #[.tmp t, .tmp u, .tmp v, .tmp x]) (tmps : Array Value) (P : Program) (w : World) :
    (results fn tmps).run P w = .ok (.tuple #[tmps.getD t undef, tmps.getD u undef, tmps.getD v undef, tmps.getD x undef]) w := by
  simp [results, h, go_sem]
/-- What wire.Unframe answers. -/
def unfN (l : List Int) (p : Nat) : Int × List Int × Int × Int :=
  if 65536 < leN ((l.take (p + 5)).drop (p + 1)) then (0, [], 0, 22)
  else if p + 9 + leN ((l.take (p + 5)).drop (p + 1)) ≤ l.length then
    (if leN ((l.take (p + 9 + leN ((l.take (p + 5)).drop (p + 1)))).drop (p + 5 + leN ((l.take (p + 5)).drop (p + 1)))) = crcOf ((l.take (p + 5 + leN ((l.take (p + 5)).drop (p + 1)))).drop p)
     then (((leN ((l.take (p + 1)).drop p) : Nat) : Int), (l.take (p + 5 + leN ((l.take (p + 5)).drop (p + 1)))).drop (p + 5), ((p + 9 + leN ((l.take (p + 5)).drop (p + 1)) : Nat) : Int), 0)
     else (0, [], 0, 21))
  else (0, [], 0, 20)
def unfF (l : List Int) (p : Int) : Int × List Int × Int × Int :=
  if p < 0 then (0, [], 0, 1) else if p.toNat + 5 ≤ l.length then unfN l p.toNat else (0, [], 0, 20)
set_option maxHeartbeats 400000 in
theorem Unframe_neg (A0 : Option Addr) (c0 : Nat) (l0 : List Int) (p : Int) (w : World) (hp : p < 0) :
    Calls Try.prog 23 #[.slice A0 l0.length c0, .int .i64 p] w fun e w' => e = .returned (.tuple #[.int .i64 0, .slice none 0 0, .int .i64 0, .int .i64 1]) ∧ Below w.heap.size w w' := by
  have hp' : decide (p < 0) = true := by simpa using hp
  go_enter Try.func23, Try.ntmps23
  go_wp2_with fail
  refine bodyPost_ret (results_tmp4 rfl _ _ _) rfl ?_
  exact ⟨rfl, below_alloc (Below.refl _ _) _⟩
set_option maxHeartbeats 400000 in
theorem Unframe_short (A0 : Option Addr) (c0 : Nat) (l0 : List Int) (p : Nat) (w : World) (hmax : l0.length ≤ 9223372036854775807) (hp : l0.length < p + 5) :
    Calls Try.prog 23 #[.slice A0 l0.length c0, .int .i64 p] w fun e w' => e = .returned (.tuple #[.int .i64 0, .slice none 0 0, .int .i64 0, .int .i64 20]) ∧ Below w.heap.size w w' := by
  have hh : (decide ((p : Int) ≤ l0.length) && decide (5 ≤ (l0.length : Int) - p)) = false := by simp; omega
  have R1 := Aside0.mk (Rdr.new (w := w) A0 l0.length c0 p)
  have HH := Aside0.mk (has_calls w.heap.size A0 l0.length c0 p 5 _ R1.out.blk (by omega) hmax)
  rw [hh] at HH
  go_enter Try.func23, Try.ntmps23
  go_wp2_with (first | (go_at_call 32; refine HH.out.mono ?_; rintro e w1 ⟨rfl, hd1⟩; have HD1 := Aside0.mk hd1; clear hd1) | fail)
  refine bodyPost_ret (results_tmp4 rfl _ _ _) rfl ?_
  exact ⟨rfl, (R1.out.drawn HD1.out).below⟩
theorem has_rdr {w0 W : World} {g c : Nat} {A : Option Addr} {l : List Int} {p : Nat} (h : Rdr w0 g A l.length c W p) (hmax : l.length ≤ 9223372036854775807) (n : Int) (b : Bool) (hb : (decide ((p : Int) ≤ l.length) && decide (n ≤ (l.length : Int) - p)) = b) :
    Calls Try.prog 32 #[.pointer (some ⟨g, 0, none⟩), .int .i64 n] W fun e w' => e = .returned (.bool b) ∧ Rdr w0 g A l.length c w' p := by
  refine (has_calls g A l.length c p n W h.blk (by omega) hmax).mono ?_
  rintro e w' ⟨rfl, hd⟩
  exact ⟨by rw [hb], h.drawn hd⟩
theorem number_rdr {w0 W : World} {g c : Nat} {A : Option Addr} {l : List Int} {p : Nat} (h : Rdr w0 g A l.length c W p) (hg : w0.heap.size ≤ g) (hr : Kd.C (Kd.int .u8) w0 A l.length l) (hc : l.length ≤ c) (hb : isBytes l) (n q : Nat) (hn : n ≤ 6) (hq : q = p + n) (hpn : q ≤ l.length) :
    Calls Try.prog 33 #[.pointer (some ⟨g, 0, none⟩), .int .i64 n] W fun e w' => e = .returned (.int .i64 ((leN ((l.take q).drop p) : Nat) : Int)) ∧ Rdr w0 g A l.length c w' q ∧ ∀ k, k ≠ g → w'.heap[k]? = W.heap[k]? := by
  subst hq
  refine (number_calls w0 g A c l p n W h.below hg h.blk hr hc hpn hn hb).mono ?_
  rintro e w' ⟨rfl, hd⟩
  refine ⟨rfl, h.set hg (by rw [Int.natCast_add]; exact hd), fun k hk => ?_⟩
  obtain ⟨m, rfl⟩ := hd.out
  exact heap_setCell_other W _ k _ hk
theorem take_rdr {w0 W : World} {g c : Nat} {A : Option Addr} {l : List Int} {p : Nat} (h : Rdr w0 g A l.length c W p) (hg : w0.heap.size ≤ g) (hr : Kd.C (Kd.int .u8) w0 A l.length l) (hc : l.length ≤ c) (n q : Nat) (hq : q = p + n) (hpn : q ≤ l.length) :
    Calls Try.prog 35 #[.pointer (some ⟨g, 0, none⟩), .int .i64 n] W fun e w' => ∃ A' c', e = .returned (.slice A' n c') ∧ n ≤ c' ∧ Kd.C (Kd.int .u8) w0 A' n ((l.take q).drop p) ∧ Rdr w0 g A l.length c w' q := by
  subst hq
  refine (take_calls w0 g A c l p n W h.blk hr hc hpn).mono ?_
  rintro e w' ⟨A', c', rfl, h1, h2, hd⟩
  exact ⟨A', c', rfl, h1, h2, h.set hg (by rw [Int.natCast_add]; exact hd)⟩
set_option maxHeartbeats 1000000 in
theorem Unframe_long (A0 : Option Addr) (c0 : Nat) (l0 : List Int) (p n : Nat) (w : World) (hr0 : Kd.C (Kd.int .u8) w A0 l0.length l0) (hc0 : l0.length ≤ c0) (hb : isBytes l0) (hp : p + 5 ≤ l0.length) (hn : leN ((l0.take (p + 5)).drop (p + 1)) = n) (h1 : 65536 < n) :
    Calls Try.prog 23 #[.slice A0 l0.length c0, .int .i64 p] w fun e w' => e = .returned (.tuple #[.int .i64 0, .slice none 0 0, .int .i64 0, .int .i64 22]) ∧ Below w.heap.size w w' := by
  have hmax : l0.length ≤ 9223372036854775807 := Kd.C_max hr0
  have R1 := Aside0.mk (Rdr.new (w := w) A0 l0.length c0 p)
  have HH := Aside0.mk (has_rdr R1.out hmax 5 true (by simp; omega))
  have HN1 := Aside0.mk (fun (W : World) (h : Rdr w w.heap.size A0 l0.length c0 W p) => number_rdr h (Nat.le_refl _) hr0 hc0 hb 1 (p + 1) (by omega) rfl (by omega))
  have HN2 := Aside0.mk (fun (W : World) (h : Rdr w w.heap.size A0 l0.length c0 W (p + 1 : Nat)) => number_rdr h (Nat.le_refl _) hr0 hc0 hb 4 (p + 5) (by omega) rfl (by omega))
  rw [hn] at HN2
  have h1' : decide (65536 < (n : Int)) = true := by simp; omega
  clear hn hr0 hb
  go_enter Try.func23, Try.ntmps23
  go_wp2_with (first | (go_at_call 32; refine HH.out.mono ?_; rintro e w1 ⟨rfl, hd1⟩; have HD1 := Aside0.mk hd1; clear hd1) | fail)
  refine (HN1.out w1 HD1.out).mono ?_
  rintro e w2 ⟨rfl, hd2, -⟩
  have HD2 := Aside0.mk hd2
  clear hd2
  go_wp2_with fail
  refine (HN2.out w2 HD2.out).mono ?_
  rintro e w3 ⟨rfl, hd3, -⟩
  have HD3 := Aside0.mk hd3
  clear hd3
  go_wp2_with fail
  refine bodyPost_ret (results_tmp4 rfl _ _ _) rfl ?_
  exact ⟨rfl, HD3.out.below⟩
set_option maxHeartbeats 1000000 in
theorem Unframe_cut (A0 : Option Addr) (c0 : Nat) (l0 : List Int) (p n : Nat) (w : World) (hr0 : Kd.C (Kd.int .u8) w A0 l0.length l0) (hc0 : l0.length ≤ c0) (hb : isBytes l0) (hp : p + 5 ≤ l0.length) (hn : leN ((l0.take (p + 5)).drop (p + 1)) = n) (h1 : n ≤ 65536) (h2 : l0.length < p + 9 + n) :
    Calls Try.prog 23 #[.slice A0 l0.length c0, .int .i64 p] w fun e w' => e = .returned (.tuple #[.int .i64 0, .slice none 0 0, .int .i64 0, .int .i64 20]) ∧ Below w.heap.size w w' := by
  have hmax : l0.length ≤ 9223372036854775807 := Kd.C_max hr0
  have R1 := Aside0.mk (Rdr.new (w := w) A0 l0.length c0 p)
  have HH := Aside0.mk (has_rdr R1.out hmax 5 true (by simp; omega))
  have HN1 := Aside0.mk (fun (W : World) (h : Rdr w w.heap.size A0 l0.length c0 W p) => number_rdr h (Nat.le_refl _) hr0 hc0 hb 1 (p + 1) (by omega) rfl (by omega))
  have HN2 := Aside0.mk (fun (W : World) (h : Rdr w w.heap.size A0 l0.length c0 W (p + 1 : Nat)) => number_rdr h (Nat.le_refl _) hr0 hc0 hb 4 (p + 5) (by omega) rfl (by omega))
  have HH2 := Aside0.mk (fun (W : World) (h : Rdr w w.heap.size A0 l0.length c0 W (p + 5 : Nat)) => has_rdr h hmax ((n : Int) + 4) false (by simp; omega))
  rw [hn] at HN2
  have h1' : decide (65536 < (n : Int)) = false := by simp; omega
  clear hn hr0 hb
  go_enter Try.func23, Try.ntmps23
  go_wp2_with (first | (go_at_call 32; refine HH.out.mono ?_; rintro e w1 ⟨rfl, hd1⟩; have HD1 := Aside0.mk hd1; clear hd1) | fail)
  refine (HN1.out w1 HD1.out).mono ?_
  rintro e w2 ⟨rfl, hd2, -⟩
  have HD2 := Aside0.mk hd2
  clear hd2
  go_wp2_with fail
  refine (HN2.out w2 HD2.out).mono ?_
  rintro e w3 ⟨rfl, hd3, -⟩
  have HD3 := Aside0.mk hd3
  clear hd3
  go_wp2_with fail
  refine (HH2.out w3 HD3.out).mono ?_
  rintro e w4 ⟨rfl, hd4⟩
  have HD4 := Aside0.mk hd4
  clear hd4
  go_wp2_with fail
  refine bodyPost_ret (results_tmp4 rfl _ _ _) rfl ?_
  exact ⟨rfl, HD4.out.below⟩
theorem Segs.one {W : World} {A : Option Addr} {n c : Nat} {l : List Int} (h : l.length = n) (hc : n ≤ c) (hr : Kd.C (Kd.int .u8) W A l.length l) : Segs W [Value.slice A n c] [l] := by
  subst h
  exact ⟨⟨A, c, rfl, hc, hr⟩, trivial⟩
theorem crcOf_lt (l : List Int) (h : isBytes l) : crcOf l < 4294967296 := Nat.xor_lt_two_pow (n := 32) (by decide) (crcL_lt _ _ (by decide) h)
theorem Crc_at {A : Option Addr} {c m : Nat} {l : List Int} {W : World} (hm : l.length = m) (hr : Kd.C (Kd.int .u8) W A l.length l) (hb : isBytes l) :
    Calls Try.prog 11 #[.slice A m c] W fun e w' => e = .returned (.int .u32 ((crcOf l : Nat) : Int)) ∧ Below W.heap.size W w' := by
  subst hm
  exact Crc_calls0 A c l W hr hb
set_option maxHeartbeats 1000000 in
theorem Unframe_good (A0 : Option Addr) (c0 : Nat) (l0 : List Int) (p n k : Nat) (w : World) (hr0 : Kd.C (Kd.int .u8) w A0 l0.length l0) (hc0 : l0.length ≤ c0) (hb : isBytes l0) (hn : leN ((l0.take (p + 5)).drop (p + 1)) = n) (hk : leN ((l0.take (p + 1)).drop p) = k) (h1 : n ≤ 65536) (h2 : p + 9 + n ≤ l0.length)
    (hs : leN ((l0.take (p + 9 + n)).drop (p + 5 + n)) = crcOf ((l0.take (p + 5 + n)).drop p)) :
    Calls Try.prog 23 #[.slice A0 l0.length c0, .int .i64 p] w fun e w' => ∃ v0_ : Value, e = .returned (.tuple #[.int .i64 k, v0_, .int .i64 ((p + 9 + n : Nat) : Int), .int .i64 0]) ∧ Kd.R (Kd.int .u8) 5 w' w.heap.size (fun _ => True) v0_ ((l0.take (p + 5 + n)).drop (p + 5)) ∧ Below w.heap.size w w' := by
  have hmax : l0.length ≤ 9223372036854775807 := Kd.C_max hr0
  have R1 := Aside0.mk (Rdr.new (w := w) A0 l0.length c0 p)
  have HH := Aside0.mk (has_rdr R1.out hmax 5 true (by simp; omega))
  have HN1 := Aside0.mk (fun (W : World) (h : Rdr w w.heap.size A0 l0.length c0 W p) => number_rdr h (Nat.le_refl _) hr0 hc0 hb 1 (p + 1) (by omega) rfl (by omega))
  have HN2 := Aside0.mk (fun (W : World) (h : Rdr w w.heap.size A0 l0.length c0 W (p + 1 : Nat)) => number_rdr h (Nat.le_refl _) hr0 hc0 hb 4 (p + 5) (by omega) rfl (by omega))
  have HH2 := Aside0.mk (fun (W : World) (h : Rdr w w.heap.size A0 l0.length c0 W (p + 5 : Nat)) => has_rdr h hmax ((n : Int) + 4) true (by simp; omega))
  have HT := Aside0.mk (fun (W : World) (h : Rdr w w.heap.size A0 l0.length c0 W (p + 5 : Nat)) => take_rdr h (Nat.le_refl _) hr0 hc0 n (p + 5 + n) rfl (by omega))
  have HN3 := Aside0.mk (fun (W : World) (h : Rdr w w.heap.size A0 l0.length c0 W (p + 5 + n : Nat)) => number_rdr h (Nat.le_refl _) hr0 hc0 hb 4 (p + 9 + n) (by omega) (by omega) h2)
  have hmid := Kd.C_mid (lo := p) (hi := p + 5 + n) hr0 (by omega) (by omega) hc0
  have hlen : ((l0.take (p + 5 + n)).drop p).length = n + 5 := by rw [List.length_drop, List.length_take]; omega
  have hlen2 : ((l0.take (p + 5 + n)).drop (p + 5)).length = n := by rw [List.length_drop, List.length_take]; omega
  have hb3 : isBytes ((l0.take (p + 5 + n)).drop p) := fun x hx => hb x (List.mem_of_mem_take (List.mem_of_mem_drop hx))
  rw [if_neg (by omega), show (Kd.int IntKind.u8).sz = 1 from rfl, Nat.mul_one] at hmid
  have HC := Aside0.mk (fun (W : World) (h : Below w.heap.size w W) => Crc_at (A := A0.map (·.add p)) (c := c0 - p) (m := p + 5 + n - p) (by omega) (Kd.C_below hmid h) hb3)
  have hcrc := crcOf_lt _ hb3
  have HJ := Aside0.mk (fun (W : World) (A1 : Option Addr) (c1 : Nat) (hc1 : n ≤ c1) (hr : Kd.C (Kd.int .u8) W A1 n ((l0.take (p + 5 + n)).drop (p + 5))) =>
    wire_join.calls (some ⟨W.heap.size, 0, none⟩) 1 [(l0.take (p + 5 + n)).drop (p + 5)] ((l0.take (p + 5 + n)).drop (p + 5)) (W.alloc (.cells #[.slice A1 n c1] 22))
      (Segs.C (vs := [.slice A1 n c1]) (Segs.one (by rw [hlen2]) (by omega) (by rw [hlen2]; exact Kd.C_alloc hr _)) (by simp) (heap_alloc_new _ _)) (by simp)
      (by unfold wire_join.f; rw [if_pos ⟨by simp only [List.flatten_cons, List.flatten_nil, List.append_nil, hlen2]; omega, by simp⟩]; simp))
  rw [hn] at HN2
  rw [hk] at HN1
  rw [hs] at HN3
  have h1' : decide (65536 < (n : Int)) = false := by simp; omega
  have HL := Aside0.mk hlen
  clear hn hr0 hb hk hs hmid hlen hlen2 hb3
  generalize hseg : (l0.take (p + 5 + n)).drop (p + 5) = seg at *
  generalize hfr : (l0.take (p + 5 + n)).drop p = fr at *
  clear hseg hfr
  generalize crcOf fr = crc at *
  clear HL
  go_enter Try.func23, Try.ntmps23
  go_wp2_with (first | (go_at_call 32; refine HH.out.mono ?_; rintro e w1 ⟨rfl, hd1⟩; have HD1 := Aside0.mk hd1; clear hd1) | fail)
  refine (HN1.out w1 HD1.out).mono ?_
  rintro e w2 ⟨rfl, hd2, -⟩
  have HD2 := Aside0.mk hd2
  clear hd2
  go_wp2_with fail
  refine (HN2.out w2 HD2.out).mono ?_
  rintro e w3 ⟨rfl, hd3, -⟩
  have HD3 := Aside0.mk hd3
  clear hd3
  go_wp2_with fail
  refine (HH2.out w3 HD3.out).mono ?_
  rintro e w4 ⟨rfl, hd4⟩
  have HD4 := Aside0.mk hd4
  clear hd4
  go_wp2_with fail
  refine (HT.out w4 HD4.out).mono ?_
  rintro e w5 ⟨A1, c1, rfl, hc1, hr1, hd5⟩
  have HD5 := Aside0.mk hd5
  have HR5 := Aside0.mk (Kd.C_below hr1 hd5.below)
  clear hd5 hr1
  go_wp2_with fail
  refine (HJ.out w5 A1 c1 hc1 HR5.out).mono ?_
  rintro e w6 ⟨v6, rfl, ho6, hb6⟩
  have hsz5 : w.heap.size < (w5.alloc (Obj.cells #[Value.slice A1 n c1] 22)).heap.size := Nat.lt_of_lt_of_le (blk_lt HD5.out.blk) (below_alloc (Below.refl _ _) _).size
  have HO6 := Aside0.mk (Kd.R_lower (Kd.R_mono (ok' := fun k => k ≠ w.heap.size) (Kd.R_bound ho6) (fun k hk => by omega)) (Nat.le_of_lt hsz5))
  have HD6 := Aside0.mk (HD5.out.grow (below_then (below_alloc (Below.refl _ _) _) (by simp) hb6))
  clear ho6 hb6
  have hcell := HD6.out.at
  go_wp2_with fail
  refine (HC.out w6 HD6.out.below).mono ?_
  rintro e w7 ⟨rfl, hb7⟩
  have HO7 := Aside0.mk (Kd.R_below HO6.out hb7)
  have HD7 := Aside0.mk (HD6.out.grow hb7)
  clear hb7 hcell
  go_wp2_with fail
  refine (HN3.out w7 HD7.out).mono ?_
  rintro e w8 ⟨rfl, hd8, hk8⟩
  have HD8 := Aside0.mk hd8
  have HO8 := Aside0.mk (Kd.R_mono (ok' := fun _ => True) (Kd.R_move HO7.out hk8) (fun _ _ => trivial))
  clear hd8 hk8
  have hcell := HD8.out.at
  go_wp2_with fail
  go_quiet (fail)
  go_wp2_with fail
  refine bodyPost_ret (results_tmp4 rfl _ _ _) rfl ?_
  exact ⟨v6, rfl, Kd.R_below HO8.out (pw_below_drewN (Below.refl _ _) _), pw_below_drewN HD8.out.below _⟩
set_option maxHeartbeats 1000000 in
theorem Unframe_sum (A0 : Option Addr) (c0 : Nat) (l0 : List Int) (p n k s : Nat) (w : World) (hr0 : Kd.C (Kd.int .u8) w A0 l0.length l0) (hc0 : l0.length ≤ c0) (hb : isBytes l0) (hn : leN ((l0.take (p + 5)).drop (p + 1)) = n) (hk : leN ((l0.take (p + 1)).drop p) = k) (h1 : n ≤ 65536) (h2 : p + 9 + n ≤ l0.length)
    (hs : leN ((l0.take (p + 9 + n)).drop (p + 5 + n)) = s) (hsc : s ≠ crcOf ((l0.take (p + 5 + n)).drop p)) :
    Calls Try.prog 23 #[.slice A0 l0.length c0, .int .i64 p] w fun e w' => e = .returned (.tuple #[.int .i64 0, .slice none 0 0, .int .i64 0, .int .i64 21]) ∧ Below w.heap.size w w' := by
  have hmax : l0.length ≤ 9223372036854775807 := Kd.C_max hr0
  have R1 := Aside0.mk (Rdr.new (w := w) A0 l0.length c0 p)
  have HH := Aside0.mk (has_rdr R1.out hmax 5 true (by simp; omega))
  have HN1 := Aside0.mk (fun (W : World) (h : Rdr w w.heap.size A0 l0.length c0 W p) => number_rdr h (Nat.le_refl _) hr0 hc0 hb 1 (p + 1) (by omega) rfl (by omega))
  have HN2 := Aside0.mk (fun (W : World) (h : Rdr w w.heap.size A0 l0.length c0 W (p + 1 : Nat)) => number_rdr h (Nat.le_refl _) hr0 hc0 hb 4 (p + 5) (by omega) rfl (by omega))
  have HH2 := Aside0.mk (fun (W : World) (h : Rdr w w.heap.size A0 l0.length c0 W (p + 5 : Nat)) => has_rdr h hmax ((n : Int) + 4) true (by simp; omega))
  have HT := Aside0.mk (fun (W : World) (h : Rdr w w.heap.size A0 l0.length c0 W (p + 5 : Nat)) => take_rdr h (Nat.le_refl _) hr0 hc0 n (p + 5 + n) rfl (by omega))
  have HN3 := Aside0.mk (fun (W : World) (h : Rdr w w.heap.size A0 l0.length c0 W (p + 5 + n : Nat)) => number_rdr h (Nat.le_refl _) hr0 hc0 hb 4 (p + 9 + n) (by omega) (by omega) h2)
  have hmid := Kd.C_mid (lo := p) (hi := p + 5 + n) hr0 (by omega) (by omega) hc0
  have hlen : ((l0.take (p + 5 + n)).drop p).length = n + 5 := by rw [List.length_drop, List.length_take]; omega
  have hlen2 : ((l0.take (p + 5 + n)).drop (p + 5)).length = n := by rw [List.length_drop, List.length_take]; omega
  have hb3 : isBytes ((l0.take (p + 5 + n)).drop p) := fun x hx => hb x (List.mem_of_mem_take (List.mem_of_mem_drop hx))
  rw [if_neg (by omega), show (Kd.int IntKind.u8).sz = 1 from rfl, Nat.mul_one] at hmid
  have HC := Aside0.mk (fun (W : World) (h : Below w.heap.size w W) => Crc_at (A := A0.map (·.add p)) (c := c0 - p) (m := p + 5 + n - p) (by omega) (Kd.C_below hmid h) hb3)
  have hcrc := crcOf_lt _ hb3
  have HJ := Aside0.mk (fun (W : World) (A1 : Option Addr) (c1 : Nat) (hc1 : n ≤ c1) (hr : Kd.C (Kd.int .u8) W A1 n ((l0.take (p + 5 + n)).drop (p + 5))) =>
    wire_join.calls (some ⟨W.heap.size, 0, none⟩) 1 [(l0.take (p + 5 + n)).drop (p + 5)] ((l0.take (p + 5 + n)).drop (p + 5)) (W.alloc (.cells #[.slice A1 n c1] 22))
      (Segs.C (vs := [.slice A1 n c1]) (Segs.one (by rw [hlen2]) (by omega) (by rw [hlen2]; exact Kd.C_alloc hr _)) (by simp) (heap_alloc_new _ _)) (by simp)
      (by unfold wire_join.f; rw [if_pos ⟨by simp only [List.flatten_cons, List.flatten_nil, List.append_nil, hlen2]; omega, by simp⟩]; simp))
  rw [hn] at HN2
  rw [hk] at HN1
  rw [hs] at HN3
  have h1' : decide (65536 < (n : Int)) = false := by simp; omega
  have HL := Aside0.mk hlen
  clear hn hr0 hb hk hs hmid hlen hlen2 hb3
  generalize hseg : (l0.take (p + 5 + n)).drop (p + 5) = seg at *
  generalize hfr : (l0.take (p + 5 + n)).drop p = fr at *
  clear hseg hfr
  generalize crcOf fr = crc at *
  have hne : ((s : Int) != (crc : Int)) = true := by rw [bne_iff_ne]; omega
  clear hsc
  clear HL
  go_enter Try.func23, Try.ntmps23
  go_wp2_with (first | (go_at_call 32; refine HH.out.mono ?_; rintro e w1 ⟨rfl, hd1⟩; have HD1 := Aside0.mk hd1; clear hd1) | fail)
  refine (HN1.out w1 HD1.out).mono ?_
  rintro e w2 ⟨rfl, hd2, -⟩
  have HD2 := Aside0.mk hd2
  clear hd2
  go_wp2_with fail
  refine (HN2.out w2 HD2.out).mono ?_
  rintro e w3 ⟨rfl, hd3, -⟩
  have HD3 := Aside0.mk hd3
  clear hd3
  go_wp2_with fail
  refine (HH2.out w3 HD3.out).mono ?_
  rintro e w4 ⟨rfl, hd4⟩
  have HD4 := Aside0.mk hd4
  clear hd4
  go_wp2_with fail
  refine (HT.out w4 HD4.out).mono ?_
  rintro e w5 ⟨A1, c1, rfl, hc1, hr1, hd5⟩
  have HD5 := Aside0.mk hd5
  have HR5 := Aside0.mk (Kd.C_below hr1 hd5.below)
  clear hd5 hr1
  go_wp2_with fail
  refine (HJ.out w5 A1 c1 hc1 HR5.out).mono ?_
  rintro e w6 ⟨v6, rfl, -, hb6⟩
  have HD6 := Aside0.mk (HD5.out.grow (below_then (below_alloc (Below.refl _ _) _) (by simp) hb6))
  clear hb6
  have hcell := HD6.out.at
  go_wp2_with fail
  refine (HC.out w6 HD6.out.below).mono ?_
  rintro e w7 ⟨rfl, hb7⟩
  have HD7 := Aside0.mk (HD6.out.grow hb7)
  clear hb7 hcell
  go_wp2_with fail
  refine (HN3.out w7 HD7.out).mono ?_
  rintro e w8 ⟨rfl, hd8, -⟩
  have HD8 := Aside0.mk hd8
  clear hd8
  have hcell := HD8.out.at
  go_wp2_with fail
  refine bodyPost_ret (results_tmp4 rfl _ _ _) rfl ?_
  exact ⟨rfl, HD8.out.below⟩
def wire_Unframe.f (l : List Int) (p : Int) : Option (Int × List Int × Int × Int) := if isB l = true then some (unfF l p) else none
theorem wire_Unframe.calls (A0 : Option Addr) (c0 : Nat) (l0 : List Int) (a1 : Int) (r1 : Int) (r2 : List Int) (r3 : Int) (r4 : Int) (w : World) (hr0 : Kd.C (Kd.int .u8) w A0 l0.length l0) (hc0 : l0.length ≤ c0) (h : wire_Unframe.f l0 a1 = some (r1, r2, r3, r4)) :
    Calls Try.prog 23 #[.slice A0 l0.length c0, .int .i64 a1] w fun e w' => ∃ v1_ : Value, e = .returned (.tuple #[.int .i64 r1, v1_, .int .i64 r3, .int .i64 r4]) ∧ Kd.R (Kd.int .u8) 5 w' w.heap.size (fun _ => True) v1_ r2 ∧ Below w.heap.size w w' := by
  unfold wire_Unframe.f at h
  by_cases hb : isB l0 = true
  · rw [if_pos hb] at h
    have h := Option.some.inj h
    have hb' := (isB_iff l0).1 hb
    have hmax := Kd.C_max hr0
    have low : ∀ {e : Ending} {w' : World} (x : Int), e = .returned (.tuple #[.int .i64 0, .slice none 0 0, .int .i64 0, .int .i64 x]) ∧ Below w.heap.size w w' → ∃ v1_ : Value, e = .returned (.tuple #[.int .i64 0, v1_, .int .i64 0, .int .i64 x]) ∧ Kd.R (Kd.int .u8) 5 w' w.heap.size (fun _ => True) v1_ [] ∧ Below w.heap.size w w' :=
      fun x ⟨he, hw⟩ => ⟨_, he, Kd.R_nil _ _ _ _ _, hw⟩
    unfold unfF at h
    by_cases h1 : a1 < 0
    · rw [if_pos h1] at h
      simp only [Prod.mk.injEq] at h
      obtain ⟨rfl, rfl, rfl, rfl⟩ := h
      exact (Unframe_neg A0 c0 l0 a1 w h1).mono fun e w' hh => low 1 hh
    · rw [if_neg h1] at h
      obtain ⟨p, rfl⟩ := Int.eq_ofNat_of_zero_le (show 0 ≤ a1 by omega)
      rw [Int.toNat_natCast] at h
      by_cases h2 : p + 5 ≤ l0.length
      · rw [if_pos h2] at h
        unfold unfN at h
        by_cases h3 : 65536 < leN ((l0.take (p + 5)).drop (p + 1))
        · rw [if_pos h3] at h
          simp only [Prod.mk.injEq] at h
          obtain ⟨rfl, rfl, rfl, rfl⟩ := h
          exact (Unframe_long A0 c0 l0 p _ w hr0 hc0 hb' h2 rfl h3).mono fun e w' hh => low 22 hh
        · rw [if_neg h3] at h
          by_cases h4 : p + 9 + leN ((l0.take (p + 5)).drop (p + 1)) ≤ l0.length
          · rw [if_pos h4] at h
            by_cases h5 : leN ((l0.take (p + 9 + leN ((l0.take (p + 5)).drop (p + 1)))).drop (p + 5 + leN ((l0.take (p + 5)).drop (p + 1)))) = crcOf ((l0.take (p + 5 + leN ((l0.take (p + 5)).drop (p + 1)))).drop p)
            · rw [if_pos h5] at h
              simp only [Prod.mk.injEq] at h
              obtain ⟨rfl, rfl, rfl, rfl⟩ := h
              exact Unframe_good A0 c0 l0 p _ _ w hr0 hc0 hb' rfl rfl (by omega) h4 h5
            · rw [if_neg h5] at h
              simp only [Prod.mk.injEq] at h
              obtain ⟨rfl, rfl, rfl, rfl⟩ := h
              exact (Unframe_sum A0 c0 l0 p _ _ _ w hr0 hc0 hb' rfl rfl (by omega) h4 rfl h5).mono fun e w' hh => low 21 hh
          · rw [if_neg h4] at h
            simp only [Prod.mk.injEq] at h
            obtain ⟨rfl, rfl, rfl, rfl⟩ := h
            exact (Unframe_cut A0 c0 l0 p _ w hr0 hc0 hb' h2 rfl (by omega) (by omega)).mono fun e w' hh => low 20 hh
      · rw [if_neg h2] at h
        simp only [Prod.mk.injEq] at h
        obtain ⟨rfl, rfl, rfl, rfl⟩ := h
        exact (Unframe_short A0 c0 l0 p w hmax (by omega)).mono fun e w' hh => low 20 hh
  · rw [if_neg hb] at h; cases h
end Go.Proofs.Ythlfhlnalmpmdaa.Hand
