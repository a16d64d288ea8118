/- wire's reader and wire.Get: what they compute. -/
import Derived.Test.YtpcoelimabojcaaProg
import Derived.Below
import Derived.Tactics
import Derived.WalkKit
import Derived.KernelRfl
import Derived.Laws.Rows
import Derived.Deep.LoopGhost
import Derived.BigQuiet
import Derived.Deep.QuietTactic
import Derived.Laws.BitsLemmas
import Derived.Test.YtpcoelimabojcaaHV
import Derived.Test.YtpcoelimabojcaaHBits
namespace Go.Proofs.Ytpcoelimabojcaa.Hand
open Go.RowKit Go.Proofs.YtpcoelimabojcaaW.PrintWords

def isBytes (l : List Int) : Prop := ∀ x ∈ l, 0 ≤ x ∧ x ≤ 255
theorem ret_u32 {k : IntKind} {a b : Int} (h : a = b) : Ending.returned (.int k a) = .returned (.int k b) := by rw [h]
theorem rd_byte (l : List Int) (hl : isBytes l) (i : Int) (h0 : 0 ≤ i) (h : i < l.length) : 0 ≤ rd l i ∧ rd l i ≤ 255 := by
  have hi : i.toNat < l.length := by omega
  have e : rd l i = l[i.toNat] := by unfold rd; simp [hi]
  rw [e]; exact hl _ (List.getElem_mem hi)
theorem below_setRow {B : Nat} {w W : World} (h : Below B w W) (g : Nat) (hg : B ≤ g) (cs : Array Value) : Below B w (W.setRow g cs) :=
  ⟨h.os, h.tape, h.output, by simpa using h.size, fun i hi => (setRow_other W g i cs (by omega)).trans (h.block i hi)⟩
/-- The reader's struct in memory: the bytes, the place. -/
def rcell (A : Option Addr) (n c : Nat) (p : Int) : Array Value := #[.slice A n c, .int .i64 p]
set_option maxHeartbeats 400000 in
theorem has_calls (g : Nat) (A : Option Addr) (len c : Nat) (p n : Int) (w : World) (hg : w.heap[g]? = some (.cells #[.slice A len c, .int .i64 p] 108 (0, 0))) (hp : 0 ≤ p) (hl : len ≤ 9223372036854775807) :
    Calls Try.prog 60 #[.pointer (some ⟨g, 0, none⟩), .int .i64 n] w fun e w' => e = .returned (.bool (decide (p ≤ len) && decide (n ≤ len - p))) ∧ Drawn0 w w' := by
  have c0 : w.cell? ⟨g, 0, none⟩ = some (.slice A len c) := by rw [blk_cell hg 0]; rfl
  have c1 : w.cell? ⟨g, 1, none⟩ = some (.int .i64 p) := by rw [blk_cell hg 1]; rfl
  clear hg
  by_cases h : p ≤ len
  · have h1 : decide (p ≤ (len : Int)) = true := by simpa using h
    go_enter Try.func60, Try.ntmps60
    go_wp2_with fail
    go_quiet (fail)
    go_wp2_with fail
    go_ret
    exact ⟨by rw [h1]; rfl, by repeat (first | exact Drawn0.refl _ | apply Drawn0.step)⟩
  · have h1 : decide (p ≤ (len : Int)) = false := by simpa using h
    go_enter Try.func60, Try.ntmps60
    go_wp2_with fail
    go_quiet (fail)
    go_wp2_with fail
    go_ret
    exact ⟨by rw [h1]; rfl, by repeat (first | exact Drawn0.refl _ | apply Drawn0.step)⟩

theorem ret_slice {A : Option Addr} {n m c : Nat} (h : n = m) : Ending.returned (.slice A n c) = .returned (.slice A m c) := by rw [h]
theorem drawn_below {B : Nat} {w0 W W' : World} (h : Below B w0 W) (d : Drawn0 W W') : Below B w0 W' := by
  obtain ⟨n, rfl⟩ := d.out
  exact pw_below_drewN h n
set_option maxHeartbeats 400000 in
theorem take_calls (w0 : World) (g : Nat) (A : Option Addr) (c : Nat) (l : List Int) (p n : Nat) (w : World) (hg : w.heap[g]? = some (.cells #[.slice A l.length c, .int .i64 p] 108 (0, 0))) (hr : Kd.C (Kd.int .u8) w0 A l.length l) (hc : l.length ≤ c) (hpn : p + n ≤ l.length) :
    Calls Try.prog 63 #[.pointer (some ⟨g, 0, none⟩), .int .i64 n] w fun e w' => ∃ A' c', e = .returned (.slice A' n c') ∧ n ≤ c' ∧ Kd.C (Kd.int .u8) w0 A' n ((l.take (p + n)).drop p) ∧ Drawn0 (w.setCell ⟨g, 1, none⟩ (.int .i64 ((p : Int) + n))) w' := by
  have c0 : w.cell? ⟨g, 0, none⟩ = some (.slice A l.length c) := by rw [blk_cell hg 0]; rfl
  have c1 : w.cell? ⟨g, 1, none⟩ = some (.int .i64 p) := by rw [blk_cell hg 1]; rfl
  have f1 : w.frozen? ⟨g, 1, none⟩ = false := blk_frozen hg 1
  have hmax : l.length ≤ 9223372036854775807 := Kd.C_max hr
  have HM := Aside0.mk (Kd.C_mid (lo := p) (hi := p + n) hr (by omega) hpn hc)
  have hlen : ((l.take (p + n)).drop p).length = n := by rw [List.length_drop, List.length_take]; omega
  clear hr hg
  by_cases hcp : c = p
  · have hn0 : n = 0 := by omega
    subst hcp
    subst hn0
    rw [if_pos rfl] at HM
    go_enter Try.func63, Try.ntmps63
    go_wp2_with fail
    go_quiet (fail)
    go_wp2_with fail
    go_ret
    refine ⟨A, 0, rfl, by omega, ?_, by repeat (first | exact Drawn0.refl _ | apply Drawn0.step)⟩
    have := HM.out
    rwa [hlen] at this
  · rw [if_neg hcp] at HM
    go_enter Try.func63, Try.ntmps63
    go_wp2_with fail
    go_quiet (fail)
    go_wp2_with fail
    go_ret
    refine ⟨_, c - p, ret_slice (show p + n - p = n by omega), by omega, ?_, by repeat (first | exact Drawn0.refl _ | apply Drawn0.step)⟩
    have := HM.out
    rw [hlen] at this
    exact (show (Kd.int .u8).C w0 (A.map (·.add p)) n _ from by rw [show (Kd.int IntKind.u8).sz = 1 from rfl, Nat.mul_one] at this; exact this)

/-- A number of its bytes, the lowest first. -/
def leN : List Int → Nat
  | [] => 0
  | x :: l => x.toNat + 256 * leN l
theorem leN_snoc : ∀ (l : List Int) (x : Int), leN (l ++ [x]) = leN l + x.toNat * 256 ^ l.length
  | [], x => by simp [leN]
  | y :: l, x => by rw [List.cons_append, leN, leN, leN_snoc l x, List.length_cons, Nat.pow_succ, Nat.mul_add, Nat.add_assoc]; congr 2; rw [Nat.mul_left_comm]; congr 1; exact Nat.mul_comm _ _
theorem leN_lt : ∀ (l : List Int), isBytes l → leN l < 256 ^ l.length
  | [], _ => by simp [leN]
  | x :: l, h => by
    have h1 := leN_lt l (fun y hy => h y (by simp [hy]))
    have h2 := h x (by simp)
    rw [leN, List.length_cons, Nat.pow_succ]
    omega
theorem leN_take (l : List Int) (k : Nat) (h : k < l.length) : leN (l.take (k + 1)) = leN (l.take k) + (rd l k).toNat * 256 ^ k := by
  rw [List.take_succ_eq_append_getElem h, leN_snoc]
  have e : rd l k = l[k] := by unfold rd; simp [h]
  rw [e, List.length_take, Nat.min_eq_left (by omega)]
theorem pow256 (k : Nat) : 256 ^ k = 2 ^ (8 * k) := by rw [show (256 : Nat) = 2 ^ 8 from rfl, ← Nat.pow_mul]
theorem number_bits (v x k : Nat) (hk : k < 6) (hv : v < 256 ^ k) (hx : x < 256) : bits .or .i64 (v : Int) (wrap64 ((x : Int) * 2 ^ (8 * k))) = ((v + x * 256 ^ k : Nat) : Int) := by
  rw [pow256] at hv
  have h40 : 2 ^ (8 * k) ≤ 2 ^ 40 := Nat.pow_le_pow_right (by omega) (by omega)
  have hm : x * 2 ^ (8 * k) ≤ 255 * 2 ^ 40 := Nat.mul_le_mul (by omega) h40
  have ec : ((x : Int) * 2 ^ (8 * k)) = ((x * 2 ^ (8 * k) : Nat) : Int) := by push_cast; rfl
  have ew : wrap64 (((x * 2 ^ (8 * k) : Nat)) : Int) = ((x * 2 ^ (8 * k) : Nat) : Int) := by
    generalize x * 2 ^ (8 * k) = y at *
    unfold wrap64; omega
  rw [ec, ew, (bits_nat .i64 62 (by decide) (fun n h0 h1 => by rw [IntKind.wrap_i64]; omega) v (x * 2 ^ (8 * k)) (by omega) (by omega)).2]
  have h := Nat.two_pow_add_eq_or_of_lt (i := 8 * k) (b := v) hv x
  rw [Nat.or_comm, Nat.mul_comm x, ← h, pow256, Nat.mul_comm x, Nat.add_comm]
theorem number_lt (v x k : Nat) (hv : v < 256 ^ k) (hx : x < 256) : v + x * 256 ^ k < 256 ^ (k + 1) := by
  rw [Nat.pow_succ]
  have : x * 256 ^ k ≤ 255 * 256 ^ k := Nat.mul_le_mul_right _ (by omega)
  omega
set_option maxHeartbeats 400000 in
theorem number_calls (w0 : World) (g : Nat) (A : Option Addr) (c : Nat) (l : List Int) (p n : Nat) (w : World) (hB : Below w0.heap.size w0 w) (hg0 : w0.heap.size ≤ g) (hg : w.heap[g]? = some (.cells #[.slice A l.length c, .int .i64 p] 108 (0, 0))) (hr : Kd.C (Kd.int .u8) w0 A l.length l) (hc : l.length ≤ c) (hpn : p + n ≤ l.length) (hn : n ≤ 6) (hb : isBytes l) :
    Calls Try.prog 61 #[.pointer (some ⟨g, 0, none⟩), .int .i64 n] w fun e w' => e = .returned (.int .i64 ((leN ((l.take (p + n)).drop p) : Nat) : Int)) ∧ Drawn0 (w.setCell ⟨g, 1, none⟩ (.int .i64 ((p : Int) + n))) w' := by
  have HT := take_calls w0 g A c l p n w hg hr hc hpn
  have HT' := Aside0.mk HT
  have HB := Aside0.mk hB
  have HG := Aside0.mk hg
  clear hr hg HT hB
  have hlen : ((l.take (p + n)).drop p).length = n := by rw [List.length_drop, List.length_take]; omega
  have hseg : isBytes ((l.take (p + n)).drop p) := fun x hx => hb x (List.mem_of_mem_take (List.mem_of_mem_drop hx))
  generalize (l.take (p + n)).drop p = s at *
  go_enter Try.func61, Try.ntmps61
  go_wp2_with (go_at_call 63; refine HT'.out.mono ?_; rintro e w1 ⟨A1, c1, rfl, hc1, hr1, hd1⟩; have HR1 := Aside0.mk hr1; have HD1 := Aside0.mk hd1; clear hr1 hd1)
  have hB1 : Below w0.heap.size w0 w1 := drawn_below (HB.out.setCell hg0 _) HD1.out
  have HRW := Aside0.mk (Kd.C_below HR1.out hB1)
  clear hB1
  go_loop [5, 6, 7, 14] (fun n5 i6 x7 i14 => ∃ k v : Nat, k ≤ n ∧ v < 256 ^ k ∧ i14 = .int .i64 k ∧ n5 = .int .i64 v ∧ Aside0 (v = leN (s.take k))) (fun _ _ _ i14 => n - (intOf i14).toNat)
  case atStart => exact ⟨0, 0, by omega, by omega, rfl, rfl, ⟨by simp [leN]⟩⟩
  case round =>
    obtain ⟨k, v, hk, hv, rfl, rfl, HV⟩ := hrel
    by_cases hlt : k < n
    · have hks : k < s.length := by omega
      obtain ⟨ad, rfl, hcell⟩ := Kd.at_int HRW.out k (by omega) (by omega)
      rw [Int.toNat_natCast] at hcell
      have hby := rd_byte s hseg k (by omega) (by omega)
      have HS := Aside0.mk (leN_take s k hks)
      obtain ⟨x, hx⟩ := Int.eq_ofNat_of_zero_le hby.1
      rw [hx] at hcell hby
      have HX := Aside0.mk hx
      clear hx
      have hx8 : x < 256 := by omega
      clear hks
      go_wp2_with fail
      go_round
      case rel => 
        exact ⟨k + 1, v + x * 256 ^ k, by omega, number_lt v x k hv hx8, by go_num, by rw [number_bits v x k (by omega) hv hx8], ⟨by rw [HS.out, HX.out, HV.out, Int.toNat_natCast]⟩⟩
      case measure => simp [intOf]; omega
    · have hk2 : k = n := by omega
      go_wp2_with fail
      go_ret
      exact ⟨ret_u32 (by rw [HV.out, hk2, List.take_of_length_le (by omega)]), HD1.out⟩

theorem drawn_blk {W W' : World} (d : Drawn0 W W') {g : Nat} {o : Obj} (h : W.heap[g]? = some o) : W'.heap[g]? = some o := by
  obtain ⟨n, rfl⟩ := d.out
  exact h
/-- What wire.Get answers. -/
def getF (l : List Int) (p size : Int) : Int × Int × Int :=
  if size < 1 then (0, 0, 1) else if 6 < size then (0, 0, 1) else if p < 0 then (0, 0, 1) else
  if p ≤ l.length then (if size ≤ l.length - p then (((leN ((l.take (p + size).toNat).drop p.toNat) : Nat) : Int), p + size, 0) else (0, 0, 20)) else (0, 0, 20)
theorem new_reader {w : World} {o : Obj} (A : Option Addr) (n c : Nat) (p : Int) (ho : o = .cells #[.slice A n c, .int .i64 p] 108 (0, 0)) : (w.alloc o).heap[w.heap.size]? = some (.cells #[.slice A n c, .int .i64 p] 108 (0, 0)) := by rw [ho]; exact heap_alloc_new w _
set_option maxHeartbeats 400000 in
theorem Get_calls0 (A0 : Option Addr) (c0 : Nat) (l0 : List Int) (p size : Int) (w : World) (hr0 : Kd.C (Kd.int .u8) w A0 l0.length l0) (hc0 : l0.length ≤ c0) (hb : isBytes l0) :
    Calls Try.prog 54 #[.slice A0 l0.length c0, .int .i64 p, .int .i64 size] w fun e w' => e = .returned (.tuple #[.int .i64 (getF l0 p size).1, .int .i64 (getF l0 p size).2.1, .int .i64 (getF l0 p size).2.2]) ∧ Below w.heap.size w w' := by
  have hmax : l0.length ≤ 9223372036854775807 := Kd.C_max hr0
  have HR := Aside0.mk hr0
  have HBy := Aside0.mk hb
  clear hr0 hb
  unfold getF
  by_cases h1 : size < 1
  · rw [if_pos h1]
    have h1' : decide (size < 1) = true := by simpa using h1
    go_enter Try.func54, Try.ntmps54
    go_wp2_with fail
    go_ret3
    exact ⟨rfl, below_alloc (Below.refl _ _) _⟩
  rw [if_neg h1]
  have h1' : decide (size < 1) = false := by simpa using h1
  by_cases h2 : 6 < size
  · rw [if_pos h2]
    have h2' : decide (6 < size) = true := by simpa using h2
    go_enter Try.func54, Try.ntmps54
    go_wp2_with fail
    go_ret3
    exact ⟨rfl, below_alloc (Below.refl _ _) _⟩
  rw [if_neg h2]
  have h2' : decide (6 < size) = false := by simpa using h2
  by_cases h3 : p < 0
  · rw [if_pos h3]
    have h3' : decide (p < 0) = true := by simpa using h3
    go_enter Try.func54, Try.ntmps54
    go_wp2_with fail
    go_ret3
    exact ⟨rfl, below_alloc (Below.refl _ _) _⟩
  rw [if_neg h3]
  have h3' : decide (p < 0) = false := by simpa using h3
  by_cases h4 : p ≤ l0.length
  · rw [if_pos h4]
    have h4' : decide (p ≤ (l0.length : Int)) = true := by simpa using h4
    by_cases h5 : size ≤ l0.length - p
    · rw [if_pos h5]
      have h5' : decide (size ≤ (l0.length : Int) - p) = true := by simpa using h5
      obtain ⟨q, rfl⟩ := Int.eq_ofNat_of_zero_le (show 0 ≤ p by omega)
      obtain ⟨n, rfl⟩ := Int.eq_ofNat_of_zero_le (show 0 ≤ size by omega)
      rw [show ((q : Int) + n).toNat = q + n by omega, Int.toNat_natCast]
      go_enter Try.func54, Try.ntmps54
      go_wp2_with (first | (go_at_call 60; refine (has_calls w.heap.size A0 l0.length c0 q n _ (new_reader _ _ _ _ rfl) (by omega) (by omega)).mono ?_; rintro e w1 ⟨rfl, hd1⟩; rw [h4', h5']; have HD1 := Aside0.mk hd1; clear hd1) | fail)
      refine (number_calls w w.heap.size A0 c0 l0 q n w1 (drawn_below (below_alloc (Below.refl _ _) _) HD1.out) (Nat.le_refl _) (drawn_blk HD1.out (new_reader _ _ _ _ rfl)) HR.out hc0 (by omega) (by omega) HBy.out).mono ?_
      rintro e w2 ⟨rfl, hd2⟩
      have hcell : w2.cell? ⟨w.heap.size, 1, none⟩ = some (.int .i64 ((q : Int) + n)) := by rw [blk_cell (drawn_blk hd2 (blk_set (drawn_blk HD1.out (new_reader _ _ _ _ rfl)) 1 _)) 1]; rfl
      have HB2 := Aside0.mk (drawn_below ((drawn_below (below_alloc (Below.refl w.heap.size w) _) HD1.out).setCell (Nat.le_refl _) _) hd2)
      clear hd2 HD1
      go_wp2_with fail
      go_quiet (fail)
      go_wp2_with fail
      go_ret3
      exact ⟨rfl, pw_below_drewN HB2.out _⟩
    · rw [if_neg h5]
      have h5' : decide (size ≤ (l0.length : Int) - p) = false := by simpa using h5
      go_enter Try.func54, Try.ntmps54
      go_wp2_with (first | (go_at_call 60; refine (has_calls w.heap.size A0 l0.length c0 p size _ (new_reader _ _ _ _ rfl) (by omega) (by omega)).mono ?_; rintro e w1 ⟨rfl, hd1⟩; rw [h4', h5']; have HD1 := Aside0.mk hd1; clear hd1) | fail)
      go_ret3
      exact ⟨rfl, drawn_below (below_alloc (Below.refl _ _) _) HD1.out⟩
  · rw [if_neg h4]
    have h4' : decide (p ≤ (l0.length : Int)) = false := by simpa using h4
    go_enter Try.func54, Try.ntmps54
    go_wp2_with (first | (go_at_call 60; refine (has_calls w.heap.size A0 l0.length c0 p size _ (new_reader _ _ _ _ rfl) (by omega) (by omega)).mono ?_; rintro e w1 ⟨rfl, hd1⟩; rw [h4']; have HD1 := Aside0.mk hd1; clear hd1) | fail)
    go_ret3
    exact ⟨rfl, drawn_below (below_alloc (Below.refl _ _) _) HD1.out⟩
end Go.Proofs.Ytpcoelimabojcaa.Hand
