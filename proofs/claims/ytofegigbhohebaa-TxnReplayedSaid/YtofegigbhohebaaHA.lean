/- Plain facts on bits and the sum's register, without any program. The sum's table and the sum: what wire.table and wire.Crc compute. wire's reader and wire.Get: what they compute. -/
import Derived.Laws.BitsLemmas
import Derived.WalkKit
import Derived.Test.YtofegigbhohebaaProg
import Derived.Below
import Derived.Tactics
import Derived.KernelRfl
import Derived.Laws.Rows
import Derived.Deep.LoopGhost
import Derived.BigQuiet
import Derived.Deep.QuietTactic
import Derived.Test.YtofegigbhohebaaWWords
import Derived.Deep.Draws
import Derived.Deep.AppendLies
import Derived.Maps.AppendAt
import Derived.OwnWalk
import Derived.Laws.BytesArg
import Derived.Laws.MakeOwn
import Derived.Laws.OwnMore
import Derived.Deep.OwnRows
import Derived.Lib.ConvBytes
import Derived.Laws.Slices
import Derived.RowKit3
import Derived.WideLaws
import Derived.Deep.DeepCutAuto
import Derived.Deep.CutBlock
import Derived.Deep.RegionHeld3
import Derived.Lib.AppendStr
import Derived.ArgAppend
import Derived.Laws.IdiomCopy
import Derived.OrdersHeld
import Derived.RowKit
import Derived.Test.YtofegigbhohebaaWLast
import Derived.Test.YtofegigbhohebaaWTab
import Derived.Test.YtofegigbhohebaaHW
import Derived.Test.YtofegigbhohebaaWEqStruct
import Derived.Test.YtofegigbhohebaaWRepsOne
import Derived.Test.YtofegigbhohebaaWGuard
namespace Go.Proofs.Ytofegigbhohebaa.Hand
open Go

theorem bits_xor_u32 (a b : Nat) (ha : a < 4294967296) (hb : b < 4294967296) : bits .xor .u32 (a : Int) (b : Int) = ((a ^^^ b : Nat) : Int) := by
  have ha' : a % 2 ^ 32 = a := Nat.mod_eq_of_lt ha
  have hb' : b % 2 ^ 32 = b := Nat.mod_eq_of_lt hb
  have hx : a ^^^ b < 2 ^ 32 := Nat.xor_lt_two_pow ha hb
  have e : IntKind.u32.bits = 32 := rfl
  simp only [bits, e, BitVec.ofInt_natCast, BitVec.toNat_xor, BitVec.toNat_ofNat, ha', hb']
  rw [IntKind.wrap_u32]
  omega
theorem bits_xor_u8 (a b : Nat) (ha : a < 256) (hb : b < 256) : bits .xor .u8 (a : Int) (b : Int) = ((a ^^^ b : Nat) : Int) := by
  have ha' : a % 2 ^ 8 = a := Nat.mod_eq_of_lt ha
  have hb' : b % 2 ^ 8 = b := Nat.mod_eq_of_lt hb
  have hx : a ^^^ b < 2 ^ 8 := Nat.xor_lt_two_pow ha hb
  have e : IntKind.u8.bits = 8 := rfl
  simp only [bits, e, BitVec.ofInt_natCast, BitVec.toNat_xor, BitVec.toNat_ofNat, ha', hb']
  rw [IntKind.wrap_u8]
  omega
theorem bits_and1_u32 (a : Nat) (ha : a < 4294967296) : bits .and .u32 (a : Int) 1 = ((a % 2 : Nat) : Int) := by
  have ha' : a % 2 ^ 32 = a := Nat.mod_eq_of_lt ha
  have e : IntKind.u32.bits = 32 := rfl
  have hx := Nat.and_one_is_mod a
  rw [show (1 : Int) = ((1 : Nat) : Int) from rfl]
  simp only [bits, e, BitVec.ofInt_natCast, BitVec.toNat_and, BitVec.toNat_ofNat, ha']
  rw [show 1 % 2 ^ 32 = 1 from rfl, hx, IntKind.wrap_u32]
  omega
/-- one bit of the sum's step -/
def crcB (c : Nat) : Nat := (c / 2) ^^^ (2197175160 * (c % 2))
def crcN : Nat → Nat → Nat
  | 0, c => c
  | n + 1, c => crcN n (crcB c)
theorem crcB_lt (c : Nat) (h : c < 4294967296) : crcB c < 4294967296 := by
  unfold crcB
  have h2 : c % 2 = 0 ∨ c % 2 = 1 := by omega
  refine Nat.xor_lt_two_pow (n := 32) (by omega) ?_
  rcases h2 with e | e <;> rw [e] <;> decide
theorem crcN_lt : ∀ n c, c < 4294967296 → crcN n c < 4294967296
  | 0, _, h => h
  | n + 1, c, h => crcN_lt n _ (crcB_lt c h)
theorem crcN_succ : ∀ n c, crcN (n + 1) c = crcB (crcN n c)
  | 0, _ => rfl
  | n + 1, c => crcN_succ n (crcB c)
def tabv (j : Nat) : Nat := crcN 8 j
theorem tabv_lt (j : Nat) (h : j < 256) : tabv j < 4294967296 := crcN_lt 8 j (by omega)
/-- the step as the walk spells it -/
theorem crcB_walk (c : Nat) (h : c < 4294967296) : bits .xor .u32 ((c : Int) / 2) (2197175160 * bits .and .u32 (c : Int) 1 % 4294967296) = ((crcB c : Nat) : Int) := by
  have h2 : c % 2 = 0 ∨ c % 2 = 1 := by omega
  rw [bits_and1_u32 c h]
  have e1 : ((c : Int) / 2) = ((c / 2 : Nat) : Int) := by omega
  have e2 : (2197175160 * ((c % 2 : Nat) : Int) % 4294967296) = ((2197175160 * (c % 2) : Nat) : Int) := by omega
  rw [e1, e2, bits_xor_u32 _ _ (by omega) (by omega)]
  rfl
/-- one byte -/
def crcS (c x : Nat) : Nat := tabv ((c % 256) ^^^ x) ^^^ (c / 256)
theorem xor_byte (c x : Nat) (hx : x < 256) : (c % 256) ^^^ x < 256 := Nat.xor_lt_two_pow (n := 8) (by omega) hx
theorem crcS_lt (c x : Nat) (h : c < 4294967296) (hx : x < 256) : crcS c x < 4294967296 :=
  Nat.xor_lt_two_pow (n := 32) (tabv_lt _ (xor_byte c x hx)) (by omega)
def crcL (c : Nat) : List Int → Nat
  | [] => c
  | x :: l => crcL (crcS c x.toNat) l
theorem crcL_lt : ∀ (l : List Int) (c : Nat), c < 4294967296 → (∀ x ∈ l, 0 ≤ x ∧ x ≤ 255) → crcL c l < 4294967296
  | [], _, h, _ => h
  | x :: l, c, h, hl => crcL_lt l _ (crcS_lt c _ h (by have := hl x (by simp); omega)) (fun y hy => hl y (by simp [hy]))
theorem crcL_append : ∀ (l m : List Int) (c : Nat), crcL c (l ++ m) = crcL (crcL c l) m
  | [], _, _ => rfl
  | x :: l, m, c => crcL_append l m (crcS c x.toNat)
theorem div2_xor (a b : Nat) : (a ^^^ b) / 2 = a / 2 ^^^ b / 2 := by
  have h := Nat.shiftRight_xor_distrib (a := a) (b := b) (i := 1)
  simpa [Nat.shiftRight_eq_div_pow] using h
theorem mod2_cases (a : Nat) : a % 2 = 0 ∨ a % 2 = 1 := by omega
theorem xor_mod2 (a b : Nat) : (a ^^^ b) % 2 = (a % 2) ^^^ (b % 2) := by
  have := Nat.xor_mod_two_pow (a := a) (b := b) (n := 1); simpa using this
theorem crcB_xor (a b : Nat) : crcB (a ^^^ b) = crcB a ^^^ crcB b := by
  unfold crcB
  rw [div2_xor, xor_mod2]
  have e : 2197175160 * ((a % 2) ^^^ (b % 2)) = (2197175160 * (a % 2)) ^^^ (2197175160 * (b % 2)) := by
    rcases mod2_cases a with h | h <;> rcases mod2_cases b with h' | h' <;> rw [h, h'] <;> simp
  rw [e]
  ac_rfl
theorem crcN_xor : ∀ n a b, crcN n (a ^^^ b) = crcN n a ^^^ crcN n b
  | 0, _, _ => rfl
  | n + 1, a, b => by rw [crcN, crcN, crcN, crcB_xor, crcN_xor n]
theorem crcB_even (a : Nat) : crcB (2 * a) = a := by
  unfold crcB
  rw [Nat.mul_div_cancel_left _ (by omega), Nat.mul_mod_right]; simp
theorem crcN_pow : ∀ n a, crcN n (2 ^ n * a) = a
  | 0, a => by simp [crcN]
  | n + 1, a => by rw [crcN, show 2 ^ (n + 1) * a = 2 * (2 ^ n * a) by rw [Nat.pow_succ]; ac_rfl, crcB_even, crcN_pow n]
theorem split_byte (c : Nat) : c = (256 * (c / 256)) ^^^ (c % 256) := by
  have h := Nat.two_pow_add_eq_or_of_lt (i := 8) (b := c % 256) (by omega) (c / 256)
  have h2 : 2 ^ 8 * (c / 256) ||| c % 256 = 2 ^ 8 * (c / 256) ^^^ c % 256 := by
    apply Nat.eq_of_testBit_eq
    intro i
    rw [Nat.testBit_or, Nat.testBit_xor, Nat.testBit_two_pow_mul]
    by_cases hi : i < 8
    · rw [decide_eq_false (by omega)]; simp
    · have hz : (c % 256).testBit i = false := Nat.testBit_lt_two_pow (Nat.lt_of_lt_of_le (show c % 256 < 2 ^ 8 by omega) (Nat.pow_le_pow_right (by omega) (by omega)))
      rw [hz]; simp
  have e : (2 : Nat) ^ 8 = 256 := rfl
  rw [e] at h h2
  rw [← h2, ← h]; omega
/-- one byte, bit by bit -/
theorem crcN_byte (c x : Nat) : crcN 8 (c ^^^ x) = crcS c x := by
  have h := split_byte c
  have e : c ^^^ x = (256 * (c / 256)) ^^^ ((c % 256) ^^^ x) := by
    rw [← Nat.xor_assoc, ← h]
  rw [e, crcN_xor, show 256 * (c / 256) = 2 ^ 8 * (c / 256) from rfl, crcN_pow]
  unfold crcS tabv
  exact Nat.xor_comm _ _
/-- the document's way: a register and a byte, both go to the right -/
def refB (r x : Nat) : Nat := (r / 2) ^^^ (if (r ^^^ x) % 2 = 1 then 2197175160 else 0)
theorem refB_xor (r x : Nat) : refB r x ^^^ (x / 2) = crcB (r ^^^ x) := by
  unfold refB crcB
  rw [div2_xor]
  rcases mod2_cases (r ^^^ x) with h | h <;> rw [h] <;> simp <;> ac_rfl
theorem refB_lt (r x : Nat) (h : r < 4294967296) : refB r x < 4294967296 := by
  unfold refB
  refine Nat.xor_lt_two_pow (n := 32) (by omega) ?_
  split <;> omega
def refN : Nat → Nat → Nat → Nat
  | 0, r, _ => r
  | n + 1, r, x => refN n (refB r x) (x / 2)
theorem refN_xor : ∀ n r x, refN n r x ^^^ (x / 2 ^ n) = crcN n (r ^^^ x)
  | 0, r, x => by simp [refN, crcN]
  | n + 1, r, x => by
    rw [refN, crcN, ← refB_xor, ← refN_xor n (refB r x) (x / 2), Nat.div_div_eq_div_mul, Nat.pow_succ, Nat.mul_comm]
theorem refN_byte (r x : Nat) (hx : x < 256) : refN 8 r x = crcS r x := by
  have h := refN_xor 8 r x
  rw [crcN_byte, show x / 2 ^ 8 = 0 by omega, Nat.xor_zero] at h
  exact h
theorem refN_succ : ∀ n r x, refN (n + 1) r x = refB (refN n r x) (x / 2 ^ n)
  | 0, r, x => by simp [refN]
  | n + 1, r, x => by
    rw [refN, refN_succ n, refN, Nat.div_div_eq_div_mul, Nat.pow_succ, Nat.mul_comm (2 ^ n) 2]
theorem refN_lt : ∀ n r x, r < 4294967296 → refN n r x < 4294967296
  | 0, _, _, h => h
  | n + 1, r, x, h => refN_lt n _ _ (refB_lt r x h)
end Go.Proofs.Ytofegigbhohebaa.Hand
namespace Go.Proofs.Ytofegigbhohebaa.Hand
open Go.RowKit Go.Proofs.YtofegigbhohebaaW.PrintWords

theorem below_setRow {B : Nat} {w W : World} (h : Below B w W) (g : Nat) (hg : B ≤ g) (cs : Array Value) : Below B w (W.setRow g cs) :=
  ⟨h.os, h.tape, h.output, by simpa using h.size, fun i hi => (setRow_other W g i cs (by omega)).trans (h.block i hi)⟩
def zrow : Array Value := (List.replicate 256 (Value.int .u32 0)).toArray
theorem zero60 (w : World) : (zeroValue 150).run Try.prog w = .ok (.agg zrow) w := by kernel_rfl
theorem zrow_size : zrow.size = 256 := by unfold zrow; rw [List.size_toArray, List.length_replicate]
theorem info60 : (Try.prog.info? 150).map (fun i => i.size) = some 256 := by kernel_rfl
def trow (k : Nat) : Array Value := ((List.range 256).map fun j => Value.int .u32 (if j < k then ((tabv j : Nat) : Int) else 0)).toArray
theorem trow_size (k : Nat) : (trow k).size = 256 := by unfold trow; rw [List.size_toArray, List.length_map, List.length_range]
theorem trow_at (k j : Nat) (h : j < 256) : (trow k)[j]? = some (Value.int .u32 (if j < k then ((tabv j : Nat) : Int) else 0)) := by
  unfold trow
  rw [List.getElem?_toArray, List.getElem?_map, List.getElem?_range h]; rfl
theorem trow_zero : trow 0 = zrow := by
  apply Array.ext_getElem?
  intro j
  by_cases h : j < 256
  · rw [trow_at 0 j h]
    unfold zrow
    rw [List.getElem?_toArray, List.getElem?_replicate, if_pos h, if_neg (by omega)]
  · rw [Array.getElem?_eq_none (by rw [trow_size]; omega), Array.getElem?_eq_none (by rw [zrow_size]; omega)]
theorem trow_set (k : Nat) : (trow k).setIfInBounds k (Value.int .u32 ((tabv k : Nat) : Int)) = trow (k + 1) := by
  apply Array.ext_getElem?
  intro j
  by_cases hj : j < 256
  · rw [trow_at (k + 1) j hj, Array.getElem?_setIfInBounds]
    by_cases e : k = j
    · subst e; rw [if_pos rfl, if_pos (by rw [trow_size]; exact hj), if_pos (by omega)]
    · rw [if_neg e, trow_at k j hj]
      by_cases e2 : j < k
      · rw [if_pos e2, if_pos (by omega)]
      · rw [if_neg e2, if_neg (by omega)]
  · rw [Array.getElem?_eq_none (by rw [Array.size_setIfInBounds, trow_size]; omega), Array.getElem?_eq_none (by rw [trow_size]; omega)]
theorem trow_cells (k : Nat) : ((trow k).all fun x => x.oneCell') = true := by
  unfold trow
  rw [List.all_toArray, List.all_map, List.all_eq_true]
  intro j _; rfl

set_option maxHeartbeats 400000 in
set_option maxRecDepth 100000 in
theorem table_calls (w : World) :
    Calls Try.prog 98 #[] w fun e w' => e = .returned (.agg (trow 256)) ∧ Below w.heap.size w w' := by
  have hz := zero60
  go_enter Try.func98, Try.ntmps98
  go_wp2_with fail
  go_loopw [2, 3, 4, 9] (fun i2 c3 i4 _ wr => ∃ k : Nat, k ≤ 256 ∧ i4 = .int .i64 k ∧ Aside0 (wr.heap[w.heap.size]? = some (.cells zrow 150 (0, 0)) ∧ wr.heap[w.heap.size + 1]? = some (.cells (trow k) 150 (0,0)) ∧ Below w.heap.size w wr)) (fun _ _ i4 _ _ => 256 - (intOf i4).toNat)
  case atStart => 
    refine ⟨0, by omega, rfl, ⟨heap_alloc2_old w _ _, ?_, below_alloc (below_alloc (Below.refl _ _) _) _⟩⟩
    rw [trow_zero]; exact heap_alloc2_new w _ _
  case round =>
    obtain ⟨k, hk, rfl, HI⟩ := hrel
    by_cases hlt : k < 256
    · have hc : wr.cell? ⟨w.heap.size + 1, k, none⟩ = some (Value.int .u32 0) := by rw [blk_cell HI.out.2.1 k, trow_at k k hlt, if_neg (by omega)]
      have hf : wr.frozen? ⟨w.heap.size + 1, k, none⟩ = false := blk_frozen HI.out.2.1 k
      go_wp2_with fail
      go_loop [3, 9] (fun c3 i9 => ∃ j : Nat, ∃ c : Nat, j ≤ 8 ∧ c < 4294967296 ∧ i9 = .int .i64 j ∧ c3 = .int .u32 c ∧ Aside0 (c = crcN j k)) (fun _ i9 => 8 - (intOf i9).toNat)
      case atStart => exact ⟨0, k, by omega, by omega, rfl, by simp, ⟨rfl⟩⟩
      case round => 
        obtain ⟨j, c, hj, hc9, rfl, rfl, HC⟩ := hrel
        by_cases hlt2 : j < 8
        · go_wp2_with fail
          go_round
          case rel => exact ⟨j + 1, crcB c, by omega, crcB_lt c hc9, by go_num, by rw [crcB_walk c hc9], ⟨by rw [crcN_succ, HC.out]⟩⟩
          case measure => simp [intOf]; omega
        · go_wp2_with fail
          go_roundw
          case rel => 
            have e : c = tabv k := by rw [HC.out, show j = 8 by omega]; rfl
            have hbl := HI.out.1
            have hb2 := HI.out.2.1
            refine ⟨k + 1, by omega, by go_num, ⟨?_, ?_, ?_⟩⟩
            · exact (blk_far hbl (by simp) _)
            · rw [blk_set hb2, e, trow_set k]
            · exact HI.out.2.2.setCell (by simp) _
          case measure => simp [intOf]; omega
    · have hk2 : k = 256 := by omega
      go_wp2_with (first | (refine wpList_load_row rfl 150 (.tmp 1) rfl (w.heap.size + 1) rfl 150 (trow k) (0,0) _ HI.out.2.1 Try.underlying150 rfl (by rw [info60, trow_size]) ?_) | (refine wpList_store_row rfl 150 (.tmp 0) (.tmp 22) rfl w.heap.size (trow k) rfl rfl 150 zrow HI.out.1 (by rw [info60, trow_size]) (by rw [zrow_size, trow_size]) (trow_cells k) ?_))
      refine bodyPost_ret (results_cell_row rfl _ _ w.heap.size 150 (trow k) (0, 0) _ rfl (setRow_heap _ _ _ _ _ _ HI.out.1) Try.underlying150 rfl (by rw [info60, trow_size])) rfl ?_
      exact ⟨by rw [hk2], below_setRow HI.out.2.2 _ (Nat.le_refl _) _⟩

def crcOf (l : List Int) : Nat := 4294967295 ^^^ crcL 4294967295 l
theorem bits_not_u32 (c : Nat) (h : c < 4294967296) : bits .xor .u32 IntKind.u32.max (c : Int) = ((4294967295 ^^^ c : Nat) : Int) := bits_xor_u32 4294967295 c (by omega) h
theorem ret_u32 {k : IntKind} {a b : Int} (h : a = b) : Ending.returned (.int k a) = .returned (.int k b) := by rw [h]
theorem refB_walk1 (r y : Nat) (hr : r < 4294967296) (h : (r ^^^ y) % 2 = 1) : bits .xor .u32 ((r : Int) / 2) 2197175160 = ((refB r y : Nat) : Int) := by
  rw [show ((r : Int) / 2) = ((r / 2 : Nat) : Int) by omega, show (2197175160 : Int) = ((2197175160 : Nat) : Int) from rfl, bits_xor_u32 _ _ (by omega) (by omega)]
  unfold refB; rw [if_pos h]
theorem refB_walk0 (r y : Nat) (h : ¬ (r ^^^ y) % 2 = 1) : (r : Int) / 2 = ((refB r y : Nat) : Int) := by
  unfold refB; rw [if_neg h, Nat.xor_zero]; omega
theorem crcS_walk (c x : Nat) (hc : c < 4294967296) (hx : x < 256) : bits .xor .u32 ((tabv ((c % 256) ^^^ x) : Nat) : Int) ((c : Int) / 256) = ((crcS c x : Nat) : Int) := by
  rw [show ((c : Int) / 256) = ((c / 256 : Nat) : Int) by omega, bits_xor_u32 _ _ (tabv_lt _ (xor_byte c x hx)) (by omega)]; rfl
theorem crcI_walk (c x : Nat) (hx : x < 256) : bits .xor .u8 ((c : Int) % 256) (x : Int) = (((c % 256) ^^^ x : Nat) : Int) := by
  rw [show ((c : Int) % 256) = ((c % 256 : Nat) : Int) by omega, bits_xor_u8 _ _ (by omega) hx]
def isBytes (l : List Int) : Prop := ∀ x ∈ l, 0 ≤ x ∧ x ≤ 255
theorem crcL_take (c : Nat) (l : List Int) (k : Nat) (h : k < l.length) : crcL c (l.take (k + 1)) = crcS (crcL c (l.take k)) (rd l k).toNat := by
  rw [List.take_succ_eq_append_getElem h, crcL_append]
  have e : rd l k = l[k] := by unfold rd; simp [h]
  rw [e]; rfl
theorem crcL_lt_take (l : List Int) (hl : isBytes l) (k : Nat) : crcL 4294967295 (l.take k) < 4294967296 := crcL_lt _ _ (by omega) (fun x hx => hl x (List.mem_of_mem_take hx))
theorem rd_byte (l : List Int) (hl : isBytes l) (i : Int) (h0 : 0 ≤ i) (h : i < l.length) : 0 ≤ rd l i ∧ rd l i ≤ 255 := by
  have hi : i.toNat < l.length := by omega
  have e : rd l i = l[i.toNat] := by unfold rd; simp [hi]
  rw [e]; exact hl _ (List.getElem_mem hi)
set_option maxHeartbeats 400000 in
set_option maxRecDepth 100000 in
theorem Crc_calls0 (A0 : Option Addr) (c0 : Nat) (l0 : List Int) (w : World) (hr0 : Kd.C (Kd.int .u8) w A0 l0.length l0) (hb : isBytes l0) :
    Calls Try.prog 83 #[.slice A0 l0.length c0] w fun e w' => e = .returned (.int .u32 ((crcOf l0 : Nat) : Int)) ∧ Below w.heap.size w w' := by
  have hz := zero60
  have HR := Aside0.mk hr0
  have hmax : l0.length ≤ 9223372036854775807 := Kd.C_max hr0
  clear hr0
  go_enter Try.func83, Try.ntmps83
  go_wp2_with (first | (go_at_call 98; refine (table_calls _).mono ?_; rintro e w1 ⟨rfl, hb1⟩; have HB1 := Aside0.mk hb1; clear hb1) | (refine wpList_store_row rfl 150 (.tmp 3) (.tmp 7) rfl w1.heap.size (trow 256) rfl rfl 150 zrow (heap_alloc_new _ _) (by rw [info60, trow_size]) (by rw [zrow_size, trow_size]) (trow_cells 256) ?_))
  have hB2 : Below w.heap.size w ((w1.alloc (Obj.cells zrow 150)).setRow w1.heap.size (trow 256)) := below_setRow (below_alloc HB1.out _) _ HB1.out.size _
  have hT2 : ((w1.alloc (Obj.cells zrow 150)).setRow w1.heap.size (trow 256)).heap[w1.heap.size]? = some (.cells (trow 256) 150 (0, 0)) := setRow_heap _ _ _ _ _ _ (heap_alloc_new _ _)
  generalize (w1.alloc (Obj.cells zrow 150)).setRow w1.heap.size (trow 256) = W2 at *
  have HB2 := Aside0.mk hB2
  have HT2 := Aside0.mk hT2
  have HR2 := Aside0.mk (Kd.C_below HR.out hB2)
  clear hB2 hT2 hz
  go_loop [4, 6, 10] (fun c4 i6 i10 => ∃ k : Nat, k ≤ l0.length ∧ i10 = .int .i64 k ∧ c4 = .int .u32 ((crcL 4294967295 (l0.take k) : Nat) : Int)) (fun _ _ i10 => l0.length - (intOf i10).toNat)
  case atStart => exact ⟨0, by omega, rfl, rfl⟩
  case round =>
    obtain ⟨k, hk, rfl, rfl⟩ := hrel
    by_cases hlt : k < l0.length
    · obtain ⟨ad, rfl, hcell⟩ := Kd.at_int HR2.out k (by omega) (by omega)
      rw [Int.toNat_natCast] at hcell
      have hby := rd_byte l0 hb k (by omega) (by omega)
      have hc := crcL_lt_take l0 hb k
      have HS := Aside0.mk (crcL_take 4294967295 l0 k hlt)
      generalize crcL 4294967295 (l0.take k) = c at *
      obtain ⟨x, hx⟩ := Int.eq_ofNat_of_zero_le hby.1
      rw [hx] at hcell hby
      have HX := Aside0.mk hx
      clear hx
      have hx8 : x < 256 := by omega
      have hxor := crcI_walk c x hx8
      have hj := xor_byte c x hx8
      have ht : W2.cell? ⟨w1.heap.size, (c % 256) ^^^ x, none⟩ = some (.int .u32 ((tabv ((c % 256) ^^^ x) : Nat) : Int)) := by rw [blk_cell HT2.out, trow_at _ _ hj, if_pos hj]
      go_wp2_with fail
      go_round
      case rel => exact ⟨k + 1, by omega, by go_num, by rw [HS.out, HX.out, Int.toNat_natCast, ← crcS_walk c x hc hx8]⟩
      case measure => simp [intOf]; omega
    · have hk2 : k = l0.length := by omega
      go_wp2_with fail
      go_ret
      exact ⟨ret_u32 (bits_not_u32 _ (crcL_lt _ _ (by omega) hb)), HB2.out⟩

end Go.Proofs.Ytofegigbhohebaa.Hand
namespace Go.Proofs.Ytofegigbhohebaa.Hand
open Go.RowKit Go.Proofs.YtofegigbhohebaaW.PrintWords

/-- The reader's struct in memory: the bytes, the place. -/
def rcell (A : Option Addr) (n c : Nat) (p : Int) : Array Value := #[.slice A n c, .int .i64 p]
set_option maxHeartbeats 400000 in
theorem has_calls (g : Nat) (A : Option Addr) (len c : Nat) (p n : Int) (w : World) (hg : w.heap[g]? = some (.cells #[.slice A len c, .int .i64 p] 144 (0, 0))) (hp : 0 ≤ p) (hl : len ≤ 9223372036854775807) :
    Calls Try.prog 89 #[.pointer (some ⟨g, 0, none⟩), .int .i64 n] w fun e w' => e = .returned (.bool (decide (p ≤ len) && decide (n ≤ len - p))) ∧ Drawn0 w w' := by
  have c0 : w.cell? ⟨g, 0, none⟩ = some (.slice A len c) := by rw [blk_cell hg 0]; rfl
  have c1 : w.cell? ⟨g, 1, none⟩ = some (.int .i64 p) := by rw [blk_cell hg 1]; rfl
  clear hg
  by_cases h : p ≤ len
  · have h1 : decide (p ≤ (len : Int)) = true := by simpa using h
    go_enter Try.func89, Try.ntmps89
    go_wp2_with fail
    go_quiet (fail)
    go_wp2_with fail
    go_ret
    exact ⟨by rw [h1]; rfl, by repeat (first | exact Drawn0.refl _ | apply Drawn0.step)⟩
  · have h1 : decide (p ≤ (len : Int)) = false := by simpa using h
    go_enter Try.func89, Try.ntmps89
    go_wp2_with fail
    go_quiet (fail)
    go_wp2_with fail
    go_ret
    exact ⟨by rw [h1]; rfl, by repeat (first | exact Drawn0.refl _ | apply Drawn0.step)⟩

theorem ret_slice {A : Option Addr} {n m c : Nat} (h : n = m) : Ending.returned (.slice A n c) = .returned (.slice A m c) := by rw [h]
theorem drawn_below {B : Nat} {w0 W W' : World} (h : Below B w0 W) (d : Drawn0 W W') : Below B w0 W' := by
  obtain ⟨n, rfl⟩ := d.out
  exact pw_below_drewN h n
set_option maxHeartbeats 400000 in
theorem take_calls (w0 : World) (g : Nat) (A : Option Addr) (c : Nat) (l : List Int) (p n : Nat) (w : World) (hg : w.heap[g]? = some (.cells #[.slice A l.length c, .int .i64 p] 144 (0, 0))) (hr : Kd.C (Kd.int .u8) w0 A l.length l) (hc : l.length ≤ c) (hpn : p + n ≤ l.length) :
    Calls Try.prog 91 #[.pointer (some ⟨g, 0, none⟩), .int .i64 n] w fun e w' => ∃ A' c', e = .returned (.slice A' n c') ∧ n ≤ c' ∧ Kd.C (Kd.int .u8) w0 A' n ((l.take (p + n)).drop p) ∧ Drawn0 (w.setCell ⟨g, 1, none⟩ (.int .i64 ((p : Int) + n))) w' := by
  have c0 : w.cell? ⟨g, 0, none⟩ = some (.slice A l.length c) := by rw [blk_cell hg 0]; rfl
  have c1 : w.cell? ⟨g, 1, none⟩ = some (.int .i64 p) := by rw [blk_cell hg 1]; rfl
  have f1 : w.frozen? ⟨g, 1, none⟩ = false := blk_frozen hg 1
  have hmax : l.length ≤ 9223372036854775807 := Kd.C_max hr
  have HM := Aside0.mk (Kd.C_mid (lo := p) (hi := p + n) hr (by omega) hpn hc)
  have hlen : ((l.take (p + n)).drop p).length = n := by rw [List.length_drop, List.length_take]; omega
  clear hr hg
  by_cases hcp : c = p
  · have hn0 : n = 0 := by omega
    subst hcp
    subst hn0
    rw [if_pos rfl] at HM
    go_enter Try.func91, Try.ntmps91
    go_wp2_with fail
    go_quiet (fail)
    go_wp2_with fail
    go_ret
    refine ⟨A, 0, rfl, by omega, ?_, by repeat (first | exact Drawn0.refl _ | apply Drawn0.step)⟩
    have := HM.out
    rwa [hlen] at this
  · rw [if_neg hcp] at HM
    go_enter Try.func91, Try.ntmps91
    go_wp2_with fail
    go_quiet (fail)
    go_wp2_with fail
    go_ret
    refine ⟨_, c - p, ret_slice (show p + n - p = n by omega), by omega, ?_, by repeat (first | exact Drawn0.refl _ | apply Drawn0.step)⟩
    have := HM.out
    rw [hlen] at this
    exact (show (Kd.int .u8).C w0 (A.map (·.add p)) n _ from by rw [show (Kd.int IntKind.u8).sz = 1 from rfl, Nat.mul_one] at this; exact this)

/-- A number of its bytes, the lowest first. -/
def leN : List Int → Nat
  | [] => 0
  | x :: l => x.toNat + 256 * leN l
theorem leN_snoc : ∀ (l : List Int) (x : Int), leN (l ++ [x]) = leN l + x.toNat * 256 ^ l.length
  | [], x => by simp [leN]
  | y :: l, x => by rw [List.cons_append, leN, leN, leN_snoc l x, List.length_cons, Nat.pow_succ, Nat.mul_add, Nat.add_assoc]; congr 2; rw [Nat.mul_left_comm]; congr 1; exact Nat.mul_comm _ _
theorem leN_lt : ∀ (l : List Int), isBytes l → leN l < 256 ^ l.length
  | [], _ => by simp [leN]
  | x :: l, h => by
    have h1 := leN_lt l (fun y hy => h y (by simp [hy]))
    have h2 := h x (by simp)
    rw [leN, List.length_cons, Nat.pow_succ]
    omega
theorem leN_take (l : List Int) (k : Nat) (h : k < l.length) : leN (l.take (k + 1)) = leN (l.take k) + (rd l k).toNat * 256 ^ k := by
  rw [List.take_succ_eq_append_getElem h, leN_snoc]
  have e : rd l k = l[k] := by unfold rd; simp [h]
  rw [e, List.length_take, Nat.min_eq_left (by omega)]
theorem pow256 (k : Nat) : 256 ^ k = 2 ^ (8 * k) := by rw [show (256 : Nat) = 2 ^ 8 from rfl, ← Nat.pow_mul]
theorem number_bits (v x k : Nat) (hk : k < 6) (hv : v < 256 ^ k) (hx : x < 256) : bits .or .i64 (v : Int) (wrap64 ((x : Int) * 2 ^ (8 * k))) = ((v + x * 256 ^ k : Nat) : Int) := by
  rw [pow256] at hv
  have h40 : 2 ^ (8 * k) ≤ 2 ^ 40 := Nat.pow_le_pow_right (by omega) (by omega)
  have hm : x * 2 ^ (8 * k) ≤ 255 * 2 ^ 40 := Nat.mul_le_mul (by omega) h40
  have ec : ((x : Int) * 2 ^ (8 * k)) = ((x * 2 ^ (8 * k) : Nat) : Int) := by push_cast; rfl
  have ew : wrap64 (((x * 2 ^ (8 * k) : Nat)) : Int) = ((x * 2 ^ (8 * k) : Nat) : Int) := by
    generalize x * 2 ^ (8 * k) = y at *
    unfold wrap64; omega
  rw [ec, ew, (bits_nat .i64 62 (by decide) (fun n h0 h1 => by rw [IntKind.wrap_i64]; omega) v (x * 2 ^ (8 * k)) (by omega) (by omega)).2]
  have h := Nat.two_pow_add_eq_or_of_lt (i := 8 * k) (b := v) hv x
  rw [Nat.or_comm, Nat.mul_comm x, ← h, pow256, Nat.mul_comm x, Nat.add_comm]
theorem number_lt (v x k : Nat) (hv : v < 256 ^ k) (hx : x < 256) : v + x * 256 ^ k < 256 ^ (k + 1) := by
  rw [Nat.pow_succ]
  have : x * 256 ^ k ≤ 255 * 256 ^ k := Nat.mul_le_mul_right _ (by omega)
  omega
set_option maxHeartbeats 400000 in
theorem number_calls (w0 : World) (g : Nat) (A : Option Addr) (c : Nat) (l : List Int) (p n : Nat) (w : World) (hB : Below w0.heap.size w0 w) (hg0 : w0.heap.size ≤ g) (hg : w.heap[g]? = some (.cells #[.slice A l.length c, .int .i64 p] 144 (0, 0))) (hr : Kd.C (Kd.int .u8) w0 A l.length l) (hc : l.length ≤ c) (hpn : p + n ≤ l.length) (hn : n ≤ 6) (hb : isBytes l) :
    Calls Try.prog 90 #[.pointer (some ⟨g, 0, none⟩), .int .i64 n] w fun e w' => e = .returned (.int .i64 ((leN ((l.take (p + n)).drop p) : Nat) : Int)) ∧ Drawn0 (w.setCell ⟨g, 1, none⟩ (.int .i64 ((p : Int) + n))) w' := by
  have HT := take_calls w0 g A c l p n w hg hr hc hpn
  have HT' := Aside0.mk HT
  have HB := Aside0.mk hB
  have HG := Aside0.mk hg
  clear hr hg HT hB
  have hlen : ((l.take (p + n)).drop p).length = n := by rw [List.length_drop, List.length_take]; omega
  have hseg : isBytes ((l.take (p + n)).drop p) := fun x hx => hb x (List.mem_of_mem_take (List.mem_of_mem_drop hx))
  generalize (l.take (p + n)).drop p = s at *
  go_enter Try.func90, Try.ntmps90
  go_wp2_with (go_at_call 91; refine HT'.out.mono ?_; rintro e w1 ⟨A1, c1, rfl, hc1, hr1, hd1⟩; have HR1 := Aside0.mk hr1; have HD1 := Aside0.mk hd1; clear hr1 hd1)
  have hB1 : Below w0.heap.size w0 w1 := drawn_below (HB.out.setCell hg0 _) HD1.out
  have HRW := Aside0.mk (Kd.C_below HR1.out hB1)
  clear hB1
  go_loop [5, 6, 7, 14] (fun n5 i6 x7 i14 => ∃ k v : Nat, k ≤ n ∧ v < 256 ^ k ∧ i14 = .int .i64 k ∧ n5 = .int .i64 v ∧ Aside0 (v = leN (s.take k))) (fun _ _ _ i14 => n - (intOf i14).toNat)
  case atStart => exact ⟨0, 0, by omega, by omega, rfl, rfl, ⟨by simp [leN]⟩⟩
  case round =>
    obtain ⟨k, v, hk, hv, rfl, rfl, HV⟩ := hrel
    by_cases hlt : k < n
    · have hks : k < s.length := by omega
      obtain ⟨ad, rfl, hcell⟩ := Kd.at_int HRW.out k (by omega) (by omega)
      rw [Int.toNat_natCast] at hcell
      have hby := rd_byte s hseg k (by omega) (by omega)
      have HS := Aside0.mk (leN_take s k hks)
      obtain ⟨x, hx⟩ := Int.eq_ofNat_of_zero_le hby.1
      rw [hx] at hcell hby
      have HX := Aside0.mk hx
      clear hx
      have hx8 : x < 256 := by omega
      clear hks
      go_wp2_with fail
      go_round
      case rel => 
        exact ⟨k + 1, v + x * 256 ^ k, by omega, number_lt v x k hv hx8, by go_num, by rw [number_bits v x k (by omega) hv hx8], ⟨by rw [HS.out, HX.out, HV.out, Int.toNat_natCast]⟩⟩
      case measure => simp [intOf]; omega
    · have hk2 : k = n := by omega
      go_wp2_with fail
      go_ret
      exact ⟨ret_u32 (by rw [HV.out, hk2, List.take_of_length_le (by omega)]), HD1.out⟩

theorem drawn_blk {W W' : World} (d : Drawn0 W W') {g : Nat} {o : Obj} (h : W.heap[g]? = some o) : W'.heap[g]? = some o := by
  obtain ⟨n, rfl⟩ := d.out
  exact h
/-- What wire.Get answers. -/
def getF (l : List Int) (p size : Int) : Int × Int × Int :=
  if size < 1 then (0, 0, 1) else if 6 < size then (0, 0, 1) else if p < 0 then (0, 0, 1) else
  if p ≤ l.length then (if size ≤ l.length - p then (((leN ((l.take (p + size).toNat).drop p.toNat) : Nat) : Int), p + size, 0) else (0, 0, 20)) else (0, 0, 20)
theorem new_reader {w : World} {o : Obj} (A : Option Addr) (n c : Nat) (p : Int) (ho : o = .cells #[.slice A n c, .int .i64 p] 144 (0, 0)) : (w.alloc o).heap[w.heap.size]? = some (.cells #[.slice A n c, .int .i64 p] 144 (0, 0)) := by rw [ho]; exact heap_alloc_new w _
set_option maxHeartbeats 400000 in
theorem Get_calls0 (A0 : Option Addr) (c0 : Nat) (l0 : List Int) (p size : Int) (w : World) (hr0 : Kd.C (Kd.int .u8) w A0 l0.length l0) (hc0 : l0.length ≤ c0) (hb : isBytes l0) :
    Calls Try.prog 53 #[.slice A0 l0.length c0, .int .i64 p, .int .i64 size] w fun e w' => e = .returned (.tuple #[.int .i64 (getF l0 p size).1, .int .i64 (getF l0 p size).2.1, .int .i64 (getF l0 p size).2.2]) ∧ Below w.heap.size w w' := by
  have hmax : l0.length ≤ 9223372036854775807 := Kd.C_max hr0
  have HR := Aside0.mk hr0
  have HBy := Aside0.mk hb
  clear hr0 hb
  unfold getF
  by_cases h1 : size < 1
  · rw [if_pos h1]
    have h1' : decide (size < 1) = true := by simpa using h1
    go_enter Try.func53, Try.ntmps53
    go_wp2_with fail
    go_ret3
    exact ⟨rfl, below_alloc (Below.refl _ _) _⟩
  rw [if_neg h1]
  have h1' : decide (size < 1) = false := by simpa using h1
  by_cases h2 : 6 < size
  · rw [if_pos h2]
    have h2' : decide (6 < size) = true := by simpa using h2
    go_enter Try.func53, Try.ntmps53
    go_wp2_with fail
    go_ret3
    exact ⟨rfl, below_alloc (Below.refl _ _) _⟩
  rw [if_neg h2]
  have h2' : decide (6 < size) = false := by simpa using h2
  by_cases h3 : p < 0
  · rw [if_pos h3]
    have h3' : decide (p < 0) = true := by simpa using h3
    go_enter Try.func53, Try.ntmps53
    go_wp2_with fail
    go_ret3
    exact ⟨rfl, below_alloc (Below.refl _ _) _⟩
  rw [if_neg h3]
  have h3' : decide (p < 0) = false := by simpa using h3
  by_cases h4 : p ≤ l0.length
  · rw [if_pos h4]
    have h4' : decide (p ≤ (l0.length : Int)) = true := by simpa using h4
    by_cases h5 : size ≤ l0.length - p
    · rw [if_pos h5]
      have h5' : decide (size ≤ (l0.length : Int) - p) = true := by simpa using h5
      obtain ⟨q, rfl⟩ := Int.eq_ofNat_of_zero_le (show 0 ≤ p by omega)
      obtain ⟨n, rfl⟩ := Int.eq_ofNat_of_zero_le (show 0 ≤ size by omega)
      rw [show ((q : Int) + n).toNat = q + n by omega, Int.toNat_natCast]
      go_enter Try.func53, Try.ntmps53
      go_wp2_with (first | (go_at_call 89; refine (has_calls w.heap.size A0 l0.length c0 q n _ (new_reader _ _ _ _ rfl) (by omega) (by omega)).mono ?_; rintro e w1 ⟨rfl, hd1⟩; rw [h4', h5']; have HD1 := Aside0.mk hd1; clear hd1) | fail)
      refine (number_calls w w.heap.size A0 c0 l0 q n w1 (drawn_below (below_alloc (Below.refl _ _) _) HD1.out) (Nat.le_refl _) (drawn_blk HD1.out (new_reader _ _ _ _ rfl)) HR.out hc0 (by omega) (by omega) HBy.out).mono ?_
      rintro e w2 ⟨rfl, hd2⟩
      have hcell : w2.cell? ⟨w.heap.size, 1, none⟩ = some (.int .i64 ((q : Int) + n)) := by rw [blk_cell (drawn_blk hd2 (blk_set (drawn_blk HD1.out (new_reader _ _ _ _ rfl)) 1 _)) 1]; rfl
      have HB2 := Aside0.mk (drawn_below ((drawn_below (below_alloc (Below.refl w.heap.size w) _) HD1.out).setCell (Nat.le_refl _) _) hd2)
      clear hd2 HD1
      go_wp2_with fail
      go_quiet (fail)
      go_wp2_with fail
      go_ret3
      exact ⟨rfl, pw_below_drewN HB2.out _⟩
    · rw [if_neg h5]
      have h5' : decide (size ≤ (l0.length : Int) - p) = false := by simpa using h5
      go_enter Try.func53, Try.ntmps53
      go_wp2_with (first | (go_at_call 89; refine (has_calls w.heap.size A0 l0.length c0 p size _ (new_reader _ _ _ _ rfl) (by omega) (by omega)).mono ?_; rintro e w1 ⟨rfl, hd1⟩; rw [h4', h5']; have HD1 := Aside0.mk hd1; clear hd1) | fail)
      go_ret3
      exact ⟨rfl, drawn_below (below_alloc (Below.refl _ _) _) HD1.out⟩
  · rw [if_neg h4]
    have h4' : decide (p ≤ (l0.length : Int)) = false := by simpa using h4
    go_enter Try.func53, Try.ntmps53
    go_wp2_with (first | (go_at_call 89; refine (has_calls w.heap.size A0 l0.length c0 p size _ (new_reader _ _ _ _ rfl) (by omega) (by omega)).mono ?_; rintro e w1 ⟨rfl, hd1⟩; rw [h4']; have HD1 := Aside0.mk hd1; clear hd1) | fail)
    go_ret3
    exact ⟨rfl, drawn_below (below_alloc (Below.refl _ _) _) HD1.out⟩
end Go.Proofs.Ytofegigbhohebaa.Hand
-- Written by a program of this session (hprint.py, over the kit's print.py). Not trusted: Lean checks it.
namespace Go.Proofs.Ytofegigbhohebaa.P0
open Go.RowKit Go.Proofs.YtofegigbhohebaaW.PrintWords Go.Proofs.YtofegigbhohebaaW.PrintLast Go.Proofs.YtofegigbhohebaaW.PrintMore
attribute [local go_sem] max2_int min2_int max_two min_two max_three min_three max_four min_four   -- for this text's walks alone
set_option linter.unusedVariables false
set_option linter.unusedSimpArgs false



def errW : Option Int → Value
  | none => .nilIface
  | some c => .iface 0 (.int .i64 c)
theorem errW_none : errW none = .nilIface := rfl
theorem errW_some (c : Int) : errW (some c) = .iface 0 (.int .i64 c) := rfl

theorem info5 : (Try.prog.info? 5).map (fun i => (i.zero, i.size, i.bytes)) = some (some (.int .u8 0), 1, 1) := by kernel_rfl
-- the values' own types
def rd_L1 (xs : List (List Int)) (i : Int) : (List Int) := xs.getD i.toNat ([] : List Int)
theorem at_L1 {w : World} {A : Option Addr} {n : Nat} {xs : List (List Int)} (h : Kd.C (Kd.slice 5 (Kd.int .u8)) w A n xs) (i : Int) (h0 : 0 ≤ i) (h1 : i < n) : ∃ ad A0 c0, A = some ad ∧ w.cell? (ad.add i.toNat) = some (.slice A0 (rd_L1 xs i).length c0) ∧ (rd_L1 xs i).length ≤ c0 ∧ (Kd.int .u8).C w A0 (rd_L1 xs i).length (rd_L1 xs i) := by
  obtain ⟨ad, c, e, _, hK, hc0⟩ := Kd.C_get h ([] : List Int) i h0 h1
  have hc : ∀ j u, c[j]? = some u → w.cell? (ad.add (i.toNat * 1 + j)) = some u := hc0
  obtain ⟨A0, c0, rfl, l0, g0⟩ := hK
  exact ⟨ad, A0, c0, e, by have hq := hc 0 _ rfl; rwa [Nat.mul_one, Nat.add_zero] at hq, l0, g0⟩

end Go.Proofs.Ytofegigbhohebaa.P0
-- Written by a program of this session (hprint.py, over the kit's print.py). Not trusted: Lean checks it.
namespace Go.Proofs.Ytofegigbhohebaa.P0
open Go.RowKit Go.Proofs.YtofegigbhohebaaW.PrintWords Go.Proofs.YtofegigbhohebaaW.PrintLast Go.Proofs.YtofegigbhohebaaW.PrintMore
attribute [local go_sem] max2_int min2_int max_two min_two max_three min_three max_four min_four   -- for this text's walks alone
set_option linter.unusedVariables false
set_option linter.unusedSimpArgs false

/-! ### wire_low: function 81 -/
def wire_low.l0 : Nat → Int → List Int → Int → Int → Option (List Int)
  | 0, _, _, _, _ => none
  | k + 1, x0, x5, x10, x11 => if x11 < x10 then (if 0 ≤ (IntKind.u64.wrap (wrap64 (8 * x11))) then (if 0 ≤ x11 then (if x11 < (x5.length : Int) then (wire_low.l0 k x0 (x5.set (x11 : Int).toNat ((shr .i64 x0 (IntKind.u64.wrap (wrap64 (8 * x11)))) % 256)) x10 (wrap64 (x11 + 1))) else (none)) else (none)) else (none)) else (some x5)
def wire_low.f (k : Nat) (a0 : Int) (a1 : Int) : Option (List Int) := if 0 ≤ a1 then (if (a1 : Int).toNat ≤ 281474976710656 then ((some (List.replicate (a1 : Int).toNat 0 : List Int)).bind fun y101 => (wire_low.l0 k a0 y101 (y101.length : Int) 0)) else (none)) else (none)
theorem wire_low.mono_l : ∀ k, (∀ y0 y1 y2 y3, LeO (wire_low.l0 k y0 y1 y2 y3) (wire_low.l0 (k + 1) y0 y1 y2 y3))
  | 0 => fun _ _ _ _ r h => by simp [wire_low.l0] at h
  | k + 1 => by
    have ih0 := wire_low.mono_l k
    · intro y0 y1 y2 y3
      unfold wire_low.l0
      repeat' first
      | (with_reducible exact ih0 _ _ _ _)
      | (with_reducible exact LeO.refl _)
      | (with_reducible exact LeO.none _)
      | (with_reducible refine LeO.ite ?_ ?_)
      | (with_reducible refine LeO.bind ?_ (fun _ => ?_))
      | exact ih0 _ _ _ _
      | exact LeO.none _
      | refine LeO.ite ?_ ?_
      | refine LeO.bind ?_ (fun _ => ?_)
theorem wire_low.mono : ∀ a0 a1 k, LeO (wire_low.f k a0 a1) (wire_low.f (k + 1) a0 a1) := by
  intro a0 a1 k
  have ih0 := wire_low.mono_l k
  unfold wire_low.f
  repeat' first
      | (with_reducible exact ih0 _ _ _ _)
      | (with_reducible exact LeO.refl _)
      | (with_reducible exact LeO.none _)
      | (with_reducible refine LeO.ite ?_ ?_)
      | (with_reducible refine LeO.bind ?_ (fun _ => ?_))
      | exact ih0 _ _ _ _
      | exact LeO.none _
      | refine LeO.ite ?_ ?_
      | refine LeO.bind ?_ (fun _ => ?_)
set_option maxHeartbeats 8000000 in
set_option maxRecDepth 100000 in
theorem wire_low.calls (k : Nat) (a0 : Int) (a1 : Int) (r : List Int) (w : World) (h : wire_low.f k a0 a1 = some r) :
    Calls Try.prog 81 #[.int .i64 a0, .int .i64 a1] w fun e w' => ∃ v0_ : Value, e = .returned (v0_) ∧ Kd.R (Kd.int .u8) 5 w' w.heap.size (fun _ => True) v0_ r ∧ Below w.heap.size w w' := by
  have HB := Aside0.mk (Below.refl w.heap.size w)
  have H : (if 0 ≤ a1 then (if (a1 : Int).toNat ≤ 281474976710656 then ((some (List.replicate (a1 : Int).toNat 0 : List Int)).bind fun y101 => (wire_low.l0 k a0 y101 (y101.length : Int) 0)) else (none)) else (none)) = some r := h
  clear h
  by_cases c3 : 0 ≤ a1
  · rw [if_pos c3] at H
    have c3b0 := eq_true c3
    have c3b1 : decide (0 ≤ a1) = true := decide_eq_true c3
    clear c3
    by_cases c4 : (a1 : Int).toNat ≤ 281474976710656
    · rw [if_pos c4] at H
      have c4b0 := eq_true c4
      have c4b1 : decide ((a1 : Int).toNat ≤ 281474976710656) = true := decide_eq_true c4
      clear c4
      obtain ⟨y101, hy101⟩ : ∃ y_ : List Int, y_ = (List.replicate (a1 : Int).toNat 0) := ⟨_, rfl⟩
      replace H : (wire_low.l0 k a0 y101 (y101.length : Int) 0) = some r := by first | (rw [hy101]; with_reducible exact H) | (have H2_ := (Option.bind_some _ _).symm.trans H; rw [hy101]; with_reducible exact H2_) | (have H2_ := (Option.bind_some _ _).symm.trans H; with_reducible exact H2_) | with_reducible exact H | (rw [hy101]; exact H) | exact H
      have Ny101 := Aside0.mk hy101
      clear hy101
      have H' := Aside0.mk H
      clear H
      go_enter Try.func81, Try.ntmps81
      go_wp2_with (first | ((with_reducible refine gate_dst (N := 8) rfl ?_); refine Kd.R_make (Kd.int .u8) _ 5 rfl (N := 8) rfl 64 _ _ rfl a1 rfl rfl Try.underlying64 (.int .u8 0) 1 info5 rfl (by decide) (by omega) 0 (ok := fun _ => True) (okp := fun _ => True) rfl (fun _ hk => hk) trivial (of_decide_eq_true (by first | (with_reducible assumption) | assumption)) (Nat.le_trans (Nat.mul_le_mul_right _ (of_decide_eq_true (by first | (with_reducible assumption) | assumption) : a1.toNat ≤ 281474976710656)) (by omega)) (Below.refl _ _) (Nat.le_refl _) ?_; intro v102 w5 ho6 hb hg_ hnew_; clear hg_ hnew_; (first | rw [← Ny101.out] at ho6 | (simp only [Int.reduceToNat] at ho6; rw [← Ny101.out] at ho6)); have n0_ := Aside0.mk (Kd.R_lower ho6 (below_size (by repeat (first | (with_reducible first | exact HB.out | apply below_alloc | apply pw_below_drewN | apply below_drew1) | exact HB.out)))); have n1_ := Aside0.mk (below_step (by repeat (first | (with_reducible first | exact HB.out | apply below_alloc | apply pw_below_drewN | apply below_drew1) | exact HB.out)) hb); clear HB; have HO103 := n0_; have HB := n1_; clear n0_ n1_; clear hb ho6; obtain ⟨Ao7, co7, eo7⟩ := Kd.R_slice HO103.out; subst eo7))
      go_loopg [11] k (fun kq v11 w' => ∃ (x5_1 : List Int) (x11_1 : Int), v11 = .int .i64 x11_1 ∧ Aside0 (wire_low.l0 kq a0 x5_1 (y101.length : Int) x11_1 = some r) ∧ Aside0 (kq ≤ k) ∧ Aside0 (Kd.R (Kd.int .u8) 5 w' w.heap.size (fun _ => True) (.slice Ao7 y101.length co7) x5_1) ∧ Aside0 (Below w.heap.size w w'))
      case atStart => exact ⟨(y101), (0), (by first | rfl | (simp; done) | (simp [*]; done)), H', ⟨Nat.le_refl _⟩, ⟨by (with_reducible repeat (first | apply Kd.R_alloc | apply Kd.R_drewN | apply Kd.R_drew)); exact HO103.out⟩, ⟨by repeat (first | (with_reducible first | exact HB.out | apply below_alloc | apply pw_below_drewN | apply below_drew1) | exact HB.out)⟩⟩
      case round =>
        clear H'
        try clear p2
        try clear c3
        try clear c3b0
        try clear c3b1
        try clear c4
        try clear c4b0
        try clear c4b1
        obtain ⟨x5_1, x11_1, rfl, HA, HK1, HO_5, HB⟩ := hrel
        have hl5_1 := (Kd.R_reads' HO_5.out).1
        rw [hl5_1] at HO_5
        (try simp only [hl5_1])
        cases gk with
        | zero => exact absurd HA.out (by simp [wire_low.l0])
        | succ k1 =>
          have H := HA.out
          clear HA
          simp only [wire_low.l0] at H
          by_cases c8 : x11_1 < (y101.length : Int)
          · rw [if_pos c8] at H
            have c8b0 : decide (x11_1 < (y101.length : Int)) = true := decide_eq_true c8
            (try (have c8b0hl5_1x := c8b0; simp only [hl5_1] at c8b0hl5_1x))
            clear c8
            obtain ⟨ji9, hji9⟩ : ∃ j_ : Int, (IntKind.u64.wrap (wrap64 (8 * x11_1))) = j_ := ⟨_, rfl⟩
            replace H : (if 0 ≤ (ji9) then (if 0 ≤ x11_1 then (if x11_1 < (x5_1.length : Int) then (wire_low.l0 k1 a0 (x5_1.set (x11_1 : Int).toNat ((shr .i64 a0 (ji9)) % 256)) (y101.length : Int) (wrap64 (x11_1 + 1))) else (none)) else (none)) else (none)) = some r := by first | (rw [hji9] at H; exact H) | (simp only [hji9] at H ⊢; exact H)
            by_cases c10 : 0 ≤ (ji9)
            · rw [if_pos c10] at H
              have c10b0 := eq_true c10
              have c10b1 : decide (0 ≤ (ji9)) = true := decide_eq_true c10
              clear c10
              obtain ⟨ji11, hji11⟩ : ∃ j_ : Int, (shr .i64 a0 (ji9)) = j_ := ⟨_, rfl⟩
              replace H : (if 0 ≤ x11_1 then (if x11_1 < (x5_1.length : Int) then (wire_low.l0 k1 a0 (x5_1.set (x11_1 : Int).toNat ((ji11) % 256)) (y101.length : Int) (wrap64 (x11_1 + 1))) else (none)) else (none)) = some r := by first | (rw [hji11] at H; exact H) | (simp only [hji11] at H ⊢; exact H)
              have hji11_ : (a0 / 2 ^ min (ji9).toNat 64) = ji11 := hji11
              have hji11z : (ji9) ≤ 64 → (a0 / 2 ^ (ji9).toNat) = ji11 := shr_small hji11
              by_cases c12 : 0 ≤ x11_1
              · rw [if_pos c12] at H
                have c12b0 : decide (0 ≤ x11_1) = true := decide_eq_true c12
                clear c12
                by_cases c13 : x11_1 < (x5_1.length : Int)
                · rw [if_pos c13] at H
                  have c13b0 : decide (x11_1 < (x5_1.length : Int)) = true := decide_eq_true c13
                  (try (have c13b0hl5_1x := c13b0; simp only [hl5_1] at c13b0hl5_1x))
                  clear c13
                  obtain ⟨y104, hy104⟩ : ∃ y_ : List Int, y_ = (x5_1.set (x11_1 : Int).toNat ((ji11) % 256)) := ⟨_, rfl⟩
                  replace H : (wire_low.l0 k1 a0 y104 (y101.length : Int) (wrap64 (x11_1 + 1))) = some r := by first | (rw [hy104]; with_reducible exact H) | (have H2_ := (Option.bind_some _ _).symm.trans H; rw [hy104]; with_reducible exact H2_) | (have H2_ := (Option.bind_some _ _).symm.trans H; with_reducible exact H2_) | with_reducible exact H | (rw [hy104]; exact H) | exact H
                  have Ny104 := Aside0.mk hy104
                  clear hy104
                  have H' := Aside0.mk H
                  clear H
                  have p14 : 0 ≤ (x11_1 : Int) := of_decide_eq_true (by first | (with_reducible assumption) | assumption)
                  have q14 : (x11_1 : Int) < ((x5_1.length : Int) : Int) := of_decide_eq_true (by first | (with_reducible assumption) | assumption)
                  obtain ⟨go14, co14, eo14, gb14, gl14, cl14, HG14⟩ := Kd.R_form HO_5.out (by omega)
                  (first | cases eo14 | (injection eo14 with ea_ en_ ec_; (first | subst ea_ | (injection ea_ with ea_; subst ea_)); subst ec_; clear en_))
                  have GB14 := Aside0.mk gb14
                  have GG14 := Aside0.mk HG14
                  clear gb14 gl14 HG14
                  obtain ⟨hx14_0, hf14_0⟩ := Kd.R_celln 0 HO_5.out (x11_1 : Int) p14 q14
                  replace p14 := eq_true p14
                  replace q14 := eq_true q14
                  have HP15 := Kd.R_putg HO_5.out (x11_1 : Int) ((ji11) % 256)
                  go_wp2_with (first | ((with_reducible refine gate_store (t := 5) (p := 22) rfl ?_); refine store_event (t := 5) (p := 22) (v := ?vo_w16) (w1 := (wr.setCell ⟨go14, (x11_1 : Int).toNat, none⟩ (.int .u8 ((ji11) % 256)))) ?hg ?ho ?hn ?hr ?_; (case ho => rfl); (case hg => rfl); (case hn => rfl); (case hr => first | (go_simp; done) | (go_simp; rfl)); intro w16 hw; have hg : wr.grownBy w16 (some go14) := (by rw [hw]; exact HP15.2); have hp_ : Kd.R (Kd.int .u8) 5 w16 w.heap.size (fun _ => True) (.slice (some ⟨go14, 0, none⟩) x5_1.length co7) y104 := (by rw [hw, Ny104.out]; exact HP15.1); clear HP15; have n0_ := Aside0.mk (hp_); have n1_ := Aside0.mk ((by rw [hw]; exact below_set (HB.out) GB14.out : Below w.heap.size w w16)); clear HO_5; clear HB; have HO_5 := n0_; have HB := n1_; clear n0_ n1_; clear hg hw hp_))
                  (try simp only [← hl5_1])
                  go_roundg k1
                  case measure => have := HK1.out; omega
                  case rel => exact ⟨(y104), (wrap64 (x11_1 + 1)), (by first | rfl | (simp; done) | (simp [*]; done)), H', ⟨by have := HK1.out; omega⟩, ⟨by (try simp only [hl5_1]); (with_reducible repeat (first | apply Kd.R_alloc | apply Kd.R_drewN | apply Kd.R_drew)); exact HO_5.out⟩, ⟨by repeat (first | (with_reducible first | exact HB.out | apply below_alloc | apply pw_below_drewN | apply below_drew1) | exact HB.out)⟩⟩
                · rw [if_neg c13] at H
                  exact absurd H (by simp)
              · rw [if_neg c12] at H
                exact absurd H (by simp)
            · rw [if_neg c10] at H
              exact absurd H (by simp)
          · rw [if_neg c8] at H
            have c8b0 : decide (x11_1 < (y101.length : Int)) = false := decide_eq_false c8
            (try (have c8b0hl5_1x := c8b0; simp only [hl5_1] at c8b0hl5_1x))
            clear c8
            obtain rfl := Option.some.inj H
            go_wp2
            go_ret
            exact ⟨_, by first | rfl | (simp [errW_none, errW_some] <;> rfl) | (simp [*, errW_none, errW_some] <;> rfl), by (with_reducible repeat (first | apply Kd.R_alloc | apply Kd.R_drewN | apply Kd.R_drew)); exact HO_5.out, by repeat (first | (with_reducible first | exact HB.out | apply below_alloc | apply pw_below_drewN | apply below_drew1) | exact HB.out)⟩
    · rw [if_neg c4] at H
      exact absurd H (by simp)
  · rw [if_neg c3] at H
    exact absurd H (by simp)

/-! ### wire_join: function 82 -/
def wire_join.l0 : Nat → List Int → List (List Int) → Int → Int → Option (List Int)
  | 0, _, _, _, _ => none
  | k + 1, x3, x6, x7, x8 => if x8 < x7 then (if 0 ≤ x8 then (if x8 < (x6.length : Int) then (if x3.length + (rd_L1 x6 x8).length < 140737488355328 then (wire_join.l0 k (x3 ++ (rd_L1 x6 x8)) x6 x7 (wrap64 (x8 + 1))) else (none)) else (none)) else (none)) else (some x3)
def wire_join.f (k : Nat) (l0 : List (List Int)) : Option (List Int) := wire_join.l0 k ([] : List Int) l0 (l0.length : Int) 0
theorem wire_join.mono_l : ∀ k, (∀ y0 y1 y2 y3, LeO (wire_join.l0 k y0 y1 y2 y3) (wire_join.l0 (k + 1) y0 y1 y2 y3))
  | 0 => fun _ _ _ _ r h => by simp [wire_join.l0] at h
  | k + 1 => by
    have ih0 := wire_join.mono_l k
    · intro y0 y1 y2 y3
      unfold wire_join.l0
      repeat' first
      | (with_reducible exact ih0 _ _ _ _)
      | (with_reducible exact LeO.refl _)
      | (with_reducible exact LeO.none _)
      | (with_reducible refine LeO.ite ?_ ?_)
      | (with_reducible refine LeO.bind ?_ (fun _ => ?_))
      | exact ih0 _ _ _ _
      | exact LeO.none _
      | refine LeO.ite ?_ ?_
      | refine LeO.bind ?_ (fun _ => ?_)
theorem wire_join.mono : ∀ a0 k, LeO (wire_join.f k a0) (wire_join.f (k + 1) a0) := by
  intro a0 k
  have ih0 := wire_join.mono_l k
  unfold wire_join.f
  repeat' first
      | (with_reducible exact ih0 _ _ _ _)
      | (with_reducible exact LeO.refl _)
      | (with_reducible exact LeO.none _)
      | (with_reducible refine LeO.ite ?_ ?_)
      | (with_reducible refine LeO.bind ?_ (fun _ => ?_))
      | exact ih0 _ _ _ _
      | exact LeO.none _
      | refine LeO.ite ?_ ?_
      | refine LeO.bind ?_ (fun _ => ?_)
set_option maxHeartbeats 8000000 in
set_option maxRecDepth 100000 in
theorem wire_join.calls (k : Nat) (A0 : Option Addr) (c0 : Nat) (l0 : List (List Int)) (r : List Int) (w : World) (hr0 : Kd.C (Kd.slice 5 (Kd.int .u8)) w A0 l0.length l0) (hc0 : l0.length ≤ c0) (h : wire_join.f k l0 = some r) :
    Calls Try.prog 82 #[.slice A0 l0.length c0] w fun e w' => ∃ v0_ : Value, e = .returned (v0_) ∧ Kd.R (Kd.int .u8) 5 w' w.heap.size (fun _ => True) v0_ r ∧ Below w.heap.size w w' := by
  have HR0 := Aside0.mk hr0
  have HC0 := Aside0.mk hc0
  clear hr0 hc0
  have HB := Aside0.mk (Below.refl w.heap.size w)
  have H : (wire_join.l0 k ([] : List Int) l0 (l0.length : Int) 0) = some r := h
  clear h
  have H' := Aside0.mk H
  clear H
  go_enter Try.func82, Try.ntmps82
  go_wp2
  go_loopg [3, 8] k (fun kq v3 v8 w' => ∃ (x3_1 : List Int) (x8_1 : Int), v8 = .int .i64 x8_1 ∧ Aside0 (wire_join.l0 kq x3_1 l0 (l0.length : Int) x8_1 = some r) ∧ Aside0 (kq ≤ k) ∧ Aside0 (Kd.R (Kd.int .u8) 5 w' w.heap.size (fun _ => True) v3 x3_1) ∧ Aside0 (Below w.heap.size w w'))
  case atStart => exact ⟨(([] : List Int)), (0), (by first | rfl | (simp; done) | (simp [*]; done)), H', ⟨Nat.le_refl _⟩, ⟨by first | exact Kd.R_nil _ _ _ _ _ | exact Kd.N_nil _ _ _ _ _ | exact Kd.V_nil _ _ _ _ _ | exact Kd.Q_nil _ _ _ _ _ | exact Kd.S_nil _ _ _ _ _⟩, ⟨by repeat (first | (with_reducible first | exact HB.out | apply below_alloc | apply pw_below_drewN | apply below_drew1) | exact HB.out)⟩⟩
  case round =>
    clear H'
    obtain ⟨x3_1, x8_1, rfl, HA, HK1, HO_3, HB⟩ := hrel
    cases gk with
    | zero => exact absurd HA.out (by simp [wire_join.l0])
    | succ k1 =>
      have H := HA.out
      clear HA
      simp only [wire_join.l0] at H
      by_cases c2 : x8_1 < (l0.length : Int)
      · rw [if_pos c2] at H
        have c2b0 : decide (x8_1 < (l0.length : Int)) = true := decide_eq_true c2
        clear c2
        by_cases c3 : 0 ≤ x8_1
        · rw [if_pos c3] at H
          have c3b0 : decide (0 ≤ x8_1) = true := decide_eq_true c3
          clear c3
          by_cases c4 : x8_1 < (l0.length : Int)
          · rw [if_pos c4] at H
            have c4b0 : decide (x8_1 < (l0.length : Int)) = true := decide_eq_true c4
            clear c4
            by_cases c5 : x3_1.length + (rd_L1 l0 x8_1).length < 140737488355328
            · rw [if_pos c5] at H
              have LMc5 := Aside0.mk c5
              clear c5
              obtain ⟨y106, hy106⟩ : ∃ y_ : List Int, y_ = (x3_1 ++ (rd_L1 l0 x8_1)) := ⟨_, rfl⟩
              replace H : (wire_join.l0 k1 y106 l0 (l0.length : Int) (wrap64 (x8_1 + 1))) = some r := by first | (rw [hy106]; with_reducible exact H) | (have H2_ := (Option.bind_some _ _).symm.trans H; rw [hy106]; with_reducible exact H2_) | (have H2_ := (Option.bind_some _ _).symm.trans H; with_reducible exact H2_) | with_reducible exact H | (rw [hy106]; exact H) | exact H
              have Ny106 := Aside0.mk hy106
              clear hy106
              have H' := Aside0.mk H
              clear H
              have p105 : 0 ≤ (x8_1 : Int) := of_decide_eq_true (by first | (with_reducible assumption) | assumption)
              have q105 : x8_1 < (l0.length : Int) := of_decide_eq_true (by first | (with_reducible assumption) | assumption)
              obtain ⟨ad105, A105_0, c105_0, e105, hx105_0, hl105_0, hi105_0⟩ := at_L1 HR0.out x8_1 p105 q105
              cases e105
              replace hx105_0 := (HB.out.cell (World.block_lt_of_cell? w _ hx105_0)).trans hx105_0
              have HR105_0 := Aside0.mk hi105_0
              have HC105_0 := Aside0.mk hl105_0
              clear hi105_0 hl105_0
              replace p105 := eq_true p105
              replace q105 := eq_true q105
              go_wp2_with (first | ((with_reducible refine gate_builtin (b := .append) (xs := #[.tmp 12, .tmp 13]) rfl ?_); at_builtin; refine Kd.R_append_rows (Kd.int .u8) (w0 := w) w.heap.size rfl (.tmp 12) (.tmp 13) 64 5 (.int .u8 0) 1 rfl Try.underlying64 info5 rfl (by decide) (by omega) u3 x3_1 (rd_L1 l0 x8_1) _ _ _ (fun _ => True) (fun _ => False) rfl rfl ?aO ?aR (fun _ _ h => h) (fun _ h => h.elim) ?aF ?aB ?aS ?aL ?_; (case aR => repeat (first | exact (Kd.C_below HR105_0.out HB.out) | (with_reducible refine Kd.C_alloc ?_ _) | (with_reducible refine Kd.C_drewN ?_ _) | (with_reducible refine Kd.C_drew ?_))); (case aB => exact (by repeat (first | (with_reducible first | exact HB.out | apply below_alloc | apply pw_below_drewN | apply below_drew1) | exact HB.out))); (case aF => exact (fun _ _ => trivial)); (case aO => exact (by (with_reducible repeat (first | apply Kd.R_alloc | apply Kd.R_drewN | apply Kd.R_drew)); exact HO_3.out)); (case aS => exact (below_size (by repeat (first | (with_reducible first | exact HB.out | apply below_alloc | apply pw_below_drewN | apply below_drew1) | exact HB.out)))); (case aL => have := LMc5.out; omega); intro v107 w6 ho hb hg hat; rw [← Ny106.out] at ho; have n0_ := Aside0.mk (hb); have n1_ := Aside0.mk (ho); clear HB; clear HO_3; have HB := n0_; have HO108 := n1_; clear n0_ n1_; clear ho hb hg hat))
              go_roundg k1
              case measure => have := HK1.out; omega
              case rel => exact ⟨(y106), (wrap64 (x8_1 + 1)), (by first | rfl | (simp; done) | (simp [*]; done)), H', ⟨by have := HK1.out; omega⟩, ⟨by (with_reducible repeat (first | apply Kd.R_alloc | apply Kd.R_drewN | apply Kd.R_drew)); exact HO108.out⟩, ⟨by repeat (first | (with_reducible first | exact HB.out | apply below_alloc | apply pw_below_drewN | apply below_drew1) | exact HB.out)⟩⟩
            · rw [if_neg c5] at H
              exact absurd H (by simp)
          · rw [if_neg c4] at H
            exact absurd H (by simp)
        · rw [if_neg c3] at H
          exact absurd H (by simp)
      · rw [if_neg c2] at H
        have c2b0 : decide (x8_1 < (l0.length : Int)) = false := decide_eq_false c2
        clear c2
        obtain rfl := Option.some.inj H
        go_wp2
        go_ret
        exact ⟨_, by first | rfl | (simp [errW_none, errW_some] <;> rfl) | (simp [*, errW_none, errW_some] <;> rfl), by (with_reducible repeat (first | apply Kd.R_alloc | apply Kd.R_drewN | apply Kd.R_drew)); exact HO_3.out, by repeat (first | (with_reducible first | exact HB.out | apply below_alloc | apply pw_below_drewN | apply below_drew1) | exact HB.out)⟩

/-! ### wire_Put: function 47 -/
def wire_Put.j0 : Nat → Int → Int → Bool → Option (List Int × Int)
  | 0, _, _, _ => none
  | k + 1, x0, x1, x6 => if x6 = true then (some (([] : List Int), 1)) else (if x0 < 0 then (some (([] : List Int), 11)) else (if 0 ≤ (IntKind.u64.wrap (wrap64 (8 * x1))) then (if x0 ≥ (shl .i64 1 (IntKind.u64.wrap (wrap64 (8 * x1)))) then (some (([] : List Int), 11)) else ((wire_low.f k x0 x1).bind fun t109 => (some (t109, 0)))) else (none)))
def wire_Put.f (k : Nat) (a0 : Int) (a1 : Int) : Option (List Int × Int) := if a1 < 1 then (wire_Put.j0 k a0 a1 (decide (a1 < 1))) else (wire_Put.j0 k a0 a1 (decide (a1 > 6)))
theorem wire_Put.mono_l : ∀ k, (∀ y0 y1 y2, LeO (wire_Put.j0 k y0 y1 y2) (wire_Put.j0 (k + 1) y0 y1 y2))
  | 0 => fun _ _ _ r h => by simp [wire_Put.j0] at h
  | k + 1 => by
    have ih0 := wire_Put.mono_l k
    · intro y0 y1 y2
      unfold wire_Put.j0
      repeat' first
      | (with_reducible exact ih0 _ _ _)
      | (with_reducible exact wire_low.mono _ _ _)
      | (with_reducible exact LeO.refl _)
      | (with_reducible exact LeO.none _)
      | (with_reducible refine LeO.ite ?_ ?_)
      | (with_reducible refine LeO.bind ?_ (fun _ => ?_))
      | exact ih0 _ _ _
      | exact wire_low.mono _ _ _
      | exact LeO.none _
      | refine LeO.ite ?_ ?_
      | refine LeO.bind ?_ (fun _ => ?_)
theorem wire_Put.mono : ∀ a0 a1 k, LeO (wire_Put.f k a0 a1) (wire_Put.f (k + 1) a0 a1) := by
  intro a0 a1 k
  have ih0 := wire_Put.mono_l k
  unfold wire_Put.f
  repeat' first
      | (with_reducible exact ih0 _ _ _)
      | (with_reducible exact wire_low.mono _ _ _)
      | (with_reducible exact LeO.refl _)
      | (with_reducible exact LeO.none _)
      | (with_reducible refine LeO.ite ?_ ?_)
      | (with_reducible refine LeO.bind ?_ (fun _ => ?_))
      | exact ih0 _ _ _
      | exact wire_low.mono _ _ _
      | exact LeO.none _
      | refine LeO.ite ?_ ?_
      | refine LeO.bind ?_ (fun _ => ?_)
set_option maxHeartbeats 8000000 in
set_option maxRecDepth 100000 in
theorem wire_Put.calls (k : Nat) (a0 : Int) (a1 : Int) (r1 : List Int) (r2 : Int) (w : World) (h : wire_Put.f k a0 a1 = some (r1, r2)) :
    Calls Try.prog 47 #[.int .i64 a0, .int .i64 a1] w fun e w' => ∃ v0_ : Value, e = .returned (.tuple #[v0_, .int .i64 r2]) ∧ Kd.R (Kd.int .u8) 5 w' w.heap.size (fun _ => True) v0_ r1 ∧ Below w.heap.size w w' := by
  have HB := Aside0.mk (Below.refl w.heap.size w)
  have H : (if a1 < 1 then (wire_Put.j0 k a0 a1 (decide (a1 < 1))) else (wire_Put.j0 k a0 a1 (decide (a1 > 6)))) = some (r1, r2) := h
  clear h
  have HC3 := Aside0.mk H
  clear H
  go_enter Try.func47, Try.ntmps47
  go_upto_if 6 with (fail)
  go_cut [6] (fun v6 wc => ∃ (kq : Nat) (x6_2 : Bool), v6 = .bool x6_2 ∧ Aside0 (wire_Put.j0 kq a0 a1 x6_2 = some (r1, r2)) ∧ Aside0 (kq ≤ k) ∧ Aside0 (Below w.heap.size w wc))
  case first =>
    have H := HC3.out
    clear HC3
    by_cases c4 : a1 < 1
    · rw [if_pos c4] at H
      have c4b0 : decide (a1 < 1) = true := decide_eq_true c4
      clear c4
      (first | rw [c4b0] | (simp only [i64_w, i32_w]; rw [c4b0]) | skip)
      have H' := Aside0.mk H
      clear H
      go_wp2
      go_meet
      case rel => exact ⟨_, (decide (a1 < 1)), (by first | rfl | (simp; done) | (simp [*]; done)), H', ⟨by first | omega | exact Nat.le_refl _⟩, ⟨by repeat (first | (with_reducible first | exact HB.out | apply below_alloc | apply pw_below_drewN | apply below_drew1) | exact HB.out)⟩⟩
    · rw [if_neg c4] at H
      have c4b0 : decide (a1 < 1) = false := decide_eq_false c4
      clear c4
      (first | rw [c4b0] | (simp only [i64_w, i32_w]; rw [c4b0]) | skip)
      have H' := Aside0.mk H
      clear H
      go_wp2
      go_meet
      case rel => exact ⟨_, (decide (a1 > 6)), (by first | rfl | (simp; done) | (simp [*]; done)), H', ⟨by first | omega | exact Nat.le_refl _⟩, ⟨by repeat (first | (with_reducible first | exact HB.out | apply below_alloc | apply pw_below_drewN | apply below_drew1) | exact HB.out)⟩⟩
  case rest =>
    clear HC3
    try clear p2
    try clear c4
    try clear c4b0
    obtain ⟨kq, x6_2, rfl, HA, HJ2, HB⟩ := hcut
    cases kq with
    | zero => exact absurd HA.out (by simp [wire_Put.j0])
    | succ kj2 =>
      have H := HA.out
      clear HA
      simp only [wire_Put.j0] at H
      by_cases c5 : x6_2 = true
      · subst c5
        have H1 : (some (([] : List Int), 1)) = some (r1, r2) := by rw [if_pos rfl] at H; exact H
        clear H
        have H := H1
        clear H1
        simp only [Option.some.injEq, Prod.mk.injEq] at H
        obtain ⟨rfl, rfl⟩ := H
        go_wp2
        go_ret2
        exact ⟨_, by first | rfl | (simp [errW_none, errW_some] <;> rfl) | (simp [*, errW_none, errW_some] <;> rfl), by first | exact Kd.R_nil _ _ _ _ _ | exact Kd.N_nil _ _ _ _ _ | exact Kd.V_nil _ _ _ _ _ | exact Kd.Q_nil _ _ _ _ _ | exact Kd.S_nil _ _ _ _ _, by repeat (first | (with_reducible first | exact HB.out | apply below_alloc | apply pw_below_drewN | apply below_drew1) | exact HB.out)⟩
      · replace c5 := Bool.eq_false_iff.mpr c5
        subst c5
        have H1 : (if a0 < 0 then (some (([] : List Int), 11)) else (if 0 ≤ (IntKind.u64.wrap (wrap64 (8 * a1))) then (if a0 ≥ (shl .i64 1 (IntKind.u64.wrap (wrap64 (8 * a1)))) then (some (([] : List Int), 11)) else ((wire_low.f kj2 a0 a1).bind fun t109 => (some (t109, 0)))) else (none))) = some (r1, r2) := by rw [if_neg (show ¬ (false = true) by decide)] at H; exact H
        clear H
        have H := H1
        clear H1
        by_cases c6 : a0 < 0
        · rw [if_pos c6] at H
          have c6b0 : decide (a0 < 0) = true := decide_eq_true c6
          clear c6
          simp only [Option.some.injEq, Prod.mk.injEq] at H
          obtain ⟨rfl, rfl⟩ := H
          go_wp2
          go_ret2
          exact ⟨_, by first | rfl | (simp [errW_none, errW_some] <;> rfl) | (simp [*, errW_none, errW_some] <;> rfl), by first | exact Kd.R_nil _ _ _ _ _ | exact Kd.N_nil _ _ _ _ _ | exact Kd.V_nil _ _ _ _ _ | exact Kd.Q_nil _ _ _ _ _ | exact Kd.S_nil _ _ _ _ _, by repeat (first | (with_reducible first | exact HB.out | apply below_alloc | apply pw_below_drewN | apply below_drew1) | exact HB.out)⟩
        · rw [if_neg c6] at H
          have c6b0 : decide (a0 < 0) = false := decide_eq_false c6
          clear c6
          obtain ⟨ji7, hji7⟩ : ∃ j_ : Int, (IntKind.u64.wrap (wrap64 (8 * a1))) = j_ := ⟨_, rfl⟩
          replace H : (if 0 ≤ (ji7) then (if a0 ≥ (shl .i64 1 (ji7)) then (some (([] : List Int), 11)) else ((wire_low.f kj2 a0 a1).bind fun t109 => (some (t109, 0)))) else (none)) = some (r1, r2) := by first | (rw [hji7] at H; exact H) | (simp only [hji7] at H ⊢; exact H)
          by_cases c8 : 0 ≤ (ji7)
          · rw [if_pos c8] at H
            have c8b0 := eq_true c8
            have c8b1 : decide (0 ≤ (ji7)) = true := decide_eq_true c8
            clear c8
            obtain ⟨ji9, hji9⟩ : ∃ j_ : Int, (shl .i64 1 (ji7)) = j_ := ⟨_, rfl⟩
            replace H : (if a0 ≥ (ji9) then (some (([] : List Int), 11)) else ((wire_low.f kj2 a0 a1).bind fun t109 => (some (t109, 0)))) = some (r1, r2) := by first | (rw [hji9] at H; exact H) | (simp only [hji9] at H ⊢; exact H)
            have hji9_ : (IntKind.i64.wrap (1 * 2 ^ min (ji7).toNat 64)) = ji9 := hji9
            have hji9z : (ji7) ≤ 64 → (IntKind.i64.wrap (1 * 2 ^ (ji7).toNat)) = ji9 := shl_small hji9
            have hji9u : (IntKind.i64.wrap (2 ^ min (ji7).toNat 64)) = ji9 := by have h_ := hji9_; rw [Int.one_mul] at h_; exact h_
            have hji9v : (ji7) ≤ 64 → (IntKind.i64.wrap (2 ^ (ji7).toNat)) = ji9 := fun hle_ => by have h_ := hji9z hle_; rw [Int.one_mul] at h_; exact h_
            have hji9y : (wrap64 (1 * 2 ^ min (ji7).toNat 64)) = ji9 := (i64_w _).symm.trans hji9_
            have hji9x : (ji7) ≤ 64 → (wrap64 (1 * 2 ^ (ji7).toNat)) = ji9 := fun h_ => (i64_w _).symm.trans (hji9z h_)
            by_cases c10 : a0 ≥ (ji9)
            · rw [if_pos c10] at H
              have c10b0 : decide ((ji9) ≤ a0) = true := decide_eq_true c10
              clear c10
              simp only [Option.some.injEq, Prod.mk.injEq] at H
              obtain ⟨rfl, rfl⟩ := H
              go_wp2
              go_ret2
              exact ⟨_, by first | rfl | (simp [errW_none, errW_some] <;> rfl) | (simp only [← hji7, ← hji9]; first | rfl | (simp [errW_none, errW_some] <;> rfl)) | (simp [*, errW_none, errW_some] <;> rfl), by first | exact Kd.R_nil _ _ _ _ _ | exact Kd.N_nil _ _ _ _ _ | exact Kd.V_nil _ _ _ _ _ | exact Kd.Q_nil _ _ _ _ _ | exact Kd.S_nil _ _ _ _ _, by repeat (first | (with_reducible first | exact HB.out | apply below_alloc | apply pw_below_drewN | apply below_drew1) | exact HB.out)⟩
            · rw [if_neg c10] at H
              have c10b0 : decide ((ji9) ≤ a0) = false := decide_eq_false c10
              clear c10
              replace H := Option.bind_eq_some_iff.mp H
              obtain ⟨t109, A110, H⟩ := H
              replace H : (some (t109, 0)) = some (r1, r2) := H
              have A11 := Aside0.mk A110
              clear A110
              simp only [Option.some.injEq, Prod.mk.injEq] at H
              obtain ⟨rfl, rfl⟩ := H
              go_wp2_with (first | ((with_reducible refine gate_callee (f := 81) rfl ?_); refine goesL_ (some 22) rfl rfl Try.func81 (by kernel_rfl) rfl #[.int .i64 a0, .int .i64 a1] rfl (by (try simp only [List.map_toArray, List.map_cons, List.map_nil]); first | done | rfl | (simp only [List.length_drop, List.length_take]; rfl)) ?_; (with_reducible refine (wire_low.calls kj2 a0 a1 t109 _ A11.out).mono ?_); rintro e w12 ⟨v110, rfl, ho0, hb⟩; refine ⟨_, rfl, ?_⟩; have n0_ := Aside0.mk (Kd.R_lower ho0 (below_size (by repeat (first | (with_reducible first | exact HB.out | apply below_alloc | apply pw_below_drewN | apply below_drew1) | exact HB.out)))); have n1_ := Aside0.mk (below_step (by repeat (first | (with_reducible first | exact HB.out | apply below_alloc | apply pw_below_drewN | apply below_drew1) | exact HB.out)) hb); clear HB; have HO111 := n0_; have HB := n1_; clear n0_ n1_; (try clear hb); (try clear hb2); (try clear hk); (try clear hi); (try clear ho0)))
              go_ret2
              exact ⟨_, by first | rfl | (simp [errW_none, errW_some] <;> rfl) | (simp only [← hji7, ← hji9]; first | rfl | (simp [errW_none, errW_some] <;> rfl)) | (simp [*, errW_none, errW_some] <;> rfl), by (with_reducible repeat (first | apply Kd.R_alloc | apply Kd.R_drewN | apply Kd.R_drew)); exact HO111.out, by repeat (first | (with_reducible first | exact HB.out | apply below_alloc | apply pw_below_drewN | apply below_drew1) | exact HB.out)⟩
          · rw [if_neg c8] at H
            exact absurd H (by simp)

/-! ### gazetteref01_Bytes: function 86 -/
def gazetteref01_Bytes.l0 : Nat → Int → Int → List Int → Int → Option (List Int)
  | 0, _, _, _, _ => none
  | k + 1, x0, x1, x5, x6 => if x6 < x1 then (if 0 ≤ (IntKind.u64.wrap (wrap64 (8 * x6))) then (if x5.length < 140737488355328 then (gazetteref01_Bytes.l0 k x0 x1 (x5 ++ [(shr .i64 x0 (IntKind.u64.wrap (wrap64 (8 * x6)))) % 256]) (wrap64 (x6 + 1))) else (none)) else (none)) else (some x5)
def gazetteref01_Bytes.f (k : Nat) (a0 : Int) (a1 : Int) : Option (List Int) := gazetteref01_Bytes.l0 k a0 a1 ([] : List Int) 0
theorem gazetteref01_Bytes.mono_l : ∀ k, (∀ y0 y1 y2 y3, LeO (gazetteref01_Bytes.l0 k y0 y1 y2 y3) (gazetteref01_Bytes.l0 (k + 1) y0 y1 y2 y3))
  | 0 => fun _ _ _ _ r h => by simp [gazetteref01_Bytes.l0] at h
  | k + 1 => by
    have ih0 := gazetteref01_Bytes.mono_l k
    · intro y0 y1 y2 y3
      unfold gazetteref01_Bytes.l0
      repeat' first
      | (with_reducible exact ih0 _ _ _ _)
      | (with_reducible exact LeO.refl _)
      | (with_reducible exact LeO.none _)
      | (with_reducible refine LeO.ite ?_ ?_)
      | (with_reducible refine LeO.bind ?_ (fun _ => ?_))
      | exact ih0 _ _ _ _
      | exact LeO.none _
      | refine LeO.ite ?_ ?_
      | refine LeO.bind ?_ (fun _ => ?_)
theorem gazetteref01_Bytes.mono : ∀ a0 a1 k, LeO (gazetteref01_Bytes.f k a0 a1) (gazetteref01_Bytes.f (k + 1) a0 a1) := by
  intro a0 a1 k
  have ih0 := gazetteref01_Bytes.mono_l k
  unfold gazetteref01_Bytes.f
  repeat' first
      | (with_reducible exact ih0 _ _ _ _)
      | (with_reducible exact LeO.refl _)
      | (with_reducible exact LeO.none _)
      | (with_reducible refine LeO.ite ?_ ?_)
      | (with_reducible refine LeO.bind ?_ (fun _ => ?_))
      | exact ih0 _ _ _ _
      | exact LeO.none _
      | refine LeO.ite ?_ ?_
      | refine LeO.bind ?_ (fun _ => ?_)
set_option maxHeartbeats 8000000 in
set_option maxRecDepth 100000 in
theorem gazetteref01_Bytes.calls (k : Nat) (a0 : Int) (a1 : Int) (r : List Int) (w : World) (h : gazetteref01_Bytes.f k a0 a1 = some r) :
    Calls Try.prog 86 #[.int .i64 a0, .int .i64 a1] w fun e w' => ∃ v0_ : Value, e = .returned (v0_) ∧ Kd.R (Kd.int .u8) 5 w' w.heap.size (fun _ => True) v0_ r ∧ Below w.heap.size w w' := by
  have HB := Aside0.mk (Below.refl w.heap.size w)
  have H : (gazetteref01_Bytes.l0 k a0 a1 ([] : List Int) 0) = some r := h
  clear h
  have H' := Aside0.mk H
  clear H
  go_enter Try.func86, Try.ntmps86
  go_wp2
  go_loopg [5, 6] k (fun kq v5 v6 w' => ∃ (x5_1 : List Int) (x6_1 : Int), v6 = .int .i64 x6_1 ∧ Aside0 (gazetteref01_Bytes.l0 kq a0 a1 x5_1 x6_1 = some r) ∧ Aside0 (kq ≤ k) ∧ Aside0 (Kd.R (Kd.int .u8) 5 w' w.heap.size (fun _ => True) v5 x5_1) ∧ Aside0 (Below w.heap.size w w'))
  case atStart => exact ⟨(([] : List Int)), (0), (by first | rfl | (simp; done) | (simp [*]; done)), H', ⟨Nat.le_refl _⟩, ⟨by first | exact Kd.R_nil _ _ _ _ _ | exact Kd.N_nil _ _ _ _ _ | exact Kd.V_nil _ _ _ _ _ | exact Kd.Q_nil _ _ _ _ _ | exact Kd.S_nil _ _ _ _ _⟩, ⟨by repeat (first | (with_reducible first | exact HB.out | apply below_alloc | apply pw_below_drewN | apply below_drew1) | exact HB.out)⟩⟩
  case round =>
    clear H'
    try clear p2
    obtain ⟨x5_1, x6_1, rfl, HA, HK1, HO_5, HB⟩ := hrel
    cases gk with
    | zero => exact absurd HA.out (by simp [gazetteref01_Bytes.l0])
    | succ k1 =>
      have H := HA.out
      clear HA
      simp only [gazetteref01_Bytes.l0] at H
      by_cases c3 : x6_1 < a1
      · rw [if_pos c3] at H
        have c3b0 : decide (x6_1 < a1) = true := decide_eq_true c3
        clear c3
        obtain ⟨ji4, hji4⟩ : ∃ j_ : Int, (IntKind.u64.wrap (wrap64 (8 * x6_1))) = j_ := ⟨_, rfl⟩
        replace H : (if 0 ≤ (ji4) then (if x5_1.length < 140737488355328 then (gazetteref01_Bytes.l0 k1 a0 a1 (x5_1 ++ [(shr .i64 a0 (ji4)) % 256]) (wrap64 (x6_1 + 1))) else (none)) else (none)) = some r := by first | (rw [hji4] at H; exact H) | (simp only [hji4] at H ⊢; exact H)
        by_cases c5 : 0 ≤ (ji4)
        · rw [if_pos c5] at H
          have c5b0 := eq_true c5
          have c5b1 : decide (0 ≤ (ji4)) = true := decide_eq_true c5
          clear c5
          obtain ⟨ji6, hji6⟩ : ∃ j_ : Int, (shr .i64 a0 (ji4)) = j_ := ⟨_, rfl⟩
          replace H : (if x5_1.length < 140737488355328 then (gazetteref01_Bytes.l0 k1 a0 a1 (x5_1 ++ [(ji6) % 256]) (wrap64 (x6_1 + 1))) else (none)) = some r := by first | (rw [hji6] at H; exact H) | (simp only [hji6] at H ⊢; exact H)
          have hji6_ : (a0 / 2 ^ min (ji4).toNat 64) = ji6 := hji6
          have hji6z : (ji4) ≤ 64 → (a0 / 2 ^ (ji4).toNat) = ji6 := shr_small hji6
          by_cases c7 : x5_1.length < 140737488355328
          · rw [if_pos c7] at H
            have LMc7 := Aside0.mk c7
            clear c7
            obtain ⟨y112, hy112⟩ : ∃ y_ : List Int, y_ = (x5_1 ++ [(ji6) % 256]) := ⟨_, rfl⟩
            replace H : (gazetteref01_Bytes.l0 k1 a0 a1 y112 (wrap64 (x6_1 + 1))) = some r := by first | (rw [hy112]; with_reducible exact H) | (have H2_ := (Option.bind_some _ _).symm.trans H; rw [hy112]; with_reducible exact H2_) | (have H2_ := (Option.bind_some _ _).symm.trans H; with_reducible exact H2_) | with_reducible exact H | (rw [hy112]; exact H) | exact H
            have Ny112 := Aside0.mk hy112
            clear hy112
            have H' := Aside0.mk H
            clear H
            go_wp2_with (first | ((with_reducible refine gate_builtin (b := .append) (xs := #[.tmp 12, .tmp 19]) rfl ?_); at_builtin; refine Kd.R_append (Kd.int .u8) (w0 := w) w.heap.size rfl (.tmp 12) (.tmp 19) 64 5 (.int .u8 0) 1 rfl Try.underlying64 info5 rfl (by decide) (by omega) u5 x5_1 ((ji6) % 256) [.int .u8 ((ji6) % 256)] (fun _ => True) (fun _ => False) rfl rfl ?aP (fun _ hk => hk.elim) ?aF ?aO ?aB ?aS ?aL ?_; (case aP => exact rfl); (case aB => exact (by repeat (first | (with_reducible first | exact HB.out | apply below_alloc | apply pw_below_drewN | apply below_drew1) | exact HB.out))); (case aF => exact (fun _ _ => trivial)); (case aO => exact (by (with_reducible repeat (first | apply Kd.R_alloc | apply Kd.R_drewN | apply Kd.R_drew)); exact HO_5.out)); (case aS => exact (below_size (by repeat (first | (with_reducible first | exact HB.out | apply below_alloc | apply pw_below_drewN | apply below_drew1) | exact HB.out)))); (case aL => have := LMc7.out; omega); intro v113 w8 ho hb hg hat; rw [← Ny112.out] at ho; have n0_ := Aside0.mk (hb); have n1_ := Aside0.mk (ho); clear HB; clear HO_5; have HB := n0_; have HO114 := n1_; clear n0_ n1_; clear ho hb hg hat))
            go_roundg k1
            case measure => have := HK1.out; omega
            case rel => exact ⟨(y112), (wrap64 (x6_1 + 1)), (by first | rfl | (simp; done) | (simp [*]; done)), H', ⟨by have := HK1.out; omega⟩, ⟨by (with_reducible repeat (first | apply Kd.R_alloc | apply Kd.R_drewN | apply Kd.R_drew)); exact HO114.out⟩, ⟨by repeat (first | (with_reducible first | exact HB.out | apply below_alloc | apply pw_below_drewN | apply below_drew1) | exact HB.out)⟩⟩
          · rw [if_neg c7] at H
            exact absurd H (by simp)
        · rw [if_neg c5] at H
          exact absurd H (by simp)
      · rw [if_neg c3] at H
        have c3b0 : decide (x6_1 < a1) = false := decide_eq_false c3
        clear c3
        obtain rfl := Option.some.inj H
        go_wp2
        go_ret
        exact ⟨_, by first | rfl | (simp [errW_none, errW_some] <;> rfl) | (simp [*, errW_none, errW_some] <;> rfl), by (with_reducible repeat (first | apply Kd.R_alloc | apply Kd.R_drewN | apply Kd.R_drew)); exact HO_5.out, by repeat (first | (with_reducible first | exact HB.out | apply below_alloc | apply pw_below_drewN | apply below_drew1) | exact HB.out)⟩

/-! ### gazetteref01_Get: function 56 -/
mutual
def gazetteref01_Get.j0 : Nat → List Int → Int → Int → Bool → Option (Int × Int × Int)
  | 0, _, _, _, _ => none
  | k + 1, x0, x1, x2, x20 => if x20 = true then (some (0, 0, 1)) else (if x1 > (x0.length : Int) then (gazetteref01_Get.j1 k x0 x1 x2 true) else (gazetteref01_Get.j1 k x0 x1 x2 (decide (x2 > (wrap64 ((x0.length : Int) - x1))))))
def gazetteref01_Get.j1 : Nat → List Int → Int → Int → Bool → Option (Int × Int × Int)
  | 0, _, _, _, _ => none
  | k + 1, x0, x1, x2, x32 => if x32 = true then (some (0, 0, 20)) else (gazetteref01_Get.l0 k x0 x1 x2 0 0)
def gazetteref01_Get.l0 : Nat → List Int → Int → Int → Int → Int → Option (Int × Int × Int)
  | 0, _, _, _, _, _ => none
  | k + 1, x0, x1, x2, x9, x10 => if x10 < x2 then (if 0 ≤ (wrap64 (x1 + x10)) then (if (wrap64 (x1 + x10)) < (x0.length : Int) then (if 0 ≤ (IntKind.u64.wrap (wrap64 (8 * x10))) then (gazetteref01_Get.l0 k x0 x1 x2 (wrap64 (x9 + (shl .i64 (wrap64 (rd x0 (wrap64 (x1 + x10)))) (IntKind.u64.wrap (wrap64 (8 * x10)))))) (wrap64 (x10 + 1))) else (none)) else (none)) else (none)) else (some (x9, wrap64 (x1 + x2), 0))
end
def gazetteref01_Get.f (k : Nat) (l0 : List Int) (a1 : Int) (a2 : Int) : Option (Int × Int × Int) := if a2 < 1 then (gazetteref01_Get.j0 k l0 a1 a2 true) else (if a2 > 6 then (gazetteref01_Get.j0 k l0 a1 a2 true) else (gazetteref01_Get.j0 k l0 a1 a2 (decide (a1 < 0))))
theorem gazetteref01_Get.mono_l : ∀ k, (∀ y0 y1 y2 y3, LeO (gazetteref01_Get.j0 k y0 y1 y2 y3) (gazetteref01_Get.j0 (k + 1) y0 y1 y2 y3)) ∧ (∀ y0 y1 y2 y3, LeO (gazetteref01_Get.j1 k y0 y1 y2 y3) (gazetteref01_Get.j1 (k + 1) y0 y1 y2 y3)) ∧ (∀ y0 y1 y2 y3 y4, LeO (gazetteref01_Get.l0 k y0 y1 y2 y3 y4) (gazetteref01_Get.l0 (k + 1) y0 y1 y2 y3 y4))
  | 0 => ⟨fun _ _ _ _ r h => by simp [gazetteref01_Get.j0] at h, fun _ _ _ _ r h => by simp [gazetteref01_Get.j1] at h, fun _ _ _ _ _ r h => by simp [gazetteref01_Get.l0] at h⟩
  | k + 1 => by
    obtain ⟨ih0, ih1, ih2⟩ := gazetteref01_Get.mono_l k
    refine ⟨?_, ?_, ?_⟩
    · intro y0 y1 y2 y3
      unfold gazetteref01_Get.j0
      repeat' first
      | (with_reducible exact ih0 _ _ _ _)
      | (with_reducible exact ih1 _ _ _ _)
      | (with_reducible exact ih2 _ _ _ _ _)
      | (with_reducible exact LeO.refl _)
      | (with_reducible exact LeO.none _)
      | (with_reducible refine LeO.ite ?_ ?_)
      | (with_reducible refine LeO.bind ?_ (fun _ => ?_))
      | exact ih0 _ _ _ _
      | exact ih1 _ _ _ _
      | exact ih2 _ _ _ _ _
      | exact LeO.none _
      | refine LeO.ite ?_ ?_
      | refine LeO.bind ?_ (fun _ => ?_)
    · intro y0 y1 y2 y3
      unfold gazetteref01_Get.j1
      repeat' first
      | (with_reducible exact ih0 _ _ _ _)
      | (with_reducible exact ih1 _ _ _ _)
      | (with_reducible exact ih2 _ _ _ _ _)
      | (with_reducible exact LeO.refl _)
      | (with_reducible exact LeO.none _)
      | (with_reducible refine LeO.ite ?_ ?_)
      | (with_reducible refine LeO.bind ?_ (fun _ => ?_))
      | exact ih0 _ _ _ _
      | exact ih1 _ _ _ _
      | exact ih2 _ _ _ _ _
      | exact LeO.none _
      | refine LeO.ite ?_ ?_
      | refine LeO.bind ?_ (fun _ => ?_)
    · intro y0 y1 y2 y3 y4
      unfold gazetteref01_Get.l0
      repeat' first
      | (with_reducible exact ih0 _ _ _ _)
      | (with_reducible exact ih1 _ _ _ _)
      | (with_reducible exact ih2 _ _ _ _ _)
      | (with_reducible exact LeO.refl _)
      | (with_reducible exact LeO.none _)
      | (with_reducible refine LeO.ite ?_ ?_)
      | (with_reducible refine LeO.bind ?_ (fun _ => ?_))
      | exact ih0 _ _ _ _
      | exact ih1 _ _ _ _
      | exact ih2 _ _ _ _ _
      | exact LeO.none _
      | refine LeO.ite ?_ ?_
      | refine LeO.bind ?_ (fun _ => ?_)
theorem gazetteref01_Get.mono : ∀ a0 a1 a2 k, LeO (gazetteref01_Get.f k a0 a1 a2) (gazetteref01_Get.f (k + 1) a0 a1 a2) := by
  intro a0 a1 a2 k
  obtain ⟨ih0, ih1, ih2⟩ := gazetteref01_Get.mono_l k
  unfold gazetteref01_Get.f
  repeat' first
      | (with_reducible exact ih0 _ _ _ _)
      | (with_reducible exact ih1 _ _ _ _)
      | (with_reducible exact ih2 _ _ _ _ _)
      | (with_reducible exact LeO.refl _)
      | (with_reducible exact LeO.none _)
      | (with_reducible refine LeO.ite ?_ ?_)
      | (with_reducible refine LeO.bind ?_ (fun _ => ?_))
      | exact ih0 _ _ _ _
      | exact ih1 _ _ _ _
      | exact ih2 _ _ _ _ _
      | exact LeO.none _
      | refine LeO.ite ?_ ?_
      | refine LeO.bind ?_ (fun _ => ?_)
set_option maxHeartbeats 8000000 in
set_option maxRecDepth 100000 in
theorem gazetteref01_Get.calls (k : Nat) (A0 : Option Addr) (c0 : Nat) (l0 : List Int) (a1 : Int) (a2 : Int) (r1 : Int) (r2 : Int) (r3 : Int) (w : World) (hr0 : Kd.C (Kd.int .u8) w A0 l0.length l0) (hc0 : l0.length ≤ c0) (h : gazetteref01_Get.f k l0 a1 a2 = some (r1, r2, r3)) :
    Calls Try.prog 56 #[.slice A0 l0.length c0, .int .i64 a1, .int .i64 a2] w fun e w' => e = .returned (.tuple #[.int .i64 r1, .int .i64 r2, .int .i64 r3]) ∧ Drawn0 w w' := by
  have HR0 := Aside0.mk hr0
  have HC0 := Aside0.mk hc0
  clear hr0 hc0
  have H : (if a2 < 1 then (gazetteref01_Get.j0 k l0 a1 a2 true) else (if a2 > 6 then (gazetteref01_Get.j0 k l0 a1 a2 true) else (gazetteref01_Get.j0 k l0 a1 a2 (decide (a1 < 0))))) = some (r1, r2, r3) := h
  clear h
  have HC4 := Aside0.mk H
  clear H
  go_enter Try.func56, Try.ntmps56
  go_upto_region 1 with (fail)
  go_cut [20] (fun v20 wc => ∃ (kq : Nat) (x20_3 : Bool), v20 = .bool x20_3 ∧ Aside0 (gazetteref01_Get.j0 kq l0 a1 a2 x20_3 = some (r1, r2, r3)) ∧ Aside0 (kq ≤ k) ∧ Drawn0 w wc)
  case first =>
    have H := HC4.out
    clear HC4
    by_cases c5 : a2 < 1
    · rw [if_pos c5] at H
      have c5b0 : decide (a2 < 1) = true := decide_eq_true c5
      clear c5
      (first | rw [c5b0] | (simp only [i64_w, i32_w]; rw [c5b0]) | skip)
      have H' := Aside0.mk H
      clear H
      go_wp2
      go_meet
      case rel => exact ⟨_, (true), (by first | rfl | (simp; done) | (simp [*]; done)), H', ⟨by first | omega | exact Nat.le_refl _⟩, by repeat (first | exact Drawn0.refl _ | apply Drawn0.step)⟩
    · rw [if_neg c5] at H
      have c5b0 : decide (a2 < 1) = false := decide_eq_false c5
      clear c5
      (first | rw [c5b0] | (simp only [i64_w, i32_w]; rw [c5b0]) | skip)
      by_cases c6 : a2 > 6
      · rw [if_pos c6] at H
        have c6b0 : decide (6 < a2) = true := decide_eq_true c6
        clear c6
        have H' := Aside0.mk H
        clear H
        go_wp2
        go_meet
        case rel => exact ⟨_, (true), (by first | rfl | (simp; done) | (simp [*]; done)), H', ⟨by first | omega | exact Nat.le_refl _⟩, by repeat (first | exact Drawn0.refl _ | apply Drawn0.step)⟩
      · rw [if_neg c6] at H
        have c6b0 : decide (6 < a2) = false := decide_eq_false c6
        clear c6
        have H' := Aside0.mk H
        clear H
        go_wp2
        go_meet
        case rel => exact ⟨_, (decide (a1 < 0)), (by first | rfl | (simp; done) | (simp [*]; done)), H', ⟨by first | omega | exact Nat.le_refl _⟩, by repeat (first | exact Drawn0.refl _ | apply Drawn0.step)⟩
  case rest =>
    clear HC4
    try clear p2
    try clear c5
    try clear c5b0
    try clear c6
    try clear c6b0
    obtain ⟨kq, x20_3, rfl, HA, HJ3, ⟨mc3, rfl⟩⟩ := hcut
    cases kq with
    | zero => exact absurd HA.out (by simp [gazetteref01_Get.j0])
    | succ kj3 =>
      have H := HA.out
      clear HA
      simp only [gazetteref01_Get.j0] at H
      by_cases c7 : x20_3 = true
      · subst c7
        have H1 : (some (0, 0, 1)) = some (r1, r2, r3) := by rw [if_pos rfl] at H; exact H
        clear H
        have H := H1
        clear H1
        simp only [Option.some.injEq, Prod.mk.injEq] at H
        obtain ⟨rfl, rfl, rfl⟩ := H
        go_wp2
        go_ret3
        exact ⟨by first | rfl | (simp; done) | (simp [*]; done), by repeat (first | exact Drawn0.refl _ | apply Drawn0.step)⟩
      · replace c7 := Bool.eq_false_iff.mpr c7
        subst c7
        have H1 : (if a1 > (l0.length : Int) then (gazetteref01_Get.j1 kj3 l0 a1 a2 true) else (gazetteref01_Get.j1 kj3 l0 a1 a2 (decide (a2 > (wrap64 ((l0.length : Int) - a1)))))) = some (r1, r2, r3) := by rw [if_neg (show ¬ (false = true) by decide)] at H; exact H
        clear H
        have H := H1
        clear H1
        have HC8 := Aside0.mk H
        clear H
        go_upto_region 3 with (fail)
        go_cut [32] (fun v32 wc => ∃ (kq : Nat) (x32_7 : Bool), v32 = .bool x32_7 ∧ Aside0 (gazetteref01_Get.j1 kq l0 a1 a2 x32_7 = some (r1, r2, r3)) ∧ Aside0 (kq ≤ kj3) ∧ Drawn0 w wc)
        case first =>
          have H := HC8.out
          clear HC8
          by_cases c9 : a1 > (l0.length : Int)
          · rw [if_pos c9] at H
            have c9b0 : decide ((l0.length : Int) < a1) = true := decide_eq_true c9
            clear c9
            (first | rw [c9b0] | (simp only [i64_w, i32_w]; rw [c9b0]) | skip)
            have H' := Aside0.mk H
            clear H
            go_wp2
            go_meet
            case rel => exact ⟨_, (true), (by first | rfl | (simp; done) | (simp [*]; done)), H', ⟨by have := HJ3.out; first | omega | exact Nat.le_refl _⟩, by repeat (first | exact Drawn0.refl _ | apply Drawn0.step)⟩
          · rw [if_neg c9] at H
            have c9b0 : decide ((l0.length : Int) < a1) = false := decide_eq_false c9
            clear c9
            (first | rw [c9b0] | (simp only [i64_w, i32_w]; rw [c9b0]) | skip)
            have H' := Aside0.mk H
            clear H
            go_wp2
            go_meet
            case rel => exact ⟨_, (decide (a2 > (wrap64 ((l0.length : Int) - a1)))), (by first | rfl | (simp; done) | (simp [*]; done)), H', ⟨by have := HJ3.out; first | omega | exact Nat.le_refl _⟩, by repeat (first | exact Drawn0.refl _ | apply Drawn0.step)⟩
        case rest =>
          clear HC8
          try clear p2
          try clear c3
          try clear c5
          try clear c5b0
          try clear c6
          try clear c6b0
          try clear p6
          try clear c7
          try clear c9
          try clear c9b0
          try clear p2
          obtain ⟨kq, x32_7, rfl, HA, HJ7, ⟨mc7, rfl⟩⟩ := hcut
          cases kq with
          | zero => exact absurd HA.out (by simp [gazetteref01_Get.j1])
          | succ kj7 =>
            have H := HA.out
            clear HA
            simp only [gazetteref01_Get.j1] at H
            by_cases c10 : x32_7 = true
            · subst c10
              have H1 : (some (0, 0, 20)) = some (r1, r2, r3) := by rw [if_pos rfl] at H; exact H
              clear H
              have H := H1
              clear H1
              simp only [Option.some.injEq, Prod.mk.injEq] at H
              obtain ⟨rfl, rfl, rfl⟩ := H
              go_wp2
              go_ret3
              exact ⟨by first | rfl | (simp; done) | (simp [*]; done), by repeat (first | exact Drawn0.refl _ | apply Drawn0.step)⟩
            · replace c10 := Bool.eq_false_iff.mpr c10
              subst c10
              have H1 : (gazetteref01_Get.l0 kj7 l0 a1 a2 0 0) = some (r1, r2, r3) := by rw [if_neg (show ¬ (false = true) by decide)] at H; exact H
              clear H
              have H := H1
              clear H1
              have H' := Aside0.mk H
              clear H
              go_wp2
              go_loopg [9, 10] kj7 (fun kq v9 v10 w' => ∃ (x9_3 : Int) (x10_3 : Int), v9 = .int .i64 x9_3 ∧ v10 = .int .i64 x10_3 ∧ Aside0 (gazetteref01_Get.l0 kq l0 a1 a2 x9_3 x10_3 = some (r1, r2, r3)) ∧ Aside0 (kq ≤ kj7) ∧ Drawn0 w w')
              case atStart => exact ⟨(0), (0), (by first | rfl | (simp; done) | (simp [*]; done)), (by first | rfl | (simp; done) | (simp [*]; done)), H', ⟨Nat.le_refl _⟩, by repeat (first | exact Drawn0.refl _ | apply Drawn0.step)⟩
              case round =>
                clear H'
                try clear c1
                try clear p2
                try clear c3
                try clear c5
                try clear c5b0
                try clear c6
                try clear c6b0
                try clear p6
                try clear c7
                try clear c9
                try clear c9b0
                try clear c10
                try clear p2
                try clear p6
                obtain ⟨x9_3, x10_3, rfl, rfl, HA, HK3, ⟨m3, rfl⟩⟩ := hrel
                cases gk with
                | zero => exact absurd HA.out (by simp [gazetteref01_Get.l0])
                | succ k3 =>
                  have H := HA.out
                  clear HA
                  simp only [gazetteref01_Get.l0] at H
                  by_cases c11 : x10_3 < a2
                  · rw [if_pos c11] at H
                    have c11b0 : decide (x10_3 < a2) = true := decide_eq_true c11
                    clear c11
                    obtain ⟨ji12, hji12⟩ : ∃ j_ : Int, (wrap64 (a1 + x10_3)) = j_ := ⟨_, rfl⟩
                    replace H : (if 0 ≤ (ji12) then (if (ji12) < (l0.length : Int) then (if 0 ≤ (IntKind.u64.wrap (wrap64 (8 * x10_3))) then (gazetteref01_Get.l0 k3 l0 a1 a2 (wrap64 (x9_3 + (shl .i64 (wrap64 (rd l0 (ji12))) (IntKind.u64.wrap (wrap64 (8 * x10_3)))))) (wrap64 (x10_3 + 1))) else (none)) else (none)) else (none)) = some (r1, r2, r3) := by first | (rw [hji12] at H; exact H) | (simp only [hji12] at H ⊢; exact H)
                    have hji12w : (IntKind.i64.wrap (a1 + x10_3)) = ji12 := (i64_w _).trans hji12
                    by_cases c13 : 0 ≤ (ji12)
                    · rw [if_pos c13] at H
                      have c13b0 : decide (0 ≤ (ji12)) = true := decide_eq_true c13
                      clear c13
                      by_cases c14 : (ji12) < (l0.length : Int)
                      · rw [if_pos c14] at H
                        have c14b0 : decide ((ji12) < (l0.length : Int)) = true := decide_eq_true c14
                        clear c14
                        obtain ⟨ji15, hji15⟩ : ∃ j_ : Int, (IntKind.u64.wrap (wrap64 (8 * x10_3))) = j_ := ⟨_, rfl⟩
                        replace H : (if 0 ≤ (ji15) then (gazetteref01_Get.l0 k3 l0 a1 a2 (wrap64 (x9_3 + (shl .i64 (wrap64 (rd l0 (ji12))) (ji15)))) (wrap64 (x10_3 + 1))) else (none)) = some (r1, r2, r3) := by first | (rw [hji15] at H; exact H) | (simp only [hji15] at H ⊢; exact H)
                        by_cases c16 : 0 ≤ (ji15)
                        · rw [if_pos c16] at H
                          have c16b0 := eq_true c16
                          have c16b1 : decide (0 ≤ (ji15)) = true := decide_eq_true c16
                          clear c16
                          obtain ⟨ji17, hji17⟩ : ∃ j_ : Int, (shl .i64 (wrap64 (rd l0 (ji12))) (ji15)) = j_ := ⟨_, rfl⟩
                          replace H : (gazetteref01_Get.l0 k3 l0 a1 a2 (wrap64 (x9_3 + (ji17))) (wrap64 (x10_3 + 1))) = some (r1, r2, r3) := by first | (rw [hji17] at H; exact H) | (simp only [hji17] at H ⊢; exact H)
                          have hji17_ : (IntKind.i64.wrap ((wrap64 (rd l0 (ji12))) * 2 ^ min (ji15).toNat 64)) = ji17 := hji17
                          have hji17z : (ji15) ≤ 64 → (IntKind.i64.wrap ((wrap64 (rd l0 (ji12))) * 2 ^ (ji15).toNat)) = ji17 := shl_small hji17
                          have hji17y : (wrap64 ((wrap64 (rd l0 (ji12))) * 2 ^ min (ji15).toNat 64)) = ji17 := (i64_w _).symm.trans hji17_
                          have hji17x : (ji15) ≤ 64 → (wrap64 ((wrap64 (rd l0 (ji12))) * 2 ^ (ji15).toNat)) = ji17 := fun h_ => (i64_w _).symm.trans (hji17z h_)
                          have H' := Aside0.mk H
                          clear H
                          have p115 : 0 ≤ ((ji12) : Int) := of_decide_eq_true (by first | (with_reducible assumption) | assumption)
                          have q115 : (ji12) < (l0.length : Int) := of_decide_eq_true (by first | (with_reducible assumption) | assumption)
                          obtain ⟨ad115, e115, hx115_0⟩ := Kd.at_int HR0.out (ji12) p115 q115
                          cases e115
                          replace p115 := eq_true p115
                          replace q115 := eq_true q115
                          go_wp2
                          go_roundg k3
                          case measure => have := HJ3.out; have := HJ7.out; have := HK3.out; omega
                          case rel => exact ⟨(wrap64 (x9_3 + (ji17))), (wrap64 (x10_3 + 1)), (by first | rfl | (simp; done) | (simp only [← hji17] <;> (first | rfl | simp)) | (simp [*]; done)), (by first | rfl | (simp; done) | (simp [*]; done)), H', ⟨by have := HJ3.out; have := HJ7.out; have := HK3.out; omega⟩, by repeat (first | exact Drawn0.refl _ | apply Drawn0.step)⟩
                        · rw [if_neg c16] at H
                          exact absurd H (by simp)
                      · rw [if_neg c14] at H
                        exact absurd H (by simp)
                    · rw [if_neg c13] at H
                      exact absurd H (by simp)
                  · rw [if_neg c11] at H
                    have c11b0 : decide (x10_3 < a2) = false := decide_eq_false c11
                    clear c11
                    simp only [Option.some.injEq, Prod.mk.injEq] at H
                    obtain ⟨rfl, rfl, rfl⟩ := H
                    go_wp2
                    go_ret3
                    exact ⟨by first | rfl | (simp; done) | (simp [*]; done), by repeat (first | exact Drawn0.refl _ | apply Drawn0.step)⟩

end Go.Proofs.Ytofegigbhohebaa.P0
