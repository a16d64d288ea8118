/- The sum's table and the sum: what wire.table and wire.Crc compute. -/
import Derived.Test.YthlfhlnalmpmdaaProg
import Derived.Below
import Derived.Tactics
import Derived.WalkKit
import Derived.KernelRfl
import Derived.Laws.Rows
import Derived.Deep.LoopGhost
import Derived.BigQuiet
import Derived.Deep.QuietTactic
import Derived.Laws.BitsLemmas
import Derived.Test.YthlfhlnalmpmdaaWWords
import Derived.Test.YthlfhlnalmpmdaaHBits
namespace Go.Proofs.Ythlfhlnalmpmdaa.Hand
open Go.RowKit Go.Proofs.YthlfhlnalmpmdaaW.PrintWords

theorem below_setRow {B : Nat} {w W : World} (h : Below B w W) (g : Nat) (hg : B ≤ g) (cs : Array Value) : Below B w (W.setRow g cs) :=
  ⟨h.os, h.tape, h.output, by simpa using h.size, fun i hi => (setRow_other W g i cs (by omega)).trans (h.block i hi)⟩
def zrow : Array Value := (List.replicate 256 (Value.int .u32 0)).toArray
theorem zero60 (w : World) : (zeroValue 60).run Try.prog w = .ok (.agg zrow) w := by kernel_rfl
theorem zrow_size : zrow.size = 256 := by unfold zrow; rw [List.size_toArray, List.length_replicate]
theorem info60 : (Try.prog.info? 60).map (fun i => i.size) = some 256 := by kernel_rfl
def trow (k : Nat) : Array Value := ((List.range 256).map fun j => Value.int .u32 (if j < k then ((tabv j : Nat) : Int) else 0)).toArray
theorem trow_size (k : Nat) : (trow k).size = 256 := by unfold trow; rw [List.size_toArray, List.length_map, List.length_range]
theorem trow_at (k j : Nat) (h : j < 256) : (trow k)[j]? = some (Value.int .u32 (if j < k then ((tabv j : Nat) : Int) else 0)) := by
  unfold trow
  rw [List.getElem?_toArray, List.getElem?_map, List.getElem?_range h]; rfl
theorem trow_zero : trow 0 = zrow := by
  apply Array.ext_getElem?
  intro j
  by_cases h : j < 256
  · rw [trow_at 0 j h]
    unfold zrow
    rw [List.getElem?_toArray, List.getElem?_replicate, if_pos h, if_neg (by omega)]
  · rw [Array.getElem?_eq_none (by rw [trow_size]; omega), Array.getElem?_eq_none (by rw [zrow_size]; omega)]
theorem trow_set (k : Nat) : (trow k).setIfInBounds k (Value.int .u32 ((tabv k : Nat) : Int)) = trow (k + 1) := by
  apply Array.ext_getElem?
  intro j
  by_cases hj : j < 256
  · rw [trow_at (k + 1) j hj, Array.getElem?_setIfInBounds]
    by_cases e : k = j
    · subst e; rw [if_pos rfl, if_pos (by rw [trow_size]; exact hj), if_pos (by omega)]
    · rw [if_neg e, trow_at k j hj]
      by_cases e2 : j < k
      · rw [if_pos e2, if_pos (by omega)]
      · rw [if_neg e2, if_neg (by omega)]
  · rw [Array.getElem?_eq_none (by rw [Array.size_setIfInBounds, trow_size]; omega), Array.getElem?_eq_none (by rw [trow_size]; omega)]
theorem trow_cells (k : Nat) : ((trow k).all fun x => x.oneCell') = true := by
  unfold trow
  rw [List.all_toArray, List.all_map, List.all_eq_true]
  intro j _; rfl

set_option maxHeartbeats 400000 in
set_option maxRecDepth 100000 in
theorem table_calls (w : World) :
    Calls Try.prog 29 #[] w fun e w' => e = .returned (.agg (trow 256)) ∧ Below w.heap.size w w' := by
  have hz := zero60
  go_enter Try.func29, Try.ntmps29
  go_wp2_with fail
  go_loopw [2, 3, 4, 9] (fun i2 c3 i4 _ wr => ∃ k : Nat, k ≤ 256 ∧ i4 = .int .i64 k ∧ Aside0 (wr.heap[w.heap.size]? = some (.cells zrow 60 (0, 0)) ∧ wr.heap[w.heap.size + 1]? = some (.cells (trow k) 60 (0,0)) ∧ Below w.heap.size w wr)) (fun _ _ i4 _ _ => 256 - (intOf i4).toNat)
  case atStart => 
    refine ⟨0, by omega, rfl, ⟨heap_alloc2_old w _ _, ?_, below_alloc (below_alloc (Below.refl _ _) _) _⟩⟩
    rw [trow_zero]; exact heap_alloc2_new w _ _
  case round =>
    obtain ⟨k, hk, rfl, HI⟩ := hrel
    by_cases hlt : k < 256
    · have hc : wr.cell? ⟨w.heap.size + 1, k, none⟩ = some (Value.int .u32 0) := by rw [blk_cell HI.out.2.1 k, trow_at k k hlt, if_neg (by omega)]
      have hf : wr.frozen? ⟨w.heap.size + 1, k, none⟩ = false := blk_frozen HI.out.2.1 k
      go_wp2_with fail
      go_loop [3, 9] (fun c3 i9 => ∃ j : Nat, ∃ c : Nat, j ≤ 8 ∧ c < 4294967296 ∧ i9 = .int .i64 j ∧ c3 = .int .u32 c ∧ Aside0 (c = crcN j k)) (fun _ i9 => 8 - (intOf i9).toNat)
      case atStart => exact ⟨0, k, by omega, by omega, rfl, by simp, ⟨rfl⟩⟩
      case round => 
        obtain ⟨j, c, hj, hc9, rfl, rfl, HC⟩ := hrel
        by_cases hlt2 : j < 8
        · go_wp2_with fail
          go_round
          case rel => exact ⟨j + 1, crcB c, by omega, crcB_lt c hc9, by go_num, by rw [crcB_walk c hc9], ⟨by rw [crcN_succ, HC.out]⟩⟩
          case measure => simp [intOf]; omega
        · go_wp2_with fail
          go_roundw
          case rel => 
            have e : c = tabv k := by rw [HC.out, show j = 8 by omega]; rfl
            have hbl := HI.out.1
            have hb2 := HI.out.2.1
            refine ⟨k + 1, by omega, by go_num, ⟨?_, ?_, ?_⟩⟩
            · exact (blk_far hbl (by simp) _)
            · rw [blk_set hb2, e, trow_set k]
            · exact HI.out.2.2.setCell (by simp) _
          case measure => simp [intOf]; omega
    · have hk2 : k = 256 := by omega
      go_wp2_with (first | (refine wpList_load_row rfl 60 (.tmp 1) rfl (w.heap.size + 1) rfl 60 (trow k) (0,0) _ HI.out.2.1 Try.underlying60 rfl (by rw [info60, trow_size]) ?_) | (refine wpList_store_row rfl 60 (.tmp 0) (.tmp 22) rfl w.heap.size (trow k) rfl rfl 60 zrow HI.out.1 (by rw [info60, trow_size]) (by rw [zrow_size, trow_size]) (trow_cells k) ?_))
      refine bodyPost_ret (results_cell_row rfl _ _ w.heap.size 60 (trow k) (0, 0) _ rfl (setRow_heap _ _ _ _ _ _ HI.out.1) Try.underlying60 rfl (by rw [info60, trow_size])) rfl ?_
      exact ⟨by rw [hk2], below_setRow HI.out.2.2 _ (Nat.le_refl _) _⟩

def crcOf (l : List Int) : Nat := 4294967295 ^^^ crcL 4294967295 l
theorem bits_not_u32 (c : Nat) (h : c < 4294967296) : bits .xor .u32 IntKind.u32.max (c : Int) = ((4294967295 ^^^ c : Nat) : Int) := bits_xor_u32 4294967295 c (by omega) h
theorem ret_u32 {k : IntKind} {a b : Int} (h : a = b) : Ending.returned (.int k a) = .returned (.int k b) := by rw [h]
theorem refB_walk1 (r y : Nat) (hr : r < 4294967296) (h : (r ^^^ y) % 2 = 1) : bits .xor .u32 ((r : Int) / 2) 2197175160 = ((refB r y : Nat) : Int) := by
  rw [show ((r : Int) / 2) = ((r / 2 : Nat) : Int) by omega, show (2197175160 : Int) = ((2197175160 : Nat) : Int) from rfl, bits_xor_u32 _ _ (by omega) (by omega)]
  unfold refB; rw [if_pos h]
theorem refB_walk0 (r y : Nat) (h : ¬ (r ^^^ y) % 2 = 1) : (r : Int) / 2 = ((refB r y : Nat) : Int) := by
  unfold refB; rw [if_neg h, Nat.xor_zero]; omega
theorem crcS_walk (c x : Nat) (hc : c < 4294967296) (hx : x < 256) : bits .xor .u32 ((tabv ((c % 256) ^^^ x) : Nat) : Int) ((c : Int) / 256) = ((crcS c x : Nat) : Int) := by
  rw [show ((c : Int) / 256) = ((c / 256 : Nat) : Int) by omega, bits_xor_u32 _ _ (tabv_lt _ (xor_byte c x hx)) (by omega)]; rfl
theorem crcI_walk (c x : Nat) (hx : x < 256) : bits .xor .u8 ((c : Int) % 256) (x : Int) = (((c % 256) ^^^ x : Nat) : Int) := by
  rw [show ((c : Int) % 256) = ((c % 256 : Nat) : Int) by omega, bits_xor_u8 _ _ (by omega) hx]
def isBytes (l : List Int) : Prop := ∀ x ∈ l, 0 ≤ x ∧ x ≤ 255
theorem crcL_take (c : Nat) (l : List Int) (k : Nat) (h : k < l.length) : crcL c (l.take (k + 1)) = crcS (crcL c (l.take k)) (rd l k).toNat := by
  rw [List.take_succ_eq_append_getElem h, crcL_append]
  have e : rd l k = l[k] := by unfold rd; simp [h]
  rw [e]; rfl
theorem crcL_lt_take (l : List Int) (hl : isBytes l) (k : Nat) : crcL 4294967295 (l.take k) < 4294967296 := crcL_lt _ _ (by omega) (fun x hx => hl x (List.mem_of_mem_take hx))
theorem rd_byte (l : List Int) (hl : isBytes l) (i : Int) (h0 : 0 ≤ i) (h : i < l.length) : 0 ≤ rd l i ∧ rd l i ≤ 255 := by
  have hi : i.toNat < l.length := by omega
  have e : rd l i = l[i.toNat] := by unfold rd; simp [hi]
  rw [e]; exact hl _ (List.getElem_mem hi)
set_option maxHeartbeats 400000 in
set_option maxRecDepth 100000 in
theorem Crc_calls0 (A0 : Option Addr) (c0 : Nat) (l0 : List Int) (w : World) (hr0 : Kd.C (Kd.int .u8) w A0 l0.length l0) (hb : isBytes l0) :
    Calls Try.prog 11 #[.slice A0 l0.length c0] w fun e w' => e = .returned (.int .u32 ((crcOf l0 : Nat) : Int)) ∧ Below w.heap.size w w' := by
  have hz := zero60
  have HR := Aside0.mk hr0
  have hmax : l0.length ≤ 9223372036854775807 := Kd.C_max hr0
  clear hr0
  go_enter Try.func11, Try.ntmps11
  go_wp2_with (first | (go_at_call 29; refine (table_calls _).mono ?_; rintro e w1 ⟨rfl, hb1⟩; have HB1 := Aside0.mk hb1; clear hb1) | (refine wpList_store_row rfl 60 (.tmp 3) (.tmp 7) rfl w1.heap.size (trow 256) rfl rfl 60 zrow (heap_alloc_new _ _) (by rw [info60, trow_size]) (by rw [zrow_size, trow_size]) (trow_cells 256) ?_))
  have hB2 : Below w.heap.size w ((w1.alloc (Obj.cells zrow 60)).setRow w1.heap.size (trow 256)) := below_setRow (below_alloc HB1.out _) _ HB1.out.size _
  have hT2 : ((w1.alloc (Obj.cells zrow 60)).setRow w1.heap.size (trow 256)).heap[w1.heap.size]? = some (.cells (trow 256) 60 (0, 0)) := setRow_heap _ _ _ _ _ _ (heap_alloc_new _ _)
  generalize (w1.alloc (Obj.cells zrow 60)).setRow w1.heap.size (trow 256) = W2 at *
  have HB2 := Aside0.mk hB2
  have HT2 := Aside0.mk hT2
  have HR2 := Aside0.mk (Kd.C_below HR.out hB2)
  clear hB2 hT2 hz
  go_loop [4, 6, 10] (fun c4 i6 i10 => ∃ k : Nat, k ≤ l0.length ∧ i10 = .int .i64 k ∧ c4 = .int .u32 ((crcL 4294967295 (l0.take k) : Nat) : Int)) (fun _ _ i10 => l0.length - (intOf i10).toNat)
  case atStart => exact ⟨0, by omega, rfl, rfl⟩
  case round =>
    obtain ⟨k, hk, rfl, rfl⟩ := hrel
    by_cases hlt : k < l0.length
    · obtain ⟨ad, rfl, hcell⟩ := Kd.at_int HR2.out k (by omega) (by omega)
      rw [Int.toNat_natCast] at hcell
      have hby := rd_byte l0 hb k (by omega) (by omega)
      have hc := crcL_lt_take l0 hb k
      have HS := Aside0.mk (crcL_take 4294967295 l0 k hlt)
      generalize crcL 4294967295 (l0.take k) = c at *
      obtain ⟨x, hx⟩ := Int.eq_ofNat_of_zero_le hby.1
      rw [hx] at hcell hby
      have HX := Aside0.mk hx
      clear hx
      have hx8 : x < 256 := by omega
      have hxor := crcI_walk c x hx8
      have hj := xor_byte c x hx8
      have ht : W2.cell? ⟨w1.heap.size, (c % 256) ^^^ x, none⟩ = some (.int .u32 ((tabv ((c % 256) ^^^ x) : Nat) : Int)) := by rw [blk_cell HT2.out, trow_at _ _ hj, if_pos hj]
      go_wp2_with fail
      go_round
      case rel => exact ⟨k + 1, by omega, by go_num, by rw [HS.out, HX.out, Int.toNat_natCast, ← crcS_walk c x hc hx8]⟩
      case measure => simp [intOf]; omega
    · have hk2 : k = l0.length := by omega
      go_wp2_with fail
      go_ret
      exact ⟨ret_u32 (bits_not_u32 _ (crcL_lt _ _ (by omega) hb)), HB2.out⟩

end Go.Proofs.Ythlfhlnalmpmdaa.Hand
