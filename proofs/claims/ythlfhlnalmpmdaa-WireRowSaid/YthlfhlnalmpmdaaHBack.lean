/- Numbers, texts and frames are read as they were written. -/
import Derived.Test.YthlfhlnalmpmdaaHPure
namespace Go.Proofs.Ythlfhlnalmpmdaa.Hand
open Go.RowKit Go.Proofs.Ythlfhlnalmpmdaa Go.Proofs.YthlfhlnalmpmdaaW.PrintWords Go.Proofs.YthlfhlnalmpmdaaW.PrintMore
/-! Numbers, texts and frames are read as they were written, whatever stands ahead and behind. -/
theorem seg (pre m beh : List Int) (a b : Nat) (ha : a = pre.length) (hb : b = pre.length + m.length) : ((pre ++ m ++ beh).take b).drop a = m := by
  subst ha hb
  rw [List.take_append_of_le_length (by rw [List.length_append]; omega), List.take_of_length_le (by rw [List.length_append]; omega), List.drop_left]
theorem isB_append {l m : List Int} (h : isB l = true) (k : isB m = true) : isB (l ++ m) = true := (isB_iff _).2 (isBytes_append ((isB_iff l).1 h) ((isB_iff m).1 k))
theorem isB_lowL (n k : Nat) : isB (lowL n k) = true := (isB_iff _).2 (lowL_bytes n k)
theorem isBytes_bytesOf (s : ByteArray) : isBytes (bytesOf s) := by
  intro x hx
  unfold bytesOf at hx
  obtain ⟨b, _, rfl⟩ := List.mem_map.1 hx
  have := b.toNat_lt
  omega
theorem strOf_bytesOf (s : ByteArray) : strOfNums (bytesOf s) = s := by
  unfold strOfNums bytesOf
  rw [List.map_map]
  have : ((fun n : Int => UInt8.ofNat n.toNat) ∘ fun b : UInt8 => ((b.toNat : Nat) : Int)) = id := by
    funext b
    simp
  rw [this, List.map_id]
theorem get_back (pre beh : List Int) (n k : Nat) (h1 : 1 ≤ k) (h6 : k ≤ 6) (hn : n < 256 ^ k) : getF (pre ++ lowL n k ++ beh) (pre.length : Int) (k : Int) = ((n : Int), (pre.length : Int) + k, 0) := by
  rw [getF_in _ _ _ h1 h6 (by simp [lowL_length]), seg pre (lowL n k) beh _ _ rfl (by rw [lowL_length]), leN_lowL n k hn]
theorem text_back (pre beh : List Int) (s : ByteArray) (hs : s.size ≤ 65535) : textF (pre ++ (lowL s.size 2 ++ bytesOf s) ++ beh) (pre.length : Int) = (s, ((pre.length + 2 + s.size : Nat) : Int), 0) := by
  have hb := bytesOf_length s
  have hg : getF (pre ++ (lowL s.size 2 ++ bytesOf s) ++ beh) (pre.length : Int) 2 = ((s.size : Int), (pre.length : Int) + ((2 : Nat) : Int), 0) := by
    have := get_back pre (bytesOf s ++ beh) s.size 2 (by omega) (by omega) (by omega)
    rw [show pre ++ (lowL s.size 2 ++ bytesOf s) ++ beh = pre ++ lowL s.size 2 ++ (bytesOf s ++ beh) by simp [List.append_assoc]]
    exact this
  unfold textF
  rw [hg]
  dsimp only
  rw [if_pos rfl, if_pos (by simp [lowL_length, hb]; omega), show ((pre.length : Int) + ((2 : Nat) : Int) + (s.size : Int)).toNat = pre.length + 2 + s.size by omega, show ((pre.length : Int) + ((2 : Nat) : Int)).toNat = pre.length + 2 by omega]
  rw [show pre ++ (lowL s.size 2 ++ bytesOf s) ++ beh = (pre ++ lowL s.size 2) ++ bytesOf s ++ beh by simp [List.append_assoc]]
  rw [seg (pre ++ lowL s.size 2) (bytesOf s) beh _ _ (by simp [lowL_length]) (by simp [lowL_length, hb]), strOf_bytesOf]
  simp only [Prod.mk.injEq, and_true, true_and]
  omega
theorem frame_back (pre body beh : List Int) (kind : Nat) (hk : kind ≤ 255) (hn : body.length ≤ 65536) (hb : isBytes body) :
    unfF (pre ++ (frameB kind body ++ lowL (crcOf (frameB kind body)) 4) ++ beh) (pre.length : Int) = ((kind : Int), body, ((pre.length + (body.length + 9) : Nat) : Int), 0) := by
  have hbb := frameB_bytes (kind := (kind : Int)) (body := body) (by omega) (by omega) hb
  have hcrc := crcOf_lt _ hbb
  have hl := frameB_length (kind : Int) body
  generalize hC : crcOf (frameB (kind : Int) body) = C at *
  have hfb : frameB (kind : Int) body = [(kind : Int)] ++ lowL body.length 4 ++ body := by simp [frameB]
  unfold unfF
  rw [if_neg (by omega), Int.toNat_natCast, if_pos (by simp [hl]; omega)]
  unfold unfN
  have e1 : ((pre ++ (frameB (kind : Int) body ++ lowL C 4) ++ beh).take (pre.length + 5)).drop (pre.length + 1) = lowL body.length 4 := by
    rw [hfb, show pre ++ ([(kind : Int)] ++ lowL body.length 4 ++ body ++ lowL C 4) ++ beh = (pre ++ [(kind : Int)]) ++ lowL body.length 4 ++ (body ++ lowL C 4 ++ beh) by simp [List.append_assoc]]
    exact seg _ _ _ _ _ (by simp) (by simp [lowL_length])
  have e2 : ((pre ++ (frameB (kind : Int) body ++ lowL C 4) ++ beh).take (pre.length + 9 + body.length)).drop (pre.length + 5 + body.length) = lowL C 4 := by
    rw [show pre ++ (frameB (kind : Int) body ++ lowL C 4) ++ beh = (pre ++ frameB (kind : Int) body) ++ lowL C 4 ++ beh by simp [List.append_assoc]]
    exact seg _ _ _ _ _ (by simp [hl]; omega) (by simp [hl, lowL_length]; omega)
  have e3 : ((pre ++ (frameB (kind : Int) body ++ lowL C 4) ++ beh).take (pre.length + 5 + body.length)).drop pre.length = frameB (kind : Int) body := by
    rw [show pre ++ (frameB (kind : Int) body ++ lowL C 4) ++ beh = pre ++ frameB (kind : Int) body ++ (lowL C 4 ++ beh) by simp [List.append_assoc]]
    exact seg _ _ _ _ _ rfl (by simp [hl]; omega)
  have e4 : ((pre ++ (frameB (kind : Int) body ++ lowL C 4) ++ beh).take (pre.length + 5 + body.length)).drop (pre.length + 5) = body := by
    rw [hfb, show pre ++ ([(kind : Int)] ++ lowL body.length 4 ++ body ++ lowL C 4) ++ beh = (pre ++ ([(kind : Int)] ++ lowL body.length 4)) ++ body ++ (lowL C 4 ++ beh) by simp [List.append_assoc]]
    exact seg _ _ _ _ _ (by simp [lowL_length]) (by simp [lowL_length])
  have e5 : leN (((pre ++ (frameB (kind : Int) body ++ lowL C 4) ++ beh).take (pre.length + 1)).drop pre.length) = kind := by
    rw [hfb, show pre ++ ([(kind : Int)] ++ lowL body.length 4 ++ body ++ lowL C 4) ++ beh = pre ++ [(kind : Int)] ++ (lowL body.length 4 ++ body ++ lowL C 4 ++ beh) by simp [List.append_assoc]]
    rw [seg _ _ _ _ _ rfl (by simp)]
    simp [leN]
  rw [e1, leN_lowL body.length 4 (by omega), if_neg (by omega), if_pos (by simp [hl, lowL_length]; omega), e2, e3, e4, e5, leN_lowL C 4 (show C < 256 ^ 4 from hcrc), hC, if_pos rfl, show pre.length + 9 + body.length = pre.length + (body.length + 9) by omega]
end Go.Proofs.Ythlfhlnalmpmdaa.Hand
