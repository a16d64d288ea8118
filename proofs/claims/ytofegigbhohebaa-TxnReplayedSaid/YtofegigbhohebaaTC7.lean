/- Events are read as they were written. -/
import Derived.Test.YtofegigbhohebaaTC6
namespace Go.Proofs.Ytofegigbhohebaa.Hand
open Go.RowKit Go.Proofs.Ytofegigbhohebaa Go.Proofs.YtofegigbhohebaaW.PrintWords
set_option linter.unusedVariables false
set_option linter.unusedSimpArgs false
theorem seg (pre m beh : List Int) (a b : Nat) (ha : a = pre.length) (hb : b = pre.length + m.length) : ((pre ++ m ++ beh).take b).drop a = m := by
  subst ha hb
  rw [List.take_append_of_le_length (by rw [List.length_append]; omega), List.take_of_length_le (by rw [List.length_append]; omega), List.drop_left]
theorem get_back (pre beh : List Int) (n k : Nat) (h1 : 1 ≤ k) (h6 : k ≤ 6) (hn : n < 256 ^ k) : getF (pre ++ lowL n k ++ beh) (pre.length : Int) (k : Int) = ((n : Int), (pre.length : Int) + k, 0) := by
  rw [getF_in _ _ _ h1 h6 (by simp [lowL_length]), seg pre (lowL n k) beh _ _ rfl (by rw [lowL_length]), leN_lowL n k hn]
theorem text_back (pre beh : List Int) (s : ByteArray) (hs : s.size ≤ 65535) : textF (pre ++ (lowL s.size 2 ++ bytesOf s) ++ beh) (pre.length : Int) = (s, ((pre.length + 2 + s.size : Nat) : Int), 0) := by
  have hb := bytesOf_length s
  have hg : getF (pre ++ (lowL s.size 2 ++ bytesOf s) ++ beh) (pre.length : Int) 2 = ((s.size : Int), (pre.length : Int) + ((2 : Nat) : Int), 0) := by
    have := get_back pre (bytesOf s ++ beh) s.size 2 (by omega) (by omega) (by omega)
    rw [show pre ++ (lowL s.size 2 ++ bytesOf s) ++ beh = pre ++ lowL s.size 2 ++ (bytesOf s ++ beh) by simp [List.append_assoc]]
    exact this
  unfold textF
  rw [hg]
  dsimp only
  rw [if_pos rfl, if_pos (by simp [lowL_length, hb]; omega), show ((pre.length : Int) + ((2 : Nat) : Int) + (s.size : Int)).toNat = pre.length + 2 + s.size by omega, show ((pre.length : Int) + ((2 : Nat) : Int)).toNat = pre.length + 2 by omega]
  rw [show pre ++ (lowL s.size 2 ++ bytesOf s) ++ beh = (pre ++ lowL s.size 2) ++ bytesOf s ++ beh by simp [List.append_assoc]]
  rw [seg (pre ++ lowL s.size 2) (bytesOf s) beh _ _ (by simp [lowL_length]) (by simp [lowL_length, hb]), strOf_bytesOf]
  simp only [Prod.mk.injEq, and_true, true_and]
  omega
theorem frame_back (pre body beh : List Int) (kind : Nat) (hk : kind ≤ 255) (hn : body.length ≤ 65536) (hb : isBytes body) :
    unfF (pre ++ (frameB kind body ++ lowL (crcOf (frameB kind body)) 4) ++ beh) (pre.length : Int) = ((kind : Int), body, ((pre.length + (body.length + 9) : Nat) : Int), 0) := by
  have hbb := frameB_bytes (kind := (kind : Int)) (body := body) (by omega) (by omega) hb
  have hcrc := crcOf_lt _ hbb
  have hl := frameB_length (kind : Int) body
  generalize hC : crcOf (frameB (kind : Int) body) = C at *
  have hfb : frameB (kind : Int) body = [(kind : Int)] ++ lowL body.length 4 ++ body := by simp [frameB]
  unfold unfF
  rw [if_neg (by omega), Int.toNat_natCast, if_pos (by simp [hl]; omega)]
  unfold unfN
  have e1 : ((pre ++ (frameB (kind : Int) body ++ lowL C 4) ++ beh).take (pre.length + 5)).drop (pre.length + 1) = lowL body.length 4 := by
    rw [hfb, show pre ++ ([(kind : Int)] ++ lowL body.length 4 ++ body ++ lowL C 4) ++ beh = (pre ++ [(kind : Int)]) ++ lowL body.length 4 ++ (body ++ lowL C 4 ++ beh) by simp [List.append_assoc]]
    exact seg _ _ _ _ _ (by simp) (by simp [lowL_length])
  have e2 : ((pre ++ (frameB (kind : Int) body ++ lowL C 4) ++ beh).take (pre.length + 9 + body.length)).drop (pre.length + 5 + body.length) = lowL C 4 := by
    rw [show pre ++ (frameB (kind : Int) body ++ lowL C 4) ++ beh = (pre ++ frameB (kind : Int) body) ++ lowL C 4 ++ beh by simp [List.append_assoc]]
    exact seg _ _ _ _ _ (by simp [hl]; omega) (by simp [hl, lowL_length]; omega)
  have e3 : ((pre ++ (frameB (kind : Int) body ++ lowL C 4) ++ beh).take (pre.length + 5 + body.length)).drop pre.length = frameB (kind : Int) body := by
    rw [show pre ++ (frameB (kind : Int) body ++ lowL C 4) ++ beh = pre ++ frameB (kind : Int) body ++ (lowL C 4 ++ beh) by simp [List.append_assoc]]
    exact seg _ _ _ _ _ rfl (by simp [hl]; omega)
  have e4 : ((pre ++ (frameB (kind : Int) body ++ lowL C 4) ++ beh).take (pre.length + 5 + body.length)).drop (pre.length + 5) = body := by
    rw [hfb, show pre ++ ([(kind : Int)] ++ lowL body.length 4 ++ body ++ lowL C 4) ++ beh = (pre ++ ([(kind : Int)] ++ lowL body.length 4)) ++ body ++ (lowL C 4 ++ beh) by simp [List.append_assoc]]
    exact seg _ _ _ _ _ (by simp [lowL_length]) (by simp [lowL_length])
  have e5 : leN (((pre ++ (frameB (kind : Int) body ++ lowL C 4) ++ beh).take (pre.length + 1)).drop pre.length) = kind := by
    rw [hfb, show pre ++ ([(kind : Int)] ++ lowL body.length 4 ++ body ++ lowL C 4) ++ beh = pre ++ [(kind : Int)] ++ (lowL body.length 4 ++ body ++ lowL C 4 ++ beh) by simp [List.append_assoc]]
    rw [seg _ _ _ _ _ rfl (by simp)]
    simp [leN]
  rw [e1, leN_lowL body.length 4 (by omega), if_neg (by omega), if_pos (by simp [hl, lowL_length]; omega), e2, e3, e4, e5, leN_lowL C 4 (show C < 256 ^ 4 from hcrc), hC, if_pos rfl, show pre.length + 9 + body.length = pre.length + (body.length + 9) by omega]

theorem right_kind {x : EvV} (h : rightE x = true) : 1 ≤ x.kind ∧ x.kind ≤ 5 := by
  unfold rightE at h
  rw [Bool.and_eq_true] at h
  have h2 := h.2
  split at h2
  · omega
  split at h2
  · omega
  split at h2
  · omega
  split at h2
  · omega
  split at h2
  · omega
  · cases h2
theorem getN_back (pre beh : List Int) (n : Nat) (hn : n < 281474976710656) : getN (pre ++ lowL n 6 ++ beh) pre.length = n := by
  unfold getN
  rw [seg pre (lowL n 6) beh _ _ rfl (by rw [lowL_length]), leN_lowL n 6 (by omega)]
theorem getN_at (l pre beh : List Int) (n : Nat) (p : Nat) (hl : l = pre ++ lowL n 6 ++ beh) (hp : p = pre.length) (hn : n < 281474976710656) : getN l p = n := by
  subst hl hp
  exact getN_back pre beh n hn
theorem evOf_body {x : EvV} (h : rightE x = true) : evOf (evBody x) = x ∧ (textF (evBody x) 32).2.2 = 0 := by
  have hk := right_kind h
  have hn := name_short h
  obtain ⟨h1, h2, h3, h4, h5⟩ := right_in h
  have ht : textF (evBody x) 32 = (x.name, ((34 + x.name.size : Nat) : Int), 0) := by
    have := text_back (evHead x ++ evNums x) [] x.name (by omega)
    rw [List.append_nil, List.length_append, evHead_len, evNums_len] at this
    unfold evBody textEnc
    rw [if_neg (by omega)]
    exact this
  refine ⟨?_, by rw [ht]⟩
  unfold evOf
  rw [ht]
  have e1 : getN (evBody x) 2 = x.producer := by
    rw [getN_at (evBody x) (evHead x) (lowL x.epoch.toNat 6 ++ lowL x.place.toNat 6 ++ lowL x.timeout.toNat 6 ++ lowL x.now.toNat 6 ++ (textEnc x.name).1) x.producer.toNat 2 (by simp [evBody, evNums]) rfl (by omega)]
    omega
  have e2 : getN (evBody x) 8 = x.epoch := by
    rw [getN_at (evBody x) (evHead x ++ lowL x.producer.toNat 6) (lowL x.place.toNat 6 ++ lowL x.timeout.toNat 6 ++ lowL x.now.toNat 6 ++ (textEnc x.name).1) x.epoch.toNat 8 (by simp [evBody, evNums]) (by simp [lowL_length, evHead_len]) (by omega)]
    omega
  have e3 : getN (evBody x) 14 = x.place := by
    rw [getN_at (evBody x) (evHead x ++ lowL x.producer.toNat 6 ++ lowL x.epoch.toNat 6) (lowL x.timeout.toNat 6 ++ lowL x.now.toNat 6 ++ (textEnc x.name).1) x.place.toNat 14 (by simp [evBody, evNums]) (by simp [lowL_length, evHead_len]) (by omega)]
    omega
  have e4 : getN (evBody x) 20 = x.timeout := by
    rw [getN_at (evBody x) (evHead x ++ lowL x.producer.toNat 6 ++ lowL x.epoch.toNat 6 ++ lowL x.place.toNat 6) (lowL x.now.toNat 6 ++ (textEnc x.name).1) x.timeout.toNat 20 (by simp [evBody, evNums]) (by simp [lowL_length, evHead_len]) (by omega)]
    omega
  have e5 : getN (evBody x) 26 = x.now := by
    rw [getN_at (evBody x) (evHead x ++ lowL x.producer.toNat 6 ++ lowL x.epoch.toNat 6 ++ lowL x.place.toNat 6 ++ lowL x.timeout.toNat 6) (textEnc x.name).1 x.now.toNat 26 (by simp [evBody, evNums]) (by simp [lowL_length, evHead_len]) (by omega)]
    omega
  have e6 : rd (evBody x) 0 = x.kind := by
    show x.kind % 256 = x.kind
    omega
  have e7 : rd (evBody x) 1 = if x.yes = true then 1 else 0 := rfl
  rw [e1, e2, e3, e4, e5, e6, e7]
  obtain ⟨K, n, a, b, c, d, e, y⟩ := x
  cases y <;> rfl
/-- An event that may be is read as it was written. -/
theorem get_put {x : EvV} (h : rightE x = true) : getEF (encE x) = (x, 0) := by
  have hbl := evBody_len h
  have hu : unfF (encE x) 0 = ((33 : Int), evBody x, (((evBody x).length + 9 : Nat) : Int), 0) := by
    have := frame_back [] (evBody x) [] 33 (by omega) (by omega) (evBody_bytes x)
    rw [List.nil_append, List.append_nil] at this
    unfold encE frameF
    rw [if_neg (by decide), if_neg (by decide), if_neg (by omega)]
    rw [List.length_nil] at this
    exact this.trans (by rw [Nat.zero_add]; rfl)
  obtain ⟨h1, h2⟩ := evOf_body h
  have hl : (evBody x).length ≥ 34 := by
    have : (textEnc x.name).1.length ≥ 2 := by
      unfold textEnc
      rw [if_neg (by have := name_short h; omega)]
      simp [lowL_length]
    unfold evBody
    rw [List.length_append, List.length_append, evHead_len, evNums_len]
    omega
  unfold getEF
  rw [hu]
  dsimp only
  rw [h1, h2, h, if_neg (by simp; omega), if_neg (by simp)]
end Go.Proofs.Ytofegigbhohebaa.Hand
