/- Events as bytes, as the document writes them. -/
import Derived.Test.YtofegigbhohebaaTC1
import Derived.Test.YtofegigbhohebaaHCs
import Derived.Test.YtofegigbhohebaaTB4
namespace Go.Proofs.Ytofegigbhohebaa.Hand
open Go.RowKit Go.Proofs.Ytofegigbhohebaa Go.Proofs.YtofegigbhohebaaW.PrintWords
set_option linter.unusedVariables false
set_option linter.unusedSimpArgs false
def evHead (x : EvV) : List Int := [x.kind % 256, if x.yes = true then 1 else 0]
def evNums (x : EvV) : List Int := lowL x.producer.toNat 6 ++ lowL x.epoch.toNat 6 ++ lowL x.place.toNat 6 ++ lowL x.timeout.toNat 6 ++ lowL x.now.toNat 6
/-- What a frame of an event holds. -/
def evBody (x : EvV) : List Int := evHead x ++ evNums x ++ (textEnc x.name).1
/-- An event's bytes. -/
def encE (x : EvV) : List Int := (frameF 33 (evBody x)).1
theorem evHead_len (x : EvV) : (evHead x).length = 2 := rfl
theorem evNums_len (x : EvV) : (evNums x).length = 30 := by simp [evNums, lowL_length]
theorem name_short {x : EvV} (h : rightE x = true) : x.name.size ≤ 64 := by
  unfold rightE at h
  rw [Bool.and_eq_true] at h
  have h2 := h.2
  have hn : noName x = true → x.name.size = 0 := fun e => by
    unfold noName at e
    rw [empty_size] at e
    simpa using e
  split at h2
  · simp only [Bool.and_eq_true, decide_eq_true_eq] at h2; exact h2.1.2
  split at h2
  · simp only [Bool.and_eq_true] at h2; rw [hn h2.1.1]; omega
  split at h2
  · simp only [Bool.and_eq_true] at h2; rw [hn h2.1.1.1]; omega
  split at h2
  · simp only [Bool.and_eq_true] at h2; rw [hn h2.1.1.1]; omega
  split at h2
  · simp only [Bool.and_eq_true] at h2; rw [hn h2.1.1.1.1.1]; omega
  · cases h2
theorem textEnc_len {s : ByteArray} (h : s.size ≤ 64) : (textEnc s).1.length ≤ 66 := by
  unfold textEnc
  rw [if_neg (by omega)]
  simp [lowL_length, bytesOf_length]
  omega
theorem evHead_bytes {x : EvV} : isBytes (evHead x) := by
  intro y hy
  unfold evHead at hy
  simp only [List.mem_cons, List.not_mem_nil, or_false] at hy
  rcases hy with rfl | rfl
  · omega
  · split <;> omega
theorem evNums_bytes (x : EvV) : isBytes (evNums x) := by
  unfold evNums
  exact isBytes_append (isBytes_append (isBytes_append (isBytes_append (lowL_bytes _ _) (lowL_bytes _ _)) (lowL_bytes _ _)) (lowL_bytes _ _)) (lowL_bytes _ _)
theorem bytesOf_bytes (s : ByteArray) : isBytes (bytesOf s) := by
  intro y hy
  unfold bytesOf at hy
  obtain ⟨u, hu, rfl⟩ := List.mem_map.1 hy
  have := u.toNat_lt
  omega
theorem textEnc_bytes (s : ByteArray) : isBytes (textEnc s).1 := by
  unfold textEnc
  split
  · intro y hy; cases hy
  · exact isBytes_append (lowL_bytes _ _) (bytesOf_bytes s)
theorem evBody_bytes (x : EvV) : isBytes (evBody x) := isBytes_append (isBytes_append evHead_bytes (evNums_bytes x)) (textEnc_bytes _)
theorem evBody_len {x : EvV} (h : rightE x = true) : (evBody x).length ≤ 98 := by
  have := textEnc_len (name_short h)
  unfold evBody
  rw [List.length_append, List.length_append, evHead_len, evNums_len]
  omega
theorem frame_ok {x : EvV} (h : rightE x = true) : frameF 33 (evBody x) = (encE x, 0) := by
  have := evBody_len h
  unfold encE frameF
  rw [if_neg (by decide), if_neg (by decide), if_neg (by omega)]
section
variable (K : Int) (n : ByteArray) (a b c d e : Int) (y : Bool)
theorem wl_step (k : Nat) (acc L : List Int) (i : Nat) (hi : i < L.length) (hL : L.length ≤ 100) (hn : 0 ≤ rd L (i : Int)) (ha : acc.length ≤ 1000) : P2.gazetteref16_write.l0 (k + 1) acc L (i : Int) K n a b c d e y = P2.gazetteref16_write.l0 k (acc ++ lowL (rd L (i : Int)).toNat 6) L ((i + 1 : Nat) : Int) K n a b c d e y := by
  rw [P2.gazetteref16_write.l0, if_pos (by omega), if_pos (by omega)]
  unfold gazetteref01_Bytes.f wire_low.f
  rw [if_pos ⟨hn, by decide, by decide⟩, Option.bind_some, if_pos (by rw [lowL_length, show Int.toNat 6 = 6 from rfl]; omega)]
  rw [show wrap64 ((i : Int) + 1) = ((i + 1 : Nat) : Int) by unfold wrap64; omega]
  rfl
theorem wl_end (k : Nat) (acc L : List Int) (i : Nat) (hi : i = L.length) (hn : n.size ≤ 64) (ha : acc.length ≤ 1000) (hb : isBytes acc) : P2.gazetteref16_write.l0 (k + 1) acc L (i : Int) K n a b c d e y = some (frameF 33 (acc ++ (textEnc n).1)).1 := by
  have ht := textEnc_len hn
  rw [P2.gazetteref16_write.l0, if_neg (by omega)]
  unfold gazetteref01_Text.f
  rw [if_pos (by omega), Option.bind_some, if_pos (by omega)]
  unfold gazetteref01_Frame.f wire_Frame.f
  rw [if_pos ((isB_iff _).2 (isBytes_append hb (textEnc_bytes n))), Option.bind_some]
end
theorem refWrite_ev (x : EvV) (h : rightE x = true) : P2.gazetteref16_write.f 8 x.kind x.name x.producer x.epoch x.place x.timeout x.now x.yes = some (encE x) := by
  obtain ⟨h1, h2, h3, h4, h5⟩ := right_in h
  have hn := name_short h
  obtain ⟨K, n, a, b, c, d, e, y⟩ := x
  dsimp only at h1 h2 h3 h4 h5 hn ⊢
  have key : ∀ z : Int, (0 ≤ z ∧ z ≤ 255) → P2.gazetteref16_write.j0 8 z K n a b c d e y = some (frameF 33 ([K % 256, z] ++ (lowL a.toNat 6 ++ lowL b.toNat 6 ++ lowL c.toNat 6 ++ lowL d.toNat 6 ++ lowL e.toNat 6) ++ (textEnc n).1)).1 := by
    intro z hz
    rw [P2.gazetteref16_write.j0]
    rw [show (0 : Int) = ((0 : Nat) : Int) from rfl]
    rw [wl_step K n a b c d e y 6 _ _ 0 (by simp) (by simp) (by show 0 ≤ a; omega) (by simp)]
    rw [wl_step K n a b c d e y 5 _ _ 1 (by simp) (by simp) (by show 0 ≤ b; omega) (by simp [lowL_length])]
    rw [wl_step K n a b c d e y 4 _ _ 2 (by simp) (by simp) (by show 0 ≤ c; omega) (by simp [lowL_length])]
    rw [wl_step K n a b c d e y 3 _ _ 3 (by simp) (by simp) (by show 0 ≤ d; omega) (by simp [lowL_length])]
    rw [wl_step K n a b c d e y 2 _ _ 4 (by simp) (by simp) (by show 0 ≤ e; omega) (by simp [lowL_length])]
    rw [wl_end K n a b c d e y 1 _ _ 5 (by simp) hn (by simp [lowL_length])]
    · congr 3
    · have hz2 : isBytes [K % 256, z] := by
        intro q hq
        simp only [List.mem_cons, List.not_mem_nil, or_false] at hq
        rcases hq with rfl | rfl
        · omega
        · exact hz
      exact isBytes_append (isBytes_append (isBytes_append (isBytes_append (isBytes_append hz2 (lowL_bytes _ _)) (lowL_bytes _ _)) (lowL_bytes _ _)) (lowL_bytes _ _)) (lowL_bytes _ _)
  unfold P2.gazetteref16_write.f
  cases y
  · rw [if_neg (by decide), key 0 (by decide)]; rfl
  · rw [if_pos rfl, key 1 (by decide)]; rfl
/-- What both PutEvents answer. -/
def putEF (x : EvV) : List Int × Int := if rightE x = true then (encE x, 0) else ([], 1)
theorem refPut_ev (x : EvV) : P2.gazetteref16_PutEvent.f 8 x.kind x.name x.producer x.epoch x.place x.timeout x.now x.yes = some (putEF x) := by
  unfold P2.gazetteref16_PutEvent.f putEF
  rw [refRight_ev x, Option.bind_some]
  by_cases h : rightE x = true
  · rw [if_pos h, if_pos h, refWrite_ev x h, Option.bind_some]
  · rw [if_neg h, if_neg h]
theorem refPut_c (x : EvV) (w : World) : Calls Try.prog 26 #[evE x] w fun e w' => ∃ v : Value, e = .returned (.tuple #[v, .int .i64 (putEF x).2]) ∧ Kd.R (Kd.int .u8) 5 w' w.heap.size (fun _ => True) v (putEF x).1 ∧ Below w.heap.size w w' :=
  P2.gazetteref16_PutEvent.calls 8 x.kind x.name x.producer x.epoch x.place x.timeout x.now x.yes _ _ w (refPut_ev x)
theorem refRight_c (x : EvV) (w : World) : Calls Try.prog 50 #[evE x] w fun e w' => e = .returned (.bool (rightE x)) ∧ Below w.heap.size w w' :=
  P2.gazetteref16_right.calls 8 x.kind x.name x.producer x.epoch x.place x.timeout x.now x.yes _ w (refRight_ev x)
theorem refWrite_c (x : EvV) (h : rightE x = true) (w : World) : Calls Try.prog 51 #[evE x] w fun e w' => ∃ v : Value, e = .returned v ∧ Kd.R (Kd.int .u8) 5 w' w.heap.size (fun _ => True) v (encE x) ∧ Below w.heap.size w w' :=
  P2.gazetteref16_write.calls 8 x.kind x.name x.producer x.epoch x.place x.timeout x.now x.yes _ w (refWrite_ev x h)
end Go.Proofs.Ytofegigbhohebaa.Hand
