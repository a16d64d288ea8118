/- Numbers, texts and frames are read as they were written, whatever stands ahead and behind. Where what comes in is of bulk at most 1048576. -/
import Derived.Test.YthlfhlnalmpmdaaPUWireBack
import Derived.Test.YthlfhlnalmpmdaaHBack
namespace Go.Proofs.Ythlfhlnalmpmdaa.PureU
open Go.RowKit Go.Proofs.Ythlfhlnalmpmdaa.Hand Go.Proofs.Ythlfhlnalmpmdaa.PWireBack Go.Proofs.YthlfhlnalmpmdaaW.PrintWords Go.Proofs.YthlfhlnalmpmdaaW.PrintLast

/-- A frame, or none. -/
structure Fr (kind : Int) (body : List Int) (c : List Int) (g : Int) : Prop where
  eq : (c, g) = frameF kind body
  bytes : isB body = true
theorem Fr.bad {kind : Int} {body c : List Int} {g : Int} (h : Fr kind body c g) (hg : g ≠ 0) : c = [] := by
  have e := h.eq
  unfold frameF at e
  split at e
  · simp at e; exact e.1
  split at e
  · simp at e; exact e.1
  split at e
  · simp at e; exact e.1
  · simp at e; exact absurd e.2 hg
theorem Fr.good {kind : Int} {body c : List Int} {g : Int} (h : Fr kind body c g) (hg : g = 0) : 0 ≤ kind ∧ kind ≤ 255 ∧ body.length ≤ 65536 ∧ c = frameB kind body ++ lowL (crcOf (frameB kind body)) 4 := by
  have e := h.eq
  unfold frameF at e
  split at e
  · simp at e; omega
  split at e
  · simp at e; omega
  split at e
  · simp at e; omega
  · simp at e; exact ⟨by omega, by omega, by omega, e.1⟩
theorem Fr.isB {kind : Int} {body c : List Int} {g : Int} (h : Fr kind body c g) : isB c = true := by
  by_cases hg : g = 0
  · obtain ⟨h0, h1, h2, rfl⟩ := h.good hg
    exact isB_append ((isB_iff _).2 (frameB_bytes h0 h1 ((isB_iff _).1 h.bytes))) (isB_lowL _ _)
  · rw [h.bad hg]; rfl
theorem Fr.short {kind : Int} {body c : List Int} {g : Int} (h : Fr kind body c g) : c.length ≤ 65545 := by
  by_cases hg : g = 0
  · obtain ⟨h0, h1, h2, rfl⟩ := h.good hg
    rw [List.length_append, frameB_length, lowL_length]; omega
  · rw [h.bad hg]; simp
theorem j4_ok (kind : Int) (body pre c beh : List Int) (g : Int) (h : Fr kind body c g) (hp : isB pre = true) (hb : isB beh = true) (hlen : (pre ++ c ++ beh).length ≤ 1000000000) :
    gazettelaw01_WireBack.j4 1 kind body beh g (pre ++ c ++ beh) (pre.length : Int) = some true := by
  have ew : wrap64 (((pre ++ c ++ beh).length : Int) - (beh.length : Int)) = ((pre.length + c.length : Nat) : Int) := by
    rw [List.length_append, List.length_append] at *
    unfold wrap64; omega
  have hB := isB_append (isB_append hp h.isB) hb
  rw [gazettelaw01_WireBack.j4]
  unfold gazettelaw01_num.f wire_Unframe.f gazettelaw01_knows.f
  rw [Option.bind_some]
  by_cases hg : g = 0
  · rw [if_pos hg, if_pos hB, Option.bind_some, ew]
    obtain ⟨h0, h1, h2, hc⟩ := h.good hg
    obtain ⟨k, rfl⟩ := Int.eq_ofNat_of_zero_le h0
    have hlc : c.length = body.length + 9 := by rw [hc, List.length_append, frameB_length, lowL_length]
    rw [hc, frame_back pre body beh k (by omega) h2 ((isB_iff _).1 h.bytes), ← hc, hlc]
    simp
  · rw [if_neg hg, ew, h.bad hg]
    simp
theorem j3_ok (s : ByteArray) (kind : Int) (body pre b c beh : List Int) (f g : Int) (ht : (b, f) = textEnc s) (h : Fr kind body c g) (hp : isB pre = true) (hb : isB beh = true) (hlen : (pre ++ b ++ c ++ beh).length ≤ 1000000000) :
    gazettelaw01_WireBack.j3 (1 + 1) s kind body beh f g (pre ++ b ++ c ++ beh) (pre.length : Int) = some true := by
  rw [gazettelaw01_WireBack.j3]
  unfold gazettelaw01_num.f wire_GetText.f
  rw [Option.bind_some]
  unfold textEnc at ht
  by_cases hs : 65535 < s.size
  · rw [if_pos hs] at ht
    simp only [Prod.mk.injEq] at ht
    obtain ⟨rfl, rfl⟩ := ht
    rw [if_neg (by decide)]
    rw [List.append_nil] at hlen ⊢
    exact j4_ok kind body pre c beh g h hp hb hlen
  · rw [if_neg hs] at ht
    simp only [Prod.mk.injEq] at ht
    obtain ⟨rfl, rfl⟩ := ht
    have hbt : isB (lowL s.size 2 ++ bytesOf s) = true := isB_append (isB_lowL _ _) ((isB_iff _).2 (isBytes_bytesOf s))
    have hB := isB_append (isB_append (isB_append hp hbt) h.isB) hb
    have htb := text_back pre (c ++ beh) s (by omega)
    rw [← List.append_assoc] at htb
    rw [if_pos rfl, if_pos hB, Option.bind_some, htb]
    dsimp only
    rw [if_pos rfl, Option.bind_some, if_pos rfl]
    have := j4_ok kind body (pre ++ (lowL s.size 2 ++ bytesOf s)) c beh g h (isB_append hp hbt) hb hlen
    rw [show ((pre ++ (lowL s.size 2 ++ bytesOf s)).length : Int) = ((pre.length + 2 + s.size : Nat) : Int) by simp [lowL_length, bytesOf_length]; omega] at this
    exact this
theorem j2_ok (n size : Int) (s : ByteArray) (kind : Int) (body ahead a b c beh : List Int) (e f g : Int) (hput : (a, e) = putF n size) (ht : (b, f) = textEnc s) (h : Fr kind body c g) (hp : isB ahead = true) (hb : isB beh = true) (hlen : (ahead ++ a ++ b ++ c ++ beh).length ≤ 1000000000) :
    gazettelaw01_WireBack.j2 (1 + 1 + 1) n size s kind body ahead beh e f g (ahead ++ a ++ b ++ c) = some true := by
  rw [gazettelaw01_WireBack.j2]
  rw [List.length_append] at hlen
  rw [if_pos (by omega), Option.bind_some]
  rw [← List.length_append] at hlen
  unfold gazettelaw01_num.f wire_Get.f
  rw [Option.bind_some]
  have hbb : isB b = true := by
    unfold textEnc at ht
    split at ht
    · simp at ht; rw [ht.1]; rfl
    · simp at ht; rw [ht.1]; exact isB_append (isB_lowL _ _) ((isB_iff _).2 (isBytes_bytesOf s))
  have low : ∀ x : Int, x ≠ 0 → a = [] → e = x → gazettelaw01_WireBack.j3 (1 + 1) s kind body beh f g (ahead ++ a ++ b ++ c ++ beh) (ahead.length : Int) = some true := by
    intro x _ ha _
    subst ha
    rw [List.append_nil] at hlen ⊢
    exact j3_ok s kind body ahead b c beh f g ht h hp hb hlen
  unfold putF at hput
  by_cases h1 : size < 1
  · rw [if_pos h1] at hput
    simp only [Prod.mk.injEq] at hput
    rw [if_neg (by rw [hput.2]; decide)]
    exact low 1 (by decide) hput.1 hput.2
  rw [if_neg h1] at hput
  by_cases h2 : 6 < size
  · rw [if_pos h2] at hput
    simp only [Prod.mk.injEq] at hput
    rw [if_neg (by rw [hput.2]; decide)]
    exact low 1 (by decide) hput.1 hput.2
  rw [if_neg h2] at hput
  by_cases h3 : n < 0
  · rw [if_pos h3] at hput
    simp only [Prod.mk.injEq] at hput
    rw [if_neg (by rw [hput.2]; decide)]
    exact low 11 (by decide) hput.1 hput.2
  rw [if_neg h3] at hput
  obtain ⟨k, rfl⟩ := Int.eq_ofNat_of_zero_le (show 0 ≤ size by omega)
  obtain ⟨m, rfl⟩ := Int.eq_ofNat_of_zero_le (show 0 ≤ n by omega)
  rw [Int.toNat_natCast, Int.toNat_natCast] at hput
  by_cases h4 : (256 : Int) ^ k ≤ m
  · rw [if_pos h4] at hput
    simp only [Prod.mk.injEq] at hput
    rw [if_neg (by rw [hput.2]; decide)]
    exact low 11 (by decide) hput.1 hput.2
  rw [if_neg h4] at hput
  simp only [Prod.mk.injEq] at hput
  obtain ⟨rfl, rfl⟩ := hput
  have hlt : m < 256 ^ k := by
    have e : (256 : Int) ^ k = ((256 ^ k : Nat) : Int) := by rw [Int.natCast_pow]; rfl
    rw [e] at h4
    exact Int.ofNat_lt.1 (Int.not_le.1 h4)
  have hB : isB (ahead ++ lowL m k ++ b ++ c ++ beh) = true := isB_append (isB_append (isB_append (isB_append hp (isB_lowL _ _)) hbb) h.isB) hb
  have hg := get_back ahead (b ++ c ++ beh) m k (by omega) (by omega) hlt
  rw [← List.append_assoc, ← List.append_assoc] at hg
  have hal : ahead.length ≤ 1000000000 := by clear h4 hlt hg; simp only [List.length_append] at hlen; omega
  have ew : wrap64 ((ahead.length : Int) + (k : Int)) = (ahead.length : Int) + (k : Int) := by clear h4 hlt hg hlen; unfold wrap64; omega
  rw [if_pos rfl, if_pos hB, Option.bind_some, hg]
  dsimp only
  rw [if_pos rfl, Option.bind_some, if_pos rfl, ew, if_pos rfl]
  have := j3_ok s kind body (ahead ++ lowL m k) b c beh f g ht h (isB_append hp (isB_lowL _ _)) hb hlen
  rw [show ((ahead ++ lowL m k).length : Int) = (ahead.length : Int) + (k : Int) by rw [List.length_append, lowL_length]; omega] at this
  exact this
theorem put_bad {n size : Int} {a : List Int} {e : Int} (h : (a, e) = putF n size) (he : e ≠ 0) : a = [] := by
  unfold putF at h
  split at h
  · simp at h; exact h.1
  split at h
  · simp at h; exact h.1
  split at h
  · simp at h; exact h.1
  split at h
  · simp at h; exact h.1
  · simp at h; exact absurd h.2 he
theorem put_short {n size : Int} {a : List Int} {e : Int} (h : (a, e) = putF n size) : a.length ≤ 6 ∧ isB a = true := by
  unfold putF at h
  split at h
  · simp at h; rw [h.1]; exact ⟨by simp, rfl⟩
  split at h
  · simp at h; rw [h.1]; exact ⟨by simp, rfl⟩
  split at h
  · simp at h; rw [h.1]; exact ⟨by simp, rfl⟩
  split at h
  · simp at h; rw [h.1]; exact ⟨by simp, rfl⟩
  · simp at h; rw [h.1]; exact ⟨by rw [lowL_length]; omega, isB_lowL _ _⟩
theorem text_bad {s : ByteArray} {b : List Int} {f : Int} (h : (b, f) = textEnc s) (hf : f ≠ 0) : b = [] := by
  unfold textEnc at h
  split at h
  · simp at h; exact h.1
  · simp at h; exact absurd h.2 hf
theorem text_short {s : ByteArray} {b : List Int} {f : Int} (h : (b, f) = textEnc s) : b.length ≤ 65537 := by
  unfold textEnc at h
  split at h
  · simp at h; rw [h.1]; simp
  · simp at h; rw [h.1, List.length_append, lowL_length, bytesOf_length]; omega
theorem WireBack : gazettelaw01_WireBack.PureU := by
  intro a0 a1 a2 a3 l4 l5 l6 _ _ _ _ _ _ hw4 _ _ hw5 _ _ hw6 _ u4 u5 u6
  have hb4 := isB_of_wf hw4
  have hb5 := isB_of_wf hw5
  have hb6 := isB_of_wf hw6
  refine ⟨1 + 1 + 1 + 1 + 1, ?_⟩
  unfold gazettelaw01_WireBack.f wire_Put.f wire_Text.f wire_Frame.f gazettelaw01_num.f
  generalize hP : putF a0 a1 = P
  generalize hT : textEnc a2 = T
  rw [Option.bind_some, Option.bind_some, Option.bind_some, if_pos (by rw [List.length_nil]; omega), List.nil_append, if_pos hb4]
  generalize hF : frameF a3 l4 = F
  rw [Option.bind_some, Option.bind_some, if_pos (by rw [List.length_nil]; omega), Option.bind_some, List.nil_append, Option.bind_some]
  obtain ⟨a, e⟩ := P
  obtain ⟨b, f⟩ := T
  obtain ⟨c, g⟩ := F
  have hfr : Fr a3 l4 c g := ⟨hF.symm, hb4⟩
  have sa := put_short hP.symm
  have sb := text_short hT.symm
  have sc := hfr.short
  dsimp only
  have h2 := j2_ok a0 a1 a2 a3 l4 l5 a b c l6 e f g hP.symm hT.symm hfr hb5 hb6 (by simp only [List.length_append]; omega)
  have h1 : gazettelaw01_WireBack.j1 (1 + 1 + 1 + 1) a0 a1 a2 a3 l4 l5 l6 e f c g (l5 ++ a ++ b) = some true := by
    rw [gazettelaw01_WireBack.j1]
    unfold gazettelaw01_num.f
    rw [Option.bind_some]
    by_cases hg : g = 0
    · rw [if_pos hg, if_pos (by simp only [List.length_append]; omega)]; exact h2
    · have hc := hfr.bad hg
      rw [if_neg hg]
      rw [hc, List.append_nil] at h2
      exact h2
  have h0 : gazettelaw01_WireBack.j0 (1 + 1 + 1 + 1 + 1) a0 a1 a2 a3 l4 l5 l6 e b f c g (l5 ++ a) = some true := by
    rw [gazettelaw01_WireBack.j0]
    unfold gazettelaw01_num.f
    rw [Option.bind_some]
    by_cases hf : f = 0
    · rw [if_pos hf, if_pos (by simp only [List.length_append]; omega)]; exact h1
    · have hbb := text_bad hT.symm hf
      rw [if_neg hf]
      rw [hbb, List.append_nil] at h1
      exact h1
  by_cases he : e = 0
  · rw [if_pos he, if_pos (by omega)]; exact h0
  · have ha := put_bad hP.symm he
    rw [if_neg he]
    rw [ha, List.append_nil] at h0
    exact h0
end Go.Proofs.Ythlfhlnalmpmdaa.PureU
