/- A frame whose body or sum has a burst of at most 32 turned bits is refused; without its last byte it ends too early. No condition. -/
import Derived.Test.YthlfhlnalmpmdaaPWireToldx1
import Derived.Test.YthlfhlnalmpmdaaHBurst
namespace Go.Proofs.Ythlfhlnalmpmdaa.Pure
open Go.RowKit Go.Proofs.Ythlfhlnalmpmdaa.Hand Go.Proofs.Ythlfhlnalmpmdaa.PWireTold Go.Proofs.YthlfhlnalmpmdaaW.PrintWords Go.Proofs.YthlfhlnalmpmdaaW.PrintLast Go.Proofs.YthlfhlnalmpmdaaW.PrintMore

/-- The head of a frame of n bytes. -/
def hd (kind : Int) (n : Nat) : List Int := kind :: lowL n 4
theorem hd_length (kind : Int) (n : Nat) : (hd kind n).length = 5 := by simp [hd, lowL_length]
theorem unf_head (kind : Nat) (n : Nat) (X : List Int) (hn : n ≤ 65536) (hX : X.length = n + 4) :
    unfF (hd kind n ++ X) 0 = if leN (X.drop n) = crcOf (hd kind n ++ X.take n) then ((kind : Int), X.take n, ((n + 9 : Nat) : Int), 0) else (0, [], 0, 21) := by
  have hl := hd_length kind n
  have e1 : ((hd kind n ++ X).take 5).drop 1 = lowL n 4 := by
    rw [List.take_append_of_le_length (by omega), List.take_of_length_le (by omega)]; rfl
  have e2 : ((hd kind n ++ X).take (9 + n)).drop (5 + n) = X.drop n := by
    rw [List.take_of_length_le (by rw [List.length_append]; omega), show 5 + n = (hd (kind : Int) n).length + n by omega, List.drop_append, List.drop_of_length_le (by omega), Nat.add_sub_cancel_left]; rfl
  have e3 : ((hd kind n ++ X).take (5 + n)) = hd kind n ++ X.take n := by
    rw [show 5 + n = (hd (kind : Int) n).length + n by omega, List.take_append, List.take_of_length_le (by omega), Nat.add_sub_cancel_left]
  have e4 : (hd kind n ++ X.take n).drop 5 = X.take n := by
    rw [← hl, List.drop_left]
  have e5 : leN ((hd kind n ++ X).take 1) = kind := by
    rw [List.take_append_of_le_length (by omega)]
    simp [hd, leN]
  unfold unfF
  rw [if_neg (by omega), if_pos (by rw [List.length_append]; omega), show Int.toNat 0 = 0 from rfl]
  unfold unfN
  simp only [Nat.zero_add, List.drop_zero]
  rw [e1, leN_lowL n 4 (by omega), if_neg (by omega), if_pos (by rw [List.length_append]; omega), e2, e3, e4, e5, show 9 + n = n + 9 by omega]
theorem unf_cut (kind : Nat) (n : Nat) (X : List Int) (hn : n ≤ 65536) (hX : X.length = n + 3) : unfF (hd kind n ++ X) 0 = (0, [], 0, 20) := by
  have hl := hd_length kind n
  have e1 : ((hd kind n ++ X).take 5).drop 1 = lowL n 4 := by
    rw [List.take_append_of_le_length (by omega), List.take_of_length_le (by omega)]; rfl
  unfold unfF
  rw [if_neg (by omega), if_pos (by rw [List.length_append]; omega), show Int.toNat 0 = 0 from rfl]
  unfold unfN
  simp only [Nat.zero_add, List.drop_zero]
  rw [e1, leN_lowL n 4 (by omega), if_neg (by omega), if_neg (by rw [List.length_append]; omega)]
theorem leN_inj : ∀ (l m : List Int), isBytes l → isBytes m → l.length = m.length → leN l = leN m → l = m
  | [], [], _, _, _, _ => rfl
  | x :: l, y :: m, hl, hm, hlen, h => by
    have hx := hl x (by simp)
    have hy := hm y (by simp)
    rw [leN, leN] at h
    have e : x = y := by omega
    rw [e, leN_inj l m (fun z hz => hl z (by simp [hz])) (fun z hz => hm z (by simp [hz])) (by simpa using hlen) (by omega)]
  | [], _ :: _, _, _, h, _ => by simp at h
  | _ :: _, [], _, _, h, _ => by simp at h
theorem leN_split (X : List Int) (n : Nat) (s : Nat) (hX : isBytes X) (h4 : X.length = n + 4) (hd' : leN (X.drop n) = 4294967295 ^^^ crcL s (X.take n)) : crcL s X = crcN 32 4294967295 := by
  have e : X = X.take n ++ X.drop n := (List.take_append_drop n X).symm
  have hlen : (X.drop n).length = 4 := by rw [List.length_drop]; omega
  rw [e, crcL_append, crcL_big (X.drop n) _ (fun z hz => hX z (List.mem_of_mem_drop hz)), hlen, hd', ← Nat.xor_assoc, Nat.xor_comm (crcL s (X.take n)), Nat.xor_assoc, Nat.xor_self, Nat.xor_zero]
/-- A frame's bytes behind its head, turned by a burst: refused. -/
theorem told_burst (kind n : Nat) (X Y : List Int) (at_ d : Nat) (hn : n ≤ 65536) (hX : isBytes X) (hY : isBytes Y) (hXl : X.length = n + 4) (hYl : Y.length = n + 4) (hgood : leN (X.drop n) = crcOf (hd kind n ++ X.take n)) (hat : at_ ≤ 8 * X.length) (hd0 : d ≠ 0) (hd1 : d < 4294967296) (hx : leN Y = leN X ^^^ (2 ^ at_ * d)) : unfF (hd kind n ++ Y) 0 = (0, [], 0, 21) := by
  rw [unf_head kind n Y hn hYl, if_neg]
  intro hbad
  unfold crcOf at hgood hbad
  rw [crcL_append] at hgood hbad
  have h1 := leN_split X n _ hX hXl hgood
  have h2 := leN_split Y n _ hY hYl hbad
  exact burst X Y (crcL 4294967295 (hd kind n)) at_ d hX hY (by omega) hat hd1 hd0 hx (h2.trans h1.symm)
/-- The turned bits up to the ith. -/
theorem mod_succ_one (m i : Nat) (h : m / 2 ^ i % 2 = 1) : m % 2 ^ (i + 1) = (m % 2 ^ i) ^^^ 2 ^ i := by
  have h1 : m % 2 ^ (i + 1) = m % 2 ^ i + 2 ^ i := by
    rw [Nat.pow_succ, Nat.mod_mul, h, Nat.mul_one]
  have hlt : m % 2 ^ i < 2 ^ i := Nat.mod_lt _ (Nat.two_pow_pos i)
  rw [h1]
  have h2 := Nat.two_pow_add_eq_or_of_lt (i := i) (b := m % 2 ^ i) hlt 1
  rw [Nat.mul_one] at h2
  rw [Nat.add_comm, h2]
  apply Nat.eq_of_testBit_eq
  intro j
  rw [Nat.testBit_or, Nat.testBit_xor, Nat.testBit_two_pow]
  by_cases e : i = j
  · subst e
    rw [Nat.testBit_lt_two_pow hlt]; simp
  · simp [e]
theorem mod_succ_zero (m i : Nat) (h : ¬ m / 2 ^ i % 2 = 1) : m % 2 ^ (i + 1) = m % 2 ^ i := by
  rw [Nat.pow_succ, Nat.mod_mul, show m / 2 ^ i % 2 = 0 by omega, Nat.mul_zero, Nat.add_zero]
theorem wrapu (i : Nat) (h : i < 4611686018427387904) : IntKind.u64.wrap (i : Int) = (i : Int) := by
  have e : IntKind.u64.wrap (i : Int) = (i : Int) % 18446744073709551616 := by simp [IntKind.wrap, IntKind.bits, IntKind.signed]
  rw [e]; omega
theorem mask_bit (m i : Nat) (hi : i < 32) (hm : m < 4294967296) : Go.bits .and .u32 (shr .u32 (m : Int) (i : Int)) 1 = ((m / 2 ^ i % 2 : Nat) : Int) := by
  have e : IntKind.u32.bits = 32 := rfl
  unfold shr
  rw [e, Int.toNat_natCast, Nat.min_eq_left (by omega)]
  have h2 : (m : Int) / 2 ^ i = ((m / 2 ^ i : Nat) : Int) := by rw [Int.natCast_ediv, Int.natCast_pow]; rfl
  have h3 : m / 2 ^ i ≤ m := Nat.div_le_self _ _
  rw [h2, bits_and1_u32 _ (by omega)]
theorem one_shl (j : Nat) (h : j < 8) : shl .u8 1 (j : Int) = ((2 ^ j : Nat) : Int) := by
  have : j = 0 ∨ j = 1 ∨ j = 2 ∨ j = 3 ∨ j = 4 ∨ j = 5 ∨ j = 6 ∨ j = 7 := by omega
  rcases this with rfl | rfl | rfl | rfl | rfl | rfl | rfl | rfl <;> rfl
theorem told_fin (kind n m at_ i : Nat) (X Y : List Int) (s : Bool) (hk : kind ≤ 255) (hn : n ≤ 65536) (hX : isBytes X) (hXl : X.length = n + 4) (hgood : leN (X.drop n) = crcOf (hd kind n ++ X.take n)) (hat : at_ < 8 * (n + 4)) (hY : isBytes Y) (hYl : Y.length = n + 4) (d : Nat) (hd1 : d < 4294967296) (hx : leN Y = leN X ^^^ (2 ^ at_ * d)) (hs : s = decide (d ≠ 0)) :
    gazettelaw01_WireTold.j2 1 (at_ : Int) (m : Int) (hd kind n ++ Y) 20 ((8 * (n + 4) : Nat) : Int) s (i : Int) false = some true := by
  have hb : isB (hd (kind : Int) n ++ Y) = true := by
    rw [isB_iff]
    refine isBytes_append ?_ hY
    intro z hz
    rcases List.mem_cons.1 hz with rfl | hz
    · omega
    · exact lowL_bytes _ _ z hz
  rw [gazettelaw01_WireTold.j2, if_neg (by simp)]
  unfold wire_Unframe.f gazettelaw01_num.f
  rw [if_pos hb, Option.bind_some]
  by_cases h0 : d = 0
  · rw [h0, Nat.mul_zero, Nat.xor_zero] at hx
    obtain rfl := leN_inj Y X hY hX (by omega) hx
    rw [unf_head kind n Y hn hXl, if_pos hgood]
    subst hs
    simp [h0]
  · rw [told_burst kind n X Y at_ d hn hX hY hXl hYl hgood (by omega) h0 hd1 hx]
    subst hs
    simp [h0]
theorem idx_eq (a : Nat) (h : a < 1000000000) : wrap64 (5 + wrap64 (Int.tdiv (a : Int) 8)) = ((5 + a / 8 : Nat) : Int) := by
  rw [Int.tdiv_eq_ediv_of_nonneg (by omega)]
  unfold wrap64; omega
theorem mod_eq (a : Nat) (h : a < 1000000000) : IntKind.u64.wrap (Int.tmod (a : Int) 8) = ((a % 8 : Nat) : Int) := by
  rw [Int.tmod_eq_emod_of_nonneg (by omega), show (a : Int) % 8 = ((a % 8 : Nat) : Int) by omega, wrapu _ (by omega)]
theorem rd_hd (kind : Int) (n q : Nat) (Y : List Int) (v : Nat) (hv : Y[q]? = some (v : Int)) : rd (hd kind n ++ Y) ((5 + q : Nat) : Int) = (v : Int) := by
  have hdl := hd_length kind n
  unfold rd
  rw [Int.toNat_natCast, List.getD_eq_getElem?_getD, List.getElem?_append_right (by omega), hdl, Nat.add_sub_cancel_left, hv]; rfl
theorem set_hd (kind : Int) (n q : Nat) (Y : List Int) (v : Int) : (hd kind n ++ Y).set (5 + q) v = hd kind n ++ Y.set q v := by
  have hdl := hd_length kind n
  rw [List.set_append_right _ _ (by omega), hdl, Nat.add_sub_cancel_left]
theorem step_on (k kind n m at_ i B v : Nat) (Y : List Int) (s : Bool) (hi : i < 32) (hm : m < 4294967296) (hB : B < 1000000) (hfit : at_ + i < B) (hbit : m / 2 ^ i % 2 = 1) (hq : (at_ + i) / 8 < Y.length) (hv : Y[(at_ + i) / 8]? = some (v : Int)) (hv8 : v < 256)
    (h : gazettelaw01_WireTold.l0 k (at_ : Int) (m : Int) (hd kind n ++ Y.set ((at_ + i) / 8) ((v ^^^ 2 ^ ((at_ + i) % 8) : Nat) : Int)) 20 (B : Int) true ((i + 1 : Nat) : Int) = some true) :
    gazettelaw01_WireTold.l0 (k + 1 + 1) (at_ : Int) (m : Int) (hd kind n ++ Y) 20 (B : Int) s (i : Int) = some true := by
  have hr : (at_ + i) % 8 < 8 := Nat.mod_lt _ (by omega)
  have hpb : 2 ^ ((at_ + i) % 8) < 256 := Nat.pow_lt_pow_right (a := 2) (n := 8) (by omega) hr
  have ew : wrap64 ((at_ : Int) + (i : Int)) = ((at_ + i : Nat) : Int) := by clear hbit hpb; unfold wrap64; omega
  have hdl := hd_length kind n
  have f1 : (i : Int) < 32 := by clear hbit hpb; omega
  have f2 : decide (((at_ + i : Nat) : Int) < (B : Int)) = true := by clear hbit hpb; exact decide_eq_true (by omega)
  have f3 : (0 : Int) ≤ (i : Int) := Int.natCast_nonneg _
  have f4 : ((m / 2 ^ i % 2 : Nat) : Int) = 1 := by rw [hbit]; rfl
  have f5 : (0 : Int) ≤ ((5 + (at_ + i) / 8 : Nat) : Int) := Int.natCast_nonneg _
  have f6 : ((5 + (at_ + i) / 8 : Nat) : Int) < (((hd (kind : Int) n ++ Y).length : Nat) : Int) := by clear hbit hpb; rw [List.length_append]; omega
  have f7 : (0 : Int) ≤ (((at_ + i) % 8 : Nat) : Int) := Int.natCast_nonneg _
  rw [gazettelaw01_WireTold.l0, if_pos f1, ew, f2, gazettelaw01_WireTold.j2, if_pos rfl, wrapu i (by clear hbit hpb; omega), if_pos f3, mask_bit m i hi hm, if_pos f4, ew, idx_eq _ (by clear hbit hpb; omega), if_pos f5, if_pos f6, mod_eq _ (by clear hbit hpb; omega), if_pos f7, one_shl _ hr, rd_hd _ _ _ _ _ hv, bits_xor_u8 _ _ hv8 hpb, Int.toNat_natCast, set_hd, wrap_succ i (by clear hbit hpb; omega)]
  exact h
theorem step_off (k m at_ i B : Nat) (Z : List Int) (s : Bool) (hi : i < 32) (hm : m < 4294967296) (hB : B < 1000000) (hfit : at_ + i < B) (hbit : ¬ m / 2 ^ i % 2 = 1)
    (h : gazettelaw01_WireTold.l0 k (at_ : Int) (m : Int) Z 20 (B : Int) s ((i + 1 : Nat) : Int) = some true) :
    gazettelaw01_WireTold.l0 (k + 1 + 1) (at_ : Int) (m : Int) Z 20 (B : Int) s (i : Int) = some true := by
  have ew : wrap64 ((at_ : Int) + (i : Int)) = ((at_ + i : Nat) : Int) := by clear hbit; unfold wrap64; omega
  have f1 : (i : Int) < 32 := by clear hbit; omega
  have f2 : decide (((at_ + i : Nat) : Int) < (B : Int)) = true := by clear hbit; exact decide_eq_true (by omega)
  have f3 : (0 : Int) ≤ (i : Int) := Int.natCast_nonneg _
  have f4 : ¬ ((m / 2 ^ i % 2 : Nat) : Int) = 1 := fun h => hbit (by exact_mod_cast h)
  rw [gazettelaw01_WireTold.l0, if_pos f1, ew, f2, gazettelaw01_WireTold.j2, if_pos rfl, wrapu i (by clear hbit; omega), if_pos f3, mask_bit m i hi hm, if_neg f4, wrap_succ i (by clear hbit; omega)]
  exact h
theorem step_end (m at_ i B : Nat) (Z : List Int) (s : Bool) (hB : B < 1000000) (hi : i = 32 ∨ i < 32 ∧ B ≤ at_ + i ∧ at_ + i < 2000000) (h : gazettelaw01_WireTold.j2 1 (at_ : Int) (m : Int) Z 20 (B : Int) s (i : Int) false = some true) :
    gazettelaw01_WireTold.l0 (1 + 1) (at_ : Int) (m : Int) Z 20 (B : Int) s (i : Int) = some true := by
  rw [gazettelaw01_WireTold.l0]
  rcases hi with rfl | ⟨h1, h2, h3⟩
  · rw [if_neg (by omega)]; exact h
  · have ew : wrap64 ((at_ : Int) + (i : Int)) = ((at_ + i : Nat) : Int) := by unfold wrap64; omega
    rw [if_pos (by omega), ew, decide_eq_false (by omega)]; exact h
theorem told_loop (kind n m at_ : Nat) (X : List Int) (hk : kind ≤ 255) (hn : n ≤ 65536) (hm : m < 4294967296) (hX : isBytes X) (hXl : X.length = n + 4) (hgood : leN (X.drop n) = crcOf (hd kind n ++ X.take n)) (hat : at_ < 8 * (n + 4)) :
    ∀ (d i : Nat) (Y : List Int) (s : Bool), i + d = 32 → isBytes Y → Y.length = n + 4 → leN Y = leN X ^^^ (2 ^ at_ * (m % 2 ^ i)) → s = decide (m % 2 ^ i ≠ 0) →
      ∃ k, gazettelaw01_WireTold.l0 k (at_ : Int) (m : Int) (hd kind n ++ Y) 20 ((8 * (n + 4) : Nat) : Int) s (i : Int) = some true := by
  intro d
  induction d with
  | zero =>
    intro i Y s hi hY hYl hx hs
    have hlt : m % 2 ^ i < 4294967296 := Nat.lt_of_le_of_lt (Nat.mod_le _ _) hm
    have hfin := told_fin kind n m at_ i X Y s hk hn hX hXl hgood hat hY hYl _ hlt hx hs
    clear hx hs hlt hgood
    exact ⟨1 + 1, step_end m at_ i _ _ s (by omega) (.inl (by omega)) hfin⟩
  | succ d ih =>
    intro i Y s hi hY hYl hx hs
    by_cases hfit : at_ + i < 8 * (n + 4)
    · by_cases hbit : m / 2 ^ i % 2 = 1
      · have hq : (at_ + i) / 8 < Y.length := by clear hx hs hgood hbit; omega
        have hr : (at_ + i) % 8 < 8 := Nat.mod_lt _ (by decide)
        have hyb := hY _ (List.getElem_mem hq)
        obtain ⟨v, hv⟩ := Int.eq_ofNat_of_zero_le hyb.1
        have hv' : Y[(at_ + i) / 8]? = some (v : Int) := by rw [List.getElem?_eq_getElem hq, hv]
        have hv8 : v < 256 := by clear hx hs hgood hbit; omega
        have hpb : 2 ^ ((at_ + i) % 8) < 2 ^ 8 := Nat.pow_lt_pow_right (by decide) hr
        have hvl : v ^^^ 2 ^ ((at_ + i) % 8) < 256 := Nat.xor_lt_two_pow (n := 8) hv8 hpb
        have hflip := leN_flip Y ((at_ + i) / 8) ((at_ + i) % 8) v hY hq hr hv'
        have hlt : m % 2 ^ i < 2 ^ i := Nat.mod_lt _ (Nat.two_pow_pos i)
        have hne : m % 2 ^ (i + 1) ≠ 0 := by
          rw [Nat.pow_succ, Nat.mod_mul, hbit, Nat.mul_one]
          exact Nat.ne_of_gt (Nat.lt_of_lt_of_le (Nat.two_pow_pos i) (Nat.le_add_left _ _))
        obtain ⟨k, hk2⟩ := ih (i + 1) (Y.set ((at_ + i) / 8) ((v ^^^ 2 ^ ((at_ + i) % 8) : Nat) : Int)) true (by clear hx hs hgood hbit hflip hne hlt hvl hpb; omega)
          (by
            intro z hz
            rcases List.mem_or_eq_of_mem_set hz with hz | rfl
            · exact hY z hz
            · exact ⟨Int.natCast_nonneg _, by generalize v ^^^ 2 ^ ((at_ + i) % 8) = u at hvl ⊢; clear hx hs hgood hbit hflip hne hlt hpb; omega⟩)
          (by rw [List.length_set]; exact hYl)
          (by rw [hflip, hx, mod_succ_one m i hbit, mul_xor, Nat.div_add_mod, ← Nat.pow_add, Nat.xor_assoc])
          (by simp [hne])
        refine ⟨k + 1 + 1, step_on k kind n m at_ i _ v Y s ?_ hm ?_ hfit hbit hq hv' hv8 hk2⟩
        · clear hx hs hgood hbit hflip hne hlt hvl hpb; omega
        · clear hx hs hgood hbit hflip hne hlt hvl hpb; omega
      · obtain ⟨k, hk2⟩ := ih (i + 1) Y s (by clear hx hs hgood hbit; omega) hY hYl (by rw [mod_succ_zero m i hbit]; exact hx) (by rw [mod_succ_zero m i hbit]; exact hs)
        refine ⟨k + 1 + 1, step_off k m at_ i _ _ s ?_ hm ?_ hfit hbit hk2⟩
        · clear hx hs hgood hbit; omega
        · clear hx hs hgood hbit; omega
    · have hlt : m % 2 ^ i < 4294967296 := Nat.lt_of_le_of_lt (Nat.mod_le _ _) hm
      have hfin := told_fin kind n m at_ i X Y s hk hn hX hXl hgood hat hY hYl _ hlt hx hs
      clear hx hs hlt hgood
      exact ⟨1 + 1, step_end m at_ i _ _ s (by omega) (.inr ⟨by omega, by omega, by omega⟩) hfin⟩
theorem told_bad (k : Nat) (x2 x3 : Int) : gazettelaw01_WireTold.j0 (k + 1) x2 x3 [] true = some true := by
  rw [gazettelaw01_WireTold.j0, if_pos rfl, if_pos (show ((([] : List Int).length : Nat) : Int) = 0 from rfl)]; rfl
theorem told_good (kind n m : Nat) (a2 : Int) (X : List Int) (hk : kind ≤ 255) (hn : n ≤ 65536) (hm : m < 4294967296) (hX : isBytes X) (hXl : X.length = n + 4) (hgood : leN (X.drop n) = crcOf (hd kind n ++ X.take n)) :
    ∃ k, gazettelaw01_WireTold.j0 k a2 (m : Int) (hd kind n ++ X) false = some true := by
  have hdl := hd_length kind n
  have hlen : (hd (kind : Int) n ++ X).length = n + 9 := by rw [List.length_append]; omega
  have e5 : wrap64 (((n + 9 : Nat) : Int) - 5) = ((n + 4 : Nat) : Int) := by unfold wrap64; omega
  have e8 : wrap64 (8 * (wrap64 (((n + 9 : Nat) : Int) - 5))) = ((8 * (n + 4) : Nat) : Int) := by rw [e5]; unfold wrap64; omega
  have e1 : wrap64 (((n + 9 : Nat) : Int) - 1) = ((n + 8 : Nat) : Int) := by unfold wrap64; omega
  have hB : ¬ ((8 * (n + 4) : Nat) : Int) = 0 := by omega
  have hat := norm_mod a2 ((8 * (n + 4) : Nat) : Int) (by omega) (by omega)
  obtain ⟨h0, h1⟩ := norm_mod_range a2 ((8 * (n + 4) : Nat) : Int) (by omega)
  obtain ⟨at_, hat2⟩ := Int.eq_ofNat_of_zero_le h0
  rw [hat2] at hat h1
  obtain ⟨k, hk2⟩ := told_loop kind n m at_ X hk hn hm hX hXl hgood (by clear hgood; omega) 32 0 X false (by omega) hX hXl (by simp [Nat.mod_one]) (by simp [Nat.mod_one])
  refine ⟨k + 1, ?_⟩
  have hcut : (hd (kind : Int) n ++ X).take (n + 8) = hd kind n ++ X.take (n + 3) := by
    rw [show n + 8 = (hd (kind : Int) n).length + (n + 3) by omega, List.take_append, List.take_of_length_le (by omega), Nat.add_sub_cancel_left]
  have hb : isB (hd (kind : Int) n ++ X.take (n + 3)) = true := by
    rw [isB_iff]
    refine isBytes_append ?_ (fun z hz => hX z (List.mem_of_mem_take hz))
    intro z hz
    rcases List.mem_cons.1 hz with rfl | hz
    · omega
    · exact lowL_bytes _ _ z hz
  rw [gazettelaw01_WireTold.j0, if_neg (by simp), hlen, if_neg (by clear hgood; omega), e1, if_pos (Int.natCast_nonneg _), if_pos (by clear hgood; omega), Int.toNat_natCast, hcut]
  unfold wire_Unframe.f
  rw [if_pos hb, Option.bind_some, unf_cut kind n _ hn (by rw [List.length_take]; omega), e8, if_neg hB, hat]
  exact hk2
theorem WireTold : gazettelaw01_WireTold.Pure := by
  intro a0 l1 a2 a3 _ _ hlen hwf _ hw3
  have hb := isB_of_wf hwf
  have hb' := (isB_iff l1).1 hb
  have hm := bounds_u32 hw3
  have hf : ∀ k, gazettelaw01_WireTold.f k a0 l1 a2 a3 = if (frameF a0 l1).2 = 0 then gazettelaw01_WireTold.j0 k a2 a3 (frameF a0 l1).1 false else gazettelaw01_WireTold.j0 k a2 a3 (frameF a0 l1).1 true := by
    intro k
    unfold gazettelaw01_WireTold.f wire_Frame.f gazettelaw01_num.f gazettelaw01_knows.f
    rw [Option.bind_some, if_pos (by rw [List.length_nil]; omega), List.nil_append, if_pos hb, Option.bind_some, Option.bind_some, Option.bind_some]
    rfl
  simp only [hf]
  clear hf
  unfold frameF
  by_cases h1 : a0 < 0
  · rw [if_pos h1]; exact ⟨1, told_bad 0 a2 a3⟩
  rw [if_neg h1]
  by_cases h2 : 255 < a0
  · rw [if_pos h2]; exact ⟨1, told_bad 0 a2 a3⟩
  rw [if_neg h2]
  by_cases h3 : 65536 < l1.length
  · rw [if_pos h3]; exact ⟨1, told_bad 0 a2 a3⟩
  rw [if_neg h3]
  obtain ⟨kind, rfl⟩ := Int.eq_ofNat_of_zero_le (show 0 ≤ a0 by omega)
  obtain ⟨m, rfl⟩ := Int.eq_ofNat_of_zero_le hm.1
  have hbb := frameB_bytes (kind := (kind : Int)) (body := l1) (by omega) (by omega) hb'
  have hcrc := crcOf_lt _ hbb
  have eF : frameB (kind : Int) l1 = hd kind l1.length ++ l1 := rfl
  have hX : isBytes (l1 ++ lowL (crcOf (frameB (kind : Int) l1)) 4) := isBytes_append hb' (lowL_bytes _ _)
  have hXl : (l1 ++ lowL (crcOf (frameB (kind : Int) l1)) 4).length = l1.length + 4 := by rw [List.length_append, lowL_length]
  obtain ⟨k, hk⟩ := told_good kind l1.length m a2 _ (by omega) (by omega) (by omega) hX hXl (by
    rw [List.drop_left, List.take_left, leN_lowL _ _ (show crcOf (frameB (kind : Int) l1) < 256 ^ 4 from hcrc), eF])
  refine ⟨k, ?_⟩
  rw [← List.append_assoc, ← eF] at hk
  exact hk
end Go.Proofs.Ythlfhlnalmpmdaa.Pure
