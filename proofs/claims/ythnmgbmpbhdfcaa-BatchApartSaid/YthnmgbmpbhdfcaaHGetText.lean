/- wire.GetText: what it computes. -/
import Derived.Test.YthnmgbmpbhdfcaaHGet
namespace Go.Proofs.Ythnmgbmpbhdfcaa.Hand
open Go.RowKit Go.Proofs.YthnmgbmpbhdfcaaW.PrintWords

/-- What is known of wire.Get's good answer. -/
theorem getF_ok (l : List Int) (p size : Int) (h : (getF l p size).2.2 = 0) : 0 ≤ p ∧ 1 ≤ size ∧ size ≤ 6 ∧ p + size ≤ l.length ∧ (getF l p size).2.1 = p + size ∧ 0 ≤ (getF l p size).1 := by
  unfold getF at h ⊢
  by_cases h1 : size < 1
  · rw [if_pos h1] at h; simp at h
  rw [if_neg h1] at h ⊢
  by_cases h2 : 6 < size
  · rw [if_pos h2] at h; simp at h
  rw [if_neg h2] at h ⊢
  by_cases h3 : p < 0
  · rw [if_pos h3] at h; simp at h
  rw [if_neg h3] at h ⊢
  by_cases h4 : p ≤ l.length
  · rw [if_pos h4] at h ⊢
    by_cases h5 : size ≤ l.length - p
    · rw [if_pos h5]
      exact ⟨by omega, by omega, by omega, by omega, rfl, Int.natCast_nonneg _⟩
    · rw [if_neg h5] at h; simp at h
  · rw [if_neg h4] at h; simp at h
/-- What wire.GetText answers. -/
def textF (l : List Int) (p : Int) : ByteArray × Int × Int :=
  if (getF l p 2).2.2 = 0 then (if (getF l p 2).1 ≤ l.length - (getF l p 2).2.1 then (strOfNums ((l.take ((getF l p 2).2.1 + (getF l p 2).1).toNat).drop (getF l p 2).2.1.toNat), (getF l p 2).2.1 + (getF l p 2).1, 0) else (⟨#[]⟩, 0, 20))
  else (⟨#[]⟩, 0, (getF l p 2).2.2)
set_option maxHeartbeats 400000 in
theorem GetText_calls0 (A0 : Option Addr) (c0 : Nat) (l0 : List Int) (p : Int) (w : World) (hr0 : Kd.C (Kd.int .u8) w A0 l0.length l0) (hc0 : l0.length ≤ c0) (hb : isBytes l0) :
    Calls Try.prog 46 #[.slice A0 l0.length c0, .int .i64 p] w fun e w' => e = .returned (.tuple #[.string (textF l0 p).1, .int .i64 (textF l0 p).2.1, .int .i64 (textF l0 p).2.2]) ∧ Below w.heap.size w w' := by
  have hmax : l0.length ≤ 9223372036854775807 := Kd.C_max hr0
  have HR := Aside0.mk hr0
  have HBy := Aside0.mk hb
  have HG := Aside0.mk (Get_calls0 A0 c0 l0 p 2 w hr0 hc0 hb)
  have hok := getF_ok l0 p 2
  unfold textF
  clear hr0 hb
  generalize hg : getF l0 p 2 = t at *
  clear hg
  obtain ⟨n, q, er⟩ := t
  dsimp only at *
  by_cases he : er = 0
  · rw [if_pos he]
    obtain ⟨hp, -, -, hpl, hq, hn0⟩ := hok he
    obtain ⟨m, rfl⟩ := Int.eq_ofNat_of_zero_le hn0
    obtain ⟨q, rfl⟩ := Int.eq_ofNat_of_zero_le (show 0 ≤ q by omega)
    subst he
    by_cases h5 : (m : Int) ≤ l0.length - q
    · rw [if_pos h5]
      have h5' : decide ((m : Int) ≤ (l0.length : Int) - q) = true := by simpa using h5
      have h6' : decide ((q : Int) ≤ (l0.length : Int)) = true := by simp; omega
      rw [show ((q : Int) + m).toNat = q + m by omega, Int.toNat_natCast]
      clear hok hq hn0
      go_enter Try.func46, Try.ntmps46
      go_wp2_with (first | (go_at_call 45; refine HG.out.mono ?_; rintro e w1 ⟨rfl, hb1⟩; have HB1 := Aside0.mk hb1; clear hb1) | (go_at_call 47; refine (has_calls w1.heap.size A0 l0.length c0 q m _ (new_reader _ _ _ _ rfl) (by omega) (by omega)).mono ?_; rintro e w2 ⟨rfl, hd2⟩; rw [h6', h5']; have HD2 := Aside0.mk hd2; clear hd2) | fail)
      have HBw2 := Aside0.mk (drawn_below (below_alloc HB1.out (.cells #[.slice A0 l0.length c0, .int .i64 q] 78 (0, 0))) HD2.out)
      have HBL2 := Aside0.mk (drawn_blk HD2.out (new_reader A0 l0.length c0 (q : Int) rfl))
      refine (take_calls w w1.heap.size A0 c0 l0 q m w2 HBL2.out HR.out hc0 (by omega)).mono ?_
      rintro e w3 ⟨A1, c1, rfl, hc1, hr1, hd3⟩
      have hcell : w3.cell? ⟨w1.heap.size, 1, none⟩ = some (.int .i64 ((q : Int) + m)) := by rw [blk_cell (drawn_blk hd3 (blk_set HBL2.out 1 _)) 1]; rfl
      have hB3 := drawn_below (HBw2.out.setCell HB1.out.size _) hd3
      have hcv := Kd.C_string (P := Try.prog) (c := c1) (dst := 9) Try.underlying33 Try.underlying5 Try.underlying9 (Kd.C_below hr1 hB3)
      have HB3 := Aside0.mk hB3
      clear hd3 hB3 hr1
      go_wp2_with fail
      go_quiet (fail)
      go_wp2_with fail
      go_ret3
      exact ⟨rfl, pw_below_drewN HB3.out _⟩
    · rw [if_neg h5]
      have h5' : decide ((m : Int) ≤ (l0.length : Int) - q) = false := by simpa using h5
      have h6' : decide ((q : Int) ≤ (l0.length : Int)) = true := by simp; omega
      clear hok hq hn0
      go_enter Try.func46, Try.ntmps46
      go_wp2_with (first | (go_at_call 45; refine HG.out.mono ?_; rintro e w1 ⟨rfl, hb1⟩; have HB1 := Aside0.mk hb1; clear hb1) | (go_at_call 47; refine (has_calls w1.heap.size A0 l0.length c0 q m _ (new_reader _ _ _ _ rfl) (by omega) (by omega)).mono ?_; rintro e w2 ⟨rfl, hd2⟩; rw [h6', h5']; have HD2 := Aside0.mk hd2; clear hd2) | fail)
      go_ret3
      exact ⟨rfl, drawn_below (below_alloc HB1.out _) HD2.out⟩
  · rw [if_neg he]
    have he' : (er != 0) = true := by simpa using he
    clear hok
    go_enter Try.func46, Try.ntmps46
    go_wp2_with (first | (go_at_call 45; refine HG.out.mono ?_; rintro e w1 ⟨rfl, hb1⟩; have HB1 := Aside0.mk hb1; clear hb1) | fail)
    go_ret3
    exact ⟨rfl, HB1.out⟩
end Go.Proofs.Ythnmgbmpbhdfcaa.Hand
