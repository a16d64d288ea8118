/- numbers: numbers as bytes, behind bytes of one's own. -/
import Derived.Test.YtpcoelimabojcaaHRefGet
import Derived.Test.YtpcoelimabojcaaHC3
namespace Go.Proofs.Ytpcoelimabojcaa.Hand
open Go.RowKit Go.Proofs.Ytpcoelimabojcaa Go.Proofs.YtpcoelimabojcaaW.PrintWords Go.Proofs.YtpcoelimabojcaaW.PrintLast
set_option linter.unusedVariables false
set_option linter.unusedSimpArgs false
theorem infoU8 : (Try.prog.info? 5).map (fun i => (i.zero, i.size, i.bytes)) = some (some (.int .u8 0), 1, 1) := by kernel_rfl
/-- What numbers answers. -/
def numsF (b : List Int) (size : Int) (l : List Int) : List Int := b ++ l.flatMap fun n => (putF n size).1
theorem putF_len (n size : Int) : (putF n size).1.length ≤ 6 := by
  unfold putF
  split
  · exact Nat.zero_le _
  split
  · exact Nat.zero_le _
  split
  · exact Nat.zero_le _
  split
  · exact Nat.zero_le _
  · show (lowL _ _).length ≤ 6
    rw [lowL_length]; omega
theorem numsF_len (b : List Int) (size : Int) (l : List Int) : (numsF b size l).length ≤ b.length + 6 * l.length := by
  unfold numsF
  rw [List.length_append]
  have : (l.flatMap fun n => (putF n size).1).length ≤ 6 * l.length := by
    induction l with
    | nil => exact Nat.zero_le _
    | cons x l ih => have h := putF_len x size; rw [List.flatMap_cons, List.length_append, List.length_cons]; omega
  omega
theorem numsF_take (b : List Int) (size : Int) (l : List Int) (i : Nat) (h : i < l.length) : numsF b size (l.take (i + 1)) = numsF b size (l.take i) ++ (putF (l.getD i 0) size).1 := by
  unfold numsF
  rw [List.take_add_one, List.getElem?_eq_getElem h, List.getD_eq_getElem?_getD, List.getElem?_eq_getElem h, List.flatMap_append, List.append_assoc]
  simp
theorem grown_via {w w1 w2 : World} {r r1 : Option Nat} (h : w.grownBy w1 r) (h1 : w1.grownBy w2 r1) (hr : ∀ k, r1 = some k → r = some k ∨ w.heap.size ≤ k) : w.grownBy w2 r :=
  ⟨h1.os.trans h.os, h1.tape.trans h.tape, h1.output.trans h.output, Nat.le_trans h.size h1.size, fun k hk hne => (h1.block k (Nat.lt_of_lt_of_le hk h.size) (fun e => by
    rcases hr k e.symm with h2 | h2
    · exact hne h2.symm
    · omega)).trans (h.block k hk hne)⟩
theorem less2_ {q n : Nat} (h : q < n) : n - (intOf (.int .i64 ((q + 1 : Nat) : Int))).toNat < n - (intOf (.int .i64 (q : Int))).toNat := by simp [intOf]; omega
theorem int_cell3 {w : World} {A : Option Addr} {l : List Int} (h : Kd.C (Kd.int .i64) w A l.length l) (k : Nat) (hk : k < l.length) : ∃ ad, A = some ad ∧ w.cell? (ad.add k) = some (.int .i64 (l.getD k 0)) := by
  obtain ⟨ad, cs, hA, -, hK, hcell⟩ := ReadsRow.get_ h 0 (k : Int) (by omega) (by omega)
  rw [Int.toNat_natCast] at hK hcell
  have hK' : cs = [.int .i64 (l.getD k 0)] := hK
  subst hK'
  have g := hcell 0 _ rfl
  rw [show k * (Kd.int IntKind.i64).sz + 0 = k from Nat.mul_one k] at g
  exact ⟨ad, hA, g⟩
set_option maxHeartbeats 1600000 in
set_option maxRecDepth 100000 in
theorem numbers_c (v : Value) (b : List Int) (size : Int) (B : Option Addr) (c : Nat) (l : List Int) (ok : Nat → Prop) (W : World) (hv : Kd.R (Kd.int .u8) 5 W 0 ok v b) (hok : ∀ k, W.heap.size ≤ k → ok k)
    (hl : ∀ w', W.grownBy w' v.ownBlock → Kd.C (Kd.int .i64) w' B l.length l) (hc : l.length ≤ c) (hmax : b.length + 6 * l.length ≤ 140737488355328) :
    Calls Try.prog 45 #[v, .int .i64 size, .slice B l.length c] W fun e W' => ∃ v', e = .returned v' ∧ Kd.R (Kd.int .u8) 5 W' 0 ok v' (numsF b size l) ∧ W.grownBy W' v.ownBlock ∧ ∀ k, v'.ownBlock = some k → v.ownBlock = some k ∨ W.heap.size ≤ k := by
  have hlm := Kd.C_max (hl W (World.grownBy.refl W _))
  have HL := Aside0.mk hl
  have HV := Aside0.mk (show Kd.R (Kd.int .u8) 5 W 0 (fun k => ok k ∧ (v.ownBlock = some k ∨ W.heap.size ≤ k)) v b from ⟨fun k hk => ⟨hv.1 k hk, .inl hk⟩, hv.2.imp_ (fun _ _ h => h)⟩)
  have HOK := Aside0.mk hok
  obtain ⟨A0, c0, hA0⟩ := Kd.R_slice hv
  clear hl hv hok
  obtain ⟨own, hown⟩ : ∃ own, v.ownBlock = own := ⟨_, rfl⟩
  rw [hown] at HL HV ⊢
  subst hA0
  clear hown
  go_enter Try.func45, Try.ntmps45
  go_wp2_with fail
  go_loopw [0, 13] (fun u0 u13 wr => ∃ i : Nat, i ≤ l.length ∧ u13 = .int .i64 i ∧ Aside0 (Kd.R (Kd.int .u8) 5 wr 0 (fun k => ok k ∧ (own = some k ∨ W.heap.size ≤ k)) u0 (numsF b size (l.take i))) ∧ Aside0 (W.grownBy wr own)) (fun u0 u13 wr => l.length - (intOf u13).toNat)
  case atStart => exact ⟨0, Nat.zero_le _, rfl, ⟨by rw [List.take_zero]; unfold numsF; rw [List.flatMap_nil, List.append_nil]; exact HV.out⟩, ⟨World.grownBy.refl W _⟩⟩
  case round =>
    obtain ⟨i, hi, rfl, HR, HG⟩ := hrel
    by_cases hlt : i < l.length
    · have hlt2 : (i : Int) < (l.length : Int) := by omega
      obtain ⟨a, hA, x0⟩ := int_cell3 (HL.out wr HG.out) i hlt
      have HT := Aside0.mk (numsF_take b size l i hlt)
      have HLN := Aside0.mk (show (numsF b size (l.take i)).length + (putF (l.getD i 0) size).1.length ≤ 140737488355328 by have h1 := numsF_len b size (l.take i); have h2 := putF_len (l.getD i 0) size; rw [List.length_take] at h1; omega)
      have HJ := Aside0.mk (And.intro (Nat.succ_le_of_lt hlt) (less2_ hlt))
      subst hA
      generalize l.getD i 0 = x at x0 HT HLN
      obtain ⟨Ab, cb, rfl⟩ := Kd.R_slice HR.out
      go_wp2_with fail
      refine (wire_Put.calls x size (putF x size).1 (putF x size).2 _ rfl).mono ?_
      rintro e w1 ⟨v0, rfl, hr0, hb0⟩
      obtain ⟨Ax, cx, rfl⟩ := Kd.R_slice hr0
      have HX := Aside0.mk (Kd.R_reads' hr0).2.2
      have HR1 := Aside0.mk (Kd.R_below HR.out hb0)
      have HG1 := Aside0.mk (grown_via (r1 := none) HG.out (grown_of_below hb0 none) (fun k hk => by cases hk))
      have hs1 := Nat.le_trans HG.out.size hb0.size
      clear hr0 hb0
      go_wp2_with (first | (refine Kd.R_append_rows (Kd.int .u8) (w0 := w1) 0 rfl (.tmp 23) (.tmp 24) 56 5 (.int .u8 0) 1 rfl Try.underlying56 infoU8 rfl (by decide) (by decide) _ _ (putF x size).1 Ax _ cx (fun k => ok k ∧ (own = some k ∨ W.heap.size ≤ k)) (fun _ => False) rfl rfl HR1.out HX.out (fun x cs h => h) (fun k h => h.elim) ?hfr (Below.refl _ _) (Nat.zero_le _) ?hln ?_; (case hfr => exact fun k hk => ⟨HOK.out k (Nat.le_trans hs1 hk), .inr (Nat.le_trans hs1 hk)⟩); (case hln => rw [Nat.mul_one]; exact HLN.out); intro v2 w2 ho2 _ hg2 _; have HR2 := Aside0.mk ho2; have HG2 := Aside0.mk (grown_via HG1.out hg2 (fun k hk => (HR1.out.1 k hk).2)); clear ho2 hg2) | fail)
      exact ⟨⟨i + 1, HJ.out.1, rfl, ⟨by rw [HT.out]; exact HR2.out⟩, HG2⟩, HJ.out.2⟩
    · obtain rfl : i = l.length := by omega
      have HR' := Aside0.mk (show Kd.R (Kd.int .u8) 5 wr 0 (fun k => ok k ∧ (own = some k ∨ W.heap.size ≤ k)) u0 (numsF b size l) by have h := HR.out; rw [List.take_length] at h; exact h)
      go_wp2_with fail
      go_ret
      exact ⟨_, rfl, Kd.R_mono HR'.out (fun k hk => hk.1), HG.out, fun k hk => (HR'.out.1 k hk).2⟩
end Go.Proofs.Ytpcoelimabojcaa.Hand
