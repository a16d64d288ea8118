/- wire.Text: what it computes; slices of slices. -/
import Derived.Test.YthnmgbmpbhdfcaaHSpec
namespace Go.Proofs.Ythnmgbmpbhdfcaa.Hand
open Go.RowKit Go.Proofs.Ythnmgbmpbhdfcaa Go.Proofs.YthnmgbmpbhdfcaaW.PrintWords Go.Proofs.YthnmgbmpbhdfcaaW.PrintMore
/-- Slices of bytes that lie in a block, each as it reads. -/
def Segs (w : World) : List Value → List (List Int) → Prop
  | [], [] => True
  | v :: vs, l :: ls => (∃ (A : Option Addr) (c : Nat), v = Value.slice A l.length c ∧ l.length ≤ c ∧ Kd.C (Kd.int .u8) w A l.length l) ∧ Segs w vs ls
  | _, _ => False
theorem Segs.get_ {w : World} : ∀ {vs : List Value} {ls : List (List Int)}, Segs w vs ls → ∀ (j : Nat) (l : List Int), ls[j]? = some l → ∃ (A : Option Addr) (c : Nat), vs[j]? = some (Value.slice A l.length c) ∧ l.length ≤ c ∧ Kd.C (Kd.int .u8) w A l.length l
  | [], [], _, j, l, h => by simp at h
  | v :: vs, m :: ls, h, j, l, hj => by
    cases j with
    | zero =>
      simp at hj; subst hj
      obtain ⟨A, c, rfl, hc, hr⟩ := h.1
      exact ⟨A, c, rfl, hc, hr⟩
    | succ j => rw [List.getElem?_cons_succ] at hj ⊢; exact Segs.get_ h.2 j l hj
  | [], _ :: _, h, _, _, _ => h.elim
  | _ :: _, [], h, _, _, _ => h.elim
theorem Segs.C {w : World} {vs : List Value} {ls : List (List Int)} (h : Segs w vs ls) (hn : ls.length ≤ 9223372036854775807) {g : Nat} {t : TypeId} (hg : w.heap[g]? = some (.cells vs.toArray t (0, 0))) : Kd.C (Kd.slice 5 (Kd.int .u8)) w (some ⟨g, 0, none⟩) ls.length ls := by
  refine ⟨rfl, hn, fun _ => ⟨_, rfl, fun j p hj => ?_⟩⟩
  obtain ⟨A, c, hv, hc, hr⟩ := h.get_ j p hj
  refine ⟨[.slice A p.length c], rfl, ⟨A, c, rfl, hc, hr⟩, fun i u hu => ?_⟩
  have hi : i = 0 := by
    rcases Nat.eq_zero_or_pos i with h | h
    · exact h
    · rw [List.getElem?_eq_none (by simp; omega)] at hu; cases hu
  subst hi
  have hu' : Value.slice A p.length c = u := by simpa using hu
  subst hu'
  rw [show (Kd.slice 5 (Kd.int IntKind.u8)).sz = 1 from rfl, Nat.mul_one, Nat.add_zero, add_plain, blk_cell hg]
  simpa using hv
set_option maxHeartbeats 400000 in
theorem Text_calls0 (s : ByteArray) (w : World) (hs : s.size ≤ 65535) :
    Calls Try.prog 35 #[.string s] w fun e w' => ∃ v0_ : Value, e = .returned (.tuple #[v0_, .int .i64 0]) ∧ Kd.R (Kd.int .u8) 5 w' w.heap.size (fun _ => True) v0_ (lowL s.size 2 ++ bytesOf s) ∧ Below w.heap.size w w' := by
  have hs' : decide (65535 < (s.size : Int)) = false := by simp; omega
  have HL := Aside0.mk (wire_low.calls (s.size : Int) 2 (lowL s.size 2) w (by unfold wire_low.f; rw [if_pos ⟨by omega, by omega, by omega⟩]; rfl))
  have kb := fun W => print_bytes (P := Try.prog) 9 33 5 Try.underlying9 Try.underlying33 Try.underlying5 s W
  go_enter Try.func35, Try.ntmps35
  go_wp2_with (first | (go_at_call 41; refine HL.out.mono ?_; rintro e w1 ⟨v1, rfl, ho1, hb1⟩; obtain ⟨A1, c1, e1⟩ := Kd.R_slice ho1; subst e1; have HO1 := Aside0.mk ho1; have HB1 := Aside0.mk hb1; clear ho1 hb1) | fail)
  have hb2 : Below w.heap.size w (Lib.bytesWorld w1 5 s) := bytes_below HB1.out HB1.out.size 5 s
  have hb21 : Below w1.heap.size w1 (Lib.bytesWorld w1 5 s) := bytes_below (Below.refl _ _) (Nat.le_refl _) 5 s
  generalize hW : Lib.bytesWorld w1 5 s = W2 at *
  have hsegs : Segs (W2.alloc (Obj.cells #[Value.slice A1 (lowL s.size 2).length c1, Value.slice (some ⟨w1.heap.size, 0, none⟩) s.size (grownCap w1 s.size 0 5)] 33)) [Value.slice A1 (lowL s.size 2).length c1, Value.slice (some ⟨w1.heap.size, 0, none⟩) s.size (grownCap w1 s.size 0 5)] [lowL s.size 2, bytesOf s] := by
    obtain ⟨-, hc1, hr1⟩ := Kd.R_reads' HO1.out
    have hby := bytes_reads w1 5 s (by omega)
    rw [hW] at hby
    refine ⟨⟨_, _, rfl, hc1, Kd.C_alloc (Kd.C_below hr1 hb21) _⟩, ⟨_, _, by rw [bytesOf_length], by rw [bytesOf_length]; exact grownCap_ge _ _ _ _, ?_⟩, trivial⟩
    rw [bytesOf_length]
    exact Kd.C_alloc (Kd.C_of_reads hby) _
  refine (wire_join.calls (some ⟨W2.heap.size, 0, none⟩) 2 [lowL s.size 2, bytesOf s] (lowL s.size 2 ++ bytesOf s) _ (hsegs.C (by simp) (heap_alloc_new _ _)) (by simp) ?_).mono ?_
  · unfold wire_join.f
    rw [if_pos]
    · simp
    · refine ⟨?_, by simp⟩
      simp only [List.flatten_cons, List.flatten_nil, List.append_nil, List.length_append, lowL_length, bytesOf_length]; omega
  rintro e w3 ⟨v3, rfl, ho3, hb3⟩
  have HBA := Aside0.mk (below_alloc hb2 (Obj.cells #[Value.slice A1 (lowL s.size 2).length c1, Value.slice (some ⟨w1.heap.size, 0, none⟩) s.size (grownCap w1 s.size 0 5)] 33))
  have HO3 := Aside0.mk ho3
  have HB3 := Aside0.mk hb3
  clear ho3 hb3
  go_wp2_with fail
  go_ret2
  exact ⟨v3, rfl, Kd.R_lower HO3.out (HBA.out.size), below_then hb2 hb2.size (below_then (below_alloc (Below.refl _ _) _) (by simp) HB3.out)⟩
theorem Text_calls1 (s : ByteArray) (w : World) (hs : 65535 < s.size) :
    Calls Try.prog 35 #[.string s] w fun e w' => e = .returned (.tuple #[.slice none 0 0, .int .i64 6]) ∧ w = w' := by
  have hs' : decide (65535 < (s.size : Int)) = true := by simp; omega
  go_enter Try.func35, Try.ntmps35
  go_wp2_with fail
  go_ret2
  exact ⟨rfl, rfl⟩
/-- What wire.Text answers. -/
def textEnc (s : ByteArray) : List Int × Int := if 65535 < s.size then ([], 6) else (lowL s.size 2 ++ bytesOf s, 0)
def wire_Text.f (s : ByteArray) : Option (List Int × Int) := some (textEnc s)
theorem wire_Text.calls (a0 : ByteArray) (r1 : List Int) (r2 : Int) (w : World) (h : wire_Text.f a0 = some (r1, r2)) :
    Calls Try.prog 35 #[.string a0] w fun e w' => ∃ v0_ : Value, e = .returned (.tuple #[v0_, .int .i64 r2]) ∧ Kd.R (Kd.int .u8) 5 w' w.heap.size (fun _ => True) v0_ r1 ∧ Below w.heap.size w w' := by
  unfold wire_Text.f textEnc at h
  by_cases hs : 65535 < a0.size
  · rw [if_pos hs] at h
    have h := Option.some.inj h
    simp only [Prod.mk.injEq] at h
    obtain ⟨rfl, rfl⟩ := h
    refine (Text_calls1 a0 w hs).mono ?_
    rintro e w' ⟨rfl, rfl⟩
    exact ⟨_, rfl, Kd.R_nil _ _ _ _ _, Below.refl _ _⟩
  · rw [if_neg hs] at h
    have h := Option.some.inj h
    simp only [Prod.mk.injEq] at h
    obtain ⟨rfl, rfl⟩ := h
    exact Text_calls0 a0 w (by omega)
end Go.Proofs.Ythnmgbmpbhdfcaa.Hand
