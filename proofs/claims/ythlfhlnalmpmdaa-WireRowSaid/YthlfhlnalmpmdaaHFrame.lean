/- wire.Frame: what it computes. -/
import Derived.Test.YthlfhlnalmpmdaaHSpec3
namespace Go.Proofs.Ythlfhlnalmpmdaa.Hand
open Go.RowKit Go.Proofs.Ythlfhlnalmpmdaa Go.Proofs.YthlfhlnalmpmdaaW.PrintWords Go.Proofs.YthlfhlnalmpmdaaW.PrintMore
/-- A frame ahead of its sum. -/
def frameB (kind : Int) (body : List Int) : List Int := kind :: (lowL body.length 4 ++ body)
/-- What wire.Frame answers. -/
def frameF (kind : Int) (body : List Int) : List Int × Int :=
  if kind < 0 then ([], 1) else if 255 < kind then ([], 1) else if 65536 < body.length then ([], 6) else (frameB kind body ++ lowL (crcOf (frameB kind body)) 4, 0)
theorem frameB_bytes {kind : Int} {body : List Int} (h0 : 0 ≤ kind) (h1 : kind ≤ 255) (hb : isBytes body) : isBytes (frameB kind body) := by
  intro x hx
  rcases List.mem_cons.1 hx with rfl | hx
  · exact ⟨h0, h1⟩
  · exact isBytes_append (lowL_bytes _ _) hb x hx
theorem frameB_length (kind : Int) (body : List Int) : (frameB kind body).length = body.length + 5 := by simp [frameB, lowL_length]; omega
theorem Segs.two {W : World} {A1 A2 : Option Addr} {n1 c1 n2 c2 : Nat} {l1 l2 : List Int} (h1 : l1.length = n1) (hc1 : n1 ≤ c1) (hr1 : Kd.C (Kd.int .u8) W A1 l1.length l1) (h2 : l2.length = n2) (hc2 : n2 ≤ c2) (hr2 : Kd.C (Kd.int .u8) W A2 l2.length l2) : Segs W [Value.slice A1 n1 c1, Value.slice A2 n2 c2] [l1, l2] := by
  subst h1 h2
  exact ⟨⟨A1, c1, rfl, hc1, hr1⟩, ⟨A2, c2, rfl, hc2, hr2⟩, trivial⟩
theorem Segs.three {W : World} {A1 A2 A3 : Option Addr} {n1 c1 n2 c2 n3 c3 : Nat} {l1 l2 l3 : List Int} (h1 : l1.length = n1) (hc1 : n1 ≤ c1) (hr1 : Kd.C (Kd.int .u8) W A1 l1.length l1) (h2 : l2.length = n2) (hc2 : n2 ≤ c2) (hr2 : Kd.C (Kd.int .u8) W A2 l2.length l2) (h3 : l3.length = n3) (hc3 : n3 ≤ c3) (hr3 : Kd.C (Kd.int .u8) W A3 l3.length l3) : Segs W [Value.slice A1 n1 c1, Value.slice A2 n2 c2, Value.slice A3 n3 c3] [l1, l2, l3] := by
  subst h1 h2 h3
  exact ⟨⟨A1, c1, rfl, hc1, hr1⟩, ⟨A2, c2, rfl, hc2, hr2⟩, ⟨A3, c3, rfl, hc3, hr3⟩, trivial⟩
theorem C_single {W : World} {g : Nat} {t : TypeId} {k : Int} (hg : W.heap[g]? = some (.cells #[.int .u8 k] t (0, 0))) : Kd.C (Kd.int .u8) W (some ⟨g, 0, none⟩) 1 [k] := by
  refine ⟨rfl, by omega, fun _ => ⟨_, rfl, fun j p hj => ?_⟩⟩
  obtain ⟨rfl, rfl⟩ : j = 0 ∧ p = k := by
    cases j with
    | zero => exact ⟨rfl, by simpa using hj.symm⟩
    | succ j => simp at hj
  refine ⟨[.int .u8 p], rfl, rfl, fun i u hu => ?_⟩
  obtain ⟨rfl, rfl⟩ : i = 0 ∧ u = .int .u8 p := by
    cases i with
    | zero => exact ⟨rfl, by simpa using hu.symm⟩
    | succ i => simp at hu
  rw [show (Kd.int IntKind.u8).sz = 1 from rfl, add_plain, blk_cell hg]; rfl
theorem join_segs {W : World} {vs : List Value} {ls : List (List Int)} {g : Nat} {t : TypeId} (n : Nat) (h : Segs W vs ls) (hg : W.heap[g]? = some (.cells vs.toArray t (0, 0))) (hn : ls.length = n) (hf : ls.flatten.length < 140737488355328) (hl : n < 4611686018427387904) :
    Calls Try.prog 34 #[.slice (some ⟨g, 0, none⟩) n n] W fun e w' => ∃ v0_ : Value, e = .returned (v0_) ∧ Kd.R (Kd.int .u8) 5 w' W.heap.size (fun _ => True) v0_ ls.flatten ∧ Below W.heap.size W w' := by
  subst hn
  exact wire_join.calls _ _ ls _ W (h.C (by omega) hg) (Nat.le_refl _) (by unfold wire_join.f; rw [if_pos ⟨hf, hl⟩])
set_option maxHeartbeats 1000000 in
theorem Frame_good (kind : Int) (A1 : Option Addr) (c1 : Nat) (l1 : List Int) (w : World) (hr1 : Kd.C (Kd.int .u8) w A1 l1.length l1) (hc1 : l1.length ≤ c1) (hb : isBytes l1) (h0 : 0 ≤ kind) (h1 : kind ≤ 255) (hl : l1.length ≤ 65536) :
    Calls Try.prog 21 #[.int .i64 kind, .slice A1 l1.length c1] w fun e w' => ∃ v0_ : Value, e = .returned (.tuple #[v0_, .int .i64 0]) ∧ Kd.R (Kd.int .u8) 5 w' w.heap.size (fun _ => True) v0_ (frameB kind l1 ++ lowL (crcOf (frameB kind l1)) 4) ∧ Below w.heap.size w w' := by
  have h0' : decide (kind < 0) = false := by simpa using h0
  have h1' : decide (255 < kind) = false := by simpa using h1
  have hl' : decide (65536 < (l1.length : Int)) = false := by simp; omega
  have hbb := frameB_bytes h0 h1 hb
  have hblen := frameB_length kind l1
  have hcrc := crcOf_lt _ hbb
  have HR1 := Aside0.mk hr1
  have HL1 := Aside0.mk (fun W => wire_low.calls (l1.length : Int) 4 (lowL l1.length 4) W (by unfold wire_low.f; rw [if_pos ⟨by omega, by omega, by omega⟩]; rfl))
  have HL2 := Aside0.mk (fun W => wire_low.calls ((crcOf (frameB kind l1) : Nat) : Int) 4 (lowL (crcOf (frameB kind l1)) 4) W (by unfold wire_low.f; rw [if_pos ⟨by omega, by omega, by omega⟩]; rfl))
  have HBB := Aside0.mk hbb
  have HBL := Aside0.mk hblen
  clear hr1 hbb hblen
  go_enter Try.func21, Try.ntmps21
  go_wp2_with fail
  refine (HL1.out _).mono ?_
  rintro e w2 ⟨v2, rfl, ho2, hb2⟩
  obtain ⟨A2, c2, e2⟩ := Kd.R_slice ho2
  subst e2
  have HO2 := Aside0.mk ho2
  have HB2 := Aside0.mk hb2
  clear ho2 hb2
  go_wp2_with fail
  have hbw2 : Below w.heap.size w w2 := below_then (below_alloc (Below.refl _ _) (.cells #[.int .u8 kind] 5)) (by simp) HB2.out
  have hk2 : w2.heap[w.heap.size]? = some (.cells #[.int .u8 kind] 5 (0, 0)) := (HB2.out.block _ (by simp)).trans (heap_alloc_new _ _)
  have hr2 := Kd.R_reads' HO2.out
  have HBW2 := Aside0.mk hbw2
  refine (join_segs 3 (Segs.three (l1 := [kind]) (l2 := lowL l1.length 4) (l3 := l1) rfl (Nat.le_refl _) (Kd.C_alloc (C_single hk2) _) rfl hr2.2.1 (Kd.C_alloc hr2.2.2 _) rfl hc1 (Kd.C_alloc (Kd.C_below HR1.out hbw2) _)) (heap_alloc_new _ _) rfl (by simp [lowL_length]; omega) (by omega)).mono ?_
  rintro e w3 ⟨v3, rfl, ho3, hb3⟩
  rw [show [[kind], lowL l1.length 4, l1].flatten = frameB kind l1 by simp [frameB]] at ho3
  obtain ⟨A3, c3, e3⟩ := Kd.R_slice ho3
  subst e3
  have HB3 := Aside0.mk (below_then (below_then hbw2 hbw2.size (below_alloc (Below.refl _ _) _)) (below_alloc hbw2 _).size hb3)
  have HO3 := Aside0.mk ho3
  clear ho3 hb3 hr2 hk2 hbw2
  generalize hfb : frameB kind l1 = fb at *
  go_wp2_with fail
  refine (Crc_calls0 A3 c3 fb w3 (Kd.R_reads' HO3.out).2.2 HBB.out).mono ?_
  rintro e w4 ⟨rfl, hb4⟩
  have HB4 := Aside0.mk hb4
  clear hb4
  go_wp2_with fail
  refine (HL2.out _).mono ?_
  rintro e w5 ⟨v5, rfl, ho5, hb5⟩
  obtain ⟨A5, c5, e5⟩ := Kd.R_slice ho5
  subst e5
  have HO5 := Aside0.mk ho5
  have HB5 := Aside0.mk (below_then HB4.out HB4.out.size hb5)
  clear ho5 hb5
  go_wp2_with fail
  have hr3 := Kd.R_reads' HO3.out
  have hr5 := Kd.R_reads' HO5.out
  have hlen5 : (lowL (crcOf fb) 4).length = 4 := lowL_length _ _
  have hblen := HBL.out
  refine (join_segs 2 (Segs.two (l1 := fb) (l2 := lowL (crcOf fb) 4) rfl hr3.2.1 (Kd.C_alloc (Kd.C_below hr3.2.2 HB5.out) _) rfl hr5.2.1 (Kd.C_alloc hr5.2.2 _)) (heap_alloc_new _ _) rfl (by simp [lowL_length]; omega) (by omega)).mono ?_
  rintro e w6 ⟨v6, rfl, ho6, hb6⟩
  rw [show [fb, lowL (crcOf fb) 4].flatten = fb ++ lowL (crcOf fb) 4 by simp] at ho6
  have HW5 := Aside0.mk (below_then HB3.out HB3.out.size HB5.out)
  have HO6 := Aside0.mk ho6
  have HB6 := Aside0.mk hb6
  clear ho6 hb6 hr3 hr5 hlen5 hblen
  go_wp2_with fail
  go_ret2
  rw [hfb]
  refine ⟨v6, rfl, Kd.R_lower HO6.out ((below_alloc HW5.out _).size), below_then (below_alloc HW5.out _) (below_alloc HW5.out _).size HB6.out⟩
theorem Frame_arg (kind : Int) (A1 : Option Addr) (n1 c1 : Nat) (w : World) (h : kind < 0 ∨ 255 < kind) :
    Calls Try.prog 21 #[.int .i64 kind, .slice A1 n1 c1] w fun e w' => e = .returned (.tuple #[.slice none 0 0, .int .i64 1]) ∧ w = w' := by
  by_cases h0 : kind < 0
  · have h0' : decide (kind < 0) = true := by simpa using h0
    go_enter Try.func21, Try.ntmps21
    go_wp2_with fail
    go_ret2
    exact ⟨rfl, rfl⟩
  · have h0' : decide (kind < 0) = false := by simpa using h0
    have h1' : decide (255 < kind) = true := by simp; omega
    go_enter Try.func21, Try.ntmps21
    go_wp2_with fail
    go_ret2
    exact ⟨rfl, rfl⟩
theorem Frame_size (kind : Int) (A1 : Option Addr) (n1 c1 : Nat) (w : World) (h0 : 0 ≤ kind) (h1 : kind ≤ 255) (hl : 65536 < n1) :
    Calls Try.prog 21 #[.int .i64 kind, .slice A1 n1 c1] w fun e w' => e = .returned (.tuple #[.slice none 0 0, .int .i64 6]) ∧ w = w' := by
  have h0' : decide (kind < 0) = false := by simpa using h0
  have h1' : decide (255 < kind) = false := by simpa using h1
  have hl' : decide (65536 < (n1 : Int)) = true := by simp; omega
  go_enter Try.func21, Try.ntmps21
  go_wp2_with fail
  go_ret2
  exact ⟨rfl, rfl⟩
def wire_Frame.f (kind : Int) (l : List Int) : Option (List Int × Int) := if isB l = true then some (frameF kind l) else none
theorem wire_Frame.calls (a0 : Int) (A1 : Option Addr) (c1 : Nat) (l1 : List Int) (r1 : List Int) (r2 : Int) (w : World) (hr1 : Kd.C (Kd.int .u8) w A1 l1.length l1) (hc1 : l1.length ≤ c1) (h : wire_Frame.f a0 l1 = some (r1, r2)) :
    Calls Try.prog 21 #[.int .i64 a0, .slice A1 l1.length c1] w fun e w' => ∃ v0_ : Value, e = .returned (.tuple #[v0_, .int .i64 r2]) ∧ Kd.R (Kd.int .u8) 5 w' w.heap.size (fun _ => True) v0_ r1 ∧ Below w.heap.size w w' := by
  unfold wire_Frame.f at h
  by_cases hb : isB l1 = true
  · rw [if_pos hb] at h
    have h := Option.some.inj h
    have hb' := (isB_iff l1).1 hb
    have low : ∀ {e : Ending} {w' : World} (x : Int), e = .returned (.tuple #[.slice none 0 0, .int .i64 x]) ∧ w = w' → ∃ v1_ : Value, e = .returned (.tuple #[v1_, .int .i64 x]) ∧ Kd.R (Kd.int .u8) 5 w' w.heap.size (fun _ => True) v1_ [] ∧ Below w.heap.size w w' := by
      rintro e w' x ⟨rfl, rfl⟩
      exact ⟨_, rfl, Kd.R_nil _ _ _ _ _, Below.refl _ _⟩
    unfold frameF at h
    by_cases h1 : a0 < 0
    · rw [if_pos h1] at h
      simp only [Prod.mk.injEq] at h
      obtain ⟨rfl, rfl⟩ := h
      exact (Frame_arg a0 A1 _ c1 w (.inl h1)).mono fun e w' hh => low 1 hh
    rw [if_neg h1] at h
    by_cases h2 : 255 < a0
    · rw [if_pos h2] at h
      simp only [Prod.mk.injEq] at h
      obtain ⟨rfl, rfl⟩ := h
      exact (Frame_arg a0 A1 _ c1 w (.inr h2)).mono fun e w' hh => low 1 hh
    rw [if_neg h2] at h
    by_cases h3 : 65536 < l1.length
    · rw [if_pos h3] at h
      simp only [Prod.mk.injEq] at h
      obtain ⟨rfl, rfl⟩ := h
      exact (Frame_size a0 A1 _ c1 w (by omega) (by omega) h3).mono fun e w' hh => low 6 hh
    rw [if_neg h3] at h
    simp only [Prod.mk.injEq] at h
    obtain ⟨rfl, rfl⟩ := h
    exact Frame_good a0 A1 c1 l1 w hr1 hc1 hb' (by omega) (by omega) (by omega)
  · rw [if_neg hb] at h; cases h
end Go.Proofs.Ythlfhlnalmpmdaa.Hand
