/- A Net's methods: Luck, Left, Late, Send. -/
import Derived.Test.YtckeahjlfopaaaaHN4
namespace Go.Proofs.Ytckeahjlfopaaaa.Hand
open Go.RowKit Go.Proofs.Ytckeahjlfopaaaa Go.Proofs.YtckeahjlfopaaaaW.PrintWords Go.Proofs.YtckeahjlfopaaaaW.PrintLast
set_option linter.unusedVariables false
set_option linter.unusedSimpArgs false
set_option maxHeartbeats 1600000 in
set_option maxRecDepth 100000 in
theorem luck_c (F : Nat → Prop) (g : Nat) (lu l : List Int) (la : List (Int × List Int)) (A : Option Addr) (c : Nat) (W : World) (h : NI W F g lu la) (hr : Kd.C (Kd.int .i64) W A l.length l) (hl : (lu.length + l.length) * 8 ≤ 140737488355328) :
    Calls Try.prog 9 #[.pointer (some ⟨g, 0, none⟩), .slice A l.length c] W fun e W' => e = .returned (.tuple #[]) ∧ NI W' (more F W W') g (lu ++ l) la ∧ Fr F W W' := by
  obtain ⟨⟨v, vm, h1, h2, h3⟩, ho, hlt⟩ := h
  have H := Aside0.mk (And.intro h1 (And.intro h2 (And.intro h3 (And.intro ho (And.intro hlt hr)))))
  clear h1 h2 h3 ho hlt hr
  go_enter Try.func9, Try.ntmps9
  go_wp2_with fail
  refine (none_c g v vm true W H.out.1).mono ?_
  rintro e w1 ⟨rfl, rfl⟩
  go_wp2_with fail
  refine (put_int g v vm true lu l A c (fun k => F k ∨ W.heap.size ≤ k) W H.out.1 (Kd.R_mono H.out.2.1 (fun _ h => .inl h)) H.out.2.2.2.2.2 (fun k hk => .inr hk) hl).mono ?_
  rintro e W1 ⟨rfl, v', hg1, ho1, hf1, hat⟩
  have K := Aside0.mk (NI.luck_step H.out.1 H.out.2.1 H.out.2.2.1 H.out.2.2.2.1 H.out.2.2.2.2.1 hg1 ho1 hf1)
  clear hg1 ho1 hf1 hat
  go_wp2_with fail
  exact bodyPost_end (results_none rfl _ _ _) rfl ⟨rfl, K.out.1, K.out.2⟩
theorem luck_off (p : Value) (hp : ∀ W, Calls Try.prog 18 #[p] W fun e W' => e = .returned (.bool true) ∧ W = W') (x : Value) (W : World) : Calls Try.prog 9 #[p, x] W fun e W' => e = .returned (.tuple #[]) ∧ W = W' := by
  go_enter Try.func9, Try.ntmps9
  go_wp2_with fail
  refine (hp W).mono ?_
  rintro e w ⟨rfl, rfl⟩
  go_wp2_with fail
  exact bodyPost_end (results_none rfl _ _ _) rfl ⟨rfl, rfl⟩
theorem left_c (g : Nat) (vm : Value) (lu : List Int) (A : Option Addr) (c : Nat) (W : World) (h : W.heap[g]? = some (.cells #[.slice A lu.length c, vm, .bool true] 54 (0, 0))) : Calls Try.prog 12 #[.pointer (some ⟨g, 0, none⟩)] W fun e W' => e = .returned (.int .i64 lu.length) ∧ W = W' := by
  have H := Aside0.mk h
  have z : W.cell? ⟨g, 0, none⟩ = some (.slice A lu.length c) := (blk_cell h 0).trans rfl
  clear h
  go_enter Try.func12, Try.ntmps12
  go_wp2_with fail
  refine (none_c g _ vm true W H.out).mono ?_
  rintro e w ⟨rfl, rfl⟩
  go_wp2_with fail
  go_ret
  exact ⟨rfl, rfl⟩
theorem left_ni {F : Nat → Prop} {g : Nat} {lu : List Int} {la : List (Int × List Int)} {W : World} (h : NI W F g lu la) : Calls Try.prog 12 #[.pointer (some ⟨g, 0, none⟩)] W fun e W' => e = .returned (.int .i64 lu.length) ∧ W = W' := by
  obtain ⟨⟨v, vm, h1, h2, h3⟩, ho, hlt⟩ := h
  obtain ⟨A, c, rfl⟩ := Kd.R_slice h2
  exact left_c g vm lu A c W h1
theorem left_off (p : Value) (hp : ∀ W, Calls Try.prog 18 #[p] W fun e W' => e = .returned (.bool true) ∧ W = W') (W : World) : Calls Try.prog 12 #[p] W fun e W' => e = .returned (.int .i64 0) ∧ W = W' := by
  go_enter Try.func12, Try.ntmps12
  go_wp2_with fail
  refine (hp W).mono ?_
  rintro e w ⟨rfl, rfl⟩
  go_wp2_with fail
  go_ret
  exact ⟨rfl, rfl⟩
theorem late_c (g : Nat) (v : Value) (n : Nat) (A : Option Addr) (c : Nat) (W : World) (h : W.heap[g]? = some (.cells #[v, .slice A n c, .bool true] 54 (0, 0))) : Calls Try.prog 11 #[.pointer (some ⟨g, 0, none⟩)] W fun e W' => e = .returned (.int .i64 n) ∧ W = W' := by
  have H := Aside0.mk h
  have z : W.cell? ⟨g, 1, none⟩ = some (.slice A n c) := (blk_cell h 1).trans rfl
  clear h
  go_enter Try.func11, Try.ntmps11
  go_wp2_with fail
  refine (none_c g v _ true W H.out).mono ?_
  rintro e w ⟨rfl, rfl⟩
  go_wp2_with fail
  go_ret
  exact ⟨rfl, rfl⟩
theorem late_ni {F : Nat → Prop} {g : Nat} {lu : List Int} {la : List (Int × List Int)} {W : World} (h : NI W F g lu la) : Calls Try.prog 11 #[.pointer (some ⟨g, 0, none⟩)] W fun e W' => e = .returned (.int .i64 la.length) ∧ W = W' := by
  obtain ⟨⟨v, vm, h1, h2, h3⟩, ho, hlt⟩ := h
  obtain ⟨A, c, rfl⟩ := Kd.R_slice h3
  exact late_c g v la.length A c W h1
theorem late_off (p : Value) (hp : ∀ W, Calls Try.prog 18 #[p] W fun e W' => e = .returned (.bool true) ∧ W = W') (W : World) : Calls Try.prog 11 #[p] W fun e W' => e = .returned (.int .i64 0) ∧ W = W' := by
  go_enter Try.func11, Try.ntmps11
  go_wp2_with fail
  refine (hp W).mono ?_
  rintro e w ⟨rfl, rfl⟩
  go_wp2_with fail
  go_ret
  exact ⟨rfl, rfl⟩
theorem send_off (p : Value) (hp : ∀ W, Calls Try.prog 18 #[p] W fun e W' => e = .returned (.bool true) ∧ W = W') (x y : Value) (W : World) : Calls Try.prog 10 #[p, x, y] W fun e W' => e = .returned (.tuple #[.int .i64 0, .bool false]) ∧ W = W' := by
  go_enter Try.func10, Try.ntmps10
  go_wp2_with fail
  refine (hp W).mono ?_
  rintro e w ⟨rfl, rfl⟩
  go_wp2_with fail
  go_ret2
  exact ⟨rfl, rfl⟩
/-- What becomes of a message, by the rest. -/
def fateF (r : Int) : Int × Bool := if r = 0 then (1, true) else if r = 2 then (1, false) else if r = 4 then (2, true) else (0, false)

def TS6 : Bool × List (List Nat × List Nat) := (true, [([], []), ([0], [0]), ([1], [1]), ([], []), ([], []), ([4], [4]), ([3, 5], [3, 5]), ([6], [6]), ([2, 7, 5], [2, 7])])
def BS6 : List Nat := [0, 1, 3, 0, 0, 16, 56, 120, 255]
theorem tabS6 : rtab .any (opsOf Try.f10 6) = TS6 := by kernel_rfl
theorem bitsS6 : waitsOk TS6.2 BS6 = true := by kernel_rfl

def restF (x : Int) : Int := (wrap64 (x.tmod 5 + 5)).tmod 5
theorem rest_cases (x : Int) : restF x = 0 ∨ restF x = 1 ∨ restF x = 2 ∨ restF x = 3 ∨ restF x = 4 := by
  unfold restF wrap64
  have g1 := Int.tmod_lt_of_pos x (show (0 : Int) < 5 by decide)
  have g2 := Int.lt_tmod_of_pos x (show (0 : Int) < 5 by decide)
  have h1 : x.tmod 5 = -4 ∨ x.tmod 5 = -3 ∨ x.tmod 5 = -2 ∨ x.tmod 5 = -1 ∨ x.tmod 5 = 0 ∨ x.tmod 5 = 1 ∨ x.tmod 5 = 2 ∨ x.tmod 5 = 3 ∨ x.tmod 5 = 4 := by omega
  rcases h1 with h | h | h | h | h | h | h | h | h <;> rw [h] <;> decide
/-- The number that waits first; 0 without. -/
def hd0 (lu : List Int) : Int := lu.headD 0
theorem take0 (g : Nat) (v vm : Value) (lu : List Int) (F : Nat → Prop) (W : World) (hg0 : W.heap[g]? = some (.cells #[v, vm, .bool true] 54 (0, 0))) (HO0 : Kd.R (Kd.int .i64) 3 W 0 F v lu) :
    Calls Try.prog 20 #[.pointer (some ⟨g, 0, none⟩), .int .i64 0] W fun e W' => ∃ b, e = .returned (.tuple #[.int .i64 (hd0 lu), .bool b]) ∧ ∃ v', W'.heap[g]? = some (.cells #[v', vm, .bool true] 54 (0, 0)) ∧ Kd.R (Kd.int .i64) 3 W' 0 F v' lu.tail ∧ Fr (fun k => k = g ∨ some k = v.ownBlock) W W' := by
  rcases lu with _ | ⟨x, lu⟩
  · refine (take_int_no g v vm true [] 0 W hg0 F HO0 (by simp)).mono ?_
    rintro e w ⟨rfl, rfl⟩
    exact ⟨false, rfl, v, hg0, HO0, Fr.refl _ _⟩
  · refine (take_int g v vm true (x :: lu) 0 W hg0 F HO0 (by simp)).mono ?_
    rintro e w ⟨rfl, v', h1, h2, h3, _⟩
    exact ⟨true, rfl, v', h1, h2, h3⟩
/-- What Send leaves. -/
def SendPost (F : Nat → Prop) (g : Nat) (dest : Int) (lu : List Int) (la : List (Int × List Int)) (b : List Int) (W : World) (e : Ending) (W' : World) : Prop :=
  e = .returned (.tuple #[.int .i64 (fateF (restF (hd0 lu))).1, .bool (fateF (restF (hd0 lu))).2]) ∧ ∃ F', NI W' F' g lu.tail (if restF (hd0 lu) = 3 then la ++ [(dest, b)] else la) ∧ (∀ k, F' k → F k ∨ W.heap.size ≤ k) ∧ Fr F W W'
theorem SendPost.mk {F : Nat → Prop} {g : Nat} {dest : Int} {lu : List Int} {la : List (Int × List Int)} {b : List Int} {W W1 W' : World} (K : NI W1 (more F W W1) g lu.tail la ∧ Fr F W W1) (hb : Below W1.heap.size W1 W') {r : Int} (hr : restF (hd0 lu) = r) (h3 : r ≠ 3) {e : Ending}
    (he : e = .returned (.tuple #[.int .i64 (fateF r).1, .bool (fateF r).2])) : SendPost F g dest lu la b W e W' := by
  unfold SendPost
  rw [hr, if_neg h3]
  exact ⟨he, more F W W1, K.1.below hb, fun k hk => hk.imp id (fun h => h.1), K.2.trans (Fr.of_below (F := fun _ => False) hb) (fun _ h => h.elim)⟩
theorem SendPost.mk3 {F : Nat → Prop} {g : Nat} {dest : Int} {lu : List Int} {la : List (Int × List Int)} {b : List Int} {W W1 Wd w3 w4 W' : World} (K : NI w4 (more (more F W W1) Wd w4) g lu.tail (la ++ [(dest, b)]) ∧ Fr (more F W W1) Wd w4) (hF : Fr F W Wd) (h3 : Wd.heap.size ≤ w3.heap.size)
    (hb : Below w4.heap.size w4 W') (hr : restF (hd0 lu) = 3) {e : Ending} (he : e = .returned (.tuple #[.int .i64 0, .bool false])) : SendPost F g dest lu la b W e W' := by
  unfold SendPost
  rw [hr, if_pos rfl]
  refine ⟨he, _, K.1.below hb, fun k hk => ?_, (hF.trans K.2 (fun q hq => hq.imp id (fun h => h.1))).trans (Fr.of_below (F := fun _ => False) hb) (fun _ h => h.elim)⟩
  rcases hk with hk | hk
  · exact hk.imp id (fun h => h.1)
  · exact .inr (Nat.le_trans hF.size hk.1)
set_option maxHeartbeats 3200000 in
set_option maxRecDepth 100000 in
theorem send_c (F : Nat → Prop) (g : Nat) (dest : Int) (lu : List Int) (la : List (Int × List Int)) (A : Option Addr) (c : Nat) (b : List Int) (W : World) (h : NI W F g lu la) (hr : ∀ W', Fr F W W' → Kd.C (Kd.int .u8) W' A b.length b) (hl : b.length ≤ 140737488351232) (hla : (la.length + 1) * 32 ≤ 140737488355328) :
    Calls Try.prog 10 #[.pointer (some ⟨g, 0, none⟩), .int .i64 dest, .slice A b.length c] W (SendPost F g dest lu la b W) := by
  obtain ⟨⟨v, vm, h1, h2, h3⟩, ho, hlt⟩ := h
  have H := Aside0.mk (And.intro h1 (And.intro h2 (And.intro h3 (And.intro ho (And.intro hlt hr)))))
  clear h1 h2 h3 ho hlt hr
  go_enter Try.func10, Try.ntmps10
  go_wp2_with fail
  refine (none_c g v vm true W H.out.1).mono ?_
  rintro e w1 ⟨rfl, rfl⟩
  go_wp2_with fail
  refine (take0 g v vm lu F W H.out.1 H.out.2.1).mono ?_
  rintro e W1 ⟨bb, rfl, v1, hg1, ho1, hf1⟩
  have K := Aside0.mk (NI.luck_step H.out.1 H.out.2.1 H.out.2.2.1 H.out.2.2.2.1 H.out.2.2.2.2.1 hg1 (Kd.R_mono ho1 (fun _ h => .inl h)) hf1)
  have HB := Aside0.mk (H.out.2.2.2.2.2 W1 K.out.2)
  clear hg1 ho1 hf1
  have hx : ∃ r, restF (hd0 lu) = r := ⟨_, rfl⟩
  obtain ⟨r, hr⟩ := hx
  have hr2 : (wrap64 ((hd0 lu).tmod 5 + 5)).tmod 5 = r := hr
  have hc := rest_cases (hd0 lu)
  rw [hr] at hc
  have HR := Aside0.mk hr
  clear hr
  rcases hc with rfl | rfl | rfl | rfl | rfl
  · go_wp2_with fail
    go_quiet (fail)
    go_wp2_with fail
    go_ret2
    exact SendPost.mk K.out (by repeat (first | exact Below.refl _ _ | apply pw_below_drewN | apply below_alloc)) HR.out (by decide) rfl
  · go_wp2_with fail
    go_ret2
    exact SendPost.mk K.out (by repeat (first | exact Below.refl _ _ | apply pw_below_drewN | apply below_alloc)) HR.out (by decide) rfl
  · go_wp2_with fail
    go_quiet (fail)
    go_wp2_with fail
    go_ret2
    exact SendPost.mk K.out (by repeat (first | exact Below.refl _ _ | apply pw_below_drewN | apply below_alloc)) HR.out (by decide) rfl
  · go_wp2_with fail
    have K2 := Aside0.mk (show NI W1.drew (more F W W1) g lu.tail la ∧ Fr F W W1.drew from ⟨K.out.1.below (below_drew (Below.refl _ _)), K.out.2.trans (Fr.of_below (F := fun _ => False) (below_drew (Below.refl _ _))) (fun _ h => h.elim)⟩)
    have HB2 := Aside0.mk (Kd.C_below HB.out (below_drew (Below.refl _ _)))
    clear K HB
    refine start_ (n := 9) (S := fun _ => True) (ds := []) #[false, false, false, false, false, false, false, false, false] (by kernel_rfl) rfl rfl trivial (fun hHeld => ?_); refine with_tabW tabS6 bitsS6 (fun HT_ HW_ => ?_)
    generalize hwd : W1.drew = Wd at K2 HB2 hHeld ⊢
    refine pure_ (i := 0) (N := (some 27)) (v := ?_) (a' := ?_) #[true, false, false, false, false, false, false, false, false] rfl rfl (any_of HT_.out (by kernel_rfl)) (fun _ _ _ h => h) (Or.inl ⟨by rfl, ?_⟩) ?_ ?_
    rotate_left
    · intro w'
      go_simp
      with_reducible rfl
    rotate_left
    · simp only [Act.put, List.setIfInBounds_toArray, List.set_cons_zero, List.set_cons_succ, i64_w, i32_w]
      rfl
    refine pure_ (i := 1) (N := (some 28)) (v := ?_) (a' := ?_) #[true, true, false, false, false, false, false, false, false] rfl rfl (any_of HT_.out (by kernel_rfl)) (fun _ _ _ h => h) (Or.inl ⟨by rfl, ?_⟩) ?_ ?_
    rotate_left
    · intro w'
      go_simp
      with_reducible rfl
    rotate_left
    · simp only [Act.put, List.setIfInBounds_toArray, List.set_cons_zero, List.set_cons_succ, i64_w, i32_w]
      rfl
    refine pure_ (i := 2) (N := (some 29)) (v := ?_) (a' := ?_) #[true, true, true, false, false, false, false, false, false] rfl rfl (any_of HT_.out (by kernel_rfl)) (fun _ _ _ h => h) (Or.inl ⟨by rfl, ?_⟩) ?_ ?_
    rotate_left
    · intro w'
      go_simp
      with_reducible rfl
    rotate_left
    · simp only [Act.put, List.setIfInBounds_toArray, List.set_cons_zero, List.set_cons_succ, i64_w, i32_w]
      rfl
    refine pure_ (i := 3) (N := (some 30)) (v := ?_) (a' := ?_) #[true, true, true, true, false, false, false, false, false] rfl rfl (any_of HT_.out (by kernel_rfl)) (fun _ _ _ h => h) (Or.inl ⟨by rfl, ?_⟩) ?_ ?_
    rotate_left
    · intro w'
      go_simp
      with_reducible rfl
    rotate_left
    · simp only [Act.put, List.setIfInBounds_toArray, List.set_cons_zero, List.set_cons_succ, i64_w, i32_w]
      rfl
    refine pure_ (i := 4) (N := (some 31)) (v := ?_) (a' := ?_) #[true, true, true, true, true, false, false, false, false] rfl rfl (any_of HT_.out (by kernel_rfl)) (fun _ _ _ h => h) (Or.inl ⟨by rfl, ?_⟩) ?_ ?_
    rotate_left
    · intro w'
      go_simp
      with_reducible rfl
    rotate_left
    · simp only [Act.put, List.setIfInBounds_toArray, List.set_cons_zero, List.set_cons_succ, i64_w, i32_w]
      rfl
    refine one_ (i := 5) (N := (some 32)) #[true, true, true, true, true, true, false, false, false] rfl rfl (one_of HT_.out (by kernel_rfl)) (by decide) (fun K hK => ?_)
    refine goes_ Try.func22 (by kernel_rfl) rfl #[.slice A b.length c] (by rfl) rfl rfl (by (try simp only [List.map_toArray, List.map_cons, List.map_nil]); first | done | rfl) ?_
    refine (clone_c A c b _ HB2.out hl).mono ?_
    rintro e w2 ⟨vb, rfl, hRb, hb2⟩
    obtain ⟨Ab, cb, rfl⟩ := Kd.R_slice hRb
    refine ⟨_, rfl, ?_⟩
    refine hK.out _ _ trivial (fun hHeld => ?_)
    clear hK K
    refine norm_ (a' := ?_) ?_ ?_
    rotate_left
    · show Act.put _ (some 32) _ = _
      simp only [Act.put, List.setIfInBounds_toArray, List.set_cons_zero, List.set_cons_succ, i64_w, i32_w]
      rfl
    refine pure_ (i := 6) (N := (some 33)) (v := ?_) (a' := ?_) #[true, true, true, true, true, true, true, false, false] rfl rfl (any_of HT_.out (by kernel_rfl)) (fun _ _ _ h => h) (Or.inl ⟨by rfl, ?_⟩) ?_ ?_
    rotate_left
    · intro w'
      go_simp
      with_reducible rfl
    rotate_left
    · simp only [Act.put, List.setIfInBounds_toArray, List.set_cons_zero, List.set_cons_succ, i64_w, i32_w]
      rfl
    refine one_ (i := 7) (N := (some 34)) #[true, true, true, true, true, true, true, true, false] rfl rfl (one_of HT_.out (by kernel_rfl)) (by decide) (fun K hK => ?_)
    refine Kd.R_lit_step k60 (w0 := w2) 0 60 (by rfl) (N := 34) rfl (xs := [(dest, b)]) (inner := [.int .i64 dest, .slice Ab b.length cb]) (ok := fun k => Wd.heap.size ≤ k) (okp := fun k => Wd.heap.size ≤ k) ?hr ?hp (fun _ hk => hk) ?hf (Below.refl _ _) (Nat.zero_le _) (by simp) ?_
    case hr => first | (go_simp; done) | (go_simp; rfl)
    case hp => exact (Reps.snoc (Reps.none _ 2) (k60_mkM (x := (dest, b)) (Kd.R_lower (Kd.R_mono (Kd.R_bound hRb) (fun k h => h.2.1)) (Nat.zero_le _))) rfl)
    case hf => exact hb2.size
    intro v3 w3 HO3 _ hg3 _
    have hb3 : Below w2.heap.size w2 w3 := ⟨hg3.os, hg3.tape, hg3.output, hg3.size, fun k hk => hg3.block k hk (by simp)⟩
    have hbA := below_step hb2 hb3
    have HX3 := OwnRow.reads HO3.2
    obtain ⟨A3, c3, rfl, _, hx3⟩ := HX3
    obtain ⟨⟨v4, vm4, g1, g2, g3⟩, go, glt⟩ := K2.out.1
    have K3 := Aside0.mk (And.intro g1 (And.intro g2 (And.intro g3 (And.intro go glt))))
    have HBA := Aside0.mk hbA
    have HX := Aside0.mk (hx3.imp_ (Below.refl _ _) (fun p c h => k60.M_mono (fun k hk => hk.1) h))
    clear g1 g2 g3 go glt hbA hb2 hb3 hg3 hx3 HO3 hRb
    refine hK.out _ _ trivial (fun hHeld => ?_)
    clear hK K
    refine norm_ (a' := ?_) ?_ ?_
    rotate_left
    · show Act.put _ (some 34) _ = _
      simp only [Act.put, List.setIfInBounds_toArray, List.set_cons_zero, List.set_cons_succ, i64_w, i32_w]
      rfl
    refine one_ (i := 8) (N := (some 35)) #[true, true, true, true, true, true, true, true, true] rfl rfl (one_of HT_.out (by kernel_rfl)) (by decide) (fun K hK => ?_)
    refine goes_ Try.func21 (by kernel_rfl) rfl #[.pointer (some ⟨g, 1, none⟩), .slice A3 1 c3] (by rfl) rfl rfl (by (try simp only [List.map_toArray, List.map_cons, List.map_nil]); first | done | rfl) ?_
    refine (put_msg g v4 vm4 true la (dest, b) A3 c3 (fun k => more F W W1 k ∨ Wd.heap.size ≤ k) (fun k => Wd.heap.size ≤ k) w3 (blk_below K3.out.1 HBA.out) (Kd.R_mono (Kd.R_below K3.out.2.2.1 HBA.out) (fun _ h => .inl h)) HX.out (fun k hk => ⟨.inr hk, fun e => by have := K3.out.2.2.2.2 k (K3.out.2.2.1.1 k e.symm); omega⟩) (fun k hk => .inr (Nat.le_trans HBA.out.size hk)) hla).mono ?_
    rintro e w4 ⟨rfl, vm5, hg5, ho5, hf5, _⟩
    have K5 := Aside0.mk (NI.late_step K3.out.1 K3.out.2.1 K3.out.2.2.1 K3.out.2.2.2.1 K3.out.2.2.2.2 hg5 ho5 ((Fr.of_below HBA.out).trans hf5 (fun q hq => .inl hq)))
    have HF5 := Aside0.mk K2.out.2
    clear K2 K3 HX hg5 ho5 hf5 HB2
    refine ⟨_, rfl, ?_⟩
    refine hK.out _ _ trivial (fun hHeld => ?_)
    clear hK K
    refine norm_ (a' := ?_) ?_ ?_
    rotate_left
    · show Act.put _ (some 35) _ = _
      simp only [Act.put, List.setIfInBounds_toArray, List.set_cons_zero, List.set_cons_succ, i64_w, i32_w]
      rfl
    refine done_ (done_of HT_.out (by kernel_rfl)) ?_
    clear hHeld HT_ HW_
    go_wp2_with fail
    go_ret2
    exact SendPost.mk3 K5.out HF5.out HBA.out.size (by repeat (first | exact Below.refl _ _ | apply pw_below_drewN | apply below_alloc)) HR.out rfl
  · go_wp2_with fail
    go_quiet (fail)
    go_wp2_with fail
    go_ret2
    exact SendPost.mk K.out (by repeat (first | exact Below.refl _ _ | apply pw_below_drewN | apply below_alloc)) HR.out (by decide) rfl
end Go.Proofs.Ytckeahjlfopaaaa.Hand
