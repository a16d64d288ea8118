/- A map of numbers that stand for yes or no. -/
import Derived.Test.YtofegigbhohebaaTB15
namespace Go.Proofs.Ytofegigbhohebaa.Hand
open Go.RowKit Go.Proofs.Ytofegigbhohebaa Go.Proofs.YtofegigbhohebaaW.PrintWords Go.Proofs.YtofegigbhohebaaW.PrintLast Go.MapKept
set_option linter.unusedVariables false
set_option linter.unusedSimpArgs false
/-- Block B is a map in which each number stands for what f says; what is not there stands for no. -/
def MapIB (W : World) (B : Nat) (f : Int → Bool) : Prop :=
  ∃ (es : Array MapEntry) (clock : Nat), W.heap[B]? = some (.map es clock) ∧ (∀ e ∈ es.toList, ∃ k : Int, e.key = .int .i64 k ∧ e.val = .bool (f k)) ∧ (∀ k : Int, f k = true → ∃ e ∈ es.toList, e.key = .int .i64 k) ∧ (es.toList.map (·.key)).Nodup
theorem und49 : Try.prog.underlying 49 = some (.map 3 4) := by kernel_rfl
theorem zeroB (w : World) : (zeroValue 4).run Try.prog w = .ok (.bool false) w := by kernel_rfl
theorem MapIB.made (W : World) : MapIB (W.alloc (.map #[] 0)) W.heap.size (fun _ => false) := ⟨#[], 0, (heap_alloc W _).1, fun e he => by simp at he, fun k h => by simp at h, by simp⟩
theorem MapIB.lt {W : World} {B : Nat} {f : Int → Bool} (h : MapIB W B f) : B < W.heap.size := by
  obtain ⟨es, c, hb, _⟩ := h
  exact (Array.getElem?_eq_some_iff.1 hb).1
theorem MapIB.move {W W' : World} {B : Nat} {f : Int → Bool} (h : MapIB W B f) (hb : W'.heap[B]? = W.heap[B]?) : MapIB W' B f := by
  obtain ⟨es, c, h1, h2⟩ := h
  exact ⟨es, c, hb.trans h1, h2⟩
set_option maxRecDepth 100000 in
theorem MapIB.look {W : World} {B : Nat} {f : Int → Bool} (h : MapIB W B f) (x : Int) : (Instr.lookup 49 (.map (some B)) (.int .i64 x) false).run Try.prog W = .ok (.bool (f x)) W := by
  obtain ⟨es, c, hb, h1, h2, h6⟩ := h
  have hk : ∀ e ∈ es.toList, IsKey (.int .i64) e.key := fun e he => by obtain ⟨k, hk, _⟩ := h1 e he; rw [hk]; exact isKeyI k
  unfold Instr.lookup
  simp only [Sem.run_bind, run_underlying und49, Result.andThen, Go.MapKept.run_getObj_map hb, Sem.run_pure, run_checkKey undI (isKeyI x)]
  rcases findNow_spec (isKeyI x) es.toList 0 hk with ⟨h3, h4⟩ | ⟨j, e, h3, h4, h5⟩
  · have hx : f x = false := by
      cases hf : f x with
      | false => rfl
      | true => obtain ⟨e, he, hk⟩ := h2 x hf; exact absurd hk (h4 e he)
    simp only [run_findKey undI h3, Result.andThen, Sem.run_bind, Sem.run_pure, zeroB, hx]
    rfl
  · obtain ⟨k, hk1, hv⟩ := h1 e (List.mem_of_getElem? h4)
    rw [h5] at hk1
    injection hk1 with _ hk1
    subst hk1
    simp only [run_findKey undI h3, Result.andThen, Sem.run_bind, Sem.run_pure, hv]
    rfl
def updF (f : Int → Bool) (x : Int) (b : Bool) (k : Int) : Bool := if k = x then b else f k
theorem updF_same (f : Int → Bool) (x : Int) (b : Bool) : updF f x b x = b := if_pos rfl
theorem updF_other (f : Int → Bool) {x k : Int} (b : Bool) (h : k ≠ x) : updF f x b k = f k := if_neg h
set_option maxRecDepth 100000 in
theorem MapIB.put {W : World} {B : Nat} {f : Int → Bool} (h : MapIB W B f) (x : Int) (b : Bool) : ∃ W', (Instr.mapUpdate 49 (.map (some B)) (.int .i64 x) (.bool b)).run Try.prog W = .ok () W' ∧ MapIB W' B (updF f x b) ∧ W.grownBy W' (some B) := by
  obtain ⟨es, c, hb, h1, h2, h6⟩ := h
  have hk : ∀ e ∈ es.toList, IsKey (.int .i64) e.key := fun e he => by obtain ⟨k, hk, _⟩ := h1 e he; rw [hk]; exact isKeyI k
  have grow : ∀ o, W.grownBy { W with heap := W.heap.setIfInBounds B o } (some B) := fun o => ⟨rfl, rfl, rfl, by simp, fun k _ hk => (heap_set (o' := o) hb).2 k (fun e => hk (by rw [e]))⟩
  rcases findNow_spec (isKeyI x) es.toList 0 hk with ⟨h3, h4⟩ | ⟨j, e, h3, h4, h5⟩
  · refine ⟨_, ?_, ⟨es.push { key := .int .i64 x, val := .bool b, born := c }, c + 1, (heap_set hb).1, ?_, ?_, ?_⟩, grow _⟩
    · unfold Instr.mapUpdate
      simp only [Sem.run_bind, run_underlying und49, Result.andThen, Go.MapKept.run_getObj_map hb, run_checkKey undI (isKeyI x), run_findKey undI h3, run_setObj_map _ hb]
    · intro e he
      simp only [Array.toList_push, List.mem_append, List.mem_singleton] at he
      rcases he with he | rfl
      · obtain ⟨k, hk1, hv⟩ := h1 e he
        have hkx : k ≠ x := fun e1 => h4 e he (by rw [hk1, e1])
        exact ⟨k, hk1, by rw [updF_other f b hkx]; exact hv⟩
      · exact ⟨x, rfl, by rw [updF_same]⟩
    · intro k hfk
      simp only [Array.toList_push, List.mem_append, List.mem_singleton]
      by_cases hkx : k = x
      · subst hkx; exact ⟨_, .inr rfl, rfl⟩
      · rw [updF_other f b hkx] at hfk
        obtain ⟨e, he, hk1⟩ := h2 k hfk
        exact ⟨e, .inl he, hk1⟩
    · rw [Array.toList_push, List.map_append, List.nodup_append]
      refine ⟨h6, by simp, fun a ha b hb2 => ?_⟩
      simp only [List.map_cons, List.map_nil, List.mem_singleton] at hb2
      subst hb2
      obtain ⟨e, he, rfl⟩ := List.mem_map.1 ha
      exact h4 e he
  · rw [Nat.zero_add] at h3
    have h4' : es[j]? = some e := by simpa using h4
    have hks : (es.modify j fun e => { e with key := .int .i64 x, val := .bool b }).toList.map (·.key) = es.toList.map (·.key) := modify_keys j _ (fun e' he' => by rw [h4'] at he'; injection he' with he'; rw [← he', h5])
    refine ⟨_, ?_, ⟨es.modify j fun e => { e with key := .int .i64 x, val := .bool b }, c, (heap_set hb).1, ?_, ?_, ?_⟩, grow _⟩
    · unfold Instr.mapUpdate
      simp only [Sem.run_bind, run_underlying und49, Result.andThen, Go.MapKept.run_getObj_map hb, run_checkKey undI (isKeyI x), run_findKey undI h3, h4', Option.map_some, Option.getD_some, h5, Instr.keyThatStays, Instr.sameBits, beq_self_eq_true, Bool.and_self, if_true, Sem.run_pure, run_setObj_map _ hb]
    · intro e' he'
      obtain ⟨i, hi, rfl⟩ := List.mem_iff_getElem.1 he'
      simp only [Array.getElem_toList]
      have hi' : i < es.size := by simpa using hi
      rw [Array.getElem_modify]
      split
      · exact ⟨x, rfl, by rw [updF_same]⟩
      · rename_i hji
        obtain ⟨k, hk1, hv⟩ := h1 es[i] (by simp)
        refine ⟨k, hk1, ?_⟩
        have hkx : k ≠ x := fun e1 => hji (by
          have g1 : (es.toList.map (·.key))[i]? = some (.int .i64 x) := by rw [List.getElem?_map, Array.getElem?_toList, Array.getElem?_eq_getElem hi', Option.map_some, hk1, e1]
          have g2 : (es.toList.map (·.key))[j]? = some (.int .i64 x) := by rw [List.getElem?_map, h4, Option.map_some, h5]
          obtain ⟨hj1, hj2⟩ := List.getElem?_eq_some_iff.1 g2
          obtain ⟨hi1, hi2⟩ := List.getElem?_eq_some_iff.1 g1
          have hp := List.pairwise_iff_getElem.1 h6
          rcases Nat.lt_trichotomy j i with h | h | h
          · exact absurd (hj2.trans hi2.symm) (hp j i hj1 hi1 h)
          · exact h
          · exact absurd (hi2.trans hj2.symm) (hp i j hi1 hj1 h))
        rw [updF_other f b hkx]; exact hv
    · intro k hfk
      have g1 : ∀ (xs : List MapEntry), (∃ e' ∈ xs, e'.key = .int .i64 k) ↔ (.int .i64 k : Value) ∈ xs.map (·.key) := fun xs => by simp [List.mem_map]
      rw [g1, hks, ← g1]
      by_cases hkx : k = x
      · subst hkx; exact ⟨e, List.mem_of_getElem? h4, h5⟩
      · rw [updF_other f b hkx] at hfk; exact h2 k hfk
    · rw [hks]; exact h6
end Go.Proofs.Ytofegigbhohebaa.Hand
