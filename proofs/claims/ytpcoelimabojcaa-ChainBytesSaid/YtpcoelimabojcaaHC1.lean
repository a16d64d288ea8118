/- A map that a function makes and uses as a set of numbers; parts of a chain in memory. -/
import Derived.Test.YtpcoelimabojcaaHV
import Derived.Test.YtpcoelimabojcaaChecked
import Derived.MapKept
import Derived.Carry
namespace Go.Proofs.Ytpcoelimabojcaa.Hand
open Go.RowKit Go.Proofs.Ytpcoelimabojcaa Go.Proofs.YtpcoelimabojcaaW.PrintWords Go.MapKept
set_option linter.unusedVariables false
set_option linter.unusedSimpArgs false
/-- Block B is a map whose keys are just the numbers of l, each true. -/
def MapOf (W : World) (B : Nat) (l : List Int) : Prop :=
  ∃ (es : Array MapEntry) (clock : Nat), W.heap[B]? = some (.map es clock) ∧ (∀ e ∈ es.toList, ∃ k : Int, e.key = .int .i64 k ∧ e.val = .bool true) ∧ ∀ k : Int, (∃ e ∈ es.toList, e.key = .int .i64 k) ↔ k ∈ l
theorem MapOf.made (W : World) : MapOf (W.alloc (.map #[] 0)) W.heap.size [] := ⟨#[], 0, (heap_alloc W _).1, fun e he => by simp at he, fun k => by simp⟩
theorem MapOf.lt {W : World} {B : Nat} {l : List Int} (h : MapOf W B l) : B < W.heap.size := by
  obtain ⟨es, c, hb, _⟩ := h
  exact (Array.getElem?_eq_some_iff.1 hb).1
theorem MapOf.below {W W' : World} {B : Nat} {l : List Int} (h : MapOf W B l) (hb : Below W.heap.size W W') : MapOf W' B l := by
  have hlt := h.lt
  obtain ⟨es, c, h1, h2⟩ := h
  exact ⟨es, c, (hb.block B hlt).trans h1, h2⟩
theorem und92 : Try.prog.underlying 92 = some (.map 3 4) := by kernel_rfl
theorem und3 : Try.prog.underlying 3 = some (.int .i64) := by kernel_rfl
theorem zero4 (w : World) : (zeroValue 4).run Try.prog w = .ok (.bool false) w := by kernel_rfl
theorem isKeyI (x : Int) : IsKey (.int .i64) (.int .i64 x) := by simp [IsKey]
theorem MapOf.look {W : World} {B : Nat} {l : List Int} (h : MapOf W B l) (x : Int) : (Instr.lookup 92 (.map (some B)) (.int .i64 x) false).run Try.prog W = .ok (.bool (decide (x ∈ l))) W := by
  obtain ⟨es, c, hb, h1, h2⟩ := h
  have hk : ∀ e ∈ es.toList, IsKey (.int .i64) e.key := fun e he => by obtain ⟨k, hk, _⟩ := h1 e he; rw [hk]; exact isKeyI k
  unfold Instr.lookup
  simp only [Sem.run_bind, run_underlying und92, Result.andThen, Go.MapKept.run_getObj_map hb, Sem.run_pure, run_checkKey und3 (isKeyI x)]
  rcases findNow_spec (isKeyI x) es.toList 0 hk with ⟨h3, h4⟩ | ⟨j, e, h3, h4, h5⟩
  · have hx : ¬ x ∈ l := fun hx => by obtain ⟨e, he, hk⟩ := (h2 x).2 hx; exact h4 e he hk
    simp [run_findKey und3 h3, zero4, Result.andThen, hx]
  · have he := List.mem_of_getElem? h4
    have hx : x ∈ l := (h2 x).1 ⟨e, he, h5⟩
    obtain ⟨_, _, hv⟩ := h1 e he
    simp [run_findKey und3 h3, Result.andThen, hx, hv]
theorem MapOf.put {W : World} {B : Nat} {l : List Int} (h : MapOf W B l) (x : Int) : ∃ W', (Instr.mapUpdate 92 (.map (some B)) (.int .i64 x) (.bool true)).run Try.prog W = .ok () W' ∧ MapOf W' B (l ++ [x]) ∧ W.grownBy W' (some B) := by
  obtain ⟨es, c, hb, h1, h2⟩ := h
  have hk : ∀ e ∈ es.toList, IsKey (.int .i64) e.key := fun e he => by obtain ⟨k, hk, _⟩ := h1 e he; rw [hk]; exact isKeyI k
  have grow : ∀ o, W.grownBy { W with heap := W.heap.setIfInBounds B o } (some B) := fun o => ⟨rfl, rfl, rfl, by simp, fun k _ hk => (heap_set (o' := o) hb).2 k (fun e => hk (by rw [e]))⟩
  rcases findNow_spec (isKeyI x) es.toList 0 hk with ⟨h3, h4⟩ | ⟨j, e, h3, h4, h5⟩
  · refine ⟨_, ?_, ⟨es.push { key := .int .i64 x, val := .bool true, born := c }, c + 1, (heap_set hb).1, ?_, ?_⟩, grow _⟩
    · unfold Instr.mapUpdate
      simp only [Sem.run_bind, run_underlying und92, Result.andThen, Go.MapKept.run_getObj_map hb, run_checkKey und3 (isKeyI x), run_findKey und3 h3, run_setObj_map _ hb]
    · intro e he
      simp only [Array.toList_push, List.mem_append, List.mem_singleton] at he
      rcases he with he | rfl
      · exact h1 e he
      · exact ⟨x, rfl, rfl⟩
    · intro k
      simp only [Array.toList_push, List.mem_append, List.mem_singleton, ← h2 k]
      constructor
      · rintro ⟨e, he | rfl, hk⟩
        · exact .inl ⟨e, he, hk⟩
        · simp at hk; exact .inr hk.symm
      · rintro (⟨e, he, hk⟩ | rfl)
        · exact ⟨e, .inl he, hk⟩
        · exact ⟨_, .inr rfl, rfl⟩
  · have he := List.mem_of_getElem? h4
    have hx : x ∈ l := (h2 x).1 ⟨e, he, h5⟩
    rw [Nat.zero_add] at h3
    have h4' : es[j]? = some e := by simpa using h4
    refine ⟨_, ?_, ⟨es.modify j fun e => { e with key := .int .i64 x, val := .bool true }, c, (heap_set hb).1, ?_, ?_⟩, grow _⟩
    · unfold Instr.mapUpdate
      simp only [Sem.run_bind, run_underlying und92, Result.andThen, Go.MapKept.run_getObj_map hb, run_checkKey und3 (isKeyI x), run_findKey und3 h3, h4', Option.map_some, Option.getD_some, h5, Instr.keyThatStays, Instr.sameBits, beq_self_eq_true, Bool.and_self, if_true, Sem.run_pure, run_setObj_map _ hb]
    · intro e' he'
      obtain ⟨i, hi, rfl⟩ := List.mem_iff_getElem.1 he'
      simp only [Array.getElem_toList]
      rw [Array.getElem_modify]
      split
      · exact ⟨x, rfl, rfl⟩
      · exact h1 _ (by simp)
    · intro k
      have hmem : (∃ e' ∈ (es.modify j fun e => { e with key := .int .i64 x, val := .bool true }).toList, e'.key = .int .i64 k) ↔ ∃ e' ∈ es.toList, e'.key = .int .i64 k := by
        have hks : (es.modify j fun e => { e with key := .int .i64 x, val := .bool true }).toList.map (·.key) = es.toList.map (·.key) := modify_keys j _ (fun e' he' => by rw [h4'] at he'; injection he' with he'; rw [← he', h5])
        have g1 : ∀ (xs : List MapEntry), (∃ e' ∈ xs, e'.key = .int .i64 k) ↔ (.int .i64 k : Value) ∈ xs.map (·.key) := fun xs => by simp [List.mem_map]
        rw [g1, g1, hks]
      rw [hmem, h2 k]
      simp only [List.mem_append, List.mem_singleton]
      exact ⟨.inl, fun h => h.elim id (fun e => e ▸ hx)⟩
end Go.Proofs.Ytpcoelimabojcaa.Hand
