/- Maps that a function makes and uses. -/
import Derived.Test.YtamiglolpchplaaJ1
import Derived.MapKept
import Derived.Carry
namespace Go.Proofs.Ytamiglolpchplaa.Hand
open Go.RowKit Go.Proofs.Ytamiglolpchplaa Go.Proofs.YtamiglolpchplaaW.PrintWords Go.Proofs.YtamiglolpchplaaW.PrintLast Go.MapKept
set_option linter.unusedVariables false
set_option linter.unusedSimpArgs false
/-- What a map's type is. -/
structure MapT (κ α : Type) where
  T : TypeId
  kt : TypeId
  vt : TypeId
  kd : TypeDesc
  ek : κ → Value
  ev : α → Value
  zero : α
  und : Try.prog.underlying T = some (.map kt vt)
  undk : Try.prog.underlying kt = some kd
  isk : ∀ k, IsKey kd (ek k)
  inj : ∀ k k', ek k = ek k' → k = k'
  zer : ∀ w, (zeroValue vt).run Try.prog w = .ok (ev zero) w
section
variable {κ α : Type} (t : MapT κ α) {W W' : World} {B : Nat} {f : κ → Option α}
/-- Block B is a map in which each key stands for what f says. -/
def MapG (W : World) (B : Nat) (f : κ → Option α) : Prop :=
  ∃ (es : Array MapEntry) (clock : Nat), W.heap[B]? = some (.map es clock) ∧ (∀ e ∈ es.toList, ∃ k v, e.key = t.ek k ∧ e.val = t.ev v ∧ f k = some v) ∧ (∀ k v, f k = some v → ∃ e ∈ es.toList, e.key = t.ek k) ∧ (es.toList.map (·.key)).Nodup
variable {t}
theorem MapG.made (W : World) : MapG t (W.alloc (.map #[] 0)) W.heap.size (fun _ => none) := ⟨#[], 0, (heap_alloc W _).1, fun e he => by simp at he, fun k v h => by simp at h, by simp⟩
theorem MapG.lt (h : MapG t W B f) : B < W.heap.size := by
  obtain ⟨es, c, hb, _⟩ := h
  exact (Array.getElem?_eq_some_iff.1 hb).1
theorem MapG.move (h : MapG t W B f) (hb : W'.heap[B]? = W.heap[B]?) : MapG t W' B f := by
  obtain ⟨es, c, h1, h2⟩ := h
  exact ⟨es, c, hb.trans h1, h2⟩
theorem MapG.below (h : MapG t W B f) (hb : Below W.heap.size W W') : MapG t W' B f := h.move (hb.block B h.lt)
theorem MapG.keys {es : Array MapEntry} (h1 : ∀ e ∈ es.toList, ∃ k v, e.key = t.ek k ∧ e.val = t.ev v ∧ f k = some v) : ∀ e ∈ es.toList, IsKey t.kd e.key := fun e he => by
  obtain ⟨k, v, hk, _⟩ := h1 e he
  rw [hk]; exact t.isk k
set_option maxRecDepth 100000 in
theorem MapG.look (h : MapG t W B f) (x : κ) : (Instr.lookup t.T (.map (some B)) (t.ek x) false).run Try.prog W = .ok (t.ev ((f x).getD t.zero)) W := by
  obtain ⟨es, c, hb, h1, h2, h6⟩ := h
  have hk := MapG.keys h1
  unfold Instr.lookup
  simp only [Sem.run_bind, run_underlying t.und, Result.andThen, Go.MapKept.run_getObj_map hb, Sem.run_pure, run_checkKey t.undk (t.isk x)]
  rcases findNow_spec (t.isk x) es.toList 0 hk with ⟨h3, h4⟩ | ⟨j, e, h3, h4, h5⟩
  · have hx : f x = none := by
      cases hf : f x with
      | none => rfl
      | some v => obtain ⟨e, he, hk⟩ := h2 x v hf; exact absurd hk (h4 e he)
    simp only [run_findKey t.undk h3, Result.andThen, Sem.run_bind, Sem.run_pure, t.zer, hx]
    rfl
  · obtain ⟨k, v, hk1, hv, hf⟩ := h1 e (List.mem_of_getElem? h4)
    rw [h5] at hk1
    have := t.inj _ _ hk1
    subst this
    simp only [run_findKey t.undk h3, Result.andThen, Sem.run_bind, Sem.run_pure, hv, hf]
    rfl
set_option maxRecDepth 100000 in
theorem MapG.look2 (h : MapG t W B f) (x : κ) : (Instr.lookup t.T (.map (some B)) (t.ek x) true).run Try.prog W = .ok (.tuple #[t.ev ((f x).getD t.zero), .bool (f x).isSome]) W := by
  obtain ⟨es, c, hb, h1, h2, h6⟩ := h
  have hk := MapG.keys h1
  unfold Instr.lookup
  simp only [Sem.run_bind, run_underlying t.und, Result.andThen, Go.MapKept.run_getObj_map hb, Sem.run_pure, run_checkKey t.undk (t.isk x)]
  rcases findNow_spec (t.isk x) es.toList 0 hk with ⟨h3, h4⟩ | ⟨j, e, h3, h4, h5⟩
  · have hx : f x = none := by
      cases hf : f x with
      | none => rfl
      | some v => obtain ⟨e, he, hk⟩ := h2 x v hf; exact absurd hk (h4 e he)
    simp only [run_findKey t.undk h3, Result.andThen, Sem.run_bind, Sem.run_pure, t.zer, hx]
    rfl
  · obtain ⟨k, v, hk1, hv, hf⟩ := h1 e (List.mem_of_getElem? h4)
    rw [h5] at hk1
    have := t.inj _ _ hk1
    subst this
    simp only [run_findKey t.undk h3, Result.andThen, Sem.run_bind, Sem.run_pure, hv, hf]
    rfl
def putF [DecidableEq κ] (f : κ → Option α) (x : κ) (v : α) (k : κ) : Option α := if k = x then some v else f k
theorem putF_same [DecidableEq κ] (f : κ → Option α) (x : κ) (v : α) : putF f x v x = some v := if_pos rfl
theorem putF_other [DecidableEq κ] (f : κ → Option α) {x k : κ} (v : α) (h : k ≠ x) : putF f x v k = f k := if_neg h
set_option maxRecDepth 100000 in
theorem MapG.put [DecidableEq κ] (h : MapG t W B f) (x : κ) (v : α) : ∃ W', (Instr.mapUpdate t.T (.map (some B)) (t.ek x) (t.ev v)).run Try.prog W = .ok () W' ∧ MapG t W' B (putF f x v) ∧ W.grownBy W' (some B) := by
  obtain ⟨es, c, hb, h1, h2, h6⟩ := h
  have hk := MapG.keys h1
  have grow : ∀ o, W.grownBy { W with heap := W.heap.setIfInBounds B o } (some B) := fun o => ⟨rfl, rfl, rfl, by simp, fun k _ hk => (heap_set (o' := o) hb).2 k (fun e => hk (by rw [e]))⟩
  rcases findNow_spec (t.isk x) es.toList 0 hk with ⟨h3, h4⟩ | ⟨j, e, h3, h4, h5⟩
  · refine ⟨_, ?_, ⟨es.push { key := t.ek x, val := t.ev v, born := c }, c + 1, (heap_set hb).1, ?_, ?_, ?_⟩, grow _⟩
    · unfold Instr.mapUpdate
      simp only [Sem.run_bind, run_underlying t.und, Result.andThen, Go.MapKept.run_getObj_map hb, run_checkKey t.undk (t.isk x), run_findKey t.undk h3, run_setObj_map _ hb]
    · intro e he
      simp only [Array.toList_push, List.mem_append, List.mem_singleton] at he
      rcases he with he | rfl
      · obtain ⟨k, v', hk1, hv, hf⟩ := h1 e he
        have hkx : k ≠ x := fun e1 => h4 e he (by rw [hk1, e1])
        exact ⟨k, v', hk1, hv, by rw [putF_other f v hkx]; exact hf⟩
      · exact ⟨x, v, rfl, rfl, putF_same _ _ _⟩
    · intro k v' hfk
      simp only [Array.toList_push, List.mem_append, List.mem_singleton]
      by_cases hkx : k = x
      · subst hkx; exact ⟨_, .inr rfl, rfl⟩
      · rw [putF_other f v hkx] at hfk
        obtain ⟨e, he, hk1⟩ := h2 k v' hfk
        exact ⟨e, .inl he, hk1⟩
    · rw [Array.toList_push, List.map_append, List.nodup_append]
      refine ⟨h6, by simp, fun a ha b hb2 => ?_⟩
      simp only [List.map_cons, List.map_nil, List.mem_singleton] at hb2
      subst hb2
      obtain ⟨e, he, rfl⟩ := List.mem_map.1 ha
      exact h4 e he
  · rw [Nat.zero_add] at h3
    have h4' : es[j]? = some e := by simpa using h4
    have hks : (es.modify j fun e => { e with key := t.ek x, val := t.ev v }).toList.map (·.key) = es.toList.map (·.key) := modify_keys j _ (fun e' he' => by rw [h4'] at he'; injection he' with he'; rw [← he', h5])
    refine ⟨_, ?_, ⟨es.modify j fun e => { e with key := t.ek x, val := t.ev v }, c, (heap_set hb).1, ?_, ?_, ?_⟩, grow _⟩
    · unfold Instr.mapUpdate
      simp only [Sem.run_bind, run_underlying t.und, Result.andThen, Go.MapKept.run_getObj_map hb, run_checkKey t.undk (t.isk x), run_findKey t.undk h3, h4', Option.map_some, Option.getD_some, h5, run_keyThatStays (t.isk x), run_setObj_map _ hb]
    · intro e' he'
      obtain ⟨i, hi, rfl⟩ := List.mem_iff_getElem.1 he'
      simp only [Array.getElem_toList]
      have hi' : i < es.size := by simpa using hi
      rw [Array.getElem_modify]
      split
      · exact ⟨x, v, rfl, rfl, putF_same _ _ _⟩
      · rename_i hji
        obtain ⟨k, v', hk1, hv, hf⟩ := h1 es[i] (by simp)
        have hkx : k ≠ x := fun e1 => hji (by
          have g1 : (es.toList.map (·.key))[i]? = some (t.ek x) := by rw [List.getElem?_map, Array.getElem?_toList, Array.getElem?_eq_getElem hi', Option.map_some, hk1, e1]
          have g2 : (es.toList.map (·.key))[j]? = some (t.ek x) := by rw [List.getElem?_map, h4, Option.map_some, h5]
          obtain ⟨hj1, hj2⟩ := List.getElem?_eq_some_iff.1 g2
          obtain ⟨hi1, hi2⟩ := List.getElem?_eq_some_iff.1 g1
          have hp := List.pairwise_iff_getElem.1 h6
          rcases Nat.lt_trichotomy j i with h | h | h
          · exact absurd (hj2.trans hi2.symm) (hp j i hj1 hi1 h)
          · exact h
          · exact absurd (hi2.trans hj2.symm) (hp i j hi1 hj1 h))
        exact ⟨k, v', hk1, hv, by rw [putF_other f v hkx]; exact hf⟩
    · intro k v' hfk
      have g1 : ∀ (xs : List MapEntry), (∃ e' ∈ xs, e'.key = t.ek k) ↔ (t.ek k : Value) ∈ xs.map (·.key) := fun xs => by simp [List.mem_map]
      rw [g1, hks, ← g1]
      by_cases hkx : k = x
      · subst hkx; exact ⟨e, List.mem_of_getElem? h4, h5⟩
      · rw [putF_other f v hkx] at hfk; exact h2 k v' hfk
    · rw [hks]; exact h6
end
/-- map[string]bool, map[int]string, map[int]bool. -/
def tSB : MapT ByteArray Bool := ⟨47, 9, 4, .string, Value.string, Value.bool, false, by kernel_rfl, by kernel_rfl, fun k => by simp [IsKey], fun k k' h => by injection h, fun w => by kernel_rfl⟩
def tIS : MapT Int ByteArray := ⟨55, 3, 9, .int .i64, Value.int .i64, Value.string, ⟨#[]⟩, by kernel_rfl, by kernel_rfl, fun k => by simp [IsKey], fun k k' h => by injection h, fun w => by kernel_rfl⟩
def tIB : MapT Int Bool := ⟨56, 3, 4, .int .i64, Value.int .i64, Value.bool, false, by kernel_rfl, by kernel_rfl, fun k => by simp [IsKey], fun k k' h => by injection h, fun w => by kernel_rfl⟩
theorem sb_look {W : World} {B : Nat} {f : ByteArray → Option Bool} (h : MapG tSB W B f) (x : ByteArray) : (Instr.lookup 47 (.map (some B)) (.string x) false).run Try.prog W = .ok (.bool ((f x).getD false)) W := h.look x
theorem sb_put {W : World} {B : Nat} {f : ByteArray → Option Bool} (h : MapG tSB W B f) (x : ByteArray) (v : Bool) : ∃ W', (Instr.mapUpdate 47 (.map (some B)) (.string x) (.bool v)).run Try.prog W = .ok () W' ∧ MapG tSB W' B (putF f x v) ∧ W.grownBy W' (some B) := h.put x v
theorem is_look2 {W : World} {B : Nat} {f : Int → Option ByteArray} (h : MapG tIS W B f) (x : Int) : (Instr.lookup 55 (.map (some B)) (.int .i64 x) true).run Try.prog W = .ok (.tuple #[.string ((f x).getD ⟨#[]⟩), .bool (f x).isSome]) W := h.look2 x
theorem is_put {W : World} {B : Nat} {f : Int → Option ByteArray} (h : MapG tIS W B f) (x : Int) (v : ByteArray) : ∃ W', (Instr.mapUpdate 55 (.map (some B)) (.int .i64 x) (.string v)).run Try.prog W = .ok () W' ∧ MapG tIS W' B (putF f x v) ∧ W.grownBy W' (some B) := h.put x v
theorem ib_look {W : World} {B : Nat} {f : Int → Option Bool} (h : MapG tIB W B f) (x : Int) : (Instr.lookup 56 (.map (some B)) (.int .i64 x) false).run Try.prog W = .ok (.bool ((f x).getD false)) W := h.look x
theorem ib_put {W : World} {B : Nat} {f : Int → Option Bool} (h : MapG tIB W B f) (x : Int) (v : Bool) : ∃ W', (Instr.mapUpdate 56 (.map (some B)) (.int .i64 x) (.bool v)).run Try.prog W = .ok () W' ∧ MapG tIB W' B (putF f x v) ∧ W.grownBy W' (some B) := h.put x v
end Go.Proofs.Ytamiglolpchplaa.Hand
