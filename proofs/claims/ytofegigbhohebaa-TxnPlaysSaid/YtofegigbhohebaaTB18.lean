/- Todo, whole; Places. -/
import Derived.Test.YtofegigbhohebaaTB17
namespace Go.Proofs.Ytofegigbhohebaa.Hand
open Go.RowKit Go.Proofs.Ytofegigbhohebaa Go.Proofs.YtofegigbhohebaaW.PrintWords Go.Proofs.YtofegigbhohebaaW.PrintLast
set_option linter.unusedVariables false
set_option linter.unusedSimpArgs false
variable {own : Nat → Nat} {gb : Nat} {gs : List Nat} {ps : List ProdV} {w w' : World}
theorem todosUpto_len (hg : Good ps) : ∀ k, k ≤ ps.length → (todosUpto ps k).length ≤ 100 * k
  | 0, _ => by simp [todosUpto]
  | k + 1, h => by
    rw [todosUpto_succ, List.length_append]
    have h1 := todosUpto_len hg k (by omega)
    have h2 : (tdOf k (ps.getD k prod0)).length ≤ 100 := by
      unfold tdOf
      split
      · rw [List.length_map]; exact (hg.at_ (by omega)).len
      · exact Nat.zero_le _
    omega
theorem todosF_len (hg : Good ps) : (todosF ps).length ≤ 100000 := by
  have h1 := todosUpto_len hg ps.length (Nat.le_refl _)
  have h2 := hg.len
  unfold todosF
  omega
theorem appendSeq_c (h : BI own gb gs ps w) (hg : Good ps) (w1 : World) (Bs : Nat) (hw : Below w.heap.size w w1) (hBs : w1.cell? ⟨Bs, 0, none⟩ = some (.pointer (some ⟨gb, 0, none⟩))) : Calls Try.prog 63 #[.slice none 0 0, .func (.func 64) #[] #[.pointer (some ⟨Bs, 0, none⟩)]] w1 fun e W' => ∃ v, e = .returned v ∧ W'.ownsRow w1.heap.size 46 4 v (todosF ps).length (tdsC (todosF ps)) ∧ Below w1.heap.size w1 W' :=
  callsIn_wide.1 (appendSeq_in (fun _ => True) 6 trivial trivial trivial (Nat.le_refl _) Bs w h hg w1 hw hBs (Nat.le_trans (todosF_len hg) (by decide)))
set_option maxRecDepth 100000 in
theorem todos_c (w : World) : Calls Try.prog 37 #[.pointer (some ⟨gb, 0, none⟩)] w fun e w' => e = .returned (.func (.func 64) #[] #[.pointer (some ⟨w.heap.size, 0, none⟩)]) ∧ w' = w.alloc (.cells #[.pointer (some ⟨gb, 0, none⟩)] 23 (0, 0)) := by
  have hmf : ∀ (fn : Fn) (first cap : Array Value) (w : World), (Instr.makeFunc fn first cap).run Try.prog w = .ok (.func fn first cap) w := fun _ _ _ _ => rfl
  go_enter Try.func37, Try.ntmps37
  go_wp2_with fail
  go_ret
  exact ⟨rfl, rfl⟩
set_option maxRecDepth 100000 in
theorem collect_c (h : BI own gb gs ps w) (hg : Good ps) (w1 : World) (Bs : Nat) (hw : Below w.heap.size w w1) (hBs : w1.cell? ⟨Bs, 0, none⟩ = some (.pointer (some ⟨gb, 0, none⟩))) : Calls Try.prog 36 #[.func (.func 64) #[] #[.pointer (some ⟨Bs, 0, none⟩)]] w1 fun e W' => ∃ v, e = .returned v ∧ W'.ownsRow w1.heap.size 46 4 v (todosF ps).length (tdsC (todosF ps)) ∧ Below w1.heap.size w1 W' := by
  have HC := Aside0.mk (appendSeq_c h hg w1 Bs hw hBs)
  clear h hg hw hBs
  go_enter Try.func36, Try.ntmps36
  go_wp2_with (go_at_call 63; refine HC.out.mono ?_; rintro e w2 ⟨v, rfl, hp⟩; have HP := Aside0.mk hp; clear hp)
  exact bodyPost_ret (v := v) (by simp [results, Try.results36, go_sem]) rfl ⟨v, rfl, HP.out⟩
set_option maxRecDepth 100000 in
theorem todo_c (h : BI own gb gs ps w) (hg : Good ps) : Calls Try.prog 17 #[.pointer (some ⟨gb, 0, none⟩)] w fun e w' => ∃ v, e = .returned v ∧ w'.ownsRow w.heap.size 46 4 v (todosF ps).length (tdsC (todosF ps)) ∧ Below w.heap.size w w' := by
  have HI := Aside0.mk h
  have hb := below_alloc (Below.refl w.heap.size w) (.cells #[.pointer (some ⟨gb, 0, none⟩)] 23 (0, 0))
  have HC := Aside0.mk (collect_c h hg (w.alloc (.cells #[.pointer (some ⟨gb, 0, none⟩)] 23 (0, 0))) w.heap.size hb ((blk_cell (heap_alloc_new w _) 0).trans rfl))
  have HB := Aside0.mk hb
  clear h hg hb
  go_enter Try.func17, Try.ntmps17
  go_wp2_with (first | (go_at_call 35; refine (none_c HI.out).mono ?_; rintro e w' ⟨rfl, rfl⟩) | (go_at_call 37; refine (todos_c _).mono ?_; rintro e w' ⟨rfl, rfl⟩) | (go_at_call 36; refine HC.out.mono ?_; rintro e w2 ⟨v, rfl, hp⟩; have HP := Aside0.mk hp; clear hp))
  refine bodyPost_ret (v := v) (by simp [results, Try.results17, go_sem]) rfl ⟨v, rfl, ?_, below_step HB.out HP.out.2⟩
  obtain ⟨e1, e2 | ⟨g, cap, cur, e3, e4, e5⟩⟩ := HP.out.1
  · exact ⟨e1, .inl e2⟩
  · exact ⟨e1, .inr ⟨g, cap, cur, e3, Nat.le_trans HB.out.size e4, e5⟩⟩
end Go.Proofs.Ytofegigbhohebaa.Hand
