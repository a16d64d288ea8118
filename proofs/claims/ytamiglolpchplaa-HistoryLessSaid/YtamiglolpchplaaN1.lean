/- HistoryLess, in plain words. -/
import Derived.Test.YtamiglolpchplaaPHistoryLessx1
import Derived.Test.YtamiglolpchplaaLA
namespace Go.Proofs.Ytamiglolpchplaa.Hand
open Go.RowKit Go.Proofs.Ytamiglolpchplaa Go.Proofs.YtamiglolpchplaaW.PrintWords Go.Proofs.YtamiglolpchplaaW.PrintLast Go.Proofs.Ytamiglolpchplaa.R0 Go.Proofs.Ytamiglolpchplaa.PHistoryLess
set_option linter.unusedVariables false
set_option linter.unusedSimpArgs false
def ownS (x : S35) : S34 := ⟨x.f0, x.f1, x.f2, x.f3, x.f4, x.f5, x.f6⟩
theorem own_l0 (l : List S35) (hl : l.length < 1954687338268) (hv : ∀ x ∈ l, x.f6.length < 8796093022208) : ∀ (n k i : Nat), l.length - i = n → i ≤ l.length → n < k → gazettelaw20_Own.l0 k l ((l.take i).map ownS) (i : Int) = some (l.map ownS) := by
  intro n
  induction n with
  | zero =>
    intro k i hn hi hk
    obtain ⟨k, rfl⟩ : ∃ k', k = k' + 1 := ⟨k - 1, by omega⟩
    rw [gazettelaw20_Own.l0, if_neg (by omega), List.take_of_length_le (by omega)]
  | succ n ih =>
    intro k i hn hi hk
    obtain ⟨k, rfl⟩ : ∃ k', k = k' + 1 := ⟨k - 1, by omega⟩
    have hlt : i < l.length := by omega
    have hrd : rd_T35 l (i : Int) = l[i] := by
      rw [rd_T35, Int.toNat_natCast, List.getD_eq_getElem?_getD, List.getElem?_eq_getElem hlt]; rfl
    have hw : wrap64 ((i : Int) + 1) = ((i + 1 : Nat) : Int) := by unfold wrap64; omega
    have hs : ([] : List ByteArray).length + (rd_T35 l (i : Int)).f6.length < 8796093022208 := by
      rw [hrd, List.length_nil, Nat.zero_add]; exact hv _ (List.getElem_mem hlt)
    have ht : ((l.take i).map ownS).length < 1954687338268 := by rw [List.length_map, List.length_take]; omega
    rw [gazettelaw20_Own.l0, if_pos (by omega), if_pos (by omega)]
    show (if ([] : List ByteArray).length + (rd_T35 l (i : Int)).f6.length < 8796093022208 then _ else none) = _
    rw [if_pos hs, if_pos ht, hw]
    have := ih k (i + 1) (by omega) (by omega) (by omega)
    rw [List.take_add_one, List.getElem?_eq_getElem hlt, List.map_append] at this
    rw [hrd]
    exact this
theorem own_ok (l : List S35) (hl : l.length < 1954687338268) (hv : ∀ x ∈ l, x.f6.length < 8796093022208) (k : Nat) (hk : l.length < k) : gazettelaw20_Own.f k l = some (l.map ownS) := own_l0 l hl hv l.length k 0 (by omega) (by omega) hk
theorem kIndex (r : Int) (n : Nat) (h0 : 0 < n) (hn : n < 4611686018427387904) : ∃ j : Nat, j < n ∧ Int.tmod (wrap64 (Int.tmod r (n : Int) + (n : Int))) (n : Int) = (j : Int) := by
  have h1 : Int.tmod r (n : Int) < n := Int.tmod_lt_of_pos r (by omega)
  have h2 : -(n : Int) < Int.tmod r (n : Int) := Int.lt_tmod_of_pos r (by omega)
  have h3 : wrap64 (Int.tmod r (n : Int) + (n : Int)) = Int.tmod r (n : Int) + (n : Int) := by
    generalize Int.tmod r (n : Int) = m at h1 h2
    unfold wrap64; omega
  rw [h3]
  generalize Int.tmod r (n : Int) = m at h1 h2
  have h4 : 0 ≤ Int.tmod (m + (n : Int)) (n : Int) := Int.tmod_nonneg _ (by omega)
  have h5 : Int.tmod (m + (n : Int)) (n : Int) < n := Int.tmod_lt_of_pos _ (by omega)
  exact ⟨(Int.tmod (m + (n : Int)) (n : Int)).toNat, by omega, by omega⟩
theorem check_less {xs : List S34} {j : Nat} (hj : j < xs.length) (hrd : (rd_T34 xs (j : Int)).f0 = true) (h : checkC (xs.map toV) = 0) : checkC ((xs.take j ++ xs.drop (j + 1)).map toV) = 0 := by
  obtain ⟨h1, h2⟩ := lin_of_C h
  have hx : rd_T34 xs (j : Int) = xs[j] := by
    rw [rd_T34, Int.toNat_natCast, List.getD_eq_getElem?_getD, List.getElem?_eq_getElem hj]; rfl
  have hp := (at_perm xs j hj).map toV
  rw [List.map_cons] at hp
  obtain ⟨a1, a2⟩ := less_ok hp (by rw [← hx]; exact hrd) h1 h2
  exact checkC_0 a1 a2
theorem less_l0 (x1 : List Int) (e : Int) (h1 : x1.length ≤ 9223372036854775806) : ∀ (n k i : Nat) (xs : List S34), x1.length - i = n → i ≤ x1.length → n < k → xs.length < 1954687338268 → (e = 0 → checkC (xs.map toV) = 0) → gazettelaw20_HistoryLess.l0 k x1 xs e (i : Int) = some true := by
  intro n
  induction n with
  | zero =>
    intro k i xs hn hi hk hl he
    obtain ⟨k, rfl⟩ : ∃ k', k = k' + 1 := ⟨k - 1, by omega⟩
    rw [gazettelaw20_HistoryLess.l0, if_neg (by omega)]
    rfl
  | succ n ih =>
    intro k i xs hn hi hk hl he
    obtain ⟨k, rfl⟩ : ∃ k', k = k' + 1 := ⟨k - 1, by omega⟩
    have hlt : i < x1.length := by omega
    have hw : wrap64 ((i : Int) + 1) = ((i + 1 : Nat) : Int) := by unfold wrap64; omega
    rw [gazettelaw20_HistoryLess.l0, if_pos (by omega)]
    by_cases hx0 : (xs.length : Int) = 0
    · rw [if_pos hx0]; rfl
    rw [if_neg hx0, if_pos (by omega)]
    obtain ⟨j, hj, hK⟩ := kIndex (rd x1 (i : Int)) xs.length (by omega) (by omega)
    rw [hK, hw, if_pos (by omega), if_pos (by omega)]
    by_cases hrd : (rd_T34 xs (j : Int)).f0 = true
    · have hw2 : wrap64 ((j : Int) + 1) = ((j + 1 : Nat) : Int) := by unfold wrap64; omega
      have e1 : ([] : List S34).length + (xs.take j).length < 1954687338268 := by rw [List.length_take, List.length_nil]; omega
      have e2 : (([] : List S34) ++ xs.take j).length + (xs.drop (j + 1)).length < 1954687338268 := by rw [List.nil_append, List.length_take, List.length_drop]; omega
      have hlen : (xs.take j ++ xs.drop (j + 1)).length < 1954687338268 := by rw [List.length_append, List.length_take, List.length_drop]; omega
      rw [if_pos hrd, hw2]
      simp only [Option.bind_some, Int.toNat_natCast]
      rw [if_pos (by omega), if_pos e1, if_pos (by omega), if_pos (by omega), if_pos e2, List.nil_append]
      by_cases he0 : e = 0
      · have hc := check_less hj hrd (he he0)
        rw [if_pos he0]
        simp only [history_Check.f, gazettelaw20_num.f, Option.bind_some, hc, if_true]
        exact ih k (i + 1) _ (by omega) (by omega) (by omega) hlen (fun _ => hc)
      · rw [if_neg he0]
        exact ih k (i + 1) _ (by omega) (by omega) (by omega) hlen (fun h => absurd h he0)
    · rw [if_neg hrd]
      exact ih k (i + 1) xs (by omega) (by omega) (by omega) hl he
theorem pure_less (l0 : List S35) (l1 : List Int) (h0 : l0.length < 1954687338268) (hv : ∀ x ∈ l0, x.f6.length < 8796093022208) (h1 : l1.length ≤ 9223372036854775806) : ∃ k, gazettelaw20_HistoryLess.f k l0 l1 = some true := by
  refine ⟨l0.length + l1.length + 1, ?_⟩
  rw [gazettelaw20_HistoryLess.f, own_ok l0 h0 hv _ (by omega)]
  exact less_l0 l1 _ h1 l1.length _ 0 _ (by omega) (by omega) (by omega) (by rw [List.length_map]; exact h0) (fun h => h)
end Go.Proofs.Ytamiglolpchplaa.Hand
