/- The document's Encode answers the same. -/
import Derived.Test.YtpcoelimabojcaaT1x1
import Derived.Test.YtpcoelimabojcaaHE7
import Derived.Test.YtpcoelimabojcaaHC23
namespace Go.Proofs.Ytpcoelimabojcaa.Hand
open Go.RowKit Go.Proofs.Ytpcoelimabojcaa Go.Proofs.YtpcoelimabojcaaW.PrintWords Go.Proofs.Ytpcoelimabojcaa.R0 Go.Proofs.Ytpcoelimabojcaa.T1
set_option linter.unusedVariables false
set_option linter.unusedSimpArgs false
theorem mod_byte {x : Int} (h : isN x) : [x % 256] = byteL x := by
  obtain ⟨h0, h1⟩ := h
  simp only [byteL, lowL, List.cons.injEq, and_true]
  omega
theorem bytes_six {x : Int} (h : isM x) : gazetteref01_Bytes.f x 6 = some (lowL x.toNat 6) := by
  unfold gazetteref01_Bytes.f wire_low.f
  rw [if_pos ⟨h.1, by decide, by decide⟩]
  rfl
theorem nodesB_len (ns : List Int) : (nodesB ns).length = ns.length := by
  induction ns with
  | nil => rfl
  | cons x l ih => show (byteL x ++ nodesB l).length = _; rw [List.length_append, byteL_len, ih, List.length_cons]; omega
theorem nodesB_drop {ns : List Int} (hn : ∀ x ∈ ns, isN x) {j : Nat} (h : j < ns.length) : nodesB (ns.drop j) = [ns.getD j 0 % 256] ++ nodesB (ns.drop (j + 1)) := by
  have e : ns.drop j = ns.getD j 0 :: ns.drop (j + 1) := by
    rw [List.getD_eq_getElem?_getD, List.getElem?_eq_getElem h, Option.getD_some, List.drop_eq_getElem_cons h]
  have hm : isN (ns.getD j 0) := by
    rw [List.getD_eq_getElem?_getD, List.getElem?_eq_getElem h, Option.getD_some]
    exact hn _ (List.getElem_mem h)
  rw [e]
  show byteL _ ++ nodesB _ = _
  rw [mod_byte hm]
theorem write_l1 (i : Int) (ow tr : Int) (pss : List S68) (f id : Int) (ns : List Int) (hn : ∀ x ∈ ns, isN x) (hl : ns.length < 256) (K : Nat) : ∀ (m j : Nat) (b : List Int), j + m = ns.length → b.length + m < 140737488355328 →
    gazetteref10_write.l1 (K + m + 1) b i (j : Int) ow tr pss f id ns = gazetteref10_write.l0 K (b ++ nodesB (ns.drop j)) (wrap64 (i + 1)) ow tr pss
  | 0, j, b, hj, hb => by
    rw [gazetteref10_write.l1, if_neg (by omega), List.drop_of_length_le (by omega)]
    simp [nodesB]
  | m + 1, j, b, hj, hb => by
    have hjl : j < ns.length := by omega
    rw [show K + (m + 1) + 1 = (K + m + 1) + 1 by omega, gazetteref10_write.l1, if_pos (by omega), if_pos (by omega), if_pos (by omega), rd_nat, wrap_nat (by omega)]
    rw [write_l1 i ow tr pss f id ns hn hl K m (j + 1) _ (by omega) (by rw [List.length_append, List.length_singleton]; omega)]
    rw [nodesB_drop hn hjl, List.append_assoc]
theorem partB_len {p : PartV} : (partB p).length = 13 + p.nodes.length := by
  unfold partB
  simp only [List.length_append, lowL_length, byteL_len, nodesB_len]
theorem write_l0 (ow tr : Int) (ps : List PartV) (hp : ∀ p ∈ ps, partOk p) (hl : ps.length < 256) : ∀ (m i : Nat) (b : List Int), i + m = ps.length → b.length + m * 300 < 140737488355328 →
    ∃ K, gazetteref10_write.l0 K b (i : Int) ow tr (ps.map toS) = some (b ++ (ps.drop i).flatMap partB)
  | 0, i, b, hi, hb => ⟨1, by rw [gazetteref10_write.l0, if_neg (by rw [List.length_map]; omega), List.drop_of_length_le (by omega)]; simp⟩
  | m + 1, i, b, hi, hb => by
    have hil : i < ps.length := by omega
    have hpi : partOk (ps.getD i part0) := by
      rw [List.getD_eq_getElem?_getD, List.getElem?_eq_getElem hil, Option.getD_some]
      exact hp _ (List.getElem_mem hil)
    have hdrop : (ps.drop i).flatMap partB = partB (ps.getD i part0) ++ (ps.drop (i + 1)).flatMap partB := by
      have e : ps.drop i = ps.getD i part0 :: ps.drop (i + 1) := by
        rw [List.getD_eq_getElem?_getD, List.getElem?_eq_getElem hil, Option.getD_some, List.drop_eq_getElem_cons hil]
      rw [e, List.flatMap_cons]
    generalize hP : ps.getD i part0 = P at hpi hdrop
    have hlen := @partB_len P
    obtain ⟨h1, h2, h3, h4⟩ := hpi
    obtain ⟨K, hK⟩ := write_l0 ow tr ps hp hl m (i + 1) (b ++ partB P) (by omega) (by rw [List.length_append]; omega)
    refine ⟨K + P.nodes.length + 1 + 1, ?_⟩
    rw [gazetteref10_write.l0, if_pos (by rw [List.length_map]; omega), if_pos (by omega), rd_toS, hP]
    show ((gazetteref01_Bytes.f P.first 6).bind _) = _
    rw [bytes_six h1, Option.bind_some, if_pos (by rw [lowL_length]; omega), Option.bind_some]
    show ((gazetteref01_Bytes.f P.id 6).bind _) = _
    rw [bytes_six h2, Option.bind_some, if_pos (by rw [List.length_append, lowL_length, lowL_length]; omega), Option.bind_some, if_pos (by rw [List.length_append, List.length_append, lowL_length, lowL_length]; omega)]
    show gazetteref10_write.l1 _ (b ++ _ ++ _ ++ [((P.nodes.length : Nat) : Int) % 256]) _ ((0 : Nat) : Int) _ _ _ P.first P.id P.nodes = _
    rw [write_l1 (i : Int) ow tr (ps.map toS) P.first P.id P.nodes h4 h3 K P.nodes.length 0 _ (by omega) (by simp only [List.length_append, lowL_length, List.length_singleton]; omega), wrap_nat (by omega), mod_byte (show isN _ from ⟨by omega, by omega⟩), List.drop_zero, hdrop]
    have e : b ++ lowL P.first.toNat 6 ++ lowL P.id.toNat 6 ++ byteL (P.nodes.length : Int) ++ nodesB P.nodes = b ++ partB P := by simp [partB, List.append_assoc]
    rw [e, hK, List.append_assoc]
theorem write_ev {ow tr : Int} {ps : List PartV} (ho : isN ow) (ht : isM tr) (hl : ps.length < 256) (hp : ∀ p ∈ ps, partOk p) : ∃ K, gazetteref10_write.f K ow tr (ps.map toS) = some (chainB ow tr ps) := by
  obtain ⟨K, hK⟩ := write_l0 ow tr ps hp hl ps.length 0 (byteL ow ++ lowL tr.toNat 6 ++ byteL (ps.length : Int)) (by omega) (by simp only [List.length_append, lowL_length, byteL_len]; omega)
  refine ⟨K, ?_⟩
  unfold gazetteref10_write.f
  rw [Option.bind_some, bytes_six ht, Option.bind_some, if_pos (by rw [lowL_length]; simp), Option.bind_some, if_pos (by simp [lowL_length]), mod_byte ho, List.length_map, mod_byte (show isN _ from ⟨by omega, by omega⟩)]
  rw [List.drop_zero] at hK
  exact hK
theorem refEncode_ev (ow tr n : Int) (ps : List PartV) (hl : ps.length ≤ 9223372036854775807) (hn : ∀ p ∈ ps, p.nodes.length ≤ 9223372036854775807) : ∃ K, gazetteref10_Encode.f K ow tr (ps.map toS) n = some ((encF ow tr ps n).1, (encF ow tr ps n).2) := by
  by_cases hr : rightF ow tr ps n = true
  · by_cases h : n > 256
    · refine ⟨checkK ps, ?_⟩
      unfold gazetteref10_Encode.f encF
      rw [check10_ev n ow tr ps hl hn _ (Nat.le_refl _), hr, Option.bind_some, if_pos (show errB true = 0 from rfl), if_pos h, if_pos (show true = true from rfl), if_pos (show 256 < n from h)]
    · obtain ⟨h1, h2, h3, h4⟩ := right_ok hr (by omega)
      obtain ⟨K, hK⟩ := write_ev h1 h2 h3 h4
      refine ⟨K + checkK ps, ?_⟩
      unfold gazetteref10_Encode.f encF
      rw [check10_ev n ow tr ps hl hn _ (Nat.le_add_left _ _), hr, Option.bind_some, if_pos (show errB true = 0 from rfl), if_neg h, if_pos (show true = true from rfl), if_neg (show ¬ 256 < n from h), at_rounds (gazetteref10_write.mono _ _ _) (Nat.le_add_right K _) hK, Option.bind_some, encL_ev h1 h2 h3 h4]
  · refine ⟨checkK ps, ?_⟩
    unfold gazetteref10_Encode.f encF
    have hf : rightF ow tr ps n = false := by simpa using hr
    rw [check10_ev n ow tr ps hl hn _ (Nat.le_refl _), hf, Option.bind_some, if_neg (by decide), if_neg (by decide)]
    rfl
theorem refEncode_c (ow tr n : Int) (A : Option Addr) (c : Nat) (ps : List PartV) (W : World) (hr : Kd.C k53 W A ps.length ps) (hc : ps.length ≤ c) (hn : ∀ p ∈ ps, p.nodes.length ≤ 9223372036854775807) :
    Calls Try.prog 29 #[.agg #[.int .i64 ow, .int .i64 tr, .slice A ps.length c], .int .i64 n] W fun e W' => ∃ v, e = .returned (.tuple #[v, .int .i64 (encF ow tr ps n).2]) ∧ Kd.R (Kd.int .u8) 5 W' W.heap.size (fun _ => True) v (encF ow tr ps n).1 ∧ Below W.heap.size W W' := by
  obtain ⟨K, hK⟩ := refEncode_ev ow tr n ps (Kd.C_max hr) hn
  have hlm : (ps.map toS).length = ps.length := List.length_map _
  have h := gazetteref10_Encode.calls K ow tr A c (ps.map toS) n _ _ W (C_toS hr) (by rw [hlm]; exact hc) hK
  rw [hlm] at h
  exact h
end Go.Proofs.Ytpcoelimabojcaa.Hand
