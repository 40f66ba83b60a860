/-
  Plain: a trunk's page is read as it was laid.
-/
import Derived.Test.YtonbipaajhokfaaA5
set_option linter.unusedVariables false
set_option linter.unusedSimpArgs false
namespace Go.Proofs.Ytonbipaajhokfaa
open Go.RowKit Go.Proofs.YtonbipaajhokfaaW.PrintWords Go.Proofs.YtonbipaajhokfaaW.PrintLast Go.Proofs.YtonbipaajhokfaaW.PrintMore

theorem by8_nat (n : Int) : ((by8 n).toNat : Int) = n % 256 := by
  unfold by8
  rw [UInt8.toNat_ofNat']
  omega
theorem beV_be4 (n : Int) (h0 : 0 ≤ n) (h1 : n < 4294967296) : beV (be4 n) = n := by
  unfold beV be4
  simp only [List.foldl_cons, List.foldl_nil, by8_nat]
  omega
theorem encOk_parts {next : Int} {l : List Int} : encOk next l = true ↔ (next = 0 ∨ (1 ≤ next ∧ next < 4096)) ∧ l.length ≤ 50 ∧ ∀ x ∈ l, 1 ≤ x ∧ x < 4096 := by
  unfold encOk oddB
  simp only [Bool.and_eq_true, Bool.or_eq_true, beq_iff_eq, Bool.not_eq_true', decide_eq_true_eq, Bool.or_eq_false_iff, decide_eq_false_iff_not, List.any_eq_false, not_or]
  constructor
  · rintro ⟨⟨h1, h2⟩, h3⟩
    exact ⟨by omega, h2, fun x hx => by have := h3 x hx; omega⟩
  · rintro ⟨h1, h2, h3⟩
    exact ⟨⟨by omega, h2⟩, fun x hx => by have := h3 x hx; omega⟩
theorem trunkPage_length (next : Int) (l : List Int) (h : l.length ≤ 50) : (trunkPage next l).length = 232 := by
  rw [trunk_tail next l h]
  simp only [List.length_append, be4s_length, trunkHead, List.length_cons, be4_length, List.length_replicate, List.length_nil]
  omega
theorem be4s_at (l : List Int) (z : List UInt8) (i : Nat) (h : i < l.length) : ((be4s l ++ z).drop (4 * i)).take 4 = be4 (l.getD i 0) := by
  induction l generalizing i with
  | nil => simp at h
  | cons x r ih =>
    have e : be4s (x :: r) ++ z = be4 x ++ (be4s r ++ z) := by simp [be4s, List.append_assoc]
    rw [e]
    cases i with
    | zero => rw [Nat.mul_zero, List.drop_zero, List.take_left' (be4_length x)]; rfl
    | succ i =>
      have e2 : 4 * (i + 1) = (be4 x).length + 4 * i := by rw [be4_length]; omega
      rw [e2, ← List.drop_drop, List.drop_left, ih i (by simpa using h)]
      rfl
theorem decN_page (next : Int) (l : List Int) (h0 : 0 ≤ next) (h1 : next < 4096) (h : l.length ≤ 50) : decN (trunkPage next l) = next := by
  unfold decN rd4
  rw [trunk_tail next l h]
  have : ((trunkHead next l.length ++ be4s l ++ List.replicate (226 - 4 * l.length) 0).drop 1).take 4 = be4 next := by
    unfold trunkHead
    simp only [List.cons_append, List.drop_succ_cons, List.drop_zero, List.append_assoc]
    exact List.take_left' (be4_length next)
  rw [this, beV_be4 next h0 (by omega)]
theorem decC_page (next : Int) (l : List Int) (h : l.length ≤ 50) : decC (trunkPage next l) = l.length := by
  unfold decC
  rw [trunk_tail next l h]
  have e : (trunkHead next l.length ++ be4s l ++ List.replicate (226 - 4 * l.length) 0).getD 5 0 = by8 (l.length : Int) := by
    unfold trunkHead be4
    simp [List.getD_eq_getElem?_getD]
  rw [e]
  have := by8_nat (l.length : Int)
  omega
theorem decL_page (next : Int) (l : List Int) (h : l.length ≤ 50) (hl : ∀ x ∈ l, 1 ≤ x ∧ x < 4096) : decL (trunkPage next l) = l := by
  unfold decL
  rw [decC_page next l h]
  apply List.ext_getElem
  · simp
  · intro i h1 h2
    simp only [List.getElem_map, List.getElem_range]
    unfold rd4
    rw [trunk_tail next l h, List.append_assoc]
    have e2 : 6 + 4 * i = (trunkHead next l.length).length + 4 * i := by simp [trunkHead, be4_length]
    rw [e2, ← List.drop_drop, List.drop_left, be4s_at l _ i h2]
    have hx : l.getD i 0 = l[i] := by simp [List.getD_eq_getElem?_getD, List.getElem?_eq_getElem h2]
    have := hl l[i] (List.getElem_mem h2)
    rw [hx, beV_be4 _ (by omega) (by omega)]
theorem decOk_page {next : Int} {l : List Int} (h : encOk next l = true) : decOk (trunkPage next l) = true := by
  obtain ⟨h1, h2, h3⟩ := encOk_parts.1 h
  unfold decOk
  rw [decN_page next l (by omega) (by omega) h2, decL_page next l h2 h3, h]
  simp
theorem dec_page {next : Int} {l : List Int} (h : encOk next l = true) : decN1 (trunkPage next l) = next ∧ decL1 (trunkPage next l) = l ∧ decE1 (trunkPage next l) = 0 := by
  obtain ⟨h1, h2, h3⟩ := encOk_parts.1 h
  unfold decN1 decL1 decE1
  rw [if_pos ⟨trunkPage_length next l h2, decOk_page h⟩, if_pos ⟨trunkPage_length next l h2, decOk_page h⟩, if_pos (trunkPage_length next l h2), if_pos (decOk_page h)]
  exact ⟨decN_page next l (by omega) (by omega) h2, decL_page next l h2 h3, rfl⟩
end Go.Proofs.Ytonbipaajhokfaa
