/-
  Plain: what the reference's Encode of layer 9 answers.
-/
import Derived.Test.YtonbipaajhokfaaF0
import Derived.Test.YtonbipaajhokfaaC0
import Derived.Test.YtonbipaajhokfaaB1
set_option linter.unusedVariables false
set_option linter.unusedSimpArgs false
namespace Go.Proofs.Ytonbipaajhokfaa
open Go.RowKit Go.Proofs.YtonbipaajhokfaaW.PrintWords Go.Proofs.YtonbipaajhokfaaW.PrintLast Go.Proofs.YtonbipaajhokfaaW.PrintMore

theorem shr24 (n : Int) : shr .u64 n 24 = n / 256 / 256 / 256 := by
  show n / 2 ^ 24 = _
  rw [Int.ediv_ediv_of_nonneg (by decide), Int.ediv_ediv_of_nonneg (by decide)]
  rfl
theorem shr16 (n : Int) : shr .u64 n 16 = n / 256 / 256 := by
  show n / 2 ^ 16 = _
  rw [Int.ediv_ediv_of_nonneg (by decide)]
  rfl
theorem shr8 (n : Int) : shr .u64 n 8 = n / 256 := rfl
theorem shr0 (n : Int) : shr .u64 n 0 = n := by
  show n / 2 ^ 0 = n
  simp
theorem refFixed4 (k : Nat) (n : Int) : PSparePages.cahierref01_Fixed.f (k + 7) n 4 = some (bs (be4 n)) := by
  unfold PSparePages.cahierref01_Fixed.f
  simp only [PSparePages.cahierref01_Fixed.j0, PSparePages.cahierref01_Fixed.j1, PSparePages.cahierref01_Fixed.l0, wrap64, Int.reduceLT, if_false, gt_iff_lt, ge_iff_le, Int.reduceSub, Int.reduceAdd, Int.reduceMod, Int.reduceLE, if_true, Int.reduceMul, List.length_nil, List.nil_append, List.length_cons, List.cons_append, Nat.reduceAdd, Nat.reduceLeDiff, Nat.reduceLT, Int.reduceNeg]
  rw [shr24, shr16, shr8, shr0]
  rfl
theorem refFixed1 (k : Nat) (n : Int) : PSparePages.cahierref01_Fixed.f (k + 7) n 1 = some (bs [by8 n]) := by
  unfold PSparePages.cahierref01_Fixed.f
  simp only [PSparePages.cahierref01_Fixed.j0, PSparePages.cahierref01_Fixed.j1, PSparePages.cahierref01_Fixed.l0, wrap64, Int.reduceLT, if_false, gt_iff_lt, ge_iff_le, Int.reduceSub, Int.reduceAdd, Int.reduceMod, Int.reduceLE, if_true, Int.reduceMul, List.length_nil, List.nil_append, List.length_cons, List.cons_append, Nat.reduceAdd, Nat.reduceLeDiff, Nat.reduceLT, Int.reduceNeg]
  rw [shr0]
  rfl
theorem refFull (s : ByteArray) : PSparePages.cahierref04_Full.f s = some (bs (fullL s.data.toList)) := full_f s

theorem refEnc_l0 (next : Int) (l : List Int) (h50 : l.length ≤ 50) : ∀ (d j : Nat), j + d = l.length → ∀ k, RefNine.cahierref09_Encode.l0 (k + d + 9) (bs (trunkHead next l.length ++ be4s (l.take j))) (j : Int) next l =
    (if (l.drop j).any oddB then some (⟨#[]⟩, 1) else some (bs (trunkPage next l), 0)) := by
  intro d
  induction d with
  | zero =>
    intro j hj k
    have e1 : l.drop j = [] := List.drop_eq_nil_of_le (by omega)
    have e2 : l.take j = l := List.take_of_length_le (by omega)
    rw [e1, e2]
    unfold RefNine.cahierref09_Encode.l0
    rw [if_neg (by omega), refFull, bs_list]
    show some (bs (fullL (trunkHead next l.length ++ be4s l)), (0 : Int)) = some (bs (trunkPage next l), 0)
    congr 3
    rw [trunk_tail next l h50]
    unfold fullL
    have h6 : (trunkHead next l.length ++ be4s l).length = 6 + 4 * l.length := by simp [trunkHead, be4_length, be4s_length]; omega
    rw [h6, List.take_of_length_le (by omega)]
    congr 2
    omega
  | succ d ih =>
    intro j hj k
    have hjl : j < l.length := by omega
    have e1 : l.drop j = l.getD j 0 :: l.drop (j + 1) := by
      rw [List.getD_eq_getElem?_getD, List.getElem?_eq_getElem hjl]
      exact List.drop_eq_getElem_cons hjl
    have erd : rd l (j : Int) = l.getD j 0 := by simp [rd]
    unfold RefNine.cahierref09_Encode.l0
    rw [if_pos (by omega), if_pos (by omega), erd, e1, List.any_cons]
    generalize hx : l.getD j 0 = x
    by_cases h1 : x < 1
    · rw [if_pos h1, oddB_lo h1]; simp
    · rw [if_neg h1]
      by_cases h2 : x > 4095
      · rw [if_pos h2, oddB_hi (by omega)]; simp
      · rw [if_neg h2, oddB_no (by omega) (by omega), show k + (d + 1) + 8 = (k + d + 2) + 7 by omega, refFixed4, u64_same (by omega) (by omega)]
        simp only [Option.bind_some, Bool.false_or]
        rw [bs_size, bs_size, be4_length, if_pos (by simp [trunkHead, be4_length, be4s_length]; omega)]
        have hw : wrap64 ((j : Int) + 1) = ((j + 1 : Nat) : Int) := by unfold wrap64; omega
        rw [hw, bs_append, List.append_assoc, ← hx, ← be4s_take_succ l j hjl, show (k + d + 2) + 7 = k + d + 9 by omega]
        exact ih (j + 1) (by omega) k
theorem refEnc (next : Int) (l : List Int) (k : Nat) : RefNine.cahierref09_Encode.f (k + l.length + 10) next l = some (bs (encB next l), encE next l) := by
  unfold RefNine.cahierref09_Encode.f encB encE
  by_cases h1 : next < 0
  · have ho : encOk next l = false := by
      cases h : encOk next l with
      | false => rfl
      | true => have := (encOk_parts.1 h).1; omega
    rw [if_pos h1, ho]
    rfl
  · rw [if_neg h1]
    by_cases h2 : next > 4095
    · have ho : encOk next l = false := by
        cases h : encOk next l with
        | false => rfl
        | true => have := (encOk_parts.1 h).1; omega
      rw [if_pos h2, ho]
      rfl
    · rw [if_neg h2]
      by_cases h3 : (l.length : Int) > 50
      · have ho : encOk next l = false := by
          cases h : encOk next l with
          | false => rfl
          | true => have := (encOk_parts.1 h).2.1; omega
        rw [decide_eq_true h3, ho]
        rfl
      · rw [decide_eq_false h3]
        rw [show k + l.length + 10 = ((k + l.length + 2) + 7) + 1 by omega]
        rw [RefNine.cahierref09_Encode.j0]
        rw [if_neg (show ¬ (false = true) from Bool.false_ne_true), refFixed4, refFixed1, u64_same (by omega) (by omega), u64_same (by omega) (by omega)]
        simp only [Option.bind_some]
        rw [bs_size, be4_length, if_pos (by decide), ByteArray.size_append, bs_size, bs_size, be4_length, if_pos (show (⟨#[4]⟩ : ByteArray).size + 4 + [by8 (l.length : Int)].length ≤ 9223372036854775807 by show 1 + 4 + 1 ≤ 9223372036854775807; decide)]
        have e0 : (⟨#[4]⟩ : ByteArray) ++ bs (be4 next) ++ bs [by8 (l.length : Int)] = bs (trunkHead next l.length ++ be4s (l.take 0)) := by
          rw [show (⟨#[4]⟩ : ByteArray) = bs [4] from rfl, bs_append, bs_append]
          simp [trunkHead, be4s]
        rw [e0, show k + l.length + 9 = k + l.length + 9 from rfl]
        have := refEnc_l0 next l (by omega) l.length 0 (by omega) k
        rw [show ((0 : Nat) : Int) = 0 from rfl] at this
        rw [this, List.drop_zero]
        cases ha : l.any oddB with
        | true =>
          have ho : encOk next l = false := by unfold encOk; rw [ha]; simp
          rw [ho]
          rfl
        | false =>
          have ho : encOk next l = true := by
            refine encOk_parts.2 ⟨by omega, by omega, fun x hx => ?_⟩
            have := List.any_eq_false.1 ha x hx
            simp only [oddB, Bool.or_eq_true, decide_eq_true_eq] at this
            omega
          rw [ho]
          rfl
theorem refEnc_calls (next : Int) (A : Option Addr) (c : Nat) (l : List Int) (w : World) (hl : Kd.C (Kd.int .i64) w A l.length l) (hlc : l.length ≤ c) :
    Calls Try.prog 13 #[.agg #[.int .i64 next, .slice A l.length c]] w fun e w' => e = .returned (.tuple #[.string (bs (encB next l)), .int .i64 (encE next l)]) ∧ Below w.heap.size w w' :=
  RefNine.cahierref09_Encode.calls (0 + l.length + 10) next A c l _ _ w hl hlc (refEnc next l 0)
end Go.Proofs.Ytonbipaajhokfaa
