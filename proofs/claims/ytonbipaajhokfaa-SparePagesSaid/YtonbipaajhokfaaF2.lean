/-
  Plain: what the reference's Unfixed answers.
-/
import Derived.Test.YtonbipaajhokfaaF1
set_option linter.unusedVariables false
set_option linter.unusedSimpArgs false
namespace Go.Proofs.Ytonbipaajhokfaa
open Go.RowKit Go.Proofs.YtonbipaajhokfaaW.PrintWords Go.Proofs.YtonbipaajhokfaaW.PrintLast Go.Proofs.YtonbipaajhokfaaW.PrintMore

theorem or_byte (m b : Nat) (hm : m < 72057594037927936) (hb : b < 256) : Go.bits .or .u64 ((m : Int) * 256) (b : Int) = (m : Int) * 256 + b := by
  have e1 : BitVec.ofInt 64 ((m : Int) * 256) = BitVec.ofNat 64 (2 ^ 8 * m) := by
    rw [show (m : Int) * 256 = ((2 ^ 8 * m : Nat) : Int) by omega]
    exact BitVec.ofInt_natCast ..
  have e2 : BitVec.ofInt 64 (b : Int) = BitVec.ofNat 64 b := BitVec.ofInt_natCast ..
  show IntKind.u64.wrap (((BitVec.ofInt 64 ((m : Int) * 256) ||| BitVec.ofInt 64 (b : Int)).toNat : Nat) : Int) = _
  rw [e1, e2, BitVec.toNat_or, BitVec.toNat_ofNat, BitVec.toNat_ofNat, Nat.mod_eq_of_lt (by omega), Nat.mod_eq_of_lt (by omega), ← Nat.two_pow_add_eq_or_of_lt (by omega) m, IntKind.wrap_u64]
  omega

theorem refUn_l0 (s : ByteArray) (h8 : s.size ≤ 8) : ∀ (d j : Nat), j + d = s.size → ∀ k, RefNine.cahierref01_Unfixed.l0 (k + d + 1) s (beV (s.data.toList.take j)) (j : Int) = some (beV s.data.toList, 0) := by
  intro d
  induction d with
  | zero =>
    intro j hj k
    rw [RefNine.cahierref01_Unfixed.l0, if_neg (by omega), List.take_of_length_le (by rw [data_length]; omega)]
  | succ d ih =>
    intro j hj k
    have hb := beV_take_bd s.data.toList j (by rw [data_length]; omega) (by rw [data_length]; omega)
    have hn := beV_take_succ s.data.toList j (by rw [data_length]; omega)
    have hbt : bt s (j : Int) = ((s.data.toList.getD j 0).toNat : Int) := by
      rw [byte_at s j (by omega)]
      unfold bt
      rw [dif_pos (by simp; omega)]
      simp
    have hlt := (s.data.toList.getD j 0).toNat_lt
    obtain ⟨m, hm⟩ : ∃ m : Nat, beV (s.data.toList.take j) = m := ⟨(beV (s.data.toList.take j)).toNat, by omega⟩
    rw [RefNine.cahierref01_Unfixed.l0, if_pos (by omega), if_pos (by omega), hbt]
    have h1 : IntKind.u64.wrap (beV (s.data.toList.take j) * 256) = (m : Int) * 256 := by rw [IntKind.wrap_u64]; omega
    have h2 : IntKind.u64.wrap ((s.data.toList.getD j 0).toNat : Int) = ((s.data.toList.getD j 0).toNat : Int) := by rw [IntKind.wrap_u64]; omega
    rw [h1, h2, or_byte m _ (by omega) hlt]
    have hw : wrap64 ((j : Int) + 1) = ((j + 1 : Nat) : Int) := by unfold wrap64; omega
    rw [hw, ← hm, ← hn]
    exact ih (j + 1) (by omega) k
theorem refUn (s : ByteArray) (h1 : 1 ≤ s.size) (h8 : s.size ≤ 8) : RefNine.cahierref01_Unfixed.f (s.size + 2) s = some (beV s.data.toList, 0) := by
  unfold RefNine.cahierref01_Unfixed.f
  rw [if_neg (by omega), decide_eq_false (by omega), RefNine.cahierref01_Unfixed.j0, if_neg (show ¬ (false = true) from Bool.false_ne_true)]
  have := refUn_l0 s h8 s.size 0 (by omega) 0
  rw [show 0 + s.size + 1 = s.size + 1 by omega] at this
  exact this
theorem refUn_calls (s : ByteArray) (w : World) (h1 : 1 ≤ s.size) (h8 : s.size ≤ 8) :
    Calls Try.prog 42 #[.string s] w fun e w' => e = .returned (.tuple #[.int .u64 (beV s.data.toList), .int .i64 0]) ∧ Below w.heap.size w w' :=
  (RefNine.cahierref01_Unfixed.calls (s.size + 2) s _ _ w (refUn s h1 h8)).mono fun _ _ h => ⟨h.1, h.2.below⟩
end Go.Proofs.Ytonbipaajhokfaa
