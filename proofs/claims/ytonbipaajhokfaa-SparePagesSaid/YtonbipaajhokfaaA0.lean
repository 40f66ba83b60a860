/-
  Plain definitions of layer 9's numbers, trunks and pages: what the walks say that the code computes.
-/
import Derived.Test.YtonbipaajhokfaaPShelfFailsx1
namespace Go.Proofs.Ytonbipaajhokfaa

/-- The number that bytes are, the highest first. -/
def beV (l : List UInt8) : Int := l.foldl (fun a b => a * 256 + (b.toNat : Int)) 0
theorem beV_nil : beV [] = 0 := rfl
theorem beV_snoc (l : List UInt8) (b : UInt8) : beV (l ++ [b]) = beV l * 256 + (b.toNat : Int) := by
  unfold beV; rw [List.foldl_append]; rfl
theorem beV_bd : ∀ (n : Nat) (l : List UInt8), l.length = n → 0 ≤ beV l ∧ beV l < 256 ^ n := by
  intro n
  induction n with
  | zero => intro l h; rw [List.eq_nil_of_length_eq_zero h]; exact ⟨by decide, by decide⟩
  | succ n ih =>
    intro l h
    obtain ⟨l', b, rfl⟩ : ∃ l' b, l = l' ++ [b] := by
      rcases List.eq_nil_or_concat l with h0 | ⟨l', b, h1⟩
      · subst h0; simp at h
      · exact ⟨l', b, by rw [h1, List.concat_eq_append]⟩
    have := ih l' (by simpa using h)
    rw [beV_snoc]
    have hb := b.toNat_lt
    rw [Int.pow_succ]
    omega
theorem take_snoc8 (l : List UInt8) (k : Nat) (h : k < l.length) : l.take (k + 1) = l.take k ++ [l.getD k 0] := by
  rw [List.take_succ_eq_append_getElem h]; simp [List.getD, h]
theorem beV_take_succ (l : List UInt8) (k : Nat) (h : k < l.length) : beV (l.take (k + 1)) = beV (l.take k) * 256 + ((l.getD k 0).toNat : Int) := by
  rw [take_snoc8 l k h, beV_snoc]
theorem beV_take_bd (l : List UInt8) (k : Nat) (h : k < l.length) (h8 : l.length ≤ 8) : 0 ≤ beV (l.take k) ∧ beV (l.take k) < 72057594037927936 := by
  have hb := beV_bd k (l.take k) (by rw [List.length_take]; omega)
  refine ⟨hb.1, Int.lt_of_lt_of_le hb.2 ?_⟩
  have : k ≤ 7 := by omega
  have h2 : (256 : Int) ^ k ≤ 256 ^ 7 := by
    rcases (by omega : k = 0 ∨ k = 1 ∨ k = 2 ∨ k = 3 ∨ k = 4 ∨ k = 5 ∨ k = 6 ∨ k = 7) with rfl | rfl | rfl | rfl | rfl | rfl | rfl | rfl <;> decide
  exact Int.le_trans h2 (by decide)

end Go.Proofs.Ytonbipaajhokfaa
