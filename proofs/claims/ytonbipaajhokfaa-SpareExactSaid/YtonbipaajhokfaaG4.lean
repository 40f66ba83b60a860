/-
  The reference's Take and Give answer what spare's do over a desk whose calls don't fail.
-/
import Derived.Test.YtonbipaajhokfaaG2
import Derived.Test.YtonbipaajhokfaaG3
set_option linter.unusedVariables false
set_option linter.unusedSimpArgs false
namespace Go.Proofs.Ytonbipaajhokfaa
open Go.RowKit Go.Proofs.YtonbipaajhokfaaW.PrintWords Go.Proofs.YtonbipaajhokfaaW.PrintLast Go.Proofs.YtonbipaajhokfaaW.PrintMore

/-- A head that is fit. -/
def FitP (h : Hd) : Prop := (h.mode = 1 ∨ h.mode = 2) ∧ 1 ≤ h.pages ∧ h.pages ≤ 4096 ∧ 0 ≤ h.trunk ∧ h.trunk < h.pages ∧ 0 ≤ h.root ∧ h.root < h.pages ∧ 0 ≤ h.spare ∧ h.spare < h.pages ∧ (h.spare = 0 ↔ h.trunk = 0)

def Desk.tick (s : Desk) : Desk := { s with left := wrap64 (s.left - 1) }
theorem desk_trunk (kd kb : Nat) (s : Desk) (n : Int) (h : s.left ≠ 0) : (deskShop kd kb).trunk s n =
    if decE1 (getB s.N s.D n).data.toList ≠ 0 then (s.tick, 0, [], 30) else (s.tick, decN1 (getB s.N s.D n).data.toList, decL1 (getB s.N s.D n).data.toList, 0) := by
  have h1 : (deskShop kd kb).get s n = (s.tick, getB s.N s.D n, 0) := by
    show Desk.get s n = _
    unfold Desk.get
    rw [if_neg h]; rfl
  unfold Shop.trunk
  rw [h1]
  dsimp only
  rw [if_neg (by decide)]
theorem desk_lay (kd kb : Nat) (s : Desk) (n next : Int) (l : List Int) (h : s.left ≠ 0) (hok : encOk next l = true) : (deskShop kd kb).lay s n next l =
    (⟨putN s.N n, putD s.N s.D n (bs (trunkPage next l)), wrap64 (s.left - 1)⟩, 0) := by
  unfold Shop.lay
  rw [if_pos hok]
  show Desk.put s n _ = _
  unfold Desk.put
  rw [if_neg h]
theorem dec_encOk {l : List UInt8} (h : decE1 l = 0) : encOk (decN1 l) (decL1 l) = true := by
  unfold decE1 at h
  split at h
  · rename_i h1
    split at h
    · rename_i h2
      unfold decN1 decL1
      rw [if_pos ⟨h1, h2⟩, if_pos ⟨h1, h2⟩]
      unfold decOk at h2
      exact (Bool.and_eq_true_iff.1 h2).1
    · cases h
  · cases h

theorem rtake_calls (kd kb kr : Nat) (F : Nat → Prop) (s : Desk) (h : Hd) (w : World) (hat : BookAt w F kr s.N s.D) (hf : FitP h) (hl : s.left < 0 ∧ -9000000000000000000 ≤ s.left) (hN : s.N.length < 1048576) :
    Calls Try.prog 21 #[h.v, .pointer (some ⟨kr, 0, none⟩)] w fun e w' => e = .returned (.tuple #[.int .i64 ((deskShop kd kb).take s h).2.1, ((deskShop kd kb).take s h).2.2.1.v, .int .i64 ((deskShop kd kb).take s h).2.2.2]) ∧ Goes (fun F' => BookAt w' F' kr ((deskShop kd kb).take s h).1.N ((deskShop kd kb).take s h).1.D) F w w' := by
  obtain ⟨m, p, t, sp, r, ch⟩ := h
  obtain ⟨-, f1, f2, f3, f4, -, -, f5, f6, f7⟩ := hf
  dsimp only at f1 f2 f3 f4 f5 f6 f7
  have hl0 : s.left ≠ 0 := by omega
  unfold Shop.take
  dsimp only
  by_cases c0 : sp = 0
  · rw [if_pos c0]
    by_cases c1 : 4096 ≤ p
    · rw [if_pos c1]; exact rt_A kr F s.N s.D m p t sp r ch w hat c0 c1
    · rw [if_neg c1]; exact rt_B kr F s.N s.D m p t sp r ch w hat c0 (by omega) (by omega)
  · rw [if_neg c0, desk_trunk kd kb s t hl0]
    have hpg := fun h => dec_encOk (l := (getB s.N s.D t).data.toList) h
    generalize hn : decN1 (getB s.N s.D t).data.toList = next at hpg
    generalize hll : decL1 (getB s.N s.D t).data.toList = l at hpg
    generalize he : decE1 (getB s.N s.D t).data.toList = er at hpg
    by_cases c2 : er ≠ 0
    · rw [if_pos c2, if_pos (show (30 : Int) ≠ 0 by decide)]; exact rt_C kr F s.N s.D m p t sp r ch next l er w hat c0 hn hll he c2
    · rw [if_neg c2]
      dsimp only
      rw [if_neg (by decide)]
      have he0 : er = 0 := by omega
      have hb : (er != 0) = false := by simp [he0]
      have hpk := hpg he0
      by_cases c3 : p ≤ next
      · rw [if_pos c3]; exact rt_D kr F s.N s.D m p t sp r ch next l er w hat c0 hn hll he he0 c3
      · rw [if_neg c3]
        by_cases c4 : l = []
        · rw [if_pos c4]
          cases h5 : (next == 0) <;> cases h6 : (sp == 1)
          · rw [if_pos rfl]; exact rt_E2b kr F s.N s.D m p t sp r ch next l er w hat c0 hn hll he hb (by omega) c4 f5 (by omega) h5 h6
          · rw [if_neg (by decide)]; exact rt_E1b kr F s.N s.D m p t sp r ch next l er w hat c0 hn hll he hb (by omega) c4 h5 h6
          · rw [if_neg (by decide)]; exact rt_E1a kr F s.N s.D m p t sp r ch next l er w hat c0 hn hll he hb (by omega) c4 h5 h6
          · rw [if_pos rfl]; exact rt_E2a kr F s.N s.D m p t sp r ch next l er w hat c0 hn hll he hb (by omega) c4 f5 (by omega) h5 h6
        · rw [if_neg c4]
          obtain ⟨l0, x, hl0x⟩ : ∃ l0 x, l = l0 ++ [x] := ⟨l.dropLast, l.getLast c4, (List.dropLast_concat_getLast c4).symm⟩
          subst hl0x
          rw [show (l0 ++ [x]).getLastD 0 = x by simp [List.getLastD_eq_getLast?], List.dropLast_concat]
          by_cases c5 : p ≤ x
          · rw [if_pos c5]; exact rt_F1 kr F s.N s.D m p t sp r ch next l0 x er w hat c0 hn hll he hb (by omega) c5
          · rw [if_neg c5]
            by_cases c6 : sp = 1
            · rw [if_pos c6]; exact rt_F2 kr F s.N s.D m p t sp r ch next l0 x er w hat c0 hn hll he hb (by omega) (by omega) (by simp [c6])
            · rw [if_neg c6]
              obtain ⟨g1, g2, g3⟩ := encOk_parts.1 hpk
              have hk0 : encOk next l0 = true := encOk_parts.2 ⟨g1, by simp at g2; omega, fun z hz => g3 z (by simp [hz])⟩
              have ht0 : s.tick.left ≠ 0 := by unfold Desk.tick wrap64; dsimp only; omega
              rw [desk_lay kd kb s.tick t next l0 ht0 hk0]
              dsimp only
              rw [if_neg (by decide)]
              exact rt_F3 kr F s.N s.D m p t sp r ch next l0 x er w hat c0 hn hll he hb (by omega) (by omega) (beq_false_of c6) f5 (by omega) hk0 hN

theorem rgive_calls (kd kb kr : Nat) (F : Nat → Prop) (s : Desk) (h : Hd) (n : Int) (w : World) (hat : BookAt w F kr s.N s.D) (hf : FitP h) (hl : s.left < 0 ∧ -9000000000000000000 ≤ s.left) (hN : s.N.length < 1048576) :
    Calls Try.prog 23 #[h.v, .pointer (some ⟨kr, 0, none⟩), .int .i64 n] w fun e w' => e = .returned (.tuple #[((deskShop kd kb).give s h n).2.1.v, .int .i64 ((deskShop kd kb).give s h n).2.2]) ∧ Goes (fun F' => BookAt w' F' kr ((deskShop kd kb).give s h n).1.N ((deskShop kd kb).give s h n).1.D) F w w' := by
  obtain ⟨m, p, t, sp, r, ch⟩ := h
  obtain ⟨-, f1, f2, f3, f4, -, -, f5, f6, f7⟩ := hf
  dsimp only at f1 f2 f3 f4 f5 f6 f7
  have hl0 : s.left ≠ 0 := by omega
  have ht0 : s.tick.left ≠ 0 := by unfold Desk.tick wrap64; dsimp only; omega
  unfold Shop.give
  dsimp only
  by_cases c1 : n < 1
  · rw [if_pos (Or.inl c1)]; exact rg_A1 kr F s.N s.D m p t sp r ch n w hat (decide_eq_true c1)
  · by_cases c2 : p ≤ n
    · rw [if_pos (Or.inr c2)]; exact rg_A2 kr F s.N s.D m p t sp r ch n w hat (decide_eq_false c1) (decide_eq_true c2)
    · rw [if_neg (by omega)]
      by_cases c3 : p - 1 ≤ sp
      · rw [if_pos c3]; exact rg_B kr F s.N s.D m p t sp r ch n w hat (decide_eq_false c1) (decide_eq_false c2) (by omega) f2 (decide_eq_true c3)
      · rw [if_neg c3]
        have hk0 : encOk t [] = true := encOk_parts.2 ⟨by rcases Int.lt_or_le 0 t with h | h; exact Or.inr ⟨by omega, by omega⟩; exact Or.inl (by omega), by simp, by simp⟩
        by_cases c4 : t = 0
        · rw [if_pos c4, desk_lay kd kb s n t [] hl0 hk0]
          unfold gaveOf
          dsimp only
          rw [if_neg (by decide)]
          exact rg_0 kr F s.N s.D m p t sp r ch n w hat (decide_eq_false c1) (decide_eq_false c2) (by omega) f2 f5 (decide_eq_false c3) (by simp [c4]) hk0 hN
        · rw [if_neg c4, desk_trunk kd kb s t hl0]
          have hpg := fun h => dec_encOk (l := (getB s.N s.D t).data.toList) h
          generalize hn : decN1 (getB s.N s.D t).data.toList = next at hpg
          generalize hll : decL1 (getB s.N s.D t).data.toList = l at hpg
          generalize he : decE1 (getB s.N s.D t).data.toList = er at hpg
          by_cases c5 : er ≠ 0
          · rw [if_pos c5, if_pos (show (30 : Int) ≠ 0 by decide)]; exact rg_C kr F s.N s.D m p t sp r ch n next l er w hat (decide_eq_false c1) (decide_eq_false c2) (by omega) f2 f5 (decide_eq_false c3) (by simp [c4]) hn hll he (by simp [c5])
          · rw [if_neg c5]
            dsimp only
            rw [if_neg (by decide)]
            have he0 : er = 0 := by omega
            have hb : (er != 0) = false := by simp [he0]
            obtain ⟨g1, g2, g3⟩ := encOk_parts.1 (hpg he0)
            by_cases c6 : l.length < 50
            · have hk1 : encOk next (l ++ [n]) = true := encOk_parts.2 ⟨g1, by simp; omega, fun z hz => by
                simp at hz
                rcases hz with hz | hz
                · exact g3 z hz
                · omega⟩
              rw [if_pos c6, desk_lay kd kb s.tick t next (l ++ [n]) ht0 hk1]
              unfold gaveOf
              dsimp only
              rw [if_neg (by decide)]
              exact rg_D kr F s.N s.D m p t sp r ch n next l er w hat (decide_eq_false c1) (decide_eq_false c2) (by omega) f2 f5 (decide_eq_false c3) (by simp [c4]) hn hll he hb (decide_eq_false (by omega)) _ rfl hk1 hN
            · rw [if_neg c6, desk_lay kd kb s.tick n t [] ht0 hk0]
              unfold gaveOf
              dsimp only
              rw [if_neg (by decide)]
              exact rg_E kr F s.N s.D m p t sp r ch n next l er w hat (decide_eq_false c1) (decide_eq_false c2) (by omega) f2 f5 (decide_eq_false c3) (by simp [c4]) hn hll he hb (decide_eq_true (by omega)) hk0 hN
end Go.Proofs.Ytonbipaajhokfaa
