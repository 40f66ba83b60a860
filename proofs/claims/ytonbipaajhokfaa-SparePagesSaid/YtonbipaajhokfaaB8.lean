/-
  spare.Take over any store: all ways together.
-/
import Derived.Test.YtonbipaajhokfaaB7
set_option linter.unusedVariables false
set_option linter.unusedSimpArgs false
namespace Go.Proofs.Ytonbipaajhokfaa
open Go.RowKit Go.Proofs.YtonbipaajhokfaaW.PrintWords Go.Proofs.YtonbipaajhokfaaW.PrintLast Go.Proofs.YtonbipaajhokfaaW.PrintMore
variable {St : Type}

theorem trunk_fits (S : Shop St) {s : St} (n : Int) (h : S.fits s) : S.fits (S.trunk s n).1 := by
  have := S.fits_get n h
  unfold Shop.trunk
  dsimp only
  split
  · exact this
  · split <;> exact this

/-- What Take answers: the store, the page, the head, the error. -/
def Shop.take (S : Shop St) (s : St) (h : Hd) : St × Int × Hd × Int :=
  if h.spare = 0 then (if 4096 ≤ h.pages then (s, 0, Hd.zero, 22) else (s, h.pages, { h with pages := h.pages + 1 }, 0))
  else if (S.trunk s h.trunk).2.2.2 ≠ 0 then ((S.trunk s h.trunk).1, 0, Hd.zero, (S.trunk s h.trunk).2.2.2)
  else if h.pages ≤ (S.trunk s h.trunk).2.1 then ((S.trunk s h.trunk).1, 0, Hd.zero, 30)
  else if (S.trunk s h.trunk).2.2.1 = [] then
    (if ((S.trunk s h.trunk).2.1 == 0) = (h.spare == 1) then ((S.trunk s h.trunk).1, h.trunk, { h with trunk := (S.trunk s h.trunk).2.1, spare := h.spare - 1 }, 0) else ((S.trunk s h.trunk).1, 0, Hd.zero, 30))
  else if h.pages ≤ (S.trunk s h.trunk).2.2.1.getLastD 0 then ((S.trunk s h.trunk).1, 0, Hd.zero, 30)
  else if h.spare = 1 then ((S.trunk s h.trunk).1, 0, Hd.zero, 30)
  else if (S.lay (S.trunk s h.trunk).1 h.trunk (S.trunk s h.trunk).2.1 (S.trunk s h.trunk).2.2.1.dropLast).2 ≠ 0 then
    ((S.lay (S.trunk s h.trunk).1 h.trunk (S.trunk s h.trunk).2.1 (S.trunk s h.trunk).2.2.1.dropLast).1, 0, Hd.zero, (S.lay (S.trunk s h.trunk).1 h.trunk (S.trunk s h.trunk).2.1 (S.trunk s h.trunk).2.2.1.dropLast).2)
  else ((S.lay (S.trunk s h.trunk).1 h.trunk (S.trunk s h.trunk).2.1 (S.trunk s h.trunk).2.2.1.dropLast).1, (S.trunk s h.trunk).2.2.1.getLastD 0, { h with spare := h.spare - 1 }, 0)

theorem beq_false_of {a b : Int} (h : a ≠ b) : (a == b) = false := by simp [h]

theorem take_calls (S : Shop St) (F : Nat → Prop) (s : St) (h : Hd) (w : World) (hat : S.At w F s) (hfit : S.fits s) (hp0 : 0 ≤ h.pages) (hs0 : 0 ≤ h.spare) (hs1 : h.spare ≤ 4096) :
    Calls Try.prog 20 #[h.v, .iface S.T S.x] w fun e w' => e = .returned (.tuple #[.int .i64 (S.take s h).2.1, (S.take s h).2.2.1.v, .int .i64 (S.take s h).2.2.2]) ∧ Goes (fun F' => S.At w' F' (S.take s h).1) F w w' := by
  obtain ⟨m, p, t, sp, r, ch⟩ := h
  dsimp only at hp0 hs0 hs1
  unfold Shop.take
  dsimp only
  by_cases c0 : sp = 0
  · rw [if_pos c0]
    by_cases c1 : 4096 ≤ p
    · rw [if_pos c1]; exact take_A S F s m p t sp r ch w hat c0 c1
    · rw [if_neg c1]; exact take_B S F s m p t sp r ch w hat c0 hp0 (by omega)
  · rw [if_neg c0]
    have hft := trunk_fits S t hfit
    generalize htr : S.trunk s t = tr at hft ⊢
    obtain ⟨s1, next, l, er⟩ := tr
    dsimp only at hft ⊢
    by_cases c2 : er ≠ 0
    · rw [if_pos c2]; exact take_C S F s s1 m p t sp r ch next l er w hat c0 htr c2
    · rw [if_neg c2]
      have he : er = 0 := by omega
      have hb : (er != 0) = false := by simp [he]
      by_cases c3 : p ≤ next
      · rw [if_pos c3]; exact take_D S F s s1 m p t sp r ch next l er w hat c0 htr he c3
      · rw [if_neg c3]
        by_cases c4 : l = []
        · rw [if_pos c4]
          cases h5 : (next == 0) <;> cases h6 : (sp == 1)
          · rw [if_pos rfl]; exact take_E2b S F s s1 m p t sp r ch next l er w hat c0 htr hb (by omega) c4 hs0 hs1 h5 h6
          · rw [if_neg (by decide)]; exact take_E1b S F s s1 m p t sp r ch next l er w hat c0 htr hb (by omega) c4 h5 h6
          · rw [if_neg (by decide)]; exact take_E1a S F s s1 m p t sp r ch next l er w hat c0 htr hb (by omega) c4 h5 h6
          · rw [if_pos rfl]; exact take_E2a S F s s1 m p t sp r ch next l er w hat c0 htr hb (by omega) c4 hs0 hs1 h5 h6
        · rw [if_neg c4]
          obtain ⟨l0, x, hl⟩ : ∃ l0 x, l = l0 ++ [x] := ⟨l.dropLast, l.getLast c4, (List.dropLast_concat_getLast c4).symm⟩
          subst hl
          rw [show (l0 ++ [x]).getLastD 0 = x by simp [List.getLastD_eq_getLast?], List.dropLast_concat]
          by_cases c5 : p ≤ x
          · rw [if_pos c5]; exact take_F1 S F s s1 m p t sp r ch next l0 x er w hat c0 htr hb (by omega) c5
          · rw [if_neg c5]
            by_cases c6 : sp = 1
            · rw [if_pos c6]; exact take_F2 S F s s1 m p t sp r ch next l0 x er w hat c0 htr hb (by omega) (by omega) (by simp [c6])
            · rw [if_neg c6]
              generalize hly : S.lay s1 t next l0 = ly
              obtain ⟨s2, e2⟩ := ly
              dsimp only
              by_cases c7 : e2 ≠ 0
              · rw [if_pos c7]; exact take_F3a S F s s1 m p t sp r ch next l0 x er w hat c0 htr s2 e2 hb (by omega) (by omega) (beq_false_of c6) hft hly (by simp [c7])
              · rw [if_neg c7]; exact take_F3b S F s s1 m p t sp r ch next l0 x er w hat c0 htr s2 e2 hb (by omega) (by omega) (beq_false_of c6) hft hly (by simp; omega) hs0 hs1
end Go.Proofs.Ytonbipaajhokfaa
