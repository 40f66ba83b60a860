/-
  spare.Give over any store: all ways together.
-/
import Derived.Test.YtonbipaajhokfaaB9
set_option linter.unusedVariables false
set_option linter.unusedSimpArgs false
namespace Go.Proofs.Ytonbipaajhokfaa
open Go.RowKit Go.Proofs.YtonbipaajhokfaaW.PrintWords Go.Proofs.YtonbipaajhokfaaW.PrintLast Go.Proofs.YtonbipaajhokfaaW.PrintMore
variable {St : Type}

/-- Give's last step: the answer of lay, and the head behind it. -/
def gaveOf (r : St × Int) (h : Hd) : St × Hd × Int :=
  if r.2 ≠ 0 then (r.1, Hd.zero, r.2) else (r.1, h, 0)

/-- What Give answers: the store, the head, the error. -/
def Shop.give (S : Shop St) (s : St) (h : Hd) (n : Int) : St × Hd × Int :=
  if n < 1 ∨ h.pages ≤ n then (s, Hd.zero, 1)
  else if h.pages - 1 ≤ h.spare then (s, Hd.zero, 30)
  else if h.trunk = 0 then gaveOf (S.lay s n h.trunk []) { h with trunk := n, spare := h.spare + 1 }
  else if (S.trunk s h.trunk).2.2.2 ≠ 0 then ((S.trunk s h.trunk).1, Hd.zero, (S.trunk s h.trunk).2.2.2)
  else if (S.trunk s h.trunk).2.2.1.length < 50 then
    gaveOf (S.lay (S.trunk s h.trunk).1 h.trunk (S.trunk s h.trunk).2.1 ((S.trunk s h.trunk).2.2.1 ++ [n])) { h with spare := h.spare + 1 }
  else gaveOf (S.lay (S.trunk s h.trunk).1 n h.trunk []) { h with trunk := n, spare := h.spare + 1 }

theorem give_calls (S : Shop St) (F : Nat → Prop) (s : St) (h : Hd) (n : Int) (w : World) (hat : S.At w F s) (hfit : S.fits s) (hp0 : 0 ≤ h.pages) (hp1 : h.pages ≤ 4096) (hs0 : 0 ≤ h.spare) :
    Calls Try.prog 22 #[h.v, .iface S.T S.x, .int .i64 n] w fun e w' => e = .returned (.tuple #[(S.give s h n).2.1.v, .int .i64 (S.give s h n).2.2]) ∧ Goes (fun F' => S.At w' F' (S.give s h n).1) F w w' := by
  obtain ⟨m, p, t, sp, r, ch⟩ := h
  dsimp only at hp0 hp1 hs0
  unfold Shop.give
  dsimp only
  by_cases c1 : n < 1
  · rw [if_pos (Or.inl c1)]; exact give_A1 S F s m p t sp r ch n w hat (decide_eq_true c1)
  · by_cases c2 : p ≤ n
    · rw [if_pos (Or.inr c2)]; exact give_A2 S F s m p t sp r ch n w hat (decide_eq_false c1) (decide_eq_true c2)
    · rw [if_neg (by omega)]
      by_cases c3 : p - 1 ≤ sp
      · rw [if_pos c3]; exact give_B S F s m p t sp r ch n w hat (decide_eq_false c1) (decide_eq_false c2) hp0 hp1 (decide_eq_true c3)
      · rw [if_neg c3]
        by_cases c4 : t = 0
        · rw [if_pos c4]
          generalize hly : S.lay s n t [] = ly
          obtain ⟨s2, e2⟩ := ly
          unfold gaveOf
          dsimp only
          by_cases c7 : e2 ≠ 0
          · rw [if_pos c7]; exact give_E01 S F s m p t sp r ch n s2 e2 w hat (decide_eq_false c1) (decide_eq_false c2) hp0 hp1 hs0 (decide_eq_false c3) (by simp [c4]) hfit hly (by simp [c7])
          · rw [if_neg c7]; exact give_E02 S F s m p t sp r ch n s2 e2 w hat (decide_eq_false c1) (decide_eq_false c2) hp0 hp1 hs0 (decide_eq_false c3) (by simp [c4]) hfit hly (by simp; omega)
        · rw [if_neg c4]
          have hft := trunk_fits S t hfit
          generalize htr : S.trunk s t = tr at hft ⊢
          obtain ⟨s1, next, l, er⟩ := tr
          dsimp only at hft ⊢
          by_cases c5 : er ≠ 0
          · rw [if_pos c5]; exact give_C S F s m p t sp r ch n s1 next l er w hat (decide_eq_false c1) (decide_eq_false c2) hp0 hp1 hs0 (decide_eq_false c3) (by simp [c4]) htr (by simp [c5])
          · rw [if_neg c5]
            have he : (er != 0) = false := by simp; omega
            by_cases c6 : l.length < 50
            · rw [if_pos c6]
              generalize hly : S.lay s1 t next (l ++ [n]) = ly
              obtain ⟨s2, e2⟩ := ly
              unfold gaveOf
              dsimp only
              by_cases c7 : e2 ≠ 0
              · rw [if_pos c7]; exact give_D1 S F s m p t sp r ch n s1 next l er s2 e2 w hat (decide_eq_false c1) (decide_eq_false c2) hp0 hp1 hs0 (decide_eq_false c3) (by simp [c4]) htr he (decide_eq_true (by omega)) hft hly (by simp [c7])
              · rw [if_neg c7]; exact give_D2 S F s m p t sp r ch n s1 next l er s2 e2 w hat (decide_eq_false c1) (decide_eq_false c2) hp0 hp1 hs0 (decide_eq_false c3) (by simp [c4]) htr he (decide_eq_true (by omega)) hft hly (by simp; omega)
            · rw [if_neg c6]
              generalize hly : S.lay s1 n t [] = ly
              obtain ⟨s2, e2⟩ := ly
              unfold gaveOf
              dsimp only
              by_cases c7 : e2 ≠ 0
              · rw [if_pos c7]; exact give_E1 S F s m p t sp r ch n s1 next l er s2 e2 w hat (decide_eq_false c1) (decide_eq_false c2) hp0 hp1 hs0 (decide_eq_false c3) (by simp [c4]) htr he (decide_eq_false (by omega)) hft hly (by simp [c7])
              · rw [if_neg c7]; exact give_E2 S F s m p t sp r ch n s1 next l er s2 e2 w hat (decide_eq_false c1) (decide_eq_false c2) hp0 hp1 hs0 (decide_eq_false c3) (by simp [c4]) htr he (decide_eq_false (by omega)) hft hly (by simp; omega)
end Go.Proofs.Ytonbipaajhokfaa
