/-
  Of this claim's texts, laid together by wip/gen/squeeze.py: KD.
-/
import Derived.Test.YtonbipaajhokfaaGreatDoorERq5
section
set_option linter.unusedVariables false
set_option linter.unusedSimpArgs false
namespace Go.Proofs.YtonbipaajhokfaaGreatDoor
open Go.RowKit Go.Proofs.YtonbipaajhokfaaGreatDoorW.PrintWords Go.Proofs.YtonbipaajhokfaaGreatDoorW.PrintLast Go.Proofs.YtonbipaajhokfaaGreatDoorW.PrintMore
variable {St : Type}
theorem trunk_fits (S : Shop St) {s : St} (n : Int) (h : S.fits s) : S.fits (S.trunk s n).1 := by
  have := S.fits_get n h
  unfold Shop.trunk
  dsimp only
  split
  · exact this
  · split <;> exact this
/-- What Take answers: the store, the page, the head, the error. -/
def Shop.take (S : Shop St) (s : St) (h : Hd) : St × Int × Hd × Int :=
  if h.spare = 0 then (if 4096 ≤ h.pages then (s, 0, Hd.zero, 22) else (s, h.pages, { h with pages := h.pages + 1 }, 0))
  else if (S.trunk s h.trunk).2.2.2 ≠ 0 then ((S.trunk s h.trunk).1, 0, Hd.zero, (S.trunk s h.trunk).2.2.2)
  else if h.pages ≤ (S.trunk s h.trunk).2.1 then ((S.trunk s h.trunk).1, 0, Hd.zero, 30)
  else if (S.trunk s h.trunk).2.2.1 = [] then
    (if ((S.trunk s h.trunk).2.1 == 0) = (h.spare == 1) then ((S.trunk s h.trunk).1, h.trunk, { h with trunk := (S.trunk s h.trunk).2.1, spare := h.spare - 1 }, 0) else ((S.trunk s h.trunk).1, 0, Hd.zero, 30))
  else if h.pages ≤ (S.trunk s h.trunk).2.2.1.getLastD 0 then ((S.trunk s h.trunk).1, 0, Hd.zero, 30)
  else if h.spare = 1 then ((S.trunk s h.trunk).1, 0, Hd.zero, 30)
  else if (S.lay (S.trunk s h.trunk).1 h.trunk (S.trunk s h.trunk).2.1 (S.trunk s h.trunk).2.2.1.dropLast).2 ≠ 0 then
    ((S.lay (S.trunk s h.trunk).1 h.trunk (S.trunk s h.trunk).2.1 (S.trunk s h.trunk).2.2.1.dropLast).1, 0, Hd.zero, (S.lay (S.trunk s h.trunk).1 h.trunk (S.trunk s h.trunk).2.1 (S.trunk s h.trunk).2.2.1.dropLast).2)
  else ((S.lay (S.trunk s h.trunk).1 h.trunk (S.trunk s h.trunk).2.1 (S.trunk s h.trunk).2.2.1.dropLast).1, (S.trunk s h.trunk).2.2.1.getLastD 0, { h with spare := h.spare - 1 }, 0)
theorem beq_false_of {a b : Int} (h : a ≠ b) : (a == b) = false := by simp [h]
theorem take_calls (S : Shop St) (F : Nat → Prop) (s : St) (h : Hd) (w : World) (hat : S.At w F s) (hfit : S.fits s) (hp0 : 0 ≤ h.pages) (hs0 : 0 ≤ h.spare) (hs1 : h.spare ≤ 4096) :
    Calls Tryz.prog 40 #[h.v, .iface S.T S.x] w fun e w' => e = .returned (.tuple #[.int .i64 (S.take s h).2.1, (S.take s h).2.2.1.v, .int .i64 (S.take s h).2.2.2]) ∧ Goes (fun F' => S.At w' F' (S.take s h).1) F w w' := by
  obtain ⟨m, p, t, sp, r, ch⟩ := h
  dsimp only at hp0 hs0 hs1
  unfold Shop.take
  dsimp only
  by_cases c0 : sp = 0
  · rw [if_pos c0]
    by_cases c1 : 4096 ≤ p
    · rw [if_pos c1]; exact take_A S F s m p t sp r ch w hat c0 c1
    · rw [if_neg c1]; exact take_B S F s m p t sp r ch w hat c0 hp0 (by omega)
  · rw [if_neg c0]
    have hft := trunk_fits S t hfit
    generalize htr : S.trunk s t = tr at hft ⊢
    obtain ⟨s1, next, l, er⟩ := tr
    dsimp only at hft ⊢
    by_cases c2 : er ≠ 0
    · rw [if_pos c2]; exact take_C S F s s1 m p t sp r ch next l er w hat c0 htr c2
    · rw [if_neg c2]
      have he : er = 0 := by omega
      have hb : (er != 0) = false := by simp [he]
      by_cases c3 : p ≤ next
      · rw [if_pos c3]; exact take_D S F s s1 m p t sp r ch next l er w hat c0 htr he c3
      · rw [if_neg c3]
        by_cases c4 : l = []
        · rw [if_pos c4]
          cases h5 : (next == 0) <;> cases h6 : (sp == 1)
          · rw [if_pos rfl]; exact take_E2b S F s s1 m p t sp r ch next l er w hat c0 htr hb (by omega) c4 hs0 hs1 h5 h6
          · rw [if_neg (by decide)]; exact take_E1b S F s s1 m p t sp r ch next l er w hat c0 htr hb (by omega) c4 h5 h6
          · rw [if_neg (by decide)]; exact take_E1a S F s s1 m p t sp r ch next l er w hat c0 htr hb (by omega) c4 h5 h6
          · rw [if_pos rfl]; exact take_E2a S F s s1 m p t sp r ch next l er w hat c0 htr hb (by omega) c4 hs0 hs1 h5 h6
        · rw [if_neg c4]
          obtain ⟨l0, x, hl⟩ : ∃ l0 x, l = l0 ++ [x] := ⟨l.dropLast, l.getLast c4, (List.dropLast_concat_getLast c4).symm⟩
          subst hl
          rw [show (l0 ++ [x]).getLastD 0 = x by simp [List.getLastD_eq_getLast?], List.dropLast_concat]
          by_cases c5 : p ≤ x
          · rw [if_pos c5]; exact take_F1 S F s s1 m p t sp r ch next l0 x er w hat c0 htr hb (by omega) c5
          · rw [if_neg c5]
            by_cases c6 : sp = 1
            · rw [if_pos c6]; exact take_F2 S F s s1 m p t sp r ch next l0 x er w hat c0 htr hb (by omega) (by omega) (by simp [c6])
            · rw [if_neg c6]
              generalize hly : S.lay s1 t next l0 = ly
              obtain ⟨s2, e2⟩ := ly
              dsimp only
              by_cases c7 : e2 ≠ 0
              · rw [if_pos c7]; exact take_F3a S F s s1 m p t sp r ch next l0 x er w hat c0 htr s2 e2 hb (by omega) (by omega) (beq_false_of c6) hft hly (by simp [c7])
              · rw [if_neg c7]; exact take_F3b S F s s1 m p t sp r ch next l0 x er w hat c0 htr s2 e2 hb (by omega) (by omega) (beq_false_of c6) hft hly (by simp; omega) hs0 hs1
end Go.Proofs.YtonbipaajhokfaaGreatDoor
set_option linter.unusedVariables false
set_option linter.unusedSimpArgs false
namespace Go.Proofs.YtonbipaajhokfaaGreatDoor
open Go.RowKit Go.Proofs.YtonbipaajhokfaaGreatDoorW.PrintWords Go.Proofs.YtonbipaajhokfaaGreatDoorW.PrintLast Go.Proofs.YtonbipaajhokfaaGreatDoorW.PrintMore
variable {St : Type}
theorem make50 (w : World) : (Instr.makeSlice 33 (.int .i64 50) (.int .i64 50)).run Tryz.prog w = .ok (.slice (some ⟨w.heap.size, 0, none⟩) 50 50) (w.alloc (.cells (madeCells #[.int .i64 0] 50) 3)) :=
  run_make_row' (P := Tryz.prog) 33 3 (.int .i64 0) 8 Tryz.underlying33 info3 rfl .i64 .i64 50 (by decide) (by decide) w
set_option maxHeartbeats 4000000 in
set_option maxRecDepth 100000 in
theorem give_A1 (S : Shop St) (F : Nat → Prop) (s : St) (m p t sp r ch n : Int)  (w : World) (h : S.At w F s) (t1 : decide (n < 1) = true) :
    Calls Tryz.prog 146 #[.agg #[.int .i64 m, .int .i64 p, .int .i64 t, .int .i64 sp, .int .i64 r, .int .u64 ch], .iface S.T S.x, .int .i64 n] w fun e w' => e = .returned (.tuple #[Hd.zero.v, .int .i64 1]) ∧ Goes (fun F' => S.At w' F' s) F w w' := by
  have H := Aside0.mk h
  have HB := Aside0.mk (S.bound h)
  have hu35 := Tryz.underlying48
  have hu24 := Tryz.underlying98
  clear h
  go_enter Tryz.func146, Tryz.ntmps146
  go_wp2
  refine bodyPost_ret (results_ct rfl _ _ (w.heap.size + 1) 48 #[.int .i64 0, .int .i64 0, .int .i64 0, .int .i64 0, .int .i64 0, .int .u64 0] (0, 0) _ rfl ?_ Tryz.underlying48 rfl (by kernel_rfl)) rfl ?_
  · have := blk_new (w.alloc (.cells #[.int .i64 m, .int .i64 p, .int .i64 t, .int .i64 sp, .int .i64 r, .int .u64 ch] 48)) (.cells #[.int .i64 0, .int .i64 0, .int .i64 0, .int .i64 0, .int .i64 0, .int .u64 0] 48)
    simpa using this
  · exact ⟨rfl, F, Shop.below H.out (below_alloc (below_alloc (Below.refl _ _) _) _), fun k hk => Or.inl hk, ((Fr.refl F w).alloc _).alloc _⟩
set_option maxHeartbeats 4000000 in
set_option maxRecDepth 100000 in
theorem give_A2 (S : Shop St) (F : Nat → Prop) (s : St) (m p t sp r ch n : Int)  (w : World) (h : S.At w F s) (t1 : decide (n < 1) = false) (t2 : decide (p ≤ n) = true) :
    Calls Tryz.prog 146 #[.agg #[.int .i64 m, .int .i64 p, .int .i64 t, .int .i64 sp, .int .i64 r, .int .u64 ch], .iface S.T S.x, .int .i64 n] w fun e w' => e = .returned (.tuple #[Hd.zero.v, .int .i64 1]) ∧ Goes (fun F' => S.At w' F' s) F w w' := by
  have H := Aside0.mk h
  have HB := Aside0.mk (S.bound h)
  have hu35 := Tryz.underlying48
  have hu24 := Tryz.underlying98
  clear h
  go_enter Tryz.func146, Tryz.ntmps146
  go_wp2
  refine bodyPost_ret (results_ct rfl _ _ (w.heap.size + 1) 48 #[.int .i64 0, .int .i64 0, .int .i64 0, .int .i64 0, .int .i64 0, .int .u64 0] (0, 0) _ rfl ?_ Tryz.underlying48 rfl (by kernel_rfl)) rfl ?_
  · have := blk_new (w.alloc (.cells #[.int .i64 m, .int .i64 p, .int .i64 t, .int .i64 sp, .int .i64 r, .int .u64 ch] 48)) (.cells #[.int .i64 0, .int .i64 0, .int .i64 0, .int .i64 0, .int .i64 0, .int .u64 0] 48)
    simpa using this
  · exact ⟨rfl, F, Shop.below H.out (below_alloc (below_alloc (Below.refl _ _) _) _), fun k hk => Or.inl hk, ((Fr.refl F w).alloc _).alloc _⟩
set_option maxHeartbeats 4000000 in
set_option maxRecDepth 100000 in
theorem give_B (S : Shop St) (F : Nat → Prop) (s : St) (m p t sp r ch n : Int)  (w : World) (h : S.At w F s) (t1 : decide (n < 1) = false) (t2 : decide (p ≤ n) = false) (hp0 : 0 ≤ p) (hp1 : p ≤ 4096) (t3 : decide (p - 1 ≤ sp) = true) :
    Calls Tryz.prog 146 #[.agg #[.int .i64 m, .int .i64 p, .int .i64 t, .int .i64 sp, .int .i64 r, .int .u64 ch], .iface S.T S.x, .int .i64 n] w fun e w' => e = .returned (.tuple #[Hd.zero.v, .int .i64 30]) ∧ Goes (fun F' => S.At w' F' s) F w w' := by
  have H := Aside0.mk h
  have HB := Aside0.mk (S.bound h)
  have hu35 := Tryz.underlying48
  have hu24 := Tryz.underlying98
  clear h
  go_enter Tryz.func146, Tryz.ntmps146
  go_wp2
  refine bodyPost_ret (results_ct rfl _ _ (w.heap.size + 1) 48 #[.int .i64 0, .int .i64 0, .int .i64 0, .int .i64 0, .int .i64 0, .int .u64 0] (0, 0) _ rfl ?_ Tryz.underlying48 rfl (by kernel_rfl)) rfl ?_
  · have := blk_new (w.alloc (.cells #[.int .i64 m, .int .i64 p, .int .i64 t, .int .i64 sp, .int .i64 r, .int .u64 ch] 48)) (.cells #[.int .i64 0, .int .i64 0, .int .i64 0, .int .i64 0, .int .i64 0, .int .u64 0] 48)
    simpa using this
  · exact ⟨rfl, F, Shop.below H.out (below_alloc (below_alloc (Below.refl _ _) _) _), fun k hk => Or.inl hk, ((Fr.refl F w).alloc _).alloc _⟩
set_option maxHeartbeats 4000000 in
set_option maxRecDepth 100000 in
theorem give_C (S : Shop St) (F : Nat → Prop) (s : St) (m p t sp r ch n : Int) (s1 : St) (next : Int) (l : List Int) (er : Int) (w : World) (h : S.At w F s) (t1 : decide (n < 1) = false) (t2 : decide (p ≤ n) = false) (hp0 : 0 ≤ p) (hp1 : p ≤ 4096) (hs0 : 0 ≤ sp) (t3 : decide (p - 1 ≤ sp) = false) (t4 : (t != 0) = true) (htr : S.trunk s t = (s1, next, l, er)) (t5 : (er != 0) = true) :
    Calls Tryz.prog 146 #[.agg #[.int .i64 m, .int .i64 p, .int .i64 t, .int .i64 sp, .int .i64 r, .int .u64 ch], .iface S.T S.x, .int .i64 n] w fun e w' => e = .returned (.tuple #[Hd.zero.v, .int .i64 er]) ∧ Goes (fun F' => S.At w' F' s1) F w w' := by
  have H := Aside0.mk h
  have HB := Aside0.mk (S.bound h)
  have hu35 := Tryz.underlying48
  have hu24 := Tryz.underlying98
  clear h
  have HTR := Aside0.mk htr
  clear htr
  go_enter Tryz.func146, Tryz.ntmps146
  have hmk := make50
  go_wp2_with fail
  clear hmk
  obtain ⟨w2, hw2⟩ : ∃ w2, w2 = (((w.alloc (.cells #[.int .i64 m, .int .i64 p, .int .i64 t, .int .i64 sp, .int .i64 r, .int .u64 ch] 48)).alloc (.cells #[.int .i64 0, .int .i64 0, .int .i64 0, .int .i64 0, .int .i64 0, .int .u64 0] 48)).alloc (.cells (madeCells #[.int .i64 0] 50) 3)).alloc (.cells #[.int .i64 0, .slice (some ⟨w.heap.size + 2, 0, none⟩) 50 50] 98) := ⟨_, rfl⟩
  rw [← hw2]
  have HA2 := Aside0.mk (show S.At w2 F s by rw [hw2]; exact Shop.below H.out (below_alloc (below_alloc (below_alloc (below_alloc (Below.refl _ _) _) _) _) _))
  have HR2 := Aside0.mk (show Fr F w w2 by rw [hw2]; exact ((((Fr.refl F w).alloc _).alloc _).alloc _).alloc _)
  have K0 := Aside0.mk (show w2.heap[w.heap.size]? = some (.cells #[.int .i64 m, .int .i64 p, .int .i64 t, .int .i64 sp, .int .i64 r, .int .u64 ch] 48 (0, 0)) by rw [hw2]; exact blk_alloc (blk_alloc (blk_alloc (blk_new w _) _) _) _)
  have K1 := Aside0.mk (show w2.heap[w.heap.size + 1]? = some (.cells #[.int .i64 0, .int .i64 0, .int .i64 0, .int .i64 0, .int .i64 0, .int .u64 0] 48 (0, 0)) by
    rw [hw2]
    refine blk_alloc (blk_alloc ?_ _) _
    have := blk_new (w.alloc (.cells #[.int .i64 m, .int .i64 p, .int .i64 t, .int .i64 sp, .int .i64 r, .int .u64 ch] 48)) (.cells #[.int .i64 0, .int .i64 0, .int .i64 0, .int .i64 0, .int .i64 0, .int .u64 0] 48)
    simpa using this)
  have K8 := Aside0.mk (show w2.heap[w.heap.size + 3]? = some (.cells #[.int .i64 0, .slice (some ⟨w.heap.size + 2, 0, none⟩) 50 50] 98 (0, 0)) by
    rw [hw2]
    have := blk_new (((w.alloc (.cells #[.int .i64 m, .int .i64 p, .int .i64 t, .int .i64 sp, .int .i64 r, .int .u64 ch] 48)).alloc (.cells #[.int .i64 0, .int .i64 0, .int .i64 0, .int .i64 0, .int .i64 0, .int .u64 0] 48)).alloc (.cells (madeCells #[.int .i64 0] 50) 3)) (.cells #[.int .i64 0, .slice (some ⟨w.heap.size + 2, 0, none⟩) 50 50] 98)
    simpa using this)
  have hs2 : w.heap.size + 3 < w2.heap.size := by rw [hw2]; simp
  clear hw2
  obtain ⟨b, hb⟩ : ∃ b, b = w.heap.size := ⟨_, rfl⟩
  rw [← hb] at K0 K1 K8 hs2 ⊢
  have HBF := Aside0.mk (show ∀ k, b ≤ k → ¬ F k from fun k hk hf => by have := HB.out k hf; omega)
  have HBW := Aside0.mk hb
  clear hb
  refine (trunk_calls S F s t w2 HA2.out).mono ?_
  rw [HTR.out]
  rintro e w3 ⟨v, rfl, F3, hA3, hF3, hR3, hv3⟩
  obtain ⟨A, c, rfl⟩ := Kd.R_slice hv3
  obtain ⟨_, hlc, hC3⟩ := Kd.R_reads' hv3
  have hlm := Kd.C_max hC3
  replace K0 := Aside0.mk (hR3.blk K0.out (HBF.out b (Nat.le_refl _)))
  replace K1 := Aside0.mk (hR3.blk K1.out (HBF.out (b + 1) (by omega)))
  replace K8 := Aside0.mk (hR3.blk K8.out (HBF.out (b + 3) (by omega)))
  have HR3 := Aside0.mk (HR2.out.trans hR3 (fun _ _ h => h))
  have HF3 := Aside0.mk (show ∀ k, F3 k → F k ∨ b + 3 < k from fun k hk => (hF3 k hk).imp id (fun h => by omega))
  have HA3 := Aside0.mk hA3
  have HV3 := Aside0.mk hv3
  have hs3 : b + 3 < w3.heap.size := blk_lt K8.out
  clear hA3 hF3 hR3 hv3 hC3 HA2 HR2 HTR
  have a0 : w3.cell? ⟨b, 0, none⟩ = some (.int .i64 m) := (blk_cell K0.out 0).trans rfl
  have a1 : w3.cell? ⟨b, 1, none⟩ = some (.int .i64 p) := (blk_cell K0.out 1).trans rfl
  have a2 : w3.cell? ⟨b, 2, none⟩ = some (.int .i64 t) := (blk_cell K0.out 2).trans rfl
  have a3 : w3.cell? ⟨b, 3, none⟩ = some (.int .i64 sp) := (blk_cell K0.out 3).trans rfl
  have a4 : w3.cell? ⟨b, 4, none⟩ = some (.int .i64 r) := (blk_cell K0.out 4).trans rfl
  have a5 : w3.cell? ⟨b, 5, none⟩ = some (.int .u64 ch) := (blk_cell K0.out 5).trans rfl
  have z0 : w3.cell? ⟨b + 1, 0, none⟩ = some (.int .i64 0) := (blk_cell K1.out 0).trans rfl
  have z1 : w3.cell? ⟨b + 1, 1, none⟩ = some (.int .i64 0) := (blk_cell K1.out 1).trans rfl
  have z2 : w3.cell? ⟨b + 1, 2, none⟩ = some (.int .i64 0) := (blk_cell K1.out 2).trans rfl
  have z3 : w3.cell? ⟨b + 1, 3, none⟩ = some (.int .i64 0) := (blk_cell K1.out 3).trans rfl
  have z4 : w3.cell? ⟨b + 1, 4, none⟩ = some (.int .i64 0) := (blk_cell K1.out 4).trans rfl
  have z5 : w3.cell? ⟨b + 1, 5, none⟩ = some (.int .u64 0) := (blk_cell K1.out 5).trans rfl
  have f2 : w3.frozen? ⟨b, 2, none⟩ = false := blk_frozen K0.out 2
  have f3 : w3.frozen? ⟨b, 3, none⟩ = false := blk_frozen K0.out 3
  have g0 : w3.frozen? ⟨b + 1, 0, none⟩ = false := blk_frozen K1.out 0
  have g1 : w3.frozen? ⟨b + 1, 1, none⟩ = false := blk_frozen K1.out 1
  have g2 : w3.frozen? ⟨b + 1, 2, none⟩ = false := blk_frozen K1.out 2
  have g3 : w3.frozen? ⟨b + 1, 3, none⟩ = false := blk_frozen K1.out 3
  have g4 : w3.frozen? ⟨b + 1, 4, none⟩ = false := blk_frozen K1.out 4
  have g5 : w3.frozen? ⟨b + 1, 5, none⟩ = false := blk_frozen K1.out 5
  have q0 : w3.cell? ⟨b + 3, 0, none⟩ = some (.int .i64 0) := (blk_cell K8.out 0).trans rfl
  have y0 : w3.frozen? ⟨b + 3, 0, none⟩ = false := blk_frozen K8.out 0
  have q1 : w3.cell? ⟨b + 3, 1, none⟩ = some (.slice (some ⟨b + 2, 0, none⟩) 50 50) := (blk_cell K8.out 1).trans rfl
  have y1 : w3.frozen? ⟨b + 3, 1, none⟩ = false := blk_frozen K8.out 1
  go_wp2
  refine bodyPost_ret (results_ct rfl _ _ (b + 1) 48 #[.int .i64 0, .int .i64 0, .int .i64 0, .int .i64 0, .int .i64 0, .int .u64 0] (0, 0) _ rfl (put6 (blk_far (p := ⟨b + 3, 1, none⟩) (blk_far (p := ⟨b + 3, 0, none⟩) K1.out (show b + 1 ≠ b + 3 by omega) _) (show b + 1 ≠ b + 3 by omega) _) _ _ _ _ _ _) Tryz.underlying48 rfl (by kernel_rfl)) rfl ?_
  refine ⟨rfl, F3, at6 (Shop.far (p := ⟨b + 3, 1, none⟩) (Shop.far (p := ⟨b + 3, 0, none⟩) HA3.out (fun hf => by rcases HF3.out (b + 3) hf with h1 | h1; exact HBF.out (b + 3) (by omega) h1; omega) _) (fun hf => by rcases HF3.out (b + 3) hf with h1 | h1; exact HBF.out (b + 3) (by omega) h1; omega) _) (fun hf => by rcases HF3.out (b + 1) hf with h1 | h1; exact HBF.out (b + 1) (by omega) h1; omega) _ _ _ _ _ _, fun k hk => (HF3.out k hk).imp id (fun h => by have := HBW.out; omega), fr6 ((HR3.out.setCell (p := ⟨b + 3, 0, none⟩) (Or.inr (by have := HBW.out; show w.heap.size ≤ b + 3; omega)) _).setCell (p := ⟨b + 3, 1, none⟩) (Or.inr (by have := HBW.out; show w.heap.size ≤ b + 3; omega)) _) (Or.inr (by have := HBW.out; show w.heap.size ≤ b + 1; omega)) _ _ _ _ _ _⟩
set_option maxHeartbeats 4000000 in
set_option maxRecDepth 100000 in
theorem give_D1 (S : Shop St) (F : Nat → Prop) (s : St) (m p t sp r ch n : Int) (s1 : St) (next : Int) (l : List Int) (er : Int) (s2 : St) (e2 : Int) (w : World) (h : S.At w F s) (t1 : decide (n < 1) = false) (t2 : decide (p ≤ n) = false) (hp0 : 0 ≤ p) (hp1 : p ≤ 4096) (hs0 : 0 ≤ sp) (t3 : decide (p - 1 ≤ sp) = false) (t4 : (t != 0) = true) (htr : S.trunk s t = (s1, next, l, er)) (t5 : (er != 0) = false) (t6 : decide ((l.length : Int) < 50) = true) (hfit : S.fits s1) (hly : S.lay s1 t next (l ++ [n]) = (s2, e2)) (t7 : (e2 != 0) = true) :
    Calls Tryz.prog 146 #[.agg #[.int .i64 m, .int .i64 p, .int .i64 t, .int .i64 sp, .int .i64 r, .int .u64 ch], .iface S.T S.x, .int .i64 n] w fun e w' => e = .returned (.tuple #[Hd.zero.v, .int .i64 e2]) ∧ Goes (fun F' => S.At w' F' s2) F w w' := by
  have H := Aside0.mk h
  have HB := Aside0.mk (S.bound h)
  have hu35 := Tryz.underlying48
  have hu24 := Tryz.underlying98
  clear h
  have HTR := Aside0.mk htr
  have HFIT := Aside0.mk hfit
  obtain ⟨l2, hl2⟩ : ∃ l2, l2 = l ++ [n] := ⟨_, rfl⟩
  rw [← hl2] at hly
  have HLY := Aside0.mk hly
  have HL2 := Aside0.mk hl2
  clear htr hfit hly hl2
  go_enter Tryz.func146, Tryz.ntmps146
  have hmk := make50
  go_wp2_with fail
  clear hmk
  obtain ⟨w2, hw2⟩ : ∃ w2, w2 = (((w.alloc (.cells #[.int .i64 m, .int .i64 p, .int .i64 t, .int .i64 sp, .int .i64 r, .int .u64 ch] 48)).alloc (.cells #[.int .i64 0, .int .i64 0, .int .i64 0, .int .i64 0, .int .i64 0, .int .u64 0] 48)).alloc (.cells (madeCells #[.int .i64 0] 50) 3)).alloc (.cells #[.int .i64 0, .slice (some ⟨w.heap.size + 2, 0, none⟩) 50 50] 98) := ⟨_, rfl⟩
  rw [← hw2]
  have HA2 := Aside0.mk (show S.At w2 F s by rw [hw2]; exact Shop.below H.out (below_alloc (below_alloc (below_alloc (below_alloc (Below.refl _ _) _) _) _) _))
  have HR2 := Aside0.mk (show Fr F w w2 by rw [hw2]; exact ((((Fr.refl F w).alloc _).alloc _).alloc _).alloc _)
  have K0 := Aside0.mk (show w2.heap[w.heap.size]? = some (.cells #[.int .i64 m, .int .i64 p, .int .i64 t, .int .i64 sp, .int .i64 r, .int .u64 ch] 48 (0, 0)) by rw [hw2]; exact blk_alloc (blk_alloc (blk_alloc (blk_new w _) _) _) _)
  have K1 := Aside0.mk (show w2.heap[w.heap.size + 1]? = some (.cells #[.int .i64 0, .int .i64 0, .int .i64 0, .int .i64 0, .int .i64 0, .int .u64 0] 48 (0, 0)) by
    rw [hw2]
    refine blk_alloc (blk_alloc ?_ _) _
    have := blk_new (w.alloc (.cells #[.int .i64 m, .int .i64 p, .int .i64 t, .int .i64 sp, .int .i64 r, .int .u64 ch] 48)) (.cells #[.int .i64 0, .int .i64 0, .int .i64 0, .int .i64 0, .int .i64 0, .int .u64 0] 48)
    simpa using this)
  have K8 := Aside0.mk (show w2.heap[w.heap.size + 3]? = some (.cells #[.int .i64 0, .slice (some ⟨w.heap.size + 2, 0, none⟩) 50 50] 98 (0, 0)) by
    rw [hw2]
    have := blk_new (((w.alloc (.cells #[.int .i64 m, .int .i64 p, .int .i64 t, .int .i64 sp, .int .i64 r, .int .u64 ch] 48)).alloc (.cells #[.int .i64 0, .int .i64 0, .int .i64 0, .int .i64 0, .int .i64 0, .int .u64 0] 48)).alloc (.cells (madeCells #[.int .i64 0] 50) 3)) (.cells #[.int .i64 0, .slice (some ⟨w.heap.size + 2, 0, none⟩) 50 50] 98)
    simpa using this)
  have hs2 : w.heap.size + 3 < w2.heap.size := by rw [hw2]; simp
  clear hw2
  obtain ⟨b, hb⟩ : ∃ b, b = w.heap.size := ⟨_, rfl⟩
  rw [← hb] at K0 K1 K8 hs2 ⊢
  have HBF := Aside0.mk (show ∀ k, b ≤ k → ¬ F k from fun k hk hf => by have := HB.out k hf; omega)
  have HBW := Aside0.mk hb
  clear hb
  refine (trunk_calls S F s t w2 HA2.out).mono ?_
  rw [HTR.out]
  rintro e w3 ⟨v, rfl, F3, hA3, hF3, hR3, hv3⟩
  obtain ⟨A, c, rfl⟩ := Kd.R_slice hv3
  obtain ⟨_, hlc, hC3⟩ := Kd.R_reads' hv3
  have hlm := Kd.C_max hC3
  replace K0 := Aside0.mk (hR3.blk K0.out (HBF.out b (Nat.le_refl _)))
  replace K1 := Aside0.mk (hR3.blk K1.out (HBF.out (b + 1) (by omega)))
  replace K8 := Aside0.mk (hR3.blk K8.out (HBF.out (b + 3) (by omega)))
  have HR3 := Aside0.mk (HR2.out.trans hR3 (fun _ _ h => h))
  have HF3 := Aside0.mk (show ∀ k, F3 k → F k ∨ b + 3 < k from fun k hk => (hF3 k hk).imp id (fun h => by omega))
  have HA3 := Aside0.mk hA3
  have HV3 := Aside0.mk hv3
  have hs3 : b + 3 < w3.heap.size := blk_lt K8.out
  clear hA3 hF3 hR3 hv3 hC3 HA2 HR2 HTR
  have a0 : w3.cell? ⟨b, 0, none⟩ = some (.int .i64 m) := (blk_cell K0.out 0).trans rfl
  have a1 : w3.cell? ⟨b, 1, none⟩ = some (.int .i64 p) := (blk_cell K0.out 1).trans rfl
  have a2 : w3.cell? ⟨b, 2, none⟩ = some (.int .i64 t) := (blk_cell K0.out 2).trans rfl
  have a3 : w3.cell? ⟨b, 3, none⟩ = some (.int .i64 sp) := (blk_cell K0.out 3).trans rfl
  have a4 : w3.cell? ⟨b, 4, none⟩ = some (.int .i64 r) := (blk_cell K0.out 4).trans rfl
  have a5 : w3.cell? ⟨b, 5, none⟩ = some (.int .u64 ch) := (blk_cell K0.out 5).trans rfl
  have z0 : w3.cell? ⟨b + 1, 0, none⟩ = some (.int .i64 0) := (blk_cell K1.out 0).trans rfl
  have z1 : w3.cell? ⟨b + 1, 1, none⟩ = some (.int .i64 0) := (blk_cell K1.out 1).trans rfl
  have z2 : w3.cell? ⟨b + 1, 2, none⟩ = some (.int .i64 0) := (blk_cell K1.out 2).trans rfl
  have z3 : w3.cell? ⟨b + 1, 3, none⟩ = some (.int .i64 0) := (blk_cell K1.out 3).trans rfl
  have z4 : w3.cell? ⟨b + 1, 4, none⟩ = some (.int .i64 0) := (blk_cell K1.out 4).trans rfl
  have z5 : w3.cell? ⟨b + 1, 5, none⟩ = some (.int .u64 0) := (blk_cell K1.out 5).trans rfl
  have f2 : w3.frozen? ⟨b, 2, none⟩ = false := blk_frozen K0.out 2
  have f3 : w3.frozen? ⟨b, 3, none⟩ = false := blk_frozen K0.out 3
  have g0 : w3.frozen? ⟨b + 1, 0, none⟩ = false := blk_frozen K1.out 0
  have g1 : w3.frozen? ⟨b + 1, 1, none⟩ = false := blk_frozen K1.out 1
  have g2 : w3.frozen? ⟨b + 1, 2, none⟩ = false := blk_frozen K1.out 2
  have g3 : w3.frozen? ⟨b + 1, 3, none⟩ = false := blk_frozen K1.out 3
  have g4 : w3.frozen? ⟨b + 1, 4, none⟩ = false := blk_frozen K1.out 4
  have g5 : w3.frozen? ⟨b + 1, 5, none⟩ = false := blk_frozen K1.out 5
  have q0 : w3.cell? ⟨b + 3, 0, none⟩ = some (.int .i64 0) := (blk_cell K8.out 0).trans rfl
  have y0 : w3.frozen? ⟨b + 3, 0, none⟩ = false := blk_frozen K8.out 0
  have q1 : w3.cell? ⟨b + 3, 1, none⟩ = some (.slice (some ⟨b + 2, 0, none⟩) 50 50) := (blk_cell K8.out 1).trans rfl
  have y1 : w3.frozen? ⟨b + 3, 1, none⟩ = false := blk_frozen K8.out 1
  have HV4 := Aside0.mk (show (Kd.int .i64).R 3 ((w3.setCell ⟨b + 3, 0, none⟩ (.int .i64 next)).setCell ⟨b + 3, 1, none⟩ (.slice A l.length c)) 0 (fun k => ¬ F3 k ∧ b + 3 < k) (.slice A l.length c) l from Kd.R_set (Kd.R_set (Kd.R_mono HV3.out (fun k hk => ⟨hk.1, by have := hk.2; omega⟩)) K8.out no324 0 _) (blk_put K8.out 0 (.int .i64 next) rfl) no324 1 _)
  have K04 := Aside0.mk (show ((w3.setCell ⟨b + 3, 0, none⟩ (.int .i64 next)).setCell ⟨b + 3, 1, none⟩ (.slice A l.length c)).heap[b]? = _ from (blk_far (p := ⟨b + 3, 1, none⟩) (blk_far (p := ⟨b + 3, 0, none⟩) K0.out (show b ≠ b + 3 by omega) _) (show b ≠ b + 3 by omega) _))
  have K14 := Aside0.mk (show ((w3.setCell ⟨b + 3, 0, none⟩ (.int .i64 next)).setCell ⟨b + 3, 1, none⟩ (.slice A l.length c)).heap[b + 1]? = _ from (blk_far (p := ⟨b + 3, 1, none⟩) (blk_far (p := ⟨b + 3, 0, none⟩) K1.out (show b + 1 ≠ b + 3 by omega) _) (show b + 1 ≠ b + 3 by omega) _))
  have K84 := Aside0.mk (show ((w3.setCell ⟨b + 3, 0, none⟩ (.int .i64 next)).setCell ⟨b + 3, 1, none⟩ (.slice A l.length c)).heap[b + 3]? = _ from (blk_put (blk_put K8.out 0 (.int .i64 next) rfl) 1 (.slice A l.length c) rfl))
  have HA4 := Aside0.mk (show S.At ((w3.setCell ⟨b + 3, 0, none⟩ (.int .i64 next)).setCell ⟨b + 3, 1, none⟩ (.slice A l.length c)) F3 s1 from (Shop.far (p := ⟨b + 3, 1, none⟩) (Shop.far (p := ⟨b + 3, 0, none⟩) HA3.out (fun hf => by rcases HF3.out (b + 3) hf with h1 | h1; exact HBF.out (b + 3) (by omega) h1; omega) _) (fun hf => by rcases HF3.out (b + 3) hf with h1 | h1; exact HBF.out (b + 3) (by omega) h1; omega) _))
  have HR4 := Aside0.mk (show Fr F w ((w3.setCell ⟨b + 3, 0, none⟩ (.int .i64 next)).setCell ⟨b + 3, 1, none⟩ (.slice A l.length c)) from ((HR3.out.setCell (p := ⟨b + 3, 0, none⟩) (Or.inr (by have := HBW.out; show w.heap.size ≤ b + 3; omega)) _).setCell (p := ⟨b + 3, 1, none⟩) (Or.inr (by have := HBW.out; show w.heap.size ≤ b + 3; omega)) _))
  have HFB := Aside0.mk (S.bound HA3.out)
  have hl50 : l.length < 50 := by have := of_decide_eq_true t6; omega
  go_wp2_with (at_builtin; refine Kd.R_append (Kd.int .i64) (W := ((w3.setCell ⟨b + 3, 0, none⟩ (.int .i64 next)).setCell ⟨b + 3, 1, none⟩ (.slice A l.length c))) (w0 := ((w3.setCell ⟨b + 3, 0, none⟩ (.int .i64 next)).setCell ⟨b + 3, 1, none⟩ (.slice A l.length c))) 0 rfl (.tmp 47) (.tmp 49) 33 3 (.int .i64 0) 8 rfl Tryz.underlying33 info3 rfl (by decide) (by decide) (.slice A l.length c) _ n [.int .i64 n] (fun k => ¬ F3 k ∧ b + 3 < k) (fun k => some k ≠ (Value.slice A l.length c).ownBlock ∧ (¬ F3 k ∧ b + 3 < k)) rfl (by show Value.slice (some ⟨w3.heap.size, 0, none⟩) 1 1 = _; simp) rfl (fun _ h => ⟨h.2, h.1⟩) (fun k hk => ⟨fun hf => by have := HFB.out k hf; simp at hk; omega, by simp at hk; omega⟩) HV4.out (Below.refl 0 _) (Nat.zero_le _) (by omega) ?_; intro v5 w5 hR5 hB5 hG5 hat5; rw [← HL2.out] at hR5; obtain ⟨A5, c5, hv5⟩ := Kd.R_slice hR5; subst hv5; have K0 := Aside0.mk (blk_grown K04.out hG5 (R_ne_blk HV4.out K04.out (by decide))); have K1 := Aside0.mk (blk_grown K14.out hG5 (R_ne_blk HV4.out K14.out (by decide))); have K8 := Aside0.mk (blk_grown K84.out hG5 (R_ne_blk HV4.out K84.out (by decide))); have HV5 := Aside0.mk hR5; have HA5 := Aside0.mk (S.keep HA4.out (fun k hk => hG5.block k (S.bound HA4.out k hk) (fun he => (HV4.out.1 k he.symm).1 hk)) hG5.size); have HR5 := Aside0.mk (HR4.out.grown hG5 (fun k hk => Or.inr (by have := (HV4.out.1 k hk).2; have := HBW.out; omega))); have HS5 := Aside0.mk hG5.size; clear hR5 hB5 hG5 hat5 K04 K14 K84 HV4 HA4 HR4 HV3 HA3 HR3; clear a0 a1 a2 a3 a4 a5 z0 z1 z2 z3 z4 z5 f2 f3 g0 g1 g2 g3 g4 g5 q0 q1 y0 y1; have a0 : w5.cell? ⟨b, 0, none⟩ = some (.int .i64 m) := (blk_cell K0.out 0).trans rfl; have a1 : w5.cell? ⟨b, 1, none⟩ = some (.int .i64 p) := (blk_cell K0.out 1).trans rfl; have a2 : w5.cell? ⟨b, 2, none⟩ = some (.int .i64 t) := (blk_cell K0.out 2).trans rfl; have a3 : w5.cell? ⟨b, 3, none⟩ = some (.int .i64 sp) := (blk_cell K0.out 3).trans rfl; have a4 : w5.cell? ⟨b, 4, none⟩ = some (.int .i64 r) := (blk_cell K0.out 4).trans rfl; have a5 : w5.cell? ⟨b, 5, none⟩ = some (.int .u64 ch) := (blk_cell K0.out 5).trans rfl; have z0 : w5.cell? ⟨b + 1, 0, none⟩ = some (.int .i64 0) := (blk_cell K1.out 0).trans rfl; have z1 : w5.cell? ⟨b + 1, 1, none⟩ = some (.int .i64 0) := (blk_cell K1.out 1).trans rfl; have z2 : w5.cell? ⟨b + 1, 2, none⟩ = some (.int .i64 0) := (blk_cell K1.out 2).trans rfl; have z3 : w5.cell? ⟨b + 1, 3, none⟩ = some (.int .i64 0) := (blk_cell K1.out 3).trans rfl; have z4 : w5.cell? ⟨b + 1, 4, none⟩ = some (.int .i64 0) := (blk_cell K1.out 4).trans rfl; have z5 : w5.cell? ⟨b + 1, 5, none⟩ = some (.int .u64 0) := (blk_cell K1.out 5).trans rfl; have f2 : w5.frozen? ⟨b, 2, none⟩ = false := blk_frozen K0.out 2; have f3 : w5.frozen? ⟨b, 3, none⟩ = false := blk_frozen K0.out 3; have g0 : w5.frozen? ⟨b + 1, 0, none⟩ = false := blk_frozen K1.out 0; have g1 : w5.frozen? ⟨b + 1, 1, none⟩ = false := blk_frozen K1.out 1; have g2 : w5.frozen? ⟨b + 1, 2, none⟩ = false := blk_frozen K1.out 2; have g3 : w5.frozen? ⟨b + 1, 3, none⟩ = false := blk_frozen K1.out 3; have g4 : w5.frozen? ⟨b + 1, 4, none⟩ = false := blk_frozen K1.out 4; have g5 : w5.frozen? ⟨b + 1, 5, none⟩ = false := blk_frozen K1.out 5; have q0 : w5.cell? ⟨b + 3, 0, none⟩ = some (.int .i64 next) := (blk_cell K8.out 0).trans rfl; have y0 : w5.frozen? ⟨b + 3, 0, none⟩ = false := blk_frozen K8.out 0; have q1 : w5.cell? ⟨b + 3, 1, none⟩ = some (.slice A l.length c) := (blk_cell K8.out 1).trans rfl; have y1 : w5.frozen? ⟨b + 3, 1, none⟩ = false := blk_frozen K8.out 1)
  have HV6 := Kd.R_set HV5.out K8.out no324 1 (.slice A5 l2.length c5)
  have HV6C := Kd.R_reads' HV6
  obtain ⟨_, hle5, HC6⟩ := HV6C
  have HC6 := Aside0.mk HC6
  clear HV6
  have hcall := lay_calls S F3 s1 t next A5 c5 l2 _ (Shop.far (p := ⟨b + 3, 1, none⟩) HA5.out (fun hf => by rcases HF3.out (b + 3) hf with h1 | h1; exact HBF.out (b + 3) (by omega) h1; omega) _) HFIT.out HC6.out hle5
  rw [HLY.out] at hcall
  dsimp only at hcall
  refine hcall.mono ?_
  clear hcall
  rintro e w7 ⟨rfl, F7, hA7, hF7, hR7⟩
  have K07 := Aside0.mk (hR7.blk (blk_far (p := ⟨b + 3, 1, none⟩) K0.out (show b ≠ b + 3 by omega) (.slice A5 l2.length c5)) (fun hf => by rcases HF3.out b hf with h1 | h1; exact HBF.out b (Nat.le_refl _) h1; omega))
  have K17 := Aside0.mk (hR7.blk (blk_far (p := ⟨b + 3, 1, none⟩) K1.out (show b + 1 ≠ b + 3 by omega) (.slice A5 l2.length c5)) (fun hf => by rcases HF3.out (b + 1) hf with h1 | h1; exact HBF.out (b + 1) (by omega) h1; omega))
  have HR7 := Aside0.mk ((HR5.out.setCell (p := ⟨b + 3, 1, none⟩) (Or.inr (by have := HBW.out; show w.heap.size ≤ b + 3; omega)) (.slice A5 l2.length c5)).trans hR7 (fun k hk hf => by rcases HF3.out k hf with h1 | h1; exact h1; have := HBW.out; omega))
  have HF7 := Aside0.mk (show ∀ k, F7 k → F k ∨ b + 3 < k from fun k hk => by
    rcases hF7 k hk with h1 | h1
    · exact HF3.out k h1
    · exact Or.inr (by have h2 := Nat.lt_of_lt_of_le hs3 (by simpa using HS5.out); (try simp only [World.size_setCell] at h1 h2 ⊢); omega))
  have HA7 := Aside0.mk hA7
  clear hA7 hF7 hR7
  clear a0 a1 a2 a3 a4 a5 z0 z1 z2 z3 z4 z5 f2 f3 g0 g1 g2 g3 g4 g5 q0 q1 y0 y1
  have a0 : w7.cell? ⟨b, 0, none⟩ = some (.int .i64 m) := (blk_cell K07.out 0).trans rfl
  have a1 : w7.cell? ⟨b, 1, none⟩ = some (.int .i64 p) := (blk_cell K07.out 1).trans rfl
  have a2 : w7.cell? ⟨b, 2, none⟩ = some (.int .i64 t) := (blk_cell K07.out 2).trans rfl
  have a3 : w7.cell? ⟨b, 3, none⟩ = some (.int .i64 sp) := (blk_cell K07.out 3).trans rfl
  have a4 : w7.cell? ⟨b, 4, none⟩ = some (.int .i64 r) := (blk_cell K07.out 4).trans rfl
  have a5 : w7.cell? ⟨b, 5, none⟩ = some (.int .u64 ch) := (blk_cell K07.out 5).trans rfl
  have z0 : w7.cell? ⟨b + 1, 0, none⟩ = some (.int .i64 0) := (blk_cell K17.out 0).trans rfl
  have z1 : w7.cell? ⟨b + 1, 1, none⟩ = some (.int .i64 0) := (blk_cell K17.out 1).trans rfl
  have z2 : w7.cell? ⟨b + 1, 2, none⟩ = some (.int .i64 0) := (blk_cell K17.out 2).trans rfl
  have z3 : w7.cell? ⟨b + 1, 3, none⟩ = some (.int .i64 0) := (blk_cell K17.out 3).trans rfl
  have z4 : w7.cell? ⟨b + 1, 4, none⟩ = some (.int .i64 0) := (blk_cell K17.out 4).trans rfl
  have z5 : w7.cell? ⟨b + 1, 5, none⟩ = some (.int .u64 0) := (blk_cell K17.out 5).trans rfl
  have f2 : w7.frozen? ⟨b, 2, none⟩ = false := blk_frozen K07.out 2
  have f3 : w7.frozen? ⟨b, 3, none⟩ = false := blk_frozen K07.out 3
  have g0 : w7.frozen? ⟨b + 1, 0, none⟩ = false := blk_frozen K17.out 0
  have g1 : w7.frozen? ⟨b + 1, 1, none⟩ = false := blk_frozen K17.out 1
  have g2 : w7.frozen? ⟨b + 1, 2, none⟩ = false := blk_frozen K17.out 2
  have g3 : w7.frozen? ⟨b + 1, 3, none⟩ = false := blk_frozen K17.out 3
  have g4 : w7.frozen? ⟨b + 1, 4, none⟩ = false := blk_frozen K17.out 4
  have g5 : w7.frozen? ⟨b + 1, 5, none⟩ = false := blk_frozen K17.out 5
  go_wp2
  refine bodyPost_ret (results_ct rfl _ _ (b + 1) 48 #[.int .i64 0, .int .i64 0, .int .i64 0, .int .i64 0, .int .i64 0, .int .u64 0] (0, 0) _ rfl (put6 K17.out _ _ _ _ _ _) Tryz.underlying48 rfl (by kernel_rfl)) rfl ?_
  refine ⟨rfl, F7, at6 HA7.out (fun hf => by rcases HF7.out (b + 1) hf with h1 | h1; exact HBF.out (b + 1) (by omega) h1; omega) _ _ _ _ _ _, fun k hk => (HF7.out k hk).imp id (fun h => by have := HBW.out; omega), fr6 HR7.out (Or.inr (by have := HBW.out; show w.heap.size ≤ b + 1; omega)) _ _ _ _ _ _⟩
set_option maxHeartbeats 4000000 in
set_option maxRecDepth 100000 in
theorem give_D2 (S : Shop St) (F : Nat → Prop) (s : St) (m p t sp r ch n : Int) (s1 : St) (next : Int) (l : List Int) (er : Int) (s2 : St) (e2 : Int) (w : World) (h : S.At w F s) (t1 : decide (n < 1) = false) (t2 : decide (p ≤ n) = false) (hp0 : 0 ≤ p) (hp1 : p ≤ 4096) (hs0 : 0 ≤ sp) (t3 : decide (p - 1 ≤ sp) = false) (t4 : (t != 0) = true) (htr : S.trunk s t = (s1, next, l, er)) (t5 : (er != 0) = false) (t6 : decide ((l.length : Int) < 50) = true) (hfit : S.fits s1) (hly : S.lay s1 t next (l ++ [n]) = (s2, e2)) (t7 : (e2 != 0) = false) :
    Calls Tryz.prog 146 #[.agg #[.int .i64 m, .int .i64 p, .int .i64 t, .int .i64 sp, .int .i64 r, .int .u64 ch], .iface S.T S.x, .int .i64 n] w fun e w' => e = .returned (.tuple #[(Hd.mk m p t (sp + 1) r ch).v, .int .i64 0]) ∧ Goes (fun F' => S.At w' F' s2) F w w' := by
  have hsp1 : sp < 4096 := by have := of_decide_eq_false t3; omega
  have H := Aside0.mk h
  have HB := Aside0.mk (S.bound h)
  have hu35 := Tryz.underlying48
  have hu24 := Tryz.underlying98
  clear h
  have HTR := Aside0.mk htr
  have HFIT := Aside0.mk hfit
  obtain ⟨l2, hl2⟩ : ∃ l2, l2 = l ++ [n] := ⟨_, rfl⟩
  rw [← hl2] at hly
  have HLY := Aside0.mk hly
  have HL2 := Aside0.mk hl2
  clear htr hfit hly hl2
  go_enter Tryz.func146, Tryz.ntmps146
  have hmk := make50
  go_wp2_with fail
  clear hmk
  obtain ⟨w2, hw2⟩ : ∃ w2, w2 = (((w.alloc (.cells #[.int .i64 m, .int .i64 p, .int .i64 t, .int .i64 sp, .int .i64 r, .int .u64 ch] 48)).alloc (.cells #[.int .i64 0, .int .i64 0, .int .i64 0, .int .i64 0, .int .i64 0, .int .u64 0] 48)).alloc (.cells (madeCells #[.int .i64 0] 50) 3)).alloc (.cells #[.int .i64 0, .slice (some ⟨w.heap.size + 2, 0, none⟩) 50 50] 98) := ⟨_, rfl⟩
  rw [← hw2]
  have HA2 := Aside0.mk (show S.At w2 F s by rw [hw2]; exact Shop.below H.out (below_alloc (below_alloc (below_alloc (below_alloc (Below.refl _ _) _) _) _) _))
  have HR2 := Aside0.mk (show Fr F w w2 by rw [hw2]; exact ((((Fr.refl F w).alloc _).alloc _).alloc _).alloc _)
  have K0 := Aside0.mk (show w2.heap[w.heap.size]? = some (.cells #[.int .i64 m, .int .i64 p, .int .i64 t, .int .i64 sp, .int .i64 r, .int .u64 ch] 48 (0, 0)) by rw [hw2]; exact blk_alloc (blk_alloc (blk_alloc (blk_new w _) _) _) _)
  have K1 := Aside0.mk (show w2.heap[w.heap.size + 1]? = some (.cells #[.int .i64 0, .int .i64 0, .int .i64 0, .int .i64 0, .int .i64 0, .int .u64 0] 48 (0, 0)) by
    rw [hw2]
    refine blk_alloc (blk_alloc ?_ _) _
    have := blk_new (w.alloc (.cells #[.int .i64 m, .int .i64 p, .int .i64 t, .int .i64 sp, .int .i64 r, .int .u64 ch] 48)) (.cells #[.int .i64 0, .int .i64 0, .int .i64 0, .int .i64 0, .int .i64 0, .int .u64 0] 48)
    simpa using this)
  have K8 := Aside0.mk (show w2.heap[w.heap.size + 3]? = some (.cells #[.int .i64 0, .slice (some ⟨w.heap.size + 2, 0, none⟩) 50 50] 98 (0, 0)) by
    rw [hw2]
    have := blk_new (((w.alloc (.cells #[.int .i64 m, .int .i64 p, .int .i64 t, .int .i64 sp, .int .i64 r, .int .u64 ch] 48)).alloc (.cells #[.int .i64 0, .int .i64 0, .int .i64 0, .int .i64 0, .int .i64 0, .int .u64 0] 48)).alloc (.cells (madeCells #[.int .i64 0] 50) 3)) (.cells #[.int .i64 0, .slice (some ⟨w.heap.size + 2, 0, none⟩) 50 50] 98)
    simpa using this)
  have hs2 : w.heap.size + 3 < w2.heap.size := by rw [hw2]; simp
  clear hw2
  obtain ⟨b, hb⟩ : ∃ b, b = w.heap.size := ⟨_, rfl⟩
  rw [← hb] at K0 K1 K8 hs2 ⊢
  have HBF := Aside0.mk (show ∀ k, b ≤ k → ¬ F k from fun k hk hf => by have := HB.out k hf; omega)
  have HBW := Aside0.mk hb
  clear hb
  refine (trunk_calls S F s t w2 HA2.out).mono ?_
  rw [HTR.out]
  rintro e w3 ⟨v, rfl, F3, hA3, hF3, hR3, hv3⟩
  obtain ⟨A, c, rfl⟩ := Kd.R_slice hv3
  obtain ⟨_, hlc, hC3⟩ := Kd.R_reads' hv3
  have hlm := Kd.C_max hC3
  replace K0 := Aside0.mk (hR3.blk K0.out (HBF.out b (Nat.le_refl _)))
  replace K1 := Aside0.mk (hR3.blk K1.out (HBF.out (b + 1) (by omega)))
  replace K8 := Aside0.mk (hR3.blk K8.out (HBF.out (b + 3) (by omega)))
  have HR3 := Aside0.mk (HR2.out.trans hR3 (fun _ _ h => h))
  have HF3 := Aside0.mk (show ∀ k, F3 k → F k ∨ b + 3 < k from fun k hk => (hF3 k hk).imp id (fun h => by omega))
  have HA3 := Aside0.mk hA3
  have HV3 := Aside0.mk hv3
  have hs3 : b + 3 < w3.heap.size := blk_lt K8.out
  clear hA3 hF3 hR3 hv3 hC3 HA2 HR2 HTR
  have a0 : w3.cell? ⟨b, 0, none⟩ = some (.int .i64 m) := (blk_cell K0.out 0).trans rfl
  have a1 : w3.cell? ⟨b, 1, none⟩ = some (.int .i64 p) := (blk_cell K0.out 1).trans rfl
  have a2 : w3.cell? ⟨b, 2, none⟩ = some (.int .i64 t) := (blk_cell K0.out 2).trans rfl
  have a3 : w3.cell? ⟨b, 3, none⟩ = some (.int .i64 sp) := (blk_cell K0.out 3).trans rfl
  have a4 : w3.cell? ⟨b, 4, none⟩ = some (.int .i64 r) := (blk_cell K0.out 4).trans rfl
  have a5 : w3.cell? ⟨b, 5, none⟩ = some (.int .u64 ch) := (blk_cell K0.out 5).trans rfl
  have z0 : w3.cell? ⟨b + 1, 0, none⟩ = some (.int .i64 0) := (blk_cell K1.out 0).trans rfl
  have z1 : w3.cell? ⟨b + 1, 1, none⟩ = some (.int .i64 0) := (blk_cell K1.out 1).trans rfl
  have z2 : w3.cell? ⟨b + 1, 2, none⟩ = some (.int .i64 0) := (blk_cell K1.out 2).trans rfl
  have z3 : w3.cell? ⟨b + 1, 3, none⟩ = some (.int .i64 0) := (blk_cell K1.out 3).trans rfl
  have z4 : w3.cell? ⟨b + 1, 4, none⟩ = some (.int .i64 0) := (blk_cell K1.out 4).trans rfl
  have z5 : w3.cell? ⟨b + 1, 5, none⟩ = some (.int .u64 0) := (blk_cell K1.out 5).trans rfl
  have f2 : w3.frozen? ⟨b, 2, none⟩ = false := blk_frozen K0.out 2
  have f3 : w3.frozen? ⟨b, 3, none⟩ = false := blk_frozen K0.out 3
  have g0 : w3.frozen? ⟨b + 1, 0, none⟩ = false := blk_frozen K1.out 0
  have g1 : w3.frozen? ⟨b + 1, 1, none⟩ = false := blk_frozen K1.out 1
  have g2 : w3.frozen? ⟨b + 1, 2, none⟩ = false := blk_frozen K1.out 2
  have g3 : w3.frozen? ⟨b + 1, 3, none⟩ = false := blk_frozen K1.out 3
  have g4 : w3.frozen? ⟨b + 1, 4, none⟩ = false := blk_frozen K1.out 4
  have g5 : w3.frozen? ⟨b + 1, 5, none⟩ = false := blk_frozen K1.out 5
  have q0 : w3.cell? ⟨b + 3, 0, none⟩ = some (.int .i64 0) := (blk_cell K8.out 0).trans rfl
  have y0 : w3.frozen? ⟨b + 3, 0, none⟩ = false := blk_frozen K8.out 0
  have q1 : w3.cell? ⟨b + 3, 1, none⟩ = some (.slice (some ⟨b + 2, 0, none⟩) 50 50) := (blk_cell K8.out 1).trans rfl
  have y1 : w3.frozen? ⟨b + 3, 1, none⟩ = false := blk_frozen K8.out 1
  have HV4 := Aside0.mk (show (Kd.int .i64).R 3 ((w3.setCell ⟨b + 3, 0, none⟩ (.int .i64 next)).setCell ⟨b + 3, 1, none⟩ (.slice A l.length c)) 0 (fun k => ¬ F3 k ∧ b + 3 < k) (.slice A l.length c) l from Kd.R_set (Kd.R_set (Kd.R_mono HV3.out (fun k hk => ⟨hk.1, by have := hk.2; omega⟩)) K8.out no324 0 _) (blk_put K8.out 0 (.int .i64 next) rfl) no324 1 _)
  have K04 := Aside0.mk (show ((w3.setCell ⟨b + 3, 0, none⟩ (.int .i64 next)).setCell ⟨b + 3, 1, none⟩ (.slice A l.length c)).heap[b]? = _ from (blk_far (p := ⟨b + 3, 1, none⟩) (blk_far (p := ⟨b + 3, 0, none⟩) K0.out (show b ≠ b + 3 by omega) _) (show b ≠ b + 3 by omega) _))
  have K14 := Aside0.mk (show ((w3.setCell ⟨b + 3, 0, none⟩ (.int .i64 next)).setCell ⟨b + 3, 1, none⟩ (.slice A l.length c)).heap[b + 1]? = _ from (blk_far (p := ⟨b + 3, 1, none⟩) (blk_far (p := ⟨b + 3, 0, none⟩) K1.out (show b + 1 ≠ b + 3 by omega) _) (show b + 1 ≠ b + 3 by omega) _))
  have K84 := Aside0.mk (show ((w3.setCell ⟨b + 3, 0, none⟩ (.int .i64 next)).setCell ⟨b + 3, 1, none⟩ (.slice A l.length c)).heap[b + 3]? = _ from (blk_put (blk_put K8.out 0 (.int .i64 next) rfl) 1 (.slice A l.length c) rfl))
  have HA4 := Aside0.mk (show S.At ((w3.setCell ⟨b + 3, 0, none⟩ (.int .i64 next)).setCell ⟨b + 3, 1, none⟩ (.slice A l.length c)) F3 s1 from (Shop.far (p := ⟨b + 3, 1, none⟩) (Shop.far (p := ⟨b + 3, 0, none⟩) HA3.out (fun hf => by rcases HF3.out (b + 3) hf with h1 | h1; exact HBF.out (b + 3) (by omega) h1; omega) _) (fun hf => by rcases HF3.out (b + 3) hf with h1 | h1; exact HBF.out (b + 3) (by omega) h1; omega) _))
  have HR4 := Aside0.mk (show Fr F w ((w3.setCell ⟨b + 3, 0, none⟩ (.int .i64 next)).setCell ⟨b + 3, 1, none⟩ (.slice A l.length c)) from ((HR3.out.setCell (p := ⟨b + 3, 0, none⟩) (Or.inr (by have := HBW.out; show w.heap.size ≤ b + 3; omega)) _).setCell (p := ⟨b + 3, 1, none⟩) (Or.inr (by have := HBW.out; show w.heap.size ≤ b + 3; omega)) _))
  have HFB := Aside0.mk (S.bound HA3.out)
  have hl50 : l.length < 50 := by have := of_decide_eq_true t6; omega
  go_wp2_with (at_builtin; refine Kd.R_append (Kd.int .i64) (W := ((w3.setCell ⟨b + 3, 0, none⟩ (.int .i64 next)).setCell ⟨b + 3, 1, none⟩ (.slice A l.length c))) (w0 := ((w3.setCell ⟨b + 3, 0, none⟩ (.int .i64 next)).setCell ⟨b + 3, 1, none⟩ (.slice A l.length c))) 0 rfl (.tmp 47) (.tmp 49) 33 3 (.int .i64 0) 8 rfl Tryz.underlying33 info3 rfl (by decide) (by decide) (.slice A l.length c) _ n [.int .i64 n] (fun k => ¬ F3 k ∧ b + 3 < k) (fun k => some k ≠ (Value.slice A l.length c).ownBlock ∧ (¬ F3 k ∧ b + 3 < k)) rfl (by show Value.slice (some ⟨w3.heap.size, 0, none⟩) 1 1 = _; simp) rfl (fun _ h => ⟨h.2, h.1⟩) (fun k hk => ⟨fun hf => by have := HFB.out k hf; simp at hk; omega, by simp at hk; omega⟩) HV4.out (Below.refl 0 _) (Nat.zero_le _) (by omega) ?_; intro v5 w5 hR5 hB5 hG5 hat5; rw [← HL2.out] at hR5; obtain ⟨A5, c5, hv5⟩ := Kd.R_slice hR5; subst hv5; have K0 := Aside0.mk (blk_grown K04.out hG5 (R_ne_blk HV4.out K04.out (by decide))); have K1 := Aside0.mk (blk_grown K14.out hG5 (R_ne_blk HV4.out K14.out (by decide))); have K8 := Aside0.mk (blk_grown K84.out hG5 (R_ne_blk HV4.out K84.out (by decide))); have HV5 := Aside0.mk hR5; have HA5 := Aside0.mk (S.keep HA4.out (fun k hk => hG5.block k (S.bound HA4.out k hk) (fun he => (HV4.out.1 k he.symm).1 hk)) hG5.size); have HR5 := Aside0.mk (HR4.out.grown hG5 (fun k hk => Or.inr (by have := (HV4.out.1 k hk).2; have := HBW.out; omega))); have HS5 := Aside0.mk hG5.size; clear hR5 hB5 hG5 hat5 K04 K14 K84 HV4 HA4 HR4 HV3 HA3 HR3; clear a0 a1 a2 a3 a4 a5 z0 z1 z2 z3 z4 z5 f2 f3 g0 g1 g2 g3 g4 g5 q0 q1 y0 y1; have a0 : w5.cell? ⟨b, 0, none⟩ = some (.int .i64 m) := (blk_cell K0.out 0).trans rfl; have a1 : w5.cell? ⟨b, 1, none⟩ = some (.int .i64 p) := (blk_cell K0.out 1).trans rfl; have a2 : w5.cell? ⟨b, 2, none⟩ = some (.int .i64 t) := (blk_cell K0.out 2).trans rfl; have a3 : w5.cell? ⟨b, 3, none⟩ = some (.int .i64 sp) := (blk_cell K0.out 3).trans rfl; have a4 : w5.cell? ⟨b, 4, none⟩ = some (.int .i64 r) := (blk_cell K0.out 4).trans rfl; have a5 : w5.cell? ⟨b, 5, none⟩ = some (.int .u64 ch) := (blk_cell K0.out 5).trans rfl; have z0 : w5.cell? ⟨b + 1, 0, none⟩ = some (.int .i64 0) := (blk_cell K1.out 0).trans rfl; have z1 : w5.cell? ⟨b + 1, 1, none⟩ = some (.int .i64 0) := (blk_cell K1.out 1).trans rfl; have z2 : w5.cell? ⟨b + 1, 2, none⟩ = some (.int .i64 0) := (blk_cell K1.out 2).trans rfl; have z3 : w5.cell? ⟨b + 1, 3, none⟩ = some (.int .i64 0) := (blk_cell K1.out 3).trans rfl; have z4 : w5.cell? ⟨b + 1, 4, none⟩ = some (.int .i64 0) := (blk_cell K1.out 4).trans rfl; have z5 : w5.cell? ⟨b + 1, 5, none⟩ = some (.int .u64 0) := (blk_cell K1.out 5).trans rfl; have f2 : w5.frozen? ⟨b, 2, none⟩ = false := blk_frozen K0.out 2; have f3 : w5.frozen? ⟨b, 3, none⟩ = false := blk_frozen K0.out 3; have g0 : w5.frozen? ⟨b + 1, 0, none⟩ = false := blk_frozen K1.out 0; have g1 : w5.frozen? ⟨b + 1, 1, none⟩ = false := blk_frozen K1.out 1; have g2 : w5.frozen? ⟨b + 1, 2, none⟩ = false := blk_frozen K1.out 2; have g3 : w5.frozen? ⟨b + 1, 3, none⟩ = false := blk_frozen K1.out 3; have g4 : w5.frozen? ⟨b + 1, 4, none⟩ = false := blk_frozen K1.out 4; have g5 : w5.frozen? ⟨b + 1, 5, none⟩ = false := blk_frozen K1.out 5; have q0 : w5.cell? ⟨b + 3, 0, none⟩ = some (.int .i64 next) := (blk_cell K8.out 0).trans rfl; have y0 : w5.frozen? ⟨b + 3, 0, none⟩ = false := blk_frozen K8.out 0; have q1 : w5.cell? ⟨b + 3, 1, none⟩ = some (.slice A l.length c) := (blk_cell K8.out 1).trans rfl; have y1 : w5.frozen? ⟨b + 3, 1, none⟩ = false := blk_frozen K8.out 1)
  have HV6 := Kd.R_set HV5.out K8.out no324 1 (.slice A5 l2.length c5)
  have HV6C := Kd.R_reads' HV6
  obtain ⟨_, hle5, HC6⟩ := HV6C
  have HC6 := Aside0.mk HC6
  clear HV6
  have hcall := lay_calls S F3 s1 t next A5 c5 l2 _ (Shop.far (p := ⟨b + 3, 1, none⟩) HA5.out (fun hf => by rcases HF3.out (b + 3) hf with h1 | h1; exact HBF.out (b + 3) (by omega) h1; omega) _) HFIT.out HC6.out hle5
  rw [HLY.out] at hcall
  dsimp only at hcall
  refine hcall.mono ?_
  clear hcall
  rintro e w7 ⟨rfl, F7, hA7, hF7, hR7⟩
  have K07 := Aside0.mk (hR7.blk (blk_far (p := ⟨b + 3, 1, none⟩) K0.out (show b ≠ b + 3 by omega) (.slice A5 l2.length c5)) (fun hf => by rcases HF3.out b hf with h1 | h1; exact HBF.out b (Nat.le_refl _) h1; omega))
  have K17 := Aside0.mk (hR7.blk (blk_far (p := ⟨b + 3, 1, none⟩) K1.out (show b + 1 ≠ b + 3 by omega) (.slice A5 l2.length c5)) (fun hf => by rcases HF3.out (b + 1) hf with h1 | h1; exact HBF.out (b + 1) (by omega) h1; omega))
  have HR7 := Aside0.mk ((HR5.out.setCell (p := ⟨b + 3, 1, none⟩) (Or.inr (by have := HBW.out; show w.heap.size ≤ b + 3; omega)) (.slice A5 l2.length c5)).trans hR7 (fun k hk hf => by rcases HF3.out k hf with h1 | h1; exact h1; have := HBW.out; omega))
  have HF7 := Aside0.mk (show ∀ k, F7 k → F k ∨ b + 3 < k from fun k hk => by
    rcases hF7 k hk with h1 | h1
    · exact HF3.out k h1
    · exact Or.inr (by have h2 := Nat.lt_of_lt_of_le hs3 (by simpa using HS5.out); (try simp only [World.size_setCell] at h1 h2 ⊢); omega))
  have HA7 := Aside0.mk hA7
  clear hA7 hF7 hR7
  clear a0 a1 a2 a3 a4 a5 z0 z1 z2 z3 z4 z5 f2 f3 g0 g1 g2 g3 g4 g5 q0 q1 y0 y1
  have a0 : w7.cell? ⟨b, 0, none⟩ = some (.int .i64 m) := (blk_cell K07.out 0).trans rfl
  have a1 : w7.cell? ⟨b, 1, none⟩ = some (.int .i64 p) := (blk_cell K07.out 1).trans rfl
  have a2 : w7.cell? ⟨b, 2, none⟩ = some (.int .i64 t) := (blk_cell K07.out 2).trans rfl
  have a3 : w7.cell? ⟨b, 3, none⟩ = some (.int .i64 sp) := (blk_cell K07.out 3).trans rfl
  have a4 : w7.cell? ⟨b, 4, none⟩ = some (.int .i64 r) := (blk_cell K07.out 4).trans rfl
  have a5 : w7.cell? ⟨b, 5, none⟩ = some (.int .u64 ch) := (blk_cell K07.out 5).trans rfl
  have z0 : w7.cell? ⟨b + 1, 0, none⟩ = some (.int .i64 0) := (blk_cell K17.out 0).trans rfl
  have z1 : w7.cell? ⟨b + 1, 1, none⟩ = some (.int .i64 0) := (blk_cell K17.out 1).trans rfl
  have z2 : w7.cell? ⟨b + 1, 2, none⟩ = some (.int .i64 0) := (blk_cell K17.out 2).trans rfl
  have z3 : w7.cell? ⟨b + 1, 3, none⟩ = some (.int .i64 0) := (blk_cell K17.out 3).trans rfl
  have z4 : w7.cell? ⟨b + 1, 4, none⟩ = some (.int .i64 0) := (blk_cell K17.out 4).trans rfl
  have z5 : w7.cell? ⟨b + 1, 5, none⟩ = some (.int .u64 0) := (blk_cell K17.out 5).trans rfl
  have f2 : w7.frozen? ⟨b, 2, none⟩ = false := blk_frozen K07.out 2
  have f3 : w7.frozen? ⟨b, 3, none⟩ = false := blk_frozen K07.out 3
  have g0 : w7.frozen? ⟨b + 1, 0, none⟩ = false := blk_frozen K17.out 0
  have g1 : w7.frozen? ⟨b + 1, 1, none⟩ = false := blk_frozen K17.out 1
  have g2 : w7.frozen? ⟨b + 1, 2, none⟩ = false := blk_frozen K17.out 2
  have g3 : w7.frozen? ⟨b + 1, 3, none⟩ = false := blk_frozen K17.out 3
  have g4 : w7.frozen? ⟨b + 1, 4, none⟩ = false := blk_frozen K17.out 4
  have g5 : w7.frozen? ⟨b + 1, 5, none⟩ = false := blk_frozen K17.out 5
  go_wp2
  refine bodyPost_ret (results_ct rfl _ _ (b + 1) 48 #[.int .i64 m, .int .i64 p, .int .i64 t, .int .i64 (sp + 1), .int .i64 r, .int .u64 ch] (0, 0) _ rfl (put6 (blk_far K17.out (show b + 1 ≠ b by omega) _) _ _ _ _ _ _) Tryz.underlying48 rfl (by kernel_rfl)) rfl ?_
  refine ⟨rfl, F7, at6 (Shop.far (p := ⟨b, 3, none⟩) HA7.out (fun hf => by rcases HF7.out b hf with h1 | h1; exact HBF.out b (Nat.le_refl _) h1; omega) _) (fun hf => by rcases HF7.out (b + 1) hf with h1 | h1; exact HBF.out (b + 1) (by omega) h1; omega) _ _ _ _ _ _, fun k hk => (HF7.out k hk).imp id (fun h => by have := HBW.out; omega), fr6 (HR7.out.setCell (p := ⟨b, 3, none⟩) (Or.inr (by have := HBW.out; show w.heap.size ≤ b; omega)) _) (Or.inr (by have := HBW.out; show w.heap.size ≤ b + 1; omega)) _ _ _ _ _ _⟩
set_option maxHeartbeats 4000000 in
set_option maxRecDepth 100000 in
theorem give_E1 (S : Shop St) (F : Nat → Prop) (s : St) (m p t sp r ch n : Int) (s1 : St) (next : Int) (l : List Int) (er : Int) (s2 : St) (e2 : Int) (w : World) (h : S.At w F s) (t1 : decide (n < 1) = false) (t2 : decide (p ≤ n) = false) (hp0 : 0 ≤ p) (hp1 : p ≤ 4096) (hs0 : 0 ≤ sp) (t3 : decide (p - 1 ≤ sp) = false) (t4 : (t != 0) = true) (htr : S.trunk s t = (s1, next, l, er)) (t5 : (er != 0) = false) (t6 : decide ((l.length : Int) < 50) = false) (hfit : S.fits s1) (hly : S.lay s1 n t [] = (s2, e2)) (t7 : (e2 != 0) = true) :
    Calls Tryz.prog 146 #[.agg #[.int .i64 m, .int .i64 p, .int .i64 t, .int .i64 sp, .int .i64 r, .int .u64 ch], .iface S.T S.x, .int .i64 n] w fun e w' => e = .returned (.tuple #[Hd.zero.v, .int .i64 e2]) ∧ Goes (fun F' => S.At w' F' s2) F w w' := by
  have H := Aside0.mk h
  have HB := Aside0.mk (S.bound h)
  have hu35 := Tryz.underlying48
  have hu24 := Tryz.underlying98
  clear h
  have HTR := Aside0.mk htr
  have HFIT := Aside0.mk hfit
  have HLY := Aside0.mk hly
  clear htr hfit hly
  go_enter Tryz.func146, Tryz.ntmps146
  have hmk := make50
  go_wp2_with fail
  clear hmk
  obtain ⟨w2, hw2⟩ : ∃ w2, w2 = (((w.alloc (.cells #[.int .i64 m, .int .i64 p, .int .i64 t, .int .i64 sp, .int .i64 r, .int .u64 ch] 48)).alloc (.cells #[.int .i64 0, .int .i64 0, .int .i64 0, .int .i64 0, .int .i64 0, .int .u64 0] 48)).alloc (.cells (madeCells #[.int .i64 0] 50) 3)).alloc (.cells #[.int .i64 0, .slice (some ⟨w.heap.size + 2, 0, none⟩) 50 50] 98) := ⟨_, rfl⟩
  rw [← hw2]
  have HA2 := Aside0.mk (show S.At w2 F s by rw [hw2]; exact Shop.below H.out (below_alloc (below_alloc (below_alloc (below_alloc (Below.refl _ _) _) _) _) _))
  have HR2 := Aside0.mk (show Fr F w w2 by rw [hw2]; exact ((((Fr.refl F w).alloc _).alloc _).alloc _).alloc _)
  have K0 := Aside0.mk (show w2.heap[w.heap.size]? = some (.cells #[.int .i64 m, .int .i64 p, .int .i64 t, .int .i64 sp, .int .i64 r, .int .u64 ch] 48 (0, 0)) by rw [hw2]; exact blk_alloc (blk_alloc (blk_alloc (blk_new w _) _) _) _)
  have K1 := Aside0.mk (show w2.heap[w.heap.size + 1]? = some (.cells #[.int .i64 0, .int .i64 0, .int .i64 0, .int .i64 0, .int .i64 0, .int .u64 0] 48 (0, 0)) by
    rw [hw2]
    refine blk_alloc (blk_alloc ?_ _) _
    have := blk_new (w.alloc (.cells #[.int .i64 m, .int .i64 p, .int .i64 t, .int .i64 sp, .int .i64 r, .int .u64 ch] 48)) (.cells #[.int .i64 0, .int .i64 0, .int .i64 0, .int .i64 0, .int .i64 0, .int .u64 0] 48)
    simpa using this)
  have K8 := Aside0.mk (show w2.heap[w.heap.size + 3]? = some (.cells #[.int .i64 0, .slice (some ⟨w.heap.size + 2, 0, none⟩) 50 50] 98 (0, 0)) by
    rw [hw2]
    have := blk_new (((w.alloc (.cells #[.int .i64 m, .int .i64 p, .int .i64 t, .int .i64 sp, .int .i64 r, .int .u64 ch] 48)).alloc (.cells #[.int .i64 0, .int .i64 0, .int .i64 0, .int .i64 0, .int .i64 0, .int .u64 0] 48)).alloc (.cells (madeCells #[.int .i64 0] 50) 3)) (.cells #[.int .i64 0, .slice (some ⟨w.heap.size + 2, 0, none⟩) 50 50] 98)
    simpa using this)
  have hs2 : w.heap.size + 3 < w2.heap.size := by rw [hw2]; simp
  clear hw2
  obtain ⟨b, hb⟩ : ∃ b, b = w.heap.size := ⟨_, rfl⟩
  rw [← hb] at K0 K1 K8 hs2 ⊢
  have HBF := Aside0.mk (show ∀ k, b ≤ k → ¬ F k from fun k hk hf => by have := HB.out k hf; omega)
  have HBW := Aside0.mk hb
  clear hb
  refine (trunk_calls S F s t w2 HA2.out).mono ?_
  rw [HTR.out]
  rintro e w3 ⟨v, rfl, F3, hA3, hF3, hR3, hv3⟩
  obtain ⟨A, c, rfl⟩ := Kd.R_slice hv3
  obtain ⟨_, hlc, hC3⟩ := Kd.R_reads' hv3
  have hlm := Kd.C_max hC3
  replace K0 := Aside0.mk (hR3.blk K0.out (HBF.out b (Nat.le_refl _)))
  replace K1 := Aside0.mk (hR3.blk K1.out (HBF.out (b + 1) (by omega)))
  replace K8 := Aside0.mk (hR3.blk K8.out (HBF.out (b + 3) (by omega)))
  have HR3 := Aside0.mk (HR2.out.trans hR3 (fun _ _ h => h))
  have HF3 := Aside0.mk (show ∀ k, F3 k → F k ∨ b + 3 < k from fun k hk => (hF3 k hk).imp id (fun h => by omega))
  have HA3 := Aside0.mk hA3
  have HV3 := Aside0.mk hv3
  have hs3 : b + 3 < w3.heap.size := blk_lt K8.out
  clear hA3 hF3 hR3 hv3 hC3 HA2 HR2 HTR
  have a0 : w3.cell? ⟨b, 0, none⟩ = some (.int .i64 m) := (blk_cell K0.out 0).trans rfl
  have a1 : w3.cell? ⟨b, 1, none⟩ = some (.int .i64 p) := (blk_cell K0.out 1).trans rfl
  have a2 : w3.cell? ⟨b, 2, none⟩ = some (.int .i64 t) := (blk_cell K0.out 2).trans rfl
  have a3 : w3.cell? ⟨b, 3, none⟩ = some (.int .i64 sp) := (blk_cell K0.out 3).trans rfl
  have a4 : w3.cell? ⟨b, 4, none⟩ = some (.int .i64 r) := (blk_cell K0.out 4).trans rfl
  have a5 : w3.cell? ⟨b, 5, none⟩ = some (.int .u64 ch) := (blk_cell K0.out 5).trans rfl
  have z0 : w3.cell? ⟨b + 1, 0, none⟩ = some (.int .i64 0) := (blk_cell K1.out 0).trans rfl
  have z1 : w3.cell? ⟨b + 1, 1, none⟩ = some (.int .i64 0) := (blk_cell K1.out 1).trans rfl
  have z2 : w3.cell? ⟨b + 1, 2, none⟩ = some (.int .i64 0) := (blk_cell K1.out 2).trans rfl
  have z3 : w3.cell? ⟨b + 1, 3, none⟩ = some (.int .i64 0) := (blk_cell K1.out 3).trans rfl
  have z4 : w3.cell? ⟨b + 1, 4, none⟩ = some (.int .i64 0) := (blk_cell K1.out 4).trans rfl
  have z5 : w3.cell? ⟨b + 1, 5, none⟩ = some (.int .u64 0) := (blk_cell K1.out 5).trans rfl
  have f2 : w3.frozen? ⟨b, 2, none⟩ = false := blk_frozen K0.out 2
  have f3 : w3.frozen? ⟨b, 3, none⟩ = false := blk_frozen K0.out 3
  have g0 : w3.frozen? ⟨b + 1, 0, none⟩ = false := blk_frozen K1.out 0
  have g1 : w3.frozen? ⟨b + 1, 1, none⟩ = false := blk_frozen K1.out 1
  have g2 : w3.frozen? ⟨b + 1, 2, none⟩ = false := blk_frozen K1.out 2
  have g3 : w3.frozen? ⟨b + 1, 3, none⟩ = false := blk_frozen K1.out 3
  have g4 : w3.frozen? ⟨b + 1, 4, none⟩ = false := blk_frozen K1.out 4
  have g5 : w3.frozen? ⟨b + 1, 5, none⟩ = false := blk_frozen K1.out 5
  have q0 : w3.cell? ⟨b + 3, 0, none⟩ = some (.int .i64 0) := (blk_cell K8.out 0).trans rfl
  have y0 : w3.frozen? ⟨b + 3, 0, none⟩ = false := blk_frozen K8.out 0
  have q1 : w3.cell? ⟨b + 3, 1, none⟩ = some (.slice (some ⟨b + 2, 0, none⟩) 50 50) := (blk_cell K8.out 1).trans rfl
  have y1 : w3.frozen? ⟨b + 3, 1, none⟩ = false := blk_frozen K8.out 1
  go_wp2_with fail
  refine (lay_calls S F3 s1 n t none 0 [] _ (Shop.far (p := ⟨b + 3, 1, none⟩) (Shop.far (p := ⟨b + 3, 0, none⟩) HA3.out (fun hf => by rcases HF3.out (b + 3) hf with h1 | h1; exact HBF.out (b + 3) (by omega) h1; omega) _) (fun hf => by rcases HF3.out (b + 3) hf with h1 | h1; exact HBF.out (b + 3) (by omega) h1; omega) _) HFIT.out (Kd.C_nil _ _) (Nat.le_refl _)).mono ?_
  rw [HLY.out]
  rintro e w7 ⟨rfl, F7, hA7, hF7, hR7⟩
  have K07 := Aside0.mk (hR7.blk (blk_far (p := ⟨b + 3, 1, none⟩) (blk_far (p := ⟨b + 3, 0, none⟩) K0.out (show b ≠ b + 3 by omega) _) (show b ≠ b + 3 by omega) _) (fun hf => by rcases HF3.out b hf with h1 | h1; exact HBF.out b (Nat.le_refl _) h1; omega))
  have K17 := Aside0.mk (hR7.blk (blk_far (p := ⟨b + 3, 1, none⟩) (blk_far (p := ⟨b + 3, 0, none⟩) K1.out (show b + 1 ≠ b + 3 by omega) _) (show b + 1 ≠ b + 3 by omega) _) (fun hf => by rcases HF3.out (b + 1) hf with h1 | h1; exact HBF.out (b + 1) (by omega) h1; omega))
  have HR7 := Aside0.mk (((HR3.out.setCell (p := ⟨b + 3, 0, none⟩) (Or.inr (by have := HBW.out; show w.heap.size ≤ b + 3; omega)) _).setCell (p := ⟨b + 3, 1, none⟩) (Or.inr (by have := HBW.out; show w.heap.size ≤ b + 3; omega)) _).trans hR7 (fun k hk hf => by rcases HF3.out k hf with h1 | h1; exact h1; have := HBW.out; omega))
  have HF7 := Aside0.mk (show ∀ k, F7 k → F k ∨ b + 3 < k from fun k hk => by
    rcases hF7 k hk with h1 | h1
    · exact HF3.out k h1
    · exact Or.inr (by have h2 := hs3; (try simp only [World.size_setCell] at h1 h2 ⊢); omega))
  have HA7 := Aside0.mk hA7
  clear hA7 hF7 hR7
  clear a0 a1 a2 a3 a4 a5 z0 z1 z2 z3 z4 z5 f2 f3 g0 g1 g2 g3 g4 g5 q0 q1 y0 y1
  have a0 : w7.cell? ⟨b, 0, none⟩ = some (.int .i64 m) := (blk_cell K07.out 0).trans rfl
  have a1 : w7.cell? ⟨b, 1, none⟩ = some (.int .i64 p) := (blk_cell K07.out 1).trans rfl
  have a2 : w7.cell? ⟨b, 2, none⟩ = some (.int .i64 t) := (blk_cell K07.out 2).trans rfl
  have a3 : w7.cell? ⟨b, 3, none⟩ = some (.int .i64 sp) := (blk_cell K07.out 3).trans rfl
  have a4 : w7.cell? ⟨b, 4, none⟩ = some (.int .i64 r) := (blk_cell K07.out 4).trans rfl
  have a5 : w7.cell? ⟨b, 5, none⟩ = some (.int .u64 ch) := (blk_cell K07.out 5).trans rfl
  have z0 : w7.cell? ⟨b + 1, 0, none⟩ = some (.int .i64 0) := (blk_cell K17.out 0).trans rfl
  have z1 : w7.cell? ⟨b + 1, 1, none⟩ = some (.int .i64 0) := (blk_cell K17.out 1).trans rfl
  have z2 : w7.cell? ⟨b + 1, 2, none⟩ = some (.int .i64 0) := (blk_cell K17.out 2).trans rfl
  have z3 : w7.cell? ⟨b + 1, 3, none⟩ = some (.int .i64 0) := (blk_cell K17.out 3).trans rfl
  have z4 : w7.cell? ⟨b + 1, 4, none⟩ = some (.int .i64 0) := (blk_cell K17.out 4).trans rfl
  have z5 : w7.cell? ⟨b + 1, 5, none⟩ = some (.int .u64 0) := (blk_cell K17.out 5).trans rfl
  have f2 : w7.frozen? ⟨b, 2, none⟩ = false := blk_frozen K07.out 2
  have f3 : w7.frozen? ⟨b, 3, none⟩ = false := blk_frozen K07.out 3
  have g0 : w7.frozen? ⟨b + 1, 0, none⟩ = false := blk_frozen K17.out 0
  have g1 : w7.frozen? ⟨b + 1, 1, none⟩ = false := blk_frozen K17.out 1
  have g2 : w7.frozen? ⟨b + 1, 2, none⟩ = false := blk_frozen K17.out 2
  have g3 : w7.frozen? ⟨b + 1, 3, none⟩ = false := blk_frozen K17.out 3
  have g4 : w7.frozen? ⟨b + 1, 4, none⟩ = false := blk_frozen K17.out 4
  have g5 : w7.frozen? ⟨b + 1, 5, none⟩ = false := blk_frozen K17.out 5
  go_wp2
  refine bodyPost_ret (results_ct rfl _ _ (b + 1) 48 #[.int .i64 0, .int .i64 0, .int .i64 0, .int .i64 0, .int .i64 0, .int .u64 0] (0, 0) _ rfl (put6 (blk_far K17.out (show b + 1 ≠ b by omega) (.int .i64 n)) _ _ _ _ _ _) Tryz.underlying48 rfl (by kernel_rfl)) rfl ?_
  refine ⟨rfl, F7, at6 (Shop.far (p := ⟨b, 2, none⟩) HA7.out (fun hf => by rcases HF7.out b hf with h1 | h1; exact HBF.out b (Nat.le_refl _) h1; omega) (.int .i64 n)) (fun hf => by rcases HF7.out (b + 1) hf with h1 | h1; exact HBF.out (b + 1) (by omega) h1; omega) _ _ _ _ _ _, fun k hk => (HF7.out k hk).imp id (fun h => by have := HBW.out; omega), fr6 (HR7.out.setCell (p := ⟨b, 2, none⟩) (Or.inr (by have := HBW.out; show w.heap.size ≤ b; omega)) (.int .i64 n)) (Or.inr (by have := HBW.out; show w.heap.size ≤ b + 1; omega)) _ _ _ _ _ _⟩
set_option maxHeartbeats 4000000 in
set_option maxRecDepth 100000 in
theorem give_E2 (S : Shop St) (F : Nat → Prop) (s : St) (m p t sp r ch n : Int) (s1 : St) (next : Int) (l : List Int) (er : Int) (s2 : St) (e2 : Int) (w : World) (h : S.At w F s) (t1 : decide (n < 1) = false) (t2 : decide (p ≤ n) = false) (hp0 : 0 ≤ p) (hp1 : p ≤ 4096) (hs0 : 0 ≤ sp) (t3 : decide (p - 1 ≤ sp) = false) (t4 : (t != 0) = true) (htr : S.trunk s t = (s1, next, l, er)) (t5 : (er != 0) = false) (t6 : decide ((l.length : Int) < 50) = false) (hfit : S.fits s1) (hly : S.lay s1 n t [] = (s2, e2)) (t7 : (e2 != 0) = false) :
    Calls Tryz.prog 146 #[.agg #[.int .i64 m, .int .i64 p, .int .i64 t, .int .i64 sp, .int .i64 r, .int .u64 ch], .iface S.T S.x, .int .i64 n] w fun e w' => e = .returned (.tuple #[(Hd.mk m p n (sp + 1) r ch).v, .int .i64 0]) ∧ Goes (fun F' => S.At w' F' s2) F w w' := by
  have hsp1 : sp < 4096 := by have := of_decide_eq_false t3; omega
  have H := Aside0.mk h
  have HB := Aside0.mk (S.bound h)
  have hu35 := Tryz.underlying48
  have hu24 := Tryz.underlying98
  clear h
  have HTR := Aside0.mk htr
  have HFIT := Aside0.mk hfit
  have HLY := Aside0.mk hly
  clear htr hfit hly
  go_enter Tryz.func146, Tryz.ntmps146
  have hmk := make50
  go_wp2_with fail
  clear hmk
  obtain ⟨w2, hw2⟩ : ∃ w2, w2 = (((w.alloc (.cells #[.int .i64 m, .int .i64 p, .int .i64 t, .int .i64 sp, .int .i64 r, .int .u64 ch] 48)).alloc (.cells #[.int .i64 0, .int .i64 0, .int .i64 0, .int .i64 0, .int .i64 0, .int .u64 0] 48)).alloc (.cells (madeCells #[.int .i64 0] 50) 3)).alloc (.cells #[.int .i64 0, .slice (some ⟨w.heap.size + 2, 0, none⟩) 50 50] 98) := ⟨_, rfl⟩
  rw [← hw2]
  have HA2 := Aside0.mk (show S.At w2 F s by rw [hw2]; exact Shop.below H.out (below_alloc (below_alloc (below_alloc (below_alloc (Below.refl _ _) _) _) _) _))
  have HR2 := Aside0.mk (show Fr F w w2 by rw [hw2]; exact ((((Fr.refl F w).alloc _).alloc _).alloc _).alloc _)
  have K0 := Aside0.mk (show w2.heap[w.heap.size]? = some (.cells #[.int .i64 m, .int .i64 p, .int .i64 t, .int .i64 sp, .int .i64 r, .int .u64 ch] 48 (0, 0)) by rw [hw2]; exact blk_alloc (blk_alloc (blk_alloc (blk_new w _) _) _) _)
  have K1 := Aside0.mk (show w2.heap[w.heap.size + 1]? = some (.cells #[.int .i64 0, .int .i64 0, .int .i64 0, .int .i64 0, .int .i64 0, .int .u64 0] 48 (0, 0)) by
    rw [hw2]
    refine blk_alloc (blk_alloc ?_ _) _
    have := blk_new (w.alloc (.cells #[.int .i64 m, .int .i64 p, .int .i64 t, .int .i64 sp, .int .i64 r, .int .u64 ch] 48)) (.cells #[.int .i64 0, .int .i64 0, .int .i64 0, .int .i64 0, .int .i64 0, .int .u64 0] 48)
    simpa using this)
  have K8 := Aside0.mk (show w2.heap[w.heap.size + 3]? = some (.cells #[.int .i64 0, .slice (some ⟨w.heap.size + 2, 0, none⟩) 50 50] 98 (0, 0)) by
    rw [hw2]
    have := blk_new (((w.alloc (.cells #[.int .i64 m, .int .i64 p, .int .i64 t, .int .i64 sp, .int .i64 r, .int .u64 ch] 48)).alloc (.cells #[.int .i64 0, .int .i64 0, .int .i64 0, .int .i64 0, .int .i64 0, .int .u64 0] 48)).alloc (.cells (madeCells #[.int .i64 0] 50) 3)) (.cells #[.int .i64 0, .slice (some ⟨w.heap.size + 2, 0, none⟩) 50 50] 98)
    simpa using this)
  have hs2 : w.heap.size + 3 < w2.heap.size := by rw [hw2]; simp
  clear hw2
  obtain ⟨b, hb⟩ : ∃ b, b = w.heap.size := ⟨_, rfl⟩
  rw [← hb] at K0 K1 K8 hs2 ⊢
  have HBF := Aside0.mk (show ∀ k, b ≤ k → ¬ F k from fun k hk hf => by have := HB.out k hf; omega)
  have HBW := Aside0.mk hb
  clear hb
  refine (trunk_calls S F s t w2 HA2.out).mono ?_
  rw [HTR.out]
  rintro e w3 ⟨v, rfl, F3, hA3, hF3, hR3, hv3⟩
  obtain ⟨A, c, rfl⟩ := Kd.R_slice hv3
  obtain ⟨_, hlc, hC3⟩ := Kd.R_reads' hv3
  have hlm := Kd.C_max hC3
  replace K0 := Aside0.mk (hR3.blk K0.out (HBF.out b (Nat.le_refl _)))
  replace K1 := Aside0.mk (hR3.blk K1.out (HBF.out (b + 1) (by omega)))
  replace K8 := Aside0.mk (hR3.blk K8.out (HBF.out (b + 3) (by omega)))
  have HR3 := Aside0.mk (HR2.out.trans hR3 (fun _ _ h => h))
  have HF3 := Aside0.mk (show ∀ k, F3 k → F k ∨ b + 3 < k from fun k hk => (hF3 k hk).imp id (fun h => by omega))
  have HA3 := Aside0.mk hA3
  have HV3 := Aside0.mk hv3
  have hs3 : b + 3 < w3.heap.size := blk_lt K8.out
  clear hA3 hF3 hR3 hv3 hC3 HA2 HR2 HTR
  have a0 : w3.cell? ⟨b, 0, none⟩ = some (.int .i64 m) := (blk_cell K0.out 0).trans rfl
  have a1 : w3.cell? ⟨b, 1, none⟩ = some (.int .i64 p) := (blk_cell K0.out 1).trans rfl
  have a2 : w3.cell? ⟨b, 2, none⟩ = some (.int .i64 t) := (blk_cell K0.out 2).trans rfl
  have a3 : w3.cell? ⟨b, 3, none⟩ = some (.int .i64 sp) := (blk_cell K0.out 3).trans rfl
  have a4 : w3.cell? ⟨b, 4, none⟩ = some (.int .i64 r) := (blk_cell K0.out 4).trans rfl
  have a5 : w3.cell? ⟨b, 5, none⟩ = some (.int .u64 ch) := (blk_cell K0.out 5).trans rfl
  have z0 : w3.cell? ⟨b + 1, 0, none⟩ = some (.int .i64 0) := (blk_cell K1.out 0).trans rfl
  have z1 : w3.cell? ⟨b + 1, 1, none⟩ = some (.int .i64 0) := (blk_cell K1.out 1).trans rfl
  have z2 : w3.cell? ⟨b + 1, 2, none⟩ = some (.int .i64 0) := (blk_cell K1.out 2).trans rfl
  have z3 : w3.cell? ⟨b + 1, 3, none⟩ = some (.int .i64 0) := (blk_cell K1.out 3).trans rfl
  have z4 : w3.cell? ⟨b + 1, 4, none⟩ = some (.int .i64 0) := (blk_cell K1.out 4).trans rfl
  have z5 : w3.cell? ⟨b + 1, 5, none⟩ = some (.int .u64 0) := (blk_cell K1.out 5).trans rfl
  have f2 : w3.frozen? ⟨b, 2, none⟩ = false := blk_frozen K0.out 2
  have f3 : w3.frozen? ⟨b, 3, none⟩ = false := blk_frozen K0.out 3
  have g0 : w3.frozen? ⟨b + 1, 0, none⟩ = false := blk_frozen K1.out 0
  have g1 : w3.frozen? ⟨b + 1, 1, none⟩ = false := blk_frozen K1.out 1
  have g2 : w3.frozen? ⟨b + 1, 2, none⟩ = false := blk_frozen K1.out 2
  have g3 : w3.frozen? ⟨b + 1, 3, none⟩ = false := blk_frozen K1.out 3
  have g4 : w3.frozen? ⟨b + 1, 4, none⟩ = false := blk_frozen K1.out 4
  have g5 : w3.frozen? ⟨b + 1, 5, none⟩ = false := blk_frozen K1.out 5
  have q0 : w3.cell? ⟨b + 3, 0, none⟩ = some (.int .i64 0) := (blk_cell K8.out 0).trans rfl
  have y0 : w3.frozen? ⟨b + 3, 0, none⟩ = false := blk_frozen K8.out 0
  have q1 : w3.cell? ⟨b + 3, 1, none⟩ = some (.slice (some ⟨b + 2, 0, none⟩) 50 50) := (blk_cell K8.out 1).trans rfl
  have y1 : w3.frozen? ⟨b + 3, 1, none⟩ = false := blk_frozen K8.out 1
  go_wp2_with fail
  refine (lay_calls S F3 s1 n t none 0 [] _ (Shop.far (p := ⟨b + 3, 1, none⟩) (Shop.far (p := ⟨b + 3, 0, none⟩) HA3.out (fun hf => by rcases HF3.out (b + 3) hf with h1 | h1; exact HBF.out (b + 3) (by omega) h1; omega) _) (fun hf => by rcases HF3.out (b + 3) hf with h1 | h1; exact HBF.out (b + 3) (by omega) h1; omega) _) HFIT.out (Kd.C_nil _ _) (Nat.le_refl _)).mono ?_
  rw [HLY.out]
  rintro e w7 ⟨rfl, F7, hA7, hF7, hR7⟩
  have K07 := Aside0.mk (hR7.blk (blk_far (p := ⟨b + 3, 1, none⟩) (blk_far (p := ⟨b + 3, 0, none⟩) K0.out (show b ≠ b + 3 by omega) _) (show b ≠ b + 3 by omega) _) (fun hf => by rcases HF3.out b hf with h1 | h1; exact HBF.out b (Nat.le_refl _) h1; omega))
  have K17 := Aside0.mk (hR7.blk (blk_far (p := ⟨b + 3, 1, none⟩) (blk_far (p := ⟨b + 3, 0, none⟩) K1.out (show b + 1 ≠ b + 3 by omega) _) (show b + 1 ≠ b + 3 by omega) _) (fun hf => by rcases HF3.out (b + 1) hf with h1 | h1; exact HBF.out (b + 1) (by omega) h1; omega))
  have HR7 := Aside0.mk (((HR3.out.setCell (p := ⟨b + 3, 0, none⟩) (Or.inr (by have := HBW.out; show w.heap.size ≤ b + 3; omega)) _).setCell (p := ⟨b + 3, 1, none⟩) (Or.inr (by have := HBW.out; show w.heap.size ≤ b + 3; omega)) _).trans hR7 (fun k hk hf => by rcases HF3.out k hf with h1 | h1; exact h1; have := HBW.out; omega))
  have HF7 := Aside0.mk (show ∀ k, F7 k → F k ∨ b + 3 < k from fun k hk => by
    rcases hF7 k hk with h1 | h1
    · exact HF3.out k h1
    · exact Or.inr (by have h2 := hs3; (try simp only [World.size_setCell] at h1 h2 ⊢); omega))
  have HA7 := Aside0.mk hA7
  clear hA7 hF7 hR7
  clear a0 a1 a2 a3 a4 a5 z0 z1 z2 z3 z4 z5 f2 f3 g0 g1 g2 g3 g4 g5 q0 q1 y0 y1
  have a0 : w7.cell? ⟨b, 0, none⟩ = some (.int .i64 m) := (blk_cell K07.out 0).trans rfl
  have a1 : w7.cell? ⟨b, 1, none⟩ = some (.int .i64 p) := (blk_cell K07.out 1).trans rfl
  have a2 : w7.cell? ⟨b, 2, none⟩ = some (.int .i64 t) := (blk_cell K07.out 2).trans rfl
  have a3 : w7.cell? ⟨b, 3, none⟩ = some (.int .i64 sp) := (blk_cell K07.out 3).trans rfl
  have a4 : w7.cell? ⟨b, 4, none⟩ = some (.int .i64 r) := (blk_cell K07.out 4).trans rfl
  have a5 : w7.cell? ⟨b, 5, none⟩ = some (.int .u64 ch) := (blk_cell K07.out 5).trans rfl
  have z0 : w7.cell? ⟨b + 1, 0, none⟩ = some (.int .i64 0) := (blk_cell K17.out 0).trans rfl
  have z1 : w7.cell? ⟨b + 1, 1, none⟩ = some (.int .i64 0) := (blk_cell K17.out 1).trans rfl
  have z2 : w7.cell? ⟨b + 1, 2, none⟩ = some (.int .i64 0) := (blk_cell K17.out 2).trans rfl
  have z3 : w7.cell? ⟨b + 1, 3, none⟩ = some (.int .i64 0) := (blk_cell K17.out 3).trans rfl
  have z4 : w7.cell? ⟨b + 1, 4, none⟩ = some (.int .i64 0) := (blk_cell K17.out 4).trans rfl
  have z5 : w7.cell? ⟨b + 1, 5, none⟩ = some (.int .u64 0) := (blk_cell K17.out 5).trans rfl
  have f2 : w7.frozen? ⟨b, 2, none⟩ = false := blk_frozen K07.out 2
  have f3 : w7.frozen? ⟨b, 3, none⟩ = false := blk_frozen K07.out 3
  have g0 : w7.frozen? ⟨b + 1, 0, none⟩ = false := blk_frozen K17.out 0
  have g1 : w7.frozen? ⟨b + 1, 1, none⟩ = false := blk_frozen K17.out 1
  have g2 : w7.frozen? ⟨b + 1, 2, none⟩ = false := blk_frozen K17.out 2
  have g3 : w7.frozen? ⟨b + 1, 3, none⟩ = false := blk_frozen K17.out 3
  have g4 : w7.frozen? ⟨b + 1, 4, none⟩ = false := blk_frozen K17.out 4
  have g5 : w7.frozen? ⟨b + 1, 5, none⟩ = false := blk_frozen K17.out 5
  go_wp2
  refine bodyPost_ret (results_ct rfl _ _ (b + 1) 48 #[.int .i64 m, .int .i64 p, .int .i64 n, .int .i64 (sp + 1), .int .i64 r, .int .u64 ch] (0, 0) _ rfl (put6 (blk_far (blk_far K17.out (show b + 1 ≠ b by omega) _) (show b + 1 ≠ b by omega) _) _ _ _ _ _ _) Tryz.underlying48 rfl (by kernel_rfl)) rfl ?_
  refine ⟨rfl, F7, at6 (Shop.far (p := ⟨b, 3, none⟩) (Shop.far (p := ⟨b, 2, none⟩) HA7.out (fun hf => by rcases HF7.out b hf with h1 | h1; exact HBF.out b (Nat.le_refl _) h1; omega) _) (fun hf => by rcases HF7.out b hf with h1 | h1; exact HBF.out b (Nat.le_refl _) h1; omega) _) (fun hf => by rcases HF7.out (b + 1) hf with h1 | h1; exact HBF.out (b + 1) (by omega) h1; omega) _ _ _ _ _ _, fun k hk => (HF7.out k hk).imp id (fun h => by have := HBW.out; omega), fr6 ((HR7.out.setCell (p := ⟨b, 2, none⟩) (Or.inr (by have := HBW.out; show w.heap.size ≤ b; omega)) _).setCell (p := ⟨b, 3, none⟩) (Or.inr (by have := HBW.out; show w.heap.size ≤ b; omega)) _) (Or.inr (by have := HBW.out; show w.heap.size ≤ b + 1; omega)) _ _ _ _ _ _⟩
set_option maxHeartbeats 4000000 in
set_option maxRecDepth 100000 in
theorem give_E01 (S : Shop St) (F : Nat → Prop) (s : St) (m p t sp r ch n : Int) (s2 : St) (e2 : Int) (w : World) (h : S.At w F s) (t1 : decide (n < 1) = false) (t2 : decide (p ≤ n) = false) (hp0 : 0 ≤ p) (hp1 : p ≤ 4096) (hs0 : 0 ≤ sp) (t3 : decide (p - 1 ≤ sp) = false) (t4 : (t != 0) = false) (hfit : S.fits s) (hly : S.lay s n t [] = (s2, e2)) (t7 : (e2 != 0) = true) :
    Calls Tryz.prog 146 #[.agg #[.int .i64 m, .int .i64 p, .int .i64 t, .int .i64 sp, .int .i64 r, .int .u64 ch], .iface S.T S.x, .int .i64 n] w fun e w' => e = .returned (.tuple #[Hd.zero.v, .int .i64 e2]) ∧ Goes (fun F' => S.At w' F' s2) F w w' := by
  have H := Aside0.mk h
  have HB := Aside0.mk (S.bound h)
  have hu35 := Tryz.underlying48
  have hu24 := Tryz.underlying98
  clear h
  have HFIT := Aside0.mk hfit
  have HLY := Aside0.mk hly
  clear hfit hly
  go_enter Tryz.func146, Tryz.ntmps146
  have hmk := make50
  go_wp2_with fail
  clear hmk
  obtain ⟨w2, hw2⟩ : ∃ w2, w2 = (((w.alloc (.cells #[.int .i64 m, .int .i64 p, .int .i64 t, .int .i64 sp, .int .i64 r, .int .u64 ch] 48)).alloc (.cells #[.int .i64 0, .int .i64 0, .int .i64 0, .int .i64 0, .int .i64 0, .int .u64 0] 48)).alloc (.cells (madeCells #[.int .i64 0] 50) 3)).alloc (.cells #[.int .i64 0, .slice (some ⟨w.heap.size + 2, 0, none⟩) 50 50] 98) := ⟨_, rfl⟩
  rw [← hw2]
  have HA2 := Aside0.mk (show S.At w2 F s by rw [hw2]; exact Shop.below H.out (below_alloc (below_alloc (below_alloc (below_alloc (Below.refl _ _) _) _) _) _))
  have HR2 := Aside0.mk (show Fr F w w2 by rw [hw2]; exact ((((Fr.refl F w).alloc _).alloc _).alloc _).alloc _)
  have K0 := Aside0.mk (show w2.heap[w.heap.size]? = some (.cells #[.int .i64 m, .int .i64 p, .int .i64 t, .int .i64 sp, .int .i64 r, .int .u64 ch] 48 (0, 0)) by rw [hw2]; exact blk_alloc (blk_alloc (blk_alloc (blk_new w _) _) _) _)
  have K1 := Aside0.mk (show w2.heap[w.heap.size + 1]? = some (.cells #[.int .i64 0, .int .i64 0, .int .i64 0, .int .i64 0, .int .i64 0, .int .u64 0] 48 (0, 0)) by
    rw [hw2]
    refine blk_alloc (blk_alloc ?_ _) _
    have := blk_new (w.alloc (.cells #[.int .i64 m, .int .i64 p, .int .i64 t, .int .i64 sp, .int .i64 r, .int .u64 ch] 48)) (.cells #[.int .i64 0, .int .i64 0, .int .i64 0, .int .i64 0, .int .i64 0, .int .u64 0] 48)
    simpa using this)
  have K8 := Aside0.mk (show w2.heap[w.heap.size + 3]? = some (.cells #[.int .i64 0, .slice (some ⟨w.heap.size + 2, 0, none⟩) 50 50] 98 (0, 0)) by
    rw [hw2]
    have := blk_new (((w.alloc (.cells #[.int .i64 m, .int .i64 p, .int .i64 t, .int .i64 sp, .int .i64 r, .int .u64 ch] 48)).alloc (.cells #[.int .i64 0, .int .i64 0, .int .i64 0, .int .i64 0, .int .i64 0, .int .u64 0] 48)).alloc (.cells (madeCells #[.int .i64 0] 50) 3)) (.cells #[.int .i64 0, .slice (some ⟨w.heap.size + 2, 0, none⟩) 50 50] 98)
    simpa using this)
  have hs2 : w.heap.size + 3 < w2.heap.size := by rw [hw2]; simp
  clear hw2
  obtain ⟨b, hb⟩ : ∃ b, b = w.heap.size := ⟨_, rfl⟩
  rw [← hb] at K0 K1 K8 hs2 ⊢
  have HBF := Aside0.mk (show ∀ k, b ≤ k → ¬ F k from fun k hk hf => by have := HB.out k hf; omega)
  have HBW := Aside0.mk hb
  clear hb
  have a0 : w2.cell? ⟨b, 0, none⟩ = some (.int .i64 m) := (blk_cell K0.out 0).trans rfl
  have a1 : w2.cell? ⟨b, 1, none⟩ = some (.int .i64 p) := (blk_cell K0.out 1).trans rfl
  have a2 : w2.cell? ⟨b, 2, none⟩ = some (.int .i64 t) := (blk_cell K0.out 2).trans rfl
  have a3 : w2.cell? ⟨b, 3, none⟩ = some (.int .i64 sp) := (blk_cell K0.out 3).trans rfl
  have a4 : w2.cell? ⟨b, 4, none⟩ = some (.int .i64 r) := (blk_cell K0.out 4).trans rfl
  have a5 : w2.cell? ⟨b, 5, none⟩ = some (.int .u64 ch) := (blk_cell K0.out 5).trans rfl
  have z0 : w2.cell? ⟨b + 1, 0, none⟩ = some (.int .i64 0) := (blk_cell K1.out 0).trans rfl
  have z1 : w2.cell? ⟨b + 1, 1, none⟩ = some (.int .i64 0) := (blk_cell K1.out 1).trans rfl
  have z2 : w2.cell? ⟨b + 1, 2, none⟩ = some (.int .i64 0) := (blk_cell K1.out 2).trans rfl
  have z3 : w2.cell? ⟨b + 1, 3, none⟩ = some (.int .i64 0) := (blk_cell K1.out 3).trans rfl
  have z4 : w2.cell? ⟨b + 1, 4, none⟩ = some (.int .i64 0) := (blk_cell K1.out 4).trans rfl
  have z5 : w2.cell? ⟨b + 1, 5, none⟩ = some (.int .u64 0) := (blk_cell K1.out 5).trans rfl
  have f2 : w2.frozen? ⟨b, 2, none⟩ = false := blk_frozen K0.out 2
  have f3 : w2.frozen? ⟨b, 3, none⟩ = false := blk_frozen K0.out 3
  have g0 : w2.frozen? ⟨b + 1, 0, none⟩ = false := blk_frozen K1.out 0
  have g1 : w2.frozen? ⟨b + 1, 1, none⟩ = false := blk_frozen K1.out 1
  have g2 : w2.frozen? ⟨b + 1, 2, none⟩ = false := blk_frozen K1.out 2
  have g3 : w2.frozen? ⟨b + 1, 3, none⟩ = false := blk_frozen K1.out 3
  have g4 : w2.frozen? ⟨b + 1, 4, none⟩ = false := blk_frozen K1.out 4
  have g5 : w2.frozen? ⟨b + 1, 5, none⟩ = false := blk_frozen K1.out 5
  have q0 : w2.cell? ⟨b + 3, 0, none⟩ = some (.int .i64 0) := (blk_cell K8.out 0).trans rfl
  have y0 : w2.frozen? ⟨b + 3, 0, none⟩ = false := blk_frozen K8.out 0
  have q1 : w2.cell? ⟨b + 3, 1, none⟩ = some (.slice (some ⟨b + 2, 0, none⟩) 50 50) := (blk_cell K8.out 1).trans rfl
  have y1 : w2.frozen? ⟨b + 3, 1, none⟩ = false := blk_frozen K8.out 1
  go_wp2_with fail
  refine (lay_calls S F s n t none 0 [] _ HA2.out HFIT.out (Kd.C_nil _ _) (Nat.le_refl _)).mono ?_
  rw [HLY.out]
  rintro e w7 ⟨rfl, F7, hA7, hF7, hR7⟩
  have K07 := Aside0.mk (hR7.blk K0.out (fun hf => by exact HBF.out b (Nat.le_refl _) hf))
  have K17 := Aside0.mk (hR7.blk K1.out (fun hf => by exact HBF.out (b + 1) (by omega) hf))
  have HR7 := Aside0.mk (HR2.out.trans hR7 (fun k hk hf => by exact hf))
  have HF7 := Aside0.mk (show ∀ k, F7 k → F k ∨ b + 3 < k from fun k hk => by
    rcases hF7 k hk with h1 | h1
    · exact Or.inl h1
    · exact Or.inr (by have h2 := hs2; (try simp only [World.size_setCell] at h1 h2 ⊢); omega))
  have HA7 := Aside0.mk hA7
  clear hA7 hF7 hR7
  clear a0 a1 a2 a3 a4 a5 z0 z1 z2 z3 z4 z5 f2 f3 g0 g1 g2 g3 g4 g5 q0 q1 y0 y1
  have a0 : w7.cell? ⟨b, 0, none⟩ = some (.int .i64 m) := (blk_cell K07.out 0).trans rfl
  have a1 : w7.cell? ⟨b, 1, none⟩ = some (.int .i64 p) := (blk_cell K07.out 1).trans rfl
  have a2 : w7.cell? ⟨b, 2, none⟩ = some (.int .i64 t) := (blk_cell K07.out 2).trans rfl
  have a3 : w7.cell? ⟨b, 3, none⟩ = some (.int .i64 sp) := (blk_cell K07.out 3).trans rfl
  have a4 : w7.cell? ⟨b, 4, none⟩ = some (.int .i64 r) := (blk_cell K07.out 4).trans rfl
  have a5 : w7.cell? ⟨b, 5, none⟩ = some (.int .u64 ch) := (blk_cell K07.out 5).trans rfl
  have z0 : w7.cell? ⟨b + 1, 0, none⟩ = some (.int .i64 0) := (blk_cell K17.out 0).trans rfl
  have z1 : w7.cell? ⟨b + 1, 1, none⟩ = some (.int .i64 0) := (blk_cell K17.out 1).trans rfl
  have z2 : w7.cell? ⟨b + 1, 2, none⟩ = some (.int .i64 0) := (blk_cell K17.out 2).trans rfl
  have z3 : w7.cell? ⟨b + 1, 3, none⟩ = some (.int .i64 0) := (blk_cell K17.out 3).trans rfl
  have z4 : w7.cell? ⟨b + 1, 4, none⟩ = some (.int .i64 0) := (blk_cell K17.out 4).trans rfl
  have z5 : w7.cell? ⟨b + 1, 5, none⟩ = some (.int .u64 0) := (blk_cell K17.out 5).trans rfl
  have f2 : w7.frozen? ⟨b, 2, none⟩ = false := blk_frozen K07.out 2
  have f3 : w7.frozen? ⟨b, 3, none⟩ = false := blk_frozen K07.out 3
  have g0 : w7.frozen? ⟨b + 1, 0, none⟩ = false := blk_frozen K17.out 0
  have g1 : w7.frozen? ⟨b + 1, 1, none⟩ = false := blk_frozen K17.out 1
  have g2 : w7.frozen? ⟨b + 1, 2, none⟩ = false := blk_frozen K17.out 2
  have g3 : w7.frozen? ⟨b + 1, 3, none⟩ = false := blk_frozen K17.out 3
  have g4 : w7.frozen? ⟨b + 1, 4, none⟩ = false := blk_frozen K17.out 4
  have g5 : w7.frozen? ⟨b + 1, 5, none⟩ = false := blk_frozen K17.out 5
  go_wp2
  refine bodyPost_ret (results_ct rfl _ _ (b + 1) 48 #[.int .i64 0, .int .i64 0, .int .i64 0, .int .i64 0, .int .i64 0, .int .u64 0] (0, 0) _ rfl (put6 (blk_far K17.out (show b + 1 ≠ b by omega) (.int .i64 n)) _ _ _ _ _ _) Tryz.underlying48 rfl (by kernel_rfl)) rfl ?_
  refine ⟨rfl, F7, at6 (Shop.far (p := ⟨b, 2, none⟩) HA7.out (fun hf => by rcases HF7.out b hf with h1 | h1; exact HBF.out b (Nat.le_refl _) h1; omega) (.int .i64 n)) (fun hf => by rcases HF7.out (b + 1) hf with h1 | h1; exact HBF.out (b + 1) (by omega) h1; omega) _ _ _ _ _ _, fun k hk => (HF7.out k hk).imp id (fun h => by have := HBW.out; omega), fr6 (HR7.out.setCell (p := ⟨b, 2, none⟩) (Or.inr (by have := HBW.out; show w.heap.size ≤ b; omega)) (.int .i64 n)) (Or.inr (by have := HBW.out; show w.heap.size ≤ b + 1; omega)) _ _ _ _ _ _⟩
set_option maxHeartbeats 4000000 in
set_option maxRecDepth 100000 in
theorem give_E02 (S : Shop St) (F : Nat → Prop) (s : St) (m p t sp r ch n : Int) (s2 : St) (e2 : Int) (w : World) (h : S.At w F s) (t1 : decide (n < 1) = false) (t2 : decide (p ≤ n) = false) (hp0 : 0 ≤ p) (hp1 : p ≤ 4096) (hs0 : 0 ≤ sp) (t3 : decide (p - 1 ≤ sp) = false) (t4 : (t != 0) = false) (hfit : S.fits s) (hly : S.lay s n t [] = (s2, e2)) (t7 : (e2 != 0) = false) :
    Calls Tryz.prog 146 #[.agg #[.int .i64 m, .int .i64 p, .int .i64 t, .int .i64 sp, .int .i64 r, .int .u64 ch], .iface S.T S.x, .int .i64 n] w fun e w' => e = .returned (.tuple #[(Hd.mk m p n (sp + 1) r ch).v, .int .i64 0]) ∧ Goes (fun F' => S.At w' F' s2) F w w' := by
  have hsp1 : sp < 4096 := by have := of_decide_eq_false t3; omega
  have H := Aside0.mk h
  have HB := Aside0.mk (S.bound h)
  have hu35 := Tryz.underlying48
  have hu24 := Tryz.underlying98
  clear h
  have HFIT := Aside0.mk hfit
  have HLY := Aside0.mk hly
  clear hfit hly
  go_enter Tryz.func146, Tryz.ntmps146
  have hmk := make50
  go_wp2_with fail
  clear hmk
  obtain ⟨w2, hw2⟩ : ∃ w2, w2 = (((w.alloc (.cells #[.int .i64 m, .int .i64 p, .int .i64 t, .int .i64 sp, .int .i64 r, .int .u64 ch] 48)).alloc (.cells #[.int .i64 0, .int .i64 0, .int .i64 0, .int .i64 0, .int .i64 0, .int .u64 0] 48)).alloc (.cells (madeCells #[.int .i64 0] 50) 3)).alloc (.cells #[.int .i64 0, .slice (some ⟨w.heap.size + 2, 0, none⟩) 50 50] 98) := ⟨_, rfl⟩
  rw [← hw2]
  have HA2 := Aside0.mk (show S.At w2 F s by rw [hw2]; exact Shop.below H.out (below_alloc (below_alloc (below_alloc (below_alloc (Below.refl _ _) _) _) _) _))
  have HR2 := Aside0.mk (show Fr F w w2 by rw [hw2]; exact ((((Fr.refl F w).alloc _).alloc _).alloc _).alloc _)
  have K0 := Aside0.mk (show w2.heap[w.heap.size]? = some (.cells #[.int .i64 m, .int .i64 p, .int .i64 t, .int .i64 sp, .int .i64 r, .int .u64 ch] 48 (0, 0)) by rw [hw2]; exact blk_alloc (blk_alloc (blk_alloc (blk_new w _) _) _) _)
  have K1 := Aside0.mk (show w2.heap[w.heap.size + 1]? = some (.cells #[.int .i64 0, .int .i64 0, .int .i64 0, .int .i64 0, .int .i64 0, .int .u64 0] 48 (0, 0)) by
    rw [hw2]
    refine blk_alloc (blk_alloc ?_ _) _
    have := blk_new (w.alloc (.cells #[.int .i64 m, .int .i64 p, .int .i64 t, .int .i64 sp, .int .i64 r, .int .u64 ch] 48)) (.cells #[.int .i64 0, .int .i64 0, .int .i64 0, .int .i64 0, .int .i64 0, .int .u64 0] 48)
    simpa using this)
  have K8 := Aside0.mk (show w2.heap[w.heap.size + 3]? = some (.cells #[.int .i64 0, .slice (some ⟨w.heap.size + 2, 0, none⟩) 50 50] 98 (0, 0)) by
    rw [hw2]
    have := blk_new (((w.alloc (.cells #[.int .i64 m, .int .i64 p, .int .i64 t, .int .i64 sp, .int .i64 r, .int .u64 ch] 48)).alloc (.cells #[.int .i64 0, .int .i64 0, .int .i64 0, .int .i64 0, .int .i64 0, .int .u64 0] 48)).alloc (.cells (madeCells #[.int .i64 0] 50) 3)) (.cells #[.int .i64 0, .slice (some ⟨w.heap.size + 2, 0, none⟩) 50 50] 98)
    simpa using this)
  have hs2 : w.heap.size + 3 < w2.heap.size := by rw [hw2]; simp
  clear hw2
  obtain ⟨b, hb⟩ : ∃ b, b = w.heap.size := ⟨_, rfl⟩
  rw [← hb] at K0 K1 K8 hs2 ⊢
  have HBF := Aside0.mk (show ∀ k, b ≤ k → ¬ F k from fun k hk hf => by have := HB.out k hf; omega)
  have HBW := Aside0.mk hb
  clear hb
  have a0 : w2.cell? ⟨b, 0, none⟩ = some (.int .i64 m) := (blk_cell K0.out 0).trans rfl
  have a1 : w2.cell? ⟨b, 1, none⟩ = some (.int .i64 p) := (blk_cell K0.out 1).trans rfl
  have a2 : w2.cell? ⟨b, 2, none⟩ = some (.int .i64 t) := (blk_cell K0.out 2).trans rfl
  have a3 : w2.cell? ⟨b, 3, none⟩ = some (.int .i64 sp) := (blk_cell K0.out 3).trans rfl
  have a4 : w2.cell? ⟨b, 4, none⟩ = some (.int .i64 r) := (blk_cell K0.out 4).trans rfl
  have a5 : w2.cell? ⟨b, 5, none⟩ = some (.int .u64 ch) := (blk_cell K0.out 5).trans rfl
  have z0 : w2.cell? ⟨b + 1, 0, none⟩ = some (.int .i64 0) := (blk_cell K1.out 0).trans rfl
  have z1 : w2.cell? ⟨b + 1, 1, none⟩ = some (.int .i64 0) := (blk_cell K1.out 1).trans rfl
  have z2 : w2.cell? ⟨b + 1, 2, none⟩ = some (.int .i64 0) := (blk_cell K1.out 2).trans rfl
  have z3 : w2.cell? ⟨b + 1, 3, none⟩ = some (.int .i64 0) := (blk_cell K1.out 3).trans rfl
  have z4 : w2.cell? ⟨b + 1, 4, none⟩ = some (.int .i64 0) := (blk_cell K1.out 4).trans rfl
  have z5 : w2.cell? ⟨b + 1, 5, none⟩ = some (.int .u64 0) := (blk_cell K1.out 5).trans rfl
  have f2 : w2.frozen? ⟨b, 2, none⟩ = false := blk_frozen K0.out 2
  have f3 : w2.frozen? ⟨b, 3, none⟩ = false := blk_frozen K0.out 3
  have g0 : w2.frozen? ⟨b + 1, 0, none⟩ = false := blk_frozen K1.out 0
  have g1 : w2.frozen? ⟨b + 1, 1, none⟩ = false := blk_frozen K1.out 1
  have g2 : w2.frozen? ⟨b + 1, 2, none⟩ = false := blk_frozen K1.out 2
  have g3 : w2.frozen? ⟨b + 1, 3, none⟩ = false := blk_frozen K1.out 3
  have g4 : w2.frozen? ⟨b + 1, 4, none⟩ = false := blk_frozen K1.out 4
  have g5 : w2.frozen? ⟨b + 1, 5, none⟩ = false := blk_frozen K1.out 5
  have q0 : w2.cell? ⟨b + 3, 0, none⟩ = some (.int .i64 0) := (blk_cell K8.out 0).trans rfl
  have y0 : w2.frozen? ⟨b + 3, 0, none⟩ = false := blk_frozen K8.out 0
  have q1 : w2.cell? ⟨b + 3, 1, none⟩ = some (.slice (some ⟨b + 2, 0, none⟩) 50 50) := (blk_cell K8.out 1).trans rfl
  have y1 : w2.frozen? ⟨b + 3, 1, none⟩ = false := blk_frozen K8.out 1
  go_wp2_with fail
  refine (lay_calls S F s n t none 0 [] _ HA2.out HFIT.out (Kd.C_nil _ _) (Nat.le_refl _)).mono ?_
  rw [HLY.out]
  rintro e w7 ⟨rfl, F7, hA7, hF7, hR7⟩
  have K07 := Aside0.mk (hR7.blk K0.out (fun hf => by exact HBF.out b (Nat.le_refl _) hf))
  have K17 := Aside0.mk (hR7.blk K1.out (fun hf => by exact HBF.out (b + 1) (by omega) hf))
  have HR7 := Aside0.mk (HR2.out.trans hR7 (fun k hk hf => by exact hf))
  have HF7 := Aside0.mk (show ∀ k, F7 k → F k ∨ b + 3 < k from fun k hk => by
    rcases hF7 k hk with h1 | h1
    · exact Or.inl h1
    · exact Or.inr (by have h2 := hs2; (try simp only [World.size_setCell] at h1 h2 ⊢); omega))
  have HA7 := Aside0.mk hA7
  clear hA7 hF7 hR7
  clear a0 a1 a2 a3 a4 a5 z0 z1 z2 z3 z4 z5 f2 f3 g0 g1 g2 g3 g4 g5 q0 q1 y0 y1
  have a0 : w7.cell? ⟨b, 0, none⟩ = some (.int .i64 m) := (blk_cell K07.out 0).trans rfl
  have a1 : w7.cell? ⟨b, 1, none⟩ = some (.int .i64 p) := (blk_cell K07.out 1).trans rfl
  have a2 : w7.cell? ⟨b, 2, none⟩ = some (.int .i64 t) := (blk_cell K07.out 2).trans rfl
  have a3 : w7.cell? ⟨b, 3, none⟩ = some (.int .i64 sp) := (blk_cell K07.out 3).trans rfl
  have a4 : w7.cell? ⟨b, 4, none⟩ = some (.int .i64 r) := (blk_cell K07.out 4).trans rfl
  have a5 : w7.cell? ⟨b, 5, none⟩ = some (.int .u64 ch) := (blk_cell K07.out 5).trans rfl
  have z0 : w7.cell? ⟨b + 1, 0, none⟩ = some (.int .i64 0) := (blk_cell K17.out 0).trans rfl
  have z1 : w7.cell? ⟨b + 1, 1, none⟩ = some (.int .i64 0) := (blk_cell K17.out 1).trans rfl
  have z2 : w7.cell? ⟨b + 1, 2, none⟩ = some (.int .i64 0) := (blk_cell K17.out 2).trans rfl
  have z3 : w7.cell? ⟨b + 1, 3, none⟩ = some (.int .i64 0) := (blk_cell K17.out 3).trans rfl
  have z4 : w7.cell? ⟨b + 1, 4, none⟩ = some (.int .i64 0) := (blk_cell K17.out 4).trans rfl
  have z5 : w7.cell? ⟨b + 1, 5, none⟩ = some (.int .u64 0) := (blk_cell K17.out 5).trans rfl
  have f2 : w7.frozen? ⟨b, 2, none⟩ = false := blk_frozen K07.out 2
  have f3 : w7.frozen? ⟨b, 3, none⟩ = false := blk_frozen K07.out 3
  have g0 : w7.frozen? ⟨b + 1, 0, none⟩ = false := blk_frozen K17.out 0
  have g1 : w7.frozen? ⟨b + 1, 1, none⟩ = false := blk_frozen K17.out 1
  have g2 : w7.frozen? ⟨b + 1, 2, none⟩ = false := blk_frozen K17.out 2
  have g3 : w7.frozen? ⟨b + 1, 3, none⟩ = false := blk_frozen K17.out 3
  have g4 : w7.frozen? ⟨b + 1, 4, none⟩ = false := blk_frozen K17.out 4
  have g5 : w7.frozen? ⟨b + 1, 5, none⟩ = false := blk_frozen K17.out 5
  go_wp2
  refine bodyPost_ret (results_ct rfl _ _ (b + 1) 48 #[.int .i64 m, .int .i64 p, .int .i64 n, .int .i64 (sp + 1), .int .i64 r, .int .u64 ch] (0, 0) _ rfl (put6 (blk_far (blk_far K17.out (show b + 1 ≠ b by omega) _) (show b + 1 ≠ b by omega) _) _ _ _ _ _ _) Tryz.underlying48 rfl (by kernel_rfl)) rfl ?_
  refine ⟨rfl, F7, at6 (Shop.far (p := ⟨b, 3, none⟩) (Shop.far (p := ⟨b, 2, none⟩) HA7.out (fun hf => by rcases HF7.out b hf with h1 | h1; exact HBF.out b (Nat.le_refl _) h1; omega) _) (fun hf => by rcases HF7.out b hf with h1 | h1; exact HBF.out b (Nat.le_refl _) h1; omega) _) (fun hf => by rcases HF7.out (b + 1) hf with h1 | h1; exact HBF.out (b + 1) (by omega) h1; omega) _ _ _ _ _ _, fun k hk => (HF7.out k hk).imp id (fun h => by have := HBW.out; omega), fr6 ((HR7.out.setCell (p := ⟨b, 2, none⟩) (Or.inr (by have := HBW.out; show w.heap.size ≤ b; omega)) _).setCell (p := ⟨b, 3, none⟩) (Or.inr (by have := HBW.out; show w.heap.size ≤ b; omega)) _) (Or.inr (by have := HBW.out; show w.heap.size ≤ b + 1; omega)) _ _ _ _ _ _⟩
end Go.Proofs.YtonbipaajhokfaaGreatDoor
set_option linter.unusedVariables false
set_option linter.unusedSimpArgs false
namespace Go.Proofs.YtonbipaajhokfaaGreatDoor
open Go.RowKit Go.Proofs.YtonbipaajhokfaaGreatDoorW.PrintWords Go.Proofs.YtonbipaajhokfaaGreatDoorW.PrintLast Go.Proofs.YtonbipaajhokfaaGreatDoorW.PrintMore
variable {St : Type}
/-- Give's last step: the answer of lay, and the head behind it. -/
def gaveOf (r : St × Int) (h : Hd) : St × Hd × Int :=
  if r.2 ≠ 0 then (r.1, Hd.zero, r.2) else (r.1, h, 0)
/-- What Give answers: the store, the head, the error. -/
def Shop.give (S : Shop St) (s : St) (h : Hd) (n : Int) : St × Hd × Int :=
  if n < 1 ∨ h.pages ≤ n then (s, Hd.zero, 1)
  else if h.pages - 1 ≤ h.spare then (s, Hd.zero, 30)
  else if h.trunk = 0 then gaveOf (S.lay s n h.trunk []) { h with trunk := n, spare := h.spare + 1 }
  else if (S.trunk s h.trunk).2.2.2 ≠ 0 then ((S.trunk s h.trunk).1, Hd.zero, (S.trunk s h.trunk).2.2.2)
  else if (S.trunk s h.trunk).2.2.1.length < 50 then
    gaveOf (S.lay (S.trunk s h.trunk).1 h.trunk (S.trunk s h.trunk).2.1 ((S.trunk s h.trunk).2.2.1 ++ [n])) { h with spare := h.spare + 1 }
  else gaveOf (S.lay (S.trunk s h.trunk).1 n h.trunk []) { h with trunk := n, spare := h.spare + 1 }
theorem give_calls (S : Shop St) (F : Nat → Prop) (s : St) (h : Hd) (n : Int) (w : World) (hat : S.At w F s) (hfit : S.fits s) (hp0 : 0 ≤ h.pages) (hp1 : h.pages ≤ 4096) (hs0 : 0 ≤ h.spare) :
    Calls Tryz.prog 146 #[h.v, .iface S.T S.x, .int .i64 n] w fun e w' => e = .returned (.tuple #[(S.give s h n).2.1.v, .int .i64 (S.give s h n).2.2]) ∧ Goes (fun F' => S.At w' F' (S.give s h n).1) F w w' := by
  obtain ⟨m, p, t, sp, r, ch⟩ := h
  dsimp only at hp0 hp1 hs0
  unfold Shop.give
  dsimp only
  by_cases c1 : n < 1
  · rw [if_pos (Or.inl c1)]; exact give_A1 S F s m p t sp r ch n w hat (decide_eq_true c1)
  · by_cases c2 : p ≤ n
    · rw [if_pos (Or.inr c2)]; exact give_A2 S F s m p t sp r ch n w hat (decide_eq_false c1) (decide_eq_true c2)
    · rw [if_neg (by omega)]
      by_cases c3 : p - 1 ≤ sp
      · rw [if_pos c3]; exact give_B S F s m p t sp r ch n w hat (decide_eq_false c1) (decide_eq_false c2) hp0 hp1 (decide_eq_true c3)
      · rw [if_neg c3]
        by_cases c4 : t = 0
        · rw [if_pos c4]
          generalize hly : S.lay s n t [] = ly
          obtain ⟨s2, e2⟩ := ly
          unfold gaveOf
          dsimp only
          by_cases c7 : e2 ≠ 0
          · rw [if_pos c7]; exact give_E01 S F s m p t sp r ch n s2 e2 w hat (decide_eq_false c1) (decide_eq_false c2) hp0 hp1 hs0 (decide_eq_false c3) (by simp [c4]) hfit hly (by simp [c7])
          · rw [if_neg c7]; exact give_E02 S F s m p t sp r ch n s2 e2 w hat (decide_eq_false c1) (decide_eq_false c2) hp0 hp1 hs0 (decide_eq_false c3) (by simp [c4]) hfit hly (by simp; omega)
        · rw [if_neg c4]
          have hft := trunk_fits S t hfit
          generalize htr : S.trunk s t = tr at hft ⊢
          obtain ⟨s1, next, l, er⟩ := tr
          dsimp only at hft ⊢
          by_cases c5 : er ≠ 0
          · rw [if_pos c5]; exact give_C S F s m p t sp r ch n s1 next l er w hat (decide_eq_false c1) (decide_eq_false c2) hp0 hp1 hs0 (decide_eq_false c3) (by simp [c4]) htr (by simp [c5])
          · rw [if_neg c5]
            have he : (er != 0) = false := by simp; omega
            by_cases c6 : l.length < 50
            · rw [if_pos c6]
              generalize hly : S.lay s1 t next (l ++ [n]) = ly
              obtain ⟨s2, e2⟩ := ly
              unfold gaveOf
              dsimp only
              by_cases c7 : e2 ≠ 0
              · rw [if_pos c7]; exact give_D1 S F s m p t sp r ch n s1 next l er s2 e2 w hat (decide_eq_false c1) (decide_eq_false c2) hp0 hp1 hs0 (decide_eq_false c3) (by simp [c4]) htr he (decide_eq_true (by omega)) hft hly (by simp [c7])
              · rw [if_neg c7]; exact give_D2 S F s m p t sp r ch n s1 next l er s2 e2 w hat (decide_eq_false c1) (decide_eq_false c2) hp0 hp1 hs0 (decide_eq_false c3) (by simp [c4]) htr he (decide_eq_true (by omega)) hft hly (by simp; omega)
            · rw [if_neg c6]
              generalize hly : S.lay s1 n t [] = ly
              obtain ⟨s2, e2⟩ := ly
              unfold gaveOf
              dsimp only
              by_cases c7 : e2 ≠ 0
              · rw [if_pos c7]; exact give_E1 S F s m p t sp r ch n s1 next l er s2 e2 w hat (decide_eq_false c1) (decide_eq_false c2) hp0 hp1 hs0 (decide_eq_false c3) (by simp [c4]) htr he (decide_eq_false (by omega)) hft hly (by simp [c7])
              · rw [if_neg c7]; exact give_E2 S F s m p t sp r ch n s1 next l er s2 e2 w hat (decide_eq_false c1) (decide_eq_false c2) hp0 hp1 hs0 (decide_eq_false c3) (by simp [c4]) htr he (decide_eq_false (by omega)) hft hly (by simp; omega)
end Go.Proofs.YtonbipaajhokfaaGreatDoor
end
