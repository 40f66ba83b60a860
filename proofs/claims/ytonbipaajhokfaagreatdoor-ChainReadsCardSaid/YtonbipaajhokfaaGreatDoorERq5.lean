/-
  Of this claim's texts, laid together by wip/gen/squeeze.py: B6 B7.
-/
import Derived.Test.YtonbipaajhokfaaGreatDoorERq4
import Derived.BigQuiet
section
set_option linter.unusedVariables false
set_option linter.unusedSimpArgs false
namespace Go.Proofs.YtonbipaajhokfaaGreatDoor
open Go.RowKit Go.Proofs.YtonbipaajhokfaaGreatDoorW.PrintWords Go.Proofs.YtonbipaajhokfaaGreatDoorW.PrintLast Go.Proofs.YtonbipaajhokfaaGreatDoorW.PrintMore
variable {St : Type}
theorem C_pre {w : World} {A : Option Addr} {l0 : List Int} {x : Int} (h : Kd.C (Kd.int .i64) w A (l0 ++ [x]).length (l0 ++ [x])) : Kd.C (Kd.int .i64) w A l0.length l0 := by
  obtain ⟨h1, h2, h3⟩ := h
  obtain ⟨ad, e, hc⟩ := h3 (by simp)
  refine ⟨rfl, by simp at h2; omega, fun _ => ⟨ad, e, fun j p hj => hc j p ?_⟩⟩
  rw [List.getElem?_append_left (List.getElem?_eq_some_iff.1 hj).1]; exact hj
set_option maxHeartbeats 4000000 in
set_option maxRecDepth 100000 in
theorem take_C (S : Shop St) (F : Nat → Prop) (s s1 : St) (m p t sp r ch : Int) (next : Int) (l : List Int) (er : Int) (w : World) (h : S.At w F s) (h0 : sp ≠ 0) (htr : S.trunk s t = (s1, next, l, er)) (he : er ≠ 0) :
    Calls Tryz.prog 40 #[.agg #[.int .i64 m, .int .i64 p, .int .i64 t, .int .i64 sp, .int .i64 r, .int .u64 ch], .iface S.T S.x] w fun e w' => e = .returned (.tuple #[.int .i64 0, Hd.zero.v, .int .i64 er]) ∧ Goes (fun F' => S.At w' F' s1) F w w' := by
  have H := Aside0.mk h
  have HB := Aside0.mk (S.bound h)
  have HTR := Aside0.mk htr
  have hu35 := Tryz.underlying48
  have hu24 := Tryz.underlying98
  have t0 : (sp == 0) = false := by simp [h0]
  clear h h0 htr
  go_enter Tryz.func40, Tryz.ntmps40
  go_wp2_with fail
  obtain ⟨w2, hw2⟩ : ∃ w2, w2 = (w.alloc (.cells #[.int .i64 m, .int .i64 p, .int .i64 t, .int .i64 sp, .int .i64 r, .int .u64 ch] 48)).alloc (.cells #[.int .i64 0, .int .i64 0, .int .i64 0, .int .i64 0, .int .i64 0, .int .u64 0] 48) := ⟨_, rfl⟩
  rw [← hw2]
  have HA2 := Aside0.mk (show S.At w2 F s by rw [hw2]; exact Shop.below H.out (below_alloc (below_alloc (Below.refl _ _) _) _))
  have HR2 := Aside0.mk (show Fr F w w2 by rw [hw2]; exact ((Fr.refl F w).alloc _).alloc _)
  have K0 := Aside0.mk (show w2.heap[w.heap.size]? = some (.cells #[.int .i64 m, .int .i64 p, .int .i64 t, .int .i64 sp, .int .i64 r, .int .u64 ch] 48 (0, 0)) by rw [hw2]; exact blk_alloc (blk_new w _) _)
  have K1 := Aside0.mk (show w2.heap[w.heap.size + 1]? = some (.cells #[.int .i64 0, .int .i64 0, .int .i64 0, .int .i64 0, .int .i64 0, .int .u64 0] 48 (0, 0)) by
    rw [hw2]
    have := blk_new (w.alloc (.cells #[.int .i64 m, .int .i64 p, .int .i64 t, .int .i64 sp, .int .i64 r, .int .u64 ch] 48)) (.cells #[.int .i64 0, .int .i64 0, .int .i64 0, .int .i64 0, .int .i64 0, .int .u64 0] 48)
    simpa using this)
  have hs2 : w.heap.size + 1 < w2.heap.size := by rw [hw2]; simp
  clear hw2
  obtain ⟨b, hb⟩ : ∃ b, b = w.heap.size := ⟨_, rfl⟩
  rw [← hb] at K0 K1 hs2 ⊢
  have hbF : ∀ k, b ≤ k → ¬ F k := fun k hk hf => by have := HB.out k hf; omega
  have HBF := Aside0.mk hbF
  have HBW := Aside0.mk hb
  clear hb hbF
  refine (trunk_calls S F s t w2 HA2.out).mono ?_
  rw [HTR.out]
  rintro e w3 ⟨v, rfl, F3, hA3, hF3, hR3, hv3⟩
  obtain ⟨A, c, rfl⟩ := Kd.R_slice hv3
  obtain ⟨_, hlc, hC3⟩ := Kd.R_reads' hv3
  replace K0 := Aside0.mk (hR3.blk K0.out (HBF.out b (Nat.le_refl _)))
  replace K1 := Aside0.mk (hR3.blk K1.out (HBF.out (b + 1) (by omega)))
  have HR3 := Aside0.mk (HR2.out.trans hR3 (fun _ _ h => h))
  have HF3 := Aside0.mk (show ∀ k, F3 k → F k ∨ b + 1 < k from fun k hk => (hF3 k hk).imp id (fun h => by omega))
  have HA3 := Aside0.mk hA3
  have HC3 := Aside0.mk hC3
  clear hA3 hF3 hR3 hv3 hC3 HA2 HR2 HTR
  have t1 : (er != 0) = true := by simp [he]
  clear he
  have a0 : ∀ o, (w3.alloc o).cell? ⟨b, 0, none⟩ = some (.int .i64 m) := fun o => (blk_cell (blk_alloc K0.out o) 0).trans rfl
  have a1 : ∀ o, (w3.alloc o).cell? ⟨b, 1, none⟩ = some (.int .i64 p) := fun o => (blk_cell (blk_alloc K0.out o) 1).trans rfl
  have a2 : ∀ o, (w3.alloc o).cell? ⟨b, 2, none⟩ = some (.int .i64 t) := fun o => (blk_cell (blk_alloc K0.out o) 2).trans rfl
  have a3 : ∀ o, (w3.alloc o).cell? ⟨b, 3, none⟩ = some (.int .i64 sp) := fun o => (blk_cell (blk_alloc K0.out o) 3).trans rfl
  have a4 : ∀ o, (w3.alloc o).cell? ⟨b, 4, none⟩ = some (.int .i64 r) := fun o => (blk_cell (blk_alloc K0.out o) 4).trans rfl
  have a5 : ∀ o, (w3.alloc o).cell? ⟨b, 5, none⟩ = some (.int .u64 ch) := fun o => (blk_cell (blk_alloc K0.out o) 5).trans rfl
  have z0 : ∀ o, (w3.alloc o).cell? ⟨b + 1, 0, none⟩ = some (.int .i64 0) := fun o => (blk_cell (blk_alloc K1.out o) 0).trans rfl
  have z1 : ∀ o, (w3.alloc o).cell? ⟨b + 1, 1, none⟩ = some (.int .i64 0) := fun o => (blk_cell (blk_alloc K1.out o) 1).trans rfl
  have z2 : ∀ o, (w3.alloc o).cell? ⟨b + 1, 2, none⟩ = some (.int .i64 0) := fun o => (blk_cell (blk_alloc K1.out o) 2).trans rfl
  have z3 : ∀ o, (w3.alloc o).cell? ⟨b + 1, 3, none⟩ = some (.int .i64 0) := fun o => (blk_cell (blk_alloc K1.out o) 3).trans rfl
  have z4 : ∀ o, (w3.alloc o).cell? ⟨b + 1, 4, none⟩ = some (.int .i64 0) := fun o => (blk_cell (blk_alloc K1.out o) 4).trans rfl
  have z5 : ∀ o, (w3.alloc o).cell? ⟨b + 1, 5, none⟩ = some (.int .u64 0) := fun o => (blk_cell (blk_alloc K1.out o) 5).trans rfl
  have f2 : ∀ o, (w3.alloc o).frozen? ⟨b, 2, none⟩ = false := fun o => blk_frozen (blk_alloc K0.out o) 2
  have f3 : ∀ o, (w3.alloc o).frozen? ⟨b, 3, none⟩ = false := fun o => blk_frozen (blk_alloc K0.out o) 3
  have g0 : ∀ o, (w3.alloc o).frozen? ⟨b + 1, 0, none⟩ = false := fun o => blk_frozen (blk_alloc K1.out o) 0
  have g1 : ∀ o, (w3.alloc o).frozen? ⟨b + 1, 1, none⟩ = false := fun o => blk_frozen (blk_alloc K1.out o) 1
  have g2 : ∀ o, (w3.alloc o).frozen? ⟨b + 1, 2, none⟩ = false := fun o => blk_frozen (blk_alloc K1.out o) 2
  have g3 : ∀ o, (w3.alloc o).frozen? ⟨b + 1, 3, none⟩ = false := fun o => blk_frozen (blk_alloc K1.out o) 3
  have g4 : ∀ o, (w3.alloc o).frozen? ⟨b + 1, 4, none⟩ = false := fun o => blk_frozen (blk_alloc K1.out o) 4
  have g5 : ∀ o, (w3.alloc o).frozen? ⟨b + 1, 5, none⟩ = false := fun o => blk_frozen (blk_alloc K1.out o) 5
  go_wp2
  refine bodyPost_ret (results_tct rfl _ _ (b + 1) 48 #[.int .i64 0, .int .i64 0, .int .i64 0, .int .i64 0, .int .i64 0, .int .u64 0] (0, 0) _ rfl (put6 (blk_alloc K1.out _) _ _ _ _ _ _) Tryz.underlying48 rfl (by kernel_rfl)) rfl ?_
  refine ⟨rfl, F3, at6 (Shop.below HA3.out (below_alloc (Below.refl _ _) _)) (fun hf => by rcases HF3.out _ hf with h1 | h1; exact HBF.out _ (by omega) h1; omega) _ _ _ _ _ _, fun k hk => (HF3.out k hk).imp id (fun h => by have := HBW.out; omega), fr6 (HR3.out.alloc _) (Or.inr (by have := HBW.out; show w.heap.size ≤ b + 1; omega)) _ _ _ _ _ _⟩
set_option maxHeartbeats 4000000 in
set_option maxRecDepth 100000 in
theorem take_D (S : Shop St) (F : Nat → Prop) (s s1 : St) (m p t sp r ch : Int) (next : Int) (l : List Int) (er : Int) (w : World) (h : S.At w F s) (h0 : sp ≠ 0) (htr : S.trunk s t = (s1, next, l, er)) (he : er = 0) (hD : p ≤ next) :
    Calls Tryz.prog 40 #[.agg #[.int .i64 m, .int .i64 p, .int .i64 t, .int .i64 sp, .int .i64 r, .int .u64 ch], .iface S.T S.x] w fun e w' => e = .returned (.tuple #[.int .i64 0, Hd.zero.v, .int .i64 30]) ∧ Goes (fun F' => S.At w' F' s1) F w w' := by
  have H := Aside0.mk h
  have HB := Aside0.mk (S.bound h)
  have HTR := Aside0.mk htr
  have hu35 := Tryz.underlying48
  have hu24 := Tryz.underlying98
  have t0 : (sp == 0) = false := by simp [h0]
  clear h h0 htr
  go_enter Tryz.func40, Tryz.ntmps40
  go_wp2_with fail
  obtain ⟨w2, hw2⟩ : ∃ w2, w2 = (w.alloc (.cells #[.int .i64 m, .int .i64 p, .int .i64 t, .int .i64 sp, .int .i64 r, .int .u64 ch] 48)).alloc (.cells #[.int .i64 0, .int .i64 0, .int .i64 0, .int .i64 0, .int .i64 0, .int .u64 0] 48) := ⟨_, rfl⟩
  rw [← hw2]
  have HA2 := Aside0.mk (show S.At w2 F s by rw [hw2]; exact Shop.below H.out (below_alloc (below_alloc (Below.refl _ _) _) _))
  have HR2 := Aside0.mk (show Fr F w w2 by rw [hw2]; exact ((Fr.refl F w).alloc _).alloc _)
  have K0 := Aside0.mk (show w2.heap[w.heap.size]? = some (.cells #[.int .i64 m, .int .i64 p, .int .i64 t, .int .i64 sp, .int .i64 r, .int .u64 ch] 48 (0, 0)) by rw [hw2]; exact blk_alloc (blk_new w _) _)
  have K1 := Aside0.mk (show w2.heap[w.heap.size + 1]? = some (.cells #[.int .i64 0, .int .i64 0, .int .i64 0, .int .i64 0, .int .i64 0, .int .u64 0] 48 (0, 0)) by
    rw [hw2]
    have := blk_new (w.alloc (.cells #[.int .i64 m, .int .i64 p, .int .i64 t, .int .i64 sp, .int .i64 r, .int .u64 ch] 48)) (.cells #[.int .i64 0, .int .i64 0, .int .i64 0, .int .i64 0, .int .i64 0, .int .u64 0] 48)
    simpa using this)
  have hs2 : w.heap.size + 1 < w2.heap.size := by rw [hw2]; simp
  clear hw2
  obtain ⟨b, hb⟩ : ∃ b, b = w.heap.size := ⟨_, rfl⟩
  rw [← hb] at K0 K1 hs2 ⊢
  have hbF : ∀ k, b ≤ k → ¬ F k := fun k hk hf => by have := HB.out k hf; omega
  have HBF := Aside0.mk hbF
  have HBW := Aside0.mk hb
  clear hb hbF
  refine (trunk_calls S F s t w2 HA2.out).mono ?_
  rw [HTR.out]
  rintro e w3 ⟨v, rfl, F3, hA3, hF3, hR3, hv3⟩
  obtain ⟨A, c, rfl⟩ := Kd.R_slice hv3
  obtain ⟨_, hlc, hC3⟩ := Kd.R_reads' hv3
  replace K0 := Aside0.mk (hR3.blk K0.out (HBF.out b (Nat.le_refl _)))
  replace K1 := Aside0.mk (hR3.blk K1.out (HBF.out (b + 1) (by omega)))
  have HR3 := Aside0.mk (HR2.out.trans hR3 (fun _ _ h => h))
  have HF3 := Aside0.mk (show ∀ k, F3 k → F k ∨ b + 1 < k from fun k hk => (hF3 k hk).imp id (fun h => by omega))
  have HA3 := Aside0.mk hA3
  have HC3 := Aside0.mk hC3
  clear hA3 hF3 hR3 hv3 hC3 HA2 HR2 HTR
  have t1 : (er != 0) = false := by simp [he]
  have t2 : decide (p ≤ next) = true := decide_eq_true hD
  have hlm := Kd.C_max HC3.out
  clear he
  have a0 : ∀ o, (w3.alloc o).cell? ⟨b, 0, none⟩ = some (.int .i64 m) := fun o => (blk_cell (blk_alloc K0.out o) 0).trans rfl
  have a1 : ∀ o, (w3.alloc o).cell? ⟨b, 1, none⟩ = some (.int .i64 p) := fun o => (blk_cell (blk_alloc K0.out o) 1).trans rfl
  have a2 : ∀ o, (w3.alloc o).cell? ⟨b, 2, none⟩ = some (.int .i64 t) := fun o => (blk_cell (blk_alloc K0.out o) 2).trans rfl
  have a3 : ∀ o, (w3.alloc o).cell? ⟨b, 3, none⟩ = some (.int .i64 sp) := fun o => (blk_cell (blk_alloc K0.out o) 3).trans rfl
  have a4 : ∀ o, (w3.alloc o).cell? ⟨b, 4, none⟩ = some (.int .i64 r) := fun o => (blk_cell (blk_alloc K0.out o) 4).trans rfl
  have a5 : ∀ o, (w3.alloc o).cell? ⟨b, 5, none⟩ = some (.int .u64 ch) := fun o => (blk_cell (blk_alloc K0.out o) 5).trans rfl
  have z0 : ∀ o, (w3.alloc o).cell? ⟨b + 1, 0, none⟩ = some (.int .i64 0) := fun o => (blk_cell (blk_alloc K1.out o) 0).trans rfl
  have z1 : ∀ o, (w3.alloc o).cell? ⟨b + 1, 1, none⟩ = some (.int .i64 0) := fun o => (blk_cell (blk_alloc K1.out o) 1).trans rfl
  have z2 : ∀ o, (w3.alloc o).cell? ⟨b + 1, 2, none⟩ = some (.int .i64 0) := fun o => (blk_cell (blk_alloc K1.out o) 2).trans rfl
  have z3 : ∀ o, (w3.alloc o).cell? ⟨b + 1, 3, none⟩ = some (.int .i64 0) := fun o => (blk_cell (blk_alloc K1.out o) 3).trans rfl
  have z4 : ∀ o, (w3.alloc o).cell? ⟨b + 1, 4, none⟩ = some (.int .i64 0) := fun o => (blk_cell (blk_alloc K1.out o) 4).trans rfl
  have z5 : ∀ o, (w3.alloc o).cell? ⟨b + 1, 5, none⟩ = some (.int .u64 0) := fun o => (blk_cell (blk_alloc K1.out o) 5).trans rfl
  have f2 : ∀ o, (w3.alloc o).frozen? ⟨b, 2, none⟩ = false := fun o => blk_frozen (blk_alloc K0.out o) 2
  have f3 : ∀ o, (w3.alloc o).frozen? ⟨b, 3, none⟩ = false := fun o => blk_frozen (blk_alloc K0.out o) 3
  have g0 : ∀ o, (w3.alloc o).frozen? ⟨b + 1, 0, none⟩ = false := fun o => blk_frozen (blk_alloc K1.out o) 0
  have g1 : ∀ o, (w3.alloc o).frozen? ⟨b + 1, 1, none⟩ = false := fun o => blk_frozen (blk_alloc K1.out o) 1
  have g2 : ∀ o, (w3.alloc o).frozen? ⟨b + 1, 2, none⟩ = false := fun o => blk_frozen (blk_alloc K1.out o) 2
  have g3 : ∀ o, (w3.alloc o).frozen? ⟨b + 1, 3, none⟩ = false := fun o => blk_frozen (blk_alloc K1.out o) 3
  have g4 : ∀ o, (w3.alloc o).frozen? ⟨b + 1, 4, none⟩ = false := fun o => blk_frozen (blk_alloc K1.out o) 4
  have g5 : ∀ o, (w3.alloc o).frozen? ⟨b + 1, 5, none⟩ = false := fun o => blk_frozen (blk_alloc K1.out o) 5
  go_wp2_with fail
  go_quiet (fail)
  go_wp2
  refine bodyPost_ret (results_tct rfl _ _ (b + 1) 48 #[.int .i64 0, .int .i64 0, .int .i64 0, .int .i64 0, .int .i64 0, .int .u64 0] (0, 0) _ rfl (put6 (blk_drewN (blk_alloc K1.out _) _) _ _ _ _ _ _) Tryz.underlying48 rfl (by kernel_rfl)) rfl ?_
  refine ⟨rfl, F3, at6 (Shop.below HA3.out (pw_below_drewN (below_alloc (Below.refl _ _) _) _)) (fun hf => by rcases HF3.out _ hf with h1 | h1; exact HBF.out _ (by omega) h1; omega) _ _ _ _ _ _, fun k hk => (HF3.out k hk).imp id (fun h => by have := HBW.out; omega), fr6 ((HR3.out.alloc _).then_below (pw_below_drewN (Below.refl _ _) _)) (Or.inr (by have := HBW.out; show w.heap.size ≤ b + 1; omega)) _ _ _ _ _ _⟩
set_option maxHeartbeats 4000000 in
set_option maxRecDepth 100000 in
theorem take_E1a (S : Shop St) (F : Nat → Prop) (s s1 : St) (m p t sp r ch : Int) (next : Int) (l : List Int) (er : Int) (w : World) (h : S.At w F s) (h0 : sp ≠ 0) (htr : S.trunk s t = (s1, next, l, er)) (t1 : (er != 0) = false) (hD : next < p) (hl : l = []) (t5 : (next == 0) = true) (t6 : (sp == 1) = false) :
    Calls Tryz.prog 40 #[.agg #[.int .i64 m, .int .i64 p, .int .i64 t, .int .i64 sp, .int .i64 r, .int .u64 ch], .iface S.T S.x] w fun e w' => e = .returned (.tuple #[.int .i64 0, Hd.zero.v, .int .i64 30]) ∧ Goes (fun F' => S.At w' F' s1) F w w' := by
  have H := Aside0.mk h
  have HB := Aside0.mk (S.bound h)
  have HTR := Aside0.mk htr
  have hu35 := Tryz.underlying48
  have hu24 := Tryz.underlying98
  have t0 : (sp == 0) = false := by simp [h0]
  clear h h0 htr
  go_enter Tryz.func40, Tryz.ntmps40
  go_wp2_with fail
  obtain ⟨w2, hw2⟩ : ∃ w2, w2 = (w.alloc (.cells #[.int .i64 m, .int .i64 p, .int .i64 t, .int .i64 sp, .int .i64 r, .int .u64 ch] 48)).alloc (.cells #[.int .i64 0, .int .i64 0, .int .i64 0, .int .i64 0, .int .i64 0, .int .u64 0] 48) := ⟨_, rfl⟩
  rw [← hw2]
  have HA2 := Aside0.mk (show S.At w2 F s by rw [hw2]; exact Shop.below H.out (below_alloc (below_alloc (Below.refl _ _) _) _))
  have HR2 := Aside0.mk (show Fr F w w2 by rw [hw2]; exact ((Fr.refl F w).alloc _).alloc _)
  have K0 := Aside0.mk (show w2.heap[w.heap.size]? = some (.cells #[.int .i64 m, .int .i64 p, .int .i64 t, .int .i64 sp, .int .i64 r, .int .u64 ch] 48 (0, 0)) by rw [hw2]; exact blk_alloc (blk_new w _) _)
  have K1 := Aside0.mk (show w2.heap[w.heap.size + 1]? = some (.cells #[.int .i64 0, .int .i64 0, .int .i64 0, .int .i64 0, .int .i64 0, .int .u64 0] 48 (0, 0)) by
    rw [hw2]
    have := blk_new (w.alloc (.cells #[.int .i64 m, .int .i64 p, .int .i64 t, .int .i64 sp, .int .i64 r, .int .u64 ch] 48)) (.cells #[.int .i64 0, .int .i64 0, .int .i64 0, .int .i64 0, .int .i64 0, .int .u64 0] 48)
    simpa using this)
  have hs2 : w.heap.size + 1 < w2.heap.size := by rw [hw2]; simp
  clear hw2
  obtain ⟨b, hb⟩ : ∃ b, b = w.heap.size := ⟨_, rfl⟩
  rw [← hb] at K0 K1 hs2 ⊢
  have hbF : ∀ k, b ≤ k → ¬ F k := fun k hk hf => by have := HB.out k hf; omega
  have HBF := Aside0.mk hbF
  have HBW := Aside0.mk hb
  clear hb hbF
  refine (trunk_calls S F s t w2 HA2.out).mono ?_
  rw [HTR.out]
  rintro e w3 ⟨v, rfl, F3, hA3, hF3, hR3, hv3⟩
  obtain ⟨A, c, rfl⟩ := Kd.R_slice hv3
  obtain ⟨_, hlc, hC3⟩ := Kd.R_reads' hv3
  replace K0 := Aside0.mk (hR3.blk K0.out (HBF.out b (Nat.le_refl _)))
  replace K1 := Aside0.mk (hR3.blk K1.out (HBF.out (b + 1) (by omega)))
  have HR3 := Aside0.mk (HR2.out.trans hR3 (fun _ _ h => h))
  have HF3 := Aside0.mk (show ∀ k, F3 k → F k ∨ b + 1 < k from fun k hk => (hF3 k hk).imp id (fun h => by omega))
  have HA3 := Aside0.mk hA3
  have HC3 := Aside0.mk hC3
  clear hA3 hF3 hR3 hv3 hC3 HA2 HR2 HTR
  have t2 : decide (p ≤ next) = false := decide_eq_false (by omega)
  subst hl
  have a0 : ∀ o, (w3.alloc o).cell? ⟨b, 0, none⟩ = some (.int .i64 m) := fun o => (blk_cell (blk_alloc K0.out o) 0).trans rfl
  have a1 : ∀ o, (w3.alloc o).cell? ⟨b, 1, none⟩ = some (.int .i64 p) := fun o => (blk_cell (blk_alloc K0.out o) 1).trans rfl
  have a2 : ∀ o, (w3.alloc o).cell? ⟨b, 2, none⟩ = some (.int .i64 t) := fun o => (blk_cell (blk_alloc K0.out o) 2).trans rfl
  have a3 : ∀ o, (w3.alloc o).cell? ⟨b, 3, none⟩ = some (.int .i64 sp) := fun o => (blk_cell (blk_alloc K0.out o) 3).trans rfl
  have a4 : ∀ o, (w3.alloc o).cell? ⟨b, 4, none⟩ = some (.int .i64 r) := fun o => (blk_cell (blk_alloc K0.out o) 4).trans rfl
  have a5 : ∀ o, (w3.alloc o).cell? ⟨b, 5, none⟩ = some (.int .u64 ch) := fun o => (blk_cell (blk_alloc K0.out o) 5).trans rfl
  have z0 : ∀ o, (w3.alloc o).cell? ⟨b + 1, 0, none⟩ = some (.int .i64 0) := fun o => (blk_cell (blk_alloc K1.out o) 0).trans rfl
  have z1 : ∀ o, (w3.alloc o).cell? ⟨b + 1, 1, none⟩ = some (.int .i64 0) := fun o => (blk_cell (blk_alloc K1.out o) 1).trans rfl
  have z2 : ∀ o, (w3.alloc o).cell? ⟨b + 1, 2, none⟩ = some (.int .i64 0) := fun o => (blk_cell (blk_alloc K1.out o) 2).trans rfl
  have z3 : ∀ o, (w3.alloc o).cell? ⟨b + 1, 3, none⟩ = some (.int .i64 0) := fun o => (blk_cell (blk_alloc K1.out o) 3).trans rfl
  have z4 : ∀ o, (w3.alloc o).cell? ⟨b + 1, 4, none⟩ = some (.int .i64 0) := fun o => (blk_cell (blk_alloc K1.out o) 4).trans rfl
  have z5 : ∀ o, (w3.alloc o).cell? ⟨b + 1, 5, none⟩ = some (.int .u64 0) := fun o => (blk_cell (blk_alloc K1.out o) 5).trans rfl
  have f2 : ∀ o, (w3.alloc o).frozen? ⟨b, 2, none⟩ = false := fun o => blk_frozen (blk_alloc K0.out o) 2
  have f3 : ∀ o, (w3.alloc o).frozen? ⟨b, 3, none⟩ = false := fun o => blk_frozen (blk_alloc K0.out o) 3
  have g0 : ∀ o, (w3.alloc o).frozen? ⟨b + 1, 0, none⟩ = false := fun o => blk_frozen (blk_alloc K1.out o) 0
  have g1 : ∀ o, (w3.alloc o).frozen? ⟨b + 1, 1, none⟩ = false := fun o => blk_frozen (blk_alloc K1.out o) 1
  have g2 : ∀ o, (w3.alloc o).frozen? ⟨b + 1, 2, none⟩ = false := fun o => blk_frozen (blk_alloc K1.out o) 2
  have g3 : ∀ o, (w3.alloc o).frozen? ⟨b + 1, 3, none⟩ = false := fun o => blk_frozen (blk_alloc K1.out o) 3
  have g4 : ∀ o, (w3.alloc o).frozen? ⟨b + 1, 4, none⟩ = false := fun o => blk_frozen (blk_alloc K1.out o) 4
  have g5 : ∀ o, (w3.alloc o).frozen? ⟨b + 1, 5, none⟩ = false := fun o => blk_frozen (blk_alloc K1.out o) 5
  go_wp2_with fail
  go_quiet (fail)
  go_wp2
  refine bodyPost_ret (results_tct rfl _ _ (b + 1) 48 #[.int .i64 0, .int .i64 0, .int .i64 0, .int .i64 0, .int .i64 0, .int .u64 0] (0, 0) _ rfl (put6 (blk_far (blk_drewN (blk_alloc K1.out _) _) (show b + 1 ≠ b by omega) _) _ _ _ _ _ _) Tryz.underlying48 rfl (by kernel_rfl)) rfl ?_
  refine ⟨rfl, F3, at6 (Shop.far (p := ⟨b, 2, none⟩) (Shop.below HA3.out (pw_below_drewN (below_alloc (Below.refl _ _) _) _)) (fun hf => by rcases HF3.out b hf with h1 | h1; exact HBF.out b (Nat.le_refl _) h1; omega) _) (fun hf => by rcases HF3.out _ hf with h1 | h1; exact HBF.out _ (by omega) h1; omega) _ _ _ _ _ _, fun k hk => (HF3.out k hk).imp id (fun h => by have := HBW.out; omega), fr6 (((HR3.out.alloc _).then_below (pw_below_drewN (Below.refl _ _) _)).setCell (p := ⟨b, 2, none⟩) (Or.inr (by have := HBW.out; show w.heap.size ≤ b; omega)) _) (Or.inr (by have := HBW.out; show w.heap.size ≤ b + 1; omega)) _ _ _ _ _ _⟩
set_option maxHeartbeats 4000000 in
set_option maxRecDepth 100000 in
theorem take_E1b (S : Shop St) (F : Nat → Prop) (s s1 : St) (m p t sp r ch : Int) (next : Int) (l : List Int) (er : Int) (w : World) (h : S.At w F s) (h0 : sp ≠ 0) (htr : S.trunk s t = (s1, next, l, er)) (t1 : (er != 0) = false) (hD : next < p) (hl : l = []) (t5 : (next == 0) = false) (t6 : (sp == 1) = true) :
    Calls Tryz.prog 40 #[.agg #[.int .i64 m, .int .i64 p, .int .i64 t, .int .i64 sp, .int .i64 r, .int .u64 ch], .iface S.T S.x] w fun e w' => e = .returned (.tuple #[.int .i64 0, Hd.zero.v, .int .i64 30]) ∧ Goes (fun F' => S.At w' F' s1) F w w' := by
  have H := Aside0.mk h
  have HB := Aside0.mk (S.bound h)
  have HTR := Aside0.mk htr
  have hu35 := Tryz.underlying48
  have hu24 := Tryz.underlying98
  have t0 : (sp == 0) = false := by simp [h0]
  clear h h0 htr
  go_enter Tryz.func40, Tryz.ntmps40
  go_wp2_with fail
  obtain ⟨w2, hw2⟩ : ∃ w2, w2 = (w.alloc (.cells #[.int .i64 m, .int .i64 p, .int .i64 t, .int .i64 sp, .int .i64 r, .int .u64 ch] 48)).alloc (.cells #[.int .i64 0, .int .i64 0, .int .i64 0, .int .i64 0, .int .i64 0, .int .u64 0] 48) := ⟨_, rfl⟩
  rw [← hw2]
  have HA2 := Aside0.mk (show S.At w2 F s by rw [hw2]; exact Shop.below H.out (below_alloc (below_alloc (Below.refl _ _) _) _))
  have HR2 := Aside0.mk (show Fr F w w2 by rw [hw2]; exact ((Fr.refl F w).alloc _).alloc _)
  have K0 := Aside0.mk (show w2.heap[w.heap.size]? = some (.cells #[.int .i64 m, .int .i64 p, .int .i64 t, .int .i64 sp, .int .i64 r, .int .u64 ch] 48 (0, 0)) by rw [hw2]; exact blk_alloc (blk_new w _) _)
  have K1 := Aside0.mk (show w2.heap[w.heap.size + 1]? = some (.cells #[.int .i64 0, .int .i64 0, .int .i64 0, .int .i64 0, .int .i64 0, .int .u64 0] 48 (0, 0)) by
    rw [hw2]
    have := blk_new (w.alloc (.cells #[.int .i64 m, .int .i64 p, .int .i64 t, .int .i64 sp, .int .i64 r, .int .u64 ch] 48)) (.cells #[.int .i64 0, .int .i64 0, .int .i64 0, .int .i64 0, .int .i64 0, .int .u64 0] 48)
    simpa using this)
  have hs2 : w.heap.size + 1 < w2.heap.size := by rw [hw2]; simp
  clear hw2
  obtain ⟨b, hb⟩ : ∃ b, b = w.heap.size := ⟨_, rfl⟩
  rw [← hb] at K0 K1 hs2 ⊢
  have hbF : ∀ k, b ≤ k → ¬ F k := fun k hk hf => by have := HB.out k hf; omega
  have HBF := Aside0.mk hbF
  have HBW := Aside0.mk hb
  clear hb hbF
  refine (trunk_calls S F s t w2 HA2.out).mono ?_
  rw [HTR.out]
  rintro e w3 ⟨v, rfl, F3, hA3, hF3, hR3, hv3⟩
  obtain ⟨A, c, rfl⟩ := Kd.R_slice hv3
  obtain ⟨_, hlc, hC3⟩ := Kd.R_reads' hv3
  replace K0 := Aside0.mk (hR3.blk K0.out (HBF.out b (Nat.le_refl _)))
  replace K1 := Aside0.mk (hR3.blk K1.out (HBF.out (b + 1) (by omega)))
  have HR3 := Aside0.mk (HR2.out.trans hR3 (fun _ _ h => h))
  have HF3 := Aside0.mk (show ∀ k, F3 k → F k ∨ b + 1 < k from fun k hk => (hF3 k hk).imp id (fun h => by omega))
  have HA3 := Aside0.mk hA3
  have HC3 := Aside0.mk hC3
  clear hA3 hF3 hR3 hv3 hC3 HA2 HR2 HTR
  have t2 : decide (p ≤ next) = false := decide_eq_false (by omega)
  subst hl
  have a0 : ∀ o, (w3.alloc o).cell? ⟨b, 0, none⟩ = some (.int .i64 m) := fun o => (blk_cell (blk_alloc K0.out o) 0).trans rfl
  have a1 : ∀ o, (w3.alloc o).cell? ⟨b, 1, none⟩ = some (.int .i64 p) := fun o => (blk_cell (blk_alloc K0.out o) 1).trans rfl
  have a2 : ∀ o, (w3.alloc o).cell? ⟨b, 2, none⟩ = some (.int .i64 t) := fun o => (blk_cell (blk_alloc K0.out o) 2).trans rfl
  have a3 : ∀ o, (w3.alloc o).cell? ⟨b, 3, none⟩ = some (.int .i64 sp) := fun o => (blk_cell (blk_alloc K0.out o) 3).trans rfl
  have a4 : ∀ o, (w3.alloc o).cell? ⟨b, 4, none⟩ = some (.int .i64 r) := fun o => (blk_cell (blk_alloc K0.out o) 4).trans rfl
  have a5 : ∀ o, (w3.alloc o).cell? ⟨b, 5, none⟩ = some (.int .u64 ch) := fun o => (blk_cell (blk_alloc K0.out o) 5).trans rfl
  have z0 : ∀ o, (w3.alloc o).cell? ⟨b + 1, 0, none⟩ = some (.int .i64 0) := fun o => (blk_cell (blk_alloc K1.out o) 0).trans rfl
  have z1 : ∀ o, (w3.alloc o).cell? ⟨b + 1, 1, none⟩ = some (.int .i64 0) := fun o => (blk_cell (blk_alloc K1.out o) 1).trans rfl
  have z2 : ∀ o, (w3.alloc o).cell? ⟨b + 1, 2, none⟩ = some (.int .i64 0) := fun o => (blk_cell (blk_alloc K1.out o) 2).trans rfl
  have z3 : ∀ o, (w3.alloc o).cell? ⟨b + 1, 3, none⟩ = some (.int .i64 0) := fun o => (blk_cell (blk_alloc K1.out o) 3).trans rfl
  have z4 : ∀ o, (w3.alloc o).cell? ⟨b + 1, 4, none⟩ = some (.int .i64 0) := fun o => (blk_cell (blk_alloc K1.out o) 4).trans rfl
  have z5 : ∀ o, (w3.alloc o).cell? ⟨b + 1, 5, none⟩ = some (.int .u64 0) := fun o => (blk_cell (blk_alloc K1.out o) 5).trans rfl
  have f2 : ∀ o, (w3.alloc o).frozen? ⟨b, 2, none⟩ = false := fun o => blk_frozen (blk_alloc K0.out o) 2
  have f3 : ∀ o, (w3.alloc o).frozen? ⟨b, 3, none⟩ = false := fun o => blk_frozen (blk_alloc K0.out o) 3
  have g0 : ∀ o, (w3.alloc o).frozen? ⟨b + 1, 0, none⟩ = false := fun o => blk_frozen (blk_alloc K1.out o) 0
  have g1 : ∀ o, (w3.alloc o).frozen? ⟨b + 1, 1, none⟩ = false := fun o => blk_frozen (blk_alloc K1.out o) 1
  have g2 : ∀ o, (w3.alloc o).frozen? ⟨b + 1, 2, none⟩ = false := fun o => blk_frozen (blk_alloc K1.out o) 2
  have g3 : ∀ o, (w3.alloc o).frozen? ⟨b + 1, 3, none⟩ = false := fun o => blk_frozen (blk_alloc K1.out o) 3
  have g4 : ∀ o, (w3.alloc o).frozen? ⟨b + 1, 4, none⟩ = false := fun o => blk_frozen (blk_alloc K1.out o) 4
  have g5 : ∀ o, (w3.alloc o).frozen? ⟨b + 1, 5, none⟩ = false := fun o => blk_frozen (blk_alloc K1.out o) 5
  go_wp2_with fail
  go_quiet (fail)
  go_wp2
  refine bodyPost_ret (results_tct rfl _ _ (b + 1) 48 #[.int .i64 0, .int .i64 0, .int .i64 0, .int .i64 0, .int .i64 0, .int .u64 0] (0, 0) _ rfl (put6 (blk_far (blk_drewN (blk_alloc K1.out _) _) (show b + 1 ≠ b by omega) _) _ _ _ _ _ _) Tryz.underlying48 rfl (by kernel_rfl)) rfl ?_
  refine ⟨rfl, F3, at6 (Shop.far (p := ⟨b, 2, none⟩) (Shop.below HA3.out (pw_below_drewN (below_alloc (Below.refl _ _) _) _)) (fun hf => by rcases HF3.out b hf with h1 | h1; exact HBF.out b (Nat.le_refl _) h1; omega) _) (fun hf => by rcases HF3.out _ hf with h1 | h1; exact HBF.out _ (by omega) h1; omega) _ _ _ _ _ _, fun k hk => (HF3.out k hk).imp id (fun h => by have := HBW.out; omega), fr6 (((HR3.out.alloc _).then_below (pw_below_drewN (Below.refl _ _) _)).setCell (p := ⟨b, 2, none⟩) (Or.inr (by have := HBW.out; show w.heap.size ≤ b; omega)) _) (Or.inr (by have := HBW.out; show w.heap.size ≤ b + 1; omega)) _ _ _ _ _ _⟩
set_option maxHeartbeats 4000000 in
set_option maxRecDepth 100000 in
theorem take_E2a (S : Shop St) (F : Nat → Prop) (s s1 : St) (m p t sp r ch : Int) (next : Int) (l : List Int) (er : Int) (w : World) (h : S.At w F s) (h0 : sp ≠ 0) (htr : S.trunk s t = (s1, next, l, er)) (t1 : (er != 0) = false) (hD : next < p) (hl : l = []) (hs0 : 0 ≤ sp) (hs1 : sp ≤ 4096) (t5 : (next == 0) = true) (t6 : (sp == 1) = true) :
    Calls Tryz.prog 40 #[.agg #[.int .i64 m, .int .i64 p, .int .i64 t, .int .i64 sp, .int .i64 r, .int .u64 ch], .iface S.T S.x] w fun e w' => e = .returned (.tuple #[.int .i64 t, (Hd.mk m p next (sp - 1) r ch).v, .int .i64 0]) ∧ Goes (fun F' => S.At w' F' s1) F w w' := by
  have H := Aside0.mk h
  have HB := Aside0.mk (S.bound h)
  have HTR := Aside0.mk htr
  have hu35 := Tryz.underlying48
  have hu24 := Tryz.underlying98
  have t0 : (sp == 0) = false := by simp [h0]
  clear h h0 htr
  go_enter Tryz.func40, Tryz.ntmps40
  go_wp2_with fail
  obtain ⟨w2, hw2⟩ : ∃ w2, w2 = (w.alloc (.cells #[.int .i64 m, .int .i64 p, .int .i64 t, .int .i64 sp, .int .i64 r, .int .u64 ch] 48)).alloc (.cells #[.int .i64 0, .int .i64 0, .int .i64 0, .int .i64 0, .int .i64 0, .int .u64 0] 48) := ⟨_, rfl⟩
  rw [← hw2]
  have HA2 := Aside0.mk (show S.At w2 F s by rw [hw2]; exact Shop.below H.out (below_alloc (below_alloc (Below.refl _ _) _) _))
  have HR2 := Aside0.mk (show Fr F w w2 by rw [hw2]; exact ((Fr.refl F w).alloc _).alloc _)
  have K0 := Aside0.mk (show w2.heap[w.heap.size]? = some (.cells #[.int .i64 m, .int .i64 p, .int .i64 t, .int .i64 sp, .int .i64 r, .int .u64 ch] 48 (0, 0)) by rw [hw2]; exact blk_alloc (blk_new w _) _)
  have K1 := Aside0.mk (show w2.heap[w.heap.size + 1]? = some (.cells #[.int .i64 0, .int .i64 0, .int .i64 0, .int .i64 0, .int .i64 0, .int .u64 0] 48 (0, 0)) by
    rw [hw2]
    have := blk_new (w.alloc (.cells #[.int .i64 m, .int .i64 p, .int .i64 t, .int .i64 sp, .int .i64 r, .int .u64 ch] 48)) (.cells #[.int .i64 0, .int .i64 0, .int .i64 0, .int .i64 0, .int .i64 0, .int .u64 0] 48)
    simpa using this)
  have hs2 : w.heap.size + 1 < w2.heap.size := by rw [hw2]; simp
  clear hw2
  obtain ⟨b, hb⟩ : ∃ b, b = w.heap.size := ⟨_, rfl⟩
  rw [← hb] at K0 K1 hs2 ⊢
  have hbF : ∀ k, b ≤ k → ¬ F k := fun k hk hf => by have := HB.out k hf; omega
  have HBF := Aside0.mk hbF
  have HBW := Aside0.mk hb
  clear hb hbF
  refine (trunk_calls S F s t w2 HA2.out).mono ?_
  rw [HTR.out]
  rintro e w3 ⟨v, rfl, F3, hA3, hF3, hR3, hv3⟩
  obtain ⟨A, c, rfl⟩ := Kd.R_slice hv3
  obtain ⟨_, hlc, hC3⟩ := Kd.R_reads' hv3
  replace K0 := Aside0.mk (hR3.blk K0.out (HBF.out b (Nat.le_refl _)))
  replace K1 := Aside0.mk (hR3.blk K1.out (HBF.out (b + 1) (by omega)))
  have HR3 := Aside0.mk (HR2.out.trans hR3 (fun _ _ h => h))
  have HF3 := Aside0.mk (show ∀ k, F3 k → F k ∨ b + 1 < k from fun k hk => (hF3 k hk).imp id (fun h => by omega))
  have HA3 := Aside0.mk hA3
  have HC3 := Aside0.mk hC3
  clear hA3 hF3 hR3 hv3 hC3 HA2 HR2 HTR
  have t2 : decide (p ≤ next) = false := decide_eq_false (by omega)
  subst hl
  have a0 : ∀ o, (w3.alloc o).cell? ⟨b, 0, none⟩ = some (.int .i64 m) := fun o => (blk_cell (blk_alloc K0.out o) 0).trans rfl
  have a1 : ∀ o, (w3.alloc o).cell? ⟨b, 1, none⟩ = some (.int .i64 p) := fun o => (blk_cell (blk_alloc K0.out o) 1).trans rfl
  have a2 : ∀ o, (w3.alloc o).cell? ⟨b, 2, none⟩ = some (.int .i64 t) := fun o => (blk_cell (blk_alloc K0.out o) 2).trans rfl
  have a3 : ∀ o, (w3.alloc o).cell? ⟨b, 3, none⟩ = some (.int .i64 sp) := fun o => (blk_cell (blk_alloc K0.out o) 3).trans rfl
  have a4 : ∀ o, (w3.alloc o).cell? ⟨b, 4, none⟩ = some (.int .i64 r) := fun o => (blk_cell (blk_alloc K0.out o) 4).trans rfl
  have a5 : ∀ o, (w3.alloc o).cell? ⟨b, 5, none⟩ = some (.int .u64 ch) := fun o => (blk_cell (blk_alloc K0.out o) 5).trans rfl
  have z0 : ∀ o, (w3.alloc o).cell? ⟨b + 1, 0, none⟩ = some (.int .i64 0) := fun o => (blk_cell (blk_alloc K1.out o) 0).trans rfl
  have z1 : ∀ o, (w3.alloc o).cell? ⟨b + 1, 1, none⟩ = some (.int .i64 0) := fun o => (blk_cell (blk_alloc K1.out o) 1).trans rfl
  have z2 : ∀ o, (w3.alloc o).cell? ⟨b + 1, 2, none⟩ = some (.int .i64 0) := fun o => (blk_cell (blk_alloc K1.out o) 2).trans rfl
  have z3 : ∀ o, (w3.alloc o).cell? ⟨b + 1, 3, none⟩ = some (.int .i64 0) := fun o => (blk_cell (blk_alloc K1.out o) 3).trans rfl
  have z4 : ∀ o, (w3.alloc o).cell? ⟨b + 1, 4, none⟩ = some (.int .i64 0) := fun o => (blk_cell (blk_alloc K1.out o) 4).trans rfl
  have z5 : ∀ o, (w3.alloc o).cell? ⟨b + 1, 5, none⟩ = some (.int .u64 0) := fun o => (blk_cell (blk_alloc K1.out o) 5).trans rfl
  have f2 : ∀ o, (w3.alloc o).frozen? ⟨b, 2, none⟩ = false := fun o => blk_frozen (blk_alloc K0.out o) 2
  have f3 : ∀ o, (w3.alloc o).frozen? ⟨b, 3, none⟩ = false := fun o => blk_frozen (blk_alloc K0.out o) 3
  have g0 : ∀ o, (w3.alloc o).frozen? ⟨b + 1, 0, none⟩ = false := fun o => blk_frozen (blk_alloc K1.out o) 0
  have g1 : ∀ o, (w3.alloc o).frozen? ⟨b + 1, 1, none⟩ = false := fun o => blk_frozen (blk_alloc K1.out o) 1
  have g2 : ∀ o, (w3.alloc o).frozen? ⟨b + 1, 2, none⟩ = false := fun o => blk_frozen (blk_alloc K1.out o) 2
  have g3 : ∀ o, (w3.alloc o).frozen? ⟨b + 1, 3, none⟩ = false := fun o => blk_frozen (blk_alloc K1.out o) 3
  have g4 : ∀ o, (w3.alloc o).frozen? ⟨b + 1, 4, none⟩ = false := fun o => blk_frozen (blk_alloc K1.out o) 4
  have g5 : ∀ o, (w3.alloc o).frozen? ⟨b + 1, 5, none⟩ = false := fun o => blk_frozen (blk_alloc K1.out o) 5
  go_wp2_with fail
  go_quiet (fail)
  go_wp2_with fail
  go_region
  go_wp2
  refine bodyPost_ret (results_tct rfl _ _ (b + 1) 48 #[.int .i64 m, .int .i64 p, .int .i64 next, .int .i64 (sp - 1), .int .i64 r, .int .u64 ch] (0, 0) _ rfl (blk_drew (put6 (blk_far (blk_far (blk_drewN (blk_alloc K1.out _) _) (show b + 1 ≠ b by omega) _) (show b + 1 ≠ b by omega) _) _ _ _ _ _ _)) Tryz.underlying48 rfl (by kernel_rfl)) rfl ?_
  refine ⟨rfl, F3, Shop.below (at6 (Shop.far (p := ⟨b, 3, none⟩) (Shop.far (p := ⟨b, 2, none⟩) (Shop.below HA3.out (pw_below_drewN (below_alloc (Below.refl _ _) _) _)) (fun hf => by rcases HF3.out b hf with h1 | h1; exact HBF.out b (Nat.le_refl _) h1; omega) _) (fun hf => by rcases HF3.out b hf with h1 | h1; exact HBF.out b (Nat.le_refl _) h1; omega) _) (fun hf => by rcases HF3.out (b + 1) hf with h1 | h1; exact HBF.out (b + 1) (by omega) h1; omega) _ _ _ _ _ _) (below_drew (Below.refl _ _)), fun k hk => (HF3.out k hk).imp id (fun h => by have := HBW.out; omega), (fr6 ((((HR3.out.alloc _).then_below (pw_below_drewN (Below.refl _ _) _)).setCell (p := ⟨b, 2, none⟩) (Or.inr (by have := HBW.out; show w.heap.size ≤ b; omega)) _).setCell (p := ⟨b, 3, none⟩) (Or.inr (by have := HBW.out; show w.heap.size ≤ b; omega)) _) (Or.inr (by have := HBW.out; show w.heap.size ≤ b + 1; omega)) _ _ _ _ _ _).then_below (below_drew (Below.refl _ _))⟩
set_option maxHeartbeats 4000000 in
set_option maxRecDepth 100000 in
theorem take_E2b (S : Shop St) (F : Nat → Prop) (s s1 : St) (m p t sp r ch : Int) (next : Int) (l : List Int) (er : Int) (w : World) (h : S.At w F s) (h0 : sp ≠ 0) (htr : S.trunk s t = (s1, next, l, er)) (t1 : (er != 0) = false) (hD : next < p) (hl : l = []) (hs0 : 0 ≤ sp) (hs1 : sp ≤ 4096) (t5 : (next == 0) = false) (t6 : (sp == 1) = false) :
    Calls Tryz.prog 40 #[.agg #[.int .i64 m, .int .i64 p, .int .i64 t, .int .i64 sp, .int .i64 r, .int .u64 ch], .iface S.T S.x] w fun e w' => e = .returned (.tuple #[.int .i64 t, (Hd.mk m p next (sp - 1) r ch).v, .int .i64 0]) ∧ Goes (fun F' => S.At w' F' s1) F w w' := by
  have H := Aside0.mk h
  have HB := Aside0.mk (S.bound h)
  have HTR := Aside0.mk htr
  have hu35 := Tryz.underlying48
  have hu24 := Tryz.underlying98
  have t0 : (sp == 0) = false := by simp [h0]
  clear h h0 htr
  go_enter Tryz.func40, Tryz.ntmps40
  go_wp2_with fail
  obtain ⟨w2, hw2⟩ : ∃ w2, w2 = (w.alloc (.cells #[.int .i64 m, .int .i64 p, .int .i64 t, .int .i64 sp, .int .i64 r, .int .u64 ch] 48)).alloc (.cells #[.int .i64 0, .int .i64 0, .int .i64 0, .int .i64 0, .int .i64 0, .int .u64 0] 48) := ⟨_, rfl⟩
  rw [← hw2]
  have HA2 := Aside0.mk (show S.At w2 F s by rw [hw2]; exact Shop.below H.out (below_alloc (below_alloc (Below.refl _ _) _) _))
  have HR2 := Aside0.mk (show Fr F w w2 by rw [hw2]; exact ((Fr.refl F w).alloc _).alloc _)
  have K0 := Aside0.mk (show w2.heap[w.heap.size]? = some (.cells #[.int .i64 m, .int .i64 p, .int .i64 t, .int .i64 sp, .int .i64 r, .int .u64 ch] 48 (0, 0)) by rw [hw2]; exact blk_alloc (blk_new w _) _)
  have K1 := Aside0.mk (show w2.heap[w.heap.size + 1]? = some (.cells #[.int .i64 0, .int .i64 0, .int .i64 0, .int .i64 0, .int .i64 0, .int .u64 0] 48 (0, 0)) by
    rw [hw2]
    have := blk_new (w.alloc (.cells #[.int .i64 m, .int .i64 p, .int .i64 t, .int .i64 sp, .int .i64 r, .int .u64 ch] 48)) (.cells #[.int .i64 0, .int .i64 0, .int .i64 0, .int .i64 0, .int .i64 0, .int .u64 0] 48)
    simpa using this)
  have hs2 : w.heap.size + 1 < w2.heap.size := by rw [hw2]; simp
  clear hw2
  obtain ⟨b, hb⟩ : ∃ b, b = w.heap.size := ⟨_, rfl⟩
  rw [← hb] at K0 K1 hs2 ⊢
  have hbF : ∀ k, b ≤ k → ¬ F k := fun k hk hf => by have := HB.out k hf; omega
  have HBF := Aside0.mk hbF
  have HBW := Aside0.mk hb
  clear hb hbF
  refine (trunk_calls S F s t w2 HA2.out).mono ?_
  rw [HTR.out]
  rintro e w3 ⟨v, rfl, F3, hA3, hF3, hR3, hv3⟩
  obtain ⟨A, c, rfl⟩ := Kd.R_slice hv3
  obtain ⟨_, hlc, hC3⟩ := Kd.R_reads' hv3
  replace K0 := Aside0.mk (hR3.blk K0.out (HBF.out b (Nat.le_refl _)))
  replace K1 := Aside0.mk (hR3.blk K1.out (HBF.out (b + 1) (by omega)))
  have HR3 := Aside0.mk (HR2.out.trans hR3 (fun _ _ h => h))
  have HF3 := Aside0.mk (show ∀ k, F3 k → F k ∨ b + 1 < k from fun k hk => (hF3 k hk).imp id (fun h => by omega))
  have HA3 := Aside0.mk hA3
  have HC3 := Aside0.mk hC3
  clear hA3 hF3 hR3 hv3 hC3 HA2 HR2 HTR
  have t2 : decide (p ≤ next) = false := decide_eq_false (by omega)
  subst hl
  have a0 : ∀ o, (w3.alloc o).cell? ⟨b, 0, none⟩ = some (.int .i64 m) := fun o => (blk_cell (blk_alloc K0.out o) 0).trans rfl
  have a1 : ∀ o, (w3.alloc o).cell? ⟨b, 1, none⟩ = some (.int .i64 p) := fun o => (blk_cell (blk_alloc K0.out o) 1).trans rfl
  have a2 : ∀ o, (w3.alloc o).cell? ⟨b, 2, none⟩ = some (.int .i64 t) := fun o => (blk_cell (blk_alloc K0.out o) 2).trans rfl
  have a3 : ∀ o, (w3.alloc o).cell? ⟨b, 3, none⟩ = some (.int .i64 sp) := fun o => (blk_cell (blk_alloc K0.out o) 3).trans rfl
  have a4 : ∀ o, (w3.alloc o).cell? ⟨b, 4, none⟩ = some (.int .i64 r) := fun o => (blk_cell (blk_alloc K0.out o) 4).trans rfl
  have a5 : ∀ o, (w3.alloc o).cell? ⟨b, 5, none⟩ = some (.int .u64 ch) := fun o => (blk_cell (blk_alloc K0.out o) 5).trans rfl
  have z0 : ∀ o, (w3.alloc o).cell? ⟨b + 1, 0, none⟩ = some (.int .i64 0) := fun o => (blk_cell (blk_alloc K1.out o) 0).trans rfl
  have z1 : ∀ o, (w3.alloc o).cell? ⟨b + 1, 1, none⟩ = some (.int .i64 0) := fun o => (blk_cell (blk_alloc K1.out o) 1).trans rfl
  have z2 : ∀ o, (w3.alloc o).cell? ⟨b + 1, 2, none⟩ = some (.int .i64 0) := fun o => (blk_cell (blk_alloc K1.out o) 2).trans rfl
  have z3 : ∀ o, (w3.alloc o).cell? ⟨b + 1, 3, none⟩ = some (.int .i64 0) := fun o => (blk_cell (blk_alloc K1.out o) 3).trans rfl
  have z4 : ∀ o, (w3.alloc o).cell? ⟨b + 1, 4, none⟩ = some (.int .i64 0) := fun o => (blk_cell (blk_alloc K1.out o) 4).trans rfl
  have z5 : ∀ o, (w3.alloc o).cell? ⟨b + 1, 5, none⟩ = some (.int .u64 0) := fun o => (blk_cell (blk_alloc K1.out o) 5).trans rfl
  have f2 : ∀ o, (w3.alloc o).frozen? ⟨b, 2, none⟩ = false := fun o => blk_frozen (blk_alloc K0.out o) 2
  have f3 : ∀ o, (w3.alloc o).frozen? ⟨b, 3, none⟩ = false := fun o => blk_frozen (blk_alloc K0.out o) 3
  have g0 : ∀ o, (w3.alloc o).frozen? ⟨b + 1, 0, none⟩ = false := fun o => blk_frozen (blk_alloc K1.out o) 0
  have g1 : ∀ o, (w3.alloc o).frozen? ⟨b + 1, 1, none⟩ = false := fun o => blk_frozen (blk_alloc K1.out o) 1
  have g2 : ∀ o, (w3.alloc o).frozen? ⟨b + 1, 2, none⟩ = false := fun o => blk_frozen (blk_alloc K1.out o) 2
  have g3 : ∀ o, (w3.alloc o).frozen? ⟨b + 1, 3, none⟩ = false := fun o => blk_frozen (blk_alloc K1.out o) 3
  have g4 : ∀ o, (w3.alloc o).frozen? ⟨b + 1, 4, none⟩ = false := fun o => blk_frozen (blk_alloc K1.out o) 4
  have g5 : ∀ o, (w3.alloc o).frozen? ⟨b + 1, 5, none⟩ = false := fun o => blk_frozen (blk_alloc K1.out o) 5
  go_wp2_with fail
  go_quiet (fail)
  go_wp2_with fail
  go_region
  go_wp2
  refine bodyPost_ret (results_tct rfl _ _ (b + 1) 48 #[.int .i64 m, .int .i64 p, .int .i64 next, .int .i64 (sp - 1), .int .i64 r, .int .u64 ch] (0, 0) _ rfl (blk_drew (put6 (blk_far (blk_far (blk_drewN (blk_alloc K1.out _) _) (show b + 1 ≠ b by omega) _) (show b + 1 ≠ b by omega) _) _ _ _ _ _ _)) Tryz.underlying48 rfl (by kernel_rfl)) rfl ?_
  refine ⟨rfl, F3, Shop.below (at6 (Shop.far (p := ⟨b, 3, none⟩) (Shop.far (p := ⟨b, 2, none⟩) (Shop.below HA3.out (pw_below_drewN (below_alloc (Below.refl _ _) _) _)) (fun hf => by rcases HF3.out b hf with h1 | h1; exact HBF.out b (Nat.le_refl _) h1; omega) _) (fun hf => by rcases HF3.out b hf with h1 | h1; exact HBF.out b (Nat.le_refl _) h1; omega) _) (fun hf => by rcases HF3.out (b + 1) hf with h1 | h1; exact HBF.out (b + 1) (by omega) h1; omega) _ _ _ _ _ _) (below_drew (Below.refl _ _)), fun k hk => (HF3.out k hk).imp id (fun h => by have := HBW.out; omega), (fr6 ((((HR3.out.alloc _).then_below (pw_below_drewN (Below.refl _ _) _)).setCell (p := ⟨b, 2, none⟩) (Or.inr (by have := HBW.out; show w.heap.size ≤ b; omega)) _).setCell (p := ⟨b, 3, none⟩) (Or.inr (by have := HBW.out; show w.heap.size ≤ b; omega)) _) (Or.inr (by have := HBW.out; show w.heap.size ≤ b + 1; omega)) _ _ _ _ _ _).then_below (below_drew (Below.refl _ _))⟩
set_option maxHeartbeats 4000000 in
set_option maxRecDepth 100000 in
theorem take_F1 (S : Shop St) (F : Nat → Prop) (s s1 : St) (m p t sp r ch : Int) (next : Int) (l0 : List Int) (x : Int) (er : Int) (w : World) (h : S.At w F s) (h0 : sp ≠ 0) (htr : S.trunk s t = (s1, next, l0 ++ [x], er)) (t1 : (er != 0) = false) (hD : next < p) (hx1 : p ≤ x) :
    Calls Tryz.prog 40 #[.agg #[.int .i64 m, .int .i64 p, .int .i64 t, .int .i64 sp, .int .i64 r, .int .u64 ch], .iface S.T S.x] w fun e w' => e = .returned (.tuple #[.int .i64 0, Hd.zero.v, .int .i64 30]) ∧ Goes (fun F' => S.At w' F' s1) F w w' := by
  have H := Aside0.mk h
  have HB := Aside0.mk (S.bound h)
  have HTR := Aside0.mk htr
  have hu35 := Tryz.underlying48
  have hu24 := Tryz.underlying98
  have t0 : (sp == 0) = false := by simp [h0]
  clear h h0 htr
  go_enter Tryz.func40, Tryz.ntmps40
  go_wp2_with fail
  obtain ⟨w2, hw2⟩ : ∃ w2, w2 = (w.alloc (.cells #[.int .i64 m, .int .i64 p, .int .i64 t, .int .i64 sp, .int .i64 r, .int .u64 ch] 48)).alloc (.cells #[.int .i64 0, .int .i64 0, .int .i64 0, .int .i64 0, .int .i64 0, .int .u64 0] 48) := ⟨_, rfl⟩
  rw [← hw2]
  have HA2 := Aside0.mk (show S.At w2 F s by rw [hw2]; exact Shop.below H.out (below_alloc (below_alloc (Below.refl _ _) _) _))
  have HR2 := Aside0.mk (show Fr F w w2 by rw [hw2]; exact ((Fr.refl F w).alloc _).alloc _)
  have K0 := Aside0.mk (show w2.heap[w.heap.size]? = some (.cells #[.int .i64 m, .int .i64 p, .int .i64 t, .int .i64 sp, .int .i64 r, .int .u64 ch] 48 (0, 0)) by rw [hw2]; exact blk_alloc (blk_new w _) _)
  have K1 := Aside0.mk (show w2.heap[w.heap.size + 1]? = some (.cells #[.int .i64 0, .int .i64 0, .int .i64 0, .int .i64 0, .int .i64 0, .int .u64 0] 48 (0, 0)) by
    rw [hw2]
    have := blk_new (w.alloc (.cells #[.int .i64 m, .int .i64 p, .int .i64 t, .int .i64 sp, .int .i64 r, .int .u64 ch] 48)) (.cells #[.int .i64 0, .int .i64 0, .int .i64 0, .int .i64 0, .int .i64 0, .int .u64 0] 48)
    simpa using this)
  have hs2 : w.heap.size + 1 < w2.heap.size := by rw [hw2]; simp
  clear hw2
  obtain ⟨b, hb⟩ : ∃ b, b = w.heap.size := ⟨_, rfl⟩
  rw [← hb] at K0 K1 hs2 ⊢
  have hbF : ∀ k, b ≤ k → ¬ F k := fun k hk hf => by have := HB.out k hf; omega
  have HBF := Aside0.mk hbF
  have HBW := Aside0.mk hb
  clear hb hbF
  refine (trunk_calls S F s t w2 HA2.out).mono ?_
  rw [HTR.out]
  rintro e w3 ⟨v, rfl, F3, hA3, hF3, hR3, hv3⟩
  obtain ⟨A, c, rfl⟩ := Kd.R_slice hv3
  obtain ⟨_, hlc, hC3⟩ := Kd.R_reads' hv3
  rw [List.length_append, List.length_singleton] at hlc
  replace K0 := Aside0.mk (hR3.blk K0.out (HBF.out b (Nat.le_refl _)))
  replace K1 := Aside0.mk (hR3.blk K1.out (HBF.out (b + 1) (by omega)))
  have HR3 := Aside0.mk (HR2.out.trans hR3 (fun _ _ h => h))
  have HF3 := Aside0.mk (show ∀ k, F3 k → F k ∨ b + 1 < k from fun k hk => (hF3 k hk).imp id (fun h => by omega))
  have HA3 := Aside0.mk hA3
  have HC3 := Aside0.mk hC3
  clear hA3 hF3 hR3 hv3 hC3 HA2 HR2 HTR
  obtain ⟨ad, e1, hx⟩ := Kd.at_int HC3.out (l0.length : Int) (by omega) (by simp; omega)
  cases e1
  rw [show rd (l0 ++ [x]) (l0.length : Int) = x by simp [rd], Int.toNat_natCast] at hx
  have hlm := Kd.C_max HC3.out
  rw [List.length_append, List.length_singleton] at hlm
  have hxo : ∀ o, (w3.alloc o).cell? (ad.add l0.length) = some (.int .i64 x) := fun o => ((below_alloc (Below.refl w3.heap.size w3) o).cell (World.block_lt_of_cell? w3 _ hx)).trans hx
  clear hx
  have t2 : decide (p ≤ next) = false := decide_eq_false (by omega)
  have a0 : ∀ o, (w3.alloc o).cell? ⟨b, 0, none⟩ = some (.int .i64 m) := fun o => (blk_cell (blk_alloc K0.out o) 0).trans rfl
  have a1 : ∀ o, (w3.alloc o).cell? ⟨b, 1, none⟩ = some (.int .i64 p) := fun o => (blk_cell (blk_alloc K0.out o) 1).trans rfl
  have a2 : ∀ o, (w3.alloc o).cell? ⟨b, 2, none⟩ = some (.int .i64 t) := fun o => (blk_cell (blk_alloc K0.out o) 2).trans rfl
  have a3 : ∀ o, (w3.alloc o).cell? ⟨b, 3, none⟩ = some (.int .i64 sp) := fun o => (blk_cell (blk_alloc K0.out o) 3).trans rfl
  have a4 : ∀ o, (w3.alloc o).cell? ⟨b, 4, none⟩ = some (.int .i64 r) := fun o => (blk_cell (blk_alloc K0.out o) 4).trans rfl
  have a5 : ∀ o, (w3.alloc o).cell? ⟨b, 5, none⟩ = some (.int .u64 ch) := fun o => (blk_cell (blk_alloc K0.out o) 5).trans rfl
  have z0 : ∀ o, (w3.alloc o).cell? ⟨b + 1, 0, none⟩ = some (.int .i64 0) := fun o => (blk_cell (blk_alloc K1.out o) 0).trans rfl
  have z1 : ∀ o, (w3.alloc o).cell? ⟨b + 1, 1, none⟩ = some (.int .i64 0) := fun o => (blk_cell (blk_alloc K1.out o) 1).trans rfl
  have z2 : ∀ o, (w3.alloc o).cell? ⟨b + 1, 2, none⟩ = some (.int .i64 0) := fun o => (blk_cell (blk_alloc K1.out o) 2).trans rfl
  have z3 : ∀ o, (w3.alloc o).cell? ⟨b + 1, 3, none⟩ = some (.int .i64 0) := fun o => (blk_cell (blk_alloc K1.out o) 3).trans rfl
  have z4 : ∀ o, (w3.alloc o).cell? ⟨b + 1, 4, none⟩ = some (.int .i64 0) := fun o => (blk_cell (blk_alloc K1.out o) 4).trans rfl
  have z5 : ∀ o, (w3.alloc o).cell? ⟨b + 1, 5, none⟩ = some (.int .u64 0) := fun o => (blk_cell (blk_alloc K1.out o) 5).trans rfl
  have f2 : ∀ o, (w3.alloc o).frozen? ⟨b, 2, none⟩ = false := fun o => blk_frozen (blk_alloc K0.out o) 2
  have f3 : ∀ o, (w3.alloc o).frozen? ⟨b, 3, none⟩ = false := fun o => blk_frozen (blk_alloc K0.out o) 3
  have g0 : ∀ o, (w3.alloc o).frozen? ⟨b + 1, 0, none⟩ = false := fun o => blk_frozen (blk_alloc K1.out o) 0
  have g1 : ∀ o, (w3.alloc o).frozen? ⟨b + 1, 1, none⟩ = false := fun o => blk_frozen (blk_alloc K1.out o) 1
  have g2 : ∀ o, (w3.alloc o).frozen? ⟨b + 1, 2, none⟩ = false := fun o => blk_frozen (blk_alloc K1.out o) 2
  have g3 : ∀ o, (w3.alloc o).frozen? ⟨b + 1, 3, none⟩ = false := fun o => blk_frozen (blk_alloc K1.out o) 3
  have g4 : ∀ o, (w3.alloc o).frozen? ⟨b + 1, 4, none⟩ = false := fun o => blk_frozen (blk_alloc K1.out o) 4
  have g5 : ∀ o, (w3.alloc o).frozen? ⟨b + 1, 5, none⟩ = false := fun o => blk_frozen (blk_alloc K1.out o) 5
  have t3 : decide (p ≤ x) = true := decide_eq_true hx1
  go_wp2_with fail
  go_quiet (fail)
  go_wp2
  refine bodyPost_ret (results_tct rfl _ _ (b + 1) 48 #[.int .i64 0, .int .i64 0, .int .i64 0, .int .i64 0, .int .i64 0, .int .u64 0] (0, 0) _ rfl (put6 (blk_drewN (blk_alloc K1.out _) _) _ _ _ _ _ _) Tryz.underlying48 rfl (by kernel_rfl)) rfl ?_
  refine ⟨rfl, F3, at6 (Shop.below HA3.out (pw_below_drewN (below_alloc (Below.refl _ _) _) _)) (fun hf => by rcases HF3.out _ hf with h1 | h1; exact HBF.out _ (by omega) h1; omega) _ _ _ _ _ _, fun k hk => (HF3.out k hk).imp id (fun h => by have := HBW.out; omega), fr6 ((HR3.out.alloc _).then_below (pw_below_drewN (Below.refl _ _) _)) (Or.inr (by have := HBW.out; show w.heap.size ≤ b + 1; omega)) _ _ _ _ _ _⟩
end Go.Proofs.YtonbipaajhokfaaGreatDoor
end
section
set_option linter.unusedVariables false
set_option linter.unusedSimpArgs false
namespace Go.Proofs.YtonbipaajhokfaaGreatDoor
open Go.RowKit Go.Proofs.YtonbipaajhokfaaGreatDoorW.PrintWords Go.Proofs.YtonbipaajhokfaaGreatDoorW.PrintLast Go.Proofs.YtonbipaajhokfaaGreatDoorW.PrintMore
variable {St : Type}
set_option maxHeartbeats 4000000 in
set_option maxRecDepth 100000 in
theorem take_F2 (S : Shop St) (F : Nat → Prop) (s s1 : St) (m p t sp r ch : Int) (next : Int) (l0 : List Int) (x : Int) (er : Int) (w : World) (h : S.At w F s) (h0 : sp ≠ 0) (htr : S.trunk s t = (s1, next, l0 ++ [x], er)) (t1 : (er != 0) = false) (hD : next < p) (hx1 : x < p) (t6 : (sp == 1) = true) :
    Calls Tryz.prog 40 #[.agg #[.int .i64 m, .int .i64 p, .int .i64 t, .int .i64 sp, .int .i64 r, .int .u64 ch], .iface S.T S.x] w fun e w' => e = .returned (.tuple #[.int .i64 0, Hd.zero.v, .int .i64 30]) ∧ Goes (fun F' => S.At w' F' s1) F w w' := by
  have H := Aside0.mk h
  have HB := Aside0.mk (S.bound h)
  have HTR := Aside0.mk htr
  have hu35 := Tryz.underlying48
  have hu24 := Tryz.underlying98
  have t0 : (sp == 0) = false := by simp [h0]
  clear h h0 htr
  go_enter Tryz.func40, Tryz.ntmps40
  go_wp2_with fail
  obtain ⟨w2, hw2⟩ : ∃ w2, w2 = (w.alloc (.cells #[.int .i64 m, .int .i64 p, .int .i64 t, .int .i64 sp, .int .i64 r, .int .u64 ch] 48)).alloc (.cells #[.int .i64 0, .int .i64 0, .int .i64 0, .int .i64 0, .int .i64 0, .int .u64 0] 48) := ⟨_, rfl⟩
  rw [← hw2]
  have HA2 := Aside0.mk (show S.At w2 F s by rw [hw2]; exact Shop.below H.out (below_alloc (below_alloc (Below.refl _ _) _) _))
  have HR2 := Aside0.mk (show Fr F w w2 by rw [hw2]; exact ((Fr.refl F w).alloc _).alloc _)
  have K0 := Aside0.mk (show w2.heap[w.heap.size]? = some (.cells #[.int .i64 m, .int .i64 p, .int .i64 t, .int .i64 sp, .int .i64 r, .int .u64 ch] 48 (0, 0)) by rw [hw2]; exact blk_alloc (blk_new w _) _)
  have K1 := Aside0.mk (show w2.heap[w.heap.size + 1]? = some (.cells #[.int .i64 0, .int .i64 0, .int .i64 0, .int .i64 0, .int .i64 0, .int .u64 0] 48 (0, 0)) by
    rw [hw2]
    have := blk_new (w.alloc (.cells #[.int .i64 m, .int .i64 p, .int .i64 t, .int .i64 sp, .int .i64 r, .int .u64 ch] 48)) (.cells #[.int .i64 0, .int .i64 0, .int .i64 0, .int .i64 0, .int .i64 0, .int .u64 0] 48)
    simpa using this)
  have hs2 : w.heap.size + 1 < w2.heap.size := by rw [hw2]; simp
  clear hw2
  obtain ⟨b, hb⟩ : ∃ b, b = w.heap.size := ⟨_, rfl⟩
  rw [← hb] at K0 K1 hs2 ⊢
  have hbF : ∀ k, b ≤ k → ¬ F k := fun k hk hf => by have := HB.out k hf; omega
  have HBF := Aside0.mk hbF
  have HBW := Aside0.mk hb
  clear hb hbF
  refine (trunk_calls S F s t w2 HA2.out).mono ?_
  rw [HTR.out]
  rintro e w3 ⟨v, rfl, F3, hA3, hF3, hR3, hv3⟩
  obtain ⟨A, c, rfl⟩ := Kd.R_slice hv3
  obtain ⟨_, hlc, hC3⟩ := Kd.R_reads' hv3
  rw [List.length_append, List.length_singleton] at hlc
  replace K0 := Aside0.mk (hR3.blk K0.out (HBF.out b (Nat.le_refl _)))
  replace K1 := Aside0.mk (hR3.blk K1.out (HBF.out (b + 1) (by omega)))
  have HR3 := Aside0.mk (HR2.out.trans hR3 (fun _ _ h => h))
  have HF3 := Aside0.mk (show ∀ k, F3 k → F k ∨ b + 1 < k from fun k hk => (hF3 k hk).imp id (fun h => by omega))
  have HA3 := Aside0.mk hA3
  have HC3 := Aside0.mk hC3
  clear hA3 hF3 hR3 hv3 hC3 HA2 HR2 HTR
  obtain ⟨ad, e1, hx⟩ := Kd.at_int HC3.out (l0.length : Int) (by omega) (by simp; omega)
  cases e1
  rw [show rd (l0 ++ [x]) (l0.length : Int) = x by simp [rd], Int.toNat_natCast] at hx
  have hlm := Kd.C_max HC3.out
  rw [List.length_append, List.length_singleton] at hlm
  have hxo : ∀ o, (w3.alloc o).cell? (ad.add l0.length) = some (.int .i64 x) := fun o => ((below_alloc (Below.refl w3.heap.size w3) o).cell (World.block_lt_of_cell? w3 _ hx)).trans hx
  clear hx
  have t2 : decide (p ≤ next) = false := decide_eq_false (by omega)
  have a0 : ∀ o, (w3.alloc o).cell? ⟨b, 0, none⟩ = some (.int .i64 m) := fun o => (blk_cell (blk_alloc K0.out o) 0).trans rfl
  have a1 : ∀ o, (w3.alloc o).cell? ⟨b, 1, none⟩ = some (.int .i64 p) := fun o => (blk_cell (blk_alloc K0.out o) 1).trans rfl
  have a2 : ∀ o, (w3.alloc o).cell? ⟨b, 2, none⟩ = some (.int .i64 t) := fun o => (blk_cell (blk_alloc K0.out o) 2).trans rfl
  have a3 : ∀ o, (w3.alloc o).cell? ⟨b, 3, none⟩ = some (.int .i64 sp) := fun o => (blk_cell (blk_alloc K0.out o) 3).trans rfl
  have a4 : ∀ o, (w3.alloc o).cell? ⟨b, 4, none⟩ = some (.int .i64 r) := fun o => (blk_cell (blk_alloc K0.out o) 4).trans rfl
  have a5 : ∀ o, (w3.alloc o).cell? ⟨b, 5, none⟩ = some (.int .u64 ch) := fun o => (blk_cell (blk_alloc K0.out o) 5).trans rfl
  have z0 : ∀ o, (w3.alloc o).cell? ⟨b + 1, 0, none⟩ = some (.int .i64 0) := fun o => (blk_cell (blk_alloc K1.out o) 0).trans rfl
  have z1 : ∀ o, (w3.alloc o).cell? ⟨b + 1, 1, none⟩ = some (.int .i64 0) := fun o => (blk_cell (blk_alloc K1.out o) 1).trans rfl
  have z2 : ∀ o, (w3.alloc o).cell? ⟨b + 1, 2, none⟩ = some (.int .i64 0) := fun o => (blk_cell (blk_alloc K1.out o) 2).trans rfl
  have z3 : ∀ o, (w3.alloc o).cell? ⟨b + 1, 3, none⟩ = some (.int .i64 0) := fun o => (blk_cell (blk_alloc K1.out o) 3).trans rfl
  have z4 : ∀ o, (w3.alloc o).cell? ⟨b + 1, 4, none⟩ = some (.int .i64 0) := fun o => (blk_cell (blk_alloc K1.out o) 4).trans rfl
  have z5 : ∀ o, (w3.alloc o).cell? ⟨b + 1, 5, none⟩ = some (.int .u64 0) := fun o => (blk_cell (blk_alloc K1.out o) 5).trans rfl
  have f2 : ∀ o, (w3.alloc o).frozen? ⟨b, 2, none⟩ = false := fun o => blk_frozen (blk_alloc K0.out o) 2
  have f3 : ∀ o, (w3.alloc o).frozen? ⟨b, 3, none⟩ = false := fun o => blk_frozen (blk_alloc K0.out o) 3
  have g0 : ∀ o, (w3.alloc o).frozen? ⟨b + 1, 0, none⟩ = false := fun o => blk_frozen (blk_alloc K1.out o) 0
  have g1 : ∀ o, (w3.alloc o).frozen? ⟨b + 1, 1, none⟩ = false := fun o => blk_frozen (blk_alloc K1.out o) 1
  have g2 : ∀ o, (w3.alloc o).frozen? ⟨b + 1, 2, none⟩ = false := fun o => blk_frozen (blk_alloc K1.out o) 2
  have g3 : ∀ o, (w3.alloc o).frozen? ⟨b + 1, 3, none⟩ = false := fun o => blk_frozen (blk_alloc K1.out o) 3
  have g4 : ∀ o, (w3.alloc o).frozen? ⟨b + 1, 4, none⟩ = false := fun o => blk_frozen (blk_alloc K1.out o) 4
  have g5 : ∀ o, (w3.alloc o).frozen? ⟨b + 1, 5, none⟩ = false := fun o => blk_frozen (blk_alloc K1.out o) 5
  have t3 : decide (p ≤ x) = false := decide_eq_false (by omega)
  go_wp2_with fail
  go_quiet (fail)
  go_wp2
  refine bodyPost_ret (results_tct rfl _ _ (b + 1) 48 #[.int .i64 0, .int .i64 0, .int .i64 0, .int .i64 0, .int .i64 0, .int .u64 0] (0, 0) _ rfl (put6 (blk_drewN (blk_alloc K1.out _) _) _ _ _ _ _ _) Tryz.underlying48 rfl (by kernel_rfl)) rfl ?_
  refine ⟨rfl, F3, at6 (Shop.below HA3.out (pw_below_drewN (below_alloc (Below.refl _ _) _) _)) (fun hf => by rcases HF3.out _ hf with h1 | h1; exact HBF.out _ (by omega) h1; omega) _ _ _ _ _ _, fun k hk => (HF3.out k hk).imp id (fun h => by have := HBW.out; omega), fr6 ((HR3.out.alloc _).then_below (pw_below_drewN (Below.refl _ _) _)) (Or.inr (by have := HBW.out; show w.heap.size ≤ b + 1; omega)) _ _ _ _ _ _⟩
set_option maxHeartbeats 4000000 in
set_option maxRecDepth 100000 in
theorem take_F3a (S : Shop St) (F : Nat → Prop) (s s1 : St) (m p t sp r ch : Int) (next : Int) (l0 : List Int) (x : Int) (er : Int) (w : World) (h : S.At w F s) (h0 : sp ≠ 0) (htr : S.trunk s t = (s1, next, l0 ++ [x], er)) (s2 : St) (e2 : Int) (t1 : (er != 0) = false) (hD : next < p) (hx1 : x < p) (t6 : (sp == 1) = false) (hfit : S.fits s1) (hly : S.lay s1 t next l0 = (s2, e2)) (t7 : (e2 != 0) = true) :
    Calls Tryz.prog 40 #[.agg #[.int .i64 m, .int .i64 p, .int .i64 t, .int .i64 sp, .int .i64 r, .int .u64 ch], .iface S.T S.x] w fun e w' => e = .returned (.tuple #[.int .i64 0, Hd.zero.v, .int .i64 e2]) ∧ Goes (fun F' => S.At w' F' s2) F w w' := by
  have H := Aside0.mk h
  have HB := Aside0.mk (S.bound h)
  have HTR := Aside0.mk htr
  have hu35 := Tryz.underlying48
  have hu24 := Tryz.underlying98
  have t0 : (sp == 0) = false := by simp [h0]
  clear h h0 htr
  have HFIT := Aside0.mk hfit
  have HLY := Aside0.mk hly
  clear hfit hly
  go_enter Tryz.func40, Tryz.ntmps40
  go_wp2_with fail
  obtain ⟨w2, hw2⟩ : ∃ w2, w2 = (w.alloc (.cells #[.int .i64 m, .int .i64 p, .int .i64 t, .int .i64 sp, .int .i64 r, .int .u64 ch] 48)).alloc (.cells #[.int .i64 0, .int .i64 0, .int .i64 0, .int .i64 0, .int .i64 0, .int .u64 0] 48) := ⟨_, rfl⟩
  rw [← hw2]
  have HA2 := Aside0.mk (show S.At w2 F s by rw [hw2]; exact Shop.below H.out (below_alloc (below_alloc (Below.refl _ _) _) _))
  have HR2 := Aside0.mk (show Fr F w w2 by rw [hw2]; exact ((Fr.refl F w).alloc _).alloc _)
  have K0 := Aside0.mk (show w2.heap[w.heap.size]? = some (.cells #[.int .i64 m, .int .i64 p, .int .i64 t, .int .i64 sp, .int .i64 r, .int .u64 ch] 48 (0, 0)) by rw [hw2]; exact blk_alloc (blk_new w _) _)
  have K1 := Aside0.mk (show w2.heap[w.heap.size + 1]? = some (.cells #[.int .i64 0, .int .i64 0, .int .i64 0, .int .i64 0, .int .i64 0, .int .u64 0] 48 (0, 0)) by
    rw [hw2]
    have := blk_new (w.alloc (.cells #[.int .i64 m, .int .i64 p, .int .i64 t, .int .i64 sp, .int .i64 r, .int .u64 ch] 48)) (.cells #[.int .i64 0, .int .i64 0, .int .i64 0, .int .i64 0, .int .i64 0, .int .u64 0] 48)
    simpa using this)
  have hs2 : w.heap.size + 1 < w2.heap.size := by rw [hw2]; simp
  clear hw2
  obtain ⟨b, hb⟩ : ∃ b, b = w.heap.size := ⟨_, rfl⟩
  rw [← hb] at K0 K1 hs2 ⊢
  have hbF : ∀ k, b ≤ k → ¬ F k := fun k hk hf => by have := HB.out k hf; omega
  have HBF := Aside0.mk hbF
  have HBW := Aside0.mk hb
  clear hb hbF
  refine (trunk_calls S F s t w2 HA2.out).mono ?_
  rw [HTR.out]
  rintro e w3 ⟨v, rfl, F3, hA3, hF3, hR3, hv3⟩
  obtain ⟨A, c, rfl⟩ := Kd.R_slice hv3
  obtain ⟨_, hlc, hC3⟩ := Kd.R_reads' hv3
  rw [List.length_append, List.length_singleton] at hlc
  replace K0 := Aside0.mk (hR3.blk K0.out (HBF.out b (Nat.le_refl _)))
  replace K1 := Aside0.mk (hR3.blk K1.out (HBF.out (b + 1) (by omega)))
  have HR3 := Aside0.mk (HR2.out.trans hR3 (fun _ _ h => h))
  have HF3 := Aside0.mk (show ∀ k, F3 k → F k ∨ b + 1 < k from fun k hk => (hF3 k hk).imp id (fun h => by omega))
  have HA3 := Aside0.mk hA3
  have HC3 := Aside0.mk hC3
  clear hA3 hF3 hR3 hv3 hC3 HA2 HR2 HTR
  obtain ⟨ad, e1, hx⟩ := Kd.at_int HC3.out (l0.length : Int) (by omega) (by simp; omega)
  cases e1
  rw [show rd (l0 ++ [x]) (l0.length : Int) = x by simp [rd], Int.toNat_natCast] at hx
  have hlm := Kd.C_max HC3.out
  rw [List.length_append, List.length_singleton] at hlm
  have hxo : ∀ o, (w3.alloc o).cell? (ad.add l0.length) = some (.int .i64 x) := fun o => ((below_alloc (Below.refl w3.heap.size w3) o).cell (World.block_lt_of_cell? w3 _ hx)).trans hx
  clear hx
  have t2 : decide (p ≤ next) = false := decide_eq_false (by omega)
  have a0 : ∀ o, (w3.alloc o).cell? ⟨b, 0, none⟩ = some (.int .i64 m) := fun o => (blk_cell (blk_alloc K0.out o) 0).trans rfl
  have a1 : ∀ o, (w3.alloc o).cell? ⟨b, 1, none⟩ = some (.int .i64 p) := fun o => (blk_cell (blk_alloc K0.out o) 1).trans rfl
  have a2 : ∀ o, (w3.alloc o).cell? ⟨b, 2, none⟩ = some (.int .i64 t) := fun o => (blk_cell (blk_alloc K0.out o) 2).trans rfl
  have a3 : ∀ o, (w3.alloc o).cell? ⟨b, 3, none⟩ = some (.int .i64 sp) := fun o => (blk_cell (blk_alloc K0.out o) 3).trans rfl
  have a4 : ∀ o, (w3.alloc o).cell? ⟨b, 4, none⟩ = some (.int .i64 r) := fun o => (blk_cell (blk_alloc K0.out o) 4).trans rfl
  have a5 : ∀ o, (w3.alloc o).cell? ⟨b, 5, none⟩ = some (.int .u64 ch) := fun o => (blk_cell (blk_alloc K0.out o) 5).trans rfl
  have z0 : ∀ o, (w3.alloc o).cell? ⟨b + 1, 0, none⟩ = some (.int .i64 0) := fun o => (blk_cell (blk_alloc K1.out o) 0).trans rfl
  have z1 : ∀ o, (w3.alloc o).cell? ⟨b + 1, 1, none⟩ = some (.int .i64 0) := fun o => (blk_cell (blk_alloc K1.out o) 1).trans rfl
  have z2 : ∀ o, (w3.alloc o).cell? ⟨b + 1, 2, none⟩ = some (.int .i64 0) := fun o => (blk_cell (blk_alloc K1.out o) 2).trans rfl
  have z3 : ∀ o, (w3.alloc o).cell? ⟨b + 1, 3, none⟩ = some (.int .i64 0) := fun o => (blk_cell (blk_alloc K1.out o) 3).trans rfl
  have z4 : ∀ o, (w3.alloc o).cell? ⟨b + 1, 4, none⟩ = some (.int .i64 0) := fun o => (blk_cell (blk_alloc K1.out o) 4).trans rfl
  have z5 : ∀ o, (w3.alloc o).cell? ⟨b + 1, 5, none⟩ = some (.int .u64 0) := fun o => (blk_cell (blk_alloc K1.out o) 5).trans rfl
  have f2 : ∀ o, (w3.alloc o).frozen? ⟨b, 2, none⟩ = false := fun o => blk_frozen (blk_alloc K0.out o) 2
  have f3 : ∀ o, (w3.alloc o).frozen? ⟨b, 3, none⟩ = false := fun o => blk_frozen (blk_alloc K0.out o) 3
  have g0 : ∀ o, (w3.alloc o).frozen? ⟨b + 1, 0, none⟩ = false := fun o => blk_frozen (blk_alloc K1.out o) 0
  have g1 : ∀ o, (w3.alloc o).frozen? ⟨b + 1, 1, none⟩ = false := fun o => blk_frozen (blk_alloc K1.out o) 1
  have g2 : ∀ o, (w3.alloc o).frozen? ⟨b + 1, 2, none⟩ = false := fun o => blk_frozen (blk_alloc K1.out o) 2
  have g3 : ∀ o, (w3.alloc o).frozen? ⟨b + 1, 3, none⟩ = false := fun o => blk_frozen (blk_alloc K1.out o) 3
  have g4 : ∀ o, (w3.alloc o).frozen? ⟨b + 1, 4, none⟩ = false := fun o => blk_frozen (blk_alloc K1.out o) 4
  have g5 : ∀ o, (w3.alloc o).frozen? ⟨b + 1, 5, none⟩ = false := fun o => blk_frozen (blk_alloc K1.out o) 5
  have t3 : decide (p ≤ x) = false := decide_eq_false (by omega)
  go_wp2_with fail
  go_quiet (fail)
  go_wp2_with fail
  obtain ⟨w4, hw4⟩ : ∃ w4, w4 = (w3.alloc (.cells #[.int .i64 next, .slice (some ad) (l0.length + 1) c] 98)).drewN nq := ⟨_, rfl⟩
  rw [← hw4]
  have HA4 := Aside0.mk (show S.At w4 F3 s1 by rw [hw4]; exact Shop.below HA3.out (pw_below_drewN (below_alloc (Below.refl _ _) _) _))
  have HR4 := Aside0.mk (show Fr F w w4 by rw [hw4]; exact (HR3.out.alloc _).then_below (pw_below_drewN (Below.refl _ _) _))
  have HC4 := Aside0.mk (show Kd.C (Kd.int .i64) w4 (some ad) l0.length l0 by rw [hw4]; exact C_pre (Kd.C_drewN (Kd.C_alloc HC3.out _) _))
  replace K0 := Aside0.mk (show w4.heap[b]? = some (.cells #[.int .i64 m, .int .i64 p, .int .i64 t, .int .i64 sp, .int .i64 r, .int .u64 ch] 48 (0, 0)) by rw [hw4]; exact blk_drewN (blk_alloc K0.out _) _)
  replace K1 := Aside0.mk (show w4.heap[b + 1]? = some (.cells #[.int .i64 0, .int .i64 0, .int .i64 0, .int .i64 0, .int .i64 0, .int .u64 0] 48 (0, 0)) by rw [hw4]; exact blk_drewN (blk_alloc K1.out _) _)
  have K7 := Aside0.mk (show w4.heap[w3.heap.size]? = some (.cells #[.int .i64 next, .slice (some ad) (l0.length + 1) c] 98 (0, 0)) by rw [hw4]; exact blk_drewN (blk_new w3 _) _)
  have hg7 : ¬ F3 w3.heap.size := fun hf => by have := S.bound HA3.out _ hf; omega
  have hs4 : w3.heap.size < w4.heap.size := by rw [hw4]; simp
  clear hw4
  obtain ⟨g, hg⟩ : ∃ g, g = w3.heap.size := ⟨_, rfl⟩
  rw [← hg] at K7 hg7 hs4 ⊢
  clear hg
  have HG7 := Aside0.mk hg7
  have hdiff : b ≠ g := by
    have h := blk_ne K0.out K7.out (by decide)
    exact h
  have hle : l0.length ≤ c := by omega
  clear hg7 HA3 HR3 HC3 a0 a1 a2 a3 a4 a5 z0 z1 z2 z3 z4 z5 f2 f3 g0 g1 g2 g3 g4 g5 hxo
  replace K0 := Aside0.mk (blk_drew K0.out)
  replace K1 := Aside0.mk (blk_drew K1.out)
  replace K7 := Aside0.mk (blk_drew K7.out)
  replace HA4 := Aside0.mk (Shop.below HA4.out (below_drew (Below.refl _ _)))
  replace HR4 := Aside0.mk (HR4.out.then_below (below_drew (Below.refl _ _)))
  replace HC4 := Aside0.mk (Kd.C_drew HC4.out)
  replace hs4 : g < w4.drew.heap.size := hs4
  refine start_ (n := 12) (S := fun w' => w'.cell? ⟨b, 2, none⟩ = some (.int .i64 t) ∧ w'.cell? ⟨g, 0, none⟩ = some (.int .i64 next) ∧ w'.cell? ⟨g, 1, none⟩ = some (.slice (some ad) (l0.length + 1) c)) (ds := []) #[false, false, false, false, false, false, false, false, false, false, false, false] (by kernel_rfl) rfl rfl ⟨(blk_cell K0.out 2).trans rfl, (blk_cell K7.out 0).trans rfl, (blk_cell K7.out 1).trans rfl⟩ (fun hHeld => ?_)
  generalize w4.drew = w4' at K0 K1 K7 HA4 HR4 HC4 hs4 hHeld ⊢
  refine pure_ (i := 0) (N := some 78) (v := ?_) (a' := ?_) #[true, false, false, false, false, false, false, false, false, false, false, false] rfl rfl (by kernel_rfl) (fun _ _ _ h => h) (Or.inl ⟨by rfl, ?_⟩) ?_ ?_
  rotate_left
  · intro w'
    go_simp
    with_reducible rfl
  rotate_left
  · simp only [Act.put, List.setIfInBounds_toArray, List.set_cons_zero, List.set_cons_succ]
    rfl
  refine pure_ (i := 1) (N := some 79) (v := ?_) (a' := ?_) #[true, true, false, false, false, false, false, false, false, false, false, false] rfl rfl (by kernel_rfl) (fun _ _ _ h => h) (Or.inl ⟨by rfl, ?_⟩) ?_ ?_
  rotate_left
  · intro w'
    go_simp
    with_reducible rfl
  rotate_left
  · simp only [Act.put, List.setIfInBounds_toArray, List.set_cons_zero, List.set_cons_succ]
    rfl
  refine take_ (i := 2) (N := some 80) (v := ?_) (a' := ?_) #[true, true, true, false, false, false, false, false, false, false, false, false] rfl rfl (by kernel_rfl) (fun _ _ _ h => h) (Or.inl ⟨by rfl, ?_⟩) hHeld ?_ ?_
  rotate_left
  · rintro w' ⟨s0, s1', s2⟩
    go_simp
    with_reducible rfl
  rotate_left
  · simp only [Act.put, List.setIfInBounds_toArray, List.set_cons_zero, List.set_cons_succ]
    rfl
  refine pure_ (i := 3) (N := some 81) (v := ?_) (a' := ?_) #[true, true, true, true, false, false, false, false, false, false, false, false] rfl rfl (by kernel_rfl) (fun _ _ _ h => h) (Or.inl ⟨by rfl, ?_⟩) ?_ ?_
  rotate_left
  · intro w'
    go_simp
    with_reducible rfl
  rotate_left
  · simp only [Act.put, List.setIfInBounds_toArray, List.set_cons_zero, List.set_cons_succ]
    rfl
  refine take_ (i := 4) (N := some 82) (v := ?_) (a' := ?_) #[true, true, true, true, true, false, false, false, false, false, false, false] rfl rfl (by kernel_rfl) (fun _ _ _ h => h) (Or.inl ⟨by rfl, ?_⟩) hHeld ?_ ?_
  rotate_left
  · rintro w' ⟨s0, s1', s2⟩
    go_simp
    with_reducible rfl
  rotate_left
  · simp only [Act.put, List.setIfInBounds_toArray, List.set_cons_zero, List.set_cons_succ]
    rfl
  refine pure_ (i := 5) (N := some 83) (v := ?_) (a' := ?_) #[true, true, true, true, true, true, false, false, false, false, false, false] rfl rfl (by kernel_rfl) (fun _ _ _ h => h) (Or.inl ⟨by rfl, ?_⟩) ?_ ?_
  rotate_left
  · intro w'
    go_simp
    with_reducible rfl
  rotate_left
  · simp only [Act.put, List.setIfInBounds_toArray, List.set_cons_zero, List.set_cons_succ]
    rfl
  refine take_ (i := 6) (N := some 84) (v := ?_) (a' := ?_) #[true, true, true, true, true, true, true, false, false, false, false, false] rfl rfl (by kernel_rfl) (fun _ _ _ h => h) (Or.inl ⟨by rfl, ?_⟩) hHeld ?_ ?_
  rotate_left
  · rintro w' ⟨s0, s1', s2⟩
    go_simp
    with_reducible rfl
  rotate_left
  · simp only [Act.put, List.setIfInBounds_toArray, List.set_cons_zero, List.set_cons_succ]
    rfl
  refine pure_ (i := 7) (N := some 85) (v := ?_) (a' := ?_) #[true, true, true, true, true, true, true, true, false, false, false, false] rfl rfl (by kernel_rfl) (fun _ _ _ h => h) (Or.inl ⟨by rfl, ?_⟩) ?_ ?_
  rotate_left
  · intro w'
    go_simp
    with_reducible rfl
  rotate_left
  · simp only [Act.put, List.setIfInBounds_toArray, List.set_cons_zero, List.set_cons_succ]
    rfl
  refine pure_ (i := 8) (N := some 86) (v := ?_) (a' := ?_) #[true, true, true, true, true, true, true, true, true, false, false, false] rfl rfl (by kernel_rfl) (fun _ _ _ h => h) (Or.inl ⟨by rfl, ?_⟩) ?_ ?_
  rotate_left
  · intro w'
    go_simp
    with_reducible rfl
  rotate_left
  · simp only [Act.put, List.setIfInBounds_toArray, List.set_cons_zero, List.set_cons_succ]
    rfl
  refine pure_ (i := 9) (N := some 87) (v := ?_) (a' := ?_) #[true, true, true, true, true, true, true, true, true, true, false, false] rfl rfl (by kernel_rfl) (fun _ _ _ h => h) (Or.inl ⟨by rfl, ?_⟩) ?_ ?_
  rotate_left
  · intro w'
    go_simp
    with_reducible rfl
  rotate_left
  · simp only [Act.put, List.setIfInBounds_toArray, List.set_cons_zero, List.set_cons_succ]
    rfl
  refine one_ (i := 10) (N := some 88) #[true, true, true, true, true, true, true, true, true, true, true, false] rfl rfl (by kernel_rfl) (by decide) (fun K hK => ?_)
  refine call_ 56 #[.iface S.T S.x, .int .i64 t, .agg #[.int .i64 next, .slice (some ad) l0.length c]] (by rfl) rfl (by go_simp) ?_
  refine (lay_calls S F3 s1 t next (some ad) c l0 _ HA4.out HFIT.out HC4.out (by omega)).mono ?_
  rw [HLY.out]
  rintro e w5 ⟨rfl, F5, hA5, hF5, hR5⟩
  refine ⟨.int .i64 e2, rfl, ?_⟩
  have K0' := Aside0.mk (hR5.blk K0.out (fun hf => by rcases HF3.out b hf with h1 | h1; exact HBF.out b (Nat.le_refl _) h1; omega))
  have K1' := Aside0.mk (hR5.blk K1.out (fun hf => by rcases HF3.out (b + 1) hf with h1 | h1; exact HBF.out (b + 1) (by omega) h1; omega))
  have K7' := Aside0.mk (hR5.blk K7.out HG7.out)
  have HR5 := Aside0.mk (HR4.out.trans hR5 (fun k hk hf => by rcases HF3.out k hf with h1 | h1; exact h1; have := HBW.out; omega))
  have HF5 := Aside0.mk (show ∀ k, F5 k → F k ∨ b + 1 < k from fun k hk => by
    rcases hF5 k hk with h1 | h1
    · exact HF3.out k h1
    · exact Or.inr (by have := blk_lt K1.out; omega))
  have HA5 := Aside0.mk hA5
  clear hA5 hF5 hR5 K0 K1 K7 HA4 HR4 HC4
  refine hK.out _ _ ⟨(blk_cell K0'.out 2).trans rfl, (blk_cell K7'.out 0).trans rfl, (blk_cell K7'.out 1).trans rfl⟩ (fun hHeld => ?_)
  clear hK K
  refine norm_ (a' := ?_) ?_ ?_
  rotate_left
  · show Act.put _ (some 88) _ = _
    simp only [Act.put, List.setIfInBounds_toArray, List.set_cons_zero, List.set_cons_succ]
    rfl
  refine pure_ (i := 11) (N := some 8) (v := ?_) (a' := ?_) #[true, true, true, true, true, true, true, true, true, true, true, true] rfl rfl (by kernel_rfl) (fun _ _ _ h => h) (Or.inl ⟨by rfl, ?_⟩) ?_ ?_
  rotate_left
  · intro w'
    go_simp
    with_reducible rfl
  rotate_left
  · simp only [Act.put, List.setIfInBounds_toArray, List.set_cons_zero, List.set_cons_succ]
    rfl
  refine done_ (by kernel_rfl) ?_
  have a0 : w5.cell? ⟨b, 0, none⟩ = some (.int .i64 m) := (blk_cell K0'.out 0).trans rfl
  have a1 : w5.cell? ⟨b, 1, none⟩ = some (.int .i64 p) := (blk_cell K0'.out 1).trans rfl
  have a2 : w5.cell? ⟨b, 2, none⟩ = some (.int .i64 t) := (blk_cell K0'.out 2).trans rfl
  have a3 : w5.cell? ⟨b, 3, none⟩ = some (.int .i64 sp) := (blk_cell K0'.out 3).trans rfl
  have a4 : w5.cell? ⟨b, 4, none⟩ = some (.int .i64 r) := (blk_cell K0'.out 4).trans rfl
  have a5 : w5.cell? ⟨b, 5, none⟩ = some (.int .u64 ch) := (blk_cell K0'.out 5).trans rfl
  have z0 : w5.cell? ⟨b + 1, 0, none⟩ = some (.int .i64 0) := (blk_cell K1'.out 0).trans rfl
  have z1 : w5.cell? ⟨b + 1, 1, none⟩ = some (.int .i64 0) := (blk_cell K1'.out 1).trans rfl
  have z2 : w5.cell? ⟨b + 1, 2, none⟩ = some (.int .i64 0) := (blk_cell K1'.out 2).trans rfl
  have z3 : w5.cell? ⟨b + 1, 3, none⟩ = some (.int .i64 0) := (blk_cell K1'.out 3).trans rfl
  have z4 : w5.cell? ⟨b + 1, 4, none⟩ = some (.int .i64 0) := (blk_cell K1'.out 4).trans rfl
  have z5 : w5.cell? ⟨b + 1, 5, none⟩ = some (.int .u64 0) := (blk_cell K1'.out 5).trans rfl
  have f2 : w5.frozen? ⟨b, 2, none⟩ = false := blk_frozen K0'.out 2
  have f3 : w5.frozen? ⟨b, 3, none⟩ = false := blk_frozen K0'.out 3
  have g0 : w5.frozen? ⟨b + 1, 0, none⟩ = false := blk_frozen K1'.out 0
  have g1 : w5.frozen? ⟨b + 1, 1, none⟩ = false := blk_frozen K1'.out 1
  have g2 : w5.frozen? ⟨b + 1, 2, none⟩ = false := blk_frozen K1'.out 2
  have g3 : w5.frozen? ⟨b + 1, 3, none⟩ = false := blk_frozen K1'.out 3
  have g4 : w5.frozen? ⟨b + 1, 4, none⟩ = false := blk_frozen K1'.out 4
  have g5 : w5.frozen? ⟨b + 1, 5, none⟩ = false := blk_frozen K1'.out 5
  clear hHeld
  go_wp2
  refine bodyPost_ret (results_tct rfl _ _ (b + 1) 48 #[.int .i64 0, .int .i64 0, .int .i64 0, .int .i64 0, .int .i64 0, .int .u64 0] (0, 0) _ rfl (put6 K1'.out _ _ _ _ _ _) Tryz.underlying48 rfl (by kernel_rfl)) rfl ?_
  refine ⟨rfl, F5, at6 HA5.out (fun hf => by rcases HF5.out _ hf with h1 | h1; exact HBF.out _ (by omega) h1; omega) _ _ _ _ _ _, fun k hk => (HF5.out k hk).imp id (fun h => by have := HBW.out; omega), fr6 HR5.out (Or.inr (by have := HBW.out; show w.heap.size ≤ b + 1; omega)) _ _ _ _ _ _⟩
set_option maxHeartbeats 4000000 in
set_option maxRecDepth 100000 in
theorem take_F3b (S : Shop St) (F : Nat → Prop) (s s1 : St) (m p t sp r ch : Int) (next : Int) (l0 : List Int) (x : Int) (er : Int) (w : World) (h : S.At w F s) (h0 : sp ≠ 0) (htr : S.trunk s t = (s1, next, l0 ++ [x], er)) (s2 : St) (e2 : Int) (t1 : (er != 0) = false) (hD : next < p) (hx1 : x < p) (t6 : (sp == 1) = false) (hfit : S.fits s1) (hly : S.lay s1 t next l0 = (s2, e2)) (t7 : (e2 != 0) = false) (hs0 : 0 ≤ sp) (hs1 : sp ≤ 4096) :
    Calls Tryz.prog 40 #[.agg #[.int .i64 m, .int .i64 p, .int .i64 t, .int .i64 sp, .int .i64 r, .int .u64 ch], .iface S.T S.x] w fun e w' => e = .returned (.tuple #[.int .i64 x, (Hd.mk m p t (sp - 1) r ch).v, .int .i64 0]) ∧ Goes (fun F' => S.At w' F' s2) F w w' := by
  have H := Aside0.mk h
  have HB := Aside0.mk (S.bound h)
  have HTR := Aside0.mk htr
  have hu35 := Tryz.underlying48
  have hu24 := Tryz.underlying98
  have t0 : (sp == 0) = false := by simp [h0]
  clear h h0 htr
  have HFIT := Aside0.mk hfit
  have HLY := Aside0.mk hly
  clear hfit hly
  go_enter Tryz.func40, Tryz.ntmps40
  go_wp2_with fail
  obtain ⟨w2, hw2⟩ : ∃ w2, w2 = (w.alloc (.cells #[.int .i64 m, .int .i64 p, .int .i64 t, .int .i64 sp, .int .i64 r, .int .u64 ch] 48)).alloc (.cells #[.int .i64 0, .int .i64 0, .int .i64 0, .int .i64 0, .int .i64 0, .int .u64 0] 48) := ⟨_, rfl⟩
  rw [← hw2]
  have HA2 := Aside0.mk (show S.At w2 F s by rw [hw2]; exact Shop.below H.out (below_alloc (below_alloc (Below.refl _ _) _) _))
  have HR2 := Aside0.mk (show Fr F w w2 by rw [hw2]; exact ((Fr.refl F w).alloc _).alloc _)
  have K0 := Aside0.mk (show w2.heap[w.heap.size]? = some (.cells #[.int .i64 m, .int .i64 p, .int .i64 t, .int .i64 sp, .int .i64 r, .int .u64 ch] 48 (0, 0)) by rw [hw2]; exact blk_alloc (blk_new w _) _)
  have K1 := Aside0.mk (show w2.heap[w.heap.size + 1]? = some (.cells #[.int .i64 0, .int .i64 0, .int .i64 0, .int .i64 0, .int .i64 0, .int .u64 0] 48 (0, 0)) by
    rw [hw2]
    have := blk_new (w.alloc (.cells #[.int .i64 m, .int .i64 p, .int .i64 t, .int .i64 sp, .int .i64 r, .int .u64 ch] 48)) (.cells #[.int .i64 0, .int .i64 0, .int .i64 0, .int .i64 0, .int .i64 0, .int .u64 0] 48)
    simpa using this)
  have hs2 : w.heap.size + 1 < w2.heap.size := by rw [hw2]; simp
  clear hw2
  obtain ⟨b, hb⟩ : ∃ b, b = w.heap.size := ⟨_, rfl⟩
  rw [← hb] at K0 K1 hs2 ⊢
  have hbF : ∀ k, b ≤ k → ¬ F k := fun k hk hf => by have := HB.out k hf; omega
  have HBF := Aside0.mk hbF
  have HBW := Aside0.mk hb
  clear hb hbF
  refine (trunk_calls S F s t w2 HA2.out).mono ?_
  rw [HTR.out]
  rintro e w3 ⟨v, rfl, F3, hA3, hF3, hR3, hv3⟩
  obtain ⟨A, c, rfl⟩ := Kd.R_slice hv3
  obtain ⟨_, hlc, hC3⟩ := Kd.R_reads' hv3
  rw [List.length_append, List.length_singleton] at hlc
  replace K0 := Aside0.mk (hR3.blk K0.out (HBF.out b (Nat.le_refl _)))
  replace K1 := Aside0.mk (hR3.blk K1.out (HBF.out (b + 1) (by omega)))
  have HR3 := Aside0.mk (HR2.out.trans hR3 (fun _ _ h => h))
  have HF3 := Aside0.mk (show ∀ k, F3 k → F k ∨ b + 1 < k from fun k hk => (hF3 k hk).imp id (fun h => by omega))
  have HA3 := Aside0.mk hA3
  have HC3 := Aside0.mk hC3
  clear hA3 hF3 hR3 hv3 hC3 HA2 HR2 HTR
  obtain ⟨ad, e1, hx⟩ := Kd.at_int HC3.out (l0.length : Int) (by omega) (by simp; omega)
  cases e1
  rw [show rd (l0 ++ [x]) (l0.length : Int) = x by simp [rd], Int.toNat_natCast] at hx
  have hlm := Kd.C_max HC3.out
  rw [List.length_append, List.length_singleton] at hlm
  have hxo : ∀ o, (w3.alloc o).cell? (ad.add l0.length) = some (.int .i64 x) := fun o => ((below_alloc (Below.refl w3.heap.size w3) o).cell (World.block_lt_of_cell? w3 _ hx)).trans hx
  clear hx
  have t2 : decide (p ≤ next) = false := decide_eq_false (by omega)
  have a0 : ∀ o, (w3.alloc o).cell? ⟨b, 0, none⟩ = some (.int .i64 m) := fun o => (blk_cell (blk_alloc K0.out o) 0).trans rfl
  have a1 : ∀ o, (w3.alloc o).cell? ⟨b, 1, none⟩ = some (.int .i64 p) := fun o => (blk_cell (blk_alloc K0.out o) 1).trans rfl
  have a2 : ∀ o, (w3.alloc o).cell? ⟨b, 2, none⟩ = some (.int .i64 t) := fun o => (blk_cell (blk_alloc K0.out o) 2).trans rfl
  have a3 : ∀ o, (w3.alloc o).cell? ⟨b, 3, none⟩ = some (.int .i64 sp) := fun o => (blk_cell (blk_alloc K0.out o) 3).trans rfl
  have a4 : ∀ o, (w3.alloc o).cell? ⟨b, 4, none⟩ = some (.int .i64 r) := fun o => (blk_cell (blk_alloc K0.out o) 4).trans rfl
  have a5 : ∀ o, (w3.alloc o).cell? ⟨b, 5, none⟩ = some (.int .u64 ch) := fun o => (blk_cell (blk_alloc K0.out o) 5).trans rfl
  have z0 : ∀ o, (w3.alloc o).cell? ⟨b + 1, 0, none⟩ = some (.int .i64 0) := fun o => (blk_cell (blk_alloc K1.out o) 0).trans rfl
  have z1 : ∀ o, (w3.alloc o).cell? ⟨b + 1, 1, none⟩ = some (.int .i64 0) := fun o => (blk_cell (blk_alloc K1.out o) 1).trans rfl
  have z2 : ∀ o, (w3.alloc o).cell? ⟨b + 1, 2, none⟩ = some (.int .i64 0) := fun o => (blk_cell (blk_alloc K1.out o) 2).trans rfl
  have z3 : ∀ o, (w3.alloc o).cell? ⟨b + 1, 3, none⟩ = some (.int .i64 0) := fun o => (blk_cell (blk_alloc K1.out o) 3).trans rfl
  have z4 : ∀ o, (w3.alloc o).cell? ⟨b + 1, 4, none⟩ = some (.int .i64 0) := fun o => (blk_cell (blk_alloc K1.out o) 4).trans rfl
  have z5 : ∀ o, (w3.alloc o).cell? ⟨b + 1, 5, none⟩ = some (.int .u64 0) := fun o => (blk_cell (blk_alloc K1.out o) 5).trans rfl
  have f2 : ∀ o, (w3.alloc o).frozen? ⟨b, 2, none⟩ = false := fun o => blk_frozen (blk_alloc K0.out o) 2
  have f3 : ∀ o, (w3.alloc o).frozen? ⟨b, 3, none⟩ = false := fun o => blk_frozen (blk_alloc K0.out o) 3
  have g0 : ∀ o, (w3.alloc o).frozen? ⟨b + 1, 0, none⟩ = false := fun o => blk_frozen (blk_alloc K1.out o) 0
  have g1 : ∀ o, (w3.alloc o).frozen? ⟨b + 1, 1, none⟩ = false := fun o => blk_frozen (blk_alloc K1.out o) 1
  have g2 : ∀ o, (w3.alloc o).frozen? ⟨b + 1, 2, none⟩ = false := fun o => blk_frozen (blk_alloc K1.out o) 2
  have g3 : ∀ o, (w3.alloc o).frozen? ⟨b + 1, 3, none⟩ = false := fun o => blk_frozen (blk_alloc K1.out o) 3
  have g4 : ∀ o, (w3.alloc o).frozen? ⟨b + 1, 4, none⟩ = false := fun o => blk_frozen (blk_alloc K1.out o) 4
  have g5 : ∀ o, (w3.alloc o).frozen? ⟨b + 1, 5, none⟩ = false := fun o => blk_frozen (blk_alloc K1.out o) 5
  have t3 : decide (p ≤ x) = false := decide_eq_false (by omega)
  go_wp2_with fail
  go_quiet (fail)
  go_wp2_with fail
  obtain ⟨w4, hw4⟩ : ∃ w4, w4 = (w3.alloc (.cells #[.int .i64 next, .slice (some ad) (l0.length + 1) c] 98)).drewN nq := ⟨_, rfl⟩
  rw [← hw4]
  have HA4 := Aside0.mk (show S.At w4 F3 s1 by rw [hw4]; exact Shop.below HA3.out (pw_below_drewN (below_alloc (Below.refl _ _) _) _))
  have HR4 := Aside0.mk (show Fr F w w4 by rw [hw4]; exact (HR3.out.alloc _).then_below (pw_below_drewN (Below.refl _ _) _))
  have HC4 := Aside0.mk (show Kd.C (Kd.int .i64) w4 (some ad) l0.length l0 by rw [hw4]; exact C_pre (Kd.C_drewN (Kd.C_alloc HC3.out _) _))
  replace K0 := Aside0.mk (show w4.heap[b]? = some (.cells #[.int .i64 m, .int .i64 p, .int .i64 t, .int .i64 sp, .int .i64 r, .int .u64 ch] 48 (0, 0)) by rw [hw4]; exact blk_drewN (blk_alloc K0.out _) _)
  replace K1 := Aside0.mk (show w4.heap[b + 1]? = some (.cells #[.int .i64 0, .int .i64 0, .int .i64 0, .int .i64 0, .int .i64 0, .int .u64 0] 48 (0, 0)) by rw [hw4]; exact blk_drewN (blk_alloc K1.out _) _)
  have K7 := Aside0.mk (show w4.heap[w3.heap.size]? = some (.cells #[.int .i64 next, .slice (some ad) (l0.length + 1) c] 98 (0, 0)) by rw [hw4]; exact blk_drewN (blk_new w3 _) _)
  have hg7 : ¬ F3 w3.heap.size := fun hf => by have := S.bound HA3.out _ hf; omega
  have hs4 : w3.heap.size < w4.heap.size := by rw [hw4]; simp
  clear hw4
  obtain ⟨g, hg⟩ : ∃ g, g = w3.heap.size := ⟨_, rfl⟩
  rw [← hg] at K7 hg7 hs4 ⊢
  clear hg
  have HG7 := Aside0.mk hg7
  have hdiff : b ≠ g := by
    have h := blk_ne K0.out K7.out (by decide)
    exact h
  have hle : l0.length ≤ c := by omega
  clear hg7 HA3 HR3 HC3 a0 a1 a2 a3 a4 a5 z0 z1 z2 z3 z4 z5 f2 f3 g0 g1 g2 g3 g4 g5 hxo
  replace K0 := Aside0.mk (blk_drew K0.out)
  replace K1 := Aside0.mk (blk_drew K1.out)
  replace K7 := Aside0.mk (blk_drew K7.out)
  replace HA4 := Aside0.mk (Shop.below HA4.out (below_drew (Below.refl _ _)))
  replace HR4 := Aside0.mk (HR4.out.then_below (below_drew (Below.refl _ _)))
  replace HC4 := Aside0.mk (Kd.C_drew HC4.out)
  replace hs4 : g < w4.drew.heap.size := hs4
  refine start_ (n := 12) (S := fun w' => w'.cell? ⟨b, 2, none⟩ = some (.int .i64 t) ∧ w'.cell? ⟨g, 0, none⟩ = some (.int .i64 next) ∧ w'.cell? ⟨g, 1, none⟩ = some (.slice (some ad) (l0.length + 1) c)) (ds := []) #[false, false, false, false, false, false, false, false, false, false, false, false] (by kernel_rfl) rfl rfl ⟨(blk_cell K0.out 2).trans rfl, (blk_cell K7.out 0).trans rfl, (blk_cell K7.out 1).trans rfl⟩ (fun hHeld => ?_)
  generalize w4.drew = w4' at K0 K1 K7 HA4 HR4 HC4 hs4 hHeld ⊢
  refine pure_ (i := 0) (N := some 78) (v := ?_) (a' := ?_) #[true, false, false, false, false, false, false, false, false, false, false, false] rfl rfl (by kernel_rfl) (fun _ _ _ h => h) (Or.inl ⟨by rfl, ?_⟩) ?_ ?_
  rotate_left
  · intro w'
    go_simp
    with_reducible rfl
  rotate_left
  · simp only [Act.put, List.setIfInBounds_toArray, List.set_cons_zero, List.set_cons_succ]
    rfl
  refine pure_ (i := 1) (N := some 79) (v := ?_) (a' := ?_) #[true, true, false, false, false, false, false, false, false, false, false, false] rfl rfl (by kernel_rfl) (fun _ _ _ h => h) (Or.inl ⟨by rfl, ?_⟩) ?_ ?_
  rotate_left
  · intro w'
    go_simp
    with_reducible rfl
  rotate_left
  · simp only [Act.put, List.setIfInBounds_toArray, List.set_cons_zero, List.set_cons_succ]
    rfl
  refine take_ (i := 2) (N := some 80) (v := ?_) (a' := ?_) #[true, true, true, false, false, false, false, false, false, false, false, false] rfl rfl (by kernel_rfl) (fun _ _ _ h => h) (Or.inl ⟨by rfl, ?_⟩) hHeld ?_ ?_
  rotate_left
  · rintro w' ⟨s0, s1', s2⟩
    go_simp
    with_reducible rfl
  rotate_left
  · simp only [Act.put, List.setIfInBounds_toArray, List.set_cons_zero, List.set_cons_succ]
    rfl
  refine pure_ (i := 3) (N := some 81) (v := ?_) (a' := ?_) #[true, true, true, true, false, false, false, false, false, false, false, false] rfl rfl (by kernel_rfl) (fun _ _ _ h => h) (Or.inl ⟨by rfl, ?_⟩) ?_ ?_
  rotate_left
  · intro w'
    go_simp
    with_reducible rfl
  rotate_left
  · simp only [Act.put, List.setIfInBounds_toArray, List.set_cons_zero, List.set_cons_succ]
    rfl
  refine take_ (i := 4) (N := some 82) (v := ?_) (a' := ?_) #[true, true, true, true, true, false, false, false, false, false, false, false] rfl rfl (by kernel_rfl) (fun _ _ _ h => h) (Or.inl ⟨by rfl, ?_⟩) hHeld ?_ ?_
  rotate_left
  · rintro w' ⟨s0, s1', s2⟩
    go_simp
    with_reducible rfl
  rotate_left
  · simp only [Act.put, List.setIfInBounds_toArray, List.set_cons_zero, List.set_cons_succ]
    rfl
  refine pure_ (i := 5) (N := some 83) (v := ?_) (a' := ?_) #[true, true, true, true, true, true, false, false, false, false, false, false] rfl rfl (by kernel_rfl) (fun _ _ _ h => h) (Or.inl ⟨by rfl, ?_⟩) ?_ ?_
  rotate_left
  · intro w'
    go_simp
    with_reducible rfl
  rotate_left
  · simp only [Act.put, List.setIfInBounds_toArray, List.set_cons_zero, List.set_cons_succ]
    rfl
  refine take_ (i := 6) (N := some 84) (v := ?_) (a' := ?_) #[true, true, true, true, true, true, true, false, false, false, false, false] rfl rfl (by kernel_rfl) (fun _ _ _ h => h) (Or.inl ⟨by rfl, ?_⟩) hHeld ?_ ?_
  rotate_left
  · rintro w' ⟨s0, s1', s2⟩
    go_simp
    with_reducible rfl
  rotate_left
  · simp only [Act.put, List.setIfInBounds_toArray, List.set_cons_zero, List.set_cons_succ]
    rfl
  refine pure_ (i := 7) (N := some 85) (v := ?_) (a' := ?_) #[true, true, true, true, true, true, true, true, false, false, false, false] rfl rfl (by kernel_rfl) (fun _ _ _ h => h) (Or.inl ⟨by rfl, ?_⟩) ?_ ?_
  rotate_left
  · intro w'
    go_simp
    with_reducible rfl
  rotate_left
  · simp only [Act.put, List.setIfInBounds_toArray, List.set_cons_zero, List.set_cons_succ]
    rfl
  refine pure_ (i := 8) (N := some 86) (v := ?_) (a' := ?_) #[true, true, true, true, true, true, true, true, true, false, false, false] rfl rfl (by kernel_rfl) (fun _ _ _ h => h) (Or.inl ⟨by rfl, ?_⟩) ?_ ?_
  rotate_left
  · intro w'
    go_simp
    with_reducible rfl
  rotate_left
  · simp only [Act.put, List.setIfInBounds_toArray, List.set_cons_zero, List.set_cons_succ]
    rfl
  refine pure_ (i := 9) (N := some 87) (v := ?_) (a' := ?_) #[true, true, true, true, true, true, true, true, true, true, false, false] rfl rfl (by kernel_rfl) (fun _ _ _ h => h) (Or.inl ⟨by rfl, ?_⟩) ?_ ?_
  rotate_left
  · intro w'
    go_simp
    with_reducible rfl
  rotate_left
  · simp only [Act.put, List.setIfInBounds_toArray, List.set_cons_zero, List.set_cons_succ]
    rfl
  refine one_ (i := 10) (N := some 88) #[true, true, true, true, true, true, true, true, true, true, true, false] rfl rfl (by kernel_rfl) (by decide) (fun K hK => ?_)
  refine call_ 56 #[.iface S.T S.x, .int .i64 t, .agg #[.int .i64 next, .slice (some ad) l0.length c]] (by rfl) rfl (by go_simp) ?_
  refine (lay_calls S F3 s1 t next (some ad) c l0 _ HA4.out HFIT.out HC4.out (by omega)).mono ?_
  rw [HLY.out]
  rintro e w5 ⟨rfl, F5, hA5, hF5, hR5⟩
  refine ⟨.int .i64 e2, rfl, ?_⟩
  have K0' := Aside0.mk (hR5.blk K0.out (fun hf => by rcases HF3.out b hf with h1 | h1; exact HBF.out b (Nat.le_refl _) h1; omega))
  have K1' := Aside0.mk (hR5.blk K1.out (fun hf => by rcases HF3.out (b + 1) hf with h1 | h1; exact HBF.out (b + 1) (by omega) h1; omega))
  have K7' := Aside0.mk (hR5.blk K7.out HG7.out)
  have HR5 := Aside0.mk (HR4.out.trans hR5 (fun k hk hf => by rcases HF3.out k hf with h1 | h1; exact h1; have := HBW.out; omega))
  have HF5 := Aside0.mk (show ∀ k, F5 k → F k ∨ b + 1 < k from fun k hk => by
    rcases hF5 k hk with h1 | h1
    · exact HF3.out k h1
    · exact Or.inr (by have := blk_lt K1.out; omega))
  have HA5 := Aside0.mk hA5
  clear hA5 hF5 hR5 K0 K1 K7 HA4 HR4 HC4
  refine hK.out _ _ ⟨(blk_cell K0'.out 2).trans rfl, (blk_cell K7'.out 0).trans rfl, (blk_cell K7'.out 1).trans rfl⟩ (fun hHeld => ?_)
  clear hK K
  refine norm_ (a' := ?_) ?_ ?_
  rotate_left
  · show Act.put _ (some 88) _ = _
    simp only [Act.put, List.setIfInBounds_toArray, List.set_cons_zero, List.set_cons_succ]
    rfl
  refine pure_ (i := 11) (N := some 8) (v := ?_) (a' := ?_) #[true, true, true, true, true, true, true, true, true, true, true, true] rfl rfl (by kernel_rfl) (fun _ _ _ h => h) (Or.inl ⟨by rfl, ?_⟩) ?_ ?_
  rotate_left
  · intro w'
    go_simp
    with_reducible rfl
  rotate_left
  · simp only [Act.put, List.setIfInBounds_toArray, List.set_cons_zero, List.set_cons_succ]
    rfl
  refine done_ (by kernel_rfl) ?_
  have a0 : w5.cell? ⟨b, 0, none⟩ = some (.int .i64 m) := (blk_cell K0'.out 0).trans rfl
  have a1 : w5.cell? ⟨b, 1, none⟩ = some (.int .i64 p) := (blk_cell K0'.out 1).trans rfl
  have a2 : w5.cell? ⟨b, 2, none⟩ = some (.int .i64 t) := (blk_cell K0'.out 2).trans rfl
  have a3 : w5.cell? ⟨b, 3, none⟩ = some (.int .i64 sp) := (blk_cell K0'.out 3).trans rfl
  have a4 : w5.cell? ⟨b, 4, none⟩ = some (.int .i64 r) := (blk_cell K0'.out 4).trans rfl
  have a5 : w5.cell? ⟨b, 5, none⟩ = some (.int .u64 ch) := (blk_cell K0'.out 5).trans rfl
  have z0 : w5.cell? ⟨b + 1, 0, none⟩ = some (.int .i64 0) := (blk_cell K1'.out 0).trans rfl
  have z1 : w5.cell? ⟨b + 1, 1, none⟩ = some (.int .i64 0) := (blk_cell K1'.out 1).trans rfl
  have z2 : w5.cell? ⟨b + 1, 2, none⟩ = some (.int .i64 0) := (blk_cell K1'.out 2).trans rfl
  have z3 : w5.cell? ⟨b + 1, 3, none⟩ = some (.int .i64 0) := (blk_cell K1'.out 3).trans rfl
  have z4 : w5.cell? ⟨b + 1, 4, none⟩ = some (.int .i64 0) := (blk_cell K1'.out 4).trans rfl
  have z5 : w5.cell? ⟨b + 1, 5, none⟩ = some (.int .u64 0) := (blk_cell K1'.out 5).trans rfl
  have f2 : w5.frozen? ⟨b, 2, none⟩ = false := blk_frozen K0'.out 2
  have f3 : w5.frozen? ⟨b, 3, none⟩ = false := blk_frozen K0'.out 3
  have g0 : w5.frozen? ⟨b + 1, 0, none⟩ = false := blk_frozen K1'.out 0
  have g1 : w5.frozen? ⟨b + 1, 1, none⟩ = false := blk_frozen K1'.out 1
  have g2 : w5.frozen? ⟨b + 1, 2, none⟩ = false := blk_frozen K1'.out 2
  have g3 : w5.frozen? ⟨b + 1, 3, none⟩ = false := blk_frozen K1'.out 3
  have g4 : w5.frozen? ⟨b + 1, 4, none⟩ = false := blk_frozen K1'.out 4
  have g5 : w5.frozen? ⟨b + 1, 5, none⟩ = false := blk_frozen K1'.out 5
  clear hHeld
  go_wp2_with fail
  go_region
  go_wp2
  refine bodyPost_ret (results_tct rfl _ _ (b + 1) 48 #[.int .i64 m, .int .i64 p, .int .i64 t, .int .i64 (sp - 1), .int .i64 r, .int .u64 ch] (0, 0) _ rfl (blk_drew (put6 (blk_far K1'.out (show b + 1 ≠ b by omega) _) _ _ _ _ _ _)) Tryz.underlying48 rfl (by kernel_rfl)) rfl ?_
  refine ⟨rfl, F5, Shop.below (at6 (Shop.far (p := ⟨b, 3, none⟩) HA5.out (fun hf => by rcases HF5.out b hf with h1 | h1; exact HBF.out b (Nat.le_refl _) h1; omega) _) (fun hf => by rcases HF5.out (b + 1) hf with h1 | h1; exact HBF.out (b + 1) (by omega) h1; omega) _ _ _ _ _ _) (below_drew (Below.refl _ _)), fun k hk => (HF5.out k hk).imp id (fun h => by have := HBW.out; omega), (fr6 (HR5.out.setCell (p := ⟨b, 3, none⟩) (Or.inr (by have := HBW.out; show w.heap.size ≤ b; omega)) _) (Or.inr (by have := HBW.out; show w.heap.size ≤ b + 1; omega)) _ _ _ _ _ _).then_below (below_drew (Below.refl _ _))⟩
end Go.Proofs.YtonbipaajhokfaaGreatDoor
end
