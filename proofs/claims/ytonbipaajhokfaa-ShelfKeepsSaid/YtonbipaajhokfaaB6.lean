/-
  Walk: spare.Take over any store: the ways over a trunk.
-/
import Derived.Test.YtonbipaajhokfaaKC
import Derived.BigQuiet
set_option linter.unusedVariables false
set_option linter.unusedSimpArgs false
namespace Go.Proofs.Ytonbipaajhokfaa
open Go.RowKit Go.Proofs.YtonbipaajhokfaaW.PrintWords Go.Proofs.YtonbipaajhokfaaW.PrintLast Go.Proofs.YtonbipaajhokfaaW.PrintMore
variable {St : Type}
theorem C_pre {w : World} {A : Option Addr} {l0 : List Int} {x : Int} (h : Kd.C (Kd.int .i64) w A (l0 ++ [x]).length (l0 ++ [x])) : Kd.C (Kd.int .i64) w A l0.length l0 := by
  obtain ⟨h1, h2, h3⟩ := h
  obtain ⟨ad, e, hc⟩ := h3 (by simp)
  refine ⟨rfl, by simp at h2; omega, fun _ => ⟨ad, e, fun j p hj => hc j p ?_⟩⟩
  rw [List.getElem?_append_left (List.getElem?_eq_some_iff.1 hj).1]; exact hj
set_option maxHeartbeats 4000000 in
set_option maxRecDepth 100000 in
theorem take_C (S : Shop St) (F : Nat → Prop) (s s1 : St) (m p t sp r ch : Int) (next : Int) (l : List Int) (er : Int) (w : World) (h : S.At w F s) (h0 : sp ≠ 0) (htr : S.trunk s t = (s1, next, l, er)) (he : er ≠ 0) :
    Calls Try.prog 20 #[.agg #[.int .i64 m, .int .i64 p, .int .i64 t, .int .i64 sp, .int .i64 r, .int .u64 ch], .iface S.T S.x] w fun e w' => e = .returned (.tuple #[.int .i64 0, Hd.zero.v, .int .i64 er]) ∧ Goes (fun F' => S.At w' F' s1) F w w' := by
  have H := Aside0.mk h
  have HB := Aside0.mk (S.bound h)
  have HTR := Aside0.mk htr
  have hu35 := Try.underlying35
  have hu24 := Try.underlying24
  have t0 : (sp == 0) = false := by simp [h0]
  clear h h0 htr
  go_enter Try.func20, Try.ntmps20
  go_wp2_with fail
  obtain ⟨w2, hw2⟩ : ∃ w2, w2 = (w.alloc (.cells #[.int .i64 m, .int .i64 p, .int .i64 t, .int .i64 sp, .int .i64 r, .int .u64 ch] 35)).alloc (.cells #[.int .i64 0, .int .i64 0, .int .i64 0, .int .i64 0, .int .i64 0, .int .u64 0] 35) := ⟨_, rfl⟩
  rw [← hw2]
  have HA2 := Aside0.mk (show S.At w2 F s by rw [hw2]; exact Shop.below H.out (below_alloc (below_alloc (Below.refl _ _) _) _))
  have HR2 := Aside0.mk (show Fr F w w2 by rw [hw2]; exact ((Fr.refl F w).alloc _).alloc _)
  have K0 := Aside0.mk (show w2.heap[w.heap.size]? = some (.cells #[.int .i64 m, .int .i64 p, .int .i64 t, .int .i64 sp, .int .i64 r, .int .u64 ch] 35 (0, 0)) by rw [hw2]; exact blk_alloc (blk_new w _) _)
  have K1 := Aside0.mk (show w2.heap[w.heap.size + 1]? = some (.cells #[.int .i64 0, .int .i64 0, .int .i64 0, .int .i64 0, .int .i64 0, .int .u64 0] 35 (0, 0)) by
    rw [hw2]
    have := blk_new (w.alloc (.cells #[.int .i64 m, .int .i64 p, .int .i64 t, .int .i64 sp, .int .i64 r, .int .u64 ch] 35)) (.cells #[.int .i64 0, .int .i64 0, .int .i64 0, .int .i64 0, .int .i64 0, .int .u64 0] 35)
    simpa using this)
  have hs2 : w.heap.size + 1 < w2.heap.size := by rw [hw2]; simp
  clear hw2
  obtain ⟨b, hb⟩ : ∃ b, b = w.heap.size := ⟨_, rfl⟩
  rw [← hb] at K0 K1 hs2 ⊢
  have hbF : ∀ k, b ≤ k → ¬ F k := fun k hk hf => by have := HB.out k hf; omega
  have HBF := Aside0.mk hbF
  have HBW := Aside0.mk hb
  clear hb hbF
  refine (trunk_calls S F s t w2 HA2.out).mono ?_
  rw [HTR.out]
  rintro e w3 ⟨v, rfl, F3, hA3, hF3, hR3, hv3⟩
  obtain ⟨A, c, rfl⟩ := Kd.R_slice hv3
  obtain ⟨_, hlc, hC3⟩ := Kd.R_reads' hv3
  replace K0 := Aside0.mk (hR3.blk K0.out (HBF.out b (Nat.le_refl _)))
  replace K1 := Aside0.mk (hR3.blk K1.out (HBF.out (b + 1) (by omega)))
  have HR3 := Aside0.mk (HR2.out.trans hR3 (fun _ _ h => h))
  have HF3 := Aside0.mk (show ∀ k, F3 k → F k ∨ b + 1 < k from fun k hk => (hF3 k hk).imp id (fun h => by omega))
  have HA3 := Aside0.mk hA3
  have HC3 := Aside0.mk hC3
  clear hA3 hF3 hR3 hv3 hC3 HA2 HR2 HTR
  have t1 : (er != 0) = true := by simp [he]
  clear he
  have a0 : ∀ o, (w3.alloc o).cell? ⟨b, 0, none⟩ = some (.int .i64 m) := fun o => (blk_cell (blk_alloc K0.out o) 0).trans rfl
  have a1 : ∀ o, (w3.alloc o).cell? ⟨b, 1, none⟩ = some (.int .i64 p) := fun o => (blk_cell (blk_alloc K0.out o) 1).trans rfl
  have a2 : ∀ o, (w3.alloc o).cell? ⟨b, 2, none⟩ = some (.int .i64 t) := fun o => (blk_cell (blk_alloc K0.out o) 2).trans rfl
  have a3 : ∀ o, (w3.alloc o).cell? ⟨b, 3, none⟩ = some (.int .i64 sp) := fun o => (blk_cell (blk_alloc K0.out o) 3).trans rfl
  have a4 : ∀ o, (w3.alloc o).cell? ⟨b, 4, none⟩ = some (.int .i64 r) := fun o => (blk_cell (blk_alloc K0.out o) 4).trans rfl
  have a5 : ∀ o, (w3.alloc o).cell? ⟨b, 5, none⟩ = some (.int .u64 ch) := fun o => (blk_cell (blk_alloc K0.out o) 5).trans rfl
  have z0 : ∀ o, (w3.alloc o).cell? ⟨b + 1, 0, none⟩ = some (.int .i64 0) := fun o => (blk_cell (blk_alloc K1.out o) 0).trans rfl
  have z1 : ∀ o, (w3.alloc o).cell? ⟨b + 1, 1, none⟩ = some (.int .i64 0) := fun o => (blk_cell (blk_alloc K1.out o) 1).trans rfl
  have z2 : ∀ o, (w3.alloc o).cell? ⟨b + 1, 2, none⟩ = some (.int .i64 0) := fun o => (blk_cell (blk_alloc K1.out o) 2).trans rfl
  have z3 : ∀ o, (w3.alloc o).cell? ⟨b + 1, 3, none⟩ = some (.int .i64 0) := fun o => (blk_cell (blk_alloc K1.out o) 3).trans rfl
  have z4 : ∀ o, (w3.alloc o).cell? ⟨b + 1, 4, none⟩ = some (.int .i64 0) := fun o => (blk_cell (blk_alloc K1.out o) 4).trans rfl
  have z5 : ∀ o, (w3.alloc o).cell? ⟨b + 1, 5, none⟩ = some (.int .u64 0) := fun o => (blk_cell (blk_alloc K1.out o) 5).trans rfl
  have f2 : ∀ o, (w3.alloc o).frozen? ⟨b, 2, none⟩ = false := fun o => blk_frozen (blk_alloc K0.out o) 2
  have f3 : ∀ o, (w3.alloc o).frozen? ⟨b, 3, none⟩ = false := fun o => blk_frozen (blk_alloc K0.out o) 3
  have g0 : ∀ o, (w3.alloc o).frozen? ⟨b + 1, 0, none⟩ = false := fun o => blk_frozen (blk_alloc K1.out o) 0
  have g1 : ∀ o, (w3.alloc o).frozen? ⟨b + 1, 1, none⟩ = false := fun o => blk_frozen (blk_alloc K1.out o) 1
  have g2 : ∀ o, (w3.alloc o).frozen? ⟨b + 1, 2, none⟩ = false := fun o => blk_frozen (blk_alloc K1.out o) 2
  have g3 : ∀ o, (w3.alloc o).frozen? ⟨b + 1, 3, none⟩ = false := fun o => blk_frozen (blk_alloc K1.out o) 3
  have g4 : ∀ o, (w3.alloc o).frozen? ⟨b + 1, 4, none⟩ = false := fun o => blk_frozen (blk_alloc K1.out o) 4
  have g5 : ∀ o, (w3.alloc o).frozen? ⟨b + 1, 5, none⟩ = false := fun o => blk_frozen (blk_alloc K1.out o) 5
  go_wp2
  refine bodyPost_ret (results_tct rfl _ _ (b + 1) 35 #[.int .i64 0, .int .i64 0, .int .i64 0, .int .i64 0, .int .i64 0, .int .u64 0] (0, 0) _ rfl (put6 (blk_alloc K1.out _) _ _ _ _ _ _) Try.underlying35 rfl (by kernel_rfl)) rfl ?_
  refine ⟨rfl, F3, at6 (Shop.below HA3.out (below_alloc (Below.refl _ _) _)) (fun hf => by rcases HF3.out _ hf with h1 | h1; exact HBF.out _ (by omega) h1; omega) _ _ _ _ _ _, fun k hk => (HF3.out k hk).imp id (fun h => by have := HBW.out; omega), fr6 (HR3.out.alloc _) (Or.inr (by have := HBW.out; show w.heap.size ≤ b + 1; omega)) _ _ _ _ _ _⟩
set_option maxHeartbeats 4000000 in
set_option maxRecDepth 100000 in
theorem take_D (S : Shop St) (F : Nat → Prop) (s s1 : St) (m p t sp r ch : Int) (next : Int) (l : List Int) (er : Int) (w : World) (h : S.At w F s) (h0 : sp ≠ 0) (htr : S.trunk s t = (s1, next, l, er)) (he : er = 0) (hD : p ≤ next) :
    Calls Try.prog 20 #[.agg #[.int .i64 m, .int .i64 p, .int .i64 t, .int .i64 sp, .int .i64 r, .int .u64 ch], .iface S.T S.x] w fun e w' => e = .returned (.tuple #[.int .i64 0, Hd.zero.v, .int .i64 30]) ∧ Goes (fun F' => S.At w' F' s1) F w w' := by
  have H := Aside0.mk h
  have HB := Aside0.mk (S.bound h)
  have HTR := Aside0.mk htr
  have hu35 := Try.underlying35
  have hu24 := Try.underlying24
  have t0 : (sp == 0) = false := by simp [h0]
  clear h h0 htr
  go_enter Try.func20, Try.ntmps20
  go_wp2_with fail
  obtain ⟨w2, hw2⟩ : ∃ w2, w2 = (w.alloc (.cells #[.int .i64 m, .int .i64 p, .int .i64 t, .int .i64 sp, .int .i64 r, .int .u64 ch] 35)).alloc (.cells #[.int .i64 0, .int .i64 0, .int .i64 0, .int .i64 0, .int .i64 0, .int .u64 0] 35) := ⟨_, rfl⟩
  rw [← hw2]
  have HA2 := Aside0.mk (show S.At w2 F s by rw [hw2]; exact Shop.below H.out (below_alloc (below_alloc (Below.refl _ _) _) _))
  have HR2 := Aside0.mk (show Fr F w w2 by rw [hw2]; exact ((Fr.refl F w).alloc _).alloc _)
  have K0 := Aside0.mk (show w2.heap[w.heap.size]? = some (.cells #[.int .i64 m, .int .i64 p, .int .i64 t, .int .i64 sp, .int .i64 r, .int .u64 ch] 35 (0, 0)) by rw [hw2]; exact blk_alloc (blk_new w _) _)
  have K1 := Aside0.mk (show w2.heap[w.heap.size + 1]? = some (.cells #[.int .i64 0, .int .i64 0, .int .i64 0, .int .i64 0, .int .i64 0, .int .u64 0] 35 (0, 0)) by
    rw [hw2]
    have := blk_new (w.alloc (.cells #[.int .i64 m, .int .i64 p, .int .i64 t, .int .i64 sp, .int .i64 r, .int .u64 ch] 35)) (.cells #[.int .i64 0, .int .i64 0, .int .i64 0, .int .i64 0, .int .i64 0, .int .u64 0] 35)
    simpa using this)
  have hs2 : w.heap.size + 1 < w2.heap.size := by rw [hw2]; simp
  clear hw2
  obtain ⟨b, hb⟩ : ∃ b, b = w.heap.size := ⟨_, rfl⟩
  rw [← hb] at K0 K1 hs2 ⊢
  have hbF : ∀ k, b ≤ k → ¬ F k := fun k hk hf => by have := HB.out k hf; omega
  have HBF := Aside0.mk hbF
  have HBW := Aside0.mk hb
  clear hb hbF
  refine (trunk_calls S F s t w2 HA2.out).mono ?_
  rw [HTR.out]
  rintro e w3 ⟨v, rfl, F3, hA3, hF3, hR3, hv3⟩
  obtain ⟨A, c, rfl⟩ := Kd.R_slice hv3
  obtain ⟨_, hlc, hC3⟩ := Kd.R_reads' hv3
  replace K0 := Aside0.mk (hR3.blk K0.out (HBF.out b (Nat.le_refl _)))
  replace K1 := Aside0.mk (hR3.blk K1.out (HBF.out (b + 1) (by omega)))
  have HR3 := Aside0.mk (HR2.out.trans hR3 (fun _ _ h => h))
  have HF3 := Aside0.mk (show ∀ k, F3 k → F k ∨ b + 1 < k from fun k hk => (hF3 k hk).imp id (fun h => by omega))
  have HA3 := Aside0.mk hA3
  have HC3 := Aside0.mk hC3
  clear hA3 hF3 hR3 hv3 hC3 HA2 HR2 HTR
  have t1 : (er != 0) = false := by simp [he]
  have t2 : decide (p ≤ next) = true := decide_eq_true hD
  have hlm := Kd.C_max HC3.out
  clear he
  have a0 : ∀ o, (w3.alloc o).cell? ⟨b, 0, none⟩ = some (.int .i64 m) := fun o => (blk_cell (blk_alloc K0.out o) 0).trans rfl
  have a1 : ∀ o, (w3.alloc o).cell? ⟨b, 1, none⟩ = some (.int .i64 p) := fun o => (blk_cell (blk_alloc K0.out o) 1).trans rfl
  have a2 : ∀ o, (w3.alloc o).cell? ⟨b, 2, none⟩ = some (.int .i64 t) := fun o => (blk_cell (blk_alloc K0.out o) 2).trans rfl
  have a3 : ∀ o, (w3.alloc o).cell? ⟨b, 3, none⟩ = some (.int .i64 sp) := fun o => (blk_cell (blk_alloc K0.out o) 3).trans rfl
  have a4 : ∀ o, (w3.alloc o).cell? ⟨b, 4, none⟩ = some (.int .i64 r) := fun o => (blk_cell (blk_alloc K0.out o) 4).trans rfl
  have a5 : ∀ o, (w3.alloc o).cell? ⟨b, 5, none⟩ = some (.int .u64 ch) := fun o => (blk_cell (blk_alloc K0.out o) 5).trans rfl
  have z0 : ∀ o, (w3.alloc o).cell? ⟨b + 1, 0, none⟩ = some (.int .i64 0) := fun o => (blk_cell (blk_alloc K1.out o) 0).trans rfl
  have z1 : ∀ o, (w3.alloc o).cell? ⟨b + 1, 1, none⟩ = some (.int .i64 0) := fun o => (blk_cell (blk_alloc K1.out o) 1).trans rfl
  have z2 : ∀ o, (w3.alloc o).cell? ⟨b + 1, 2, none⟩ = some (.int .i64 0) := fun o => (blk_cell (blk_alloc K1.out o) 2).trans rfl
  have z3 : ∀ o, (w3.alloc o).cell? ⟨b + 1, 3, none⟩ = some (.int .i64 0) := fun o => (blk_cell (blk_alloc K1.out o) 3).trans rfl
  have z4 : ∀ o, (w3.alloc o).cell? ⟨b + 1, 4, none⟩ = some (.int .i64 0) := fun o => (blk_cell (blk_alloc K1.out o) 4).trans rfl
  have z5 : ∀ o, (w3.alloc o).cell? ⟨b + 1, 5, none⟩ = some (.int .u64 0) := fun o => (blk_cell (blk_alloc K1.out o) 5).trans rfl
  have f2 : ∀ o, (w3.alloc o).frozen? ⟨b, 2, none⟩ = false := fun o => blk_frozen (blk_alloc K0.out o) 2
  have f3 : ∀ o, (w3.alloc o).frozen? ⟨b, 3, none⟩ = false := fun o => blk_frozen (blk_alloc K0.out o) 3
  have g0 : ∀ o, (w3.alloc o).frozen? ⟨b + 1, 0, none⟩ = false := fun o => blk_frozen (blk_alloc K1.out o) 0
  have g1 : ∀ o, (w3.alloc o).frozen? ⟨b + 1, 1, none⟩ = false := fun o => blk_frozen (blk_alloc K1.out o) 1
  have g2 : ∀ o, (w3.alloc o).frozen? ⟨b + 1, 2, none⟩ = false := fun o => blk_frozen (blk_alloc K1.out o) 2
  have g3 : ∀ o, (w3.alloc o).frozen? ⟨b + 1, 3, none⟩ = false := fun o => blk_frozen (blk_alloc K1.out o) 3
  have g4 : ∀ o, (w3.alloc o).frozen? ⟨b + 1, 4, none⟩ = false := fun o => blk_frozen (blk_alloc K1.out o) 4
  have g5 : ∀ o, (w3.alloc o).frozen? ⟨b + 1, 5, none⟩ = false := fun o => blk_frozen (blk_alloc K1.out o) 5
  go_wp2_with fail
  go_quiet (fail)
  go_wp2
  refine bodyPost_ret (results_tct rfl _ _ (b + 1) 35 #[.int .i64 0, .int .i64 0, .int .i64 0, .int .i64 0, .int .i64 0, .int .u64 0] (0, 0) _ rfl (put6 (blk_drewN (blk_alloc K1.out _) _) _ _ _ _ _ _) Try.underlying35 rfl (by kernel_rfl)) rfl ?_
  refine ⟨rfl, F3, at6 (Shop.below HA3.out (pw_below_drewN (below_alloc (Below.refl _ _) _) _)) (fun hf => by rcases HF3.out _ hf with h1 | h1; exact HBF.out _ (by omega) h1; omega) _ _ _ _ _ _, fun k hk => (HF3.out k hk).imp id (fun h => by have := HBW.out; omega), fr6 ((HR3.out.alloc _).then_below (pw_below_drewN (Below.refl _ _) _)) (Or.inr (by have := HBW.out; show w.heap.size ≤ b + 1; omega)) _ _ _ _ _ _⟩
set_option maxHeartbeats 4000000 in
set_option maxRecDepth 100000 in
theorem take_E1a (S : Shop St) (F : Nat → Prop) (s s1 : St) (m p t sp r ch : Int) (next : Int) (l : List Int) (er : Int) (w : World) (h : S.At w F s) (h0 : sp ≠ 0) (htr : S.trunk s t = (s1, next, l, er)) (t1 : (er != 0) = false) (hD : next < p) (hl : l = []) (t5 : (next == 0) = true) (t6 : (sp == 1) = false) :
    Calls Try.prog 20 #[.agg #[.int .i64 m, .int .i64 p, .int .i64 t, .int .i64 sp, .int .i64 r, .int .u64 ch], .iface S.T S.x] w fun e w' => e = .returned (.tuple #[.int .i64 0, Hd.zero.v, .int .i64 30]) ∧ Goes (fun F' => S.At w' F' s1) F w w' := by
  have H := Aside0.mk h
  have HB := Aside0.mk (S.bound h)
  have HTR := Aside0.mk htr
  have hu35 := Try.underlying35
  have hu24 := Try.underlying24
  have t0 : (sp == 0) = false := by simp [h0]
  clear h h0 htr
  go_enter Try.func20, Try.ntmps20
  go_wp2_with fail
  obtain ⟨w2, hw2⟩ : ∃ w2, w2 = (w.alloc (.cells #[.int .i64 m, .int .i64 p, .int .i64 t, .int .i64 sp, .int .i64 r, .int .u64 ch] 35)).alloc (.cells #[.int .i64 0, .int .i64 0, .int .i64 0, .int .i64 0, .int .i64 0, .int .u64 0] 35) := ⟨_, rfl⟩
  rw [← hw2]
  have HA2 := Aside0.mk (show S.At w2 F s by rw [hw2]; exact Shop.below H.out (below_alloc (below_alloc (Below.refl _ _) _) _))
  have HR2 := Aside0.mk (show Fr F w w2 by rw [hw2]; exact ((Fr.refl F w).alloc _).alloc _)
  have K0 := Aside0.mk (show w2.heap[w.heap.size]? = some (.cells #[.int .i64 m, .int .i64 p, .int .i64 t, .int .i64 sp, .int .i64 r, .int .u64 ch] 35 (0, 0)) by rw [hw2]; exact blk_alloc (blk_new w _) _)
  have K1 := Aside0.mk (show w2.heap[w.heap.size + 1]? = some (.cells #[.int .i64 0, .int .i64 0, .int .i64 0, .int .i64 0, .int .i64 0, .int .u64 0] 35 (0, 0)) by
    rw [hw2]
    have := blk_new (w.alloc (.cells #[.int .i64 m, .int .i64 p, .int .i64 t, .int .i64 sp, .int .i64 r, .int .u64 ch] 35)) (.cells #[.int .i64 0, .int .i64 0, .int .i64 0, .int .i64 0, .int .i64 0, .int .u64 0] 35)
    simpa using this)
  have hs2 : w.heap.size + 1 < w2.heap.size := by rw [hw2]; simp
  clear hw2
  obtain ⟨b, hb⟩ : ∃ b, b = w.heap.size := ⟨_, rfl⟩
  rw [← hb] at K0 K1 hs2 ⊢
  have hbF : ∀ k, b ≤ k → ¬ F k := fun k hk hf => by have := HB.out k hf; omega
  have HBF := Aside0.mk hbF
  have HBW := Aside0.mk hb
  clear hb hbF
  refine (trunk_calls S F s t w2 HA2.out).mono ?_
  rw [HTR.out]
  rintro e w3 ⟨v, rfl, F3, hA3, hF3, hR3, hv3⟩
  obtain ⟨A, c, rfl⟩ := Kd.R_slice hv3
  obtain ⟨_, hlc, hC3⟩ := Kd.R_reads' hv3
  replace K0 := Aside0.mk (hR3.blk K0.out (HBF.out b (Nat.le_refl _)))
  replace K1 := Aside0.mk (hR3.blk K1.out (HBF.out (b + 1) (by omega)))
  have HR3 := Aside0.mk (HR2.out.trans hR3 (fun _ _ h => h))
  have HF3 := Aside0.mk (show ∀ k, F3 k → F k ∨ b + 1 < k from fun k hk => (hF3 k hk).imp id (fun h => by omega))
  have HA3 := Aside0.mk hA3
  have HC3 := Aside0.mk hC3
  clear hA3 hF3 hR3 hv3 hC3 HA2 HR2 HTR
  have t2 : decide (p ≤ next) = false := decide_eq_false (by omega)
  subst hl
  have a0 : ∀ o, (w3.alloc o).cell? ⟨b, 0, none⟩ = some (.int .i64 m) := fun o => (blk_cell (blk_alloc K0.out o) 0).trans rfl
  have a1 : ∀ o, (w3.alloc o).cell? ⟨b, 1, none⟩ = some (.int .i64 p) := fun o => (blk_cell (blk_alloc K0.out o) 1).trans rfl
  have a2 : ∀ o, (w3.alloc o).cell? ⟨b, 2, none⟩ = some (.int .i64 t) := fun o => (blk_cell (blk_alloc K0.out o) 2).trans rfl
  have a3 : ∀ o, (w3.alloc o).cell? ⟨b, 3, none⟩ = some (.int .i64 sp) := fun o => (blk_cell (blk_alloc K0.out o) 3).trans rfl
  have a4 : ∀ o, (w3.alloc o).cell? ⟨b, 4, none⟩ = some (.int .i64 r) := fun o => (blk_cell (blk_alloc K0.out o) 4).trans rfl
  have a5 : ∀ o, (w3.alloc o).cell? ⟨b, 5, none⟩ = some (.int .u64 ch) := fun o => (blk_cell (blk_alloc K0.out o) 5).trans rfl
  have z0 : ∀ o, (w3.alloc o).cell? ⟨b + 1, 0, none⟩ = some (.int .i64 0) := fun o => (blk_cell (blk_alloc K1.out o) 0).trans rfl
  have z1 : ∀ o, (w3.alloc o).cell? ⟨b + 1, 1, none⟩ = some (.int .i64 0) := fun o => (blk_cell (blk_alloc K1.out o) 1).trans rfl
  have z2 : ∀ o, (w3.alloc o).cell? ⟨b + 1, 2, none⟩ = some (.int .i64 0) := fun o => (blk_cell (blk_alloc K1.out o) 2).trans rfl
  have z3 : ∀ o, (w3.alloc o).cell? ⟨b + 1, 3, none⟩ = some (.int .i64 0) := fun o => (blk_cell (blk_alloc K1.out o) 3).trans rfl
  have z4 : ∀ o, (w3.alloc o).cell? ⟨b + 1, 4, none⟩ = some (.int .i64 0) := fun o => (blk_cell (blk_alloc K1.out o) 4).trans rfl
  have z5 : ∀ o, (w3.alloc o).cell? ⟨b + 1, 5, none⟩ = some (.int .u64 0) := fun o => (blk_cell (blk_alloc K1.out o) 5).trans rfl
  have f2 : ∀ o, (w3.alloc o).frozen? ⟨b, 2, none⟩ = false := fun o => blk_frozen (blk_alloc K0.out o) 2
  have f3 : ∀ o, (w3.alloc o).frozen? ⟨b, 3, none⟩ = false := fun o => blk_frozen (blk_alloc K0.out o) 3
  have g0 : ∀ o, (w3.alloc o).frozen? ⟨b + 1, 0, none⟩ = false := fun o => blk_frozen (blk_alloc K1.out o) 0
  have g1 : ∀ o, (w3.alloc o).frozen? ⟨b + 1, 1, none⟩ = false := fun o => blk_frozen (blk_alloc K1.out o) 1
  have g2 : ∀ o, (w3.alloc o).frozen? ⟨b + 1, 2, none⟩ = false := fun o => blk_frozen (blk_alloc K1.out o) 2
  have g3 : ∀ o, (w3.alloc o).frozen? ⟨b + 1, 3, none⟩ = false := fun o => blk_frozen (blk_alloc K1.out o) 3
  have g4 : ∀ o, (w3.alloc o).frozen? ⟨b + 1, 4, none⟩ = false := fun o => blk_frozen (blk_alloc K1.out o) 4
  have g5 : ∀ o, (w3.alloc o).frozen? ⟨b + 1, 5, none⟩ = false := fun o => blk_frozen (blk_alloc K1.out o) 5
  go_wp2_with fail
  go_quiet (fail)
  go_wp2
  refine bodyPost_ret (results_tct rfl _ _ (b + 1) 35 #[.int .i64 0, .int .i64 0, .int .i64 0, .int .i64 0, .int .i64 0, .int .u64 0] (0, 0) _ rfl (put6 (blk_far (blk_drewN (blk_alloc K1.out _) _) (show b + 1 ≠ b by omega) _) _ _ _ _ _ _) Try.underlying35 rfl (by kernel_rfl)) rfl ?_
  refine ⟨rfl, F3, at6 (Shop.far (p := ⟨b, 2, none⟩) (Shop.below HA3.out (pw_below_drewN (below_alloc (Below.refl _ _) _) _)) (fun hf => by rcases HF3.out b hf with h1 | h1; exact HBF.out b (Nat.le_refl _) h1; omega) _) (fun hf => by rcases HF3.out _ hf with h1 | h1; exact HBF.out _ (by omega) h1; omega) _ _ _ _ _ _, fun k hk => (HF3.out k hk).imp id (fun h => by have := HBW.out; omega), fr6 (((HR3.out.alloc _).then_below (pw_below_drewN (Below.refl _ _) _)).setCell (p := ⟨b, 2, none⟩) (Or.inr (by have := HBW.out; show w.heap.size ≤ b; omega)) _) (Or.inr (by have := HBW.out; show w.heap.size ≤ b + 1; omega)) _ _ _ _ _ _⟩
set_option maxHeartbeats 4000000 in
set_option maxRecDepth 100000 in
theorem take_E1b (S : Shop St) (F : Nat → Prop) (s s1 : St) (m p t sp r ch : Int) (next : Int) (l : List Int) (er : Int) (w : World) (h : S.At w F s) (h0 : sp ≠ 0) (htr : S.trunk s t = (s1, next, l, er)) (t1 : (er != 0) = false) (hD : next < p) (hl : l = []) (t5 : (next == 0) = false) (t6 : (sp == 1) = true) :
    Calls Try.prog 20 #[.agg #[.int .i64 m, .int .i64 p, .int .i64 t, .int .i64 sp, .int .i64 r, .int .u64 ch], .iface S.T S.x] w fun e w' => e = .returned (.tuple #[.int .i64 0, Hd.zero.v, .int .i64 30]) ∧ Goes (fun F' => S.At w' F' s1) F w w' := by
  have H := Aside0.mk h
  have HB := Aside0.mk (S.bound h)
  have HTR := Aside0.mk htr
  have hu35 := Try.underlying35
  have hu24 := Try.underlying24
  have t0 : (sp == 0) = false := by simp [h0]
  clear h h0 htr
  go_enter Try.func20, Try.ntmps20
  go_wp2_with fail
  obtain ⟨w2, hw2⟩ : ∃ w2, w2 = (w.alloc (.cells #[.int .i64 m, .int .i64 p, .int .i64 t, .int .i64 sp, .int .i64 r, .int .u64 ch] 35)).alloc (.cells #[.int .i64 0, .int .i64 0, .int .i64 0, .int .i64 0, .int .i64 0, .int .u64 0] 35) := ⟨_, rfl⟩
  rw [← hw2]
  have HA2 := Aside0.mk (show S.At w2 F s by rw [hw2]; exact Shop.below H.out (below_alloc (below_alloc (Below.refl _ _) _) _))
  have HR2 := Aside0.mk (show Fr F w w2 by rw [hw2]; exact ((Fr.refl F w).alloc _).alloc _)
  have K0 := Aside0.mk (show w2.heap[w.heap.size]? = some (.cells #[.int .i64 m, .int .i64 p, .int .i64 t, .int .i64 sp, .int .i64 r, .int .u64 ch] 35 (0, 0)) by rw [hw2]; exact blk_alloc (blk_new w _) _)
  have K1 := Aside0.mk (show w2.heap[w.heap.size + 1]? = some (.cells #[.int .i64 0, .int .i64 0, .int .i64 0, .int .i64 0, .int .i64 0, .int .u64 0] 35 (0, 0)) by
    rw [hw2]
    have := blk_new (w.alloc (.cells #[.int .i64 m, .int .i64 p, .int .i64 t, .int .i64 sp, .int .i64 r, .int .u64 ch] 35)) (.cells #[.int .i64 0, .int .i64 0, .int .i64 0, .int .i64 0, .int .i64 0, .int .u64 0] 35)
    simpa using this)
  have hs2 : w.heap.size + 1 < w2.heap.size := by rw [hw2]; simp
  clear hw2
  obtain ⟨b, hb⟩ : ∃ b, b = w.heap.size := ⟨_, rfl⟩
  rw [← hb] at K0 K1 hs2 ⊢
  have hbF : ∀ k, b ≤ k → ¬ F k := fun k hk hf => by have := HB.out k hf; omega
  have HBF := Aside0.mk hbF
  have HBW := Aside0.mk hb
  clear hb hbF
  refine (trunk_calls S F s t w2 HA2.out).mono ?_
  rw [HTR.out]
  rintro e w3 ⟨v, rfl, F3, hA3, hF3, hR3, hv3⟩
  obtain ⟨A, c, rfl⟩ := Kd.R_slice hv3
  obtain ⟨_, hlc, hC3⟩ := Kd.R_reads' hv3
  replace K0 := Aside0.mk (hR3.blk K0.out (HBF.out b (Nat.le_refl _)))
  replace K1 := Aside0.mk (hR3.blk K1.out (HBF.out (b + 1) (by omega)))
  have HR3 := Aside0.mk (HR2.out.trans hR3 (fun _ _ h => h))
  have HF3 := Aside0.mk (show ∀ k, F3 k → F k ∨ b + 1 < k from fun k hk => (hF3 k hk).imp id (fun h => by omega))
  have HA3 := Aside0.mk hA3
  have HC3 := Aside0.mk hC3
  clear hA3 hF3 hR3 hv3 hC3 HA2 HR2 HTR
  have t2 : decide (p ≤ next) = false := decide_eq_false (by omega)
  subst hl
  have a0 : ∀ o, (w3.alloc o).cell? ⟨b, 0, none⟩ = some (.int .i64 m) := fun o => (blk_cell (blk_alloc K0.out o) 0).trans rfl
  have a1 : ∀ o, (w3.alloc o).cell? ⟨b, 1, none⟩ = some (.int .i64 p) := fun o => (blk_cell (blk_alloc K0.out o) 1).trans rfl
  have a2 : ∀ o, (w3.alloc o).cell? ⟨b, 2, none⟩ = some (.int .i64 t) := fun o => (blk_cell (blk_alloc K0.out o) 2).trans rfl
  have a3 : ∀ o, (w3.alloc o).cell? ⟨b, 3, none⟩ = some (.int .i64 sp) := fun o => (blk_cell (blk_alloc K0.out o) 3).trans rfl
  have a4 : ∀ o, (w3.alloc o).cell? ⟨b, 4, none⟩ = some (.int .i64 r) := fun o => (blk_cell (blk_alloc K0.out o) 4).trans rfl
  have a5 : ∀ o, (w3.alloc o).cell? ⟨b, 5, none⟩ = some (.int .u64 ch) := fun o => (blk_cell (blk_alloc K0.out o) 5).trans rfl
  have z0 : ∀ o, (w3.alloc o).cell? ⟨b + 1, 0, none⟩ = some (.int .i64 0) := fun o => (blk_cell (blk_alloc K1.out o) 0).trans rfl
  have z1 : ∀ o, (w3.alloc o).cell? ⟨b + 1, 1, none⟩ = some (.int .i64 0) := fun o => (blk_cell (blk_alloc K1.out o) 1).trans rfl
  have z2 : ∀ o, (w3.alloc o).cell? ⟨b + 1, 2, none⟩ = some (.int .i64 0) := fun o => (blk_cell (blk_alloc K1.out o) 2).trans rfl
  have z3 : ∀ o, (w3.alloc o).cell? ⟨b + 1, 3, none⟩ = some (.int .i64 0) := fun o => (blk_cell (blk_alloc K1.out o) 3).trans rfl
  have z4 : ∀ o, (w3.alloc o).cell? ⟨b + 1, 4, none⟩ = some (.int .i64 0) := fun o => (blk_cell (blk_alloc K1.out o) 4).trans rfl
  have z5 : ∀ o, (w3.alloc o).cell? ⟨b + 1, 5, none⟩ = some (.int .u64 0) := fun o => (blk_cell (blk_alloc K1.out o) 5).trans rfl
  have f2 : ∀ o, (w3.alloc o).frozen? ⟨b, 2, none⟩ = false := fun o => blk_frozen (blk_alloc K0.out o) 2
  have f3 : ∀ o, (w3.alloc o).frozen? ⟨b, 3, none⟩ = false := fun o => blk_frozen (blk_alloc K0.out o) 3
  have g0 : ∀ o, (w3.alloc o).frozen? ⟨b + 1, 0, none⟩ = false := fun o => blk_frozen (blk_alloc K1.out o) 0
  have g1 : ∀ o, (w3.alloc o).frozen? ⟨b + 1, 1, none⟩ = false := fun o => blk_frozen (blk_alloc K1.out o) 1
  have g2 : ∀ o, (w3.alloc o).frozen? ⟨b + 1, 2, none⟩ = false := fun o => blk_frozen (blk_alloc K1.out o) 2
  have g3 : ∀ o, (w3.alloc o).frozen? ⟨b + 1, 3, none⟩ = false := fun o => blk_frozen (blk_alloc K1.out o) 3
  have g4 : ∀ o, (w3.alloc o).frozen? ⟨b + 1, 4, none⟩ = false := fun o => blk_frozen (blk_alloc K1.out o) 4
  have g5 : ∀ o, (w3.alloc o).frozen? ⟨b + 1, 5, none⟩ = false := fun o => blk_frozen (blk_alloc K1.out o) 5
  go_wp2_with fail
  go_quiet (fail)
  go_wp2
  refine bodyPost_ret (results_tct rfl _ _ (b + 1) 35 #[.int .i64 0, .int .i64 0, .int .i64 0, .int .i64 0, .int .i64 0, .int .u64 0] (0, 0) _ rfl (put6 (blk_far (blk_drewN (blk_alloc K1.out _) _) (show b + 1 ≠ b by omega) _) _ _ _ _ _ _) Try.underlying35 rfl (by kernel_rfl)) rfl ?_
  refine ⟨rfl, F3, at6 (Shop.far (p := ⟨b, 2, none⟩) (Shop.below HA3.out (pw_below_drewN (below_alloc (Below.refl _ _) _) _)) (fun hf => by rcases HF3.out b hf with h1 | h1; exact HBF.out b (Nat.le_refl _) h1; omega) _) (fun hf => by rcases HF3.out _ hf with h1 | h1; exact HBF.out _ (by omega) h1; omega) _ _ _ _ _ _, fun k hk => (HF3.out k hk).imp id (fun h => by have := HBW.out; omega), fr6 (((HR3.out.alloc _).then_below (pw_below_drewN (Below.refl _ _) _)).setCell (p := ⟨b, 2, none⟩) (Or.inr (by have := HBW.out; show w.heap.size ≤ b; omega)) _) (Or.inr (by have := HBW.out; show w.heap.size ≤ b + 1; omega)) _ _ _ _ _ _⟩
set_option maxHeartbeats 4000000 in
set_option maxRecDepth 100000 in
theorem take_E2a (S : Shop St) (F : Nat → Prop) (s s1 : St) (m p t sp r ch : Int) (next : Int) (l : List Int) (er : Int) (w : World) (h : S.At w F s) (h0 : sp ≠ 0) (htr : S.trunk s t = (s1, next, l, er)) (t1 : (er != 0) = false) (hD : next < p) (hl : l = []) (hs0 : 0 ≤ sp) (hs1 : sp ≤ 4096) (t5 : (next == 0) = true) (t6 : (sp == 1) = true) :
    Calls Try.prog 20 #[.agg #[.int .i64 m, .int .i64 p, .int .i64 t, .int .i64 sp, .int .i64 r, .int .u64 ch], .iface S.T S.x] w fun e w' => e = .returned (.tuple #[.int .i64 t, (Hd.mk m p next (sp - 1) r ch).v, .int .i64 0]) ∧ Goes (fun F' => S.At w' F' s1) F w w' := by
  have H := Aside0.mk h
  have HB := Aside0.mk (S.bound h)
  have HTR := Aside0.mk htr
  have hu35 := Try.underlying35
  have hu24 := Try.underlying24
  have t0 : (sp == 0) = false := by simp [h0]
  clear h h0 htr
  go_enter Try.func20, Try.ntmps20
  go_wp2_with fail
  obtain ⟨w2, hw2⟩ : ∃ w2, w2 = (w.alloc (.cells #[.int .i64 m, .int .i64 p, .int .i64 t, .int .i64 sp, .int .i64 r, .int .u64 ch] 35)).alloc (.cells #[.int .i64 0, .int .i64 0, .int .i64 0, .int .i64 0, .int .i64 0, .int .u64 0] 35) := ⟨_, rfl⟩
  rw [← hw2]
  have HA2 := Aside0.mk (show S.At w2 F s by rw [hw2]; exact Shop.below H.out (below_alloc (below_alloc (Below.refl _ _) _) _))
  have HR2 := Aside0.mk (show Fr F w w2 by rw [hw2]; exact ((Fr.refl F w).alloc _).alloc _)
  have K0 := Aside0.mk (show w2.heap[w.heap.size]? = some (.cells #[.int .i64 m, .int .i64 p, .int .i64 t, .int .i64 sp, .int .i64 r, .int .u64 ch] 35 (0, 0)) by rw [hw2]; exact blk_alloc (blk_new w _) _)
  have K1 := Aside0.mk (show w2.heap[w.heap.size + 1]? = some (.cells #[.int .i64 0, .int .i64 0, .int .i64 0, .int .i64 0, .int .i64 0, .int .u64 0] 35 (0, 0)) by
    rw [hw2]
    have := blk_new (w.alloc (.cells #[.int .i64 m, .int .i64 p, .int .i64 t, .int .i64 sp, .int .i64 r, .int .u64 ch] 35)) (.cells #[.int .i64 0, .int .i64 0, .int .i64 0, .int .i64 0, .int .i64 0, .int .u64 0] 35)
    simpa using this)
  have hs2 : w.heap.size + 1 < w2.heap.size := by rw [hw2]; simp
  clear hw2
  obtain ⟨b, hb⟩ : ∃ b, b = w.heap.size := ⟨_, rfl⟩
  rw [← hb] at K0 K1 hs2 ⊢
  have hbF : ∀ k, b ≤ k → ¬ F k := fun k hk hf => by have := HB.out k hf; omega
  have HBF := Aside0.mk hbF
  have HBW := Aside0.mk hb
  clear hb hbF
  refine (trunk_calls S F s t w2 HA2.out).mono ?_
  rw [HTR.out]
  rintro e w3 ⟨v, rfl, F3, hA3, hF3, hR3, hv3⟩
  obtain ⟨A, c, rfl⟩ := Kd.R_slice hv3
  obtain ⟨_, hlc, hC3⟩ := Kd.R_reads' hv3
  replace K0 := Aside0.mk (hR3.blk K0.out (HBF.out b (Nat.le_refl _)))
  replace K1 := Aside0.mk (hR3.blk K1.out (HBF.out (b + 1) (by omega)))
  have HR3 := Aside0.mk (HR2.out.trans hR3 (fun _ _ h => h))
  have HF3 := Aside0.mk (show ∀ k, F3 k → F k ∨ b + 1 < k from fun k hk => (hF3 k hk).imp id (fun h => by omega))
  have HA3 := Aside0.mk hA3
  have HC3 := Aside0.mk hC3
  clear hA3 hF3 hR3 hv3 hC3 HA2 HR2 HTR
  have t2 : decide (p ≤ next) = false := decide_eq_false (by omega)
  subst hl
  have a0 : ∀ o, (w3.alloc o).cell? ⟨b, 0, none⟩ = some (.int .i64 m) := fun o => (blk_cell (blk_alloc K0.out o) 0).trans rfl
  have a1 : ∀ o, (w3.alloc o).cell? ⟨b, 1, none⟩ = some (.int .i64 p) := fun o => (blk_cell (blk_alloc K0.out o) 1).trans rfl
  have a2 : ∀ o, (w3.alloc o).cell? ⟨b, 2, none⟩ = some (.int .i64 t) := fun o => (blk_cell (blk_alloc K0.out o) 2).trans rfl
  have a3 : ∀ o, (w3.alloc o).cell? ⟨b, 3, none⟩ = some (.int .i64 sp) := fun o => (blk_cell (blk_alloc K0.out o) 3).trans rfl
  have a4 : ∀ o, (w3.alloc o).cell? ⟨b, 4, none⟩ = some (.int .i64 r) := fun o => (blk_cell (blk_alloc K0.out o) 4).trans rfl
  have a5 : ∀ o, (w3.alloc o).cell? ⟨b, 5, none⟩ = some (.int .u64 ch) := fun o => (blk_cell (blk_alloc K0.out o) 5).trans rfl
  have z0 : ∀ o, (w3.alloc o).cell? ⟨b + 1, 0, none⟩ = some (.int .i64 0) := fun o => (blk_cell (blk_alloc K1.out o) 0).trans rfl
  have z1 : ∀ o, (w3.alloc o).cell? ⟨b + 1, 1, none⟩ = some (.int .i64 0) := fun o => (blk_cell (blk_alloc K1.out o) 1).trans rfl
  have z2 : ∀ o, (w3.alloc o).cell? ⟨b + 1, 2, none⟩ = some (.int .i64 0) := fun o => (blk_cell (blk_alloc K1.out o) 2).trans rfl
  have z3 : ∀ o, (w3.alloc o).cell? ⟨b + 1, 3, none⟩ = some (.int .i64 0) := fun o => (blk_cell (blk_alloc K1.out o) 3).trans rfl
  have z4 : ∀ o, (w3.alloc o).cell? ⟨b + 1, 4, none⟩ = some (.int .i64 0) := fun o => (blk_cell (blk_alloc K1.out o) 4).trans rfl
  have z5 : ∀ o, (w3.alloc o).cell? ⟨b + 1, 5, none⟩ = some (.int .u64 0) := fun o => (blk_cell (blk_alloc K1.out o) 5).trans rfl
  have f2 : ∀ o, (w3.alloc o).frozen? ⟨b, 2, none⟩ = false := fun o => blk_frozen (blk_alloc K0.out o) 2
  have f3 : ∀ o, (w3.alloc o).frozen? ⟨b, 3, none⟩ = false := fun o => blk_frozen (blk_alloc K0.out o) 3
  have g0 : ∀ o, (w3.alloc o).frozen? ⟨b + 1, 0, none⟩ = false := fun o => blk_frozen (blk_alloc K1.out o) 0
  have g1 : ∀ o, (w3.alloc o).frozen? ⟨b + 1, 1, none⟩ = false := fun o => blk_frozen (blk_alloc K1.out o) 1
  have g2 : ∀ o, (w3.alloc o).frozen? ⟨b + 1, 2, none⟩ = false := fun o => blk_frozen (blk_alloc K1.out o) 2
  have g3 : ∀ o, (w3.alloc o).frozen? ⟨b + 1, 3, none⟩ = false := fun o => blk_frozen (blk_alloc K1.out o) 3
  have g4 : ∀ o, (w3.alloc o).frozen? ⟨b + 1, 4, none⟩ = false := fun o => blk_frozen (blk_alloc K1.out o) 4
  have g5 : ∀ o, (w3.alloc o).frozen? ⟨b + 1, 5, none⟩ = false := fun o => blk_frozen (blk_alloc K1.out o) 5
  go_wp2_with fail
  go_quiet (fail)
  go_wp2_with fail
  go_region
  go_wp2
  refine bodyPost_ret (results_tct rfl _ _ (b + 1) 35 #[.int .i64 m, .int .i64 p, .int .i64 next, .int .i64 (sp - 1), .int .i64 r, .int .u64 ch] (0, 0) _ rfl (blk_drew (put6 (blk_far (blk_far (blk_drewN (blk_alloc K1.out _) _) (show b + 1 ≠ b by omega) _) (show b + 1 ≠ b by omega) _) _ _ _ _ _ _)) Try.underlying35 rfl (by kernel_rfl)) rfl ?_
  refine ⟨rfl, F3, Shop.below (at6 (Shop.far (p := ⟨b, 3, none⟩) (Shop.far (p := ⟨b, 2, none⟩) (Shop.below HA3.out (pw_below_drewN (below_alloc (Below.refl _ _) _) _)) (fun hf => by rcases HF3.out b hf with h1 | h1; exact HBF.out b (Nat.le_refl _) h1; omega) _) (fun hf => by rcases HF3.out b hf with h1 | h1; exact HBF.out b (Nat.le_refl _) h1; omega) _) (fun hf => by rcases HF3.out (b + 1) hf with h1 | h1; exact HBF.out (b + 1) (by omega) h1; omega) _ _ _ _ _ _) (below_drew (Below.refl _ _)), fun k hk => (HF3.out k hk).imp id (fun h => by have := HBW.out; omega), (fr6 ((((HR3.out.alloc _).then_below (pw_below_drewN (Below.refl _ _) _)).setCell (p := ⟨b, 2, none⟩) (Or.inr (by have := HBW.out; show w.heap.size ≤ b; omega)) _).setCell (p := ⟨b, 3, none⟩) (Or.inr (by have := HBW.out; show w.heap.size ≤ b; omega)) _) (Or.inr (by have := HBW.out; show w.heap.size ≤ b + 1; omega)) _ _ _ _ _ _).then_below (below_drew (Below.refl _ _))⟩
set_option maxHeartbeats 4000000 in
set_option maxRecDepth 100000 in
theorem take_E2b (S : Shop St) (F : Nat → Prop) (s s1 : St) (m p t sp r ch : Int) (next : Int) (l : List Int) (er : Int) (w : World) (h : S.At w F s) (h0 : sp ≠ 0) (htr : S.trunk s t = (s1, next, l, er)) (t1 : (er != 0) = false) (hD : next < p) (hl : l = []) (hs0 : 0 ≤ sp) (hs1 : sp ≤ 4096) (t5 : (next == 0) = false) (t6 : (sp == 1) = false) :
    Calls Try.prog 20 #[.agg #[.int .i64 m, .int .i64 p, .int .i64 t, .int .i64 sp, .int .i64 r, .int .u64 ch], .iface S.T S.x] w fun e w' => e = .returned (.tuple #[.int .i64 t, (Hd.mk m p next (sp - 1) r ch).v, .int .i64 0]) ∧ Goes (fun F' => S.At w' F' s1) F w w' := by
  have H := Aside0.mk h
  have HB := Aside0.mk (S.bound h)
  have HTR := Aside0.mk htr
  have hu35 := Try.underlying35
  have hu24 := Try.underlying24
  have t0 : (sp == 0) = false := by simp [h0]
  clear h h0 htr
  go_enter Try.func20, Try.ntmps20
  go_wp2_with fail
  obtain ⟨w2, hw2⟩ : ∃ w2, w2 = (w.alloc (.cells #[.int .i64 m, .int .i64 p, .int .i64 t, .int .i64 sp, .int .i64 r, .int .u64 ch] 35)).alloc (.cells #[.int .i64 0, .int .i64 0, .int .i64 0, .int .i64 0, .int .i64 0, .int .u64 0] 35) := ⟨_, rfl⟩
  rw [← hw2]
  have HA2 := Aside0.mk (show S.At w2 F s by rw [hw2]; exact Shop.below H.out (below_alloc (below_alloc (Below.refl _ _) _) _))
  have HR2 := Aside0.mk (show Fr F w w2 by rw [hw2]; exact ((Fr.refl F w).alloc _).alloc _)
  have K0 := Aside0.mk (show w2.heap[w.heap.size]? = some (.cells #[.int .i64 m, .int .i64 p, .int .i64 t, .int .i64 sp, .int .i64 r, .int .u64 ch] 35 (0, 0)) by rw [hw2]; exact blk_alloc (blk_new w _) _)
  have K1 := Aside0.mk (show w2.heap[w.heap.size + 1]? = some (.cells #[.int .i64 0, .int .i64 0, .int .i64 0, .int .i64 0, .int .i64 0, .int .u64 0] 35 (0, 0)) by
    rw [hw2]
    have := blk_new (w.alloc (.cells #[.int .i64 m, .int .i64 p, .int .i64 t, .int .i64 sp, .int .i64 r, .int .u64 ch] 35)) (.cells #[.int .i64 0, .int .i64 0, .int .i64 0, .int .i64 0, .int .i64 0, .int .u64 0] 35)
    simpa using this)
  have hs2 : w.heap.size + 1 < w2.heap.size := by rw [hw2]; simp
  clear hw2
  obtain ⟨b, hb⟩ : ∃ b, b = w.heap.size := ⟨_, rfl⟩
  rw [← hb] at K0 K1 hs2 ⊢
  have hbF : ∀ k, b ≤ k → ¬ F k := fun k hk hf => by have := HB.out k hf; omega
  have HBF := Aside0.mk hbF
  have HBW := Aside0.mk hb
  clear hb hbF
  refine (trunk_calls S F s t w2 HA2.out).mono ?_
  rw [HTR.out]
  rintro e w3 ⟨v, rfl, F3, hA3, hF3, hR3, hv3⟩
  obtain ⟨A, c, rfl⟩ := Kd.R_slice hv3
  obtain ⟨_, hlc, hC3⟩ := Kd.R_reads' hv3
  replace K0 := Aside0.mk (hR3.blk K0.out (HBF.out b (Nat.le_refl _)))
  replace K1 := Aside0.mk (hR3.blk K1.out (HBF.out (b + 1) (by omega)))
  have HR3 := Aside0.mk (HR2.out.trans hR3 (fun _ _ h => h))
  have HF3 := Aside0.mk (show ∀ k, F3 k → F k ∨ b + 1 < k from fun k hk => (hF3 k hk).imp id (fun h => by omega))
  have HA3 := Aside0.mk hA3
  have HC3 := Aside0.mk hC3
  clear hA3 hF3 hR3 hv3 hC3 HA2 HR2 HTR
  have t2 : decide (p ≤ next) = false := decide_eq_false (by omega)
  subst hl
  have a0 : ∀ o, (w3.alloc o).cell? ⟨b, 0, none⟩ = some (.int .i64 m) := fun o => (blk_cell (blk_alloc K0.out o) 0).trans rfl
  have a1 : ∀ o, (w3.alloc o).cell? ⟨b, 1, none⟩ = some (.int .i64 p) := fun o => (blk_cell (blk_alloc K0.out o) 1).trans rfl
  have a2 : ∀ o, (w3.alloc o).cell? ⟨b, 2, none⟩ = some (.int .i64 t) := fun o => (blk_cell (blk_alloc K0.out o) 2).trans rfl
  have a3 : ∀ o, (w3.alloc o).cell? ⟨b, 3, none⟩ = some (.int .i64 sp) := fun o => (blk_cell (blk_alloc K0.out o) 3).trans rfl
  have a4 : ∀ o, (w3.alloc o).cell? ⟨b, 4, none⟩ = some (.int .i64 r) := fun o => (blk_cell (blk_alloc K0.out o) 4).trans rfl
  have a5 : ∀ o, (w3.alloc o).cell? ⟨b, 5, none⟩ = some (.int .u64 ch) := fun o => (blk_cell (blk_alloc K0.out o) 5).trans rfl
  have z0 : ∀ o, (w3.alloc o).cell? ⟨b + 1, 0, none⟩ = some (.int .i64 0) := fun o => (blk_cell (blk_alloc K1.out o) 0).trans rfl
  have z1 : ∀ o, (w3.alloc o).cell? ⟨b + 1, 1, none⟩ = some (.int .i64 0) := fun o => (blk_cell (blk_alloc K1.out o) 1).trans rfl
  have z2 : ∀ o, (w3.alloc o).cell? ⟨b + 1, 2, none⟩ = some (.int .i64 0) := fun o => (blk_cell (blk_alloc K1.out o) 2).trans rfl
  have z3 : ∀ o, (w3.alloc o).cell? ⟨b + 1, 3, none⟩ = some (.int .i64 0) := fun o => (blk_cell (blk_alloc K1.out o) 3).trans rfl
  have z4 : ∀ o, (w3.alloc o).cell? ⟨b + 1, 4, none⟩ = some (.int .i64 0) := fun o => (blk_cell (blk_alloc K1.out o) 4).trans rfl
  have z5 : ∀ o, (w3.alloc o).cell? ⟨b + 1, 5, none⟩ = some (.int .u64 0) := fun o => (blk_cell (blk_alloc K1.out o) 5).trans rfl
  have f2 : ∀ o, (w3.alloc o).frozen? ⟨b, 2, none⟩ = false := fun o => blk_frozen (blk_alloc K0.out o) 2
  have f3 : ∀ o, (w3.alloc o).frozen? ⟨b, 3, none⟩ = false := fun o => blk_frozen (blk_alloc K0.out o) 3
  have g0 : ∀ o, (w3.alloc o).frozen? ⟨b + 1, 0, none⟩ = false := fun o => blk_frozen (blk_alloc K1.out o) 0
  have g1 : ∀ o, (w3.alloc o).frozen? ⟨b + 1, 1, none⟩ = false := fun o => blk_frozen (blk_alloc K1.out o) 1
  have g2 : ∀ o, (w3.alloc o).frozen? ⟨b + 1, 2, none⟩ = false := fun o => blk_frozen (blk_alloc K1.out o) 2
  have g3 : ∀ o, (w3.alloc o).frozen? ⟨b + 1, 3, none⟩ = false := fun o => blk_frozen (blk_alloc K1.out o) 3
  have g4 : ∀ o, (w3.alloc o).frozen? ⟨b + 1, 4, none⟩ = false := fun o => blk_frozen (blk_alloc K1.out o) 4
  have g5 : ∀ o, (w3.alloc o).frozen? ⟨b + 1, 5, none⟩ = false := fun o => blk_frozen (blk_alloc K1.out o) 5
  go_wp2_with fail
  go_quiet (fail)
  go_wp2_with fail
  go_region
  go_wp2
  refine bodyPost_ret (results_tct rfl _ _ (b + 1) 35 #[.int .i64 m, .int .i64 p, .int .i64 next, .int .i64 (sp - 1), .int .i64 r, .int .u64 ch] (0, 0) _ rfl (blk_drew (put6 (blk_far (blk_far (blk_drewN (blk_alloc K1.out _) _) (show b + 1 ≠ b by omega) _) (show b + 1 ≠ b by omega) _) _ _ _ _ _ _)) Try.underlying35 rfl (by kernel_rfl)) rfl ?_
  refine ⟨rfl, F3, Shop.below (at6 (Shop.far (p := ⟨b, 3, none⟩) (Shop.far (p := ⟨b, 2, none⟩) (Shop.below HA3.out (pw_below_drewN (below_alloc (Below.refl _ _) _) _)) (fun hf => by rcases HF3.out b hf with h1 | h1; exact HBF.out b (Nat.le_refl _) h1; omega) _) (fun hf => by rcases HF3.out b hf with h1 | h1; exact HBF.out b (Nat.le_refl _) h1; omega) _) (fun hf => by rcases HF3.out (b + 1) hf with h1 | h1; exact HBF.out (b + 1) (by omega) h1; omega) _ _ _ _ _ _) (below_drew (Below.refl _ _)), fun k hk => (HF3.out k hk).imp id (fun h => by have := HBW.out; omega), (fr6 ((((HR3.out.alloc _).then_below (pw_below_drewN (Below.refl _ _) _)).setCell (p := ⟨b, 2, none⟩) (Or.inr (by have := HBW.out; show w.heap.size ≤ b; omega)) _).setCell (p := ⟨b, 3, none⟩) (Or.inr (by have := HBW.out; show w.heap.size ≤ b; omega)) _) (Or.inr (by have := HBW.out; show w.heap.size ≤ b + 1; omega)) _ _ _ _ _ _).then_below (below_drew (Below.refl _ _))⟩
set_option maxHeartbeats 4000000 in
set_option maxRecDepth 100000 in
theorem take_F1 (S : Shop St) (F : Nat → Prop) (s s1 : St) (m p t sp r ch : Int) (next : Int) (l0 : List Int) (x : Int) (er : Int) (w : World) (h : S.At w F s) (h0 : sp ≠ 0) (htr : S.trunk s t = (s1, next, l0 ++ [x], er)) (t1 : (er != 0) = false) (hD : next < p) (hx1 : p ≤ x) :
    Calls Try.prog 20 #[.agg #[.int .i64 m, .int .i64 p, .int .i64 t, .int .i64 sp, .int .i64 r, .int .u64 ch], .iface S.T S.x] w fun e w' => e = .returned (.tuple #[.int .i64 0, Hd.zero.v, .int .i64 30]) ∧ Goes (fun F' => S.At w' F' s1) F w w' := by
  have H := Aside0.mk h
  have HB := Aside0.mk (S.bound h)
  have HTR := Aside0.mk htr
  have hu35 := Try.underlying35
  have hu24 := Try.underlying24
  have t0 : (sp == 0) = false := by simp [h0]
  clear h h0 htr
  go_enter Try.func20, Try.ntmps20
  go_wp2_with fail
  obtain ⟨w2, hw2⟩ : ∃ w2, w2 = (w.alloc (.cells #[.int .i64 m, .int .i64 p, .int .i64 t, .int .i64 sp, .int .i64 r, .int .u64 ch] 35)).alloc (.cells #[.int .i64 0, .int .i64 0, .int .i64 0, .int .i64 0, .int .i64 0, .int .u64 0] 35) := ⟨_, rfl⟩
  rw [← hw2]
  have HA2 := Aside0.mk (show S.At w2 F s by rw [hw2]; exact Shop.below H.out (below_alloc (below_alloc (Below.refl _ _) _) _))
  have HR2 := Aside0.mk (show Fr F w w2 by rw [hw2]; exact ((Fr.refl F w).alloc _).alloc _)
  have K0 := Aside0.mk (show w2.heap[w.heap.size]? = some (.cells #[.int .i64 m, .int .i64 p, .int .i64 t, .int .i64 sp, .int .i64 r, .int .u64 ch] 35 (0, 0)) by rw [hw2]; exact blk_alloc (blk_new w _) _)
  have K1 := Aside0.mk (show w2.heap[w.heap.size + 1]? = some (.cells #[.int .i64 0, .int .i64 0, .int .i64 0, .int .i64 0, .int .i64 0, .int .u64 0] 35 (0, 0)) by
    rw [hw2]
    have := blk_new (w.alloc (.cells #[.int .i64 m, .int .i64 p, .int .i64 t, .int .i64 sp, .int .i64 r, .int .u64 ch] 35)) (.cells #[.int .i64 0, .int .i64 0, .int .i64 0, .int .i64 0, .int .i64 0, .int .u64 0] 35)
    simpa using this)
  have hs2 : w.heap.size + 1 < w2.heap.size := by rw [hw2]; simp
  clear hw2
  obtain ⟨b, hb⟩ : ∃ b, b = w.heap.size := ⟨_, rfl⟩
  rw [← hb] at K0 K1 hs2 ⊢
  have hbF : ∀ k, b ≤ k → ¬ F k := fun k hk hf => by have := HB.out k hf; omega
  have HBF := Aside0.mk hbF
  have HBW := Aside0.mk hb
  clear hb hbF
  refine (trunk_calls S F s t w2 HA2.out).mono ?_
  rw [HTR.out]
  rintro e w3 ⟨v, rfl, F3, hA3, hF3, hR3, hv3⟩
  obtain ⟨A, c, rfl⟩ := Kd.R_slice hv3
  obtain ⟨_, hlc, hC3⟩ := Kd.R_reads' hv3
  rw [List.length_append, List.length_singleton] at hlc
  replace K0 := Aside0.mk (hR3.blk K0.out (HBF.out b (Nat.le_refl _)))
  replace K1 := Aside0.mk (hR3.blk K1.out (HBF.out (b + 1) (by omega)))
  have HR3 := Aside0.mk (HR2.out.trans hR3 (fun _ _ h => h))
  have HF3 := Aside0.mk (show ∀ k, F3 k → F k ∨ b + 1 < k from fun k hk => (hF3 k hk).imp id (fun h => by omega))
  have HA3 := Aside0.mk hA3
  have HC3 := Aside0.mk hC3
  clear hA3 hF3 hR3 hv3 hC3 HA2 HR2 HTR
  obtain ⟨ad, e1, hx⟩ := Kd.at_int HC3.out (l0.length : Int) (by omega) (by simp; omega)
  cases e1
  rw [show rd (l0 ++ [x]) (l0.length : Int) = x by simp [rd], Int.toNat_natCast] at hx
  have hlm := Kd.C_max HC3.out
  rw [List.length_append, List.length_singleton] at hlm
  have hxo : ∀ o, (w3.alloc o).cell? (ad.add l0.length) = some (.int .i64 x) := fun o => ((below_alloc (Below.refl w3.heap.size w3) o).cell (World.block_lt_of_cell? w3 _ hx)).trans hx
  clear hx
  have t2 : decide (p ≤ next) = false := decide_eq_false (by omega)
  have a0 : ∀ o, (w3.alloc o).cell? ⟨b, 0, none⟩ = some (.int .i64 m) := fun o => (blk_cell (blk_alloc K0.out o) 0).trans rfl
  have a1 : ∀ o, (w3.alloc o).cell? ⟨b, 1, none⟩ = some (.int .i64 p) := fun o => (blk_cell (blk_alloc K0.out o) 1).trans rfl
  have a2 : ∀ o, (w3.alloc o).cell? ⟨b, 2, none⟩ = some (.int .i64 t) := fun o => (blk_cell (blk_alloc K0.out o) 2).trans rfl
  have a3 : ∀ o, (w3.alloc o).cell? ⟨b, 3, none⟩ = some (.int .i64 sp) := fun o => (blk_cell (blk_alloc K0.out o) 3).trans rfl
  have a4 : ∀ o, (w3.alloc o).cell? ⟨b, 4, none⟩ = some (.int .i64 r) := fun o => (blk_cell (blk_alloc K0.out o) 4).trans rfl
  have a5 : ∀ o, (w3.alloc o).cell? ⟨b, 5, none⟩ = some (.int .u64 ch) := fun o => (blk_cell (blk_alloc K0.out o) 5).trans rfl
  have z0 : ∀ o, (w3.alloc o).cell? ⟨b + 1, 0, none⟩ = some (.int .i64 0) := fun o => (blk_cell (blk_alloc K1.out o) 0).trans rfl
  have z1 : ∀ o, (w3.alloc o).cell? ⟨b + 1, 1, none⟩ = some (.int .i64 0) := fun o => (blk_cell (blk_alloc K1.out o) 1).trans rfl
  have z2 : ∀ o, (w3.alloc o).cell? ⟨b + 1, 2, none⟩ = some (.int .i64 0) := fun o => (blk_cell (blk_alloc K1.out o) 2).trans rfl
  have z3 : ∀ o, (w3.alloc o).cell? ⟨b + 1, 3, none⟩ = some (.int .i64 0) := fun o => (blk_cell (blk_alloc K1.out o) 3).trans rfl
  have z4 : ∀ o, (w3.alloc o).cell? ⟨b + 1, 4, none⟩ = some (.int .i64 0) := fun o => (blk_cell (blk_alloc K1.out o) 4).trans rfl
  have z5 : ∀ o, (w3.alloc o).cell? ⟨b + 1, 5, none⟩ = some (.int .u64 0) := fun o => (blk_cell (blk_alloc K1.out o) 5).trans rfl
  have f2 : ∀ o, (w3.alloc o).frozen? ⟨b, 2, none⟩ = false := fun o => blk_frozen (blk_alloc K0.out o) 2
  have f3 : ∀ o, (w3.alloc o).frozen? ⟨b, 3, none⟩ = false := fun o => blk_frozen (blk_alloc K0.out o) 3
  have g0 : ∀ o, (w3.alloc o).frozen? ⟨b + 1, 0, none⟩ = false := fun o => blk_frozen (blk_alloc K1.out o) 0
  have g1 : ∀ o, (w3.alloc o).frozen? ⟨b + 1, 1, none⟩ = false := fun o => blk_frozen (blk_alloc K1.out o) 1
  have g2 : ∀ o, (w3.alloc o).frozen? ⟨b + 1, 2, none⟩ = false := fun o => blk_frozen (blk_alloc K1.out o) 2
  have g3 : ∀ o, (w3.alloc o).frozen? ⟨b + 1, 3, none⟩ = false := fun o => blk_frozen (blk_alloc K1.out o) 3
  have g4 : ∀ o, (w3.alloc o).frozen? ⟨b + 1, 4, none⟩ = false := fun o => blk_frozen (blk_alloc K1.out o) 4
  have g5 : ∀ o, (w3.alloc o).frozen? ⟨b + 1, 5, none⟩ = false := fun o => blk_frozen (blk_alloc K1.out o) 5
  have t3 : decide (p ≤ x) = true := decide_eq_true hx1
  go_wp2_with fail
  go_quiet (fail)
  go_wp2
  refine bodyPost_ret (results_tct rfl _ _ (b + 1) 35 #[.int .i64 0, .int .i64 0, .int .i64 0, .int .i64 0, .int .i64 0, .int .u64 0] (0, 0) _ rfl (put6 (blk_drewN (blk_alloc K1.out _) _) _ _ _ _ _ _) Try.underlying35 rfl (by kernel_rfl)) rfl ?_
  refine ⟨rfl, F3, at6 (Shop.below HA3.out (pw_below_drewN (below_alloc (Below.refl _ _) _) _)) (fun hf => by rcases HF3.out _ hf with h1 | h1; exact HBF.out _ (by omega) h1; omega) _ _ _ _ _ _, fun k hk => (HF3.out k hk).imp id (fun h => by have := HBW.out; omega), fr6 ((HR3.out.alloc _).then_below (pw_below_drewN (Below.refl _ _) _)) (Or.inr (by have := HBW.out; show w.heap.size ≤ b + 1; omega)) _ _ _ _ _ _⟩
end Go.Proofs.Ytonbipaajhokfaa
