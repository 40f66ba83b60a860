/-
  Walk: the reference's Take of layer 9: the ways.
-/
import Derived.Test.YtonbipaajhokfaaKG
import Derived.Test.YtonbipaajhokfaaKF
import Derived.BigQuiet
set_option linter.unusedVariables false
set_option linter.unusedSimpArgs false
namespace Go.Proofs.Ytonbipaajhokfaa
open Go.RowKit Go.Proofs.YtonbipaajhokfaaW.PrintWords Go.Proofs.YtonbipaajhokfaaW.PrintLast Go.Proofs.YtonbipaajhokfaaW.PrintMore
theorem bk_far {w : World} {F : Nat → Prop} {kb : Nat} {N : List Int} {D : List ByteArray} (h : BookAt w F kb N D) {p : Addr} (hp : ¬ F p.block) (u : Value) : BookAt (w.setCell p u) F kb N D :=
  h.keep (fun k hk => Below.heap_setCell w p u k (fun e => hp (e ▸ hk))) (by simp)
theorem bk6 {w : World} {g : Nat} {F : Nat → Prop} {kb : Nat} {N : List Int} {D : List ByteArray} (h : BookAt w F kb N D) (hn : ¬ F g) (y0 y1 y2 y3 y4 y5 : Value) :
    BookAt ((((((w.setCell ⟨g, 0, none⟩ y0).setCell ⟨g, 1, none⟩ y1).setCell ⟨g, 2, none⟩ y2).setCell ⟨g, 3, none⟩ y3).setCell ⟨g, 4, none⟩ y4).setCell ⟨g, 5, none⟩ y5) F kb N D :=
  bk_far (bk_far (bk_far (bk_far (bk_far (bk_far h hn _) hn _) hn _) hn _) hn _) hn _
set_option maxHeartbeats 4000000 in
set_option maxRecDepth 100000 in
theorem rt_A (kb : Nat) (F : Nat → Prop) (N : List Int) (D : List ByteArray) (m p t sp r ch : Int) (w : World) (h : BookAt w F kb N D) (h0 : sp = 0) (hp : 4096 ≤ p) :
    Calls Try.prog 21 #[.agg #[.int .i64 m, .int .i64 p, .int .i64 t, .int .i64 sp, .int .i64 r, .int .u64 ch], .pointer (some ⟨kb, 0, none⟩)] w fun e w' => e = .returned (.tuple #[.int .i64 0, Hd.zero.v, .int .i64 22]) ∧ Goes (fun F' => BookAt w' F' kb N D) F w w' := by
  have H := Aside0.mk h
  have HB := Aside0.mk h.2.1
  have hu35 := Try.underlying35
  have hu24 := Try.underlying24
  have t0 : (sp == 0) = true := by simp [h0]
  have t1 : decide (4096 ≤ p) = true := decide_eq_true hp
  clear h h0 hp
  go_enter Try.func21, Try.ntmps21
  go_wp2
  refine bodyPost_ret (results_tct rfl _ _ (w.heap.size + 1) 35 #[.int .i64 0, .int .i64 0, .int .i64 0, .int .i64 0, .int .i64 0, .int .u64 0] (0, 0) _ rfl ?_ Try.underlying35 rfl (by kernel_rfl)) rfl ?_
  · have := blk_new (w.alloc (.cells #[.int .i64 m, .int .i64 p, .int .i64 t, .int .i64 sp, .int .i64 r, .int .u64 ch] 35)) (.cells #[.int .i64 0, .int .i64 0, .int .i64 0, .int .i64 0, .int .i64 0, .int .u64 0] 35)
    simpa using this
  · exact ⟨rfl, F, H.out.below (below_alloc (below_alloc (Below.refl _ _) _) _), fun k hk => Or.inl hk, ((Fr.refl F w).alloc _).alloc _⟩
set_option maxHeartbeats 4000000 in
set_option maxRecDepth 100000 in
theorem rt_B (kb : Nat) (F : Nat → Prop) (N : List Int) (D : List ByteArray) (m p t sp r ch : Int) (w : World) (h : BookAt w F kb N D) (h0 : sp = 0) (hp0 : 0 ≤ p) (hp : p < 4096) :
    Calls Try.prog 21 #[.agg #[.int .i64 m, .int .i64 p, .int .i64 t, .int .i64 sp, .int .i64 r, .int .u64 ch], .pointer (some ⟨kb, 0, none⟩)] w fun e w' => e = .returned (.tuple #[.int .i64 p, (Hd.mk m (p + 1) t sp r ch).v, .int .i64 0]) ∧ Goes (fun F' => BookAt w' F' kb N D) F w w' := by
  have H := Aside0.mk h
  have HB := Aside0.mk h.2.1
  have hu35 := Try.underlying35
  have hu24 := Try.underlying24
  have t0 : (sp == 0) = true := by simp [h0]
  have t1 : decide (4096 ≤ p) = false := decide_eq_false (by omega)
  clear h h0
  go_enter Try.func21, Try.ntmps21
  go_wp2_with fail
  go_region
  go_wp2
  refine bodyPost_ret (results_tct rfl _ _ (w.heap.size + 1) 35 #[.int .i64 m, .int .i64 (p + 1), .int .i64 t, .int .i64 sp, .int .i64 r, .int .u64 ch] (0, 0) _ rfl ?_ Try.underlying35 rfl (by kernel_rfl)) rfl ?_
  · have := blk_new (w.alloc (.cells #[.int .i64 m, .int .i64 (p + 1), .int .i64 t, .int .i64 sp, .int .i64 r, .int .u64 ch] 35)) (.cells #[.int .i64 m, .int .i64 (p + 1), .int .i64 t, .int .i64 sp, .int .i64 r, .int .u64 ch] 35)
    refine blk_drew ?_
    simpa using this
  · exact ⟨rfl, F, H.out.below (below_drew (below_alloc (below_alloc (Below.refl _ _) _) _)), fun k hk => Or.inl hk, (((Fr.refl F w).alloc _).alloc _).then_below (below_drew (Below.refl _ _))⟩
set_option maxHeartbeats 4000000 in
set_option maxRecDepth 100000 in
theorem rt_C (kb : Nat) (F : Nat → Prop) (N : List Int) (D : List ByteArray) (m p t sp r ch : Int) (next : Int) (l : List Int) (er : Int) (w : World) (h : BookAt w F kb N D) (h0 : sp ≠ 0) (hn : decN1 (getB N D t).data.toList = next) (hl : decL1 (getB N D t).data.toList = l) (he : decE1 (getB N D t).data.toList = er) (hD : er ≠ 0) :
    Calls Try.prog 21 #[.agg #[.int .i64 m, .int .i64 p, .int .i64 t, .int .i64 sp, .int .i64 r, .int .u64 ch], .pointer (some ⟨kb, 0, none⟩)] w fun e w' => e = .returned (.tuple #[.int .i64 0, Hd.zero.v, .int .i64 30]) ∧ Goes (fun F' => BookAt w' F' kb N D) F w w' := by
  have H := Aside0.mk h
  have HB := Aside0.mk h.2.1
  have hu35 := Try.underlying35
  have hu24 := Try.underlying24
  have HN := Aside0.mk hn
  have HL := Aside0.mk hl
  have HE := Aside0.mk he
  have t0 : (sp == 0) = false := by simp [h0]
  clear h h0 hn hl he
  go_enter Try.func21, Try.ntmps21
  go_wp2_with fail
  obtain ⟨w2, hw2⟩ : ∃ w2, w2 = (w.alloc (.cells #[.int .i64 m, .int .i64 p, .int .i64 t, .int .i64 sp, .int .i64 r, .int .u64 ch] 35)).alloc (.cells #[.int .i64 0, .int .i64 0, .int .i64 0, .int .i64 0, .int .i64 0, .int .u64 0] 35) := ⟨_, rfl⟩
  rw [← hw2]
  have HA2 := Aside0.mk (show BookAt w2 F kb N D by rw [hw2]; exact H.out.below (below_alloc (below_alloc (Below.refl _ _) _) _))
  have HR2 := Aside0.mk (show Fr F w w2 by rw [hw2]; exact ((Fr.refl F w).alloc _).alloc _)
  have K0 := Aside0.mk (show w2.heap[w.heap.size]? = some (.cells #[.int .i64 m, .int .i64 p, .int .i64 t, .int .i64 sp, .int .i64 r, .int .u64 ch] 35 (0, 0)) by rw [hw2]; exact blk_alloc (blk_new w _) _)
  have K1 := Aside0.mk (show w2.heap[w.heap.size + 1]? = some (.cells #[.int .i64 0, .int .i64 0, .int .i64 0, .int .i64 0, .int .i64 0, .int .u64 0] 35 (0, 0)) by
    rw [hw2]
    have := blk_new (w.alloc (.cells #[.int .i64 m, .int .i64 p, .int .i64 t, .int .i64 sp, .int .i64 r, .int .u64 ch] 35)) (.cells #[.int .i64 0, .int .i64 0, .int .i64 0, .int .i64 0, .int .i64 0, .int .u64 0] 35)
    simpa using this)
  clear hw2
  obtain ⟨b, hb⟩ : ∃ b, b = w.heap.size := ⟨_, rfl⟩
  rw [← hb] at K0 K1 ⊢
  have HBF := Aside0.mk (show ∀ k, b ≤ k → ¬ F k from fun k hk hf => by have := HB.out k hf; omega)
  have HBW := Aside0.mk hb
  clear hb
  refine (bookGet_calls kb F N D t w2 HA2.out).mono ?_
  rintro e w1 ⟨rfl, hb1⟩
  replace K0 := Aside0.mk (blk_below K0.out hb1)
  replace K1 := Aside0.mk (blk_below K1.out hb1)
  replace HA2 := Aside0.mk (HA2.out.below hb1)
  replace HR2 := Aside0.mk (HR2.out.then_below hb1)
  clear hb1
  go_wp2_with fail
  refine (refDecode_calls _ w1).mono ?_
  rw [HN.out, HL.out, HE.out]
  rintro e w3 ⟨v, rfl, hv3, hb3⟩
  obtain ⟨A, c, rfl⟩ := Kd.R_slice hv3
  obtain ⟨_, hlc, hC3⟩ := Kd.R_reads' hv3
  replace K0 := Aside0.mk (blk_below K0.out hb3)
  replace K1 := Aside0.mk (blk_below K1.out hb3)
  have HA3 := Aside0.mk (HA2.out.below hb3)
  have HR3 := Aside0.mk (HR2.out.then_below hb3)
  have HC3 := Aside0.mk hC3
  have hlm := Kd.C_max HC3.out
  clear hv3 hb3 hC3 HA2 HR2 HN HL HE
  have t1 : (er != 0) = true := by simp [hD]
  clear hD
  have a0 : ∀ o, (w3.alloc o).cell? ⟨b, 0, none⟩ = some (.int .i64 m) := fun o => (blk_cell (blk_alloc K0.out o) 0).trans rfl
  have a1 : ∀ o, (w3.alloc o).cell? ⟨b, 1, none⟩ = some (.int .i64 p) := fun o => (blk_cell (blk_alloc K0.out o) 1).trans rfl
  have a2 : ∀ o, (w3.alloc o).cell? ⟨b, 2, none⟩ = some (.int .i64 t) := fun o => (blk_cell (blk_alloc K0.out o) 2).trans rfl
  have a3 : ∀ o, (w3.alloc o).cell? ⟨b, 3, none⟩ = some (.int .i64 sp) := fun o => (blk_cell (blk_alloc K0.out o) 3).trans rfl
  have a4 : ∀ o, (w3.alloc o).cell? ⟨b, 4, none⟩ = some (.int .i64 r) := fun o => (blk_cell (blk_alloc K0.out o) 4).trans rfl
  have a5 : ∀ o, (w3.alloc o).cell? ⟨b, 5, none⟩ = some (.int .u64 ch) := fun o => (blk_cell (blk_alloc K0.out o) 5).trans rfl
  have z0 : ∀ o, (w3.alloc o).cell? ⟨b + 1, 0, none⟩ = some (.int .i64 0) := fun o => (blk_cell (blk_alloc K1.out o) 0).trans rfl
  have z1 : ∀ o, (w3.alloc o).cell? ⟨b + 1, 1, none⟩ = some (.int .i64 0) := fun o => (blk_cell (blk_alloc K1.out o) 1).trans rfl
  have z2 : ∀ o, (w3.alloc o).cell? ⟨b + 1, 2, none⟩ = some (.int .i64 0) := fun o => (blk_cell (blk_alloc K1.out o) 2).trans rfl
  have z3 : ∀ o, (w3.alloc o).cell? ⟨b + 1, 3, none⟩ = some (.int .i64 0) := fun o => (blk_cell (blk_alloc K1.out o) 3).trans rfl
  have z4 : ∀ o, (w3.alloc o).cell? ⟨b + 1, 4, none⟩ = some (.int .i64 0) := fun o => (blk_cell (blk_alloc K1.out o) 4).trans rfl
  have z5 : ∀ o, (w3.alloc o).cell? ⟨b + 1, 5, none⟩ = some (.int .u64 0) := fun o => (blk_cell (blk_alloc K1.out o) 5).trans rfl
  have f2 : ∀ o, (w3.alloc o).frozen? ⟨b, 2, none⟩ = false := fun o => blk_frozen (blk_alloc K0.out o) 2
  have f3 : ∀ o, (w3.alloc o).frozen? ⟨b, 3, none⟩ = false := fun o => blk_frozen (blk_alloc K0.out o) 3
  have g0 : ∀ o, (w3.alloc o).frozen? ⟨b + 1, 0, none⟩ = false := fun o => blk_frozen (blk_alloc K1.out o) 0
  have g1 : ∀ o, (w3.alloc o).frozen? ⟨b + 1, 1, none⟩ = false := fun o => blk_frozen (blk_alloc K1.out o) 1
  have g2 : ∀ o, (w3.alloc o).frozen? ⟨b + 1, 2, none⟩ = false := fun o => blk_frozen (blk_alloc K1.out o) 2
  have g3 : ∀ o, (w3.alloc o).frozen? ⟨b + 1, 3, none⟩ = false := fun o => blk_frozen (blk_alloc K1.out o) 3
  have g4 : ∀ o, (w3.alloc o).frozen? ⟨b + 1, 4, none⟩ = false := fun o => blk_frozen (blk_alloc K1.out o) 4
  have g5 : ∀ o, (w3.alloc o).frozen? ⟨b + 1, 5, none⟩ = false := fun o => blk_frozen (blk_alloc K1.out o) 5
  go_wp2_with fail
  go_quiet (fail)
  go_wp2_with fail
  refine bodyPost_ret (results_tct rfl _ _ (b + 1) 35 #[.int .i64 0, .int .i64 0, .int .i64 0, .int .i64 0, .int .i64 0, .int .u64 0] (0, 0) _ rfl (put6 (blk_drewN (blk_alloc K1.out _) _) _ _ _ _ _ _) Try.underlying35 rfl (by kernel_rfl)) rfl ?_
  exact ⟨rfl, F, bk6 (HA3.out.below (pw_below_drewN (below_alloc (Below.refl _ _) _) _)) (HBF.out (b + 1) (by omega)) _ _ _ _ _ _, fun k hk => Or.inl hk, fr6 (HR3.out.then_below (pw_below_drewN (below_alloc (Below.refl _ _) _) _)) (Or.inr (by have := HBW.out; show w.heap.size ≤ b + 1; omega)) _ _ _ _ _ _⟩
set_option maxHeartbeats 4000000 in
set_option maxRecDepth 100000 in
theorem rt_D (kb : Nat) (F : Nat → Prop) (N : List Int) (D : List ByteArray) (m p t sp r ch : Int) (next : Int) (l : List Int) (er : Int) (w : World) (h : BookAt w F kb N D) (h0 : sp ≠ 0) (hn : decN1 (getB N D t).data.toList = next) (hl : decL1 (getB N D t).data.toList = l) (he : decE1 (getB N D t).data.toList = er) (hE : er = 0) (hD : p ≤ next) :
    Calls Try.prog 21 #[.agg #[.int .i64 m, .int .i64 p, .int .i64 t, .int .i64 sp, .int .i64 r, .int .u64 ch], .pointer (some ⟨kb, 0, none⟩)] w fun e w' => e = .returned (.tuple #[.int .i64 0, Hd.zero.v, .int .i64 30]) ∧ Goes (fun F' => BookAt w' F' kb N D) F w w' := by
  have H := Aside0.mk h
  have HB := Aside0.mk h.2.1
  have hu35 := Try.underlying35
  have hu24 := Try.underlying24
  have HN := Aside0.mk hn
  have HL := Aside0.mk hl
  have HE := Aside0.mk he
  have t0 : (sp == 0) = false := by simp [h0]
  clear h h0 hn hl he
  go_enter Try.func21, Try.ntmps21
  go_wp2_with fail
  obtain ⟨w2, hw2⟩ : ∃ w2, w2 = (w.alloc (.cells #[.int .i64 m, .int .i64 p, .int .i64 t, .int .i64 sp, .int .i64 r, .int .u64 ch] 35)).alloc (.cells #[.int .i64 0, .int .i64 0, .int .i64 0, .int .i64 0, .int .i64 0, .int .u64 0] 35) := ⟨_, rfl⟩
  rw [← hw2]
  have HA2 := Aside0.mk (show BookAt w2 F kb N D by rw [hw2]; exact H.out.below (below_alloc (below_alloc (Below.refl _ _) _) _))
  have HR2 := Aside0.mk (show Fr F w w2 by rw [hw2]; exact ((Fr.refl F w).alloc _).alloc _)
  have K0 := Aside0.mk (show w2.heap[w.heap.size]? = some (.cells #[.int .i64 m, .int .i64 p, .int .i64 t, .int .i64 sp, .int .i64 r, .int .u64 ch] 35 (0, 0)) by rw [hw2]; exact blk_alloc (blk_new w _) _)
  have K1 := Aside0.mk (show w2.heap[w.heap.size + 1]? = some (.cells #[.int .i64 0, .int .i64 0, .int .i64 0, .int .i64 0, .int .i64 0, .int .u64 0] 35 (0, 0)) by
    rw [hw2]
    have := blk_new (w.alloc (.cells #[.int .i64 m, .int .i64 p, .int .i64 t, .int .i64 sp, .int .i64 r, .int .u64 ch] 35)) (.cells #[.int .i64 0, .int .i64 0, .int .i64 0, .int .i64 0, .int .i64 0, .int .u64 0] 35)
    simpa using this)
  clear hw2
  obtain ⟨b, hb⟩ : ∃ b, b = w.heap.size := ⟨_, rfl⟩
  rw [← hb] at K0 K1 ⊢
  have HBF := Aside0.mk (show ∀ k, b ≤ k → ¬ F k from fun k hk hf => by have := HB.out k hf; omega)
  have HBW := Aside0.mk hb
  clear hb
  refine (bookGet_calls kb F N D t w2 HA2.out).mono ?_
  rintro e w1 ⟨rfl, hb1⟩
  replace K0 := Aside0.mk (blk_below K0.out hb1)
  replace K1 := Aside0.mk (blk_below K1.out hb1)
  replace HA2 := Aside0.mk (HA2.out.below hb1)
  replace HR2 := Aside0.mk (HR2.out.then_below hb1)
  clear hb1
  go_wp2_with fail
  refine (refDecode_calls _ w1).mono ?_
  rw [HN.out, HL.out, HE.out]
  rintro e w3 ⟨v, rfl, hv3, hb3⟩
  obtain ⟨A, c, rfl⟩ := Kd.R_slice hv3
  obtain ⟨_, hlc, hC3⟩ := Kd.R_reads' hv3
  replace K0 := Aside0.mk (blk_below K0.out hb3)
  replace K1 := Aside0.mk (blk_below K1.out hb3)
  have HA3 := Aside0.mk (HA2.out.below hb3)
  have HR3 := Aside0.mk (HR2.out.then_below hb3)
  have HC3 := Aside0.mk hC3
  have hlm := Kd.C_max HC3.out
  clear hv3 hb3 hC3 HA2 HR2 HN HL HE
  have t1 : (er != 0) = false := by simp [hE]
  have t2 : decide (p ≤ next) = true := decide_eq_true hD
  clear hE
  have a0 : ∀ o, (w3.alloc o).cell? ⟨b, 0, none⟩ = some (.int .i64 m) := fun o => (blk_cell (blk_alloc K0.out o) 0).trans rfl
  have a1 : ∀ o, (w3.alloc o).cell? ⟨b, 1, none⟩ = some (.int .i64 p) := fun o => (blk_cell (blk_alloc K0.out o) 1).trans rfl
  have a2 : ∀ o, (w3.alloc o).cell? ⟨b, 2, none⟩ = some (.int .i64 t) := fun o => (blk_cell (blk_alloc K0.out o) 2).trans rfl
  have a3 : ∀ o, (w3.alloc o).cell? ⟨b, 3, none⟩ = some (.int .i64 sp) := fun o => (blk_cell (blk_alloc K0.out o) 3).trans rfl
  have a4 : ∀ o, (w3.alloc o).cell? ⟨b, 4, none⟩ = some (.int .i64 r) := fun o => (blk_cell (blk_alloc K0.out o) 4).trans rfl
  have a5 : ∀ o, (w3.alloc o).cell? ⟨b, 5, none⟩ = some (.int .u64 ch) := fun o => (blk_cell (blk_alloc K0.out o) 5).trans rfl
  have z0 : ∀ o, (w3.alloc o).cell? ⟨b + 1, 0, none⟩ = some (.int .i64 0) := fun o => (blk_cell (blk_alloc K1.out o) 0).trans rfl
  have z1 : ∀ o, (w3.alloc o).cell? ⟨b + 1, 1, none⟩ = some (.int .i64 0) := fun o => (blk_cell (blk_alloc K1.out o) 1).trans rfl
  have z2 : ∀ o, (w3.alloc o).cell? ⟨b + 1, 2, none⟩ = some (.int .i64 0) := fun o => (blk_cell (blk_alloc K1.out o) 2).trans rfl
  have z3 : ∀ o, (w3.alloc o).cell? ⟨b + 1, 3, none⟩ = some (.int .i64 0) := fun o => (blk_cell (blk_alloc K1.out o) 3).trans rfl
  have z4 : ∀ o, (w3.alloc o).cell? ⟨b + 1, 4, none⟩ = some (.int .i64 0) := fun o => (blk_cell (blk_alloc K1.out o) 4).trans rfl
  have z5 : ∀ o, (w3.alloc o).cell? ⟨b + 1, 5, none⟩ = some (.int .u64 0) := fun o => (blk_cell (blk_alloc K1.out o) 5).trans rfl
  have f2 : ∀ o, (w3.alloc o).frozen? ⟨b, 2, none⟩ = false := fun o => blk_frozen (blk_alloc K0.out o) 2
  have f3 : ∀ o, (w3.alloc o).frozen? ⟨b, 3, none⟩ = false := fun o => blk_frozen (blk_alloc K0.out o) 3
  have g0 : ∀ o, (w3.alloc o).frozen? ⟨b + 1, 0, none⟩ = false := fun o => blk_frozen (blk_alloc K1.out o) 0
  have g1 : ∀ o, (w3.alloc o).frozen? ⟨b + 1, 1, none⟩ = false := fun o => blk_frozen (blk_alloc K1.out o) 1
  have g2 : ∀ o, (w3.alloc o).frozen? ⟨b + 1, 2, none⟩ = false := fun o => blk_frozen (blk_alloc K1.out o) 2
  have g3 : ∀ o, (w3.alloc o).frozen? ⟨b + 1, 3, none⟩ = false := fun o => blk_frozen (blk_alloc K1.out o) 3
  have g4 : ∀ o, (w3.alloc o).frozen? ⟨b + 1, 4, none⟩ = false := fun o => blk_frozen (blk_alloc K1.out o) 4
  have g5 : ∀ o, (w3.alloc o).frozen? ⟨b + 1, 5, none⟩ = false := fun o => blk_frozen (blk_alloc K1.out o) 5
  go_wp2_with fail
  go_quiet (fail)
  go_wp2_with fail
  refine bodyPost_ret (results_tct rfl _ _ (b + 1) 35 #[.int .i64 0, .int .i64 0, .int .i64 0, .int .i64 0, .int .i64 0, .int .u64 0] (0, 0) _ rfl (put6 (blk_drewN (blk_alloc K1.out _) _) _ _ _ _ _ _) Try.underlying35 rfl (by kernel_rfl)) rfl ?_
  exact ⟨rfl, F, bk6 (HA3.out.below (pw_below_drewN (below_alloc (Below.refl _ _) _) _)) (HBF.out (b + 1) (by omega)) _ _ _ _ _ _, fun k hk => Or.inl hk, fr6 (HR3.out.then_below (pw_below_drewN (below_alloc (Below.refl _ _) _) _)) (Or.inr (by have := HBW.out; show w.heap.size ≤ b + 1; omega)) _ _ _ _ _ _⟩
set_option maxHeartbeats 4000000 in
set_option maxRecDepth 100000 in
theorem rt_E1a (kb : Nat) (F : Nat → Prop) (N : List Int) (D : List ByteArray) (m p t sp r ch : Int) (next : Int) (l : List Int) (er : Int) (w : World) (h : BookAt w F kb N D) (h0 : sp ≠ 0) (hn : decN1 (getB N D t).data.toList = next) (hl : decL1 (getB N D t).data.toList = l) (he : decE1 (getB N D t).data.toList = er) (t1 : (er != 0) = false) (hD : next < p) (hll : l = []) (t5 : (next == 0) = true) (t6 : (sp == 1) = false) :
    Calls Try.prog 21 #[.agg #[.int .i64 m, .int .i64 p, .int .i64 t, .int .i64 sp, .int .i64 r, .int .u64 ch], .pointer (some ⟨kb, 0, none⟩)] w fun e w' => e = .returned (.tuple #[.int .i64 0, Hd.zero.v, .int .i64 30]) ∧ Goes (fun F' => BookAt w' F' kb N D) F w w' := by
  have H := Aside0.mk h
  have HB := Aside0.mk h.2.1
  have hu35 := Try.underlying35
  have hu24 := Try.underlying24
  have HN := Aside0.mk hn
  have HL := Aside0.mk hl
  have HE := Aside0.mk he
  have t0 : (sp == 0) = false := by simp [h0]
  clear h h0 hn hl he
  go_enter Try.func21, Try.ntmps21
  go_wp2_with fail
  obtain ⟨w2, hw2⟩ : ∃ w2, w2 = (w.alloc (.cells #[.int .i64 m, .int .i64 p, .int .i64 t, .int .i64 sp, .int .i64 r, .int .u64 ch] 35)).alloc (.cells #[.int .i64 0, .int .i64 0, .int .i64 0, .int .i64 0, .int .i64 0, .int .u64 0] 35) := ⟨_, rfl⟩
  rw [← hw2]
  have HA2 := Aside0.mk (show BookAt w2 F kb N D by rw [hw2]; exact H.out.below (below_alloc (below_alloc (Below.refl _ _) _) _))
  have HR2 := Aside0.mk (show Fr F w w2 by rw [hw2]; exact ((Fr.refl F w).alloc _).alloc _)
  have K0 := Aside0.mk (show w2.heap[w.heap.size]? = some (.cells #[.int .i64 m, .int .i64 p, .int .i64 t, .int .i64 sp, .int .i64 r, .int .u64 ch] 35 (0, 0)) by rw [hw2]; exact blk_alloc (blk_new w _) _)
  have K1 := Aside0.mk (show w2.heap[w.heap.size + 1]? = some (.cells #[.int .i64 0, .int .i64 0, .int .i64 0, .int .i64 0, .int .i64 0, .int .u64 0] 35 (0, 0)) by
    rw [hw2]
    have := blk_new (w.alloc (.cells #[.int .i64 m, .int .i64 p, .int .i64 t, .int .i64 sp, .int .i64 r, .int .u64 ch] 35)) (.cells #[.int .i64 0, .int .i64 0, .int .i64 0, .int .i64 0, .int .i64 0, .int .u64 0] 35)
    simpa using this)
  clear hw2
  obtain ⟨b, hb⟩ : ∃ b, b = w.heap.size := ⟨_, rfl⟩
  rw [← hb] at K0 K1 ⊢
  have HBF := Aside0.mk (show ∀ k, b ≤ k → ¬ F k from fun k hk hf => by have := HB.out k hf; omega)
  have HBW := Aside0.mk hb
  clear hb
  refine (bookGet_calls kb F N D t w2 HA2.out).mono ?_
  rintro e w1 ⟨rfl, hb1⟩
  replace K0 := Aside0.mk (blk_below K0.out hb1)
  replace K1 := Aside0.mk (blk_below K1.out hb1)
  replace HA2 := Aside0.mk (HA2.out.below hb1)
  replace HR2 := Aside0.mk (HR2.out.then_below hb1)
  clear hb1
  go_wp2_with fail
  refine (refDecode_calls _ w1).mono ?_
  rw [HN.out, HL.out, HE.out]
  rintro e w3 ⟨v, rfl, hv3, hb3⟩
  obtain ⟨A, c, rfl⟩ := Kd.R_slice hv3
  obtain ⟨_, hlc, hC3⟩ := Kd.R_reads' hv3
  replace K0 := Aside0.mk (blk_below K0.out hb3)
  replace K1 := Aside0.mk (blk_below K1.out hb3)
  have HA3 := Aside0.mk (HA2.out.below hb3)
  have HR3 := Aside0.mk (HR2.out.then_below hb3)
  have HC3 := Aside0.mk hC3
  have hlm := Kd.C_max HC3.out
  clear hv3 hb3 hC3 HA2 HR2 HN HL HE
  have t2 : decide (p ≤ next) = false := decide_eq_false (by omega)
  subst hll
  have a0 : ∀ o, (w3.alloc o).cell? ⟨b, 0, none⟩ = some (.int .i64 m) := fun o => (blk_cell (blk_alloc K0.out o) 0).trans rfl
  have a1 : ∀ o, (w3.alloc o).cell? ⟨b, 1, none⟩ = some (.int .i64 p) := fun o => (blk_cell (blk_alloc K0.out o) 1).trans rfl
  have a2 : ∀ o, (w3.alloc o).cell? ⟨b, 2, none⟩ = some (.int .i64 t) := fun o => (blk_cell (blk_alloc K0.out o) 2).trans rfl
  have a3 : ∀ o, (w3.alloc o).cell? ⟨b, 3, none⟩ = some (.int .i64 sp) := fun o => (blk_cell (blk_alloc K0.out o) 3).trans rfl
  have a4 : ∀ o, (w3.alloc o).cell? ⟨b, 4, none⟩ = some (.int .i64 r) := fun o => (blk_cell (blk_alloc K0.out o) 4).trans rfl
  have a5 : ∀ o, (w3.alloc o).cell? ⟨b, 5, none⟩ = some (.int .u64 ch) := fun o => (blk_cell (blk_alloc K0.out o) 5).trans rfl
  have z0 : ∀ o, (w3.alloc o).cell? ⟨b + 1, 0, none⟩ = some (.int .i64 0) := fun o => (blk_cell (blk_alloc K1.out o) 0).trans rfl
  have z1 : ∀ o, (w3.alloc o).cell? ⟨b + 1, 1, none⟩ = some (.int .i64 0) := fun o => (blk_cell (blk_alloc K1.out o) 1).trans rfl
  have z2 : ∀ o, (w3.alloc o).cell? ⟨b + 1, 2, none⟩ = some (.int .i64 0) := fun o => (blk_cell (blk_alloc K1.out o) 2).trans rfl
  have z3 : ∀ o, (w3.alloc o).cell? ⟨b + 1, 3, none⟩ = some (.int .i64 0) := fun o => (blk_cell (blk_alloc K1.out o) 3).trans rfl
  have z4 : ∀ o, (w3.alloc o).cell? ⟨b + 1, 4, none⟩ = some (.int .i64 0) := fun o => (blk_cell (blk_alloc K1.out o) 4).trans rfl
  have z5 : ∀ o, (w3.alloc o).cell? ⟨b + 1, 5, none⟩ = some (.int .u64 0) := fun o => (blk_cell (blk_alloc K1.out o) 5).trans rfl
  have f2 : ∀ o, (w3.alloc o).frozen? ⟨b, 2, none⟩ = false := fun o => blk_frozen (blk_alloc K0.out o) 2
  have f3 : ∀ o, (w3.alloc o).frozen? ⟨b, 3, none⟩ = false := fun o => blk_frozen (blk_alloc K0.out o) 3
  have g0 : ∀ o, (w3.alloc o).frozen? ⟨b + 1, 0, none⟩ = false := fun o => blk_frozen (blk_alloc K1.out o) 0
  have g1 : ∀ o, (w3.alloc o).frozen? ⟨b + 1, 1, none⟩ = false := fun o => blk_frozen (blk_alloc K1.out o) 1
  have g2 : ∀ o, (w3.alloc o).frozen? ⟨b + 1, 2, none⟩ = false := fun o => blk_frozen (blk_alloc K1.out o) 2
  have g3 : ∀ o, (w3.alloc o).frozen? ⟨b + 1, 3, none⟩ = false := fun o => blk_frozen (blk_alloc K1.out o) 3
  have g4 : ∀ o, (w3.alloc o).frozen? ⟨b + 1, 4, none⟩ = false := fun o => blk_frozen (blk_alloc K1.out o) 4
  have g5 : ∀ o, (w3.alloc o).frozen? ⟨b + 1, 5, none⟩ = false := fun o => blk_frozen (blk_alloc K1.out o) 5
  go_wp2_with fail
  go_quiet (fail)
  go_wp2
  refine bodyPost_ret (results_tct rfl _ _ (b + 1) 35 #[.int .i64 0, .int .i64 0, .int .i64 0, .int .i64 0, .int .i64 0, .int .u64 0] (0, 0) _ rfl (put6 (blk_far (blk_drewN (blk_alloc K1.out _) _) (show b + 1 ≠ b by omega) _) _ _ _ _ _ _) Try.underlying35 rfl (by kernel_rfl)) rfl ?_
  exact ⟨rfl, F, bk6 (bk_far (p := ⟨b, 2, none⟩) (HA3.out.below (pw_below_drewN (below_alloc (Below.refl _ _) _) _)) (HBF.out b (Nat.le_refl _)) _) (HBF.out (b + 1) (by omega)) _ _ _ _ _ _, fun k hk => Or.inl hk, fr6 ((HR3.out.then_below (pw_below_drewN (below_alloc (Below.refl _ _) _) _)).setCell (p := ⟨b, 2, none⟩) (Or.inr (by have := HBW.out; show w.heap.size ≤ b; omega)) _) (Or.inr (by have := HBW.out; show w.heap.size ≤ b + 1; omega)) _ _ _ _ _ _⟩
set_option maxHeartbeats 4000000 in
set_option maxRecDepth 100000 in
theorem rt_E1b (kb : Nat) (F : Nat → Prop) (N : List Int) (D : List ByteArray) (m p t sp r ch : Int) (next : Int) (l : List Int) (er : Int) (w : World) (h : BookAt w F kb N D) (h0 : sp ≠ 0) (hn : decN1 (getB N D t).data.toList = next) (hl : decL1 (getB N D t).data.toList = l) (he : decE1 (getB N D t).data.toList = er) (t1 : (er != 0) = false) (hD : next < p) (hll : l = []) (t5 : (next == 0) = false) (t6 : (sp == 1) = true) :
    Calls Try.prog 21 #[.agg #[.int .i64 m, .int .i64 p, .int .i64 t, .int .i64 sp, .int .i64 r, .int .u64 ch], .pointer (some ⟨kb, 0, none⟩)] w fun e w' => e = .returned (.tuple #[.int .i64 0, Hd.zero.v, .int .i64 30]) ∧ Goes (fun F' => BookAt w' F' kb N D) F w w' := by
  have H := Aside0.mk h
  have HB := Aside0.mk h.2.1
  have hu35 := Try.underlying35
  have hu24 := Try.underlying24
  have HN := Aside0.mk hn
  have HL := Aside0.mk hl
  have HE := Aside0.mk he
  have t0 : (sp == 0) = false := by simp [h0]
  clear h h0 hn hl he
  go_enter Try.func21, Try.ntmps21
  go_wp2_with fail
  obtain ⟨w2, hw2⟩ : ∃ w2, w2 = (w.alloc (.cells #[.int .i64 m, .int .i64 p, .int .i64 t, .int .i64 sp, .int .i64 r, .int .u64 ch] 35)).alloc (.cells #[.int .i64 0, .int .i64 0, .int .i64 0, .int .i64 0, .int .i64 0, .int .u64 0] 35) := ⟨_, rfl⟩
  rw [← hw2]
  have HA2 := Aside0.mk (show BookAt w2 F kb N D by rw [hw2]; exact H.out.below (below_alloc (below_alloc (Below.refl _ _) _) _))
  have HR2 := Aside0.mk (show Fr F w w2 by rw [hw2]; exact ((Fr.refl F w).alloc _).alloc _)
  have K0 := Aside0.mk (show w2.heap[w.heap.size]? = some (.cells #[.int .i64 m, .int .i64 p, .int .i64 t, .int .i64 sp, .int .i64 r, .int .u64 ch] 35 (0, 0)) by rw [hw2]; exact blk_alloc (blk_new w _) _)
  have K1 := Aside0.mk (show w2.heap[w.heap.size + 1]? = some (.cells #[.int .i64 0, .int .i64 0, .int .i64 0, .int .i64 0, .int .i64 0, .int .u64 0] 35 (0, 0)) by
    rw [hw2]
    have := blk_new (w.alloc (.cells #[.int .i64 m, .int .i64 p, .int .i64 t, .int .i64 sp, .int .i64 r, .int .u64 ch] 35)) (.cells #[.int .i64 0, .int .i64 0, .int .i64 0, .int .i64 0, .int .i64 0, .int .u64 0] 35)
    simpa using this)
  clear hw2
  obtain ⟨b, hb⟩ : ∃ b, b = w.heap.size := ⟨_, rfl⟩
  rw [← hb] at K0 K1 ⊢
  have HBF := Aside0.mk (show ∀ k, b ≤ k → ¬ F k from fun k hk hf => by have := HB.out k hf; omega)
  have HBW := Aside0.mk hb
  clear hb
  refine (bookGet_calls kb F N D t w2 HA2.out).mono ?_
  rintro e w1 ⟨rfl, hb1⟩
  replace K0 := Aside0.mk (blk_below K0.out hb1)
  replace K1 := Aside0.mk (blk_below K1.out hb1)
  replace HA2 := Aside0.mk (HA2.out.below hb1)
  replace HR2 := Aside0.mk (HR2.out.then_below hb1)
  clear hb1
  go_wp2_with fail
  refine (refDecode_calls _ w1).mono ?_
  rw [HN.out, HL.out, HE.out]
  rintro e w3 ⟨v, rfl, hv3, hb3⟩
  obtain ⟨A, c, rfl⟩ := Kd.R_slice hv3
  obtain ⟨_, hlc, hC3⟩ := Kd.R_reads' hv3
  replace K0 := Aside0.mk (blk_below K0.out hb3)
  replace K1 := Aside0.mk (blk_below K1.out hb3)
  have HA3 := Aside0.mk (HA2.out.below hb3)
  have HR3 := Aside0.mk (HR2.out.then_below hb3)
  have HC3 := Aside0.mk hC3
  have hlm := Kd.C_max HC3.out
  clear hv3 hb3 hC3 HA2 HR2 HN HL HE
  have t2 : decide (p ≤ next) = false := decide_eq_false (by omega)
  subst hll
  have a0 : ∀ o, (w3.alloc o).cell? ⟨b, 0, none⟩ = some (.int .i64 m) := fun o => (blk_cell (blk_alloc K0.out o) 0).trans rfl
  have a1 : ∀ o, (w3.alloc o).cell? ⟨b, 1, none⟩ = some (.int .i64 p) := fun o => (blk_cell (blk_alloc K0.out o) 1).trans rfl
  have a2 : ∀ o, (w3.alloc o).cell? ⟨b, 2, none⟩ = some (.int .i64 t) := fun o => (blk_cell (blk_alloc K0.out o) 2).trans rfl
  have a3 : ∀ o, (w3.alloc o).cell? ⟨b, 3, none⟩ = some (.int .i64 sp) := fun o => (blk_cell (blk_alloc K0.out o) 3).trans rfl
  have a4 : ∀ o, (w3.alloc o).cell? ⟨b, 4, none⟩ = some (.int .i64 r) := fun o => (blk_cell (blk_alloc K0.out o) 4).trans rfl
  have a5 : ∀ o, (w3.alloc o).cell? ⟨b, 5, none⟩ = some (.int .u64 ch) := fun o => (blk_cell (blk_alloc K0.out o) 5).trans rfl
  have z0 : ∀ o, (w3.alloc o).cell? ⟨b + 1, 0, none⟩ = some (.int .i64 0) := fun o => (blk_cell (blk_alloc K1.out o) 0).trans rfl
  have z1 : ∀ o, (w3.alloc o).cell? ⟨b + 1, 1, none⟩ = some (.int .i64 0) := fun o => (blk_cell (blk_alloc K1.out o) 1).trans rfl
  have z2 : ∀ o, (w3.alloc o).cell? ⟨b + 1, 2, none⟩ = some (.int .i64 0) := fun o => (blk_cell (blk_alloc K1.out o) 2).trans rfl
  have z3 : ∀ o, (w3.alloc o).cell? ⟨b + 1, 3, none⟩ = some (.int .i64 0) := fun o => (blk_cell (blk_alloc K1.out o) 3).trans rfl
  have z4 : ∀ o, (w3.alloc o).cell? ⟨b + 1, 4, none⟩ = some (.int .i64 0) := fun o => (blk_cell (blk_alloc K1.out o) 4).trans rfl
  have z5 : ∀ o, (w3.alloc o).cell? ⟨b + 1, 5, none⟩ = some (.int .u64 0) := fun o => (blk_cell (blk_alloc K1.out o) 5).trans rfl
  have f2 : ∀ o, (w3.alloc o).frozen? ⟨b, 2, none⟩ = false := fun o => blk_frozen (blk_alloc K0.out o) 2
  have f3 : ∀ o, (w3.alloc o).frozen? ⟨b, 3, none⟩ = false := fun o => blk_frozen (blk_alloc K0.out o) 3
  have g0 : ∀ o, (w3.alloc o).frozen? ⟨b + 1, 0, none⟩ = false := fun o => blk_frozen (blk_alloc K1.out o) 0
  have g1 : ∀ o, (w3.alloc o).frozen? ⟨b + 1, 1, none⟩ = false := fun o => blk_frozen (blk_alloc K1.out o) 1
  have g2 : ∀ o, (w3.alloc o).frozen? ⟨b + 1, 2, none⟩ = false := fun o => blk_frozen (blk_alloc K1.out o) 2
  have g3 : ∀ o, (w3.alloc o).frozen? ⟨b + 1, 3, none⟩ = false := fun o => blk_frozen (blk_alloc K1.out o) 3
  have g4 : ∀ o, (w3.alloc o).frozen? ⟨b + 1, 4, none⟩ = false := fun o => blk_frozen (blk_alloc K1.out o) 4
  have g5 : ∀ o, (w3.alloc o).frozen? ⟨b + 1, 5, none⟩ = false := fun o => blk_frozen (blk_alloc K1.out o) 5
  go_wp2_with fail
  go_quiet (fail)
  go_wp2
  refine bodyPost_ret (results_tct rfl _ _ (b + 1) 35 #[.int .i64 0, .int .i64 0, .int .i64 0, .int .i64 0, .int .i64 0, .int .u64 0] (0, 0) _ rfl (put6 (blk_far (blk_drewN (blk_alloc K1.out _) _) (show b + 1 ≠ b by omega) _) _ _ _ _ _ _) Try.underlying35 rfl (by kernel_rfl)) rfl ?_
  exact ⟨rfl, F, bk6 (bk_far (p := ⟨b, 2, none⟩) (HA3.out.below (pw_below_drewN (below_alloc (Below.refl _ _) _) _)) (HBF.out b (Nat.le_refl _)) _) (HBF.out (b + 1) (by omega)) _ _ _ _ _ _, fun k hk => Or.inl hk, fr6 ((HR3.out.then_below (pw_below_drewN (below_alloc (Below.refl _ _) _) _)).setCell (p := ⟨b, 2, none⟩) (Or.inr (by have := HBW.out; show w.heap.size ≤ b; omega)) _) (Or.inr (by have := HBW.out; show w.heap.size ≤ b + 1; omega)) _ _ _ _ _ _⟩
set_option maxHeartbeats 4000000 in
set_option maxRecDepth 100000 in
theorem rt_E2a (kb : Nat) (F : Nat → Prop) (N : List Int) (D : List ByteArray) (m p t sp r ch : Int) (next : Int) (l : List Int) (er : Int) (w : World) (h : BookAt w F kb N D) (h0 : sp ≠ 0) (hn : decN1 (getB N D t).data.toList = next) (hl : decL1 (getB N D t).data.toList = l) (he : decE1 (getB N D t).data.toList = er) (t1 : (er != 0) = false) (hD : next < p) (hll : l = []) (hs0 : 0 ≤ sp) (hs1 : sp ≤ 4096) (t5 : (next == 0) = true) (t6 : (sp == 1) = true) :
    Calls Try.prog 21 #[.agg #[.int .i64 m, .int .i64 p, .int .i64 t, .int .i64 sp, .int .i64 r, .int .u64 ch], .pointer (some ⟨kb, 0, none⟩)] w fun e w' => e = .returned (.tuple #[.int .i64 t, (Hd.mk m p next (sp - 1) r ch).v, .int .i64 0]) ∧ Goes (fun F' => BookAt w' F' kb N D) F w w' := by
  have H := Aside0.mk h
  have HB := Aside0.mk h.2.1
  have hu35 := Try.underlying35
  have hu24 := Try.underlying24
  have HN := Aside0.mk hn
  have HL := Aside0.mk hl
  have HE := Aside0.mk he
  have t0 : (sp == 0) = false := by simp [h0]
  clear h h0 hn hl he
  go_enter Try.func21, Try.ntmps21
  go_wp2_with fail
  obtain ⟨w2, hw2⟩ : ∃ w2, w2 = (w.alloc (.cells #[.int .i64 m, .int .i64 p, .int .i64 t, .int .i64 sp, .int .i64 r, .int .u64 ch] 35)).alloc (.cells #[.int .i64 0, .int .i64 0, .int .i64 0, .int .i64 0, .int .i64 0, .int .u64 0] 35) := ⟨_, rfl⟩
  rw [← hw2]
  have HA2 := Aside0.mk (show BookAt w2 F kb N D by rw [hw2]; exact H.out.below (below_alloc (below_alloc (Below.refl _ _) _) _))
  have HR2 := Aside0.mk (show Fr F w w2 by rw [hw2]; exact ((Fr.refl F w).alloc _).alloc _)
  have K0 := Aside0.mk (show w2.heap[w.heap.size]? = some (.cells #[.int .i64 m, .int .i64 p, .int .i64 t, .int .i64 sp, .int .i64 r, .int .u64 ch] 35 (0, 0)) by rw [hw2]; exact blk_alloc (blk_new w _) _)
  have K1 := Aside0.mk (show w2.heap[w.heap.size + 1]? = some (.cells #[.int .i64 0, .int .i64 0, .int .i64 0, .int .i64 0, .int .i64 0, .int .u64 0] 35 (0, 0)) by
    rw [hw2]
    have := blk_new (w.alloc (.cells #[.int .i64 m, .int .i64 p, .int .i64 t, .int .i64 sp, .int .i64 r, .int .u64 ch] 35)) (.cells #[.int .i64 0, .int .i64 0, .int .i64 0, .int .i64 0, .int .i64 0, .int .u64 0] 35)
    simpa using this)
  clear hw2
  obtain ⟨b, hb⟩ : ∃ b, b = w.heap.size := ⟨_, rfl⟩
  rw [← hb] at K0 K1 ⊢
  have HBF := Aside0.mk (show ∀ k, b ≤ k → ¬ F k from fun k hk hf => by have := HB.out k hf; omega)
  have HBW := Aside0.mk hb
  clear hb
  refine (bookGet_calls kb F N D t w2 HA2.out).mono ?_
  rintro e w1 ⟨rfl, hb1⟩
  replace K0 := Aside0.mk (blk_below K0.out hb1)
  replace K1 := Aside0.mk (blk_below K1.out hb1)
  replace HA2 := Aside0.mk (HA2.out.below hb1)
  replace HR2 := Aside0.mk (HR2.out.then_below hb1)
  clear hb1
  go_wp2_with fail
  refine (refDecode_calls _ w1).mono ?_
  rw [HN.out, HL.out, HE.out]
  rintro e w3 ⟨v, rfl, hv3, hb3⟩
  obtain ⟨A, c, rfl⟩ := Kd.R_slice hv3
  obtain ⟨_, hlc, hC3⟩ := Kd.R_reads' hv3
  replace K0 := Aside0.mk (blk_below K0.out hb3)
  replace K1 := Aside0.mk (blk_below K1.out hb3)
  have HA3 := Aside0.mk (HA2.out.below hb3)
  have HR3 := Aside0.mk (HR2.out.then_below hb3)
  have HC3 := Aside0.mk hC3
  have hlm := Kd.C_max HC3.out
  clear hv3 hb3 hC3 HA2 HR2 HN HL HE
  have t2 : decide (p ≤ next) = false := decide_eq_false (by omega)
  subst hll
  have a0 : ∀ o, (w3.alloc o).cell? ⟨b, 0, none⟩ = some (.int .i64 m) := fun o => (blk_cell (blk_alloc K0.out o) 0).trans rfl
  have a1 : ∀ o, (w3.alloc o).cell? ⟨b, 1, none⟩ = some (.int .i64 p) := fun o => (blk_cell (blk_alloc K0.out o) 1).trans rfl
  have a2 : ∀ o, (w3.alloc o).cell? ⟨b, 2, none⟩ = some (.int .i64 t) := fun o => (blk_cell (blk_alloc K0.out o) 2).trans rfl
  have a3 : ∀ o, (w3.alloc o).cell? ⟨b, 3, none⟩ = some (.int .i64 sp) := fun o => (blk_cell (blk_alloc K0.out o) 3).trans rfl
  have a4 : ∀ o, (w3.alloc o).cell? ⟨b, 4, none⟩ = some (.int .i64 r) := fun o => (blk_cell (blk_alloc K0.out o) 4).trans rfl
  have a5 : ∀ o, (w3.alloc o).cell? ⟨b, 5, none⟩ = some (.int .u64 ch) := fun o => (blk_cell (blk_alloc K0.out o) 5).trans rfl
  have z0 : ∀ o, (w3.alloc o).cell? ⟨b + 1, 0, none⟩ = some (.int .i64 0) := fun o => (blk_cell (blk_alloc K1.out o) 0).trans rfl
  have z1 : ∀ o, (w3.alloc o).cell? ⟨b + 1, 1, none⟩ = some (.int .i64 0) := fun o => (blk_cell (blk_alloc K1.out o) 1).trans rfl
  have z2 : ∀ o, (w3.alloc o).cell? ⟨b + 1, 2, none⟩ = some (.int .i64 0) := fun o => (blk_cell (blk_alloc K1.out o) 2).trans rfl
  have z3 : ∀ o, (w3.alloc o).cell? ⟨b + 1, 3, none⟩ = some (.int .i64 0) := fun o => (blk_cell (blk_alloc K1.out o) 3).trans rfl
  have z4 : ∀ o, (w3.alloc o).cell? ⟨b + 1, 4, none⟩ = some (.int .i64 0) := fun o => (blk_cell (blk_alloc K1.out o) 4).trans rfl
  have z5 : ∀ o, (w3.alloc o).cell? ⟨b + 1, 5, none⟩ = some (.int .u64 0) := fun o => (blk_cell (blk_alloc K1.out o) 5).trans rfl
  have f2 : ∀ o, (w3.alloc o).frozen? ⟨b, 2, none⟩ = false := fun o => blk_frozen (blk_alloc K0.out o) 2
  have f3 : ∀ o, (w3.alloc o).frozen? ⟨b, 3, none⟩ = false := fun o => blk_frozen (blk_alloc K0.out o) 3
  have g0 : ∀ o, (w3.alloc o).frozen? ⟨b + 1, 0, none⟩ = false := fun o => blk_frozen (blk_alloc K1.out o) 0
  have g1 : ∀ o, (w3.alloc o).frozen? ⟨b + 1, 1, none⟩ = false := fun o => blk_frozen (blk_alloc K1.out o) 1
  have g2 : ∀ o, (w3.alloc o).frozen? ⟨b + 1, 2, none⟩ = false := fun o => blk_frozen (blk_alloc K1.out o) 2
  have g3 : ∀ o, (w3.alloc o).frozen? ⟨b + 1, 3, none⟩ = false := fun o => blk_frozen (blk_alloc K1.out o) 3
  have g4 : ∀ o, (w3.alloc o).frozen? ⟨b + 1, 4, none⟩ = false := fun o => blk_frozen (blk_alloc K1.out o) 4
  have g5 : ∀ o, (w3.alloc o).frozen? ⟨b + 1, 5, none⟩ = false := fun o => blk_frozen (blk_alloc K1.out o) 5
  go_wp2_with fail
  go_quiet (fail)
  go_wp2_with fail
  go_region
  go_wp2
  refine bodyPost_ret (results_tct rfl _ _ (b + 1) 35 #[.int .i64 m, .int .i64 p, .int .i64 next, .int .i64 (sp - 1), .int .i64 r, .int .u64 ch] (0, 0) _ rfl (blk_drew (put6 (blk_far (blk_far (blk_drewN (blk_alloc K1.out _) _) (show b + 1 ≠ b by omega) _) (show b + 1 ≠ b by omega) _) _ _ _ _ _ _)) Try.underlying35 rfl (by kernel_rfl)) rfl ?_
  exact ⟨rfl, F, (bk6 (bk_far (p := ⟨b, 3, none⟩) (bk_far (p := ⟨b, 2, none⟩) (HA3.out.below (pw_below_drewN (below_alloc (Below.refl _ _) _) _)) (HBF.out b (Nat.le_refl _)) _) (HBF.out b (Nat.le_refl _)) _) (HBF.out (b + 1) (by omega)) _ _ _ _ _ _).below (below_drew (Below.refl _ _)), fun k hk => Or.inl hk, (fr6 (((HR3.out.then_below (pw_below_drewN (below_alloc (Below.refl _ _) _) _)).setCell (p := ⟨b, 2, none⟩) (Or.inr (by have := HBW.out; show w.heap.size ≤ b; omega)) _).setCell (p := ⟨b, 3, none⟩) (Or.inr (by have := HBW.out; show w.heap.size ≤ b; omega)) _) (Or.inr (by have := HBW.out; show w.heap.size ≤ b + 1; omega)) _ _ _ _ _ _).then_below (below_drew (Below.refl _ _))⟩
set_option maxHeartbeats 4000000 in
set_option maxRecDepth 100000 in
theorem rt_E2b (kb : Nat) (F : Nat → Prop) (N : List Int) (D : List ByteArray) (m p t sp r ch : Int) (next : Int) (l : List Int) (er : Int) (w : World) (h : BookAt w F kb N D) (h0 : sp ≠ 0) (hn : decN1 (getB N D t).data.toList = next) (hl : decL1 (getB N D t).data.toList = l) (he : decE1 (getB N D t).data.toList = er) (t1 : (er != 0) = false) (hD : next < p) (hll : l = []) (hs0 : 0 ≤ sp) (hs1 : sp ≤ 4096) (t5 : (next == 0) = false) (t6 : (sp == 1) = false) :
    Calls Try.prog 21 #[.agg #[.int .i64 m, .int .i64 p, .int .i64 t, .int .i64 sp, .int .i64 r, .int .u64 ch], .pointer (some ⟨kb, 0, none⟩)] w fun e w' => e = .returned (.tuple #[.int .i64 t, (Hd.mk m p next (sp - 1) r ch).v, .int .i64 0]) ∧ Goes (fun F' => BookAt w' F' kb N D) F w w' := by
  have H := Aside0.mk h
  have HB := Aside0.mk h.2.1
  have hu35 := Try.underlying35
  have hu24 := Try.underlying24
  have HN := Aside0.mk hn
  have HL := Aside0.mk hl
  have HE := Aside0.mk he
  have t0 : (sp == 0) = false := by simp [h0]
  clear h h0 hn hl he
  go_enter Try.func21, Try.ntmps21
  go_wp2_with fail
  obtain ⟨w2, hw2⟩ : ∃ w2, w2 = (w.alloc (.cells #[.int .i64 m, .int .i64 p, .int .i64 t, .int .i64 sp, .int .i64 r, .int .u64 ch] 35)).alloc (.cells #[.int .i64 0, .int .i64 0, .int .i64 0, .int .i64 0, .int .i64 0, .int .u64 0] 35) := ⟨_, rfl⟩
  rw [← hw2]
  have HA2 := Aside0.mk (show BookAt w2 F kb N D by rw [hw2]; exact H.out.below (below_alloc (below_alloc (Below.refl _ _) _) _))
  have HR2 := Aside0.mk (show Fr F w w2 by rw [hw2]; exact ((Fr.refl F w).alloc _).alloc _)
  have K0 := Aside0.mk (show w2.heap[w.heap.size]? = some (.cells #[.int .i64 m, .int .i64 p, .int .i64 t, .int .i64 sp, .int .i64 r, .int .u64 ch] 35 (0, 0)) by rw [hw2]; exact blk_alloc (blk_new w _) _)
  have K1 := Aside0.mk (show w2.heap[w.heap.size + 1]? = some (.cells #[.int .i64 0, .int .i64 0, .int .i64 0, .int .i64 0, .int .i64 0, .int .u64 0] 35 (0, 0)) by
    rw [hw2]
    have := blk_new (w.alloc (.cells #[.int .i64 m, .int .i64 p, .int .i64 t, .int .i64 sp, .int .i64 r, .int .u64 ch] 35)) (.cells #[.int .i64 0, .int .i64 0, .int .i64 0, .int .i64 0, .int .i64 0, .int .u64 0] 35)
    simpa using this)
  clear hw2
  obtain ⟨b, hb⟩ : ∃ b, b = w.heap.size := ⟨_, rfl⟩
  rw [← hb] at K0 K1 ⊢
  have HBF := Aside0.mk (show ∀ k, b ≤ k → ¬ F k from fun k hk hf => by have := HB.out k hf; omega)
  have HBW := Aside0.mk hb
  clear hb
  refine (bookGet_calls kb F N D t w2 HA2.out).mono ?_
  rintro e w1 ⟨rfl, hb1⟩
  replace K0 := Aside0.mk (blk_below K0.out hb1)
  replace K1 := Aside0.mk (blk_below K1.out hb1)
  replace HA2 := Aside0.mk (HA2.out.below hb1)
  replace HR2 := Aside0.mk (HR2.out.then_below hb1)
  clear hb1
  go_wp2_with fail
  refine (refDecode_calls _ w1).mono ?_
  rw [HN.out, HL.out, HE.out]
  rintro e w3 ⟨v, rfl, hv3, hb3⟩
  obtain ⟨A, c, rfl⟩ := Kd.R_slice hv3
  obtain ⟨_, hlc, hC3⟩ := Kd.R_reads' hv3
  replace K0 := Aside0.mk (blk_below K0.out hb3)
  replace K1 := Aside0.mk (blk_below K1.out hb3)
  have HA3 := Aside0.mk (HA2.out.below hb3)
  have HR3 := Aside0.mk (HR2.out.then_below hb3)
  have HC3 := Aside0.mk hC3
  have hlm := Kd.C_max HC3.out
  clear hv3 hb3 hC3 HA2 HR2 HN HL HE
  have t2 : decide (p ≤ next) = false := decide_eq_false (by omega)
  subst hll
  have a0 : ∀ o, (w3.alloc o).cell? ⟨b, 0, none⟩ = some (.int .i64 m) := fun o => (blk_cell (blk_alloc K0.out o) 0).trans rfl
  have a1 : ∀ o, (w3.alloc o).cell? ⟨b, 1, none⟩ = some (.int .i64 p) := fun o => (blk_cell (blk_alloc K0.out o) 1).trans rfl
  have a2 : ∀ o, (w3.alloc o).cell? ⟨b, 2, none⟩ = some (.int .i64 t) := fun o => (blk_cell (blk_alloc K0.out o) 2).trans rfl
  have a3 : ∀ o, (w3.alloc o).cell? ⟨b, 3, none⟩ = some (.int .i64 sp) := fun o => (blk_cell (blk_alloc K0.out o) 3).trans rfl
  have a4 : ∀ o, (w3.alloc o).cell? ⟨b, 4, none⟩ = some (.int .i64 r) := fun o => (blk_cell (blk_alloc K0.out o) 4).trans rfl
  have a5 : ∀ o, (w3.alloc o).cell? ⟨b, 5, none⟩ = some (.int .u64 ch) := fun o => (blk_cell (blk_alloc K0.out o) 5).trans rfl
  have z0 : ∀ o, (w3.alloc o).cell? ⟨b + 1, 0, none⟩ = some (.int .i64 0) := fun o => (blk_cell (blk_alloc K1.out o) 0).trans rfl
  have z1 : ∀ o, (w3.alloc o).cell? ⟨b + 1, 1, none⟩ = some (.int .i64 0) := fun o => (blk_cell (blk_alloc K1.out o) 1).trans rfl
  have z2 : ∀ o, (w3.alloc o).cell? ⟨b + 1, 2, none⟩ = some (.int .i64 0) := fun o => (blk_cell (blk_alloc K1.out o) 2).trans rfl
  have z3 : ∀ o, (w3.alloc o).cell? ⟨b + 1, 3, none⟩ = some (.int .i64 0) := fun o => (blk_cell (blk_alloc K1.out o) 3).trans rfl
  have z4 : ∀ o, (w3.alloc o).cell? ⟨b + 1, 4, none⟩ = some (.int .i64 0) := fun o => (blk_cell (blk_alloc K1.out o) 4).trans rfl
  have z5 : ∀ o, (w3.alloc o).cell? ⟨b + 1, 5, none⟩ = some (.int .u64 0) := fun o => (blk_cell (blk_alloc K1.out o) 5).trans rfl
  have f2 : ∀ o, (w3.alloc o).frozen? ⟨b, 2, none⟩ = false := fun o => blk_frozen (blk_alloc K0.out o) 2
  have f3 : ∀ o, (w3.alloc o).frozen? ⟨b, 3, none⟩ = false := fun o => blk_frozen (blk_alloc K0.out o) 3
  have g0 : ∀ o, (w3.alloc o).frozen? ⟨b + 1, 0, none⟩ = false := fun o => blk_frozen (blk_alloc K1.out o) 0
  have g1 : ∀ o, (w3.alloc o).frozen? ⟨b + 1, 1, none⟩ = false := fun o => blk_frozen (blk_alloc K1.out o) 1
  have g2 : ∀ o, (w3.alloc o).frozen? ⟨b + 1, 2, none⟩ = false := fun o => blk_frozen (blk_alloc K1.out o) 2
  have g3 : ∀ o, (w3.alloc o).frozen? ⟨b + 1, 3, none⟩ = false := fun o => blk_frozen (blk_alloc K1.out o) 3
  have g4 : ∀ o, (w3.alloc o).frozen? ⟨b + 1, 4, none⟩ = false := fun o => blk_frozen (blk_alloc K1.out o) 4
  have g5 : ∀ o, (w3.alloc o).frozen? ⟨b + 1, 5, none⟩ = false := fun o => blk_frozen (blk_alloc K1.out o) 5
  go_wp2_with fail
  go_quiet (fail)
  go_wp2_with fail
  go_region
  go_wp2
  refine bodyPost_ret (results_tct rfl _ _ (b + 1) 35 #[.int .i64 m, .int .i64 p, .int .i64 next, .int .i64 (sp - 1), .int .i64 r, .int .u64 ch] (0, 0) _ rfl (blk_drew (put6 (blk_far (blk_far (blk_drewN (blk_alloc K1.out _) _) (show b + 1 ≠ b by omega) _) (show b + 1 ≠ b by omega) _) _ _ _ _ _ _)) Try.underlying35 rfl (by kernel_rfl)) rfl ?_
  exact ⟨rfl, F, (bk6 (bk_far (p := ⟨b, 3, none⟩) (bk_far (p := ⟨b, 2, none⟩) (HA3.out.below (pw_below_drewN (below_alloc (Below.refl _ _) _) _)) (HBF.out b (Nat.le_refl _)) _) (HBF.out b (Nat.le_refl _)) _) (HBF.out (b + 1) (by omega)) _ _ _ _ _ _).below (below_drew (Below.refl _ _)), fun k hk => Or.inl hk, (fr6 (((HR3.out.then_below (pw_below_drewN (below_alloc (Below.refl _ _) _) _)).setCell (p := ⟨b, 2, none⟩) (Or.inr (by have := HBW.out; show w.heap.size ≤ b; omega)) _).setCell (p := ⟨b, 3, none⟩) (Or.inr (by have := HBW.out; show w.heap.size ≤ b; omega)) _) (Or.inr (by have := HBW.out; show w.heap.size ≤ b + 1; omega)) _ _ _ _ _ _).then_below (below_drew (Below.refl _ _))⟩
set_option maxHeartbeats 4000000 in
set_option maxRecDepth 100000 in
theorem rt_F1 (kb : Nat) (F : Nat → Prop) (N : List Int) (D : List ByteArray) (m p t sp r ch : Int) (next : Int) (l0 : List Int) (x : Int) (er : Int) (w : World) (h : BookAt w F kb N D) (h0 : sp ≠ 0) (hn : decN1 (getB N D t).data.toList = next) (hl : decL1 (getB N D t).data.toList = l0 ++ [x]) (he : decE1 (getB N D t).data.toList = er) (t1 : (er != 0) = false) (hD : next < p) (hx1 : p ≤ x) :
    Calls Try.prog 21 #[.agg #[.int .i64 m, .int .i64 p, .int .i64 t, .int .i64 sp, .int .i64 r, .int .u64 ch], .pointer (some ⟨kb, 0, none⟩)] w fun e w' => e = .returned (.tuple #[.int .i64 0, Hd.zero.v, .int .i64 30]) ∧ Goes (fun F' => BookAt w' F' kb N D) F w w' := by
  have H := Aside0.mk h
  have HB := Aside0.mk h.2.1
  have hu35 := Try.underlying35
  have hu24 := Try.underlying24
  have HN := Aside0.mk hn
  have HL := Aside0.mk hl
  have HE := Aside0.mk he
  have t0 : (sp == 0) = false := by simp [h0]
  clear h h0 hn hl he
  go_enter Try.func21, Try.ntmps21
  go_wp2_with fail
  obtain ⟨w2, hw2⟩ : ∃ w2, w2 = (w.alloc (.cells #[.int .i64 m, .int .i64 p, .int .i64 t, .int .i64 sp, .int .i64 r, .int .u64 ch] 35)).alloc (.cells #[.int .i64 0, .int .i64 0, .int .i64 0, .int .i64 0, .int .i64 0, .int .u64 0] 35) := ⟨_, rfl⟩
  rw [← hw2]
  have HA2 := Aside0.mk (show BookAt w2 F kb N D by rw [hw2]; exact H.out.below (below_alloc (below_alloc (Below.refl _ _) _) _))
  have HR2 := Aside0.mk (show Fr F w w2 by rw [hw2]; exact ((Fr.refl F w).alloc _).alloc _)
  have K0 := Aside0.mk (show w2.heap[w.heap.size]? = some (.cells #[.int .i64 m, .int .i64 p, .int .i64 t, .int .i64 sp, .int .i64 r, .int .u64 ch] 35 (0, 0)) by rw [hw2]; exact blk_alloc (blk_new w _) _)
  have K1 := Aside0.mk (show w2.heap[w.heap.size + 1]? = some (.cells #[.int .i64 0, .int .i64 0, .int .i64 0, .int .i64 0, .int .i64 0, .int .u64 0] 35 (0, 0)) by
    rw [hw2]
    have := blk_new (w.alloc (.cells #[.int .i64 m, .int .i64 p, .int .i64 t, .int .i64 sp, .int .i64 r, .int .u64 ch] 35)) (.cells #[.int .i64 0, .int .i64 0, .int .i64 0, .int .i64 0, .int .i64 0, .int .u64 0] 35)
    simpa using this)
  clear hw2
  obtain ⟨b, hb⟩ : ∃ b, b = w.heap.size := ⟨_, rfl⟩
  rw [← hb] at K0 K1 ⊢
  have HBF := Aside0.mk (show ∀ k, b ≤ k → ¬ F k from fun k hk hf => by have := HB.out k hf; omega)
  have HBW := Aside0.mk hb
  clear hb
  refine (bookGet_calls kb F N D t w2 HA2.out).mono ?_
  rintro e w1 ⟨rfl, hb1⟩
  replace K0 := Aside0.mk (blk_below K0.out hb1)
  replace K1 := Aside0.mk (blk_below K1.out hb1)
  replace HA2 := Aside0.mk (HA2.out.below hb1)
  replace HR2 := Aside0.mk (HR2.out.then_below hb1)
  clear hb1
  go_wp2_with fail
  refine (refDecode_calls _ w1).mono ?_
  rw [HN.out, HL.out, HE.out]
  rintro e w3 ⟨v, rfl, hv3, hb3⟩
  obtain ⟨A, c, rfl⟩ := Kd.R_slice hv3
  obtain ⟨_, hlc, hC3⟩ := Kd.R_reads' hv3
  rw [List.length_append, List.length_singleton] at hlc
  replace K0 := Aside0.mk (blk_below K0.out hb3)
  replace K1 := Aside0.mk (blk_below K1.out hb3)
  have HA3 := Aside0.mk (HA2.out.below hb3)
  have HR3 := Aside0.mk (HR2.out.then_below hb3)
  have HC3 := Aside0.mk hC3
  have hlm := Kd.C_max HC3.out
  clear hv3 hb3 hC3 HA2 HR2 HN HL HE
  obtain ⟨ad, e1, hx⟩ := Kd.at_int HC3.out (l0.length : Int) (by omega) (by simp; omega)
  cases e1
  rw [show rd (l0 ++ [x]) (l0.length : Int) = x by simp [rd], Int.toNat_natCast] at hx
  rw [List.length_append, List.length_singleton] at hlm
  have hxo : ∀ o, (w3.alloc o).cell? (ad.add l0.length) = some (.int .i64 x) := fun o => ((below_alloc (Below.refl w3.heap.size w3) o).cell (World.block_lt_of_cell? w3 _ hx)).trans hx
  clear hx
  have t2 : decide (p ≤ next) = false := decide_eq_false (by omega)
  have a0 : ∀ o, (w3.alloc o).cell? ⟨b, 0, none⟩ = some (.int .i64 m) := fun o => (blk_cell (blk_alloc K0.out o) 0).trans rfl
  have a1 : ∀ o, (w3.alloc o).cell? ⟨b, 1, none⟩ = some (.int .i64 p) := fun o => (blk_cell (blk_alloc K0.out o) 1).trans rfl
  have a2 : ∀ o, (w3.alloc o).cell? ⟨b, 2, none⟩ = some (.int .i64 t) := fun o => (blk_cell (blk_alloc K0.out o) 2).trans rfl
  have a3 : ∀ o, (w3.alloc o).cell? ⟨b, 3, none⟩ = some (.int .i64 sp) := fun o => (blk_cell (blk_alloc K0.out o) 3).trans rfl
  have a4 : ∀ o, (w3.alloc o).cell? ⟨b, 4, none⟩ = some (.int .i64 r) := fun o => (blk_cell (blk_alloc K0.out o) 4).trans rfl
  have a5 : ∀ o, (w3.alloc o).cell? ⟨b, 5, none⟩ = some (.int .u64 ch) := fun o => (blk_cell (blk_alloc K0.out o) 5).trans rfl
  have z0 : ∀ o, (w3.alloc o).cell? ⟨b + 1, 0, none⟩ = some (.int .i64 0) := fun o => (blk_cell (blk_alloc K1.out o) 0).trans rfl
  have z1 : ∀ o, (w3.alloc o).cell? ⟨b + 1, 1, none⟩ = some (.int .i64 0) := fun o => (blk_cell (blk_alloc K1.out o) 1).trans rfl
  have z2 : ∀ o, (w3.alloc o).cell? ⟨b + 1, 2, none⟩ = some (.int .i64 0) := fun o => (blk_cell (blk_alloc K1.out o) 2).trans rfl
  have z3 : ∀ o, (w3.alloc o).cell? ⟨b + 1, 3, none⟩ = some (.int .i64 0) := fun o => (blk_cell (blk_alloc K1.out o) 3).trans rfl
  have z4 : ∀ o, (w3.alloc o).cell? ⟨b + 1, 4, none⟩ = some (.int .i64 0) := fun o => (blk_cell (blk_alloc K1.out o) 4).trans rfl
  have z5 : ∀ o, (w3.alloc o).cell? ⟨b + 1, 5, none⟩ = some (.int .u64 0) := fun o => (blk_cell (blk_alloc K1.out o) 5).trans rfl
  have f2 : ∀ o, (w3.alloc o).frozen? ⟨b, 2, none⟩ = false := fun o => blk_frozen (blk_alloc K0.out o) 2
  have f3 : ∀ o, (w3.alloc o).frozen? ⟨b, 3, none⟩ = false := fun o => blk_frozen (blk_alloc K0.out o) 3
  have g0 : ∀ o, (w3.alloc o).frozen? ⟨b + 1, 0, none⟩ = false := fun o => blk_frozen (blk_alloc K1.out o) 0
  have g1 : ∀ o, (w3.alloc o).frozen? ⟨b + 1, 1, none⟩ = false := fun o => blk_frozen (blk_alloc K1.out o) 1
  have g2 : ∀ o, (w3.alloc o).frozen? ⟨b + 1, 2, none⟩ = false := fun o => blk_frozen (blk_alloc K1.out o) 2
  have g3 : ∀ o, (w3.alloc o).frozen? ⟨b + 1, 3, none⟩ = false := fun o => blk_frozen (blk_alloc K1.out o) 3
  have g4 : ∀ o, (w3.alloc o).frozen? ⟨b + 1, 4, none⟩ = false := fun o => blk_frozen (blk_alloc K1.out o) 4
  have g5 : ∀ o, (w3.alloc o).frozen? ⟨b + 1, 5, none⟩ = false := fun o => blk_frozen (blk_alloc K1.out o) 5
  have t3 : decide (p ≤ x) = true := decide_eq_true hx1
  go_wp2_with fail
  go_quiet (fail)
  go_wp2
  refine bodyPost_ret (results_tct rfl _ _ (b + 1) 35 #[.int .i64 0, .int .i64 0, .int .i64 0, .int .i64 0, .int .i64 0, .int .u64 0] (0, 0) _ rfl (put6 (blk_drewN (blk_alloc K1.out _) _) _ _ _ _ _ _) Try.underlying35 rfl (by kernel_rfl)) rfl ?_
  exact ⟨rfl, F, bk6 (HA3.out.below (pw_below_drewN (below_alloc (Below.refl _ _) _) _)) (HBF.out (b + 1) (by omega)) _ _ _ _ _ _, fun k hk => Or.inl hk, fr6 (HR3.out.then_below (pw_below_drewN (below_alloc (Below.refl _ _) _) _)) (Or.inr (by have := HBW.out; show w.heap.size ≤ b + 1; omega)) _ _ _ _ _ _⟩
set_option maxHeartbeats 4000000 in
set_option maxRecDepth 100000 in
theorem rt_F2 (kb : Nat) (F : Nat → Prop) (N : List Int) (D : List ByteArray) (m p t sp r ch : Int) (next : Int) (l0 : List Int) (x : Int) (er : Int) (w : World) (h : BookAt w F kb N D) (h0 : sp ≠ 0) (hn : decN1 (getB N D t).data.toList = next) (hl : decL1 (getB N D t).data.toList = l0 ++ [x]) (he : decE1 (getB N D t).data.toList = er) (t1 : (er != 0) = false) (hD : next < p) (hx1 : x < p) (t6 : (sp == 1) = true) :
    Calls Try.prog 21 #[.agg #[.int .i64 m, .int .i64 p, .int .i64 t, .int .i64 sp, .int .i64 r, .int .u64 ch], .pointer (some ⟨kb, 0, none⟩)] w fun e w' => e = .returned (.tuple #[.int .i64 0, Hd.zero.v, .int .i64 30]) ∧ Goes (fun F' => BookAt w' F' kb N D) F w w' := by
  have H := Aside0.mk h
  have HB := Aside0.mk h.2.1
  have hu35 := Try.underlying35
  have hu24 := Try.underlying24
  have HN := Aside0.mk hn
  have HL := Aside0.mk hl
  have HE := Aside0.mk he
  have t0 : (sp == 0) = false := by simp [h0]
  clear h h0 hn hl he
  go_enter Try.func21, Try.ntmps21
  go_wp2_with fail
  obtain ⟨w2, hw2⟩ : ∃ w2, w2 = (w.alloc (.cells #[.int .i64 m, .int .i64 p, .int .i64 t, .int .i64 sp, .int .i64 r, .int .u64 ch] 35)).alloc (.cells #[.int .i64 0, .int .i64 0, .int .i64 0, .int .i64 0, .int .i64 0, .int .u64 0] 35) := ⟨_, rfl⟩
  rw [← hw2]
  have HA2 := Aside0.mk (show BookAt w2 F kb N D by rw [hw2]; exact H.out.below (below_alloc (below_alloc (Below.refl _ _) _) _))
  have HR2 := Aside0.mk (show Fr F w w2 by rw [hw2]; exact ((Fr.refl F w).alloc _).alloc _)
  have K0 := Aside0.mk (show w2.heap[w.heap.size]? = some (.cells #[.int .i64 m, .int .i64 p, .int .i64 t, .int .i64 sp, .int .i64 r, .int .u64 ch] 35 (0, 0)) by rw [hw2]; exact blk_alloc (blk_new w _) _)
  have K1 := Aside0.mk (show w2.heap[w.heap.size + 1]? = some (.cells #[.int .i64 0, .int .i64 0, .int .i64 0, .int .i64 0, .int .i64 0, .int .u64 0] 35 (0, 0)) by
    rw [hw2]
    have := blk_new (w.alloc (.cells #[.int .i64 m, .int .i64 p, .int .i64 t, .int .i64 sp, .int .i64 r, .int .u64 ch] 35)) (.cells #[.int .i64 0, .int .i64 0, .int .i64 0, .int .i64 0, .int .i64 0, .int .u64 0] 35)
    simpa using this)
  clear hw2
  obtain ⟨b, hb⟩ : ∃ b, b = w.heap.size := ⟨_, rfl⟩
  rw [← hb] at K0 K1 ⊢
  have HBF := Aside0.mk (show ∀ k, b ≤ k → ¬ F k from fun k hk hf => by have := HB.out k hf; omega)
  have HBW := Aside0.mk hb
  clear hb
  refine (bookGet_calls kb F N D t w2 HA2.out).mono ?_
  rintro e w1 ⟨rfl, hb1⟩
  replace K0 := Aside0.mk (blk_below K0.out hb1)
  replace K1 := Aside0.mk (blk_below K1.out hb1)
  replace HA2 := Aside0.mk (HA2.out.below hb1)
  replace HR2 := Aside0.mk (HR2.out.then_below hb1)
  clear hb1
  go_wp2_with fail
  refine (refDecode_calls _ w1).mono ?_
  rw [HN.out, HL.out, HE.out]
  rintro e w3 ⟨v, rfl, hv3, hb3⟩
  obtain ⟨A, c, rfl⟩ := Kd.R_slice hv3
  obtain ⟨_, hlc, hC3⟩ := Kd.R_reads' hv3
  rw [List.length_append, List.length_singleton] at hlc
  replace K0 := Aside0.mk (blk_below K0.out hb3)
  replace K1 := Aside0.mk (blk_below K1.out hb3)
  have HA3 := Aside0.mk (HA2.out.below hb3)
  have HR3 := Aside0.mk (HR2.out.then_below hb3)
  have HC3 := Aside0.mk hC3
  have hlm := Kd.C_max HC3.out
  clear hv3 hb3 hC3 HA2 HR2 HN HL HE
  obtain ⟨ad, e1, hx⟩ := Kd.at_int HC3.out (l0.length : Int) (by omega) (by simp; omega)
  cases e1
  rw [show rd (l0 ++ [x]) (l0.length : Int) = x by simp [rd], Int.toNat_natCast] at hx
  rw [List.length_append, List.length_singleton] at hlm
  have hxo : ∀ o, (w3.alloc o).cell? (ad.add l0.length) = some (.int .i64 x) := fun o => ((below_alloc (Below.refl w3.heap.size w3) o).cell (World.block_lt_of_cell? w3 _ hx)).trans hx
  clear hx
  have t2 : decide (p ≤ next) = false := decide_eq_false (by omega)
  have a0 : ∀ o, (w3.alloc o).cell? ⟨b, 0, none⟩ = some (.int .i64 m) := fun o => (blk_cell (blk_alloc K0.out o) 0).trans rfl
  have a1 : ∀ o, (w3.alloc o).cell? ⟨b, 1, none⟩ = some (.int .i64 p) := fun o => (blk_cell (blk_alloc K0.out o) 1).trans rfl
  have a2 : ∀ o, (w3.alloc o).cell? ⟨b, 2, none⟩ = some (.int .i64 t) := fun o => (blk_cell (blk_alloc K0.out o) 2).trans rfl
  have a3 : ∀ o, (w3.alloc o).cell? ⟨b, 3, none⟩ = some (.int .i64 sp) := fun o => (blk_cell (blk_alloc K0.out o) 3).trans rfl
  have a4 : ∀ o, (w3.alloc o).cell? ⟨b, 4, none⟩ = some (.int .i64 r) := fun o => (blk_cell (blk_alloc K0.out o) 4).trans rfl
  have a5 : ∀ o, (w3.alloc o).cell? ⟨b, 5, none⟩ = some (.int .u64 ch) := fun o => (blk_cell (blk_alloc K0.out o) 5).trans rfl
  have z0 : ∀ o, (w3.alloc o).cell? ⟨b + 1, 0, none⟩ = some (.int .i64 0) := fun o => (blk_cell (blk_alloc K1.out o) 0).trans rfl
  have z1 : ∀ o, (w3.alloc o).cell? ⟨b + 1, 1, none⟩ = some (.int .i64 0) := fun o => (blk_cell (blk_alloc K1.out o) 1).trans rfl
  have z2 : ∀ o, (w3.alloc o).cell? ⟨b + 1, 2, none⟩ = some (.int .i64 0) := fun o => (blk_cell (blk_alloc K1.out o) 2).trans rfl
  have z3 : ∀ o, (w3.alloc o).cell? ⟨b + 1, 3, none⟩ = some (.int .i64 0) := fun o => (blk_cell (blk_alloc K1.out o) 3).trans rfl
  have z4 : ∀ o, (w3.alloc o).cell? ⟨b + 1, 4, none⟩ = some (.int .i64 0) := fun o => (blk_cell (blk_alloc K1.out o) 4).trans rfl
  have z5 : ∀ o, (w3.alloc o).cell? ⟨b + 1, 5, none⟩ = some (.int .u64 0) := fun o => (blk_cell (blk_alloc K1.out o) 5).trans rfl
  have f2 : ∀ o, (w3.alloc o).frozen? ⟨b, 2, none⟩ = false := fun o => blk_frozen (blk_alloc K0.out o) 2
  have f3 : ∀ o, (w3.alloc o).frozen? ⟨b, 3, none⟩ = false := fun o => blk_frozen (blk_alloc K0.out o) 3
  have g0 : ∀ o, (w3.alloc o).frozen? ⟨b + 1, 0, none⟩ = false := fun o => blk_frozen (blk_alloc K1.out o) 0
  have g1 : ∀ o, (w3.alloc o).frozen? ⟨b + 1, 1, none⟩ = false := fun o => blk_frozen (blk_alloc K1.out o) 1
  have g2 : ∀ o, (w3.alloc o).frozen? ⟨b + 1, 2, none⟩ = false := fun o => blk_frozen (blk_alloc K1.out o) 2
  have g3 : ∀ o, (w3.alloc o).frozen? ⟨b + 1, 3, none⟩ = false := fun o => blk_frozen (blk_alloc K1.out o) 3
  have g4 : ∀ o, (w3.alloc o).frozen? ⟨b + 1, 4, none⟩ = false := fun o => blk_frozen (blk_alloc K1.out o) 4
  have g5 : ∀ o, (w3.alloc o).frozen? ⟨b + 1, 5, none⟩ = false := fun o => blk_frozen (blk_alloc K1.out o) 5
  have t3 : decide (p ≤ x) = false := decide_eq_false (by omega)
  go_wp2_with fail
  go_quiet (fail)
  go_wp2
  refine bodyPost_ret (results_tct rfl _ _ (b + 1) 35 #[.int .i64 0, .int .i64 0, .int .i64 0, .int .i64 0, .int .i64 0, .int .u64 0] (0, 0) _ rfl (put6 (blk_drewN (blk_alloc K1.out _) _) _ _ _ _ _ _) Try.underlying35 rfl (by kernel_rfl)) rfl ?_
  exact ⟨rfl, F, bk6 (HA3.out.below (pw_below_drewN (below_alloc (Below.refl _ _) _) _)) (HBF.out (b + 1) (by omega)) _ _ _ _ _ _, fun k hk => Or.inl hk, fr6 (HR3.out.then_below (pw_below_drewN (below_alloc (Below.refl _ _) _) _)) (Or.inr (by have := HBW.out; show w.heap.size ≤ b + 1; omega)) _ _ _ _ _ _⟩
end Go.Proofs.Ytonbipaajhokfaa
