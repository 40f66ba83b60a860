/-
  Walk: the reference's Give of layer 9: the ways.
-/
import Derived.Test.YtonbipaajhokfaaG1
import Derived.BigQuiet
set_option linter.unusedVariables false
set_option linter.unusedSimpArgs false
namespace Go.Proofs.Ytonbipaajhokfaa
open Go.RowKit Go.Proofs.YtonbipaajhokfaaW.PrintWords Go.Proofs.YtonbipaajhokfaaW.PrintLast Go.Proofs.YtonbipaajhokfaaW.PrintMore
set_option maxHeartbeats 4000000 in
set_option maxRecDepth 100000 in
theorem rg_A1 (kb : Nat) (F : Nat → Prop) (N : List Int) (D : List ByteArray) (m p t sp r ch n : Int)  (w : World) (h : BookAt w F kb N D) (t1 : decide (n < 1) = true) :
    Calls Try.prog 23 #[.agg #[.int .i64 m, .int .i64 p, .int .i64 t, .int .i64 sp, .int .i64 r, .int .u64 ch], .pointer (some ⟨kb, 0, none⟩), .int .i64 n] w fun e w' => e = .returned (.tuple #[Hd.zero.v, .int .i64 1]) ∧ Goes (fun F' => BookAt w' F' kb N D) F w w' := by
  have H := Aside0.mk h
  have HB := Aside0.mk h.2.1
  have hu35 := Try.underlying35
  have hu24 := Try.underlying24
  clear h
  go_enter Try.func23, Try.ntmps23
  go_wp2
  refine bodyPost_ret (results_ct rfl _ _ (w.heap.size + 1) 35 #[.int .i64 0, .int .i64 0, .int .i64 0, .int .i64 0, .int .i64 0, .int .u64 0] (0, 0) _ rfl ?_ Try.underlying35 rfl (by kernel_rfl)) rfl ?_
  · have := blk_new (w.alloc (.cells #[.int .i64 m, .int .i64 p, .int .i64 t, .int .i64 sp, .int .i64 r, .int .u64 ch] 35)) (.cells #[.int .i64 0, .int .i64 0, .int .i64 0, .int .i64 0, .int .i64 0, .int .u64 0] 35)
    simpa using this
  · exact ⟨rfl, F, H.out.below (below_alloc (below_alloc (Below.refl _ _) _) _), fun k hk => Or.inl hk, ((Fr.refl F w).alloc _).alloc _⟩
set_option maxHeartbeats 4000000 in
set_option maxRecDepth 100000 in
theorem rg_A2 (kb : Nat) (F : Nat → Prop) (N : List Int) (D : List ByteArray) (m p t sp r ch n : Int)  (w : World) (h : BookAt w F kb N D) (t1 : decide (n < 1) = false) (t2 : decide (p ≤ n) = true) :
    Calls Try.prog 23 #[.agg #[.int .i64 m, .int .i64 p, .int .i64 t, .int .i64 sp, .int .i64 r, .int .u64 ch], .pointer (some ⟨kb, 0, none⟩), .int .i64 n] w fun e w' => e = .returned (.tuple #[Hd.zero.v, .int .i64 1]) ∧ Goes (fun F' => BookAt w' F' kb N D) F w w' := by
  have H := Aside0.mk h
  have HB := Aside0.mk h.2.1
  have hu35 := Try.underlying35
  have hu24 := Try.underlying24
  clear h
  go_enter Try.func23, Try.ntmps23
  go_wp2
  refine bodyPost_ret (results_ct rfl _ _ (w.heap.size + 1) 35 #[.int .i64 0, .int .i64 0, .int .i64 0, .int .i64 0, .int .i64 0, .int .u64 0] (0, 0) _ rfl ?_ Try.underlying35 rfl (by kernel_rfl)) rfl ?_
  · have := blk_new (w.alloc (.cells #[.int .i64 m, .int .i64 p, .int .i64 t, .int .i64 sp, .int .i64 r, .int .u64 ch] 35)) (.cells #[.int .i64 0, .int .i64 0, .int .i64 0, .int .i64 0, .int .i64 0, .int .u64 0] 35)
    simpa using this
  · exact ⟨rfl, F, H.out.below (below_alloc (below_alloc (Below.refl _ _) _) _), fun k hk => Or.inl hk, ((Fr.refl F w).alloc _).alloc _⟩
set_option maxHeartbeats 4000000 in
set_option maxRecDepth 100000 in
theorem rg_B (kb : Nat) (F : Nat → Prop) (N : List Int) (D : List ByteArray) (m p t sp r ch n : Int)  (w : World) (h : BookAt w F kb N D) (t1 : decide (n < 1) = false) (t2 : decide (p ≤ n) = false) (hp0 : 0 ≤ p) (hp1 : p ≤ 4096) (t3 : decide (p - 1 ≤ sp) = true) :
    Calls Try.prog 23 #[.agg #[.int .i64 m, .int .i64 p, .int .i64 t, .int .i64 sp, .int .i64 r, .int .u64 ch], .pointer (some ⟨kb, 0, none⟩), .int .i64 n] w fun e w' => e = .returned (.tuple #[Hd.zero.v, .int .i64 30]) ∧ Goes (fun F' => BookAt w' F' kb N D) F w w' := by
  have H := Aside0.mk h
  have HB := Aside0.mk h.2.1
  have hu35 := Try.underlying35
  have hu24 := Try.underlying24
  clear h
  go_enter Try.func23, Try.ntmps23
  go_wp2
  refine bodyPost_ret (results_ct rfl _ _ (w.heap.size + 1) 35 #[.int .i64 0, .int .i64 0, .int .i64 0, .int .i64 0, .int .i64 0, .int .u64 0] (0, 0) _ rfl ?_ Try.underlying35 rfl (by kernel_rfl)) rfl ?_
  · have := blk_new (w.alloc (.cells #[.int .i64 m, .int .i64 p, .int .i64 t, .int .i64 sp, .int .i64 r, .int .u64 ch] 35)) (.cells #[.int .i64 0, .int .i64 0, .int .i64 0, .int .i64 0, .int .i64 0, .int .u64 0] 35)
    simpa using this
  · exact ⟨rfl, F, H.out.below (below_alloc (below_alloc (Below.refl _ _) _) _), fun k hk => Or.inl hk, ((Fr.refl F w).alloc _).alloc _⟩
set_option maxHeartbeats 4000000 in
set_option maxRecDepth 100000 in
theorem rg_C (kb : Nat) (F : Nat → Prop) (N : List Int) (D : List ByteArray) (m p t sp r ch n : Int) (next : Int) (l : List Int) (er : Int) (w : World) (h : BookAt w F kb N D) (t1 : decide (n < 1) = false) (t2 : decide (p ≤ n) = false) (hp0 : 0 ≤ p) (hp1 : p ≤ 4096) (hs0 : 0 ≤ sp) (t3 : decide (p - 1 ≤ sp) = false) (t4 : (t != 0) = true) (hn : decN1 (getB N D t).data.toList = next) (hl : decL1 (getB N D t).data.toList = l) (he : decE1 (getB N D t).data.toList = er) (t5 : (er != 0) = true) :
    Calls Try.prog 23 #[.agg #[.int .i64 m, .int .i64 p, .int .i64 t, .int .i64 sp, .int .i64 r, .int .u64 ch], .pointer (some ⟨kb, 0, none⟩), .int .i64 n] w fun e w' => e = .returned (.tuple #[Hd.zero.v, .int .i64 30]) ∧ Goes (fun F' => BookAt w' F' kb N D) F w w' := by
  have H := Aside0.mk h
  have HB := Aside0.mk h.2.1
  have hu35 := Try.underlying35
  have hu24 := Try.underlying24
  clear h
  have HN := Aside0.mk hn
  have HL := Aside0.mk hl
  have HE := Aside0.mk he
  clear hn hl he
  go_enter Try.func23, Try.ntmps23
  go_wp2_with fail
  obtain ⟨w2, hw2⟩ : ∃ w2, w2 = ((w.alloc (.cells #[.int .i64 m, .int .i64 p, .int .i64 t, .int .i64 sp, .int .i64 r, .int .u64 ch] 35)).alloc (.cells #[.int .i64 0, .int .i64 0, .int .i64 0, .int .i64 0, .int .i64 0, .int .u64 0] 35)).alloc (.cells #[.int .i64 0, .slice none 0 0] 24) := ⟨_, rfl⟩
  rw [← hw2]
  have HA2 := Aside0.mk (show BookAt w2 F kb N D by rw [hw2]; exact H.out.below (below_alloc (below_alloc (below_alloc (Below.refl _ _) _) _) _))
  have HR2 := Aside0.mk (show Fr F w w2 by rw [hw2]; exact (((Fr.refl F w).alloc _).alloc _).alloc _)
  have K0 := Aside0.mk (show w2.heap[w.heap.size]? = some (.cells #[.int .i64 m, .int .i64 p, .int .i64 t, .int .i64 sp, .int .i64 r, .int .u64 ch] 35 (0, 0)) by rw [hw2]; exact blk_alloc (blk_alloc (blk_new w _) _) _)
  have K1 := Aside0.mk (show w2.heap[w.heap.size + 1]? = some (.cells #[.int .i64 0, .int .i64 0, .int .i64 0, .int .i64 0, .int .i64 0, .int .u64 0] 35 (0, 0)) by
    rw [hw2]
    refine blk_alloc ?_ _
    have := blk_new (w.alloc (.cells #[.int .i64 m, .int .i64 p, .int .i64 t, .int .i64 sp, .int .i64 r, .int .u64 ch] 35)) (.cells #[.int .i64 0, .int .i64 0, .int .i64 0, .int .i64 0, .int .i64 0, .int .u64 0] 35)
    simpa using this)
  have K8 := Aside0.mk (show w2.heap[w.heap.size + 1 + 1]? = some (.cells #[.int .i64 0, .slice none 0 0] 24 (0, 0)) by
    rw [hw2]
    have := blk_new ((w.alloc (.cells #[.int .i64 m, .int .i64 p, .int .i64 t, .int .i64 sp, .int .i64 r, .int .u64 ch] 35)).alloc (.cells #[.int .i64 0, .int .i64 0, .int .i64 0, .int .i64 0, .int .i64 0, .int .u64 0] 35)) (.cells #[.int .i64 0, .slice none 0 0] 24)
    simpa using this)
  clear hw2
  obtain ⟨b, hb⟩ : ∃ b, b = w.heap.size := ⟨_, rfl⟩
  rw [← hb] at K0 K1 K8 ⊢
  have HBF := Aside0.mk (show ∀ k, b ≤ k → ¬ F k from fun k hk hf => by have := HB.out k hf; omega)
  have HBW := Aside0.mk hb
  clear hb
  refine (bookGet_calls kb F N D t w2 HA2.out).mono ?_
  rintro e w1 ⟨rfl, hb1⟩
  replace K0 := Aside0.mk (blk_below K0.out hb1)
  replace K1 := Aside0.mk (blk_below K1.out hb1)
  replace K8 := Aside0.mk (blk_below K8.out hb1)
  replace HA2 := Aside0.mk (HA2.out.below hb1)
  replace HR2 := Aside0.mk (HR2.out.then_below hb1)
  clear hb1
  go_wp2_with fail
  refine (refDecode_calls _ w1).mono ?_
  rw [HN.out, HL.out, HE.out]
  rintro e w3 ⟨v, rfl, hv3, hb3⟩
  obtain ⟨A, c, rfl⟩ := Kd.R_slice hv3
  obtain ⟨_, hlc, hC3⟩ := Kd.R_reads' hv3
  replace K0 := Aside0.mk (blk_below K0.out hb3)
  replace K1 := Aside0.mk (blk_below K1.out hb3)
  replace K8 := Aside0.mk (blk_below K8.out hb3)
  have HA3 := Aside0.mk (HA2.out.below hb3)
  have HR3 := Aside0.mk (HR2.out.then_below hb3)
  have HC3 := Aside0.mk hC3
  have hlm := Kd.C_max HC3.out
  clear hv3 hb3 hC3 HA2 HR2 HN HL HE
  have a0 : (w3.alloc (.cells #[.int .i64 next, .slice A l.length c] 24)).cell? ⟨b, 0, none⟩ = some (.int .i64 m) := (blk_cell (blk_alloc K0.out _) 0).trans rfl
  have a1 : (w3.alloc (.cells #[.int .i64 next, .slice A l.length c] 24)).cell? ⟨b, 1, none⟩ = some (.int .i64 p) := (blk_cell (blk_alloc K0.out _) 1).trans rfl
  have a2 : (w3.alloc (.cells #[.int .i64 next, .slice A l.length c] 24)).cell? ⟨b, 2, none⟩ = some (.int .i64 t) := (blk_cell (blk_alloc K0.out _) 2).trans rfl
  have a3 : (w3.alloc (.cells #[.int .i64 next, .slice A l.length c] 24)).cell? ⟨b, 3, none⟩ = some (.int .i64 sp) := (blk_cell (blk_alloc K0.out _) 3).trans rfl
  have a4 : (w3.alloc (.cells #[.int .i64 next, .slice A l.length c] 24)).cell? ⟨b, 4, none⟩ = some (.int .i64 r) := (blk_cell (blk_alloc K0.out _) 4).trans rfl
  have a5 : (w3.alloc (.cells #[.int .i64 next, .slice A l.length c] 24)).cell? ⟨b, 5, none⟩ = some (.int .u64 ch) := (blk_cell (blk_alloc K0.out _) 5).trans rfl
  have z0 : (w3.alloc (.cells #[.int .i64 next, .slice A l.length c] 24)).cell? ⟨b + 1, 0, none⟩ = some (.int .i64 0) := (blk_cell (blk_alloc K1.out _) 0).trans rfl
  have z1 : (w3.alloc (.cells #[.int .i64 next, .slice A l.length c] 24)).cell? ⟨b + 1, 1, none⟩ = some (.int .i64 0) := (blk_cell (blk_alloc K1.out _) 1).trans rfl
  have z2 : (w3.alloc (.cells #[.int .i64 next, .slice A l.length c] 24)).cell? ⟨b + 1, 2, none⟩ = some (.int .i64 0) := (blk_cell (blk_alloc K1.out _) 2).trans rfl
  have z3 : (w3.alloc (.cells #[.int .i64 next, .slice A l.length c] 24)).cell? ⟨b + 1, 3, none⟩ = some (.int .i64 0) := (blk_cell (blk_alloc K1.out _) 3).trans rfl
  have z4 : (w3.alloc (.cells #[.int .i64 next, .slice A l.length c] 24)).cell? ⟨b + 1, 4, none⟩ = some (.int .i64 0) := (blk_cell (blk_alloc K1.out _) 4).trans rfl
  have z5 : (w3.alloc (.cells #[.int .i64 next, .slice A l.length c] 24)).cell? ⟨b + 1, 5, none⟩ = some (.int .u64 0) := (blk_cell (blk_alloc K1.out _) 5).trans rfl
  have f2 : (w3.alloc (.cells #[.int .i64 next, .slice A l.length c] 24)).frozen? ⟨b, 2, none⟩ = false := blk_frozen (blk_alloc K0.out _) 2
  have f3 : (w3.alloc (.cells #[.int .i64 next, .slice A l.length c] 24)).frozen? ⟨b, 3, none⟩ = false := blk_frozen (blk_alloc K0.out _) 3
  have g0 : (w3.alloc (.cells #[.int .i64 next, .slice A l.length c] 24)).frozen? ⟨b + 1, 0, none⟩ = false := blk_frozen (blk_alloc K1.out _) 0
  have g1 : (w3.alloc (.cells #[.int .i64 next, .slice A l.length c] 24)).frozen? ⟨b + 1, 1, none⟩ = false := blk_frozen (blk_alloc K1.out _) 1
  have g2 : (w3.alloc (.cells #[.int .i64 next, .slice A l.length c] 24)).frozen? ⟨b + 1, 2, none⟩ = false := blk_frozen (blk_alloc K1.out _) 2
  have g3 : (w3.alloc (.cells #[.int .i64 next, .slice A l.length c] 24)).frozen? ⟨b + 1, 3, none⟩ = false := blk_frozen (blk_alloc K1.out _) 3
  have g4 : (w3.alloc (.cells #[.int .i64 next, .slice A l.length c] 24)).frozen? ⟨b + 1, 4, none⟩ = false := blk_frozen (blk_alloc K1.out _) 4
  have g5 : (w3.alloc (.cells #[.int .i64 next, .slice A l.length c] 24)).frozen? ⟨b + 1, 5, none⟩ = false := blk_frozen (blk_alloc K1.out _) 5
  have q0 : (w3.alloc (.cells #[.int .i64 next, .slice A l.length c] 24)).cell? ⟨b + 1 + 1, 0, none⟩ = some (.int .i64 0) := (blk_cell (blk_alloc K8.out _) 0).trans rfl
  have y0 : (w3.alloc (.cells #[.int .i64 next, .slice A l.length c] 24)).frozen? ⟨b + 1 + 1, 0, none⟩ = false := blk_frozen (blk_alloc K8.out _) 0
  have q1 : (w3.alloc (.cells #[.int .i64 next, .slice A l.length c] 24)).cell? ⟨b + 1 + 1, 1, none⟩ = some (.slice none 0 0) := (blk_cell (blk_alloc K8.out _) 1).trans rfl
  have y1 : (w3.alloc (.cells #[.int .i64 next, .slice A l.length c] 24)).frozen? ⟨b + 1 + 1, 1, none⟩ = false := blk_frozen (blk_alloc K8.out _) 1
  have x0 : (w3.alloc (.cells #[.int .i64 next, .slice A l.length c] 24)).cell? ⟨w3.heap.size, 0, none⟩ = some (.int .i64 next) := (blk_cell (blk_new w3 _) 0).trans rfl
  have x1 : (w3.alloc (.cells #[.int .i64 next, .slice A l.length c] 24)).cell? ⟨w3.heap.size, 1, none⟩ = some (.slice A l.length c) := (blk_cell (blk_new w3 _) 1).trans rfl
  go_wp2
  refine bodyPost_ret (results_ct rfl _ _ (b + 1) 35 #[.int .i64 0, .int .i64 0, .int .i64 0, .int .i64 0, .int .i64 0, .int .u64 0] (0, 0) _ rfl (put6 (blk_alloc K1.out _) _ _ _ _ _ _) Try.underlying35 rfl (by kernel_rfl)) rfl ?_
  exact ⟨rfl, F, bk6 (BookAt.below HA3.out (below_alloc (Below.refl _ _) _)) (HBF.out (b + 1) (by omega)) _ _ _ _ _ _, fun k hk => Or.inl hk, fr6 (Fr.alloc HR3.out _) (Or.inr (by have := HBW.out; show w.heap.size ≤ b + 1; omega)) _ _ _ _ _ _⟩
set_option maxHeartbeats 4000000 in
set_option maxRecDepth 100000 in
theorem rg_0 (kb : Nat) (F : Nat → Prop) (N : List Int) (D : List ByteArray) (m p t sp r ch n : Int)  (w : World) (h : BookAt w F kb N D) (t1 : decide (n < 1) = false) (t2 : decide (p ≤ n) = false) (hp0 : 0 ≤ p) (hp1 : p ≤ 4096) (hs0 : 0 ≤ sp) (t3 : decide (p - 1 ≤ sp) = false) (t4 : (t != 0) = false) (hok : encOk t [] = true) (hsz : N.length < 1048576) :
    Calls Try.prog 23 #[.agg #[.int .i64 m, .int .i64 p, .int .i64 t, .int .i64 sp, .int .i64 r, .int .u64 ch], .pointer (some ⟨kb, 0, none⟩), .int .i64 n] w fun e w' => e = .returned (.tuple #[(Hd.mk m p n (sp + 1) r ch).v, .int .i64 0]) ∧ Goes (fun F' => BookAt w' F' kb (putN N n) (putD N D n (bs (trunkPage t [])))) F w w' := by
  have H := Aside0.mk h
  have HB := Aside0.mk h.2.1
  have hu35 := Try.underlying35
  have hu24 := Try.underlying24
  clear h
  have HOK := Aside0.mk hok
  have HSZ := Aside0.mk hsz
  have hsp1 : sp < 4096 := by have := of_decide_eq_false t3; omega
  clear hok hsz
  go_enter Try.func23, Try.ntmps23
  go_wp2_with fail
  obtain ⟨w2, hw2⟩ : ∃ w2, w2 = ((w.alloc (.cells #[.int .i64 m, .int .i64 p, .int .i64 t, .int .i64 sp, .int .i64 r, .int .u64 ch] 35)).alloc (.cells #[.int .i64 0, .int .i64 0, .int .i64 0, .int .i64 0, .int .i64 0, .int .u64 0] 35)).alloc (.cells #[.int .i64 0, .slice none 0 0] 24) := ⟨_, rfl⟩
  rw [← hw2]
  have HA2 := Aside0.mk (show BookAt w2 F kb N D by rw [hw2]; exact H.out.below (below_alloc (below_alloc (below_alloc (Below.refl _ _) _) _) _))
  have HR2 := Aside0.mk (show Fr F w w2 by rw [hw2]; exact (((Fr.refl F w).alloc _).alloc _).alloc _)
  have K0 := Aside0.mk (show w2.heap[w.heap.size]? = some (.cells #[.int .i64 m, .int .i64 p, .int .i64 t, .int .i64 sp, .int .i64 r, .int .u64 ch] 35 (0, 0)) by rw [hw2]; exact blk_alloc (blk_alloc (blk_new w _) _) _)
  have K1 := Aside0.mk (show w2.heap[w.heap.size + 1]? = some (.cells #[.int .i64 0, .int .i64 0, .int .i64 0, .int .i64 0, .int .i64 0, .int .u64 0] 35 (0, 0)) by
    rw [hw2]
    refine blk_alloc ?_ _
    have := blk_new (w.alloc (.cells #[.int .i64 m, .int .i64 p, .int .i64 t, .int .i64 sp, .int .i64 r, .int .u64 ch] 35)) (.cells #[.int .i64 0, .int .i64 0, .int .i64 0, .int .i64 0, .int .i64 0, .int .u64 0] 35)
    simpa using this)
  have K8 := Aside0.mk (show w2.heap[w.heap.size + 1 + 1]? = some (.cells #[.int .i64 0, .slice none 0 0] 24 (0, 0)) by
    rw [hw2]
    have := blk_new ((w.alloc (.cells #[.int .i64 m, .int .i64 p, .int .i64 t, .int .i64 sp, .int .i64 r, .int .u64 ch] 35)).alloc (.cells #[.int .i64 0, .int .i64 0, .int .i64 0, .int .i64 0, .int .i64 0, .int .u64 0] 35)) (.cells #[.int .i64 0, .slice none 0 0] 24)
    simpa using this)
  clear hw2
  obtain ⟨b, hb⟩ : ∃ b, b = w.heap.size := ⟨_, rfl⟩
  rw [← hb] at K0 K1 K8 ⊢
  have HBF := Aside0.mk (show ∀ k, b ≤ k → ¬ F k from fun k hk hf => by have := HB.out k hf; omega)
  have HBW := Aside0.mk hb
  clear hb
  have a0 : w2.cell? ⟨b, 0, none⟩ = some (.int .i64 m) := (blk_cell K0.out 0).trans rfl
  have a1 : w2.cell? ⟨b, 1, none⟩ = some (.int .i64 p) := (blk_cell K0.out 1).trans rfl
  have a2 : w2.cell? ⟨b, 2, none⟩ = some (.int .i64 t) := (blk_cell K0.out 2).trans rfl
  have a3 : w2.cell? ⟨b, 3, none⟩ = some (.int .i64 sp) := (blk_cell K0.out 3).trans rfl
  have a4 : w2.cell? ⟨b, 4, none⟩ = some (.int .i64 r) := (blk_cell K0.out 4).trans rfl
  have a5 : w2.cell? ⟨b, 5, none⟩ = some (.int .u64 ch) := (blk_cell K0.out 5).trans rfl
  have z0 : w2.cell? ⟨b + 1, 0, none⟩ = some (.int .i64 0) := (blk_cell K1.out 0).trans rfl
  have z1 : w2.cell? ⟨b + 1, 1, none⟩ = some (.int .i64 0) := (blk_cell K1.out 1).trans rfl
  have z2 : w2.cell? ⟨b + 1, 2, none⟩ = some (.int .i64 0) := (blk_cell K1.out 2).trans rfl
  have z3 : w2.cell? ⟨b + 1, 3, none⟩ = some (.int .i64 0) := (blk_cell K1.out 3).trans rfl
  have z4 : w2.cell? ⟨b + 1, 4, none⟩ = some (.int .i64 0) := (blk_cell K1.out 4).trans rfl
  have z5 : w2.cell? ⟨b + 1, 5, none⟩ = some (.int .u64 0) := (blk_cell K1.out 5).trans rfl
  have f2 : w2.frozen? ⟨b, 2, none⟩ = false := blk_frozen K0.out 2
  have f3 : w2.frozen? ⟨b, 3, none⟩ = false := blk_frozen K0.out 3
  have g0 : w2.frozen? ⟨b + 1, 0, none⟩ = false := blk_frozen K1.out 0
  have g1 : w2.frozen? ⟨b + 1, 1, none⟩ = false := blk_frozen K1.out 1
  have g2 : w2.frozen? ⟨b + 1, 2, none⟩ = false := blk_frozen K1.out 2
  have g3 : w2.frozen? ⟨b + 1, 3, none⟩ = false := blk_frozen K1.out 3
  have g4 : w2.frozen? ⟨b + 1, 4, none⟩ = false := blk_frozen K1.out 4
  have g5 : w2.frozen? ⟨b + 1, 5, none⟩ = false := blk_frozen K1.out 5
  have q0 : w2.cell? ⟨b + 1 + 1, 0, none⟩ = some (.int .i64 0) := (blk_cell K8.out 0).trans rfl
  have y0 : w2.frozen? ⟨b + 1 + 1, 0, none⟩ = false := blk_frozen K8.out 0
  have q1 : w2.cell? ⟨b + 1 + 1, 1, none⟩ = some (.slice none 0 0) := (blk_cell K8.out 1).trans rfl
  have y1 : w2.frozen? ⟨b + 1 + 1, 1, none⟩ = false := blk_frozen K8.out 1
  have hcall := fun W => refEnc_calls t none 0 [] W (Kd.C_nil _ _) (Nat.le_refl _)
  rw [show encE t [] = 0 by unfold encE; rw [HOK.out]; rfl, show encB t [] = trunkPage t [] by unfold encB; rw [HOK.out]; rfl] at hcall
  refine (hcall _).mono ?_
  clear hcall
  rintro e w5 ⟨rfl, hb5⟩
  have K05 := Aside0.mk (blk_below K0.out hb5)
  have K15 := Aside0.mk (blk_below K1.out hb5)
  have HA5 := Aside0.mk (BookAt.below HA2.out hb5)
  have HR5 := Aside0.mk (Fr.then_below HR2.out hb5)
  clear hb5 a0 a1 a2 a3 a4 a5 z0 z1 z2 z3 z4 z5 f2 f3 g0 g1 g2 g3 g4 g5 q0 q1 y0 y1
  have a0 : w5.cell? ⟨b, 0, none⟩ = some (.int .i64 m) := (blk_cell K05.out 0).trans rfl
  have a1 : w5.cell? ⟨b, 1, none⟩ = some (.int .i64 p) := (blk_cell K05.out 1).trans rfl
  have a2 : w5.cell? ⟨b, 2, none⟩ = some (.int .i64 t) := (blk_cell K05.out 2).trans rfl
  have a3 : w5.cell? ⟨b, 3, none⟩ = some (.int .i64 sp) := (blk_cell K05.out 3).trans rfl
  have a4 : w5.cell? ⟨b, 4, none⟩ = some (.int .i64 r) := (blk_cell K05.out 4).trans rfl
  have a5 : w5.cell? ⟨b, 5, none⟩ = some (.int .u64 ch) := (blk_cell K05.out 5).trans rfl
  have z0 : w5.cell? ⟨b + 1, 0, none⟩ = some (.int .i64 0) := (blk_cell K15.out 0).trans rfl
  have z1 : w5.cell? ⟨b + 1, 1, none⟩ = some (.int .i64 0) := (blk_cell K15.out 1).trans rfl
  have z2 : w5.cell? ⟨b + 1, 2, none⟩ = some (.int .i64 0) := (blk_cell K15.out 2).trans rfl
  have z3 : w5.cell? ⟨b + 1, 3, none⟩ = some (.int .i64 0) := (blk_cell K15.out 3).trans rfl
  have z4 : w5.cell? ⟨b + 1, 4, none⟩ = some (.int .i64 0) := (blk_cell K15.out 4).trans rfl
  have z5 : w5.cell? ⟨b + 1, 5, none⟩ = some (.int .u64 0) := (blk_cell K15.out 5).trans rfl
  have f2 : w5.frozen? ⟨b, 2, none⟩ = false := blk_frozen K05.out 2
  have f3 : w5.frozen? ⟨b, 3, none⟩ = false := blk_frozen K05.out 3
  have g0 : w5.frozen? ⟨b + 1, 0, none⟩ = false := blk_frozen K15.out 0
  have g1 : w5.frozen? ⟨b + 1, 1, none⟩ = false := blk_frozen K15.out 1
  have g2 : w5.frozen? ⟨b + 1, 2, none⟩ = false := blk_frozen K15.out 2
  have g3 : w5.frozen? ⟨b + 1, 3, none⟩ = false := blk_frozen K15.out 3
  have g4 : w5.frozen? ⟨b + 1, 4, none⟩ = false := blk_frozen K15.out 4
  have g5 : w5.frozen? ⟨b + 1, 5, none⟩ = false := blk_frozen K15.out 5
  go_wp2_with fail
  refine (bookPut_calls kb F N D n (bs (trunkPage t [])) w5 HA5.out HSZ.out).mono ?_
  rintro e w6 ⟨rfl, hA6, hR6⟩
  have HF6 := Aside0.mk (show ∀ k, Fnew F w5 w6 k → F k ∨ b + 1 < k from fun k hk => by
    rcases hk with h1 | h1
    · exact Or.inl h1
    · exact Or.inr (by have := blk_lt K15.out; omega))
  have K06 := Aside0.mk (hR6.blk K05.out (HBF.out b (Nat.le_refl _)))
  have K16 := Aside0.mk (hR6.blk K15.out (HBF.out (b + 1) (by omega)))
  have HA6 := Aside0.mk hA6
  have HR6 := Aside0.mk (HR5.out.trans hR6 (fun k hk hf => hf))
  clear hA6 hR6 a0 a1 a2 a3 a4 a5 z0 z1 z2 z3 z4 z5 f2 f3 g0 g1 g2 g3 g4 g5
  have a0 : w6.cell? ⟨b, 0, none⟩ = some (.int .i64 m) := (blk_cell K06.out 0).trans rfl
  have a1 : w6.cell? ⟨b, 1, none⟩ = some (.int .i64 p) := (blk_cell K06.out 1).trans rfl
  have a2 : w6.cell? ⟨b, 2, none⟩ = some (.int .i64 t) := (blk_cell K06.out 2).trans rfl
  have a3 : w6.cell? ⟨b, 3, none⟩ = some (.int .i64 sp) := (blk_cell K06.out 3).trans rfl
  have a4 : w6.cell? ⟨b, 4, none⟩ = some (.int .i64 r) := (blk_cell K06.out 4).trans rfl
  have a5 : w6.cell? ⟨b, 5, none⟩ = some (.int .u64 ch) := (blk_cell K06.out 5).trans rfl
  have z0 : w6.cell? ⟨b + 1, 0, none⟩ = some (.int .i64 0) := (blk_cell K16.out 0).trans rfl
  have z1 : w6.cell? ⟨b + 1, 1, none⟩ = some (.int .i64 0) := (blk_cell K16.out 1).trans rfl
  have z2 : w6.cell? ⟨b + 1, 2, none⟩ = some (.int .i64 0) := (blk_cell K16.out 2).trans rfl
  have z3 : w6.cell? ⟨b + 1, 3, none⟩ = some (.int .i64 0) := (blk_cell K16.out 3).trans rfl
  have z4 : w6.cell? ⟨b + 1, 4, none⟩ = some (.int .i64 0) := (blk_cell K16.out 4).trans rfl
  have z5 : w6.cell? ⟨b + 1, 5, none⟩ = some (.int .u64 0) := (blk_cell K16.out 5).trans rfl
  have f2 : w6.frozen? ⟨b, 2, none⟩ = false := blk_frozen K06.out 2
  have f3 : w6.frozen? ⟨b, 3, none⟩ = false := blk_frozen K06.out 3
  have g0 : w6.frozen? ⟨b + 1, 0, none⟩ = false := blk_frozen K16.out 0
  have g1 : w6.frozen? ⟨b + 1, 1, none⟩ = false := blk_frozen K16.out 1
  have g2 : w6.frozen? ⟨b + 1, 2, none⟩ = false := blk_frozen K16.out 2
  have g3 : w6.frozen? ⟨b + 1, 3, none⟩ = false := blk_frozen K16.out 3
  have g4 : w6.frozen? ⟨b + 1, 4, none⟩ = false := blk_frozen K16.out 4
  have g5 : w6.frozen? ⟨b + 1, 5, none⟩ = false := blk_frozen K16.out 5
  go_wp2
  refine bodyPost_ret (results_ct rfl _ _ (b + 1) 35 #[.int .i64 m, .int .i64 p, .int .i64 n, .int .i64 (sp + 1), .int .i64 r, .int .u64 ch] (0, 0) _ rfl (put6 (blk_far (blk_far K16.out (show b + 1 ≠ b by omega) _) (show b + 1 ≠ b by omega) _) _ _ _ _ _ _) Try.underlying35 rfl (by kernel_rfl)) rfl ?_
  exact ⟨rfl, _, bk6 (bk_far (p := ⟨b, 3, none⟩) (bk_far (p := ⟨b, 2, none⟩) HA6.out (fun hf => by rcases HF6.out b hf with h1 | h1; exact HBF.out b (Nat.le_refl _) h1; omega) _) (fun hf => by rcases HF6.out b hf with h1 | h1; exact HBF.out b (Nat.le_refl _) h1; omega) _) (fun hf => by rcases HF6.out (b + 1) hf with h1 | h1; exact HBF.out (b + 1) (by omega) h1; omega) _ _ _ _ _ _, fun k hk => (HF6.out k hk).imp id (fun h => by have := HBW.out; omega), fr6 ((HR6.out.setCell (p := ⟨b, 2, none⟩) (Or.inr (by have := HBW.out; show w.heap.size ≤ b; omega)) _).setCell (p := ⟨b, 3, none⟩) (Or.inr (by have := HBW.out; show w.heap.size ≤ b; omega)) _) (Or.inr (by have := HBW.out; show w.heap.size ≤ b + 1; omega)) _ _ _ _ _ _⟩
set_option maxHeartbeats 4000000 in
set_option maxRecDepth 100000 in
theorem rg_E (kb : Nat) (F : Nat → Prop) (N : List Int) (D : List ByteArray) (m p t sp r ch n : Int) (next : Int) (l : List Int) (er : Int) (w : World) (h : BookAt w F kb N D) (t1 : decide (n < 1) = false) (t2 : decide (p ≤ n) = false) (hp0 : 0 ≤ p) (hp1 : p ≤ 4096) (hs0 : 0 ≤ sp) (t3 : decide (p - 1 ≤ sp) = false) (t4 : (t != 0) = true) (hn : decN1 (getB N D t).data.toList = next) (hl : decL1 (getB N D t).data.toList = l) (he : decE1 (getB N D t).data.toList = er) (t5 : (er != 0) = false) (t6 : decide (50 ≤ (l.length : Int)) = true) (hok : encOk t [] = true) (hsz : N.length < 1048576) :
    Calls Try.prog 23 #[.agg #[.int .i64 m, .int .i64 p, .int .i64 t, .int .i64 sp, .int .i64 r, .int .u64 ch], .pointer (some ⟨kb, 0, none⟩), .int .i64 n] w fun e w' => e = .returned (.tuple #[(Hd.mk m p n (sp + 1) r ch).v, .int .i64 0]) ∧ Goes (fun F' => BookAt w' F' kb (putN N n) (putD N D n (bs (trunkPage t [])))) F w w' := by
  have H := Aside0.mk h
  have HB := Aside0.mk h.2.1
  have hu35 := Try.underlying35
  have hu24 := Try.underlying24
  clear h
  have HN := Aside0.mk hn
  have HL := Aside0.mk hl
  have HE := Aside0.mk he
  clear hn hl he
  have HOK := Aside0.mk hok
  have HSZ := Aside0.mk hsz
  have hsp1 : sp < 4096 := by have := of_decide_eq_false t3; omega
  clear hok hsz
  go_enter Try.func23, Try.ntmps23
  go_wp2_with fail
  obtain ⟨w2, hw2⟩ : ∃ w2, w2 = ((w.alloc (.cells #[.int .i64 m, .int .i64 p, .int .i64 t, .int .i64 sp, .int .i64 r, .int .u64 ch] 35)).alloc (.cells #[.int .i64 0, .int .i64 0, .int .i64 0, .int .i64 0, .int .i64 0, .int .u64 0] 35)).alloc (.cells #[.int .i64 0, .slice none 0 0] 24) := ⟨_, rfl⟩
  rw [← hw2]
  have HA2 := Aside0.mk (show BookAt w2 F kb N D by rw [hw2]; exact H.out.below (below_alloc (below_alloc (below_alloc (Below.refl _ _) _) _) _))
  have HR2 := Aside0.mk (show Fr F w w2 by rw [hw2]; exact (((Fr.refl F w).alloc _).alloc _).alloc _)
  have K0 := Aside0.mk (show w2.heap[w.heap.size]? = some (.cells #[.int .i64 m, .int .i64 p, .int .i64 t, .int .i64 sp, .int .i64 r, .int .u64 ch] 35 (0, 0)) by rw [hw2]; exact blk_alloc (blk_alloc (blk_new w _) _) _)
  have K1 := Aside0.mk (show w2.heap[w.heap.size + 1]? = some (.cells #[.int .i64 0, .int .i64 0, .int .i64 0, .int .i64 0, .int .i64 0, .int .u64 0] 35 (0, 0)) by
    rw [hw2]
    refine blk_alloc ?_ _
    have := blk_new (w.alloc (.cells #[.int .i64 m, .int .i64 p, .int .i64 t, .int .i64 sp, .int .i64 r, .int .u64 ch] 35)) (.cells #[.int .i64 0, .int .i64 0, .int .i64 0, .int .i64 0, .int .i64 0, .int .u64 0] 35)
    simpa using this)
  have K8 := Aside0.mk (show w2.heap[w.heap.size + 1 + 1]? = some (.cells #[.int .i64 0, .slice none 0 0] 24 (0, 0)) by
    rw [hw2]
    have := blk_new ((w.alloc (.cells #[.int .i64 m, .int .i64 p, .int .i64 t, .int .i64 sp, .int .i64 r, .int .u64 ch] 35)).alloc (.cells #[.int .i64 0, .int .i64 0, .int .i64 0, .int .i64 0, .int .i64 0, .int .u64 0] 35)) (.cells #[.int .i64 0, .slice none 0 0] 24)
    simpa using this)
  clear hw2
  obtain ⟨b, hb⟩ : ∃ b, b = w.heap.size := ⟨_, rfl⟩
  rw [← hb] at K0 K1 K8 ⊢
  have HBF := Aside0.mk (show ∀ k, b ≤ k → ¬ F k from fun k hk hf => by have := HB.out k hf; omega)
  have HBW := Aside0.mk hb
  clear hb
  refine (bookGet_calls kb F N D t w2 HA2.out).mono ?_
  rintro e w1 ⟨rfl, hb1⟩
  replace K0 := Aside0.mk (blk_below K0.out hb1)
  replace K1 := Aside0.mk (blk_below K1.out hb1)
  replace K8 := Aside0.mk (blk_below K8.out hb1)
  replace HA2 := Aside0.mk (HA2.out.below hb1)
  replace HR2 := Aside0.mk (HR2.out.then_below hb1)
  clear hb1
  go_wp2_with fail
  refine (refDecode_calls _ w1).mono ?_
  rw [HN.out, HL.out, HE.out]
  rintro e w3 ⟨v, rfl, hv3, hb3⟩
  obtain ⟨A, c, rfl⟩ := Kd.R_slice hv3
  obtain ⟨_, hlc, hC3⟩ := Kd.R_reads' hv3
  replace K0 := Aside0.mk (blk_below K0.out hb3)
  replace K1 := Aside0.mk (blk_below K1.out hb3)
  replace K8 := Aside0.mk (blk_below K8.out hb3)
  have HA3 := Aside0.mk (HA2.out.below hb3)
  have HR3 := Aside0.mk (HR2.out.then_below hb3)
  have HC3 := Aside0.mk hC3
  have hlm := Kd.C_max HC3.out
  clear hv3 hb3 hC3 HA2 HR2 HN HL HE
  have a0 : (w3.alloc (.cells #[.int .i64 next, .slice A l.length c] 24)).cell? ⟨b, 0, none⟩ = some (.int .i64 m) := (blk_cell (blk_alloc K0.out _) 0).trans rfl
  have a1 : (w3.alloc (.cells #[.int .i64 next, .slice A l.length c] 24)).cell? ⟨b, 1, none⟩ = some (.int .i64 p) := (blk_cell (blk_alloc K0.out _) 1).trans rfl
  have a2 : (w3.alloc (.cells #[.int .i64 next, .slice A l.length c] 24)).cell? ⟨b, 2, none⟩ = some (.int .i64 t) := (blk_cell (blk_alloc K0.out _) 2).trans rfl
  have a3 : (w3.alloc (.cells #[.int .i64 next, .slice A l.length c] 24)).cell? ⟨b, 3, none⟩ = some (.int .i64 sp) := (blk_cell (blk_alloc K0.out _) 3).trans rfl
  have a4 : (w3.alloc (.cells #[.int .i64 next, .slice A l.length c] 24)).cell? ⟨b, 4, none⟩ = some (.int .i64 r) := (blk_cell (blk_alloc K0.out _) 4).trans rfl
  have a5 : (w3.alloc (.cells #[.int .i64 next, .slice A l.length c] 24)).cell? ⟨b, 5, none⟩ = some (.int .u64 ch) := (blk_cell (blk_alloc K0.out _) 5).trans rfl
  have z0 : (w3.alloc (.cells #[.int .i64 next, .slice A l.length c] 24)).cell? ⟨b + 1, 0, none⟩ = some (.int .i64 0) := (blk_cell (blk_alloc K1.out _) 0).trans rfl
  have z1 : (w3.alloc (.cells #[.int .i64 next, .slice A l.length c] 24)).cell? ⟨b + 1, 1, none⟩ = some (.int .i64 0) := (blk_cell (blk_alloc K1.out _) 1).trans rfl
  have z2 : (w3.alloc (.cells #[.int .i64 next, .slice A l.length c] 24)).cell? ⟨b + 1, 2, none⟩ = some (.int .i64 0) := (blk_cell (blk_alloc K1.out _) 2).trans rfl
  have z3 : (w3.alloc (.cells #[.int .i64 next, .slice A l.length c] 24)).cell? ⟨b + 1, 3, none⟩ = some (.int .i64 0) := (blk_cell (blk_alloc K1.out _) 3).trans rfl
  have z4 : (w3.alloc (.cells #[.int .i64 next, .slice A l.length c] 24)).cell? ⟨b + 1, 4, none⟩ = some (.int .i64 0) := (blk_cell (blk_alloc K1.out _) 4).trans rfl
  have z5 : (w3.alloc (.cells #[.int .i64 next, .slice A l.length c] 24)).cell? ⟨b + 1, 5, none⟩ = some (.int .u64 0) := (blk_cell (blk_alloc K1.out _) 5).trans rfl
  have f2 : (w3.alloc (.cells #[.int .i64 next, .slice A l.length c] 24)).frozen? ⟨b, 2, none⟩ = false := blk_frozen (blk_alloc K0.out _) 2
  have f3 : (w3.alloc (.cells #[.int .i64 next, .slice A l.length c] 24)).frozen? ⟨b, 3, none⟩ = false := blk_frozen (blk_alloc K0.out _) 3
  have g0 : (w3.alloc (.cells #[.int .i64 next, .slice A l.length c] 24)).frozen? ⟨b + 1, 0, none⟩ = false := blk_frozen (blk_alloc K1.out _) 0
  have g1 : (w3.alloc (.cells #[.int .i64 next, .slice A l.length c] 24)).frozen? ⟨b + 1, 1, none⟩ = false := blk_frozen (blk_alloc K1.out _) 1
  have g2 : (w3.alloc (.cells #[.int .i64 next, .slice A l.length c] 24)).frozen? ⟨b + 1, 2, none⟩ = false := blk_frozen (blk_alloc K1.out _) 2
  have g3 : (w3.alloc (.cells #[.int .i64 next, .slice A l.length c] 24)).frozen? ⟨b + 1, 3, none⟩ = false := blk_frozen (blk_alloc K1.out _) 3
  have g4 : (w3.alloc (.cells #[.int .i64 next, .slice A l.length c] 24)).frozen? ⟨b + 1, 4, none⟩ = false := blk_frozen (blk_alloc K1.out _) 4
  have g5 : (w3.alloc (.cells #[.int .i64 next, .slice A l.length c] 24)).frozen? ⟨b + 1, 5, none⟩ = false := blk_frozen (blk_alloc K1.out _) 5
  have q0 : (w3.alloc (.cells #[.int .i64 next, .slice A l.length c] 24)).cell? ⟨b + 1 + 1, 0, none⟩ = some (.int .i64 0) := (blk_cell (blk_alloc K8.out _) 0).trans rfl
  have y0 : (w3.alloc (.cells #[.int .i64 next, .slice A l.length c] 24)).frozen? ⟨b + 1 + 1, 0, none⟩ = false := blk_frozen (blk_alloc K8.out _) 0
  have q1 : (w3.alloc (.cells #[.int .i64 next, .slice A l.length c] 24)).cell? ⟨b + 1 + 1, 1, none⟩ = some (.slice none 0 0) := (blk_cell (blk_alloc K8.out _) 1).trans rfl
  have y1 : (w3.alloc (.cells #[.int .i64 next, .slice A l.length c] 24)).frozen? ⟨b + 1 + 1, 1, none⟩ = false := blk_frozen (blk_alloc K8.out _) 1
  have x0 : (w3.alloc (.cells #[.int .i64 next, .slice A l.length c] 24)).cell? ⟨w3.heap.size, 0, none⟩ = some (.int .i64 next) := (blk_cell (blk_new w3 _) 0).trans rfl
  have x1 : (w3.alloc (.cells #[.int .i64 next, .slice A l.length c] 24)).cell? ⟨w3.heap.size, 1, none⟩ = some (.slice A l.length c) := (blk_cell (blk_new w3 _) 1).trans rfl
  go_wp2_with fail
  clear x0 x1
  have hcall := fun W => refEnc_calls t none 0 [] W (Kd.C_nil _ _) (Nat.le_refl _)
  rw [show encE t [] = 0 by unfold encE; rw [HOK.out]; rfl, show encB t [] = trunkPage t [] by unfold encB; rw [HOK.out]; rfl] at hcall
  refine (hcall _).mono ?_
  clear hcall
  rintro e w5 ⟨rfl, hb5⟩
  have K05 := Aside0.mk (blk_below (blk_far (p := ⟨b + 1 + 1, 1, none⟩) (blk_far (p := ⟨b + 1 + 1, 0, none⟩) (blk_alloc K0.out _) (show _ ≠ b + 1 + 1 by omega) _) (show _ ≠ b + 1 + 1 by omega) _) hb5)
  have K15 := Aside0.mk (blk_below (blk_far (p := ⟨b + 1 + 1, 1, none⟩) (blk_far (p := ⟨b + 1 + 1, 0, none⟩) (blk_alloc K1.out _) (show _ ≠ b + 1 + 1 by omega) _) (show _ ≠ b + 1 + 1 by omega) _) hb5)
  have HA5 := Aside0.mk (BookAt.below (bk_far (p := ⟨b + 1 + 1, 1, none⟩) (bk_far (p := ⟨b + 1 + 1, 0, none⟩) (BookAt.below HA3.out (below_alloc (Below.refl _ _) _)) (HBF.out (b + 1 + 1) (by omega)) _) (HBF.out (b + 1 + 1) (by omega)) _) hb5)
  have HR5 := Aside0.mk (Fr.then_below (((Fr.alloc HR3.out _).setCell (p := ⟨b + 1 + 1, 0, none⟩) (Or.inr (by have := HBW.out; show w.heap.size ≤ b + 1 + 1; omega)) _).setCell (p := ⟨b + 1 + 1, 1, none⟩) (Or.inr (by have := HBW.out; show w.heap.size ≤ b + 1 + 1; omega)) _) hb5)
  clear hb5 a0 a1 a2 a3 a4 a5 z0 z1 z2 z3 z4 z5 f2 f3 g0 g1 g2 g3 g4 g5 q0 q1 y0 y1
  have a0 : w5.cell? ⟨b, 0, none⟩ = some (.int .i64 m) := (blk_cell K05.out 0).trans rfl
  have a1 : w5.cell? ⟨b, 1, none⟩ = some (.int .i64 p) := (blk_cell K05.out 1).trans rfl
  have a2 : w5.cell? ⟨b, 2, none⟩ = some (.int .i64 t) := (blk_cell K05.out 2).trans rfl
  have a3 : w5.cell? ⟨b, 3, none⟩ = some (.int .i64 sp) := (blk_cell K05.out 3).trans rfl
  have a4 : w5.cell? ⟨b, 4, none⟩ = some (.int .i64 r) := (blk_cell K05.out 4).trans rfl
  have a5 : w5.cell? ⟨b, 5, none⟩ = some (.int .u64 ch) := (blk_cell K05.out 5).trans rfl
  have z0 : w5.cell? ⟨b + 1, 0, none⟩ = some (.int .i64 0) := (blk_cell K15.out 0).trans rfl
  have z1 : w5.cell? ⟨b + 1, 1, none⟩ = some (.int .i64 0) := (blk_cell K15.out 1).trans rfl
  have z2 : w5.cell? ⟨b + 1, 2, none⟩ = some (.int .i64 0) := (blk_cell K15.out 2).trans rfl
  have z3 : w5.cell? ⟨b + 1, 3, none⟩ = some (.int .i64 0) := (blk_cell K15.out 3).trans rfl
  have z4 : w5.cell? ⟨b + 1, 4, none⟩ = some (.int .i64 0) := (blk_cell K15.out 4).trans rfl
  have z5 : w5.cell? ⟨b + 1, 5, none⟩ = some (.int .u64 0) := (blk_cell K15.out 5).trans rfl
  have f2 : w5.frozen? ⟨b, 2, none⟩ = false := blk_frozen K05.out 2
  have f3 : w5.frozen? ⟨b, 3, none⟩ = false := blk_frozen K05.out 3
  have g0 : w5.frozen? ⟨b + 1, 0, none⟩ = false := blk_frozen K15.out 0
  have g1 : w5.frozen? ⟨b + 1, 1, none⟩ = false := blk_frozen K15.out 1
  have g2 : w5.frozen? ⟨b + 1, 2, none⟩ = false := blk_frozen K15.out 2
  have g3 : w5.frozen? ⟨b + 1, 3, none⟩ = false := blk_frozen K15.out 3
  have g4 : w5.frozen? ⟨b + 1, 4, none⟩ = false := blk_frozen K15.out 4
  have g5 : w5.frozen? ⟨b + 1, 5, none⟩ = false := blk_frozen K15.out 5
  go_wp2_with fail
  refine (bookPut_calls kb F N D n (bs (trunkPage t [])) w5 HA5.out HSZ.out).mono ?_
  rintro e w6 ⟨rfl, hA6, hR6⟩
  have HF6 := Aside0.mk (show ∀ k, Fnew F w5 w6 k → F k ∨ b + 1 < k from fun k hk => by
    rcases hk with h1 | h1
    · exact Or.inl h1
    · exact Or.inr (by have := blk_lt K15.out; omega))
  have K06 := Aside0.mk (hR6.blk K05.out (HBF.out b (Nat.le_refl _)))
  have K16 := Aside0.mk (hR6.blk K15.out (HBF.out (b + 1) (by omega)))
  have HA6 := Aside0.mk hA6
  have HR6 := Aside0.mk (HR5.out.trans hR6 (fun k hk hf => hf))
  clear hA6 hR6 a0 a1 a2 a3 a4 a5 z0 z1 z2 z3 z4 z5 f2 f3 g0 g1 g2 g3 g4 g5
  have a0 : w6.cell? ⟨b, 0, none⟩ = some (.int .i64 m) := (blk_cell K06.out 0).trans rfl
  have a1 : w6.cell? ⟨b, 1, none⟩ = some (.int .i64 p) := (blk_cell K06.out 1).trans rfl
  have a2 : w6.cell? ⟨b, 2, none⟩ = some (.int .i64 t) := (blk_cell K06.out 2).trans rfl
  have a3 : w6.cell? ⟨b, 3, none⟩ = some (.int .i64 sp) := (blk_cell K06.out 3).trans rfl
  have a4 : w6.cell? ⟨b, 4, none⟩ = some (.int .i64 r) := (blk_cell K06.out 4).trans rfl
  have a5 : w6.cell? ⟨b, 5, none⟩ = some (.int .u64 ch) := (blk_cell K06.out 5).trans rfl
  have z0 : w6.cell? ⟨b + 1, 0, none⟩ = some (.int .i64 0) := (blk_cell K16.out 0).trans rfl
  have z1 : w6.cell? ⟨b + 1, 1, none⟩ = some (.int .i64 0) := (blk_cell K16.out 1).trans rfl
  have z2 : w6.cell? ⟨b + 1, 2, none⟩ = some (.int .i64 0) := (blk_cell K16.out 2).trans rfl
  have z3 : w6.cell? ⟨b + 1, 3, none⟩ = some (.int .i64 0) := (blk_cell K16.out 3).trans rfl
  have z4 : w6.cell? ⟨b + 1, 4, none⟩ = some (.int .i64 0) := (blk_cell K16.out 4).trans rfl
  have z5 : w6.cell? ⟨b + 1, 5, none⟩ = some (.int .u64 0) := (blk_cell K16.out 5).trans rfl
  have f2 : w6.frozen? ⟨b, 2, none⟩ = false := blk_frozen K06.out 2
  have f3 : w6.frozen? ⟨b, 3, none⟩ = false := blk_frozen K06.out 3
  have g0 : w6.frozen? ⟨b + 1, 0, none⟩ = false := blk_frozen K16.out 0
  have g1 : w6.frozen? ⟨b + 1, 1, none⟩ = false := blk_frozen K16.out 1
  have g2 : w6.frozen? ⟨b + 1, 2, none⟩ = false := blk_frozen K16.out 2
  have g3 : w6.frozen? ⟨b + 1, 3, none⟩ = false := blk_frozen K16.out 3
  have g4 : w6.frozen? ⟨b + 1, 4, none⟩ = false := blk_frozen K16.out 4
  have g5 : w6.frozen? ⟨b + 1, 5, none⟩ = false := blk_frozen K16.out 5
  go_wp2
  refine bodyPost_ret (results_ct rfl _ _ (b + 1) 35 #[.int .i64 m, .int .i64 p, .int .i64 n, .int .i64 (sp + 1), .int .i64 r, .int .u64 ch] (0, 0) _ rfl (put6 (blk_far (blk_far K16.out (show b + 1 ≠ b by omega) _) (show b + 1 ≠ b by omega) _) _ _ _ _ _ _) Try.underlying35 rfl (by kernel_rfl)) rfl ?_
  exact ⟨rfl, _, bk6 (bk_far (p := ⟨b, 3, none⟩) (bk_far (p := ⟨b, 2, none⟩) HA6.out (fun hf => by rcases HF6.out b hf with h1 | h1; exact HBF.out b (Nat.le_refl _) h1; omega) _) (fun hf => by rcases HF6.out b hf with h1 | h1; exact HBF.out b (Nat.le_refl _) h1; omega) _) (fun hf => by rcases HF6.out (b + 1) hf with h1 | h1; exact HBF.out (b + 1) (by omega) h1; omega) _ _ _ _ _ _, fun k hk => (HF6.out k hk).imp id (fun h => by have := HBW.out; omega), fr6 ((HR6.out.setCell (p := ⟨b, 2, none⟩) (Or.inr (by have := HBW.out; show w.heap.size ≤ b; omega)) _).setCell (p := ⟨b, 3, none⟩) (Or.inr (by have := HBW.out; show w.heap.size ≤ b; omega)) _) (Or.inr (by have := HBW.out; show w.heap.size ≤ b + 1; omega)) _ _ _ _ _ _⟩
set_option maxHeartbeats 4000000 in
set_option maxRecDepth 100000 in
theorem rg_D (kb : Nat) (F : Nat → Prop) (N : List Int) (D : List ByteArray) (m p t sp r ch n : Int) (next : Int) (l : List Int) (er : Int) (w : World) (h : BookAt w F kb N D) (t1 : decide (n < 1) = false) (t2 : decide (p ≤ n) = false) (hp0 : 0 ≤ p) (hp1 : p ≤ 4096) (hs0 : 0 ≤ sp) (t3 : decide (p - 1 ≤ sp) = false) (t4 : (t != 0) = true) (hn : decN1 (getB N D t).data.toList = next) (hl : decL1 (getB N D t).data.toList = l) (he : decE1 (getB N D t).data.toList = er) (t5 : (er != 0) = false) (t6 : decide (50 ≤ (l.length : Int)) = false) (l2 : List Int) (hl2 : l2 = l ++ [n]) (hok : encOk next l2 = true) (hsz : N.length < 1048576) :
    Calls Try.prog 23 #[.agg #[.int .i64 m, .int .i64 p, .int .i64 t, .int .i64 sp, .int .i64 r, .int .u64 ch], .pointer (some ⟨kb, 0, none⟩), .int .i64 n] w fun e w' => e = .returned (.tuple #[(Hd.mk m p t (sp + 1) r ch).v, .int .i64 0]) ∧ Goes (fun F' => BookAt w' F' kb (putN N t) (putD N D t (bs (trunkPage next l2)))) F w w' := by
  have H := Aside0.mk h
  have HB := Aside0.mk h.2.1
  have hu35 := Try.underlying35
  have hu24 := Try.underlying24
  clear h
  have HN := Aside0.mk hn
  have HL := Aside0.mk hl
  have HE := Aside0.mk he
  clear hn hl he
  have HOK := Aside0.mk hok
  have HSZ := Aside0.mk hsz
  have hsp1 : sp < 4096 := by have := of_decide_eq_false t3; omega
  have hcall := fun A c W => refEnc_calls next A c l2 W
  rw [show encE next l2 = 0 by unfold encE; rw [hok]; rfl, show encB next l2 = trunkPage next l2 by unfold encB; rw [hok]; rfl] at hcall
  have HCALL := Aside0.mk hcall
  clear hok hsz hcall
  go_enter Try.func23, Try.ntmps23
  go_wp2_with fail
  obtain ⟨w2, hw2⟩ : ∃ w2, w2 = ((w.alloc (.cells #[.int .i64 m, .int .i64 p, .int .i64 t, .int .i64 sp, .int .i64 r, .int .u64 ch] 35)).alloc (.cells #[.int .i64 0, .int .i64 0, .int .i64 0, .int .i64 0, .int .i64 0, .int .u64 0] 35)).alloc (.cells #[.int .i64 0, .slice none 0 0] 24) := ⟨_, rfl⟩
  rw [← hw2]
  have HA2 := Aside0.mk (show BookAt w2 F kb N D by rw [hw2]; exact H.out.below (below_alloc (below_alloc (below_alloc (Below.refl _ _) _) _) _))
  have HR2 := Aside0.mk (show Fr F w w2 by rw [hw2]; exact (((Fr.refl F w).alloc _).alloc _).alloc _)
  have K0 := Aside0.mk (show w2.heap[w.heap.size]? = some (.cells #[.int .i64 m, .int .i64 p, .int .i64 t, .int .i64 sp, .int .i64 r, .int .u64 ch] 35 (0, 0)) by rw [hw2]; exact blk_alloc (blk_alloc (blk_new w _) _) _)
  have K1 := Aside0.mk (show w2.heap[w.heap.size + 1]? = some (.cells #[.int .i64 0, .int .i64 0, .int .i64 0, .int .i64 0, .int .i64 0, .int .u64 0] 35 (0, 0)) by
    rw [hw2]
    refine blk_alloc ?_ _
    have := blk_new (w.alloc (.cells #[.int .i64 m, .int .i64 p, .int .i64 t, .int .i64 sp, .int .i64 r, .int .u64 ch] 35)) (.cells #[.int .i64 0, .int .i64 0, .int .i64 0, .int .i64 0, .int .i64 0, .int .u64 0] 35)
    simpa using this)
  have K8 := Aside0.mk (show w2.heap[w.heap.size + 1 + 1]? = some (.cells #[.int .i64 0, .slice none 0 0] 24 (0, 0)) by
    rw [hw2]
    have := blk_new ((w.alloc (.cells #[.int .i64 m, .int .i64 p, .int .i64 t, .int .i64 sp, .int .i64 r, .int .u64 ch] 35)).alloc (.cells #[.int .i64 0, .int .i64 0, .int .i64 0, .int .i64 0, .int .i64 0, .int .u64 0] 35)) (.cells #[.int .i64 0, .slice none 0 0] 24)
    simpa using this)
  clear hw2
  obtain ⟨b, hb⟩ : ∃ b, b = w.heap.size := ⟨_, rfl⟩
  rw [← hb] at K0 K1 K8 ⊢
  have HBF := Aside0.mk (show ∀ k, b ≤ k → ¬ F k from fun k hk hf => by have := HB.out k hf; omega)
  have HBW := Aside0.mk hb
  clear hb
  refine (bookGet_calls kb F N D t w2 HA2.out).mono ?_
  rintro e w1 ⟨rfl, hb1⟩
  replace K0 := Aside0.mk (blk_below K0.out hb1)
  replace K1 := Aside0.mk (blk_below K1.out hb1)
  replace K8 := Aside0.mk (blk_below K8.out hb1)
  replace HA2 := Aside0.mk (HA2.out.below hb1)
  replace HR2 := Aside0.mk (HR2.out.then_below hb1)
  clear hb1
  go_wp2_with fail
  refine (refDecode_calls _ w1).mono ?_
  rw [HN.out, HL.out, HE.out]
  rintro e w3 ⟨v, rfl, hv3, hb3⟩
  obtain ⟨A, c, rfl⟩ := Kd.R_slice hv3
  obtain ⟨_, hlc, hC3⟩ := Kd.R_reads' hv3
  replace K0 := Aside0.mk (blk_below K0.out hb3)
  replace K1 := Aside0.mk (blk_below K1.out hb3)
  replace K8 := Aside0.mk (blk_below K8.out hb3)
  have HA3 := Aside0.mk (HA2.out.below hb3)
  have HR3 := Aside0.mk (HR2.out.then_below hb3)
  have HC3 := Aside0.mk hC3
  have hlm := Kd.C_max HC3.out
  have HV3 := Aside0.mk hv3
  have HS3 := Aside0.mk (show b + 1 + 1 < w3.heap.size from blk_lt K8.out)
  clear hv3 hb3 hC3 HA2 HR2 HN HL HE
  have a0 : (w3.alloc (.cells #[.int .i64 next, .slice A l.length c] 24)).cell? ⟨b, 0, none⟩ = some (.int .i64 m) := (blk_cell (blk_alloc K0.out _) 0).trans rfl
  have a1 : (w3.alloc (.cells #[.int .i64 next, .slice A l.length c] 24)).cell? ⟨b, 1, none⟩ = some (.int .i64 p) := (blk_cell (blk_alloc K0.out _) 1).trans rfl
  have a2 : (w3.alloc (.cells #[.int .i64 next, .slice A l.length c] 24)).cell? ⟨b, 2, none⟩ = some (.int .i64 t) := (blk_cell (blk_alloc K0.out _) 2).trans rfl
  have a3 : (w3.alloc (.cells #[.int .i64 next, .slice A l.length c] 24)).cell? ⟨b, 3, none⟩ = some (.int .i64 sp) := (blk_cell (blk_alloc K0.out _) 3).trans rfl
  have a4 : (w3.alloc (.cells #[.int .i64 next, .slice A l.length c] 24)).cell? ⟨b, 4, none⟩ = some (.int .i64 r) := (blk_cell (blk_alloc K0.out _) 4).trans rfl
  have a5 : (w3.alloc (.cells #[.int .i64 next, .slice A l.length c] 24)).cell? ⟨b, 5, none⟩ = some (.int .u64 ch) := (blk_cell (blk_alloc K0.out _) 5).trans rfl
  have z0 : (w3.alloc (.cells #[.int .i64 next, .slice A l.length c] 24)).cell? ⟨b + 1, 0, none⟩ = some (.int .i64 0) := (blk_cell (blk_alloc K1.out _) 0).trans rfl
  have z1 : (w3.alloc (.cells #[.int .i64 next, .slice A l.length c] 24)).cell? ⟨b + 1, 1, none⟩ = some (.int .i64 0) := (blk_cell (blk_alloc K1.out _) 1).trans rfl
  have z2 : (w3.alloc (.cells #[.int .i64 next, .slice A l.length c] 24)).cell? ⟨b + 1, 2, none⟩ = some (.int .i64 0) := (blk_cell (blk_alloc K1.out _) 2).trans rfl
  have z3 : (w3.alloc (.cells #[.int .i64 next, .slice A l.length c] 24)).cell? ⟨b + 1, 3, none⟩ = some (.int .i64 0) := (blk_cell (blk_alloc K1.out _) 3).trans rfl
  have z4 : (w3.alloc (.cells #[.int .i64 next, .slice A l.length c] 24)).cell? ⟨b + 1, 4, none⟩ = some (.int .i64 0) := (blk_cell (blk_alloc K1.out _) 4).trans rfl
  have z5 : (w3.alloc (.cells #[.int .i64 next, .slice A l.length c] 24)).cell? ⟨b + 1, 5, none⟩ = some (.int .u64 0) := (blk_cell (blk_alloc K1.out _) 5).trans rfl
  have f2 : (w3.alloc (.cells #[.int .i64 next, .slice A l.length c] 24)).frozen? ⟨b, 2, none⟩ = false := blk_frozen (blk_alloc K0.out _) 2
  have f3 : (w3.alloc (.cells #[.int .i64 next, .slice A l.length c] 24)).frozen? ⟨b, 3, none⟩ = false := blk_frozen (blk_alloc K0.out _) 3
  have g0 : (w3.alloc (.cells #[.int .i64 next, .slice A l.length c] 24)).frozen? ⟨b + 1, 0, none⟩ = false := blk_frozen (blk_alloc K1.out _) 0
  have g1 : (w3.alloc (.cells #[.int .i64 next, .slice A l.length c] 24)).frozen? ⟨b + 1, 1, none⟩ = false := blk_frozen (blk_alloc K1.out _) 1
  have g2 : (w3.alloc (.cells #[.int .i64 next, .slice A l.length c] 24)).frozen? ⟨b + 1, 2, none⟩ = false := blk_frozen (blk_alloc K1.out _) 2
  have g3 : (w3.alloc (.cells #[.int .i64 next, .slice A l.length c] 24)).frozen? ⟨b + 1, 3, none⟩ = false := blk_frozen (blk_alloc K1.out _) 3
  have g4 : (w3.alloc (.cells #[.int .i64 next, .slice A l.length c] 24)).frozen? ⟨b + 1, 4, none⟩ = false := blk_frozen (blk_alloc K1.out _) 4
  have g5 : (w3.alloc (.cells #[.int .i64 next, .slice A l.length c] 24)).frozen? ⟨b + 1, 5, none⟩ = false := blk_frozen (blk_alloc K1.out _) 5
  have q0 : (w3.alloc (.cells #[.int .i64 next, .slice A l.length c] 24)).cell? ⟨b + 1 + 1, 0, none⟩ = some (.int .i64 0) := (blk_cell (blk_alloc K8.out _) 0).trans rfl
  have y0 : (w3.alloc (.cells #[.int .i64 next, .slice A l.length c] 24)).frozen? ⟨b + 1 + 1, 0, none⟩ = false := blk_frozen (blk_alloc K8.out _) 0
  have q1 : (w3.alloc (.cells #[.int .i64 next, .slice A l.length c] 24)).cell? ⟨b + 1 + 1, 1, none⟩ = some (.slice none 0 0) := (blk_cell (blk_alloc K8.out _) 1).trans rfl
  have y1 : (w3.alloc (.cells #[.int .i64 next, .slice A l.length c] 24)).frozen? ⟨b + 1 + 1, 1, none⟩ = false := blk_frozen (blk_alloc K8.out _) 1
  have x0 : (w3.alloc (.cells #[.int .i64 next, .slice A l.length c] 24)).cell? ⟨w3.heap.size, 0, none⟩ = some (.int .i64 next) := (blk_cell (blk_new w3 _) 0).trans rfl
  have x1 : (w3.alloc (.cells #[.int .i64 next, .slice A l.length c] 24)).cell? ⟨w3.heap.size, 1, none⟩ = some (.slice A l.length c) := (blk_cell (blk_new w3 _) 1).trans rfl
  have xs : ∀ o, ((((w3.alloc (.cells #[.int .i64 next, .slice A l.length c] 24)).setCell ⟨b + 1 + 1, 0, none⟩ (.int .i64 next)).setCell ⟨b + 1 + 1, 1, none⟩ (.slice A l.length c)).alloc o).cell? ⟨b + 1 + 1, 1, none⟩ = some (.slice A l.length c) := fun o => (blk_cell (blk_alloc (blk_put (blk_put (blk_alloc K8.out _) 0 (.int .i64 next) rfl) 1 (.slice A l.length c) rfl) o) 1).trans rfl
  have hl50 : l.length < 50 := by have := of_decide_eq_false t6; omega
  have HL2 := Aside0.mk hl2
  have HLL2 : Aside0 (l2.length = l.length + 1) := ⟨by rw [hl2]; simp⟩
  clear hl2
  have HC5 : Aside0 ((Kd.int .i64).C ((((w3.alloc (.cells #[.int .i64 next, .slice A l.length c] 24)).setCell ⟨b + 1 + 1, 0, none⟩ (.int .i64 next)).setCell ⟨b + 1 + 1, 1, none⟩ (.slice A l.length c)).alloc (.cells #[] 3)) A l.length l) := ⟨(Kd.R_reads' (Kd.R_alloc (Kd.R_set (Kd.R_set (Kd.R_alloc HV3.out _) (blk_alloc K8.out _) no324 0 (.int .i64 next)) (blk_put (blk_alloc K8.out _) 0 (.int .i64 next) rfl) no324 1 (.slice A l.length c)) (.cells #[] 3))).2.2⟩
  have HL5 : Aside0 ((Kd.int .i64).R 3 ((((w3.alloc (.cells #[.int .i64 next, .slice A l.length c] 24)).setCell ⟨b + 1 + 1, 0, none⟩ (.int .i64 next)).setCell ⟨b + 1 + 1, 1, none⟩ (.slice A l.length c)).alloc (.cells #[] 3)) b (fun k' => b + 1 + 1 < k') (.slice (some ⟨w3.heap.size + 1, 0, none⟩) 0 0) []) := ⟨by
    have h := R_none (((w3.alloc (.cells #[.int .i64 next, .slice A l.length c] 24)).setCell ⟨b + 1 + 1, 0, none⟩ (.int .i64 next)).setCell ⟨b + 1 + 1, 1, none⟩ (.slice A l.length c)) b (by have := HS3.out; simp; omega) (fun k' => b + 1 + 1 < k') (by have := HS3.out; simp; omega)
    rw [show ((((w3.alloc (.cells #[.int .i64 next, .slice A l.length c] 24)).setCell ⟨b + 1 + 1, 0, none⟩ (.int .i64 next)).setCell ⟨b + 1 + 1, 1, none⟩ (.slice A l.length c))).heap.size = w3.heap.size + 1 by simp] at h
    exact h⟩
  have K05 := Aside0.mk (show (((((w3.alloc (.cells #[.int .i64 next, .slice A l.length c] 24)).setCell ⟨b + 1 + 1, 0, none⟩ (.int .i64 next)).setCell ⟨b + 1 + 1, 1, none⟩ (.slice A l.length c)).alloc (.cells #[] 3))).heap[b]? = some (.cells #[.int .i64 m, .int .i64 p, .int .i64 t, .int .i64 sp, .int .i64 r, .int .u64 ch] 35 (0, 0)) from blk_alloc (blk_far (p := ⟨b + 1 + 1, 1, none⟩) (blk_far (p := ⟨b + 1 + 1, 0, none⟩) (blk_alloc K0.out _) (show _ ≠ b + 1 + 1 by omega) _) (show _ ≠ b + 1 + 1 by omega) _) _)
  have K15 := Aside0.mk (show (((((w3.alloc (.cells #[.int .i64 next, .slice A l.length c] 24)).setCell ⟨b + 1 + 1, 0, none⟩ (.int .i64 next)).setCell ⟨b + 1 + 1, 1, none⟩ (.slice A l.length c)).alloc (.cells #[] 3))).heap[b + 1]? = some (.cells #[.int .i64 0, .int .i64 0, .int .i64 0, .int .i64 0, .int .i64 0, .int .u64 0] 35 (0, 0)) from blk_alloc (blk_far (p := ⟨b + 1 + 1, 1, none⟩) (blk_far (p := ⟨b + 1 + 1, 0, none⟩) (blk_alloc K1.out _) (show _ ≠ b + 1 + 1 by omega) _) (show _ ≠ b + 1 + 1 by omega) _) _)
  have K85 := Aside0.mk (show (((((w3.alloc (.cells #[.int .i64 next, .slice A l.length c] 24)).setCell ⟨b + 1 + 1, 0, none⟩ (.int .i64 next)).setCell ⟨b + 1 + 1, 1, none⟩ (.slice A l.length c)).alloc (.cells #[] 3))).heap[b + 1 + 1]? = some (.cells #[.int .i64 next, .slice A l.length c] 24 (0, 0)) from blk_alloc (blk_put (blk_put (blk_alloc K8.out _) 0 (.int .i64 next) rfl) 1 (.slice A l.length c) rfl) _)
  have HA5 := Aside0.mk (show BookAt (((((w3.alloc (.cells #[.int .i64 next, .slice A l.length c] 24)).setCell ⟨b + 1 + 1, 0, none⟩ (.int .i64 next)).setCell ⟨b + 1 + 1, 1, none⟩ (.slice A l.length c)).alloc (.cells #[] 3))) F kb N D from BookAt.below (bk_far (p := ⟨b + 1 + 1, 1, none⟩) (bk_far (p := ⟨b + 1 + 1, 0, none⟩) (BookAt.below HA3.out (below_alloc (Below.refl _ _) _)) (HBF.out (b + 1 + 1) (by omega)) _) (HBF.out (b + 1 + 1) (by omega)) _) (below_alloc (Below.refl _ _) _))
  have HR5 := Aside0.mk (show Fr F w (((((w3.alloc (.cells #[.int .i64 next, .slice A l.length c] 24)).setCell ⟨b + 1 + 1, 0, none⟩ (.int .i64 next)).setCell ⟨b + 1 + 1, 1, none⟩ (.slice A l.length c)).alloc (.cells #[] 3))) from Fr.alloc (((Fr.alloc HR3.out _).setCell (p := ⟨b + 1 + 1, 0, none⟩) (Or.inr (by have := HBW.out; show w.heap.size ≤ b + 1 + 1; omega)) _).setCell (p := ⟨b + 1 + 1, 1, none⟩) (Or.inr (by have := HBW.out; show w.heap.size ≤ b + 1 + 1; omega)) _) _)
  go_wp2_with (at_builtin; refine Kd.R_append_row (Value.int .i64) 0 (W := ((((w3.alloc (.cells #[.int .i64 next, .slice A l.length c] 24)).setCell ⟨b + 1 + 1, 0, none⟩ (.int .i64 next)).setCell ⟨b + 1 + 1, 1, none⟩ (.slice A l.length c)).alloc (.cells #[] 3))) (w0 := ((((w3.alloc (.cells #[.int .i64 next, .slice A l.length c] 24)).setCell ⟨b + 1 + 1, 0, none⟩ (.int .i64 next)).setCell ⟨b + 1 + 1, 1, none⟩ (.slice A l.length c)).alloc (.cells #[] 3))) b rfl (.tmp 67) (.tmp 69) 22 3 (.int .i64 0) 8 rfl Try.underlying22 info3 rfl (by decide) (.slice (some ⟨w3.heap.size + 1, 0, none⟩) 0 0) [] l A l.length c (fun k' => b + 1 + 1 < k') rfl rfl (fun k' hk' => by have := HS3.out; simp at hk'; omega) HL5.out HC5.out (Below.refl _ _) (by have := HS3.out; simp; omega) (by simp; omega) ?_; intro v6 w6 hR6 hB6 hG6 hat6; rw [List.nil_append] at hR6; have K06 := Aside0.mk (blk_grown K05.out hG6 (R_ne_blk HL5.out K05.out (by decide))); have K16 := Aside0.mk (blk_grown K15.out hG6 (R_ne_blk HL5.out K15.out (by decide))); have K86 := Aside0.mk (blk_grown K85.out hG6 (R_ne_blk HL5.out K85.out (by decide))); have HA6 := Aside0.mk (BookAt.keep HA5.out (fun k hk => hG6.block k (HA5.out.2.1 k hk) (fun he => by have := HL5.out.1 k he.symm; exact HBF.out k (by omega) hk)) hG6.size); have HR6 := Aside0.mk (Fr.grown HR5.out hG6 (fun k hk => Or.inr (by have := HL5.out.1 k hk; have := HBW.out; omega))); have hs6 := Aside0.mk (show b + 1 + 1 < w6.heap.size from blk_lt K86.out); obtain ⟨A6, c6, hv6⟩ := Kd.R_slice hR6; subst hv6; have HL6 := Aside0.mk hR6; clear hR6 hB6 hG6 hat6 K05 K15 K85 HA5 HR5 HL5 HC5 HC3 HV3 HA3 HR3; clear a0 a1 a2 a3 a4 a5 z0 z1 z2 z3 z4 z5 f2 f3 g0 g1 g2 g3 g4 g5 q0 q1 y0 y1 x0 x1 xs; refine Shut.out ?_)
  unfold Shut
  have a0 : w6.cell? ⟨b, 0, none⟩ = some (.int .i64 m) := (blk_cell K06.out 0).trans rfl
  have a1 : w6.cell? ⟨b, 1, none⟩ = some (.int .i64 p) := (blk_cell K06.out 1).trans rfl
  have a2 : w6.cell? ⟨b, 2, none⟩ = some (.int .i64 t) := (blk_cell K06.out 2).trans rfl
  have a3 : w6.cell? ⟨b, 3, none⟩ = some (.int .i64 sp) := (blk_cell K06.out 3).trans rfl
  have a4 : w6.cell? ⟨b, 4, none⟩ = some (.int .i64 r) := (blk_cell K06.out 4).trans rfl
  have a5 : w6.cell? ⟨b, 5, none⟩ = some (.int .u64 ch) := (blk_cell K06.out 5).trans rfl
  have z0 : w6.cell? ⟨b + 1, 0, none⟩ = some (.int .i64 0) := (blk_cell K16.out 0).trans rfl
  have z1 : w6.cell? ⟨b + 1, 1, none⟩ = some (.int .i64 0) := (blk_cell K16.out 1).trans rfl
  have z2 : w6.cell? ⟨b + 1, 2, none⟩ = some (.int .i64 0) := (blk_cell K16.out 2).trans rfl
  have z3 : w6.cell? ⟨b + 1, 3, none⟩ = some (.int .i64 0) := (blk_cell K16.out 3).trans rfl
  have z4 : w6.cell? ⟨b + 1, 4, none⟩ = some (.int .i64 0) := (blk_cell K16.out 4).trans rfl
  have z5 : w6.cell? ⟨b + 1, 5, none⟩ = some (.int .u64 0) := (blk_cell K16.out 5).trans rfl
  have f2 : w6.frozen? ⟨b, 2, none⟩ = false := blk_frozen K06.out 2
  have f3 : w6.frozen? ⟨b, 3, none⟩ = false := blk_frozen K06.out 3
  have g0 : w6.frozen? ⟨b + 1, 0, none⟩ = false := blk_frozen K16.out 0
  have g1 : w6.frozen? ⟨b + 1, 1, none⟩ = false := blk_frozen K16.out 1
  have g2 : w6.frozen? ⟨b + 1, 2, none⟩ = false := blk_frozen K16.out 2
  have g3 : w6.frozen? ⟨b + 1, 3, none⟩ = false := blk_frozen K16.out 3
  have g4 : w6.frozen? ⟨b + 1, 4, none⟩ = false := blk_frozen K16.out 4
  have g5 : w6.frozen? ⟨b + 1, 5, none⟩ = false := blk_frozen K16.out 5
  have q0 : w6.cell? ⟨b + 1 + 1, 0, none⟩ = some (.int .i64 next) := (blk_cell K86.out 0).trans rfl
  have y0 : w6.frozen? ⟨b + 1 + 1, 0, none⟩ = false := blk_frozen K86.out 0
  have q1 : w6.cell? ⟨b + 1 + 1, 1, none⟩ = some (.slice A l.length c) := (blk_cell K86.out 1).trans rfl
  have y1 : w6.frozen? ⟨b + 1 + 1, 1, none⟩ = false := blk_frozen K86.out 1
  go_wp2_with (at_builtin; refine Kd.R_append (Kd.int .i64) (W := w6) (w0 := w6) b rfl (.tmp 71) (.tmp 73) 22 3 (.int .i64 0) 8 rfl Try.underlying22 info3 rfl (by decide) (by decide) (.slice A6 l.length c6) _ n [.int .i64 n] (fun k' => b + 1 + 1 < k') (fun k => some k ≠ (Value.slice A6 l.length c6).ownBlock ∧ (fun k' => b + 1 + 1 < k') k) rfl (by show Value.slice (some ⟨w6.heap.size, 0, none⟩) 1 1 = _; simp) rfl (fun _ h => ⟨h.2, h.1⟩) (fun k' hk' => by have := hs6.out; omega) HL6.out (Below.refl _ _) (by have := hs6.out; omega) (by omega) ?_; intro v7 w7 hR7 hB7 hG7 hat7; rw [← HL2.out] at hR7; have K07 := Aside0.mk (blk_grown K06.out hG7 (R_ne_blk HL6.out K06.out (by decide))); have K17 := Aside0.mk (blk_grown K16.out hG7 (R_ne_blk HL6.out K16.out (by decide))); have K87 := Aside0.mk (blk_grown K86.out hG7 (R_ne_blk HL6.out K86.out (by decide))); have HA7 := Aside0.mk (BookAt.keep HA6.out (fun k hk => hG7.block k (HA6.out.2.1 k hk) (fun he => by have := HL6.out.1 k he.symm; exact HBF.out k (by omega) hk)) hG7.size); have HR7 := Aside0.mk (Fr.grown HR6.out hG7 (fun k hk => Or.inr (by have := HL6.out.1 k hk; have := HBW.out; omega))); have hs7 := Aside0.mk (show b + 1 + 1 < w7.heap.size from blk_lt K87.out); obtain ⟨A7, c7, hv7⟩ := Kd.R_slice hR7; subst hv7; have HL7 := Aside0.mk hR7; clear hR7 hB7 hG7 hat7 K06 K16 K86 HA6 HR6 HL6; clear a0 a1 a2 a3 a4 a5 z0 z1 z2 z3 z4 z5 f2 f3 g0 g1 g2 g3 g4 g5 q0 q1 y0 y1; refine Shut.out ?_)
  unfold Shut
  have a0 : w7.cell? ⟨b, 0, none⟩ = some (.int .i64 m) := (blk_cell K07.out 0).trans rfl
  have a1 : w7.cell? ⟨b, 1, none⟩ = some (.int .i64 p) := (blk_cell K07.out 1).trans rfl
  have a2 : w7.cell? ⟨b, 2, none⟩ = some (.int .i64 t) := (blk_cell K07.out 2).trans rfl
  have a3 : w7.cell? ⟨b, 3, none⟩ = some (.int .i64 sp) := (blk_cell K07.out 3).trans rfl
  have a4 : w7.cell? ⟨b, 4, none⟩ = some (.int .i64 r) := (blk_cell K07.out 4).trans rfl
  have a5 : w7.cell? ⟨b, 5, none⟩ = some (.int .u64 ch) := (blk_cell K07.out 5).trans rfl
  have z0 : w7.cell? ⟨b + 1, 0, none⟩ = some (.int .i64 0) := (blk_cell K17.out 0).trans rfl
  have z1 : w7.cell? ⟨b + 1, 1, none⟩ = some (.int .i64 0) := (blk_cell K17.out 1).trans rfl
  have z2 : w7.cell? ⟨b + 1, 2, none⟩ = some (.int .i64 0) := (blk_cell K17.out 2).trans rfl
  have z3 : w7.cell? ⟨b + 1, 3, none⟩ = some (.int .i64 0) := (blk_cell K17.out 3).trans rfl
  have z4 : w7.cell? ⟨b + 1, 4, none⟩ = some (.int .i64 0) := (blk_cell K17.out 4).trans rfl
  have z5 : w7.cell? ⟨b + 1, 5, none⟩ = some (.int .u64 0) := (blk_cell K17.out 5).trans rfl
  have f2 : w7.frozen? ⟨b, 2, none⟩ = false := blk_frozen K07.out 2
  have f3 : w7.frozen? ⟨b, 3, none⟩ = false := blk_frozen K07.out 3
  have g0 : w7.frozen? ⟨b + 1, 0, none⟩ = false := blk_frozen K17.out 0
  have g1 : w7.frozen? ⟨b + 1, 1, none⟩ = false := blk_frozen K17.out 1
  have g2 : w7.frozen? ⟨b + 1, 2, none⟩ = false := blk_frozen K17.out 2
  have g3 : w7.frozen? ⟨b + 1, 3, none⟩ = false := blk_frozen K17.out 3
  have g4 : w7.frozen? ⟨b + 1, 4, none⟩ = false := blk_frozen K17.out 4
  have g5 : w7.frozen? ⟨b + 1, 5, none⟩ = false := blk_frozen K17.out 5
  have q0 : w7.cell? ⟨b + 1 + 1, 0, none⟩ = some (.int .i64 next) := (blk_cell K87.out 0).trans rfl
  have y0 : w7.frozen? ⟨b + 1 + 1, 0, none⟩ = false := blk_frozen K87.out 0
  have q1 : w7.cell? ⟨b + 1 + 1, 1, none⟩ = some (.slice A l.length c) := (blk_cell K87.out 1).trans rfl
  have y1 : w7.frozen? ⟨b + 1 + 1, 1, none⟩ = false := blk_frozen K87.out 1
  obtain ⟨_, hlc7, hC7⟩ := Kd.R_reads' HL7.out
  go_wp2_with fail
  refine (HCALL.out _ _ _ hC7 hlc7).mono ?_
  rintro e w5 ⟨rfl, hb5⟩
  have K05 := Aside0.mk (blk_below K07.out hb5)
  have K15 := Aside0.mk (blk_below K17.out hb5)
  have HA5 := Aside0.mk (BookAt.below HA7.out hb5)
  have HR5 := Aside0.mk (Fr.then_below HR7.out hb5)
  clear hb5 hC7 hlc7 HL7 HCALL a0 a1 a2 a3 a4 a5 z0 z1 z2 z3 z4 z5 f2 f3 g0 g1 g2 g3 g4 g5 q0 q1 y0 y1
  have a0 : w5.cell? ⟨b, 0, none⟩ = some (.int .i64 m) := (blk_cell K05.out 0).trans rfl
  have a1 : w5.cell? ⟨b, 1, none⟩ = some (.int .i64 p) := (blk_cell K05.out 1).trans rfl
  have a2 : w5.cell? ⟨b, 2, none⟩ = some (.int .i64 t) := (blk_cell K05.out 2).trans rfl
  have a3 : w5.cell? ⟨b, 3, none⟩ = some (.int .i64 sp) := (blk_cell K05.out 3).trans rfl
  have a4 : w5.cell? ⟨b, 4, none⟩ = some (.int .i64 r) := (blk_cell K05.out 4).trans rfl
  have a5 : w5.cell? ⟨b, 5, none⟩ = some (.int .u64 ch) := (blk_cell K05.out 5).trans rfl
  have z0 : w5.cell? ⟨b + 1, 0, none⟩ = some (.int .i64 0) := (blk_cell K15.out 0).trans rfl
  have z1 : w5.cell? ⟨b + 1, 1, none⟩ = some (.int .i64 0) := (blk_cell K15.out 1).trans rfl
  have z2 : w5.cell? ⟨b + 1, 2, none⟩ = some (.int .i64 0) := (blk_cell K15.out 2).trans rfl
  have z3 : w5.cell? ⟨b + 1, 3, none⟩ = some (.int .i64 0) := (blk_cell K15.out 3).trans rfl
  have z4 : w5.cell? ⟨b + 1, 4, none⟩ = some (.int .i64 0) := (blk_cell K15.out 4).trans rfl
  have z5 : w5.cell? ⟨b + 1, 5, none⟩ = some (.int .u64 0) := (blk_cell K15.out 5).trans rfl
  have f2 : w5.frozen? ⟨b, 2, none⟩ = false := blk_frozen K05.out 2
  have f3 : w5.frozen? ⟨b, 3, none⟩ = false := blk_frozen K05.out 3
  have g0 : w5.frozen? ⟨b + 1, 0, none⟩ = false := blk_frozen K15.out 0
  have g1 : w5.frozen? ⟨b + 1, 1, none⟩ = false := blk_frozen K15.out 1
  have g2 : w5.frozen? ⟨b + 1, 2, none⟩ = false := blk_frozen K15.out 2
  have g3 : w5.frozen? ⟨b + 1, 3, none⟩ = false := blk_frozen K15.out 3
  have g4 : w5.frozen? ⟨b + 1, 4, none⟩ = false := blk_frozen K15.out 4
  have g5 : w5.frozen? ⟨b + 1, 5, none⟩ = false := blk_frozen K15.out 5
  go_wp2_with fail
  refine (bookPut_calls kb F N D t (bs (trunkPage next l2)) w5 HA5.out HSZ.out).mono ?_
  rintro e w8 ⟨rfl, hA8, hR8⟩
  have HF8 := Aside0.mk (show ∀ k, Fnew F w5 w8 k → F k ∨ b + 1 < k from fun k hk => by
    rcases hk with h1 | h1
    · exact Or.inl h1
    · exact Or.inr (by have := blk_lt K15.out; omega))
  have K08 := Aside0.mk (hR8.blk K05.out (HBF.out b (Nat.le_refl _)))
  have K18 := Aside0.mk (hR8.blk K15.out (HBF.out (b + 1) (by omega)))
  have HA8 := Aside0.mk hA8
  have HR8 := Aside0.mk (HR5.out.trans hR8 (fun k hk hf => hf))
  clear hA8 hR8 a0 a1 a2 a3 a4 a5 z0 z1 z2 z3 z4 z5 f2 f3 g0 g1 g2 g3 g4 g5
  have a0 : w8.cell? ⟨b, 0, none⟩ = some (.int .i64 m) := (blk_cell K08.out 0).trans rfl
  have a1 : w8.cell? ⟨b, 1, none⟩ = some (.int .i64 p) := (blk_cell K08.out 1).trans rfl
  have a2 : w8.cell? ⟨b, 2, none⟩ = some (.int .i64 t) := (blk_cell K08.out 2).trans rfl
  have a3 : w8.cell? ⟨b, 3, none⟩ = some (.int .i64 sp) := (blk_cell K08.out 3).trans rfl
  have a4 : w8.cell? ⟨b, 4, none⟩ = some (.int .i64 r) := (blk_cell K08.out 4).trans rfl
  have a5 : w8.cell? ⟨b, 5, none⟩ = some (.int .u64 ch) := (blk_cell K08.out 5).trans rfl
  have z0 : w8.cell? ⟨b + 1, 0, none⟩ = some (.int .i64 0) := (blk_cell K18.out 0).trans rfl
  have z1 : w8.cell? ⟨b + 1, 1, none⟩ = some (.int .i64 0) := (blk_cell K18.out 1).trans rfl
  have z2 : w8.cell? ⟨b + 1, 2, none⟩ = some (.int .i64 0) := (blk_cell K18.out 2).trans rfl
  have z3 : w8.cell? ⟨b + 1, 3, none⟩ = some (.int .i64 0) := (blk_cell K18.out 3).trans rfl
  have z4 : w8.cell? ⟨b + 1, 4, none⟩ = some (.int .i64 0) := (blk_cell K18.out 4).trans rfl
  have z5 : w8.cell? ⟨b + 1, 5, none⟩ = some (.int .u64 0) := (blk_cell K18.out 5).trans rfl
  have f2 : w8.frozen? ⟨b, 2, none⟩ = false := blk_frozen K08.out 2
  have f3 : w8.frozen? ⟨b, 3, none⟩ = false := blk_frozen K08.out 3
  have g0 : w8.frozen? ⟨b + 1, 0, none⟩ = false := blk_frozen K18.out 0
  have g1 : w8.frozen? ⟨b + 1, 1, none⟩ = false := blk_frozen K18.out 1
  have g2 : w8.frozen? ⟨b + 1, 2, none⟩ = false := blk_frozen K18.out 2
  have g3 : w8.frozen? ⟨b + 1, 3, none⟩ = false := blk_frozen K18.out 3
  have g4 : w8.frozen? ⟨b + 1, 4, none⟩ = false := blk_frozen K18.out 4
  have g5 : w8.frozen? ⟨b + 1, 5, none⟩ = false := blk_frozen K18.out 5
  go_wp2
  refine bodyPost_ret (results_ct rfl _ _ (b + 1) 35 #[.int .i64 m, .int .i64 p, .int .i64 t, .int .i64 (sp + 1), .int .i64 r, .int .u64 ch] (0, 0) _ rfl (put6 (blk_far K18.out (show b + 1 ≠ b by omega) _) _ _ _ _ _ _) Try.underlying35 rfl (by kernel_rfl)) rfl ?_
  exact ⟨rfl, _, bk6 (bk_far (p := ⟨b, 3, none⟩) HA8.out (fun hf => by rcases HF8.out b hf with h1 | h1; exact HBF.out b (Nat.le_refl _) h1; omega) _) (fun hf => by rcases HF8.out (b + 1) hf with h1 | h1; exact HBF.out (b + 1) (by omega) h1; omega) _ _ _ _ _ _, fun k hk => (HF8.out k hk).imp id (fun h => by have := HBW.out; omega), fr6 (HR8.out.setCell (p := ⟨b, 3, none⟩) (Or.inr (by have := HBW.out; show w.heap.size ≤ b; omega)) _) (Or.inr (by have := HBW.out; show w.heap.size ≤ b + 1; omega)) _ _ _ _ _ _⟩
end Go.Proofs.Ytonbipaajhokfaa
