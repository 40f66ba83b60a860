/-
  Walk: the reference's Take of layer 9: the ways.
-/
import Derived.Test.YtonbipaajhokfaaG1
import Derived.BigQuiet
set_option linter.unusedVariables false
set_option linter.unusedSimpArgs false
namespace Go.Proofs.Ytonbipaajhokfaa
open Go.RowKit Go.Proofs.YtonbipaajhokfaaW.PrintWords Go.Proofs.YtonbipaajhokfaaW.PrintLast Go.Proofs.YtonbipaajhokfaaW.PrintMore
set_option maxHeartbeats 4000000 in
set_option maxRecDepth 100000 in
theorem rt_F3 (kb : Nat) (F : Nat → Prop) (N : List Int) (D : List ByteArray) (m p t sp r ch : Int) (next : Int) (l0 : List Int) (x : Int) (er : Int) (w : World) (h : BookAt w F kb N D) (h0 : sp ≠ 0) (hn : decN1 (getB N D t).data.toList = next) (hl : decL1 (getB N D t).data.toList = l0 ++ [x]) (he : decE1 (getB N D t).data.toList = er) (t1 : (er != 0) = false) (hD : next < p) (hx1 : x < p) (t6 : (sp == 1) = false) (hs0 : 0 ≤ sp) (hs1 : sp ≤ 4096) (hok : encOk next l0 = true) (hsz : N.length < 1048576) :
    Calls Try.prog 21 #[.agg #[.int .i64 m, .int .i64 p, .int .i64 t, .int .i64 sp, .int .i64 r, .int .u64 ch], .pointer (some ⟨kb, 0, none⟩)] w fun e w' => e = .returned (.tuple #[.int .i64 x, (Hd.mk m p t (sp - 1) r ch).v, .int .i64 0]) ∧ Goes (fun F' => BookAt w' F' kb (putN N t) (putD N D t (bs (trunkPage next l0)))) F w w' := by
  have H := Aside0.mk h
  have HB := Aside0.mk h.2.1
  have hu35 := Try.underlying35
  have hu24 := Try.underlying24
  have HN := Aside0.mk hn
  have HL := Aside0.mk hl
  have HE := Aside0.mk he
  have t0 : (sp == 0) = false := by simp [h0]
  have hcall := fun A c W => refEnc_calls next A c l0 W
  rw [show encE next l0 = 0 by unfold encE; rw [hok]; rfl, show encB next l0 = trunkPage next l0 by unfold encB; rw [hok]; rfl] at hcall
  have HCALL := Aside0.mk hcall
  have HSZ := Aside0.mk hsz
  clear h h0 hn hl he hok hcall hsz
  go_enter Try.func21, Try.ntmps21
  go_wp2_with fail
  obtain ⟨w2, hw2⟩ : ∃ w2, w2 = (w.alloc (.cells #[.int .i64 m, .int .i64 p, .int .i64 t, .int .i64 sp, .int .i64 r, .int .u64 ch] 35)).alloc (.cells #[.int .i64 0, .int .i64 0, .int .i64 0, .int .i64 0, .int .i64 0, .int .u64 0] 35) := ⟨_, rfl⟩
  rw [← hw2]
  have HA2 := Aside0.mk (show BookAt w2 F kb N D by rw [hw2]; exact H.out.below (below_alloc (below_alloc (Below.refl _ _) _) _))
  have HR2 := Aside0.mk (show Fr F w w2 by rw [hw2]; exact ((Fr.refl F w).alloc _).alloc _)
  have K0 := Aside0.mk (show w2.heap[w.heap.size]? = some (.cells #[.int .i64 m, .int .i64 p, .int .i64 t, .int .i64 sp, .int .i64 r, .int .u64 ch] 35 (0, 0)) by rw [hw2]; exact blk_alloc (blk_new w _) _)
  have K1 := Aside0.mk (show w2.heap[w.heap.size + 1]? = some (.cells #[.int .i64 0, .int .i64 0, .int .i64 0, .int .i64 0, .int .i64 0, .int .u64 0] 35 (0, 0)) by
    rw [hw2]
    have := blk_new (w.alloc (.cells #[.int .i64 m, .int .i64 p, .int .i64 t, .int .i64 sp, .int .i64 r, .int .u64 ch] 35)) (.cells #[.int .i64 0, .int .i64 0, .int .i64 0, .int .i64 0, .int .i64 0, .int .u64 0] 35)
    simpa using this)
  clear hw2
  obtain ⟨b, hb⟩ : ∃ b, b = w.heap.size := ⟨_, rfl⟩
  rw [← hb] at K0 K1 ⊢
  have HBF := Aside0.mk (show ∀ k, b ≤ k → ¬ F k from fun k hk hf => by have := HB.out k hf; omega)
  have HBW := Aside0.mk hb
  clear hb
  refine (bookGet_calls kb F N D t w2 HA2.out).mono ?_
  rintro e w1 ⟨rfl, hb1⟩
  replace K0 := Aside0.mk (blk_below K0.out hb1)
  replace K1 := Aside0.mk (blk_below K1.out hb1)
  replace HA2 := Aside0.mk (HA2.out.below hb1)
  replace HR2 := Aside0.mk (HR2.out.then_below hb1)
  clear hb1
  go_wp2_with fail
  refine (refDecode_calls _ w1).mono ?_
  rw [HN.out, HL.out, HE.out]
  rintro e w3 ⟨v, rfl, hv3, hb3⟩
  obtain ⟨A, c, rfl⟩ := Kd.R_slice hv3
  obtain ⟨_, hlc, hC3⟩ := Kd.R_reads' hv3
  rw [List.length_append, List.length_singleton] at hlc
  replace K0 := Aside0.mk (blk_below K0.out hb3)
  replace K1 := Aside0.mk (blk_below K1.out hb3)
  have HA3 := Aside0.mk (HA2.out.below hb3)
  have HR3 := Aside0.mk (HR2.out.then_below hb3)
  have HC3 := Aside0.mk hC3
  have hlm := Kd.C_max HC3.out
  clear hv3 hb3 hC3 HA2 HR2 HN HL HE
  obtain ⟨ad, e1, hx⟩ := Kd.at_int HC3.out (l0.length : Int) (by omega) (by simp; omega)
  cases e1
  rw [show rd (l0 ++ [x]) (l0.length : Int) = x by simp [rd], Int.toNat_natCast] at hx
  rw [List.length_append, List.length_singleton] at hlm
  have hxo : ∀ o, (w3.alloc o).cell? (ad.add l0.length) = some (.int .i64 x) := fun o => ((below_alloc (Below.refl w3.heap.size w3) o).cell (World.block_lt_of_cell? w3 _ hx)).trans hx
  clear hx
  have t2 : decide (p ≤ next) = false := decide_eq_false (by omega)
  have a0 : ∀ o, (w3.alloc o).cell? ⟨b, 0, none⟩ = some (.int .i64 m) := fun o => (blk_cell (blk_alloc K0.out o) 0).trans rfl
  have a1 : ∀ o, (w3.alloc o).cell? ⟨b, 1, none⟩ = some (.int .i64 p) := fun o => (blk_cell (blk_alloc K0.out o) 1).trans rfl
  have a2 : ∀ o, (w3.alloc o).cell? ⟨b, 2, none⟩ = some (.int .i64 t) := fun o => (blk_cell (blk_alloc K0.out o) 2).trans rfl
  have a3 : ∀ o, (w3.alloc o).cell? ⟨b, 3, none⟩ = some (.int .i64 sp) := fun o => (blk_cell (blk_alloc K0.out o) 3).trans rfl
  have a4 : ∀ o, (w3.alloc o).cell? ⟨b, 4, none⟩ = some (.int .i64 r) := fun o => (blk_cell (blk_alloc K0.out o) 4).trans rfl
  have a5 : ∀ o, (w3.alloc o).cell? ⟨b, 5, none⟩ = some (.int .u64 ch) := fun o => (blk_cell (blk_alloc K0.out o) 5).trans rfl
  have z0 : ∀ o, (w3.alloc o).cell? ⟨b + 1, 0, none⟩ = some (.int .i64 0) := fun o => (blk_cell (blk_alloc K1.out o) 0).trans rfl
  have z1 : ∀ o, (w3.alloc o).cell? ⟨b + 1, 1, none⟩ = some (.int .i64 0) := fun o => (blk_cell (blk_alloc K1.out o) 1).trans rfl
  have z2 : ∀ o, (w3.alloc o).cell? ⟨b + 1, 2, none⟩ = some (.int .i64 0) := fun o => (blk_cell (blk_alloc K1.out o) 2).trans rfl
  have z3 : ∀ o, (w3.alloc o).cell? ⟨b + 1, 3, none⟩ = some (.int .i64 0) := fun o => (blk_cell (blk_alloc K1.out o) 3).trans rfl
  have z4 : ∀ o, (w3.alloc o).cell? ⟨b + 1, 4, none⟩ = some (.int .i64 0) := fun o => (blk_cell (blk_alloc K1.out o) 4).trans rfl
  have z5 : ∀ o, (w3.alloc o).cell? ⟨b + 1, 5, none⟩ = some (.int .u64 0) := fun o => (blk_cell (blk_alloc K1.out o) 5).trans rfl
  have f2 : ∀ o, (w3.alloc o).frozen? ⟨b, 2, none⟩ = false := fun o => blk_frozen (blk_alloc K0.out o) 2
  have f3 : ∀ o, (w3.alloc o).frozen? ⟨b, 3, none⟩ = false := fun o => blk_frozen (blk_alloc K0.out o) 3
  have g0 : ∀ o, (w3.alloc o).frozen? ⟨b + 1, 0, none⟩ = false := fun o => blk_frozen (blk_alloc K1.out o) 0
  have g1 : ∀ o, (w3.alloc o).frozen? ⟨b + 1, 1, none⟩ = false := fun o => blk_frozen (blk_alloc K1.out o) 1
  have g2 : ∀ o, (w3.alloc o).frozen? ⟨b + 1, 2, none⟩ = false := fun o => blk_frozen (blk_alloc K1.out o) 2
  have g3 : ∀ o, (w3.alloc o).frozen? ⟨b + 1, 3, none⟩ = false := fun o => blk_frozen (blk_alloc K1.out o) 3
  have g4 : ∀ o, (w3.alloc o).frozen? ⟨b + 1, 4, none⟩ = false := fun o => blk_frozen (blk_alloc K1.out o) 4
  have g5 : ∀ o, (w3.alloc o).frozen? ⟨b + 1, 5, none⟩ = false := fun o => blk_frozen (blk_alloc K1.out o) 5
  have t3 : decide (p ≤ x) = false := decide_eq_false (by omega)
  go_wp2_with fail
  go_quiet (fail)
  go_wp2_with fail
  obtain ⟨w4, hw4⟩ : ∃ w4, w4 = (w3.alloc (.cells #[.int .i64 next, .slice (some ad) (l0.length + 1) c] 24)).drewN nq := ⟨_, rfl⟩
  rw [← hw4]
  have HA4 := Aside0.mk (show BookAt w4 F kb N D by rw [hw4]; exact HA3.out.below (pw_below_drewN (below_alloc (Below.refl _ _) _) _))
  have HR4 := Aside0.mk (show Fr F w w4 by rw [hw4]; exact (HR3.out.alloc _).then_below (pw_below_drewN (Below.refl _ _) _))
  have HC4 := Aside0.mk (show Kd.C (Kd.int .i64) w4 (some ad) l0.length l0 by rw [hw4]; exact C_pre (Kd.C_drewN (Kd.C_alloc HC3.out _) _))
  replace K0 := Aside0.mk (show w4.heap[b]? = some (.cells #[.int .i64 m, .int .i64 p, .int .i64 t, .int .i64 sp, .int .i64 r, .int .u64 ch] 35 (0, 0)) by rw [hw4]; exact blk_drewN (blk_alloc K0.out _) _)
  replace K1 := Aside0.mk (show w4.heap[b + 1]? = some (.cells #[.int .i64 0, .int .i64 0, .int .i64 0, .int .i64 0, .int .i64 0, .int .u64 0] 35 (0, 0)) by rw [hw4]; exact blk_drewN (blk_alloc K1.out _) _)
  have K7 := Aside0.mk (show w4.heap[w3.heap.size]? = some (.cells #[.int .i64 next, .slice (some ad) (l0.length + 1) c] 24 (0, 0)) by rw [hw4]; exact blk_drewN (blk_new w3 _) _)
  clear hw4
  obtain ⟨g, hg⟩ : ∃ g, g = w3.heap.size := ⟨_, rfl⟩
  rw [← hg] at K7 ⊢
  clear hg
  have hle : l0.length ≤ c := by omega
  clear HA3 HR3 HC3 a0 a1 a2 a3 a4 a5 z0 z1 z2 z3 z4 z5 f2 f3 g0 g1 g2 g3 g4 g5 hxo
  replace HCALL := Aside0.mk (HCALL.out (some ad) c)
  have hwl : IntKind.i64.wrap (l0.length : Int) = l0.length := by rw [IntKind.wrap_i64]; omega
  replace K0 := Aside0.mk (blk_drew K0.out)
  replace K1 := Aside0.mk (blk_drew K1.out)
  replace K7 := Aside0.mk (blk_drew K7.out)
  replace HA4 := Aside0.mk (HA4.out.below (below_drew (Below.refl _ _)))
  replace HR4 := Aside0.mk (HR4.out.then_below (below_drew (Below.refl _ _)))
  replace HC4 := Aside0.mk (Kd.C_drew HC4.out)
  refine start_ (n := 16) (S := fun w' => w'.cell? ⟨g, 0, none⟩ = some (.int .i64 next) ∧ w'.cell? ⟨g, 1, none⟩ = some (.slice (some ad) (l0.length + 1) c)) (ds := []) #[false, false, false, false, false, false, false, false, false, false, false, false, false, false, false, false] (by kernel_rfl) rfl rfl ⟨(blk_cell K7.out 0).trans rfl, (blk_cell K7.out 1).trans rfl⟩ (fun hHeld => ?_)
  generalize w4.drew = w4' at K0 K1 K7 HA4 HR4 HC4 hHeld ⊢
  refine pure_ (i := 0) (N := some 89) (v := ?_) (a' := ?_) #[true, false, false, false, false, false, false, false, false, false, false, false, false, false, false, false] rfl rfl (by kernel_rfl) (fun _ _ _ h => h) (Or.inl ⟨by rfl, ?_⟩) ?_ ?_
  rotate_left
  · intro w'
    go_simp
    with_reducible rfl
  rotate_left
  · simp only [Act.put, List.setIfInBounds_toArray, List.set_cons_zero, List.set_cons_succ]
    rfl
  refine take_ (i := 1) (N := some 90) (v := ?_) (a' := ?_) #[true, true, false, false, false, false, false, false, false, false, false, false, false, false, false, false] rfl rfl (by kernel_rfl) (fun _ _ _ h => h) (Or.inl ⟨by rfl, ?_⟩) hHeld ?_ ?_
  rotate_left
  · rintro w' ⟨s1', s2⟩
    go_simp
    with_reducible rfl
  rotate_left
  · simp only [Act.put, List.setIfInBounds_toArray, List.set_cons_zero, List.set_cons_succ]
    rfl
  refine pure_ (i := 2) (N := some 91) (v := ?_) (a' := ?_) #[true, true, true, false, false, false, false, false, false, false, false, false, false, false, false, false] rfl rfl (by kernel_rfl) (fun _ _ _ h => h) (Or.inl ⟨by rfl, ?_⟩) ?_ ?_
  rotate_left
  · intro w'
    go_simp
    with_reducible rfl
  rotate_left
  · simp only [Act.put, List.setIfInBounds_toArray, List.set_cons_zero, List.set_cons_succ]
    rfl
  refine take_ (i := 3) (N := some 92) (v := ?_) (a' := ?_) #[true, true, true, true, false, false, false, false, false, false, false, false, false, false, false, false] rfl rfl (by kernel_rfl) (fun _ _ _ h => h) (Or.inl ⟨by rfl, ?_⟩) hHeld ?_ ?_
  rotate_left
  · rintro w' ⟨s1', s2⟩
    go_simp
    with_reducible rfl
  rotate_left
  · simp only [Act.put, List.setIfInBounds_toArray, List.set_cons_zero, List.set_cons_succ]
    rfl
  refine pure_ (i := 4) (N := some 93) (v := ?_) (a' := ?_) #[true, true, true, true, true, false, false, false, false, false, false, false, false, false, false, false] rfl rfl (by kernel_rfl) (fun _ _ _ h => h) (Or.inl ⟨by rfl, ?_⟩) ?_ ?_
  rotate_left
  · intro w'
    go_simp
    with_reducible rfl
  rotate_left
  · simp only [Act.put, List.setIfInBounds_toArray, List.set_cons_zero, List.set_cons_succ]
    rfl
  refine take_ (i := 5) (N := some 94) (v := ?_) (a' := ?_) #[true, true, true, true, true, true, false, false, false, false, false, false, false, false, false, false] rfl rfl (by kernel_rfl) (fun _ _ _ h => h) (Or.inl ⟨by rfl, ?_⟩) hHeld ?_ ?_
  rotate_left
  · rintro w' ⟨s1', s2⟩
    go_simp
    with_reducible rfl
  rotate_left
  · simp only [Act.put, List.setIfInBounds_toArray, List.set_cons_zero, List.set_cons_succ]
    rfl
  refine pure_ (i := 6) (N := some 95) (v := ?_) (a' := ?_) #[true, true, true, true, true, true, true, false, false, false, false, false, false, false, false, false] rfl rfl (by kernel_rfl) (fun _ _ _ h => h) (Or.inl ⟨by rfl, ?_⟩) ?_ ?_
  rotate_left
  · intro w'
    go_simp
    with_reducible rfl
  rotate_left
  · simp only [Act.put, List.setIfInBounds_toArray, List.set_cons_zero, List.set_cons_succ]
    rfl
  refine pure_ (i := 7) (N := some 96) (v := ?_) (a' := ?_) #[true, true, true, true, true, true, true, true, false, false, false, false, false, false, false, false] rfl rfl (by kernel_rfl) (fun _ _ _ h => h) (Or.inl ⟨by rfl, ?_⟩) ?_ ?_
  rotate_left
  · intro w'
    go_simp
    with_reducible rfl
  rotate_left
  · simp only [Act.put, List.setIfInBounds_toArray, List.set_cons_zero, List.set_cons_succ]
    rfl
  refine pure_ (i := 8) (N := some 97) (v := ?_) (a' := ?_) #[true, true, true, true, true, true, true, true, true, false, false, false, false, false, false, false] rfl rfl (by kernel_rfl) (fun _ _ _ h => h) (Or.inl ⟨by rfl, ?_⟩) ?_ ?_
  rotate_left
  · intro w'
    go_simp
    with_reducible rfl
  rotate_left
  · simp only [Act.put, List.setIfInBounds_toArray, List.set_cons_zero, List.set_cons_succ]
    rfl
  refine pure_ (i := 9) (N := some 98) (v := ?_) (a' := ?_) #[true, true, true, true, true, true, true, true, true, true, false, false, false, false, false, false] rfl rfl (by kernel_rfl) (fun _ _ _ h => h) (Or.inl ⟨by rfl, ?_⟩) ?_ ?_
  rotate_left
  · intro w'
    go_simp
    with_reducible rfl
  rotate_left
  · simp only [Act.put, List.setIfInBounds_toArray, List.set_cons_zero, List.set_cons_succ]
    rfl
  refine one_ (i := 10) (N := some 99) #[true, true, true, true, true, true, true, true, true, true, true, false, false, false, false, false] rfl rfl (by kernel_rfl) (by decide) (fun K hK => ?_)
  refine call_ 13 #[.agg #[.int .i64 next, .slice (some ad) l0.length c]] (by rfl) rfl (by go_simp) ?_
  refine (HCALL.out _ HC4.out hle).mono ?_
  rintro e w5 ⟨rfl, hb5⟩
  refine ⟨.tuple #[.string (bs (trunkPage next l0)), .int .i64 0], rfl, ?_⟩
  have K0' := Aside0.mk (blk_below K0.out hb5)
  have K1' := Aside0.mk (blk_below K1.out hb5)
  have K7' := Aside0.mk (blk_below K7.out hb5)
  have HR5 := Aside0.mk (HR4.out.then_below hb5)
  have HA5 := Aside0.mk (HA4.out.below hb5)
  clear hb5 K0 K1 K7 HA4 HR4 HC4
  refine hK.out _ _ ⟨(blk_cell K7'.out 0).trans rfl, (blk_cell K7'.out 1).trans rfl⟩ (fun hHeld => ?_)
  clear hK K
  refine norm_ (a' := ?_) ?_ ?_
  rotate_left
  · show Act.put _ (some 99) _ = _
    simp only [Act.put, List.setIfInBounds_toArray, List.set_cons_zero, List.set_cons_succ]
    rfl
  refine pure_ (i := 11) (N := some 88) (v := ?_) (a' := ?_) #[true, true, true, true, true, true, true, true, true, true, true, true, false, false, false, false] rfl rfl (by kernel_rfl) (fun _ _ _ h => h) (Or.inl ⟨by rfl, ?_⟩) ?_ ?_
  rotate_left
  · intro w'
    go_simp
    with_reducible rfl
  rotate_left
  · simp only [Act.put, List.setIfInBounds_toArray, List.set_cons_zero, List.set_cons_succ]
    rfl
  refine pure_ (i := 12) (N := some 100) (v := ?_) (a' := ?_) #[true, true, true, true, true, true, true, true, true, true, true, true, true, false, false, false] rfl rfl (by kernel_rfl) (fun _ _ _ h => h) (Or.inl ⟨by rfl, ?_⟩) ?_ ?_
  rotate_left
  · intro w'
    go_simp
    with_reducible rfl
  rotate_left
  · simp only [Act.put, List.setIfInBounds_toArray, List.set_cons_zero, List.set_cons_succ]
    rfl
  refine pure_ (i := 13) (N := some 101) (v := ?_) (a' := ?_) #[true, true, true, true, true, true, true, true, true, true, true, true, true, true, false, false] rfl rfl (by kernel_rfl) (fun _ _ _ h => h) (Or.inl ⟨by rfl, ?_⟩) ?_ ?_
  rotate_left
  · intro w'
    go_simp
    with_reducible rfl
  rotate_left
  · simp only [Act.put, List.setIfInBounds_toArray, List.set_cons_zero, List.set_cons_succ]
    rfl
  refine pure_ (i := 14) (N := some 10) (v := ?_) (a' := ?_) #[true, true, true, true, true, true, true, true, true, true, true, true, true, true, true, false] rfl rfl (by kernel_rfl) (fun _ _ _ h => h) (Or.inl ⟨by rfl, ?_⟩) ?_ ?_
  rotate_left
  · intro w'
    go_simp
    with_reducible rfl
  rotate_left
  · simp only [Act.put, List.setIfInBounds_toArray, List.set_cons_zero, List.set_cons_succ]
    rfl
  refine pure_ (i := 15) (N := some 11) (v := ?_) (a' := ?_) #[true, true, true, true, true, true, true, true, true, true, true, true, true, true, true, true] rfl rfl (by kernel_rfl) (fun _ _ _ h => h) (Or.inl ⟨by rfl, ?_⟩) ?_ ?_
  rotate_left
  · intro w'
    go_simp
    with_reducible rfl
  rotate_left
  · simp only [Act.put, List.setIfInBounds_toArray, List.set_cons_zero, List.set_cons_succ]
    rfl
  refine done_ (by kernel_rfl) ?_
  have a0 : w5.cell? ⟨b, 0, none⟩ = some (.int .i64 m) := (blk_cell K0'.out 0).trans rfl
  have a1 : w5.cell? ⟨b, 1, none⟩ = some (.int .i64 p) := (blk_cell K0'.out 1).trans rfl
  have a2 : w5.cell? ⟨b, 2, none⟩ = some (.int .i64 t) := (blk_cell K0'.out 2).trans rfl
  have a3 : w5.cell? ⟨b, 3, none⟩ = some (.int .i64 sp) := (blk_cell K0'.out 3).trans rfl
  have a4 : w5.cell? ⟨b, 4, none⟩ = some (.int .i64 r) := (blk_cell K0'.out 4).trans rfl
  have a5 : w5.cell? ⟨b, 5, none⟩ = some (.int .u64 ch) := (blk_cell K0'.out 5).trans rfl
  have z0 : w5.cell? ⟨b + 1, 0, none⟩ = some (.int .i64 0) := (blk_cell K1'.out 0).trans rfl
  have z1 : w5.cell? ⟨b + 1, 1, none⟩ = some (.int .i64 0) := (blk_cell K1'.out 1).trans rfl
  have z2 : w5.cell? ⟨b + 1, 2, none⟩ = some (.int .i64 0) := (blk_cell K1'.out 2).trans rfl
  have z3 : w5.cell? ⟨b + 1, 3, none⟩ = some (.int .i64 0) := (blk_cell K1'.out 3).trans rfl
  have z4 : w5.cell? ⟨b + 1, 4, none⟩ = some (.int .i64 0) := (blk_cell K1'.out 4).trans rfl
  have z5 : w5.cell? ⟨b + 1, 5, none⟩ = some (.int .u64 0) := (blk_cell K1'.out 5).trans rfl
  have f2 : w5.frozen? ⟨b, 2, none⟩ = false := blk_frozen K0'.out 2
  have f3 : w5.frozen? ⟨b, 3, none⟩ = false := blk_frozen K0'.out 3
  have g0 : w5.frozen? ⟨b + 1, 0, none⟩ = false := blk_frozen K1'.out 0
  have g1 : w5.frozen? ⟨b + 1, 1, none⟩ = false := blk_frozen K1'.out 1
  have g2 : w5.frozen? ⟨b + 1, 2, none⟩ = false := blk_frozen K1'.out 2
  have g3 : w5.frozen? ⟨b + 1, 3, none⟩ = false := blk_frozen K1'.out 3
  have g4 : w5.frozen? ⟨b + 1, 4, none⟩ = false := blk_frozen K1'.out 4
  have g5 : w5.frozen? ⟨b + 1, 5, none⟩ = false := blk_frozen K1'.out 5
  clear hHeld
  go_wp2_with fail
  refine (bookPut_calls kb F N D t (bs (trunkPage next l0)) w5 HA5.out HSZ.out).mono ?_
  rintro e w6 ⟨rfl, hA6, hR6⟩
  have HF6 := Aside0.mk (show ∀ k, Fnew F w5 w6 k → F k ∨ b + 1 < k from fun k hk => by
    rcases hk with h1 | h1
    · exact Or.inl h1
    · exact Or.inr (by have := blk_lt K1'.out; omega))
  have K06 := Aside0.mk (hR6.blk K0'.out (HBF.out b (Nat.le_refl _)))
  have K16 := Aside0.mk (hR6.blk K1'.out (HBF.out (b + 1) (by omega)))
  have HA6 := Aside0.mk hA6
  have HR6 := Aside0.mk (HR5.out.trans hR6 (fun k hk hf => hf))
  clear hA6 hR6 a0 a1 a2 a3 a4 a5 z0 z1 z2 z3 z4 z5 f2 f3 g0 g1 g2 g3 g4 g5
  have a0 : w6.cell? ⟨b, 0, none⟩ = some (.int .i64 m) := (blk_cell K06.out 0).trans rfl
  have a1 : w6.cell? ⟨b, 1, none⟩ = some (.int .i64 p) := (blk_cell K06.out 1).trans rfl
  have a2 : w6.cell? ⟨b, 2, none⟩ = some (.int .i64 t) := (blk_cell K06.out 2).trans rfl
  have a3 : w6.cell? ⟨b, 3, none⟩ = some (.int .i64 sp) := (blk_cell K06.out 3).trans rfl
  have a4 : w6.cell? ⟨b, 4, none⟩ = some (.int .i64 r) := (blk_cell K06.out 4).trans rfl
  have a5 : w6.cell? ⟨b, 5, none⟩ = some (.int .u64 ch) := (blk_cell K06.out 5).trans rfl
  have z0 : w6.cell? ⟨b + 1, 0, none⟩ = some (.int .i64 0) := (blk_cell K16.out 0).trans rfl
  have z1 : w6.cell? ⟨b + 1, 1, none⟩ = some (.int .i64 0) := (blk_cell K16.out 1).trans rfl
  have z2 : w6.cell? ⟨b + 1, 2, none⟩ = some (.int .i64 0) := (blk_cell K16.out 2).trans rfl
  have z3 : w6.cell? ⟨b + 1, 3, none⟩ = some (.int .i64 0) := (blk_cell K16.out 3).trans rfl
  have z4 : w6.cell? ⟨b + 1, 4, none⟩ = some (.int .i64 0) := (blk_cell K16.out 4).trans rfl
  have z5 : w6.cell? ⟨b + 1, 5, none⟩ = some (.int .u64 0) := (blk_cell K16.out 5).trans rfl
  have f2 : w6.frozen? ⟨b, 2, none⟩ = false := blk_frozen K06.out 2
  have f3 : w6.frozen? ⟨b, 3, none⟩ = false := blk_frozen K06.out 3
  have g0 : w6.frozen? ⟨b + 1, 0, none⟩ = false := blk_frozen K16.out 0
  have g1 : w6.frozen? ⟨b + 1, 1, none⟩ = false := blk_frozen K16.out 1
  have g2 : w6.frozen? ⟨b + 1, 2, none⟩ = false := blk_frozen K16.out 2
  have g3 : w6.frozen? ⟨b + 1, 3, none⟩ = false := blk_frozen K16.out 3
  have g4 : w6.frozen? ⟨b + 1, 4, none⟩ = false := blk_frozen K16.out 4
  have g5 : w6.frozen? ⟨b + 1, 5, none⟩ = false := blk_frozen K16.out 5
  go_wp2_with fail
  go_region
  go_wp2
  refine bodyPost_ret (results_tct rfl _ _ (b + 1) 35 #[.int .i64 m, .int .i64 p, .int .i64 t, .int .i64 (sp - 1), .int .i64 r, .int .u64 ch] (0, 0) _ rfl (blk_drew (put6 (blk_far K16.out (show b + 1 ≠ b by omega) _) _ _ _ _ _ _)) Try.underlying35 rfl (by kernel_rfl)) rfl ?_
  exact ⟨rfl, _, (bk6 (bk_far (p := ⟨b, 3, none⟩) HA6.out (fun hf => by rcases HF6.out b hf with h1 | h1; exact HBF.out b (Nat.le_refl _) h1; omega) _) (fun hf => by rcases HF6.out (b + 1) hf with h1 | h1; exact HBF.out (b + 1) (by omega) h1; omega) _ _ _ _ _ _).below (below_drew (Below.refl _ _)), fun k hk => (HF6.out k hk).imp id (fun h => by have := HBW.out; omega), (fr6 (HR6.out.setCell (p := ⟨b, 3, none⟩) (Or.inr (by have := HBW.out; show w.heap.size ≤ b; omega)) _) (Or.inr (by have := HBW.out; show w.heap.size ≤ b + 1; omega)) _ _ _ _ _ _).then_below (below_drew (Below.refl _ _))⟩
end Go.Proofs.Ytonbipaajhokfaa
