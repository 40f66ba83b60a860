/-
  Of this claim's texts, laid together by wip/gen/squeeze.py: H4.
-/
import Derived.Test.YtonbipaajhokfaaGreatDoorERq7
section
set_option linter.unusedVariables false
set_option linter.unusedSimpArgs false
namespace Go.Proofs.YtonbipaajhokfaaGreatDoor
open Go.RowKit Go.Proofs.YtonbipaajhokfaaGreatDoorW.PrintWords Go.Proofs.YtonbipaajhokfaaGreatDoorW.PrintLast Go.Proofs.YtonbipaajhokfaaGreatDoorW.PrintMore
set_option maxHeartbeats 2000000 in
set_option maxRecDepth 100000 in
theorem shNew_room0 (ks mb : Nat) (lim m p t sp r ch lf lg : Int) (f f' : Int → Option ByteArray) (nn y0 y1 y2 y3 y4 y5 ee : Int) (w : World) (h : ShAt ks mb w (⟨lim, ⟨m, p, t, sp, r, ch⟩, f, lg⟩ : Sh)) (hl : lg ≤ 4096) (hlf : nl lg = lf) (hd1 : 0 ≤ p) (hd2 : p ≤ 4096) (hd3 : 0 ≤ sp) (hd4 : sp ≤ 4096) (h0 : lg ≠ 0) (hsp : sp = 0) (hlp : lim ≤ p) (hb : (⟨lim, ⟨m, p, t, sp, r, ch⟩, f, lg⟩ : Sh).beg 1 = 0) :
    Calls Tryz.prog 25 #[.pointer (some ⟨ks, 0, none⟩)] w fun e w' => e = .returned (.tuple #[.int .i64 0, .int .i64 22]) ∧ ShAt ks mb w' (⟨lim, ⟨m, p, t, sp, r, ch⟩, f, lf⟩ : Sh) ∧ Fr (ShF ks mb) w w' := by
  have HBC := Aside0.mk (begin_at ks mb (n := 1) hl hlf hb)
  have H := Aside0.mk h
  have t1 : (sp == 0) = true := by simp [hsp]
  have t2 : decide (lim ≤ p) = true := decide_eq_true hlp
  clear h hb hl hlf
  go_enter Tryz.func25, Tryz.ntmps25
  go_wp2_with fail
  refine (HBC.out w H.out).mono ?_
  rintro e w1 ⟨rfl, hs1, hf1⟩
  replace H := Aside0.mk hs1
  have HRW := Aside0.mk hf1
  clear hs1 hf1 HBC
  have a0 : w1.cell? ⟨ks, 0, none⟩ = some (.int .i64 lim) := (blk_cell H.out.1 0).trans rfl
  have a1 : w1.cell? ⟨ks, 1, none⟩ = some (.int .i64 m) := (blk_cell H.out.1 1).trans rfl
  have a2 : w1.cell? ⟨ks, 2, none⟩ = some (.int .i64 p) := (blk_cell H.out.1 2).trans rfl
  have a3 : w1.cell? ⟨ks, 3, none⟩ = some (.int .i64 t) := (blk_cell H.out.1 3).trans rfl
  have a4 : w1.cell? ⟨ks, 4, none⟩ = some (.int .i64 sp) := (blk_cell H.out.1 4).trans rfl
  have a5 : w1.cell? ⟨ks, 5, none⟩ = some (.int .i64 r) := (blk_cell H.out.1 5).trans rfl
  have a6 : w1.cell? ⟨ks, 6, none⟩ = some (.int .u64 ch) := (blk_cell H.out.1 6).trans rfl
  have a7 : w1.cell? ⟨ks, 7, none⟩ = some (.map (some mb)) := (blk_cell H.out.1 7).trans rfl
  have a8 : w1.cell? ⟨ks, 8, none⟩ = some (.int .i64 lf) := (blk_cell H.out.1 8).trans rfl
  go_wp2_with fail
  go_quiet (fail)
  go_wp2
  go_ret2
  exact ⟨rfl, H.out.below (pw_below_drewN (Below.refl _ _) nq), Fr.then_below HRW.out (pw_below_drewN (Below.refl _ _) nq)⟩
set_option maxHeartbeats 2000000 in
set_option maxRecDepth 100000 in
theorem shNew_errA0 (ks mb : Nat) (lim m p t sp r ch lf lg : Int) (f f' : Int → Option ByteArray) (nn y0 y1 y2 y3 y4 y5 ee : Int) (w : World) (h : ShAt ks mb w (⟨lim, ⟨m, p, t, sp, r, ch⟩, f, lg⟩ : Sh)) (hl : lg ≤ 4096) (hlf : nl lg = lf) (hd1 : 0 ≤ p) (hd2 : p ≤ 4096) (hd3 : 0 ≤ sp) (hd4 : sp ≤ 4096) (h0 : lg ≠ 0)  (htk : (mapShop mb).take f ⟨m, p, t, sp, r, ch⟩ = (f', nn, ⟨y0, y1, y2, y3, y4, y5⟩, ee)) (he : (ee != 0) = true) (hsp : sp ≠ 0) (hb : (⟨lim, ⟨m, p, t, sp, r, ch⟩, f, lg⟩ : Sh).beg 1 = 0) :
    Calls Tryz.prog 25 #[.pointer (some ⟨ks, 0, none⟩)] w fun e w' => e = .returned (.tuple #[.int .i64 0, .int .i64 ee]) ∧ ShAt ks mb w' ⟨lim, ⟨m, p, t, sp, r, ch⟩, f', lf⟩ ∧ Fr (ShF ks mb) w w' := by
  have HBC := Aside0.mk (begin_at ks mb (n := 1) hl hlf hb)
  have H := Aside0.mk h
  have hgc := fun W hW => mtake_calls mb f ⟨m, p, t, sp, r, ch⟩ W hW hd1 hd3 hd4
  rw [htk] at hgc
  have HGC := Aside0.mk hgc
  clear hgc htk
  have t1 : (sp == 0) = false := by simp [hsp]
  clear h hb hl hlf
  go_enter Tryz.func25, Tryz.ntmps25
  go_wp2_with fail
  refine (HBC.out w H.out).mono ?_
  rintro e w1 ⟨rfl, hs1, hf1⟩
  replace H := Aside0.mk hs1
  have HRW := Aside0.mk hf1
  clear hs1 hf1 HBC
  have a0 : w1.cell? ⟨ks, 0, none⟩ = some (.int .i64 lim) := (blk_cell H.out.1 0).trans rfl
  have a1 : w1.cell? ⟨ks, 1, none⟩ = some (.int .i64 m) := (blk_cell H.out.1 1).trans rfl
  have a2 : w1.cell? ⟨ks, 2, none⟩ = some (.int .i64 p) := (blk_cell H.out.1 2).trans rfl
  have a3 : w1.cell? ⟨ks, 3, none⟩ = some (.int .i64 t) := (blk_cell H.out.1 3).trans rfl
  have a4 : w1.cell? ⟨ks, 4, none⟩ = some (.int .i64 sp) := (blk_cell H.out.1 4).trans rfl
  have a5 : w1.cell? ⟨ks, 5, none⟩ = some (.int .i64 r) := (blk_cell H.out.1 5).trans rfl
  have a6 : w1.cell? ⟨ks, 6, none⟩ = some (.int .u64 ch) := (blk_cell H.out.1 6).trans rfl
  have a7 : w1.cell? ⟨ks, 7, none⟩ = some (.map (some mb)) := (blk_cell H.out.1 7).trans rfl
  have a8 : w1.cell? ⟨ks, 8, none⟩ = some (.int .i64 lf) := (blk_cell H.out.1 8).trans rfl
  go_wp2_with fail
  go_quiet (fail)
  clear a0 a1 a2 a3 a4 a5 a6 a7 a8
  replace H := Aside0.mk (H.out.below (pw_below_drewN (Below.refl _ _) nq))
  replace HRW := Aside0.mk (Fr.then_below HRW.out (pw_below_drewN (Below.refl _ _) nq))
  generalize w1.drewN nq = wq at H HRW ⊢
  have a0 : wq.cell? ⟨ks, 0, none⟩ = some (.int .i64 lim) := (blk_cell H.out.1 0).trans rfl
  have a1 : wq.cell? ⟨ks, 1, none⟩ = some (.int .i64 m) := (blk_cell H.out.1 1).trans rfl
  have a2 : wq.cell? ⟨ks, 2, none⟩ = some (.int .i64 p) := (blk_cell H.out.1 2).trans rfl
  have a3 : wq.cell? ⟨ks, 3, none⟩ = some (.int .i64 t) := (blk_cell H.out.1 3).trans rfl
  have a4 : wq.cell? ⟨ks, 4, none⟩ = some (.int .i64 sp) := (blk_cell H.out.1 4).trans rfl
  have a5 : wq.cell? ⟨ks, 5, none⟩ = some (.int .i64 r) := (blk_cell H.out.1 5).trans rfl
  have a6 : wq.cell? ⟨ks, 6, none⟩ = some (.int .u64 ch) := (blk_cell H.out.1 6).trans rfl
  have a7 : wq.cell? ⟨ks, 7, none⟩ = some (.map (some mb)) := (blk_cell H.out.1 7).trans rfl
  have a8 : wq.cell? ⟨ks, 8, none⟩ = some (.int .i64 lf) := (blk_cell H.out.1 8).trans rfl
  go_wp2_with fail
  clear a0 a1 a2 a3 a4 a5 a6 a7 a8
  refine start_ (n := 18) (S := fun w' => w'.cell? ⟨ks, 1, none⟩ = some (.int .i64 m) ∧ w'.cell? ⟨ks, 2, none⟩ = some (.int .i64 p) ∧ w'.cell? ⟨ks, 3, none⟩ = some (.int .i64 t) ∧ w'.cell? ⟨ks, 4, none⟩ = some (.int .i64 sp) ∧ w'.cell? ⟨ks, 5, none⟩ = some (.int .i64 r) ∧ w'.cell? ⟨ks, 6, none⟩ = some (.int .u64 ch) ∧ w'.cell? ⟨ks, 7, none⟩ = some (.map (some mb))) (ds := [16]) #[false, false, false, false, false, false, false, false, false, false, false, false, false, false, false, false, false, false] (by kernel_rfl) rfl rfl ⟨(blk_cell (H.out.below (Below.refl _ _).drew).1 1).trans rfl, (blk_cell (H.out.below (Below.refl _ _).drew).1 2).trans rfl, (blk_cell (H.out.below (Below.refl _ _).drew).1 3).trans rfl, (blk_cell (H.out.below (Below.refl _ _).drew).1 4).trans rfl, (blk_cell (H.out.below (Below.refl _ _).drew).1 5).trans rfl, (blk_cell (H.out.below (Below.refl _ _).drew).1 6).trans rfl, (blk_cell (H.out.below (Below.refl _ _).drew).1 7).trans rfl⟩ (fun hHeld => ?_)
  replace H := Aside0.mk (H.out.below (Below.refl _ _).drew)
  replace HRW := Aside0.mk (Fr.then_below HRW.out (Below.refl _ _).drew)
  generalize wq.drew = wd at H HRW hHeld ⊢
  refine pure_ (i := 0) (N := some 36) (v := ?_) (a' := ?_) #[true, false, false, false, false, false, false, false, false, false, false, false, false, false, false, false, false, false] rfl rfl (by kernel_rfl) (fun _ _ _ h => h) (Or.inl ⟨by rfl, ?_⟩) ?_ ?_
  rotate_left
  · intro w'
    go_simp
    with_reducible rfl
  rotate_left
  · simp only [putAll, Act.put, List.setIfInBounds_toArray, List.set_cons_zero, List.set_cons_succ]
    rfl
  refine pure_ (i := 1) (N := some 37) (v := ?_) (a' := ?_) #[true, true, false, false, false, false, false, false, false, false, false, false, false, false, false, false, false, false] rfl rfl (by kernel_rfl) (fun _ _ _ h => h) (Or.inl ⟨by rfl, ?_⟩) ?_ ?_
  rotate_left
  · intro w'
    go_simp
    with_reducible rfl
  rotate_left
  · simp only [putAll, Act.put, List.setIfInBounds_toArray, List.set_cons_zero, List.set_cons_succ]
    rfl
  refine pure_ (i := 2) (N := some 38) (v := ?_) (a' := ?_) #[true, true, true, false, false, false, false, false, false, false, false, false, false, false, false, false, false, false] rfl rfl (by kernel_rfl) (fun _ _ _ h => h) (Or.inl ⟨by rfl, ?_⟩) ?_ ?_
  rotate_left
  · intro w'
    go_simp
    with_reducible rfl
  rotate_left
  · simp only [putAll, Act.put, List.setIfInBounds_toArray, List.set_cons_zero, List.set_cons_succ]
    rfl
  refine pure_ (i := 4) (N := some 40) (v := ?_) (a' := ?_) #[true, true, true, false, true, false, false, false, false, false, false, false, false, false, false, false, false, false] rfl rfl (by kernel_rfl) (fun _ _ _ h => h) (Or.inl ⟨by rfl, ?_⟩) ?_ ?_
  rotate_left
  · intro w'
    go_simp
    with_reducible rfl
  rotate_left
  · simp only [putAll, Act.put, List.setIfInBounds_toArray, List.set_cons_zero, List.set_cons_succ]
    rfl
  refine pure_ (i := 5) (N := some 41) (v := ?_) (a' := ?_) #[true, true, true, false, true, true, false, false, false, false, false, false, false, false, false, false, false, false] rfl rfl (by kernel_rfl) (fun _ _ _ h => h) (Or.inl ⟨by rfl, ?_⟩) ?_ ?_
  rotate_left
  · intro w'
    go_simp
    with_reducible rfl
  rotate_left
  · simp only [putAll, Act.put, List.setIfInBounds_toArray, List.set_cons_zero, List.set_cons_succ]
    rfl
  refine pure_ (i := 6) (N := some 42) (v := ?_) (a' := ?_) #[true, true, true, false, true, true, true, false, false, false, false, false, false, false, false, false, false, false] rfl rfl (by kernel_rfl) (fun _ _ _ h => h) (Or.inl ⟨by rfl, ?_⟩) ?_ ?_
  rotate_left
  · intro w'
    go_simp
    with_reducible rfl
  rotate_left
  · simp only [putAll, Act.put, List.setIfInBounds_toArray, List.set_cons_zero, List.set_cons_succ]
    rfl
  refine take_ (i := 3) (N := some 39) (v := ?_) (a' := ?_) #[true, true, true, true, true, true, true, false, false, false, false, false, false, false, false, false, false, false] rfl rfl (by kernel_rfl) (fun _ _ _ h => h) (Or.inl ⟨by rfl, ?_⟩) hHeld ?_ ?_
  rotate_left
  · rintro w' ⟨s1, s2, s3, s4, s5, s6, s7⟩
    go_simp
    with_reducible rfl
  rotate_left
  · simp only [putAll, Act.put, List.setIfInBounds_toArray, List.set_cons_zero, List.set_cons_succ]
    rfl
  refine take_ (i := 7) (N := some 43) (v := ?_) (a' := ?_) #[true, true, true, true, true, true, true, true, false, false, false, false, false, false, false, false, false, false] rfl rfl (by kernel_rfl) (fun _ _ _ h => h) (Or.inl ⟨by rfl, ?_⟩) hHeld ?_ ?_
  rotate_left
  · rintro w' ⟨s1, s2, s3, s4, s5, s6, s7⟩
    go_simp
    with_reducible rfl
  rotate_left
  · simp only [putAll, Act.put, List.setIfInBounds_toArray, List.set_cons_zero, List.set_cons_succ]
    rfl
  refine pure_ (i := 8) (N := some 44) (v := ?_) (a' := ?_) #[true, true, true, true, true, true, true, true, true, false, false, false, false, false, false, false, false, false] rfl rfl (by kernel_rfl) (fun _ _ _ h => h) (Or.inl ⟨by rfl, ?_⟩) ?_ ?_
  rotate_left
  · intro w'
    go_simp
    with_reducible rfl
  rotate_left
  · simp only [putAll, Act.put, List.setIfInBounds_toArray, List.set_cons_zero, List.set_cons_succ]
    rfl
  refine join_ 3 #[true, true, true, true, true, true, true, true, true, true, true, true, true, true, true, false, false, false] (fun q : Nat => [(45, .tuple #[.int .i64 nn, .agg #[.int .i64 y0, .int .i64 y1, .int .i64 y2, .int .i64 y3, .int .i64 y4, .int .u64 y5], .int .i64 ee]), (35, .tuple #[.int .i64 nn, .agg #[.int .i64 y0, .int .i64 y1, .int .i64 y2, .int .i64 y3, .int .i64 y4, .int .u64 y5], .int .i64 ee]), (46, .int .i64 nn), (47, .agg #[.int .i64 y0, .int .i64 y1, .int .i64 y2, .int .i64 y3, .int .i64 y4, .int .u64 y5]), (48, .int .i64 ee), (6, .pointer (some ⟨q, 0, none⟩))]) (fun q w' => ShAt ks mb w' ⟨lim, ⟨m, p, t, sp, r, ch⟩, f', lf⟩ ∧ Fr (ShF ks mb) w w' ∧ w'.heap[q]? = some (.cells #[.int .i64 0, .int .i64 0, .int .i64 0, .int .i64 0, .int .i64 0, .int .u64 0] 48 (0, 0)) ∧ ks ≠ q ∧ mb ≠ q ∧ w.heap.size ≤ q) ?_ (fun hcont => ?_)
  · intro q w3 hf
    obtain ⟨hS3, hR3, hQ3, hksq, hmbq, hqB⟩ := hf
    clear hHeld H HRW
    have qf0 : w3.frozen? ⟨q, 0, none⟩ = false := blk_frozen hQ3 0
    have qf1 : w3.frozen? ⟨q, 1, none⟩ = false := blk_frozen hQ3 1
    have qf2 : w3.frozen? ⟨q, 2, none⟩ = false := blk_frozen hQ3 2
    have qf3 : w3.frozen? ⟨q, 3, none⟩ = false := blk_frozen hQ3 3
    have qf4 : w3.frozen? ⟨q, 4, none⟩ = false := blk_frozen hQ3 4
    have qf5 : w3.frozen? ⟨q, 5, none⟩ = false := blk_frozen hQ3 5
    have qc0 : w3.cell? ⟨q, 0, none⟩ = some (.int .i64 0) := (blk_cell hQ3 0).trans rfl
    have qc1 : w3.cell? ⟨q, 1, none⟩ = some (.int .i64 0) := (blk_cell hQ3 1).trans rfl
    have qc2 : w3.cell? ⟨q, 2, none⟩ = some (.int .i64 0) := (blk_cell hQ3 2).trans rfl
    have qc3 : w3.cell? ⟨q, 3, none⟩ = some (.int .i64 0) := (blk_cell hQ3 3).trans rfl
    have qc4 : w3.cell? ⟨q, 4, none⟩ = some (.int .i64 0) := (blk_cell hQ3 4).trans rfl
    have qc5 : w3.cell? ⟨q, 5, none⟩ = some (.int .u64 0) := (blk_cell hQ3 5).trans rfl
    refine norm_ (a' := ?_) ?_ ?_
    rotate_left
    · simp only [putAll, Act.put, List.setIfInBounds_toArray, List.set_cons_zero, List.set_cons_succ]
      rfl
    refine pure_ (i := 15) (N := some 5) (v := ?_) (a' := ?_) #[true, true, true, true, true, true, true, true, true, true, true, true, true, true, true, true, false, false] rfl rfl (by kernel_rfl) (fun _ _ _ h => h) (Or.inl ⟨by rfl, ?_⟩) ?_ ?_
    rotate_left
    · intro w'
      go_simp
      with_reducible rfl
    rotate_left
    · simp only [putAll, Act.put, List.setIfInBounds_toArray, List.set_cons_zero, List.set_cons_succ]
      rfl
    refine last_ (i := 16) (N := none) #[true, true, true, true, true, true, true, true, true, true, true, true, true, true, true, true, true, false] rfl rfl (by kernel_rfl) (by decide) (fun K hK => ?_)
    refine skip_ (w1 := ((((((w3.setCell ⟨q, 0, none⟩ (.int .i64 y0)).setCell ⟨q, 1, none⟩ (.int .i64 y1)).setCell ⟨q, 2, none⟩ (.int .i64 y2)).setCell ⟨q, 3, none⟩ (.int .i64 y3)).setCell ⟨q, 4, none⟩ (.int .i64 y4)).setCell ⟨q, 5, none⟩ (.int .u64 y5))) (by rfl) rfl (by go_simp) ?_
    refine hK.out _ _ ?_
    clear hK K
    clear qf0 qc0 qf1 qc1 qf2 qc2 qf3 qc3 qf4 qc4 qf5 qc5
    have HS4 := Aside0.mk (shFar6 hS3 hksq hmbq (.int .i64 y0) (.int .i64 y1) (.int .i64 y2) (.int .i64 y3) (.int .i64 y4) (.int .u64 y5))
    have HR4 := Aside0.mk (shFrQ hR3 hqB (.int .i64 y0) (.int .i64 y1) (.int .i64 y2) (.int .i64 y3) (.int .i64 y4) (.int .u64 y5))
    have HQ4 := Aside0.mk (put6 hQ3 (.int .i64 y0) (.int .i64 y1) (.int .i64 y2) (.int .i64 y3) (.int .i64 y4) (.int .u64 y5))
    generalize ((((((w3.setCell ⟨q, 0, none⟩ (.int .i64 y0)).setCell ⟨q, 1, none⟩ (.int .i64 y1)).setCell ⟨q, 2, none⟩ (.int .i64 y2)).setCell ⟨q, 3, none⟩ (.int .i64 y3)).setCell ⟨q, 4, none⟩ (.int .i64 y4)).setCell ⟨q, 5, none⟩ (.int .u64 y5)) = w4 at HS4 HR4 HQ4 ⊢
    have HKQ := Aside0.mk hksq
    clear hS3 hR3 hQ3 hqB hksq hmbq
    refine pure_ (i := 17) (N := some 7) (v := ?_) (a' := ?_) #[true, true, true, true, true, true, true, true, true, true, true, true, true, true, true, true, true, true] rfl rfl (by kernel_rfl) (fun _ _ _ h => h) (Or.inl ⟨by rfl, ?_⟩) ?_ ?_
    rotate_left
    · intro w'
      go_simp
      with_reducible rfl
    rotate_left
    · simp only [putAll, Act.put, List.setIfInBounds_toArray, List.set_cons_zero, List.set_cons_succ]
      rfl
    refine done_ (by kernel_rfl) ?_
    go_wp2
    go_ret2
    exact ⟨rfl, HS4.out, HR4.out⟩
  refine two_ (i := 9) (j := 14) (Ni := some 45) (Nj := some 6) #[true, true, true, true, true, true, true, true, true, true, false, false, false, false, false, false, false, false] #[true, true, true, true, true, true, true, true, true, false, false, false, false, false, true, false, false, false] rfl rfl rfl rfl (by kernel_rfl) (by decide) (by decide) (fun K hK => ?_) (fun K hK => ?_)
  · refine call_ 40 #[.agg #[.int .i64 m, .int .i64 p, .int .i64 t, .int .i64 sp, .int .i64 r, .int .u64 ch], .iface 70 (.map (some mb))] (by rfl) rfl (by go_simp) ?_
    refine (HGC.out wd (H.out).2).mono ?_
    rintro e w2 ⟨rfl, hm2, hf2⟩
    refine ⟨.tuple #[.int .i64 nn, .agg #[.int .i64 y0, .int .i64 y1, .int .i64 y2, .int .i64 y3, .int .i64 y4, .int .u64 y5], .int .i64 ee], rfl, ?_⟩
    have hS2 := ShAt.fr H.out hf2 hm2
    have hR2 := HRW.out.trans (frMap (ks := ks) hf2) (fun _ _ h => h)
    refine hK.out _ _ ⟨(blk_cell (hS2).1 1).trans rfl, (blk_cell (hS2).1 2).trans rfl, (blk_cell (hS2).1 3).trans rfl, (blk_cell (hS2).1 4).trans rfl, (blk_cell (hS2).1 5).trans rfl, (blk_cell (hS2).1 6).trans rfl, (blk_cell (hS2).1 7).trans rfl⟩ (fun hHeld => ?_)
    clear hK K
    refine norm_ (a' := ?_) ?_ ?_
    rotate_left
    · show Act.put _ (some 45) _ = _
      simp only [putAll, Act.put, List.setIfInBounds_toArray, List.set_cons_zero, List.set_cons_succ]
      rfl
    refine pure_ (i := 10) (N := some 35) (v := ?_) (a' := ?_) #[true, true, true, true, true, true, true, true, true, true, true, false, false, false, false, false, false, false] rfl rfl (by kernel_rfl) (fun _ _ _ h => h) (Or.inl ⟨by rfl, ?_⟩) ?_ ?_
    rotate_left
    · intro w'
      go_simp
      with_reducible rfl
    rotate_left
    · simp only [putAll, Act.put, List.setIfInBounds_toArray, List.set_cons_zero, List.set_cons_succ]
      rfl
    refine pure_ (i := 11) (N := some 46) (v := ?_) (a' := ?_) #[true, true, true, true, true, true, true, true, true, true, true, true, false, false, false, false, false, false] rfl rfl (by kernel_rfl) (fun _ _ _ h => h) (Or.inl ⟨by rfl, ?_⟩) ?_ ?_
    rotate_left
    · intro w'
      go_simp
      with_reducible rfl
    rotate_left
    · simp only [putAll, Act.put, List.setIfInBounds_toArray, List.set_cons_zero, List.set_cons_succ]
      rfl
    refine pure_ (i := 12) (N := some 47) (v := ?_) (a' := ?_) #[true, true, true, true, true, true, true, true, true, true, true, true, true, false, false, false, false, false] rfl rfl (by kernel_rfl) (fun _ _ _ h => h) (Or.inl ⟨by rfl, ?_⟩) ?_ ?_
    rotate_left
    · intro w'
      go_simp
      with_reducible rfl
    rotate_left
    · simp only [putAll, Act.put, List.setIfInBounds_toArray, List.set_cons_zero, List.set_cons_succ]
      rfl
    refine pure_ (i := 13) (N := some 48) (v := ?_) (a' := ?_) #[true, true, true, true, true, true, true, true, true, true, true, true, true, true, false, false, false, false] rfl rfl (by kernel_rfl) (fun _ _ _ h => h) (Or.inl ⟨by rfl, ?_⟩) ?_ ?_
    rotate_left
    · intro w'
      go_simp
      with_reducible rfl
    rotate_left
    · simp only [putAll, Act.put, List.setIfInBounds_toArray, List.set_cons_zero, List.set_cons_succ]
      rfl
    refine one_ (i := 14) (N := some 6) #[true, true, true, true, true, true, true, true, true, true, true, true, true, true, true, false, false, false] rfl rfl (by kernel_rfl) (by decide) (fun K hK => ?_)
    refine value_ (v := .pointer (some ⟨w2.heap.size, 0, none⟩)) (w1 := w2.alloc (.cells #[.int .i64 0, .int .i64 0, .int .i64 0, .int .i64 0, .int .i64 0, .int .u64 0] 48)) (by rfl) rfl (by go_simp) ?_
    have hSa := hS2.below (below_alloc (Below.refl _ _) (.cells #[.int .i64 0, .int .i64 0, .int .i64 0, .int .i64 0, .int .i64 0, .int .u64 0] 48))
    refine hK.out _ _ ⟨(blk_cell (hSa).1 1).trans rfl, (blk_cell (hSa).1 2).trans rfl, (blk_cell (hSa).1 3).trans rfl, (blk_cell (hSa).1 4).trans rfl, (blk_cell (hSa).1 5).trans rfl, (blk_cell (hSa).1 6).trans rfl, (blk_cell (hSa).1 7).trans rfl⟩ (fun hHeld => ?_)
    clear hK K
    refine norm_ ?_ (hcont w2.heap.size _ ⟨hSa, hR2.alloc _, blk_new w2 _, Nat.ne_of_lt hS2.lt, Nat.ne_of_lt hS2.2.lt, hR2.size⟩)
    simp only [putAll, Act.put, List.setIfInBounds_toArray, List.set_cons_zero, List.set_cons_succ]
  · refine value_ (v := .pointer (some ⟨wd.heap.size, 0, none⟩)) (w1 := wd.alloc (.cells #[.int .i64 0, .int .i64 0, .int .i64 0, .int .i64 0, .int .i64 0, .int .u64 0] 48)) (by rfl) rfl (by go_simp) ?_
    have hSa := H.out.below (below_alloc (Below.refl _ _) (.cells #[.int .i64 0, .int .i64 0, .int .i64 0, .int .i64 0, .int .i64 0, .int .u64 0] 48))
    refine hK.out _ _ ⟨(blk_cell (hSa).1 1).trans rfl, (blk_cell (hSa).1 2).trans rfl, (blk_cell (hSa).1 3).trans rfl, (blk_cell (hSa).1 4).trans rfl, (blk_cell (hSa).1 5).trans rfl, (blk_cell (hSa).1 6).trans rfl, (blk_cell (hSa).1 7).trans rfl⟩ (fun hHeld => ?_)
    clear hK K
    refine norm_ (a' := ?_) ?_ ?_
    rotate_left
    · show Act.put _ (some 6) _ = _
      simp only [putAll, Act.put, List.setIfInBounds_toArray, List.set_cons_zero, List.set_cons_succ]
      rfl
    refine one_ (i := 9) (N := some 45) #[true, true, true, true, true, true, true, true, true, true, false, false, false, false, true, false, false, false] rfl rfl (by kernel_rfl) (by decide) (fun K hK => ?_)
    refine call_ 40 #[.agg #[.int .i64 m, .int .i64 p, .int .i64 t, .int .i64 sp, .int .i64 r, .int .u64 ch], .iface 70 (.map (some mb))] (by rfl) rfl (by go_simp) ?_
    refine (HGC.out _ (hSa).2).mono ?_
    rintro e w2 ⟨rfl, hm2, hf2⟩
    refine ⟨.tuple #[.int .i64 nn, .agg #[.int .i64 y0, .int .i64 y1, .int .i64 y2, .int .i64 y3, .int .i64 y4, .int .u64 y5], .int .i64 ee], rfl, ?_⟩
    have hS2 := ShAt.fr hSa hf2 hm2
    have hR2 := (HRW.out.alloc (.cells #[.int .i64 0, .int .i64 0, .int .i64 0, .int .i64 0, .int .i64 0, .int .u64 0] 48)).trans (frMap (ks := ks) hf2) (fun _ _ h => h)
    refine hK.out _ _ ⟨(blk_cell (hS2).1 1).trans rfl, (blk_cell (hS2).1 2).trans rfl, (blk_cell (hS2).1 3).trans rfl, (blk_cell (hS2).1 4).trans rfl, (blk_cell (hS2).1 5).trans rfl, (blk_cell (hS2).1 6).trans rfl, (blk_cell (hS2).1 7).trans rfl⟩ (fun hHeld => ?_)
    clear hK K
    refine norm_ (a' := ?_) ?_ ?_
    rotate_left
    · show Act.put _ (some 45) _ = _
      simp only [putAll, Act.put, List.setIfInBounds_toArray, List.set_cons_zero, List.set_cons_succ]
      rfl
    refine pure_ (i := 10) (N := some 35) (v := ?_) (a' := ?_) #[true, true, true, true, true, true, true, true, true, true, true, false, false, false, true, false, false, false] rfl rfl (by kernel_rfl) (fun _ _ _ h => h) (Or.inl ⟨by rfl, ?_⟩) ?_ ?_
    rotate_left
    · intro w'
      go_simp
      with_reducible rfl
    rotate_left
    · simp only [putAll, Act.put, List.setIfInBounds_toArray, List.set_cons_zero, List.set_cons_succ]
      rfl
    refine pure_ (i := 11) (N := some 46) (v := ?_) (a' := ?_) #[true, true, true, true, true, true, true, true, true, true, true, true, false, false, true, false, false, false] rfl rfl (by kernel_rfl) (fun _ _ _ h => h) (Or.inl ⟨by rfl, ?_⟩) ?_ ?_
    rotate_left
    · intro w'
      go_simp
      with_reducible rfl
    rotate_left
    · simp only [putAll, Act.put, List.setIfInBounds_toArray, List.set_cons_zero, List.set_cons_succ]
      rfl
    refine pure_ (i := 12) (N := some 47) (v := ?_) (a' := ?_) #[true, true, true, true, true, true, true, true, true, true, true, true, true, false, true, false, false, false] rfl rfl (by kernel_rfl) (fun _ _ _ h => h) (Or.inl ⟨by rfl, ?_⟩) ?_ ?_
    rotate_left
    · intro w'
      go_simp
      with_reducible rfl
    rotate_left
    · simp only [putAll, Act.put, List.setIfInBounds_toArray, List.set_cons_zero, List.set_cons_succ]
      rfl
    refine pure_ (i := 13) (N := some 48) (v := ?_) (a' := ?_) #[true, true, true, true, true, true, true, true, true, true, true, true, true, true, true, false, false, false] rfl rfl (by kernel_rfl) (fun _ _ _ h => h) (Or.inl ⟨by rfl, ?_⟩) ?_ ?_
    rotate_left
    · intro w'
      go_simp
      with_reducible rfl
    rotate_left
    · simp only [putAll, Act.put, List.setIfInBounds_toArray, List.set_cons_zero, List.set_cons_succ]
      rfl
    refine norm_ ?_ (hcont wd.heap.size _ ⟨hS2, hR2, hf2.blk (blk_new wd _) (Nat.ne_of_gt H.out.2.lt), Nat.ne_of_lt H.out.lt, Nat.ne_of_lt H.out.2.lt, HRW.out.size⟩)
    simp only [putAll, Act.put, List.setIfInBounds_toArray, List.set_cons_zero, List.set_cons_succ]
set_option maxHeartbeats 2000000 in
set_option maxRecDepth 100000 in
theorem shNew_errB0 (ks mb : Nat) (lim m p t sp r ch lf lg : Int) (f f' : Int → Option ByteArray) (nn y0 y1 y2 y3 y4 y5 ee : Int) (w : World) (h : ShAt ks mb w (⟨lim, ⟨m, p, t, sp, r, ch⟩, f, lg⟩ : Sh)) (hl : lg ≤ 4096) (hlf : nl lg = lf) (hd1 : 0 ≤ p) (hd2 : p ≤ 4096) (hd3 : 0 ≤ sp) (hd4 : sp ≤ 4096) (h0 : lg ≠ 0)  (htk : (mapShop mb).take f ⟨m, p, t, sp, r, ch⟩ = (f', nn, ⟨y0, y1, y2, y3, y4, y5⟩, ee)) (he : (ee != 0) = true) (hsp : sp = 0) (hlp : p < lim) (hb : (⟨lim, ⟨m, p, t, sp, r, ch⟩, f, lg⟩ : Sh).beg 1 = 0) :
    Calls Tryz.prog 25 #[.pointer (some ⟨ks, 0, none⟩)] w fun e w' => e = .returned (.tuple #[.int .i64 0, .int .i64 ee]) ∧ ShAt ks mb w' ⟨lim, ⟨m, p, t, sp, r, ch⟩, f', lf⟩ ∧ Fr (ShF ks mb) w w' := by
  have HBC := Aside0.mk (begin_at ks mb (n := 1) hl hlf hb)
  have H := Aside0.mk h
  have hgc := fun W hW => mtake_calls mb f ⟨m, p, t, sp, r, ch⟩ W hW hd1 hd3 hd4
  rw [htk] at hgc
  have HGC := Aside0.mk hgc
  clear hgc htk
  have t1 : (sp == 0) = true := by simp [hsp]
  have t2 : decide (lim ≤ p) = false := decide_eq_false (by omega)
  clear h hb hl hlf
  go_enter Tryz.func25, Tryz.ntmps25
  go_wp2_with fail
  refine (HBC.out w H.out).mono ?_
  rintro e w1 ⟨rfl, hs1, hf1⟩
  replace H := Aside0.mk hs1
  have HRW := Aside0.mk hf1
  clear hs1 hf1 HBC
  have a0 : w1.cell? ⟨ks, 0, none⟩ = some (.int .i64 lim) := (blk_cell H.out.1 0).trans rfl
  have a1 : w1.cell? ⟨ks, 1, none⟩ = some (.int .i64 m) := (blk_cell H.out.1 1).trans rfl
  have a2 : w1.cell? ⟨ks, 2, none⟩ = some (.int .i64 p) := (blk_cell H.out.1 2).trans rfl
  have a3 : w1.cell? ⟨ks, 3, none⟩ = some (.int .i64 t) := (blk_cell H.out.1 3).trans rfl
  have a4 : w1.cell? ⟨ks, 4, none⟩ = some (.int .i64 sp) := (blk_cell H.out.1 4).trans rfl
  have a5 : w1.cell? ⟨ks, 5, none⟩ = some (.int .i64 r) := (blk_cell H.out.1 5).trans rfl
  have a6 : w1.cell? ⟨ks, 6, none⟩ = some (.int .u64 ch) := (blk_cell H.out.1 6).trans rfl
  have a7 : w1.cell? ⟨ks, 7, none⟩ = some (.map (some mb)) := (blk_cell H.out.1 7).trans rfl
  have a8 : w1.cell? ⟨ks, 8, none⟩ = some (.int .i64 lf) := (blk_cell H.out.1 8).trans rfl
  go_wp2_with fail
  go_quiet (fail)
  clear a0 a1 a2 a3 a4 a5 a6 a7 a8
  replace H := Aside0.mk (H.out.below (pw_below_drewN (Below.refl _ _) nq))
  replace HRW := Aside0.mk (Fr.then_below HRW.out (pw_below_drewN (Below.refl _ _) nq))
  generalize w1.drewN nq = wq at H HRW ⊢
  have a0 : wq.cell? ⟨ks, 0, none⟩ = some (.int .i64 lim) := (blk_cell H.out.1 0).trans rfl
  have a1 : wq.cell? ⟨ks, 1, none⟩ = some (.int .i64 m) := (blk_cell H.out.1 1).trans rfl
  have a2 : wq.cell? ⟨ks, 2, none⟩ = some (.int .i64 p) := (blk_cell H.out.1 2).trans rfl
  have a3 : wq.cell? ⟨ks, 3, none⟩ = some (.int .i64 t) := (blk_cell H.out.1 3).trans rfl
  have a4 : wq.cell? ⟨ks, 4, none⟩ = some (.int .i64 sp) := (blk_cell H.out.1 4).trans rfl
  have a5 : wq.cell? ⟨ks, 5, none⟩ = some (.int .i64 r) := (blk_cell H.out.1 5).trans rfl
  have a6 : wq.cell? ⟨ks, 6, none⟩ = some (.int .u64 ch) := (blk_cell H.out.1 6).trans rfl
  have a7 : wq.cell? ⟨ks, 7, none⟩ = some (.map (some mb)) := (blk_cell H.out.1 7).trans rfl
  have a8 : wq.cell? ⟨ks, 8, none⟩ = some (.int .i64 lf) := (blk_cell H.out.1 8).trans rfl
  go_wp2_with fail
  clear a0 a1 a2 a3 a4 a5 a6 a7 a8
  refine start_ (n := 18) (S := fun w' => w'.cell? ⟨ks, 1, none⟩ = some (.int .i64 m) ∧ w'.cell? ⟨ks, 2, none⟩ = some (.int .i64 p) ∧ w'.cell? ⟨ks, 3, none⟩ = some (.int .i64 t) ∧ w'.cell? ⟨ks, 4, none⟩ = some (.int .i64 sp) ∧ w'.cell? ⟨ks, 5, none⟩ = some (.int .i64 r) ∧ w'.cell? ⟨ks, 6, none⟩ = some (.int .u64 ch) ∧ w'.cell? ⟨ks, 7, none⟩ = some (.map (some mb))) (ds := [16]) #[false, false, false, false, false, false, false, false, false, false, false, false, false, false, false, false, false, false] (by kernel_rfl) rfl rfl ⟨(blk_cell (H.out.below (Below.refl _ _).drew).1 1).trans rfl, (blk_cell (H.out.below (Below.refl _ _).drew).1 2).trans rfl, (blk_cell (H.out.below (Below.refl _ _).drew).1 3).trans rfl, (blk_cell (H.out.below (Below.refl _ _).drew).1 4).trans rfl, (blk_cell (H.out.below (Below.refl _ _).drew).1 5).trans rfl, (blk_cell (H.out.below (Below.refl _ _).drew).1 6).trans rfl, (blk_cell (H.out.below (Below.refl _ _).drew).1 7).trans rfl⟩ (fun hHeld => ?_)
  replace H := Aside0.mk (H.out.below (Below.refl _ _).drew)
  replace HRW := Aside0.mk (Fr.then_below HRW.out (Below.refl _ _).drew)
  generalize wq.drew = wd at H HRW hHeld ⊢
  refine pure_ (i := 0) (N := some 36) (v := ?_) (a' := ?_) #[true, false, false, false, false, false, false, false, false, false, false, false, false, false, false, false, false, false] rfl rfl (by kernel_rfl) (fun _ _ _ h => h) (Or.inl ⟨by rfl, ?_⟩) ?_ ?_
  rotate_left
  · intro w'
    go_simp
    with_reducible rfl
  rotate_left
  · simp only [putAll, Act.put, List.setIfInBounds_toArray, List.set_cons_zero, List.set_cons_succ]
    rfl
  refine pure_ (i := 1) (N := some 37) (v := ?_) (a' := ?_) #[true, true, false, false, false, false, false, false, false, false, false, false, false, false, false, false, false, false] rfl rfl (by kernel_rfl) (fun _ _ _ h => h) (Or.inl ⟨by rfl, ?_⟩) ?_ ?_
  rotate_left
  · intro w'
    go_simp
    with_reducible rfl
  rotate_left
  · simp only [putAll, Act.put, List.setIfInBounds_toArray, List.set_cons_zero, List.set_cons_succ]
    rfl
  refine pure_ (i := 2) (N := some 38) (v := ?_) (a' := ?_) #[true, true, true, false, false, false, false, false, false, false, false, false, false, false, false, false, false, false] rfl rfl (by kernel_rfl) (fun _ _ _ h => h) (Or.inl ⟨by rfl, ?_⟩) ?_ ?_
  rotate_left
  · intro w'
    go_simp
    with_reducible rfl
  rotate_left
  · simp only [putAll, Act.put, List.setIfInBounds_toArray, List.set_cons_zero, List.set_cons_succ]
    rfl
  refine pure_ (i := 4) (N := some 40) (v := ?_) (a' := ?_) #[true, true, true, false, true, false, false, false, false, false, false, false, false, false, false, false, false, false] rfl rfl (by kernel_rfl) (fun _ _ _ h => h) (Or.inl ⟨by rfl, ?_⟩) ?_ ?_
  rotate_left
  · intro w'
    go_simp
    with_reducible rfl
  rotate_left
  · simp only [putAll, Act.put, List.setIfInBounds_toArray, List.set_cons_zero, List.set_cons_succ]
    rfl
  refine pure_ (i := 5) (N := some 41) (v := ?_) (a' := ?_) #[true, true, true, false, true, true, false, false, false, false, false, false, false, false, false, false, false, false] rfl rfl (by kernel_rfl) (fun _ _ _ h => h) (Or.inl ⟨by rfl, ?_⟩) ?_ ?_
  rotate_left
  · intro w'
    go_simp
    with_reducible rfl
  rotate_left
  · simp only [putAll, Act.put, List.setIfInBounds_toArray, List.set_cons_zero, List.set_cons_succ]
    rfl
  refine pure_ (i := 6) (N := some 42) (v := ?_) (a' := ?_) #[true, true, true, false, true, true, true, false, false, false, false, false, false, false, false, false, false, false] rfl rfl (by kernel_rfl) (fun _ _ _ h => h) (Or.inl ⟨by rfl, ?_⟩) ?_ ?_
  rotate_left
  · intro w'
    go_simp
    with_reducible rfl
  rotate_left
  · simp only [putAll, Act.put, List.setIfInBounds_toArray, List.set_cons_zero, List.set_cons_succ]
    rfl
  refine take_ (i := 3) (N := some 39) (v := ?_) (a' := ?_) #[true, true, true, true, true, true, true, false, false, false, false, false, false, false, false, false, false, false] rfl rfl (by kernel_rfl) (fun _ _ _ h => h) (Or.inl ⟨by rfl, ?_⟩) hHeld ?_ ?_
  rotate_left
  · rintro w' ⟨s1, s2, s3, s4, s5, s6, s7⟩
    go_simp
    with_reducible rfl
  rotate_left
  · simp only [putAll, Act.put, List.setIfInBounds_toArray, List.set_cons_zero, List.set_cons_succ]
    rfl
  refine take_ (i := 7) (N := some 43) (v := ?_) (a' := ?_) #[true, true, true, true, true, true, true, true, false, false, false, false, false, false, false, false, false, false] rfl rfl (by kernel_rfl) (fun _ _ _ h => h) (Or.inl ⟨by rfl, ?_⟩) hHeld ?_ ?_
  rotate_left
  · rintro w' ⟨s1, s2, s3, s4, s5, s6, s7⟩
    go_simp
    with_reducible rfl
  rotate_left
  · simp only [putAll, Act.put, List.setIfInBounds_toArray, List.set_cons_zero, List.set_cons_succ]
    rfl
  refine pure_ (i := 8) (N := some 44) (v := ?_) (a' := ?_) #[true, true, true, true, true, true, true, true, true, false, false, false, false, false, false, false, false, false] rfl rfl (by kernel_rfl) (fun _ _ _ h => h) (Or.inl ⟨by rfl, ?_⟩) ?_ ?_
  rotate_left
  · intro w'
    go_simp
    with_reducible rfl
  rotate_left
  · simp only [putAll, Act.put, List.setIfInBounds_toArray, List.set_cons_zero, List.set_cons_succ]
    rfl
  refine join_ 3 #[true, true, true, true, true, true, true, true, true, true, true, true, true, true, true, false, false, false] (fun q : Nat => [(45, .tuple #[.int .i64 nn, .agg #[.int .i64 y0, .int .i64 y1, .int .i64 y2, .int .i64 y3, .int .i64 y4, .int .u64 y5], .int .i64 ee]), (35, .tuple #[.int .i64 nn, .agg #[.int .i64 y0, .int .i64 y1, .int .i64 y2, .int .i64 y3, .int .i64 y4, .int .u64 y5], .int .i64 ee]), (46, .int .i64 nn), (47, .agg #[.int .i64 y0, .int .i64 y1, .int .i64 y2, .int .i64 y3, .int .i64 y4, .int .u64 y5]), (48, .int .i64 ee), (6, .pointer (some ⟨q, 0, none⟩))]) (fun q w' => ShAt ks mb w' ⟨lim, ⟨m, p, t, sp, r, ch⟩, f', lf⟩ ∧ Fr (ShF ks mb) w w' ∧ w'.heap[q]? = some (.cells #[.int .i64 0, .int .i64 0, .int .i64 0, .int .i64 0, .int .i64 0, .int .u64 0] 48 (0, 0)) ∧ ks ≠ q ∧ mb ≠ q ∧ w.heap.size ≤ q) ?_ (fun hcont => ?_)
  · intro q w3 hf
    obtain ⟨hS3, hR3, hQ3, hksq, hmbq, hqB⟩ := hf
    clear hHeld H HRW
    have qf0 : w3.frozen? ⟨q, 0, none⟩ = false := blk_frozen hQ3 0
    have qf1 : w3.frozen? ⟨q, 1, none⟩ = false := blk_frozen hQ3 1
    have qf2 : w3.frozen? ⟨q, 2, none⟩ = false := blk_frozen hQ3 2
    have qf3 : w3.frozen? ⟨q, 3, none⟩ = false := blk_frozen hQ3 3
    have qf4 : w3.frozen? ⟨q, 4, none⟩ = false := blk_frozen hQ3 4
    have qf5 : w3.frozen? ⟨q, 5, none⟩ = false := blk_frozen hQ3 5
    have qc0 : w3.cell? ⟨q, 0, none⟩ = some (.int .i64 0) := (blk_cell hQ3 0).trans rfl
    have qc1 : w3.cell? ⟨q, 1, none⟩ = some (.int .i64 0) := (blk_cell hQ3 1).trans rfl
    have qc2 : w3.cell? ⟨q, 2, none⟩ = some (.int .i64 0) := (blk_cell hQ3 2).trans rfl
    have qc3 : w3.cell? ⟨q, 3, none⟩ = some (.int .i64 0) := (blk_cell hQ3 3).trans rfl
    have qc4 : w3.cell? ⟨q, 4, none⟩ = some (.int .i64 0) := (blk_cell hQ3 4).trans rfl
    have qc5 : w3.cell? ⟨q, 5, none⟩ = some (.int .u64 0) := (blk_cell hQ3 5).trans rfl
    refine norm_ (a' := ?_) ?_ ?_
    rotate_left
    · simp only [putAll, Act.put, List.setIfInBounds_toArray, List.set_cons_zero, List.set_cons_succ]
      rfl
    refine pure_ (i := 15) (N := some 5) (v := ?_) (a' := ?_) #[true, true, true, true, true, true, true, true, true, true, true, true, true, true, true, true, false, false] rfl rfl (by kernel_rfl) (fun _ _ _ h => h) (Or.inl ⟨by rfl, ?_⟩) ?_ ?_
    rotate_left
    · intro w'
      go_simp
      with_reducible rfl
    rotate_left
    · simp only [putAll, Act.put, List.setIfInBounds_toArray, List.set_cons_zero, List.set_cons_succ]
      rfl
    refine last_ (i := 16) (N := none) #[true, true, true, true, true, true, true, true, true, true, true, true, true, true, true, true, true, false] rfl rfl (by kernel_rfl) (by decide) (fun K hK => ?_)
    refine skip_ (w1 := ((((((w3.setCell ⟨q, 0, none⟩ (.int .i64 y0)).setCell ⟨q, 1, none⟩ (.int .i64 y1)).setCell ⟨q, 2, none⟩ (.int .i64 y2)).setCell ⟨q, 3, none⟩ (.int .i64 y3)).setCell ⟨q, 4, none⟩ (.int .i64 y4)).setCell ⟨q, 5, none⟩ (.int .u64 y5))) (by rfl) rfl (by go_simp) ?_
    refine hK.out _ _ ?_
    clear hK K
    clear qf0 qc0 qf1 qc1 qf2 qc2 qf3 qc3 qf4 qc4 qf5 qc5
    have HS4 := Aside0.mk (shFar6 hS3 hksq hmbq (.int .i64 y0) (.int .i64 y1) (.int .i64 y2) (.int .i64 y3) (.int .i64 y4) (.int .u64 y5))
    have HR4 := Aside0.mk (shFrQ hR3 hqB (.int .i64 y0) (.int .i64 y1) (.int .i64 y2) (.int .i64 y3) (.int .i64 y4) (.int .u64 y5))
    have HQ4 := Aside0.mk (put6 hQ3 (.int .i64 y0) (.int .i64 y1) (.int .i64 y2) (.int .i64 y3) (.int .i64 y4) (.int .u64 y5))
    generalize ((((((w3.setCell ⟨q, 0, none⟩ (.int .i64 y0)).setCell ⟨q, 1, none⟩ (.int .i64 y1)).setCell ⟨q, 2, none⟩ (.int .i64 y2)).setCell ⟨q, 3, none⟩ (.int .i64 y3)).setCell ⟨q, 4, none⟩ (.int .i64 y4)).setCell ⟨q, 5, none⟩ (.int .u64 y5)) = w4 at HS4 HR4 HQ4 ⊢
    have HKQ := Aside0.mk hksq
    clear hS3 hR3 hQ3 hqB hksq hmbq
    refine pure_ (i := 17) (N := some 7) (v := ?_) (a' := ?_) #[true, true, true, true, true, true, true, true, true, true, true, true, true, true, true, true, true, true] rfl rfl (by kernel_rfl) (fun _ _ _ h => h) (Or.inl ⟨by rfl, ?_⟩) ?_ ?_
    rotate_left
    · intro w'
      go_simp
      with_reducible rfl
    rotate_left
    · simp only [putAll, Act.put, List.setIfInBounds_toArray, List.set_cons_zero, List.set_cons_succ]
      rfl
    refine done_ (by kernel_rfl) ?_
    go_wp2
    go_ret2
    exact ⟨rfl, HS4.out, HR4.out⟩
  refine two_ (i := 9) (j := 14) (Ni := some 45) (Nj := some 6) #[true, true, true, true, true, true, true, true, true, true, false, false, false, false, false, false, false, false] #[true, true, true, true, true, true, true, true, true, false, false, false, false, false, true, false, false, false] rfl rfl rfl rfl (by kernel_rfl) (by decide) (by decide) (fun K hK => ?_) (fun K hK => ?_)
  · refine call_ 40 #[.agg #[.int .i64 m, .int .i64 p, .int .i64 t, .int .i64 sp, .int .i64 r, .int .u64 ch], .iface 70 (.map (some mb))] (by rfl) rfl (by go_simp) ?_
    refine (HGC.out wd (H.out).2).mono ?_
    rintro e w2 ⟨rfl, hm2, hf2⟩
    refine ⟨.tuple #[.int .i64 nn, .agg #[.int .i64 y0, .int .i64 y1, .int .i64 y2, .int .i64 y3, .int .i64 y4, .int .u64 y5], .int .i64 ee], rfl, ?_⟩
    have hS2 := ShAt.fr H.out hf2 hm2
    have hR2 := HRW.out.trans (frMap (ks := ks) hf2) (fun _ _ h => h)
    refine hK.out _ _ ⟨(blk_cell (hS2).1 1).trans rfl, (blk_cell (hS2).1 2).trans rfl, (blk_cell (hS2).1 3).trans rfl, (blk_cell (hS2).1 4).trans rfl, (blk_cell (hS2).1 5).trans rfl, (blk_cell (hS2).1 6).trans rfl, (blk_cell (hS2).1 7).trans rfl⟩ (fun hHeld => ?_)
    clear hK K
    refine norm_ (a' := ?_) ?_ ?_
    rotate_left
    · show Act.put _ (some 45) _ = _
      simp only [putAll, Act.put, List.setIfInBounds_toArray, List.set_cons_zero, List.set_cons_succ]
      rfl
    refine pure_ (i := 10) (N := some 35) (v := ?_) (a' := ?_) #[true, true, true, true, true, true, true, true, true, true, true, false, false, false, false, false, false, false] rfl rfl (by kernel_rfl) (fun _ _ _ h => h) (Or.inl ⟨by rfl, ?_⟩) ?_ ?_
    rotate_left
    · intro w'
      go_simp
      with_reducible rfl
    rotate_left
    · simp only [putAll, Act.put, List.setIfInBounds_toArray, List.set_cons_zero, List.set_cons_succ]
      rfl
    refine pure_ (i := 11) (N := some 46) (v := ?_) (a' := ?_) #[true, true, true, true, true, true, true, true, true, true, true, true, false, false, false, false, false, false] rfl rfl (by kernel_rfl) (fun _ _ _ h => h) (Or.inl ⟨by rfl, ?_⟩) ?_ ?_
    rotate_left
    · intro w'
      go_simp
      with_reducible rfl
    rotate_left
    · simp only [putAll, Act.put, List.setIfInBounds_toArray, List.set_cons_zero, List.set_cons_succ]
      rfl
    refine pure_ (i := 12) (N := some 47) (v := ?_) (a' := ?_) #[true, true, true, true, true, true, true, true, true, true, true, true, true, false, false, false, false, false] rfl rfl (by kernel_rfl) (fun _ _ _ h => h) (Or.inl ⟨by rfl, ?_⟩) ?_ ?_
    rotate_left
    · intro w'
      go_simp
      with_reducible rfl
    rotate_left
    · simp only [putAll, Act.put, List.setIfInBounds_toArray, List.set_cons_zero, List.set_cons_succ]
      rfl
    refine pure_ (i := 13) (N := some 48) (v := ?_) (a' := ?_) #[true, true, true, true, true, true, true, true, true, true, true, true, true, true, false, false, false, false] rfl rfl (by kernel_rfl) (fun _ _ _ h => h) (Or.inl ⟨by rfl, ?_⟩) ?_ ?_
    rotate_left
    · intro w'
      go_simp
      with_reducible rfl
    rotate_left
    · simp only [putAll, Act.put, List.setIfInBounds_toArray, List.set_cons_zero, List.set_cons_succ]
      rfl
    refine one_ (i := 14) (N := some 6) #[true, true, true, true, true, true, true, true, true, true, true, true, true, true, true, false, false, false] rfl rfl (by kernel_rfl) (by decide) (fun K hK => ?_)
    refine value_ (v := .pointer (some ⟨w2.heap.size, 0, none⟩)) (w1 := w2.alloc (.cells #[.int .i64 0, .int .i64 0, .int .i64 0, .int .i64 0, .int .i64 0, .int .u64 0] 48)) (by rfl) rfl (by go_simp) ?_
    have hSa := hS2.below (below_alloc (Below.refl _ _) (.cells #[.int .i64 0, .int .i64 0, .int .i64 0, .int .i64 0, .int .i64 0, .int .u64 0] 48))
    refine hK.out _ _ ⟨(blk_cell (hSa).1 1).trans rfl, (blk_cell (hSa).1 2).trans rfl, (blk_cell (hSa).1 3).trans rfl, (blk_cell (hSa).1 4).trans rfl, (blk_cell (hSa).1 5).trans rfl, (blk_cell (hSa).1 6).trans rfl, (blk_cell (hSa).1 7).trans rfl⟩ (fun hHeld => ?_)
    clear hK K
    refine norm_ ?_ (hcont w2.heap.size _ ⟨hSa, hR2.alloc _, blk_new w2 _, Nat.ne_of_lt hS2.lt, Nat.ne_of_lt hS2.2.lt, hR2.size⟩)
    simp only [putAll, Act.put, List.setIfInBounds_toArray, List.set_cons_zero, List.set_cons_succ]
  · refine value_ (v := .pointer (some ⟨wd.heap.size, 0, none⟩)) (w1 := wd.alloc (.cells #[.int .i64 0, .int .i64 0, .int .i64 0, .int .i64 0, .int .i64 0, .int .u64 0] 48)) (by rfl) rfl (by go_simp) ?_
    have hSa := H.out.below (below_alloc (Below.refl _ _) (.cells #[.int .i64 0, .int .i64 0, .int .i64 0, .int .i64 0, .int .i64 0, .int .u64 0] 48))
    refine hK.out _ _ ⟨(blk_cell (hSa).1 1).trans rfl, (blk_cell (hSa).1 2).trans rfl, (blk_cell (hSa).1 3).trans rfl, (blk_cell (hSa).1 4).trans rfl, (blk_cell (hSa).1 5).trans rfl, (blk_cell (hSa).1 6).trans rfl, (blk_cell (hSa).1 7).trans rfl⟩ (fun hHeld => ?_)
    clear hK K
    refine norm_ (a' := ?_) ?_ ?_
    rotate_left
    · show Act.put _ (some 6) _ = _
      simp only [putAll, Act.put, List.setIfInBounds_toArray, List.set_cons_zero, List.set_cons_succ]
      rfl
    refine one_ (i := 9) (N := some 45) #[true, true, true, true, true, true, true, true, true, true, false, false, false, false, true, false, false, false] rfl rfl (by kernel_rfl) (by decide) (fun K hK => ?_)
    refine call_ 40 #[.agg #[.int .i64 m, .int .i64 p, .int .i64 t, .int .i64 sp, .int .i64 r, .int .u64 ch], .iface 70 (.map (some mb))] (by rfl) rfl (by go_simp) ?_
    refine (HGC.out _ (hSa).2).mono ?_
    rintro e w2 ⟨rfl, hm2, hf2⟩
    refine ⟨.tuple #[.int .i64 nn, .agg #[.int .i64 y0, .int .i64 y1, .int .i64 y2, .int .i64 y3, .int .i64 y4, .int .u64 y5], .int .i64 ee], rfl, ?_⟩
    have hS2 := ShAt.fr hSa hf2 hm2
    have hR2 := (HRW.out.alloc (.cells #[.int .i64 0, .int .i64 0, .int .i64 0, .int .i64 0, .int .i64 0, .int .u64 0] 48)).trans (frMap (ks := ks) hf2) (fun _ _ h => h)
    refine hK.out _ _ ⟨(blk_cell (hS2).1 1).trans rfl, (blk_cell (hS2).1 2).trans rfl, (blk_cell (hS2).1 3).trans rfl, (blk_cell (hS2).1 4).trans rfl, (blk_cell (hS2).1 5).trans rfl, (blk_cell (hS2).1 6).trans rfl, (blk_cell (hS2).1 7).trans rfl⟩ (fun hHeld => ?_)
    clear hK K
    refine norm_ (a' := ?_) ?_ ?_
    rotate_left
    · show Act.put _ (some 45) _ = _
      simp only [putAll, Act.put, List.setIfInBounds_toArray, List.set_cons_zero, List.set_cons_succ]
      rfl
    refine pure_ (i := 10) (N := some 35) (v := ?_) (a' := ?_) #[true, true, true, true, true, true, true, true, true, true, true, false, false, false, true, false, false, false] rfl rfl (by kernel_rfl) (fun _ _ _ h => h) (Or.inl ⟨by rfl, ?_⟩) ?_ ?_
    rotate_left
    · intro w'
      go_simp
      with_reducible rfl
    rotate_left
    · simp only [putAll, Act.put, List.setIfInBounds_toArray, List.set_cons_zero, List.set_cons_succ]
      rfl
    refine pure_ (i := 11) (N := some 46) (v := ?_) (a' := ?_) #[true, true, true, true, true, true, true, true, true, true, true, true, false, false, true, false, false, false] rfl rfl (by kernel_rfl) (fun _ _ _ h => h) (Or.inl ⟨by rfl, ?_⟩) ?_ ?_
    rotate_left
    · intro w'
      go_simp
      with_reducible rfl
    rotate_left
    · simp only [putAll, Act.put, List.setIfInBounds_toArray, List.set_cons_zero, List.set_cons_succ]
      rfl
    refine pure_ (i := 12) (N := some 47) (v := ?_) (a' := ?_) #[true, true, true, true, true, true, true, true, true, true, true, true, true, false, true, false, false, false] rfl rfl (by kernel_rfl) (fun _ _ _ h => h) (Or.inl ⟨by rfl, ?_⟩) ?_ ?_
    rotate_left
    · intro w'
      go_simp
      with_reducible rfl
    rotate_left
    · simp only [putAll, Act.put, List.setIfInBounds_toArray, List.set_cons_zero, List.set_cons_succ]
      rfl
    refine pure_ (i := 13) (N := some 48) (v := ?_) (a' := ?_) #[true, true, true, true, true, true, true, true, true, true, true, true, true, true, true, false, false, false] rfl rfl (by kernel_rfl) (fun _ _ _ h => h) (Or.inl ⟨by rfl, ?_⟩) ?_ ?_
    rotate_left
    · intro w'
      go_simp
      with_reducible rfl
    rotate_left
    · simp only [putAll, Act.put, List.setIfInBounds_toArray, List.set_cons_zero, List.set_cons_succ]
      rfl
    refine norm_ ?_ (hcont wd.heap.size _ ⟨hS2, hR2, hf2.blk (blk_new wd _) (Nat.ne_of_gt H.out.2.lt), Nat.ne_of_lt H.out.lt, Nat.ne_of_lt H.out.2.lt, HRW.out.size⟩)
    simp only [putAll, Act.put, List.setIfInBounds_toArray, List.set_cons_zero, List.set_cons_succ]
set_option maxHeartbeats 2000000 in
set_option maxRecDepth 100000 in
theorem shNew_room21 (ks mb : Nat) (lim m p t sp r ch lf lg : Int) (f f' : Int → Option ByteArray) (nn y0 y1 y2 y3 y4 y5 ee : Int) (w : World) (h : ShAt ks mb w (⟨lim, ⟨m, p, t, sp, r, ch⟩, f, lg⟩ : Sh)) (hl : lg ≤ 4096) (hlf : nl lg = lf) (hd1 : 0 ≤ p) (hd2 : p ≤ 4096) (hd3 : 0 ≤ sp) (hd4 : sp ≤ 4096) (h0 : lg ≠ 0) (hsp : sp = 0) (hlp : lim ≤ p) (hb : (⟨lim, ⟨m, p, t, sp, r, ch⟩, f, lg⟩ : Sh).beg 1 = 21) :
    Calls Tryz.prog 25 #[.pointer (some ⟨ks, 0, none⟩)] w fun e w' => e = .returned (.tuple #[.int .i64 0, .int .i64 22]) ∧ ShAt ks mb w' (⟨lim, ⟨m, p, t, sp, r, ch⟩, f, lf⟩ : Sh) ∧ Fr (ShF ks mb) w w' := by
  have HBC := Aside0.mk (begin_at ks mb (n := 1) hl hlf hb)
  have H := Aside0.mk h
  have t1 : (sp == 0) = true := by simp [hsp]
  have t2 : decide (lim ≤ p) = true := decide_eq_true hlp
  clear h hb hl hlf
  go_enter Tryz.func25, Tryz.ntmps25
  go_wp2_with fail
  refine (HBC.out w H.out).mono ?_
  rintro e w1 ⟨rfl, hs1, hf1⟩
  replace H := Aside0.mk hs1
  have HRW := Aside0.mk hf1
  clear hs1 hf1 HBC
  have a0 : w1.cell? ⟨ks, 0, none⟩ = some (.int .i64 lim) := (blk_cell H.out.1 0).trans rfl
  have a1 : w1.cell? ⟨ks, 1, none⟩ = some (.int .i64 m) := (blk_cell H.out.1 1).trans rfl
  have a2 : w1.cell? ⟨ks, 2, none⟩ = some (.int .i64 p) := (blk_cell H.out.1 2).trans rfl
  have a3 : w1.cell? ⟨ks, 3, none⟩ = some (.int .i64 t) := (blk_cell H.out.1 3).trans rfl
  have a4 : w1.cell? ⟨ks, 4, none⟩ = some (.int .i64 sp) := (blk_cell H.out.1 4).trans rfl
  have a5 : w1.cell? ⟨ks, 5, none⟩ = some (.int .i64 r) := (blk_cell H.out.1 5).trans rfl
  have a6 : w1.cell? ⟨ks, 6, none⟩ = some (.int .u64 ch) := (blk_cell H.out.1 6).trans rfl
  have a7 : w1.cell? ⟨ks, 7, none⟩ = some (.map (some mb)) := (blk_cell H.out.1 7).trans rfl
  have a8 : w1.cell? ⟨ks, 8, none⟩ = some (.int .i64 lf) := (blk_cell H.out.1 8).trans rfl
  go_wp2_with fail
  go_quiet (fail)
  go_wp2
  go_ret2
  exact ⟨rfl, H.out.below (pw_below_drewN (Below.refl _ _) nq), Fr.then_below HRW.out (pw_below_drewN (Below.refl _ _) nq)⟩
set_option maxHeartbeats 2000000 in
set_option maxRecDepth 100000 in
theorem shNew_errA21 (ks mb : Nat) (lim m p t sp r ch lf lg : Int) (f f' : Int → Option ByteArray) (nn y0 y1 y2 y3 y4 y5 ee : Int) (w : World) (h : ShAt ks mb w (⟨lim, ⟨m, p, t, sp, r, ch⟩, f, lg⟩ : Sh)) (hl : lg ≤ 4096) (hlf : nl lg = lf) (hd1 : 0 ≤ p) (hd2 : p ≤ 4096) (hd3 : 0 ≤ sp) (hd4 : sp ≤ 4096) (h0 : lg ≠ 0)  (htk : (mapShop mb).take f ⟨m, p, t, sp, r, ch⟩ = (f', nn, ⟨y0, y1, y2, y3, y4, y5⟩, ee)) (he : (ee != 0) = true) (hsp : sp ≠ 0) (hb : (⟨lim, ⟨m, p, t, sp, r, ch⟩, f, lg⟩ : Sh).beg 1 = 21) :
    Calls Tryz.prog 25 #[.pointer (some ⟨ks, 0, none⟩)] w fun e w' => e = .returned (.tuple #[.int .i64 0, .int .i64 ee]) ∧ ShAt ks mb w' ⟨lim, ⟨m, p, t, sp, r, ch⟩, f', lf⟩ ∧ Fr (ShF ks mb) w w' := by
  have HBC := Aside0.mk (begin_at ks mb (n := 1) hl hlf hb)
  have H := Aside0.mk h
  have hgc := fun W hW => mtake_calls mb f ⟨m, p, t, sp, r, ch⟩ W hW hd1 hd3 hd4
  rw [htk] at hgc
  have HGC := Aside0.mk hgc
  clear hgc htk
  have t1 : (sp == 0) = false := by simp [hsp]
  clear h hb hl hlf
  go_enter Tryz.func25, Tryz.ntmps25
  go_wp2_with fail
  refine (HBC.out w H.out).mono ?_
  rintro e w1 ⟨rfl, hs1, hf1⟩
  replace H := Aside0.mk hs1
  have HRW := Aside0.mk hf1
  clear hs1 hf1 HBC
  have a0 : w1.cell? ⟨ks, 0, none⟩ = some (.int .i64 lim) := (blk_cell H.out.1 0).trans rfl
  have a1 : w1.cell? ⟨ks, 1, none⟩ = some (.int .i64 m) := (blk_cell H.out.1 1).trans rfl
  have a2 : w1.cell? ⟨ks, 2, none⟩ = some (.int .i64 p) := (blk_cell H.out.1 2).trans rfl
  have a3 : w1.cell? ⟨ks, 3, none⟩ = some (.int .i64 t) := (blk_cell H.out.1 3).trans rfl
  have a4 : w1.cell? ⟨ks, 4, none⟩ = some (.int .i64 sp) := (blk_cell H.out.1 4).trans rfl
  have a5 : w1.cell? ⟨ks, 5, none⟩ = some (.int .i64 r) := (blk_cell H.out.1 5).trans rfl
  have a6 : w1.cell? ⟨ks, 6, none⟩ = some (.int .u64 ch) := (blk_cell H.out.1 6).trans rfl
  have a7 : w1.cell? ⟨ks, 7, none⟩ = some (.map (some mb)) := (blk_cell H.out.1 7).trans rfl
  have a8 : w1.cell? ⟨ks, 8, none⟩ = some (.int .i64 lf) := (blk_cell H.out.1 8).trans rfl
  go_wp2_with fail
  go_quiet (fail)
  clear a0 a1 a2 a3 a4 a5 a6 a7 a8
  replace H := Aside0.mk (H.out.below (pw_below_drewN (Below.refl _ _) nq))
  replace HRW := Aside0.mk (Fr.then_below HRW.out (pw_below_drewN (Below.refl _ _) nq))
  generalize w1.drewN nq = wq at H HRW ⊢
  have a0 : wq.cell? ⟨ks, 0, none⟩ = some (.int .i64 lim) := (blk_cell H.out.1 0).trans rfl
  have a1 : wq.cell? ⟨ks, 1, none⟩ = some (.int .i64 m) := (blk_cell H.out.1 1).trans rfl
  have a2 : wq.cell? ⟨ks, 2, none⟩ = some (.int .i64 p) := (blk_cell H.out.1 2).trans rfl
  have a3 : wq.cell? ⟨ks, 3, none⟩ = some (.int .i64 t) := (blk_cell H.out.1 3).trans rfl
  have a4 : wq.cell? ⟨ks, 4, none⟩ = some (.int .i64 sp) := (blk_cell H.out.1 4).trans rfl
  have a5 : wq.cell? ⟨ks, 5, none⟩ = some (.int .i64 r) := (blk_cell H.out.1 5).trans rfl
  have a6 : wq.cell? ⟨ks, 6, none⟩ = some (.int .u64 ch) := (blk_cell H.out.1 6).trans rfl
  have a7 : wq.cell? ⟨ks, 7, none⟩ = some (.map (some mb)) := (blk_cell H.out.1 7).trans rfl
  have a8 : wq.cell? ⟨ks, 8, none⟩ = some (.int .i64 lf) := (blk_cell H.out.1 8).trans rfl
  go_wp2_with fail
  clear a0 a1 a2 a3 a4 a5 a6 a7 a8
  refine start_ (n := 18) (S := fun w' => w'.cell? ⟨ks, 1, none⟩ = some (.int .i64 m) ∧ w'.cell? ⟨ks, 2, none⟩ = some (.int .i64 p) ∧ w'.cell? ⟨ks, 3, none⟩ = some (.int .i64 t) ∧ w'.cell? ⟨ks, 4, none⟩ = some (.int .i64 sp) ∧ w'.cell? ⟨ks, 5, none⟩ = some (.int .i64 r) ∧ w'.cell? ⟨ks, 6, none⟩ = some (.int .u64 ch) ∧ w'.cell? ⟨ks, 7, none⟩ = some (.map (some mb))) (ds := [16]) #[false, false, false, false, false, false, false, false, false, false, false, false, false, false, false, false, false, false] (by kernel_rfl) rfl rfl ⟨(blk_cell (H.out.below (Below.refl _ _).drew).1 1).trans rfl, (blk_cell (H.out.below (Below.refl _ _).drew).1 2).trans rfl, (blk_cell (H.out.below (Below.refl _ _).drew).1 3).trans rfl, (blk_cell (H.out.below (Below.refl _ _).drew).1 4).trans rfl, (blk_cell (H.out.below (Below.refl _ _).drew).1 5).trans rfl, (blk_cell (H.out.below (Below.refl _ _).drew).1 6).trans rfl, (blk_cell (H.out.below (Below.refl _ _).drew).1 7).trans rfl⟩ (fun hHeld => ?_)
  replace H := Aside0.mk (H.out.below (Below.refl _ _).drew)
  replace HRW := Aside0.mk (Fr.then_below HRW.out (Below.refl _ _).drew)
  generalize wq.drew = wd at H HRW hHeld ⊢
  refine pure_ (i := 0) (N := some 36) (v := ?_) (a' := ?_) #[true, false, false, false, false, false, false, false, false, false, false, false, false, false, false, false, false, false] rfl rfl (by kernel_rfl) (fun _ _ _ h => h) (Or.inl ⟨by rfl, ?_⟩) ?_ ?_
  rotate_left
  · intro w'
    go_simp
    with_reducible rfl
  rotate_left
  · simp only [putAll, Act.put, List.setIfInBounds_toArray, List.set_cons_zero, List.set_cons_succ]
    rfl
  refine pure_ (i := 1) (N := some 37) (v := ?_) (a' := ?_) #[true, true, false, false, false, false, false, false, false, false, false, false, false, false, false, false, false, false] rfl rfl (by kernel_rfl) (fun _ _ _ h => h) (Or.inl ⟨by rfl, ?_⟩) ?_ ?_
  rotate_left
  · intro w'
    go_simp
    with_reducible rfl
  rotate_left
  · simp only [putAll, Act.put, List.setIfInBounds_toArray, List.set_cons_zero, List.set_cons_succ]
    rfl
  refine pure_ (i := 2) (N := some 38) (v := ?_) (a' := ?_) #[true, true, true, false, false, false, false, false, false, false, false, false, false, false, false, false, false, false] rfl rfl (by kernel_rfl) (fun _ _ _ h => h) (Or.inl ⟨by rfl, ?_⟩) ?_ ?_
  rotate_left
  · intro w'
    go_simp
    with_reducible rfl
  rotate_left
  · simp only [putAll, Act.put, List.setIfInBounds_toArray, List.set_cons_zero, List.set_cons_succ]
    rfl
  refine pure_ (i := 4) (N := some 40) (v := ?_) (a' := ?_) #[true, true, true, false, true, false, false, false, false, false, false, false, false, false, false, false, false, false] rfl rfl (by kernel_rfl) (fun _ _ _ h => h) (Or.inl ⟨by rfl, ?_⟩) ?_ ?_
  rotate_left
  · intro w'
    go_simp
    with_reducible rfl
  rotate_left
  · simp only [putAll, Act.put, List.setIfInBounds_toArray, List.set_cons_zero, List.set_cons_succ]
    rfl
  refine pure_ (i := 5) (N := some 41) (v := ?_) (a' := ?_) #[true, true, true, false, true, true, false, false, false, false, false, false, false, false, false, false, false, false] rfl rfl (by kernel_rfl) (fun _ _ _ h => h) (Or.inl ⟨by rfl, ?_⟩) ?_ ?_
  rotate_left
  · intro w'
    go_simp
    with_reducible rfl
  rotate_left
  · simp only [putAll, Act.put, List.setIfInBounds_toArray, List.set_cons_zero, List.set_cons_succ]
    rfl
  refine pure_ (i := 6) (N := some 42) (v := ?_) (a' := ?_) #[true, true, true, false, true, true, true, false, false, false, false, false, false, false, false, false, false, false] rfl rfl (by kernel_rfl) (fun _ _ _ h => h) (Or.inl ⟨by rfl, ?_⟩) ?_ ?_
  rotate_left
  · intro w'
    go_simp
    with_reducible rfl
  rotate_left
  · simp only [putAll, Act.put, List.setIfInBounds_toArray, List.set_cons_zero, List.set_cons_succ]
    rfl
  refine take_ (i := 3) (N := some 39) (v := ?_) (a' := ?_) #[true, true, true, true, true, true, true, false, false, false, false, false, false, false, false, false, false, false] rfl rfl (by kernel_rfl) (fun _ _ _ h => h) (Or.inl ⟨by rfl, ?_⟩) hHeld ?_ ?_
  rotate_left
  · rintro w' ⟨s1, s2, s3, s4, s5, s6, s7⟩
    go_simp
    with_reducible rfl
  rotate_left
  · simp only [putAll, Act.put, List.setIfInBounds_toArray, List.set_cons_zero, List.set_cons_succ]
    rfl
  refine take_ (i := 7) (N := some 43) (v := ?_) (a' := ?_) #[true, true, true, true, true, true, true, true, false, false, false, false, false, false, false, false, false, false] rfl rfl (by kernel_rfl) (fun _ _ _ h => h) (Or.inl ⟨by rfl, ?_⟩) hHeld ?_ ?_
  rotate_left
  · rintro w' ⟨s1, s2, s3, s4, s5, s6, s7⟩
    go_simp
    with_reducible rfl
  rotate_left
  · simp only [putAll, Act.put, List.setIfInBounds_toArray, List.set_cons_zero, List.set_cons_succ]
    rfl
  refine pure_ (i := 8) (N := some 44) (v := ?_) (a' := ?_) #[true, true, true, true, true, true, true, true, true, false, false, false, false, false, false, false, false, false] rfl rfl (by kernel_rfl) (fun _ _ _ h => h) (Or.inl ⟨by rfl, ?_⟩) ?_ ?_
  rotate_left
  · intro w'
    go_simp
    with_reducible rfl
  rotate_left
  · simp only [putAll, Act.put, List.setIfInBounds_toArray, List.set_cons_zero, List.set_cons_succ]
    rfl
  refine join_ 3 #[true, true, true, true, true, true, true, true, true, true, true, true, true, true, true, false, false, false] (fun q : Nat => [(45, .tuple #[.int .i64 nn, .agg #[.int .i64 y0, .int .i64 y1, .int .i64 y2, .int .i64 y3, .int .i64 y4, .int .u64 y5], .int .i64 ee]), (35, .tuple #[.int .i64 nn, .agg #[.int .i64 y0, .int .i64 y1, .int .i64 y2, .int .i64 y3, .int .i64 y4, .int .u64 y5], .int .i64 ee]), (46, .int .i64 nn), (47, .agg #[.int .i64 y0, .int .i64 y1, .int .i64 y2, .int .i64 y3, .int .i64 y4, .int .u64 y5]), (48, .int .i64 ee), (6, .pointer (some ⟨q, 0, none⟩))]) (fun q w' => ShAt ks mb w' ⟨lim, ⟨m, p, t, sp, r, ch⟩, f', lf⟩ ∧ Fr (ShF ks mb) w w' ∧ w'.heap[q]? = some (.cells #[.int .i64 0, .int .i64 0, .int .i64 0, .int .i64 0, .int .i64 0, .int .u64 0] 48 (0, 0)) ∧ ks ≠ q ∧ mb ≠ q ∧ w.heap.size ≤ q) ?_ (fun hcont => ?_)
  · intro q w3 hf
    obtain ⟨hS3, hR3, hQ3, hksq, hmbq, hqB⟩ := hf
    clear hHeld H HRW
    have qf0 : w3.frozen? ⟨q, 0, none⟩ = false := blk_frozen hQ3 0
    have qf1 : w3.frozen? ⟨q, 1, none⟩ = false := blk_frozen hQ3 1
    have qf2 : w3.frozen? ⟨q, 2, none⟩ = false := blk_frozen hQ3 2
    have qf3 : w3.frozen? ⟨q, 3, none⟩ = false := blk_frozen hQ3 3
    have qf4 : w3.frozen? ⟨q, 4, none⟩ = false := blk_frozen hQ3 4
    have qf5 : w3.frozen? ⟨q, 5, none⟩ = false := blk_frozen hQ3 5
    have qc0 : w3.cell? ⟨q, 0, none⟩ = some (.int .i64 0) := (blk_cell hQ3 0).trans rfl
    have qc1 : w3.cell? ⟨q, 1, none⟩ = some (.int .i64 0) := (blk_cell hQ3 1).trans rfl
    have qc2 : w3.cell? ⟨q, 2, none⟩ = some (.int .i64 0) := (blk_cell hQ3 2).trans rfl
    have qc3 : w3.cell? ⟨q, 3, none⟩ = some (.int .i64 0) := (blk_cell hQ3 3).trans rfl
    have qc4 : w3.cell? ⟨q, 4, none⟩ = some (.int .i64 0) := (blk_cell hQ3 4).trans rfl
    have qc5 : w3.cell? ⟨q, 5, none⟩ = some (.int .u64 0) := (blk_cell hQ3 5).trans rfl
    refine norm_ (a' := ?_) ?_ ?_
    rotate_left
    · simp only [putAll, Act.put, List.setIfInBounds_toArray, List.set_cons_zero, List.set_cons_succ]
      rfl
    refine pure_ (i := 15) (N := some 5) (v := ?_) (a' := ?_) #[true, true, true, true, true, true, true, true, true, true, true, true, true, true, true, true, false, false] rfl rfl (by kernel_rfl) (fun _ _ _ h => h) (Or.inl ⟨by rfl, ?_⟩) ?_ ?_
    rotate_left
    · intro w'
      go_simp
      with_reducible rfl
    rotate_left
    · simp only [putAll, Act.put, List.setIfInBounds_toArray, List.set_cons_zero, List.set_cons_succ]
      rfl
    refine last_ (i := 16) (N := none) #[true, true, true, true, true, true, true, true, true, true, true, true, true, true, true, true, true, false] rfl rfl (by kernel_rfl) (by decide) (fun K hK => ?_)
    refine skip_ (w1 := ((((((w3.setCell ⟨q, 0, none⟩ (.int .i64 y0)).setCell ⟨q, 1, none⟩ (.int .i64 y1)).setCell ⟨q, 2, none⟩ (.int .i64 y2)).setCell ⟨q, 3, none⟩ (.int .i64 y3)).setCell ⟨q, 4, none⟩ (.int .i64 y4)).setCell ⟨q, 5, none⟩ (.int .u64 y5))) (by rfl) rfl (by go_simp) ?_
    refine hK.out _ _ ?_
    clear hK K
    clear qf0 qc0 qf1 qc1 qf2 qc2 qf3 qc3 qf4 qc4 qf5 qc5
    have HS4 := Aside0.mk (shFar6 hS3 hksq hmbq (.int .i64 y0) (.int .i64 y1) (.int .i64 y2) (.int .i64 y3) (.int .i64 y4) (.int .u64 y5))
    have HR4 := Aside0.mk (shFrQ hR3 hqB (.int .i64 y0) (.int .i64 y1) (.int .i64 y2) (.int .i64 y3) (.int .i64 y4) (.int .u64 y5))
    have HQ4 := Aside0.mk (put6 hQ3 (.int .i64 y0) (.int .i64 y1) (.int .i64 y2) (.int .i64 y3) (.int .i64 y4) (.int .u64 y5))
    generalize ((((((w3.setCell ⟨q, 0, none⟩ (.int .i64 y0)).setCell ⟨q, 1, none⟩ (.int .i64 y1)).setCell ⟨q, 2, none⟩ (.int .i64 y2)).setCell ⟨q, 3, none⟩ (.int .i64 y3)).setCell ⟨q, 4, none⟩ (.int .i64 y4)).setCell ⟨q, 5, none⟩ (.int .u64 y5)) = w4 at HS4 HR4 HQ4 ⊢
    have HKQ := Aside0.mk hksq
    clear hS3 hR3 hQ3 hqB hksq hmbq
    refine pure_ (i := 17) (N := some 7) (v := ?_) (a' := ?_) #[true, true, true, true, true, true, true, true, true, true, true, true, true, true, true, true, true, true] rfl rfl (by kernel_rfl) (fun _ _ _ h => h) (Or.inl ⟨by rfl, ?_⟩) ?_ ?_
    rotate_left
    · intro w'
      go_simp
      with_reducible rfl
    rotate_left
    · simp only [putAll, Act.put, List.setIfInBounds_toArray, List.set_cons_zero, List.set_cons_succ]
      rfl
    refine done_ (by kernel_rfl) ?_
    go_wp2
    go_ret2
    exact ⟨rfl, HS4.out, HR4.out⟩
  refine two_ (i := 9) (j := 14) (Ni := some 45) (Nj := some 6) #[true, true, true, true, true, true, true, true, true, true, false, false, false, false, false, false, false, false] #[true, true, true, true, true, true, true, true, true, false, false, false, false, false, true, false, false, false] rfl rfl rfl rfl (by kernel_rfl) (by decide) (by decide) (fun K hK => ?_) (fun K hK => ?_)
  · refine call_ 40 #[.agg #[.int .i64 m, .int .i64 p, .int .i64 t, .int .i64 sp, .int .i64 r, .int .u64 ch], .iface 70 (.map (some mb))] (by rfl) rfl (by go_simp) ?_
    refine (HGC.out wd (H.out).2).mono ?_
    rintro e w2 ⟨rfl, hm2, hf2⟩
    refine ⟨.tuple #[.int .i64 nn, .agg #[.int .i64 y0, .int .i64 y1, .int .i64 y2, .int .i64 y3, .int .i64 y4, .int .u64 y5], .int .i64 ee], rfl, ?_⟩
    have hS2 := ShAt.fr H.out hf2 hm2
    have hR2 := HRW.out.trans (frMap (ks := ks) hf2) (fun _ _ h => h)
    refine hK.out _ _ ⟨(blk_cell (hS2).1 1).trans rfl, (blk_cell (hS2).1 2).trans rfl, (blk_cell (hS2).1 3).trans rfl, (blk_cell (hS2).1 4).trans rfl, (blk_cell (hS2).1 5).trans rfl, (blk_cell (hS2).1 6).trans rfl, (blk_cell (hS2).1 7).trans rfl⟩ (fun hHeld => ?_)
    clear hK K
    refine norm_ (a' := ?_) ?_ ?_
    rotate_left
    · show Act.put _ (some 45) _ = _
      simp only [putAll, Act.put, List.setIfInBounds_toArray, List.set_cons_zero, List.set_cons_succ]
      rfl
    refine pure_ (i := 10) (N := some 35) (v := ?_) (a' := ?_) #[true, true, true, true, true, true, true, true, true, true, true, false, false, false, false, false, false, false] rfl rfl (by kernel_rfl) (fun _ _ _ h => h) (Or.inl ⟨by rfl, ?_⟩) ?_ ?_
    rotate_left
    · intro w'
      go_simp
      with_reducible rfl
    rotate_left
    · simp only [putAll, Act.put, List.setIfInBounds_toArray, List.set_cons_zero, List.set_cons_succ]
      rfl
    refine pure_ (i := 11) (N := some 46) (v := ?_) (a' := ?_) #[true, true, true, true, true, true, true, true, true, true, true, true, false, false, false, false, false, false] rfl rfl (by kernel_rfl) (fun _ _ _ h => h) (Or.inl ⟨by rfl, ?_⟩) ?_ ?_
    rotate_left
    · intro w'
      go_simp
      with_reducible rfl
    rotate_left
    · simp only [putAll, Act.put, List.setIfInBounds_toArray, List.set_cons_zero, List.set_cons_succ]
      rfl
    refine pure_ (i := 12) (N := some 47) (v := ?_) (a' := ?_) #[true, true, true, true, true, true, true, true, true, true, true, true, true, false, false, false, false, false] rfl rfl (by kernel_rfl) (fun _ _ _ h => h) (Or.inl ⟨by rfl, ?_⟩) ?_ ?_
    rotate_left
    · intro w'
      go_simp
      with_reducible rfl
    rotate_left
    · simp only [putAll, Act.put, List.setIfInBounds_toArray, List.set_cons_zero, List.set_cons_succ]
      rfl
    refine pure_ (i := 13) (N := some 48) (v := ?_) (a' := ?_) #[true, true, true, true, true, true, true, true, true, true, true, true, true, true, false, false, false, false] rfl rfl (by kernel_rfl) (fun _ _ _ h => h) (Or.inl ⟨by rfl, ?_⟩) ?_ ?_
    rotate_left
    · intro w'
      go_simp
      with_reducible rfl
    rotate_left
    · simp only [putAll, Act.put, List.setIfInBounds_toArray, List.set_cons_zero, List.set_cons_succ]
      rfl
    refine one_ (i := 14) (N := some 6) #[true, true, true, true, true, true, true, true, true, true, true, true, true, true, true, false, false, false] rfl rfl (by kernel_rfl) (by decide) (fun K hK => ?_)
    refine value_ (v := .pointer (some ⟨w2.heap.size, 0, none⟩)) (w1 := w2.alloc (.cells #[.int .i64 0, .int .i64 0, .int .i64 0, .int .i64 0, .int .i64 0, .int .u64 0] 48)) (by rfl) rfl (by go_simp) ?_
    have hSa := hS2.below (below_alloc (Below.refl _ _) (.cells #[.int .i64 0, .int .i64 0, .int .i64 0, .int .i64 0, .int .i64 0, .int .u64 0] 48))
    refine hK.out _ _ ⟨(blk_cell (hSa).1 1).trans rfl, (blk_cell (hSa).1 2).trans rfl, (blk_cell (hSa).1 3).trans rfl, (blk_cell (hSa).1 4).trans rfl, (blk_cell (hSa).1 5).trans rfl, (blk_cell (hSa).1 6).trans rfl, (blk_cell (hSa).1 7).trans rfl⟩ (fun hHeld => ?_)
    clear hK K
    refine norm_ ?_ (hcont w2.heap.size _ ⟨hSa, hR2.alloc _, blk_new w2 _, Nat.ne_of_lt hS2.lt, Nat.ne_of_lt hS2.2.lt, hR2.size⟩)
    simp only [putAll, Act.put, List.setIfInBounds_toArray, List.set_cons_zero, List.set_cons_succ]
  · refine value_ (v := .pointer (some ⟨wd.heap.size, 0, none⟩)) (w1 := wd.alloc (.cells #[.int .i64 0, .int .i64 0, .int .i64 0, .int .i64 0, .int .i64 0, .int .u64 0] 48)) (by rfl) rfl (by go_simp) ?_
    have hSa := H.out.below (below_alloc (Below.refl _ _) (.cells #[.int .i64 0, .int .i64 0, .int .i64 0, .int .i64 0, .int .i64 0, .int .u64 0] 48))
    refine hK.out _ _ ⟨(blk_cell (hSa).1 1).trans rfl, (blk_cell (hSa).1 2).trans rfl, (blk_cell (hSa).1 3).trans rfl, (blk_cell (hSa).1 4).trans rfl, (blk_cell (hSa).1 5).trans rfl, (blk_cell (hSa).1 6).trans rfl, (blk_cell (hSa).1 7).trans rfl⟩ (fun hHeld => ?_)
    clear hK K
    refine norm_ (a' := ?_) ?_ ?_
    rotate_left
    · show Act.put _ (some 6) _ = _
      simp only [putAll, Act.put, List.setIfInBounds_toArray, List.set_cons_zero, List.set_cons_succ]
      rfl
    refine one_ (i := 9) (N := some 45) #[true, true, true, true, true, true, true, true, true, true, false, false, false, false, true, false, false, false] rfl rfl (by kernel_rfl) (by decide) (fun K hK => ?_)
    refine call_ 40 #[.agg #[.int .i64 m, .int .i64 p, .int .i64 t, .int .i64 sp, .int .i64 r, .int .u64 ch], .iface 70 (.map (some mb))] (by rfl) rfl (by go_simp) ?_
    refine (HGC.out _ (hSa).2).mono ?_
    rintro e w2 ⟨rfl, hm2, hf2⟩
    refine ⟨.tuple #[.int .i64 nn, .agg #[.int .i64 y0, .int .i64 y1, .int .i64 y2, .int .i64 y3, .int .i64 y4, .int .u64 y5], .int .i64 ee], rfl, ?_⟩
    have hS2 := ShAt.fr hSa hf2 hm2
    have hR2 := (HRW.out.alloc (.cells #[.int .i64 0, .int .i64 0, .int .i64 0, .int .i64 0, .int .i64 0, .int .u64 0] 48)).trans (frMap (ks := ks) hf2) (fun _ _ h => h)
    refine hK.out _ _ ⟨(blk_cell (hS2).1 1).trans rfl, (blk_cell (hS2).1 2).trans rfl, (blk_cell (hS2).1 3).trans rfl, (blk_cell (hS2).1 4).trans rfl, (blk_cell (hS2).1 5).trans rfl, (blk_cell (hS2).1 6).trans rfl, (blk_cell (hS2).1 7).trans rfl⟩ (fun hHeld => ?_)
    clear hK K
    refine norm_ (a' := ?_) ?_ ?_
    rotate_left
    · show Act.put _ (some 45) _ = _
      simp only [putAll, Act.put, List.setIfInBounds_toArray, List.set_cons_zero, List.set_cons_succ]
      rfl
    refine pure_ (i := 10) (N := some 35) (v := ?_) (a' := ?_) #[true, true, true, true, true, true, true, true, true, true, true, false, false, false, true, false, false, false] rfl rfl (by kernel_rfl) (fun _ _ _ h => h) (Or.inl ⟨by rfl, ?_⟩) ?_ ?_
    rotate_left
    · intro w'
      go_simp
      with_reducible rfl
    rotate_left
    · simp only [putAll, Act.put, List.setIfInBounds_toArray, List.set_cons_zero, List.set_cons_succ]
      rfl
    refine pure_ (i := 11) (N := some 46) (v := ?_) (a' := ?_) #[true, true, true, true, true, true, true, true, true, true, true, true, false, false, true, false, false, false] rfl rfl (by kernel_rfl) (fun _ _ _ h => h) (Or.inl ⟨by rfl, ?_⟩) ?_ ?_
    rotate_left
    · intro w'
      go_simp
      with_reducible rfl
    rotate_left
    · simp only [putAll, Act.put, List.setIfInBounds_toArray, List.set_cons_zero, List.set_cons_succ]
      rfl
    refine pure_ (i := 12) (N := some 47) (v := ?_) (a' := ?_) #[true, true, true, true, true, true, true, true, true, true, true, true, true, false, true, false, false, false] rfl rfl (by kernel_rfl) (fun _ _ _ h => h) (Or.inl ⟨by rfl, ?_⟩) ?_ ?_
    rotate_left
    · intro w'
      go_simp
      with_reducible rfl
    rotate_left
    · simp only [putAll, Act.put, List.setIfInBounds_toArray, List.set_cons_zero, List.set_cons_succ]
      rfl
    refine pure_ (i := 13) (N := some 48) (v := ?_) (a' := ?_) #[true, true, true, true, true, true, true, true, true, true, true, true, true, true, true, false, false, false] rfl rfl (by kernel_rfl) (fun _ _ _ h => h) (Or.inl ⟨by rfl, ?_⟩) ?_ ?_
    rotate_left
    · intro w'
      go_simp
      with_reducible rfl
    rotate_left
    · simp only [putAll, Act.put, List.setIfInBounds_toArray, List.set_cons_zero, List.set_cons_succ]
      rfl
    refine norm_ ?_ (hcont wd.heap.size _ ⟨hS2, hR2, hf2.blk (blk_new wd _) (Nat.ne_of_gt H.out.2.lt), Nat.ne_of_lt H.out.lt, Nat.ne_of_lt H.out.2.lt, HRW.out.size⟩)
    simp only [putAll, Act.put, List.setIfInBounds_toArray, List.set_cons_zero, List.set_cons_succ]
set_option maxHeartbeats 2000000 in
set_option maxRecDepth 100000 in
theorem shNew_errB21 (ks mb : Nat) (lim m p t sp r ch lf lg : Int) (f f' : Int → Option ByteArray) (nn y0 y1 y2 y3 y4 y5 ee : Int) (w : World) (h : ShAt ks mb w (⟨lim, ⟨m, p, t, sp, r, ch⟩, f, lg⟩ : Sh)) (hl : lg ≤ 4096) (hlf : nl lg = lf) (hd1 : 0 ≤ p) (hd2 : p ≤ 4096) (hd3 : 0 ≤ sp) (hd4 : sp ≤ 4096) (h0 : lg ≠ 0)  (htk : (mapShop mb).take f ⟨m, p, t, sp, r, ch⟩ = (f', nn, ⟨y0, y1, y2, y3, y4, y5⟩, ee)) (he : (ee != 0) = true) (hsp : sp = 0) (hlp : p < lim) (hb : (⟨lim, ⟨m, p, t, sp, r, ch⟩, f, lg⟩ : Sh).beg 1 = 21) :
    Calls Tryz.prog 25 #[.pointer (some ⟨ks, 0, none⟩)] w fun e w' => e = .returned (.tuple #[.int .i64 0, .int .i64 ee]) ∧ ShAt ks mb w' ⟨lim, ⟨m, p, t, sp, r, ch⟩, f', lf⟩ ∧ Fr (ShF ks mb) w w' := by
  have HBC := Aside0.mk (begin_at ks mb (n := 1) hl hlf hb)
  have H := Aside0.mk h
  have hgc := fun W hW => mtake_calls mb f ⟨m, p, t, sp, r, ch⟩ W hW hd1 hd3 hd4
  rw [htk] at hgc
  have HGC := Aside0.mk hgc
  clear hgc htk
  have t1 : (sp == 0) = true := by simp [hsp]
  have t2 : decide (lim ≤ p) = false := decide_eq_false (by omega)
  clear h hb hl hlf
  go_enter Tryz.func25, Tryz.ntmps25
  go_wp2_with fail
  refine (HBC.out w H.out).mono ?_
  rintro e w1 ⟨rfl, hs1, hf1⟩
  replace H := Aside0.mk hs1
  have HRW := Aside0.mk hf1
  clear hs1 hf1 HBC
  have a0 : w1.cell? ⟨ks, 0, none⟩ = some (.int .i64 lim) := (blk_cell H.out.1 0).trans rfl
  have a1 : w1.cell? ⟨ks, 1, none⟩ = some (.int .i64 m) := (blk_cell H.out.1 1).trans rfl
  have a2 : w1.cell? ⟨ks, 2, none⟩ = some (.int .i64 p) := (blk_cell H.out.1 2).trans rfl
  have a3 : w1.cell? ⟨ks, 3, none⟩ = some (.int .i64 t) := (blk_cell H.out.1 3).trans rfl
  have a4 : w1.cell? ⟨ks, 4, none⟩ = some (.int .i64 sp) := (blk_cell H.out.1 4).trans rfl
  have a5 : w1.cell? ⟨ks, 5, none⟩ = some (.int .i64 r) := (blk_cell H.out.1 5).trans rfl
  have a6 : w1.cell? ⟨ks, 6, none⟩ = some (.int .u64 ch) := (blk_cell H.out.1 6).trans rfl
  have a7 : w1.cell? ⟨ks, 7, none⟩ = some (.map (some mb)) := (blk_cell H.out.1 7).trans rfl
  have a8 : w1.cell? ⟨ks, 8, none⟩ = some (.int .i64 lf) := (blk_cell H.out.1 8).trans rfl
  go_wp2_with fail
  go_quiet (fail)
  clear a0 a1 a2 a3 a4 a5 a6 a7 a8
  replace H := Aside0.mk (H.out.below (pw_below_drewN (Below.refl _ _) nq))
  replace HRW := Aside0.mk (Fr.then_below HRW.out (pw_below_drewN (Below.refl _ _) nq))
  generalize w1.drewN nq = wq at H HRW ⊢
  have a0 : wq.cell? ⟨ks, 0, none⟩ = some (.int .i64 lim) := (blk_cell H.out.1 0).trans rfl
  have a1 : wq.cell? ⟨ks, 1, none⟩ = some (.int .i64 m) := (blk_cell H.out.1 1).trans rfl
  have a2 : wq.cell? ⟨ks, 2, none⟩ = some (.int .i64 p) := (blk_cell H.out.1 2).trans rfl
  have a3 : wq.cell? ⟨ks, 3, none⟩ = some (.int .i64 t) := (blk_cell H.out.1 3).trans rfl
  have a4 : wq.cell? ⟨ks, 4, none⟩ = some (.int .i64 sp) := (blk_cell H.out.1 4).trans rfl
  have a5 : wq.cell? ⟨ks, 5, none⟩ = some (.int .i64 r) := (blk_cell H.out.1 5).trans rfl
  have a6 : wq.cell? ⟨ks, 6, none⟩ = some (.int .u64 ch) := (blk_cell H.out.1 6).trans rfl
  have a7 : wq.cell? ⟨ks, 7, none⟩ = some (.map (some mb)) := (blk_cell H.out.1 7).trans rfl
  have a8 : wq.cell? ⟨ks, 8, none⟩ = some (.int .i64 lf) := (blk_cell H.out.1 8).trans rfl
  go_wp2_with fail
  clear a0 a1 a2 a3 a4 a5 a6 a7 a8
  refine start_ (n := 18) (S := fun w' => w'.cell? ⟨ks, 1, none⟩ = some (.int .i64 m) ∧ w'.cell? ⟨ks, 2, none⟩ = some (.int .i64 p) ∧ w'.cell? ⟨ks, 3, none⟩ = some (.int .i64 t) ∧ w'.cell? ⟨ks, 4, none⟩ = some (.int .i64 sp) ∧ w'.cell? ⟨ks, 5, none⟩ = some (.int .i64 r) ∧ w'.cell? ⟨ks, 6, none⟩ = some (.int .u64 ch) ∧ w'.cell? ⟨ks, 7, none⟩ = some (.map (some mb))) (ds := [16]) #[false, false, false, false, false, false, false, false, false, false, false, false, false, false, false, false, false, false] (by kernel_rfl) rfl rfl ⟨(blk_cell (H.out.below (Below.refl _ _).drew).1 1).trans rfl, (blk_cell (H.out.below (Below.refl _ _).drew).1 2).trans rfl, (blk_cell (H.out.below (Below.refl _ _).drew).1 3).trans rfl, (blk_cell (H.out.below (Below.refl _ _).drew).1 4).trans rfl, (blk_cell (H.out.below (Below.refl _ _).drew).1 5).trans rfl, (blk_cell (H.out.below (Below.refl _ _).drew).1 6).trans rfl, (blk_cell (H.out.below (Below.refl _ _).drew).1 7).trans rfl⟩ (fun hHeld => ?_)
  replace H := Aside0.mk (H.out.below (Below.refl _ _).drew)
  replace HRW := Aside0.mk (Fr.then_below HRW.out (Below.refl _ _).drew)
  generalize wq.drew = wd at H HRW hHeld ⊢
  refine pure_ (i := 0) (N := some 36) (v := ?_) (a' := ?_) #[true, false, false, false, false, false, false, false, false, false, false, false, false, false, false, false, false, false] rfl rfl (by kernel_rfl) (fun _ _ _ h => h) (Or.inl ⟨by rfl, ?_⟩) ?_ ?_
  rotate_left
  · intro w'
    go_simp
    with_reducible rfl
  rotate_left
  · simp only [putAll, Act.put, List.setIfInBounds_toArray, List.set_cons_zero, List.set_cons_succ]
    rfl
  refine pure_ (i := 1) (N := some 37) (v := ?_) (a' := ?_) #[true, true, false, false, false, false, false, false, false, false, false, false, false, false, false, false, false, false] rfl rfl (by kernel_rfl) (fun _ _ _ h => h) (Or.inl ⟨by rfl, ?_⟩) ?_ ?_
  rotate_left
  · intro w'
    go_simp
    with_reducible rfl
  rotate_left
  · simp only [putAll, Act.put, List.setIfInBounds_toArray, List.set_cons_zero, List.set_cons_succ]
    rfl
  refine pure_ (i := 2) (N := some 38) (v := ?_) (a' := ?_) #[true, true, true, false, false, false, false, false, false, false, false, false, false, false, false, false, false, false] rfl rfl (by kernel_rfl) (fun _ _ _ h => h) (Or.inl ⟨by rfl, ?_⟩) ?_ ?_
  rotate_left
  · intro w'
    go_simp
    with_reducible rfl
  rotate_left
  · simp only [putAll, Act.put, List.setIfInBounds_toArray, List.set_cons_zero, List.set_cons_succ]
    rfl
  refine pure_ (i := 4) (N := some 40) (v := ?_) (a' := ?_) #[true, true, true, false, true, false, false, false, false, false, false, false, false, false, false, false, false, false] rfl rfl (by kernel_rfl) (fun _ _ _ h => h) (Or.inl ⟨by rfl, ?_⟩) ?_ ?_
  rotate_left
  · intro w'
    go_simp
    with_reducible rfl
  rotate_left
  · simp only [putAll, Act.put, List.setIfInBounds_toArray, List.set_cons_zero, List.set_cons_succ]
    rfl
  refine pure_ (i := 5) (N := some 41) (v := ?_) (a' := ?_) #[true, true, true, false, true, true, false, false, false, false, false, false, false, false, false, false, false, false] rfl rfl (by kernel_rfl) (fun _ _ _ h => h) (Or.inl ⟨by rfl, ?_⟩) ?_ ?_
  rotate_left
  · intro w'
    go_simp
    with_reducible rfl
  rotate_left
  · simp only [putAll, Act.put, List.setIfInBounds_toArray, List.set_cons_zero, List.set_cons_succ]
    rfl
  refine pure_ (i := 6) (N := some 42) (v := ?_) (a' := ?_) #[true, true, true, false, true, true, true, false, false, false, false, false, false, false, false, false, false, false] rfl rfl (by kernel_rfl) (fun _ _ _ h => h) (Or.inl ⟨by rfl, ?_⟩) ?_ ?_
  rotate_left
  · intro w'
    go_simp
    with_reducible rfl
  rotate_left
  · simp only [putAll, Act.put, List.setIfInBounds_toArray, List.set_cons_zero, List.set_cons_succ]
    rfl
  refine take_ (i := 3) (N := some 39) (v := ?_) (a' := ?_) #[true, true, true, true, true, true, true, false, false, false, false, false, false, false, false, false, false, false] rfl rfl (by kernel_rfl) (fun _ _ _ h => h) (Or.inl ⟨by rfl, ?_⟩) hHeld ?_ ?_
  rotate_left
  · rintro w' ⟨s1, s2, s3, s4, s5, s6, s7⟩
    go_simp
    with_reducible rfl
  rotate_left
  · simp only [putAll, Act.put, List.setIfInBounds_toArray, List.set_cons_zero, List.set_cons_succ]
    rfl
  refine take_ (i := 7) (N := some 43) (v := ?_) (a' := ?_) #[true, true, true, true, true, true, true, true, false, false, false, false, false, false, false, false, false, false] rfl rfl (by kernel_rfl) (fun _ _ _ h => h) (Or.inl ⟨by rfl, ?_⟩) hHeld ?_ ?_
  rotate_left
  · rintro w' ⟨s1, s2, s3, s4, s5, s6, s7⟩
    go_simp
    with_reducible rfl
  rotate_left
  · simp only [putAll, Act.put, List.setIfInBounds_toArray, List.set_cons_zero, List.set_cons_succ]
    rfl
  refine pure_ (i := 8) (N := some 44) (v := ?_) (a' := ?_) #[true, true, true, true, true, true, true, true, true, false, false, false, false, false, false, false, false, false] rfl rfl (by kernel_rfl) (fun _ _ _ h => h) (Or.inl ⟨by rfl, ?_⟩) ?_ ?_
  rotate_left
  · intro w'
    go_simp
    with_reducible rfl
  rotate_left
  · simp only [putAll, Act.put, List.setIfInBounds_toArray, List.set_cons_zero, List.set_cons_succ]
    rfl
  refine join_ 3 #[true, true, true, true, true, true, true, true, true, true, true, true, true, true, true, false, false, false] (fun q : Nat => [(45, .tuple #[.int .i64 nn, .agg #[.int .i64 y0, .int .i64 y1, .int .i64 y2, .int .i64 y3, .int .i64 y4, .int .u64 y5], .int .i64 ee]), (35, .tuple #[.int .i64 nn, .agg #[.int .i64 y0, .int .i64 y1, .int .i64 y2, .int .i64 y3, .int .i64 y4, .int .u64 y5], .int .i64 ee]), (46, .int .i64 nn), (47, .agg #[.int .i64 y0, .int .i64 y1, .int .i64 y2, .int .i64 y3, .int .i64 y4, .int .u64 y5]), (48, .int .i64 ee), (6, .pointer (some ⟨q, 0, none⟩))]) (fun q w' => ShAt ks mb w' ⟨lim, ⟨m, p, t, sp, r, ch⟩, f', lf⟩ ∧ Fr (ShF ks mb) w w' ∧ w'.heap[q]? = some (.cells #[.int .i64 0, .int .i64 0, .int .i64 0, .int .i64 0, .int .i64 0, .int .u64 0] 48 (0, 0)) ∧ ks ≠ q ∧ mb ≠ q ∧ w.heap.size ≤ q) ?_ (fun hcont => ?_)
  · intro q w3 hf
    obtain ⟨hS3, hR3, hQ3, hksq, hmbq, hqB⟩ := hf
    clear hHeld H HRW
    have qf0 : w3.frozen? ⟨q, 0, none⟩ = false := blk_frozen hQ3 0
    have qf1 : w3.frozen? ⟨q, 1, none⟩ = false := blk_frozen hQ3 1
    have qf2 : w3.frozen? ⟨q, 2, none⟩ = false := blk_frozen hQ3 2
    have qf3 : w3.frozen? ⟨q, 3, none⟩ = false := blk_frozen hQ3 3
    have qf4 : w3.frozen? ⟨q, 4, none⟩ = false := blk_frozen hQ3 4
    have qf5 : w3.frozen? ⟨q, 5, none⟩ = false := blk_frozen hQ3 5
    have qc0 : w3.cell? ⟨q, 0, none⟩ = some (.int .i64 0) := (blk_cell hQ3 0).trans rfl
    have qc1 : w3.cell? ⟨q, 1, none⟩ = some (.int .i64 0) := (blk_cell hQ3 1).trans rfl
    have qc2 : w3.cell? ⟨q, 2, none⟩ = some (.int .i64 0) := (blk_cell hQ3 2).trans rfl
    have qc3 : w3.cell? ⟨q, 3, none⟩ = some (.int .i64 0) := (blk_cell hQ3 3).trans rfl
    have qc4 : w3.cell? ⟨q, 4, none⟩ = some (.int .i64 0) := (blk_cell hQ3 4).trans rfl
    have qc5 : w3.cell? ⟨q, 5, none⟩ = some (.int .u64 0) := (blk_cell hQ3 5).trans rfl
    refine norm_ (a' := ?_) ?_ ?_
    rotate_left
    · simp only [putAll, Act.put, List.setIfInBounds_toArray, List.set_cons_zero, List.set_cons_succ]
      rfl
    refine pure_ (i := 15) (N := some 5) (v := ?_) (a' := ?_) #[true, true, true, true, true, true, true, true, true, true, true, true, true, true, true, true, false, false] rfl rfl (by kernel_rfl) (fun _ _ _ h => h) (Or.inl ⟨by rfl, ?_⟩) ?_ ?_
    rotate_left
    · intro w'
      go_simp
      with_reducible rfl
    rotate_left
    · simp only [putAll, Act.put, List.setIfInBounds_toArray, List.set_cons_zero, List.set_cons_succ]
      rfl
    refine last_ (i := 16) (N := none) #[true, true, true, true, true, true, true, true, true, true, true, true, true, true, true, true, true, false] rfl rfl (by kernel_rfl) (by decide) (fun K hK => ?_)
    refine skip_ (w1 := ((((((w3.setCell ⟨q, 0, none⟩ (.int .i64 y0)).setCell ⟨q, 1, none⟩ (.int .i64 y1)).setCell ⟨q, 2, none⟩ (.int .i64 y2)).setCell ⟨q, 3, none⟩ (.int .i64 y3)).setCell ⟨q, 4, none⟩ (.int .i64 y4)).setCell ⟨q, 5, none⟩ (.int .u64 y5))) (by rfl) rfl (by go_simp) ?_
    refine hK.out _ _ ?_
    clear hK K
    clear qf0 qc0 qf1 qc1 qf2 qc2 qf3 qc3 qf4 qc4 qf5 qc5
    have HS4 := Aside0.mk (shFar6 hS3 hksq hmbq (.int .i64 y0) (.int .i64 y1) (.int .i64 y2) (.int .i64 y3) (.int .i64 y4) (.int .u64 y5))
    have HR4 := Aside0.mk (shFrQ hR3 hqB (.int .i64 y0) (.int .i64 y1) (.int .i64 y2) (.int .i64 y3) (.int .i64 y4) (.int .u64 y5))
    have HQ4 := Aside0.mk (put6 hQ3 (.int .i64 y0) (.int .i64 y1) (.int .i64 y2) (.int .i64 y3) (.int .i64 y4) (.int .u64 y5))
    generalize ((((((w3.setCell ⟨q, 0, none⟩ (.int .i64 y0)).setCell ⟨q, 1, none⟩ (.int .i64 y1)).setCell ⟨q, 2, none⟩ (.int .i64 y2)).setCell ⟨q, 3, none⟩ (.int .i64 y3)).setCell ⟨q, 4, none⟩ (.int .i64 y4)).setCell ⟨q, 5, none⟩ (.int .u64 y5)) = w4 at HS4 HR4 HQ4 ⊢
    have HKQ := Aside0.mk hksq
    clear hS3 hR3 hQ3 hqB hksq hmbq
    refine pure_ (i := 17) (N := some 7) (v := ?_) (a' := ?_) #[true, true, true, true, true, true, true, true, true, true, true, true, true, true, true, true, true, true] rfl rfl (by kernel_rfl) (fun _ _ _ h => h) (Or.inl ⟨by rfl, ?_⟩) ?_ ?_
    rotate_left
    · intro w'
      go_simp
      with_reducible rfl
    rotate_left
    · simp only [putAll, Act.put, List.setIfInBounds_toArray, List.set_cons_zero, List.set_cons_succ]
      rfl
    refine done_ (by kernel_rfl) ?_
    go_wp2
    go_ret2
    exact ⟨rfl, HS4.out, HR4.out⟩
  refine two_ (i := 9) (j := 14) (Ni := some 45) (Nj := some 6) #[true, true, true, true, true, true, true, true, true, true, false, false, false, false, false, false, false, false] #[true, true, true, true, true, true, true, true, true, false, false, false, false, false, true, false, false, false] rfl rfl rfl rfl (by kernel_rfl) (by decide) (by decide) (fun K hK => ?_) (fun K hK => ?_)
  · refine call_ 40 #[.agg #[.int .i64 m, .int .i64 p, .int .i64 t, .int .i64 sp, .int .i64 r, .int .u64 ch], .iface 70 (.map (some mb))] (by rfl) rfl (by go_simp) ?_
    refine (HGC.out wd (H.out).2).mono ?_
    rintro e w2 ⟨rfl, hm2, hf2⟩
    refine ⟨.tuple #[.int .i64 nn, .agg #[.int .i64 y0, .int .i64 y1, .int .i64 y2, .int .i64 y3, .int .i64 y4, .int .u64 y5], .int .i64 ee], rfl, ?_⟩
    have hS2 := ShAt.fr H.out hf2 hm2
    have hR2 := HRW.out.trans (frMap (ks := ks) hf2) (fun _ _ h => h)
    refine hK.out _ _ ⟨(blk_cell (hS2).1 1).trans rfl, (blk_cell (hS2).1 2).trans rfl, (blk_cell (hS2).1 3).trans rfl, (blk_cell (hS2).1 4).trans rfl, (blk_cell (hS2).1 5).trans rfl, (blk_cell (hS2).1 6).trans rfl, (blk_cell (hS2).1 7).trans rfl⟩ (fun hHeld => ?_)
    clear hK K
    refine norm_ (a' := ?_) ?_ ?_
    rotate_left
    · show Act.put _ (some 45) _ = _
      simp only [putAll, Act.put, List.setIfInBounds_toArray, List.set_cons_zero, List.set_cons_succ]
      rfl
    refine pure_ (i := 10) (N := some 35) (v := ?_) (a' := ?_) #[true, true, true, true, true, true, true, true, true, true, true, false, false, false, false, false, false, false] rfl rfl (by kernel_rfl) (fun _ _ _ h => h) (Or.inl ⟨by rfl, ?_⟩) ?_ ?_
    rotate_left
    · intro w'
      go_simp
      with_reducible rfl
    rotate_left
    · simp only [putAll, Act.put, List.setIfInBounds_toArray, List.set_cons_zero, List.set_cons_succ]
      rfl
    refine pure_ (i := 11) (N := some 46) (v := ?_) (a' := ?_) #[true, true, true, true, true, true, true, true, true, true, true, true, false, false, false, false, false, false] rfl rfl (by kernel_rfl) (fun _ _ _ h => h) (Or.inl ⟨by rfl, ?_⟩) ?_ ?_
    rotate_left
    · intro w'
      go_simp
      with_reducible rfl
    rotate_left
    · simp only [putAll, Act.put, List.setIfInBounds_toArray, List.set_cons_zero, List.set_cons_succ]
      rfl
    refine pure_ (i := 12) (N := some 47) (v := ?_) (a' := ?_) #[true, true, true, true, true, true, true, true, true, true, true, true, true, false, false, false, false, false] rfl rfl (by kernel_rfl) (fun _ _ _ h => h) (Or.inl ⟨by rfl, ?_⟩) ?_ ?_
    rotate_left
    · intro w'
      go_simp
      with_reducible rfl
    rotate_left
    · simp only [putAll, Act.put, List.setIfInBounds_toArray, List.set_cons_zero, List.set_cons_succ]
      rfl
    refine pure_ (i := 13) (N := some 48) (v := ?_) (a' := ?_) #[true, true, true, true, true, true, true, true, true, true, true, true, true, true, false, false, false, false] rfl rfl (by kernel_rfl) (fun _ _ _ h => h) (Or.inl ⟨by rfl, ?_⟩) ?_ ?_
    rotate_left
    · intro w'
      go_simp
      with_reducible rfl
    rotate_left
    · simp only [putAll, Act.put, List.setIfInBounds_toArray, List.set_cons_zero, List.set_cons_succ]
      rfl
    refine one_ (i := 14) (N := some 6) #[true, true, true, true, true, true, true, true, true, true, true, true, true, true, true, false, false, false] rfl rfl (by kernel_rfl) (by decide) (fun K hK => ?_)
    refine value_ (v := .pointer (some ⟨w2.heap.size, 0, none⟩)) (w1 := w2.alloc (.cells #[.int .i64 0, .int .i64 0, .int .i64 0, .int .i64 0, .int .i64 0, .int .u64 0] 48)) (by rfl) rfl (by go_simp) ?_
    have hSa := hS2.below (below_alloc (Below.refl _ _) (.cells #[.int .i64 0, .int .i64 0, .int .i64 0, .int .i64 0, .int .i64 0, .int .u64 0] 48))
    refine hK.out _ _ ⟨(blk_cell (hSa).1 1).trans rfl, (blk_cell (hSa).1 2).trans rfl, (blk_cell (hSa).1 3).trans rfl, (blk_cell (hSa).1 4).trans rfl, (blk_cell (hSa).1 5).trans rfl, (blk_cell (hSa).1 6).trans rfl, (blk_cell (hSa).1 7).trans rfl⟩ (fun hHeld => ?_)
    clear hK K
    refine norm_ ?_ (hcont w2.heap.size _ ⟨hSa, hR2.alloc _, blk_new w2 _, Nat.ne_of_lt hS2.lt, Nat.ne_of_lt hS2.2.lt, hR2.size⟩)
    simp only [putAll, Act.put, List.setIfInBounds_toArray, List.set_cons_zero, List.set_cons_succ]
  · refine value_ (v := .pointer (some ⟨wd.heap.size, 0, none⟩)) (w1 := wd.alloc (.cells #[.int .i64 0, .int .i64 0, .int .i64 0, .int .i64 0, .int .i64 0, .int .u64 0] 48)) (by rfl) rfl (by go_simp) ?_
    have hSa := H.out.below (below_alloc (Below.refl _ _) (.cells #[.int .i64 0, .int .i64 0, .int .i64 0, .int .i64 0, .int .i64 0, .int .u64 0] 48))
    refine hK.out _ _ ⟨(blk_cell (hSa).1 1).trans rfl, (blk_cell (hSa).1 2).trans rfl, (blk_cell (hSa).1 3).trans rfl, (blk_cell (hSa).1 4).trans rfl, (blk_cell (hSa).1 5).trans rfl, (blk_cell (hSa).1 6).trans rfl, (blk_cell (hSa).1 7).trans rfl⟩ (fun hHeld => ?_)
    clear hK K
    refine norm_ (a' := ?_) ?_ ?_
    rotate_left
    · show Act.put _ (some 6) _ = _
      simp only [putAll, Act.put, List.setIfInBounds_toArray, List.set_cons_zero, List.set_cons_succ]
      rfl
    refine one_ (i := 9) (N := some 45) #[true, true, true, true, true, true, true, true, true, true, false, false, false, false, true, false, false, false] rfl rfl (by kernel_rfl) (by decide) (fun K hK => ?_)
    refine call_ 40 #[.agg #[.int .i64 m, .int .i64 p, .int .i64 t, .int .i64 sp, .int .i64 r, .int .u64 ch], .iface 70 (.map (some mb))] (by rfl) rfl (by go_simp) ?_
    refine (HGC.out _ (hSa).2).mono ?_
    rintro e w2 ⟨rfl, hm2, hf2⟩
    refine ⟨.tuple #[.int .i64 nn, .agg #[.int .i64 y0, .int .i64 y1, .int .i64 y2, .int .i64 y3, .int .i64 y4, .int .u64 y5], .int .i64 ee], rfl, ?_⟩
    have hS2 := ShAt.fr hSa hf2 hm2
    have hR2 := (HRW.out.alloc (.cells #[.int .i64 0, .int .i64 0, .int .i64 0, .int .i64 0, .int .i64 0, .int .u64 0] 48)).trans (frMap (ks := ks) hf2) (fun _ _ h => h)
    refine hK.out _ _ ⟨(blk_cell (hS2).1 1).trans rfl, (blk_cell (hS2).1 2).trans rfl, (blk_cell (hS2).1 3).trans rfl, (blk_cell (hS2).1 4).trans rfl, (blk_cell (hS2).1 5).trans rfl, (blk_cell (hS2).1 6).trans rfl, (blk_cell (hS2).1 7).trans rfl⟩ (fun hHeld => ?_)
    clear hK K
    refine norm_ (a' := ?_) ?_ ?_
    rotate_left
    · show Act.put _ (some 45) _ = _
      simp only [putAll, Act.put, List.setIfInBounds_toArray, List.set_cons_zero, List.set_cons_succ]
      rfl
    refine pure_ (i := 10) (N := some 35) (v := ?_) (a' := ?_) #[true, true, true, true, true, true, true, true, true, true, true, false, false, false, true, false, false, false] rfl rfl (by kernel_rfl) (fun _ _ _ h => h) (Or.inl ⟨by rfl, ?_⟩) ?_ ?_
    rotate_left
    · intro w'
      go_simp
      with_reducible rfl
    rotate_left
    · simp only [putAll, Act.put, List.setIfInBounds_toArray, List.set_cons_zero, List.set_cons_succ]
      rfl
    refine pure_ (i := 11) (N := some 46) (v := ?_) (a' := ?_) #[true, true, true, true, true, true, true, true, true, true, true, true, false, false, true, false, false, false] rfl rfl (by kernel_rfl) (fun _ _ _ h => h) (Or.inl ⟨by rfl, ?_⟩) ?_ ?_
    rotate_left
    · intro w'
      go_simp
      with_reducible rfl
    rotate_left
    · simp only [putAll, Act.put, List.setIfInBounds_toArray, List.set_cons_zero, List.set_cons_succ]
      rfl
    refine pure_ (i := 12) (N := some 47) (v := ?_) (a' := ?_) #[true, true, true, true, true, true, true, true, true, true, true, true, true, false, true, false, false, false] rfl rfl (by kernel_rfl) (fun _ _ _ h => h) (Or.inl ⟨by rfl, ?_⟩) ?_ ?_
    rotate_left
    · intro w'
      go_simp
      with_reducible rfl
    rotate_left
    · simp only [putAll, Act.put, List.setIfInBounds_toArray, List.set_cons_zero, List.set_cons_succ]
      rfl
    refine pure_ (i := 13) (N := some 48) (v := ?_) (a' := ?_) #[true, true, true, true, true, true, true, true, true, true, true, true, true, true, true, false, false, false] rfl rfl (by kernel_rfl) (fun _ _ _ h => h) (Or.inl ⟨by rfl, ?_⟩) ?_ ?_
    rotate_left
    · intro w'
      go_simp
      with_reducible rfl
    rotate_left
    · simp only [putAll, Act.put, List.setIfInBounds_toArray, List.set_cons_zero, List.set_cons_succ]
      rfl
    refine norm_ ?_ (hcont wd.heap.size _ ⟨hS2, hR2, hf2.blk (blk_new wd _) (Nat.ne_of_gt H.out.2.lt), Nat.ne_of_lt H.out.lt, Nat.ne_of_lt H.out.2.lt, HRW.out.size⟩)
    simp only [putAll, Act.put, List.setIfInBounds_toArray, List.set_cons_zero, List.set_cons_succ]
set_option maxHeartbeats 2000000 in
set_option maxRecDepth 100000 in
theorem shNew_left (ks mb : Nat) (s : Sh) (w : World) (h : ShAt ks mb w s) (h0 : s.left = 0) :
    Calls Tryz.prog 25 #[.pointer (some ⟨ks, 0, none⟩)] w fun e w' => e = .returned (.tuple #[.int .i64 0, .int .i64 11]) ∧ ShAt ks mb w' s.dec ∧ Fr (ShF ks mb) w w' := by
  have H := Aside0.mk h
  have hbc := fun W hW => begin_calls ks mb s 1 W hW (by omega)
  rw [show s.beg 1 = 11 by unfold Sh.beg; rw [if_pos h0]] at hbc
  have HBC := Aside0.mk hbc
  clear h h0 hbc
  go_enter Tryz.func25, Tryz.ntmps25
  go_wp2_with fail
  refine (HBC.out w H.out).mono ?_
  rintro e w1 ⟨rfl, hs1, hf1⟩
  replace H := Aside0.mk hs1
  have HRW := Aside0.mk hf1
  clear hs1 hf1 HBC
  go_wp2
  go_ret2
  exact ⟨rfl, H.out, HRW.out⟩
end Go.Proofs.YtonbipaajhokfaaGreatDoor
end
