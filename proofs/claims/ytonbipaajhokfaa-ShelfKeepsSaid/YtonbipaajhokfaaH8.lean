/-
  Walk: awake of layer 10.
-/
import Derived.Test.YtonbipaajhokfaaH5
import Derived.Test.YtonbipaajhokfaaH6
import Derived.Test.YtonbipaajhokfaaH7
set_option linter.unusedVariables false
set_option linter.unusedSimpArgs false
namespace Go.Proofs.Ytonbipaajhokfaa
open Go.RowKit Go.Proofs.YtonbipaajhokfaaW.PrintWords Go.Proofs.YtonbipaajhokfaaW.PrintLast Go.Proofs.YtonbipaajhokfaaW.PrintMore

/-- A shelf of the call's own, from B on. -/
structure Own (ks mb B : Nat) (w0 w : World) (s : Sh) : Prop where
  at_ : ShAt ks mb w s
  ks : B ≤ ks
  mb : B ≤ mb
  base : Below B w0 w
  size : B ≤ w.heap.size
section
variable {ks mb B : Nat} {w0 w w' : World} {s s' : Sh}
theorem Own.below (h : Own ks mb B w0 w s) (hb : Below w.heap.size w w') : Own ks mb B w0 w' s :=
  ⟨h.at_.below hb, h.ks, h.mb, h.base.trans (hb.mono h.size), Nat.le_trans h.size hb.size⟩
theorem Own.fr (h : Own ks mb B w0 w s) (hs : ShAt ks mb w' s') (hf : Fr (ShF ks mb) w w') : Own ks mb B w0 w' s' :=
  ⟨hs, h.ks, h.mb, h.base.trans (hf.below (fun k hk => by rcases hk with e | e; rw [e]; exact h.ks; rw [e]; exact h.mb) h.size), Nat.le_trans h.size hf.size⟩
end

theorem field35_1 (a c d e f : Value) (b' : Int) (W : World) : (Instr.field 35 (.agg #[a, .int .i64 b', c, d, e, f]) 1).run Try.prog W = .ok (.int .i64 b') W := by kernel_rfl
theorem field35_3 (a b c e f : Value) (b' : Int) (W : World) : (Instr.field 35 (.agg #[a, b, c, .int .i64 b', e, f]) 3).run Try.prog W = .ok (.int .i64 b') W := by kernel_rfl
/-- What awake asks of its shelf. -/
theorem awake10_plain (mb : Nat) : ∃ s1 s2 s4 s5 s6 : Sh,
    (Sh.start 3).new mb = (s1, 1, 0) ∧ s1.new mb = (s2, 2, 0) ∧ s2.new mb = (s2, 0, 22) ∧ s2.put 1 (bs (fullL [120])) = (s4, 0) ∧ s4.free mb 1 = (s5, 0) ∧ s5.new mb = (s6, 1, 0) ∧
    s6.get 1 = (bs blankL, 0) ∧ s6.get 3 = (⟨#[]⟩, 21) ∧ (⟨s6.limit, s6.hd, s6.f, 0⟩ : Sh).get 1 = (⟨#[]⟩, 11) ∧ s6.hd.pages = 3 ∧
    (Sh.start 3).bd ∧ s1.bd ∧ s2.bd ∧ s4.bd ∧ s5.bd ∧ s1.left = -1 ∧ s2.left = -1 ∧ s4.left = -1 ∧ s5.left = -1 ∧ s6.left = -1 := by
  have g0 : Good 3 (Sh.start 3) [] 1 0 := Good.start (by decide) (by decide)
  obtain ⟨s1, n1, p1, L1, a1, g1, a2, a3, a4, a5, -, a6⟩ := g0.new2 mb (by decide)
  have z1 := g1.sum
  simp at z1
  obtain ⟨s2, n2, p2, L2, b1, g2, b2, b3, b4, b5, -, b7⟩ := g1.new2 mb (by simp)
  have z2 := g2.sum
  simp at z2
  have e1 : n1 = 1 := by omega
  have b6 : n2 ≠ n1 := fun e => b5 (by rw [e]; simp)
  have e2 : n2 = 2 := by omega
  subst e1 e2
  have r3 := g2.room mb (by simp)
  have gb := g2.beg (n := 1) (by decide) (by omega)
  have hp : s2.put 1 (bs (fullL [120])) = (⟨s2.limit, s2.hd, upd s2.f 1 (bs (fullL [120])), s2.left⟩, 0) := by
    unfold Sh.put
    rw [if_neg (by simp [gb]), if_neg (by rw [bs_size, fullL_length]; decide)]
  have g4 : Good 3 ⟨s2.limit, s2.hd, upd s2.f 1 (bs (fullL [120])), s2.left⟩ [1, 2] p2 L2 := by
    obtain ⟨t, c, h1, h2, h3, h4, h5, h6, h7, h8⟩ := g2
    refine ⟨t, c, h1, h2, h3, h4, h5.keep (fun x hx => ?_), h6, h7, h8⟩
    have hL : L2 = 0 := by omega
    rw [hL] at h4
    rw [List.eq_nil_of_length_eq_zero h4] at hx
    simp at hx
  obtain ⟨s5, c1, g5⟩ := g4.free mb (k := 0) (by simp)
  obtain ⟨s6, n6, p6, L6, d1, g6, d2, d3, d4, d5, d6, d7⟩ := g5.new2 mb (by simp)
  have z6 := g6.sum
  have z5 := g5.sum
  simp at z6 z5
  have e6 : n6 = 1 := by simp at d5; omega
  subst e6
  obtain ⟨t6, hh6⟩ := g6.pages
  refine ⟨s1, s2, _, s5, s6, a1, b1, r3, hp, c1, d1, ?_, ?_, ?_, ?_, g0.bd, g1.bd, g2.bd, g4.bd, g5.bd, g1.left, g2.left, g4.left, g5.left, g6.left⟩
  · unfold Sh.get
    rw [g6.beg (by decide) (by omega), if_neg (by decide), d6]
  · have hb : s6.beg 3 = 21 := by
      unfold Sh.beg
      rw [g6.left, hh6, if_neg (by decide), if_pos (Or.inr (by dsimp only; omega))]
    unfold Sh.get
    rw [hb, if_pos (by decide)]
  · have hb : (⟨s6.limit, s6.hd, s6.f, 0⟩ : Sh).beg 1 = 11 := by unfold Sh.beg; rw [if_pos rfl]
    unfold Sh.get
    rw [hb, if_pos (by decide)]
  · rw [hh6]; dsimp only; omega
set_option maxHeartbeats 2000000 in
set_option maxRecDepth 100000 in
theorem awake10_calls (w : World) : Calls Try.prog 25 #[] w fun e w' => e = .returned (.bool true) ∧ Below w.heap.size w w' := by
  have hu35 := Try.underlying35
  go_enter Try.func25, Try.ntmps25
  go_wp2_with fail
  refine (shelfNew_calls 3 w (by decide) (by decide)).mono ?_
  rintro e w0 ⟨ks, mb, rfl, hS, hk1, hk2, hB⟩
  have HO := Aside0.mk (show Own ks mb w.heap.size w w0 (Sh.start 3) from ⟨hS, hk1, hk2, hB, hB.size⟩)
  obtain ⟨s1, s2, s4, s5, s6, e1, e2, e3, e4, e5, e6, e7, e8, e9, e10, b0, b1, b2, b4, b5, l1, l2, l4, l5, l6⟩ := awake10_plain mb
  clear hS hk1 hk2 hB
  have c1 := fun W hW => shNew_calls ks mb (Sh.start 3) W hW (by decide) b0
  have c2 := fun W hW => shNew_calls ks mb s1 W hW (by omega) b1
  have c3 := fun W hW => shNew_calls ks mb s2 W hW (by omega) b2
  have c4 := fun W hW => shPut_calls ks mb s2 1 (bs (fullL [120])) W hW (by omega)
  have c5 := fun W hW => shFree_calls ks mb s4 1 W hW (by omega) b4
  have c6 := fun W hW => shNew_calls ks mb s5 W hW (by omega) b5
  have c7 := fun W hW => shGet_calls ks mb s6 1 W hW (by omega)
  have c8 := fun W hW => shGet_calls ks mb s6 3 W hW (by omega)
  have c9 := fun W hW => shGet_calls ks mb ⟨s6.limit, s6.hd, s6.f, 0⟩ 1 W hW (Int.le_refl 0)
  rw [e1] at c1
  rw [e2] at c2
  rw [e3] at c3
  rw [e4] at c4
  rw [e5] at c5
  rw [e6] at c6
  rw [e7] at c7
  rw [e8] at c8
  rw [e9] at c9
  have C1 := Aside0.mk c1
  have C2 := Aside0.mk c2
  have C3 := Aside0.mk c3
  have C4 := Aside0.mk c4
  have C5 := Aside0.mk c5
  have C6 := Aside0.mk c6
  have C7 := Aside0.mk c7
  have C8 := Aside0.mk c8
  have C9 := Aside0.mk c9
  have E10 := Aside0.mk e10
  clear c1 c2 c3 c4 c5 c6 c7 c8 c9 e1 e2 e3 e4 e5 e6 e7 e8 e9 e10 b0 b1 b2 b4 b5 l1 l2 l4 l5 l6
  go_wp2_with fail
  refine (C1.out _ HO.out.at_).mono ?_
  rintro e w1 ⟨rfl, hs, hf⟩
  replace HO := Aside0.mk (HO.out.fr hs hf)
  clear hs hf C1
  go_wp2_with fail
  refine (C2.out _ HO.out.at_).mono ?_
  rintro e w2 ⟨rfl, hs, hf⟩
  replace HO := Aside0.mk (HO.out.fr hs hf)
  clear hs hf C2
  go_wp2_with fail
  refine (C3.out _ HO.out.at_).mono ?_
  rintro e w3 ⟨rfl, hs, hf⟩
  replace HO := Aside0.mk (HO.out.fr hs hf)
  clear hs hf C3
  go_wp2_with fail
  refine (full_calls ⟨#[120]⟩ w3).mono ?_
  rintro e w4 ⟨rfl, hb⟩
  replace HO := Aside0.mk (HO.out.below hb)
  clear hb
  go_wp2_with fail
  refine (C4.out _ HO.out.at_).mono ?_
  rintro e w5 ⟨rfl, hs, hf⟩
  replace HO := Aside0.mk (HO.out.fr hs hf)
  clear hs hf C4
  go_wp2_with fail
  refine (C5.out _ HO.out.at_).mono ?_
  rintro e w6 ⟨rfl, hs, hf⟩
  replace HO := Aside0.mk (HO.out.fr hs hf)
  clear hs hf C5
  go_wp2_with fail
  refine (C6.out _ HO.out.at_).mono ?_
  rintro e w7 ⟨rfl, hs, hf⟩
  replace HO := Aside0.mk (HO.out.fr hs hf)
  clear hs hf C6
  go_wp2_with fail
  refine (C7.out _ HO.out.at_).mono ?_
  rintro e w8 ⟨rfl, hb⟩
  replace HO := Aside0.mk (HO.out.below hb)
  clear hb C7
  go_wp2_with fail
  refine (C8.out _ HO.out.at_).mono ?_
  rintro e w9 ⟨rfl, hb⟩
  replace HO := Aside0.mk (HO.out.below hb)
  clear hb C8
  go_wp2_with fail
  refine (shArm_calls ks mb s6 1 _ HO.out.at_ (by decide) (by decide)).mono ?_
  rintro e w10 ⟨rfl, hs, hf⟩
  replace HO := Aside0.mk (HO.out.fr hs hf)
  clear hs hf
  go_wp2_with fail
  refine (C9.out _ HO.out.at_).mono ?_
  rintro e w11 ⟨rfl, hb⟩
  replace HO := Aside0.mk (HO.out.below hb)
  clear hb C9
  go_wp2_with fail
  refine (full_empty_calls w11).mono ?_
  rintro e w12 ⟨rfl, hb⟩
  replace HO := Aside0.mk (HO.out.below hb)
  clear hb
  have hh := fun W hW => shHead_calls ks mb ⟨s6.limit, s6.hd, s6.f, 1 - 1⟩ W hW
  unfold Hd.v at hh
  dsimp only at hh
  rw [E10.out] at hh
  have HHC := Aside0.mk hh
  clear hh
  go_wp2_with fail
  refine (HHC.out _ HO.out.at_).mono ?_
  rintro e w13 ⟨rfl, hb⟩
  replace HO := Aside0.mk (HO.out.below hb)
  clear hb HHC
  have hfd := field35_1
  go_wp2
  go_ret
  exact ⟨rfl, HO.out.base⟩
end Go.Proofs.Ytonbipaajhokfaa
