/-
  awake.
-/
import Derived.Test.YtonbipaajhokfaaKE
set_option linter.unusedVariables false
set_option linter.unusedSimpArgs false
namespace Go.Proofs.Ytonbipaajhokfaa
open Go.RowKit Go.Proofs.YtonbipaajhokfaaW.PrintWords Go.Proofs.YtonbipaajhokfaaW.PrintLast Go.Proofs.YtonbipaajhokfaaW.PrintMore

theorem desk_new_ok (kd kb : Nat) : (deskLive kd kb).ok 10 Desk.new := by
  show _ ∧ _ ∧ _
  unfold Desk.new
  simp

/-- What awake asks of its desk. -/
theorem awake_plain (kd kb : Nat) : ∃ s1 s2 s3 s4 : Desk, ∃ t1 t2 t3 : Int,
    (deskShop kd kb).take Desk.new ⟨1, 5, 0, 0, 0, 0⟩ = (Desk.new, 5, ⟨1, 6, 0, 0, 0, 0⟩, 0) ∧
    (deskShop kd kb).give Desk.new ⟨1, 6, 0, 0, 0, 0⟩ 3 = (s1, ⟨1, 6, t1, 1, 0, 0⟩, 0) ∧
    (deskShop kd kb).give s1 ⟨1, 6, t1, 1, 0, 0⟩ 4 = (s2, ⟨1, 6, t2, 2, 0, 0⟩, 0) ∧
    (deskShop kd kb).take s2 ⟨1, 6, t2, 2, 0, 0⟩ = (s3, 4, ⟨1, 6, t3, 1, 0, 0⟩, 0) ∧
    (deskShop kd kb).take s3 ⟨1, 6, t3, 1, 0, 0⟩ = (s4, 3, ⟨1, 6, 0, 0, 0, 0⟩, 0) ∧
    (deskShop kd kb).fits Desk.new ∧ (deskShop kd kb).fits s1 ∧ (deskShop kd kb).fits s2 ∧ (deskShop kd kb).fits s3 := by
  have k0 := desk_new_ok kd kb
  obtain ⟨s1, t1, c1, e1, g1, f1, k1⟩ := (deskLive kd kb).give (k := 8) (hd := ⟨1, 6, 0, 0, 0, 0⟩) (c := []) (n := 3) k0 rfl rfl (by decide) (by decide) (by decide) (by decide) (by decide) (by decide)
  obtain ⟨s2, t2, c2, e2, g2, f2, k2⟩ := (deskLive kd kb).give (k := 6) (hd := ⟨1, 6, t1, 1, 0, 0⟩) (c := c1) (n := 4) k1 g1 (by rw [f1]; rfl) (by decide) (by show (4 : Int) < 6; decide) (by show (6 : Int) ≤ 4096; decide) (by show (1 : Int) < 6 - 1; decide) (by rw [f1]; decide) (by rw [f1]; decide)
  obtain ⟨s3, t3, c3, e3, g3, f3, k3⟩ := (deskLive kd kb).take (k := 4) (hd := ⟨1, 6, t2, 2, 0, 0⟩) (c := c2) (x := 4) (st := [3]) k2 g2 (by rw [f2, f1]; rfl) (by rw [f2, f1]; rfl) (by rw [f2, f1]; intro y hy; simp [flat] at hy; dsimp only; omega) (by rw [f2, f1]; decide)
  obtain ⟨s4, t4, c4, e4, g4, f4, k4⟩ := (deskLive kd kb).take (k := 2) (hd := ⟨1, 6, t3, 1, 0, 0⟩) (c := c3) (x := 3) (st := []) k3 g3 f3 (by rw [f3]; rfl) (by rw [f3]; intro y hy; simp at hy; dsimp only; omega) (by rw [f3]; decide)
  have ht4 : t4 = 0 := by
    rcases g4.top with h | h
    · exact h.1
    · rw [f4] at h; simp at h
  subst ht4
  exact ⟨s1, s2, s3, s4, t1, t2, t3, take_none _ _ _ rfl (by decide), e1, e2, e3, e4, (deskLive kd kb).fits k0, (deskLive kd kb).fits k1, (deskLive kd kb).fits k2, (deskLive kd kb).fits k3⟩

theorem Hold.takeE {St : Type} {S : Shop St} {B : Nat} {w0 w : World} {s s' : St} {F : Nat → Prop} {m p t sp r ch x m' p' t' sp' r' ch' e' : Int} (h : Hold S B w0 w s F)
    (E : S.take s ⟨m, p, t, sp, r, ch⟩ = (s', x, ⟨m', p', t', sp', r', ch'⟩, e')) (hfit : S.fits s) (hp0 : 0 ≤ p) (hs0 : 0 ≤ sp) (hs1 : sp ≤ 4096) :
    Calls Try.prog 20 #[.agg #[.int .i64 m, .int .i64 p, .int .i64 t, .int .i64 sp, .int .i64 r, .int .u64 ch], .iface S.T S.x] w fun e w' =>
      e = .returned (.tuple #[.int .i64 x, .agg #[.int .i64 m', .int .i64 p', .int .i64 t', .int .i64 sp', .int .i64 r', .int .u64 ch'], .int .i64 e']) ∧ ∃ F', Hold S B w0 w' s' F' ∧ Past F F' w w' := by
  have := h.take ⟨m, p, t, sp, r, ch⟩ hfit hp0 hs0 hs1
  rw [E] at this
  exact this
theorem Hold.giveE {St : Type} {S : Shop St} {B : Nat} {w0 w : World} {s s' : St} {F : Nat → Prop} {m p t sp r ch n m' p' t' sp' r' ch' e' : Int} (h : Hold S B w0 w s F)
    (E : S.give s ⟨m, p, t, sp, r, ch⟩ n = (s', ⟨m', p', t', sp', r', ch'⟩, e')) (hfit : S.fits s) (hp0 : 0 ≤ p) (hp1 : p ≤ 4096) (hs0 : 0 ≤ sp) :
    Calls Try.prog 22 #[.agg #[.int .i64 m, .int .i64 p, .int .i64 t, .int .i64 sp, .int .i64 r, .int .u64 ch], .iface S.T S.x, .int .i64 n] w fun e w' =>
      e = .returned (.tuple #[.agg #[.int .i64 m', .int .i64 p', .int .i64 t', .int .i64 sp', .int .i64 r', .int .u64 ch'], .int .i64 e']) ∧ ∃ F', Hold S B w0 w' s' F' ∧ Past F F' w w' := by
  have := h.give ⟨m, p, t, sp, r, ch⟩ n hfit hp0 hp1 hs0
  rw [E] at this
  exact this
theorem C_one (w : World) (x : Int) : Kd.C (Kd.int .i64) (w.alloc (.cells #[.int .i64 x] 3)) (some ⟨w.heap.size, 0, none⟩) ([x] : List Int).length [x] :=
  Kd.C_of_reads (d := 0) ⟨rfl, by simp, fun _ => ⟨_, rfl, fun j hj => by
    have : j = 0 := by simp at hj; omega
    subst this
    exact (blk_cell (blk_new w _) 0).trans rfl⟩⟩
theorem page79 : (bs (trunkPage 7 [9])).extract 0 10 = ⟨#[4, 0, 0, 0, 7, 1, 0, 0, 0, 9]⟩ := by decide +kernel
theorem size79 : (bs (trunkPage 7 [9])).size = 232 := by rw [bs_size, trunkPage_length _ _ (by decide)]
theorem encB79 : encB 7 [9] = trunkPage 7 [9] := by unfold encB; rw [if_pos (by decide)]
theorem encE79 : encE 7 [9] = 0 := by unfold encE; rw [if_pos (by decide)]

set_option maxHeartbeats 4000000 in
set_option maxRecDepth 100000 in
theorem awake_calls (w : World) : Calls Try.prog 11 #[] w fun e w' => e = .returned (.bool true) ∧ Below w.heap.size w w' := by
  have hu35 := Try.underlying35
  have hu24 := Try.underlying24
  have hp79 := page79
  have hs79 := size79
  go_enter Try.func11, Try.ntmps11
  go_wp2_with fail
  refine (fresh_calls _).mono ?_
  rintro e w0 ⟨kd, kb, rfl, F1, hA, hF, hB⟩
  obtain ⟨s1, s2, s3, s4, t1, t2, t3, e1, e2, e3, e4, e5, q0, q1, q2, q3⟩ := awake_plain kd kb
  have E1 := Aside0.mk e1
  have E2 := Aside0.mk e2
  have E3 := Aside0.mk e3
  have E4 := Aside0.mk e4
  have E5 := Aside0.mk e5
  have Q0 := Aside0.mk q0
  have Q1 := Aside0.mk q1
  have Q2 := Aside0.mk q2
  have Q3 := Aside0.mk q3
  have HH0 := Aside0.mk (show Hold (deskShop kd kb) w.heap.size w w0 Desk.new F1 from ⟨hA, hF, hB, hB.size⟩)
  clear e1 e2 e3 e4 e5 q0 q1 q2 q3 hA hF hB
  obtain ⟨g, hg⟩ : ∃ g, g = w0.heap.size := ⟨_, rfl⟩
  obtain ⟨w1, hw1⟩ : ∃ w1, w1 = w0.alloc (.cells #[.int .i64 1, .int .i64 5, .int .i64 0, .int .i64 0, .int .i64 0, .int .u64 0] 35) := ⟨_, rfl⟩
  have HK1 := Aside0.mk (show w1.heap[g]? = some (.cells #[.int .i64 1, .int .i64 5, .int .i64 0, .int .i64 0, .int .i64 0, .int .u64 0] 35 (0, 0)) by rw [hw1, hg]; exact blk_new w0 _)
  have HH1 := Aside0.mk (show Hold (deskShop kd kb) w.heap.size w w1 Desk.new F1 by rw [hw1]; exact HH0.out.below (below_alloc (Below.refl _ _) _))
  have HN1 := Aside0.mk (show ¬ F1 g by rw [hg]; exact HH0.out.fresh)
  have HG := Aside0.mk (show w.heap.size ≤ g by rw [hg]; exact HH0.out.2.2.2)
  have a0 : w1.cell? ⟨g, 0, none⟩ = some (.int .i64 1) := (blk_cell HK1.out 0).trans rfl
  have a1 : w1.cell? ⟨g, 1, none⟩ = some (.int .i64 5) := (blk_cell HK1.out 1).trans rfl
  have a2 : w1.cell? ⟨g, 2, none⟩ = some (.int .i64 0) := (blk_cell HK1.out 2).trans rfl
  have a3 : w1.cell? ⟨g, 3, none⟩ = some (.int .i64 0) := (blk_cell HK1.out 3).trans rfl
  have a4 : w1.cell? ⟨g, 4, none⟩ = some (.int .i64 0) := (blk_cell HK1.out 4).trans rfl
  have a5 : w1.cell? ⟨g, 5, none⟩ = some (.int .u64 0) := (blk_cell HK1.out 5).trans rfl
  have af0 : w1.frozen? ⟨g, 0, none⟩ = false := blk_frozen HK1.out 0
  have af1 : w1.frozen? ⟨g, 1, none⟩ = false := blk_frozen HK1.out 1
  have af2 : w1.frozen? ⟨g, 2, none⟩ = false := blk_frozen HK1.out 2
  have af3 : w1.frozen? ⟨g, 3, none⟩ = false := blk_frozen HK1.out 3
  have af4 : w1.frozen? ⟨g, 4, none⟩ = false := blk_frozen HK1.out 4
  have af5 : w1.frozen? ⟨g, 5, none⟩ = false := blk_frozen HK1.out 5
  go_wp2_with fail
  rw [← hw1, ← hg]
  clear hw1 hg HH0
  refine (Hold.takeE HH1.out E1.out (Q0).out (by decide) (by decide) (by decide)).mono ?_
  rintro e w2 ⟨rfl, F2, hH2, hP2⟩
  have HK2 := Aside0.mk (hP2.blk HK1.out HN1.out)
  have HN2 := Aside0.mk (hP2.out HK1.out HN1.out)
  have HH2 := Aside0.mk hH2
  clear hH2 hP2
  clear a0 af0 a1 af1 a2 af2 a3 af3 a4 af4 a5 af5
  have a0 : w2.cell? ⟨g, 0, none⟩ = some (.int .i64 1) := (blk_cell HK2.out 0).trans rfl
  have a1 : w2.cell? ⟨g, 1, none⟩ = some (.int .i64 5) := (blk_cell HK2.out 1).trans rfl
  have a2 : w2.cell? ⟨g, 2, none⟩ = some (.int .i64 0) := (blk_cell HK2.out 2).trans rfl
  have a3 : w2.cell? ⟨g, 3, none⟩ = some (.int .i64 0) := (blk_cell HK2.out 3).trans rfl
  have a4 : w2.cell? ⟨g, 4, none⟩ = some (.int .i64 0) := (blk_cell HK2.out 4).trans rfl
  have a5 : w2.cell? ⟨g, 5, none⟩ = some (.int .u64 0) := (blk_cell HK2.out 5).trans rfl
  have af0 : w2.frozen? ⟨g, 0, none⟩ = false := blk_frozen HK2.out 0
  have af1 : w2.frozen? ⟨g, 1, none⟩ = false := blk_frozen HK2.out 1
  have af2 : w2.frozen? ⟨g, 2, none⟩ = false := blk_frozen HK2.out 2
  have af3 : w2.frozen? ⟨g, 3, none⟩ = false := blk_frozen HK2.out 3
  have af4 : w2.frozen? ⟨g, 4, none⟩ = false := blk_frozen HK2.out 4
  have af5 : w2.frozen? ⟨g, 5, none⟩ = false := blk_frozen HK2.out 5
  go_wp2_with fail
  clear a0 af0 a1 af1 a2 af2 a3 af3 a4 af4 a5 af5
  generalize hw2 : ((((((w2.setCell ⟨g, 0, none⟩ (.int .i64 1)).setCell ⟨g, 1, none⟩ (.int .i64 6)).setCell ⟨g, 2, none⟩ (.int .i64 0)).setCell ⟨g, 3, none⟩ (.int .i64 0)).setCell ⟨g, 4, none⟩ (.int .i64 0)).setCell ⟨g, 5, none⟩ (.int .u64 0)) = w2x
  have HK2x := Aside0.mk (show w2x.heap[g]? = some (.cells #[.int .i64 1, .int .i64 6, .int .i64 0, .int .i64 0, .int .i64 0, .int .u64 0] 35 (0, 0)) by rw [← hw2]; exact put6 HK2.out _ _ _ _ _ _)
  have HH2x := Aside0.mk (show Hold (deskShop kd kb) w.heap.size w w2x _ F2 by rw [← hw2]; exact HH2.out.set6 HN2.out HG.out _ _ _ _ _ _)
  clear hw2
  have a0 : w2x.cell? ⟨g, 0, none⟩ = some (.int .i64 1) := (blk_cell HK2x.out 0).trans rfl
  have a1 : w2x.cell? ⟨g, 1, none⟩ = some (.int .i64 6) := (blk_cell HK2x.out 1).trans rfl
  have a2 : w2x.cell? ⟨g, 2, none⟩ = some (.int .i64 0) := (blk_cell HK2x.out 2).trans rfl
  have a3 : w2x.cell? ⟨g, 3, none⟩ = some (.int .i64 0) := (blk_cell HK2x.out 3).trans rfl
  have a4 : w2x.cell? ⟨g, 4, none⟩ = some (.int .i64 0) := (blk_cell HK2x.out 4).trans rfl
  have a5 : w2x.cell? ⟨g, 5, none⟩ = some (.int .u64 0) := (blk_cell HK2x.out 5).trans rfl
  have af0 : w2x.frozen? ⟨g, 0, none⟩ = false := blk_frozen HK2x.out 0
  have af1 : w2x.frozen? ⟨g, 1, none⟩ = false := blk_frozen HK2x.out 1
  have af2 : w2x.frozen? ⟨g, 2, none⟩ = false := blk_frozen HK2x.out 2
  have af3 : w2x.frozen? ⟨g, 3, none⟩ = false := blk_frozen HK2x.out 3
  have af4 : w2x.frozen? ⟨g, 4, none⟩ = false := blk_frozen HK2x.out 4
  have af5 : w2x.frozen? ⟨g, 5, none⟩ = false := blk_frozen HK2x.out 5
  refine (Hold.giveE HH2x.out E2.out (Q0).out (by decide) (by decide) (by decide)).mono ?_
  rintro e w3 ⟨rfl, F3, hH3, hP3⟩
  have HK3 := Aside0.mk (hP3.blk HK2x.out HN2.out)
  have HN3 := Aside0.mk (hP3.out HK2x.out HN2.out)
  have HH3 := Aside0.mk hH3
  clear hH3 hP3
  clear a0 af0 a1 af1 a2 af2 a3 af3 a4 af4 a5 af5
  have a0 : w3.cell? ⟨g, 0, none⟩ = some (.int .i64 1) := (blk_cell HK3.out 0).trans rfl
  have a1 : w3.cell? ⟨g, 1, none⟩ = some (.int .i64 6) := (blk_cell HK3.out 1).trans rfl
  have a2 : w3.cell? ⟨g, 2, none⟩ = some (.int .i64 0) := (blk_cell HK3.out 2).trans rfl
  have a3 : w3.cell? ⟨g, 3, none⟩ = some (.int .i64 0) := (blk_cell HK3.out 3).trans rfl
  have a4 : w3.cell? ⟨g, 4, none⟩ = some (.int .i64 0) := (blk_cell HK3.out 4).trans rfl
  have a5 : w3.cell? ⟨g, 5, none⟩ = some (.int .u64 0) := (blk_cell HK3.out 5).trans rfl
  have af0 : w3.frozen? ⟨g, 0, none⟩ = false := blk_frozen HK3.out 0
  have af1 : w3.frozen? ⟨g, 1, none⟩ = false := blk_frozen HK3.out 1
  have af2 : w3.frozen? ⟨g, 2, none⟩ = false := blk_frozen HK3.out 2
  have af3 : w3.frozen? ⟨g, 3, none⟩ = false := blk_frozen HK3.out 3
  have af4 : w3.frozen? ⟨g, 4, none⟩ = false := blk_frozen HK3.out 4
  have af5 : w3.frozen? ⟨g, 5, none⟩ = false := blk_frozen HK3.out 5
  go_wp2_with fail
  clear a0 af0 a1 af1 a2 af2 a3 af3 a4 af4 a5 af5
  generalize hw3 : ((((((w3.setCell ⟨g, 0, none⟩ (.int .i64 1)).setCell ⟨g, 1, none⟩ (.int .i64 6)).setCell ⟨g, 2, none⟩ (.int .i64 t1)).setCell ⟨g, 3, none⟩ (.int .i64 1)).setCell ⟨g, 4, none⟩ (.int .i64 0)).setCell ⟨g, 5, none⟩ (.int .u64 0)) = w3x
  have HK3x := Aside0.mk (show w3x.heap[g]? = some (.cells #[.int .i64 1, .int .i64 6, .int .i64 t1, .int .i64 1, .int .i64 0, .int .u64 0] 35 (0, 0)) by rw [← hw3]; exact put6 HK3.out _ _ _ _ _ _)
  have HH3x := Aside0.mk (show Hold (deskShop kd kb) w.heap.size w w3x _ F3 by rw [← hw3]; exact HH3.out.set6 HN3.out HG.out _ _ _ _ _ _)
  clear hw3
  have a0 : w3x.cell? ⟨g, 0, none⟩ = some (.int .i64 1) := (blk_cell HK3x.out 0).trans rfl
  have a1 : w3x.cell? ⟨g, 1, none⟩ = some (.int .i64 6) := (blk_cell HK3x.out 1).trans rfl
  have a2 : w3x.cell? ⟨g, 2, none⟩ = some (.int .i64 t1) := (blk_cell HK3x.out 2).trans rfl
  have a3 : w3x.cell? ⟨g, 3, none⟩ = some (.int .i64 1) := (blk_cell HK3x.out 3).trans rfl
  have a4 : w3x.cell? ⟨g, 4, none⟩ = some (.int .i64 0) := (blk_cell HK3x.out 4).trans rfl
  have a5 : w3x.cell? ⟨g, 5, none⟩ = some (.int .u64 0) := (blk_cell HK3x.out 5).trans rfl
  have af0 : w3x.frozen? ⟨g, 0, none⟩ = false := blk_frozen HK3x.out 0
  have af1 : w3x.frozen? ⟨g, 1, none⟩ = false := blk_frozen HK3x.out 1
  have af2 : w3x.frozen? ⟨g, 2, none⟩ = false := blk_frozen HK3x.out 2
  have af3 : w3x.frozen? ⟨g, 3, none⟩ = false := blk_frozen HK3x.out 3
  have af4 : w3x.frozen? ⟨g, 4, none⟩ = false := blk_frozen HK3x.out 4
  have af5 : w3x.frozen? ⟨g, 5, none⟩ = false := blk_frozen HK3x.out 5
  refine (Hold.giveE HH3x.out E3.out (Q1).out (by decide) (by decide) (by decide)).mono ?_
  rintro e w4 ⟨rfl, F4, hH4, hP4⟩
  have HK4 := Aside0.mk (hP4.blk HK3x.out HN3.out)
  have HN4 := Aside0.mk (hP4.out HK3x.out HN3.out)
  have HH4 := Aside0.mk hH4
  clear hH4 hP4
  clear a0 af0 a1 af1 a2 af2 a3 af3 a4 af4 a5 af5
  have a0 : w4.cell? ⟨g, 0, none⟩ = some (.int .i64 1) := (blk_cell HK4.out 0).trans rfl
  have a1 : w4.cell? ⟨g, 1, none⟩ = some (.int .i64 6) := (blk_cell HK4.out 1).trans rfl
  have a2 : w4.cell? ⟨g, 2, none⟩ = some (.int .i64 t1) := (blk_cell HK4.out 2).trans rfl
  have a3 : w4.cell? ⟨g, 3, none⟩ = some (.int .i64 1) := (blk_cell HK4.out 3).trans rfl
  have a4 : w4.cell? ⟨g, 4, none⟩ = some (.int .i64 0) := (blk_cell HK4.out 4).trans rfl
  have a5 : w4.cell? ⟨g, 5, none⟩ = some (.int .u64 0) := (blk_cell HK4.out 5).trans rfl
  have af0 : w4.frozen? ⟨g, 0, none⟩ = false := blk_frozen HK4.out 0
  have af1 : w4.frozen? ⟨g, 1, none⟩ = false := blk_frozen HK4.out 1
  have af2 : w4.frozen? ⟨g, 2, none⟩ = false := blk_frozen HK4.out 2
  have af3 : w4.frozen? ⟨g, 3, none⟩ = false := blk_frozen HK4.out 3
  have af4 : w4.frozen? ⟨g, 4, none⟩ = false := blk_frozen HK4.out 4
  have af5 : w4.frozen? ⟨g, 5, none⟩ = false := blk_frozen HK4.out 5
  go_wp2_with fail
  clear a0 af0 a1 af1 a2 af2 a3 af3 a4 af4 a5 af5
  generalize hw4 : ((((((w4.setCell ⟨g, 0, none⟩ (.int .i64 1)).setCell ⟨g, 1, none⟩ (.int .i64 6)).setCell ⟨g, 2, none⟩ (.int .i64 t2)).setCell ⟨g, 3, none⟩ (.int .i64 2)).setCell ⟨g, 4, none⟩ (.int .i64 0)).setCell ⟨g, 5, none⟩ (.int .u64 0)) = w4x
  have HK4x := Aside0.mk (show w4x.heap[g]? = some (.cells #[.int .i64 1, .int .i64 6, .int .i64 t2, .int .i64 2, .int .i64 0, .int .u64 0] 35 (0, 0)) by rw [← hw4]; exact put6 HK4.out _ _ _ _ _ _)
  have HH4x := Aside0.mk (show Hold (deskShop kd kb) w.heap.size w w4x _ F4 by rw [← hw4]; exact HH4.out.set6 HN4.out HG.out _ _ _ _ _ _)
  clear hw4
  have a0 : w4x.cell? ⟨g, 0, none⟩ = some (.int .i64 1) := (blk_cell HK4x.out 0).trans rfl
  have a1 : w4x.cell? ⟨g, 1, none⟩ = some (.int .i64 6) := (blk_cell HK4x.out 1).trans rfl
  have a2 : w4x.cell? ⟨g, 2, none⟩ = some (.int .i64 t2) := (blk_cell HK4x.out 2).trans rfl
  have a3 : w4x.cell? ⟨g, 3, none⟩ = some (.int .i64 2) := (blk_cell HK4x.out 3).trans rfl
  have a4 : w4x.cell? ⟨g, 4, none⟩ = some (.int .i64 0) := (blk_cell HK4x.out 4).trans rfl
  have a5 : w4x.cell? ⟨g, 5, none⟩ = some (.int .u64 0) := (blk_cell HK4x.out 5).trans rfl
  have af0 : w4x.frozen? ⟨g, 0, none⟩ = false := blk_frozen HK4x.out 0
  have af1 : w4x.frozen? ⟨g, 1, none⟩ = false := blk_frozen HK4x.out 1
  have af2 : w4x.frozen? ⟨g, 2, none⟩ = false := blk_frozen HK4x.out 2
  have af3 : w4x.frozen? ⟨g, 3, none⟩ = false := blk_frozen HK4x.out 3
  have af4 : w4x.frozen? ⟨g, 4, none⟩ = false := blk_frozen HK4x.out 4
  have af5 : w4x.frozen? ⟨g, 5, none⟩ = false := blk_frozen HK4x.out 5
  refine (Hold.takeE HH4x.out E4.out (Q2).out (by decide) (by decide) (by decide)).mono ?_
  rintro e w5 ⟨rfl, F5, hH5, hP5⟩
  have HK5 := Aside0.mk (hP5.blk HK4x.out HN4.out)
  have HN5 := Aside0.mk (hP5.out HK4x.out HN4.out)
  have HH5 := Aside0.mk hH5
  clear hH5 hP5
  clear a0 af0 a1 af1 a2 af2 a3 af3 a4 af4 a5 af5
  have a0 : w5.cell? ⟨g, 0, none⟩ = some (.int .i64 1) := (blk_cell HK5.out 0).trans rfl
  have a1 : w5.cell? ⟨g, 1, none⟩ = some (.int .i64 6) := (blk_cell HK5.out 1).trans rfl
  have a2 : w5.cell? ⟨g, 2, none⟩ = some (.int .i64 t2) := (blk_cell HK5.out 2).trans rfl
  have a3 : w5.cell? ⟨g, 3, none⟩ = some (.int .i64 2) := (blk_cell HK5.out 3).trans rfl
  have a4 : w5.cell? ⟨g, 4, none⟩ = some (.int .i64 0) := (blk_cell HK5.out 4).trans rfl
  have a5 : w5.cell? ⟨g, 5, none⟩ = some (.int .u64 0) := (blk_cell HK5.out 5).trans rfl
  have af0 : w5.frozen? ⟨g, 0, none⟩ = false := blk_frozen HK5.out 0
  have af1 : w5.frozen? ⟨g, 1, none⟩ = false := blk_frozen HK5.out 1
  have af2 : w5.frozen? ⟨g, 2, none⟩ = false := blk_frozen HK5.out 2
  have af3 : w5.frozen? ⟨g, 3, none⟩ = false := blk_frozen HK5.out 3
  have af4 : w5.frozen? ⟨g, 4, none⟩ = false := blk_frozen HK5.out 4
  have af5 : w5.frozen? ⟨g, 5, none⟩ = false := blk_frozen HK5.out 5
  go_wp2_with fail
  clear a0 af0 a1 af1 a2 af2 a3 af3 a4 af4 a5 af5
  generalize hw5 : ((((((w5.setCell ⟨g, 0, none⟩ (.int .i64 1)).setCell ⟨g, 1, none⟩ (.int .i64 6)).setCell ⟨g, 2, none⟩ (.int .i64 t3)).setCell ⟨g, 3, none⟩ (.int .i64 1)).setCell ⟨g, 4, none⟩ (.int .i64 0)).setCell ⟨g, 5, none⟩ (.int .u64 0)) = w5x
  have HK5x := Aside0.mk (show w5x.heap[g]? = some (.cells #[.int .i64 1, .int .i64 6, .int .i64 t3, .int .i64 1, .int .i64 0, .int .u64 0] 35 (0, 0)) by rw [← hw5]; exact put6 HK5.out _ _ _ _ _ _)
  have HH5x := Aside0.mk (show Hold (deskShop kd kb) w.heap.size w w5x _ F5 by rw [← hw5]; exact HH5.out.set6 HN5.out HG.out _ _ _ _ _ _)
  clear hw5
  have a0 : w5x.cell? ⟨g, 0, none⟩ = some (.int .i64 1) := (blk_cell HK5x.out 0).trans rfl
  have a1 : w5x.cell? ⟨g, 1, none⟩ = some (.int .i64 6) := (blk_cell HK5x.out 1).trans rfl
  have a2 : w5x.cell? ⟨g, 2, none⟩ = some (.int .i64 t3) := (blk_cell HK5x.out 2).trans rfl
  have a3 : w5x.cell? ⟨g, 3, none⟩ = some (.int .i64 1) := (blk_cell HK5x.out 3).trans rfl
  have a4 : w5x.cell? ⟨g, 4, none⟩ = some (.int .i64 0) := (blk_cell HK5x.out 4).trans rfl
  have a5 : w5x.cell? ⟨g, 5, none⟩ = some (.int .u64 0) := (blk_cell HK5x.out 5).trans rfl
  have af0 : w5x.frozen? ⟨g, 0, none⟩ = false := blk_frozen HK5x.out 0
  have af1 : w5x.frozen? ⟨g, 1, none⟩ = false := blk_frozen HK5x.out 1
  have af2 : w5x.frozen? ⟨g, 2, none⟩ = false := blk_frozen HK5x.out 2
  have af3 : w5x.frozen? ⟨g, 3, none⟩ = false := blk_frozen HK5x.out 3
  have af4 : w5x.frozen? ⟨g, 4, none⟩ = false := blk_frozen HK5x.out 4
  have af5 : w5x.frozen? ⟨g, 5, none⟩ = false := blk_frozen HK5x.out 5
  refine (Hold.takeE HH5x.out E5.out (Q3).out (by decide) (by decide) (by decide)).mono ?_
  rintro e w6 ⟨rfl, F6, hH6, hP6⟩
  have HK6 := Aside0.mk (hP6.blk HK5x.out HN5.out)
  have HN6 := Aside0.mk (hP6.out HK5x.out HN5.out)
  have HH6 := Aside0.mk hH6
  clear hH6 hP6
  clear a0 af0 a1 af1 a2 af2 a3 af3 a4 af4 a5 af5
  have a0 : w6.cell? ⟨g, 0, none⟩ = some (.int .i64 1) := (blk_cell HK6.out 0).trans rfl
  have a1 : w6.cell? ⟨g, 1, none⟩ = some (.int .i64 6) := (blk_cell HK6.out 1).trans rfl
  have a2 : w6.cell? ⟨g, 2, none⟩ = some (.int .i64 t3) := (blk_cell HK6.out 2).trans rfl
  have a3 : w6.cell? ⟨g, 3, none⟩ = some (.int .i64 1) := (blk_cell HK6.out 3).trans rfl
  have a4 : w6.cell? ⟨g, 4, none⟩ = some (.int .i64 0) := (blk_cell HK6.out 4).trans rfl
  have a5 : w6.cell? ⟨g, 5, none⟩ = some (.int .u64 0) := (blk_cell HK6.out 5).trans rfl
  have af0 : w6.frozen? ⟨g, 0, none⟩ = false := blk_frozen HK6.out 0
  have af1 : w6.frozen? ⟨g, 1, none⟩ = false := blk_frozen HK6.out 1
  have af2 : w6.frozen? ⟨g, 2, none⟩ = false := blk_frozen HK6.out 2
  have af3 : w6.frozen? ⟨g, 3, none⟩ = false := blk_frozen HK6.out 3
  have af4 : w6.frozen? ⟨g, 4, none⟩ = false := blk_frozen HK6.out 4
  have af5 : w6.frozen? ⟨g, 5, none⟩ = false := blk_frozen HK6.out 5
  go_wp2_with fail
  clear a0 af0 a1 af1 a2 af2 a3 af3 a4 af4 a5 af5
  generalize hw6 : ((((((w6.setCell ⟨g, 0, none⟩ (.int .i64 1)).setCell ⟨g, 1, none⟩ (.int .i64 6)).setCell ⟨g, 2, none⟩ (.int .i64 0)).setCell ⟨g, 3, none⟩ (.int .i64 0)).setCell ⟨g, 4, none⟩ (.int .i64 0)).setCell ⟨g, 5, none⟩ (.int .u64 0)) = w6x
  have HK6x := Aside0.mk (show w6x.heap[g]? = some (.cells #[.int .i64 1, .int .i64 6, .int .i64 0, .int .i64 0, .int .i64 0, .int .u64 0] 35 (0, 0)) by rw [← hw6]; exact put6 HK6.out _ _ _ _ _ _)
  have HH6x := Aside0.mk (show Hold (deskShop kd kb) w.heap.size w w6x _ F6 by rw [← hw6]; exact HH6.out.set6 HN6.out HG.out _ _ _ _ _ _)
  have hsz : w6.heap.size = w6x.heap.size := by rw [← hw6]; simp
  rw [hsz]
  clear hw6 hsz
  have HC := Aside0.mk (C_one w6x 9)
  have HB8 := Aside0.mk (below_alloc (Below.refl w6x.heap.size w6x) (.cells #[.int .i64 9] 3))
  refine (encode_calls 7 (some ⟨w6x.heap.size, 0, none⟩) 1 [9] _ HC.out (by decide)).mono ?_
  rintro e w8 ⟨rfl, hb8⟩
  rw [encB79, encE79]
  replace HB8 := Aside0.mk (HB8.out.trans (hb8.mono (by simp)))
  clear HC hb8
  go_wp2_with fail
  refine (decode_calls (bs (trunkPage 7 [9])) w8).mono ?_
  rintro e w9 ⟨v, rfl, hv, hb9⟩
  obtain ⟨hd1, hd2, hd3⟩ := dec_page (next := 7) (l := [9]) (by decide)
  rw [bs_list] at hv ⊢
  rw [hd2] at hv
  rw [hd1, hd3]
  obtain ⟨A, c, rfl⟩ := Kd.R_slice hv
  have HB9 := Aside0.mk (HB8.out.trans (hb9.mono HB8.out.size))
  have HH9 := Aside0.mk (HH6x.out.below HB9.out)
  have HK9 := Aside0.mk (blk_below HK6x.out HB9.out)
  clear hv hb9 HB8 HB9 hd1 hd2 hd3
  have a0 : ∀ o, (w9.alloc o).cell? ⟨g, 0, none⟩ = some (.int .i64 1) := fun o => (blk_cell (blk_alloc HK9.out o) 0).trans rfl
  have a1 : ∀ o, (w9.alloc o).cell? ⟨g, 1, none⟩ = some (.int .i64 6) := fun o => (blk_cell (blk_alloc HK9.out o) 1).trans rfl
  have a2 : ∀ o, (w9.alloc o).cell? ⟨g, 2, none⟩ = some (.int .i64 0) := fun o => (blk_cell (blk_alloc HK9.out o) 2).trans rfl
  have a3 : ∀ o, (w9.alloc o).cell? ⟨g, 3, none⟩ = some (.int .i64 0) := fun o => (blk_cell (blk_alloc HK9.out o) 3).trans rfl
  have a4 : ∀ o, (w9.alloc o).cell? ⟨g, 4, none⟩ = some (.int .i64 0) := fun o => (blk_cell (blk_alloc HK9.out o) 4).trans rfl
  have a5 : ∀ o, (w9.alloc o).cell? ⟨g, 5, none⟩ = some (.int .u64 0) := fun o => (blk_cell (blk_alloc HK9.out o) 5).trans rfl
  go_wp2
  go_ret
  exact ⟨rfl, HH9.out.2.2.1.trans (below_alloc (Below.refl _ _) _ |>.mono HH9.out.2.2.2)⟩
end Go.Proofs.Ytonbipaajhokfaa
