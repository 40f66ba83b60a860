/-
  Walk: SpareFails.
-/
import Derived.Test.YtonbipaajhokfaaD1
set_option linter.unusedVariables false
set_option linter.unusedSimpArgs false
namespace Go.Proofs.Ytonbipaajhokfaa
open Go.RowKit Go.Proofs.YtonbipaajhokfaaW.PrintWords Go.Proofs.YtonbipaajhokfaaW.PrintLast Go.Proofs.YtonbipaajhokfaaW.PrintMore


set_option maxHeartbeats 8000000 in
set_option maxRecDepth 100000 in
theorem spareFails_calls (n0 l0 : Int) (gv : Bool) (w : World) : Calls Try.prog 7 #[.int .i64 n0, .int .i64 l0, .bool gv] w fun e w' => e = .returned (.bool true) ∧ Below w.heap.size w w' := by
  have hu35 := Try.underlying35
  obtain ⟨n, hn⟩ : ∃ n : Nat, (n : Int) = 1 + IntKind.u64.wrap n0 % 150 := ⟨(1 + IntKind.u64.wrap n0 % 150).toNat, by rw [IntKind.wrap_u64]; omega⟩
  have hn0 : 1 ≤ n ∧ n < 200 := by rw [IntKind.wrap_u64] at hn; omega
  obtain ⟨hn3, hn2⟩ := hn0
  obtain ⟨lf, hlf⟩ : ∃ lf : Int, lf = IntKind.u64.wrap l0 % 3 := ⟨_, rfl⟩
  have HL3 : Aside0 (lf = 0 ∨ lf = 1 ∨ lf = 2) := ⟨by rw [IntKind.wrap_u64] at hlf; omega⟩
  go_enter Try.func7, Try.ntmps7
  go_wp2_with (go_at_call 11; refine (awake_calls _).mono ?_; rintro e w0 ⟨rfl, hB0⟩)
  have hw1 : wrap64 ((IntKind.u64.wrap n0).tmod 150) = (n : Int) - 1 := by
    rw [hn, IntKind.wrap_u64, Int.tmod_eq_emod_of_nonneg (by omega)]
    unfold wrap64
    omega
  have hw2 : wrap64 ((IntKind.u64.wrap l0).tmod 3) = lf := by
    rw [hlf, IntKind.wrap_u64, Int.tmod_eq_emod_of_nonneg (by omega)]
    unfold wrap64
    omega
  have hw3 : wrap64 (1 + ((n : Int) - 1)) = (n : Int) := by unfold wrap64; omega
  rw [hw1, hw2, hw3]
  refine (fresh_calls _).mono ?_
  rintro e w1 ⟨kd, kb, rfl, F, hA, hF, hB⟩
  have HH0 := Aside0.mk (show Hold (deskShop kd kb) w.heap.size w w1 Desk.new F from ⟨hA, fun k hk => Nat.le_trans hB0.size (hF k hk), hB0.trans (hB.mono hB0.size), Nat.le_trans hB0.size hB.size⟩)
  clear hA hF hB hB0 hw1 hw2 hw3 hn hlf
  have hn1 : wrap64 ((n : Int) + 2) = (n : Int) + 2 := by unfold wrap64; omega
  go_wp2_with fail
  obtain ⟨g, hg⟩ : ∃ g, g = w1.heap.size := ⟨_, rfl⟩
  obtain ⟨wh, hwh⟩ : ∃ wh, wh = w1.alloc (.cells #[.int .i64 1, .int .i64 ((n : Int) + 2), .int .i64 0, .int .i64 0, .int .i64 0, .int .u64 0] 35) := ⟨_, rfl⟩
  have HK := Aside0.mk (show wh.heap[g]? = some (.cells #[.int .i64 1, .int .i64 ((n : Int) + 2), .int .i64 0, .int .i64 0, .int .i64 0, .int .u64 0] 35 (0, 0)) by rw [hwh, hg]; exact blk_new w1 _)
  have HH := Aside0.mk (show Hold (deskShop kd kb) w.heap.size w wh Desk.new F by rw [hwh]; exact HH0.out.below (below_alloc (Below.refl _ _) _))
  have HN := Aside0.mk (show ¬ F g by rw [hg]; exact HH0.out.fresh)
  have HG := Aside0.mk (show w.heap.size ≤ g by rw [hg]; exact HH0.out.2.2.2)
  rw [← hwh, ← hg]
  clear hwh hg HH0
  go_loopw [9] (fun i wr => ∃ (j : Nat) (s : Desk) (t : Int) (c : List (Int × List Int)) (F : Nat → Prop), j ≤ n ∧ i = .int .i64 ((j : Int) + 1) ∧ Aside0 (wr.heap[g]? = some (.cells #[.int .i64 1, .int .i64 ((n : Int) + 2), .int .i64 t, .int .i64 j, .int .i64 0, .int .u64 0] 35 (0, 0))) ∧ Aside0 (Hold (deskShop kd kb) w.heap.size w wr s F) ∧ Aside0 (¬ F g) ∧
      Aside0 (Chain ((deskLive kd kb).look s) t c) ∧ Aside0 (flat c = downs j) ∧ Aside0 ((deskLive kd kb).ok (1000 - 2 * j) s)) (fun i _ => n + 1 - (intOf i).toNat)
  case atStart => exact ⟨0, Desk.new, 0, [], F, Nat.zero_le _, rfl, HK, HH, HN, ⟨rfl⟩, ⟨rfl⟩, ⟨desk_new_ok2 kd kb⟩⟩
  case round =>
    clear HK HH HN
    obtain ⟨j, s, t, c, F1, hj, rfl, HK, HH, HN, HC, HF, HO⟩ := hrel
    have hj1 : wrap64 ((j : Int) + 1 + 1) = (j : Int) + 1 + 1 := by unfold wrap64; omega
    by_cases hlt : j < n
    · have t1 : decide ((j : Int) + 1 ≤ (n : Int)) = true := decide_eq_true (by omega)
      have a0 : wr.cell? ⟨g, 0, none⟩ = some (.int .i64 1) := (blk_cell HK.out 0).trans rfl
      have a1 : wr.cell? ⟨g, 1, none⟩ = some (.int .i64 ((n : Int) + 2)) := (blk_cell HK.out 1).trans rfl
      have a2 : wr.cell? ⟨g, 2, none⟩ = some (.int .i64 t) := (blk_cell HK.out 2).trans rfl
      have a3 : wr.cell? ⟨g, 3, none⟩ = some (.int .i64 j) := (blk_cell HK.out 3).trans rfl
      have a4 : wr.cell? ⟨g, 4, none⟩ = some (.int .i64 0) := (blk_cell HK.out 4).trans rfl
      have a5 : wr.cell? ⟨g, 5, none⟩ = some (.int .u64 0) := (blk_cell HK.out 5).trans rfl
      have af0 : wr.frozen? ⟨g, 0, none⟩ = false := blk_frozen HK.out 0
      have af1 : wr.frozen? ⟨g, 1, none⟩ = false := blk_frozen HK.out 1
      have af2 : wr.frozen? ⟨g, 2, none⟩ = false := blk_frozen HK.out 2
      have af3 : wr.frozen? ⟨g, 3, none⟩ = false := blk_frozen HK.out 3
      have af4 : wr.frozen? ⟨g, 4, none⟩ = false := blk_frozen HK.out 4
      have af5 : wr.frozen? ⟨g, 5, none⟩ = false := blk_frozen HK.out 5
      go_wp2_with fail
      obtain ⟨s', t', c', e1, e2, e3, e4⟩ := give_down2 (k := 1000 - 2 * (j + 1)) (md := 1) (p := (n : Int) + 2) (by have := HO.out; rwa [show 1000 - 2 * j = 1000 - 2 * (j + 1) + 2 by omega] at this) HC.out HF.out (by omega) (by omega)
      have hfit := (deskLive kd kb).fits (k := 999 - 2 * j) (by have := HO.out; rwa [show 1000 - 2 * j = 999 - 2 * j + 1 by omega] at this)
      refine (HH.out.giveE e1 hfit (by omega) (by omega) (by omega)).mono ?_
      rintro e w2 ⟨rfl, F2, hH2, hP2⟩
      have HN2 := Aside0.mk (hP2.out HK.out HN.out)
      replace HK := Aside0.mk (hP2.blk HK.out HN.out)
      replace HN := HN2
      replace HH := Aside0.mk hH2
      replace HC := Aside0.mk e2
      replace HF := Aside0.mk e3
      replace HO := Aside0.mk e4
      clear e1 e2 e3 e4 hfit hH2 hP2 HN2 a0 af0 a1 af1 a2 af2 a3 af3 a4 af4 a5 af5
      have a0 : ∀ o, (w2.alloc o).cell? ⟨g, 0, none⟩ = some (.int .i64 1) := fun o => (blk_cell (blk_alloc HK.out o) 0).trans rfl
      have a1 : ∀ o, (w2.alloc o).cell? ⟨g, 1, none⟩ = some (.int .i64 ((n : Int) + 2)) := fun o => (blk_cell (blk_alloc HK.out o) 1).trans rfl
      have a2 : ∀ o, (w2.alloc o).cell? ⟨g, 2, none⟩ = some (.int .i64 t) := fun o => (blk_cell (blk_alloc HK.out o) 2).trans rfl
      have a3 : ∀ o, (w2.alloc o).cell? ⟨g, 3, none⟩ = some (.int .i64 j) := fun o => (blk_cell (blk_alloc HK.out o) 3).trans rfl
      have a4 : ∀ o, (w2.alloc o).cell? ⟨g, 4, none⟩ = some (.int .i64 0) := fun o => (blk_cell (blk_alloc HK.out o) 4).trans rfl
      have a5 : ∀ o, (w2.alloc o).cell? ⟨g, 5, none⟩ = some (.int .u64 0) := fun o => (blk_cell (blk_alloc HK.out o) 5).trans rfl
      have af0 : ∀ o, (w2.alloc o).frozen? ⟨g, 0, none⟩ = false := fun o => blk_frozen (blk_alloc HK.out o) 0
      have af1 : ∀ o, (w2.alloc o).frozen? ⟨g, 1, none⟩ = false := fun o => blk_frozen (blk_alloc HK.out o) 1
      have af2 : ∀ o, (w2.alloc o).frozen? ⟨g, 2, none⟩ = false := fun o => blk_frozen (blk_alloc HK.out o) 2
      have af3 : ∀ o, (w2.alloc o).frozen? ⟨g, 3, none⟩ = false := fun o => blk_frozen (blk_alloc HK.out o) 3
      have af4 : ∀ o, (w2.alloc o).frozen? ⟨g, 4, none⟩ = false := fun o => blk_frozen (blk_alloc HK.out o) 4
      have af5 : ∀ o, (w2.alloc o).frozen? ⟨g, 5, none⟩ = false := fun o => blk_frozen (blk_alloc HK.out o) 5
      go_wp2
      go_roundw
      case measure => show n + 1 - _ < n + 1 - _; simp only [intOf]; omega
      case rel => exact ⟨j + 1, s', t', c', F2, by omega, rfl, ⟨put6 (blk_alloc HK.out _) _ _ _ _ _ _⟩, ⟨(HH.out.below (below_alloc (Below.refl _ _) _)).set6 HN.out HG.out _ _ _ _ _ _⟩, HN, HC, HF, HO⟩
    · have t1 : decide ((j : Int) + 1 ≤ (n : Int)) = false := decide_eq_false (by omega)
      obtain rfl : j = n := by omega
      clear hj hlt
      have hD := HH.out.desk
      have hdc : wr.cell? ⟨kd, 1, none⟩ = some (.int .i64 s.left) := (blk_cell hD.2 1).trans rfl
      have hdf : wr.frozen? ⟨kd, 1, none⟩ = false := blk_frozen hD.2 1
      have hgk : ¬ g = kd := fun e => HN.out (e ▸ hD.1)
      have hkg : ¬ kd = g := fun e => HN.out (e ▸ hD.1)
      have HFIT := Aside0.mk (fun lf => at_fits (k := 999 - 2 * j) (kd := kd) (kb := kb) (s := s) (by have := HO.out; rwa [show 1000 - 2 * j = 999 - 2 * j + 1 by omega] at this) lf)
      have HO2 := Aside0.mk (at_ok2 (k := 998 - 2 * j) (kd := kd) (kb := kb) (s := s) (by have := HO.out; rwa [show 1000 - 2 * j = 998 - 2 * j + 2 by omega] at this))
      obtain ⟨i, hi⟩ : ∃ i, j = i + 1 := ⟨j - 1, by omega⟩
      have HI := Aside0.mk hi
      clear hD HO hi
      have hj2 : wrap64 ((j : Int) - 1) = (j : Int) - 1 := by unfold wrap64; omega
      have a0 : wr.cell? ⟨g, 0, none⟩ = some (.int .i64 1) := (blk_cell HK.out 0).trans rfl
      have a1 : wr.cell? ⟨g, 1, none⟩ = some (.int .i64 ((j : Int) + 2)) := (blk_cell HK.out 1).trans rfl
      have a2 : wr.cell? ⟨g, 2, none⟩ = some (.int .i64 t) := (blk_cell HK.out 2).trans rfl
      have a3 : wr.cell? ⟨g, 3, none⟩ = some (.int .i64 j) := (blk_cell HK.out 3).trans rfl
      have a4 : wr.cell? ⟨g, 4, none⟩ = some (.int .i64 0) := (blk_cell HK.out 4).trans rfl
      have a5 : wr.cell? ⟨g, 5, none⟩ = some (.int .u64 0) := (blk_cell HK.out 5).trans rfl
      have af0 : wr.frozen? ⟨g, 0, none⟩ = false := blk_frozen HK.out 0
      have af1 : wr.frozen? ⟨g, 1, none⟩ = false := blk_frozen HK.out 1
      have af2 : wr.frozen? ⟨g, 2, none⟩ = false := blk_frozen HK.out 2
      have af3 : wr.frozen? ⟨g, 3, none⟩ = false := blk_frozen HK.out 3
      have af4 : wr.frozen? ⟨g, 4, none⟩ = false := blk_frozen HK.out 4
      have af5 : wr.frozen? ⟨g, 5, none⟩ = false := blk_frozen HK.out 5
      have HQ : Aside0 (gv = true ∨ gv = false) := ⟨by cases gv; exact Or.inr rfl; exact Or.inl rfl⟩
      rcases HQ.out with hgv | hgv
      · subst hgv
        clear HQ
        rcases HL3.out with hl | hl | hl
        · subst hl
          clear HL3
          go_wp2_with fail
          refine ((HH.out.left 0).giveE (give_used (kd := kd) (kb := kb) (p := (j : Int) + 2) HC.out HF.out hn3 (by omega) (by omega) 0 (Or.inl rfl)) (HFIT.out 0) (by omega) (by omega) (by omega)).mono ?_
          rintro e w2 ⟨rfl, F2, hH2, hP2⟩
          have HH2 := Aside0.mk hH2
          clear hH2 hP2 HN HK HC HF a0 af0 a1 af1 a2 af2 a3 af3 a4 af4 a5 af5
          go_wp2
          go_ret
          exact ⟨rfl, HH2.out.2.2.1.trans (below_alloc (Below.refl _ _) _ |>.mono HH2.out.2.2.2)⟩
        · subst hl
          clear HL3
          go_wp2_with fail
          refine ((HH.out.left 1).giveE (give_used (kd := kd) (kb := kb) (p := (j : Int) + 2) HC.out HF.out hn3 (by omega) (by omega) 1 (Or.inr rfl)) (HFIT.out 1) (by omega) (by omega) (by omega)).mono ?_
          rintro e w2 ⟨rfl, F2, hH2, hP2⟩
          have HH2 := Aside0.mk hH2
          clear hH2 hP2 HN HK HC HF a0 af0 a1 af1 a2 af2 a3 af3 a4 af4 a5 af5
          go_wp2
          go_ret
          exact ⟨rfl, HH2.out.2.2.1.trans (below_alloc (Below.refl _ _) _ |>.mono HH2.out.2.2.2)⟩
        · subst hl
          clear HL3
          obtain ⟨s', t', c', e1, e2, e3, e4⟩ := give_down2 (k := 0) (md := 1) (p := (j : Int) + 2) HO2.out (show Chain ((deskLive kd kb).look (s.at_ 2)) t c from HC.out) HF.out (by omega) (by omega)
          have HE1 := Aside0.mk e1
          clear e1 e2 e3 e4
          go_wp2_with fail
          refine ((HH.out.left 2).giveE HE1.out (HFIT.out 2) (by omega) (by omega) (by omega)).mono ?_
          rintro e w2 ⟨rfl, F2, hH2, hP2⟩
          have HH2 := Aside0.mk hH2
          clear hH2 hP2 HN HK HC HF a0 af0 a1 af1 a2 af2 a3 af3 a4 af4 a5 af5
          go_wp2
          go_ret
          exact ⟨rfl, HH2.out.2.2.1.trans (below_alloc (Below.refl _ _) _ |>.mono HH2.out.2.2.2)⟩
      · subst hgv
        clear HQ
        rcases HL3.out with hl | hl | hl
        · subst hl
          clear HL3
          go_wp2_with fail
          refine ((HH.out.left 0).takeE (take_used0 hn3) (HFIT.out 0) (by omega) (by omega) (by omega)).mono ?_
          rintro e w2 ⟨rfl, F2, hH2, hP2⟩
          have HH2 := Aside0.mk hH2
          clear hH2 hP2 HN HK HC HF a0 af0 a1 af1 a2 af2 a3 af3 a4 af4 a5 af5
          go_wp2
          go_ret
          exact ⟨rfl, HH2.out.2.2.1.trans (below_alloc (Below.refl _ _) _ |>.mono HH2.out.2.2.2)⟩
        · subst hl
          clear HL3
          have HU := take_used1 (kd := kd) (kb := kb) (md := 1) (p := (j : Int) + 2) HC.out (by rw [HF.out, HI.out]) (by have := HI.out; omega)
          rw [show (i : Int) + 1 = (j : Int) by have := HI.out; omega] at HU
          rcases HU with e1 | ⟨t', e1⟩
          · have HE1 := Aside0.mk e1
            clear e1
            go_wp2_with fail
            refine ((HH.out.left 1).takeE HE1.out (HFIT.out 1) (by omega) (by omega) (by omega)).mono ?_
            rintro e w2 ⟨rfl, F2, hH2, hP2⟩
            have HH2 := Aside0.mk hH2
            clear hH2 hP2 HN HK HC HF a0 af0 a1 af1 a2 af2 a3 af3 a4 af4 a5 af5
            go_wp2
            go_ret
            exact ⟨rfl, HH2.out.2.2.1.trans (below_alloc (Below.refl _ _) _ |>.mono HH2.out.2.2.2)⟩
          · have HE1 := Aside0.mk e1
            clear e1
            go_wp2_with fail
            refine ((HH.out.left 1).takeE HE1.out (HFIT.out 1) (by omega) (by omega) (by omega)).mono ?_
            rintro e w2 ⟨rfl, F2, hH2, hP2⟩
            have HH2 := Aside0.mk hH2
            have hij : (i : Int) = (j : Int) - 1 := by have := HI.out; omega
            clear hH2 hP2 HN HK HC HF a0 af0 a1 af1 a2 af2 a3 af3 a4 af4 a5 af5
            rw [hij]
            clear hij
            go_wp2
            go_ret
            exact ⟨rfl, HH2.out.2.2.1.trans (below_alloc (Below.refl _ _) _ |>.mono HH2.out.2.2.2)⟩
        · subst hl
          clear HL3
          obtain ⟨s', t', c', e1, e2, e3, e4⟩ := take_down2 (k := 0) (j := i) (md := 1) (p := (j : Int) + 2) HO2.out (show Chain ((deskLive kd kb).look (s.at_ 2)) t c from HC.out) (by rw [HF.out, HI.out]) (by have := HI.out; omega) (by omega)
          rw [show (i : Int) + 1 = (j : Int) by have := HI.out; omega] at e1
          have HE1 := Aside0.mk e1
          clear e1 e2 e3 e4
          go_wp2_with fail
          refine ((HH.out.left 2).takeE HE1.out (HFIT.out 2) (by omega) (by omega) (by omega)).mono ?_
          rintro e w2 ⟨rfl, F2, hH2, hP2⟩
          have HH2 := Aside0.mk hH2
          have hij : (i : Int) = (j : Int) - 1 := by have := HI.out; omega
          clear hH2 hP2 HN HK HC HF a0 af0 a1 af1 a2 af2 a3 af3 a4 af4 a5 af5
          rw [hij]
          clear hij
          go_wp2
          go_ret
          exact ⟨rfl, HH2.out.2.2.1.trans (below_alloc (Below.refl _ _) _ |>.mono HH2.out.2.2.2)⟩
end Go.Proofs.Ytonbipaajhokfaa
