/-
  Walk: SpareOnce.
-/
import Derived.Test.YtonbipaajhokfaaD5
import Derived.BigQuiet
set_option linter.unusedVariables false
set_option linter.unusedSimpArgs false
namespace Go.Proofs.Ytonbipaajhokfaa
open Go.RowKit Go.Proofs.YtonbipaajhokfaaW.PrintWords Go.Proofs.YtonbipaajhokfaaW.PrintLast Go.Proofs.YtonbipaajhokfaaW.PrintMore


set_option pp.deepTerms true in
set_option pp.maxSteps 1000000 in
set_option maxHeartbeats 8000000 in
set_option maxRecDepth 100000 in
theorem spareOnce_calls (A : Option Addr) (ca : Nat) (acts : List Int) (w : World) (hacts : Kd.C (Kd.int .i64) w A acts.length acts) : Calls Try.prog 5 #[.slice A acts.length ca] w fun e w' => e = .returned (.bool true) ∧ Below w.heap.size w w' := by
  have hu35 := Try.underlying35
  have HACTS := Aside0.mk hacts
  have hma := Kd.C_max hacts
  clear hacts
  go_enter Try.func5, Try.ntmps5
  go_wp2_with (go_at_call 11; refine (awake_calls _).mono ?_; rintro e w0 ⟨rfl, hB0⟩)
  refine (fresh_calls _).mono ?_
  rintro e w1 ⟨kd, kb, rfl, F, hA, hF, hB⟩
  have HH0 := Aside0.mk (show Hold (deskShop kd kb) w.heap.size w w1 Desk.new F from ⟨hA, fun k hk => Nat.le_trans hB0.size (hF k hk), hB0.trans (hB.mono hB0.size), Nat.le_trans hB0.size hB.size⟩)
  clear hA hF hB hB0
  go_wp2_with fail
  obtain ⟨g, hg⟩ : ∃ g, g = w1.heap.size := ⟨_, rfl⟩
  obtain ⟨wg, hwg⟩ : ∃ wg, wg = w1.alloc (.cells #[.int .i64 1, .int .i64 1, .int .i64 0, .int .i64 0, .int .i64 0, .int .u64 0] 35) := ⟨_, rfl⟩
  obtain ⟨wh, hwh⟩ : ∃ wh, wh = wg.alloc (.cells #[] 3) := ⟨_, rfl⟩
  have HK := Aside0.mk (show wh.heap[g]? = some (.cells #[.int .i64 1, .int .i64 1, .int .i64 0, .int .i64 0, .int .i64 0, .int .u64 0] 35 (0, 0)) by rw [hwh, hwg, hg]; exact blk_alloc (blk_new w1 _) _)
  have HHg := Aside0.mk (show Hold (deskShop kd kb) w.heap.size w wg Desk.new F by rw [hwg]; exact HH0.out.below (below_alloc (Below.refl _ _) _))
  have HH := Aside0.mk (show Hold (deskShop kd kb) w.heap.size w wh Desk.new F by rw [hwh]; exact HHg.out.below (below_alloc (Below.refl _ _) _))
  have HN := Aside0.mk (show ¬ F g by rw [hg]; exact HH0.out.fresh)
  have HG := Aside0.mk (show w.heap.size ≤ g by rw [hg]; exact HH0.out.2.2.2)
  have hgs : w1.heap.size + 1 = wg.heap.size := by rw [hwg]; simp
  have HU := Aside0.mk (show (Kd.int .i64).R 3 wh w.heap.size (fun k => ¬ F k ∧ w.heap.size ≤ k) (.slice (some ⟨wg.heap.size, 0, none⟩) 0 0) [] by
    rw [hwh]; exact R_none wg w.heap.size HHg.out.2.2.2 _ ⟨HHg.out.fresh, HHg.out.2.2.2⟩)
  rw [hgs, ← hg, ← hwg, ← hwh]
  clear hwh hwg hg HH0 HHg hgs
  go_loopw [5, 6, 7] (fun uv fv i wr => ∃ (j : Nat) (s : Desk) (t : Int) (c : List (Int × List Int)) (F : Nat → Prop) (u : List Int) (p : Int), j ≤ acts.length ∧ j ≤ 300 ∧ p ≤ j + 1 ∧ i = .int .i64 j ∧ fv = .int .i64 ((flat c).length : Int) ∧
      Aside0 (wr.heap[g]? = some (.cells #[.int .i64 1, .int .i64 p, .int .i64 t, .int .i64 ((flat c).length : Int), .int .i64 0, .int .u64 0] 35 (0, 0))) ∧ Aside0 (Hold (deskShop kd kb) w.heap.size w wr s F) ∧ Aside0 (¬ F g) ∧
      Aside0 (Chain ((deskLive kd kb).look s) t c) ∧ Aside0 (Inv u (flat c) p) ∧ Aside0 ((deskLive kd kb).ok (1000 - 2 * j) s) ∧ Aside0 ((Kd.int .i64).R 3 wr w.heap.size (fun k => ¬ F k ∧ w.heap.size ≤ k) uv u)) (fun _ _ i _ => acts.length - (intOf i).toNat)
  case atStart => exact ⟨0, Desk.new, 0, [], F, [], 1, Nat.zero_le _, by omega, by omega, rfl, rfl, HK, HH, HN, ⟨rfl⟩, ⟨Inv.start⟩, ⟨desk_new_ok2 kd kb⟩, HU⟩
  case round =>
    clear HK HH HN HU
    obtain ⟨j, s, t, c, F1, u, p, hj, hj3, hpj, rfl, rfl, HK, HH, HN, HC, HI, HO, HU⟩ := hrel
    have hj1 : wrap64 ((j : Int) + 1) = (j : Int) + 1 := by unfold wrap64; omega
    by_cases hlt : j < acts.length
    · by_cases hlt3 : j < 300
      · have t1 : decide ((j : Int) < (acts.length : Int)) = true := decide_eq_true (by omega)
        have t2 : decide ((j : Int) < 300) = true := decide_eq_true (by omega)
        obtain ⟨U, cu, rfl⟩ := Kd.R_slice HU.out
        obtain ⟨_, hcu, hCu⟩ := Kd.R_reads' HU.out
        have HCU := Aside0.mk hCu
        have hmu := Kd.C_max hCu
        clear hCu
        obtain ⟨ad, hA, hx⟩ := Kd.at_int HACTS.out (j : Int) (by omega) (by omega)
        subst hA
        rw [Int.toNat_natCast] at hx
        have hadb := World.block_lt_of_cell? w _ hx
        replace hx : wr.cell? (ad.add j) = some (.int .i64 (rd acts (j : Int))) := (HH.out.2.2.1.cell hadb).trans hx
        obtain ⟨x, hxx⟩ : ∃ x, x = rd acts (j : Int) := ⟨_, rfl⟩
        rw [← hxx] at hx
        clear hxx
        have HIL := Aside0.mk HI.out.1
        have hul : u.length ≤ 300 := by have := HIL.out; omega
        have hp1 : 1 ≤ p := by have := HIL.out; omega
        have hwu : IntKind.u64.wrap (u.length : Int) = u.length := by rw [IntKind.wrap_u64]; omega
        cases h3 : (x.tmod 3 != 0)
        · obtain ⟨nn, p', t', s', c', e1, e2, e3, e4, e5, e6, e7, e8, e9, e10⟩ := once_take_all (m := 1000 - 2 * (j + 1)) (by have := HO.out; rwa [show 1000 - 2 * j = 1000 - 2 * (j + 1) + 2 by omega] at this) HC.out HI.out (by omega)
          have HFIT := Aside0.mk ((deskLive kd kb).fits (k := 999 - 2 * j) (by have := HO.out; rwa [show 1000 - 2 * j = 999 - 2 * j + 1 by omega] at this))
          have HE1 := Aside0.mk e1
          replace HC := Aside0.mk e2
          have HI2 := Aside0.mk e3
          replace HO := Aside0.mk e4
          have HNU := Aside0.mk e7
          have HFR := Aside0.mk e10
          clear e1 e2 e3 e4 e7 e10 hwu
          have hfl : (flat c).length ≤ 300 := by have := HIL.out; omega
          have hfl2 : (flat c').length ≤ 301 := by have := HI2.out.1; omega
          obtain ⟨L, hL⟩ : ∃ L : Nat, L = (flat c).length := ⟨_, rfl⟩
          obtain ⟨a, ha⟩ : ∃ a : Nat, a = (flat c').length := ⟨_, rfl⟩
          rw [← hL] at HK HFR HE1 hfl ⊢
          rw [← ha] at HFR HE1 hfl2
          have HA2 := Aside0.mk ha
          clear ha hL
          have gc0 : wr.cell? ⟨g, 0, none⟩ = some (.int .i64 1) := (blk_cell HK.out 0).trans rfl
          have gc1 : wr.cell? ⟨g, 1, none⟩ = some (.int .i64 p) := (blk_cell HK.out 1).trans rfl
          have gc2 : wr.cell? ⟨g, 2, none⟩ = some (.int .i64 t) := (blk_cell HK.out 2).trans rfl
          have gc3 : wr.cell? ⟨g, 3, none⟩ = some (.int .i64 (L : Int)) := (blk_cell HK.out 3).trans rfl
          have gc4 : wr.cell? ⟨g, 4, none⟩ = some (.int .i64 0) := (blk_cell HK.out 4).trans rfl
          have gc5 : wr.cell? ⟨g, 5, none⟩ = some (.int .u64 0) := (blk_cell HK.out 5).trans rfl
          go_wp2_with fail
          refine (HH.out.takeE HE1.out HFIT.out (by omega) (by omega) (by omega)).mono ?_
          rintro e w2 ⟨rfl, F2, hH2, hP2⟩
          have HN2 := Aside0.mk (hP2.out HK.out HN.out)
          have HK2 := Aside0.mk (hP2.blk HK.out HN.out)
          have HU2 := Aside0.mk (hP2.R HU.out)
          have HH2 := Aside0.mk hH2
          clear hH2 hP2 HK HN HU HH HE1 HFIT HCU hx gc0 gc1 gc2 gc3 gc4 gc5
          have t5 : decide (nn < 1) = false := decide_eq_false (by omega)
          have t6 : decide (p' ≤ nn) = false := decide_eq_false (by omega)
          go_wp2_with fail
          obtain ⟨q, hq⟩ : ∃ q, q = w2.heap.size := ⟨_, rfl⟩
          obtain ⟨w3, hw3⟩ : ∃ w3, w3 = w2.alloc (.cells #[.int .i64 1, .int .i64 p', .int .i64 t', .int .i64 (a : Int), .int .i64 0, .int .u64 0] 35) := ⟨_, rfl⟩
          have HK3 := Aside0.mk (show w3.heap[g]? = some (.cells #[.int .i64 1, .int .i64 p, .int .i64 t, .int .i64 (L : Int), .int .i64 0, .int .u64 0] 35 (0, 0)) by rw [hw3]; exact blk_alloc HK2.out _)
          have HQ3 := Aside0.mk (show w3.heap[q]? = some (.cells #[.int .i64 1, .int .i64 p', .int .i64 t', .int .i64 (a : Int), .int .i64 0, .int .u64 0] 35 (0, 0)) by rw [hw3, hq]; exact blk_new w2 _)
          have HH3 := Aside0.mk (show Hold (deskShop kd kb) w.heap.size w w3 s' F2 by rw [hw3]; exact HH2.out.alloc _)
          have HU3 := Aside0.mk (show (Kd.int .i64).R 3 w3 w.heap.size (fun k => ¬ F2 k ∧ w.heap.size ≤ k) (.slice U u.length cu) u by rw [hw3]; exact Kd.R_alloc HU2.out _)
          have HGQ := Aside0.mk (show g ≠ q by rw [hq]; exact Nat.ne_of_lt (blk_lt HK2.out))
          rw [← hw3, ← hq]
          clear hw3 hq HK2 HH2 HU2
          go_loop [15] (fun i => ∃ m : Nat, m ≤ u.length ∧ i = .int .i64 m) (fun i => u.length - (intOf i).toNat)
          case atStart => exact ⟨0, Nat.zero_le _, rfl⟩
          case round =>
            obtain ⟨m, hm, rfl⟩ := hrel
            by_cases hml : m < u.length
            · obtain ⟨ad3, hU3, hy⟩ := Kd.at_int (Kd.R_reads' HU3.out).2.2 (m : Int) (by omega) (by omega)
              subst hU3
              clear hy
              have hy := R_cellk HU3.out m hml
              obtain ⟨y, hyd⟩ : ∃ y, y = u.getD m 0 := ⟨_, rfl⟩
              have hyn : (y == nn) = false := by
                have h1 : y ≠ nn := by
                  intro h2
                  apply HNU.out
                  rw [← h2, hyd, List.getD_eq_getElem?_getD, List.getElem?_eq_getElem hml]
                  exact List.getElem_mem hml
                simp [h1]
              rw [← hyd] at hy
              clear hyd
              clear hj1 HNU HFR HI2 HQ3 HGQ hm
              go_wp2
              go_round
              case rel => exact ⟨m + 1, by omega, by simp⟩
              case measure => simp only [intOf]; omega
            · have hml2 : m = u.length := by omega
              subst hml2
              have qc0 : w3.cell? ⟨q, 0, none⟩ = some (.int .i64 1) := (blk_cell HQ3.out 0).trans rfl
              have qc1 : w3.cell? ⟨q, 1, none⟩ = some (.int .i64 p') := (blk_cell HQ3.out 1).trans rfl
              have qc2 : w3.cell? ⟨q, 2, none⟩ = some (.int .i64 t') := (blk_cell HQ3.out 2).trans rfl
              have qc3 : w3.cell? ⟨q, 3, none⟩ = some (.int .i64 (a : Int)) := (blk_cell HQ3.out 3).trans rfl
              have qc4 : w3.cell? ⟨q, 4, none⟩ = some (.int .i64 0) := (blk_cell HQ3.out 4).trans rfl
              have qc5 : w3.cell? ⟨q, 5, none⟩ = some (.int .u64 0) := (blk_cell HQ3.out 5).trans rfl
              have gc0 : w3.cell? ⟨g, 0, none⟩ = some (.int .i64 1) := (blk_cell HK3.out 0).trans rfl
              have gf0 : w3.frozen? ⟨g, 0, none⟩ = false := blk_frozen HK3.out 0
              have gc1 : w3.cell? ⟨g, 1, none⟩ = some (.int .i64 p) := (blk_cell HK3.out 1).trans rfl
              have gf1 : w3.frozen? ⟨g, 1, none⟩ = false := blk_frozen HK3.out 1
              have gc2 : w3.cell? ⟨g, 2, none⟩ = some (.int .i64 t) := (blk_cell HK3.out 2).trans rfl
              have gf2 : w3.frozen? ⟨g, 2, none⟩ = false := blk_frozen HK3.out 2
              have gc3 : w3.cell? ⟨g, 3, none⟩ = some (.int .i64 (L : Int)) := (blk_cell HK3.out 3).trans rfl
              have gf3 : w3.frozen? ⟨g, 3, none⟩ = false := blk_frozen HK3.out 3
              have gc4 : w3.cell? ⟨g, 4, none⟩ = some (.int .i64 0) := (blk_cell HK3.out 4).trans rfl
              have gf4 : w3.frozen? ⟨g, 4, none⟩ = false := blk_frozen HK3.out 4
              have gc5 : w3.cell? ⟨g, 5, none⟩ = some (.int .u64 0) := (blk_cell HK3.out 5).trans rfl
              have gf5 : w3.frozen? ⟨g, 5, none⟩ = false := blk_frozen HK3.out 5
              have HK5 := Aside0.mk (show ((((((w3.setCell ⟨g, 0, none⟩ (.int .i64 1)).setCell ⟨g, 1, none⟩ (.int .i64 p')).setCell ⟨g, 2, none⟩ (.int .i64 t')).setCell ⟨g, 3, none⟩ (.int .i64 (a : Int))).setCell ⟨g, 4, none⟩ (.int .i64 0)).setCell ⟨g, 5, none⟩ (.int .u64 0)).heap[g]? = some (.cells #[.int .i64 1, .int .i64 p', .int .i64 t', .int .i64 (a : Int), .int .i64 0, .int .u64 0] 35 (0, 0)) from put6 HK3.out (.int .i64 1) (.int .i64 p') (.int .i64 t') (.int .i64 (a : Int)) (.int .i64 0) (.int .u64 0))
              have HH5 := Aside0.mk (show Hold (deskShop kd kb) w.heap.size w ((((((w3.setCell ⟨g, 0, none⟩ (.int .i64 1)).setCell ⟨g, 1, none⟩ (.int .i64 p')).setCell ⟨g, 2, none⟩ (.int .i64 t')).setCell ⟨g, 3, none⟩ (.int .i64 (a : Int))).setCell ⟨g, 4, none⟩ (.int .i64 0)).setCell ⟨g, 5, none⟩ (.int .u64 0)) s' F2 from HH3.out.set6 HN2.out HG.out (.int .i64 1) (.int .i64 p') (.int .i64 t') (.int .i64 (a : Int)) (.int .i64 0) (.int .u64 0))
              have HU5 := Aside0.mk (show (Kd.int .i64).R 3 ((((((w3.setCell ⟨g, 0, none⟩ (.int .i64 1)).setCell ⟨g, 1, none⟩ (.int .i64 p')).setCell ⟨g, 2, none⟩ (.int .i64 t')).setCell ⟨g, 3, none⟩ (.int .i64 (a : Int))).setCell ⟨g, 4, none⟩ (.int .i64 0)).setCell ⟨g, 5, none⟩ (.int .u64 0)) w.heap.size (fun k' => ¬ F2 k' ∧ w.heap.size ≤ k') (.slice U u.length cu) u from R_set6 HU3.out HK3.out (.int .i64 1) (.int .i64 p') (.int .i64 t') (.int .i64 (a : Int)) (.int .i64 0) (.int .u64 0))
              have HB5 := Aside0.mk (S_bound HH3.out)
              have hqg : ¬ q = g := Ne.symm HGQ.out
              have hgq : ¬ g = q := HGQ.out
              go_wp2_with (at_builtin; refine Kd.R_append (Kd.int .i64) (W := ((((((w3.setCell ⟨g, 0, none⟩ (.int .i64 1)).setCell ⟨g, 1, none⟩ (.int .i64 p')).setCell ⟨g, 2, none⟩ (.int .i64 t')).setCell ⟨g, 3, none⟩ (.int .i64 (a : Int))).setCell ⟨g, 4, none⟩ (.int .i64 0)).setCell ⟨g, 5, none⟩ (.int .u64 0))) (w0 := ((((((w3.setCell ⟨g, 0, none⟩ (.int .i64 1)).setCell ⟨g, 1, none⟩ (.int .i64 p')).setCell ⟨g, 2, none⟩ (.int .i64 t')).setCell ⟨g, 3, none⟩ (.int .i64 (a : Int))).setCell ⟨g, 4, none⟩ (.int .i64 0)).setCell ⟨g, 5, none⟩ (.int .u64 0))) w.heap.size rfl (.tmp 114) (.tmp 116) 22 3 (.int .i64 0) 8 rfl Try.underlying22 info3 rfl (by decide) (by decide) (.slice U u.length cu) _ nn [.int .i64 nn] (fun k' => ¬ F2 k' ∧ w.heap.size ≤ k') (fun k' => some k' ≠ (Value.slice U u.length cu).ownBlock ∧ (¬ F2 k' ∧ w.heap.size ≤ k')) rfl (by show Value.slice (some ⟨w3.heap.size, 0, none⟩) 1 1 = _; simp) rfl (fun _ h => ⟨h.2, h.1⟩) (fun k' hk' => ⟨fun hf => by have := HB5.out k' hf; simp at hk'; omega, by have := HH3.out.2.2.2; simp at hk'; omega⟩) HU5.out (Below.refl _ _) HH5.out.2.2.2 (by omega) ?_; intro v7 w7 hR7 hB7 hG7 hat7; have HK7 := Aside0.mk (blk_grown HK5.out hG7 (R_ne_blk HU5.out HK5.out (by decide))); have HH7 := Aside0.mk (HH5.out.grown hG7 (fun k' hk' => HU5.out.1 k' hk')); obtain ⟨un, hun⟩ : ∃ un, un = u ++ [nn] := ⟨_, rfl⟩; rw [← hun] at hR7; have HUN := Aside0.mk hun; clear hun; obtain ⟨A7, c7, hv7⟩ := Kd.R_slice hR7; subst hv7; have HL7 := Aside0.mk hR7; clear hR7 hB7 hG7 hat7; clear HK3 HQ3 HH3 HU3 HK5 HH5 HU5 qc0 gc0 gf0 qc1 gc1 gf1 qc2 gc2 gf2 qc3 gc3 gf3 qc4 gc4 gf4 qc5 gc5 gf5; refine Shut.out ?_)
              unfold Shut
              have HUNL : Aside0 (un.length = u.length + 1) := ⟨by rw [HUN.out, List.length_append]; rfl⟩
              have hunl : un.length ≤ 301 := by have := HUNL.out; omega
              have HP2 : Aside0 (p' = 1 + (un.length : Int) + ((flat c').length : Int)) := ⟨by have := HI2.out.1; rw [HUN.out]; exact this⟩
              have HI7 : Aside0 (Inv un (flat c') p') := ⟨by rw [HUN.out]; exact HI2.out⟩
              have HZ : Aside0 ((t' == 0) = decide (a = 0)) := ⟨by rw [HA2.out]; exact chain_zero HC.out⟩
              rw [← HA2.out] at HP2
              rcases HFR.out with hfr | hfr
              · obtain rfl : L = a + 1 := hfr.2
                clear hfr HFR
                by_cases ha0 : a = 0
                · subst ha0
                  have hz1 : (t' == 0) = true := HZ.out.trans (decide_eq_true rfl)
                  have hpp : (p' != 1 + (un.length : Int)) = false := by have := HP2.out; simp; omega
                  have gc0 : w7.cell? ⟨g, 0, none⟩ = some (.int .i64 1) := (blk_cell HK7.out 0).trans rfl
                  have gc1 : w7.cell? ⟨g, 1, none⟩ = some (.int .i64 p') := (blk_cell HK7.out 1).trans rfl
                  have gc2 : w7.cell? ⟨g, 2, none⟩ = some (.int .i64 t') := (blk_cell HK7.out 2).trans rfl
                  have gc3 : w7.cell? ⟨g, 3, none⟩ = some (.int .i64 (0)) := (blk_cell HK7.out 3).trans rfl
                  have gc4 : w7.cell? ⟨g, 4, none⟩ = some (.int .i64 0) := (blk_cell HK7.out 4).trans rfl
                  have gc5 : w7.cell? ⟨g, 5, none⟩ = some (.int .u64 0) := (blk_cell HK7.out 5).trans rfl
                  go_wp2
                  go_roundw
                  case measure => simp only [intOf]; omega
                  case rel => exact ⟨j + 1, s', t', c', F2, un, p', by omega, by omega, by omega, rfl, by first | (rw [← HA2.out]; done) | (rw [← HA2.out]; rfl), ⟨by rw [← HA2.out]; exact HK7.out⟩, HH7, HN2, HC, HI7, HO, HL7⟩
                · obtain ⟨b, rfl⟩ : ∃ b, a = b + 1 := ⟨a - 1, by omega⟩
                  clear ha0
                  have hz1 : (t' == 0) = false := HZ.out.trans (decide_eq_false (by omega))
                  have hpp : (p' != 1 + (un.length : Int) + ((b : Int) + 1)) = false := by have := HP2.out; simp; omega
                  have gc0 : w7.cell? ⟨g, 0, none⟩ = some (.int .i64 1) := (blk_cell HK7.out 0).trans rfl
                  have gc1 : w7.cell? ⟨g, 1, none⟩ = some (.int .i64 p') := (blk_cell HK7.out 1).trans rfl
                  have gc2 : w7.cell? ⟨g, 2, none⟩ = some (.int .i64 t') := (blk_cell HK7.out 2).trans rfl
                  have gc3 : w7.cell? ⟨g, 3, none⟩ = some (.int .i64 ((b : Int) + 1)) := (blk_cell HK7.out 3).trans rfl
                  have gc4 : w7.cell? ⟨g, 4, none⟩ = some (.int .i64 0) := (blk_cell HK7.out 4).trans rfl
                  have gc5 : w7.cell? ⟨g, 5, none⟩ = some (.int .u64 0) := (blk_cell HK7.out 5).trans rfl
                  go_wp2
                  go_roundw
                  case measure => simp only [intOf]; omega
                  case rel => exact ⟨j + 1, s', t', c', F2, un, p', by omega, by omega, by omega, rfl, by first | (rw [← HA2.out]; done) | (rw [← HA2.out]; rfl), ⟨by rw [← HA2.out]; exact HK7.out⟩, HH7, HN2, HC, HI7, HO, HL7⟩
              · obtain rfl : L = 0 := hfr.1
                have ha0 : a = 0 := hfr.2
                clear hfr HFR
                subst ha0
                have hz1 : (t' == 0) = true := HZ.out.trans (decide_eq_true rfl)
                have hpp : (p' != 1 + (un.length : Int)) = false := by have := HP2.out; simp; omega
                have gc0 : w7.cell? ⟨g, 0, none⟩ = some (.int .i64 1) := (blk_cell HK7.out 0).trans rfl
                have gc1 : w7.cell? ⟨g, 1, none⟩ = some (.int .i64 p') := (blk_cell HK7.out 1).trans rfl
                have gc2 : w7.cell? ⟨g, 2, none⟩ = some (.int .i64 t') := (blk_cell HK7.out 2).trans rfl
                have gc3 : w7.cell? ⟨g, 3, none⟩ = some (.int .i64 (0)) := (blk_cell HK7.out 3).trans rfl
                have gc4 : w7.cell? ⟨g, 4, none⟩ = some (.int .i64 0) := (blk_cell HK7.out 4).trans rfl
                have gc5 : w7.cell? ⟨g, 5, none⟩ = some (.int .u64 0) := (blk_cell HK7.out 5).trans rfl
                go_wp2
                go_roundw
                case measure => simp only [intOf]; omega
                case rel => exact ⟨j + 1, s', t', c', F2, un, p', by omega, by omega, by omega, rfl, by first | (rw [← HA2.out]; done) | (rw [← HA2.out]; rfl), ⟨by rw [← HA2.out]; exact HK7.out⟩, HH7, HN2, HC, HI7, HO, HL7⟩
        · cases h4 : decide (0 < (u.length : Int))
          · have hu0 : ¬ 0 < u.length := by have := of_decide_eq_false h4; omega
            obtain ⟨nn, p', t', s', c', e1, e2, e3, e4, e5, e6, e7, e8, e9, e10⟩ := once_take_all (m := 1000 - 2 * (j + 1)) (by have := HO.out; rwa [show 1000 - 2 * j = 1000 - 2 * (j + 1) + 2 by omega] at this) HC.out HI.out (by omega)
            have HFIT := Aside0.mk ((deskLive kd kb).fits (k := 999 - 2 * j) (by have := HO.out; rwa [show 1000 - 2 * j = 999 - 2 * j + 1 by omega] at this))
            have HE1 := Aside0.mk e1
            replace HC := Aside0.mk e2
            have HI2 := Aside0.mk e3
            replace HO := Aside0.mk e4
            have HNU := Aside0.mk e7
            have HFR := Aside0.mk e10
            clear e1 e2 e3 e4 e7 e10 hwu
            have hfl : (flat c).length ≤ 300 := by have := HIL.out; omega
            have hfl2 : (flat c').length ≤ 301 := by have := HI2.out.1; omega
            obtain ⟨L, hL⟩ : ∃ L : Nat, L = (flat c).length := ⟨_, rfl⟩
            obtain ⟨a, ha⟩ : ∃ a : Nat, a = (flat c').length := ⟨_, rfl⟩
            rw [← hL] at HK HFR HE1 hfl ⊢
            rw [← ha] at HFR HE1 hfl2
            have HA2 := Aside0.mk ha
            clear ha hL
            have gc0 : wr.cell? ⟨g, 0, none⟩ = some (.int .i64 1) := (blk_cell HK.out 0).trans rfl
            have gc1 : wr.cell? ⟨g, 1, none⟩ = some (.int .i64 p) := (blk_cell HK.out 1).trans rfl
            have gc2 : wr.cell? ⟨g, 2, none⟩ = some (.int .i64 t) := (blk_cell HK.out 2).trans rfl
            have gc3 : wr.cell? ⟨g, 3, none⟩ = some (.int .i64 (L : Int)) := (blk_cell HK.out 3).trans rfl
            have gc4 : wr.cell? ⟨g, 4, none⟩ = some (.int .i64 0) := (blk_cell HK.out 4).trans rfl
            have gc5 : wr.cell? ⟨g, 5, none⟩ = some (.int .u64 0) := (blk_cell HK.out 5).trans rfl
            go_wp2_with fail
            refine (HH.out.takeE HE1.out HFIT.out (by omega) (by omega) (by omega)).mono ?_
            rintro e w2 ⟨rfl, F2, hH2, hP2⟩
            have HN2 := Aside0.mk (hP2.out HK.out HN.out)
            have HK2 := Aside0.mk (hP2.blk HK.out HN.out)
            have HU2 := Aside0.mk (hP2.R HU.out)
            have HH2 := Aside0.mk hH2
            clear hH2 hP2 HK HN HU HH HE1 HFIT HCU hx gc0 gc1 gc2 gc3 gc4 gc5
            have t5 : decide (nn < 1) = false := decide_eq_false (by omega)
            have t6 : decide (p' ≤ nn) = false := decide_eq_false (by omega)
            go_wp2_with fail
            obtain ⟨q, hq⟩ : ∃ q, q = w2.heap.size := ⟨_, rfl⟩
            obtain ⟨w3, hw3⟩ : ∃ w3, w3 = w2.alloc (.cells #[.int .i64 1, .int .i64 p', .int .i64 t', .int .i64 (a : Int), .int .i64 0, .int .u64 0] 35) := ⟨_, rfl⟩
            have HK3 := Aside0.mk (show w3.heap[g]? = some (.cells #[.int .i64 1, .int .i64 p, .int .i64 t, .int .i64 (L : Int), .int .i64 0, .int .u64 0] 35 (0, 0)) by rw [hw3]; exact blk_alloc HK2.out _)
            have HQ3 := Aside0.mk (show w3.heap[q]? = some (.cells #[.int .i64 1, .int .i64 p', .int .i64 t', .int .i64 (a : Int), .int .i64 0, .int .u64 0] 35 (0, 0)) by rw [hw3, hq]; exact blk_new w2 _)
            have HH3 := Aside0.mk (show Hold (deskShop kd kb) w.heap.size w w3 s' F2 by rw [hw3]; exact HH2.out.alloc _)
            have HU3 := Aside0.mk (show (Kd.int .i64).R 3 w3 w.heap.size (fun k => ¬ F2 k ∧ w.heap.size ≤ k) (.slice U u.length cu) u by rw [hw3]; exact Kd.R_alloc HU2.out _)
            have HGQ := Aside0.mk (show g ≠ q by rw [hq]; exact Nat.ne_of_lt (blk_lt HK2.out))
            rw [← hw3, ← hq]
            clear hw3 hq HK2 HH2 HU2
            go_loop [15] (fun i => ∃ m : Nat, m ≤ u.length ∧ i = .int .i64 m) (fun i => u.length - (intOf i).toNat)
            case atStart => exact ⟨0, Nat.zero_le _, rfl⟩
            case round =>
              obtain ⟨m, hm, rfl⟩ := hrel
              by_cases hml : m < u.length
              · obtain ⟨ad3, hU3, hy⟩ := Kd.at_int (Kd.R_reads' HU3.out).2.2 (m : Int) (by omega) (by omega)
                subst hU3
                clear hy
                have hy := R_cellk HU3.out m hml
                obtain ⟨y, hyd⟩ : ∃ y, y = u.getD m 0 := ⟨_, rfl⟩
                have hyn : (y == nn) = false := by
                  have h1 : y ≠ nn := by
                    intro h2
                    apply HNU.out
                    rw [← h2, hyd, List.getD_eq_getElem?_getD, List.getElem?_eq_getElem hml]
                    exact List.getElem_mem hml
                  simp [h1]
                rw [← hyd] at hy
                clear hyd
                clear hj1 HNU HFR HI2 HQ3 HGQ hm
                go_wp2
                go_round
                case rel => exact ⟨m + 1, by omega, by simp⟩
                case measure => simp only [intOf]; omega
              · have hml2 : m = u.length := by omega
                subst hml2
                have qc0 : w3.cell? ⟨q, 0, none⟩ = some (.int .i64 1) := (blk_cell HQ3.out 0).trans rfl
                have qc1 : w3.cell? ⟨q, 1, none⟩ = some (.int .i64 p') := (blk_cell HQ3.out 1).trans rfl
                have qc2 : w3.cell? ⟨q, 2, none⟩ = some (.int .i64 t') := (blk_cell HQ3.out 2).trans rfl
                have qc3 : w3.cell? ⟨q, 3, none⟩ = some (.int .i64 (a : Int)) := (blk_cell HQ3.out 3).trans rfl
                have qc4 : w3.cell? ⟨q, 4, none⟩ = some (.int .i64 0) := (blk_cell HQ3.out 4).trans rfl
                have qc5 : w3.cell? ⟨q, 5, none⟩ = some (.int .u64 0) := (blk_cell HQ3.out 5).trans rfl
                have gc0 : w3.cell? ⟨g, 0, none⟩ = some (.int .i64 1) := (blk_cell HK3.out 0).trans rfl
                have gf0 : w3.frozen? ⟨g, 0, none⟩ = false := blk_frozen HK3.out 0
                have gc1 : w3.cell? ⟨g, 1, none⟩ = some (.int .i64 p) := (blk_cell HK3.out 1).trans rfl
                have gf1 : w3.frozen? ⟨g, 1, none⟩ = false := blk_frozen HK3.out 1
                have gc2 : w3.cell? ⟨g, 2, none⟩ = some (.int .i64 t) := (blk_cell HK3.out 2).trans rfl
                have gf2 : w3.frozen? ⟨g, 2, none⟩ = false := blk_frozen HK3.out 2
                have gc3 : w3.cell? ⟨g, 3, none⟩ = some (.int .i64 (L : Int)) := (blk_cell HK3.out 3).trans rfl
                have gf3 : w3.frozen? ⟨g, 3, none⟩ = false := blk_frozen HK3.out 3
                have gc4 : w3.cell? ⟨g, 4, none⟩ = some (.int .i64 0) := (blk_cell HK3.out 4).trans rfl
                have gf4 : w3.frozen? ⟨g, 4, none⟩ = false := blk_frozen HK3.out 4
                have gc5 : w3.cell? ⟨g, 5, none⟩ = some (.int .u64 0) := (blk_cell HK3.out 5).trans rfl
                have gf5 : w3.frozen? ⟨g, 5, none⟩ = false := blk_frozen HK3.out 5
                have HK5 := Aside0.mk (show ((((((w3.setCell ⟨g, 0, none⟩ (.int .i64 1)).setCell ⟨g, 1, none⟩ (.int .i64 p')).setCell ⟨g, 2, none⟩ (.int .i64 t')).setCell ⟨g, 3, none⟩ (.int .i64 (a : Int))).setCell ⟨g, 4, none⟩ (.int .i64 0)).setCell ⟨g, 5, none⟩ (.int .u64 0)).heap[g]? = some (.cells #[.int .i64 1, .int .i64 p', .int .i64 t', .int .i64 (a : Int), .int .i64 0, .int .u64 0] 35 (0, 0)) from put6 HK3.out (.int .i64 1) (.int .i64 p') (.int .i64 t') (.int .i64 (a : Int)) (.int .i64 0) (.int .u64 0))
                have HH5 := Aside0.mk (show Hold (deskShop kd kb) w.heap.size w ((((((w3.setCell ⟨g, 0, none⟩ (.int .i64 1)).setCell ⟨g, 1, none⟩ (.int .i64 p')).setCell ⟨g, 2, none⟩ (.int .i64 t')).setCell ⟨g, 3, none⟩ (.int .i64 (a : Int))).setCell ⟨g, 4, none⟩ (.int .i64 0)).setCell ⟨g, 5, none⟩ (.int .u64 0)) s' F2 from HH3.out.set6 HN2.out HG.out (.int .i64 1) (.int .i64 p') (.int .i64 t') (.int .i64 (a : Int)) (.int .i64 0) (.int .u64 0))
                have HU5 := Aside0.mk (show (Kd.int .i64).R 3 ((((((w3.setCell ⟨g, 0, none⟩ (.int .i64 1)).setCell ⟨g, 1, none⟩ (.int .i64 p')).setCell ⟨g, 2, none⟩ (.int .i64 t')).setCell ⟨g, 3, none⟩ (.int .i64 (a : Int))).setCell ⟨g, 4, none⟩ (.int .i64 0)).setCell ⟨g, 5, none⟩ (.int .u64 0)) w.heap.size (fun k' => ¬ F2 k' ∧ w.heap.size ≤ k') (.slice U u.length cu) u from R_set6 HU3.out HK3.out (.int .i64 1) (.int .i64 p') (.int .i64 t') (.int .i64 (a : Int)) (.int .i64 0) (.int .u64 0))
                have HB5 := Aside0.mk (S_bound HH3.out)
                have hqg : ¬ q = g := Ne.symm HGQ.out
                have hgq : ¬ g = q := HGQ.out
                go_wp2_with (at_builtin; refine Kd.R_append (Kd.int .i64) (W := ((((((w3.setCell ⟨g, 0, none⟩ (.int .i64 1)).setCell ⟨g, 1, none⟩ (.int .i64 p')).setCell ⟨g, 2, none⟩ (.int .i64 t')).setCell ⟨g, 3, none⟩ (.int .i64 (a : Int))).setCell ⟨g, 4, none⟩ (.int .i64 0)).setCell ⟨g, 5, none⟩ (.int .u64 0))) (w0 := ((((((w3.setCell ⟨g, 0, none⟩ (.int .i64 1)).setCell ⟨g, 1, none⟩ (.int .i64 p')).setCell ⟨g, 2, none⟩ (.int .i64 t')).setCell ⟨g, 3, none⟩ (.int .i64 (a : Int))).setCell ⟨g, 4, none⟩ (.int .i64 0)).setCell ⟨g, 5, none⟩ (.int .u64 0))) w.heap.size rfl (.tmp 114) (.tmp 116) 22 3 (.int .i64 0) 8 rfl Try.underlying22 info3 rfl (by decide) (by decide) (.slice U u.length cu) _ nn [.int .i64 nn] (fun k' => ¬ F2 k' ∧ w.heap.size ≤ k') (fun k' => some k' ≠ (Value.slice U u.length cu).ownBlock ∧ (¬ F2 k' ∧ w.heap.size ≤ k')) rfl (by show Value.slice (some ⟨w3.heap.size, 0, none⟩) 1 1 = _; simp) rfl (fun _ h => ⟨h.2, h.1⟩) (fun k' hk' => ⟨fun hf => by have := HB5.out k' hf; simp at hk'; omega, by have := HH3.out.2.2.2; simp at hk'; omega⟩) HU5.out (Below.refl _ _) HH5.out.2.2.2 (by omega) ?_; intro v7 w7 hR7 hB7 hG7 hat7; have HK7 := Aside0.mk (blk_grown HK5.out hG7 (R_ne_blk HU5.out HK5.out (by decide))); have HH7 := Aside0.mk (HH5.out.grown hG7 (fun k' hk' => HU5.out.1 k' hk')); obtain ⟨un, hun⟩ : ∃ un, un = u ++ [nn] := ⟨_, rfl⟩; rw [← hun] at hR7; have HUN := Aside0.mk hun; clear hun; obtain ⟨A7, c7, hv7⟩ := Kd.R_slice hR7; subst hv7; have HL7 := Aside0.mk hR7; clear hR7 hB7 hG7 hat7; clear HK3 HQ3 HH3 HU3 HK5 HH5 HU5 qc0 gc0 gf0 qc1 gc1 gf1 qc2 gc2 gf2 qc3 gc3 gf3 qc4 gc4 gf4 qc5 gc5 gf5; refine Shut.out ?_)
                unfold Shut
                have HUNL : Aside0 (un.length = u.length + 1) := ⟨by rw [HUN.out, List.length_append]; rfl⟩
                have hunl : un.length ≤ 301 := by have := HUNL.out; omega
                have HP2 : Aside0 (p' = 1 + (un.length : Int) + ((flat c').length : Int)) := ⟨by have := HI2.out.1; rw [HUN.out]; exact this⟩
                have HI7 : Aside0 (Inv un (flat c') p') := ⟨by rw [HUN.out]; exact HI2.out⟩
                have HZ : Aside0 ((t' == 0) = decide (a = 0)) := ⟨by rw [HA2.out]; exact chain_zero HC.out⟩
                rw [← HA2.out] at HP2
                rcases HFR.out with hfr | hfr
                · obtain rfl : L = a + 1 := hfr.2
                  clear hfr HFR
                  by_cases ha0 : a = 0
                  · subst ha0
                    have hz1 : (t' == 0) = true := HZ.out.trans (decide_eq_true rfl)
                    have hpp : (p' != 1 + (un.length : Int)) = false := by have := HP2.out; simp; omega
                    have gc0 : w7.cell? ⟨g, 0, none⟩ = some (.int .i64 1) := (blk_cell HK7.out 0).trans rfl
                    have gc1 : w7.cell? ⟨g, 1, none⟩ = some (.int .i64 p') := (blk_cell HK7.out 1).trans rfl
                    have gc2 : w7.cell? ⟨g, 2, none⟩ = some (.int .i64 t') := (blk_cell HK7.out 2).trans rfl
                    have gc3 : w7.cell? ⟨g, 3, none⟩ = some (.int .i64 (0)) := (blk_cell HK7.out 3).trans rfl
                    have gc4 : w7.cell? ⟨g, 4, none⟩ = some (.int .i64 0) := (blk_cell HK7.out 4).trans rfl
                    have gc5 : w7.cell? ⟨g, 5, none⟩ = some (.int .u64 0) := (blk_cell HK7.out 5).trans rfl
                    go_wp2
                    go_roundw
                    case measure => simp only [intOf]; omega
                    case rel => exact ⟨j + 1, s', t', c', F2, un, p', by omega, by omega, by omega, rfl, by first | (rw [← HA2.out]; done) | (rw [← HA2.out]; rfl), ⟨by rw [← HA2.out]; exact HK7.out⟩, HH7, HN2, HC, HI7, HO, HL7⟩
                  · obtain ⟨b, rfl⟩ : ∃ b, a = b + 1 := ⟨a - 1, by omega⟩
                    clear ha0
                    have hz1 : (t' == 0) = false := HZ.out.trans (decide_eq_false (by omega))
                    have hpp : (p' != 1 + (un.length : Int) + ((b : Int) + 1)) = false := by have := HP2.out; simp; omega
                    have gc0 : w7.cell? ⟨g, 0, none⟩ = some (.int .i64 1) := (blk_cell HK7.out 0).trans rfl
                    have gc1 : w7.cell? ⟨g, 1, none⟩ = some (.int .i64 p') := (blk_cell HK7.out 1).trans rfl
                    have gc2 : w7.cell? ⟨g, 2, none⟩ = some (.int .i64 t') := (blk_cell HK7.out 2).trans rfl
                    have gc3 : w7.cell? ⟨g, 3, none⟩ = some (.int .i64 ((b : Int) + 1)) := (blk_cell HK7.out 3).trans rfl
                    have gc4 : w7.cell? ⟨g, 4, none⟩ = some (.int .i64 0) := (blk_cell HK7.out 4).trans rfl
                    have gc5 : w7.cell? ⟨g, 5, none⟩ = some (.int .u64 0) := (blk_cell HK7.out 5).trans rfl
                    go_wp2
                    go_roundw
                    case measure => simp only [intOf]; omega
                    case rel => exact ⟨j + 1, s', t', c', F2, un, p', by omega, by omega, by omega, rfl, by first | (rw [← HA2.out]; done) | (rw [← HA2.out]; rfl), ⟨by rw [← HA2.out]; exact HK7.out⟩, HH7, HN2, HC, HI7, HO, HL7⟩
                · obtain rfl : L = 0 := hfr.1
                  have ha0 : a = 0 := hfr.2
                  clear hfr HFR
                  subst ha0
                  have hz1 : (t' == 0) = true := HZ.out.trans (decide_eq_true rfl)
                  have hpp : (p' != 1 + (un.length : Int)) = false := by have := HP2.out; simp; omega
                  have gc0 : w7.cell? ⟨g, 0, none⟩ = some (.int .i64 1) := (blk_cell HK7.out 0).trans rfl
                  have gc1 : w7.cell? ⟨g, 1, none⟩ = some (.int .i64 p') := (blk_cell HK7.out 1).trans rfl
                  have gc2 : w7.cell? ⟨g, 2, none⟩ = some (.int .i64 t') := (blk_cell HK7.out 2).trans rfl
                  have gc3 : w7.cell? ⟨g, 3, none⟩ = some (.int .i64 (0)) := (blk_cell HK7.out 3).trans rfl
                  have gc4 : w7.cell? ⟨g, 4, none⟩ = some (.int .i64 0) := (blk_cell HK7.out 4).trans rfl
                  have gc5 : w7.cell? ⟨g, 5, none⟩ = some (.int .u64 0) := (blk_cell HK7.out 5).trans rfl
                  go_wp2
                  go_roundw
                  case measure => simp only [intOf]; omega
                  case rel => exact ⟨j + 1, s', t', c', F2, un, p', by omega, by omega, by omega, rfl, by first | (rw [← HA2.out]; done) | (rw [← HA2.out]; rfl), ⟨by rw [← HA2.out]; exact HK7.out⟩, HH7, HN2, HC, HI7, HO, HL7⟩
          · have hu0 : 0 < u.length := by have := of_decide_eq_true h4; omega
            obtain ⟨k, hk, hkw⟩ := idx_ x u.length hu0 hmu
            have HKW := Aside0.mk hkw
            clear hkw
            go_wp2_with fail
            rw [HKW.out]
            clear HKW hx h3 hwu
            obtain ⟨ad2, hU2, hy⟩ := Kd.at_int HCU.out (k : Int) (by omega) (by omega)
            subst hU2
            clear hy HCU
            have hy := R_cellk HU.out k hk
            obtain ⟨s', t', c', e1, e2, e3, e4⟩ := once_give (m := 1000 - 2 * (j + 1)) (by have := HO.out; rwa [show 1000 - 2 * j = 1000 - 2 * (j + 1) + 2 by omega] at this) HC.out HI.out hk (by omega)
            have HFIT := Aside0.mk ((deskLive kd kb).fits (k := 999 - 2 * j) (by have := HO.out; rwa [show 1000 - 2 * j = 999 - 2 * j + 1 by omega] at this))
            obtain ⟨y, hyd⟩ : ∃ y, y = u.getD k 0 := ⟨_, rfl⟩
            rw [← hyd] at hy e1 e3
            have HYD := Aside0.mk hyd
            have HE1 := Aside0.mk e1
            replace HC := Aside0.mk e2
            have HF := Aside0.mk e3
            replace HO := Aside0.mk e4
            clear e1 e2 e3 e4 hyd
            refine start_ (n := 14) (S := fun w' => w'.cell? ⟨g, 0, none⟩ = some (.int .i64 1) ∧ w'.cell? ⟨g, 1, none⟩ = some (.int .i64 p) ∧ w'.cell? ⟨g, 2, none⟩ = some (.int .i64 t) ∧ w'.cell? ⟨g, 3, none⟩ = some (.int .i64 ((flat c).length : Int)) ∧ w'.cell? ⟨g, 4, none⟩ = some (.int .i64 0) ∧ w'.cell? ⟨g, 5, none⟩ = some (.int .u64 0) ∧ w'.cell? (ad2.add k) = some (.int .i64 y)) (ds := [12]) #[false, false, false, false, false, false, false, false, false, false, false, false, false, false] (by kernel_rfl) rfl rfl ⟨(blk_cell HK.out 0).trans rfl, (blk_cell HK.out 1).trans rfl, (blk_cell HK.out 2).trans rfl, (blk_cell HK.out 3).trans rfl, (blk_cell HK.out 4).trans rfl, (blk_cell HK.out 5).trans rfl, hy⟩ (fun hHeld => ?_)
            replace HK := Aside0.mk (blk_drew HK.out)
            replace HH := Aside0.mk HH.out.drew
            replace HU := Aside0.mk (Kd.R_drew HU.out)
            clear hy
            generalize wr.drew = wd at HK HH HU hHeld ⊢
            refine pure_ (i := 1) (N := some 54) (v := ?_) (a' := ?_) #[false, true, false, false, false, false, false, false, false, false, false, false, false, false] rfl rfl (by kernel_rfl) (fun _ _ _ h => h) (Or.inl ⟨by rfl, ?_⟩) ?_ ?_
            rotate_left
            · intro w'
              go_simp
              with_reducible rfl
            rotate_left
            · simp only [putAll, Act.put, List.setIfInBounds_toArray, List.set_cons_zero, List.set_cons_succ]
              rfl
            refine pure_ (i := 2) (N := some 55) (v := ?_) (a' := ?_) #[false, true, true, false, false, false, false, false, false, false, false, false, false, false] rfl rfl (by kernel_rfl) (fun _ _ _ h => h) (Or.inl ⟨by rfl, ?_⟩) ?_ ?_
            rotate_left
            · intro w'
              go_simp
              with_reducible rfl
            rotate_left
            · simp only [putAll, Act.put, List.setIfInBounds_toArray, List.set_cons_zero, List.set_cons_succ]
              rfl
            refine pure_ (i := 3) (N := some 56) (v := ?_) (a' := ?_) #[false, true, true, true, false, false, false, false, false, false, false, false, false, false] rfl rfl (by kernel_rfl) (fun _ _ _ h => h) (Or.inl ⟨by rfl, ?_⟩) ?_ ?_
            rotate_left
            · intro w'
              go_simp
              with_reducible rfl
            rotate_left
            · simp only [putAll, Act.put, List.setIfInBounds_toArray, List.set_cons_zero, List.set_cons_succ]
              rfl
            refine pure_ (i := 4) (N := some 57) (v := ?_) (a' := ?_) #[false, true, true, true, true, false, false, false, false, false, false, false, false, false] rfl rfl (by kernel_rfl) (fun _ _ _ h => h) (Or.inl ⟨by rfl, ?_⟩) ?_ ?_
            rotate_left
            · intro w'
              go_simp
              with_reducible rfl
            rotate_left
            · simp only [putAll, Act.put, List.setIfInBounds_toArray, List.set_cons_zero, List.set_cons_succ]
              rfl
            refine pure_ (i := 5) (N := some 58) (v := ?_) (a' := ?_) #[false, true, true, true, true, true, false, false, false, false, false, false, false, false] rfl rfl (by kernel_rfl) (fun _ _ _ h => h) (Or.inl ⟨by rfl, ?_⟩) ?_ ?_
            rotate_left
            · intro w'
              go_simp
              with_reducible rfl
            rotate_left
            · simp only [putAll, Act.put, List.setIfInBounds_toArray, List.set_cons_zero, List.set_cons_succ]
              rfl
            refine take_ (i := 0) (N := some 53) (v := ?_) (a' := ?_) #[true, true, true, true, true, true, false, false, false, false, false, false, false, false] rfl rfl (by kernel_rfl) (fun _ _ _ h => h) (Or.inl ⟨by rfl, ?_⟩) hHeld ?_ ?_
            rotate_left
            · rintro w' ⟨s0, s1, s2, s3, s4, s5, s6⟩
              go_simp
              with_reducible rfl
            rotate_left
            · simp only [putAll, Act.put, List.setIfInBounds_toArray, List.set_cons_zero, List.set_cons_succ]
              rfl
            refine take_ (i := 6) (N := some 59) (v := ?_) (a' := ?_) #[true, true, true, true, true, true, true, false, false, false, false, false, false, false] rfl rfl (by kernel_rfl) (fun _ _ _ h => h) (Or.inl ⟨by rfl, ?_⟩) hHeld ?_ ?_
            rotate_left
            · rintro w' ⟨s0, s1, s2, s3, s4, s5, s6⟩
              go_simp
              with_reducible rfl
            rotate_left
            · simp only [putAll, Act.put, List.setIfInBounds_toArray, List.set_cons_zero, List.set_cons_succ]
              rfl
            refine join_ 2 #[true, true, true, true, true, true, true, true, true, true, true, true, false, false] (fun q : Nat => [(60, .tuple #[.agg #[.int .i64 1, .int .i64 p, .int .i64 t', .int .i64 (((flat c).length : Int) + 1), .int .i64 0, .int .u64 0], .int .i64 0]), (52, .tuple #[.agg #[.int .i64 1, .int .i64 p, .int .i64 t', .int .i64 (((flat c).length : Int) + 1), .int .i64 0, .int .u64 0], .int .i64 0]), (61, .agg #[.int .i64 1, .int .i64 p, .int .i64 t', .int .i64 (((flat c).length : Int) + 1), .int .i64 0, .int .u64 0]), (62, .int .i64 0), (9, .pointer (some ⟨q, 0, none⟩))]) (fun q w' => w'.heap[g]? = some (.cells #[.int .i64 1, .int .i64 p, .int .i64 t, .int .i64 ((flat c).length : Int), .int .i64 0, .int .u64 0] 35 (0, 0)) ∧ w'.heap[q]? = some (.cells #[.int .i64 0, .int .i64 0, .int .i64 0, .int .i64 0, .int .i64 0, .int .u64 0] 35 (0, 0)) ∧ g ≠ q ∧ w.heap.size ≤ q ∧ ∃ F2, Hold (deskShop kd kb) w.heap.size w w' s' F2 ∧ ¬ F2 g ∧ ¬ F2 q ∧ (Kd.int .i64).R 3 w' w.heap.size (fun k => ¬ F2 k ∧ w.heap.size ≤ k) (.slice (some ad2) u.length cu) u) ?_ (fun hcont => ?_)
            · intro q w3 hf
              obtain ⟨hK3, hQ3, hgq, hqB, F3, hH3, hN3, hNQ3, hU3⟩ := hf
              clear HK HH HN HU hHeld
              have qf0 : w3.frozen? ⟨q, 0, none⟩ = false := blk_frozen hQ3 0
              have qf1 : w3.frozen? ⟨q, 1, none⟩ = false := blk_frozen hQ3 1
              have qf2 : w3.frozen? ⟨q, 2, none⟩ = false := blk_frozen hQ3 2
              have qf3 : w3.frozen? ⟨q, 3, none⟩ = false := blk_frozen hQ3 3
              have qf4 : w3.frozen? ⟨q, 4, none⟩ = false := blk_frozen hQ3 4
              have qf5 : w3.frozen? ⟨q, 5, none⟩ = false := blk_frozen hQ3 5
              have qc0 : w3.cell? ⟨q, 0, none⟩ = some (.int .i64 0) := (blk_cell hQ3 0).trans rfl
              have qc1 : w3.cell? ⟨q, 1, none⟩ = some (.int .i64 0) := (blk_cell hQ3 1).trans rfl
              have qc2 : w3.cell? ⟨q, 2, none⟩ = some (.int .i64 0) := (blk_cell hQ3 2).trans rfl
              have qc3 : w3.cell? ⟨q, 3, none⟩ = some (.int .i64 0) := (blk_cell hQ3 3).trans rfl
              have qc4 : w3.cell? ⟨q, 4, none⟩ = some (.int .i64 0) := (blk_cell hQ3 4).trans rfl
              have qc5 : w3.cell? ⟨q, 5, none⟩ = some (.int .u64 0) := (blk_cell hQ3 5).trans rfl
              refine norm_ (a' := ?_) ?_ ?_
              rotate_left
              · simp only [putAll, Act.put, List.setIfInBounds_toArray, List.set_cons_zero, List.set_cons_succ]
                rfl
              refine last_ (i := 12) (N := none) #[true, true, true, true, true, true, true, true, true, true, true, true, true, false] rfl rfl (by kernel_rfl) (by decide) (fun K hK => ?_)
              refine skip_ (w1 := ((((((w3.setCell ⟨q, 0, none⟩ (.int .i64 1)).setCell ⟨q, 1, none⟩ (.int .i64 p)).setCell ⟨q, 2, none⟩ (.int .i64 t')).setCell ⟨q, 3, none⟩ (.int .i64 (((flat c).length : Int) + 1))).setCell ⟨q, 4, none⟩ (.int .i64 0)).setCell ⟨q, 5, none⟩ (.int .u64 0))) (by rfl) rfl (by go_simp) ?_
              refine hK.out _ _ ?_
              clear hK K
              clear qf0 qc0 qf1 qc1 qf2 qc2 qf3 qc3 qf4 qc4 qf5 qc5
              have HK4 := Aside0.mk (far6 hK3 hgq (.int .i64 1) (.int .i64 p) (.int .i64 t') (.int .i64 (((flat c).length : Int) + 1)) (.int .i64 0) (.int .u64 0))
              have HQ4 := Aside0.mk (put6 hQ3 (.int .i64 1) (.int .i64 p) (.int .i64 t') (.int .i64 (((flat c).length : Int) + 1)) (.int .i64 0) (.int .u64 0))
              have HH4 := Aside0.mk (hH3.set6 hNQ3 hqB (.int .i64 1) (.int .i64 p) (.int .i64 t') (.int .i64 (((flat c).length : Int) + 1)) (.int .i64 0) (.int .u64 0))
              have HU4 := Aside0.mk (R_set6 hU3 hQ3 (.int .i64 1) (.int .i64 p) (.int .i64 t') (.int .i64 (((flat c).length : Int) + 1)) (.int .i64 0) (.int .u64 0))
              have HN3 := Aside0.mk hN3
              have HNQ3 := Aside0.mk hNQ3
              have HQB := Aside0.mk hqB
              generalize ((((((w3.setCell ⟨q, 0, none⟩ (.int .i64 1)).setCell ⟨q, 1, none⟩ (.int .i64 p)).setCell ⟨q, 2, none⟩ (.int .i64 t')).setCell ⟨q, 3, none⟩ (.int .i64 (((flat c).length : Int) + 1))).setCell ⟨q, 4, none⟩ (.int .i64 0)).setCell ⟨q, 5, none⟩ (.int .u64 0)) = w4 at HK4 HQ4 HH4 HU4 ⊢
              clear hK3 hQ3 hH3 hU3 hN3 hNQ3 hqB
              refine pure_ (i := 13) (N := some 10) (v := ?_) (a' := ?_) #[true, true, true, true, true, true, true, true, true, true, true, true, true, true] rfl rfl (by kernel_rfl) (fun _ _ _ h => h) (Or.inl ⟨by rfl, ?_⟩) ?_ ?_
              rotate_left
              · intro w'
                go_simp
                with_reducible rfl
              rotate_left
              · simp only [putAll, Act.put, List.setIfInBounds_toArray, List.set_cons_zero, List.set_cons_succ]
                rfl
              refine done_ (by kernel_rfl) ?_
              have qc0 : w4.cell? ⟨q, 0, none⟩ = some (.int .i64 1) := (blk_cell HQ4.out 0).trans rfl
              have qc1 : w4.cell? ⟨q, 1, none⟩ = some (.int .i64 p) := (blk_cell HQ4.out 1).trans rfl
              have qc2 : w4.cell? ⟨q, 2, none⟩ = some (.int .i64 t') := (blk_cell HQ4.out 2).trans rfl
              have qc3 : w4.cell? ⟨q, 3, none⟩ = some (.int .i64 (((flat c).length : Int) + 1)) := (blk_cell HQ4.out 3).trans rfl
              have qc4 : w4.cell? ⟨q, 4, none⟩ = some (.int .i64 0) := (blk_cell HQ4.out 4).trans rfl
              have qc5 : w4.cell? ⟨q, 5, none⟩ = some (.int .u64 0) := (blk_cell HQ4.out 5).trans rfl
              have gc0 : w4.cell? ⟨g, 0, none⟩ = some (.int .i64 1) := (blk_cell HK4.out 0).trans rfl
              have gf0 : w4.frozen? ⟨g, 0, none⟩ = false := blk_frozen HK4.out 0
              have gc1 : w4.cell? ⟨g, 1, none⟩ = some (.int .i64 p) := (blk_cell HK4.out 1).trans rfl
              have gf1 : w4.frozen? ⟨g, 1, none⟩ = false := blk_frozen HK4.out 1
              have gc2 : w4.cell? ⟨g, 2, none⟩ = some (.int .i64 t) := (blk_cell HK4.out 2).trans rfl
              have gf2 : w4.frozen? ⟨g, 2, none⟩ = false := blk_frozen HK4.out 2
              have gc3 : w4.cell? ⟨g, 3, none⟩ = some (.int .i64 ((flat c).length : Int)) := (blk_cell HK4.out 3).trans rfl
              have gf3 : w4.frozen? ⟨g, 3, none⟩ = false := blk_frozen HK4.out 3
              have gc4 : w4.cell? ⟨g, 4, none⟩ = some (.int .i64 0) := (blk_cell HK4.out 4).trans rfl
              have gf4 : w4.frozen? ⟨g, 4, none⟩ = false := blk_frozen HK4.out 4
              have gc5 : w4.cell? ⟨g, 5, none⟩ = some (.int .u64 0) := (blk_cell HK4.out 5).trans rfl
              have gf5 : w4.frozen? ⟨g, 5, none⟩ = false := blk_frozen HK4.out 5
              have hqg : ¬ q = g := Ne.symm hgq
              have hgq' : ¬ g = q := hgq
              have hw5s : ((((((w4.setCell ⟨g, 0, none⟩ (.int .i64 1)).setCell ⟨g, 1, none⟩ (.int .i64 p)).setCell ⟨g, 2, none⟩ (.int .i64 t')).setCell ⟨g, 3, none⟩ (.int .i64 (((flat c).length : Int) + 1))).setCell ⟨g, 4, none⟩ (.int .i64 0)).setCell ⟨g, 5, none⟩ (.int .u64 0)).heap.size = w4.heap.size := by simp
              have HK5 := Aside0.mk (show (((((((w4.setCell ⟨g, 0, none⟩ (.int .i64 1)).setCell ⟨g, 1, none⟩ (.int .i64 p)).setCell ⟨g, 2, none⟩ (.int .i64 t')).setCell ⟨g, 3, none⟩ (.int .i64 (((flat c).length : Int) + 1))).setCell ⟨g, 4, none⟩ (.int .i64 0)).setCell ⟨g, 5, none⟩ (.int .u64 0)).alloc (.cells #[] 3)).heap[g]? = some (.cells #[.int .i64 1, .int .i64 p, .int .i64 t', .int .i64 (((flat c).length : Int) + 1), .int .i64 0, .int .u64 0] 35 (0, 0)) from blk_alloc (put6 HK4.out (.int .i64 1) (.int .i64 p) (.int .i64 t') (.int .i64 (((flat c).length : Int) + 1)) (.int .i64 0) (.int .u64 0)) _)
              have HH5 := Aside0.mk (show Hold (deskShop kd kb) w.heap.size w (((((((w4.setCell ⟨g, 0, none⟩ (.int .i64 1)).setCell ⟨g, 1, none⟩ (.int .i64 p)).setCell ⟨g, 2, none⟩ (.int .i64 t')).setCell ⟨g, 3, none⟩ (.int .i64 (((flat c).length : Int) + 1))).setCell ⟨g, 4, none⟩ (.int .i64 0)).setCell ⟨g, 5, none⟩ (.int .u64 0)).alloc (.cells #[] 3)) s' F3 from (HH4.out.set6 HN3.out HG.out (.int .i64 1) (.int .i64 p) (.int .i64 t') (.int .i64 (((flat c).length : Int) + 1)) (.int .i64 0) (.int .u64 0)).alloc _)
              have HU5 := Aside0.mk (show (Kd.int .i64).R 3 (((((((w4.setCell ⟨g, 0, none⟩ (.int .i64 1)).setCell ⟨g, 1, none⟩ (.int .i64 p)).setCell ⟨g, 2, none⟩ (.int .i64 t')).setCell ⟨g, 3, none⟩ (.int .i64 (((flat c).length : Int) + 1))).setCell ⟨g, 4, none⟩ (.int .i64 0)).setCell ⟨g, 5, none⟩ (.int .u64 0)).alloc (.cells #[] 3)) w.heap.size (fun k' => (¬ F3 k' ∧ w.heap.size ≤ k') ∧ k' < w4.heap.size) (.slice (some ad2) u.length cu) u from Kd.R_alloc (Kd.R_mono (Kd.R_bound (R_set6 HU4.out HK4.out (.int .i64 1) (.int .i64 p) (.int .i64 t') (.int .i64 (((flat c).length : Int) + 1)) (.int .i64 0) (.int .u64 0))) (fun k' hk' => ⟨hk'.1, by have := hk'.2.2.1; rwa [hw5s] at this⟩)) _)
              have HL5 := Aside0.mk (show (Kd.int .i64).R 3 (((((((w4.setCell ⟨g, 0, none⟩ (.int .i64 1)).setCell ⟨g, 1, none⟩ (.int .i64 p)).setCell ⟨g, 2, none⟩ (.int .i64 t')).setCell ⟨g, 3, none⟩ (.int .i64 (((flat c).length : Int) + 1))).setCell ⟨g, 4, none⟩ (.int .i64 0)).setCell ⟨g, 5, none⟩ (.int .u64 0)).alloc (.cells #[] 3)) w.heap.size (fun k' => ¬ F3 k' ∧ w.heap.size ≤ k') (.slice (some ⟨w4.heap.size, 0, none⟩) 0 0) [] from by
                have h0 := R_none ((((((w4.setCell ⟨g, 0, none⟩ (.int .i64 1)).setCell ⟨g, 1, none⟩ (.int .i64 p)).setCell ⟨g, 2, none⟩ (.int .i64 t')).setCell ⟨g, 3, none⟩ (.int .i64 (((flat c).length : Int) + 1))).setCell ⟨g, 4, none⟩ (.int .i64 0)).setCell ⟨g, 5, none⟩ (.int .u64 0)) w.heap.size (by rw [hw5s]; exact HH4.out.2.2.2) (fun k' => ¬ F3 k' ∧ w.heap.size ≤ k') (by rw [hw5s]; exact ⟨HH4.out.fresh, HH4.out.2.2.2⟩)
                rwa [hw5s] at h0)
              have HC5 := Aside0.mk (C_upto (Kd.R_reads' HU5.out).2.2 k (by omega))
              have HSZ := Aside0.mk (show w4.heap.size < (((((((w4.setCell ⟨g, 0, none⟩ (.int .i64 1)).setCell ⟨g, 1, none⟩ (.int .i64 p)).setCell ⟨g, 2, none⟩ (.int .i64 t')).setCell ⟨g, 3, none⟩ (.int .i64 (((flat c).length : Int) + 1))).setCell ⟨g, 4, none⟩ (.int .i64 0)).setCell ⟨g, 5, none⟩ (.int .u64 0)).alloc (.cells #[] 3)).heap.size by simp)
              have HB4 := Aside0.mk (S_bound HH4.out)
              have HCF := Aside0.mk (C_from (Kd.R_reads' HU5.out).2.2 (k + 1) (by omega) hcu)
              obtain ⟨X, hX⟩ : ∃ X, X = (if cu = k + 1 then some ad2 else some (ad2.add (k + 1))) := ⟨_, rfl⟩
              rw [← hX] at HCF
              obtain ⟨n2, hn2⟩ : ∃ n2, n2 = u.length - (k + 1) := ⟨_, rfl⟩
              obtain ⟨c2, hc2⟩ : ∃ c2, c2 = cu - (k + 1) := ⟨_, rfl⟩
              rw [← hn2] at HCF
              have hcut : ∀ W : World, (Instr.slice 22 (.slice (some ad2) u.length cu) (some (.int .i64 ((k : Int) + 1))) none none).run Try.prog W = .ok (.slice X n2 c2) W := fun W => by rw [hX, hn2, hc2]; exact cut_from (some ad2) u.length cu k (by omega) W
              have hn2l : n2 ≤ 300 := by omega
              have HNN2 := Aside0.mk hn2
              have HX := Aside0.mk hX
              clear hX hn2 hc2
              obtain ⟨u1, hu1⟩ : ∃ u1, u1 = u.take k := ⟨_, rfl⟩
              rw [← hu1] at HC5
              have HUL1 : u1.length = k := by rw [hu1, List.length_take]; omega
              have HU1 := Aside0.mk hu1
              clear hu1
              obtain ⟨u2, hu2⟩ : ∃ u2, u2 = u.drop (k + 1) := ⟨_, rfl⟩
              rw [← hu2] at HCF
              have HUU2 := Aside0.mk hu2
              have HUL2 : Aside0 (u2.length = u.length - (k + 1)) := ⟨by rw [hu2, List.length_drop]⟩
              clear hu2
              clear hw5s
              go_wp2_with (at_builtin; refine Kd.R_append_row (Value.int .i64) 0 (W := (((((((w4.setCell ⟨g, 0, none⟩ (.int .i64 1)).setCell ⟨g, 1, none⟩ (.int .i64 p)).setCell ⟨g, 2, none⟩ (.int .i64 t')).setCell ⟨g, 3, none⟩ (.int .i64 (((flat c).length : Int) + 1))).setCell ⟨g, 4, none⟩ (.int .i64 0)).setCell ⟨g, 5, none⟩ (.int .u64 0)).alloc (.cells #[] 3))) (w0 := (((((((w4.setCell ⟨g, 0, none⟩ (.int .i64 1)).setCell ⟨g, 1, none⟩ (.int .i64 p)).setCell ⟨g, 2, none⟩ (.int .i64 t')).setCell ⟨g, 3, none⟩ (.int .i64 (((flat c).length : Int) + 1))).setCell ⟨g, 4, none⟩ (.int .i64 0)).setCell ⟨g, 5, none⟩ (.int .u64 0)).alloc (.cells #[] 3))) w.heap.size rfl (.tmp 67) (.tmp 70) 22 3 (.int .i64 0) 8 rfl Try.underlying22 info3 rfl (by decide) (.slice (some ⟨w4.heap.size, 0, none⟩) 0 0) [] u1 (some ad2) k cu (fun k' => ¬ F3 k' ∧ w.heap.size ≤ k') rfl rfl (fun k' hk' => ⟨fun hf => by have := HB4.out k' hf; have := HSZ.out; omega, by have := HSZ.out; have := HH4.out.2.2.2; omega⟩) HL5.out HC5.out (Below.refl _ _) HH5.out.2.2.2 (by simp; omega) ?_; intro v6 w6 hR6 hB6 hG6 hat6; rw [List.nil_append] at hR6; have HK6 := Aside0.mk (blk_grown HK5.out hG6 (R_ne_blk HL5.out HK5.out (by decide))); have HH6 := Aside0.mk (HH5.out.grown hG6 (fun k' hk' => HL5.out.1 k' hk')); have HU6 := Aside0.mk (Kd.R_grown HU5.out hG6 (fun k' hk' => by simp [Value.ownBlock]; have := hk'.2; omega)); have HS6 := Aside0.mk hG6.size; have HAT := Aside0.mk (show ∀ k', k' < w4.heap.size → some k' ≠ v6.ownBlock from fun k' hk' he => by rcases hat6 with h1 | ⟨b6, h1, h2⟩; rw [h1] at he; simp [Value.ownBlock] at he; omega; rw [h1] at he; injection he with he; have := HSZ.out; omega); obtain ⟨A6, c6, hv6⟩ := Kd.R_slice hR6; subst hv6; have HL6 := Aside0.mk hR6; clear hR6 hB6 hG6 hat6 HK5 HH5 HU5 HL5 HC5 HK4 HQ4 HH4 HU4 qc0 gc0 gf0 qc1 gc1 gf1 qc2 gc2 gf2 qc3 gc3 gf3 qc4 gc4 gf4 qc5 gc5 gf5; refine Shut.out ?_)
              unfold Shut
              rw [HUL1] at HL6
              have HCF6 : Aside0 ((Kd.int .i64).C w6 X n2 u2) := ⟨by have h := C_from (Kd.R_reads' HU6.out).2.2 (k + 1) (by omega) hcu; rwa [← HX.out, ← HNN2.out, ← HUU2.out] at h⟩
              go_wp2_with (at_builtin; refine Kd.R_append_row (Value.int .i64) 0 (W := w6) (w0 := w6) w.heap.size rfl (.tmp 72) (.tmp 76) 22 3 (.int .i64 0) 8 rfl Try.underlying22 info3 rfl (by decide) (.slice A6 k c6) u1 u2 X n2 c2 (fun k' => ¬ F3 k' ∧ w.heap.size ≤ k') rfl rfl (fun k' hk' => ⟨fun hf => by have := HB4.out k' hf; have := HSZ.out; have := HS6.out; omega, by have := HH6.out.2.2.2; omega⟩) HL6.out HCF6.out (Below.refl _ _) HH6.out.2.2.2 (by omega) ?_; intro v7 w7 hR7 hB7 hG7 hat7; have HK7 := Aside0.mk (blk_grown HK6.out hG7 (R_ne_blk HL6.out HK6.out (by decide))); have HH7 := Aside0.mk (HH6.out.grown hG7 (fun k' hk' => HL6.out.1 k' hk')); obtain ⟨un, hun⟩ : ∃ un, un = u1 ++ u2 := ⟨_, rfl⟩; rw [← hun] at hR7; have HUN := Aside0.mk hun; clear hun; obtain ⟨A7, c7, hv7⟩ := Kd.R_slice hR7; subst hv7; have HL7 := Aside0.mk hR7; clear hR7 hB7 hG7 hat7; clear hcut HK6 HH6 HU6 HS6 HAT HL6 HCF6 HCF HX HNN2; refine Shut.out ?_)
              unfold Shut
              have HUNL : Aside0 (un.length + 1 = u.length) := ⟨by rw [HUN.out, List.length_append, HUL1, HUL2.out]; omega⟩
              have hunl : un.length ≤ 300 := by have := HUNL.out; omega
              have hfl : (flat c).length ≤ 300 := by have := HIL.out; omega
              have hpp : (p != 1 + (un.length : Int) + (((flat c).length : Int) + 1)) = false := by have h1 := HUNL.out; have h2 := HIL.out; simp; omega
              have ht0 : (t' == 0) = false := by
                rcases HC.out.top with h | h
                · have h1 := HF.out; rw [h.2] at h1; simp [flat] at h1
                · simp; omega
              have hf0 : ((((flat c).length : Int) + 1) == 0) = false := by simp; omega
              have gc0 : w7.cell? ⟨g, 0, none⟩ = some (.int .i64 1) := (blk_cell HK7.out 0).trans rfl
              have gc1 : w7.cell? ⟨g, 1, none⟩ = some (.int .i64 p) := (blk_cell HK7.out 1).trans rfl
              have gc2 : w7.cell? ⟨g, 2, none⟩ = some (.int .i64 t') := (blk_cell HK7.out 2).trans rfl
              have gc3 : w7.cell? ⟨g, 3, none⟩ = some (.int .i64 (((flat c).length : Int) + 1)) := (blk_cell HK7.out 3).trans rfl
              have gc4 : w7.cell? ⟨g, 4, none⟩ = some (.int .i64 0) := (blk_cell HK7.out 4).trans rfl
              have gc5 : w7.cell? ⟨g, 5, none⟩ = some (.int .u64 0) := (blk_cell HK7.out 5).trans rfl
              go_wp2
              have hlen : ((flat c').length : Int) = (flat c).length + 1 := by rw [HF.out]; simp
              have hinv : Inv un (flat c') p := by rw [HF.out, HYD.out, HUN.out, HU1.out, HUU2.out]; exact HI.out.give hk
              go_roundw
              case measure => simp only [intOf]; omega
              case rel => exact ⟨j + 1, s', t', c', F3, un, p, by omega, by omega, by omega, rfl, by rw [hlen], ⟨by rw [hlen]; exact HK7.out⟩, HH7, HN3, HC, ⟨hinv⟩, HO, HL7⟩
            refine two_ (i := 7) (j := 11) (Ni := some 60) (Nj := some 9) #[true, true, true, true, true, true, true, true, false, false, false, false, false, false] #[true, true, true, true, true, true, true, false, false, false, false, true, false, false] rfl rfl rfl rfl (by kernel_rfl) (by decide) (by decide) (fun K hK => ?_) (fun K hK => ?_)
            · refine call_ 22 #[.agg #[.int .i64 1, .int .i64 p, .int .i64 t, .int .i64 ((flat c).length : Int), .int .i64 0, .int .u64 0], .iface 38 (.pointer (some ⟨kd, 0, none⟩)), .int .i64 y] (by rfl) rfl (by go_simp) ?_
              refine (HH.out.giveE HE1.out HFIT.out (by omega) (by omega) (by omega)).mono ?_
              rintro e w2 ⟨rfl, F2, hH2, hP2⟩
              refine ⟨.tuple #[.agg #[.int .i64 1, .int .i64 p, .int .i64 t', .int .i64 (((flat c).length : Int) + 1), .int .i64 0, .int .u64 0], .int .i64 0], rfl, ?_⟩
              have HN2 := hP2.out HK.out HN.out
              have HK2 := hP2.blk HK.out HN.out
              have HU2 := hP2.R HU.out
              refine hK.out _ _ ⟨(blk_cell HK2 0).trans rfl, (blk_cell HK2 1).trans rfl, (blk_cell HK2 2).trans rfl, (blk_cell HK2 3).trans rfl, (blk_cell HK2 4).trans rfl, (blk_cell HK2 5).trans rfl, ((R_cellk HU2 k hk).trans (by rw [HYD.out]))⟩ (fun hHeld => ?_)
              clear hK K
              refine norm_ (a' := ?_) ?_ ?_
              rotate_left
              · show Act.put _ (some 60) _ = _
                simp only [putAll, Act.put, List.setIfInBounds_toArray, List.set_cons_zero, List.set_cons_succ]
                rfl
              refine pure_ (i := 8) (N := some 52) (v := ?_) (a' := ?_) #[true, true, true, true, true, true, true, true, true, false, false, false, false, false] rfl rfl (by kernel_rfl) (fun _ _ _ h => h) (Or.inl ⟨by rfl, ?_⟩) ?_ ?_
              rotate_left
              · intro w'
                go_simp
                with_reducible rfl
              rotate_left
              · simp only [putAll, Act.put, List.setIfInBounds_toArray, List.set_cons_zero, List.set_cons_succ]
                rfl
              refine pure_ (i := 9) (N := some 61) (v := ?_) (a' := ?_) #[true, true, true, true, true, true, true, true, true, true, false, false, false, false] rfl rfl (by kernel_rfl) (fun _ _ _ h => h) (Or.inl ⟨by rfl, ?_⟩) ?_ ?_
              rotate_left
              · intro w'
                go_simp
                with_reducible rfl
              rotate_left
              · simp only [putAll, Act.put, List.setIfInBounds_toArray, List.set_cons_zero, List.set_cons_succ]
                rfl
              refine pure_ (i := 10) (N := some 62) (v := ?_) (a' := ?_) #[true, true, true, true, true, true, true, true, true, true, true, false, false, false] rfl rfl (by kernel_rfl) (fun _ _ _ h => h) (Or.inl ⟨by rfl, ?_⟩) ?_ ?_
              rotate_left
              · intro w'
                go_simp
                with_reducible rfl
              rotate_left
              · simp only [putAll, Act.put, List.setIfInBounds_toArray, List.set_cons_zero, List.set_cons_succ]
                rfl
              refine one_ (i := 11) (N := some 9) #[true, true, true, true, true, true, true, true, true, true, true, true, false, false] rfl rfl (by kernel_rfl) (by decide) (fun K hK => ?_)
              refine value_ (v := .pointer (some ⟨w2.heap.size, 0, none⟩)) (w1 := w2.alloc (.cells #[.int .i64 0, .int .i64 0, .int .i64 0, .int .i64 0, .int .i64 0, .int .u64 0] 35)) (by rfl) rfl (by go_simp) ?_
              refine hK.out _ _ ⟨(blk_cell (blk_alloc HK2 _) 0).trans rfl, (blk_cell (blk_alloc HK2 _) 1).trans rfl, (blk_cell (blk_alloc HK2 _) 2).trans rfl, (blk_cell (blk_alloc HK2 _) 3).trans rfl, (blk_cell (blk_alloc HK2 _) 4).trans rfl, (blk_cell (blk_alloc HK2 _) 5).trans rfl, ((R_cellk (Kd.R_alloc HU2 _) k hk).trans (by rw [HYD.out]))⟩ (fun hHeld => ?_)
              clear hK K
              refine norm_ ?_ (hcont w2.heap.size _ ⟨blk_alloc HK2 _, blk_new w2 _, Nat.ne_of_lt (blk_lt HK2), hH2.2.2.2, F2, hH2.alloc _, HN2, hH2.fresh, Kd.R_alloc HU2 _⟩)
              simp only [putAll, Act.put, List.setIfInBounds_toArray, List.set_cons_zero, List.set_cons_succ]
            · refine value_ (v := .pointer (some ⟨wd.heap.size, 0, none⟩)) (w1 := wd.alloc (.cells #[.int .i64 0, .int .i64 0, .int .i64 0, .int .i64 0, .int .i64 0, .int .u64 0] 35)) (by rfl) rfl (by go_simp) ?_
              refine hK.out _ _ ⟨(blk_cell (blk_alloc HK.out _) 0).trans rfl, (blk_cell (blk_alloc HK.out _) 1).trans rfl, (blk_cell (blk_alloc HK.out _) 2).trans rfl, (blk_cell (blk_alloc HK.out _) 3).trans rfl, (blk_cell (blk_alloc HK.out _) 4).trans rfl, (blk_cell (blk_alloc HK.out _) 5).trans rfl, ((R_cellk (Kd.R_alloc HU.out _) k hk).trans (by rw [HYD.out]))⟩ (fun hHeld => ?_)
              clear hK K
              refine norm_ (a' := ?_) ?_ ?_
              rotate_left
              · show Act.put _ (some 9) _ = _
                simp only [putAll, Act.put, List.setIfInBounds_toArray, List.set_cons_zero, List.set_cons_succ]
                rfl
              refine one_ (i := 7) (N := some 60) #[true, true, true, true, true, true, true, true, false, false, false, true, false, false] rfl rfl (by kernel_rfl) (by decide) (fun K hK => ?_)
              refine call_ 22 #[.agg #[.int .i64 1, .int .i64 p, .int .i64 t, .int .i64 ((flat c).length : Int), .int .i64 0, .int .u64 0], .iface 38 (.pointer (some ⟨kd, 0, none⟩)), .int .i64 y] (by rfl) rfl (by go_simp) ?_
              refine ((HH.out.alloc _).giveE HE1.out HFIT.out (by omega) (by omega) (by omega)).mono ?_
              rintro e w2 ⟨rfl, F2, hH2, hP2⟩
              refine ⟨.tuple #[.agg #[.int .i64 1, .int .i64 p, .int .i64 t', .int .i64 (((flat c).length : Int) + 1), .int .i64 0, .int .u64 0], .int .i64 0], rfl, ?_⟩
              have HKa := blk_alloc HK.out (.cells #[.int .i64 0, .int .i64 0, .int .i64 0, .int .i64 0, .int .i64 0, .int .u64 0] 35)
              have HN2 := hP2.out HKa HN.out
              have HK2 := hP2.blk HKa HN.out
              have HU2 := hP2.R (Kd.R_alloc HU.out _)
              have HQ2 := hP2.blk (blk_new wd _) HH.out.fresh
              have HNQ2 := hP2.out (blk_new wd _) HH.out.fresh
              refine hK.out _ _ ⟨(blk_cell HK2 0).trans rfl, (blk_cell HK2 1).trans rfl, (blk_cell HK2 2).trans rfl, (blk_cell HK2 3).trans rfl, (blk_cell HK2 4).trans rfl, (blk_cell HK2 5).trans rfl, ((R_cellk HU2 k hk).trans (by rw [HYD.out]))⟩ (fun hHeld => ?_)
              clear hK K
              refine norm_ (a' := ?_) ?_ ?_
              rotate_left
              · show Act.put _ (some 60) _ = _
                simp only [putAll, Act.put, List.setIfInBounds_toArray, List.set_cons_zero, List.set_cons_succ]
                rfl
              refine pure_ (i := 8) (N := some 52) (v := ?_) (a' := ?_) #[true, true, true, true, true, true, true, true, true, false, false, true, false, false] rfl rfl (by kernel_rfl) (fun _ _ _ h => h) (Or.inl ⟨by rfl, ?_⟩) ?_ ?_
              rotate_left
              · intro w'
                go_simp
                with_reducible rfl
              rotate_left
              · simp only [putAll, Act.put, List.setIfInBounds_toArray, List.set_cons_zero, List.set_cons_succ]
                rfl
              refine pure_ (i := 9) (N := some 61) (v := ?_) (a' := ?_) #[true, true, true, true, true, true, true, true, true, true, false, true, false, false] rfl rfl (by kernel_rfl) (fun _ _ _ h => h) (Or.inl ⟨by rfl, ?_⟩) ?_ ?_
              rotate_left
              · intro w'
                go_simp
                with_reducible rfl
              rotate_left
              · simp only [putAll, Act.put, List.setIfInBounds_toArray, List.set_cons_zero, List.set_cons_succ]
                rfl
              refine pure_ (i := 10) (N := some 62) (v := ?_) (a' := ?_) #[true, true, true, true, true, true, true, true, true, true, true, true, false, false] rfl rfl (by kernel_rfl) (fun _ _ _ h => h) (Or.inl ⟨by rfl, ?_⟩) ?_ ?_
              rotate_left
              · intro w'
                go_simp
                with_reducible rfl
              rotate_left
              · simp only [putAll, Act.put, List.setIfInBounds_toArray, List.set_cons_zero, List.set_cons_succ]
                rfl
              refine norm_ ?_ (hcont wd.heap.size _ ⟨HK2, HQ2, Nat.ne_of_lt (blk_lt HK.out), HH.out.2.2.2, F2, hH2, HN2, HNQ2, HU2⟩)
              simp only [putAll, Act.put, List.setIfInBounds_toArray, List.set_cons_zero, List.set_cons_succ]
      · have t1 : decide ((j : Int) < (acts.length : Int)) = true := decide_eq_true (by omega)
        have t2 : decide ((j : Int) < 300) = false := decide_eq_false (by omega)
        go_wp2
        go_ret
        exact ⟨rfl, HH.out.2.2.1⟩
    · have t1 : decide ((j : Int) < (acts.length : Int)) = false := decide_eq_false (by omega)
      go_wp2
      go_ret
      exact ⟨rfl, HH.out.2.2.1⟩
end Go.Proofs.Ytonbipaajhokfaa
