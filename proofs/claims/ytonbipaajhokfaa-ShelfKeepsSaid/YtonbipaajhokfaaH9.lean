/-
  Walk: ShelfOnce.
-/
import Derived.Test.YtonbipaajhokfaaH8
import Derived.Deep.CutBlock
import Derived.Deep.DeepCutAuto
set_option linter.unusedVariables false
set_option linter.unusedSimpArgs false
namespace Go.Proofs.Ytonbipaajhokfaa
open Go.RowKit Go.Proofs.YtonbipaajhokfaaW.PrintWords Go.Proofs.YtonbipaajhokfaaW.PrintLast Go.Proofs.YtonbipaajhokfaaW.PrintMore

def shOk (ks mb : Nat) : Nat → Prop := fun k => k ≠ ks ∧ k ≠ mb
theorem R_shFr {ks mb B : Nat} {w w' : World} {v : Value} {u : List Int} (h : (Kd.int .i64).R 3 w B (shOk ks mb) v u) (hf : Fr (ShF ks mb) w w') : (Kd.int .i64).R 3 w' B (shOk ks mb) v u := by
  refine Kd.R_mono (ok := fun k => shOk ks mb k ∧ k < w.heap.size) ?_ (fun k hk => hk.1)
  exact Kd.R_move (Kd.R_mono (Kd.R_bound h) (fun k hk => ⟨hk.1, hk.2.2.1⟩)) (fun k hk => hf.block k hk.2 (fun e => by rcases e with e | e; exact hk.1.1 e; exact hk.1.2 e))
theorem Own.grown {ks mb B : Nat} {w0 w w' : World} {s : Sh} {row : Option Nat} (h : Own ks mb B w0 w s) (hg : w.grownBy w' row) (hr : ∀ k, row = some k → shOk ks mb k ∧ B ≤ k) : Own ks mb B w0 w' s :=
  ⟨⟨(hg.block ks h.at_.lt (fun e => (hr ks e.symm).1.1 rfl)).trans h.at_.1, h.at_.2.keep (hg.block mb h.at_.2.lt (fun e => (hr mb e.symm).1.2 rfl))⟩, h.ks, h.mb, h.base.grown hg h.size (fun k hk => (hr k hk).2), Nat.le_trans h.size hg.size⟩
theorem Own.ok {ks mb B : Nat} {w0 w : World} {s : Sh} (h : Own ks mb B w0 w s) {k : Nat} (hk : w.heap.size ≤ k) : shOk ks mb k :=
  ⟨fun e => by have := h.at_.lt; omega, fun e => by have := h.at_.2.lt; omega⟩
set_option maxHeartbeats 8000000 in
set_option maxRecDepth 100000 in
theorem shelfOnce_calls (n0 : Int) (Ax : Option Addr) (cx : Nat) (al : List Bool) (w : World) (hal : Kd.bool.C w Ax al.length al) :
    Calls Try.prog 10 #[.int .i64 n0, .slice Ax al.length cx] w fun e w' => e = .returned (.bool true) ∧ Below w.heap.size w w' := by
  have hma := Kd.C_max hal
  have HAL := Aside0.mk hal
  obtain ⟨lim, hlim⟩ : ∃ lim : Nat, (lim : Int) = 1 + IntKind.u64.wrap n0 % 60 := ⟨(1 + IntKind.u64.wrap n0 % 60).toNat, by rw [IntKind.wrap_u64]; omega⟩
  have hlb : 1 ≤ lim ∧ lim ≤ 60 := by rw [IntKind.wrap_u64] at hlim; omega
  obtain ⟨hl1, hl2⟩ := hlb
  clear hal
  go_enter Try.func10, Try.ntmps10
  go_wp2_with (go_at_call 25; refine (awake10_calls _).mono ?_; rintro e w0 ⟨rfl, hB0⟩)
  have hw1 : wrap64 ((IntKind.u64.wrap n0).tmod 60) = (lim : Int) - 1 := by
    rw [hlim, IntKind.wrap_u64, Int.tmod_eq_emod_of_nonneg (by omega)]
    unfold wrap64
    omega
  have hw3 : wrap64 (1 + ((lim : Int) - 1)) = (lim : Int) := by unfold wrap64; omega
  rw [hw1, hw3]
  clear hw1 hw3
  refine (shelfNew_calls lim w0 (by omega) (by omega)).mono ?_
  rintro e w1 ⟨ks, mb, rfl, hS, hk1, hk2, hB1⟩
  have HO := Aside0.mk (show Own ks mb w.heap.size w w1 (Sh.start lim) from ⟨hS, Nat.le_trans hB0.size hk1, Nat.le_trans hB0.size hk2, hB0.trans (hB1.mono hB0.size), Nat.le_trans hB0.size hB1.size⟩)
  have HGD := Aside0.mk (show Good lim (Sh.start lim) [] 1 0 from Good.start (by omega) (by omega))
  clear hS hk1 hk2 hB0 hB1 hlim
  go_wp2_with fail
  obtain ⟨w2, hw2⟩ : ∃ w2, w2 = w1.alloc (.cells #[] 3) := ⟨_, rfl⟩
  have HU := Aside0.mk (show (Kd.int .i64).R 3 w2 w.heap.size (shOk ks mb) (.slice (some ⟨w1.heap.size, 0, none⟩) 0 0) [] by
    rw [hw2]; exact R_none w1 w.heap.size HO.out.size _ ⟨Nat.ne_of_gt HO.out.at_.lt, Nat.ne_of_gt HO.out.at_.2.lt⟩)
  replace HO := Aside0.mk (show Own ks mb w.heap.size w w2 (Sh.start lim) by rw [hw2]; exact HO.out.below (below_alloc (Below.refl _ _) _))
  rw [← hw2]
  clear hw2
  obtain ⟨C, hC⟩ : ∃ C, C = min al.length 150 := ⟨_, rfl⟩
  go_loopw [6, 7] (fun v i wr => ∃ (j : Nat) (s : Sh) (u : List Int) (p : Int) (L : Nat), j ≤ C ∧ j ≤ 150 ∧ i = .int .i64 j ∧ Aside0 (Own ks mb w.heap.size w wr s) ∧ Aside0 (Good lim s u p L) ∧ Aside0 ((Kd.int .i64).R 3 wr w.heap.size (shOk ks mb) v u)) (fun _ i _ => C - (intOf i).toNat)
  case atStart => exact ⟨0, _, [], 1, 0, Nat.zero_le _, Nat.zero_le _, rfl, HO, HGD, HU⟩
  case round =>
    clear HO HGD HU
    obtain ⟨j, s, u, p, L, hj, hj2, rfl, HO, HGD, HU⟩ := hrel
    obtain ⟨U, cu, rfl⟩ := Kd.R_slice HU.out
    have hsum := HGD.out.sum
    have hul : u.length + 1 ≤ lim := by omega
    have HP := Aside0.mk hsum
    have hcu := (Kd.R_reads' HU.out).2.1
    clear hsum
    by_cases hlt : j < C
    · have t1 : decide ((j : Int) < (al.length : Int)) = true := decide_eq_true (by omega)
      have t2 : decide ((j : Int) < 150) = true := decide_eq_true (by omega)
      obtain ⟨ad, hA, hx⟩ := Kd.at_bool (Kd.C_below HAL.out HO.out.base) (j : Int) (by omega) (by omega)
      subst hA
      rw [Int.toNat_natCast] at hx
      obtain ⟨x, hxd⟩ : ∃ x, x = rdOf false al (j : Int) := ⟨_, rfl⟩
      rw [← hxd] at hx
      clear hxd
      have hj1 : j + 1 ≤ C := by omega
      have hj3 : j < 150 := by omega
      have hja : j < al.length := by omega
      clear hj hj2 hC hlt
      by_cases hbr : x = true ∧ 0 < u.length
      · obtain ⟨hxt, hu0⟩ := hbr
        subst hxt
        have t3 : decide ((0 : Int) < (u.length : Int)) = true := decide_eq_true (by omega)
        obtain ⟨ad2, hU, hy⟩ := Kd.at_int (Kd.R_reads' HU.out).2.2 0 (by omega) (by omega)
        subst hU
        have hyd : rd u 0 = u.getD 0 0 := rfl
        rw [hyd] at hy
        obtain ⟨s', hfr, hg'⟩ := HGD.out.free mb (k := 0) hu0
        obtain ⟨y, hy2⟩ : ∃ y, y = u.getD 0 0 := ⟨_, rfl⟩
        rw [← hy2] at hy hfr
        have hy0 : wr.cell? (ad2.add 0) = some (.int .i64 y) := hy
        have hy1 : wr.cell? ad2 = some (.int .i64 y) := by simpa [Addr.add] using hy
        clear hy
        have hfc := fun W hW => shFree_calls ks mb s y W hW (by rw [HGD.out.left]; decide) HGD.out.bd
        rw [hfr] at hfc
        have HFC := Aside0.mk hfc
        rw [List.take_zero, List.nil_append, Nat.zero_add] at hg'
        replace HGD := Aside0.mk hg'
        clear hfc hfr hg' hyd hy2
        go_wp2_with fail
        refine (HFC.out _ HO.out.at_).mono ?_
        rintro e w3 ⟨rfl, hs, hf⟩
        replace HU := Aside0.mk (R_shFr HU.out hf)
        replace HO := Aside0.mk (HO.out.fr hs hf)
        clear hs hf HFC hy0 hy1 hx
        obtain ⟨X, hX⟩ : ∃ X, X = (if cu = 0 + 1 then some ad2 else some (ad2.add (0 + 1))) := ⟨_, rfl⟩
        obtain ⟨n2, hn2⟩ : ∃ n2, n2 = u.length - (0 + 1) := ⟨_, rfl⟩
        obtain ⟨c2, hc2⟩ : ∃ c2, c2 = cu - (0 + 1) := ⟨_, rfl⟩
        have hcut : ∀ W : World, (Instr.slice 22 (.slice (some ad2) u.length cu) (some (.int .i64 1)) none none).run Try.prog W = .ok (.slice X n2 c2) W := fun W => by rw [hX, hn2, hc2]; exact cut_from (some ad2) u.length cu 0 (by omega) W
        have HCF := Aside0.mk (C_from (Kd.R_reads' (Kd.R_alloc HU.out (.cells #[] 3))).2.2 (0 + 1) (by omega) hcu)
        rw [← hX, ← hn2] at HCF
        obtain ⟨u2, hu2⟩ : ∃ u2, u2 = u.drop (0 + 1) := ⟨_, rfl⟩
        rw [← hu2] at HCF HGD
        have HU2L : Aside0 (u2.length = n2) := ⟨by rw [hu2, hn2, List.length_drop]⟩
        have hn2l : n2 ≤ 300 := by omega
        clear hX hn2 hc2 hu2 hcu
        have HL4 := Aside0.mk (R_none w3 w.heap.size HO.out.size (shOk ks mb) (HO.out.ok (Nat.le_refl _)))
        have HO4 := Aside0.mk (HO.out.below (below_alloc (Below.refl _ _) (.cells #[] 3)))
        go_wp2_with (at_builtin; refine Kd.R_append_row (Value.int .i64) 0 (W := w3.alloc (.cells #[] 3)) (w0 := w3.alloc (.cells #[] 3)) w.heap.size rfl (.tmp 46) (.tmp 48) 22 3 (.int .i64 0) 8 rfl Try.underlying22 info3 rfl (by decide) (.slice (some ⟨w3.heap.size, 0, none⟩) 0 0) [] u2 X n2 c2 (shOk ks mb) rfl rfl (fun k' hk' => HO4.out.ok hk') HL4.out HCF.out (Below.refl _ _) HO4.out.size (by simp; omega) ?_; intro v6 w6 hR6 hB6 hG6 hat6; rw [List.nil_append] at hR6; have HO6 := Aside0.mk (HO4.out.grown hG6 (fun k' hk' => ⟨HL4.out.1 k' hk', by have e1 : w3.heap.size = k' := (by simpa [Value.ownBlock] using hk'); rw [← e1]; exact HO.out.size⟩)); have HU6 := Aside0.mk hR6; clear hR6 hB6 hG6 hat6 hcut HO HU HO4 HL4 HCF; refine Shut.out ?_)
        unfold Shut
        obtain ⟨A6, c6, rfl⟩ := Kd.R_slice HU6.out
        go_wp2
        go_roundw
        case measure => simp only [intOf]; omega
        case rel => exact ⟨j + 1, s', u2, p, L + 1, by omega, by omega, by go_num, HO6, HGD, HU6⟩
      · cases x with
        | false =>
          clear hbr
          by_cases hroom : (u.length : Int) + 1 = lim
          · have hrm := HGD.out.room mb hroom
            have hnc := fun W hW => shNew_calls ks mb s W hW (by rw [HGD.out.left]; decide) HGD.out.bd
            rw [hrm] at hnc
            have HNC := Aside0.mk hnc
            have t4 : ((u.length : Int) == (lim : Int) - 1) = true := by simp; omega
            clear hnc hrm
            go_wp2_with fail
            refine (HNC.out _ HO.out.at_).mono ?_
            rintro e w3 ⟨rfl, hs, hf⟩
            replace HU := Aside0.mk (R_shFr HU.out hf)
            replace HO := Aside0.mk (HO.out.fr hs hf)
            clear hs hf HNC hx
            go_wp2
            go_roundw
            case measure => simp only [intOf]; omega
            case rel => exact ⟨j + 1, s, u, p, L, by omega, by omega, by go_num, HO, HGD, HU⟩
          · obtain ⟨s', nn, p', L', hnw, hg', hn1, hn2, hn3, hn4⟩ := HGD.out.new mb (by omega)
            have hnc := fun W hW => shNew_calls ks mb s W hW (by rw [HGD.out.left]; decide) HGD.out.bd
            rw [hnw] at hnc
            have HNC := Aside0.mk hnc
            have t4 : ((u.length : Int) == (lim : Int) - 1) = false := by simp; omega
            have HNU := Aside0.mk hn4
            have hsum' := hg'.sum
            obtain ⟨t', hpg⟩ := hg'.pages
            have hhc := fun W hW => shHead_calls ks mb s' W hW
            rw [hpg] at hhc
            unfold Hd.v at hhc
            dsimp only at hhc
            have HHC := Aside0.mk hhc
            replace HGD := Aside0.mk hg'
            have hfd := field35_1
            have t5 : decide (nn < 1) = false := decide_eq_false (by omega)
            have t6 : decide (p' ≤ nn) = false := decide_eq_false (by omega)
            have t7 : decide ((lim : Int) ≤ nn) = false := decide_eq_false (by omega)
            clear hnc hnw hg' hhc hpg hn4 hsum'
            go_wp2_with fail
            refine (HNC.out _ HO.out.at_).mono ?_
            rintro e w3 ⟨rfl, hs, hf⟩
            replace HU := Aside0.mk (R_shFr HU.out hf)
            replace HO := Aside0.mk (HO.out.fr hs hf)
            clear hs hf HNC hx
            go_wp2_with fail
            refine (HHC.out _ HO.out.at_).mono ?_
            rintro e w4 ⟨rfl, hb⟩
            replace HU := Aside0.mk (Kd.R_below HU.out hb)
            replace HO := Aside0.mk (HO.out.below hb)
            clear hb HHC
            have hlm := Kd.C_max (Kd.R_reads' HU.out).2.2
            go_wp2_with fail
            go_loop [10] (fun i => ∃ m : Nat, m ≤ u.length ∧ i = .int .i64 m) (fun i => u.length - (intOf i).toNat)
            case atStart => exact ⟨0, Nat.zero_le _, rfl⟩
            case round =>
              obtain ⟨q, hq, rfl⟩ := hrel
              by_cases hql : q < u.length
              · obtain ⟨ad3, hU3, hz⟩ := Kd.at_int (Kd.R_reads' HU.out).2.2 (q : Int) (by omega) (by omega)
                subst hU3
                clear hz
                have hz := R_cellk HU.out q hql
                obtain ⟨z, hzd⟩ : ∃ z, z = u.getD q 0 := ⟨_, rfl⟩
                have hzn : (z == nn) = false := by
                  have h1 : z ≠ nn := by
                    intro h2
                    apply HNU.out
                    rw [← h2, hzd, List.getD_eq_getElem?_getD, List.getElem?_eq_getElem hql]
                    exact List.getElem_mem hql
                  simp [h1]
                rw [← hzd] at hz
                clear hzd hq
                go_wp2
                go_round
                case rel => exact ⟨q + 1, by omega, by simp⟩
                case measure => simp only [intOf]; omega
              · have hqe : q = u.length := by omega
                subst hqe
                clear hq hql
                have hul2 : u.length ≤ 60 := by omega
                go_wp2_with (at_builtin; refine Kd.R_append (Kd.int .i64) (W := w4) (w0 := w4) w.heap.size rfl (.tmp 96) (.tmp 98) 22 3 (.int .i64 0) 8 rfl Try.underlying22 info3 rfl (by decide) (by decide) (.slice U u.length cu) _ nn [.int .i64 nn] (shOk ks mb) (fun k' => some k' ≠ (Value.slice U u.length cu).ownBlock ∧ shOk ks mb k') rfl (by show Value.slice (some ⟨w4.heap.size, 0, none⟩) 1 1 = _; simp) rfl (fun _ h => ⟨h.2, h.1⟩) (fun k' hk' => HO.out.ok hk') HU.out (Below.refl _ _) HO.out.size (by omega) ?_; intro v7 w7 hR7 hB7 hG7 hat7; have HO7 := Aside0.mk (HO.out.grown hG7 (fun k' hk' => ⟨HU.out.1 k' hk', Kd.R_base HU.out k' hk'⟩)); have HU7 := Aside0.mk hR7; clear hR7 hB7 hG7 hat7 HO HU; refine Shut.out ?_)
                unfold Shut
                obtain ⟨un, hun⟩ : ∃ un, un = u ++ [nn] := ⟨_, rfl⟩
                rw [← hun] at HU7 HGD
                clear hun
                obtain ⟨A7, c7, rfl⟩ := Kd.R_slice HU7.out
                go_wp2
                go_roundw
                case measure => simp only [intOf]; omega
                case rel => exact ⟨j + 1, s', un, p', L', by omega, by omega, by go_num, HO7, HGD, HU7⟩
        | true =>
          have hu0 : u.length = 0 := by
            rcases Nat.eq_zero_or_pos u.length with h | h
            · exact h
            · exact absurd ⟨rfl, h⟩ hbr
          have t3 : decide ((0 : Int) < (u.length : Int)) = false := decide_eq_false (by omega)
          have hnu : ¬ 0 < u.length := by omega
          clear hbr hu0
          by_cases hroom : (u.length : Int) + 1 = lim
          · have hrm := HGD.out.room mb hroom
            have hnc := fun W hW => shNew_calls ks mb s W hW (by rw [HGD.out.left]; decide) HGD.out.bd
            rw [hrm] at hnc
            have HNC := Aside0.mk hnc
            have t4 : ((u.length : Int) == (lim : Int) - 1) = true := by simp; omega
            clear hnc hrm
            go_wp2_with fail
            refine (HNC.out _ HO.out.at_).mono ?_
            rintro e w3 ⟨rfl, hs, hf⟩
            replace HU := Aside0.mk (R_shFr HU.out hf)
            replace HO := Aside0.mk (HO.out.fr hs hf)
            clear hs hf HNC hx
            go_wp2
            go_roundw
            case measure => simp only [intOf]; omega
            case rel => exact ⟨j + 1, s, u, p, L, by omega, by omega, by go_num, HO, HGD, HU⟩
          · obtain ⟨s', nn, p', L', hnw, hg', hn1, hn2, hn3, hn4⟩ := HGD.out.new mb (by omega)
            have hnc := fun W hW => shNew_calls ks mb s W hW (by rw [HGD.out.left]; decide) HGD.out.bd
            rw [hnw] at hnc
            have HNC := Aside0.mk hnc
            have t4 : ((u.length : Int) == (lim : Int) - 1) = false := by simp; omega
            have HNU := Aside0.mk hn4
            have hsum' := hg'.sum
            obtain ⟨t', hpg⟩ := hg'.pages
            have hhc := fun W hW => shHead_calls ks mb s' W hW
            rw [hpg] at hhc
            unfold Hd.v at hhc
            dsimp only at hhc
            have HHC := Aside0.mk hhc
            replace HGD := Aside0.mk hg'
            have hfd := field35_1
            have t5 : decide (nn < 1) = false := decide_eq_false (by omega)
            have t6 : decide (p' ≤ nn) = false := decide_eq_false (by omega)
            have t7 : decide ((lim : Int) ≤ nn) = false := decide_eq_false (by omega)
            clear hnc hnw hg' hhc hpg hn4 hsum'
            go_wp2_with fail
            refine (HNC.out _ HO.out.at_).mono ?_
            rintro e w3 ⟨rfl, hs, hf⟩
            replace HU := Aside0.mk (R_shFr HU.out hf)
            replace HO := Aside0.mk (HO.out.fr hs hf)
            clear hs hf HNC hx
            go_wp2_with fail
            refine (HHC.out _ HO.out.at_).mono ?_
            rintro e w4 ⟨rfl, hb⟩
            replace HU := Aside0.mk (Kd.R_below HU.out hb)
            replace HO := Aside0.mk (HO.out.below hb)
            clear hb HHC
            have hlm := Kd.C_max (Kd.R_reads' HU.out).2.2
            go_wp2_with fail
            go_loop [10] (fun i => ∃ m : Nat, m ≤ u.length ∧ i = .int .i64 m) (fun i => u.length - (intOf i).toNat)
            case atStart => exact ⟨0, Nat.zero_le _, rfl⟩
            case round =>
              obtain ⟨q, hq, rfl⟩ := hrel
              by_cases hql : q < u.length
              · obtain ⟨ad3, hU3, hz⟩ := Kd.at_int (Kd.R_reads' HU.out).2.2 (q : Int) (by omega) (by omega)
                subst hU3
                clear hz
                have hz := R_cellk HU.out q hql
                obtain ⟨z, hzd⟩ : ∃ z, z = u.getD q 0 := ⟨_, rfl⟩
                have hzn : (z == nn) = false := by
                  have h1 : z ≠ nn := by
                    intro h2
                    apply HNU.out
                    rw [← h2, hzd, List.getD_eq_getElem?_getD, List.getElem?_eq_getElem hql]
                    exact List.getElem_mem hql
                  simp [h1]
                rw [← hzd] at hz
                clear hzd hq
                go_wp2
                go_round
                case rel => exact ⟨q + 1, by omega, by simp⟩
                case measure => simp only [intOf]; omega
              · have hqe : q = u.length := by omega
                subst hqe
                clear hq hql
                have hul2 : u.length ≤ 60 := by omega
                go_wp2_with (at_builtin; refine Kd.R_append (Kd.int .i64) (W := w4) (w0 := w4) w.heap.size rfl (.tmp 96) (.tmp 98) 22 3 (.int .i64 0) 8 rfl Try.underlying22 info3 rfl (by decide) (by decide) (.slice U u.length cu) _ nn [.int .i64 nn] (shOk ks mb) (fun k' => some k' ≠ (Value.slice U u.length cu).ownBlock ∧ shOk ks mb k') rfl (by show Value.slice (some ⟨w4.heap.size, 0, none⟩) 1 1 = _; simp) rfl (fun _ h => ⟨h.2, h.1⟩) (fun k' hk' => HO.out.ok hk') HU.out (Below.refl _ _) HO.out.size (by omega) ?_; intro v7 w7 hR7 hB7 hG7 hat7; have HO7 := Aside0.mk (HO.out.grown hG7 (fun k' hk' => ⟨HU.out.1 k' hk', Kd.R_base HU.out k' hk'⟩)); have HU7 := Aside0.mk hR7; clear hR7 hB7 hG7 hat7 HO HU; refine Shut.out ?_)
                unfold Shut
                obtain ⟨un, hun⟩ : ∃ un, un = u ++ [nn] := ⟨_, rfl⟩
                rw [← hun] at HU7 HGD
                clear hun
                obtain ⟨A7, c7, rfl⟩ := Kd.R_slice HU7.out
                go_wp2
                go_roundw
                case measure => simp only [intOf]; omega
                case rel => exact ⟨j + 1, s', un, p', L', by omega, by omega, by go_num, HO7, HGD, HU7⟩
    · have hkc : al.length ≤ j ∨ (j < al.length ∧ 150 ≤ j) := by omega
      clear hC hlt
      have hsum' := HGD.out.sum
      obtain ⟨t', hpg⟩ := HGD.out.pages
      have hhc := fun W hW => shHead_calls ks mb s W hW
      rw [hpg] at hhc
      unfold Hd.v at hhc
      dsimp only at hhc
      have HHC := Aside0.mk hhc
      have hfd := field35_1
      have hfd3 := field35_3
      obtain ⟨hs1, hs2, hs3⟩ := hsum'
      clear hhc hpg
      have t4 : decide (p ≤ (lim : Int)) = true := decide_eq_true (by omega)
      have t8 : ((L : Int) + (u.length : Int) + 1 == p) = true := by simp; omega
      have hLL : L ≤ 60 := by omega
      clear hs1
      rcases hkc with hkc | hkc
      · have t1 : decide ((j : Int) < (al.length : Int)) = false := decide_eq_false (by omega)
        go_wp2_with fail
        refine (HHC.out _ HO.out.at_).mono ?_
        rintro e w4 ⟨rfl, hb⟩
        replace HO := Aside0.mk (HO.out.below hb)
        clear hb
        go_wp2_with fail
        refine (HHC.out _ HO.out.at_).mono ?_
        rintro e w5 ⟨rfl, hb⟩
        replace HO := Aside0.mk (HO.out.below hb)
        clear hb
        go_wp2_with fail
        refine (HHC.out _ HO.out.at_).mono ?_
        rintro e w6 ⟨rfl, hb⟩
        replace HO := Aside0.mk (HO.out.below hb)
        clear hb HHC
        go_wp2
        go_ret
        exact ⟨rfl, HO.out.base⟩
      · have t1 : decide ((j : Int) < (al.length : Int)) = true := decide_eq_true (by omega)
        have t2 : decide ((j : Int) < 150) = false := decide_eq_false (by omega)
        go_wp2_with fail
        refine (HHC.out _ HO.out.at_).mono ?_
        rintro e w4 ⟨rfl, hb⟩
        replace HO := Aside0.mk (HO.out.below hb)
        clear hb
        go_wp2_with fail
        refine (HHC.out _ HO.out.at_).mono ?_
        rintro e w5 ⟨rfl, hb⟩
        replace HO := Aside0.mk (HO.out.below hb)
        clear hb
        go_wp2_with fail
        refine (HHC.out _ HO.out.at_).mono ?_
        rintro e w6 ⟨rfl, hb⟩
        replace HO := Aside0.mk (HO.out.below hb)
        clear hb HHC
        go_wp2
        go_ret
        exact ⟨rfl, HO.out.base⟩
end Go.Proofs.Ytonbipaajhokfaa
