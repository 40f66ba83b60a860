/-
  Of this claim's texts, laid together by wip/gen/squeeze.py: R4 N13 R5.
-/
import Derived.Test.YtonbipaajhokfaaGreatDoorERq12
import Derived.Test.YtonbipaajhokfaaGreatDoorERq11
section
set_option linter.unusedVariables false
set_option linter.unusedSimpArgs false
namespace Go.Proofs.YtonbipaajhokfaaGreatDoor
open Go.RowKit Go.Proofs.YtonbipaajhokfaaGreatDoorW.PrintWords Go.Proofs.YtonbipaajhokfaaGreatDoorW.PrintLast Go.Proofs.YtonbipaajhokfaaGreatDoorW.PrintMore
/-- What the reference's Value leaves. -/
def RvPost (w : World) (r : List UInt8 × List Int × Int) (e : Ending) (w' : World) : Prop :=
  ∃ vl, e = .returned (.tuple #[.string (bs r.1), vl, .int .i64 r.2.2]) ∧ (Kd.int .i64).R 3 w' 0 (fun k => w.heap.size ≤ k) vl r.2.1 ∧ Below w.heap.size w w'
/-- What holds at the head of its loop. -/
structure RvRel (w wr : World) (vl : Value) (l : List Int) : Prop where
  row : (Kd.int .i64).R 3 wr 0 (fun k => w.heap.size ≤ k) vl l
  base : Below w.heap.size w wr
section
variable {w wr w1 : World} {vl v1 : Value} {l l1 : List Int}
theorem RvRel.below (h : RvRel w wr vl l) (hb : Below wr.heap.size wr w1) : RvRel w w1 vl l := ⟨Kd.R_below h.row hb, below_step h.base hb⟩
theorem RvRel.listed (h : RvRel w wr vl l) (hR : (Kd.int .i64).R 3 w1 0 (fun k => w.heap.size ≤ k) v1 l1) (hg : wr.grownBy w1 vl.ownBlock) : RvRel w w1 v1 l1 :=
  ⟨hR, h.base.grown hg h.base.size (fun k hk => h.row.1 k hk)⟩
end
set_option maxHeartbeats 2000000 in
set_option maxRecDepth 100000 in
theorem refVal_bad {G : Nat → Prop} {kr kb : Nat} {lim p : Int} {N : List Int} {D : List ByteArray} (x0 : Int) (x1 : ByteArray) (x2 : Int) (w : World) (hg : cellGood x0 x1 x2 = false) :
    Calls Tryz.prog 11 #[.pointer (some ⟨kr, 0, none⟩), .agg #[.int .i64 x0, .string x1, .int .i64 x2]] w (RvPost w ([], [], 1)) := by
  have hu := Tryz.underlying24
  have hc := fun W => refGood_calls x0 x1 x2 W
  rw [hg] at hc
  clear hg
  go_enter Tryz.func11, Tryz.ntmps11
  go_wp2_with (go_at_call 15; refine (hc _).mono ?_; rintro e w1 ⟨rfl, hb1⟩)
  go_ret3
  exact ⟨_, rfl, Kd.R_nil _ _ _ _ _, below_step (below_alloc (Below.refl _ _) _) hb1⟩
set_option maxHeartbeats 2000000 in
set_option maxRecDepth 100000 in
theorem refVal_short {G : Nat → Prop} {kr kb : Nat} {lim p : Int} {N : List Int} {D : List ByteArray} (x0 : Int) (x1 : ByteArray) (w : World) (hg : cellGood x0 x1 0 = true) :
    Calls Tryz.prog 11 #[.pointer (some ⟨kr, 0, none⟩), .agg #[.int .i64 x0, .string x1, .int .i64 0]] w (RvPost w (x1.data.toList, [], 0)) := by
  have hu := Tryz.underlying24
  have hc := fun W => refGood_calls x0 x1 0 W
  have hs := cellGood_short hg
  rw [hg] at hc
  have t1 : decide (x0 ≤ 40) = true := decide_eq_true hs.2.1
  clear hg
  go_enter Tryz.func11, Tryz.ntmps11
  go_wp2_with fail
  refine (hc _).mono ?_
  rintro e w1 ⟨rfl, hb1⟩
  have HK := Aside0.mk (blk_below (blk_new w (.cells #[.int .i64 x0, .string x1, .int .i64 0] 24)) hb1)
  have c0 : w1.cell? ⟨w.heap.size, 0, none⟩ = some (.int .i64 x0) := (blk_cell HK.out 0).trans rfl
  have c1 : w1.cell? ⟨w.heap.size, 1, none⟩ = some (.string x1) := (blk_cell HK.out 1).trans rfl
  clear hc
  go_wp2
  go_ret3
  exact ⟨.slice none 0 0, by rw [bs_of]; rfl, Kd.R_nil _ _ _ _ _, below_step (below_alloc (Below.refl _ _) _) hb1⟩
theorem R_noneK (w : World) (ok : Nat → Prop) (hok : ok w.heap.size) : (Kd.int .i64).R 3 (w.alloc (.cells #[] 3)) 0 ok (.slice (some ⟨w.heap.size, 0, none⟩) 0 0) [] := R_none w 0 (Nat.zero_le _) ok hok
theorem wrap_small {x : Int} (h0 : -1000 ≤ x) (h1 : x ≤ 8589934592) : IntKind.i64.wrap x = x ∧ wrap64 x = x := by
  constructor
  · rw [IntKind.wrap_i64]; omega
  · unfold wrap64; omega
set_option maxHeartbeats 8000000 in
set_option maxRecDepth 100000 in
theorem refVal_long {G : Nat → Prop} {kr kb : Nat} {lim p : Int} {N : List Int} {D : List ByteArray} (x0 : Int) (x2 : Int) (w : World) (h : RefAt w G kr kb lim p N D) (hfull : ∀ n, 1 ≤ n → n < p → (getB N D n).size = 232) (hg : cellGood x0 ⟨#[]⟩ x2 = true) (hn : x2 ≠ 0) :
    Calls Tryz.prog 11 #[.pointer (some ⟨kr, 0, none⟩), .agg #[.int .i64 x0, .string ⟨#[]⟩, .int .i64 x2]] w (RvPost w (rFollow (refG p N D) (parts x0.toNat) x2 x0.toNat [] [])) := by
  have hu := Tryz.underlying24
  have hl := cellGood_long hg hn
  obtain ⟨hl1, hl2, hl3, hl4, -⟩ := hl
  have hc := fun W => refGood_calls x0 ⟨#[]⟩ x2 W
  rw [hg] at hc
  have t1 : decide (x0 ≤ 40) = false := decide_eq_false (by omega)
  have H := Aside0.mk h
  have HFULL := Aside0.mk hfull
  clear hg hn h hfull
  go_enter Tryz.func11, Tryz.ntmps11
  go_wp2_with fail
  refine (hc _).mono ?_
  rintro e w1 ⟨rfl, hb1⟩
  have HK := Aside0.mk (blk_below (blk_new w (.cells #[.int .i64 x0, .string ⟨#[]⟩, .int .i64 x2] 24)) hb1)
  have c0 : ∀ o, (w1.alloc o).cell? ⟨w.heap.size, 0, none⟩ = some (.int .i64 x0) := fun o => (blk_cell (blk_alloc HK.out o) 0).trans rfl
  have c2 : ∀ o, (w1.alloc o).cell? ⟨w.heap.size, 2, none⟩ = some (.int .i64 x2) := fun o => (blk_cell (blk_alloc HK.out o) 2).trans rfl
  have c0' : w1.cell? ⟨w.heap.size, 0, none⟩ = some (.int .i64 x0) := (blk_cell HK.out 0).trans rfl
  have HB1 := Aside0.mk (below_step (below_alloc (Below.refl w.heap.size w) (.cells #[.int .i64 x0, .string ⟨#[]⟩, .int .i64 x2] 24)) hb1)
  clear hc hb1
  go_wp2_with fail
  clear c0 c2 c0' HK
  obtain ⟨w2, hw2⟩ : ∃ w2, w2 = w1.alloc (.cells #[] 3) := ⟨_, rfl⟩
  have HR := Aside0.mk (show RvRel w w2 (.slice (some ⟨w1.heap.size, 0, none⟩) 0 0) [] by rw [hw2]; exact ⟨R_noneK w1 _ HB1.out.size, below_alloc HB1.out _⟩)
  rw [← hw2]
  clear hw2 HB1
  obtain ⟨r, hr⟩ : ∃ r, r = rFollow (refG p N D) (parts x0.toNat) x2 x0.toNat [] [] := ⟨_, rfl⟩
  rw [← hr]
  have HF := Aside0.mk hr.symm
  have HRR := Aside0.mk hr
  clear hr
  go_loopw [7, 8, 9, 10] (fun ov pv av lv wr => ∃ (k : Nat) (a L : Int) (out : List UInt8) (l : List Int), ov = .string (bs out) ∧ av = .int .i64 a ∧ lv = .int .i64 L ∧ (1 ≤ L ∧ L ≤ 5000 ∧ k = parts L.toNat ∨ L ≤ 0 ∧ -227 ≤ L ∧ k = 0) ∧ out.length + L.toNat ≤ 5000 ∧ l.length + k ≤ 23 ∧ Aside0 (rFollow (refG p N D) k a L.toNat out l = r) ∧ Aside0 (RvRel w wr pv l)) (fun _ _ _ lv _ => (intOf lv).toNat)
  case atStart => exact ⟨_, x2, x0, [], [], rfl, rfl, rfl, Or.inl ⟨by omega, hl2, rfl⟩, by simp; omega, by unfold parts; simp; omega, HF, HR⟩
  case round =>
    clear HF HR
    obtain ⟨k, a, L, out, l, rfl, rfl, rfl, hk, hol, hll, HF, HR⟩ := hrel
    obtain ⟨A, c, rfl⟩ := Kd.R_slice HR.out.row
    rcases hk with ⟨hL1, hL2, hkp⟩ | ⟨hL1, hL2, hk0⟩
    · obtain ⟨n, rfl⟩ : ∃ n : Nat, L = n := ⟨L.toNat, by omega⟩
      rw [Int.toNat_natCast] at HF hkp hol
      obtain ⟨k, rfl⟩ : ∃ k', k = k' + 1 := ⟨parts n - 1, by unfold parts at hkp ⊢; omega⟩
      have tL : decide ((0 : Int) < (n : Int)) = true := decide_eq_true (by omega)
      have tn : decide (0 < n) = true := decide_eq_true (by omega)
      have hGC := fun W (hW : RefAt W G kr kb lim p N D) => refGet_calls a W hW
      by_cases hin : 1 ≤ a ∧ a < p
      · rw [if_pos hin] at hGC
        have HGC := Aside0.mk hGC
        have hgs := HFULL.out a hin.1 hin.2
        have HG := Aside0.mk (show refG p N D a = (getB N D a, 0) by unfold refG; rw [if_pos hin])
        obtain ⟨g, hgd⟩ : ∃ g, g = getB N D a := ⟨_, rfl⟩
        rw [← hgd] at HGC HG hgs
        obtain ⟨pl, hpl⟩ : ∃ pl, pl = g.data.toList := ⟨_, rfl⟩
        have hpll : pl.length = 232 := by rw [hpl, data_length]; exact hgs
        have hnb := nextOf_bd pl
        have hun := fun W => refUn_calls (g.extract 1 5) W (by rw [ByteArray.size_extract]; omega) (by rw [ByteArray.size_extract]; omega)
        have hex : (g.extract 1 5).data.toList = (pl.drop 1).take 4 := by
          rw [← bs_of g, ← hpl, bs_extract, bs_list]
        rw [hex, show beV ((pl.drop 1).take 4) = nextOf pl from rfl] at hun
        obtain ⟨nx, hnx⟩ : ∃ nx, nx = nextOf pl := ⟨_, rfl⟩
        rw [← hnx] at hnb hun
        obtain ⟨hn0, hn1⟩ := hnb
        obtain ⟨b0, hb0, hb0k⟩ : ∃ b0 : Nat, (∀ h : 0 < g.size, (g[0]'h).toNat = b0) ∧ isKind pl = (b0 == 3) :=
          ⟨(g[0]'(by omega)).toNat, fun _ => rfl, by rw [kind_byte (by omega), hpl, byte_at g 0 (by omega)]⟩
        have hsl1 : ∀ W, (Instr.slice 9 (.string g) (some (.int .i64 1)) (some (.int .i64 5)) none).run Tryz.prog W = .ok (.string (g.extract 1 5)) W := fun W => by
          rw [run_slice_string (P := Tryz.prog) W 9 g .i64 .i64 1 5 Tryz.underlying9 (by decide) (by decide) (by rw [hgs]; decide)]
          rfl
        have HUN := Aside0.mk hun
        have HPL := Aside0.mk hpl
        have HNX := Aside0.mk hnx
        have HBK := Aside0.mk hb0k
        have hpo : pageOk pl n = ((b0 == 3) && ((nx == 0) == decide (n ≤ 227)) && ((pl.drop 5).drop n).all (· == 0)) := by unfold pageOk restOk; rw [hb0k, hnx]
        have HPO := Aside0.mk hpo
        clear hGC hin hgd hpl hun hex hnx hb0k hpo HFULL
        go_wp2_with fail
        refine (HGC.out _ (H.out.below HR.out.base)).mono ?_
        rintro e w3 ⟨rfl, hb3⟩
        replace HR := Aside0.mk (HR.out.below hb3)
        clear hb3 HGC
        go_wp2_with fail
        refine (HUN.out _).mono ?_
        rintro e w4 ⟨rfl, hb4⟩
        replace HR := Aside0.mk (HR.out.below hb4)
        clear hb4 HUN hsl1
        by_cases hb3 : b0 = 3
        · by_cases hlr : (nx = 0 ↔ n ≤ 227)
          · have htn : ((nx == 0) == decide (n ≤ 227)) = true := by
              by_cases e : nx = 0
              · rw [decide_eq_true (hlr.1 e), e]; rfl
              · rw [decide_eq_false (fun h => e (hlr.2 h)), beq_false_of e]; rfl
            have HTN := Aside0.mk htn
            subst hb3
            by_cases hle : n ≤ 227
            · have t2 : (nx == 0) = true := by simp [hlr.2 hle]
              have t3 : decide ((n : Int) ≤ 227) = true := decide_eq_true (by omega)
              have t4 : decide (n ≤ 227) = true := decide_eq_true hle
              clear htn hlr
              by_cases h227 : n < 227
              · have tw : decide ((n : Int) < 227) = true := decide_eq_true (by omega)
                have twn : decide (n < 227) = true := decide_eq_true h227
                obtain ⟨hw5, hw5'⟩ := wrap_small (x := 5 + (n : Int)) (by omega) (by omega)
                go_wp2_with fail
                clear hw5 hw5'
                go_loopw [16] (fun iv wq => ∃ i : Nat, 5 + n ≤ i ∧ i ≤ 232 ∧ iv = .int .i64 i ∧ Aside0 (wq = w4) ∧ Aside0 (∀ m, 5 + n ≤ m → m < i → pl.getD m 0 = 0)) (fun iv _ => 232 - (intOf iv).toNat)
                case atStart => exact ⟨5 + n, Nat.le_refl _, by omega, by go_num, ⟨rfl⟩, ⟨fun m h1 h2 => absurd h1 (by omega)⟩⟩
                case round =>
                  obtain ⟨i, hi1, hi2, rfl, hw, HZ⟩ := hrel
                  have hw' := hw.out
                  subst hw'
                  clear hw
                  by_cases hi : i < 232
                  · have ti : decide ((i : Int) < 232) = true := decide_eq_true (by omega)
                    obtain ⟨bi, hbi, hbz⟩ : ∃ bi : Nat, (∀ h : i < g.size, (g[i]'h).toNat = bi) ∧ (pl.getD i 0).toNat = bi := ⟨(g[i]'(by omega)).toNat, fun _ => rfl, by rw [HPL.out, byte_at g i (by omega)]⟩
                    have HBZ := Aside0.mk hbz
                    clear hbz
                    by_cases hz : bi = 0
                    · have tz : ((bi : Int) == 0) = true := by rw [hz]; rfl
                      have tz2 : (bi == 0) = true := by rw [hz]; rfl
                      have HZ0 := Aside0.mk hz
                      clear hz
                      go_wp2
                      go_roundw
                      case rel => exact ⟨i + 1, by omega, by omega, by go_num, ⟨by first | trivial | rfl⟩, ⟨fun m h1 h2 => by
                        by_cases e : m = i
                        · subst e; exact UInt8.toNat_inj.1 (HBZ.out.trans HZ0.out)
                        · exact HZ.out m h1 (by omega)⟩⟩
                      case measure => simp only [intOf]; omega
                    · have tz : ((bi : Int) == 0) = false := beq_false_of (by omega)
                      have tz2 : (bi == 0) = false := by simp [hz]
                      have HNZ := Aside0.mk (show pl.getD i 0 ≠ 0 from fun e => hz (by rw [← HBZ.out, e]; rfl))
                      go_wp2
                      go_ret3
                      first | rw [← HF.out, rFollow_bad HG.out (by rw [← HPL.out, HPO.out, HTN.out, rest_odd hpll hi1 hi HNZ.out]; rfl)] | rw [← HRR.out, ← HF.out, rFollow_bad HG.out (by rw [← HPL.out, HPO.out, HTN.out, rest_odd hpll hi1 hi HNZ.out]; rfl)]
                      exact ⟨_, rfl, Kd.R_nil _ _ _ _ _, HR.out.base⟩
                  · have ti : decide ((i : Int) < 232) = false := decide_eq_false (by omega)
                    have hrest : ((pl.drop 5).drop n).all (· == 0) = true := rest_zero hpll (fun m h1 h2 => HZ.out m h1 (by omega))
                    obtain ⟨pt, hpt⟩ : ∃ pt, pt = (pl.drop 5).take n := ⟨_, rfl⟩
                    have hptl : pt.length = n := by rw [hpt, List.length_take, List.length_drop]; omega
                    have hsl2 : ∀ W, (Instr.slice 9 (.string g) (some (.int .i64 5)) (some (.int .i64 (5 + (n : Int)))) none).run Tryz.prog W = .ok (.string (bs pt)) W := fun W => by
                      rw [run_slice_string (P := Tryz.prog) W 9 g .i64 .i64 5 (5 + (n : Int)) Tryz.underlying9 (by decide) (by omega) (by rw [hgs]; omega), hpt, show bs ((pl.drop 5).take n) = bs ((pl.drop 5).take n) by rfl, show (5 + (n : Int)).toNat = 5 + n by omega]
                      have := bs_extract pl 5 (5 + n)
                      rw [show 5 + n - 5 = n by omega] at this
                      rw [← this, HPL.out, bs_of]
                      rfl
                    have hs1 : (bs out).size = out.length := bs_size out
                    have hs2 : (bs pt).size = n := by rw [bs_size, hptl]
                    have hlen8 : (l.length + 1) * 8 ≤ 140737488355328 := by omega
                    have HNW := Aside0.mk (wrap_small (x := nx) (by omega) (by omega))
                    have HW7 := Aside0.mk (wrap_small (x := (n : Int) - 227) (by omega) (by omega))
                    obtain ⟨hnw, hnw'⟩ := HNW.out
                    obtain ⟨hw7, hw7'⟩ := HW7.out
                    have HST := Aside0.mk (rFollow_step (k := k) (out := out) (l := l) HG.out (show pageOk g.data.toList n = true by rw [← HPL.out, HPO.out, HTN.out, hrest]; rfl))
                    rw [← HPL.out, ← HNX.out, ← hpt] at HST
                    have HPTL := Aside0.mk hptl
                    clear hrest hpt hptl hi
                    go_wp2_with (at_builtin; refine Kd.R_append (Kd.int .i64) (w0 := wr) 0 rfl (.tmp 79) (.tmp 81) 33 3 (.int .i64 0) 8 rfl Tryz.underlying33 info3 rfl (by decide) (by decide) (.slice A l.length c) _ a [.int .i64 a] (fun k' => w.heap.size ≤ k') (fun k' => some k' ≠ (Value.slice A l.length c).ownBlock ∧ w.heap.size ≤ k') rfl rfl rfl (fun _ h => ⟨h.2, h.1⟩) (fun _ hk => Nat.le_trans HR.out.base.size hk) HR.out.row (Below.refl 0 wr) (Nat.zero_le _) hlen8 ?_; intro v1 w7 hR7 hB7 hG7 hat7; have HR7 := Aside0.mk (HR.out.listed hR7 hG7); clear hR7 hB7 hG7 hat7)
                    go_wp2
                    clear hw7 hw7' hnw hnw' hlen8
                    go_roundw
                    case rel => exact ⟨k, nx, (n : Int) - 227, out ++ pt, l ++ [a], by rw [← bs_append], rfl, rfl, Or.inr ⟨by omega, by omega, by have := hkp; unfold parts at this; omega⟩, by rw [List.length_append, HPTL.out]; omega, by rw [List.length_append, List.length_singleton]; omega, ⟨by rw [show ((n : Int) - 227).toNat = n - 227 by omega, ← HST.out]; exact HF.out⟩, HR7⟩
                    case measure => simp only [intOf]; omega
              · have tw : decide ((n : Int) < 227) = false := decide_eq_false (by omega)
                have twn : decide (n < 227) = false := decide_eq_false h227
                obtain ⟨hw5, hw5'⟩ := wrap_small (x := 5 + (227 : Int)) (by omega) (by omega)
                go_wp2_with fail
                clear hw5 hw5'
                go_loopw [16] (fun iv wq => ∃ i : Nat, 5 + 227 ≤ i ∧ i ≤ 232 ∧ iv = .int .i64 i ∧ Aside0 (wq = w4) ∧ Aside0 (∀ m, 5 + 227 ≤ m → m < i → pl.getD m 0 = 0)) (fun iv _ => 232 - (intOf iv).toNat)
                case atStart => exact ⟨232, Nat.le_refl _, Nat.le_refl _, rfl, ⟨rfl⟩, ⟨fun m h1 h2 => absurd h1 (by omega)⟩⟩
                case round =>
                  obtain ⟨i, hi1, hi2, rfl, hw, HZ⟩ := hrel
                  have hw' := hw.out
                  subst hw'
                  clear hw
                  by_cases hi : i < 232
                  · exfalso; omega
                  · have ti : decide ((i : Int) < 232) = false := decide_eq_false (by omega)
                    have hrest : ((pl.drop 5).drop n).all (· == 0) = true := by rw [List.drop_of_length_le (by rw [List.length_drop]; omega)]; rfl
                    obtain ⟨pt, hpt⟩ : ∃ pt, pt = (pl.drop 5).take n := ⟨_, rfl⟩
                    have hptl : pt.length = 227 := by rw [hpt, List.length_take, List.length_drop]; omega
                    have hsl2 : ∀ W, (Instr.slice 9 (.string g) (some (.int .i64 5)) (some (.int .i64 (232))) none).run Tryz.prog W = .ok (.string (bs pt)) W := fun W => by
                      rw [run_slice_string (P := Tryz.prog) W 9 g .i64 .i64 5 (232) Tryz.underlying9 (by decide) (by omega) (by rw [hgs]; omega), hpt, show bs ((pl.drop 5).take n) = bs ((pl.drop 5).take 227) by rw [List.take_of_length_le (by rw [List.length_drop]; omega), List.take_of_length_le (by rw [List.length_drop]; omega)], show (232 : Int).toNat = 5 + 227 from rfl]
                      have := bs_extract pl 5 (5 + 227)
                      rw [show 5 + 227 - 5 = 227 by omega] at this
                      rw [← this, HPL.out, bs_of]
                      rfl
                    have hs1 : (bs out).size = out.length := bs_size out
                    have hs2 : (bs pt).size = 227 := by rw [bs_size, hptl]
                    have hlen8 : (l.length + 1) * 8 ≤ 140737488355328 := by omega
                    have HNW := Aside0.mk (wrap_small (x := nx) (by omega) (by omega))
                    have HW7 := Aside0.mk (wrap_small (x := (n : Int) - 227) (by omega) (by omega))
                    obtain ⟨hnw, hnw'⟩ := HNW.out
                    obtain ⟨hw7, hw7'⟩ := HW7.out
                    have HST := Aside0.mk (rFollow_step (k := k) (out := out) (l := l) HG.out (show pageOk g.data.toList n = true by rw [← HPL.out, HPO.out, HTN.out, hrest]; rfl))
                    rw [← HPL.out, ← HNX.out, ← hpt] at HST
                    have HPTL := Aside0.mk hptl
                    clear hrest hpt hptl hi
                    go_wp2_with (at_builtin; refine Kd.R_append (Kd.int .i64) (w0 := wr) 0 rfl (.tmp 79) (.tmp 81) 33 3 (.int .i64 0) 8 rfl Tryz.underlying33 info3 rfl (by decide) (by decide) (.slice A l.length c) _ a [.int .i64 a] (fun k' => w.heap.size ≤ k') (fun k' => some k' ≠ (Value.slice A l.length c).ownBlock ∧ w.heap.size ≤ k') rfl rfl rfl (fun _ h => ⟨h.2, h.1⟩) (fun _ hk => Nat.le_trans HR.out.base.size hk) HR.out.row (Below.refl 0 wr) (Nat.zero_le _) hlen8 ?_; intro v1 w7 hR7 hB7 hG7 hat7; have HR7 := Aside0.mk (HR.out.listed hR7 hG7); clear hR7 hB7 hG7 hat7)
                    go_wp2
                    clear hw7 hw7' hnw hnw' hlen8
                    go_roundw
                    case rel => exact ⟨k, nx, (n : Int) - 227, out ++ pt, l ++ [a], by rw [← bs_append], rfl, rfl, by by_cases e : n = 227; exact Or.inr ⟨by omega, by omega, by have := hkp; unfold parts at this; omega⟩; exact Or.inl ⟨by omega, by omega, by have := hkp; unfold parts at this ⊢; omega⟩, by rw [List.length_append, HPTL.out]; omega, by rw [List.length_append, List.length_singleton]; omega, ⟨by rw [show ((n : Int) - 227).toNat = n - 227 by omega, ← HST.out]; exact HF.out⟩, HR7⟩
                    case measure => simp only [intOf]; omega
            · have t2 : (nx == 0) = false := beq_false_of (fun e => hle (hlr.1 e))
              have t3 : decide ((n : Int) ≤ 227) = false := decide_eq_false (by omega)
              have t4 : decide (n ≤ 227) = false := decide_eq_false hle
              have h227 : ¬ n < 227 := by omega
              clear htn hlr
              have tw : decide ((n : Int) < 227) = false := decide_eq_false (by omega)
              have twn : decide (n < 227) = false := decide_eq_false h227
              obtain ⟨hw5, hw5'⟩ := wrap_small (x := 5 + (227 : Int)) (by omega) (by omega)
              go_wp2_with fail
              clear hw5 hw5'
              go_loopw [16] (fun iv wq => ∃ i : Nat, 5 + 227 ≤ i ∧ i ≤ 232 ∧ iv = .int .i64 i ∧ Aside0 (wq = w4) ∧ Aside0 (∀ m, 5 + 227 ≤ m → m < i → pl.getD m 0 = 0)) (fun iv _ => 232 - (intOf iv).toNat)
              case atStart => exact ⟨232, Nat.le_refl _, Nat.le_refl _, rfl, ⟨rfl⟩, ⟨fun m h1 h2 => absurd h1 (by omega)⟩⟩
              case round =>
                obtain ⟨i, hi1, hi2, rfl, hw, HZ⟩ := hrel
                have hw' := hw.out
                subst hw'
                clear hw
                by_cases hi : i < 232
                · exfalso; omega
                · have ti : decide ((i : Int) < 232) = false := decide_eq_false (by omega)
                  have hrest : ((pl.drop 5).drop n).all (· == 0) = true := by rw [List.drop_of_length_le (by rw [List.length_drop]; omega)]; rfl
                  obtain ⟨pt, hpt⟩ : ∃ pt, pt = (pl.drop 5).take n := ⟨_, rfl⟩
                  have hptl : pt.length = 227 := by rw [hpt, List.length_take, List.length_drop]; omega
                  have hsl2 : ∀ W, (Instr.slice 9 (.string g) (some (.int .i64 5)) (some (.int .i64 (232))) none).run Tryz.prog W = .ok (.string (bs pt)) W := fun W => by
                    rw [run_slice_string (P := Tryz.prog) W 9 g .i64 .i64 5 (232) Tryz.underlying9 (by decide) (by omega) (by rw [hgs]; omega), hpt, show bs ((pl.drop 5).take n) = bs ((pl.drop 5).take 227) by rw [List.take_of_length_le (by rw [List.length_drop]; omega), List.take_of_length_le (by rw [List.length_drop]; omega)], show (232 : Int).toNat = 5 + 227 from rfl]
                    have := bs_extract pl 5 (5 + 227)
                    rw [show 5 + 227 - 5 = 227 by omega] at this
                    rw [← this, HPL.out, bs_of]
                    rfl
                  have hs1 : (bs out).size = out.length := bs_size out
                  have hs2 : (bs pt).size = 227 := by rw [bs_size, hptl]
                  have hlen8 : (l.length + 1) * 8 ≤ 140737488355328 := by omega
                  have HNW := Aside0.mk (wrap_small (x := nx) (by omega) (by omega))
                  have HW7 := Aside0.mk (wrap_small (x := (n : Int) - 227) (by omega) (by omega))
                  obtain ⟨hnw, hnw'⟩ := HNW.out
                  obtain ⟨hw7, hw7'⟩ := HW7.out
                  have HST := Aside0.mk (rFollow_step (k := k) (out := out) (l := l) HG.out (show pageOk g.data.toList n = true by rw [← HPL.out, HPO.out, HTN.out, hrest]; rfl))
                  rw [← HPL.out, ← HNX.out, ← hpt] at HST
                  have HPTL := Aside0.mk hptl
                  clear hrest hpt hptl hi
                  go_wp2_with (at_builtin; refine Kd.R_append (Kd.int .i64) (w0 := wr) 0 rfl (.tmp 79) (.tmp 81) 33 3 (.int .i64 0) 8 rfl Tryz.underlying33 info3 rfl (by decide) (by decide) (.slice A l.length c) _ a [.int .i64 a] (fun k' => w.heap.size ≤ k') (fun k' => some k' ≠ (Value.slice A l.length c).ownBlock ∧ w.heap.size ≤ k') rfl rfl rfl (fun _ h => ⟨h.2, h.1⟩) (fun _ hk => Nat.le_trans HR.out.base.size hk) HR.out.row (Below.refl 0 wr) (Nat.zero_le _) hlen8 ?_; intro v1 w7 hR7 hB7 hG7 hat7; have HR7 := Aside0.mk (HR.out.listed hR7 hG7); clear hR7 hB7 hG7 hat7)
                  go_wp2
                  clear hw7 hw7' hnw hnw' hlen8
                  go_roundw
                  case rel => exact ⟨k, nx, (n : Int) - 227, out ++ pt, l ++ [a], by rw [← bs_append], rfl, rfl, by by_cases e : n = 227; exact Or.inr ⟨by omega, by omega, by have := hkp; unfold parts at this; omega⟩; exact Or.inl ⟨by omega, by omega, by have := hkp; unfold parts at this ⊢; omega⟩, by rw [List.length_append, HPTL.out]; omega, by rw [List.length_append, List.length_singleton]; omega, ⟨by rw [show ((n : Int) - 227).toNat = n - 227 by omega, ← HST.out]; exact HF.out⟩, HR7⟩
                  case measure => simp only [intOf]; omega
          · have htn : ((nx == 0) == decide (n ≤ 227)) = false := by
              by_cases e : nx = 0
              · rw [decide_eq_false (fun h => hlr ⟨fun _ => h, fun _ => e⟩), e]; rfl
              · by_cases e2 : n ≤ 227
                · rw [decide_eq_true e2, beq_false_of e]; rfl
                · exact absurd (show nx = 0 ↔ n ≤ 227 from ⟨fun h => absurd h e, fun h => absurd h e2⟩) hlr
            have HTN := Aside0.mk htn
            subst hb3
            by_cases e : nx = 0
            · have e2 : ¬ n ≤ 227 := fun h => hlr ⟨fun _ => h, fun _ => e⟩
              have t2 : (nx == 0) = true := by simp [e]
              have t3 : decide ((n : Int) ≤ 227) = false := decide_eq_false (by omega)
              have t4 : decide (n ≤ 227) = false := decide_eq_false e2
              clear htn hlr
              go_wp2
              go_ret3
              rw [← HF.out, rFollow_bad HG.out (by rw [← HPL.out, HPO.out, HTN.out]; rfl)]
              exact ⟨_, rfl, Kd.R_nil _ _ _ _ _, HR.out.base⟩
            · have e2 : n ≤ 227 := Decidable.byContradiction (fun h => hlr ⟨fun h1 => absurd h1 e, fun h1 => absurd h1 h⟩)
              have t2 : (nx == 0) = false := beq_false_of e
              have t3 : decide ((n : Int) ≤ 227) = true := decide_eq_true (by omega)
              have t4 : decide (n ≤ 227) = true := decide_eq_true e2
              clear htn hlr
              go_wp2
              go_ret3
              rw [← HF.out, rFollow_bad HG.out (by rw [← HPL.out, HPO.out, HTN.out]; rfl)]
              exact ⟨_, rfl, Kd.R_nil _ _ _ _ _, HR.out.base⟩
        · have tb : (b0 == 3) = false := by simp [hb3]
          have tb2 : ((b0 : Int) == 3) = false := beq_false_of (by omega)
          have HTB := Aside0.mk tb
          go_wp2
          go_ret3
          rw [← HF.out, rFollow_bad HG.out (by rw [← HPL.out, HPO.out, HTB.out]; rfl)]
          exact ⟨_, rfl, Kd.R_nil _ _ _ _ _, HR.out.base⟩
      · rw [if_neg hin] at hGC
        have HGC := Aside0.mk hGC
        have HG := Aside0.mk (show refG p N D a = (⟨#[]⟩, 21) by unfold refG; rw [if_neg hin])
        clear hGC hin
        go_wp2_with fail
        refine (HGC.out _ (H.out.below HR.out.base)).mono ?_
        rintro e w3 ⟨rfl, hb3⟩
        replace HR := Aside0.mk (HR.out.below hb3)
        clear hb3
        go_wp2
        go_ret3
        rw [← HF.out, rFollow_err HG.out (by decide)]
        exact ⟨_, rfl, Kd.R_nil _ _ _ _ _, HR.out.base⟩
    · subst hk0
      have tL : decide (0 < L) = false := decide_eq_false (by omega)
      have HF2 := Aside0.mk (show (out, l, (0 : Int)) = r from HF.out)
      go_wp2
      go_ret3
      first | rw [← HF2.out] | rw [← HRR.out, ← HF2.out]
      exact ⟨_, rfl, HR.out.row, HR.out.base⟩
end Go.Proofs.YtonbipaajhokfaaGreatDoor
end
section
set_option linter.unusedVariables false
set_option linter.unusedSimpArgs false
namespace Go.Proofs.YtonbipaajhokfaaGreatDoor
open Go.RowKit Go.Proofs.YtonbipaajhokfaaGreatDoorW.PrintWords Go.Proofs.YtonbipaajhokfaaGreatDoorW.PrintLast Go.Proofs.YtonbipaajhokfaaGreatDoorW.PrintMore
def shortL : List UInt8 := [115, 104, 111, 114, 116]
theorem awake11_plain (ks mb : Nat) {v z : List UInt8} (hv : v.length = 228) (hz : z.length = 5001) : ∃ (s1 s2 : Sh) (n m : Int),
    (shPg ks mb).cell (Sh.start 20) shortL = (Sh.start 20, (5, bs shortL, 0), 0) ∧ (shPg ks mb).cell (Sh.start 20) v = (s1, (228, ⟨#[]⟩, n), 0) ∧ 1 ≤ n ∧
    (shPg ks mb).walk s1 (228, ⟨#[]⟩, n) = (s1, v, [n, m], 0) ∧ (shPg ks mb).cell s1 z = (s1, (0, ⟨#[]⟩, 0), 47) ∧ s1.hd.pages = 3 ∧
    (shPg ks mb).freeChain s1 (228, ⟨#[]⟩, n) = (s2, 0) ∧ s2.hd.spare = 2 ∧ (shPg ks mb).walk s2 (9, ⟨#[]⟩, 0) = (s2, [], [], 1) ∧ ShOk (Sh.start 20) ∧ ShOk s1 ∧ ShOk s2 := by
  have g0 : Good 20 (Sh.start 20) [] 1 0 := Good.start (by decide) (by decide)
  have o0 : ShOk (Sh.start 20) := ShOk.start (by decide) (by decide)
  obtain ⟨s1, c, ns, p, L, a1, a2, a3, a4, a5, a6⟩ := cell_good ks mb g0 (v := v) (by omega) (by rw [hv]; decide)
  have hm := a3
  unfold Means at hm
  rw [if_neg (by omega), hv] at hm
  obtain ⟨hc, hlen, hlaid⟩ := hm
  rw [show parts 228 = 2 from rfl] at hlen
  match ns, hlen with
  | [n, m], _ =>
    have hw := (walk_means ks mb a2 (c := c) (by omega) a3 (fun y hy => List.mem_append_right _ hy)).2
    obtain ⟨s2, b1, b2, b3⟩ := freeChain_good ks mb (a := []) (b := []) (ns := [n, m]) (by simpa using a2) (v := v) (c := c) (by omega) a3
    have e1 := a2.sum
    have e2 := a2.pages
    have e3 := b2.pages
    have e4 := a2.nodup.2 n (by simp)
    have o1 := (shPg ks mb).ok_cell v o0
    rw [a1] at o1
    have o2 := (shPg ks mb).ok_freeChain c o1
    rw [b1] at o2
    obtain ⟨t1, h1⟩ := e2
    obtain ⟨t2, h2⟩ := e3
    subst hc
    refine ⟨s1, s2, n, m, ?_, a1, e4.1, hw, ?_, ?_, b1, ?_, ?_, o0, o1, o2⟩
    · unfold Pg.cell; rw [if_neg (by decide), if_pos (by decide)]; rfl
    · unfold Pg.cell; rw [if_pos (by omega)]
    · rw [h1]; dsimp only; simp at e1; omega
    · rw [h2]; dsimp only; have : L = 0 := by omega
      subst this; rfl
    · unfold Pg.walk; rw [if_pos (by decide)]
theorem head_pages (a c d e f : Value) (b' : Int) (W : World) : (Instr.field 48 (.agg #[a, .int .i64 b', c, d, e, f]) 1).run Tryz.prog W = .ok (.int .i64 b') W := by kernel_rfl
theorem head_spare (a b c e f : Value) (d' : Int) (W : World) : (Instr.field 48 (.agg #[a, b, c, .int .i64 d', e, f]) 3).run Tryz.prog W = .ok (.int .i64 d') W := by kernel_rfl
set_option maxHeartbeats 4000000 in
set_option maxRecDepth 100000 in
theorem awake11_calls (w : World) : Calls Tryz.prog 7 #[] w fun e w' => e = .returned (.bool true) ∧ Below w.heap.size w w' := by
  have hu := Tryz.underlying24
  have hu2 := Tryz.underlying48
  obtain ⟨v, hv, hvl⟩ := long_f 228 (by decide)
  obtain ⟨z, hz, hzl⟩ := long_f 5001 (by decide)
  have HV := Aside0.mk (fun W => long_calls hv W)
  have HZ := Aside0.mk (fun W => long_calls hz W)
  have hvne : v.length ≤ 1000 := by omega
  have HVL := Aside0.mk hvl
  have HZL := Aside0.mk hzl
  clear hv hz hvl hzl
  go_enter Tryz.func7, Tryz.ntmps7
  go_wp2_with fail
  refine (shelfNew_calls 20 w (by decide) (by decide)).mono ?_
  rintro e w0 ⟨ks, mb, rfl, hS, hk1, hk2, hB⟩
  have HO := Aside0.mk (show Own ks mb w.heap.size w w0 (Sh.start 20) from ⟨hS, hk1, hk2, hB, hB.size⟩)
  obtain ⟨s1, s2, n, m, p1, p2, p3, p4, p5, p6, p7, p8, p9, o0, o1, o2⟩ := awake11_plain ks mb HVL.out HZL.out
  clear hS hk1 hk2 hB
  have q1 := fun W hW => shCell_calls ks mb (Sh.start 20) shortL W hW o0 (by decide)
  have q2 := fun W hW => shCell_calls ks mb (Sh.start 20) v W hW o0 (by omega)
  have q3 := fun W hW => shValue_calls ks mb s1 228 ⟨#[]⟩ n W hW o1
  have q4 := fun W hW => shList_calls ks mb s1 228 ⟨#[]⟩ n W hW o1
  have q5 := fun W hW => shCell_calls ks mb s1 z W hW o1 (by have := HZL.out; omega)
  have q6 := fun W hW => shHead_calls ks mb s1 W hW
  have q7 := fun W hW => shFreeChain_calls ks mb s1 228 ⟨#[]⟩ n W hW o1
  have q8 := fun W hW => shValue_calls ks mb s2 9 ⟨#[]⟩ 0 W hW o2
  have q9 := fun W hW => shHead_calls ks mb s2 W hW
  rw [p1] at q1
  rw [p2] at q2
  rw [p4] at q3 q4
  rw [p5] at q5
  rw [p7] at q7
  rw [p9] at q8
  unfold Hd.v at q6 q9
  rw [p6] at q6
  rw [p8] at q9
  have Q1 := Aside0.mk q1
  have Q2 := Aside0.mk q2
  have Q3 := Aside0.mk q3
  have Q4 := Aside0.mk q4
  have Q5 := Aside0.mk q5
  have Q6 := Aside0.mk q6
  have Q7 := Aside0.mk q7
  have Q8 := Aside0.mk q8
  have Q9 := Aside0.mk q9
  have tn : decide (1 ≤ n) = true := decide_eq_true p3
  clear q1 q2 q3 q4 q5 q6 q7 q8 q9 p1 p2 p3 p4 p5 p6 p7 p8 p9 o0 o1 o2
  go_wp2_with fail
  refine (Q1.out _ HO.out.at_).mono ?_
  rintro e w1 ⟨rfl, hs, hf⟩
  replace HO := Aside0.mk (HO.out.fr hs hf)
  clear hs hf Q1
  go_wp2_with fail
  refine (HV.out _).mono ?_
  rintro e w2 ⟨rfl, hb⟩
  have HA := Aside0.mk ((Beside.new HO.out.at_ (.cells #[.int .i64 5, .string (bs shortL), .int .i64 0] 24)).below hb)
  replace HO := Aside0.mk ((HO.out.below (below_alloc (Below.refl _ _) _)).below hb)
  obtain ⟨ga, hga⟩ : ∃ ga, ga = w1.heap.size := ⟨_, rfl⟩
  rw [← hga] at HA ⊢
  clear hb hga
  go_wp2_with fail
  refine (Q2.out _ HO.out.at_).mono ?_
  rintro e w3 ⟨rfl, hs, hf⟩
  replace HO := Aside0.mk (HO.out.fr hs hf)
  replace HA := Aside0.mk (HA.out.fr hf)
  clear hs hf Q2
  go_wp2_with fail
  have HB := Aside0.mk (Beside.new HO.out.at_ (.cells #[.int .i64 228, .string ⟨#[]⟩, .int .i64 n] 24))
  replace HA := Aside0.mk (HA.out.below (below_alloc (Below.refl _ _) (.cells #[.int .i64 228, .string ⟨#[]⟩, .int .i64 n] 24)))
  replace HO := Aside0.mk (HO.out.below (below_alloc (Below.refl _ _) (.cells #[.int .i64 228, .string ⟨#[]⟩, .int .i64 n] 24)))
  refine (Q3.out _ HO.out.at_).mono ?_
  rintro e w4 ⟨rfl, hs, hf⟩
  replace HO := Aside0.mk (HO.out.fr hs hf)
  replace HA := Aside0.mk (HA.out.fr hf)
  replace HB := Aside0.mk (HB.out.fr hf)
  obtain ⟨gb, hgb⟩ : ∃ gb, gb = w3.heap.size := ⟨_, rfl⟩
  rw [← hgb] at HB ⊢
  clear hs hf hgb Q3
  have cgb0 : w4.cell? ⟨gb, 0, none⟩ = some (.int .i64 228) := (blk_cell HB.out.at_ 0).trans rfl
  have cgb1 : w4.cell? ⟨gb, 1, none⟩ = some (.string ⟨#[]⟩) := (blk_cell HB.out.at_ 1).trans rfl
  have cgb2 : w4.cell? ⟨gb, 2, none⟩ = some (.int .i64 n) := (blk_cell HB.out.at_ 2).trans rfl
  go_wp2_with fail
  clear cgb0 cgb1 cgb2
  refine (Q4.out _ HO.out.at_).mono ?_
  rintro e w5 ⟨A, c, rfl, hs, hf, hrow⟩
  have HRow := Aside0.mk hrow
  replace HO := Aside0.mk (HO.out.fr hs hf)
  replace HA := Aside0.mk (HA.out.fr hf)
  replace HB := Aside0.mk (HB.out.fr hf)
  clear hs hf hrow Q4
  go_wp2_with fail
  refine (HZ.out _).mono ?_
  rintro e w6 ⟨rfl, hb⟩
  replace HO := Aside0.mk (HO.out.below hb)
  replace HA := Aside0.mk (HA.out.below hb)
  replace HB := Aside0.mk (HB.out.below hb)
  replace HRow := Aside0.mk (HRow.out.below hb)
  clear hb HZ
  go_wp2_with fail
  refine (Q5.out _ HO.out.at_).mono ?_
  rintro e w7 ⟨rfl, hs, hf⟩
  replace HO := Aside0.mk (HO.out.fr hs hf)
  replace HA := Aside0.mk (HA.out.fr hf)
  replace HB := Aside0.mk (HB.out.fr hf)
  replace HRow := Aside0.mk (HRow.out.fr hf)
  clear hs hf Q5
  go_wp2_with fail
  have hb := below_alloc (Below.refl w7.heap.size w7) (.cells #[.int .i64 0, .string ⟨#[]⟩, .int .i64 0] 24)
  replace HO := Aside0.mk (HO.out.below hb)
  replace HA := Aside0.mk (HA.out.below hb)
  replace HB := Aside0.mk (HB.out.below hb)
  replace HRow := Aside0.mk (HRow.out.below hb)
  clear hb
  refine (Q6.out _ HO.out.at_).mono ?_
  rintro e w8 ⟨rfl, hb⟩
  replace HO := Aside0.mk (HO.out.below hb)
  replace HA := Aside0.mk (HA.out.below hb)
  replace HB := Aside0.mk (HB.out.below hb)
  replace HRow := Aside0.mk (HRow.out.below hb)
  clear hb Q6
  have hfd := head_pages
  have cgb0 : w8.cell? ⟨gb, 0, none⟩ = some (.int .i64 228) := (blk_cell HB.out.at_ 0).trans rfl
  have cgb1 : w8.cell? ⟨gb, 1, none⟩ = some (.string ⟨#[]⟩) := (blk_cell HB.out.at_ 1).trans rfl
  have cgb2 : w8.cell? ⟨gb, 2, none⟩ = some (.int .i64 n) := (blk_cell HB.out.at_ 2).trans rfl
  go_wp2_with fail
  clear cgb0 cgb1 cgb2
  refine (Q7.out _ HO.out.at_).mono ?_
  rintro e w9 ⟨rfl, hs, hf⟩
  replace HO := Aside0.mk (HO.out.fr hs hf)
  replace HA := Aside0.mk (HA.out.fr hf)
  replace HB := Aside0.mk (HB.out.fr hf)
  replace HRow := Aside0.mk (HRow.out.fr hf)
  clear hs hf Q7
  go_wp2_with fail
  refine (Q8.out _ HO.out.at_).mono ?_
  rintro e w10 ⟨rfl, hs, hf⟩
  replace HO := Aside0.mk (HO.out.fr hs hf)
  replace HA := Aside0.mk (HA.out.fr hf)
  replace HB := Aside0.mk (HB.out.fr hf)
  replace HRow := Aside0.mk (HRow.out.fr hf)
  clear hs hf Q8
  obtain ⟨ad, hA, hx⟩ := Kd.at_int (Kd.R_reads' HRow.out).2.2 0 (by decide) (by simp)
  subst hA
  have hx0 : w10.cell? ad = some (.int .i64 n) := by simpa [rd, Addr.add] using hx
  have hadl := Kd.R_lt HRow.out ad.block rfl
  have HS : Aside0 (∀ w', Below w10.heap.size w10 w' → w'.cell? ⟨ga, 0, none⟩ = some (.int .i64 5) ∧ w'.cell? ⟨ga, 1, none⟩ = some (.string (bs shortL)) ∧ w'.cell? ⟨ga, 2, none⟩ = some (.int .i64 0) ∧ w'.cell? ⟨gb, 0, none⟩ = some (.int .i64 228) ∧ w'.cell? ⟨gb, 1, none⟩ = some (.string ⟨#[]⟩) ∧ w'.cell? ⟨gb, 2, none⟩ = some (.int .i64 n) ∧ w'.cell? ad = some (.int .i64 n)) :=
    ⟨fun w' hb => ⟨(blk_cell (HA.out.below hb).at_ 0).trans rfl, (blk_cell (HA.out.below hb).at_ 1).trans rfl, (blk_cell (HA.out.below hb).at_ 2).trans rfl, (blk_cell (HB.out.below hb).at_ 0).trans rfl, (blk_cell (HB.out.below hb).at_ 1).trans rfl, (blk_cell (HB.out.below hb).at_ 2).trans rfl, (hb.cell hadl).trans hx0⟩⟩
  have hfe := head_spare
  have hsh : (bs shortL).toList = [115, 104, 111, 114, 116] := by rw [ByteArray.toList_eq]; rfl
  clear hx hx0 hadl HA HB
  go_wp2_with fail
  refine region_below w10.heap.size (Nat.le_refl _) (by kernel_rfl) (by kernel_rfl) ?_
  iterate 23 (
    refine q_valw (by rfl) (v := ?_) (a' := ?_) ?_ ?_ ?_
    rotate_left
    rotate_left
    · intro w' hw'
      obtain ⟨e0, e1, e2, e3, e4, e5, e6⟩ := HS.out w' hw'
      go_simp
      with_reducible rfl
    · simp only [Act.put, List.setIfInBounds_toArray, List.set_cons_zero, List.set_cons_succ]
      rfl
    )
  refine q_callw (by rfl) (v := .string (bs v)) (a' := ?_) (f := 24) (args := #[.int .i64 228]) ?_ ?_ ?_ ?_
  rotate_left
  · intro w' hw'
    go_simp
  · intro w' hw'
    exact (HV.out w').mono fun _ _ hh => ⟨hh.1, below_then hw' hw'.size hh.2⟩
  · simp only [Act.put, List.setIfInBounds_toArray, List.set_cons_zero, List.set_cons_succ]
    rfl
  iterate 37 (
    refine q_valw (by rfl) (v := ?_) (a' := ?_) ?_ ?_ ?_
    rotate_left
    rotate_left
    · intro w' hw'
      obtain ⟨e0, e1, e2, e3, e4, e5, e6⟩ := HS.out w' hw'
      go_simp
      with_reducible rfl
    · simp only [Act.put, List.setIfInBounds_toArray, List.set_cons_zero, List.set_cons_succ]
      rfl
    )
  refine q_callw (by rfl) (v := .agg #[.int .i64 s2.hd.mode, .int .i64 s2.hd.pages, .int .i64 s2.hd.trunk, .int .i64 2, .int .i64 s2.hd.root, .int .u64 s2.hd.change]) (a' := ?_) (f := 18) (args := #[.pointer (some ⟨ks, 0, none⟩)]) ?_ ?_ ?_ ?_
  rotate_left
  · intro w' hw'
    go_simp
  · intro w' hw'
    exact (Q9.out w' (HO.out.below hw').at_).mono fun _ _ hh => ⟨hh.1, below_then hw' hw'.size hh.2⟩
  · simp only [Act.put, List.setIfInBounds_toArray, List.set_cons_zero, List.set_cons_succ]
    rfl
  iterate 8 (
    refine q_valw (by rfl) (v := ?_) (a' := ?_) ?_ ?_ ?_
    rotate_left
    rotate_left
    · intro w' hw'
      obtain ⟨e0, e1, e2, e3, e4, e5, e6⟩ := HS.out w' hw'
      go_simp
      with_reducible rfl
    · simp only [Act.put, List.setIfInBounds_toArray, List.set_cons_zero, List.set_cons_succ]
      rfl
    )
  refine wpQuiet_nil ?_
  intro w' hw'
  replace HO := Aside0.mk (HO.out.below hw')
  clear HS hw' Q9 HV
  go_wp2
  go_ret
  exact ⟨rfl, HO.out.base⟩
end Go.Proofs.YtonbipaajhokfaaGreatDoor
end
section
set_option linter.unusedVariables false
set_option linter.unusedSimpArgs false
namespace Go.Proofs.YtonbipaajhokfaaGreatDoor
open Go.RowKit Go.Proofs.YtonbipaajhokfaaGreatDoorW.PrintWords Go.Proofs.YtonbipaajhokfaaGreatDoorW.PrintLast Go.Proofs.YtonbipaajhokfaaGreatDoorW.PrintMore
theorem same_l0 (l : List Int) (hm : l.length ≤ 1000000) : ∀ (d i : Nat), i + d = l.length → PChainReads.cahierlaw11_same.l0 (d + 1) l l (i : Int) = some true := by
  intro d
  induction d with
  | zero =>
    intro i hi
    rw [PChainReads.cahierlaw11_same.l0, if_neg (by omega)]
  | succ d ih =>
    intro i hi
    rw [PChainReads.cahierlaw11_same.l0, if_pos (by omega), if_pos (by omega), if_pos (by omega), if_pos rfl, (wrap_small (x := (i : Int) + 1) (by omega) (by omega)).2]
    exact ih (i + 1) (by omega)
theorem same_f (l : List Int) (hm : l.length ≤ 1000000) : PChainReads.cahierlaw11_same.f (l.length + 1) l l = some true := by
  unfold PChainReads.cahierlaw11_same.f
  rw [if_pos rfl]
  exact same_l0 l hm l.length 0 (by omega)
theorem same_calls (A A' : Option Addr) (c c' : Nat) (l : List Int) (w : World) (hm : l.length ≤ 1000000) (hl : Kd.C (Kd.int .i64) w A l.length l) (hc : l.length ≤ c) (hl' : Kd.C (Kd.int .i64) w A' l.length l) (hc' : l.length ≤ c') :
    Calls Tryz.prog 12 #[.slice A l.length c, .slice A' l.length c'] w fun e w' => e = .returned (.bool true) ∧ Below w.heap.size w w' :=
  (PChainReads.cahierlaw11_same.calls (l.length + 1) A c l A' c' l true w hl hc hl' hc' (same_f l hm)).mono fun _ _ h => ⟨h.1, h.2.below⟩
theorem refVal_calls {G : Nat → Prop} {kr kb : Nat} {lim p : Int} {N : List Int} {D : List ByteArray} (x0 : Int) (x1 : ByteArray) (x2 : Int) (w : World) (h : RefAt w G kr kb lim p N D) (hfull : ∀ n, 1 ≤ n → n < p → (getB N D n).size = 232) :
    Calls Tryz.prog 11 #[.pointer (some ⟨kr, 0, none⟩), .agg #[.int .i64 x0, .string x1, .int .i64 x2]] w (RvPost w (rWalk (refG p N D) (x0, x1, x2))) := by
  unfold rWalk
  dsimp only
  cases hg : cellGood x0 x1 x2 with
  | false => rw [if_pos rfl]; exact refVal_bad (G := G) (kb := kb) (lim := lim) (p := p) (N := N) (D := D) x0 x1 x2 w hg
  | true =>
    rw [if_neg (by decide)]
    by_cases h2 : x2 = 0
    · rw [if_pos h2]
      subst h2
      exact refVal_short (G := G) (kb := kb) (lim := lim) (p := p) (N := N) (D := D) x0 x1 w hg
    · rw [if_neg h2]
      have e := (cellGood_long hg h2).2.2.2.2
      subst e
      exact refVal_long x0 x2 w h hfull hg h2
theorem rFollow_len (g : Int → ByteArray × Int) : ∀ (k : Nat) (a : Int) (left : Nat) (out : List UInt8) (l : List Int), (rFollow g k a left out l).2.1.length ≤ l.length + k
  | 0, _, _, _, l => Nat.le_refl _
  | k + 1, a, left, out, l => by
    unfold rFollow
    split
    · simp
    · split
      · simp
      · have := rFollow_len g k (nextOf (g a).1.data.toList) (left - 227) (out ++ ((g a).1.data.toList.drop 5).take left) (l ++ [a])
        rw [List.length_append, List.length_singleton] at this
        omega
theorem rWalk_len (g : Int → ByteArray × Int) (c : Cel) : (rWalk g c).2.1.length ≤ 1000000 := by
  unfold rWalk
  cases hg : cellGood c.1 c.2.1 c.2.2 with
  | false => rw [if_pos rfl]; simp
  | true =>
    rw [if_neg (by decide)]
    by_cases h2 : c.2.2 = 0
    · rw [if_pos h2]; simp
    · rw [if_neg h2]
      have h1 := cellGood_long hg h2
      have := rFollow_len g (parts c.1.toNat) c.2.2 c.1.toNat [] []
      have hp : parts c.1.toNat ≤ 23 := by unfold parts; omega
      rw [List.length_nil] at this
      omega
theorem flat_ok {lim p : Int} {f : Int → Option ByteArray} (h0 : lim ≤ 4096) (h1 : 1 ≤ p) (h2 : p ≤ 4096) (hf : FullM f) : ShOk (flatSh lim p f) :=
  ⟨h0, show (-1 : Int) ≤ 4096 by decide, h1, h2, show (0 : Int) ≤ 0 by decide, show (0 : Int) < p by omega, hf⟩
set_option maxHeartbeats 4000000 in
set_option maxRecDepth 100000 in
theorem chainReads_calls (Ax : Option Addr) (cx : Nat) (vs : List ByteArray) (x0 : Int) (x1 : ByteArray) (x2 : Int) (w : World) (hvs : Kd.string.C w Ax vs.length vs) :
    Calls Tryz.prog 3 #[.slice Ax vs.length cx, .agg #[.int .i64 x0, .string x1, .int .i64 x2]] w fun e w' => e = .returned (.bool true) ∧ Below w.heap.size w w' := by
  have hu := Tryz.underlying24
  have HVS := Aside0.mk hvs
  clear hvs
  go_enter Tryz.func3, Tryz.ntmps3
  go_wp2_with fail
  refine (awake11_calls _).mono ?_
  rintro e wa ⟨rfl, hba⟩
  have HK := Aside0.mk (blk_below (blk_new w (.cells #[.int .i64 x0, .string x1, .int .i64 x2] 24)) hba)
  have HBA := Aside0.mk (below_step (below_alloc (Below.refl w.heap.size w) (.cells #[.int .i64 x0, .string x1, .int .i64 x2] 24)) hba)
  obtain ⟨gb, hgb⟩ : ∃ gb, gb = w.heap.size := ⟨_, rfl⟩
  have HGB := Aside0.mk hgb
  rw [← hgb] at HK ⊢
  clear hba hgb
  go_wp2_with fail
  refine (laid_calls Ax cx vs wa (Kd.C_below HVS.out HBA.out)).mono ?_
  rintro e w1 ⟨ks, mb, kr, kb, f, G, N, D, p, rfl, hp1, hp2, HP⟩
  have HKL := Aside0.mk (blk_lt HK.out)
  have HAP := Aside0.mk (show gb ≠ ks ∧ gb ≠ mb from ⟨by have := HKL.out; have := HP.ks_; omega, by have := HKL.out; have := HP.mb_; omega⟩)
  replace HK := Aside0.mk (blk_below HK.out HP.base)
  have HHF := Aside0.mk HP.half
  have HFU := Aside0.mk (show ∀ n, 1 ≤ n → n < (p : Int) → (getB N D n).size = 232 from fun n h1 h2 => by rw [← HP.same n h1 h2]; exact HP.full.read n)
  have hok := flat_ok (lim := 60) (p := (p : Int)) (f := f) (by decide) (by omega) (by omega) HP.full
  have hwf := walk_flat ks mb (lim := 60) (p := (p : Int)) (f := f) HP.same (x0, x1, x2)
  have hlen := rWalk_len (refG (p : Int) N D) (x0, x1, x2)
  have HRV := Aside0.mk (fun W (hW : RefAt W G kr kb 60 (p : Int) N D) => refVal_calls x0 x1 x2 W hW HFU.out)
  have HV := Aside0.mk (fun W hW => shValue_calls ks mb (flatSh 60 (p : Int) f) x0 x1 x2 W hW hok)
  have HL := Aside0.mk (fun W hW => shList_calls ks mb (flatSh 60 (p : Int) f) x0 x1 x2 W hW hok)
  rw [hwf] at HV HL
  obtain ⟨⟨r1, r2, r3⟩, hr⟩ : ∃ r, r = rWalk (refG (p : Int) N D) (x0, x1, x2) := ⟨_, rfl⟩
  rw [← hr] at HV HL HRV hlen
  dsimp only at hlen
  have HLEN := Aside0.mk hlen
  clear hok hwf HP hr hlen HFU hp1 hp2
  have b0 : w1.cell? ⟨gb, 0, none⟩ = some (.int .i64 x0) := (blk_cell HK.out 0).trans rfl
  have b1 : w1.cell? ⟨gb, 1, none⟩ = some (.string x1) := (blk_cell HK.out 1).trans rfl
  have b2 : w1.cell? ⟨gb, 2, none⟩ = some (.int .i64 x2) := (blk_cell HK.out 2).trans rfl
  go_wp2_with fail
  clear b0 b1 b2
  refine (HV.out _ HHF.out.sh).mono ?_
  rintro e w2 ⟨rfl, hs, hf⟩
  replace HHF := Aside0.mk (HHF.out.frS hs hf)
  replace HK := Aside0.mk (hf.blk HK.out (fun e => by rcases e with e | e; exact HAP.out.1 e; exact HAP.out.2 e))
  clear hs hf HV
  have b0 : w2.cell? ⟨gb, 0, none⟩ = some (.int .i64 x0) := (blk_cell HK.out 0).trans rfl
  have b1 : w2.cell? ⟨gb, 1, none⟩ = some (.string x1) := (blk_cell HK.out 1).trans rfl
  have b2 : w2.cell? ⟨gb, 2, none⟩ = some (.int .i64 x2) := (blk_cell HK.out 2).trans rfl
  dsimp only
  go_wp2_with fail
  clear b0 b1 b2
  refine (HL.out _ HHF.out.sh).mono ?_
  rintro e w3 ⟨A, c, rfl, hs, hf, hrow⟩
  replace HHF := Aside0.mk (HHF.out.frS hs hf)
  replace HK := Aside0.mk (hf.blk HK.out (fun e => by rcases e with e | e; exact HAP.out.1 e; exact HAP.out.2 e))
  have HROW := Aside0.mk hrow
  clear hs hf HL hrow
  have b0 : w3.cell? ⟨gb, 0, none⟩ = some (.int .i64 x0) := (blk_cell HK.out 0).trans rfl
  have b1 : w3.cell? ⟨gb, 1, none⟩ = some (.string x1) := (blk_cell HK.out 1).trans rfl
  have b2 : w3.cell? ⟨gb, 2, none⟩ = some (.int .i64 x2) := (blk_cell HK.out 2).trans rfl
  dsimp only
  go_wp2_with fail
  clear b0 b1 b2
  refine (HRV.out _ HHF.out.ref).mono ?_
  rintro e w4 ⟨vl, rfl, hrow, hb⟩
  dsimp only at hrow
  obtain ⟨A2, c2, rfl⟩ := Kd.R_slice hrow
  have HR1 := Aside0.mk (Kd.R_reads' (HROW.out.below hb))
  have HR2 := Aside0.mk (Kd.R_reads' hrow)
  replace HHF := Aside0.mk (HHF.out.below hb)
  clear hrow hb HRV HROW
  dsimp only
  go_wp2_with (go_at_call 12; refine (same_calls _ _ _ _ _ _ HLEN.out HR1.out.2.2 HR1.out.2.1 HR2.out.2.2 HR2.out.2.1).mono ?_; rintro e w5 ⟨rfl, hb5⟩)
  go_ret
  exact ⟨rfl, HBA.out.trans ((HHF.out.below hb5).base.mono HBA.out.size)⟩
end Go.Proofs.YtonbipaajhokfaaGreatDoor
end
