/-
  Walk: ShelfFails.
-/
import Derived.Test.YtonbipaajhokfaaH10
import Derived.Test.YtonbipaajhokfaaH9
import Derived.StillTailTactics
set_option linter.unusedVariables false
set_option linter.unusedSimpArgs false
namespace Go.Proofs.Ytonbipaajhokfaa
open Go.RowKit Go.Proofs.YtonbipaajhokfaaW.PrintWords Go.Proofs.YtonbipaajhokfaaW.PrintLast Go.Proofs.YtonbipaajhokfaaW.PrintMore

abbrev Act4 := Int × Int × ByteArray × Bool
def Kd.act : Kd Act4 := Kd.pair (Kd.int .i64) (Kd.pair (Kd.int .i64) (Kd.pair Kd.string Kd.bool))
def act0 : Act4 := (0, 0, ByteArray.empty, false)
theorem act_at {w : World} {A : Option Addr} {n : Nat} {pl : List Act4} (h : Kd.act.C w A n pl) (k : Nat) (hk : k < n) :
    ∃ ad, A = some ad ∧ w.cell? (ad.add (k * 4)) = some (.int .i64 (pl.getD k act0).1) ∧ w.cell? ⟨(ad.add (k * 4)).block, (ad.add (k * 4)).off + 1, none⟩ = some (.int .i64 (pl.getD k act0).2.1) ∧
      w.cell? ⟨(ad.add (k * 4)).block, (ad.add (k * 4)).off + 2, none⟩ = some (.string (pl.getD k act0).2.2.1) ∧ w.cell? ⟨(ad.add (k * 4)).block, (ad.add (k * 4)).off + 3, none⟩ = some (.bool (pl.getD k act0).2.2.2) := by
  obtain ⟨ad, c, h1, h2, h3, h4⟩ := Kd.C_get h act0 (k : Int) (by omega) (by omega)
  obtain ⟨c0, c1, rfl, h5, c2, c3, rfl, h6, c4, c5, rfl, h7, h8⟩ := h3
  rw [Int.toNat_natCast] at h4 h5 h6 h7 h8
  have e0 : c0 = [.int .i64 (pl.getD k act0).1] := h5
  have e1 : c2 = [.int .i64 (pl.getD k act0).2.1] := h6
  have e2 : c4 = [.string (pl.getD k act0).2.2.1] := h7
  have e3 : c5 = [.bool (pl.getD k act0).2.2.2] := h8
  subst e0 e1 e2 e3
  have g1 := h4 1 _ rfl
  have g2 := h4 2 _ rfl
  have g3 := h4 3 _ rfl
  rw [add_field _ _ _ (by decide)] at g1 g2 g3
  exact ⟨ad, h1, h4 0 _ rfl, g1, g2, g3⟩
theorem R_noneS (w : World) (B : Nat) (hb : B ≤ w.heap.size) (ok : Nat → Prop) (hok : ok w.heap.size) : Kd.string.R 9 (w.alloc (.cells #[] 9)) B ok (.slice (some ⟨w.heap.size, 0, none⟩) 0 0) [] :=
  Kd.R_of_own (by
    have h := World.ownsRow_lit (base := B) (e := 9) (size := 1) w #[] 0 hb (by simp [maxLen]) rfl
    exact h) (fun k hk => by
    have : w.heap.size = k := by simpa [Value.ownBlock] using hk
    exact this ▸ hok)
theorem ShAt.not {ks mb g : Nat} {w : World} {s : Sh} (h : ShAt ks mb w s) {t : TypeId} {cs : Array Value} (hb : w.heap[g]? = some (.cells cs t (0, 0))) (ht : t ≠ 92) : ¬ ShF ks mb g := fun e => by
  rcases e with e | e
  · exact blk_ne hb h.1 ht e
  · obtain ⟨es, clock, h1, -⟩ := h.2
    rw [e, h1] at hb
    cases hb
theorem R_shFrS {ks mb B : Nat} {w w' : World} {v : Value} {u : List ByteArray} (h : Kd.string.R 9 w B (shOk ks mb) v u) (hf : Fr (ShF ks mb) w w') : Kd.string.R 9 w' B (shOk ks mb) v u := by
  refine Kd.R_mono (ok := fun k => shOk ks mb k ∧ k < w.heap.size) ?_ (fun k hk => hk.1)
  exact Kd.R_move (Kd.R_mono (Kd.R_bound h) (fun k hk => ⟨hk.1, hk.2.2.1⟩)) (fun k hk => hf.block k hk.2 (fun e => by rcases e with e | e; exact hk.1.1 e; exact hk.1.2 e))
/-- What the first j pages read. -/
def pgs (f : Int → Option ByteArray) (j : Nat) : List ByteArray := (List.range j).map fun i : Nat => readB f ((i : Int) + 1)
theorem pgs_length (f : Int → Option ByteArray) (j : Nat) : (pgs f j).length = j := by simp [pgs]
theorem pgs_succ (f : Int → Option ByteArray) (j : Nat) : pgs f (j + 1) = pgs f j ++ [readB f ((j : Int) + 1)] := by simp [pgs, List.range_succ]
theorem pgs_at (f : Int → Option ByteArray) (P j : Nat) (h : j < P) : rdOf ByteArray.empty (pgs f P) (j : Int) = readB f ((j : Int) + 1) := by
  unfold rdOf pgs
  rw [Int.toNat_natCast, List.getD_eq_getElem?_getD, List.getElem?_map, List.getElem?_range h]
  rfl
theorem get_in (m p t sp r ch : Int) (f : Int → Option ByteArray) (n : Int) (h1 : 1 ≤ n) (h2 : n < p) : (⟨60, ⟨m, p, t, sp, r, ch⟩, f, -1⟩ : Sh).get n = (readB f n, 0) := by
  unfold Sh.get Sh.beg
  rw [if_neg]
  dsimp only
  rw [if_neg (by decide), if_neg (by omega)]
  decide
set_option maxHeartbeats 4000000 in
set_option maxRecDepth 100000 in
theorem shelfFails_calls (at_ : Int) (Ax : Option Addr) (cx : Nat) (al : List Act4) (Ay : Option Addr) (cy : Nat) (tl : List Act4) (w : World) (hal : Kd.act.C w Ax al.length al) (htl : Kd.act.C w Ay tl.length tl) :
    Calls Try.prog 9 #[.slice Ax al.length cx, .int .i64 at_, .slice Ay tl.length cy] w fun e w' => e = .returned (.bool true) ∧ Below w.heap.size w w' := by
  have hma := Kd.C_max hal
  have hmt := Kd.C_max htl
  have HAL := Aside0.mk hal
  have HTL := Aside0.mk htl
  have hu74 := Try.underlying74
  have hu35 := Try.underlying35
  clear hal htl
  go_enter Try.func9, Try.ntmps9
  go_wp2_with (go_at_call 25; refine (awake10_calls _).mono ?_; rintro e w0 ⟨rfl, hB0⟩)
  refine (shelfNew_calls 60 w0 (by decide) (by decide)).mono ?_
  rintro e w1 ⟨ks, mb, rfl, hS, hk1, hk2, hB1⟩
  have HO := Aside0.mk (show Own ks mb w.heap.size w w1 (Sh.start 60) from ⟨hS, Nat.le_trans hB0.size hk1, Nat.le_trans hB0.size hk2, hB0.trans (hB1.mono hB0.size), Nat.le_trans hB0.size hB1.size⟩)
  have HUS := Aside0.mk Used.start
  clear hS hk1 hk2 hB0 hB1
  go_upto_block 0 with fail
  go_cut [] (fun wc => ∃ (s : Sh), Aside0 (Own ks mb w.heap.size w wc s) ∧ Aside0 (Used s))
  case rest =>
    clear HO HUS
    obtain ⟨s, HO, HUS⟩ := hcut
    obtain ⟨lm, ⟨m, p, t, sp, r, ch⟩, f, lf⟩ := s
    have hus := HUS.out
    obtain ⟨u1, u2, u3, u4, u5, u6⟩ := hus
    dsimp only at u1 u2 u3 u4 u5 u6
    subst u1
    subst u2
    obtain ⟨P, hP⟩ : ∃ P : Nat, p = (P : Int) + 1 := ⟨(p - 1).toNat, by omega⟩
    subst hP
    have hPb : P < 60 := by omega
    clear u3 u4 u5 u6
    have hhc := fun W hW => shHead_calls ks mb (⟨60, ⟨m, (P : Int) + 1, t, sp, r, ch⟩, f, -1⟩ : Sh) W hW
    unfold Hd.v at hhc
    dsimp only at hhc
    have HHC := Aside0.mk hhc
    clear hhc
    go_wp2_with fail
    refine (HHC.out _ HO.out.at_).mono ?_
    rintro e w2 ⟨rfl, hb⟩
    replace HO := Aside0.mk (HO.out.below hb)
    clear hb
    go_wp2_with fail
    obtain ⟨g, hg⟩ : ∃ g, g = w2.heap.size := ⟨_, rfl⟩
    obtain ⟨w3, hw3⟩ : ∃ w3, w3 = w2.alloc (.cells #[.int .i64 m, .int .i64 ((P : Int) + 1), .int .i64 t, .int .i64 sp, .int .i64 r, .int .u64 ch] 35) := ⟨_, rfl⟩
    obtain ⟨w4, hw4⟩ : ∃ w4, w4 = w3.alloc (.cells #[] 9) := ⟨_, rfl⟩
    have HG := Aside0.mk (show w4.heap[g]? = some (.cells #[.int .i64 m, .int .i64 ((P : Int) + 1), .int .i64 t, .int .i64 sp, .int .i64 r, .int .u64 ch] 35 (0, 0)) by rw [hw4, hw3, hg]; exact blk_alloc (blk_new w2 _) _)
    have HO3 := Aside0.mk (show Own ks mb w.heap.size w w3 (⟨60, ⟨m, (P : Int) + 1, t, sp, r, ch⟩, f, -1⟩ : Sh) by rw [hw3]; exact HO.out.below (below_alloc (Below.refl _ _) _))
    have HPG := Aside0.mk (show Kd.string.R 9 w4 w.heap.size (shOk ks mb) (.slice (some ⟨w3.heap.size, 0, none⟩) 0 0) (pgs f 0) by rw [hw4]; exact R_noneS w3 w.heap.size HO3.out.size _ (HO3.out.ok (Nat.le_refl _)))
    replace HO := Aside0.mk (show Own ks mb w.heap.size w w4 (⟨60, ⟨m, (P : Int) + 1, t, sp, r, ch⟩, f, -1⟩ : Sh) by rw [hw4]; exact HO3.out.below (below_alloc (Below.refl _ _) _))
    have hws : w2.heap.size + 1 = w3.heap.size := by rw [hw3]; simp
    rw [hws, ← hg, ← hw3, ← hw4]
    clear hws hw4 hw3 hg HO3
    go_loopw [11, 12] (fun v i wr => ∃ j : Nat, j ≤ P ∧ i = .int .i64 ((j : Int) + 1) ∧ Aside0 (Own ks mb w.heap.size w wr (⟨60, ⟨m, (P : Int) + 1, t, sp, r, ch⟩, f, -1⟩ : Sh)) ∧ Aside0 (wr.heap[g]? = some (.cells #[.int .i64 m, .int .i64 ((P : Int) + 1), .int .i64 t, .int .i64 sp, .int .i64 r, .int .u64 ch] 35 (0, 0))) ∧ Aside0 (Kd.string.R 9 wr w.heap.size (shOk ks mb) v (pgs f j))) (fun _ i _ => P + 1 - (intOf i).toNat)
    case atStart => exact ⟨0, Nat.zero_le _, rfl, HO, HG, HPG⟩
    case round =>
      clear HO HG HPG
      obtain ⟨j, hj, rfl, HO, HG, HPG⟩ := hrel
      have a1 : wr.cell? ⟨g, 1, none⟩ = some (.int .i64 ((P : Int) + 1)) := (blk_cell HG.out 1).trans rfl
      obtain ⟨A, c, rfl⟩ := Kd.R_slice HPG.out
      by_cases hlt : j < P
      · have t1 : decide ((j : Int) + 1 < (P : Int) + 1) = true := decide_eq_true (by omega)
        have hgc := fun W hW => shGet_calls ks mb (⟨60, ⟨m, (P : Int) + 1, t, sp, r, ch⟩, f, -1⟩ : Sh) ((j : Int) + 1) W hW (show (-1 : Int) ≤ 0 by decide)
        rw [show (⟨60, ⟨m, (P : Int) + 1, t, sp, r, ch⟩, f, -1⟩ : Sh).get ((j : Int) + 1) = (readB f ((j : Int) + 1), 0) from get_in _ _ _ _ _ _ _ _ (by omega) (by omega)] at hgc
        have HGC := Aside0.mk hgc
        clear hgc
        obtain ⟨x, hx⟩ : ∃ x, x = readB f ((j : Int) + 1) := ⟨_, rfl⟩
        rw [← hx] at HGC
        have HRD := Aside0.mk hx
        obtain ⟨l, hl⟩ : ∃ l, l = pgs f j := ⟨_, rfl⟩
        have hll : l.length ≤ 60 := by rw [hl, pgs_length]; omega
        rw [← hl] at HPG
        have HL := Aside0.mk hl
        have hlr := pgs_length f j
        rw [← hl] at hlr ⊢
        clear hx hl hlr
        go_wp2_with fail
        refine (HGC.out _ HO.out.at_).mono ?_
        rintro e w5 ⟨rfl, hb⟩
        replace HO := Aside0.mk (HO.out.below hb)
        replace HG := Aside0.mk (blk_below HG.out hb)
        replace HPG := Aside0.mk (Kd.R_below HPG.out hb)
        clear hb HGC a1
        go_wp2_with (at_builtin; refine Kd.R_append Kd.string (W := w5) (w0 := w5) w.heap.size rfl (.tmp 81) (.tmp 83) 41 9 (.string ⟨#[]⟩) 16 rfl Try.underlying41 info9 rfl (by decide) (by decide) (.slice A l.length c) _ x [.string x] (shOk ks mb) (fun k' => some k' ≠ (Value.slice A l.length c).ownBlock ∧ shOk ks mb k') rfl (by show Value.slice (some ⟨w5.heap.size, 0, none⟩) 1 1 = _; simp) rfl (fun _ h => ⟨h.2, h.1⟩) (fun k' hk' => HO.out.ok hk') HPG.out (Below.refl _ _) HO.out.size (by omega) ?_; intro v7 w7 hR7 hB7 hG7 hat7; have HO7 := Aside0.mk (HO.out.grown hG7 (fun k' hk' => ⟨HPG.out.1 k' hk', Kd.R_base HPG.out k' hk'⟩)); have HP7 := Aside0.mk hR7; have HG7 := Aside0.mk (blk_grown HG.out hG7 (R_ne_blk HPG.out HG.out (by decide))); clear hR7 hB7 hG7 hat7 HO HPG HG; refine Shut.out ?_)
        unfold Shut
        rw [HL.out, HRD.out, ← pgs_succ] at HP7
        obtain ⟨A7, c7, rfl⟩ := Kd.R_slice HP7.out
        go_wp2
        go_roundw
        case rel => exact ⟨j + 1, by omega, by first | rfl | go_num, HO7, HG7, HP7⟩
        case measure => simp only [intOf]; omega
      · have hjP : P = j := by omega
        subst hjP
        have t1 : decide ((P : Int) + 1 < (P : Int) + 1) = false := by simp
        obtain ⟨l, hl⟩ : ∃ l, l = pgs f P := ⟨_, rfl⟩
        have hll : l.length = P := by rw [hl, pgs_length]
        rw [← hl] at HPG ⊢
        have HL := Aside0.mk hl
        have HLL := Aside0.mk hll
        have hlb : l.length ≤ 60 := by omega
        clear hl hlt hj hll HHC
        go_wp2_with fail
        refine (shArm_calls ks mb (⟨60, ⟨m, (P : Int) + 1, t, sp, r, ch⟩, f, -1⟩ : Sh) 1 wr HO.out.at_ (by decide) (by decide)).mono ?_
        rintro e w6 ⟨rfl, hs, hf⟩
        replace HPG := Aside0.mk (R_shFrS HPG.out hf)
        replace HG := Aside0.mk (hf.blk HG.out (HO.out.at_.not HG.out (by decide)))
        replace HO := Aside0.mk (show Own ks mb w.heap.size w w6 (⟨60, ⟨m, (P : Int) + 1, t, sp, r, ch⟩, f, 0⟩ : Sh) from HO.out.fr hs hf)
        clear hs hf a1
        go_upto_block 5 with fail
        go_cut [] (fun wc => Aside0 (Own ks mb w.heap.size w wc (⟨60, ⟨m, (P : Int) + 1, t, sp, r, ch⟩, f, 0⟩ : Sh)) ∧ Aside0 (wc.heap[g]? = some (.cells #[.int .i64 m, .int .i64 ((P : Int) + 1), .int .i64 t, .int .i64 sp, .int .i64 r, .int .u64 ch] 35 (0, 0))) ∧ Aside0 (Kd.string.R 9 wc w.heap.size (shOk ks mb) (.slice A l.length c) l))
        case rest =>
          clear HO HG HPG
          obtain ⟨HO, HG, HPG⟩ := hcut
          go_wp2_with fail
          refine (shArm_calls ks mb (⟨60, ⟨m, (P : Int) + 1, t, sp, r, ch⟩, f, 0⟩ : Sh) 0 wc HO.out.at_ (by decide) (by decide)).mono ?_
          rintro e w6 ⟨rfl, hs, hf⟩
          replace HPG := Aside0.mk (R_shFrS HPG.out hf)
          replace HG := Aside0.mk (hf.blk HG.out (HO.out.at_.not HG.out (by decide)))
          replace HO := Aside0.mk (show Own ks mb w.heap.size w w6 (⟨60, ⟨m, (P : Int) + 1, t, sp, r, ch⟩, f, -1⟩ : Sh) from HO.out.fr hs hf)
          clear hs hf
          go_wp2_with fail
          go_loopw [23] (fun i wr => ∃ j : Nat, j ≤ P ∧ i = .int .i64 ((j : Int) + 1) ∧ Aside0 (Own ks mb w.heap.size w wr (⟨60, ⟨m, (P : Int) + 1, t, sp, r, ch⟩, f, -1⟩ : Sh)) ∧ Aside0 (wr.heap[g]? = some (.cells #[.int .i64 m, .int .i64 ((P : Int) + 1), .int .i64 t, .int .i64 sp, .int .i64 r, .int .u64 ch] 35 (0, 0))) ∧ Aside0 (Kd.string.R 9 wr w.heap.size (shOk ks mb) (.slice A l.length c) l)) (fun i _ => P + 1 - (intOf i).toNat)
          case atStart => exact ⟨0, Nat.zero_le _, rfl, HO, HG, HPG⟩
          case round =>
            clear HO HG HPG
            obtain ⟨j, hj, rfl, HO, HG, HPG⟩ := hrel
            have a1 : wr.cell? ⟨g, 1, none⟩ = some (.int .i64 ((P : Int) + 1)) := (blk_cell HG.out 1).trans rfl
            by_cases hlt : j < P
            · have t1 : decide ((j : Int) + 1 < (P : Int) + 1) = true := decide_eq_true (by omega)
              have hgc := fun W hW => shGet_calls ks mb (⟨60, ⟨m, (P : Int) + 1, t, sp, r, ch⟩, f, -1⟩ : Sh) ((j : Int) + 1) W hW (show (-1 : Int) ≤ 0 by decide)
              rw [show (⟨60, ⟨m, (P : Int) + 1, t, sp, r, ch⟩, f, -1⟩ : Sh).get ((j : Int) + 1) = (readB f ((j : Int) + 1), 0) from get_in _ _ _ _ _ _ _ _ (by omega) (by omega)] at hgc
              obtain ⟨ad2, hA2, hy⟩ := Kd.at_string (Kd.R_reads' HPG.out).2.2 (j : Int) (by omega) (by have := HLL.out; omega)
              subst hA2
              rw [HL.out, pgs_at f P j hlt, Int.toNat_natCast] at hy
              obtain ⟨x, hx⟩ : ∃ x, x = readB f ((j : Int) + 1) := ⟨_, rfl⟩
              rw [← hx] at hgc hy
              have HGC := Aside0.mk hgc
              have hjl : j < l.length := by have := HLL.out; omega
              clear hgc hx
              go_wp2_with fail
              refine (HGC.out _ HO.out.at_).mono ?_
              rintro e w7 ⟨rfl, hb⟩
              replace hy := (hb.cell (World.block_lt_of_cell? wr _ hy)).trans hy
              replace HO := Aside0.mk (HO.out.below hb)
              replace HG := Aside0.mk (blk_below HG.out hb)
              replace HPG := Aside0.mk (Kd.R_below HPG.out hb)
              clear hb HGC a1
              go_wp2_with fail
              go_wp2
              go_roundw
              case rel => exact ⟨j + 1, by omega, by first | rfl | go_num, HO, HG, HPG⟩
              case measure => simp only [intOf]; omega
            · have hjP : P = j := by omega
              subst hjP
              have t1 : decide ((P : Int) + 1 < (P : Int) + 1) = false := by simp
              clear hlt hj hlb
              have HHC := Aside0.mk (fun W hW => shHead_calls ks mb (⟨60, ⟨m, (P : Int) + 1, t, sp, r, ch⟩, f, -1⟩ : Sh) W hW)
              go_wp2_with fail
              refine (nilNew_calls _).mono ?_
              rintro e w7 ⟨rfl, hb⟩
              replace HO := Aside0.mk (HO.out.below hb)
              replace HG := Aside0.mk (blk_below HG.out hb)
              clear hb a1
              go_wp2_with fail
              refine start_ (n := 21) (S := fun w' => w'.cell? ⟨g, 0, none⟩ = some (.int .i64 m) ∧ w'.cell? ⟨g, 1, none⟩ = some (.int .i64 ((P : Int) + 1)) ∧ w'.cell? ⟨g, 2, none⟩ = some (.int .i64 t) ∧ w'.cell? ⟨g, 3, none⟩ = some (.int .i64 sp) ∧ w'.cell? ⟨g, 4, none⟩ = some (.int .i64 r) ∧ w'.cell? ⟨g, 5, none⟩ = some (.int .u64 ch)) (ds := []) #[false, false, false, false, false, false, false, false, false, false, false, false, false, false, false, false, false, false, false, false, false] (by kernel_rfl) rfl rfl ⟨(blk_cell HG.out 0).trans rfl, (blk_cell HG.out 1).trans rfl, (blk_cell HG.out 2).trans rfl, (blk_cell HG.out 3).trans rfl, (blk_cell HG.out 4).trans rfl, (blk_cell HG.out 5).trans rfl⟩ (fun hHeld => ?_)
              have hb := (Below.refl w7.heap.size w7).drew
              replace HO := Aside0.mk (HO.out.below hb)
              replace HG := Aside0.mk (blk_below HG.out hb)
              clear hb
              generalize w7.drew = wy at HO HG hHeld ⊢
              refine pure_ (i := 0) (N := some 167) (v := ?_) (a' := ?_) #[true, false, false, false, false, false, false, false, false, false, false, false, false, false, false, false, false, false, false, false, false] rfl rfl (by kernel_rfl) (fun _ _ _ h => h) (Or.inl ⟨by rfl, ?_⟩) ?_ ?_
              rotate_left
              · intro w'
                go_simp
                with_reducible rfl
              rotate_left
              · simp only [Act.put, List.setIfInBounds_toArray, List.set_cons_zero, List.set_cons_succ]
                rfl
              refine take_ (i := 2) (N := some 169) (v := ?_) (a' := ?_) #[true, false, true, false, false, false, false, false, false, false, false, false, false, false, false, false, false, false, false, false, false] rfl rfl (by kernel_rfl) (fun _ _ _ h => h) (Or.inl ⟨by rfl, ?_⟩) hHeld ?_ ?_
              rotate_left
              · rintro w' ⟨s0, s1, s2, s3, s4, s5⟩
                go_simp
                with_reducible rfl
              rotate_left
              · simp only [Act.put, List.setIfInBounds_toArray, List.set_cons_zero, List.set_cons_succ]
                rfl
              refine one_ (i := 1) (N := some 168) #[true, true, true, false, false, false, false, false, false, false, false, false, false, false, false, false, false, false, false, false, false] rfl rfl (by kernel_rfl) (by decide) (fun K hK => ?_)
              refine call_ 32 #[.pointer (some ⟨ks, 0, none⟩)] (by rfl) rfl (by go_simp) ?_
              refine (HHC.out wy HO.out.at_).mono ?_
              rintro e w8 ⟨rfl, hb⟩
              refine ⟨.agg #[.int .i64 m, .int .i64 ((P : Int) + 1), .int .i64 t, .int .i64 sp, .int .i64 r, .int .u64 ch], rfl, ?_⟩
              replace HO := Aside0.mk (HO.out.below hb)
              replace HG := Aside0.mk (blk_below HG.out hb)
              clear hb
              refine hK.out _ _ ⟨(blk_cell HG.out 0).trans rfl, (blk_cell HG.out 1).trans rfl, (blk_cell HG.out 2).trans rfl, (blk_cell HG.out 3).trans rfl, (blk_cell HG.out 4).trans rfl, (blk_cell HG.out 5).trans rfl⟩ (fun hHeld => ?_)
              clear hK K
              refine norm_ (a' := ?_) ?_ ?_
              rotate_left
              · show Act.put _ (some 168) _ = _
                simp only [Act.put, List.setIfInBounds_toArray, List.set_cons_zero, List.set_cons_succ]
                rfl
              refine pure_ (i := 3) (N := some 170) (v := ?_) (a' := ?_) #[true, true, true, true, false, false, false, false, false, false, false, false, false, false, false, false, false, false, false, false, false] rfl rfl (by kernel_rfl) (fun _ _ _ h => h) (Or.inl ⟨by rfl, ?_⟩) ?_ ?_
              rotate_left
              · intro w'
                go_simp
                with_reducible rfl
              rotate_left
              · simp only [Act.put, List.setIfInBounds_toArray, List.set_cons_zero, List.set_cons_succ]
                rfl
              refine pure_ (i := 4) (N := some 171) (v := ?_) (a' := ?_) #[true, true, true, true, true, false, false, false, false, false, false, false, false, false, false, false, false, false, false, false, false] rfl rfl (by kernel_rfl) (fun _ _ _ h => h) (Or.inl ⟨by rfl, ?_⟩) ?_ ?_
              rotate_left
              · intro w'
                go_simp
                with_reducible rfl
              rotate_left
              · simp only [Act.put, List.setIfInBounds_toArray, List.set_cons_zero, List.set_cons_succ]
                rfl
              refine pure_ (i := 5) (N := some 172) (v := ?_) (a' := ?_) #[true, true, true, true, true, true, false, false, false, false, false, false, false, false, false, false, false, false, false, false, false] rfl rfl (by kernel_rfl) (fun _ _ _ h => h) (Or.inl ⟨by rfl, ?_⟩) ?_ ?_
              rotate_left
              · intro w'
                go_simp
                with_reducible rfl
              rotate_left
              · simp only [Act.put, List.setIfInBounds_toArray, List.set_cons_zero, List.set_cons_succ]
                rfl
              refine pure_ (i := 6) (N := some 173) (v := ?_) (a' := ?_) #[true, true, true, true, true, true, true, false, false, false, false, false, false, false, false, false, false, false, false, false, false] rfl rfl (by kernel_rfl) (fun _ _ _ h => h) (Or.inl ⟨by rfl, ?_⟩) ?_ ?_
              rotate_left
              · intro w'
                go_simp
                with_reducible rfl
              rotate_left
              · simp only [Act.put, List.setIfInBounds_toArray, List.set_cons_zero, List.set_cons_succ]
                rfl
              refine pure_ (i := 7) (N := some 174) (v := ?_) (a' := ?_) #[true, true, true, true, true, true, true, true, false, false, false, false, false, false, false, false, false, false, false, false, false] rfl rfl (by kernel_rfl) (fun _ _ _ h => h) (Or.inl ⟨by rfl, ?_⟩) ?_ ?_
              rotate_left
              · intro w'
                go_simp
                with_reducible rfl
              rotate_left
              · simp only [Act.put, List.setIfInBounds_toArray, List.set_cons_zero, List.set_cons_succ]
                rfl
              refine pure_ (i := 8) (N := some 175) (v := ?_) (a' := ?_) #[true, true, true, true, true, true, true, true, true, false, false, false, false, false, false, false, false, false, false, false, false] rfl rfl (by kernel_rfl) (fun _ _ _ h => h) (Or.inl ⟨by rfl, ?_⟩) ?_ ?_
              rotate_left
              · intro w'
                go_simp
                with_reducible rfl
              rotate_left
              · simp only [Act.put, List.setIfInBounds_toArray, List.set_cons_zero, List.set_cons_succ]
                rfl
              refine pure_ (i := 9) (N := some 176) (v := ?_) (a' := ?_) #[true, true, true, true, true, true, true, true, true, true, false, false, false, false, false, false, false, false, false, false, false] rfl rfl (by kernel_rfl) (fun _ _ _ h => h) (Or.inl ⟨by rfl, ?_⟩) ?_ ?_
              rotate_left
              · intro w'
                go_simp
                with_reducible rfl
              rotate_left
              · simp only [Act.put, List.setIfInBounds_toArray, List.set_cons_zero, List.set_cons_succ]
                rfl
              refine pure_ (i := 10) (N := some 177) (v := ?_) (a' := ?_) #[true, true, true, true, true, true, true, true, true, true, true, false, false, false, false, false, false, false, false, false, false] rfl rfl (by kernel_rfl) (fun _ _ _ h => h) (Or.inl ⟨by rfl, ?_⟩) ?_ ?_
              rotate_left
              · intro w'
                go_simp
                with_reducible rfl
              rotate_left
              · simp only [Act.put, List.setIfInBounds_toArray, List.set_cons_zero, List.set_cons_succ]
                rfl
              refine one_ (i := 11) (N := some 178) #[true, true, true, true, true, true, true, true, true, true, true, true, false, false, false, false, false, false, false, false, false] rfl rfl (by kernel_rfl) (by decide) (fun K hK => ?_)
              refine call_ 30 #[.pointer none, .int .i64 at_, .string ⟨#[]⟩] (by rfl) rfl (by go_simp) ?_
              refine (nilPut_calls at_ ⟨#[]⟩ w8).mono ?_
              rintro e w9 ⟨rfl, hb⟩
              refine ⟨.int .i64 2, rfl, ?_⟩
              replace HO := Aside0.mk (HO.out.below hb)
              replace HG := Aside0.mk (blk_below HG.out hb)
              clear hb
              refine hK.out _ _ ⟨(blk_cell HG.out 0).trans rfl, (blk_cell HG.out 1).trans rfl, (blk_cell HG.out 2).trans rfl, (blk_cell HG.out 3).trans rfl, (blk_cell HG.out 4).trans rfl, (blk_cell HG.out 5).trans rfl⟩ (fun hHeld => ?_)
              clear hK K
              refine norm_ (a' := ?_) ?_ ?_
              rotate_left
              · show Act.put _ (some 178) _ = _
                simp only [Act.put, List.setIfInBounds_toArray, List.set_cons_zero, List.set_cons_succ]
                rfl
              refine pure_ (i := 12) (N := some 179) (v := ?_) (a' := ?_) #[true, true, true, true, true, true, true, true, true, true, true, true, true, false, false, false, false, false, false, false, false] rfl rfl (by kernel_rfl) (fun _ _ _ h => h) (Or.inl ⟨by rfl, ?_⟩) ?_ ?_
              rotate_left
              · intro w'
                go_simp
                with_reducible rfl
              rotate_left
              · simp only [Act.put, List.setIfInBounds_toArray, List.set_cons_zero, List.set_cons_succ]
                rfl
              refine pure_ (i := 13) (N := some 180) (v := ?_) (a' := ?_) #[true, true, true, true, true, true, true, true, true, true, true, true, true, true, false, false, false, false, false, false, false] rfl rfl (by kernel_rfl) (fun _ _ _ h => h) (Or.inl ⟨by rfl, ?_⟩) ?_ ?_
              rotate_left
              · intro w'
                go_simp
                with_reducible rfl
              rotate_left
              · simp only [Act.put, List.setIfInBounds_toArray, List.set_cons_zero, List.set_cons_succ]
                rfl
              refine pure_ (i := 14) (N := some 181) (v := ?_) (a' := ?_) #[true, true, true, true, true, true, true, true, true, true, true, true, true, true, true, false, false, false, false, false, false] rfl rfl (by kernel_rfl) (fun _ _ _ h => h) (Or.inl ⟨by rfl, ?_⟩) ?_ ?_
              rotate_left
              · intro w'
                go_simp
                with_reducible rfl
              rotate_left
              · simp only [Act.put, List.setIfInBounds_toArray, List.set_cons_zero, List.set_cons_succ]
                rfl
              refine pure_ (i := 15) (N := some 182) (v := ?_) (a' := ?_) #[true, true, true, true, true, true, true, true, true, true, true, true, true, true, true, true, false, false, false, false, false] rfl rfl (by kernel_rfl) (fun _ _ _ h => h) (Or.inl ⟨by rfl, ?_⟩) ?_ ?_
              rotate_left
              · intro w'
                go_simp
                with_reducible rfl
              rotate_left
              · simp only [Act.put, List.setIfInBounds_toArray, List.set_cons_zero, List.set_cons_succ]
                rfl
              refine pure_ (i := 17) (N := some 184) (v := ?_) (a' := ?_) #[true, true, true, true, true, true, true, true, true, true, true, true, true, true, true, true, false, true, false, false, false] rfl rfl (by kernel_rfl) (fun _ _ _ h => h) (Or.inl ⟨by rfl, ?_⟩) ?_ ?_
              rotate_left
              · intro w'
                go_simp
                with_reducible rfl
              rotate_left
              · simp only [Act.put, List.setIfInBounds_toArray, List.set_cons_zero, List.set_cons_succ]
                rfl
              refine one_ (i := 16) (N := some 183) #[true, true, true, true, true, true, true, true, true, true, true, true, true, true, true, true, true, true, false, false, false] rfl rfl (by kernel_rfl) (by decide) (fun K hK => ?_)
              refine call_ 32 #[.pointer none] (by rfl) rfl (by go_simp) ?_
              refine (nilHead_calls w9).mono ?_
              rintro e w10 ⟨rfl, hb⟩
              refine ⟨.agg #[.int .i64 0, .int .i64 0, .int .i64 0, .int .i64 0, .int .i64 0, .int .u64 0], rfl, ?_⟩
              replace HO := Aside0.mk (HO.out.below hb)
              replace HG := Aside0.mk (blk_below HG.out hb)
              clear hb
              refine hK.out _ _ ⟨(blk_cell HG.out 0).trans rfl, (blk_cell HG.out 1).trans rfl, (blk_cell HG.out 2).trans rfl, (blk_cell HG.out 3).trans rfl, (blk_cell HG.out 4).trans rfl, (blk_cell HG.out 5).trans rfl⟩ (fun hHeld => ?_)
              clear hK K
              refine norm_ (a' := ?_) ?_ ?_
              rotate_left
              · show Act.put _ (some 183) _ = _
                simp only [Act.put, List.setIfInBounds_toArray, List.set_cons_zero, List.set_cons_succ]
                rfl
              refine pure_ (i := 18) (N := some 185) (v := ?_) (a' := ?_) #[true, true, true, true, true, true, true, true, true, true, true, true, true, true, true, true, true, true, true, false, false] rfl rfl (by kernel_rfl) (fun _ _ _ h => h) (Or.inl ⟨by rfl, ?_⟩) ?_ ?_
              rotate_left
              · intro w'
                go_simp
                with_reducible rfl
              rotate_left
              · simp only [Act.put, List.setIfInBounds_toArray, List.set_cons_zero, List.set_cons_succ]
                rfl
              refine pure_ (i := 19) (N := some 186) (v := ?_) (a' := ?_) #[true, true, true, true, true, true, true, true, true, true, true, true, true, true, true, true, true, true, true, true, false] rfl rfl (by kernel_rfl) (fun _ _ _ h => h) (Or.inl ⟨by rfl, ?_⟩) ?_ ?_
              rotate_left
              · intro w'
                go_simp
                with_reducible rfl
              rotate_left
              · simp only [Act.put, List.setIfInBounds_toArray, List.set_cons_zero, List.set_cons_succ]
                rfl
              refine pure_ (i := 20) (N := some 6) (v := ?_) (a' := ?_) #[true, true, true, true, true, true, true, true, true, true, true, true, true, true, true, true, true, true, true, true, true] rfl rfl (by kernel_rfl) (fun _ _ _ h => h) (Or.inl ⟨by rfl, ?_⟩) ?_ ?_
              rotate_left
              · intro w'
                go_simp
                with_reducible rfl
              rotate_left
              · simp only [Act.put, List.setIfInBounds_toArray, List.set_cons_zero, List.set_cons_succ]
                rfl
              refine done_ (by kernel_rfl) ?_
              go_wp2
              go_ret
              exact ⟨rfl, HO.out.base⟩
        have e11 : ∀ n, (⟨60, ⟨m, (P : Int) + 1, t, sp, r, ch⟩, f, 0⟩ : Sh).beg n = 11 := fun n => by unfold Sh.beg; rw [if_pos rfl]
        have g11 : ∀ n, (⟨60, ⟨m, (P : Int) + 1, t, sp, r, ch⟩, f, 0⟩ : Sh).get n = (⟨#[]⟩, 11) := fun n => by unfold Sh.get; rw [e11, if_pos (by decide)]
        have p11 : ∀ n d, (⟨60, ⟨m, (P : Int) + 1, t, sp, r, ch⟩, f, 0⟩ : Sh).put n d = ((⟨60, ⟨m, (P : Int) + 1, t, sp, r, ch⟩, f, 0⟩ : Sh), 11) := fun n d => by unfold Sh.put; rw [e11, if_pos (by decide)]
        have n11 : (⟨60, ⟨m, (P : Int) + 1, t, sp, r, ch⟩, f, 0⟩ : Sh).new mb = ((⟨60, ⟨m, (P : Int) + 1, t, sp, r, ch⟩, f, 0⟩ : Sh), 0, 11) := by unfold Sh.new; rw [if_pos rfl]
        have f11 : ∀ n, (⟨60, ⟨m, (P : Int) + 1, t, sp, r, ch⟩, f, 0⟩ : Sh).free mb n = ((⟨60, ⟨m, (P : Int) + 1, t, sp, r, ch⟩, f, 0⟩ : Sh), 11) := fun n => by unfold Sh.free; rw [e11, if_pos (by decide)]
        have hbd : (⟨60, ⟨m, (P : Int) + 1, t, sp, r, ch⟩, f, 0⟩ : Sh).bd := HUS.out.bd
        have c31 := fun n W hW => shGet_calls ks mb (⟨60, ⟨m, (P : Int) + 1, t, sp, r, ch⟩, f, 0⟩ : Sh) n W hW (Int.le_refl 0)
        have c30 := fun n d W hW => shPut_calls ks mb (⟨60, ⟨m, (P : Int) + 1, t, sp, r, ch⟩, f, 0⟩ : Sh) n d W hW (Int.le_refl 0)
        have c27 := fun W hW => shNew_calls ks mb (⟨60, ⟨m, (P : Int) + 1, t, sp, r, ch⟩, f, 0⟩ : Sh) W hW (Int.le_refl 0) hbd
        have c29 := fun n W hW => shFree_calls ks mb (⟨60, ⟨m, (P : Int) + 1, t, sp, r, ch⟩, f, 0⟩ : Sh) n W hW (Int.le_refl 0) hbd
        simp only [g11] at c31
        simp only [p11] at c30
        rw [n11] at c27
        simp only [f11] at c29
        have C31 := Aside0.mk c31
        have C30 := Aside0.mk c30
        have C27 := Aside0.mk c27
        have C29 := Aside0.mk c29
        clear e11 g11 p11 n11 f11 hbd c31 c30 c27 c29
        obtain ⟨C, hC⟩ : ∃ C, C = min tl.length 150 := ⟨_, rfl⟩
        go_wp2_with fail
        go_loopw [15] (fun i wr => ∃ (j : Nat), j ≤ C ∧ j ≤ 150 ∧ i = .int .i64 j ∧ Aside0 (Own ks mb w.heap.size w wr (⟨60, ⟨m, (P : Int) + 1, t, sp, r, ch⟩, f, 0⟩ : Sh)) ∧ Aside0 (wr.heap[g]? = some (.cells #[.int .i64 m, .int .i64 ((P : Int) + 1), .int .i64 t, .int .i64 sp, .int .i64 r, .int .u64 ch] 35 (0, 0))) ∧ Aside0 (Kd.string.R 9 wr w.heap.size (shOk ks mb) (.slice A l.length c) l)) (fun i _ => C - (intOf i).toNat)
        case atStart => exact ⟨0, Nat.zero_le _, Nat.zero_le _, rfl, HO, HG, HPG⟩
        case round =>
          clear HO HG HPG
          obtain ⟨j, hj, hj2, rfl, HO, HG, HPG⟩ := hrel
          by_cases hlt : j < C
          · have hja : j < tl.length := by omega
            have t1 : decide ((j : Int) < (tl.length : Int)) = true := decide_eq_true (by omega)
            have t2 : decide ((j : Int) < 150) = true := decide_eq_true (by omega)
            obtain ⟨ad, hA, hx0, hx1, hx2, hx3⟩ := act_at (Kd.C_below HTL.out HO.out.base) j hja
            subst hA
            have hj1 : j + 1 ≤ C := by omega
            have hj3 : j < 150 := by omega
            clear hj hj2 hC hlt
            obtain ⟨⟨kd, n, d, b⟩, hxd⟩ : ∃ x : Act4, x = tl.getD j act0 := ⟨_, rfl⟩
            rw [← hxd] at hx0 hx1 hx2 hx3
            dsimp only at hx0 hx1 hx2 hx3
            clear hxd
            obtain ⟨gx, hgx⟩ : ∃ gx, gx = wr.heap.size := ⟨_, rfl⟩
            obtain ⟨wx, hwx⟩ : ∃ wx, wx = wr.alloc (.cells #[.int .i64 kd, .int .i64 n, .string d, .bool b] 74) := ⟨_, rfl⟩
            have HGX := Aside0.mk (show wx.heap[gx]? = some (.cells #[.int .i64 kd, .int .i64 n, .string d, .bool b] 74 (0, 0)) by rw [hwx, hgx]; exact blk_new wr _)
            have hba : Below wr.heap.size wr wx := by rw [hwx]; exact below_alloc (Below.refl _ _) _
            replace HG := Aside0.mk (blk_below HG.out hba)
            replace HPG := Aside0.mk (Kd.R_below HPG.out hba)
            have HOX := Aside0.mk (HO.out.below hba)
            clear hba
            go_wp2_with fail
            rw [← hwx]
            replace HO := HOX
            clear HOX hx0 hx1 hx2 hx3
            refine (C31.out n wx HO.out.at_).mono ?_
            rintro e w6x ⟨rfl, hb⟩
            replace HO := Aside0.mk (HO.out.below hb)
            replace HG := Aside0.mk (blk_below HG.out hb)
            replace HPG := Aside0.mk (Kd.R_below HPG.out hb)
            replace HGX := Aside0.mk (blk_below HGX.out hb)
            clear hb
            have x0 : w6x.cell? ⟨gx, 0, none⟩ = some (.int .i64 kd) := (blk_cell HGX.out 0).trans rfl
            have x1 : w6x.cell? ⟨gx, 1, none⟩ = some (.int .i64 n) := (blk_cell HGX.out 1).trans rfl
            have x2 : w6x.cell? ⟨gx, 2, none⟩ = some (.string d) := (blk_cell HGX.out 2).trans rfl
            have x3 : w6x.cell? ⟨gx, 3, none⟩ = some (.bool b) := (blk_cell HGX.out 3).trans rfl
            rw [← hgx]
            clear hgx hwx
            go_wp2_with fail
            clear x0 x1 x2 x3
            refine start_ (n := 7) (S := fun w' => w'.cell? ⟨gx, 0, none⟩ = some (.int .i64 kd) ∧ w'.cell? ⟨gx, 1, none⟩ = some (.int .i64 n) ∧ w'.cell? ⟨gx, 2, none⟩ = some (.string d) ∧ w'.cell? ⟨gx, 3, none⟩ = some (.bool b)) (ds := []) #[false, false, false, false, false, false, false] (by kernel_rfl) rfl rfl ⟨(blk_cell HGX.out 0).trans rfl, (blk_cell HGX.out 1).trans rfl, (blk_cell HGX.out 2).trans rfl, (blk_cell HGX.out 3).trans rfl⟩ (fun hHeld => ?_)
            have hb := (Below.refl w6x.heap.size w6x).drew
            replace HO := Aside0.mk (HO.out.below hb)
            replace HG := Aside0.mk (blk_below HG.out hb)
            replace HPG := Aside0.mk (Kd.R_below HPG.out hb)
            replace HGX := Aside0.mk (blk_below HGX.out hb)
            clear hb
            generalize w6x.drew = wy at HO HG HPG HGX hHeld ⊢
            refine pure_ (i := 0) (N := some 108) (v := ?_) (a' := ?_) #[true, false, false, false, false, false, false] rfl rfl (by kernel_rfl) (fun _ _ _ h => h) (Or.inl ⟨by rfl, ?_⟩) ?_ ?_
            rotate_left
            · intro w'
              go_simp
              with_reducible rfl
            rotate_left
            · simp only [Act.put, List.setIfInBounds_toArray, List.set_cons_zero, List.set_cons_succ]
              rfl
            refine pure_ (i := 1) (N := some 109) (v := ?_) (a' := ?_) #[true, true, false, false, false, false, false] rfl rfl (by kernel_rfl) (fun _ _ _ h => h) (Or.inl ⟨by rfl, ?_⟩) ?_ ?_
            rotate_left
            · intro w'
              go_simp
              with_reducible rfl
            rotate_left
            · simp only [Act.put, List.setIfInBounds_toArray, List.set_cons_zero, List.set_cons_succ]
              rfl
            refine take_ (i := 2) (N := some 110) (v := ?_) (a' := ?_) #[true, true, true, false, false, false, false] rfl rfl (by kernel_rfl) (fun _ _ _ h => h) (Or.inl ⟨by rfl, ?_⟩) hHeld ?_ ?_
            rotate_left
            · rintro w' ⟨s0, s1, s2, s3⟩
              go_simp
              with_reducible rfl
            rotate_left
            · simp only [Act.put, List.setIfInBounds_toArray, List.set_cons_zero, List.set_cons_succ]
              rfl
            refine take_ (i := 3) (N := some 111) (v := ?_) (a' := ?_) #[true, true, true, true, false, false, false] rfl rfl (by kernel_rfl) (fun _ _ _ h => h) (Or.inl ⟨by rfl, ?_⟩) hHeld ?_ ?_
            rotate_left
            · rintro w' ⟨s0, s1, s2, s3⟩
              go_simp
              with_reducible rfl
            rotate_left
            · simp only [Act.put, List.setIfInBounds_toArray, List.set_cons_zero, List.set_cons_succ]
              rfl
            refine one_ (i := 4) (N := some 112) #[true, true, true, true, true, false, false] rfl rfl (by kernel_rfl) (by decide) (fun K hK => ?_)
            refine call_ 33 #[.agg #[.int .i64 kd, .int .i64 n, .string d, .bool b]] (by rfl) rfl (by go_simp) ?_
            refine (data_calls kd n d b wy).mono ?_
            rintro e w7 ⟨rfl, hb⟩
            refine ⟨.string (actData d b), rfl, ?_⟩
            replace HO := Aside0.mk (HO.out.below hb)
            replace HG := Aside0.mk (blk_below HG.out hb)
            replace HPG := Aside0.mk (Kd.R_below HPG.out hb)
            replace HGX := Aside0.mk (blk_below HGX.out hb)
            clear hb
            refine hK.out _ _ ⟨(blk_cell HGX.out 0).trans rfl, (blk_cell HGX.out 1).trans rfl, (blk_cell HGX.out 2).trans rfl, (blk_cell HGX.out 3).trans rfl⟩ (fun hHeld => ?_)
            clear hK K
            refine norm_ (a' := ?_) ?_ ?_
            rotate_left
            · show Act.put _ (some 112) _ = _
              simp only [Act.put, List.setIfInBounds_toArray, List.set_cons_zero, List.set_cons_succ]
              rfl
            refine one_ (i := 5) (N := some 113) #[true, true, true, true, true, true, false] rfl rfl (by kernel_rfl) (by decide) (fun K hK => ?_)
            refine call_ 30 #[.pointer (some ⟨ks, 0, none⟩), .int .i64 n, .string (actData d b)] (by rfl) rfl (by go_simp) ?_
            refine (C30.out n (actData d b) w7 HO.out.at_).mono ?_
            rintro e w8 ⟨rfl, hs, hf⟩
            refine ⟨.int .i64 11, rfl, ?_⟩
            replace HPG := Aside0.mk (R_shFrS HPG.out hf)
            replace HG := Aside0.mk (hf.blk HG.out (HO.out.at_.not HG.out (by decide)))
            replace HGX := Aside0.mk (hf.blk HGX.out (HO.out.at_.not HGX.out (by decide)))
            replace HO := Aside0.mk (HO.out.fr hs hf)
            clear hs hf
            refine hK.out _ _ ⟨(blk_cell HGX.out 0).trans rfl, (blk_cell HGX.out 1).trans rfl, (blk_cell HGX.out 2).trans rfl, (blk_cell HGX.out 3).trans rfl⟩ (fun hHeld => ?_)
            clear hK K
            refine norm_ (a' := ?_) ?_ ?_
            rotate_left
            · show Act.put _ (some 113) _ = _
              simp only [Act.put, List.setIfInBounds_toArray, List.set_cons_zero, List.set_cons_succ]
              rfl
            refine pure_ (i := 6) (N := some 19) (v := ?_) (a' := ?_) #[true, true, true, true, true, true, true] rfl rfl (by kernel_rfl) (fun _ _ _ h => h) (Or.inl ⟨by rfl, ?_⟩) ?_ ?_
            rotate_left
            · intro w'
              go_simp
              with_reducible rfl
            rotate_left
            · simp only [Act.put, List.setIfInBounds_toArray, List.set_cons_zero, List.set_cons_succ]
              rfl
            refine done_ (by kernel_rfl) ?_
            clear hHeld
            go_wp2_with fail
            refine (C27.out _ HO.out.at_).mono ?_
            rintro e w9 ⟨rfl, hs, hf⟩
            replace HPG := Aside0.mk (R_shFrS HPG.out hf)
            replace HG := Aside0.mk (hf.blk HG.out (HO.out.at_.not HG.out (by decide)))
            replace HGX := Aside0.mk (hf.blk HGX.out (HO.out.at_.not HGX.out (by decide)))
            replace HO := Aside0.mk (HO.out.fr hs hf)
            clear hs hf
            have x0 : w9.cell? ⟨gx, 0, none⟩ = some (.int .i64 kd) := (blk_cell HGX.out 0).trans rfl
            have x1 : w9.cell? ⟨gx, 1, none⟩ = some (.int .i64 n) := (blk_cell HGX.out 1).trans rfl
            have x2 : w9.cell? ⟨gx, 2, none⟩ = some (.string d) := (blk_cell HGX.out 2).trans rfl
            have x3 : w9.cell? ⟨gx, 3, none⟩ = some (.bool b) := (blk_cell HGX.out 3).trans rfl
            go_wp2_with fail
            refine (C29.out n _ HO.out.at_).mono ?_
            rintro e w10 ⟨rfl, hs, hf⟩
            clear x0 x1 x2 x3
            replace HPG := Aside0.mk (R_shFrS HPG.out hf)
            replace HG := Aside0.mk (hf.blk HG.out (HO.out.at_.not HG.out (by decide)))
            replace HGX := Aside0.mk (hf.blk HGX.out (HO.out.at_.not HGX.out (by decide)))
            replace HO := Aside0.mk (HO.out.fr hs hf)
            clear hs hf
            go_wp2
            go_roundw
            case rel => exact ⟨j + 1, by omega, by omega, by go_num, HO, HG, HPG⟩
            case measure => simp only [intOf]; omega
          · have hkc : tl.length ≤ j ∨ (j < tl.length ∧ 150 ≤ j) := by omega
            clear hC hlt
            rcases hkc with hkc | hkc
            · have t1 : decide ((j : Int) < (tl.length : Int)) = false := decide_eq_false (by omega)
              go_wp2
              go_meet
              case rel => exact ⟨HO, HG, HPG⟩
            · have t1 : decide ((j : Int) < (tl.length : Int)) = true := decide_eq_true (by omega)
              have t2 : decide ((j : Int) < 150) = false := decide_eq_false (by omega)
              go_wp2
              go_meet
              case rel => exact ⟨HO, HG, HPG⟩
  obtain ⟨C, hC⟩ : ∃ C, C = min al.length 150 := ⟨_, rfl⟩
  go_wp2_with fail
  go_loopw [8] (fun i wr => ∃ (j : Nat) (s : Sh), j ≤ C ∧ j ≤ 150 ∧ i = .int .i64 j ∧ Aside0 (Own ks mb w.heap.size w wr s) ∧ Aside0 (Used s)) (fun i _ => C - (intOf i).toNat)
  case atStart => exact ⟨0, _, Nat.zero_le _, Nat.zero_le _, rfl, HO, HUS⟩
  case round =>
    clear HO HUS
    obtain ⟨j, s, hj, hj2, rfl, HO, HUS⟩ := hrel
    by_cases hlt : j < C
    · have hja : j < al.length := by omega
      have t1 : decide ((j : Int) < (al.length : Int)) = true := decide_eq_true (by omega)
      have t2 : decide ((j : Int) < 150) = true := decide_eq_true (by omega)
      obtain ⟨ad, hA, hx0, hx1, hx2, hx3⟩ := act_at (Kd.C_below HAL.out HO.out.base) j hja
      subst hA
      have hj1 : j + 1 ≤ C := by omega
      have hj3 : j < 150 := by omega
      clear hj hj2 hC hlt
      obtain ⟨⟨kd, n, d, b⟩, hxd⟩ : ∃ x : Act4, x = al.getD j act0 := ⟨_, rfl⟩
      rw [← hxd] at hx0 hx1 hx2 hx3
      dsimp only at hx0 hx1 hx2 hx3
      clear hxd
      obtain ⟨g, hg⟩ : ∃ g, g = wr.heap.size := ⟨_, rfl⟩
      obtain ⟨wx, hwx⟩ : ∃ wx, wx = wr.alloc (.cells #[.int .i64 kd, .int .i64 n, .string d, .bool b] 74) := ⟨_, rfl⟩
      have HG := Aside0.mk (show wx.heap[g]? = some (.cells #[.int .i64 kd, .int .i64 n, .string d, .bool b] 74 (0, 0)) by rw [hwx, hg]; exact blk_new wr _)
      have HOX := Aside0.mk (show Own ks mb w.heap.size w wx s by rw [hwx]; exact HO.out.below (below_alloc (Below.refl _ _) _))
      by_cases k2 : kd = 2
      · have q2 : (kd == 2) = true := by simp [k2]
        clear k2
        go_wp2_with fail
        rw [← hwx, ← hg]
        replace HO := HOX
        clear hwx hg HOX hx0 hx1 hx2 hx3
        refine start_ (n := 6) (S := fun w' => w'.cell? ⟨g, 0, none⟩ = some (.int .i64 kd) ∧ w'.cell? ⟨g, 1, none⟩ = some (.int .i64 n) ∧ w'.cell? ⟨g, 2, none⟩ = some (.string d) ∧ w'.cell? ⟨g, 3, none⟩ = some (.bool b)) (ds := [5]) #[false, false, false, false, false, false] (by kernel_rfl) rfl rfl ⟨(blk_cell HG.out 0).trans rfl, (blk_cell HG.out 1).trans rfl, (blk_cell HG.out 2).trans rfl, (blk_cell HG.out 3).trans rfl⟩ (fun hHeld => ?_)
        replace HO := Aside0.mk (HO.out.below (Below.refl _ _).drew)
        replace HG := Aside0.mk (blk_drew HG.out)
        generalize wx.drew = wy at HO HG hHeld ⊢
        refine pure_ (i := 0) (N := some 50) (v := ?_) (a' := ?_) #[true, false, false, false, false, false] rfl rfl (by kernel_rfl) (fun _ _ _ h => h) (Or.inl ⟨by rfl, ?_⟩) ?_ ?_
        rotate_left
        · intro w'
          go_simp
          with_reducible rfl
        rotate_left
        · simp only [Act.put, List.setIfInBounds_toArray, List.set_cons_zero, List.set_cons_succ]
          rfl
        refine pure_ (i := 1) (N := some 51) (v := ?_) (a' := ?_) #[true, true, false, false, false, false] rfl rfl (by kernel_rfl) (fun _ _ _ h => h) (Or.inl ⟨by rfl, ?_⟩) ?_ ?_
        rotate_left
        · intro w'
          go_simp
          with_reducible rfl
        rotate_left
        · simp only [Act.put, List.setIfInBounds_toArray, List.set_cons_zero, List.set_cons_succ]
          rfl
        refine take_ (i := 2) (N := some 52) (v := ?_) (a' := ?_) #[true, true, true, false, false, false] rfl rfl (by kernel_rfl) (fun _ _ _ h => h) (Or.inl ⟨by rfl, ?_⟩) hHeld ?_ ?_
        rotate_left
        · rintro w' ⟨s0, s1, s2, s3⟩
          go_simp
          with_reducible rfl
        rotate_left
        · simp only [Act.put, List.setIfInBounds_toArray, List.set_cons_zero, List.set_cons_succ]
          rfl
        refine take_ (i := 3) (N := some 53) (v := ?_) (a' := ?_) #[true, true, true, true, false, false] rfl rfl (by kernel_rfl) (fun _ _ _ h => h) (Or.inl ⟨by rfl, ?_⟩) hHeld ?_ ?_
        rotate_left
        · rintro w' ⟨s0, s1, s2, s3⟩
          go_simp
          with_reducible rfl
        rotate_left
        · simp only [Act.put, List.setIfInBounds_toArray, List.set_cons_zero, List.set_cons_succ]
          rfl
        refine one_ (i := 4) (N := some 54) #[true, true, true, true, true, false] rfl rfl (by kernel_rfl) (by decide) (fun K hK => ?_)
        refine call_ 33 #[.agg #[.int .i64 kd, .int .i64 n, .string d, .bool b]] (by rfl) rfl (by go_simp) ?_
        refine (data_calls kd n d b wy).mono ?_
        rintro e w3 ⟨rfl, hb⟩
        refine ⟨.string (actData d b), rfl, ?_⟩
        replace HO := Aside0.mk (HO.out.below hb)
        replace HG := Aside0.mk (blk_below HG.out hb)
        clear hb
        refine hK.out _ _ ⟨(blk_cell HG.out 0).trans rfl, (blk_cell HG.out 1).trans rfl, (blk_cell HG.out 2).trans rfl, (blk_cell HG.out 3).trans rfl⟩ (fun hHeld => ?_)
        clear hK K
        refine norm_ (a' := ?_) ?_ ?_
        rotate_left
        · show Act.put _ (some 54) _ = _
          simp only [Act.put, List.setIfInBounds_toArray, List.set_cons_zero, List.set_cons_succ]
          rfl
        refine last_ (i := 5) (N := some 55) #[true, true, true, true, true, true] rfl rfl (by kernel_rfl) (by decide) (fun K hK => ?_)
        refine call_ 30 #[.pointer (some ⟨ks, 0, none⟩), .int .i64 n, .string (actData d b)] (by rfl) rfl (by go_simp) ?_
        refine (shPut_calls ks mb s n (actData d b) w3 HO.out.at_ (by rw [HUS.out.2.1]; decide)).mono ?_
        rintro e w4 ⟨rfl, hs, hf⟩
        refine ⟨.int .i64 (s.put n (actData d b)).2, rfl, ?_⟩
        replace HO := Aside0.mk (HO.out.fr hs hf)
        replace HUS := Aside0.mk (HUS.out.put n (actData d b))
        clear hs hf
        refine hK.out _ _ ?_
        clear hK K hHeld
        refine norm_ (a' := ?_) ?_ ?_
        rotate_left
        · show Act.put _ (some 55) _ = _
          simp only [Act.put, List.setIfInBounds_toArray, List.set_cons_zero, List.set_cons_succ]
          rfl
        refine done_ (by kernel_rfl) ?_
        go_wp2
        go_roundw
        case rel => exact ⟨j + 1, _, by omega, by omega, by go_num, HO, HUS⟩
        case measure => simp only [intOf]; omega
      · have q2 : (kd == 2) = false := by simp [k2]
        clear k2
        by_cases k3 : kd = 3
        · have q3 : (kd == 3) = true := by simp [k3]
          clear k3
          go_wp2_with fail
          rw [← hwx]
          replace HO := HOX
          clear hwx hg HOX HG hx0 hx1 hx2 hx3
          refine (shNew_calls ks mb s wx HO.out.at_ (by rw [HUS.out.2.1]; decide) HUS.out.bd).mono ?_
          rintro e w3 ⟨rfl, hs, hf⟩
          replace HO := Aside0.mk (HO.out.fr hs hf)
          replace HUS := Aside0.mk (HUS.out.new mb)
          clear hs hf
          go_wp2
          go_roundw
          case rel => exact ⟨j + 1, _, by omega, by omega, by go_num, HO, HUS⟩
          case measure => simp only [intOf]; omega
        · have q3 : (kd == 3) = false := by simp [k3]
          clear k3
          by_cases k4 : kd = 4
          · have q4 : (kd == 4) = true := by simp [k4]
            clear k4
            go_wp2_with fail
            rw [← hwx]
            replace HO := HOX
            clear hwx hg HOX HG hx0 hx1 hx2 hx3
            refine (shFree_calls ks mb s n wx HO.out.at_ (by rw [HUS.out.2.1]; decide) HUS.out.bd).mono ?_
            rintro e w3 ⟨rfl, hs, hf⟩
            replace HO := Aside0.mk (HO.out.fr hs hf)
            replace HUS := Aside0.mk (HUS.out.free mb n)
            clear hs hf
            go_wp2
            go_roundw
            case rel => exact ⟨j + 1, _, by omega, by omega, by go_num, HO, HUS⟩
            case measure => simp only [intOf]; omega
          · have q4 : (kd == 4) = false := by simp [k4]
            clear k4
            go_wp2
            go_roundw
            case rel => exact ⟨j + 1, s, by omega, by omega, by go_num, ⟨by rw [← hwx]; exact HOX.out⟩, HUS⟩
            case measure => simp only [intOf]; omega
    · have hkc : al.length ≤ j ∨ (j < al.length ∧ 150 ≤ j) := by omega
      clear hC hlt
      rcases hkc with hkc | hkc
      · have t1 : decide ((j : Int) < (al.length : Int)) = false := decide_eq_false (by omega)
        go_wp2
        go_meet
        case rel => exact ⟨s, HO, HUS⟩
      · have t1 : decide ((j : Int) < (al.length : Int)) = true := decide_eq_true (by omega)
        have t2 : decide ((j : Int) < 150) = false := decide_eq_false (by omega)
        go_wp2
        go_meet
        case rel => exact ⟨s, HO, HUS⟩
end Go.Proofs.Ytonbipaajhokfaa
