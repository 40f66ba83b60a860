/-
  Walk: SpareExact.
-/
import Derived.Test.YtonbipaajhokfaaG6
import Derived.StillTailTactics
import Derived.Deep.CutBlock
import Derived.Deep.DeepCutAuto
set_option linter.unusedVariables false
set_option linter.unusedSimpArgs false
namespace Go.Proofs.Ytonbipaajhokfaa
open Go.RowKit Go.Proofs.YtonbipaajhokfaaW.PrintWords Go.Proofs.YtonbipaajhokfaaW.PrintLast Go.Proofs.YtonbipaajhokfaaW.PrintMore

theorem pages_at {w : World} {A : Option Addr} {n : Nat} {pl : List (Int × ByteArray)} (h : (Kd.pair (Kd.int .i64) Kd.string).C w A n pl) (k : Nat) (hk : k < n) :
    ∃ ad, A = some ad ∧ w.cell? (ad.add (k * 2)) = some (.int .i64 (pl.getD k (0, ByteArray.empty)).1) ∧ w.cell? ⟨(ad.add (k * 2)).block, (ad.add (k * 2)).off + 1, none⟩ = some (.string (pl.getD k (0, ByteArray.empty)).2) := by
  obtain ⟨ad, c, h1, h2, h3, h4⟩ := Kd.C_get h (0, ByteArray.empty) (k : Int) (by omega) (by omega)
  obtain ⟨c0, c1, rfl, h5, h6⟩ := h3
  rw [Int.toNat_natCast] at h4 h5 h6
  have e0 : c0 = [.int .i64 (pl.getD k (0, ByteArray.empty)).1] := h5
  have e1 : c1 = [.string (pl.getD k (0, ByteArray.empty)).2] := h6
  subst e0 e1
  have h7 := h4 1 _ rfl
  rw [add_field _ _ _ (by decide)] at h7
  exact ⟨ad, h1, h4 0 _ rfl, h7⟩
section
variable {kd kb kr B g : Nat} {w0 w w' : World} {s : Desk} {N : List Int} {D : List ByteArray} {hd : Hd} {F G : Nat → Prop}
theorem Two.putd {n : Int} {d : ByteArray} (h : Two kd kb kr B g w0 w s N D hd F G) (hg : BookAt w' (Fnew (fun k => F k ∧ k ≠ kd) w w') kb (putN s.N n) (putD s.N s.D n d)) (hr : Fr (fun k => F k ∧ k ≠ kd) w w') :
    ∃ F2, Two kd kb kr B g w0 w' ⟨putN s.N n, putD s.N s.D n d, s.left⟩ N D hd F2 G := by
  obtain ⟨h1, h2, h3, h4⟩ := h.hold
  have hd := h.hold.desk
  have hb := S_bound h.hold
  have hk := blk_lt hd.2
  refine ⟨fun k => F k ∨ (w.heap.size ≤ k ∧ k < w'.heap.size), h.past (F' := fun k => F k ∨ (w.heap.size ≤ k ∧ k < w'.heap.size)) ⟨⟨Or.inl hd.1, hr.blk hd.2 (fun hh => hh.2 rfl), ?_⟩, fun k hk => by rcases hk with h5 | h5; exact h2 k h5; omega, h3.trans (hr.below (fun k hk => h2 k hk.1) h4), Nat.le_trans h4 hr.size⟩ ⟨hr.size, fun k hk hn => ⟨fun hf => by rcases hf with h5 | h5; exact hn h5; omega, hr.block k hk (fun hf => hn hf.1)⟩⟩⟩
  exact hg.mono (fun k hk => by
    rcases hk with h5 | h5
    · exact ⟨Or.inl h5.1, h5.2⟩
    · exact ⟨Or.inr h5, by omega⟩) (fun k hk => by
    rcases hk.1 with h5 | h5
    · exact Nat.lt_of_lt_of_le (hb k h5) hr.size
    · exact h5.2)
theorem Two.putb {n : Int} {d : ByteArray} (h : Two kd kb kr B g w0 w s N D hd F G) (hg : BookAt w' (Fnew G w w') kr (putN N n) (putD N D n d)) (hr : Fr G w w') :
    ∃ G2, Two kd kb kr B g w0 w' s (putN N n) (putD N D n d) hd F G2 := by
  obtain ⟨G2, h1, -⟩ := h.goes (N' := putN N n) (D' := putD N D n d) ⟨_, hg, fun k hk => hk.imp id And.left, hr⟩
  exact ⟨G2, h1⟩
end
theorem DeskOk.put {kd kb k : Nat} {s : Desk} (h : DeskOk kd kb (k + 1) s) (n : Int) (d : ByteArray) : DeskOk kd kb k ⟨putN s.N n, putD s.N s.D n d, s.left⟩ := by
  obtain ⟨⟨h1, h2, h3⟩, h4, h5⟩ := h
  obtain ⟨h6, h7⟩ := put_length h1 n d
  exact ⟨⟨h6, by show (putN s.N n).length + k ≤ _; omega, by show s.left < 0 ∧ _ ∨ _; simp only; omega⟩, putN_nodup h4, h5⟩
theorem Two.far6 {kd kb kr B g : Nat} {w0 w : World} {s : Desk} {N : List Int} {D : List ByteArray} {hd : Hd} {F G : Nat → Prop} (h : Two kd kb kr B g w0 w s N D hd F G) {q : Nat} (hf : ¬ F q) (hg : ¬ G q) (hq : g ≠ q) (hB : B ≤ q) (y0 y1 y2 y3 y4 y5 : Value) :
    Two kd kb kr B g w0 ((((((w.setCell ⟨q, 0, none⟩ y0).setCell ⟨q, 1, none⟩ y1).setCell ⟨q, 2, none⟩ y2).setCell ⟨q, 3, none⟩ y3).setCell ⟨q, 4, none⟩ y4).setCell ⟨q, 5, none⟩ y5) s N D hd F G :=
  ⟨h.hold.set6 hf hB _ _ _ _ _ _, bk6 h.book hg _ _ _ _ _ _, h.apart, h.gB, h.nF, h.nG, h.hB, Go.Proofs.Ytonbipaajhokfaa.far6 h.head hq _ _ _ _ _ _⟩
theorem acts_at {w w' : World} {ad : Addr} {n : Nat} {u : List Int} (h : (Kd.int .i64).C w (some ad) n u) (hb : Below w.heap.size w w') (k : Nat) (hk : k < n) : w'.cell? (ad.add k) = some (.int .i64 (rd u (k : Int))) := by
  obtain ⟨ad', e, hx⟩ := Kd.at_int (Kd.C_below h hb) (k : Int) (by omega) (by omega)
  cases e
  rwa [Int.toNat_natCast] at hx
theorem DeskOk.le {kd kb k k' : Nat} {s : Desk} (h : DeskOk kd kb k s) (hk : k' ≤ k) : DeskOk kd kb k' s := by
  obtain ⟨d, rfl⟩ := Nat.exists_eq_add_of_le hk
  induction d with
  | zero => exact h
  | succ d ih => exact ih ((desk_keeps kd kb).mono h) (by omega)
theorem DeskAt.book {kd kb : Nat} {w : World} {F : Nat → Prop} {s : Desk} (h : DeskAt kd kb w F s) : BookAt w (fun k => F k ∧ k ≠ kd) kb s.N s.D := h.2.2

set_option maxHeartbeats 8000000 in
set_option maxRecDepth 100000 in
theorem spareExact_calls (m p t sp r ch : Int) (Ap : Option Addr) (cp : Nat) (pl : List (Int × ByteArray)) (Aa : Option Addr) (ca : Nat) (al : List Int) (w : World) (hpl : (Kd.pair (Kd.int .i64) Kd.string).C w Ap pl.length pl) (hal : (Kd.int .i64).C w Aa al.length al) :
    Calls Try.prog 4 #[.agg #[.int .i64 m, .int .i64 p, .int .i64 t, .int .i64 sp, .int .i64 r, .int .u64 ch], .slice Ap pl.length cp, .slice Aa al.length ca] w fun e w' => e = .returned (.bool true) ∧ Below w.heap.size w w' := by
  have hu35 := Try.underlying35
  have hmp := Kd.C_max hpl
  have hma := Kd.C_max hal
  have HPL := Aside0.mk hpl
  have HAL := Aside0.mk hal
  clear hpl hal
  go_enter Try.func4, Try.ntmps4
  go_wp2_with fail
  refine (awake_calls _).mono ?_
  rintro e w1 ⟨rfl, hB1⟩
  have HB1 := Aside0.mk ((below_alloc (Below.refl w.heap.size w) (.cells #[.int .i64 m, .int .i64 p, .int .i64 t, .int .i64 sp, .int .i64 r, .int .u64 ch] 35)).trans (hB1.mono (by simp)))
  have H1 := Aside0.mk (blk_below (blk_new w (.cells #[.int .i64 m, .int .i64 p, .int .i64 t, .int .i64 sp, .int .i64 r, .int .u64 ch] 35)) hB1)
  obtain ⟨g, hg⟩ : ∃ g, g = w.heap.size := ⟨_, rfl⟩
  rw [← hg] at H1 ⊢
  have HG := Aside0.mk hg
  clear hB1 hg
  have a0 : w1.cell? ⟨g, 0, none⟩ = some (.int .i64 m) := (blk_cell H1.out 0).trans rfl
  have a1 : w1.cell? ⟨g, 1, none⟩ = some (.int .i64 p) := (blk_cell H1.out 1).trans rfl
  have a2 : w1.cell? ⟨g, 2, none⟩ = some (.int .i64 t) := (blk_cell H1.out 2).trans rfl
  have a3 : w1.cell? ⟨g, 3, none⟩ = some (.int .i64 sp) := (blk_cell H1.out 3).trans rfl
  have a4 : w1.cell? ⟨g, 4, none⟩ = some (.int .i64 r) := (blk_cell H1.out 4).trans rfl
  have a5 : w1.cell? ⟨g, 5, none⟩ = some (.int .u64 ch) := (blk_cell H1.out 5).trans rfl
  have af0 : w1.frozen? ⟨g, 0, none⟩ = false := blk_frozen H1.out 0
  have af1 : w1.frozen? ⟨g, 1, none⟩ = false := blk_frozen H1.out 1
  have af2 : w1.frozen? ⟨g, 2, none⟩ = false := blk_frozen H1.out 2
  have af3 : w1.frozen? ⟨g, 3, none⟩ = false := blk_frozen H1.out 3
  have af4 : w1.frozen? ⟨g, 4, none⟩ = false := blk_frozen H1.out 4
  have af5 : w1.frozen? ⟨g, 5, none⟩ = false := blk_frozen H1.out 5
  go_wp2_with fail
  refine (fit_calls ⟨m, p, t, sp, r, ch⟩ w1).mono ?_
  rintro e w2 ⟨rfl, hB2⟩
  have HB2 := Aside0.mk (HB1.out.trans (hB2.mono HB1.out.size))
  have H2 := Aside0.mk (blk_below H1.out hB2)
  clear hB2 H1 HB1 a0 af0 a1 af1 a2 af2 a3 af3 a4 af4 a5 af5
  by_cases hfit : FitP ⟨m, p, t, sp, r, ch⟩
  case neg =>
    rw [decide_eq_false hfit]
    clear hfit
    go_wp2
    go_ret
    exact ⟨rfl, HB2.out⟩
  rw [decide_eq_true hfit]
  have HFIT := Aside0.mk hfit
  clear hfit
  go_wp2_with fail
  refine (fresh_calls w2).mono ?_
  rintro e w3 ⟨kd, kb, rfl, F, hA, hF, hB3⟩
  have hsz2 : g < w2.heap.size := blk_lt H2.out
  have HH := Aside0.mk (show Hold (deskShop kd kb) w.heap.size w w3 Desk.new F from ⟨hA, fun k hk => Nat.le_trans HB2.out.size (hF k hk), HB2.out.trans (hB3.mono HB2.out.size), Nat.le_trans HB2.out.size hB3.size⟩)
  have HF := Aside0.mk (show ¬ F g from fun hf => by have := hF g hf; omega)
  have H3 := Aside0.mk (blk_below H2.out hB3)
  clear hA hF hB3 hsz2 HB2 H2
  go_upto_block 0 with fail
  obtain ⟨kr, hkr⟩ : ∃ kr, kr = w3.heap.size := ⟨_, rfl⟩
  obtain ⟨w4, hw4⟩ : ∃ w4, w4 = w3.alloc (.cells #[.slice none 0 0, .slice none 0 0] 43) := ⟨_, rfl⟩
  have HT := Aside0.mk (show Two kd kb kr w.heap.size g w w4 Desk.new Desk.new.N Desk.new.D ⟨m, p, t, sp, r, ch⟩ F (fun k => k = kr) by
    rw [hw4, hkr]
    have hb := S_bound HH.out
    exact ⟨HH.out.alloc _, ⟨rfl, fun k hk => by simp; omega, rfl, _, _, blk_new w3 _, Kd.R_nil _ _ _ _ _, Kd.R_nil _ _ _ _ _⟩, fun k hk e => by have := hb k hk; omega, fun k hk => by have := HH.out.2.2.2; omega, HF.out,
      fun e => by have := blk_lt H3.out; omega, by rw [HG.out]; exact Nat.le_refl _, blk_alloc H3.out _⟩)
  rw [← hw4, ← hkr]
  clear hw4 hkr HH HF H3
  go_cut [] (fun wc => ∃ (s : Desk) (F G : Nat → Prop), Aside0 (Two kd kb kr w.heap.size g w wc s s.N s.D ⟨m, p, t, sp, r, ch⟩ F G) ∧ Aside0 (DeskOk kd kb 500 s))
  case rest =>
    clear HT
    obtain ⟨s, F, G, HT, HO⟩ := hcut
    obtain ⟨C, hC⟩ : ∃ C, C = min al.length 200 := ⟨_, rfl⟩
    go_wp2_with fail
    go_loopw [10] (fun i wr => ∃ (k : Nat) (s : Desk) (F G : Nat → Prop) (x0 x1 x2 x3 x4 x5 : Int), k ≤ C ∧ k ≤ 200 ∧ i = .int .i64 k ∧ Aside0 (Two kd kb kr w.heap.size g w wr s s.N s.D ⟨x0, x1, x2, x3, x4, x5⟩ F G) ∧ Aside0 (DeskOk kd kb (500 - 2 * k) s) ∧ Aside0 (FitP ⟨x0, x1, x2, x3, x4, x5⟩)) (fun i _ => C - (intOf i).toNat)
    case atStart => exact ⟨0, s, F, G, m, p, t, sp, r, ch, Nat.zero_le _, Nat.zero_le _, rfl, HT, HO, HFIT⟩
    case round =>
      clear HT HO HFIT
      obtain ⟨k, s, F, G, x0, x1, x2, x3, x4, x5, hk, hk2, rfl, HT, HO, HFIT⟩ := hrel
      by_cases hlt : k < C
      · have t1 : decide ((k : Int) < (al.length : Int)) = true := decide_eq_true (by omega)
        have t2 : decide ((k : Int) < 200) = true := decide_eq_true (by omega)
        obtain ⟨ad, hA, hx⟩ := Kd.at_int (Kd.C_below HAL.out HT.out.base) (k : Int) (by omega) (by omega)
        subst hA
        rw [Int.toNat_natCast] at hx
        obtain ⟨x, hxd⟩ : ∃ x, x = rd al (k : Int) := ⟨_, rfl⟩
        rw [← hxd] at hx
        have HX := Aside0.mk hxd
        clear hxd
        go_upto_if 88 with fail
        go_cut [] (fun wc => ∃ (s' : Desk) (F' G' : Nat → Prop) (y0 y1 y2 y3 y4 y5 : Int), Aside0 (Two kd kb kr w.heap.size g w wc s' s'.N s'.D ⟨y0, y1, y2, y3, y4, y5⟩ F' G') ∧ Aside0 (DeskOk kd kb (500 - 2 * (k + 1)) s'))
        case first =>
          by_cases hx0 : x = 0
          · have tx : (x == 0) = true := by simp [hx0]
            obtain ⟨r, hr⟩ : ∃ r, r = (deskShop kd kb).take s ⟨x0, x1, x2, x3, x4, x5⟩ := ⟨_, rfl⟩
            have hok2 := (desk_keeps kd kb).take (k := 500 - 2 * (k + 1)) (by have := HO.out; rwa [show 500 - 2 * k = 500 - 2 * (k + 1) + 2 by omega] at this) ⟨x0, x1, x2, x3, x4, x5⟩
            rw [← hr] at hok2
            obtain ⟨s1, nn, ⟨y0, y1, y2, y3, y4, y5⟩, ee⟩ := r
            have HE := Aside0.mk hr.symm
            have HO2 := Aside0.mk hok2
            clear hr hok2 hx0
            have hf := HFIT.out
            obtain ⟨-, hf1, hf2, hf3, hf4, hf5, hf6, hf7, hf8, -⟩ := hf
            dsimp only at hf1 hf2 hf3 hf4 hf5 hf6 hf7 hf8
            have a0 : wr.cell? ⟨g, 0, none⟩ = some (.int .i64 x0) := (blk_cell HT.out.head 0).trans rfl
            have a1 : wr.cell? ⟨g, 1, none⟩ = some (.int .i64 x1) := (blk_cell HT.out.head 1).trans rfl
            have a2 : wr.cell? ⟨g, 2, none⟩ = some (.int .i64 x2) := (blk_cell HT.out.head 2).trans rfl
            have a3 : wr.cell? ⟨g, 3, none⟩ = some (.int .i64 x3) := (blk_cell HT.out.head 3).trans rfl
            have a4 : wr.cell? ⟨g, 4, none⟩ = some (.int .i64 x4) := (blk_cell HT.out.head 4).trans rfl
            have a5 : wr.cell? ⟨g, 5, none⟩ = some (.int .u64 x5) := (blk_cell HT.out.head 5).trans rfl
            go_wp2_with fail
            refine (HT.out.take HE.out (by have := HO.out.1.2.1; omega) (by omega) (by omega) (by omega)).mono ?_
            rintro e w2 ⟨rfl, F2, hT2, -⟩
            have HT2 := Aside0.mk hT2
            clear hT2 a0 a1 a2 a3 a4 a5
            clear hf1 hf2 hf3 hf4 hf5 hf6 hf7 hf8 hx
            have hq1 := HT2.out.fresh
            have a0 : ∀ o, (w2.alloc o).cell? ⟨g, 0, none⟩ = some (.int .i64 x0) := fun o => (blk_cell (blk_alloc HT2.out.head o) 0).trans rfl
            have a1 : ∀ o, (w2.alloc o).cell? ⟨g, 1, none⟩ = some (.int .i64 x1) := fun o => (blk_cell (blk_alloc HT2.out.head o) 1).trans rfl
            have a2 : ∀ o, (w2.alloc o).cell? ⟨g, 2, none⟩ = some (.int .i64 x2) := fun o => (blk_cell (blk_alloc HT2.out.head o) 2).trans rfl
            have a3 : ∀ o, (w2.alloc o).cell? ⟨g, 3, none⟩ = some (.int .i64 x3) := fun o => (blk_cell (blk_alloc HT2.out.head o) 3).trans rfl
            have a4 : ∀ o, (w2.alloc o).cell? ⟨g, 4, none⟩ = some (.int .i64 x4) := fun o => (blk_cell (blk_alloc HT2.out.head o) 4).trans rfl
            have a5 : ∀ o, (w2.alloc o).cell? ⟨g, 5, none⟩ = some (.int .u64 x5) := fun o => (blk_cell (blk_alloc HT2.out.head o) 5).trans rfl
            go_wp2_with fail
            clear a0 a1 a2 a3 a4 a5
            obtain ⟨q1, hq⟩ : ∃ q1, q1 = w2.heap.size := ⟨_, rfl⟩
            obtain ⟨w3, hw3⟩ : ∃ w3, w3 = w2.alloc (.cells #[.int .i64 y0, .int .i64 y1, .int .i64 y2, .int .i64 y3, .int .i64 y4, .int .u64 y5] 35) := ⟨_, rfl⟩
            have HT3 := Aside0.mk (show Two kd kb kr w.heap.size g w w3 s1 s.N s.D ⟨x0, x1, x2, x3, x4, x5⟩ F2 G by rw [hw3]; exact HT2.out.below (below_alloc (Below.refl _ _) _))
            have HQ3 := Aside0.mk (show w3.heap[q1]? = some (.cells #[.int .i64 y0, .int .i64 y1, .int .i64 y2, .int .i64 y3, .int .i64 y4, .int .u64 y5] 35 (0, 0)) by rw [hw3, hq]; exact blk_new w2 _)
            have HNF := Aside0.mk (show ¬ F2 q1 ∧ ¬ G q1 by rw [hq]; exact hq1)
            have HGQ := Aside0.mk (show g ≠ q1 by rw [hq]; exact Nat.ne_of_lt (blk_lt HT2.out.head))
            rw [← hw3, ← hq]
            clear hw3 hq hq1 HT2
            refine (HT3.out.rtake HE.out HFIT.out ⟨HO.out.2.2, by have := HO.out.1.2.2; have := HO.out.2.2; omega⟩ (by have := HO.out.1.2.1; omega)).mono ?_
            rintro e w4 ⟨rfl, G2, hT4, hAl⟩
            obtain ⟨hQ4, hNF4, hNG4⟩ := hAl _ _ HQ3.out HNF.out.1 HNF.out.2
            have HT5 := Aside0.mk hT4
            have HQ4 := Aside0.mk hQ4
            clear hT4 hAl hQ4 hNF4 hNG4 HT3 HQ3 HNF
            have a0 : ∀ o, (w4.alloc o).cell? ⟨g, 0, none⟩ = some (.int .i64 x0) := fun o => (blk_cell (blk_alloc HT5.out.head o) 0).trans rfl
            have af0 : ∀ o, (w4.alloc o).frozen? ⟨g, 0, none⟩ = false := fun o => blk_frozen (blk_alloc HT5.out.head o) 0
            have a1 : ∀ o, (w4.alloc o).cell? ⟨g, 1, none⟩ = some (.int .i64 x1) := fun o => (blk_cell (blk_alloc HT5.out.head o) 1).trans rfl
            have af1 : ∀ o, (w4.alloc o).frozen? ⟨g, 1, none⟩ = false := fun o => blk_frozen (blk_alloc HT5.out.head o) 1
            have a2 : ∀ o, (w4.alloc o).cell? ⟨g, 2, none⟩ = some (.int .i64 x2) := fun o => (blk_cell (blk_alloc HT5.out.head o) 2).trans rfl
            have af2 : ∀ o, (w4.alloc o).frozen? ⟨g, 2, none⟩ = false := fun o => blk_frozen (blk_alloc HT5.out.head o) 2
            have a3 : ∀ o, (w4.alloc o).cell? ⟨g, 3, none⟩ = some (.int .i64 x3) := fun o => (blk_cell (blk_alloc HT5.out.head o) 3).trans rfl
            have af3 : ∀ o, (w4.alloc o).frozen? ⟨g, 3, none⟩ = false := fun o => blk_frozen (blk_alloc HT5.out.head o) 3
            have a4 : ∀ o, (w4.alloc o).cell? ⟨g, 4, none⟩ = some (.int .i64 x4) := fun o => (blk_cell (blk_alloc HT5.out.head o) 4).trans rfl
            have af4 : ∀ o, (w4.alloc o).frozen? ⟨g, 4, none⟩ = false := fun o => blk_frozen (blk_alloc HT5.out.head o) 4
            have a5 : ∀ o, (w4.alloc o).cell? ⟨g, 5, none⟩ = some (.int .u64 x5) := fun o => (blk_cell (blk_alloc HT5.out.head o) 5).trans rfl
            have af5 : ∀ o, (w4.alloc o).frozen? ⟨g, 5, none⟩ = false := fun o => blk_frozen (blk_alloc HT5.out.head o) 5
            have b0 : ∀ o, (w4.alloc o).cell? ⟨q1, 0, none⟩ = some (.int .i64 y0) := fun o => (blk_cell (blk_alloc HQ4.out o) 0).trans rfl
            have b1 : ∀ o, (w4.alloc o).cell? ⟨q1, 1, none⟩ = some (.int .i64 y1) := fun o => (blk_cell (blk_alloc HQ4.out o) 1).trans rfl
            have b2 : ∀ o, (w4.alloc o).cell? ⟨q1, 2, none⟩ = some (.int .i64 y2) := fun o => (blk_cell (blk_alloc HQ4.out o) 2).trans rfl
            have b3 : ∀ o, (w4.alloc o).cell? ⟨q1, 3, none⟩ = some (.int .i64 y3) := fun o => (blk_cell (blk_alloc HQ4.out o) 3).trans rfl
            have b4 : ∀ o, (w4.alloc o).cell? ⟨q1, 4, none⟩ = some (.int .i64 y4) := fun o => (blk_cell (blk_alloc HQ4.out o) 4).trans rfl
            have b5 : ∀ o, (w4.alloc o).cell? ⟨q1, 5, none⟩ = some (.int .u64 y5) := fun o => (blk_cell (blk_alloc HQ4.out o) 5).trans rfl
            have c0 : (w4.alloc (.cells #[.int .i64 y0, .int .i64 y1, .int .i64 y2, .int .i64 y3, .int .i64 y4, .int .u64 y5] 35)).cell? ⟨w4.heap.size, 0, none⟩ = some (.int .i64 y0) := (blk_cell (blk_new w4 _) 0).trans rfl
            have c1 : (w4.alloc (.cells #[.int .i64 y0, .int .i64 y1, .int .i64 y2, .int .i64 y3, .int .i64 y4, .int .u64 y5] 35)).cell? ⟨w4.heap.size, 1, none⟩ = some (.int .i64 y1) := (blk_cell (blk_new w4 _) 1).trans rfl
            have c2 : (w4.alloc (.cells #[.int .i64 y0, .int .i64 y1, .int .i64 y2, .int .i64 y3, .int .i64 y4, .int .u64 y5] 35)).cell? ⟨w4.heap.size, 2, none⟩ = some (.int .i64 y2) := (blk_cell (blk_new w4 _) 2).trans rfl
            have c3 : (w4.alloc (.cells #[.int .i64 y0, .int .i64 y1, .int .i64 y2, .int .i64 y3, .int .i64 y4, .int .u64 y5] 35)).cell? ⟨w4.heap.size, 3, none⟩ = some (.int .i64 y3) := (blk_cell (blk_new w4 _) 3).trans rfl
            have c4 : (w4.alloc (.cells #[.int .i64 y0, .int .i64 y1, .int .i64 y2, .int .i64 y3, .int .i64 y4, .int .u64 y5] 35)).cell? ⟨w4.heap.size, 4, none⟩ = some (.int .i64 y4) := (blk_cell (blk_new w4 _) 4).trans rfl
            have c5 : (w4.alloc (.cells #[.int .i64 y0, .int .i64 y1, .int .i64 y2, .int .i64 y3, .int .i64 y4, .int .u64 y5] 35)).cell? ⟨w4.heap.size, 5, none⟩ = some (.int .u64 y5) := (blk_cell (blk_new w4 _) 5).trans rfl
            have hgq : ¬ g = q1 := HGQ.out
            have hqg : ¬ q1 = g := Ne.symm HGQ.out
            by_cases he : ee = 0
            · have te : (ee == 0) = true := by simp [he]
              clear he
              go_wp2
              go_meet
              case rel => exact ⟨s1, F2, G2, y0, y1, y2, y3, y4, y5, ⟨(HT5.out.below (below_alloc (Below.refl _ _) _)).set6 y0 y1 y2 y3 y4 y5⟩, HO2⟩
            · have te : (ee == 0) = false := by simp [he]
              clear he
              go_wp2
              go_meet
              case rel => exact ⟨s1, F2, G2, x0, x1, x2, x3, x4, x5, ⟨HT5.out.below (below_alloc (Below.refl _ _) _)⟩, HO2⟩
          · have tx : (x == 0) = false := by simp [hx0]
            obtain ⟨r, hr⟩ : ∃ r, r = (deskShop kd kb).give s ⟨x0, x1, x2, x3, x4, x5⟩ x := ⟨_, rfl⟩
            have hok2 := (desk_keeps kd kb).give (k := 500 - 2 * (k + 1)) (by have := HO.out; rwa [show 500 - 2 * k = 500 - 2 * (k + 1) + 2 by omega] at this) ⟨x0, x1, x2, x3, x4, x5⟩ x
            rw [← hr] at hok2
            obtain ⟨s1, ⟨y0, y1, y2, y3, y4, y5⟩, ee⟩ := r
            have HE := Aside0.mk hr.symm
            have HO2 := Aside0.mk hok2
            have HGX := Aside0.mk (show ∀ W, Below w.heap.size w W → W.cell? (ad.add k) = some (.int .i64 x) from fun W hb => (acts_at HAL.out hb k (by omega)).trans (by rw [HX.out]))
            clear hr hok2 hx0
            have hf := HFIT.out
            obtain ⟨-, hf1, hf2, hf3, hf4, hf5, hf6, hf7, hf8, -⟩ := hf
            dsimp only at hf1 hf2 hf3 hf4 hf5 hf6 hf7 hf8
            have a0 : wr.cell? ⟨g, 0, none⟩ = some (.int .i64 x0) := (blk_cell HT.out.head 0).trans rfl
            have a1 : wr.cell? ⟨g, 1, none⟩ = some (.int .i64 x1) := (blk_cell HT.out.head 1).trans rfl
            have a2 : wr.cell? ⟨g, 2, none⟩ = some (.int .i64 x2) := (blk_cell HT.out.head 2).trans rfl
            have a3 : wr.cell? ⟨g, 3, none⟩ = some (.int .i64 x3) := (blk_cell HT.out.head 3).trans rfl
            have a4 : wr.cell? ⟨g, 4, none⟩ = some (.int .i64 x4) := (blk_cell HT.out.head 4).trans rfl
            have a5 : wr.cell? ⟨g, 5, none⟩ = some (.int .u64 x5) := (blk_cell HT.out.head 5).trans rfl
            go_wp2_with fail
            clear a0 a1 a2 a3 a4 a5 hx
            refine start_ (n := 14) (S := fun w' => w'.cell? ⟨g, 0, none⟩ = some (.int .i64 x0) ∧ w'.cell? ⟨g, 1, none⟩ = some (.int .i64 x1) ∧ w'.cell? ⟨g, 2, none⟩ = some (.int .i64 x2) ∧ w'.cell? ⟨g, 3, none⟩ = some (.int .i64 x3) ∧ w'.cell? ⟨g, 4, none⟩ = some (.int .i64 x4) ∧ w'.cell? ⟨g, 5, none⟩ = some (.int .u64 x5) ∧ w'.cell? (ad.add k) = some (.int .i64 x)) (ds := [12]) #[false, false, false, false, false, false, false, false, false, false, false, false, false, false] (by kernel_rfl) rfl rfl ⟨(blk_cell (HT.out.below (Below.refl _ _).drew).head 0).trans rfl, (blk_cell (HT.out.below (Below.refl _ _).drew).head 1).trans rfl, (blk_cell (HT.out.below (Below.refl _ _).drew).head 2).trans rfl, (blk_cell (HT.out.below (Below.refl _ _).drew).head 3).trans rfl, (blk_cell (HT.out.below (Below.refl _ _).drew).head 4).trans rfl, (blk_cell (HT.out.below (Below.refl _ _).drew).head 5).trans rfl, HGX.out _ (HT.out.below (Below.refl _ _).drew).base⟩ (fun hHeld => ?_)
            replace HT := Aside0.mk (HT.out.below (Below.refl _ _).drew)
            generalize wr.drew = wd at HT hHeld ⊢
            refine pure_ (i := 1) (N := some 122) (v := ?_) (a' := ?_) #[false, true, false, false, false, false, false, false, false, false, false, false, false, false] rfl rfl (by kernel_rfl) (fun _ _ _ h => h) (Or.inl ⟨by rfl, ?_⟩) ?_ ?_
            rotate_left
            · intro w'
              go_simp
              with_reducible rfl
            rotate_left
            · simp only [putAll, Act.put, List.setIfInBounds_toArray, List.set_cons_zero, List.set_cons_succ]
              rfl
            refine pure_ (i := 2) (N := some 123) (v := ?_) (a' := ?_) #[false, true, true, false, false, false, false, false, false, false, false, false, false, false] rfl rfl (by kernel_rfl) (fun _ _ _ h => h) (Or.inl ⟨by rfl, ?_⟩) ?_ ?_
            rotate_left
            · intro w'
              go_simp
              with_reducible rfl
            rotate_left
            · simp only [putAll, Act.put, List.setIfInBounds_toArray, List.set_cons_zero, List.set_cons_succ]
              rfl
            refine pure_ (i := 3) (N := some 124) (v := ?_) (a' := ?_) #[false, true, true, true, false, false, false, false, false, false, false, false, false, false] rfl rfl (by kernel_rfl) (fun _ _ _ h => h) (Or.inl ⟨by rfl, ?_⟩) ?_ ?_
            rotate_left
            · intro w'
              go_simp
              with_reducible rfl
            rotate_left
            · simp only [putAll, Act.put, List.setIfInBounds_toArray, List.set_cons_zero, List.set_cons_succ]
              rfl
            refine pure_ (i := 4) (N := some 125) (v := ?_) (a' := ?_) #[false, true, true, true, true, false, false, false, false, false, false, false, false, false] rfl rfl (by kernel_rfl) (fun _ _ _ h => h) (Or.inl ⟨by rfl, ?_⟩) ?_ ?_
            rotate_left
            · intro w'
              go_simp
              with_reducible rfl
            rotate_left
            · simp only [putAll, Act.put, List.setIfInBounds_toArray, List.set_cons_zero, List.set_cons_succ]
              rfl
            refine pure_ (i := 5) (N := some 126) (v := ?_) (a' := ?_) #[false, true, true, true, true, true, false, false, false, false, false, false, false, false] rfl rfl (by kernel_rfl) (fun _ _ _ h => h) (Or.inl ⟨by rfl, ?_⟩) ?_ ?_
            rotate_left
            · intro w'
              go_simp
              with_reducible rfl
            rotate_left
            · simp only [putAll, Act.put, List.setIfInBounds_toArray, List.set_cons_zero, List.set_cons_succ]
              rfl
            refine take_ (i := 0) (N := some 121) (v := ?_) (a' := ?_) #[true, true, true, true, true, true, false, false, false, false, false, false, false, false] rfl rfl (by kernel_rfl) (fun _ _ _ h => h) (Or.inl ⟨by rfl, ?_⟩) hHeld ?_ ?_
            rotate_left
            · rintro w' ⟨s0, s1', s2, s3, s4, s5, s6⟩
              go_simp
              with_reducible rfl
            rotate_left
            · simp only [putAll, Act.put, List.setIfInBounds_toArray, List.set_cons_zero, List.set_cons_succ]
              rfl
            refine take_ (i := 6) (N := some 127) (v := ?_) (a' := ?_) #[true, true, true, true, true, true, true, false, false, false, false, false, false, false] rfl rfl (by kernel_rfl) (fun _ _ _ h => h) (Or.inl ⟨by rfl, ?_⟩) hHeld ?_ ?_
            rotate_left
            · rintro w' ⟨s0, s1', s2, s3, s4, s5, s6⟩
              go_simp
              with_reducible rfl
            rotate_left
            · simp only [putAll, Act.put, List.setIfInBounds_toArray, List.set_cons_zero, List.set_cons_succ]
              rfl
            refine join_ 2 #[true, true, true, true, true, true, true, true, true, true, true, true, false, false] (fun q : Nat => [(128, .tuple #[.agg #[.int .i64 y0, .int .i64 y1, .int .i64 y2, .int .i64 y3, .int .i64 y4, .int .u64 y5], .int .i64 ee]), (120, .tuple #[.agg #[.int .i64 y0, .int .i64 y1, .int .i64 y2, .int .i64 y3, .int .i64 y4, .int .u64 y5], .int .i64 ee]), (129, .agg #[.int .i64 y0, .int .i64 y1, .int .i64 y2, .int .i64 y3, .int .i64 y4, .int .u64 y5]), (130, .int .i64 ee), (17, .pointer (some ⟨q, 0, none⟩))]) (fun q w' => ∃ F2, Two kd kb kr w.heap.size g w w' s1 s.N s.D ⟨x0, x1, x2, x3, x4, x5⟩ F2 G ∧ w'.heap[q]? = some (.cells #[.int .i64 0, .int .i64 0, .int .i64 0, .int .i64 0, .int .i64 0, .int .u64 0] 35 (0, 0)) ∧ ¬ F2 q ∧ ¬ G q ∧ g ≠ q ∧ w.heap.size ≤ q) ?_ (fun hcont => ?_)
            · intro q1 w3 hf
              obtain ⟨F2, hT3, hQ3, hNF3, hNG3, hgq, hqB⟩ := hf
              clear hHeld HT
              have qf0 : w3.frozen? ⟨q1, 0, none⟩ = false := blk_frozen hQ3 0
              have qf1 : w3.frozen? ⟨q1, 1, none⟩ = false := blk_frozen hQ3 1
              have qf2 : w3.frozen? ⟨q1, 2, none⟩ = false := blk_frozen hQ3 2
              have qf3 : w3.frozen? ⟨q1, 3, none⟩ = false := blk_frozen hQ3 3
              have qf4 : w3.frozen? ⟨q1, 4, none⟩ = false := blk_frozen hQ3 4
              have qf5 : w3.frozen? ⟨q1, 5, none⟩ = false := blk_frozen hQ3 5
              have qc0 : w3.cell? ⟨q1, 0, none⟩ = some (.int .i64 0) := (blk_cell hQ3 0).trans rfl
              have qc1 : w3.cell? ⟨q1, 1, none⟩ = some (.int .i64 0) := (blk_cell hQ3 1).trans rfl
              have qc2 : w3.cell? ⟨q1, 2, none⟩ = some (.int .i64 0) := (blk_cell hQ3 2).trans rfl
              have qc3 : w3.cell? ⟨q1, 3, none⟩ = some (.int .i64 0) := (blk_cell hQ3 3).trans rfl
              have qc4 : w3.cell? ⟨q1, 4, none⟩ = some (.int .i64 0) := (blk_cell hQ3 4).trans rfl
              have qc5 : w3.cell? ⟨q1, 5, none⟩ = some (.int .u64 0) := (blk_cell hQ3 5).trans rfl
              refine norm_ (a' := ?_) ?_ ?_
              rotate_left
              · simp only [putAll, Act.put, List.setIfInBounds_toArray, List.set_cons_zero, List.set_cons_succ]
                rfl
              refine last_ (i := 12) (N := none) #[true, true, true, true, true, true, true, true, true, true, true, true, true, false] rfl rfl (by kernel_rfl) (by decide) (fun K hK => ?_)
              refine skip_ (w1 := ((((((w3.setCell ⟨q1, 0, none⟩ (.int .i64 y0)).setCell ⟨q1, 1, none⟩ (.int .i64 y1)).setCell ⟨q1, 2, none⟩ (.int .i64 y2)).setCell ⟨q1, 3, none⟩ (.int .i64 y3)).setCell ⟨q1, 4, none⟩ (.int .i64 y4)).setCell ⟨q1, 5, none⟩ (.int .u64 y5))) (by rfl) rfl (by go_simp) ?_
              refine hK.out _ _ ?_
              clear hK K
              clear qf0 qc0 qf1 qc1 qf2 qc2 qf3 qc3 qf4 qc4 qf5 qc5
              have HT4 := Aside0.mk (hT3.far6 hNF3 hNG3 hgq hqB (.int .i64 y0) (.int .i64 y1) (.int .i64 y2) (.int .i64 y3) (.int .i64 y4) (.int .u64 y5))
              have HQ4 := Aside0.mk (put6 hQ3 (.int .i64 y0) (.int .i64 y1) (.int .i64 y2) (.int .i64 y3) (.int .i64 y4) (.int .u64 y5))
              generalize ((((((w3.setCell ⟨q1, 0, none⟩ (.int .i64 y0)).setCell ⟨q1, 1, none⟩ (.int .i64 y1)).setCell ⟨q1, 2, none⟩ (.int .i64 y2)).setCell ⟨q1, 3, none⟩ (.int .i64 y3)).setCell ⟨q1, 4, none⟩ (.int .i64 y4)).setCell ⟨q1, 5, none⟩ (.int .u64 y5)) = w4 at HT4 HQ4 ⊢
              have HN1 := Aside0.mk (show ¬ F2 q1 ∧ ¬ G q1 from ⟨hNF3, hNG3⟩)
              have HGQ := Aside0.mk hgq
              clear hT3 hQ3 hNF3 hNG3 hqB hgq
              refine pure_ (i := 13) (N := some 18) (v := ?_) (a' := ?_) #[true, true, true, true, true, true, true, true, true, true, true, true, true, true] rfl rfl (by kernel_rfl) (fun _ _ _ h => h) (Or.inl ⟨by rfl, ?_⟩) ?_ ?_
              rotate_left
              · intro w'
                go_simp
                with_reducible rfl
              rotate_left
              · simp only [putAll, Act.put, List.setIfInBounds_toArray, List.set_cons_zero, List.set_cons_succ]
                rfl
              refine done_ (by kernel_rfl) ?_
              have HT := HT4
              have HQ1 := HQ4
              clear HT4 HQ4
              have a0 : w4.cell? ⟨g, 0, none⟩ = some (.int .i64 x0) := (blk_cell HT.out.head 0).trans rfl
              have a1 : w4.cell? ⟨g, 1, none⟩ = some (.int .i64 x1) := (blk_cell HT.out.head 1).trans rfl
              have a2 : w4.cell? ⟨g, 2, none⟩ = some (.int .i64 x2) := (blk_cell HT.out.head 2).trans rfl
              have a3 : w4.cell? ⟨g, 3, none⟩ = some (.int .i64 x3) := (blk_cell HT.out.head 3).trans rfl
              have a4 : w4.cell? ⟨g, 4, none⟩ = some (.int .i64 x4) := (blk_cell HT.out.head 4).trans rfl
              have a5 : w4.cell? ⟨g, 5, none⟩ = some (.int .u64 x5) := (blk_cell HT.out.head 5).trans rfl
              have hx := HGX.out w4 HT.out.base
              go_wp2_with fail
              clear a0 a1 a2 a3 a4 a5 hx
              refine start_ (n := 13) (S := fun w' => w'.cell? ⟨g, 0, none⟩ = some (.int .i64 x0) ∧ w'.cell? ⟨g, 1, none⟩ = some (.int .i64 x1) ∧ w'.cell? ⟨g, 2, none⟩ = some (.int .i64 x2) ∧ w'.cell? ⟨g, 3, none⟩ = some (.int .i64 x3) ∧ w'.cell? ⟨g, 4, none⟩ = some (.int .i64 x4) ∧ w'.cell? ⟨g, 5, none⟩ = some (.int .u64 x5) ∧ w'.cell? (ad.add k) = some (.int .i64 x)) (ds := [11]) #[false, false, false, false, false, false, false, false, false, false, false, false, false] (by kernel_rfl) rfl rfl ⟨(blk_cell (HT.out.below (Below.refl _ _).drew).head 0).trans rfl, (blk_cell (HT.out.below (Below.refl _ _).drew).head 1).trans rfl, (blk_cell (HT.out.below (Below.refl _ _).drew).head 2).trans rfl, (blk_cell (HT.out.below (Below.refl _ _).drew).head 3).trans rfl, (blk_cell (HT.out.below (Below.refl _ _).drew).head 4).trans rfl, (blk_cell (HT.out.below (Below.refl _ _).drew).head 5).trans rfl, HGX.out _ (HT.out.below (Below.refl _ _).drew).base⟩ (fun hHeld => ?_)
              replace HT := Aside0.mk (HT.out.below (Below.refl _ _).drew)
              replace HQ1 := Aside0.mk (blk_drew HQ1.out)
              generalize w4.drew = wd at HT HQ1 hHeld ⊢
              refine pure_ (i := 1) (N := some 133) (v := ?_) (a' := ?_) #[false, true, false, false, false, false, false, false, false, false, false, false, false] rfl rfl (by kernel_rfl) (fun _ _ _ h => h) (Or.inl ⟨by rfl, ?_⟩) ?_ ?_
              rotate_left
              · intro w'
                go_simp
                with_reducible rfl
              rotate_left
              · simp only [putAll, Act.put, List.setIfInBounds_toArray, List.set_cons_zero, List.set_cons_succ]
                rfl
              refine pure_ (i := 2) (N := some 134) (v := ?_) (a' := ?_) #[false, true, true, false, false, false, false, false, false, false, false, false, false] rfl rfl (by kernel_rfl) (fun _ _ _ h => h) (Or.inl ⟨by rfl, ?_⟩) ?_ ?_
              rotate_left
              · intro w'
                go_simp
                with_reducible rfl
              rotate_left
              · simp only [putAll, Act.put, List.setIfInBounds_toArray, List.set_cons_zero, List.set_cons_succ]
                rfl
              refine pure_ (i := 3) (N := some 135) (v := ?_) (a' := ?_) #[false, true, true, true, false, false, false, false, false, false, false, false, false] rfl rfl (by kernel_rfl) (fun _ _ _ h => h) (Or.inl ⟨by rfl, ?_⟩) ?_ ?_
              rotate_left
              · intro w'
                go_simp
                with_reducible rfl
              rotate_left
              · simp only [putAll, Act.put, List.setIfInBounds_toArray, List.set_cons_zero, List.set_cons_succ]
                rfl
              refine pure_ (i := 4) (N := some 136) (v := ?_) (a' := ?_) #[false, true, true, true, true, false, false, false, false, false, false, false, false] rfl rfl (by kernel_rfl) (fun _ _ _ h => h) (Or.inl ⟨by rfl, ?_⟩) ?_ ?_
              rotate_left
              · intro w'
                go_simp
                with_reducible rfl
              rotate_left
              · simp only [putAll, Act.put, List.setIfInBounds_toArray, List.set_cons_zero, List.set_cons_succ]
                rfl
              refine take_ (i := 0) (N := some 132) (v := ?_) (a' := ?_) #[true, true, true, true, true, false, false, false, false, false, false, false, false] rfl rfl (by kernel_rfl) (fun _ _ _ h => h) (Or.inl ⟨by rfl, ?_⟩) hHeld ?_ ?_
              rotate_left
              · rintro w' ⟨s0, s1', s2, s3, s4, s5, s6⟩
                go_simp
                with_reducible rfl
              rotate_left
              · simp only [putAll, Act.put, List.setIfInBounds_toArray, List.set_cons_zero, List.set_cons_succ]
                rfl
              refine take_ (i := 5) (N := some 137) (v := ?_) (a' := ?_) #[true, true, true, true, true, true, false, false, false, false, false, false, false] rfl rfl (by kernel_rfl) (fun _ _ _ h => h) (Or.inl ⟨by rfl, ?_⟩) hHeld ?_ ?_
              rotate_left
              · rintro w' ⟨s0, s1', s2, s3, s4, s5, s6⟩
                go_simp
                with_reducible rfl
              rotate_left
              · simp only [putAll, Act.put, List.setIfInBounds_toArray, List.set_cons_zero, List.set_cons_succ]
                rfl
              refine join_ 2 #[true, true, true, true, true, true, true, true, true, true, true, false, false] (fun q : Nat => [(138, .tuple #[.agg #[.int .i64 y0, .int .i64 y1, .int .i64 y2, .int .i64 y3, .int .i64 y4, .int .u64 y5], .int .i64 ee]), (131, .tuple #[.agg #[.int .i64 y0, .int .i64 y1, .int .i64 y2, .int .i64 y3, .int .i64 y4, .int .u64 y5], .int .i64 ee]), (139, .agg #[.int .i64 y0, .int .i64 y1, .int .i64 y2, .int .i64 y3, .int .i64 y4, .int .u64 y5]), (140, .int .i64 ee), (19, .pointer (some ⟨q, 0, none⟩))]) (fun q w' => ∃ G2, Two kd kb kr w.heap.size g w w' s1 s1.N s1.D ⟨x0, x1, x2, x3, x4, x5⟩ F2 G2 ∧ w'.heap[q]? = some (.cells #[.int .i64 0, .int .i64 0, .int .i64 0, .int .i64 0, .int .i64 0, .int .u64 0] 35 (0, 0)) ∧ ¬ F2 q ∧ ¬ G2 q ∧ g ≠ q ∧ w.heap.size ≤ q ∧ w'.heap[q1]? = some (.cells #[.int .i64 y0, .int .i64 y1, .int .i64 y2, .int .i64 y3, .int .i64 y4, .int .u64 y5] 35 (0, 0)) ∧ q1 ≠ q) ?_ (fun hcont => ?_)
              · intro q2 w3 hf
                obtain ⟨G2, hT3, hQ3, hNF3, hNG3, hgq2, hqB, hQ1, hqq⟩ := hf
                clear hHeld HT HQ1
                have qf0 : w3.frozen? ⟨q2, 0, none⟩ = false := blk_frozen hQ3 0
                have qf1 : w3.frozen? ⟨q2, 1, none⟩ = false := blk_frozen hQ3 1
                have qf2 : w3.frozen? ⟨q2, 2, none⟩ = false := blk_frozen hQ3 2
                have qf3 : w3.frozen? ⟨q2, 3, none⟩ = false := blk_frozen hQ3 3
                have qf4 : w3.frozen? ⟨q2, 4, none⟩ = false := blk_frozen hQ3 4
                have qf5 : w3.frozen? ⟨q2, 5, none⟩ = false := blk_frozen hQ3 5
                have qc0 : w3.cell? ⟨q2, 0, none⟩ = some (.int .i64 0) := (blk_cell hQ3 0).trans rfl
                have qc1 : w3.cell? ⟨q2, 1, none⟩ = some (.int .i64 0) := (blk_cell hQ3 1).trans rfl
                have qc2 : w3.cell? ⟨q2, 2, none⟩ = some (.int .i64 0) := (blk_cell hQ3 2).trans rfl
                have qc3 : w3.cell? ⟨q2, 3, none⟩ = some (.int .i64 0) := (blk_cell hQ3 3).trans rfl
                have qc4 : w3.cell? ⟨q2, 4, none⟩ = some (.int .i64 0) := (blk_cell hQ3 4).trans rfl
                have qc5 : w3.cell? ⟨q2, 5, none⟩ = some (.int .u64 0) := (blk_cell hQ3 5).trans rfl
                refine norm_ (a' := ?_) ?_ ?_
                rotate_left
                · simp only [putAll, Act.put, List.setIfInBounds_toArray, List.set_cons_zero, List.set_cons_succ]
                  rfl
                refine last_ (i := 11) (N := none) #[true, true, true, true, true, true, true, true, true, true, true, true, false] rfl rfl (by kernel_rfl) (by decide) (fun K hK => ?_)
                refine skip_ (w1 := ((((((w3.setCell ⟨q2, 0, none⟩ (.int .i64 y0)).setCell ⟨q2, 1, none⟩ (.int .i64 y1)).setCell ⟨q2, 2, none⟩ (.int .i64 y2)).setCell ⟨q2, 3, none⟩ (.int .i64 y3)).setCell ⟨q2, 4, none⟩ (.int .i64 y4)).setCell ⟨q2, 5, none⟩ (.int .u64 y5))) (by rfl) rfl (by go_simp) ?_
                refine hK.out _ _ ?_
                clear hK K
                clear qf0 qc0 qf1 qc1 qf2 qc2 qf3 qc3 qf4 qc4 qf5 qc5
                have HT4 := Aside0.mk (hT3.far6 hNF3 hNG3 hgq2 hqB (.int .i64 y0) (.int .i64 y1) (.int .i64 y2) (.int .i64 y3) (.int .i64 y4) (.int .u64 y5))
                have HQ4 := Aside0.mk (put6 hQ3 (.int .i64 y0) (.int .i64 y1) (.int .i64 y2) (.int .i64 y3) (.int .i64 y4) (.int .u64 y5))
                have HQ1 := Aside0.mk (far6 hQ1 hqq (.int .i64 y0) (.int .i64 y1) (.int .i64 y2) (.int .i64 y3) (.int .i64 y4) (.int .u64 y5))
                generalize ((((((w3.setCell ⟨q2, 0, none⟩ (.int .i64 y0)).setCell ⟨q2, 1, none⟩ (.int .i64 y1)).setCell ⟨q2, 2, none⟩ (.int .i64 y2)).setCell ⟨q2, 3, none⟩ (.int .i64 y3)).setCell ⟨q2, 4, none⟩ (.int .i64 y4)).setCell ⟨q2, 5, none⟩ (.int .u64 y5)) = w4 at HT4 HQ4 HQ1 ⊢
                have HQQ := Aside0.mk hqq
                have HGQ2 := Aside0.mk hgq2
                clear hT3 hQ3 hNF3 hNG3 hqB hgq2 hQ1 hqq
                refine pure_ (i := 12) (N := some 20) (v := ?_) (a' := ?_) #[true, true, true, true, true, true, true, true, true, true, true, true, true] rfl rfl (by kernel_rfl) (fun _ _ _ h => h) (Or.inl ⟨by rfl, ?_⟩) ?_ ?_
                rotate_left
                · intro w'
                  go_simp
                  with_reducible rfl
                rotate_left
                · simp only [putAll, Act.put, List.setIfInBounds_toArray, List.set_cons_zero, List.set_cons_succ]
                  rfl
                refine done_ (by kernel_rfl) ?_
                have a0 : w4.cell? ⟨g, 0, none⟩ = some (.int .i64 x0) := (blk_cell HT4.out.head 0).trans rfl
                have af0 : w4.frozen? ⟨g, 0, none⟩ = false := blk_frozen HT4.out.head 0
                have a1 : w4.cell? ⟨g, 1, none⟩ = some (.int .i64 x1) := (blk_cell HT4.out.head 1).trans rfl
                have af1 : w4.frozen? ⟨g, 1, none⟩ = false := blk_frozen HT4.out.head 1
                have a2 : w4.cell? ⟨g, 2, none⟩ = some (.int .i64 x2) := (blk_cell HT4.out.head 2).trans rfl
                have af2 : w4.frozen? ⟨g, 2, none⟩ = false := blk_frozen HT4.out.head 2
                have a3 : w4.cell? ⟨g, 3, none⟩ = some (.int .i64 x3) := (blk_cell HT4.out.head 3).trans rfl
                have af3 : w4.frozen? ⟨g, 3, none⟩ = false := blk_frozen HT4.out.head 3
                have a4 : w4.cell? ⟨g, 4, none⟩ = some (.int .i64 x4) := (blk_cell HT4.out.head 4).trans rfl
                have af4 : w4.frozen? ⟨g, 4, none⟩ = false := blk_frozen HT4.out.head 4
                have a5 : w4.cell? ⟨g, 5, none⟩ = some (.int .u64 x5) := (blk_cell HT4.out.head 5).trans rfl
                have af5 : w4.frozen? ⟨g, 5, none⟩ = false := blk_frozen HT4.out.head 5
                have b0 : w4.cell? ⟨q1, 0, none⟩ = some (.int .i64 y0) := (blk_cell HQ1.out 0).trans rfl
                have b1 : w4.cell? ⟨q1, 1, none⟩ = some (.int .i64 y1) := (blk_cell HQ1.out 1).trans rfl
                have b2 : w4.cell? ⟨q1, 2, none⟩ = some (.int .i64 y2) := (blk_cell HQ1.out 2).trans rfl
                have b3 : w4.cell? ⟨q1, 3, none⟩ = some (.int .i64 y3) := (blk_cell HQ1.out 3).trans rfl
                have b4 : w4.cell? ⟨q1, 4, none⟩ = some (.int .i64 y4) := (blk_cell HQ1.out 4).trans rfl
                have b5 : w4.cell? ⟨q1, 5, none⟩ = some (.int .u64 y5) := (blk_cell HQ1.out 5).trans rfl
                have c0 : w4.cell? ⟨q2, 0, none⟩ = some (.int .i64 y0) := (blk_cell HQ4.out 0).trans rfl
                have c1 : w4.cell? ⟨q2, 1, none⟩ = some (.int .i64 y1) := (blk_cell HQ4.out 1).trans rfl
                have c2 : w4.cell? ⟨q2, 2, none⟩ = some (.int .i64 y2) := (blk_cell HQ4.out 2).trans rfl
                have c3 : w4.cell? ⟨q2, 3, none⟩ = some (.int .i64 y3) := (blk_cell HQ4.out 3).trans rfl
                have c4 : w4.cell? ⟨q2, 4, none⟩ = some (.int .i64 y4) := (blk_cell HQ4.out 4).trans rfl
                have c5 : w4.cell? ⟨q2, 5, none⟩ = some (.int .u64 y5) := (blk_cell HQ4.out 5).trans rfl
                have hgq : ¬ g = q1 := HGQ.out
                have hqg : ¬ q1 = g := Ne.symm HGQ.out
                by_cases he : ee = 0
                · have te : (ee == 0) = true := by simp [he]
                  clear he
                  go_wp2
                  go_meet
                  case rel => exact ⟨s1, F2, G2, y0, y1, y2, y3, y4, y5, ⟨HT4.out.set6 y0 y1 y2 y3 y4 y5⟩, HO2⟩
                · have te : (ee == 0) = false := by simp [he]
                  clear he
                  go_wp2
                  go_meet
                  case rel => exact ⟨s1, F2, G2, x0, x1, x2, x3, x4, x5, ⟨HT4.out⟩, HO2⟩
              refine two_ (i := 6) (j := 10) (Ni := some 138) (Nj := some 19) #[true, true, true, true, true, true, true, false, false, false, false, false, false] #[true, true, true, true, true, true, false, false, false, false, true, false, false] rfl rfl rfl rfl (by kernel_rfl) (by decide) (by decide) (fun K hK => ?_) (fun K hK => ?_)
              · refine call_ 23 #[.agg #[.int .i64 x0, .int .i64 x1, .int .i64 x2, .int .i64 x3, .int .i64 x4, .int .u64 x5], .pointer (some ⟨kr, 0, none⟩), .int .i64 x] (by rfl) rfl (by go_simp) ?_
                refine (Two.rgive HT.out HE.out HFIT.out ⟨HO.out.2.2, by have := HO.out.1.2.2; have := HO.out.2.2; omega⟩ (by have := HO.out.1.2.1; omega)).mono ?_
                rintro e w2 ⟨rfl, G2, hT2, hAl⟩
                refine ⟨.tuple #[.agg #[.int .i64 y0, .int .i64 y1, .int .i64 y2, .int .i64 y3, .int .i64 y4, .int .u64 y5], .int .i64 ee], rfl, ?_⟩
                refine hK.out _ _ ⟨(blk_cell (hT2).head 0).trans rfl, (blk_cell (hT2).head 1).trans rfl, (blk_cell (hT2).head 2).trans rfl, (blk_cell (hT2).head 3).trans rfl, (blk_cell (hT2).head 4).trans rfl, (blk_cell (hT2).head 5).trans rfl, HGX.out _ (hT2).base⟩ (fun hHeld => ?_)
                clear hK K
                refine norm_ (a' := ?_) ?_ ?_
                rotate_left
                · show Act.put _ (some 138) _ = _
                  simp only [putAll, Act.put, List.setIfInBounds_toArray, List.set_cons_zero, List.set_cons_succ]
                  rfl
                refine pure_ (i := 7) (N := some 131) (v := ?_) (a' := ?_) #[true, true, true, true, true, true, true, true, false, false, false, false, false] rfl rfl (by kernel_rfl) (fun _ _ _ h => h) (Or.inl ⟨by rfl, ?_⟩) ?_ ?_
                rotate_left
                · intro w'
                  go_simp
                  with_reducible rfl
                rotate_left
                · simp only [putAll, Act.put, List.setIfInBounds_toArray, List.set_cons_zero, List.set_cons_succ]
                  rfl
                refine pure_ (i := 8) (N := some 139) (v := ?_) (a' := ?_) #[true, true, true, true, true, true, true, true, true, false, false, false, false] rfl rfl (by kernel_rfl) (fun _ _ _ h => h) (Or.inl ⟨by rfl, ?_⟩) ?_ ?_
                rotate_left
                · intro w'
                  go_simp
                  with_reducible rfl
                rotate_left
                · simp only [putAll, Act.put, List.setIfInBounds_toArray, List.set_cons_zero, List.set_cons_succ]
                  rfl
                refine pure_ (i := 9) (N := some 140) (v := ?_) (a' := ?_) #[true, true, true, true, true, true, true, true, true, true, false, false, false] rfl rfl (by kernel_rfl) (fun _ _ _ h => h) (Or.inl ⟨by rfl, ?_⟩) ?_ ?_
                rotate_left
                · intro w'
                  go_simp
                  with_reducible rfl
                rotate_left
                · simp only [putAll, Act.put, List.setIfInBounds_toArray, List.set_cons_zero, List.set_cons_succ]
                  rfl
                refine one_ (i := 10) (N := some 19) #[true, true, true, true, true, true, true, true, true, true, true, false, false] rfl rfl (by kernel_rfl) (by decide) (fun K hK => ?_)
                refine value_ (v := .pointer (some ⟨w2.heap.size, 0, none⟩)) (w1 := w2.alloc (.cells #[.int .i64 0, .int .i64 0, .int .i64 0, .int .i64 0, .int .i64 0, .int .u64 0] 35)) (by rfl) rfl (by go_simp) ?_
                have hT2a := hT2.below (below_alloc (Below.refl _ _) (.cells #[.int .i64 0, .int .i64 0, .int .i64 0, .int .i64 0, .int .i64 0, .int .u64 0] 35))
                refine hK.out _ _ ⟨(blk_cell (hT2a).head 0).trans rfl, (blk_cell (hT2a).head 1).trans rfl, (blk_cell (hT2a).head 2).trans rfl, (blk_cell (hT2a).head 3).trans rfl, (blk_cell (hT2a).head 4).trans rfl, (blk_cell (hT2a).head 5).trans rfl, HGX.out _ (hT2a).base⟩ (fun hHeld => ?_)
                clear hK K
                refine norm_ ?_ (hcont w2.heap.size _ ⟨G2, hT2a, blk_new w2 _, hT2.fresh.1, hT2.fresh.2, Nat.ne_of_lt (blk_lt hT2.head), hT2.size, blk_alloc (hAl _ _ HQ1.out HN1.out.1 HN1.out.2).1 _, Nat.ne_of_lt (blk_lt (hAl _ _ HQ1.out HN1.out.1 HN1.out.2).1)⟩)
                simp only [putAll, Act.put, List.setIfInBounds_toArray, List.set_cons_zero, List.set_cons_succ]
              · refine value_ (v := .pointer (some ⟨wd.heap.size, 0, none⟩)) (w1 := wd.alloc (.cells #[.int .i64 0, .int .i64 0, .int .i64 0, .int .i64 0, .int .i64 0, .int .u64 0] 35)) (by rfl) rfl (by go_simp) ?_
                have hTa := HT.out.below (below_alloc (Below.refl _ _) (.cells #[.int .i64 0, .int .i64 0, .int .i64 0, .int .i64 0, .int .i64 0, .int .u64 0] 35))
                refine hK.out _ _ ⟨(blk_cell (hTa).head 0).trans rfl, (blk_cell (hTa).head 1).trans rfl, (blk_cell (hTa).head 2).trans rfl, (blk_cell (hTa).head 3).trans rfl, (blk_cell (hTa).head 4).trans rfl, (blk_cell (hTa).head 5).trans rfl, HGX.out _ (hTa).base⟩ (fun hHeld => ?_)
                clear hK K
                refine norm_ (a' := ?_) ?_ ?_
                rotate_left
                · show Act.put _ (some 19) _ = _
                  simp only [putAll, Act.put, List.setIfInBounds_toArray, List.set_cons_zero, List.set_cons_succ]
                  rfl
                refine one_ (i := 6) (N := some 138) #[true, true, true, true, true, true, true, false, false, false, true, false, false] rfl rfl (by kernel_rfl) (by decide) (fun K hK => ?_)
                refine call_ 23 #[.agg #[.int .i64 x0, .int .i64 x1, .int .i64 x2, .int .i64 x3, .int .i64 x4, .int .u64 x5], .pointer (some ⟨kr, 0, none⟩), .int .i64 x] (by rfl) rfl (by go_simp) ?_
                refine (Two.rgive hTa HE.out HFIT.out ⟨HO.out.2.2, by have := HO.out.1.2.2; have := HO.out.2.2; omega⟩ (by have := HO.out.1.2.1; omega)).mono ?_
                rintro e w2 ⟨rfl, G2, hT2, hAl⟩
                refine ⟨.tuple #[.agg #[.int .i64 y0, .int .i64 y1, .int .i64 y2, .int .i64 y3, .int .i64 y4, .int .u64 y5], .int .i64 ee], rfl, ?_⟩
                refine hK.out _ _ ⟨(blk_cell (hT2).head 0).trans rfl, (blk_cell (hT2).head 1).trans rfl, (blk_cell (hT2).head 2).trans rfl, (blk_cell (hT2).head 3).trans rfl, (blk_cell (hT2).head 4).trans rfl, (blk_cell (hT2).head 5).trans rfl, HGX.out _ (hT2).base⟩ (fun hHeld => ?_)
                clear hK K
                refine norm_ (a' := ?_) ?_ ?_
                rotate_left
                · show Act.put _ (some 138) _ = _
                  simp only [putAll, Act.put, List.setIfInBounds_toArray, List.set_cons_zero, List.set_cons_succ]
                  rfl
                refine pure_ (i := 7) (N := some 131) (v := ?_) (a' := ?_) #[true, true, true, true, true, true, true, true, false, false, true, false, false] rfl rfl (by kernel_rfl) (fun _ _ _ h => h) (Or.inl ⟨by rfl, ?_⟩) ?_ ?_
                rotate_left
                · intro w'
                  go_simp
                  with_reducible rfl
                rotate_left
                · simp only [putAll, Act.put, List.setIfInBounds_toArray, List.set_cons_zero, List.set_cons_succ]
                  rfl
                refine pure_ (i := 8) (N := some 139) (v := ?_) (a' := ?_) #[true, true, true, true, true, true, true, true, true, false, true, false, false] rfl rfl (by kernel_rfl) (fun _ _ _ h => h) (Or.inl ⟨by rfl, ?_⟩) ?_ ?_
                rotate_left
                · intro w'
                  go_simp
                  with_reducible rfl
                rotate_left
                · simp only [putAll, Act.put, List.setIfInBounds_toArray, List.set_cons_zero, List.set_cons_succ]
                  rfl
                refine pure_ (i := 9) (N := some 140) (v := ?_) (a' := ?_) #[true, true, true, true, true, true, true, true, true, true, true, false, false] rfl rfl (by kernel_rfl) (fun _ _ _ h => h) (Or.inl ⟨by rfl, ?_⟩) ?_ ?_
                rotate_left
                · intro w'
                  go_simp
                  with_reducible rfl
                rotate_left
                · simp only [putAll, Act.put, List.setIfInBounds_toArray, List.set_cons_zero, List.set_cons_succ]
                  rfl
                have hq := hAl _ _ (blk_new wd (.cells #[.int .i64 0, .int .i64 0, .int .i64 0, .int .i64 0, .int .i64 0, .int .u64 0] 35)) HT.out.fresh.1 HT.out.fresh.2
                refine norm_ ?_ (hcont wd.heap.size _ ⟨G2, hT2, hq.1, hq.2.1, hq.2.2, Nat.ne_of_lt (blk_lt HT.out.head), HT.out.size, (hAl _ _ (blk_alloc HQ1.out _) HN1.out.1 HN1.out.2).1, Nat.ne_of_lt (blk_lt HQ1.out)⟩)
                simp only [putAll, Act.put, List.setIfInBounds_toArray, List.set_cons_zero, List.set_cons_succ]
            refine two_ (i := 7) (j := 11) (Ni := some 128) (Nj := some 17) #[true, true, true, true, true, true, true, true, false, false, false, false, false, false] #[true, true, true, true, true, true, true, false, false, false, false, true, false, false] rfl rfl rfl rfl (by kernel_rfl) (by decide) (by decide) (fun K hK => ?_) (fun K hK => ?_)
            · refine call_ 22 #[.agg #[.int .i64 x0, .int .i64 x1, .int .i64 x2, .int .i64 x3, .int .i64 x4, .int .u64 x5], .iface 38 (.pointer (some ⟨kd, 0, none⟩)), .int .i64 x] (by rfl) rfl (by go_simp) ?_
              refine (Two.give HT.out HE.out (by have := HO.out.1.2.1; omega) (by omega) (by omega) (by omega)).mono ?_
              rintro e w2 ⟨rfl, F2, hT2, hAl⟩
              refine ⟨.tuple #[.agg #[.int .i64 y0, .int .i64 y1, .int .i64 y2, .int .i64 y3, .int .i64 y4, .int .u64 y5], .int .i64 ee], rfl, ?_⟩
              refine hK.out _ _ ⟨(blk_cell (hT2).head 0).trans rfl, (blk_cell (hT2).head 1).trans rfl, (blk_cell (hT2).head 2).trans rfl, (blk_cell (hT2).head 3).trans rfl, (blk_cell (hT2).head 4).trans rfl, (blk_cell (hT2).head 5).trans rfl, HGX.out _ (hT2).base⟩ (fun hHeld => ?_)
              clear hK K
              refine norm_ (a' := ?_) ?_ ?_
              rotate_left
              · show Act.put _ (some 128) _ = _
                simp only [putAll, Act.put, List.setIfInBounds_toArray, List.set_cons_zero, List.set_cons_succ]
                rfl
              refine pure_ (i := 8) (N := some 120) (v := ?_) (a' := ?_) #[true, true, true, true, true, true, true, true, true, false, false, false, false, false] rfl rfl (by kernel_rfl) (fun _ _ _ h => h) (Or.inl ⟨by rfl, ?_⟩) ?_ ?_
              rotate_left
              · intro w'
                go_simp
                with_reducible rfl
              rotate_left
              · simp only [putAll, Act.put, List.setIfInBounds_toArray, List.set_cons_zero, List.set_cons_succ]
                rfl
              refine pure_ (i := 9) (N := some 129) (v := ?_) (a' := ?_) #[true, true, true, true, true, true, true, true, true, true, false, false, false, false] rfl rfl (by kernel_rfl) (fun _ _ _ h => h) (Or.inl ⟨by rfl, ?_⟩) ?_ ?_
              rotate_left
              · intro w'
                go_simp
                with_reducible rfl
              rotate_left
              · simp only [putAll, Act.put, List.setIfInBounds_toArray, List.set_cons_zero, List.set_cons_succ]
                rfl
              refine pure_ (i := 10) (N := some 130) (v := ?_) (a' := ?_) #[true, true, true, true, true, true, true, true, true, true, true, false, false, false] rfl rfl (by kernel_rfl) (fun _ _ _ h => h) (Or.inl ⟨by rfl, ?_⟩) ?_ ?_
              rotate_left
              · intro w'
                go_simp
                with_reducible rfl
              rotate_left
              · simp only [putAll, Act.put, List.setIfInBounds_toArray, List.set_cons_zero, List.set_cons_succ]
                rfl
              refine one_ (i := 11) (N := some 17) #[true, true, true, true, true, true, true, true, true, true, true, true, false, false] rfl rfl (by kernel_rfl) (by decide) (fun K hK => ?_)
              refine value_ (v := .pointer (some ⟨w2.heap.size, 0, none⟩)) (w1 := w2.alloc (.cells #[.int .i64 0, .int .i64 0, .int .i64 0, .int .i64 0, .int .i64 0, .int .u64 0] 35)) (by rfl) rfl (by go_simp) ?_
              have hT2a := hT2.below (below_alloc (Below.refl _ _) (.cells #[.int .i64 0, .int .i64 0, .int .i64 0, .int .i64 0, .int .i64 0, .int .u64 0] 35))
              refine hK.out _ _ ⟨(blk_cell (hT2a).head 0).trans rfl, (blk_cell (hT2a).head 1).trans rfl, (blk_cell (hT2a).head 2).trans rfl, (blk_cell (hT2a).head 3).trans rfl, (blk_cell (hT2a).head 4).trans rfl, (blk_cell (hT2a).head 5).trans rfl, HGX.out _ (hT2a).base⟩ (fun hHeld => ?_)
              clear hK K
              refine norm_ ?_ (hcont w2.heap.size _ ⟨F2, hT2a, blk_new w2 _, hT2.fresh.1, hT2.fresh.2, Nat.ne_of_lt (blk_lt hT2.head), hT2.size⟩)
              simp only [putAll, Act.put, List.setIfInBounds_toArray, List.set_cons_zero, List.set_cons_succ]
            · refine value_ (v := .pointer (some ⟨wd.heap.size, 0, none⟩)) (w1 := wd.alloc (.cells #[.int .i64 0, .int .i64 0, .int .i64 0, .int .i64 0, .int .i64 0, .int .u64 0] 35)) (by rfl) rfl (by go_simp) ?_
              have hTa := HT.out.below (below_alloc (Below.refl _ _) (.cells #[.int .i64 0, .int .i64 0, .int .i64 0, .int .i64 0, .int .i64 0, .int .u64 0] 35))
              refine hK.out _ _ ⟨(blk_cell (hTa).head 0).trans rfl, (blk_cell (hTa).head 1).trans rfl, (blk_cell (hTa).head 2).trans rfl, (blk_cell (hTa).head 3).trans rfl, (blk_cell (hTa).head 4).trans rfl, (blk_cell (hTa).head 5).trans rfl, HGX.out _ (hTa).base⟩ (fun hHeld => ?_)
              clear hK K
              refine norm_ (a' := ?_) ?_ ?_
              rotate_left
              · show Act.put _ (some 17) _ = _
                simp only [putAll, Act.put, List.setIfInBounds_toArray, List.set_cons_zero, List.set_cons_succ]
                rfl
              refine one_ (i := 7) (N := some 128) #[true, true, true, true, true, true, true, true, false, false, false, true, false, false] rfl rfl (by kernel_rfl) (by decide) (fun K hK => ?_)
              refine call_ 22 #[.agg #[.int .i64 x0, .int .i64 x1, .int .i64 x2, .int .i64 x3, .int .i64 x4, .int .u64 x5], .iface 38 (.pointer (some ⟨kd, 0, none⟩)), .int .i64 x] (by rfl) rfl (by go_simp) ?_
              refine (Two.give hTa HE.out (by have := HO.out.1.2.1; omega) (by omega) (by omega) (by omega)).mono ?_
              rintro e w2 ⟨rfl, F2, hT2, hAl⟩
              refine ⟨.tuple #[.agg #[.int .i64 y0, .int .i64 y1, .int .i64 y2, .int .i64 y3, .int .i64 y4, .int .u64 y5], .int .i64 ee], rfl, ?_⟩
              refine hK.out _ _ ⟨(blk_cell (hT2).head 0).trans rfl, (blk_cell (hT2).head 1).trans rfl, (blk_cell (hT2).head 2).trans rfl, (blk_cell (hT2).head 3).trans rfl, (blk_cell (hT2).head 4).trans rfl, (blk_cell (hT2).head 5).trans rfl, HGX.out _ (hT2).base⟩ (fun hHeld => ?_)
              clear hK K
              refine norm_ (a' := ?_) ?_ ?_
              rotate_left
              · show Act.put _ (some 128) _ = _
                simp only [putAll, Act.put, List.setIfInBounds_toArray, List.set_cons_zero, List.set_cons_succ]
                rfl
              refine pure_ (i := 8) (N := some 120) (v := ?_) (a' := ?_) #[true, true, true, true, true, true, true, true, true, false, false, true, false, false] rfl rfl (by kernel_rfl) (fun _ _ _ h => h) (Or.inl ⟨by rfl, ?_⟩) ?_ ?_
              rotate_left
              · intro w'
                go_simp
                with_reducible rfl
              rotate_left
              · simp only [putAll, Act.put, List.setIfInBounds_toArray, List.set_cons_zero, List.set_cons_succ]
                rfl
              refine pure_ (i := 9) (N := some 129) (v := ?_) (a' := ?_) #[true, true, true, true, true, true, true, true, true, true, false, true, false, false] rfl rfl (by kernel_rfl) (fun _ _ _ h => h) (Or.inl ⟨by rfl, ?_⟩) ?_ ?_
              rotate_left
              · intro w'
                go_simp
                with_reducible rfl
              rotate_left
              · simp only [putAll, Act.put, List.setIfInBounds_toArray, List.set_cons_zero, List.set_cons_succ]
                rfl
              refine pure_ (i := 10) (N := some 130) (v := ?_) (a' := ?_) #[true, true, true, true, true, true, true, true, true, true, true, true, false, false] rfl rfl (by kernel_rfl) (fun _ _ _ h => h) (Or.inl ⟨by rfl, ?_⟩) ?_ ?_
              rotate_left
              · intro w'
                go_simp
                with_reducible rfl
              rotate_left
              · simp only [putAll, Act.put, List.setIfInBounds_toArray, List.set_cons_zero, List.set_cons_succ]
                rfl
              have hq := hAl _ _ (blk_new wd (.cells #[.int .i64 0, .int .i64 0, .int .i64 0, .int .i64 0, .int .i64 0, .int .u64 0] 35)) HT.out.fresh.1 HT.out.fresh.2
              refine norm_ ?_ (hcont wd.heap.size _ ⟨F2, hT2, hq.1, hq.2.1, hq.2.2, Nat.ne_of_lt (blk_lt HT.out.head), HT.out.size⟩)
              simp only [putAll, Act.put, List.setIfInBounds_toArray, List.set_cons_zero, List.set_cons_succ]
        case rest =>
          clear HT HO HFIT hx
          obtain ⟨s', F', G', x0, x1, x2, x3, x4, x5, HT, HO⟩ := hcut
          obtain ⟨NN, hNN⟩ : ∃ NN, NN = s'.N := ⟨_, rfl⟩
          obtain ⟨DD, hDD⟩ : ∃ DD, DD = s'.D := ⟨_, rfl⟩
          rw [← hNN, ← hDD] at HT
          have HNN := Aside0.mk hNN
          have HDD := Aside0.mk hDD
          clear hNN hDD
          have hk1 : k + 1 ≤ C := by omega
          have hk3 : k < 200 := by omega
          clear hC hk t1 t2 hlt
          go_wp2_with fail
          go_loopw [21] (fun i wr => ∃ j : Nat, j ≤ NN.length ∧ i = .int .i64 j ∧ Aside0 (Two kd kb kr w.heap.size g w wr s' NN DD ⟨x0, x1, x2, x3, x4, x5⟩ F' G')) (fun i _ => NN.length - (intOf i).toNat)
          case atStart => exact ⟨0, Nat.zero_le _, rfl, HT⟩
          case round =>
            clear HT
            obtain ⟨j, hj, rfl, HT⟩ := hrel
            obtain ⟨vN, vD, hR1, hR2, hR3⟩ := HT.out.book.2.2.2
            have hDl := HT.out.book.2.2.1
            obtain ⟨A1, c1, rfl⟩ := Kd.R_slice hR2
            obtain ⟨A2, c2, rfl⟩ := Kd.R_slice hR3
            have hr0 : wr.cell? ⟨kr, 0, none⟩ = some (.slice A1 NN.length c1) := (blk_cell hR1 0).trans rfl
            have hr1 : wr.cell? ⟨kr, 1, none⟩ = some (.slice A2 DD.length c2) := (blk_cell hR1 1).trans rfl
            have hnm := Kd.C_max (Kd.R_reads' hR2).2.2
            by_cases hjl : j < NN.length
            · obtain ⟨ad1, hA1, hy1⟩ := Kd.at_int (Kd.R_reads' hR2).2.2 (j : Int) (by omega) (by omega)
              obtain ⟨ad2, hA2, hy2⟩ := Kd.at_string (Kd.R_reads' hR3).2.2 (j : Int) (by omega) (by omega)
              subst hA1
              subst hA2
              rw [Int.toNat_natCast] at hy1 hy2
              rw [← hDl] at hr1
              obtain ⟨n, hn⟩ : ∃ n, n = rd NN (j : Int) := ⟨_, rfl⟩
              obtain ⟨d, hd⟩ : ∃ d, d = rdOf ByteArray.empty DD (j : Int) := ⟨_, rfl⟩
              have HGB : Aside0 (getB s'.N s'.D n = d) := ⟨by
                rw [hn, hd, ← HNN.out, ← HDD.out]
                exact getB_at (by rw [HNN.out]; exact HO.out.2.1) hDl j hjl⟩
              rw [← hn] at hy1
              rw [← hd] at hy2
              have c1f := Aside0.mk (show wr.cell? ⟨kd, 0, none⟩ = some (.pointer (some ⟨kb, 0, none⟩)) from (blk_cell HT.out.hold.desk.2 0).trans rfl)
              have c2f := Aside0.mk hr0
              have c3f := Aside0.mk hr1
              have c4f := Aside0.mk hy1
              have c5f := Aside0.mk hy2
              clear hR1 hR2 hR3 hDl hn hd hy1 hy2 hr1
              go_wp2_with fail
              clear hr0
              refine start_ (n := 20) (S := fun w' => w'.cell? ⟨kd, 0, none⟩ = some (.pointer (some ⟨kb, 0, none⟩)) ∧ w'.cell? ⟨kr, 0, none⟩ = some (.slice (some ad1) NN.length c1) ∧ w'.cell? ⟨kr, 1, none⟩ = some (.slice (some ad2) NN.length c2) ∧ w'.cell? (ad1.add j) = some (.int .i64 n) ∧ w'.cell? (ad2.add j) = some (.string d)) (ds := []) #[false, false, false, false, false, false, false, false, false, false, false, false, false, false, false, false, false, false, false, false] (by kernel_rfl) rfl rfl ⟨c1f.out, c2f.out, c3f.out, c4f.out, c5f.out⟩ (fun hHeld => ?_)
              replace HT := Aside0.mk (HT.out.below (Below.refl _ _).drew)
              replace c1f := Aside0.mk (show wr.drew.cell? ⟨kd, 0, none⟩ = some (.pointer (some ⟨kb, 0, none⟩)) from c1f.out)
              replace c2f := Aside0.mk (show wr.drew.cell? ⟨kr, 0, none⟩ = some (.slice (some ad1) NN.length c1) from c2f.out)
              replace c3f := Aside0.mk (show wr.drew.cell? ⟨kr, 1, none⟩ = some (.slice (some ad2) NN.length c2) from c3f.out)
              replace c4f := Aside0.mk (show wr.drew.cell? (ad1.add j) = some (.int .i64 n) from c4f.out)
              replace c5f := Aside0.mk (show wr.drew.cell? (ad2.add j) = some (.string d) from c5f.out)
              generalize wr.drew = wd at HT c1f c2f c3f c4f c5f hHeld ⊢
              refine pure_ (i := 0) (N := some 161) (v := ?_) (a' := ?_) #[true, false, false, false, false, false, false, false, false, false, false, false, false, false, false, false, false, false, false, false] rfl rfl (by kernel_rfl) (fun _ _ _ h => h) (Or.inl ⟨by rfl, ?_⟩) ?_ ?_
              rotate_left
              · intro w'
                go_simp
                with_reducible rfl
              rotate_left
              · simp only [Act.put, List.setIfInBounds_toArray, List.set_cons_zero, List.set_cons_succ]
                rfl
              refine pure_ (i := 1) (N := some 162) (v := ?_) (a' := ?_) #[true, true, false, false, false, false, false, false, false, false, false, false, false, false, false, false, false, false, false, false] rfl rfl (by kernel_rfl) (fun _ _ _ h => h) (Or.inl ⟨by rfl, ?_⟩) ?_ ?_
              rotate_left
              · intro w'
                go_simp
                with_reducible rfl
              rotate_left
              · simp only [Act.put, List.setIfInBounds_toArray, List.set_cons_zero, List.set_cons_succ]
                rfl
              refine pure_ (i := 2) (N := some 163) (v := ?_) (a' := ?_) #[true, true, true, false, false, false, false, false, false, false, false, false, false, false, false, false, false, false, false, false] rfl rfl (by kernel_rfl) (fun _ _ _ h => h) (Or.inl ⟨by rfl, ?_⟩) ?_ ?_
              rotate_left
              · intro w'
                go_simp
                with_reducible rfl
              rotate_left
              · simp only [Act.put, List.setIfInBounds_toArray, List.set_cons_zero, List.set_cons_succ]
                rfl
              refine take_ (i := 3) (N := some 164) (v := ?_) (a' := ?_) #[true, true, true, true, false, false, false, false, false, false, false, false, false, false, false, false, false, false, false, false] rfl rfl (by kernel_rfl) (fun _ _ _ h => h) (Or.inl ⟨by rfl, ?_⟩) hHeld ?_ ?_
              rotate_left
              · rintro w' ⟨s0, s1, s2, s3, s4⟩
                go_simp
                with_reducible rfl
              rotate_left
              · simp only [Act.put, List.setIfInBounds_toArray, List.set_cons_zero, List.set_cons_succ]
                rfl
              refine pure_ (i := 4) (N := some 165) (v := ?_) (a' := ?_) #[true, true, true, true, true, false, false, false, false, false, false, false, false, false, false, false, false, false, false, false] rfl rfl (by kernel_rfl) (fun _ _ _ h => h) (Or.inl ⟨by rfl, ?_⟩) ?_ ?_
              rotate_left
              · intro w'
                go_simp
                with_reducible rfl
              rotate_left
              · simp only [Act.put, List.setIfInBounds_toArray, List.set_cons_zero, List.set_cons_succ]
                rfl
              refine pure_ (i := 5) (N := some 166) (v := ?_) (a' := ?_) #[true, true, true, true, true, true, false, false, false, false, false, false, false, false, false, false, false, false, false, false] rfl rfl (by kernel_rfl) (fun _ _ _ h => h) (Or.inl ⟨by rfl, ?_⟩) ?_ ?_
              rotate_left
              · intro w'
                go_simp
                with_reducible rfl
              rotate_left
              · simp only [Act.put, List.setIfInBounds_toArray, List.set_cons_zero, List.set_cons_succ]
                rfl
              refine pure_ (i := 6) (N := some 167) (v := ?_) (a' := ?_) #[true, true, true, true, true, true, true, false, false, false, false, false, false, false, false, false, false, false, false, false] rfl rfl (by kernel_rfl) (fun _ _ _ h => h) (Or.inl ⟨by rfl, ?_⟩) ?_ ?_
              rotate_left
              · intro w'
                go_simp
                with_reducible rfl
              rotate_left
              · simp only [Act.put, List.setIfInBounds_toArray, List.set_cons_zero, List.set_cons_succ]
                rfl
              refine take_ (i := 7) (N := some 168) (v := ?_) (a' := ?_) #[true, true, true, true, true, true, true, true, false, false, false, false, false, false, false, false, false, false, false, false] rfl rfl (by kernel_rfl) (fun _ _ _ h => h) (Or.inl ⟨by rfl, ?_⟩) hHeld ?_ ?_
              rotate_left
              · rintro w' ⟨s0, s1, s2, s3, s4⟩
                go_simp
                with_reducible rfl
              rotate_left
              · simp only [Act.put, List.setIfInBounds_toArray, List.set_cons_zero, List.set_cons_succ]
                rfl
              refine pure_ (i := 8) (N := some 169) (v := ?_) (a' := ?_) #[true, true, true, true, true, true, true, true, true, false, false, false, false, false, false, false, false, false, false, false] rfl rfl (by kernel_rfl) (fun _ _ _ h => h) (Or.inl ⟨by rfl, ?_⟩) ?_ ?_
              rotate_left
              · intro w'
                go_simp
                with_reducible rfl
              rotate_left
              · simp only [Act.put, List.setIfInBounds_toArray, List.set_cons_zero, List.set_cons_succ]
                rfl
              refine pure_ (i := 9) (N := some 170) (v := ?_) (a' := ?_) #[true, true, true, true, true, true, true, true, true, true, false, false, false, false, false, false, false, false, false, false] rfl rfl (by kernel_rfl) (fun _ _ _ h => h) (Or.inl ⟨by rfl, ?_⟩) ?_ ?_
              rotate_left
              · intro w'
                go_simp
                with_reducible rfl
              rotate_left
              · simp only [Act.put, List.setIfInBounds_toArray, List.set_cons_zero, List.set_cons_succ]
                rfl
              refine take_ (i := 10) (N := some 171) (v := ?_) (a' := ?_) #[true, true, true, true, true, true, true, true, true, true, true, false, false, false, false, false, false, false, false, false] rfl rfl (by kernel_rfl) (fun _ _ _ h => h) (Or.inl ⟨by rfl, ?_⟩) hHeld ?_ ?_
              rotate_left
              · rintro w' ⟨s0, s1, s2, s3, s4⟩
                go_simp
                with_reducible rfl
              rotate_left
              · simp only [Act.put, List.setIfInBounds_toArray, List.set_cons_zero, List.set_cons_succ]
                rfl
              refine pure_ (i := 12) (N := some 173) (v := ?_) (a' := ?_) #[true, true, true, true, true, true, true, true, true, true, true, false, true, false, false, false, false, false, false, false] rfl rfl (by kernel_rfl) (fun _ _ _ h => h) (Or.inl ⟨by rfl, ?_⟩) ?_ ?_
              rotate_left
              · intro w'
                go_simp
                with_reducible rfl
              rotate_left
              · simp only [Act.put, List.setIfInBounds_toArray, List.set_cons_zero, List.set_cons_succ]
                rfl
              refine pure_ (i := 13) (N := some 174) (v := ?_) (a' := ?_) #[true, true, true, true, true, true, true, true, true, true, true, false, true, true, false, false, false, false, false, false] rfl rfl (by kernel_rfl) (fun _ _ _ h => h) (Or.inl ⟨by rfl, ?_⟩) ?_ ?_
              rotate_left
              · intro w'
                go_simp
                with_reducible rfl
              rotate_left
              · simp only [Act.put, List.setIfInBounds_toArray, List.set_cons_zero, List.set_cons_succ]
                rfl
              refine pure_ (i := 14) (N := some 175) (v := ?_) (a' := ?_) #[true, true, true, true, true, true, true, true, true, true, true, false, true, true, true, false, false, false, false, false] rfl rfl (by kernel_rfl) (fun _ _ _ h => h) (Or.inl ⟨by rfl, ?_⟩) ?_ ?_
              rotate_left
              · intro w'
                go_simp
                with_reducible rfl
              rotate_left
              · simp only [Act.put, List.setIfInBounds_toArray, List.set_cons_zero, List.set_cons_succ]
                rfl
              refine take_ (i := 15) (N := some 176) (v := ?_) (a' := ?_) #[true, true, true, true, true, true, true, true, true, true, true, false, true, true, true, true, false, false, false, false] rfl rfl (by kernel_rfl) (fun _ _ _ h => h) (Or.inl ⟨by rfl, ?_⟩) hHeld ?_ ?_
              rotate_left
              · rintro w' ⟨s0, s1, s2, s3, s4⟩
                go_simp
                with_reducible rfl
              rotate_left
              · simp only [Act.put, List.setIfInBounds_toArray, List.set_cons_zero, List.set_cons_succ]
                rfl
              refine pure_ (i := 16) (N := some 177) (v := ?_) (a' := ?_) #[true, true, true, true, true, true, true, true, true, true, true, false, true, true, true, true, true, false, false, false] rfl rfl (by kernel_rfl) (fun _ _ _ h => h) (Or.inl ⟨by rfl, ?_⟩) ?_ ?_
              rotate_left
              · intro w'
                go_simp
                with_reducible rfl
              rotate_left
              · simp only [Act.put, List.setIfInBounds_toArray, List.set_cons_zero, List.set_cons_succ]
                rfl
              refine pure_ (i := 17) (N := some 178) (v := ?_) (a' := ?_) #[true, true, true, true, true, true, true, true, true, true, true, false, true, true, true, true, true, true, false, false] rfl rfl (by kernel_rfl) (fun _ _ _ h => h) (Or.inl ⟨by rfl, ?_⟩) ?_ ?_
              rotate_left
              · intro w'
                go_simp
                with_reducible rfl
              rotate_left
              · simp only [Act.put, List.setIfInBounds_toArray, List.set_cons_zero, List.set_cons_succ]
                rfl
              refine take_ (i := 18) (N := some 179) (v := ?_) (a' := ?_) #[true, true, true, true, true, true, true, true, true, true, true, false, true, true, true, true, true, true, true, false] rfl rfl (by kernel_rfl) (fun _ _ _ h => h) (Or.inl ⟨by rfl, ?_⟩) hHeld ?_ ?_
              rotate_left
              · rintro w' ⟨s0, s1, s2, s3, s4⟩
                go_simp
                with_reducible rfl
              rotate_left
              · simp only [Act.put, List.setIfInBounds_toArray, List.set_cons_zero, List.set_cons_succ]
                rfl
              refine one_ (i := 11) (N := some 172) #[true, true, true, true, true, true, true, true, true, true, true, true, true, true, true, true, true, true, true, false] rfl rfl (by kernel_rfl) (by decide) (fun K hK => ?_)
              refine call_ 24 #[.pointer (some ⟨kb, 0, none⟩), .int .i64 n] (by rfl) rfl (by go_simp) ?_
              refine (bookGet_calls kb _ s'.N s'.D n _ (DeskAt.book HT.out.hold.1)).mono ?_
              rintro e w5 ⟨rfl, hb5⟩
              refine ⟨.string d, by rw [HGB.out], ?_⟩
              replace HT := Aside0.mk (HT.out.below hb5)
              have gk := fun {a : Addr} {v : Value} (h : wd.cell? a = some v) => (hb5.cell (World.block_lt_of_cell? wd _ h)).trans h
              refine hK.out _ _ ⟨gk c1f.out, gk c2f.out, gk c3f.out, gk c4f.out, gk c5f.out⟩ (fun hHeld => ?_)
              clear hK K c1f c2f c3f c4f c5f gk hb5
              refine norm_ (a' := ?_) ?_ ?_
              rotate_left
              · show Act.put _ (some 172) _ = _
                simp only [Act.put, List.setIfInBounds_toArray, List.set_cons_zero, List.set_cons_succ]
                rfl
              refine pure_ (i := 19) (N := some 180) (v := ?_) (a' := ?_) #[true, true, true, true, true, true, true, true, true, true, true, true, true, true, true, true, true, true, true, true] rfl rfl (by kernel_rfl) (fun _ _ _ h => h) (Or.inl ⟨by rfl, ?_⟩) ?_ ?_
              rotate_left
              · intro w'
                go_simp
                with_reducible rfl
              rotate_left
              · simp only [Act.put, List.setIfInBounds_toArray, List.set_cons_zero, List.set_cons_succ]
                rfl
              refine done_ (by kernel_rfl) ?_
              clear hHeld
              go_wp2
              go_roundw
              case rel => exact ⟨j + 1, by omega, by go_num, HT⟩
              case measure => simp only [intOf]; omega
            · clear hR1 hR2 hR3 hDl hr1
              have hjj : j = NN.length := by omega
              subst hjj
              clear hj hjl
              have a0 : wr.cell? ⟨g, 0, none⟩ = some (.int .i64 x0) := (blk_cell HT.out.head 0).trans rfl
              have a1 : wr.cell? ⟨g, 1, none⟩ = some (.int .i64 x1) := (blk_cell HT.out.head 1).trans rfl
              have a2 : wr.cell? ⟨g, 2, none⟩ = some (.int .i64 x2) := (blk_cell HT.out.head 2).trans rfl
              have a3 : wr.cell? ⟨g, 3, none⟩ = some (.int .i64 x3) := (blk_cell HT.out.head 3).trans rfl
              have a4 : wr.cell? ⟨g, 4, none⟩ = some (.int .i64 x4) := (blk_cell HT.out.head 4).trans rfl
              have a5 : wr.cell? ⟨g, 5, none⟩ = some (.int .u64 x5) := (blk_cell HT.out.head 5).trans rfl
              go_wp2_with fail
              refine (fit_calls ⟨x0, x1, x2, x3, x4, x5⟩ wr).mono ?_
              rintro e w6 ⟨rfl, hb6⟩
              replace HT := Aside0.mk (HT.out.below hb6)
              clear hb6 hr0 a0 a1 a2 a3 a4 a5
              by_cases hfit : FitP ⟨x0, x1, x2, x3, x4, x5⟩
              · rw [decide_eq_true hfit]
                have HFIT := Aside0.mk hfit
                clear hfit
                go_wp2
                go_roundw
                case rel => exact ⟨k + 1, s', F', G', x0, x1, x2, x3, x4, x5, by omega, by omega, by go_num, ⟨by rw [← HNN.out, ← HDD.out]; exact HT.out⟩, HO, HFIT⟩
                case measure => simp only [intOf]; omega
              · rw [decide_eq_false hfit]
                clear hfit
                go_wp2
                go_ret
                exact ⟨rfl, HT.out.base⟩
      · have hkc : al.length ≤ k ∨ (k < al.length ∧ 200 ≤ k) := by omega
        clear hC hlt
        obtain ⟨vN, vD, hR1, hR2, hR3⟩ := HT.out.book.2.2.2
        obtain ⟨vN', vD', hS1, hS2, hS3⟩ := (DeskAt.book HT.out.hold.1).2.2.2
        obtain ⟨A1, c1, rfl⟩ := Kd.R_slice hR2
        obtain ⟨A2, c2, rfl⟩ := Kd.R_slice hS2
        have hk0 : wr.cell? ⟨kd, 0, none⟩ = some (.pointer (some ⟨kb, 0, none⟩)) := (blk_cell HT.out.hold.desk.2 0).trans rfl
        have hb0 : wr.cell? ⟨kb, 0, none⟩ = some (.slice A2 s.N.length c2) := (blk_cell hS1 0).trans rfl
        have hr0 : wr.cell? ⟨kr, 0, none⟩ = some (.slice A1 s.N.length c1) := (blk_cell hR1 0).trans rfl
        clear hR1 hR2 hR3 hS1 hS2 hS3
        rcases hkc with hkc | hkc
        · have t1 : decide ((k : Int) < (al.length : Int)) = false := decide_eq_false (by omega)
          go_wp2_with fail
          go_quiet (fail)
          go_wp2
          go_ret
          exact ⟨rfl, pw_below_drewN HT.out.base _⟩
        · have t1 : decide ((k : Int) < (al.length : Int)) = true := decide_eq_true (by omega)
          have t2 : decide ((k : Int) < 200) = false := decide_eq_false (by omega)
          go_wp2_with fail
          go_quiet (fail)
          go_wp2
          go_ret
          exact ⟨rfl, pw_below_drewN HT.out.base _⟩
  obtain ⟨C, hC⟩ : ∃ C, C = min pl.length 20 := ⟨_, rfl⟩
  go_wp2_with fail
  go_loopw [9] (fun i wr => ∃ (k : Nat) (s : Desk) (F G : Nat → Prop), k ≤ C ∧ k ≤ 20 ∧ i = .int .i64 k ∧ Aside0 (Two kd kb kr w.heap.size g w wr s s.N s.D ⟨m, p, t, sp, r, ch⟩ F G) ∧ Aside0 (DeskOk kd kb (1000 - k) s)) (fun i _ => C - (intOf i).toNat)
  case atStart => exact ⟨0, Desk.new, F, _, Nat.zero_le _, Nat.zero_le _, rfl, HT, ⟨⟨desk_new_ok2 kd kb, by simp [Desk.new], by simp [Desk.new]⟩⟩⟩
  case round =>
    clear HT
    obtain ⟨k, s, F, G, hk, hk20, rfl, HT, HO⟩ := hrel
    by_cases hlt : k < C
    · obtain ⟨ad, hA, hx0, hx1⟩ := pages_at (Kd.C_below HPL.out HT.out.base) k (by omega)
      subst hA
      obtain ⟨n, hn⟩ : ∃ n, n = (pl.getD k (0, ByteArray.empty)).1 := ⟨_, rfl⟩
      obtain ⟨d, hd⟩ : ∃ d, d = (pl.getD k (0, ByteArray.empty)).2 := ⟨_, rfl⟩
      rw [← hn] at hx0
      rw [← hd] at hx1
      have HN := Aside0.mk hn
      have HD := Aside0.mk hd
      clear hn hd
      have t1 : decide ((k : Int) < (pl.length : Int)) = true := decide_eq_true (by omega)
      have t2 : decide ((k : Int) < 20) = true := decide_eq_true (by omega)
      by_cases h232 : d.size = 232
      · have t3 : ((d.size : Int) != 232) = false := by simp [h232]
        have hk0 : wr.cell? ⟨kd, 0, none⟩ = some (.pointer (some ⟨kb, 0, none⟩)) := (blk_cell HT.out.hold.desk.2 0).trans rfl
        have hNk : s.N.length < 1048576 := by have := HO.out.1.2.1; omega
        have HNK := Aside0.mk hNk
        clear hNk
        go_wp2_with fail
        go_still_tail 14, (by kernel_rfl)
        change wpList _ _ _ _ _ wr.drew
        replace HT := Aside0.mk (HT.out.below (Below.refl _ _).drew)
        generalize wr.drew = wx at HT ⊢
        go_wp2_with fail
        refine (bookPut_calls kb _ s.N s.D n d wx (DeskAt.book HT.out.hold.1) HNK.out).mono ?_
        rintro e w6 ⟨rfl, hA6, hR6⟩
        obtain ⟨F6, hT6⟩ := HT.out.putd hA6 hR6
        replace HT := Aside0.mk hT6
        clear hA6 hR6 hT6 hx0 hx1 hk0
        obtain ⟨ad', hA, hx0, hx1⟩ := pages_at (Kd.C_below HPL.out HT.out.base) k (by omega)
        cases hA
        rw [← HN.out] at hx0
        rw [← HD.out] at hx1
        go_wp2_with fail
        go_still_tail 11, (by kernel_rfl)
        change wpList _ _ _ _ _ w6.drew
        replace HT := Aside0.mk (HT.out.below (Below.refl _ _).drew)
        generalize w6.drew = wy at HT ⊢
        go_wp2_with fail
        refine (bookPut_calls kr G s.N s.D n d wy HT.out.book HNK.out).mono ?_
        rintro e w7 ⟨rfl, hA7, hR7⟩
        obtain ⟨G7, hT7⟩ := HT.out.putb hA7 hR7
        replace HT := Aside0.mk hT7
        clear hA7 hR7 hT7 hx0 hx1
        go_wp2
        go_roundw
        case rel => exact ⟨k + 1, ⟨putN s.N n, putD s.N s.D n d, s.left⟩, F6, G7, by omega, by omega, by go_num, HT, ⟨DeskOk.put (k := 1000 - (k + 1)) (by have := HO.out; rwa [show 1000 - k = 1000 - (k + 1) + 1 by omega] at this) n d⟩⟩
        case measure => simp only [intOf]; omega
      · have t3 : ((d.size : Int) != 232) = true := by simp; omega
        go_wp2
        go_ret
        exact ⟨rfl, HT.out.base⟩
    · have hkc : pl.length ≤ k ∨ (k < pl.length ∧ 20 ≤ k) := by omega
      clear hC hlt
      have HO5 := Aside0.mk (HO.out.le (show 500 ≤ 1000 - k by omega))
      rcases hkc with hkc | hkc
      · have t1 : decide ((k : Int) < (pl.length : Int)) = false := decide_eq_false (by omega)
        go_wp2
        go_meet
        case rel => exact ⟨s, F, G, HT, HO5⟩
      · have t1 : decide ((k : Int) < (pl.length : Int)) = true := decide_eq_true (by omega)
        have t2 : decide ((k : Int) < 20) = false := decide_eq_false (by omega)
        go_wp2
        go_meet
        case rel => exact ⟨s, F, G, HT, HO5⟩
end Go.Proofs.Ytonbipaajhokfaa
