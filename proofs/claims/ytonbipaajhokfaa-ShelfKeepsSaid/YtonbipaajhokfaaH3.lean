/-
  Walks: a shelf's Get, Put, Free, New, Head, Arm; shelf.New.
-/
import Derived.Test.YtonbipaajhokfaaH2
set_option linter.unusedVariables false
set_option linter.unusedSimpArgs false
namespace Go.Proofs.Ytonbipaajhokfaa
open Go.RowKit Go.Proofs.YtonbipaajhokfaaW.PrintWords Go.Proofs.YtonbipaajhokfaaW.PrintLast Go.Proofs.YtonbipaajhokfaaW.PrintMore

theorem ShAt.ne {ks mb : Nat} {w : World} {s : Sh} (h : ShAt ks mb w s) : ks ≠ mb := fun e => by
  obtain ⟨es, clock, h1, -⟩ := h.2
  have := h.1
  rw [e, h1] at this
  cases this
theorem ShAt.lt {ks mb : Nat} {w : World} {s : Sh} (h : ShAt ks mb w s) : ks < w.heap.size := blk_lt h.1
def Sh.get (s : Sh) (n : Int) : ByteArray × Int := if s.beg n ≠ 0 then (⟨#[]⟩, s.beg n) else (readB s.f n, 0)
def Sh.put (s : Sh) (n : Int) (d : ByteArray) : Sh × Int := if s.beg n ≠ 0 then (s, s.beg n) else if d.size ≠ 232 then (s, 1) else (⟨s.limit, s.hd, upd s.f n d, s.left⟩, 0)
set_option maxHeartbeats 2000000 in
set_option maxRecDepth 100000 in
theorem shGet_calls (ks mb : Nat) (s : Sh) (n : Int) (w : World) (h : ShAt ks mb w s) (hl : s.left ≤ 0) :
    Calls Try.prog 31 #[.pointer (some ⟨ks, 0, none⟩), .int .i64 n] w fun e w' => e = .returned (.tuple #[.string (s.get n).1, .int .i64 (s.get n).2]) ∧ Below w.heap.size w w' := by
  have H := Aside0.mk h
  have HBC := Aside0.mk (fun W hW => begin_calls ks mb s n W hW hl)
  by_cases hb : s.beg n = 0
  · have HG := Aside0.mk (show s.get n = (readB s.f n, 0) by unfold Sh.get; rw [if_neg (by simp [hb])])
    rw [hb] at HBC
    clear h hl hb
    go_enter Try.func31, Try.ntmps31
    go_wp2_with fail
    refine (HBC.out w H.out).mono ?_
    rintro e w1 ⟨rfl, hb1⟩
    replace H := Aside0.mk (H.out.below hb1)
    have a7 : w1.cell? ⟨ks, 7, none⟩ = some (.map (some mb)) := (blk_cell H.out.1 7).trans rfl
    have HB1 := Aside0.mk hb1
    clear hb1 HBC
    go_wp2_with fail
    refine (mapGet_calls mb s.f n w1 H.out.2).mono ?_
    rintro e w2 ⟨rfl, hb2⟩
    clear a7
    go_wp2
    go_ret2
    exact ⟨by rw [HG.out]; rfl, HB1.out.trans (hb2.mono HB1.out.size)⟩
  · have HG := Aside0.mk (show s.get n = (⟨#[]⟩, s.beg n) by unfold Sh.get; rw [if_pos hb])
    obtain ⟨b, hbb⟩ : ∃ b, b = s.beg n := ⟨_, rfl⟩
    rw [← hbb] at HBC hb HG
    have t0 : (b != 0) = true := by simp [hb]
    clear h hl hb hbb
    go_enter Try.func31, Try.ntmps31
    go_wp2_with fail
    refine (HBC.out w H.out).mono ?_
    rintro e w1 ⟨rfl, hb1⟩
    clear HBC
    go_wp2
    go_ret2
    exact ⟨by rw [HG.out]; rfl, hb1⟩
set_option maxHeartbeats 2000000 in
set_option maxRecDepth 100000 in
theorem shPut_calls (ks mb : Nat) (s : Sh) (n : Int) (d : ByteArray) (w : World) (h : ShAt ks mb w s) (hl : s.left ≤ 0) :
    Calls Try.prog 30 #[.pointer (some ⟨ks, 0, none⟩), .int .i64 n, .string d] w fun e w' => e = .returned (.int .i64 (s.put n d).2) ∧ ShAt ks mb w' (s.put n d).1 ∧ Fr (ShF ks mb) w w' := by
  have H := Aside0.mk h
  have HBC := Aside0.mk (fun W hW => begin_calls ks mb s n W hW hl)
  by_cases hb : s.beg n = 0
  · rw [hb] at HBC
    by_cases h232 : d.size = 232
    · have HG := Aside0.mk (show s.put n d = (⟨s.limit, s.hd, upd s.f n d, s.left⟩, 0) by unfold Sh.put; rw [if_neg (by simp [hb]), if_neg (by simp [h232])])
      have t1 : ((d.size : Int) != 232) = false := by simp [h232]
      clear h hl hb
      go_enter Try.func30, Try.ntmps30
      go_wp2_with fail
      refine (HBC.out w H.out).mono ?_
      rintro e w1 ⟨rfl, hb1⟩
      replace H := Aside0.mk (H.out.below hb1)
      have a7 : w1.cell? ⟨ks, 7, none⟩ = some (.map (some mb)) := (blk_cell H.out.1 7).trans rfl
      have HB1 := Aside0.mk hb1
      clear hb1 HBC
      go_wp2_with fail
      refine (mapPut_calls mb s.f n d w1 H.out.2).mono ?_
      rintro e w2 ⟨rfl, hm2, ht2⟩
      have HM := Aside0.mk hm2
      have HT2 := Aside0.mk ht2
      clear a7 hm2 ht2
      go_wp2
      go_ret
      exact ⟨by rw [HG.out]; rfl, by rw [HG.out]; exact ⟨(HT2.out.block ks H.out.ne).trans H.out.1, HM.out⟩, (Fr.of_below HB1.out).trans (HT2.out.fr (F := ShF ks mb) (Or.inr rfl)) (fun _ _ h => h)⟩
    · have HG := Aside0.mk (show s.put n d = (s, 1) by unfold Sh.put; rw [if_neg (by simp [hb]), if_pos h232])
      have t1 : ((d.size : Int) != 232) = true := by simp; omega
      clear h hl hb
      go_enter Try.func30, Try.ntmps30
      go_wp2_with fail
      refine (HBC.out w H.out).mono ?_
      rintro e w1 ⟨rfl, hb1⟩
      have HB1 := Aside0.mk hb1
      clear HBC hb1
      go_wp2
      go_ret
      exact ⟨by rw [HG.out]; rfl, by rw [HG.out]; exact H.out.below HB1.out, Fr.of_below HB1.out⟩
  · have HG := Aside0.mk (show s.put n d = (s, s.beg n) by unfold Sh.put; rw [if_pos hb])
    obtain ⟨b, hbb⟩ : ∃ b, b = s.beg n := ⟨_, rfl⟩
    rw [← hbb] at HBC hb HG
    have t0 : (b != 0) = true := by simp [hb]
    clear h hl hb hbb
    go_enter Try.func30, Try.ntmps30
    go_wp2_with fail
    refine (HBC.out w H.out).mono ?_
    rintro e w1 ⟨rfl, hb1⟩
    have HB1 := Aside0.mk hb1
    clear HBC hb1
    go_wp2
    go_ret
    exact ⟨by rw [HG.out]; rfl, by rw [HG.out]; exact H.out.below HB1.out, Fr.of_below HB1.out⟩
def Sh.bd (s : Sh) : Prop := 0 ≤ s.hd.pages ∧ s.hd.pages ≤ 4096 ∧ 0 ≤ s.hd.spare ∧ s.hd.spare ≤ 4096
def Sh.free (mb : Nat) (s : Sh) (n : Int) : Sh × Int :=
  if s.beg n ≠ 0 then (s, s.beg n) else if ((mapShop mb).give s.f s.hd n).2.2 = 0 then (⟨s.limit, ((mapShop mb).give s.f s.hd n).2.1, ((mapShop mb).give s.f s.hd n).1, s.left⟩, 0)
  else (⟨s.limit, s.hd, ((mapShop mb).give s.f s.hd n).1, s.left⟩, ((mapShop mb).give s.f s.hd n).2.2)
def Sh.new (mb : Nat) (s : Sh) : Sh × Int × Int :=
  if s.left = 0 then (s, 0, 11) else if s.hd.spare = 0 ∧ s.limit ≤ s.hd.pages then (s, 0, 22)
  else if ((mapShop mb).take s.f s.hd).2.2.2 ≠ 0 then (⟨s.limit, s.hd, ((mapShop mb).take s.f s.hd).1, s.left⟩, 0, ((mapShop mb).take s.f s.hd).2.2.2)
  else (⟨s.limit, ((mapShop mb).take s.f s.hd).2.2.1, upd ((mapShop mb).take s.f s.hd).1 ((mapShop mb).take s.f s.hd).2.1 (bs blankL), s.left⟩, ((mapShop mb).take s.f s.hd).2.1, 0)
theorem ShAt.fr {ks mb : Nat} {w w' : World} {s : Sh} {f' : Int → Option ByteArray} (h : ShAt ks mb w s) (hf : Fr (fun k => k = mb) w w') (hm : MapAt w' mb f') : ShAt ks mb w' ⟨s.limit, s.hd, f', s.left⟩ :=
  ⟨hf.blk h.1 h.ne, hm⟩
theorem shPut6 {ks mb : Nat} {w : World} {lim m p t sp r ch lf : Int} {f : Int → Option ByteArray} (h : ShAt ks mb w ⟨lim, ⟨m, p, t, sp, r, ch⟩, f, lf⟩) (y0 y1 y2 y3 y4 y5 : Int) : ShAt ks mb ((((((w.setCell ⟨ks, 1, none⟩ (.int .i64 y0)).setCell ⟨ks, 2, none⟩ (.int .i64 y1)).setCell ⟨ks, 3, none⟩ (.int .i64 y2)).setCell ⟨ks, 4, none⟩ (.int .i64 y3)).setCell ⟨ks, 5, none⟩ (.int .i64 y4)).setCell ⟨ks, 6, none⟩ (.int .u64 y5)) ⟨lim, ⟨y0, y1, y2, y3, y4, y5⟩, f, lf⟩ :=
  ⟨blk_put (blk_put (blk_put (blk_put (blk_put (blk_put h.1 1 _ rfl) 2 _ rfl) 3 _ rfl) 4 _ rfl) 5 _ rfl) 6 _ rfl,
    h.2.keep (by simp only [Below.heap_setCell _ (⟨ks, 1, none⟩ : Addr) _ mb (Ne.symm h.ne), Below.heap_setCell _ (⟨ks, 2, none⟩ : Addr) _ mb (Ne.symm h.ne), Below.heap_setCell _ (⟨ks, 3, none⟩ : Addr) _ mb (Ne.symm h.ne), Below.heap_setCell _ (⟨ks, 4, none⟩ : Addr) _ mb (Ne.symm h.ne), Below.heap_setCell _ (⟨ks, 5, none⟩ : Addr) _ mb (Ne.symm h.ne), Below.heap_setCell _ (⟨ks, 6, none⟩ : Addr) _ mb (Ne.symm h.ne)])⟩
theorem shFr6 {ks mb : Nat} {w0 w : World} (h : Fr (ShF ks mb) w0 w) (y0 y1 y2 y3 y4 y5 : Value) : Fr (ShF ks mb) w0 ((((((w.setCell ⟨ks, 1, none⟩ (y0)).setCell ⟨ks, 2, none⟩ (y1)).setCell ⟨ks, 3, none⟩ (y2)).setCell ⟨ks, 4, none⟩ (y3)).setCell ⟨ks, 5, none⟩ (y4)).setCell ⟨ks, 6, none⟩ (y5)) :=
  (((((h.setCell (p := ⟨ks, 1, none⟩) (Or.inl (Or.inl rfl)) y0).setCell (p := ⟨ks, 2, none⟩) (Or.inl (Or.inl rfl)) y1).setCell (p := ⟨ks, 3, none⟩) (Or.inl (Or.inl rfl)) y2).setCell (p := ⟨ks, 4, none⟩) (Or.inl (Or.inl rfl)) y3).setCell (p := ⟨ks, 5, none⟩) (Or.inl (Or.inl rfl)) y4).setCell (p := ⟨ks, 6, none⟩) (Or.inl (Or.inl rfl)) y5
theorem frMap {ks mb : Nat} {w w' : World} (h : Fr (fun k => k = mb) w w') : Fr (ShF ks mb) w w' := h.mono (fun k _ hk => Or.inr hk)
theorem ShAt.far {ks mb : Nat} {w : World} {s : Sh} (h : ShAt ks mb w s) {a : Addr} (h1 : ks ≠ a.block) (h2 : mb ≠ a.block) (u : Value) : ShAt ks mb (w.setCell a u) s :=
  ⟨(Below.heap_setCell w a u ks h1).trans h.1, h.2.keep (Below.heap_setCell w a u mb h2)⟩
theorem shFar6 {ks mb q : Nat} {w : World} {s : Sh} (h : ShAt ks mb w s) (h1 : ks ≠ q) (h2 : mb ≠ q) (y0 y1 y2 y3 y4 y5 : Value) : ShAt ks mb ((((((w.setCell ⟨q, 0, none⟩ (y0)).setCell ⟨q, 1, none⟩ (y1)).setCell ⟨q, 2, none⟩ (y2)).setCell ⟨q, 3, none⟩ (y3)).setCell ⟨q, 4, none⟩ (y4)).setCell ⟨q, 5, none⟩ (y5)) s :=
  (((((h.far (a := ⟨q, 0, none⟩) h1 h2 y0).far (a := ⟨q, 1, none⟩) h1 h2 y1).far (a := ⟨q, 2, none⟩) h1 h2 y2).far (a := ⟨q, 3, none⟩) h1 h2 y3).far (a := ⟨q, 4, none⟩) h1 h2 y4).far (a := ⟨q, 5, none⟩) h1 h2 y5
theorem shFrQ {ks mb q : Nat} {w0 w : World} (h : Fr (ShF ks mb) w0 w) (hq : w0.heap.size ≤ q) (y0 y1 y2 y3 y4 y5 : Value) : Fr (ShF ks mb) w0 ((((((w.setCell ⟨q, 0, none⟩ (y0)).setCell ⟨q, 1, none⟩ (y1)).setCell ⟨q, 2, none⟩ (y2)).setCell ⟨q, 3, none⟩ (y3)).setCell ⟨q, 4, none⟩ (y4)).setCell ⟨q, 5, none⟩ (y5)) :=
  (((((h.setCell (p := ⟨q, 0, none⟩) (Or.inr hq) y0).setCell (p := ⟨q, 1, none⟩) (Or.inr hq) y1).setCell (p := ⟨q, 2, none⟩) (Or.inr hq) y2).setCell (p := ⟨q, 3, none⟩) (Or.inr hq) y3).setCell (p := ⟨q, 4, none⟩) (Or.inr hq) y4).setCell (p := ⟨q, 5, none⟩) (Or.inr hq) y5
set_option maxHeartbeats 2000000 in
set_option maxRecDepth 100000 in
theorem shFree_calls (ks mb : Nat) (s : Sh) (n : Int) (w : World) (h : ShAt ks mb w s) (hl : s.left ≤ 0) (hbd : s.bd) :
    Calls Try.prog 29 #[.pointer (some ⟨ks, 0, none⟩), .int .i64 n] w fun e w' => e = .returned (.int .i64 (s.free mb n).2) ∧ ShAt ks mb w' (s.free mb n).1 ∧ Fr (ShF ks mb) w w' := by
  obtain ⟨lim, ⟨m, p, t, sp, r, ch⟩, f, lf⟩ := s
  have hbd2 : 0 ≤ p ∧ p ≤ 4096 ∧ 0 ≤ sp ∧ sp ≤ 4096 := hbd
  obtain ⟨hd1, hd2, hd3, hd4⟩ := hbd2
  have hl' : lf ≤ 0 := hl
  have H := Aside0.mk h
  have HBC := Aside0.mk (fun W hW => begin_calls ks mb (⟨lim, ⟨m, p, t, sp, r, ch⟩, f, lf⟩ : Sh) n W hW hl)
  by_cases hb : (⟨lim, ⟨m, p, t, sp, r, ch⟩, f, lf⟩ : Sh).beg n = 0
  · rw [hb] at HBC
    obtain ⟨gv, hgv⟩ : ∃ gv, gv = (mapShop mb).give f ⟨m, p, t, sp, r, ch⟩ n := ⟨_, rfl⟩
    have hgc := fun W hW => mgive_calls mb f ⟨m, p, t, sp, r, ch⟩ n W hW hd1 hd2 hd3
    rw [← hgv] at hgc
    by_cases he : gv.2.2 = 0
    · have HG := Aside0.mk (show (⟨lim, ⟨m, p, t, sp, r, ch⟩, f, lf⟩ : Sh).free mb n = (⟨lim, gv.2.1, gv.1, lf⟩, 0) by unfold Sh.free; rw [if_neg (by simp [hb])]; show (if ((mapShop mb).give f ⟨m, p, t, sp, r, ch⟩ n).2.2 = 0 then _ else _) = _; rw [← hgv, if_pos he])
      clear hgv
      obtain ⟨f', ⟨y0, y1, y2, y3, y4, y5⟩, ee⟩ := gv
      dsimp only at he hgc HG
      have te : (ee == 0) = true := by simp [he]
      have HE0 := Aside0.mk he
      have HGC := Aside0.mk hgc
      clear h hl hb hbd hl' hgc he
      go_enter Try.func29, Try.ntmps29
      go_wp2_with fail
      refine (HBC.out w H.out).mono ?_
      rintro e w1 ⟨rfl, hb1⟩
      replace H := Aside0.mk (H.out.below hb1)
      have HRW := Aside0.mk (Fr.of_below (F := ShF ks mb) hb1)
      clear hb1 HBC
      have a0 : w1.cell? ⟨ks, 0, none⟩ = some (.int .i64 lim) := (blk_cell H.out.1 0).trans rfl
      have a1 : w1.cell? ⟨ks, 1, none⟩ = some (.int .i64 m) := (blk_cell H.out.1 1).trans rfl
      have a2 : w1.cell? ⟨ks, 2, none⟩ = some (.int .i64 p) := (blk_cell H.out.1 2).trans rfl
      have a3 : w1.cell? ⟨ks, 3, none⟩ = some (.int .i64 t) := (blk_cell H.out.1 3).trans rfl
      have a4 : w1.cell? ⟨ks, 4, none⟩ = some (.int .i64 sp) := (blk_cell H.out.1 4).trans rfl
      have a5 : w1.cell? ⟨ks, 5, none⟩ = some (.int .i64 r) := (blk_cell H.out.1 5).trans rfl
      have a6 : w1.cell? ⟨ks, 6, none⟩ = some (.int .u64 ch) := (blk_cell H.out.1 6).trans rfl
      have a7 : w1.cell? ⟨ks, 7, none⟩ = some (.map (some mb)) := (blk_cell H.out.1 7).trans rfl
      have a8 : w1.cell? ⟨ks, 8, none⟩ = some (.int .i64 lf) := (blk_cell H.out.1 8).trans rfl
      go_wp2_with fail
      clear a0 a1 a2 a3 a4 a5 a6 a7 a8
      refine start_ (n := 17) (S := fun w' => w'.cell? ⟨ks, 1, none⟩ = some (.int .i64 m) ∧ w'.cell? ⟨ks, 2, none⟩ = some (.int .i64 p) ∧ w'.cell? ⟨ks, 3, none⟩ = some (.int .i64 t) ∧ w'.cell? ⟨ks, 4, none⟩ = some (.int .i64 sp) ∧ w'.cell? ⟨ks, 5, none⟩ = some (.int .i64 r) ∧ w'.cell? ⟨ks, 6, none⟩ = some (.int .u64 ch) ∧ w'.cell? ⟨ks, 7, none⟩ = some (.map (some mb))) (ds := [15]) #[false, false, false, false, false, false, false, false, false, false, false, false, false, false, false, false, false] (by kernel_rfl) rfl rfl ⟨(blk_cell (H.out.below (Below.refl _ _).drew).1 1).trans rfl, (blk_cell (H.out.below (Below.refl _ _).drew).1 2).trans rfl, (blk_cell (H.out.below (Below.refl _ _).drew).1 3).trans rfl, (blk_cell (H.out.below (Below.refl _ _).drew).1 4).trans rfl, (blk_cell (H.out.below (Below.refl _ _).drew).1 5).trans rfl, (blk_cell (H.out.below (Below.refl _ _).drew).1 6).trans rfl, (blk_cell (H.out.below (Below.refl _ _).drew).1 7).trans rfl⟩ (fun hHeld => ?_)
      replace H := Aside0.mk (H.out.below (Below.refl _ _).drew)
      replace HRW := Aside0.mk (Fr.then_below HRW.out (Below.refl _ _).drew)
      generalize w1.drew = wd at H HRW hHeld ⊢
      refine pure_ (i := 0) (N := some 15) (v := ?_) (a' := ?_) #[true, false, false, false, false, false, false, false, false, false, false, false, false, false, false, false, false] rfl rfl (by kernel_rfl) (fun _ _ _ h => h) (Or.inl ⟨by rfl, ?_⟩) ?_ ?_
      rotate_left
      · intro w'
        go_simp
        with_reducible rfl
      rotate_left
      · simp only [putAll, Act.put, List.setIfInBounds_toArray, List.set_cons_zero, List.set_cons_succ]
        rfl
      refine pure_ (i := 1) (N := some 16) (v := ?_) (a' := ?_) #[true, true, false, false, false, false, false, false, false, false, false, false, false, false, false, false, false] rfl rfl (by kernel_rfl) (fun _ _ _ h => h) (Or.inl ⟨by rfl, ?_⟩) ?_ ?_
      rotate_left
      · intro w'
        go_simp
        with_reducible rfl
      rotate_left
      · simp only [putAll, Act.put, List.setIfInBounds_toArray, List.set_cons_zero, List.set_cons_succ]
        rfl
      refine pure_ (i := 2) (N := some 17) (v := ?_) (a' := ?_) #[true, true, true, false, false, false, false, false, false, false, false, false, false, false, false, false, false] rfl rfl (by kernel_rfl) (fun _ _ _ h => h) (Or.inl ⟨by rfl, ?_⟩) ?_ ?_
      rotate_left
      · intro w'
        go_simp
        with_reducible rfl
      rotate_left
      · simp only [putAll, Act.put, List.setIfInBounds_toArray, List.set_cons_zero, List.set_cons_succ]
        rfl
      refine pure_ (i := 4) (N := some 19) (v := ?_) (a' := ?_) #[true, true, true, false, true, false, false, false, false, false, false, false, false, false, false, false, false] rfl rfl (by kernel_rfl) (fun _ _ _ h => h) (Or.inl ⟨by rfl, ?_⟩) ?_ ?_
      rotate_left
      · intro w'
        go_simp
        with_reducible rfl
      rotate_left
      · simp only [putAll, Act.put, List.setIfInBounds_toArray, List.set_cons_zero, List.set_cons_succ]
        rfl
      refine pure_ (i := 5) (N := some 20) (v := ?_) (a' := ?_) #[true, true, true, false, true, true, false, false, false, false, false, false, false, false, false, false, false] rfl rfl (by kernel_rfl) (fun _ _ _ h => h) (Or.inl ⟨by rfl, ?_⟩) ?_ ?_
      rotate_left
      · intro w'
        go_simp
        with_reducible rfl
      rotate_left
      · simp only [putAll, Act.put, List.setIfInBounds_toArray, List.set_cons_zero, List.set_cons_succ]
        rfl
      refine pure_ (i := 6) (N := some 21) (v := ?_) (a' := ?_) #[true, true, true, false, true, true, true, false, false, false, false, false, false, false, false, false, false] rfl rfl (by kernel_rfl) (fun _ _ _ h => h) (Or.inl ⟨by rfl, ?_⟩) ?_ ?_
      rotate_left
      · intro w'
        go_simp
        with_reducible rfl
      rotate_left
      · simp only [putAll, Act.put, List.setIfInBounds_toArray, List.set_cons_zero, List.set_cons_succ]
        rfl
      refine pure_ (i := 9) (N := some 24) (v := ?_) (a' := ?_) #[true, true, true, false, true, true, true, false, false, true, false, false, false, false, false, false, false] rfl rfl (by kernel_rfl) (fun _ _ _ h => h) (Or.inl ⟨by rfl, ?_⟩) ?_ ?_
      rotate_left
      · intro w'
        go_simp
        with_reducible rfl
      rotate_left
      · simp only [putAll, Act.put, List.setIfInBounds_toArray, List.set_cons_zero, List.set_cons_succ]
        rfl
      refine take_ (i := 3) (N := some 18) (v := ?_) (a' := ?_) #[true, true, true, true, true, true, true, false, false, true, false, false, false, false, false, false, false] rfl rfl (by kernel_rfl) (fun _ _ _ h => h) (Or.inl ⟨by rfl, ?_⟩) hHeld ?_ ?_
      rotate_left
      · rintro w' ⟨s1, s2, s3, s4, s5, s6, s7⟩
        go_simp
        with_reducible rfl
      rotate_left
      · simp only [putAll, Act.put, List.setIfInBounds_toArray, List.set_cons_zero, List.set_cons_succ]
        rfl
      refine take_ (i := 7) (N := some 22) (v := ?_) (a' := ?_) #[true, true, true, true, true, true, true, true, false, true, false, false, false, false, false, false, false] rfl rfl (by kernel_rfl) (fun _ _ _ h => h) (Or.inl ⟨by rfl, ?_⟩) hHeld ?_ ?_
      rotate_left
      · rintro w' ⟨s1, s2, s3, s4, s5, s6, s7⟩
        go_simp
        with_reducible rfl
      rotate_left
      · simp only [putAll, Act.put, List.setIfInBounds_toArray, List.set_cons_zero, List.set_cons_succ]
        rfl
      refine pure_ (i := 8) (N := some 23) (v := ?_) (a' := ?_) #[true, true, true, true, true, true, true, true, true, true, false, false, false, false, false, false, false] rfl rfl (by kernel_rfl) (fun _ _ _ h => h) (Or.inl ⟨by rfl, ?_⟩) ?_ ?_
      rotate_left
      · intro w'
        go_simp
        with_reducible rfl
      rotate_left
      · simp only [putAll, Act.put, List.setIfInBounds_toArray, List.set_cons_zero, List.set_cons_succ]
        rfl
      refine join_ 2 #[true, true, true, true, true, true, true, true, true, true, true, true, true, true, true, false, false] (fun q : Nat => [(25, .tuple #[.agg #[.int .i64 y0, .int .i64 y1, .int .i64 y2, .int .i64 y3, .int .i64 y4, .int .u64 y5], .int .i64 ee]), (14, .tuple #[.agg #[.int .i64 y0, .int .i64 y1, .int .i64 y2, .int .i64 y3, .int .i64 y4, .int .u64 y5], .int .i64 ee]), (26, .agg #[.int .i64 y0, .int .i64 y1, .int .i64 y2, .int .i64 y3, .int .i64 y4, .int .u64 y5]), (27, .int .i64 ee), (6, .pointer (some ⟨q, 0, none⟩))]) (fun q w' => ShAt ks mb w' ⟨lim, ⟨m, p, t, sp, r, ch⟩, f', lf⟩ ∧ Fr (ShF ks mb) w w' ∧ w'.heap[q]? = some (.cells #[.int .i64 0, .int .i64 0, .int .i64 0, .int .i64 0, .int .i64 0, .int .u64 0] 35 (0, 0)) ∧ ks ≠ q ∧ mb ≠ q ∧ w.heap.size ≤ q) ?_ (fun hcont => ?_)
      · intro q w3 hf
        obtain ⟨hS3, hR3, hQ3, hksq, hmbq, hqB⟩ := hf
        clear hHeld H HRW
        have qf0 : w3.frozen? ⟨q, 0, none⟩ = false := blk_frozen hQ3 0
        have qf1 : w3.frozen? ⟨q, 1, none⟩ = false := blk_frozen hQ3 1
        have qf2 : w3.frozen? ⟨q, 2, none⟩ = false := blk_frozen hQ3 2
        have qf3 : w3.frozen? ⟨q, 3, none⟩ = false := blk_frozen hQ3 3
        have qf4 : w3.frozen? ⟨q, 4, none⟩ = false := blk_frozen hQ3 4
        have qf5 : w3.frozen? ⟨q, 5, none⟩ = false := blk_frozen hQ3 5
        have qc0 : w3.cell? ⟨q, 0, none⟩ = some (.int .i64 0) := (blk_cell hQ3 0).trans rfl
        have qc1 : w3.cell? ⟨q, 1, none⟩ = some (.int .i64 0) := (blk_cell hQ3 1).trans rfl
        have qc2 : w3.cell? ⟨q, 2, none⟩ = some (.int .i64 0) := (blk_cell hQ3 2).trans rfl
        have qc3 : w3.cell? ⟨q, 3, none⟩ = some (.int .i64 0) := (blk_cell hQ3 3).trans rfl
        have qc4 : w3.cell? ⟨q, 4, none⟩ = some (.int .i64 0) := (blk_cell hQ3 4).trans rfl
        have qc5 : w3.cell? ⟨q, 5, none⟩ = some (.int .u64 0) := (blk_cell hQ3 5).trans rfl
        refine norm_ (a' := ?_) ?_ ?_
        rotate_left
        · simp only [putAll, Act.put, List.setIfInBounds_toArray, List.set_cons_zero, List.set_cons_succ]
          rfl
        refine last_ (i := 15) (N := none) #[true, true, true, true, true, true, true, true, true, true, true, true, true, true, true, true, false] rfl rfl (by kernel_rfl) (by decide) (fun K hK => ?_)
        refine skip_ (w1 := ((((((w3.setCell ⟨q, 0, none⟩ (.int .i64 y0)).setCell ⟨q, 1, none⟩ (.int .i64 y1)).setCell ⟨q, 2, none⟩ (.int .i64 y2)).setCell ⟨q, 3, none⟩ (.int .i64 y3)).setCell ⟨q, 4, none⟩ (.int .i64 y4)).setCell ⟨q, 5, none⟩ (.int .u64 y5))) (by rfl) rfl (by go_simp) ?_
        refine hK.out _ _ ?_
        clear hK K
        clear qf0 qc0 qf1 qc1 qf2 qc2 qf3 qc3 qf4 qc4 qf5 qc5
        have HS4 := Aside0.mk (shFar6 hS3 hksq hmbq (.int .i64 y0) (.int .i64 y1) (.int .i64 y2) (.int .i64 y3) (.int .i64 y4) (.int .u64 y5))
        have HR4 := Aside0.mk (shFrQ hR3 hqB (.int .i64 y0) (.int .i64 y1) (.int .i64 y2) (.int .i64 y3) (.int .i64 y4) (.int .u64 y5))
        have HQ4 := Aside0.mk (put6 hQ3 (.int .i64 y0) (.int .i64 y1) (.int .i64 y2) (.int .i64 y3) (.int .i64 y4) (.int .u64 y5))
        generalize ((((((w3.setCell ⟨q, 0, none⟩ (.int .i64 y0)).setCell ⟨q, 1, none⟩ (.int .i64 y1)).setCell ⟨q, 2, none⟩ (.int .i64 y2)).setCell ⟨q, 3, none⟩ (.int .i64 y3)).setCell ⟨q, 4, none⟩ (.int .i64 y4)).setCell ⟨q, 5, none⟩ (.int .u64 y5)) = w4 at HS4 HR4 HQ4 ⊢
        have HKQ := Aside0.mk hksq
        clear hS3 hR3 hQ3 hqB hksq hmbq
        refine pure_ (i := 16) (N := some 7) (v := ?_) (a' := ?_) #[true, true, true, true, true, true, true, true, true, true, true, true, true, true, true, true, true] rfl rfl (by kernel_rfl) (fun _ _ _ h => h) (Or.inl ⟨by rfl, ?_⟩) ?_ ?_
        rotate_left
        · intro w'
          go_simp
          with_reducible rfl
        rotate_left
        · simp only [putAll, Act.put, List.setIfInBounds_toArray, List.set_cons_zero, List.set_cons_succ]
          rfl
        refine done_ (by kernel_rfl) ?_
        have a0 : w4.cell? ⟨ks, 0, none⟩ = some (.int .i64 lim) := (blk_cell HS4.out.1 0).trans rfl
        have af0 : w4.frozen? ⟨ks, 0, none⟩ = false := blk_frozen HS4.out.1 0
        have a1 : w4.cell? ⟨ks, 1, none⟩ = some (.int .i64 m) := (blk_cell HS4.out.1 1).trans rfl
        have af1 : w4.frozen? ⟨ks, 1, none⟩ = false := blk_frozen HS4.out.1 1
        have a2 : w4.cell? ⟨ks, 2, none⟩ = some (.int .i64 p) := (blk_cell HS4.out.1 2).trans rfl
        have af2 : w4.frozen? ⟨ks, 2, none⟩ = false := blk_frozen HS4.out.1 2
        have a3 : w4.cell? ⟨ks, 3, none⟩ = some (.int .i64 t) := (blk_cell HS4.out.1 3).trans rfl
        have af3 : w4.frozen? ⟨ks, 3, none⟩ = false := blk_frozen HS4.out.1 3
        have a4 : w4.cell? ⟨ks, 4, none⟩ = some (.int .i64 sp) := (blk_cell HS4.out.1 4).trans rfl
        have af4 : w4.frozen? ⟨ks, 4, none⟩ = false := blk_frozen HS4.out.1 4
        have a5 : w4.cell? ⟨ks, 5, none⟩ = some (.int .i64 r) := (blk_cell HS4.out.1 5).trans rfl
        have af5 : w4.frozen? ⟨ks, 5, none⟩ = false := blk_frozen HS4.out.1 5
        have a6 : w4.cell? ⟨ks, 6, none⟩ = some (.int .u64 ch) := (blk_cell HS4.out.1 6).trans rfl
        have af6 : w4.frozen? ⟨ks, 6, none⟩ = false := blk_frozen HS4.out.1 6
        have a7 : w4.cell? ⟨ks, 7, none⟩ = some (.map (some mb)) := (blk_cell HS4.out.1 7).trans rfl
        have af7 : w4.frozen? ⟨ks, 7, none⟩ = false := blk_frozen HS4.out.1 7
        have a8 : w4.cell? ⟨ks, 8, none⟩ = some (.int .i64 lf) := (blk_cell HS4.out.1 8).trans rfl
        have af8 : w4.frozen? ⟨ks, 8, none⟩ = false := blk_frozen HS4.out.1 8
        have b0 : w4.cell? ⟨q, 0, none⟩ = some (.int .i64 y0) := (blk_cell HQ4.out 0).trans rfl
        have b1 : w4.cell? ⟨q, 1, none⟩ = some (.int .i64 y1) := (blk_cell HQ4.out 1).trans rfl
        have b2 : w4.cell? ⟨q, 2, none⟩ = some (.int .i64 y2) := (blk_cell HQ4.out 2).trans rfl
        have b3 : w4.cell? ⟨q, 3, none⟩ = some (.int .i64 y3) := (blk_cell HQ4.out 3).trans rfl
        have b4 : w4.cell? ⟨q, 4, none⟩ = some (.int .i64 y4) := (blk_cell HQ4.out 4).trans rfl
        have b5 : w4.cell? ⟨q, 5, none⟩ = some (.int .u64 y5) := (blk_cell HQ4.out 5).trans rfl
        have hkq : ¬ ks = q := HKQ.out
        have hqk : ¬ q = ks := Ne.symm HKQ.out
        go_wp2
        go_ret
        exact ⟨by rw [HG.out, HE0.out]; rfl, by rw [HG.out]; exact shPut6 HS4.out y0 y1 y2 y3 y4 y5, shFr6 HR4.out _ _ _ _ _ _⟩
      refine two_ (i := 10) (j := 14) (Ni := some 25) (Nj := some 6) #[true, true, true, true, true, true, true, true, true, true, true, false, false, false, false, false, false] #[true, true, true, true, true, true, true, true, true, true, false, false, false, false, true, false, false] rfl rfl rfl rfl (by kernel_rfl) (by decide) (by decide) (fun K hK => ?_) (fun K hK => ?_)
      · refine call_ 22 #[.agg #[.int .i64 m, .int .i64 p, .int .i64 t, .int .i64 sp, .int .i64 r, .int .u64 ch], .iface 90 (.map (some mb)), .int .i64 n] (by rfl) rfl (by go_simp) ?_
        refine (HGC.out wd (H.out).2).mono ?_
        rintro e w2 ⟨rfl, hm2, hf2⟩
        refine ⟨.tuple #[.agg #[.int .i64 y0, .int .i64 y1, .int .i64 y2, .int .i64 y3, .int .i64 y4, .int .u64 y5], .int .i64 ee], rfl, ?_⟩
        have hS2 := ShAt.fr H.out hf2 hm2
        have hR2 := HRW.out.trans (frMap (ks := ks) hf2) (fun _ _ h => h)
        refine hK.out _ _ ⟨(blk_cell (hS2).1 1).trans rfl, (blk_cell (hS2).1 2).trans rfl, (blk_cell (hS2).1 3).trans rfl, (blk_cell (hS2).1 4).trans rfl, (blk_cell (hS2).1 5).trans rfl, (blk_cell (hS2).1 6).trans rfl, (blk_cell (hS2).1 7).trans rfl⟩ (fun hHeld => ?_)
        clear hK K
        refine norm_ (a' := ?_) ?_ ?_
        rotate_left
        · show Act.put _ (some 25) _ = _
          simp only [putAll, Act.put, List.setIfInBounds_toArray, List.set_cons_zero, List.set_cons_succ]
          rfl
        refine pure_ (i := 11) (N := some 14) (v := ?_) (a' := ?_) #[true, true, true, true, true, true, true, true, true, true, true, true, false, false, false, false, false] rfl rfl (by kernel_rfl) (fun _ _ _ h => h) (Or.inl ⟨by rfl, ?_⟩) ?_ ?_
        rotate_left
        · intro w'
          go_simp
          with_reducible rfl
        rotate_left
        · simp only [putAll, Act.put, List.setIfInBounds_toArray, List.set_cons_zero, List.set_cons_succ]
          rfl
        refine pure_ (i := 12) (N := some 26) (v := ?_) (a' := ?_) #[true, true, true, true, true, true, true, true, true, true, true, true, true, false, false, false, false] rfl rfl (by kernel_rfl) (fun _ _ _ h => h) (Or.inl ⟨by rfl, ?_⟩) ?_ ?_
        rotate_left
        · intro w'
          go_simp
          with_reducible rfl
        rotate_left
        · simp only [putAll, Act.put, List.setIfInBounds_toArray, List.set_cons_zero, List.set_cons_succ]
          rfl
        refine pure_ (i := 13) (N := some 27) (v := ?_) (a' := ?_) #[true, true, true, true, true, true, true, true, true, true, true, true, true, true, false, false, false] rfl rfl (by kernel_rfl) (fun _ _ _ h => h) (Or.inl ⟨by rfl, ?_⟩) ?_ ?_
        rotate_left
        · intro w'
          go_simp
          with_reducible rfl
        rotate_left
        · simp only [putAll, Act.put, List.setIfInBounds_toArray, List.set_cons_zero, List.set_cons_succ]
          rfl
        refine one_ (i := 14) (N := some 6) #[true, true, true, true, true, true, true, true, true, true, true, true, true, true, true, false, false] rfl rfl (by kernel_rfl) (by decide) (fun K hK => ?_)
        refine value_ (v := .pointer (some ⟨w2.heap.size, 0, none⟩)) (w1 := w2.alloc (.cells #[.int .i64 0, .int .i64 0, .int .i64 0, .int .i64 0, .int .i64 0, .int .u64 0] 35)) (by rfl) rfl (by go_simp) ?_
        have hSa := hS2.below (below_alloc (Below.refl _ _) (.cells #[.int .i64 0, .int .i64 0, .int .i64 0, .int .i64 0, .int .i64 0, .int .u64 0] 35))
        refine hK.out _ _ ⟨(blk_cell (hSa).1 1).trans rfl, (blk_cell (hSa).1 2).trans rfl, (blk_cell (hSa).1 3).trans rfl, (blk_cell (hSa).1 4).trans rfl, (blk_cell (hSa).1 5).trans rfl, (blk_cell (hSa).1 6).trans rfl, (blk_cell (hSa).1 7).trans rfl⟩ (fun hHeld => ?_)
        clear hK K
        refine norm_ ?_ (hcont w2.heap.size _ ⟨hSa, hR2.alloc _, blk_new w2 _, Nat.ne_of_lt hS2.lt, Nat.ne_of_lt hS2.2.lt, hR2.size⟩)
        simp only [putAll, Act.put, List.setIfInBounds_toArray, List.set_cons_zero, List.set_cons_succ]
      · refine value_ (v := .pointer (some ⟨wd.heap.size, 0, none⟩)) (w1 := wd.alloc (.cells #[.int .i64 0, .int .i64 0, .int .i64 0, .int .i64 0, .int .i64 0, .int .u64 0] 35)) (by rfl) rfl (by go_simp) ?_
        have hSa := H.out.below (below_alloc (Below.refl _ _) (.cells #[.int .i64 0, .int .i64 0, .int .i64 0, .int .i64 0, .int .i64 0, .int .u64 0] 35))
        refine hK.out _ _ ⟨(blk_cell (hSa).1 1).trans rfl, (blk_cell (hSa).1 2).trans rfl, (blk_cell (hSa).1 3).trans rfl, (blk_cell (hSa).1 4).trans rfl, (blk_cell (hSa).1 5).trans rfl, (blk_cell (hSa).1 6).trans rfl, (blk_cell (hSa).1 7).trans rfl⟩ (fun hHeld => ?_)
        clear hK K
        refine norm_ (a' := ?_) ?_ ?_
        rotate_left
        · show Act.put _ (some 6) _ = _
          simp only [putAll, Act.put, List.setIfInBounds_toArray, List.set_cons_zero, List.set_cons_succ]
          rfl
        refine one_ (i := 10) (N := some 25) #[true, true, true, true, true, true, true, true, true, true, true, false, false, false, true, false, false] rfl rfl (by kernel_rfl) (by decide) (fun K hK => ?_)
        refine call_ 22 #[.agg #[.int .i64 m, .int .i64 p, .int .i64 t, .int .i64 sp, .int .i64 r, .int .u64 ch], .iface 90 (.map (some mb)), .int .i64 n] (by rfl) rfl (by go_simp) ?_
        refine (HGC.out _ (hSa).2).mono ?_
        rintro e w2 ⟨rfl, hm2, hf2⟩
        refine ⟨.tuple #[.agg #[.int .i64 y0, .int .i64 y1, .int .i64 y2, .int .i64 y3, .int .i64 y4, .int .u64 y5], .int .i64 ee], rfl, ?_⟩
        have hS2 := ShAt.fr hSa hf2 hm2
        have hR2 := (HRW.out.alloc (.cells #[.int .i64 0, .int .i64 0, .int .i64 0, .int .i64 0, .int .i64 0, .int .u64 0] 35)).trans (frMap (ks := ks) hf2) (fun _ _ h => h)
        refine hK.out _ _ ⟨(blk_cell (hS2).1 1).trans rfl, (blk_cell (hS2).1 2).trans rfl, (blk_cell (hS2).1 3).trans rfl, (blk_cell (hS2).1 4).trans rfl, (blk_cell (hS2).1 5).trans rfl, (blk_cell (hS2).1 6).trans rfl, (blk_cell (hS2).1 7).trans rfl⟩ (fun hHeld => ?_)
        clear hK K
        refine norm_ (a' := ?_) ?_ ?_
        rotate_left
        · show Act.put _ (some 25) _ = _
          simp only [putAll, Act.put, List.setIfInBounds_toArray, List.set_cons_zero, List.set_cons_succ]
          rfl
        refine pure_ (i := 11) (N := some 14) (v := ?_) (a' := ?_) #[true, true, true, true, true, true, true, true, true, true, true, true, false, false, true, false, false] rfl rfl (by kernel_rfl) (fun _ _ _ h => h) (Or.inl ⟨by rfl, ?_⟩) ?_ ?_
        rotate_left
        · intro w'
          go_simp
          with_reducible rfl
        rotate_left
        · simp only [putAll, Act.put, List.setIfInBounds_toArray, List.set_cons_zero, List.set_cons_succ]
          rfl
        refine pure_ (i := 12) (N := some 26) (v := ?_) (a' := ?_) #[true, true, true, true, true, true, true, true, true, true, true, true, true, false, true, false, false] rfl rfl (by kernel_rfl) (fun _ _ _ h => h) (Or.inl ⟨by rfl, ?_⟩) ?_ ?_
        rotate_left
        · intro w'
          go_simp
          with_reducible rfl
        rotate_left
        · simp only [putAll, Act.put, List.setIfInBounds_toArray, List.set_cons_zero, List.set_cons_succ]
          rfl
        refine pure_ (i := 13) (N := some 27) (v := ?_) (a' := ?_) #[true, true, true, true, true, true, true, true, true, true, true, true, true, true, true, false, false] rfl rfl (by kernel_rfl) (fun _ _ _ h => h) (Or.inl ⟨by rfl, ?_⟩) ?_ ?_
        rotate_left
        · intro w'
          go_simp
          with_reducible rfl
        rotate_left
        · simp only [putAll, Act.put, List.setIfInBounds_toArray, List.set_cons_zero, List.set_cons_succ]
          rfl
        refine norm_ ?_ (hcont wd.heap.size _ ⟨hS2, hR2, hf2.blk (blk_new wd _) (Nat.ne_of_gt H.out.2.lt), Nat.ne_of_lt H.out.lt, Nat.ne_of_lt H.out.2.lt, HRW.out.size⟩)
        simp only [putAll, Act.put, List.setIfInBounds_toArray, List.set_cons_zero, List.set_cons_succ]
    · have HG := Aside0.mk (show (⟨lim, ⟨m, p, t, sp, r, ch⟩, f, lf⟩ : Sh).free mb n = (⟨lim, ⟨m, p, t, sp, r, ch⟩, gv.1, lf⟩, gv.2.2) by unfold Sh.free; rw [if_neg (by simp [hb])]; show (if ((mapShop mb).give f ⟨m, p, t, sp, r, ch⟩ n).2.2 = 0 then _ else _) = _; rw [← hgv, if_neg he])
      clear hgv
      obtain ⟨f', ⟨y0, y1, y2, y3, y4, y5⟩, ee⟩ := gv
      dsimp only at he hgc HG
      have te : (ee == 0) = false := by simp [he]
      have HGC := Aside0.mk hgc
      clear h hl hb hbd hl' hgc he
      go_enter Try.func29, Try.ntmps29
      go_wp2_with fail
      refine (HBC.out w H.out).mono ?_
      rintro e w1 ⟨rfl, hb1⟩
      replace H := Aside0.mk (H.out.below hb1)
      have HRW := Aside0.mk (Fr.of_below (F := ShF ks mb) hb1)
      clear hb1 HBC
      have a0 : w1.cell? ⟨ks, 0, none⟩ = some (.int .i64 lim) := (blk_cell H.out.1 0).trans rfl
      have a1 : w1.cell? ⟨ks, 1, none⟩ = some (.int .i64 m) := (blk_cell H.out.1 1).trans rfl
      have a2 : w1.cell? ⟨ks, 2, none⟩ = some (.int .i64 p) := (blk_cell H.out.1 2).trans rfl
      have a3 : w1.cell? ⟨ks, 3, none⟩ = some (.int .i64 t) := (blk_cell H.out.1 3).trans rfl
      have a4 : w1.cell? ⟨ks, 4, none⟩ = some (.int .i64 sp) := (blk_cell H.out.1 4).trans rfl
      have a5 : w1.cell? ⟨ks, 5, none⟩ = some (.int .i64 r) := (blk_cell H.out.1 5).trans rfl
      have a6 : w1.cell? ⟨ks, 6, none⟩ = some (.int .u64 ch) := (blk_cell H.out.1 6).trans rfl
      have a7 : w1.cell? ⟨ks, 7, none⟩ = some (.map (some mb)) := (blk_cell H.out.1 7).trans rfl
      have a8 : w1.cell? ⟨ks, 8, none⟩ = some (.int .i64 lf) := (blk_cell H.out.1 8).trans rfl
      go_wp2_with fail
      clear a0 a1 a2 a3 a4 a5 a6 a7 a8
      refine start_ (n := 17) (S := fun w' => w'.cell? ⟨ks, 1, none⟩ = some (.int .i64 m) ∧ w'.cell? ⟨ks, 2, none⟩ = some (.int .i64 p) ∧ w'.cell? ⟨ks, 3, none⟩ = some (.int .i64 t) ∧ w'.cell? ⟨ks, 4, none⟩ = some (.int .i64 sp) ∧ w'.cell? ⟨ks, 5, none⟩ = some (.int .i64 r) ∧ w'.cell? ⟨ks, 6, none⟩ = some (.int .u64 ch) ∧ w'.cell? ⟨ks, 7, none⟩ = some (.map (some mb))) (ds := [15]) #[false, false, false, false, false, false, false, false, false, false, false, false, false, false, false, false, false] (by kernel_rfl) rfl rfl ⟨(blk_cell (H.out.below (Below.refl _ _).drew).1 1).trans rfl, (blk_cell (H.out.below (Below.refl _ _).drew).1 2).trans rfl, (blk_cell (H.out.below (Below.refl _ _).drew).1 3).trans rfl, (blk_cell (H.out.below (Below.refl _ _).drew).1 4).trans rfl, (blk_cell (H.out.below (Below.refl _ _).drew).1 5).trans rfl, (blk_cell (H.out.below (Below.refl _ _).drew).1 6).trans rfl, (blk_cell (H.out.below (Below.refl _ _).drew).1 7).trans rfl⟩ (fun hHeld => ?_)
      replace H := Aside0.mk (H.out.below (Below.refl _ _).drew)
      replace HRW := Aside0.mk (Fr.then_below HRW.out (Below.refl _ _).drew)
      generalize w1.drew = wd at H HRW hHeld ⊢
      refine pure_ (i := 0) (N := some 15) (v := ?_) (a' := ?_) #[true, false, false, false, false, false, false, false, false, false, false, false, false, false, false, false, false] rfl rfl (by kernel_rfl) (fun _ _ _ h => h) (Or.inl ⟨by rfl, ?_⟩) ?_ ?_
      rotate_left
      · intro w'
        go_simp
        with_reducible rfl
      rotate_left
      · simp only [putAll, Act.put, List.setIfInBounds_toArray, List.set_cons_zero, List.set_cons_succ]
        rfl
      refine pure_ (i := 1) (N := some 16) (v := ?_) (a' := ?_) #[true, true, false, false, false, false, false, false, false, false, false, false, false, false, false, false, false] rfl rfl (by kernel_rfl) (fun _ _ _ h => h) (Or.inl ⟨by rfl, ?_⟩) ?_ ?_
      rotate_left
      · intro w'
        go_simp
        with_reducible rfl
      rotate_left
      · simp only [putAll, Act.put, List.setIfInBounds_toArray, List.set_cons_zero, List.set_cons_succ]
        rfl
      refine pure_ (i := 2) (N := some 17) (v := ?_) (a' := ?_) #[true, true, true, false, false, false, false, false, false, false, false, false, false, false, false, false, false] rfl rfl (by kernel_rfl) (fun _ _ _ h => h) (Or.inl ⟨by rfl, ?_⟩) ?_ ?_
      rotate_left
      · intro w'
        go_simp
        with_reducible rfl
      rotate_left
      · simp only [putAll, Act.put, List.setIfInBounds_toArray, List.set_cons_zero, List.set_cons_succ]
        rfl
      refine pure_ (i := 4) (N := some 19) (v := ?_) (a' := ?_) #[true, true, true, false, true, false, false, false, false, false, false, false, false, false, false, false, false] rfl rfl (by kernel_rfl) (fun _ _ _ h => h) (Or.inl ⟨by rfl, ?_⟩) ?_ ?_
      rotate_left
      · intro w'
        go_simp
        with_reducible rfl
      rotate_left
      · simp only [putAll, Act.put, List.setIfInBounds_toArray, List.set_cons_zero, List.set_cons_succ]
        rfl
      refine pure_ (i := 5) (N := some 20) (v := ?_) (a' := ?_) #[true, true, true, false, true, true, false, false, false, false, false, false, false, false, false, false, false] rfl rfl (by kernel_rfl) (fun _ _ _ h => h) (Or.inl ⟨by rfl, ?_⟩) ?_ ?_
      rotate_left
      · intro w'
        go_simp
        with_reducible rfl
      rotate_left
      · simp only [putAll, Act.put, List.setIfInBounds_toArray, List.set_cons_zero, List.set_cons_succ]
        rfl
      refine pure_ (i := 6) (N := some 21) (v := ?_) (a' := ?_) #[true, true, true, false, true, true, true, false, false, false, false, false, false, false, false, false, false] rfl rfl (by kernel_rfl) (fun _ _ _ h => h) (Or.inl ⟨by rfl, ?_⟩) ?_ ?_
      rotate_left
      · intro w'
        go_simp
        with_reducible rfl
      rotate_left
      · simp only [putAll, Act.put, List.setIfInBounds_toArray, List.set_cons_zero, List.set_cons_succ]
        rfl
      refine pure_ (i := 9) (N := some 24) (v := ?_) (a' := ?_) #[true, true, true, false, true, true, true, false, false, true, false, false, false, false, false, false, false] rfl rfl (by kernel_rfl) (fun _ _ _ h => h) (Or.inl ⟨by rfl, ?_⟩) ?_ ?_
      rotate_left
      · intro w'
        go_simp
        with_reducible rfl
      rotate_left
      · simp only [putAll, Act.put, List.setIfInBounds_toArray, List.set_cons_zero, List.set_cons_succ]
        rfl
      refine take_ (i := 3) (N := some 18) (v := ?_) (a' := ?_) #[true, true, true, true, true, true, true, false, false, true, false, false, false, false, false, false, false] rfl rfl (by kernel_rfl) (fun _ _ _ h => h) (Or.inl ⟨by rfl, ?_⟩) hHeld ?_ ?_
      rotate_left
      · rintro w' ⟨s1, s2, s3, s4, s5, s6, s7⟩
        go_simp
        with_reducible rfl
      rotate_left
      · simp only [putAll, Act.put, List.setIfInBounds_toArray, List.set_cons_zero, List.set_cons_succ]
        rfl
      refine take_ (i := 7) (N := some 22) (v := ?_) (a' := ?_) #[true, true, true, true, true, true, true, true, false, true, false, false, false, false, false, false, false] rfl rfl (by kernel_rfl) (fun _ _ _ h => h) (Or.inl ⟨by rfl, ?_⟩) hHeld ?_ ?_
      rotate_left
      · rintro w' ⟨s1, s2, s3, s4, s5, s6, s7⟩
        go_simp
        with_reducible rfl
      rotate_left
      · simp only [putAll, Act.put, List.setIfInBounds_toArray, List.set_cons_zero, List.set_cons_succ]
        rfl
      refine pure_ (i := 8) (N := some 23) (v := ?_) (a' := ?_) #[true, true, true, true, true, true, true, true, true, true, false, false, false, false, false, false, false] rfl rfl (by kernel_rfl) (fun _ _ _ h => h) (Or.inl ⟨by rfl, ?_⟩) ?_ ?_
      rotate_left
      · intro w'
        go_simp
        with_reducible rfl
      rotate_left
      · simp only [putAll, Act.put, List.setIfInBounds_toArray, List.set_cons_zero, List.set_cons_succ]
        rfl
      refine join_ 2 #[true, true, true, true, true, true, true, true, true, true, true, true, true, true, true, false, false] (fun q : Nat => [(25, .tuple #[.agg #[.int .i64 y0, .int .i64 y1, .int .i64 y2, .int .i64 y3, .int .i64 y4, .int .u64 y5], .int .i64 ee]), (14, .tuple #[.agg #[.int .i64 y0, .int .i64 y1, .int .i64 y2, .int .i64 y3, .int .i64 y4, .int .u64 y5], .int .i64 ee]), (26, .agg #[.int .i64 y0, .int .i64 y1, .int .i64 y2, .int .i64 y3, .int .i64 y4, .int .u64 y5]), (27, .int .i64 ee), (6, .pointer (some ⟨q, 0, none⟩))]) (fun q w' => ShAt ks mb w' ⟨lim, ⟨m, p, t, sp, r, ch⟩, f', lf⟩ ∧ Fr (ShF ks mb) w w' ∧ w'.heap[q]? = some (.cells #[.int .i64 0, .int .i64 0, .int .i64 0, .int .i64 0, .int .i64 0, .int .u64 0] 35 (0, 0)) ∧ ks ≠ q ∧ mb ≠ q ∧ w.heap.size ≤ q) ?_ (fun hcont => ?_)
      · intro q w3 hf
        obtain ⟨hS3, hR3, hQ3, hksq, hmbq, hqB⟩ := hf
        clear hHeld H HRW
        have qf0 : w3.frozen? ⟨q, 0, none⟩ = false := blk_frozen hQ3 0
        have qf1 : w3.frozen? ⟨q, 1, none⟩ = false := blk_frozen hQ3 1
        have qf2 : w3.frozen? ⟨q, 2, none⟩ = false := blk_frozen hQ3 2
        have qf3 : w3.frozen? ⟨q, 3, none⟩ = false := blk_frozen hQ3 3
        have qf4 : w3.frozen? ⟨q, 4, none⟩ = false := blk_frozen hQ3 4
        have qf5 : w3.frozen? ⟨q, 5, none⟩ = false := blk_frozen hQ3 5
        have qc0 : w3.cell? ⟨q, 0, none⟩ = some (.int .i64 0) := (blk_cell hQ3 0).trans rfl
        have qc1 : w3.cell? ⟨q, 1, none⟩ = some (.int .i64 0) := (blk_cell hQ3 1).trans rfl
        have qc2 : w3.cell? ⟨q, 2, none⟩ = some (.int .i64 0) := (blk_cell hQ3 2).trans rfl
        have qc3 : w3.cell? ⟨q, 3, none⟩ = some (.int .i64 0) := (blk_cell hQ3 3).trans rfl
        have qc4 : w3.cell? ⟨q, 4, none⟩ = some (.int .i64 0) := (blk_cell hQ3 4).trans rfl
        have qc5 : w3.cell? ⟨q, 5, none⟩ = some (.int .u64 0) := (blk_cell hQ3 5).trans rfl
        refine norm_ (a' := ?_) ?_ ?_
        rotate_left
        · simp only [putAll, Act.put, List.setIfInBounds_toArray, List.set_cons_zero, List.set_cons_succ]
          rfl
        refine last_ (i := 15) (N := none) #[true, true, true, true, true, true, true, true, true, true, true, true, true, true, true, true, false] rfl rfl (by kernel_rfl) (by decide) (fun K hK => ?_)
        refine skip_ (w1 := ((((((w3.setCell ⟨q, 0, none⟩ (.int .i64 y0)).setCell ⟨q, 1, none⟩ (.int .i64 y1)).setCell ⟨q, 2, none⟩ (.int .i64 y2)).setCell ⟨q, 3, none⟩ (.int .i64 y3)).setCell ⟨q, 4, none⟩ (.int .i64 y4)).setCell ⟨q, 5, none⟩ (.int .u64 y5))) (by rfl) rfl (by go_simp) ?_
        refine hK.out _ _ ?_
        clear hK K
        clear qf0 qc0 qf1 qc1 qf2 qc2 qf3 qc3 qf4 qc4 qf5 qc5
        have HS4 := Aside0.mk (shFar6 hS3 hksq hmbq (.int .i64 y0) (.int .i64 y1) (.int .i64 y2) (.int .i64 y3) (.int .i64 y4) (.int .u64 y5))
        have HR4 := Aside0.mk (shFrQ hR3 hqB (.int .i64 y0) (.int .i64 y1) (.int .i64 y2) (.int .i64 y3) (.int .i64 y4) (.int .u64 y5))
        have HQ4 := Aside0.mk (put6 hQ3 (.int .i64 y0) (.int .i64 y1) (.int .i64 y2) (.int .i64 y3) (.int .i64 y4) (.int .u64 y5))
        generalize ((((((w3.setCell ⟨q, 0, none⟩ (.int .i64 y0)).setCell ⟨q, 1, none⟩ (.int .i64 y1)).setCell ⟨q, 2, none⟩ (.int .i64 y2)).setCell ⟨q, 3, none⟩ (.int .i64 y3)).setCell ⟨q, 4, none⟩ (.int .i64 y4)).setCell ⟨q, 5, none⟩ (.int .u64 y5)) = w4 at HS4 HR4 HQ4 ⊢
        have HKQ := Aside0.mk hksq
        clear hS3 hR3 hQ3 hqB hksq hmbq
        refine pure_ (i := 16) (N := some 7) (v := ?_) (a' := ?_) #[true, true, true, true, true, true, true, true, true, true, true, true, true, true, true, true, true] rfl rfl (by kernel_rfl) (fun _ _ _ h => h) (Or.inl ⟨by rfl, ?_⟩) ?_ ?_
        rotate_left
        · intro w'
          go_simp
          with_reducible rfl
        rotate_left
        · simp only [putAll, Act.put, List.setIfInBounds_toArray, List.set_cons_zero, List.set_cons_succ]
          rfl
        refine done_ (by kernel_rfl) ?_
        go_wp2
        go_ret
        exact ⟨by rw [HG.out]; rfl, by rw [HG.out]; exact HS4.out, HR4.out⟩
      refine two_ (i := 10) (j := 14) (Ni := some 25) (Nj := some 6) #[true, true, true, true, true, true, true, true, true, true, true, false, false, false, false, false, false] #[true, true, true, true, true, true, true, true, true, true, false, false, false, false, true, false, false] rfl rfl rfl rfl (by kernel_rfl) (by decide) (by decide) (fun K hK => ?_) (fun K hK => ?_)
      · refine call_ 22 #[.agg #[.int .i64 m, .int .i64 p, .int .i64 t, .int .i64 sp, .int .i64 r, .int .u64 ch], .iface 90 (.map (some mb)), .int .i64 n] (by rfl) rfl (by go_simp) ?_
        refine (HGC.out wd (H.out).2).mono ?_
        rintro e w2 ⟨rfl, hm2, hf2⟩
        refine ⟨.tuple #[.agg #[.int .i64 y0, .int .i64 y1, .int .i64 y2, .int .i64 y3, .int .i64 y4, .int .u64 y5], .int .i64 ee], rfl, ?_⟩
        have hS2 := ShAt.fr H.out hf2 hm2
        have hR2 := HRW.out.trans (frMap (ks := ks) hf2) (fun _ _ h => h)
        refine hK.out _ _ ⟨(blk_cell (hS2).1 1).trans rfl, (blk_cell (hS2).1 2).trans rfl, (blk_cell (hS2).1 3).trans rfl, (blk_cell (hS2).1 4).trans rfl, (blk_cell (hS2).1 5).trans rfl, (blk_cell (hS2).1 6).trans rfl, (blk_cell (hS2).1 7).trans rfl⟩ (fun hHeld => ?_)
        clear hK K
        refine norm_ (a' := ?_) ?_ ?_
        rotate_left
        · show Act.put _ (some 25) _ = _
          simp only [putAll, Act.put, List.setIfInBounds_toArray, List.set_cons_zero, List.set_cons_succ]
          rfl
        refine pure_ (i := 11) (N := some 14) (v := ?_) (a' := ?_) #[true, true, true, true, true, true, true, true, true, true, true, true, false, false, false, false, false] rfl rfl (by kernel_rfl) (fun _ _ _ h => h) (Or.inl ⟨by rfl, ?_⟩) ?_ ?_
        rotate_left
        · intro w'
          go_simp
          with_reducible rfl
        rotate_left
        · simp only [putAll, Act.put, List.setIfInBounds_toArray, List.set_cons_zero, List.set_cons_succ]
          rfl
        refine pure_ (i := 12) (N := some 26) (v := ?_) (a' := ?_) #[true, true, true, true, true, true, true, true, true, true, true, true, true, false, false, false, false] rfl rfl (by kernel_rfl) (fun _ _ _ h => h) (Or.inl ⟨by rfl, ?_⟩) ?_ ?_
        rotate_left
        · intro w'
          go_simp
          with_reducible rfl
        rotate_left
        · simp only [putAll, Act.put, List.setIfInBounds_toArray, List.set_cons_zero, List.set_cons_succ]
          rfl
        refine pure_ (i := 13) (N := some 27) (v := ?_) (a' := ?_) #[true, true, true, true, true, true, true, true, true, true, true, true, true, true, false, false, false] rfl rfl (by kernel_rfl) (fun _ _ _ h => h) (Or.inl ⟨by rfl, ?_⟩) ?_ ?_
        rotate_left
        · intro w'
          go_simp
          with_reducible rfl
        rotate_left
        · simp only [putAll, Act.put, List.setIfInBounds_toArray, List.set_cons_zero, List.set_cons_succ]
          rfl
        refine one_ (i := 14) (N := some 6) #[true, true, true, true, true, true, true, true, true, true, true, true, true, true, true, false, false] rfl rfl (by kernel_rfl) (by decide) (fun K hK => ?_)
        refine value_ (v := .pointer (some ⟨w2.heap.size, 0, none⟩)) (w1 := w2.alloc (.cells #[.int .i64 0, .int .i64 0, .int .i64 0, .int .i64 0, .int .i64 0, .int .u64 0] 35)) (by rfl) rfl (by go_simp) ?_
        have hSa := hS2.below (below_alloc (Below.refl _ _) (.cells #[.int .i64 0, .int .i64 0, .int .i64 0, .int .i64 0, .int .i64 0, .int .u64 0] 35))
        refine hK.out _ _ ⟨(blk_cell (hSa).1 1).trans rfl, (blk_cell (hSa).1 2).trans rfl, (blk_cell (hSa).1 3).trans rfl, (blk_cell (hSa).1 4).trans rfl, (blk_cell (hSa).1 5).trans rfl, (blk_cell (hSa).1 6).trans rfl, (blk_cell (hSa).1 7).trans rfl⟩ (fun hHeld => ?_)
        clear hK K
        refine norm_ ?_ (hcont w2.heap.size _ ⟨hSa, hR2.alloc _, blk_new w2 _, Nat.ne_of_lt hS2.lt, Nat.ne_of_lt hS2.2.lt, hR2.size⟩)
        simp only [putAll, Act.put, List.setIfInBounds_toArray, List.set_cons_zero, List.set_cons_succ]
      · refine value_ (v := .pointer (some ⟨wd.heap.size, 0, none⟩)) (w1 := wd.alloc (.cells #[.int .i64 0, .int .i64 0, .int .i64 0, .int .i64 0, .int .i64 0, .int .u64 0] 35)) (by rfl) rfl (by go_simp) ?_
        have hSa := H.out.below (below_alloc (Below.refl _ _) (.cells #[.int .i64 0, .int .i64 0, .int .i64 0, .int .i64 0, .int .i64 0, .int .u64 0] 35))
        refine hK.out _ _ ⟨(blk_cell (hSa).1 1).trans rfl, (blk_cell (hSa).1 2).trans rfl, (blk_cell (hSa).1 3).trans rfl, (blk_cell (hSa).1 4).trans rfl, (blk_cell (hSa).1 5).trans rfl, (blk_cell (hSa).1 6).trans rfl, (blk_cell (hSa).1 7).trans rfl⟩ (fun hHeld => ?_)
        clear hK K
        refine norm_ (a' := ?_) ?_ ?_
        rotate_left
        · show Act.put _ (some 6) _ = _
          simp only [putAll, Act.put, List.setIfInBounds_toArray, List.set_cons_zero, List.set_cons_succ]
          rfl
        refine one_ (i := 10) (N := some 25) #[true, true, true, true, true, true, true, true, true, true, true, false, false, false, true, false, false] rfl rfl (by kernel_rfl) (by decide) (fun K hK => ?_)
        refine call_ 22 #[.agg #[.int .i64 m, .int .i64 p, .int .i64 t, .int .i64 sp, .int .i64 r, .int .u64 ch], .iface 90 (.map (some mb)), .int .i64 n] (by rfl) rfl (by go_simp) ?_
        refine (HGC.out _ (hSa).2).mono ?_
        rintro e w2 ⟨rfl, hm2, hf2⟩
        refine ⟨.tuple #[.agg #[.int .i64 y0, .int .i64 y1, .int .i64 y2, .int .i64 y3, .int .i64 y4, .int .u64 y5], .int .i64 ee], rfl, ?_⟩
        have hS2 := ShAt.fr hSa hf2 hm2
        have hR2 := (HRW.out.alloc (.cells #[.int .i64 0, .int .i64 0, .int .i64 0, .int .i64 0, .int .i64 0, .int .u64 0] 35)).trans (frMap (ks := ks) hf2) (fun _ _ h => h)
        refine hK.out _ _ ⟨(blk_cell (hS2).1 1).trans rfl, (blk_cell (hS2).1 2).trans rfl, (blk_cell (hS2).1 3).trans rfl, (blk_cell (hS2).1 4).trans rfl, (blk_cell (hS2).1 5).trans rfl, (blk_cell (hS2).1 6).trans rfl, (blk_cell (hS2).1 7).trans rfl⟩ (fun hHeld => ?_)
        clear hK K
        refine norm_ (a' := ?_) ?_ ?_
        rotate_left
        · show Act.put _ (some 25) _ = _
          simp only [putAll, Act.put, List.setIfInBounds_toArray, List.set_cons_zero, List.set_cons_succ]
          rfl
        refine pure_ (i := 11) (N := some 14) (v := ?_) (a' := ?_) #[true, true, true, true, true, true, true, true, true, true, true, true, false, false, true, false, false] rfl rfl (by kernel_rfl) (fun _ _ _ h => h) (Or.inl ⟨by rfl, ?_⟩) ?_ ?_
        rotate_left
        · intro w'
          go_simp
          with_reducible rfl
        rotate_left
        · simp only [putAll, Act.put, List.setIfInBounds_toArray, List.set_cons_zero, List.set_cons_succ]
          rfl
        refine pure_ (i := 12) (N := some 26) (v := ?_) (a' := ?_) #[true, true, true, true, true, true, true, true, true, true, true, true, true, false, true, false, false] rfl rfl (by kernel_rfl) (fun _ _ _ h => h) (Or.inl ⟨by rfl, ?_⟩) ?_ ?_
        rotate_left
        · intro w'
          go_simp
          with_reducible rfl
        rotate_left
        · simp only [putAll, Act.put, List.setIfInBounds_toArray, List.set_cons_zero, List.set_cons_succ]
          rfl
        refine pure_ (i := 13) (N := some 27) (v := ?_) (a' := ?_) #[true, true, true, true, true, true, true, true, true, true, true, true, true, true, true, false, false] rfl rfl (by kernel_rfl) (fun _ _ _ h => h) (Or.inl ⟨by rfl, ?_⟩) ?_ ?_
        rotate_left
        · intro w'
          go_simp
          with_reducible rfl
        rotate_left
        · simp only [putAll, Act.put, List.setIfInBounds_toArray, List.set_cons_zero, List.set_cons_succ]
          rfl
        refine norm_ ?_ (hcont wd.heap.size _ ⟨hS2, hR2, hf2.blk (blk_new wd _) (Nat.ne_of_gt H.out.2.lt), Nat.ne_of_lt H.out.lt, Nat.ne_of_lt H.out.2.lt, HRW.out.size⟩)
        simp only [putAll, Act.put, List.setIfInBounds_toArray, List.set_cons_zero, List.set_cons_succ]
  · have HG := Aside0.mk (show (⟨lim, ⟨m, p, t, sp, r, ch⟩, f, lf⟩ : Sh).free mb n = ((⟨lim, ⟨m, p, t, sp, r, ch⟩, f, lf⟩ : Sh), (⟨lim, ⟨m, p, t, sp, r, ch⟩, f, lf⟩ : Sh).beg n) by unfold Sh.free; rw [if_pos hb])
    obtain ⟨b, hbb⟩ : ∃ b, b = (⟨lim, ⟨m, p, t, sp, r, ch⟩, f, lf⟩ : Sh).beg n := ⟨_, rfl⟩
    rw [← hbb] at HBC hb HG
    have t0 : (b != 0) = true := by simp [hb]
    clear h hl hb hbb hbd hl'
    go_enter Try.func29, Try.ntmps29
    go_wp2_with fail
    refine (HBC.out w H.out).mono ?_
    rintro e w1 ⟨rfl, hb1⟩
    have HB1 := Aside0.mk hb1
    clear HBC hb1
    go_wp2
    go_ret
    exact ⟨by rw [HG.out]; rfl, by rw [HG.out]; exact H.out.below HB1.out, Fr.of_below HB1.out⟩
end Go.Proofs.Ytonbipaajhokfaa
