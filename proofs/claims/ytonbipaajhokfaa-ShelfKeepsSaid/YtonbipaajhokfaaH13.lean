/-
  Walk: ShelfKeeps.
-/
import Derived.Test.YtonbipaajhokfaaH12
import Derived.Test.YtonbipaajhokfaaH11
import Derived.BigQuiet
set_option linter.unusedVariables false
set_option linter.unusedSimpArgs false
namespace Go.Proofs.Ytonbipaajhokfaa
open Go.RowKit Go.Proofs.YtonbipaajhokfaaW.PrintWords Go.Proofs.YtonbipaajhokfaaW.PrintLast Go.Proofs.YtonbipaajhokfaaW.PrintMore

theorem no_int9 : ∀ q, q ∈ 3 :: (Kd.int .i64).E → q ≠ 9 := fun q hq => by simp [Kd.int, Kd.scalar] at hq; omega
theorem no_str3 : ∀ q, q ∈ 9 :: Kd.string.E → q ≠ 3 := fun q hq => by simp [Kd.string, Kd.scalar] at hq; omega
/-- The pages in use and what was put to them. -/
structure Rows2 (ks mb B : Nat) (w : World) (pv dv : Value) (u : List Int) (d : List ByteArray) : Prop where
  p : (Kd.int .i64).R 3 w B (shOk ks mb) pv u
  q : Kd.string.R 9 w B (shOk ks mb) dv d
/-- .. and a row of ints in the making. -/
structure RowsI (ks mb B N : Nat) (w : World) (pv dv lv : Value) (u : List Int) (d : List ByteArray) (l : List Int) : Prop where
  p : (Kd.int .i64).R 3 w B (fun k => shOk ks mb k ∧ k < N) pv u
  q : Kd.string.R 9 w B (fun k => shOk ks mb k ∧ k < N) dv d
  l : (Kd.int .i64).R 3 w B (fun k => shOk ks mb k ∧ N ≤ k) lv l
  n : N ≤ w.heap.size
structure RowsS (ks mb B N : Nat) (w : World) (pv dv lv : Value) (u : List Int) (d : List ByteArray) (l : List ByteArray) : Prop where
  p : (Kd.int .i64).R 3 w B (fun k => shOk ks mb k ∧ k < N) pv u
  q : Kd.string.R 9 w B (fun k => shOk ks mb k ∧ k < N) dv d
  l : Kd.string.R 9 w B (fun k => shOk ks mb k ∧ N ≤ k) lv l
  n : N ≤ w.heap.size
section
variable {ks mb B N : Nat} {w w' : World} {pv dv lv v : Value} {u l u' : List Int} {d z d' : List ByteArray}
theorem R_low {α : Type} {k : Kd α} {e : Nat} {ok : Nat → Prop} {xs : List α} (h : k.R e w B ok v xs) : k.R e w B (fun i => ok i ∧ i < w.heap.size) v xs := Kd.R_mono (Kd.R_bound h) (fun i hi => ⟨hi.1, hi.2.2.1⟩)
theorem Rows2.below (h : Rows2 ks mb B w pv dv u d) (hb : Below w.heap.size w w') : Rows2 ks mb B w' pv dv u d := ⟨Kd.R_below h.p hb, Kd.R_below h.q hb⟩
theorem Rows2.fr (h : Rows2 ks mb B w pv dv u d) (hf : Fr (ShF ks mb) w w') : Rows2 ks mb B w' pv dv u d := ⟨R_shFr h.p hf, R_shFrS h.q hf⟩
theorem Rows2.newP (h : Rows2 ks mb B w pv dv u d) (hg : w.grownBy w' pv.ownBlock) (hR : (Kd.int .i64).R 3 w' B (shOk ks mb) v u') : Rows2 ks mb B w' v dv u' d :=
  ⟨hR, Kd.R_drop (Kd.R_grown (Kd.R_apartR h.q h.p no_str3) hg (fun k hk => hk.2))⟩
theorem Rows2.newD (h : Rows2 ks mb B w pv dv u d) (hg : w.grownBy w' dv.ownBlock) (hR : Kd.string.R 9 w' B (shOk ks mb) v d') : Rows2 ks mb B w' pv v u d' :=
  ⟨Kd.R_drop (Kd.R_grown (Kd.R_apartR h.p h.q no_int9) hg (fun k hk => hk.2)), hR⟩
theorem RowsI.start (h : Rows2 ks mb B w pv dv u d) (hB : B ≤ w.heap.size) (hok : shOk ks mb w.heap.size) : RowsI ks mb B w.heap.size (w.alloc (.cells #[] 3)) pv dv (.slice (some ⟨w.heap.size, 0, none⟩) 0 0) u d [] :=
  ⟨Kd.R_alloc (R_low h.p) _, Kd.R_alloc (R_low h.q) _, R_none w B hB _ ⟨hok, Nat.le_refl _⟩, by simp⟩
theorem RowsS.start (h : Rows2 ks mb B w pv dv u d) (hB : B ≤ w.heap.size) (hok : shOk ks mb w.heap.size) : RowsS ks mb B w.heap.size (w.alloc (.cells #[] 9)) pv dv (.slice (some ⟨w.heap.size, 0, none⟩) 0 0) u d [] :=
  ⟨Kd.R_alloc (R_low h.p) _, Kd.R_alloc (R_low h.q) _, R_noneS w B hB _ ⟨hok, Nat.le_refl _⟩, by simp⟩
theorem RowsI.grow (h : RowsI ks mb B N w pv dv lv u d l) (hg : w.grownBy w' lv.ownBlock) (hR : (Kd.int .i64).R 3 w' B (fun k => shOk ks mb k ∧ N ≤ k) v u') : RowsI ks mb B N w' pv dv v u d u' :=
  ⟨Kd.R_grown h.p hg (fun k hk e => by have := (h.l.1 k e.symm).2; omega), Kd.R_grown h.q hg (fun k hk e => by have := (h.l.1 k e.symm).2; omega), hR, Nat.le_trans h.n hg.size⟩
theorem RowsS.grow (h : RowsS ks mb B N w pv dv lv u d z) (hg : w.grownBy w' lv.ownBlock) (hR : Kd.string.R 9 w' B (fun k => shOk ks mb k ∧ N ≤ k) v d') : RowsS ks mb B N w' pv dv v u d d' :=
  ⟨Kd.R_grown h.p hg (fun k hk e => by have := (h.l.1 k e.symm).2; omega), Kd.R_grown h.q hg (fun k hk e => by have := (h.l.1 k e.symm).2; omega), hR, Nat.le_trans h.n hg.size⟩
theorem RowsI.done (h : RowsI ks mb B N w pv dv lv u d l) : Rows2 ks mb B w lv dv l d := ⟨Kd.R_mono h.l (fun k hk => hk.1), Kd.R_mono h.q (fun k hk => hk.1)⟩
theorem RowsS.done (h : RowsS ks mb B N w pv dv lv u d z) : Rows2 ks mb B w pv lv u z := ⟨Kd.R_mono h.p (fun k hk => hk.1), Kd.R_mono h.l (fun k hk => hk.1)⟩
theorem C_uptoS {ad : Addr} (h : Kd.string.C w (some ad) d.length d) (k : Nat) (hk : k ≤ d.length) : Kd.string.C w (some ad) k (d.take k) := by
  have := Kd.C_take h hk
  rwa [List.length_take, Nat.min_eq_left hk] at this
theorem C_fromS {ad : Addr} {c : Nat} (h : Kd.string.C w (some ad) d.length d) (k : Nat) (hk : k ≤ d.length) (hc : d.length ≤ c) : Kd.string.C w (if c = k then some ad else some (ad.add k)) (d.length - k) (d.drop k) := by
  have := Kd.C_drop h hk hc
  rw [List.length_drop] at this
  simpa [Kd.string, Kd.scalar] using this
theorem cut_fromS (A : Option Addr) (n c k : Nat) (h : k + 1 ≤ n) (W : World) : (Instr.slice 41 (.slice A n c) (some (.int .i64 ((k : Int) + 1))) none none).run Try.prog W = .ok (.slice (if c = k + 1 then A else A.map (·.add (k + 1))) (n - (k + 1)) (c - (k + 1))) W := by
  have hel : Try.prog.elem 41 = 9 := by kernel_rfl
  have hu : Try.prog.underlying 41 = some (.slice (Try.prog.elem 41)) := by rw [hel]; exact Try.underlying41
  obtain ⟨i, hi, hz⟩ := Option.map_eq_some_iff.1 info9
  simp only [Prod.mk.injEq] at hz
  rw [run_slice_l W 41 A n c hu .i64 ((k : Int) + 1) (by omega) (by omega), hel]
  have e : ((k : Int) + 1).toNat = k + 1 := by omega
  simp [sizeOf, typeInfo, hi, hz.2.1, sliced, Result.andThen, e]
end
theorem two_bytes (W : World) (a b : Int) : (convert 68 9 (.slice (some ⟨W.heap.size, 0, none⟩) 2 2)).run Try.prog (W.alloc (.cells #[.int .u8 a, .int .u8 b] 5)) = .ok (.string (strOfNums [a, b])) (W.alloc (.cells #[.int .u8 a, .int .u8 b] 5)) :=
  own_string Try.underlying68 Try.underlying5 Try.underlying9 (World.ownsRow_lit (base := 0) (e := 5) (size := 1) W #[.int .u8 a, .int .u8 b] 2 (Nat.zero_le _) (by decide) rfl)
set_option maxHeartbeats 4000000 in
set_option maxRecDepth 100000 in
theorem shelfKeeps_calls (Ax : Option Addr) (cx : Nat) (al : List Int) (w : World) (hal : (Kd.int .i64).C w Ax al.length al) :
    Calls Try.prog 8 #[.slice Ax al.length cx] w fun e w' => e = .returned (.bool true) ∧ Below w.heap.size w w' := by
  have hma := Kd.C_max hal
  have HAL := Aside0.mk hal
  have hu35 := Try.underlying35
  clear hal
  go_enter Try.func8, Try.ntmps8
  go_wp2_with (go_at_call 25; refine (awake10_calls _).mono ?_; rintro e w0 ⟨rfl, hB0⟩)
  refine (shelfNew_calls 100 w0 (by decide) (by decide)).mono ?_
  rintro e w1 ⟨ks, mb, rfl, hS, hk1, hk2, hB1⟩
  have HO := Aside0.mk (show Own ks mb w.heap.size w w1 (Sh.start 100) from ⟨hS, Nat.le_trans hB0.size hk1, Nat.le_trans hB0.size hk2, hB0.trans (hB1.mono hB0.size), Nat.le_trans hB0.size hB1.size⟩)
  have HGD := Aside0.mk (show Good 100 (Sh.start 100) [] 1 0 from Good.start (by decide) (by decide))
  have HHD := Aside0.mk (show Holds (Sh.start 100) [] [] from rfl)
  clear hS hk1 hk2 hB0 hB1
  go_wp2_with fail
  obtain ⟨w2, hw2⟩ : ∃ w2, w2 = w1.alloc (.cells #[] 3) := ⟨_, rfl⟩
  obtain ⟨w3, hw3⟩ : ∃ w3, w3 = w2.alloc (.cells #[] 9) := ⟨_, rfl⟩
  have HO2 := Aside0.mk (show Own ks mb w.heap.size w w2 (Sh.start 100) by rw [hw2]; exact HO.out.below (below_alloc (Below.refl _ _) _))
  have HR := Aside0.mk (show Rows2 ks mb w.heap.size w3 (.slice (some ⟨w1.heap.size, 0, none⟩) 0 0) (.slice (some ⟨w2.heap.size, 0, none⟩) 0 0) [] [] by
    rw [hw3]; exact ⟨Kd.R_alloc (by rw [hw2]; exact R_none w1 w.heap.size HO.out.size _ (HO.out.ok (Nat.le_refl _))) _, R_noneS w2 w.heap.size HO2.out.size _ (HO2.out.ok (Nat.le_refl _))⟩)
  replace HO := Aside0.mk (show Own ks mb w.heap.size w w3 (Sh.start 100) by rw [hw3]; exact HO2.out.below (below_alloc (Below.refl _ _) _))
  have hws : w1.heap.size + 1 = w2.heap.size := by rw [hw2]; simp
  rw [hws, ← hw2, ← hw3]
  clear hws hw2 hw3 HO2
  obtain ⟨C, hC⟩ : ∃ C, C = min al.length 150 := ⟨_, rfl⟩
  go_loopw [4, 5, 6] (fun pv dv i wr => ∃ (j : Nat) (s : Sh) (u : List Int) (d : List ByteArray) (p : Int) (L : Nat), j ≤ C ∧ j ≤ 150 ∧ i = .int .i64 j ∧ Aside0 (Own ks mb w.heap.size w wr s) ∧ Aside0 (Good 100 s u p L) ∧ Aside0 (Holds s u d) ∧ Aside0 (Rows2 ks mb w.heap.size wr pv dv u d)) (fun _ _ i _ => C - (intOf i).toNat)
  case atStart => exact ⟨0, _, [], [], 1, 0, Nat.zero_le _, Nat.zero_le _, rfl, HO, HGD, HHD, HR⟩
  case round =>
    clear HO HGD HHD HR
    obtain ⟨j, s, u, d, p, L, hj, hj2, rfl, HO, HGD, HHD, HR⟩ := hrel
    obtain ⟨U, cu, rfl⟩ := Kd.R_slice HR.out.p
    obtain ⟨D, cd, rfl⟩ := Kd.R_slice HR.out.q
    have HSUM := Aside0.mk HGD.out.sum
    have hul : u.length ≤ 99 := by have := HSUM.out; omega
    have HDL := Aside0.mk HHD.out.len
    have hdl : d.length ≤ 99 := by have := HDL.out; omega
    by_cases hlt : j < C
    · have t1 : decide ((j : Int) < (al.length : Int)) = true := decide_eq_true (by omega)
      have t2 : decide ((j : Int) < 150) = true := decide_eq_true (by omega)
      obtain ⟨ad, hA, hx⟩ := Kd.at_int (Kd.C_below HAL.out HO.out.base) (j : Int) (by omega) (by omega)
      subst hA
      rw [Int.toNat_natCast] at hx
      obtain ⟨x, hxd⟩ : ∃ x, x = rd al (j : Int) := ⟨_, rfl⟩
      rw [← hxd] at hx
      have hj1 : j + 1 ≤ C := by omega
      have hj3 : j < 150 := by omega
      have hja : j < al.length := by omega
      clear hj hj2 hC hlt hxd
      go_upto_if 32 with fail
      go_cut [7] (fun kv wc => Aside0 (wc = wr) ∧ ∃ k : Nat, kv = .int .i64 k ∧ (k < u.length ∨ u.length < 1))
      case first =>
        by_cases hu0 : 0 < u.length
        · have t3 : decide ((0 : Int) < (u.length : Int)) = true := decide_eq_true (by omega)
          obtain ⟨k, hk, hkw⟩ := idx_ x u.length hu0 (by omega)
          have hwu : IntKind.u64.wrap (u.length : Int) = u.length := by rw [IntKind.wrap_u64]; omega
          have HKW := Aside0.mk hkw
          clear hkw
          go_wp2
          go_meet
          case rel => exact ⟨⟨rfl⟩, k, by rw [HKW.out], Or.inl hk⟩
        · have t3 : decide ((0 : Int) < (u.length : Int)) = false := decide_eq_false (by omega)
          go_wp2
          go_meet
          case rel => exact ⟨⟨rfl⟩, 0, rfl, Or.inr (by omega)⟩
      case rest =>
        obtain ⟨hwc, k, rfl, hk⟩ := hcut
        have hwc' := hwc.out
        subst hwc'
        clear hwc
        go_upto_block 2 with fail
        go_cut [4, 5] (fun pv dv wb => ∃ (s : Sh) (u : List Int) (d : List ByteArray) (p : Int) (L : Nat), Aside0 (Own ks mb w.heap.size w wb s) ∧ Aside0 (Good 100 s u p L) ∧ Aside0 (Holds s u d) ∧ Aside0 (Rows2 ks mb w.heap.size wb pv dv u d))
        case first =>
          cases h4 : (x.tmod 4 == 0)
          · by_cases hu0 : u.length < 1
            · have t6 : ((u.length : Int) == 0) = true := beq_iff_eq.2 (by omega)
              obtain ⟨s', nn, p', L', hnw, hg', hh'⟩ := keeps_new HGD.out HHD.out mb (by omega)
              have hnc := fun W hW => shNew_calls ks mb s W hW (by rw [HGD.out.left]; decide) HGD.out.bd
              rw [hnw] at hnc
              have HNC := Aside0.mk hnc
              replace HGD := Aside0.mk hg'
              replace HHD := Aside0.mk hh'
              clear hnc hnw hg' hh'
              go_wp2_with fail
              refine (HNC.out _ HO.out.at_).mono ?_
              rintro e w4 ⟨rfl, hs, hf⟩
              replace HR := Aside0.mk (HR.out.fr hf)
              replace HO := Aside0.mk (HO.out.fr hs hf)
              clear hs hf HNC hx
              go_wp2_with (at_builtin; refine Kd.R_append (Kd.int .i64) (W := w4) (w0 := w4) w.heap.size rfl (.tmp 89) (.tmp 91) 22 3 (.int .i64 0) 8 rfl Try.underlying22 info3 rfl (by decide) (by decide) (.slice U u.length cu) _ nn [.int .i64 nn] (shOk ks mb) (fun k' => some k' ≠ (Value.slice U u.length cu).ownBlock ∧ shOk ks mb k') rfl (by show Value.slice (some ⟨w4.heap.size, 0, none⟩) 1 1 = _; simp) rfl (fun _ h => ⟨h.2, h.1⟩) (fun k' hk' => HO.out.ok hk') HR.out.p (Below.refl _ _) HO.out.size (by omega) ?_; intro v7 w7 hR7 hB7 hG7 hat7; have HO7 := Aside0.mk (HO.out.grown hG7 (fun k' hk' => ⟨HR.out.p.1 k' hk', Kd.R_base HR.out.p k' hk'⟩)); have HR7 := Aside0.mk (HR.out.newP hG7 hR7); clear hR7 hB7 hG7 hat7 HO HR; refine Shut.out ?_)
              unfold Shut
              obtain ⟨un, hun⟩ : ∃ un, un = u ++ [nn] := ⟨_, rfl⟩
              rw [← hun] at HR7 HGD HHD
              clear hun
              obtain ⟨A7, c7, rfl⟩ := Kd.R_slice HR7.out.p
              go_wp2_with fail
              refine (full_empty_calls w7).mono ?_
              rintro e w8 ⟨rfl, hb⟩
              have HO8 := Aside0.mk (HO7.out.below hb)
              have HR8 := Aside0.mk (HR7.out.below hb)
              clear hb HO7 HR7
              obtain ⟨bl, hbl⟩ : ∃ bl, bl = bs blankL := ⟨_, rfl⟩
              rw [← hbl] at HHD ⊢
              clear hbl
              go_wp2_with (at_builtin; refine Kd.R_append Kd.string (W := w8) (w0 := w8) w.heap.size rfl (.tmp 93) (.tmp 95) 41 9 (.string ⟨#[]⟩) 16 rfl Try.underlying41 info9 rfl (by decide) (by decide) (.slice D d.length cd) _ bl [.string bl] (shOk ks mb) (fun k' => some k' ≠ (Value.slice D d.length cd).ownBlock ∧ shOk ks mb k') rfl (by show Value.slice (some ⟨w8.heap.size, 0, none⟩) 1 1 = _; simp) rfl (fun _ h => ⟨h.2, h.1⟩) (fun k' hk' => HO8.out.ok hk') HR8.out.q (Below.refl _ _) HO8.out.size (by omega) ?_; intro v9 w9 hR9 hB9 hG9 hat9; have HO9 := Aside0.mk (HO8.out.grown hG9 (fun k' hk' => ⟨HR8.out.q.1 k' hk', Kd.R_base HR8.out.q k' hk'⟩)); have HR9 := Aside0.mk (HR8.out.newD hG9 hR9); clear hR9 hB9 hG9 hat9 HO8 HR8; refine Shut.out ?_)
              unfold Shut
              go_wp2
              go_meet
              case rel => exact ⟨s', un, d ++ [bl], p', L', HO9, HGD, HHD, HR9⟩
            · have t6 : ((u.length : Int) == 0) = false := beq_eq_false_iff_ne.2 (by omega)
              have hk' : k < u.length := by omega
              clear hk
              cases h5 : (x.tmod 4 == 1)
              · obtain ⟨ad2, hU2, hy⟩ := Kd.at_int (Kd.R_reads' HR.out.p).2.2 (k : Int) (by omega) (by omega)
                subst hU2
                clear hy
                have hy := R_cellk HR.out.p k hk'
                have hkd : k < d.length := by have := HDL.out; omega
                obtain ⟨gd, cd', hgd, -, -, cells, hgc⟩ := Kd.R_form HR.out.q (by omega)
                injection hgd with hgd1 _ hgd2
                subst hgd1 hgd2
                clear hgc cells
                have KP := Aside0.mk (fun (t : ByteArray) (ht : t.size = 232) => keeps_put HGD.out HHD.out mb hk' ht)
                obtain ⟨y, hyd⟩ : ∃ y, y = u.getD k 0 := ⟨_, rfl⟩
                rw [← hyd] at hy KP
                clear hyd
                have hcv := two_bytes
                go_wp2_with fail
                refine (full_calls _ _).mono ?_
                rintro e w4 ⟨rfl, hb⟩
                have hbb : Below wc.heap.size wc w4 := (below_alloc (Below.refl _ _) _).trans (hb.mono (by simp))
                replace hy := (hbb.cell (World.block_lt_of_cell? _ _ hy)).trans hy
                replace HO := Aside0.mk (HO.out.below hbb)
                replace HR := Aside0.mk (HR.out.below hbb)
                clear hb hbb hx hcv
                obtain ⟨t, ht⟩ : ∃ t, t = bs (fullL (strOfNums [x % 256, (j : Int)]).data.toList) := ⟨_, rfl⟩
                obtain ⟨h1, h2, h3⟩ := KP.out t (by rw [ht, bs_size, fullL_length])
                obtain ⟨s', hs'⟩ : ∃ s' : Sh, s' = ⟨s.limit, s.hd, upd s.f y t, s.left⟩ := ⟨_, rfl⟩
                rw [← hs'] at h1 h2 h3
                have hpc := fun W hW => shPut_calls ks mb s y t W hW (by rw [HGD.out.left]; decide)
                rw [h1] at hpc
                have HPC := Aside0.mk hpc
                replace HGD := Aside0.mk h2
                replace HHD := Aside0.mk h3
                rw [← ht]
                clear hpc h1 h2 h3 hs' ht KP
                go_wp2_with fail
                refine (HPC.out _ HO.out.at_).mono ?_
                rintro e w5 ⟨rfl, hs, hf⟩
                replace HR := Aside0.mk (HR.out.fr hf)
                replace HO := Aside0.mk (HO.out.fr hs hf)
                clear hs hf HPC hy
                obtain ⟨hz, hzf⟩ := Kd.R_cell ByteArray.empty HR.out.q (k : Int) (by omega) (by omega)
                rw [Int.toNat_natCast] at hz hzf
                go_wp2
                obtain ⟨hq1, hq2⟩ := Kd.R_put HR.out.q (k : Int) t
                rw [Int.toNat_natCast] at hq1 hq2
                have HO6 := Aside0.mk (HO.out.grown hq2 (fun k' hk' => ⟨HR.out.q.1 k' hk', Kd.R_base HR.out.q k' hk'⟩))
                have HR6 := Aside0.mk (HR.out.newD (v := .slice (some ⟨gd, 0, none⟩) d.length cd) hq2 hq1)
                clear hq1 hq2
                go_meet
                case rel => exact ⟨s', u, d.set k t, p, L, HO6, HGD, HHD, HR6⟩
              · obtain ⟨ad2, hU2, hy⟩ := Kd.at_int (Kd.R_reads' HR.out.p).2.2 (k : Int) (by omega) (by omega)
                subst hU2
                clear hy
                have hy := R_cellk HR.out.p k hk'
                have hkd : k < d.length := by have := HDL.out; omega
                obtain ⟨ad3, hD3, hz⟩ := Kd.at_string (Kd.R_reads' HR.out.q).2.2 (k : Int) (by omega) (by omega)
                subst hD3
                clear hz
                obtain ⟨s', hfr, hg', hh'⟩ := keeps_free HGD.out HHD.out mb hk'
                obtain ⟨y, hyd⟩ : ∃ y, y = u.getD k 0 := ⟨_, rfl⟩
                rw [← hyd] at hy hfr
                have hfc := fun W hW => shFree_calls ks mb s y W hW (by rw [HGD.out.left]; decide) HGD.out.bd
                rw [hfr] at hfc
                have HFC := Aside0.mk hfc
                replace HGD := Aside0.mk hg'
                replace HHD := Aside0.mk hh'
                clear hyd hfc hfr hg' hh'
                go_wp2_with fail
                refine (HFC.out _ HO.out.at_).mono ?_
                rintro e w4 ⟨rfl, hs, hf⟩
                replace HR := Aside0.mk (HR.out.fr hf)
                replace HO := Aside0.mk (HO.out.fr hs hf)
                clear hs hf HFC hy hx
                go_wp2_with fail
                refine start_ (n := 11) (S := fun _ => True) (ds := []) #[false, false, false, false, false, false, false, false, false, false, false] (by kernel_rfl) rfl rfl trivial (fun hHeld => ?_)
                replace HO := Aside0.mk (HO.out.below (Below.refl _ _).drew)
                replace HR := Aside0.mk (HR.out.below (Below.refl _ _).drew)
                generalize w4.drew = wd at HO HR hHeld ⊢
                have hcu := (Kd.R_reads' HR.out.p).2.1
                have HT := Aside0.mk (RowsI.start HR.out HO.out.size (HO.out.ok (Nat.le_refl _)))
                have HO5 := Aside0.mk (HO.out.below (below_alloc (Below.refl _ _) (.cells #[] 3)))
                have HC5 := Aside0.mk (C_upto (Kd.R_reads' HT.out.p).2.2 k (by omega))
                have hkc : k ≤ cu := by omega
                have hk1 : IntKind.i64.wrap ((k : Int) + 1) = (k : Int) + 1 := by rw [IntKind.wrap_i64]; omega
                have hk2 : wrap64 ((k : Int) + 1) = (k : Int) + 1 := by unfold wrap64; omega
                have HCU := Aside0.mk hcu
                have HW := Aside0.mk (show wd.heap.size < (wd.alloc (.cells #[] 3)).heap.size by simp)
                obtain ⟨X, hX⟩ : ∃ X, X = (if cu = k + 1 then some ad2 else some (ad2.add (k + 1))) := ⟨_, rfl⟩
                obtain ⟨n2, hn2⟩ : ∃ n2, n2 = u.length - (k + 1) := ⟨_, rfl⟩
                obtain ⟨c2, hc2⟩ : ∃ c2, c2 = cu - (k + 1) := ⟨_, rfl⟩
                have hcut : ∀ W : World, (Instr.slice 22 (.slice (some ad2) u.length cu) (some (.int .i64 ((k : Int) + 1))) none none).run Try.prog W = .ok (.slice X n2 c2) W := fun W => by rw [hX, hn2, hc2]; exact cut_from (some ad2) u.length cu k (by omega) W
                have hn2l : n2 ≤ 100 := by omega
                have HX := Aside0.mk hX
                have HN2 := Aside0.mk hn2
                clear hX hn2 hc2
                obtain ⟨l1, hl1⟩ : ∃ l1, l1 = u.take k := ⟨_, rfl⟩
                rw [← hl1] at HC5
                have HLL1 : Aside0 (l1.length = k) := ⟨by rw [hl1, List.length_take]; omega⟩
                have HL1 := Aside0.mk hl1
                clear hl1 hcu
                refine pure_ (i := 1) (N := some 112) (v := ?_) (a' := ?_) #[false, true, false, false, false, false, false, false, false, false, false] rfl rfl (by kernel_rfl) (fun _ _ _ h => h) (Or.inl ⟨by rfl, ?_⟩) ?_ ?_
                rotate_left
                · intro w'
                  go_simp
                  with_reducible rfl
                rotate_left
                · simp only [Act.put, List.setIfInBounds_toArray, List.set_cons_zero, List.set_cons_succ]
                  rfl
                refine pure_ (i := 2) (N := some 113) (v := ?_) (a' := ?_) #[false, true, true, false, false, false, false, false, false, false, false] rfl rfl (by kernel_rfl) (fun _ _ _ h => h) (Or.inl ⟨by rfl, ?_⟩) ?_ ?_
                rotate_left
                · intro w'
                  go_simp
                  with_reducible rfl
                rotate_left
                · simp only [Act.put, List.setIfInBounds_toArray, List.set_cons_zero, List.set_cons_succ]
                  rfl
                refine pure_ (i := 3) (N := some 114) (v := ?_) (a' := ?_) #[false, true, true, true, false, false, false, false, false, false, false] rfl rfl (by kernel_rfl) (fun _ _ _ h => h) (Or.inl ⟨by rfl, ?_⟩) ?_ ?_
                rotate_left
                · intro w'
                  go_simp
                  with_reducible rfl
                rotate_left
                · simp only [Act.put, List.setIfInBounds_toArray, List.set_cons_zero, List.set_cons_succ]
                  rfl
                refine pure_ (i := 5) (N := some 116) (v := ?_) (a' := ?_) #[false, true, true, true, false, true, false, false, false, false, false] rfl rfl (by kernel_rfl) (fun _ _ _ h => h) (Or.inl ⟨by rfl, ?_⟩) ?_ ?_
                rotate_left
                · intro w'
                  go_simp
                  with_reducible rfl
                rotate_left
                · simp only [Act.put, List.setIfInBounds_toArray, List.set_cons_zero, List.set_cons_succ]
                  rfl
                refine pure_ (i := 6) (N := some 117) (v := ?_) (a' := ?_) #[false, true, true, true, false, true, true, false, false, false, false] rfl rfl (by kernel_rfl) (fun _ _ _ h => h) (Or.inl ⟨by rfl, ?_⟩) ?_ ?_
                rotate_left
                · intro w'
                  go_simp
                  with_reducible rfl
                rotate_left
                · simp only [Act.put, List.setIfInBounds_toArray, List.set_cons_zero, List.set_cons_succ]
                  rfl
                refine pure_ (i := 7) (N := some 118) (v := ?_) (a' := ?_) #[false, true, true, true, false, true, true, true, false, false, false] rfl rfl (by kernel_rfl) (fun _ _ _ h => h) (Or.inl ⟨by rfl, ?_⟩) ?_ ?_
                rotate_left
                · intro w'
                  go_simp
                  with_reducible rfl
                rotate_left
                · simp only [Act.put, List.setIfInBounds_toArray, List.set_cons_zero, List.set_cons_succ]
                  rfl
                refine pure_ (i := 8) (N := some 119) (v := ?_) (a' := ?_) #[false, true, true, true, false, true, true, true, true, false, false] rfl rfl (by kernel_rfl) (fun _ _ _ h => h) (Or.inl ⟨by rfl, ?_⟩) ?_ ?_
                rotate_left
                · intro w'
                  go_simp
                  with_reducible rfl
                rotate_left
                · simp only [Act.put, List.setIfInBounds_toArray, List.set_cons_zero, List.set_cons_succ]
                  rfl
                refine one_ (i := 0) (N := some 111) #[true, true, true, true, false, true, true, true, true, false, false] rfl rfl (by kernel_rfl) (by decide) (fun K hK => ?_)
                refine event_step (v := .slice (some ⟨wd.heap.size, 0, none⟩) 0 0) (w1 := (wd.alloc (.cells #[] 3))) (by rfl) (by go_simp) ?_
                refine hK.out _ _ trivial (fun hHeld => ?_)
                clear hK K
                refine norm_ (a' := ?_) ?_ ?_
                rotate_left
                · show Act.put _ (some 111) _ = _
                  simp only [Act.put, List.setIfInBounds_toArray, List.set_cons_zero, List.set_cons_succ]
                  rfl
                refine one_ (i := 4) (N := some 115) #[true, true, true, true, true, true, true, true, true, false, false] rfl rfl (by kernel_rfl) (by decide) (fun K hK => ?_)
                refine Kd.R_append_rows_step (Kd.int .i64) (W := (wd.alloc (.cells #[] 3))) (w0 := (wd.alloc (.cells #[] 3))) w.heap.size (by rfl) (.tmp 111) (.tmp 114) 22 3 (.int .i64 0) 8 rfl Try.underlying22 info3 rfl (by decide) (by decide) (.slice (some ⟨wd.heap.size, 0, none⟩) 0 0) [] l1 (some ad2) k cu (fun i => shOk ks mb i ∧ wd.heap.size ≤ i) (fun _ => False) rfl rfl HT.out.l HC5.out (fun _ _ h => h) (fun _ h => h.elim) (fun k' hk' => ⟨HO5.out.ok hk', Nat.le_trans HT.out.n hk'⟩) (Below.refl _ _) HO5.out.size (by simp; omega) ?_
                intro v6 w6 hR6 hB6 hG6 hat6
                rw [List.nil_append] at hR6
                have HO6 := Aside0.mk (HO5.out.grown hG6 (fun k' hk' => ⟨(HT.out.l.1 k' hk').1, Kd.R_base HT.out.l k' hk'⟩))
                have HT6 := Aside0.mk (HT.out.grow hG6 hR6)
                clear hR6 hB6 hG6 hat6 HO5 HT HC5 HO HR
                obtain ⟨A6, c6, rfl⟩ := Kd.R_slice HT6.out.l
                refine hK.out _ _ trivial (fun hHeld => ?_)
                clear hK K
                refine norm_ (a' := ?_) ?_ ?_
                rotate_left
                · show Act.put _ (some 115) _ = _
                  simp only [Act.put, List.setIfInBounds_toArray, List.set_cons_zero, List.set_cons_succ]
                  rfl
                rw [HLL1.out] at HT6 ⊢
                obtain ⟨l2, hl2⟩ : ∃ l2, l2 = u.drop (k + 1) := ⟨_, rfl⟩
                have HC6 : Aside0 ((Kd.int .i64).C w6 X n2 l2) := ⟨by have h := C_from (Kd.R_reads' HT6.out.p).2.2 (k + 1) (by omega) HCU.out; rw [hl2, HX.out, HN2.out]; exact h⟩
                have HL2 := Aside0.mk hl2
                have HLL2 : Aside0 (l2.length = n2) := ⟨by rw [hl2, HN2.out, List.length_drop]⟩
                clear hl2 HX HCU
                refine one_ (i := 9) (N := some 120) #[true, true, true, true, true, true, true, true, true, true, false] rfl rfl (by kernel_rfl) (by decide) (fun K hK => ?_)
                refine Kd.R_append_rows_step (Kd.int .i64) (W := w6) (w0 := w6) w.heap.size (by rfl) (.tmp 115) (.tmp 119) 22 3 (.int .i64 0) 8 rfl Try.underlying22 info3 rfl (by decide) (by decide) (.slice A6 k c6) l1 l2 X n2 c2 (fun i => shOk ks mb i ∧ wd.heap.size ≤ i) (fun _ => False) rfl rfl HT6.out.l HC6.out (fun _ _ h => h) (fun _ h => h.elim) (fun k' hk' => ⟨HO6.out.ok hk', Nat.le_trans HT6.out.n hk'⟩) (Below.refl _ _) HO6.out.size (by rw [HLL1.out]; omega) ?_
                intro v8 w8 hR8 hB8 hG8 hat8
                have HO8 := Aside0.mk (HO6.out.grown hG8 (fun k' hk' => ⟨(HT6.out.l.1 k' hk').1, Kd.R_base HT6.out.l k' hk'⟩))
                have HR8 := Aside0.mk (HT6.out.grow hG8 hR8).done
                clear hR8 hB8 hG8 hat8 HO6 HT6 HC6
                refine hK.out _ _ trivial (fun hHeld => ?_)
                clear hK K
                refine norm_ (a' := ?_) ?_ ?_
                rotate_left
                · show Act.put _ (some 120) _ = _
                  simp only [Act.put, List.setIfInBounds_toArray, List.set_cons_zero, List.set_cons_succ]
                  rfl
                refine pure_ (i := 10) (N := some 4) (v := ?_) (a' := ?_) #[true, true, true, true, true, true, true, true, true, true, true] rfl rfl (by kernel_rfl) (fun _ _ _ h => h) (Or.inl ⟨by rfl, ?_⟩) ?_ ?_
                rotate_left
                · intro w'
                  go_simp
                  with_reducible rfl
                rotate_left
                · simp only [Act.put, List.setIfInBounds_toArray, List.set_cons_zero, List.set_cons_succ]
                  rfl
                refine done_ (by kernel_rfl) ?_
                rw [HL1.out, HL2.out] at HR8
                obtain ⟨un, hun⟩ : ∃ un, un = u.take k ++ u.drop (k + 1) := ⟨_, rfl⟩
                rw [← hun] at HR8 HGD HHD
                clear hun HL1 HL2 HLL1 HLL2 HW HN2
                clear hn2l hcut hkc hk1 hk2
                obtain ⟨A8, c8, rfl⟩ := Kd.R_slice HR8.out.p
                obtain ⟨wm, hwm⟩ : ∃ wm, wm = w8 := ⟨_, rfl⟩
                rw [← hwm] at HR8 HO8 ⊢
                clear hwm hHeld
                have HR := HR8
                have HO := HO8
                clear HR8 HO8
                go_wp2_with fail
                refine start_ (n := 11) (S := fun _ => True) (ds := []) #[false, false, false, false, false, false, false, false, false, false, false] (by kernel_rfl) rfl rfl trivial (fun hHeld => ?_)
                replace HO := Aside0.mk (HO.out.below (Below.refl _ _).drew)
                replace HR := Aside0.mk (HR.out.below (Below.refl _ _).drew)
                generalize wm.drew = wd at HO HR hHeld ⊢
                have hcu := (Kd.R_reads' HR.out.q).2.1
                have HT := Aside0.mk (RowsS.start HR.out HO.out.size (HO.out.ok (Nat.le_refl _)))
                have HO5 := Aside0.mk (HO.out.below (below_alloc (Below.refl _ _) (.cells #[] 9)))
                have HC5 := Aside0.mk (C_uptoS (Kd.R_reads' HT.out.q).2.2 k (by omega))
                have hkc : k ≤ cd := by omega
                have hk1 : IntKind.i64.wrap ((k : Int) + 1) = (k : Int) + 1 := by rw [IntKind.wrap_i64]; omega
                have hk2 : wrap64 ((k : Int) + 1) = (k : Int) + 1 := by unfold wrap64; omega
                have HCU := Aside0.mk hcu
                have HW := Aside0.mk (show wd.heap.size < (wd.alloc (.cells #[] 9)).heap.size by simp)
                obtain ⟨X, hX⟩ : ∃ X, X = (if cd = k + 1 then some ad3 else some (ad3.add (k + 1))) := ⟨_, rfl⟩
                obtain ⟨n2, hn2⟩ : ∃ n2, n2 = d.length - (k + 1) := ⟨_, rfl⟩
                obtain ⟨c2, hc2⟩ : ∃ c2, c2 = cd - (k + 1) := ⟨_, rfl⟩
                have hcut : ∀ W : World, (Instr.slice 41 (.slice (some ad3) d.length cd) (some (.int .i64 ((k : Int) + 1))) none none).run Try.prog W = .ok (.slice X n2 c2) W := fun W => by rw [hX, hn2, hc2]; exact cut_fromS (some ad3) d.length cd k (by omega) W
                have hn2l : n2 ≤ 100 := by omega
                have HX := Aside0.mk hX
                have HN2 := Aside0.mk hn2
                clear hX hn2 hc2
                obtain ⟨l1, hl1⟩ : ∃ l1, l1 = d.take k := ⟨_, rfl⟩
                rw [← hl1] at HC5
                have HLL1 : Aside0 (l1.length = k) := ⟨by rw [hl1, List.length_take]; omega⟩
                have HL1 := Aside0.mk hl1
                clear hl1 hcu
                refine pure_ (i := 1) (N := some 122) (v := ?_) (a' := ?_) #[false, true, false, false, false, false, false, false, false, false, false] rfl rfl (by kernel_rfl) (fun _ _ _ h => h) (Or.inl ⟨by rfl, ?_⟩) ?_ ?_
                rotate_left
                · intro w'
                  go_simp
                  with_reducible rfl
                rotate_left
                · simp only [Act.put, List.setIfInBounds_toArray, List.set_cons_zero, List.set_cons_succ]
                  rfl
                refine pure_ (i := 2) (N := some 123) (v := ?_) (a' := ?_) #[false, true, true, false, false, false, false, false, false, false, false] rfl rfl (by kernel_rfl) (fun _ _ _ h => h) (Or.inl ⟨by rfl, ?_⟩) ?_ ?_
                rotate_left
                · intro w'
                  go_simp
                  with_reducible rfl
                rotate_left
                · simp only [Act.put, List.setIfInBounds_toArray, List.set_cons_zero, List.set_cons_succ]
                  rfl
                refine pure_ (i := 3) (N := some 124) (v := ?_) (a' := ?_) #[false, true, true, true, false, false, false, false, false, false, false] rfl rfl (by kernel_rfl) (fun _ _ _ h => h) (Or.inl ⟨by rfl, ?_⟩) ?_ ?_
                rotate_left
                · intro w'
                  go_simp
                  with_reducible rfl
                rotate_left
                · simp only [Act.put, List.setIfInBounds_toArray, List.set_cons_zero, List.set_cons_succ]
                  rfl
                refine pure_ (i := 5) (N := some 126) (v := ?_) (a' := ?_) #[false, true, true, true, false, true, false, false, false, false, false] rfl rfl (by kernel_rfl) (fun _ _ _ h => h) (Or.inl ⟨by rfl, ?_⟩) ?_ ?_
                rotate_left
                · intro w'
                  go_simp
                  with_reducible rfl
                rotate_left
                · simp only [Act.put, List.setIfInBounds_toArray, List.set_cons_zero, List.set_cons_succ]
                  rfl
                refine pure_ (i := 6) (N := some 127) (v := ?_) (a' := ?_) #[false, true, true, true, false, true, true, false, false, false, false] rfl rfl (by kernel_rfl) (fun _ _ _ h => h) (Or.inl ⟨by rfl, ?_⟩) ?_ ?_
                rotate_left
                · intro w'
                  go_simp
                  with_reducible rfl
                rotate_left
                · simp only [Act.put, List.setIfInBounds_toArray, List.set_cons_zero, List.set_cons_succ]
                  rfl
                refine pure_ (i := 7) (N := some 128) (v := ?_) (a' := ?_) #[false, true, true, true, false, true, true, true, false, false, false] rfl rfl (by kernel_rfl) (fun _ _ _ h => h) (Or.inl ⟨by rfl, ?_⟩) ?_ ?_
                rotate_left
                · intro w'
                  go_simp
                  with_reducible rfl
                rotate_left
                · simp only [Act.put, List.setIfInBounds_toArray, List.set_cons_zero, List.set_cons_succ]
                  rfl
                refine pure_ (i := 8) (N := some 129) (v := ?_) (a' := ?_) #[false, true, true, true, false, true, true, true, true, false, false] rfl rfl (by kernel_rfl) (fun _ _ _ h => h) (Or.inl ⟨by rfl, ?_⟩) ?_ ?_
                rotate_left
                · intro w'
                  go_simp
                  with_reducible rfl
                rotate_left
                · simp only [Act.put, List.setIfInBounds_toArray, List.set_cons_zero, List.set_cons_succ]
                  rfl
                refine one_ (i := 0) (N := some 121) #[true, true, true, true, false, true, true, true, true, false, false] rfl rfl (by kernel_rfl) (by decide) (fun K hK => ?_)
                refine event_step (v := .slice (some ⟨wd.heap.size, 0, none⟩) 0 0) (w1 := (wd.alloc (.cells #[] 9))) (by rfl) (by go_simp) ?_
                refine hK.out _ _ trivial (fun hHeld => ?_)
                clear hK K
                refine norm_ (a' := ?_) ?_ ?_
                rotate_left
                · show Act.put _ (some 121) _ = _
                  simp only [Act.put, List.setIfInBounds_toArray, List.set_cons_zero, List.set_cons_succ]
                  rfl
                refine one_ (i := 4) (N := some 125) #[true, true, true, true, true, true, true, true, true, false, false] rfl rfl (by kernel_rfl) (by decide) (fun K hK => ?_)
                refine Kd.R_append_rows_step Kd.string (W := (wd.alloc (.cells #[] 9))) (w0 := (wd.alloc (.cells #[] 9))) w.heap.size (by rfl) (.tmp 121) (.tmp 124) 41 9 (.string ⟨#[]⟩) 16 rfl Try.underlying41 info9 rfl (by decide) (by decide) (.slice (some ⟨wd.heap.size, 0, none⟩) 0 0) [] l1 (some ad3) k cd (fun i => shOk ks mb i ∧ wd.heap.size ≤ i) (fun _ => False) rfl rfl HT.out.l HC5.out (fun _ _ h => h) (fun _ h => h.elim) (fun k' hk' => ⟨HO5.out.ok hk', Nat.le_trans HT.out.n hk'⟩) (Below.refl _ _) HO5.out.size (by simp; omega) ?_
                intro v6 w6 hR6 hB6 hG6 hat6
                rw [List.nil_append] at hR6
                have HO6 := Aside0.mk (HO5.out.grown hG6 (fun k' hk' => ⟨(HT.out.l.1 k' hk').1, Kd.R_base HT.out.l k' hk'⟩))
                have HT6 := Aside0.mk (HT.out.grow hG6 hR6)
                clear hR6 hB6 hG6 hat6 HO5 HT HC5 HO HR
                obtain ⟨A6, c6, rfl⟩ := Kd.R_slice HT6.out.l
                refine hK.out _ _ trivial (fun hHeld => ?_)
                clear hK K
                refine norm_ (a' := ?_) ?_ ?_
                rotate_left
                · show Act.put _ (some 125) _ = _
                  simp only [Act.put, List.setIfInBounds_toArray, List.set_cons_zero, List.set_cons_succ]
                  rfl
                rw [HLL1.out] at HT6 ⊢
                obtain ⟨l2, hl2⟩ : ∃ l2, l2 = d.drop (k + 1) := ⟨_, rfl⟩
                have HC6 : Aside0 (Kd.string.C w6 X n2 l2) := ⟨by have h := C_fromS (Kd.R_reads' HT6.out.q).2.2 (k + 1) (by omega) HCU.out; rw [hl2, HX.out, HN2.out]; exact h⟩
                have HL2 := Aside0.mk hl2
                have HLL2 : Aside0 (l2.length = n2) := ⟨by rw [hl2, HN2.out, List.length_drop]⟩
                clear hl2 HX HCU
                refine one_ (i := 9) (N := some 130) #[true, true, true, true, true, true, true, true, true, true, false] rfl rfl (by kernel_rfl) (by decide) (fun K hK => ?_)
                refine Kd.R_append_rows_step Kd.string (W := w6) (w0 := w6) w.heap.size (by rfl) (.tmp 125) (.tmp 129) 41 9 (.string ⟨#[]⟩) 16 rfl Try.underlying41 info9 rfl (by decide) (by decide) (.slice A6 k c6) l1 l2 X n2 c2 (fun i => shOk ks mb i ∧ wd.heap.size ≤ i) (fun _ => False) rfl rfl HT6.out.l HC6.out (fun _ _ h => h) (fun _ h => h.elim) (fun k' hk' => ⟨HO6.out.ok hk', Nat.le_trans HT6.out.n hk'⟩) (Below.refl _ _) HO6.out.size (by rw [HLL1.out]; omega) ?_
                intro v8 w8 hR8 hB8 hG8 hat8
                have HO8 := Aside0.mk (HO6.out.grown hG8 (fun k' hk' => ⟨(HT6.out.l.1 k' hk').1, Kd.R_base HT6.out.l k' hk'⟩))
                have HR8 := Aside0.mk (HT6.out.grow hG8 hR8).done
                clear hR8 hB8 hG8 hat8 HO6 HT6 HC6
                refine hK.out _ _ trivial (fun hHeld => ?_)
                clear hK K
                refine norm_ (a' := ?_) ?_ ?_
                rotate_left
                · show Act.put _ (some 130) _ = _
                  simp only [Act.put, List.setIfInBounds_toArray, List.set_cons_zero, List.set_cons_succ]
                  rfl
                refine pure_ (i := 10) (N := some 5) (v := ?_) (a' := ?_) #[true, true, true, true, true, true, true, true, true, true, true] rfl rfl (by kernel_rfl) (fun _ _ _ h => h) (Or.inl ⟨by rfl, ?_⟩) ?_ ?_
                rotate_left
                · intro w'
                  go_simp
                  with_reducible rfl
                rotate_left
                · simp only [Act.put, List.setIfInBounds_toArray, List.set_cons_zero, List.set_cons_succ]
                  rfl
                refine done_ (by kernel_rfl) ?_
                rw [HL1.out, HL2.out] at HR8
                go_wp2
                go_meet
                case rel => exact ⟨s', un, d.take k ++ d.drop (k + 1), p, L + 1, HO8, HGD, HHD, HR8⟩
          · by_cases hroom : (u.length : Int) + 1 = 100
            · have hrm := HGD.out.room mb hroom
              have hnc := fun W hW => shNew_calls ks mb s W hW (by rw [HGD.out.left]; decide) HGD.out.bd
              rw [hrm] at hnc
              have HNC := Aside0.mk hnc
              have t7 : ((u.length : Int) != 99) = false := by simp only [bne, beq_iff_eq.2 (show (u.length : Int) = 99 by omega)]; rfl
              clear hnc hrm hroom
              go_wp2_with fail
              refine (HNC.out _ HO.out.at_).mono ?_
              rintro e w4 ⟨rfl, hs, hf⟩
              replace HR := Aside0.mk (HR.out.fr hf)
              replace HO := Aside0.mk (HO.out.fr hs hf)
              clear hs hf HNC hx
              go_wp2
              go_roundw
              case rel => exact ⟨j + 1, s, u, d, p, L, by omega, by omega, by go_num, HO, HGD, HHD, HR⟩
              case measure => simp only [intOf]; omega
            · obtain ⟨s', nn, p', L', hnw, hg', hh'⟩ := keeps_new HGD.out HHD.out mb (by omega)
              have hnc := fun W hW => shNew_calls ks mb s W hW (by rw [HGD.out.left]; decide) HGD.out.bd
              rw [hnw] at hnc
              have HNC := Aside0.mk hnc
              replace HGD := Aside0.mk hg'
              replace HHD := Aside0.mk hh'
              clear hnc hnw hg' hh'
              go_wp2_with fail
              refine (HNC.out _ HO.out.at_).mono ?_
              rintro e w4 ⟨rfl, hs, hf⟩
              replace HR := Aside0.mk (HR.out.fr hf)
              replace HO := Aside0.mk (HO.out.fr hs hf)
              clear hs hf HNC hx
              go_wp2_with (at_builtin; refine Kd.R_append (Kd.int .i64) (W := w4) (w0 := w4) w.heap.size rfl (.tmp 89) (.tmp 91) 22 3 (.int .i64 0) 8 rfl Try.underlying22 info3 rfl (by decide) (by decide) (.slice U u.length cu) _ nn [.int .i64 nn] (shOk ks mb) (fun k' => some k' ≠ (Value.slice U u.length cu).ownBlock ∧ shOk ks mb k') rfl (by show Value.slice (some ⟨w4.heap.size, 0, none⟩) 1 1 = _; simp) rfl (fun _ h => ⟨h.2, h.1⟩) (fun k' hk' => HO.out.ok hk') HR.out.p (Below.refl _ _) HO.out.size (by omega) ?_; intro v7 w7 hR7 hB7 hG7 hat7; have HO7 := Aside0.mk (HO.out.grown hG7 (fun k' hk' => ⟨HR.out.p.1 k' hk', Kd.R_base HR.out.p k' hk'⟩)); have HR7 := Aside0.mk (HR.out.newP hG7 hR7); clear hR7 hB7 hG7 hat7 HO HR; refine Shut.out ?_)
              unfold Shut
              obtain ⟨un, hun⟩ : ∃ un, un = u ++ [nn] := ⟨_, rfl⟩
              rw [← hun] at HR7 HGD HHD
              clear hun
              obtain ⟨A7, c7, rfl⟩ := Kd.R_slice HR7.out.p
              go_wp2_with fail
              refine (full_empty_calls w7).mono ?_
              rintro e w8 ⟨rfl, hb⟩
              have HO8 := Aside0.mk (HO7.out.below hb)
              have HR8 := Aside0.mk (HR7.out.below hb)
              clear hb HO7 HR7
              obtain ⟨bl, hbl⟩ : ∃ bl, bl = bs blankL := ⟨_, rfl⟩
              rw [← hbl] at HHD ⊢
              clear hbl
              go_wp2_with (at_builtin; refine Kd.R_append Kd.string (W := w8) (w0 := w8) w.heap.size rfl (.tmp 93) (.tmp 95) 41 9 (.string ⟨#[]⟩) 16 rfl Try.underlying41 info9 rfl (by decide) (by decide) (.slice D d.length cd) _ bl [.string bl] (shOk ks mb) (fun k' => some k' ≠ (Value.slice D d.length cd).ownBlock ∧ shOk ks mb k') rfl (by show Value.slice (some ⟨w8.heap.size, 0, none⟩) 1 1 = _; simp) rfl (fun _ h => ⟨h.2, h.1⟩) (fun k' hk' => HO8.out.ok hk') HR8.out.q (Below.refl _ _) HO8.out.size (by omega) ?_; intro v9 w9 hR9 hB9 hG9 hat9; have HO9 := Aside0.mk (HO8.out.grown hG9 (fun k' hk' => ⟨HR8.out.q.1 k' hk', Kd.R_base HR8.out.q k' hk'⟩)); have HR9 := Aside0.mk (HR8.out.newD hG9 hR9); clear hR9 hB9 hG9 hat9 HO8 HR8; refine Shut.out ?_)
              unfold Shut
              go_wp2
              go_meet
              case rel => exact ⟨s', un, d ++ [bl], p', L', HO9, HGD, HHD, HR9⟩
        case rest =>
          clear HO HGD HHD HR HSUM HDL
          obtain ⟨s, u, d, p, L, HO, HGD, HHD, HR⟩ := hcut
          obtain ⟨U, cu, rfl⟩ := Kd.R_slice HR.out.p
          obtain ⟨D, cd, rfl⟩ := Kd.R_slice HR.out.q
          have hul : u.length ≤ 99 := by have := HGD.out.sum; omega
          have HDL := Aside0.mk HHD.out.len
          have hdl : d.length ≤ 99 := by have := HDL.out; omega
          go_wp2_with fail
          go_loopw [11] (fun i wi => ∃ q : Nat, q ≤ u.length ∧ i = .int .i64 q ∧ Aside0 (Own ks mb w.heap.size w wi s) ∧ Aside0 (Rows2 ks mb w.heap.size wi (.slice U u.length cu) (.slice D d.length cd) u d)) (fun i _ => u.length - (intOf i).toNat)
          case atStart => exact ⟨0, Nat.zero_le _, rfl, HO, HR⟩
          case round =>
            clear HO HR
            obtain ⟨q, hq, rfl, HO, HR⟩ := hrel
            by_cases hql : q < u.length
            · have t8 : decide ((q : Int) < (u.length : Int)) = true := decide_eq_true (by omega)
              have hqd : q < d.length := by have := HDL.out; omega
              obtain ⟨ad2, hU2, hy⟩ := Kd.at_int (Kd.R_reads' HR.out.p).2.2 (q : Int) (by omega) (by omega)
              subst hU2
              obtain ⟨ad3, hD3, hz⟩ := Kd.at_string (Kd.R_reads' HR.out.q).2.2 (q : Int) (by omega) (by omega)
              subst hD3
              rw [Int.toNat_natCast] at hy hz
              obtain ⟨y, hyd⟩ : ∃ y, y = rd u (q : Int) := ⟨_, rfl⟩
              obtain ⟨z, hzd⟩ : ∃ z, z = rdOf ByteArray.empty d (q : Int) := ⟨_, rfl⟩
              have hgc := fun W hW => shGet_calls ks mb s y W hW (by rw [HGD.out.left]; decide)
              rw [show s.get y = (z, 0) from by rw [hyd, hzd]; exact Holds.get HGD.out HHD.out hql] at hgc
              rw [← hyd] at hy
              rw [← hzd] at hz
              have HGC := Aside0.mk hgc
              clear hgc hyd hzd hq
              go_wp2_with fail
              refine (HGC.out _ HO.out.at_).mono ?_
              rintro e w5 ⟨rfl, hb⟩
              replace hz := (hb.cell (World.block_lt_of_cell? _ _ hz)).trans hz
              replace HO := Aside0.mk (HO.out.below hb)
              replace HR := Aside0.mk (HR.out.below hb)
              clear hb HGC hy
              go_wp2
              go_roundw
              case rel => exact ⟨q + 1, by omega, by go_num, HO, HR⟩
              case measure => simp only [intOf]; omega
            · have hqe : q = u.length := by omega
              subst hqe
              have t8 : decide ((u.length : Int) < (u.length : Int)) = false := decide_eq_false (by omega)
              clear hq hql
              go_wp2
              go_roundw
              case rel => exact ⟨j + 1, s, u, d, p, L, by omega, by omega, by go_num, HO, HGD, HHD, HR⟩
              case measure => simp only [intOf]; omega
    · have hkc : al.length ≤ j ∨ (j < al.length ∧ 150 ≤ j) := by omega
      clear hC hlt
      have hsum := HGD.out.sum
      obtain ⟨t', hpg⟩ := HGD.out.pages
      have hhc := fun W hW => shHead_calls ks mb s W hW
      rw [hpg] at hhc
      unfold Hd.v at hhc
      dsimp only at hhc
      have HHC := Aside0.mk hhc
      obtain ⟨hs1, hs2, hs3⟩ := hsum
      have hLL : L ≤ 99 := by omega
      have t9 : (p == 1 + (u.length : Int) + (L : Int)) = true := beq_iff_eq.2 hs1
      clear hhc hpg hs1 hs2 hs3
      rcases hkc with hkc | hkc
      · have t1 : decide ((j : Int) < (al.length : Int)) = false := decide_eq_false (by omega)
        go_wp2_with fail
        refine (HHC.out _ HO.out.at_).mono ?_
        rintro e w4 ⟨rfl, hb⟩
        replace HO := Aside0.mk (HO.out.below hb)
        clear hb HHC
        go_wp2
        go_ret
        exact ⟨rfl, (HO.out.below (below_alloc (Below.refl _ _) _)).base⟩
      · have t1 : decide ((j : Int) < (al.length : Int)) = true := decide_eq_true (by omega)
        have t2 : decide ((j : Int) < 150) = false := decide_eq_false (by omega)
        go_wp2_with fail
        refine (HHC.out _ HO.out.at_).mono ?_
        rintro e w4 ⟨rfl, hb⟩
        replace HO := Aside0.mk (HO.out.below hb)
        clear hb HHC
        go_wp2
        go_ret
        exact ⟨rfl, (HO.out.below (below_alloc (Below.refl _ _) _)).base⟩
end Go.Proofs.Ytonbipaajhokfaa
