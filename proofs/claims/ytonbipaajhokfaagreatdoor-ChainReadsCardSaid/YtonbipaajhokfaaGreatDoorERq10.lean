/-
  Of this claim's texts, laid together by wip/gen/squeeze.py: H6 KF H7 H8 H12 N1 N2 N3 N4 N5 N6.
-/
import Derived.Test.YtonbipaajhokfaaGreatDoorERq7
import Derived.Test.YtonbipaajhokfaaGreatDoorERq9
import Derived.WalkLawsBesides
import Derived.Lib.OthersKept
import Derived.Lib.UnsafeStr
import Derived.Lib.Builder
import Derived.Lib.AppendStr
import Derived.IntWalk
section
set_option linter.unusedVariables false
set_option linter.unusedSimpArgs false
namespace Go.Proofs.YtonbipaajhokfaaGreatDoor
open Go.RowKit Go.Proofs.YtonbipaajhokfaaGreatDoorW.PrintWords Go.Proofs.YtonbipaajhokfaaGreatDoorW.PrintLast Go.Proofs.YtonbipaajhokfaaGreatDoorW.PrintMore
theorem results_c {P : Program} {fn : Func} {p : Tmp} {ty : TypeId} (h : fn.results = #[.cell p ty]) (tmps : Array Value) (w : World) (g : Nat) (t : TypeId) (cs : Array Value) (fr : Nat × Nat) (d : TypeDesc)
    (hp : tmps.getD p undef = .pointer (some ⟨g, 0, none⟩)) (hg : w.heap[g]? = some (.cells cs t fr))
    (hu : P.underlying ty = some d) (hd : (match d with | .struct _ | .array _ _ => true | _ => false) = true) (hi : (P.info? ty).map (·.size) = some cs.size) :
    (results fn tmps).run P w = .ok (.agg cs) w := by
  have hp' : tmps[p]?.getD undef = .pointer (some ⟨g, 0, none⟩) := by simpa using hp
  simp [results, h, hp', asAddr, run_loadVar_row w g t ty cs fr d hg hu hd hi]
set_option maxRecDepth 100000 in
theorem fresh46_calls (w : World) : Calls Tryz.prog 32 #[] w fun e w' => e = .returned (.agg #[.int .i64 1, .int .i64 1, .int .i64 0, .int .i64 0, .int .i64 0, .int .u64 0]) ∧ Below w.heap.size w w' := by
  have hu35 := Tryz.underlying48
  go_enter Tryz.func32, Tryz.ntmps32
  go_wp2
  refine bodyPost_ret (results_c rfl _ _ w.heap.size 48 #[.int .i64 1, .int .i64 1, .int .i64 0, .int .i64 0, .int .i64 0, .int .u64 0] (0, 0) _ rfl (blk_new w _) Tryz.underlying48 rfl (by kernel_rfl)) rfl ?_
  exact ⟨rfl, below_alloc (Below.refl _ _) _⟩
def Sh.start (lim : Int) : Sh := ⟨lim, ⟨1, 1, 0, 0, 0, 0⟩, fun _ => none, -1⟩
set_option maxHeartbeats 1000000 in
set_option maxRecDepth 100000 in
theorem shelfNew_calls (lim : Int) (w : World) (h1 : 1 ≤ lim) (h2 : lim ≤ 4096) :
    Calls Tryz.prog 14 #[.int .i64 lim] w fun e w' => ∃ ks mb, e = .returned (.pointer (some ⟨ks, 0, none⟩)) ∧ ShAt ks mb w' (Sh.start lim) ∧ w.heap.size ≤ ks ∧ w.heap.size ≤ mb ∧ Below w.heap.size w w' := by
  have hmm := @run_makeMap Tryz.prog
  have hm1 : max lim 1 = lim := by omega
  have hm2 : min lim 4096 = lim := by omega
  go_enter Tryz.func14, Tryz.ntmps14
  go_wp2_with (go_at_call 32; refine (fresh46_calls _).mono ?_; rintro e w1 ⟨rfl, hb1⟩)
  go_ret
  refine ⟨w1.heap.size + 1, w1.heap.size, rfl, ⟨?_, ?_⟩, Nat.le_trans hb1.size (by omega), hb1.size, ?_⟩
  · have := blk_new (w1.alloc (.map #[] 0)) (.cells #[.int .i64 lim, .int .i64 1, .int .i64 1, .int .i64 0, .int .i64 0, .int .i64 0, .int .u64 0, .map (some w1.heap.size), .int .i64 (-1)] 72)
    rw [World.size_alloc] at this
    exact this
  · refine (MapAt.new w1).keep ?_
    exact (below_alloc (Below.refl (w1.alloc (.map #[] 0)).heap.size (w1.alloc (.map #[] 0))) _).block w1.heap.size (by simp)
  · exact (hb1.trans ((below_alloc (below_alloc (Below.refl w1.heap.size w1) _) _).mono hb1.size))
set_option maxRecDepth 100000 in
theorem shHead_calls (ks mb : Nat) (s : Sh) (w : World) (h : ShAt ks mb w s) :
    Calls Tryz.prog 18 #[.pointer (some ⟨ks, 0, none⟩)] w fun e w' => e = .returned s.hd.v ∧ Below w.heap.size w w' := by
  obtain ⟨lim, ⟨m, p, t, sp, r, ch⟩, f, lf⟩ := s
  have hu35 := Tryz.underlying48
  have a1 : ∀ o, (w.alloc o).cell? ⟨ks, 1, none⟩ = some (.int .i64 m) := fun o => (blk_cell (blk_alloc h.1 o) 1).trans rfl
  have a2 : ∀ o, (w.alloc o).cell? ⟨ks, 2, none⟩ = some (.int .i64 p) := fun o => (blk_cell (blk_alloc h.1 o) 2).trans rfl
  have a3 : ∀ o, (w.alloc o).cell? ⟨ks, 3, none⟩ = some (.int .i64 t) := fun o => (blk_cell (blk_alloc h.1 o) 3).trans rfl
  have a4 : ∀ o, (w.alloc o).cell? ⟨ks, 4, none⟩ = some (.int .i64 sp) := fun o => (blk_cell (blk_alloc h.1 o) 4).trans rfl
  have a5 : ∀ o, (w.alloc o).cell? ⟨ks, 5, none⟩ = some (.int .i64 r) := fun o => (blk_cell (blk_alloc h.1 o) 5).trans rfl
  have a6 : ∀ o, (w.alloc o).cell? ⟨ks, 6, none⟩ = some (.int .u64 ch) := fun o => (blk_cell (blk_alloc h.1 o) 6).trans rfl
  have hks := h.lt
  have HKS := Aside0.mk hks
  clear hks
  clear h
  go_enter Tryz.func18, Tryz.ntmps18
  go_wp2
  refine bodyPost_ret (results_c rfl _ _ w.heap.size 48 #[.int .i64 m, .int .i64 p, .int .i64 t, .int .i64 sp, .int .i64 r, .int .u64 ch] (0, 0) _ rfl ?_ Tryz.underlying48 rfl (by kernel_rfl)) rfl ?_
  · exact blk_new w _
  · exact ⟨rfl, below_alloc (Below.refl _ _) _⟩
end Go.Proofs.YtonbipaajhokfaaGreatDoor
end
section
set_option linter.unusedVariables false
set_option linter.unusedSimpArgs false
namespace Go.Proofs.YtonbipaajhokfaaGreatDoor
open Go.RowKit Go.Proofs.YtonbipaajhokfaaGreatDoorW.PrintWords Go.Proofs.YtonbipaajhokfaaGreatDoorW.PrintLast Go.Proofs.YtonbipaajhokfaaGreatDoorW.PrintMore
def Inv (used st : List Int) (p : Int) : Prop := p = 1 + used.length + st.length ∧ (used ++ st).Nodup ∧ ∀ y ∈ used ++ st, 1 ≤ y ∧ y < p
theorem Inv.start : Inv [] [] 1 := ⟨rfl, by simp, by simp⟩
theorem split_at (l : List Int) (k : Nat) (h : k < l.length) : l = l.take k ++ l.getD k 0 :: l.drop (k + 1) := by
  have e : l.getD k 0 = l[k] := by simp [List.getD_eq_getElem?_getD, List.getElem?_eq_getElem h]
  rw [e, ← List.drop_eq_getElem_cons h, List.take_append_drop]
theorem Inv.perm {u u' st st' : List Int} {p : Int} (h : Inv u st p) (hp : (u' ++ st').Perm (u ++ st)) : Inv u' st' p := by
  obtain ⟨h1, h2, h3⟩ := h
  have hl := hp.length_eq
  simp only [List.length_append] at hl
  exact ⟨by omega, hp.nodup_iff.2 h2, fun y hy => h3 y (hp.mem_iff.1 hy)⟩
theorem Inv.give {u st : List Int} {p : Int} (h : Inv u st p) {k : Nat} (hk : k < u.length) : Inv (u.take k ++ u.drop (k + 1)) (u.getD k 0 :: st) p := by
  refine h.perm ?_
  have e := split_at u k hk
  have h1 : (u.take k ++ u.drop (k + 1) ++ u.getD k 0 :: st).Perm (u.getD k 0 :: (u.take k ++ u.drop (k + 1) ++ st)) := List.perm_middle
  have h2 : (u.take k ++ u.getD k 0 :: u.drop (k + 1)).Perm (u.getD k 0 :: (u.take k ++ u.drop (k + 1))) := List.perm_middle
  rw [← e] at h2
  exact h1.trans (h2.symm.append_right st)
theorem Inv.take {u st : List Int} {p x : Int} (h : Inv u (x :: st) p) : Inv (u ++ [x]) st p := h.perm (by simp)
theorem Inv.new {u : List Int} {p : Int} (h : Inv u [] p) : Inv (u ++ [p]) [] (p + 1) := by
  obtain ⟨h1, h2, h3⟩ := h
  simp only [List.append_nil, List.length_nil] at h1 h2 h3
  refine ⟨by simp; omega, ?_, ?_⟩
  · rw [List.append_nil, List.nodup_append]
    refine ⟨h2, by simp, fun a ha b hb => ?_⟩
    simp at hb
    subst hb
    have := h3 a ha
    omega
  · intro y hy
    simp at hy
    rcases hy with hy | hy
    · have := h3 y hy; omega
    · omega
theorem Inv.at_ {u st : List Int} {p : Int} (h : Inv u st p) {k : Nat} (hk : k < u.length) : 1 ≤ u.getD k 0 ∧ u.getD k 0 < p ∧ u.getD k 0 ∉ st := by
  have hm : u.getD k 0 ∈ u := by
    rw [List.getD_eq_getElem?_getD, List.getElem?_eq_getElem hk]
    exact List.getElem_mem hk
  have h1 := h.2.2 _ (List.mem_append_left st hm)
  refine ⟨h1.1, h1.2, fun hs => ?_⟩
  exact (List.nodup_append.1 h.2.1).2.2 _ hm _ hs rfl
theorem R_none (w : World) (B : Nat) (hb : B ≤ w.heap.size) (ok : Nat → Prop) (hok : ok w.heap.size) : (Kd.int .i64).R 3 (w.alloc (.cells #[] 3)) B ok (.slice (some ⟨w.heap.size, 0, none⟩) 0 0) [] :=
  Kd.R_of_own (by
    have h := World.ownsRow_lit (base := B) (e := 3) (size := 1) w #[] 0 hb (by simp [maxLen]) rfl
    exact h) (fun k hk => by
    have : w.heap.size = k := by simpa [Value.ownBlock] using hk
    exact this ▸ hok)
end Go.Proofs.YtonbipaajhokfaaGreatDoor
end
section
set_option linter.unusedVariables false
set_option linter.unusedSimpArgs false
namespace Go.Proofs.YtonbipaajhokfaaGreatDoor
open Go.RowKit Go.Proofs.YtonbipaajhokfaaGreatDoorW.PrintWords
/-- A shelf that has given out u; p pages, L of them free. -/
def Good (lim : Int) (s : Sh) (u : List Int) (p : Int) (L : Nat) : Prop :=
  ∃ (t : Int) (c : List (Int × List Int)), s.limit = lim ∧ s.hd = ⟨1, p, t, L, 0, 0⟩ ∧ s.left = -1 ∧ (flat c).length = L ∧ Chain (readB s.f) t c ∧ Inv u (flat c) p ∧ p ≤ lim ∧ lim ≤ 4096
theorem Good.start {lim : Int} (h1 : 1 ≤ lim) (h2 : lim ≤ 4096) : Good lim ⟨lim, ⟨1, 1, 0, 0, 0, 0⟩, fun _ => none, -1⟩ [] 1 0 :=
  ⟨0, [], rfl, rfl, rfl, rfl, rfl, Inv.start, h1, h2⟩
theorem Good.sum {lim p : Int} {s : Sh} {u : List Int} {L : Nat} (h : Good lim s u p L) : p = 1 + u.length + L ∧ p ≤ lim ∧ lim ≤ 4096 := by
  obtain ⟨t, c, h1, h2, h3, h4, h5, h6, h7, h8⟩ := h
  exact ⟨by rw [← h4]; exact h6.1, h7, h8⟩
theorem Good.bd {lim p : Int} {s : Sh} {u : List Int} {L : Nat} (h : Good lim s u p L) : s.bd := by
  have hs := h.sum
  obtain ⟨t, c, h1, h2, h3, h4, h5, h6, h7, h8⟩ := h
  unfold Sh.bd
  rw [h2]
  dsimp only
  omega
theorem Good.left {lim p : Int} {s : Sh} {u : List Int} {L : Nat} (h : Good lim s u p L) : s.left = -1 := by
  obtain ⟨t, c, h1, h2, h3, -⟩ := h; exact h3
theorem Good.pages {lim p : Int} {s : Sh} {u : List Int} {L : Nat} (h : Good lim s u p L) : ∃ t, s.hd = ⟨1, p, t, L, 0, 0⟩ := by
  obtain ⟨t, c, h1, h2, -⟩ := h; exact ⟨t, h2⟩
theorem Good.nodup {lim p : Int} {s : Sh} {u : List Int} {L : Nat} (h : Good lim s u p L) : u.Nodup ∧ ∀ y ∈ u, 1 ≤ y ∧ y < p := by
  obtain ⟨t, c, h1, h2, h3, h4, h5, h6, -⟩ := h
  exact ⟨(List.nodup_append.1 h6.2.1).1, fun y hy => h6.2.2 y (List.mem_append_left _ hy)⟩
theorem Good.beg {lim p : Int} {s : Sh} {u : List Int} {L : Nat} (h : Good lim s u p L) {n : Int} (h1 : 1 ≤ n) (h2 : n < p) : s.beg n = 0 := by
  obtain ⟨t, c, g1, g2, g3, -⟩ := h
  unfold Sh.beg
  rw [g2, g3, if_neg (by decide), if_neg (by dsimp only; omega)]
theorem upd_look (f : Int → Option ByteArray) (n : Int) (d : ByteArray) (m : Int) : readB (upd f n d) m = if m = n then d else readB f m := by
  unfold readB upd
  by_cases e : m = n <;> simp [e]
theorem Good.new2 {lim p : Int} {s : Sh} {u : List Int} {L : Nat} (h : Good lim s u p L) (mb : Nat) (hu : (u.length : Int) + 1 < lim) :
    ∃ s' nn p' L', s.new mb = (s', nn, 0) ∧ Good lim s' (u ++ [nn]) p' L' ∧ 1 ≤ nn ∧ nn < p' ∧ nn < lim ∧ nn ∉ u ∧ readB s'.f nn = bs blankL ∧ L' ≤ L := by
  have hs := h.sum
  obtain ⟨t, c, h1, h2, h3, h4, h5, h6, h7, h8⟩ := h
  obtain ⟨lm, hd, f, lf⟩ := s
  dsimp only at h1 h2 h3 h5
  subst h1 h2 h3
  cases hf : flat c with
  | nil =>
    rw [hf] at h4 h6
    have hL : L = 0 := by rw [← h4]; rfl
    subst hL
    have hpl : p < lm := by have := h6.1; simp at this; omega
    have htk := take_none (mapShop mb) f ⟨1, p, t, ((0 : Nat) : Int), 0, 0⟩ rfl (by dsimp only; omega)
    refine ⟨⟨lm, ⟨1, p + 1, t, ((0 : Nat) : Int), 0, 0⟩, upd f p (bs blankL), -1⟩, p, p + 1, 0, ?_, ⟨t, c, rfl, rfl, rfl, by rw [hf]; rfl, ?_, by rw [hf]; exact h6.new, by omega, h8⟩, by have := h6.1; simp at this; omega, by omega, hpl, fun hm => ?_, by dsimp only; rw [upd_look, if_pos rfl], Nat.le_refl _⟩
    · unfold Sh.new
      dsimp only
      rw [if_neg (by decide), if_neg (fun hh => by have := hh.2; omega), htk]
      dsimp only
      rw [if_neg (by decide)]
      rfl
    · exact h5.keep (fun x hx => by rw [hf] at hx; simp at hx)
    · have := h6.2.2 p (List.mem_append_left _ hm); omega
  | cons x st =>
    have hL : 0 < L := by rw [← h4, hf]; simp
    obtain ⟨f', t', c', e1, e2, e3, -⟩ := (mapLive mb).take (k := 0) (s := f) trivial (hd := ⟨1, p, t, (L : Int), 0, 0⟩) (c := c) (x := x) (st := st) h5 hf (by dsimp only; rw [h4])
      (fun y hy => h6.2.2 y (List.mem_append_right _ hy)) (List.nodup_append.1 h6.2.1).2.1
    rw [hf] at h6 h4
    have hx := h6.2.2 x (List.mem_append_right u (by simp))
    have hnd := (List.nodup_append.1 h6.2.1).2.1
    have hxs : x ∉ st := (List.nodup_cons.1 hnd).1
    have hst : st.length = L - 1 := by simp at h4; omega
    refine ⟨⟨lm, ⟨1, p, t', ((L - 1 : Nat) : Int), 0, 0⟩, upd f' x (bs blankL), -1⟩, x, p, L - 1, ?_, ⟨t', c', rfl, rfl, rfl, by rw [e3, hst], ?_, by rw [e3]; exact h6.take, h7, h8⟩, hx.1, hx.2, by omega, fun hm => (List.nodup_append.1 h6.2.1).2.2 x hm x (by simp) rfl, by dsimp only; rw [upd_look, if_pos rfl], by omega⟩
    · unfold Sh.new
      dsimp only
      rw [if_neg (by decide), if_neg (fun hh => by have := hh.1; omega), e1]
      dsimp only
      rw [if_neg (by decide), show ((L : Int) - 1) = ((L - 1 : Nat) : Int) by omega]
      rfl
    · refine Chain.keep (show Chain (readB f') t' c' from e2) (fun y hy => ?_)
      rw [e3] at hy
      dsimp only
      rw [upd_look, if_neg (fun (e : y = x) => hxs (e ▸ hy))]
theorem Good.new {lim p : Int} {s : Sh} {u : List Int} {L : Nat} (h : Good lim s u p L) (mb : Nat) (hu : (u.length : Int) + 1 < lim) :
    ∃ s' nn p' L', s.new mb = (s', nn, 0) ∧ Good lim s' (u ++ [nn]) p' L' ∧ 1 ≤ nn ∧ nn < p' ∧ nn < lim ∧ nn ∉ u := by
  obtain ⟨s', nn, p', L', h1, h2, h3, h4, h5, h6, -, -⟩ := h.new2 mb hu
  exact ⟨s', nn, p', L', h1, h2, h3, h4, h5, h6⟩
theorem Good.free {lim p : Int} {s : Sh} {u : List Int} {L : Nat} (h : Good lim s u p L) (mb : Nat) {k : Nat} (hk : k < u.length) :
    ∃ s', s.free mb (u.getD k 0) = (s', 0) ∧ Good lim s' (u.take k ++ u.drop (k + 1)) p (L + 1) := by
  have hs := h.sum
  obtain ⟨t, c, h1, h2, h3, h4, h5, h6, h7, h8⟩ := h
  have ha := h6.at_ hk
  obtain ⟨lm, hd, f, lf⟩ := s
  dsimp only at h1 h2 h3 h5
  subst h1 h2 h3
  obtain ⟨f', t', c', e1, e2, e3, -⟩ := (mapLive mb).give (k := 0) (s := f) trivial (hd := ⟨1, p, t, (L : Int), 0, 0⟩) (c := c) (n := u.getD k 0) h5 (by dsimp only; rw [h4]) ha.1 ha.2.1 (by dsimp only; omega) (by dsimp only; omega) ha.2.2 (List.nodup_append.1 h6.2.1).2.1
  refine ⟨⟨lm, ⟨1, p, t', ((L + 1 : Nat) : Int), 0, 0⟩, f', -1⟩, ?_, ⟨t', c', rfl, rfl, rfl, by rw [e3]; simp [h4], e2, by rw [e3]; exact h6.give hk, h7, h8⟩⟩
  unfold Sh.free Sh.beg
  dsimp only
  rw [if_neg (by rw [if_neg (by decide), if_neg (by omega)]; decide), e1]
  dsimp only
  rw [if_pos rfl]
  rfl
end Go.Proofs.YtonbipaajhokfaaGreatDoor
end
section
set_option linter.unusedVariables false
set_option linter.unusedSimpArgs false
namespace Go.Proofs.YtonbipaajhokfaaGreatDoor
open Go.RowKit Go.Proofs.YtonbipaajhokfaaGreatDoorW.PrintWords Go.Proofs.YtonbipaajhokfaaGreatDoorW.PrintLast Go.Proofs.YtonbipaajhokfaaGreatDoorW.PrintMore
/-- A shelf of the call's own, from B on. -/
structure Own (ks mb B : Nat) (w0 w : World) (s : Sh) : Prop where
  at_ : ShAt ks mb w s
  ks : B ≤ ks
  mb : B ≤ mb
  base : Below B w0 w
  size : B ≤ w.heap.size
section
variable {ks mb B : Nat} {w0 w w' : World} {s s' : Sh}
theorem Own.below (h : Own ks mb B w0 w s) (hb : Below w.heap.size w w') : Own ks mb B w0 w' s :=
  ⟨h.at_.below hb, h.ks, h.mb, h.base.trans (hb.mono h.size), Nat.le_trans h.size hb.size⟩
theorem Own.fr (h : Own ks mb B w0 w s) (hs : ShAt ks mb w' s') (hf : Fr (ShF ks mb) w w') : Own ks mb B w0 w' s' :=
  ⟨hs, h.ks, h.mb, h.base.trans (hf.below (fun k hk => by rcases hk with e | e; rw [e]; exact h.ks; rw [e]; exact h.mb) h.size), Nat.le_trans h.size hf.size⟩
end
end Go.Proofs.YtonbipaajhokfaaGreatDoor
end
section
set_option linter.unusedVariables false
set_option linter.unusedSimpArgs false
namespace Go.Proofs.YtonbipaajhokfaaGreatDoor
open Go.RowKit Go.Proofs.YtonbipaajhokfaaGreatDoorW.PrintWords
theorem lay_keep (mb : Nat) (f : Int → Option ByteArray) (t next : Int) (l : List Int) (y : Int) (h : y ≠ t) : readB ((mapShop mb).lay f t next l).1 y = readB f y := by
  unfold Shop.lay
  split
  · show readB (upd f t _) y = _
    rw [upd_look, if_neg h]
  · rfl
theorem trunk_keep (mb : Nat) (f : Int → Option ByteArray) (t : Int) : ((mapShop mb).trunk f t).1 = f := by
  unfold Shop.trunk
  dsimp only
  split
  · rfl
  · split <;> rfl
theorem take_keep (mb : Nat) (f : Int → Option ByteArray) (h : Hd) (y : Int) (hy : y ≠ h.trunk) : readB ((mapShop mb).take f h).1 y = readB f y := by
  unfold Shop.take
  have e := trunk_keep mb f h.trunk
  repeat' split
  all_goals first
    | rfl
    | (dsimp only; rw [lay_keep _ _ _ _ _ _ hy, e])
    | (dsimp only; rw [e])
theorem give_keep (mb : Nat) (f : Int → Option ByteArray) (h : Hd) (n y : Int) (hy : y ≠ h.trunk) (hn : y ≠ n) : readB ((mapShop mb).give f h n).1 y = readB f y := by
  have e := trunk_keep mb f h.trunk
  have g : ∀ (r : (Int → Option ByteArray) × Int) (h : Hd), (gaveOf r h).1 = r.1 := fun r h => by unfold gaveOf; split <;> rfl
  unfold Shop.give
  split
  · rfl
  · split
    · rfl
    · split
      · rw [g, lay_keep _ _ _ _ _ _ hn]
      · split
        · dsimp only; rw [e]
        · split
          · rw [g, lay_keep _ _ _ _ _ _ hy, e]
          · rw [g, lay_keep _ _ _ _ _ _ hn, e]
theorem new_keep (mb : Nat) (s : Sh) (y : Int) (hy : y ≠ s.hd.trunk) (hn : y ≠ (s.new mb).2.1) : readB (s.new mb).1.f y = readB s.f y := by
  unfold Sh.new at hn ⊢
  split
  · rfl
  · rename_i c0
    rw [if_neg c0] at hn
    split
    · rfl
    · rename_i c1
      rw [if_neg c1] at hn
      split
      · exact take_keep mb s.f s.hd y hy
      · rename_i c2
        rw [if_neg c2] at hn
        dsimp only at hn ⊢
        rw [upd_look, if_neg hn]
        exact take_keep mb s.f s.hd y hy
theorem free_keep (mb : Nat) (s : Sh) (n y : Int) (hy : y ≠ s.hd.trunk) (hn : y ≠ n) : readB (s.free mb n).1.f y = readB s.f y := by
  unfold Sh.free
  split
  · rfl
  · split <;> exact give_keep mb s.f s.hd n y hy hn
section
variable {lim p : Int} {s : Sh} {u : List Int} {L : Nat}
theorem Good.trunk (h : Good lim s u p L) {y : Int} (hy : y ∈ u) : y ≠ s.hd.trunk := by
  obtain ⟨t, c, h1, h2, h3, h4, h5, h6, h7, h8⟩ := h
  rw [h2]
  intro e
  dsimp only at e
  have hb := h6.2.2 y (List.mem_append_left _ hy)
  rcases h5.top with g | g
  · omega
  · exact (List.nodup_append.1 h6.2.1).2.2 y hy t g.2.2.1 e
theorem Good.put (h : Good lim s u p L) (mb : Nat) {n : Int} {d : ByteArray} (hn : n ∈ u) (hd : d.size = 232) : s.put n d = (⟨s.limit, s.hd, upd s.f n d, s.left⟩, 0) ∧ Good lim ⟨s.limit, s.hd, upd s.f n d, s.left⟩ u p L := by
  have hb := h.nodup.2 n hn
  have hg := h.beg hb.1 hb.2
  refine ⟨by unfold Sh.put; rw [if_neg (by rw [hg]; decide), if_neg (by rw [hd]; decide), h.left]; rfl, ?_⟩
  obtain ⟨t, c, h1, h2, h3, h4, h5, h6, h7, h8⟩ := h
  refine ⟨t, c, h1, h2, h3, h4, h5.keep (fun x hx => ?_), h6, h7, h8⟩
  dsimp only
  rw [upd_look, if_neg]
  intro e
  exact (List.nodup_append.1 h6.2.1).2.2 n hn x hx e.symm
/-- What the pages in use hold. -/
def Holds (s : Sh) (u : List Int) (d : List ByteArray) : Prop := d = u.map (readB s.f)
theorem Holds.len {d : List ByteArray} (h : Holds s u d) : d.length = u.length := by rw [h, List.length_map]
theorem Holds.at_ {d : List ByteArray} (h : Holds s u d) {k : Nat} (hk : k < u.length) : readB s.f (u.getD k 0) = d.getD k ByteArray.empty := by
  unfold Holds at h
  subst h
  simp [List.getD_eq_getElem?_getD, List.getElem?_eq_getElem hk]
theorem Holds.get {d : List ByteArray} (h : Good lim s u p L) (hh : Holds s u d) {k : Nat} (hk : k < u.length) : s.get (u.getD k 0) = (d.getD k ByteArray.empty, 0) := by
  have hm : u.getD k 0 ∈ u := by rw [List.getD_eq_getElem?_getD, List.getElem?_eq_getElem hk]; exact List.getElem_mem hk
  have hb := h.nodup.2 _ hm
  unfold Sh.get
  rw [h.beg hb.1 hb.2, if_neg (by decide), hh.at_ hk]
end
end Go.Proofs.YtonbipaajhokfaaGreatDoor
end
section
set_option linter.unusedVariables false
set_option linter.unusedSimpArgs false
namespace Go.Proofs.YtonbipaajhokfaaGreatDoor
open Go.RowKit Go.Proofs.YtonbipaajhokfaaGreatDoorW.PrintWords Go.Proofs.YtonbipaajhokfaaGreatDoorW.PrintLast Go.Proofs.YtonbipaajhokfaaGreatDoorW.PrintMore
/-- Whether a number is one of a page behind the first. -/
def pageB (n : Int) : Bool := decide (1 ≤ n) && decide (n < 4096)
theorem pageB_iff (n : Int) : pageB n = true ↔ 1 ≤ n ∧ n < 4096 := by simp [pageB]
theorem ba_toList_nil {d : ByteArray} (h : d.size ≠ 0) : d.toList ≠ [] := fun e => h (by
  have := congrArg List.length e
  rw [ByteArray.toList_eq] at this
  simpa using this)
/-- Whether a cell can be. -/
def cellGood (sz : Int) (data : ByteArray) (pg : Int) : Bool :=
  if sz < 0 ∨ 5000 < sz then false else if sz ≤ 40 then decide ((data.size : Int) = sz ∧ pg = 0) else (decide (data.size = 0) && pageB pg)
theorem isPage_calls (n : Int) (w : World) : Calls Tryz.prog 89 #[.int .i64 n] w fun e w' => e = .returned (.bool (pageB n)) ∧ Below w.heap.size w w' := by
  by_cases h1 : 1 ≤ n
  · have t1 : decide (1 ≤ n) = true := decide_eq_true h1
    have HR := Aside0.mk (show pageB n = decide (n < 4096) by simp [pageB, h1])
    clear h1
    go_enter Tryz.func89, Tryz.ntmps89
    go_wp2
    go_ret
    exact ⟨by rw [HR.out]; rfl, Below.refl _ _⟩
  · have t1 : decide (1 ≤ n) = false := decide_eq_false h1
    have HR := Aside0.mk (show pageB n = false by simp [pageB, h1])
    clear h1
    go_enter Tryz.func89, Tryz.ntmps89
    go_wp2
    go_ret
    exact ⟨by rw [HR.out]; rfl, Below.refl _ _⟩
set_option maxHeartbeats 1000000 in
set_option maxRecDepth 100000 in
theorem isGood_calls (sz : Int) (data : ByteArray) (pg : Int) (w : World) :
    Calls Tryz.prog 75 #[.agg #[.int .i64 sz, .string data, .int .i64 pg]] w fun e w' => e = .returned (.bool (cellGood sz data pg)) ∧ Below w.heap.size w w' := by
  have hu := Tryz.underlying24
  by_cases h0 : sz < 0
  · have t0 : decide (sz < 0) = true := decide_eq_true h0
    have HR := Aside0.mk (show cellGood sz data pg = false by unfold cellGood; rw [if_pos (Or.inl h0)])
    go_enter Tryz.func75, Tryz.ntmps75
    go_wp2
    go_ret
    exact ⟨by rw [HR.out]; rfl, below_alloc (Below.refl _ _) _⟩
  · have t0 : decide (sz < 0) = false := decide_eq_false h0
    by_cases h1 : 5000 < sz
    · have t1 : decide (5000 < sz) = true := decide_eq_true h1
      have HR := Aside0.mk (show cellGood sz data pg = false by unfold cellGood; rw [if_pos (Or.inr h1)])
      go_enter Tryz.func75, Tryz.ntmps75
      go_wp2
      go_ret
      exact ⟨by rw [HR.out]; rfl, below_alloc (Below.refl _ _) _⟩
    · have t1 : decide (5000 < sz) = false := decide_eq_false h1
      by_cases h2 : sz ≤ 40
      · have t2 : decide (sz ≤ 40) = true := decide_eq_true h2
        by_cases h3 : (data.size : Int) = sz
        · have t3 : ((data.size : Int) == sz) = true := by simp [h3]
          have HR := Aside0.mk (show cellGood sz data pg = (pg == 0) by unfold cellGood; rw [if_neg (by omega), if_pos h2]; by_cases e : pg = 0 <;> simp [h3, e])
          clear h0 h1 h2 h3
          go_enter Tryz.func75, Tryz.ntmps75
          go_wp2
          go_ret
          exact ⟨by rw [HR.out]; rfl, below_alloc (Below.refl _ _) _⟩
        · have t3 : ((data.size : Int) == sz) = false := by simp [h3]
          have HR := Aside0.mk (show cellGood sz data pg = false by unfold cellGood; rw [if_neg (by omega), if_pos h2]; simp [h3])
          clear h0 h1 h2 h3
          go_enter Tryz.func75, Tryz.ntmps75
          go_wp2
          go_ret
          exact ⟨by rw [HR.out]; rfl, below_alloc (Below.refl _ _) _⟩
      · have t2 : decide (sz ≤ 40) = false := decide_eq_false h2
        by_cases h3 : data.size = 0
        · have h30 : data = ⟨#[]⟩ := by apply ByteArray.ext; exact Array.eq_empty_of_size_eq_zero h3
          have HR := Aside0.mk (show cellGood sz data pg = pageB pg by unfold cellGood; rw [if_neg (by omega), if_neg h2]; simp [h3])
          subst h30
          clear h0 h1 h2 h3
          go_enter Tryz.func75, Tryz.ntmps75
          go_wp2_with (go_at_call 89; refine (isPage_calls _ _).mono ?_; rintro e w1 ⟨rfl, hb1⟩)
          go_ret
          exact ⟨by rw [HR.out]; rfl, (below_alloc (Below.refl _ _) _).trans (hb1.mono (by simp))⟩
        · have t3 := ba_toList_nil h3
          have t4 : data.toList.isEmpty = false := by rw [List.isEmpty_eq_false_iff]; exact t3
          have HR := Aside0.mk (show cellGood sz data pg = false by unfold cellGood; rw [if_neg (by omega), if_neg h2]; simp [h3])
          clear h0 h1 h2 h3
          go_enter Tryz.func75, Tryz.ntmps75
          go_wp2
          go_ret
          exact ⟨by rw [HR.out]; rfl, below_alloc (Below.refl _ _) _⟩
set_option maxHeartbeats 1000000 in
set_option maxRecDepth 100000 in
theorem oddCell_calls (sz : Int) (data : ByteArray) (pg : Int) (w : World) :
    Calls Tryz.prog 74 #[.agg #[.int .i64 sz, .string data, .int .i64 pg]] w fun e w' => e = .returned (.bool (!cellGood sz data pg)) ∧ Below w.heap.size w w' := by
  have hu := Tryz.underlying24
  go_enter Tryz.func74, Tryz.ntmps74
  go_wp2_with (go_at_call 75; refine (isGood_calls _ _ _ _).mono ?_; rintro e w1 ⟨rfl, hb1⟩)
  go_ret
  exact ⟨rfl, (below_alloc (Below.refl _ _) _).trans (hb1.mono (by simp))⟩
end Go.Proofs.YtonbipaajhokfaaGreatDoor
end
section
set_option linter.unusedVariables false
set_option linter.unusedSimpArgs false
namespace Go.Proofs.YtonbipaajhokfaaGreatDoor
open Go.RowKit Go.Proofs.YtonbipaajhokfaaGreatDoorW.PrintWords Go.Proofs.YtonbipaajhokfaaGreatDoorW.PrintLast Go.Proofs.YtonbipaajhokfaaGreatDoorW.PrintMore
/-- A cell's three values in line. -/
abbrev Cel := Int × ByteArray × Int
def celK : Kd Cel := Kd.pair (Kd.int .i64) (Kd.pair Kd.string (Kd.int .i64))
theorem add_fld (ad : Addr) (m j : Nat) (h : 0 < j) : ad.add (m + j) = ⟨(ad.add m).block, (ad.add m).off + j, none⟩ := by
  unfold Addr.add
  rw [if_neg (by omega)]
  split
  · rename_i e; subst e; simp
  · simp [Nat.add_assoc]
theorem cel_at {w : World} {A : Option Addr} {n : Nat} {cs : List Cel} (h : celK.C w A n cs) {i : Nat} (hi : i < n) (z : Cel) :
    ∃ ad, A = some ad ∧ w.cell? (ad.add (i * 3)) = some (.int .i64 (cs.getD i z).1) ∧ w.cell? ⟨(ad.add (i * 3)).block, (ad.add (i * 3)).off + 1, none⟩ = some (.string (cs.getD i z).2.1) ∧ w.cell? ⟨(ad.add (i * 3)).block, (ad.add (i * 3)).off + 2, none⟩ = some (.int .i64 (cs.getD i z).2.2) := by
  obtain ⟨ad, c, hA, hl, hK, hc⟩ := Kd.C_get h z (i : Int) (by omega) (by omega)
  rw [Int.toNat_natCast] at hK hc
  obtain ⟨c0, c1, e0, h0, c2, c3, e1, h2, h3⟩ := hK
  have h0' : c0 = [.int .i64 (cs.getD i z).1] := h0
  have h2' : c2 = [.string (cs.getD i z).2.1] := h2
  have h3' : c3 = [.int .i64 (cs.getD i z).2.2] := h3
  subst h0' h2' h3' e1 e0
  have hc1 := hc 1 _ rfl
  have hc2 := hc 2 _ rfl
  have hc0 := hc 0 _ rfl
  simp only [celK, Kd.pair, Kd.int, Kd.string, Kd.scalar, Nat.reduceAdd] at hc0 hc1 hc2
  rw [add_fld _ _ _ (by decide)] at hc1 hc2
  exact ⟨ad, hA, hc0, hc1, hc2⟩
def celOdd (c : Cel) : Bool := !cellGood c.1 c.2.1 c.2.2
def celOddAt (l : List Cel) : Int := match l.findIdx? celOdd with | some i => i | none => -1
theorem celOddAt_ge (l : List Cel) : decide (0 ≤ celOddAt l) = l.any celOdd := by
  unfold celOddAt
  cases h : l.findIdx? celOdd with
  | none =>
    rw [List.findIdx?_eq_none_iff] at h
    rw [show l.any celOdd = false by rw [List.any_eq_false]; intro x hx; simp [h x hx]]
    rfl
  | some i =>
    rw [List.findIdx?_eq_some_iff_getElem] at h
    obtain ⟨h1, h2, h3⟩ := h
    rw [show l.any celOdd = true by rw [List.any_eq_true]; exact ⟨_, List.getElem_mem h1, h2⟩]
    simp
theorem celOddAt_at {l : List Cel} {z : Cel} {k : Nat} (hk : k < l.length) (hb : ∀ j, j < k → celOdd (l.getD j z) = false) (h : celOdd (l.getD k z) = true) : celOddAt l = k := by
  unfold celOddAt
  have : l.findIdx? celOdd = some k := by
    rw [List.findIdx?_eq_some_iff_getElem]
    refine ⟨hk, by simpa [List.getD_eq_getElem?_getD, List.getElem?_eq_getElem hk] using h, fun j hj => ?_⟩
    have := hb j hj
    simp [List.getD_eq_getElem?_getD, List.getElem?_eq_getElem (Nat.lt_trans hj hk)] at this
    simp [this]
  rw [this]
theorem celOddAt_no {l : List Cel} {z : Cel} (hb : ∀ j, j < l.length → celOdd (l.getD j z) = false) : celOddAt l = -1 := by
  unfold celOddAt
  have : l.findIdx? celOdd = none := by
    rw [List.findIdx?_eq_none_iff]
    intro x hx
    obtain ⟨j, hj, e⟩ := List.getElem_of_mem hx
    have := hb j hj
    simpa [List.getD_eq_getElem?_getD, List.getElem?_eq_getElem hj, e] using this
  rw [this]
set_option maxHeartbeats 2000000 in
set_option maxRecDepth 100000 in
theorem indexCel_calls (A : Option Addr) (c : Nat) (l : List Cel) (w : World) (hl : celK.C w A l.length l) :
    Calls Tryz.prog 90 #[.slice A l.length c, .func (.func 74) #[] #[]] w fun e w' => e = .returned (.int .i64 (celOddAt l)) ∧ Below w.heap.size w w' := by
  have hm := Kd.C_max hl
  have HL := Aside0.mk hl
  have hu := Tryz.underlying24
  clear hl
  go_enter Tryz.func90, Tryz.ntmps90
  go_wp2
  go_loopw [8] (fun i wr => ∃ k : Nat, k ≤ l.length ∧ i = .int .i64 k ∧ Aside0 (∀ j, j < k → celOdd (l.getD j (0, ByteArray.empty, 0)) = false) ∧ Aside0 (Below w.heap.size w wr)) (fun i _ => l.length - (intOf i).toNat)
  case atStart => exact ⟨0, Nat.zero_le _, rfl, ⟨fun j hj => absurd hj (Nat.not_lt_zero j)⟩, ⟨Below.refl _ _⟩⟩
  case round =>
    obtain ⟨k, hk, rfl, hno, hb⟩ := hrel
    by_cases hlt : k < l.length
    · obtain ⟨ad, e1, hx0, hx1, hx2⟩ := cel_at (Kd.C_below HL.out hb.out) hlt (0, ByteArray.empty, 0)
      cases e1
      obtain ⟨x, hxd⟩ : ∃ x, x = l.getD k (0, ByteArray.empty, 0) := ⟨_, rfl⟩
      rw [← hxd] at hx0 hx1 hx2
      have HX := Aside0.mk hxd
      clear hxd
      obtain ⟨x0, x1, x2⟩ := x
      dsimp only at hx0 hx1 hx2
      cases ho : cellGood x0 x1 x2 with
      | false =>
        have HR := Aside0.mk (celOddAt_at hlt hno.out (by rw [← HX.out]; unfold celOdd; dsimp only; rw [ho]; rfl))
        have hcall := fun W => oddCell_calls x0 x1 x2 W
        rw [ho] at hcall
        clear ho
        go_wp2_with (go_at_call 74; refine (hcall _).mono ?_; rintro e w1 ⟨rfl, hb1⟩)
        go_ret
        exact ⟨by rw [HR.out]; rfl, hb.out.trans (hb1.mono hb.out.size)⟩
      | true =>
        have hcall := fun W => oddCell_calls x0 x1 x2 W
        rw [ho] at hcall
        go_wp2_with (go_at_call 74; refine (hcall _).mono ?_; rintro e w1 ⟨rfl, hb1⟩)
        go_roundw
        case rel => exact ⟨k + 1, by omega, by go_num, ⟨fun j hj => by
          rcases Nat.lt_or_ge j k with h | h
          · exact hno.out j h
          · obtain rfl : j = k := by omega
            rw [← HX.out]; unfold celOdd; dsimp only; rw [ho]; rfl⟩, ⟨hb.out.trans (hb1.mono hb.out.size)⟩⟩
        case measure => simp [intOf]; omega
    · have hke : k = l.length := by omega
      subst hke
      have HR := Aside0.mk (celOddAt_no hno.out)
      go_wp2
      go_ret
      exact ⟨by rw [HR.out]; rfl, hb.out⟩
theorem containsCel_calls (A : Option Addr) (c : Nat) (l : List Cel) (w : World) (hl : celK.C w A l.length l) :
    Calls Tryz.prog 76 #[.slice A l.length c, .func (.func 74) #[] #[]] w fun e w' => e = .returned (.bool (l.any celOdd)) ∧ Below w.heap.size w w' := by
  have HL := Aside0.mk hl
  clear hl
  go_enter Tryz.func76, Tryz.ntmps76
  go_wp2_with (go_at_call 90; refine (indexCel_calls _ _ _ _ HL.out).mono ?_; rintro e w1 ⟨rfl, hb⟩)
  go_ret
  exact ⟨by rw [← celOddAt_ge]; rfl, hb⟩
end Go.Proofs.YtonbipaajhokfaaGreatDoor
end
section
set_option linter.unusedVariables false
set_option linter.unusedSimpArgs false
namespace Go.Proofs.YtonbipaajhokfaaGreatDoor
open Go.RowKit Go.Proofs.YtonbipaajhokfaaGreatDoorW.PrintWords Go.Proofs.YtonbipaajhokfaaGreatDoorW.PrintLast Go.Proofs.YtonbipaajhokfaaGreatDoorW.PrintMore
def keyOk (l : List ByteArray) (i : Nat) : Bool := decide ((l.getD i ByteArray.empty).size ≤ 64) && (decide (i = 0) || Op.bytesLess (l.getD (i - 1) ByteArray.empty).toList (l.getD i ByteArray.empty).toList)
/-- Whether keys can be a node's. -/
def risesB (l : List ByteArray) : Bool := (List.range l.length).all (keyOk l)
theorem risesB_no {l : List ByteArray} {k : Nat} (hk : k < l.length) (h : keyOk l k = false) : risesB l = false := by
  unfold risesB
  rw [List.all_eq_false]
  exact ⟨k, by simp [hk], by simp [h]⟩
theorem risesB_yes {l : List ByteArray} (h : ∀ j, j < l.length → keyOk l j = true) : risesB l = true := by
  unfold risesB
  rw [List.all_eq_true]
  intro x hx
  exact h x (by simpa using hx)
theorem str_at {w : World} {A : Option Addr} {n : Nat} {l : List ByteArray} (h : Kd.string.C w A n l) {i : Nat} (hi : i < n) :
    ∃ ad, A = some ad ∧ w.cell? (ad.add i) = some (.string (l.getD i ByteArray.empty)) := by
  obtain ⟨ad, e1, hx⟩ := Kd.at_string h (i : Int) (by omega) (by omega)
  rw [Int.toNat_natCast] at hx
  exact ⟨ad, e1, by rw [hx]; simp [rdOf]⟩
set_option maxHeartbeats 2000000 in
set_option maxRecDepth 100000 in
theorem rises_calls (A : Option Addr) (c : Nat) (l : List ByteArray) (w : World) (hl : Kd.string.C w A l.length l) :
    Calls Tryz.prog 73 #[.slice A l.length c] w fun e w' => e = .returned (.bool (risesB l)) ∧ w = w' := by
  have hm := Kd.C_max hl
  have HL := Aside0.mk hl
  clear hl
  go_enter Tryz.func73, Tryz.ntmps73
  go_wp2
  go_loop [7] (fun i => ∃ k : Nat, k ≤ l.length ∧ i = .int .i64 k ∧ Aside0 (∀ j, j < k → keyOk l j = true)) (fun i => l.length - (intOf i).toNat)
  case atStart => exact ⟨0, Nat.zero_le _, rfl, ⟨fun j hj => absurd hj (Nat.not_lt_zero j)⟩⟩
  case round =>
    obtain ⟨k, hk, rfl, hno⟩ := hrel
    by_cases hlt : k < l.length
    · have HKO : Aside0 (keyOk l k = (decide ((l.getD k ByteArray.empty).size ≤ 64) && (decide (k = 0) || Op.bytesLess (l.getD (k - 1) ByteArray.empty).toList (l.getD k ByteArray.empty).toList))) := ⟨rfl⟩
      obtain ⟨ad, e1, hx⟩ := str_at HL.out hlt
      obtain ⟨x, hxd⟩ : ∃ x, x = l.getD k ByteArray.empty := ⟨_, rfl⟩
      rw [← hxd] at hx HKO
      cases e1
      clear hxd
      by_cases h64 : 64 < x.size
      · have t1 : decide ((64 : Int) < (x.size : Int)) = true := decide_eq_true (by omega)
        have HR := Aside0.mk (risesB_no hlt (by rw [HKO.out, decide_eq_false (by omega)]; rfl))
        clear h64
        go_wp2
        go_ret
        exact ⟨by rw [HR.out]; rfl, rfl⟩
      · have t1 : decide ((64 : Int) < (x.size : Int)) = false := decide_eq_false (by omega)
        by_cases h0 : k = 0
        · have HK1 := Aside0.mk (show keyOk l k = true by rw [HKO.out, decide_eq_true (by omega), decide_eq_true h0]; rfl)
          subst h0
          have hx0 : w.cell? ad = some (.string x) := by simpa [Addr.add] using hx
          clear h64 HKO hx
          go_wp2
          go_round
          case rel => exact ⟨1, by omega, by go_num, ⟨fun j hj => by
            obtain rfl : j = 0 := by omega
            exact HK1.out⟩⟩
          case measure => simp [intOf]; omega
        · have t2 : decide (0 < k) = true := decide_eq_true (by omega)
          have t2' : decide ((0 : Int) < (k : Int)) = true := decide_eq_true (by omega)
          obtain ⟨ad', e1, hy⟩ := str_at HL.out (show k - 1 < l.length by omega)
          cases e1
          obtain ⟨y, hyd⟩ : ∃ y, y = l.getD (k - 1) ByteArray.empty := ⟨_, rfl⟩
          rw [← hyd] at hy HKO
          clear hyd
          have hkk : 1 ≤ k := by omega
          obtain ⟨m, rfl⟩ : ∃ m, k = m + 1 := ⟨k - 1, by omega⟩
          rw [Nat.add_sub_cancel] at hy
          have hx0 : w.cell? ⟨ad.block, ad.off + (m + 1), none⟩ = some (.string x) := by simpa [Addr.add] using hx
          clear hx
          cases hb : Op.bytesLess y.toList x.toList with
          | true =>
            have HK1 := Aside0.mk (show keyOk l (m + 1) = true by rw [HKO.out, decide_eq_true (by omega), hb]; simp)
            clear h64 HKO h0 t2
            go_wp2
            go_round
            case rel => exact ⟨m + 1 + 1, by omega, by go_num, ⟨fun j hj => by
              rcases Nat.lt_or_ge j (m + 1) with h | h
              · exact hno.out j h
              · obtain rfl : j = m + 1 := by omega
                exact HK1.out⟩⟩
            case measure => simp [intOf]; omega
          | false =>
            have HR := Aside0.mk (risesB_no hlt (by rw [HKO.out, hb]; simp))
            clear h64 HKO h0 t2
            go_wp2
            go_ret
            exact ⟨by rw [HR.out]; rfl, rfl⟩
    · have hke : k = l.length := by omega
      subst hke
      have HR := Aside0.mk (risesB_yes hno.out)
      go_wp2
      go_ret
      exact ⟨by rw [HR.out]; rfl, rfl⟩
def goodLeaf (keys : List ByteArray) (cells : List Cel) (nk : Nat) : Bool := risesB keys && (decide (cells.length = keys.length) && (decide (nk = 0) && !cells.any celOdd))
set_option maxHeartbeats 2000000 in
set_option maxRecDepth 100000 in
theorem goodLeaf_calls (A1 A2 A3 : Option Addr) (c1 c2 c3 n3 : Nat) (keys : List ByteArray) (cells : List Cel) (w : World) (hk : Kd.string.C w A1 keys.length keys) (hc : celK.C w A2 cells.length cells) (h3 : n3 ≤ 9223372036854775807) :
    Calls Tryz.prog 57 #[.agg #[.bool true, .slice A1 keys.length c1, .slice A2 cells.length c2, .slice A3 n3 c3]] w fun e w' => e = .returned (.bool (goodLeaf keys cells n3)) ∧ Below w.heap.size w w' := by
  have hu := Tryz.underlying109
  have hm1 := Kd.C_max hk
  have hm2 := Kd.C_max hc
  have HK := Aside0.mk hk
  have HC := Aside0.mk hc
  have HR : Aside0 (goodLeaf keys cells n3 = (risesB keys && (decide (cells.length = keys.length) && (decide (n3 = 0) && !cells.any celOdd)))) := ⟨rfl⟩
  clear hk hc
  cases hr : risesB keys with
  | false =>
    rw [hr] at HR
    have hcall := fun W hW => rises_calls A1 c1 keys W hW
    rw [hr] at hcall
    clear hr
    go_enter Tryz.func57, Tryz.ntmps57
    go_wp2_with (go_at_call 73; refine (hcall _ (Kd.C_alloc HK.out _)).mono ?_; rintro e w1 ⟨rfl, rfl⟩)
    go_ret
    exact ⟨by rw [HR.out]; rfl, below_alloc (Below.refl _ _) _⟩
  | true =>
    rw [hr, Bool.true_and] at HR
    have hcall := fun W hW => rises_calls A1 c1 keys W hW
    rw [hr] at hcall
    clear hr
    by_cases h1 : cells.length = keys.length
    · have t1 : ((cells.length : Int) == (keys.length : Int)) = true := by simp [h1]
      rw [decide_eq_true h1, Bool.true_and] at HR
      clear h1
      by_cases h2 : n3 = 0
      · have t2 : ((n3 : Int) == 0) = true := by simp [h2]
        rw [decide_eq_true h2, Bool.true_and] at HR
        clear h2
        have hcc := fun W hW => containsCel_calls A2 c2 cells W hW
        obtain ⟨b, hb⟩ : ∃ b, b = cells.any celOdd := ⟨_, rfl⟩
        rw [← hb] at hcc HR
        clear hb
        go_enter Tryz.func57, Tryz.ntmps57
        go_wp2_with (first
          | (go_at_call 73; refine (hcall _ (Kd.C_alloc HK.out _)).mono ?_; rintro e w1 ⟨rfl, rfl⟩)
          | (go_at_call 76; refine (hcc _ (Kd.C_alloc HC.out _)).mono ?_; rintro e w2 ⟨rfl, hb2⟩))
        go_ret
        exact ⟨by rw [HR.out]; rfl, (below_alloc (Below.refl _ _) _).trans (hb2.mono (by simp))⟩
      · have t2 : ((n3 : Int) == 0) = false := by simp [h2]
        rw [decide_eq_false h2, Bool.false_and] at HR
        clear h2
        go_enter Tryz.func57, Tryz.ntmps57
        go_wp2_with (go_at_call 73; refine (hcall _ (Kd.C_alloc HK.out _)).mono ?_; rintro e w1 ⟨rfl, rfl⟩)
        go_ret
        exact ⟨by rw [HR.out]; rfl, below_alloc (Below.refl _ _) _⟩
    · have t1 : ((cells.length : Int) == (keys.length : Int)) = false := by simp; omega
      rw [decide_eq_false h1, Bool.false_and] at HR
      clear h1
      go_enter Tryz.func57, Tryz.ntmps57
      go_wp2_with (go_at_call 73; refine (hcall _ (Kd.C_alloc HK.out _)).mono ?_; rintro e w1 ⟨rfl, rfl⟩)
      go_ret
      exact ⟨by rw [HR.out]; rfl, below_alloc (Below.refl _ _) _⟩
theorem celC_one (w : World) (x0 : Int) (x1 : ByteArray) (x2 : Int) : celK.C (w.alloc (.cells #[.int .i64 x0, .string x1, .int .i64 x2] 24)) (some ⟨w.heap.size, 0, none⟩) ([(x0, x1, x2)] : List Cel).length [(x0, x1, x2)] := by
  have hb := blk_new w (.cells #[.int .i64 x0, .string x1, .int .i64 x2] 24)
  refine ⟨rfl, by simp, fun _ => ⟨_, rfl, fun j p hj => ?_⟩⟩
  cases j with
  | succ j => simp at hj
  | zero =>
    cases hj
    refine ⟨[.int .i64 x0, .string x1, .int .i64 x2], rfl, ⟨[.int .i64 x0], [.string x1, .int .i64 x2], rfl, rfl, [.string x1], [.int .i64 x2], rfl, rfl, rfl⟩, fun i u hu => ?_⟩
    rw [Nat.zero_mul, Nat.zero_add]
    have e : (⟨w.heap.size, 0, none⟩ : Addr).add i = ⟨w.heap.size, i, none⟩ := by unfold Addr.add; split <;> simp_all
    rw [e]
    exact (blk_cell hb i).trans (by simpa using hu)
theorem strC_one (w : World) (x : ByteArray) : Kd.string.C (w.alloc (.cells #[.string x] 9)) (some ⟨w.heap.size, 0, none⟩) ([x] : List ByteArray).length [x] := by
  have hb := blk_new w (.cells #[.string x] 9)
  refine ⟨rfl, by simp, fun _ => ⟨_, rfl, fun j p hj => ?_⟩⟩
  cases j with
  | succ j => simp at hj
  | zero =>
    cases hj
    refine ⟨[.string x], rfl, rfl, fun i u hu => ?_⟩
    rw [Nat.zero_mul, Nat.zero_add]
    have e : (⟨w.heap.size, 0, none⟩ : Addr).add i = ⟨w.heap.size, i, none⟩ := by unfold Addr.add; split <;> simp_all
    rw [e]
    exact (blk_cell hb i).trans (by simpa using hu)
theorem goodLeaf_one (x : Cel) : goodLeaf [⟨#[]⟩] [x] 0 = cellGood x.1 x.2.1 x.2.2 := by
  unfold goodLeaf
  rw [show risesB [⟨#[]⟩] = true by decide +kernel]
  simp [celOdd]
set_option maxHeartbeats 2000000 in
set_option maxRecDepth 100000 in
theorem chainGood_calls (x0 : Int) (x1 : ByteArray) (x2 : Int) (w : World) :
    Calls Tryz.prog 43 #[.agg #[.int .i64 x0, .string x1, .int .i64 x2]] w fun e w' => e = .returned (.bool (cellGood x0 x1 x2)) ∧ Below w.heap.size w w' := by
  have hu := Tryz.underlying24
  have hu2 := Tryz.underlying109
  have hcall := fun W h1 h2 => goodLeaf_calls (some ⟨w.heap.size + 1, 0, none⟩) (some ⟨w.heap.size + 1 + 1, 0, none⟩) none 1 1 0 0 [⟨#[]⟩] [(x0, x1, x2)] W h1 h2 (by decide)
  rw [goodLeaf_one] at hcall
  have hs := strC_one (w.alloc (.cells #[.int .i64 x0, .string x1, .int .i64 x2] 24)) ⟨#[]⟩
  have hc := celC_one ((w.alloc (.cells #[.int .i64 x0, .string x1, .int .i64 x2] 24)).alloc (.cells #[.string ⟨#[]⟩] 9)) x0 x1 x2
  rw [World.size_alloc] at hs
  rw [World.size_alloc, World.size_alloc] at hc
  have HS := Aside0.mk hs
  have HC := Aside0.mk hc
  have HCALL := Aside0.mk hcall
  clear hs hc hcall
  go_enter Tryz.func43, Tryz.ntmps43
  go_wp2_with fail
  refine (HCALL.out _ (Kd.C_alloc HS.out _) HC.out).mono ?_
  rintro e w1 ⟨rfl, hb1⟩
  go_wp2
  go_ret
  exact ⟨rfl, (below_alloc (below_alloc (below_alloc (Below.refl _ _) _) _) _).trans (hb1.mono (by simp; omega))⟩
end Go.Proofs.YtonbipaajhokfaaGreatDoor
end
section
set_option linter.unusedVariables false
set_option linter.unusedSimpArgs false
namespace Go.Proofs.YtonbipaajhokfaaGreatDoor
open Go.RowKit Go.Proofs.YtonbipaajhokfaaGreatDoorW.PrintWords Go.Proofs.YtonbipaajhokfaaGreatDoorW.PrintLast Go.Proofs.YtonbipaajhokfaaGreatDoorW.PrintMore
section
variable {P : Program} (w : World)
/-- Appending a string's bytes to a row that is owned: where the new row lies, too. -/
theorem run_append_str_at (base : Nat) (t u ty e : TypeId) (i : TypeInfo) (ht : P.underlying t = some (.slice e)) (hu : P.underlying u = some .string) (hi : P.info? e = some i) (hz : i.zero = some (.int .u8 0))
    (hsize : i.size = 1) (hby : i.bytes = 1) (v : Value) (n : Nat) (xs : List Value) (hown : w.ownsRow base e 1 v n xs) (s : ByteArray) (h63 : n + s.size ≤ maxLen) (hbytes : n + s.size ≤ 140737488355328) (hbase : base ≤ w.heap.size) :
    ∃ v' w', (Builtin.append_ #[t, u] ty #[v, .string s]).run P w = .ok v' w' ∧ w'.ownsRow base e 1 v' (n + s.size) (xs ++ Lib.strCells s) ∧ w.grownBy w' v.ownBlock ∧ (v'.ownBlock = v.ownBlock ∨ v'.ownBlock = some w.heap.size) := by
  rcases hown.2 with ⟨rfl, rfl⟩ | ⟨g, cap, cur, rfl, hbg, hg, hnc, hcm, hcs, htake⟩
  · obtain ⟨v', w', h1, h2, h3, h4⟩ := Lib.run_append_own_string w w.heap.size t u ty e i ht hu hi hz hsize hby (.slice none 0 0) 0 xs ⟨hown.1, .inl ⟨rfl, rfl⟩⟩ s h63 hbytes (Nat.le_refl _)
    obtain ⟨v2, w2, g1, g2, g3, g4⟩ := Lib.run_append_own_string w base t u ty e i ht hu hi hz hsize hby (.slice none 0 0) 0 xs hown s h63 hbytes hbase
    rw [h1] at g1
    injection g1 with ga gb
    subst ga gb
    refine ⟨v', w', h1, g2, g3, ?_⟩
    have hx : xs = [] := List.eq_nil_of_length_eq_zero (by simpa using hown.1)
    by_cases hm : s.size = 0
    · rw [h4.2 ⟨rfl, hm⟩]; exact .inl rfl
    · have hr := run_append_nil_string (P := P) w t u ty e i (.int .u8 0) ht hu hi hz s (by omega) (by simp only [maxLen] at h63; omega) (by rw [hby]; omega)
      rw [hr] at h1
      injection h1 with ha hb
      rw [← ha]
      exact .inr rfl
  · by_cases hroom : n + s.size ≤ cap
    · have hcs' : cur.size = cap := by simpa using hcs
      have hr := Lib.run_append_room_string (P := P) w t u ty e i ht hu hi hsize g n cap cur hg s hroom (by omega)
      obtain ⟨v', w', h1, h2, h3, h4⟩ := Lib.run_append_own_string w base t u ty e i ht hu hi hz hsize hby (.slice (some ⟨g, 0, none⟩) n cap) n xs hown s h63 hbytes hbase
      refine ⟨v', w', h1, h2, h3, ?_⟩
      rw [hr] at h1
      injection h1 with ha hb
      rw [← ha]
      exact .inl rfl
    · have holds : ∀ j u, xs[j]? = some u → w.cell? ((⟨g, 0, none⟩ : Addr).add j) = some u := hown.cells (g := g) rfl
      have hr := Lib.run_append_grow_string (P := P) w t u ty e i (.int .u8 0) ht hu hi hz ⟨g, 0, none⟩ n cap xs (by rw [hsize]; simpa using hown.1) holds s (by omega) (by simp only [maxLen] at h63; omega) (by rw [hby]; exact growslice_fits (by omega) (by omega))
      obtain ⟨v', w', h1, h2, h3, h4⟩ := Lib.run_append_own_string w base t u ty e i ht hu hi hz hsize hby (.slice (some ⟨g, 0, none⟩) n cap) n xs hown s h63 hbytes hbase
      refine ⟨v', w', h1, h2, h3, ?_⟩
      rw [hr] at h1
      injection h1 with ha hb
      rw [← ha]
      exact .inr rfl
theorem wpList_append_str_at {w : World} {ops : Array Oper} {rest : List Oper} {o : Oper} {a : Act} {Q : Exit → Act → World → Prop} (hgd : o.guard = none) (sl x : Operand) (t u : TypeId)
    (ho : o.op = .call { callee := .builtin .append, args := #[sl, x], argTypes := #[t, u] })
    (base : Nat) (e : TypeId) (i : TypeInfo) (ht : P.underlying t = some (.slice e)) (hu : P.underlying u = some .string) (hi : P.info? e = some i) (hz : i.zero = some (.int .u8 0))
    (hsize : i.size = 1) (hby : i.bytes = 1)
    (v : Value) (n : Nat) (xs : List Value) (hs : a.eval sl = v) (hown : w.ownsRow base e 1 v n xs) (s : ByteArray) (hx : a.eval x = .string s)
    (h63 : n + s.size ≤ maxLen) (hbytes : n + s.size ≤ 140737488355328) (hbase : base ≤ w.heap.size)
    (h : ∀ v' w', w'.ownsRow base e 1 v' (n + s.size) (xs ++ Lib.strCells s) → w.grownBy w' v.ownBlock → (v'.ownBlock = v.ownBlock ∨ v'.ownBlock = some w.heap.size) → wpList P ops Q rest (a.put o.dst v') w') : wpList P ops Q (o :: rest) a w := by
  refine wpList_plain hgd fun K hK => ?_
  obtain ⟨v', w', hr, h2, h3, h4⟩ := run_append_str_at (P := P) w base t u o.type e i ht hu hi hz hsize hby v n xs hown s h63 hbytes hbase
  unfold Oper.wp execOp
  simp only [ho, resolve, invoke, builtin, Sem.run_bind, Sem.run_pure, Result.andThen_ok, List.map_toArray, List.map_cons, List.map_nil, hs, hx, hr]
  exact hK _ _ (h v' w' h2 h3 h4)
end
/-- A builder at block b, its blocks G's, that holds bytes. -/
def BldAt (w : World) (G : Nat → Prop) (b : Nat) (l : List UInt8) : Prop :=
  G b ∧ (∀ k, G k → k < w.heap.size) ∧ ∃ p v, (p = .pointer none ∨ p = .pointer (some ⟨b, 0, none⟩)) ∧ w.heap[b]? = some (.cells #[p, v] 89 (0, 0)) ∧
    w.ownsRow 0 5 1 v l.length (Lib.byteCells l) ∧ (∀ g, v.ownBlock = some g → G g)
theorem BldAt.keep {w w' : World} {G : Nat → Prop} {b : Nat} {l : List UInt8} (h : BldAt w G b l) (hk : ∀ k, G k → w'.heap[k]? = w.heap[k]?) (hs : w.heap.size ≤ w'.heap.size) : BldAt w' G b l := by
  obtain ⟨h1, h2, p, v, h3, h4, h5, h6⟩ := h
  exact ⟨h1, fun k hg => Nat.lt_of_lt_of_le (h2 k hg) hs, p, v, h3, (hk b h1).trans h4, own_move h5 (fun k hg => hk k (h6 k hg)), h6⟩
theorem BldAt.below {w w' : World} {G : Nat → Prop} {b : Nat} {l : List UInt8} (h : BldAt w G b l) (hb : Below w.heap.size w w') : BldAt w' G b l :=
  h.keep (fun k hk => hb.block k (h.2.1 k hk)) hb.size
theorem BldAt.fresh (w : World) : BldAt (w.alloc (.cells #[.pointer none, .slice none 0 0] 89)) (fun k => k = w.heap.size) w.heap.size [] :=
  ⟨rfl, fun k hk => by rw [hk]; simp, .pointer none, .slice none 0 0, Or.inl rfl, blk_new w _, World.ownsRow_nil _ _ _ _, fun g hg => by simp [Value.ownBlock] at hg⟩
theorem info5b : (Tryz.prog.info? 5).map (fun i => (i.zero, i.size, i.bytes)) = some (some (.int .u8 0), 1, 1) := by kernel_rfl
theorem szB : (Tryz.prog.info? 89).map (·.size) = some 2 := by kernel_rfl
set_option maxHeartbeats 1000000 in
set_option maxRecDepth 100000 in
theorem copyCheck_used (b : Nat) (w : World) (h0 : w.cell? ⟨b, 0, none⟩ = some (.pointer (some ⟨b, 0, none⟩))) :
    Calls Tryz.prog 66 #[.pointer (some ⟨b, 0, none⟩)] w fun e w' => e = .returned (.tuple #[]) ∧ w' = w := by
  obtain ⟨j, hj, _⟩ := Option.map_eq_some_iff.1 szB
  go_enter Tryz.func66, Tryz.ntmps66
  go_wp2
  rw [Lib.run_neq_ptr_same w _ Tryz.underlying87 hj]
  go_wp2
  go_end0
  exact ⟨rfl, rfl⟩
set_option maxHeartbeats 1000000 in
set_option maxRecDepth 100000 in
theorem copyCheck_fresh (b : Nat) (w : World) (h0 : w.cell? ⟨b, 0, none⟩ = some (.pointer none)) (hsh : w.shape? b = some (89, 2)) (hfz : w.frozen? ⟨b, 0, none⟩ = false) :
    Calls Tryz.prog 66 #[.pointer (some ⟨b, 0, none⟩)] w fun e w' => e = .returned (.tuple #[]) ∧ w' = w.setCell ⟨b, 0, none⟩ (.pointer (some ⟨b, 0, none⟩)) := by
  obtain ⟨j, hj, hjs⟩ := Option.map_eq_some_iff.1 szB
  have hlies : liesAt Tryz.prog Tryz.prog.depth 89 (2 / Tryz.prog.cellsOf 89) 0 89 1 = true := by kernel_rfl
  go_enter Tryz.func66, Tryz.ntmps66
  go_wp2
  rw [Lib.run_to_unsafe w ⟨b, 0, none⟩ Tryz.underlying87 Tryz.underlying128 hj (by rw [hjs]; decide) hsh (Nat.zero_lt_succ 1)]
  simp only [Result.andThen]
  rw [Oper.upon_value]
  go_wp2
  rw [run_callFunc_extern Tryz.func82 (by kernel_rfl) (by kernel_rfl) (by kernel_rfl) (e := Extern.AbiNoEscape.same) (by kernel_rfl)]
  rw [Lib.run_noEscape]
  simp only [Result.andThen]
  rw [Oper.upon_value]
  go_wp2
  rw [Lib.run_from_unsafe w ⟨b, 0, none⟩ Tryz.underlying128 Tryz.underlying87 hj hsh hlies]
  simp only [Result.andThen]
  rw [Oper.upon_value]
  go_wp2
  go_end0
  exact ⟨rfl, rfl⟩
theorem copyCheck_calls (G : Nat → Prop) (b : Nat) (l : List UInt8) (w : World) (h : BldAt w G b l) :
    Calls Tryz.prog 66 #[.pointer (some ⟨b, 0, none⟩)] w fun e w' => e = .returned (.tuple #[]) ∧ (∃ v, w'.heap[b]? = some (.cells #[.pointer (some ⟨b, 0, none⟩), v] 89 (0, 0)) ∧ w'.ownsRow 0 5 1 v l.length (Lib.byteCells l) ∧ (∀ g, v.ownBlock = some g → G g)) ∧ Fr G w w' := by
  obtain ⟨h1, h2, p, v, h3, h4, h5, h6⟩ := h
  rcases h3 with rfl | rfl
  · refine (copyCheck_fresh b w ((blk_cell h4 0).trans rfl) (by simp [World.shape?, h4]) (blk_frozen h4 0)).mono ?_
    rintro e w' ⟨rfl, rfl⟩
    refine ⟨rfl, ⟨v, blk_put h4 0 _ rfl, ?_, h6⟩, (Fr.refl G w).setCell (p := ⟨b, 0, none⟩) (Or.inl h1) _⟩
    have hne := Lib.ownBlock_ne h5 h4 (by decide)
    exact own_move h5 (fun k hk => Below.heap_setCell _ _ _ _ (fun e => hne (by rw [hk]; exact congrArg some e)))
  · refine (copyCheck_used b w ((blk_cell h4 0).trans rfl)).mono ?_
    rintro e w' ⟨rfl, rfl⟩
    exact ⟨rfl, ⟨v, h4, h5, h6⟩, Fr.refl _ _⟩
theorem byteCells_append (a b : List UInt8) : Lib.byteCells (a ++ b) = Lib.byteCells a ++ Lib.byteCells b := by simp [Lib.byteCells]
set_option maxHeartbeats 2000000 in
set_option maxRecDepth 100000 in
theorem bldWrite_calls (G : Nat → Prop) (b : Nat) (l : List UInt8) (s : ByteArray) (w : World) (h : BldAt w G b l) (hlen : l.length + s.size ≤ 1000000) :
    Calls Tryz.prog 47 #[.pointer (some ⟨b, 0, none⟩), .string s] w fun e w' => e = .returned (.tuple #[.int .i64 s.size, .nilIface]) ∧ Goes (fun G' => BldAt w' G' b (l ++ s.data.toList)) G w w' := by
  obtain ⟨i0, hi, hz0, hz1, hz2⟩ := info_parts info5b
  have hb1 := h.2.1
  have HG := Aside0.mk h.1
  have HB := Aside0.mk hb1
  have HCC := Aside0.mk (copyCheck_calls G b l w h)
  clear h hb1
  go_enter Tryz.func47, Tryz.ntmps47
  go_wp2_with fail
  refine HCC.out.mono ?_
  rintro e w1 ⟨rfl, ⟨v, hbk, hown, hvG⟩, hf1⟩
  have c1 : w1.cell? ⟨b, 1, none⟩ = some v := (blk_cell hbk 1).trans rfl
  have HBK := Aside0.mk hbk
  have HOWN := Aside0.mk hown
  have HV := Aside0.mk hvG
  have HF1 := Aside0.mk hf1
  clear hbk hown hvG hf1 HCC
  go_wp2_with (at_builtin; refine wpList_append_str_at rfl _ _ 84 9 rfl 0 5 i0 Tryz.underlying84 Tryz.underlying9 hi hz0 hz1 hz2 _ _ _ rfl HOWN.out s rfl (by unfold maxLen; omega) (by omega) (by omega) ?_)
  intro v' w2 hown' hgrow hat
  have hne := Lib.ownBlock_ne HOWN.out HBK.out (by decide)
  have hb2 : w2.heap[b]? = some (.cells #[.pointer (some ⟨b, 0, none⟩), v] 89 (0, 0)) := by
    rw [hgrow.block b (blk_lt HBK.out) (fun e => hne e.symm)]
    exact HBK.out
  have d1 : w2.cell? ⟨b, 1, none⟩ = some v := (blk_cell hb2 1).trans rfl
  have f1 : w2.frozen? ⟨b, 1, none⟩ = false := blk_frozen hb2 1
  obtain ⟨ao, n', cap, rfl⟩ : ∃ ao n' cap, v' = .slice ao n' cap := by
    rcases hown'.2 with ⟨hv, _⟩ | ⟨g, cap, cur, hv, _⟩
    · exact ⟨_, _, _, hv⟩
    · exact ⟨_, _, _, hv⟩
  have HB2 := Aside0.mk hb2
  have HOWN2 := Aside0.mk hown'
  have HGR := Aside0.mk hgrow
  have HAT := Aside0.mk hat
  have HF2 := Aside0.mk (HF1.out.grown hgrow (fun k hk => Or.inl (HV.out k hk)))
  clear hb2 hown' hgrow hne hat
  go_wp2
  go_ret2
  have hne2 := Lib.ownBlock_ne HOWN2.out HB2.out (by decide)
  refine ⟨rfl, fun k => G k ∨ (w.heap.size ≤ k ∧ k < w2.heap.size), ⟨Or.inl HG.out, fun k hk => ?_, _, _, Or.inr rfl, blk_put HB2.out 1 _ rfl, ?_, fun g hg => ?_⟩, fun k hk => hk.imp id (fun h => h.1), HF2.out.setCell (p := ⟨b, 1, none⟩) (Or.inl HG.out) _⟩
  · simp only [World.size_setCell]
    rcases hk with hk | hk
    · have := HB.out k hk; have := HF2.out.size; omega
    · exact hk.2
  · rw [List.length_append, byteCells_append, show Lib.byteCells s.data.toList = Lib.strCells s from rfl, show s.data.toList.length = s.size from data_length s]
    exact own_move HOWN2.out (fun k hk => Below.heap_setCell _ _ _ _ (fun e => hne2 (by rw [hk]; exact congrArg some e)))
  · rcases HAT.out with h | h
    · exact Or.inl (HV.out g (h ▸ hg))
    · have hgl := (HOWN2.out.lt g hg).2
      rw [h] at hg
      injection hg with hg
      have := HF1.out.size
      exact Or.inr ⟨by omega, hgl⟩
theorem Fr.freeze {F : Nat → Prop} {a b : World} (h : Fr F a b) {p : Addr} (hp : F p.block ∨ a.heap.size ≤ p.block) (n : Nat) : Fr F a (b.freeze p n) := by
  have hh : ∀ k, k ≠ p.block → (b.freeze p n).heap[k]? = b.heap[k]? := fun k hk => by
    unfold World.freeze
    split
    · rfl
    · simp only [Array.getElem?_modify]
      rw [if_neg (Ne.symm hk)]
  have hs : (b.freeze p n).heap.size = b.heap.size := by
    unfold World.freeze
    split
    · rfl
    · simp
  have ho : (b.freeze p n).os = b.os ∧ (b.freeze p n).tape = b.tape ∧ (b.freeze p n).output = b.output := by
    unfold World.freeze
    split <;> exact ⟨rfl, rfl, rfl⟩
  exact ⟨ho.1.trans h.os, ho.2.1.trans h.tape, ho.2.2.trans h.output, by rw [hs]; exact h.size, fun k hk hn =>
    (hh k (fun e => by rcases hp with hp | hp; exact hn (e ▸ hp); omega)).trans (h.block k hk hn)⟩
set_option maxHeartbeats 1000000 in
set_option maxRecDepth 100000 in
theorem bldString_calls (G : Nat → Prop) (b : Nat) (l : List UInt8) (w : World) (h : BldAt w G b l) (h0 : l ≠ []) :
    Calls Tryz.prog 48 #[.pointer (some ⟨b, 0, none⟩)] w fun e w' => e = .returned (.string (bs l)) ∧ Fr G w w' := by
  obtain ⟨h1, h2, p, v, h3, hbk, hown, hvG⟩ := h
  have hl0 : l.length ≠ 0 := by simpa using h0
  obtain ⟨g, cap, cur, rfl, hg, hnc, hcm, hcs, htake⟩ : ∃ g cap cur, v = .slice (some ⟨g, 0, none⟩) l.length cap ∧ w.heap[g]? = some (.cells cur 5 (0, 0)) ∧ l.length ≤ cap ∧ cap ≤ maxLen ∧ cur.size = cap * 1 ∧ cur.toList.take (l.length * 1) = Lib.byteCells l := by
    rcases hown.2 with ⟨_, hz⟩ | ⟨g, cap, cur, hv, _, r⟩
    · exact absurd hz hl0
    · exact ⟨g, cap, cur, hv, r⟩
  have hGg := hvG g rfl
  have hFr : Fr G w (w.drew.freeze ⟨g, 0, none⟩ l.length) := (Fr.of_below (Below.refl _ _).drew).freeze (p := ⟨g, 0, none⟩) (Or.inl hGg) _
  have c1 : w.drew.cell? ⟨b, 1, none⟩ = some (.slice (some ⟨g, 0, none⟩) l.length cap) := by
    have : w.drew.heap[b]? = some (.cells #[p, .slice (some ⟨g, 0, none⟩) l.length cap] 89 (0, 0)) := hbk
    rw [Lib.cell_of_heap this]; rfl
  have hSD : (Builtin.unsafeSliceData_ #[84] 117 #[.slice (some ⟨g, 0, none⟩) l.length cap]).run Tryz.prog w.drew = .ok (.pointer (some ⟨g, 0, none⟩)) w.drew :=
    Lib.run_unsafeSliceData_row _ _ _ _ _ _ (by omega)
  have hUS : (Builtin.unsafeString_ #[117, 3] 9 #[.pointer (some ⟨g, 0, none⟩), .int .i64 l.length]).run Tryz.prog w.drew = .ok (.string ⟨l.toArray⟩) (w.drew.freeze ⟨g, 0, none⟩ l.length) := by
    refine Lib.run_unsafeString_row w.drew 117 3 9 5 Tryz.underlying117 (by kernel_rfl) g cur.size (by have hg' : w.drew.heap[g]? = some (.cells cur 5 (0, 0)) := hg; simp [World.shape?, hg']) l h0 (by omega) (by unfold maxLen at hcm; omega) ?_
    intro j x hx
    have := hown.cells (g := g) rfl j (.int .u8 x.toNat) (by simp [Lib.byteCells, hx])
    exact this
  clear hown hbk h2 h3 hg hcs htake hnc hcm hvG hGg h0 hl0
  have HF := Aside0.mk hFr
  clear hFr
  go_enter Tryz.func48, Tryz.ntmps48
  go_wp2
  go_region
  all_goals (go_wp2; go_ret; exact ⟨rfl, HF.out⟩)
end Go.Proofs.YtonbipaajhokfaaGreatDoor
end
section
set_option linter.unusedVariables false
set_option linter.unusedSimpArgs false
namespace Go.Proofs.YtonbipaajhokfaaGreatDoor
open Go.RowKit Go.Proofs.YtonbipaajhokfaaGreatDoorW.PrintWords Go.Proofs.YtonbipaajhokfaaGreatDoorW.PrintLast Go.Proofs.YtonbipaajhokfaaGreatDoorW.PrintMore
/-- Numbered pages behind an interface value: the four methods, where the object stands in memory, what calls answer. -/
structure Pg (St : Type) where
  T : TypeId
  x : Value
  fg : FuncId
  fp : FuncId
  fn : FuncId
  ff : FuncId
  mg : ∀ w, (method 292 T x "Get").run Tryz.prog w = .ok (fg, x) w
  mp : ∀ w, (method 292 T x "Put").run Tryz.prog w = .ok (fp, x) w
  mn : ∀ w, (method 292 T x "New").run Tryz.prog w = .ok (fn, x) w
  mf : ∀ w, (method 292 T x "Free").run Tryz.prog w = .ok (ff, x) w
  na : ∀ w, (nilAhead 292 T x "Put").run Tryz.prog w = .ok (some false) w
  eg : ∀ args w, (callFunc fg args).run Tryz.prog w = .ok (.enter fg args) w
  ep : ∀ args w, (callFunc fp args).run Tryz.prog w = .ok (.enter fp args) w
  en : ∀ args w, (callFunc fn args).run Tryz.prog w = .ok (.enter fn args) w
  ef : ∀ args w, (callFunc ff args).run Tryz.prog w = .ok (.enter ff args) w
  At : World → (Nat → Prop) → St → Prop
  keep : ∀ {w w' F s}, At w F s → (∀ k, F k → w'.heap[k]? = w.heap[k]?) → w.heap.size ≤ w'.heap.size → At w' F s
  bound : ∀ {w F s}, At w F s → ∀ k, F k → k < w.heap.size
  ok : St → Prop
  get : St → Int → St × ByteArray × Int
  put : St → Int → ByteArray → St × Int
  new : St → St × Int × Int
  free : St → Int → St × Int
  ok_get : ∀ {s} (n : Int), ok s → ok (get s n).1
  ok_put : ∀ {s} (n : Int) (d : ByteArray), ok s → ok (put s n d).1
  ok_new : ∀ {s}, ok s → ok (new s).1
  ok_free : ∀ {s} (n : Int), ok s → ok (free s n).1
  full : ∀ {s} (n : Int), ok s → (get s n).2.2 = 0 → (get s n).2.1.size = 232
  cg : ∀ {w F s} (n : Int), At w F s → ok s → Calls Tryz.prog fg #[x, .int .i64 n] w fun e w' => e = .returned (.tuple #[.string (get s n).2.1, .int .i64 (get s n).2.2]) ∧ Goes (fun F' => At w' F' (get s n).1) F w w'
  cp : ∀ {w F s} (n : Int) (d : ByteArray), At w F s → ok s → Calls Tryz.prog fp #[x, .int .i64 n, .string d] w fun e w' => e = .returned (.int .i64 (put s n d).2) ∧ Goes (fun F' => At w' F' (put s n d).1) F w w'
  cn : ∀ {w F s}, At w F s → ok s → Calls Tryz.prog fn #[x] w fun e w' => e = .returned (.tuple #[.int .i64 (new s).2.1, .int .i64 (new s).2.2]) ∧ Goes (fun F' => At w' F' (new s).1) F w w'
  cf : ∀ {w F s} (n : Int), At w F s → ok s → Calls Tryz.prog ff #[x, .int .i64 n] w fun e w' => e = .returned (.int .i64 (free s n).2) ∧ Goes (fun F' => At w' F' (free s n).1) F w w'
variable {St : Type}
theorem Pg.below {P : Pg St} {w w' : World} {F : Nat → Prop} {s : St} (h : P.At w F s) (hb : Below w.heap.size w w') : P.At w' F s :=
  P.keep h (fun k hk => hb.block k (P.bound h k hk)) hb.size
theorem Pg.far {P : Pg St} {w : World} {F : Nat → Prop} {s : St} (h : P.At w F s) {p : Addr} (hp : ¬ F p.block) (u : Value) : P.At (w.setCell p u) F s :=
  P.keep h (fun k hk => Below.heap_setCell w p u k (fun e => hp (e ▸ hk))) (by simp)
/-- A part of a value as a page. -/
def partL (part : List UInt8) (next : Int) : List UInt8 := 3 :: be4 (IntKind.u64.wrap next) ++ part ++ List.replicate (227 - part.length) 0
theorem partL_length {part : List UInt8} (h : part.length ≤ 227) (next : Int) : (partL part next).length = 232 := by simp [partL, be4_length]; omega
set_option maxHeartbeats 1000000 in
set_option maxRecDepth 100000 in
theorem page_calls (part : List UInt8) (next : Int) (w : World) (h : part.length ≤ 227) :
    Calls Tryz.prog 31 #[.string (bs part), .int .i64 next] w fun e w' => e = .returned (.string (bs (partL part next))) ∧ Below w.heap.size w w' := by
  have hs : (bs part).size = part.length := bs_size part
  have hr := fun W => rep0_calls (227 - part.length) W (by omega)
  rw [show ((227 - part.length : Nat) : Int) = 227 - part.length from by omega] at hr
  have HR := Aside0.mk hr
  have hs1 : (bs (be4 (IntKind.u64.wrap next))).size = 4 := bs_size _
  clear hr
  go_enter Tryz.func31, Tryz.ntmps31
  go_wp2_with fail
  refine (fixed4_calls (IntKind.u64.wrap next) w).mono ?_
  rintro e w1 ⟨rfl, hb1⟩
  go_wp2_with fail
  refine (HR.out w1).mono ?_
  rintro e w2 ⟨rfl, hb2⟩
  have hs2 : (bs (List.replicate (227 - part.length) (0 : UInt8))).size = 227 - part.length := by rw [bs_size, List.length_replicate]
  go_wp2
  go_ret
  refine ⟨?_, hb1.trans (hb2.mono hb1.size)⟩
  show Ending.returned (.string ((⟨#[3]⟩ : ByteArray) ++ bs (be4 (IntKind.u64.wrap next)) ++ bs part ++ bs (List.replicate (227 - part.length) 0))) = _
  rw [show (⟨#[3]⟩ : ByteArray) = bs [3] from rfl, bs_append, bs_append, bs_append]
  rfl
theorem bs_extract (v : List UInt8) (a b : Nat) : (bs v).extract a b = bs ((v.drop a).take (b - a)) := by
  apply ByteArray.ext
  simp [bs, ByteArray.extract, ByteArray.copySlice, List.drop_take]
/-- Laying a chain, from the last part on: k parts are left. -/
def Pg.lay (P : Pg St) (v : List UInt8) : Nat → St → Int → St × Int × Int
  | 0, s, next => (s, next, 0)
  | k + 1, s, next =>
    if (P.new s).2.2 ≠ 0 then ((P.new s).1, 0, (P.new s).2.2)
    else if (P.put (P.new s).1 (P.new s).2.1 (bs (partL ((v.drop (k * 227)).take 227) next))).2 ≠ 0 then
      ((P.put (P.new s).1 (P.new s).2.1 (bs (partL ((v.drop (k * 227)).take 227) next))).1, 0, (P.put (P.new s).1 (P.new s).2.1 (bs (partL ((v.drop (k * 227)).take 227) next))).2)
    else P.lay v k (P.put (P.new s).1 (P.new s).2.1 (bs (partL ((v.drop (k * 227)).take 227) next))).1 (P.new s).2.1
def parts (n : Nat) : Nat := (n - 1) / 227 + 1
def Pg.cell (P : Pg St) (s : St) (v : List UInt8) : St × Cel × Int :=
  if 5000 < v.length then (s, (0, ⟨#[]⟩, 0), 47)
  else if v.length ≤ 40 then (s, ((v.length : Int), bs v, 0), 0)
  else if (P.lay v (parts v.length) s 0).2.2 ≠ 0 then ((P.lay v (parts v.length) s 0).1, (0, ⟨#[]⟩, 0), (P.lay v (parts v.length) s 0).2.2)
  else ((P.lay v (parts v.length) s 0).1, ((v.length : Int), ⟨#[]⟩, (P.lay v (parts v.length) s 0).2.1), 0)
set_option maxHeartbeats 1000000 in
set_option maxRecDepth 100000 in
theorem cell_short (P : Pg St) (F : Nat → Prop) (s : St) (v : List UInt8) (w : World) (h : P.At w F s) (hl : v.length ≤ 40) :
    Calls Tryz.prog 13 #[.iface P.T P.x, .string (bs v)] w fun e w' => e = .returned (.tuple #[.agg #[.int .i64 v.length, .string (bs v), .int .i64 0], .int .i64 0]) ∧ Goes (fun F' => P.At w' F' s) F w w' := by
  have H := Aside0.mk h
  have HB := Aside0.mk (P.bound h)
  have hu := Tryz.underlying24
  have hsz : (bs v).size = v.length := bs_size v
  have t1 : decide ((5000 : Int) < (v.length : Int)) = false := decide_eq_false (by omega)
  have t2 : decide ((v.length : Int) ≤ 40) = true := decide_eq_true (by omega)
  clear h
  go_enter Tryz.func13, Tryz.ntmps13
  go_wp2
  refine bodyPost_ret (results_ct rfl _ _ w.heap.size 24 #[.int .i64 v.length, .string (bs v), .int .i64 0] (0, 0) _ rfl (blk_new w _) Tryz.underlying24 rfl (by kernel_rfl)) rfl ?_
  exact ⟨rfl, F, Pg.below H.out (below_alloc (Below.refl _ _) _), fun k hk => Or.inl hk, Fr.of_below (below_alloc (Below.refl _ _) _)⟩
set_option maxHeartbeats 1000000 in
set_option maxRecDepth 100000 in
theorem cell_long (P : Pg St) (F : Nat → Prop) (s : St) (v : ByteArray) (w : World) (h : P.At w F s) (hl : 5000 < v.size) (hm : v.size ≤ 9223372036854775807) :
    Calls Tryz.prog 13 #[.iface P.T P.x, .string v] w fun e w' => e = .returned (.tuple #[.agg #[.int .i64 0, .string ⟨#[]⟩, .int .i64 0], .int .i64 47]) ∧ Goes (fun F' => P.At w' F' s) F w w' := by
  have H := Aside0.mk h
  have HB := Aside0.mk (P.bound h)
  have hu := Tryz.underlying24
  have t1 : decide ((5000 : Int) < (v.size : Int)) = true := decide_eq_true (by omega)
  clear h
  go_enter Tryz.func13, Tryz.ntmps13
  go_wp2
  refine bodyPost_ret (results_ct rfl _ _ w.heap.size 24 #[.int .i64 0, .string ⟨#[]⟩, .int .i64 0] (0, 0) _ rfl (blk_new w _) Tryz.underlying24 rfl (by kernel_rfl)) rfl ?_
  exact ⟨rfl, F, Pg.below H.out (below_alloc (Below.refl _ _) _), fun k hk => Or.inl hk, Fr.of_below (below_alloc (Below.refl _ _) _)⟩
/-- A call has gone from (w, F) to (w', F1), where the object stands. -/
def Two (At : World → (Nat → Prop) → Prop) (F F1 : Nat → Prop) (w w1 : World) : Prop := At w1 F1 ∧ (∀ k, F1 k → F k ∨ w.heap.size ≤ k) ∧ Fr F w w1
theorem Two.below2 {P : Pg St} {s : St} {F F1 : Nat → Prop} {w w1 w2 : World} (h : Two (P.At · · s) F F1 w w1) (hb : Below w1.heap.size w1 w2) : Two (P.At · · s) F F1 w w2 := ⟨Pg.below h.1 hb, h.2.1, h.2.2.then_below hb⟩
theorem Two.of {P : Pg St} {s : St} {F F1 : Nat → Prop} {w w1 : World} (h : P.At w1 F1 s) (h1 : ∀ k, F1 k → F k ∨ w.heap.size ≤ k) (h2 : Fr F w w1) : Two (P.At · · s) F F1 w w1 := ⟨h, h1, h2⟩
theorem Two.trans {P : Pg St} {s s2 : St} {F F1 F2 : Nat → Prop} {w w1 w2 : World} (h : Two (P.At · · s) F F1 w w1) (k : Two (P.At · · s2) F1 F2 w1 w2) : Two (P.At · · s2) F F2 w w2 :=
  ⟨k.1, fun i hi => by
    rcases k.2.1 i hi with h1 | h1
    · exact h.2.1 i h1
    · exact Or.inr (Nat.le_trans h.2.2.size h1), h.2.2.trans k.2.2 (fun i hi hf => by rcases h.2.1 i hf with h1 | h1; exact h1; omega)⟩
theorem Two.goes {P : Pg St} {s : St} {F F1 : Nat → Prop} {w w1 : World} (h : Two (P.At · · s) F F1 w w1) : Goes (fun F' => P.At w1 F' s) F w w1 := ⟨F1, h.1, h.2.1, h.2.2⟩
/-- A block of one's own stays behind such a call. -/
theorem Two.blk {P : Pg St} {s : St} {F F1 : Nat → Prop} {w w1 : World} (h : Two (P.At · · s) F F1 w w1) {b : Nat} {o : Obj} (hb : w.heap[b]? = some o) (hn : ¬ F b) : w1.heap[b]? = some o ∧ ¬ F1 b :=
  ⟨h.2.2.blk hb hn, fun hf => by rcases h.2.1 b hf with h1 | h1; exact hn h1; have := blk_lt hb; omega⟩
section
variable {w : World} {g : Nat} {t : TypeId} {x0 x1 x2 : Value} {F : Nat → Prop}
theorem put3 (h : w.heap[g]? = some (.cells #[x0, x1, x2] t (0, 0))) (y0 y1 y2 : Value) :
    (((w.setCell ⟨g, 0, none⟩ y0).setCell ⟨g, 1, none⟩ y1).setCell ⟨g, 2, none⟩ y2).heap[g]? = some (.cells #[y0, y1, y2] t (0, 0)) :=
  blk_put (blk_put (blk_put h 0 _ rfl) 1 _ rfl) 2 _ rfl
theorem Two.set3 {P : Pg St} {s : St} {F1 : Nat → Prop} {w0 : World} (h : Two (P.At · · s) F F1 w0 w) (hn : ¬ F1 g) (hg : w0.heap.size ≤ g) (y0 y1 y2 : Value) :
    Two (P.At · · s) F F1 w0 (((w.setCell ⟨g, 0, none⟩ y0).setCell ⟨g, 1, none⟩ y1).setCell ⟨g, 2, none⟩ y2) :=
  ⟨Pg.far (Pg.far (Pg.far h.1 hn _) hn _) hn _, h.2.1, ((h.2.2.setCell (p := ⟨g, 0, none⟩) (Or.inr hg) y0).setCell (p := ⟨g, 1, none⟩) (Or.inr hg) y1).setCell (p := ⟨g, 2, none⟩) (Or.inr hg) y2⟩
end
theorem lay_new {P : Pg St} {v : List UInt8} {k : Nat} {s s1 : St} {next n1 e1 : Int} (h : (s1, n1, e1) = P.new s) (he : e1 ≠ 0) : P.lay v (k + 1) s next = (s1, 0, e1) := by
  unfold Pg.lay; rw [← h]; dsimp only; rw [if_pos he]
theorem lay_put {P : Pg St} {v part : List UInt8} {k : Nat} {s s1 s3 : St} {next n1 e1 e3 : Int} (h : (s1, n1, e1) = P.new s) (he : e1 = 0) (hp : part = (v.drop (k * 227)).take 227) (h3 : (s3, e3) = P.put s1 n1 (bs (partL part next))) (he3 : e3 ≠ 0) : P.lay v (k + 1) s next = (s3, 0, e3) := by
  subst hp
  unfold Pg.lay; rw [← h]; dsimp only; rw [if_neg (by simp [he]), ← h3]; dsimp only; rw [if_pos he3]
theorem lay_step {P : Pg St} {v part : List UInt8} {k : Nat} {s s1 s3 : St} {next n1 e1 e3 : Int} (h : (s1, n1, e1) = P.new s) (he : e1 = 0) (hp : part = (v.drop (k * 227)).take 227) (h3 : (s3, e3) = P.put s1 n1 (bs (partL part next))) (he3 : e3 = 0) : P.lay v (k + 1) s next = P.lay v k s3 n1 := by
  subst hp
  conv => lhs; unfold Pg.lay
  rw [← h]; dsimp only; rw [if_neg (by simp [he]), ← h3]; dsimp only; rw [if_neg (by simp [he3])]
theorem cell_err {P : Pg St} {v : List UInt8} {s s1 : St} {n e1 : Int} (h1 : 40 < v.length) (h2 : v.length ≤ 5000) (h : P.lay v (parts v.length) s 0 = (s1, n, e1)) (he : e1 ≠ 0) : P.cell s v = (s1, (0, ⟨#[]⟩, 0), e1) := by
  unfold Pg.cell; rw [if_neg (by omega), if_neg (by omega), h]; dsimp only; rw [if_pos he]
theorem cell_ok {P : Pg St} {v : List UInt8} {s s1 : St} {n : Int} (h1 : 40 < v.length) (h2 : v.length ≤ 5000) (h : P.lay v (parts v.length) s 0 = (s1, n, 0)) : P.cell s v = (s1, ((v.length : Int), ⟨#[]⟩, n), 0) := by
  unfold Pg.cell; rw [if_neg (by omega), if_neg (by omega), h]; dsimp only; rw [if_neg (by decide)]
end Go.Proofs.YtonbipaajhokfaaGreatDoor
end
section
set_option linter.unusedVariables false
set_option linter.unusedSimpArgs false
namespace Go.Proofs.YtonbipaajhokfaaGreatDoor
open Go.RowKit Go.Proofs.YtonbipaajhokfaaGreatDoorW.PrintWords Go.Proofs.YtonbipaajhokfaaGreatDoorW.PrintLast Go.Proofs.YtonbipaajhokfaaGreatDoorW.PrintMore
variable {St : Type}
/-- What holds at the head of chain.Cell's loop, k parts left. -/
def LayRel (P : Pg St) (F : Nat → Prop) (s : St) (v : List UInt8) (w wr : World) (k : Nat) (next : Int) (s' : St) (F' : Nat → Prop) : Prop :=
  Two (P.At · · s') F F' w wr ∧ P.ok s' ∧ (wr.heap[w.heap.size]? = some (.cells #[.int .i64 0, .string ⟨#[]⟩, .int .i64 0] 24 (0, 0)) ∧ ¬ F' w.heap.size) ∧ P.lay v k s' next = P.lay v (parts v.length) s 0
set_option maxHeartbeats 4000000 in
set_option maxRecDepth 100000 in
theorem cell_chain (P : Pg St) (F : Nat → Prop) (s : St) (v : List UInt8) (w : World) (h : P.At w F s) (hok : P.ok s) (hl : 40 < v.length) (hl2 : v.length ≤ 5000) :
    Calls Tryz.prog 13 #[.iface P.T P.x, .string (bs v)] w fun e w' => e = .returned (.tuple #[.agg #[.int .i64 (P.cell s v).2.1.1, .string (P.cell s v).2.1.2.1, .int .i64 (P.cell s v).2.1.2.2], .int .i64 (P.cell s v).2.2]) ∧ Goes (fun F' => P.At w' F' (P.cell s v).1) F w w' := by
  have H := Aside0.mk h
  have HB := Aside0.mk (P.bound h)
  have HOK := Aside0.mk hok
  have hu := Tryz.underlying24
  have hsz : (bs v).size = v.length := bs_size v
  have t1 : decide ((5000 : Int) < (v.length : Int)) = false := decide_eq_false (by omega)
  have t2 : decide ((v.length : Int) ≤ 40) = false := decide_eq_false (by omega)
  have hmp := P.mp
  have hmn := P.mn
  have hna := P.na
  have hep := P.ep
  have hen := P.en
  have HW0 := Aside0.mk (show LayRel P F s v w (w.alloc (.cells #[.int .i64 0, .string ⟨#[]⟩, .int .i64 0] 24)) (parts v.length) 0 s F from ⟨⟨Pg.below h (below_alloc (Below.refl _ _) _), fun k hk => Or.inl hk, Fr.of_below (below_alloc (Below.refl _ _) _)⟩, hok, ⟨blk_new w _, fun hf => by have := P.bound h _ hf; omega⟩, rfl⟩)
  have hq : ((v.length : Int) - 1) / 227 * 227 = (parts v.length : Int) * 227 - 227 := by unfold parts; omega
  have HQ := Aside0.mk hq
  clear h hok hq
  go_enter Tryz.func13, Tryz.ntmps13
  go_wp2
  go_loopw [6, 7] (fun nx at_ wr => ∃ (k : Nat) (next : Int) (s' : St) (F' : Nat → Prop), nx = .int .i64 next ∧ at_ = .int .i64 ((k : Int) * 227 - 227) ∧ k ≤ parts v.length ∧ Aside0 (LayRel P F s v w wr k next s' F')) (fun _ at_ _ => (intOf at_ + 227).toNat)
  case atStart => exact ⟨parts v.length, 0, s, F, rfl, by rw [HQ.out], Nat.le_refl _, HW0⟩
  case round =>
    obtain ⟨k, next, s', F', rfl, rfl, hk, hA⟩ := hrel
    clear HW0 HQ
    obtain ⟨b, hb⟩ : ∃ b, b = w.heap.size := ⟨_, rfl⟩
    have HBB := Aside0.mk hb
    obtain ⟨g1, g2, g3, g4⟩ := hA.out
    rw [← hb] at g3 ⊢
    have G1 := Aside0.mk g1
    have G2 := Aside0.mk g2
    have G3 := Aside0.mk g3
    have G4 := Aside0.mk g4
    clear g1 g2 g3 g4 hA hb
    cases k with
    | zero =>
      rw [show ((0 : Nat) : Int) * 227 - 227 = -227 from by omega]
      have HC := Aside0.mk (cell_ok hl hl2 (show P.lay v (parts v.length) s 0 = (s', next, 0) by rw [← G4.out]; rfl))
      have c0 : wr.cell? ⟨b, 0, none⟩ = some (.int .i64 0) := (blk_cell G3.out.1 0).trans rfl
      have f0 : wr.frozen? ⟨b, 0, none⟩ = false := blk_frozen G3.out.1 0
      have c1 : wr.cell? ⟨b, 1, none⟩ = some (.string ⟨#[]⟩) := (blk_cell G3.out.1 1).trans rfl
      have f1 : wr.frozen? ⟨b, 1, none⟩ = false := blk_frozen G3.out.1 1
      have c2 : wr.cell? ⟨b, 2, none⟩ = some (.int .i64 0) := (blk_cell G3.out.1 2).trans rfl
      have f2 : wr.frozen? ⟨b, 2, none⟩ = false := blk_frozen G3.out.1 2
      go_wp2
      clear c0 c1 c2 f0 f1 f2
      refine bodyPost_ret (results_ct rfl _ _ b 24 #[.int .i64 v.length, .string ⟨#[]⟩, .int .i64 next] (0, 0) _ rfl (put3 G3.out.1 _ _ _) Tryz.underlying24 rfl (by kernel_rfl)) rfl ?_
      rw [HC.out]
      exact ⟨rfl, (G1.out.set3 G3.out.2 (by rw [HBB.out]; exact Nat.le_refl _) _ _ _).goes⟩
    | succ k =>
      rw [show ((k + 1 : Nat) : Int) * 227 - 227 = (k : Int) * 227 from by omega]
      have hkb : (k : Int) * 227 ≤ 5000 := by unfold parts at hk; omega
      have hk0 : (0 : Int) ≤ (k : Int) * 227 := by omega
      have hcn := P.cn G1.out.1 G2.out
      obtain ⟨⟨s1, n1, e1⟩, hr⟩ : ∃ r, r = P.new s' := ⟨_, rfl⟩
      rw [← hr] at hcn
      dsimp only at hcn
      have HCN := Aside0.mk hcn
      have HNEW := Aside0.mk hr
      have hok1 := P.ok_new G2.out
      rw [← hr] at hok1
      have HOK1 : Aside0 (P.ok s1) := Aside0.mk hok1
      clear hcn hr hok1
      go_wp2_with fail
      refine HCN.out.mono ?_
      rintro e w1 ⟨rfl, F1, hA1, hF1, hR1⟩
      have HA2 := Aside0.mk (G1.out.trans (Two.of hA1 hF1 hR1))
      have HBK := Aside0.mk ((Two.of hA1 hF1 hR1).blk G3.out.1 G3.out.2)
      clear HCN hA1 hF1 hR1
      by_cases he : e1 = 0
      · have te : (e1 != 0) = false := by simp [he]
        have HE1 := Aside0.mk he
        clear he
        obtain ⟨m, hm⟩ : ∃ m, m = min ((k : Int) * 227 + 227) (v.length : Int) := ⟨_, rfl⟩
        have hm1 : (k : Int) * 227 ≤ m := by unfold parts at hk; omega
        have hm2 : m ≤ (v.length : Int) := by omega
        have hm0 : 0 ≤ m := by omega
        have hmin := hm.symm
        have hw227 : IntKind.i64.wrap ((k : Int) * 227 + 227) = (k : Int) * 227 + 227 := IntWalk.i64_in _ (by omega)
        have hcut := bs_extract v ((k : Int) * 227).toNat m.toNat
        have hpart : (v.drop ((k : Int) * 227).toNat).take (m.toNat - ((k : Int) * 227).toNat) = (v.drop (k * 227)).take 227 := by
          rw [show ((k : Int) * 227).toNat = k * 227 from by omega]
          by_cases hc : k * 227 + 227 ≤ v.length
          · rw [show m.toNat - k * 227 = 227 from by omega]
          · rw [List.take_of_length_le (by rw [List.length_drop]; omega), List.take_of_length_le (by rw [List.length_drop]; omega)]
        rw [hpart] at hcut
        obtain ⟨part, hpt⟩ : ∃ part, part = (v.drop (k * 227)).take 227 := ⟨_, rfl⟩
        rw [← hpt] at hcut
        have hpl : part.length ≤ 227 := by rw [hpt, List.length_take]; omega
        have HPT := Aside0.mk hpt
        have hpg := fun W => page_calls part next W hpl
        have HPG := Aside0.mk hpg
        have hcp := fun W (hW : P.At W F1 s1) => P.cp n1 (bs (partL part next)) hW HOK1.out
        obtain ⟨⟨s3, e3⟩, hput⟩ : ∃ r, r = P.put s1 n1 (bs (partL part next)) := ⟨_, rfl⟩
        rw [← hput] at hcp
        dsimp only at hcp
        have HCP := Aside0.mk hcp
        have HPUT := Aside0.mk hput
        have hok3 := P.ok_put n1 (bs (partL part next)) HOK1.out
        rw [← hput] at hok3
        have HOK3 : Aside0 (P.ok s3) := Aside0.mk hok3
        clear hm hpart hpt hpg hcp hput hok3
        go_wp2_with fail
        refine start_ (n := 17) (S := fun _ => True) (ds := []) #[false, false, false, false, false, false, false, false, false, false, false, false, false, false, false, false, false] (by kernel_rfl) rfl rfl trivial (fun hHeld => ?_)
        refine pure_ (i := 0) (N := some 42) (v := ?_) (a' := ?_) #[true, false, false, false, false, false, false, false, false, false, false, false, false, false, false, false, false] rfl rfl (by kernel_rfl) (fun _ _ _ h => h) (Or.inl ⟨by rfl, ?_⟩) ?_ ?_
        rotate_left
        · intro w'
          go_simp
          with_reducible rfl
        rotate_left
        · simp only [Act.put, List.setIfInBounds_toArray, List.set_cons_zero, List.set_cons_succ]
          rfl
        refine pure_ (i := 1) (N := some 43) (v := ?_) (a' := ?_) #[true, true, false, false, false, false, false, false, false, false, false, false, false, false, false, false, false] rfl rfl (by kernel_rfl) (fun _ _ _ h => h) (Or.inl ⟨by rfl, ?_⟩) ?_ ?_
        rotate_left
        · intro w'
          go_simp
          with_reducible rfl
        rotate_left
        · simp only [Act.put, List.setIfInBounds_toArray, List.set_cons_zero, List.set_cons_succ]
          rfl
        refine pure_ (i := 2) (N := some 44) (v := ?_) (a' := ?_) #[true, true, true, false, false, false, false, false, false, false, false, false, false, false, false, false, false] rfl rfl (by kernel_rfl) (fun _ _ _ h => h) (Or.inl ⟨by rfl, ?_⟩) ?_ ?_
        rotate_left
        · intro w'
          go_simp
          with_reducible rfl
        rotate_left
        · simp only [Act.put, List.setIfInBounds_toArray, List.set_cons_zero, List.set_cons_succ]
          rfl
        refine pure_ (i := 3) (N := some 45) (v := ?_) (a' := ?_) #[true, true, true, true, false, false, false, false, false, false, false, false, false, false, false, false, false] rfl rfl (by kernel_rfl) (fun _ _ _ h => h) (Or.inl ⟨by rfl, ?_⟩) ?_ ?_
        rotate_left
        · intro w'
          go_simp
          with_reducible rfl
        rotate_left
        · simp only [Act.put, List.setIfInBounds_toArray, List.set_cons_zero, List.set_cons_succ]
          rfl
        refine pure_ (i := 4) (N := some 46) (v := ?_) (a' := ?_) #[true, true, true, true, true, false, false, false, false, false, false, false, false, false, false, false, false] rfl rfl (by kernel_rfl) (fun _ _ _ h => h) (Or.inl ⟨by rfl, ?_⟩) ?_ ?_
        rotate_left
        · intro w'
          go_simp
          with_reducible rfl
        rotate_left
        · simp only [Act.put, List.setIfInBounds_toArray, List.set_cons_zero, List.set_cons_succ]
          rfl
        refine pure_ (i := 5) (N := some 47) (v := ?_) (a' := ?_) #[true, true, true, true, true, true, false, false, false, false, false, false, false, false, false, false, false] rfl rfl (by kernel_rfl) (fun _ _ _ h => h) (Or.inl ⟨by rfl, ?_⟩) ?_ ?_
        rotate_left
        · intro w'
          go_simp
          with_reducible rfl
        rotate_left
        · simp only [Act.put, List.setIfInBounds_toArray, List.set_cons_zero, List.set_cons_succ]
          rfl
        refine pure_ (i := 6) (N := some 48) (v := ?_) (a' := ?_) #[true, true, true, true, true, true, true, false, false, false, false, false, false, false, false, false, false] rfl rfl (by kernel_rfl) (fun _ _ _ h => h) (Or.inl ⟨by rfl, ?_⟩) ?_ ?_
        rotate_left
        · intro w'
          go_simp
          with_reducible rfl
        rotate_left
        · simp only [Act.put, List.setIfInBounds_toArray, List.set_cons_zero, List.set_cons_succ]
          rfl
        refine pure_ (i := 7) (N := some 49) (v := ?_) (a' := ?_) #[true, true, true, true, true, true, true, true, false, false, false, false, false, false, false, false, false] rfl rfl (by kernel_rfl) (fun _ _ _ h => h) (Or.inl ⟨by rfl, ?_⟩) ?_ ?_
        rotate_left
        · intro w'
          go_simp
          with_reducible rfl
        rotate_left
        · simp only [Act.put, List.setIfInBounds_toArray, List.set_cons_zero, List.set_cons_succ]
          rfl
        refine pure_ (i := 8) (N := some 50) (v := ?_) (a' := ?_) #[true, true, true, true, true, true, true, true, true, false, false, false, false, false, false, false, false] rfl rfl (by kernel_rfl) (fun _ _ _ h => h) (Or.inl ⟨by rfl, ?_⟩) ?_ ?_
        rotate_left
        · intro w'
          go_simp
          with_reducible rfl
        rotate_left
        · simp only [Act.put, List.setIfInBounds_toArray, List.set_cons_zero, List.set_cons_succ]
          rfl
        refine pure_ (i := 9) (N := some 51) (v := ?_) (a' := ?_) #[true, true, true, true, true, true, true, true, true, true, false, false, false, false, false, false, false] rfl rfl (by kernel_rfl) (fun _ _ _ h => h) (Or.inl ⟨by rfl, ?_⟩) ?_ ?_
        rotate_left
        · intro w'
          go_simp
          with_reducible rfl
        rotate_left
        · simp only [Act.put, List.setIfInBounds_toArray, List.set_cons_zero, List.set_cons_succ]
          rfl
        refine pure_ (i := 10) (N := some 52) (v := ?_) (a' := ?_) #[true, true, true, true, true, true, true, true, true, true, true, false, false, false, false, false, false] rfl rfl (by kernel_rfl) (fun _ _ _ h => h) (Or.inl ⟨by rfl, ?_⟩) ?_ ?_
        rotate_left
        · intro w'
          go_simp
          with_reducible rfl
        rotate_left
        · simp only [Act.put, List.setIfInBounds_toArray, List.set_cons_zero, List.set_cons_succ]
          rfl
        refine pure_ (i := 12) (N := some 54) (v := ?_) (a' := ?_) #[true, true, true, true, true, true, true, true, true, true, true, false, true, false, false, false, false] rfl rfl (by kernel_rfl) (fun _ _ _ h => h) (Or.inl ⟨by rfl, ?_⟩) ?_ ?_
        rotate_left
        · intro w'
          go_simp
          with_reducible rfl
        rotate_left
        · simp only [Act.put, List.setIfInBounds_toArray, List.set_cons_zero, List.set_cons_succ]
          rfl
        refine pure_ (i := 13) (N := some 55) (v := ?_) (a' := ?_) #[true, true, true, true, true, true, true, true, true, true, true, false, true, true, false, false, false] rfl rfl (by kernel_rfl) (fun _ _ _ h => h) (Or.inl ⟨by rfl, ?_⟩) ?_ ?_
        rotate_left
        · intro w'
          go_simp
          with_reducible rfl
        rotate_left
        · simp only [Act.put, List.setIfInBounds_toArray, List.set_cons_zero, List.set_cons_succ]
          rfl
        refine pure_ (i := 14) (N := some 56) (v := ?_) (a' := ?_) #[true, true, true, true, true, true, true, true, true, true, true, false, true, true, true, false, false] rfl rfl (by kernel_rfl) (fun _ _ _ h => h) (Or.inl ⟨by rfl, ?_⟩) ?_ ?_
        rotate_left
        · intro w'
          go_simp
          with_reducible rfl
        rotate_left
        · simp only [Act.put, List.setIfInBounds_toArray, List.set_cons_zero, List.set_cons_succ]
          rfl
        refine one_ (i := 11) (N := some 53) #[true, true, true, true, true, true, true, true, true, true, true, true, true, true, true, false, false] rfl rfl (by kernel_rfl) (by decide) (fun K hK => ?_)
        refine call_ 31 #[.string (bs part), .int .i64 next] (by rfl) rfl (by go_simp) ?_
        refine (HPG.out _).mono ?_
        rintro e w2 ⟨rfl, hb2⟩
        refine ⟨_, rfl, hK.out _ _ trivial (fun _ => ?_)⟩
        clear hK K
        refine norm_ (a' := ?_) ?_ ?_
        rotate_left
        · show Act.put _ (some 53) _ = _
          simp only [Act.put, List.setIfInBounds_toArray, List.set_cons_zero, List.set_cons_succ]
          rfl
        have HA1X := HA2
        have HBD := Aside0.mk ((Below.refl w1.heap.size w1).drew.trans (hb2.mono (Nat.le_refl _)))
        replace HA2 := Aside0.mk ((HA2.out.below2 (Below.refl _ _).drew).below2 hb2)
        clear hb2
        refine one_ (i := 15) (N := some 57) #[true, true, true, true, true, true, true, true, true, true, true, true, true, true, true, true, false] rfl rfl (by kernel_rfl) (by decide) (fun K hK => ?_)
        refine call_ P.fp #[P.x, .int .i64 n1, .string (bs (partL part next))] (by rfl) rfl (by go_simp) ?_
        refine (HCP.out _ HA2.out.1).mono ?_
        rintro e w3 ⟨rfl, F2, hA3, hF3, hR3⟩
        refine ⟨_, rfl, hK.out _ _ trivial (fun _ => ?_)⟩
        clear hK K
        refine norm_ (a' := ?_) ?_ ?_
        rotate_left
        · show Act.put _ (some 57) _ = _
          simp only [Act.put, List.setIfInBounds_toArray, List.set_cons_zero, List.set_cons_succ]
          rfl
        have HB3 := Aside0.mk (((Two.of (P := P) (w := w1) HA1X.out.1 (fun k hk => Or.inl hk) (Fr.refl F1 w1)).below2 HBD.out).trans (Two.of hA3 hF3 hR3))
        have HA3 := Aside0.mk (HA2.out.trans (Two.of hA3 hF3 hR3))
        clear hA3 hF3 hR3
        refine pure_ (i := 16) (N := some 10) (v := ?_) (a' := ?_) #[true, true, true, true, true, true, true, true, true, true, true, true, true, true, true, true, true] rfl rfl (by kernel_rfl) (fun _ _ _ h => h) (Or.inl ⟨by rfl, ?_⟩) ?_ ?_
        rotate_left
        · intro w'
          go_simp
          with_reducible rfl
        rotate_left
        · simp only [Act.put, List.setIfInBounds_toArray, List.set_cons_zero, List.set_cons_succ]
          rfl
        refine done_ (by kernel_rfl) ?_
        replace HBK := Aside0.mk (HB3.out.blk HBK.out.1 HBK.out.2)
        clear HPG HCP hcut hw227 hmin hm0 hm1 hm2
        by_cases he3 : e3 = 0
        · have te3 : (e3 != 0) = false := by simp [he3]
          have HST := Aside0.mk (lay_step HNEW.out HE1.out HPT.out HPUT.out he3)
          clear he3
          go_wp2
          go_roundw
          case rel => exact ⟨k, n1, s3, F2, rfl, rfl, by omega, ⟨HA3.out, HOK3.out, by rw [← HBB.out]; exact HBK.out, by rw [← G4.out, HST.out]⟩⟩
          case measure => simp [intOf]; omega
        · have te3 : (e3 != 0) = true := by simp [he3]
          have HC := Aside0.mk (cell_err hl hl2 (show P.lay v (parts v.length) s 0 = (s3, 0, e3) by rw [← G4.out]; exact lay_put HNEW.out HE1.out HPT.out HPUT.out he3) he3)
          clear he3
          have c0 : w3.cell? ⟨b, 0, none⟩ = some (.int .i64 0) := (blk_cell HBK.out.1 0).trans rfl
          have f0 : w3.frozen? ⟨b, 0, none⟩ = false := blk_frozen HBK.out.1 0
          have c1 : w3.cell? ⟨b, 1, none⟩ = some (.string ⟨#[]⟩) := (blk_cell HBK.out.1 1).trans rfl
          have f1 : w3.frozen? ⟨b, 1, none⟩ = false := blk_frozen HBK.out.1 1
          have c2 : w3.cell? ⟨b, 2, none⟩ = some (.int .i64 0) := (blk_cell HBK.out.1 2).trans rfl
          have f2 : w3.frozen? ⟨b, 2, none⟩ = false := blk_frozen HBK.out.1 2
          go_wp2
          clear c0 c1 c2 f0 f1 f2
          refine bodyPost_ret (results_ct rfl _ _ b 24 #[.int .i64 0, .string ⟨#[]⟩, .int .i64 0] (0, 0) _ rfl (put3 HBK.out.1 _ _ _) Tryz.underlying24 rfl (by kernel_rfl)) rfl ?_
          rw [HC.out]
          exact ⟨rfl, (HA3.out.set3 HBK.out.2 (by rw [HBB.out]; exact Nat.le_refl _) _ _ _).goes⟩
      · have te : (e1 != 0) = true := by simp [he]
        have HC := Aside0.mk (cell_err hl hl2 (show P.lay v (parts v.length) s 0 = (s1, 0, e1) by rw [← G4.out]; exact lay_new HNEW.out he) he)
        clear he
        have c0 : w1.cell? ⟨b, 0, none⟩ = some (.int .i64 0) := (blk_cell HBK.out.1 0).trans rfl
        have f0 : w1.frozen? ⟨b, 0, none⟩ = false := blk_frozen HBK.out.1 0
        have c1 : w1.cell? ⟨b, 1, none⟩ = some (.string ⟨#[]⟩) := (blk_cell HBK.out.1 1).trans rfl
        have f1 : w1.frozen? ⟨b, 1, none⟩ = false := blk_frozen HBK.out.1 1
        have c2 : w1.cell? ⟨b, 2, none⟩ = some (.int .i64 0) := (blk_cell HBK.out.1 2).trans rfl
        have f2 : w1.frozen? ⟨b, 2, none⟩ = false := blk_frozen HBK.out.1 2
        go_wp2
        clear c0 c1 c2 f0 f1 f2
        refine bodyPost_ret (results_ct rfl _ _ b 24 #[.int .i64 0, .string ⟨#[]⟩, .int .i64 0] (0, 0) _ rfl (put3 HBK.out.1 _ _ _) Tryz.underlying24 rfl (by kernel_rfl)) rfl ?_
        rw [HC.out]
        exact ⟨rfl, (HA2.out.set3 HBK.out.2 (by rw [HBB.out]; exact Nat.le_refl _) _ _ _).goes⟩
end Go.Proofs.YtonbipaajhokfaaGreatDoor
end
