/-
  Plain: a shelf whose pages in use are u: New and Free.
-/
import Derived.Test.YtonbipaajhokfaaH3
import Derived.Test.YtonbipaajhokfaaKF
set_option linter.unusedVariables false
set_option linter.unusedSimpArgs false
namespace Go.Proofs.Ytonbipaajhokfaa
open Go.RowKit Go.Proofs.YtonbipaajhokfaaW.PrintWords

/-- A shelf that has given out u; p pages, L of them free. -/
def Good (lim : Int) (s : Sh) (u : List Int) (p : Int) (L : Nat) : Prop :=
  ∃ (t : Int) (c : List (Int × List Int)), s.limit = lim ∧ s.hd = ⟨1, p, t, L, 0, 0⟩ ∧ s.left = -1 ∧ (flat c).length = L ∧ Chain (readB s.f) t c ∧ Inv u (flat c) p ∧ p ≤ lim ∧ lim ≤ 4096
theorem Good.start {lim : Int} (h1 : 1 ≤ lim) (h2 : lim ≤ 4096) : Good lim ⟨lim, ⟨1, 1, 0, 0, 0, 0⟩, fun _ => none, -1⟩ [] 1 0 :=
  ⟨0, [], rfl, rfl, rfl, rfl, rfl, Inv.start, h1, h2⟩
theorem Good.sum {lim p : Int} {s : Sh} {u : List Int} {L : Nat} (h : Good lim s u p L) : p = 1 + u.length + L ∧ p ≤ lim ∧ lim ≤ 4096 := by
  obtain ⟨t, c, h1, h2, h3, h4, h5, h6, h7, h8⟩ := h
  exact ⟨by rw [← h4]; exact h6.1, h7, h8⟩
theorem Good.bd {lim p : Int} {s : Sh} {u : List Int} {L : Nat} (h : Good lim s u p L) : s.bd := by
  have hs := h.sum
  obtain ⟨t, c, h1, h2, h3, h4, h5, h6, h7, h8⟩ := h
  unfold Sh.bd
  rw [h2]
  dsimp only
  omega
theorem Good.left {lim p : Int} {s : Sh} {u : List Int} {L : Nat} (h : Good lim s u p L) : s.left = -1 := by
  obtain ⟨t, c, h1, h2, h3, -⟩ := h; exact h3
theorem Good.pages {lim p : Int} {s : Sh} {u : List Int} {L : Nat} (h : Good lim s u p L) : ∃ t, s.hd = ⟨1, p, t, L, 0, 0⟩ := by
  obtain ⟨t, c, h1, h2, -⟩ := h; exact ⟨t, h2⟩
theorem Good.nodup {lim p : Int} {s : Sh} {u : List Int} {L : Nat} (h : Good lim s u p L) : u.Nodup ∧ ∀ y ∈ u, 1 ≤ y ∧ y < p := by
  obtain ⟨t, c, h1, h2, h3, h4, h5, h6, -⟩ := h
  exact ⟨(List.nodup_append.1 h6.2.1).1, fun y hy => h6.2.2 y (List.mem_append_left _ hy)⟩
theorem Good.beg {lim p : Int} {s : Sh} {u : List Int} {L : Nat} (h : Good lim s u p L) {n : Int} (h1 : 1 ≤ n) (h2 : n < p) : s.beg n = 0 := by
  obtain ⟨t, c, g1, g2, g3, -⟩ := h
  unfold Sh.beg
  rw [g2, g3, if_neg (by decide), if_neg (by dsimp only; omega)]
theorem Good.room {lim p : Int} {s : Sh} {u : List Int} {L : Nat} (h : Good lim s u p L) (mb : Nat) (hu : (u.length : Int) + 1 = lim) : s.new mb = (s, 0, 22) := by
  have hs := h.sum
  obtain ⟨t, c, h1, h2, h3, h4, h5, h6, h7, h8⟩ := h
  unfold Sh.new
  rw [h3, h2, h1, if_neg (by decide), if_pos ⟨by dsimp only; omega, by dsimp only; omega⟩]
theorem upd_look (f : Int → Option ByteArray) (n : Int) (d : ByteArray) (m : Int) : readB (upd f n d) m = if m = n then d else readB f m := by
  unfold readB upd
  by_cases e : m = n <;> simp [e]
theorem Good.new2 {lim p : Int} {s : Sh} {u : List Int} {L : Nat} (h : Good lim s u p L) (mb : Nat) (hu : (u.length : Int) + 1 < lim) :
    ∃ s' nn p' L', s.new mb = (s', nn, 0) ∧ Good lim s' (u ++ [nn]) p' L' ∧ 1 ≤ nn ∧ nn < p' ∧ nn < lim ∧ nn ∉ u ∧ readB s'.f nn = bs blankL ∧ L' ≤ L := by
  have hs := h.sum
  obtain ⟨t, c, h1, h2, h3, h4, h5, h6, h7, h8⟩ := h
  obtain ⟨lm, hd, f, lf⟩ := s
  dsimp only at h1 h2 h3 h5
  subst h1 h2 h3
  cases hf : flat c with
  | nil =>
    rw [hf] at h4 h6
    have hL : L = 0 := by rw [← h4]; rfl
    subst hL
    have hpl : p < lm := by have := h6.1; simp at this; omega
    have htk := take_none (mapShop mb) f ⟨1, p, t, ((0 : Nat) : Int), 0, 0⟩ rfl (by dsimp only; omega)
    refine ⟨⟨lm, ⟨1, p + 1, t, ((0 : Nat) : Int), 0, 0⟩, upd f p (bs blankL), -1⟩, p, p + 1, 0, ?_, ⟨t, c, rfl, rfl, rfl, by rw [hf]; rfl, ?_, by rw [hf]; exact h6.new, by omega, h8⟩, by have := h6.1; simp at this; omega, by omega, hpl, fun hm => ?_, by dsimp only; rw [upd_look, if_pos rfl], Nat.le_refl _⟩
    · unfold Sh.new
      dsimp only
      rw [if_neg (by decide), if_neg (fun hh => by have := hh.2; omega), htk]
      dsimp only
      rw [if_neg (by decide)]
    · exact h5.keep (fun x hx => by rw [hf] at hx; simp at hx)
    · have := h6.2.2 p (List.mem_append_left _ hm); omega
  | cons x st =>
    have hL : 0 < L := by rw [← h4, hf]; simp
    obtain ⟨f', t', c', e1, e2, e3, -⟩ := (mapLive mb).take (k := 0) (s := f) trivial (hd := ⟨1, p, t, (L : Int), 0, 0⟩) (c := c) (x := x) (st := st) h5 hf (by dsimp only; rw [h4])
      (fun y hy => h6.2.2 y (List.mem_append_right _ hy)) (List.nodup_append.1 h6.2.1).2.1
    rw [hf] at h6 h4
    have hx := h6.2.2 x (List.mem_append_right u (by simp))
    have hnd := (List.nodup_append.1 h6.2.1).2.1
    have hxs : x ∉ st := (List.nodup_cons.1 hnd).1
    have hst : st.length = L - 1 := by simp at h4; omega
    refine ⟨⟨lm, ⟨1, p, t', ((L - 1 : Nat) : Int), 0, 0⟩, upd f' x (bs blankL), -1⟩, x, p, L - 1, ?_, ⟨t', c', rfl, rfl, rfl, by rw [e3, hst], ?_, by rw [e3]; exact h6.take, h7, h8⟩, hx.1, hx.2, by omega, fun hm => (List.nodup_append.1 h6.2.1).2.2 x hm x (by simp) rfl, by dsimp only; rw [upd_look, if_pos rfl], by omega⟩
    · unfold Sh.new
      dsimp only
      rw [if_neg (by decide), if_neg (fun hh => by have := hh.1; omega), e1]
      dsimp only
      rw [if_neg (by decide), show ((L : Int) - 1) = ((L - 1 : Nat) : Int) by omega]
    · refine Chain.keep (show Chain (readB f') t' c' from e2) (fun y hy => ?_)
      rw [e3] at hy
      dsimp only
      rw [upd_look, if_neg (fun (e : y = x) => hxs (e ▸ hy))]
theorem Good.new {lim p : Int} {s : Sh} {u : List Int} {L : Nat} (h : Good lim s u p L) (mb : Nat) (hu : (u.length : Int) + 1 < lim) :
    ∃ s' nn p' L', s.new mb = (s', nn, 0) ∧ Good lim s' (u ++ [nn]) p' L' ∧ 1 ≤ nn ∧ nn < p' ∧ nn < lim ∧ nn ∉ u := by
  obtain ⟨s', nn, p', L', h1, h2, h3, h4, h5, h6, -, -⟩ := h.new2 mb hu
  exact ⟨s', nn, p', L', h1, h2, h3, h4, h5, h6⟩
theorem Good.free {lim p : Int} {s : Sh} {u : List Int} {L : Nat} (h : Good lim s u p L) (mb : Nat) {k : Nat} (hk : k < u.length) :
    ∃ s', s.free mb (u.getD k 0) = (s', 0) ∧ Good lim s' (u.take k ++ u.drop (k + 1)) p (L + 1) := by
  have hs := h.sum
  obtain ⟨t, c, h1, h2, h3, h4, h5, h6, h7, h8⟩ := h
  have ha := h6.at_ hk
  obtain ⟨lm, hd, f, lf⟩ := s
  dsimp only at h1 h2 h3 h5
  subst h1 h2 h3
  obtain ⟨f', t', c', e1, e2, e3, -⟩ := (mapLive mb).give (k := 0) (s := f) trivial (hd := ⟨1, p, t, (L : Int), 0, 0⟩) (c := c) (n := u.getD k 0) h5 (by dsimp only; rw [h4]) ha.1 ha.2.1 (by dsimp only; omega) (by dsimp only; omega) ha.2.2 (List.nodup_append.1 h6.2.1).2.1
  refine ⟨⟨lm, ⟨1, p, t', ((L + 1 : Nat) : Int), 0, 0⟩, f', -1⟩, ?_, ⟨t', c', rfl, rfl, rfl, by rw [e3]; simp [h4], e2, by rw [e3]; exact h6.give hk, h7, h8⟩⟩
  unfold Sh.free Sh.beg
  dsimp only
  rw [if_neg (by rw [if_neg (by decide), if_neg (by omega)]; decide), e1]
  dsimp only
  rw [if_pos rfl]
  rfl
end Go.Proofs.Ytonbipaajhokfaa
