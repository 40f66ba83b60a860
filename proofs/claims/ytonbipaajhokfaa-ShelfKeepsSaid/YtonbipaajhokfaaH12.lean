/-
  Plain: what New, Free and Put leave alone.
-/
import Derived.Test.YtonbipaajhokfaaH8
set_option linter.unusedVariables false
set_option linter.unusedSimpArgs false
namespace Go.Proofs.Ytonbipaajhokfaa
open Go.RowKit Go.Proofs.YtonbipaajhokfaaW.PrintWords

theorem lay_keep (mb : Nat) (f : Int → Option ByteArray) (t next : Int) (l : List Int) (y : Int) (h : y ≠ t) : readB ((mapShop mb).lay f t next l).1 y = readB f y := by
  unfold Shop.lay
  split
  · show readB (upd f t _) y = _
    rw [upd_look, if_neg h]
  · rfl
theorem trunk_keep (mb : Nat) (f : Int → Option ByteArray) (t : Int) : ((mapShop mb).trunk f t).1 = f := by
  unfold Shop.trunk
  dsimp only
  split
  · rfl
  · split <;> rfl
theorem take_keep (mb : Nat) (f : Int → Option ByteArray) (h : Hd) (y : Int) (hy : y ≠ h.trunk) : readB ((mapShop mb).take f h).1 y = readB f y := by
  unfold Shop.take
  have e := trunk_keep mb f h.trunk
  repeat' split
  all_goals first
    | rfl
    | (dsimp only; rw [lay_keep _ _ _ _ _ _ hy, e])
    | (dsimp only; rw [e])
theorem give_keep (mb : Nat) (f : Int → Option ByteArray) (h : Hd) (n y : Int) (hy : y ≠ h.trunk) (hn : y ≠ n) : readB ((mapShop mb).give f h n).1 y = readB f y := by
  have e := trunk_keep mb f h.trunk
  have g : ∀ (r : (Int → Option ByteArray) × Int) (h : Hd), (gaveOf r h).1 = r.1 := fun r h => by unfold gaveOf; split <;> rfl
  unfold Shop.give
  split
  · rfl
  · split
    · rfl
    · split
      · rw [g, lay_keep _ _ _ _ _ _ hn]
      · split
        · dsimp only; rw [e]
        · split
          · rw [g, lay_keep _ _ _ _ _ _ hy, e]
          · rw [g, lay_keep _ _ _ _ _ _ hn, e]
theorem new_keep (mb : Nat) (s : Sh) (y : Int) (hy : y ≠ s.hd.trunk) (hn : y ≠ (s.new mb).2.1) : readB (s.new mb).1.f y = readB s.f y := by
  unfold Sh.new at hn ⊢
  split
  · rfl
  · rename_i c0
    rw [if_neg c0] at hn
    split
    · rfl
    · rename_i c1
      rw [if_neg c1] at hn
      split
      · exact take_keep mb s.f s.hd y hy
      · rename_i c2
        rw [if_neg c2] at hn
        dsimp only at hn ⊢
        rw [upd_look, if_neg hn]
        exact take_keep mb s.f s.hd y hy
theorem free_keep (mb : Nat) (s : Sh) (n y : Int) (hy : y ≠ s.hd.trunk) (hn : y ≠ n) : readB (s.free mb n).1.f y = readB s.f y := by
  unfold Sh.free
  split
  · rfl
  · split <;> exact give_keep mb s.f s.hd n y hy hn

section
variable {lim p : Int} {s : Sh} {u : List Int} {L : Nat}
theorem Good.trunk (h : Good lim s u p L) {y : Int} (hy : y ∈ u) : y ≠ s.hd.trunk := by
  obtain ⟨t, c, h1, h2, h3, h4, h5, h6, h7, h8⟩ := h
  rw [h2]
  intro e
  dsimp only at e
  have hb := h6.2.2 y (List.mem_append_left _ hy)
  rcases h5.top with g | g
  · omega
  · exact (List.nodup_append.1 h6.2.1).2.2 y hy t g.2.2.1 e
theorem Good.put (h : Good lim s u p L) (mb : Nat) {n : Int} {d : ByteArray} (hn : n ∈ u) (hd : d.size = 232) : s.put n d = (⟨s.limit, s.hd, upd s.f n d, s.left⟩, 0) ∧ Good lim ⟨s.limit, s.hd, upd s.f n d, s.left⟩ u p L := by
  have hb := h.nodup.2 n hn
  have hg := h.beg hb.1 hb.2
  refine ⟨by unfold Sh.put; rw [if_neg (by rw [hg]; decide), if_neg (by rw [hd]; decide)], ?_⟩
  obtain ⟨t, c, h1, h2, h3, h4, h5, h6, h7, h8⟩ := h
  refine ⟨t, c, h1, h2, h3, h4, h5.keep (fun x hx => ?_), h6, h7, h8⟩
  dsimp only
  rw [upd_look, if_neg]
  intro e
  exact (List.nodup_append.1 h6.2.1).2.2 n hn x hx e.symm
/-- What the pages in use hold. -/
def Holds (s : Sh) (u : List Int) (d : List ByteArray) : Prop := d = u.map (readB s.f)
theorem Holds.len {d : List ByteArray} (h : Holds s u d) : d.length = u.length := by rw [h, List.length_map]
theorem Holds.at_ {d : List ByteArray} (h : Holds s u d) {k : Nat} (hk : k < u.length) : readB s.f (u.getD k 0) = d.getD k ByteArray.empty := by
  unfold Holds at h
  subst h
  simp [List.getD_eq_getElem?_getD, List.getElem?_eq_getElem hk]
theorem keeps_new {d : List ByteArray} (h : Good lim s u p L) (hh : Holds s u d) (mb : Nat) (hu : (u.length : Int) + 1 < lim) :
    ∃ s' nn p' L', s.new mb = (s', nn, 0) ∧ Good lim s' (u ++ [nn]) p' L' ∧ Holds s' (u ++ [nn]) (d ++ [bs blankL]) := by
  obtain ⟨s', nn, p', L', h1, h2, h3, h4, h5, h6, h7, -⟩ := h.new2 mb hu
  refine ⟨s', nn, p', L', h1, h2, ?_⟩
  have hk := fun y => new_keep mb s y
  rw [h1] at hk
  unfold Holds at hh ⊢
  subst hh
  rw [List.map_append, List.map_cons, List.map_nil, h7]
  congr 1
  refine List.map_congr_left (fun y hy => (hk y (h.trunk hy) (fun e => h6 (by have e' : y = nn := e; rw [← e']; exact hy))).symm)
theorem keeps_free {d : List ByteArray} (h : Good lim s u p L) (hh : Holds s u d) (mb : Nat) {k : Nat} (hk : k < u.length) :
    ∃ s', s.free mb (u.getD k 0) = (s', 0) ∧ Good lim s' (u.take k ++ u.drop (k + 1)) p (L + 1) ∧ Holds s' (u.take k ++ u.drop (k + 1)) (d.take k ++ d.drop (k + 1)) := by
  obtain ⟨s', h1, h2⟩ := h.free mb hk
  refine ⟨s', h1, h2, ?_⟩
  have hf := fun y => free_keep mb s (u.getD k 0) y
  rw [h1] at hf
  have hnd := h.nodup.1
  have e := split_at u k hk
  have hne : ∀ y ∈ u.take k ++ u.drop (k + 1), y ∈ u ∧ y ≠ u.getD k 0 := fun y hy => by
    have hp : (u.take k ++ u.getD k 0 :: u.drop (k + 1)).Perm (u.getD k 0 :: (u.take k ++ u.drop (k + 1))) := List.perm_middle
    rw [← e] at hp
    have h3 := (hp.nodup_iff).1 hnd
    exact ⟨hp.mem_iff.2 (List.mem_cons_of_mem _ hy), fun e2 => (List.nodup_cons.1 h3).1 (e2 ▸ hy)⟩
  unfold Holds at hh ⊢
  subst hh
  rw [← List.map_take, ← List.map_drop, ← List.map_append]
  exact List.map_congr_left (fun y hy => (hf y (h.trunk (hne y hy).1) (hne y hy).2).symm)
theorem keeps_put {d : List ByteArray} (h : Good lim s u p L) (hh : Holds s u d) (mb : Nat) {k : Nat} (hk : k < u.length) {x : ByteArray} (hx : x.size = 232) :
    s.put (u.getD k 0) x = (⟨s.limit, s.hd, upd s.f (u.getD k 0) x, s.left⟩, 0) ∧ Good lim ⟨s.limit, s.hd, upd s.f (u.getD k 0) x, s.left⟩ u p L ∧ Holds ⟨s.limit, s.hd, upd s.f (u.getD k 0) x, s.left⟩ u (d.set k x) := by
  have hm : u.getD k 0 ∈ u := by rw [List.getD_eq_getElem?_getD, List.getElem?_eq_getElem hk]; exact List.getElem_mem hk
  obtain ⟨h1, h2⟩ := h.put mb hm hx
  refine ⟨h1, h2, ?_⟩
  have hnd := h.nodup.1
  unfold Holds at hh ⊢
  subst hh
  apply List.ext_getElem
  · simp
  · intro i hi1 hi2
    have hi : i < u.length := by simpa using hi2
    rw [List.getElem_map, List.getElem_set]
    dsimp only
    rw [upd_look]
    have ek : u.getD k 0 = u[k] := by simp [List.getD_eq_getElem?_getD, List.getElem?_eq_getElem hk]
    by_cases e : k = i
    · subst e
      rw [if_pos rfl, if_pos ek.symm]
    · rw [if_neg e, List.getElem_map, if_neg]
      intro e2
      exact e ((List.getElem_inj hnd).1 (e2.trans ek)).symm
theorem Holds.get {d : List ByteArray} (h : Good lim s u p L) (hh : Holds s u d) {k : Nat} (hk : k < u.length) : s.get (u.getD k 0) = (d.getD k ByteArray.empty, 0) := by
  have hm : u.getD k 0 ∈ u := by rw [List.getD_eq_getElem?_getD, List.getElem?_eq_getElem hk]; exact List.getElem_mem hk
  have hb := h.nodup.2 _ hm
  unfold Sh.get
  rw [h.beg hb.1 hb.2, if_neg (by decide), hh.at_ hk]
end
end Go.Proofs.Ytonbipaajhokfaa
