/-
  Plain: pages that are used, pages that are free.
-/
import Derived.Test.YtonbipaajhokfaaD2
set_option linter.unusedVariables false
set_option linter.unusedSimpArgs false
namespace Go.Proofs.Ytonbipaajhokfaa
open Go.RowKit Go.Proofs.YtonbipaajhokfaaW.PrintWords Go.Proofs.YtonbipaajhokfaaW.PrintLast Go.Proofs.YtonbipaajhokfaaW.PrintMore

def Inv (used st : List Int) (p : Int) : Prop := p = 1 + used.length + st.length ∧ (used ++ st).Nodup ∧ ∀ y ∈ used ++ st, 1 ≤ y ∧ y < p
theorem Inv.start : Inv [] [] 1 := ⟨rfl, by simp, by simp⟩
theorem split_at (l : List Int) (k : Nat) (h : k < l.length) : l = l.take k ++ l.getD k 0 :: l.drop (k + 1) := by
  have e : l.getD k 0 = l[k] := by simp [List.getD_eq_getElem?_getD, List.getElem?_eq_getElem h]
  rw [e, ← List.drop_eq_getElem_cons h, List.take_append_drop]
theorem Inv.perm {u u' st st' : List Int} {p : Int} (h : Inv u st p) (hp : (u' ++ st').Perm (u ++ st)) : Inv u' st' p := by
  obtain ⟨h1, h2, h3⟩ := h
  have hl := hp.length_eq
  simp only [List.length_append] at hl
  exact ⟨by omega, hp.nodup_iff.2 h2, fun y hy => h3 y (hp.mem_iff.1 hy)⟩
theorem Inv.give {u st : List Int} {p : Int} (h : Inv u st p) {k : Nat} (hk : k < u.length) : Inv (u.take k ++ u.drop (k + 1)) (u.getD k 0 :: st) p := by
  refine h.perm ?_
  have e := split_at u k hk
  have h1 : (u.take k ++ u.drop (k + 1) ++ u.getD k 0 :: st).Perm (u.getD k 0 :: (u.take k ++ u.drop (k + 1) ++ st)) := List.perm_middle
  have h2 : (u.take k ++ u.getD k 0 :: u.drop (k + 1)).Perm (u.getD k 0 :: (u.take k ++ u.drop (k + 1))) := List.perm_middle
  rw [← e] at h2
  exact h1.trans (h2.symm.append_right st)
theorem Inv.take {u st : List Int} {p x : Int} (h : Inv u (x :: st) p) : Inv (u ++ [x]) st p := h.perm (by simp)
theorem Inv.new {u : List Int} {p : Int} (h : Inv u [] p) : Inv (u ++ [p]) [] (p + 1) := by
  obtain ⟨h1, h2, h3⟩ := h
  simp only [List.append_nil, List.length_nil] at h1 h2 h3
  refine ⟨by simp; omega, ?_, ?_⟩
  · rw [List.append_nil, List.nodup_append]
    refine ⟨h2, by simp, fun a ha b hb => ?_⟩
    simp at hb
    subst hb
    have := h3 a ha
    omega
  · intro y hy
    simp at hy
    rcases hy with hy | hy
    · have := h3 y hy; omega
    · omega
theorem Inv.at_ {u st : List Int} {p : Int} (h : Inv u st p) {k : Nat} (hk : k < u.length) : 1 ≤ u.getD k 0 ∧ u.getD k 0 < p ∧ u.getD k 0 ∉ st := by
  have hm : u.getD k 0 ∈ u := by
    rw [List.getD_eq_getElem?_getD, List.getElem?_eq_getElem hk]
    exact List.getElem_mem hk
  have h1 := h.2.2 _ (List.mem_append_left st hm)
  refine ⟨h1.1, h1.2, fun hs => ?_⟩
  exact (List.nodup_append.1 h.2.1).2.2 _ hm _ hs rfl

theorem once_give {kd kb k m : Nat} {p : Int} {s : Desk} {t : Int} {c : List (Int × List Int)} {u : List Int} (ho : (deskLive kd kb).ok (m + 2) s) (hc : Chain ((deskLive kd kb).look s) t c) (hi : Inv u (flat c) p) (hk : k < u.length) (hp : p ≤ 4096) :
    ∃ s' t' c', (deskShop kd kb).give s ⟨1, p, t, ((flat c).length : Int), 0, 0⟩ (u.getD k 0) = (s', ⟨1, p, t', ((flat c).length : Int) + 1, 0, 0⟩, 0) ∧ Chain ((deskLive kd kb).look s') t' c' ∧ flat c' = u.getD k 0 :: flat c ∧ (deskLive kd kb).ok m s' := by
  obtain ⟨h1, h2, h3⟩ := hi.at_ hk
  have hi0 := hi.1
  exact (deskLive kd kb).give (hd := ⟨1, p, t, ((flat c).length : Int), 0, 0⟩) (n := u.getD k 0) ho hc rfl h1 h2 hp (by show ((flat c).length : Int) < p - 1; omega) h3 (List.nodup_append.1 hi.2.1).2.1
theorem once_take {kd kb m : Nat} {p x : Int} {s : Desk} {t : Int} {c : List (Int × List Int)} {u st : List Int} (ho : (deskLive kd kb).ok (m + 2) s) (hc : Chain ((deskLive kd kb).look s) t c) (hi : Inv u (flat c) p) (hf : flat c = x :: st) :
    ∃ s' t' c', (deskShop kd kb).take s ⟨1, p, t, ((flat c).length : Int), 0, 0⟩ = (s', x, ⟨1, p, t', (st.length : Int), 0, 0⟩, 0) ∧ Chain ((deskLive kd kb).look s') t' c' ∧ flat c' = st ∧ (deskLive kd kb).ok m s' := by
  obtain ⟨s', t', c', h1, h2, h3, h4⟩ := (deskLive kd kb).take (hd := ⟨1, p, t, ((flat c).length : Int), 0, 0⟩) ho hc hf rfl (fun y hy => hi.2.2 y (List.mem_append_right u hy)) (List.nodup_append.1 hi.2.1).2.1
  refine ⟨s', t', c', ?_, h2, h3, h4⟩
  rw [h1]
  have : ((flat c).length : Int) - 1 = (st.length : Int) := by rw [hf]; simp
  dsimp only
  rw [this]
theorem R_none (w : World) (B : Nat) (hb : B ≤ w.heap.size) (ok : Nat → Prop) (hok : ok w.heap.size) : (Kd.int .i64).R 3 (w.alloc (.cells #[] 3)) B ok (.slice (some ⟨w.heap.size, 0, none⟩) 0 0) [] :=
  Kd.R_of_own (by
    have h := World.ownsRow_lit (base := B) (e := 3) (size := 1) w #[] 0 hb (by simp [maxLen]) rfl
    exact h) (fun k hk => by
    have : w.heap.size = k := by simpa [Value.ownBlock] using hk
    exact this ▸ hok)
end Go.Proofs.Ytonbipaajhokfaa
