/-
  Plain: a desk whose calls are used up.
-/
import Derived.Test.YtonbipaajhokfaaD0
set_option linter.unusedVariables false
set_option linter.unusedSimpArgs false
namespace Go.Proofs.Ytonbipaajhokfaa
open Go.RowKit Go.Proofs.YtonbipaajhokfaaW.PrintWords Go.Proofs.YtonbipaajhokfaaW.PrintLast Go.Proofs.YtonbipaajhokfaaW.PrintMore

theorem give_down2 {kd kb k j : Nat} {p : Int} {s : Desk} {t : Int} {c : List (Int × List Int)} {md : Int} (ho : (deskLive kd kb).ok (k + 2) s) (hc : Chain ((deskLive kd kb).look s) t c) (hf : flat c = downs j) (hj : (j : Int) + 1 < p) (hp : p ≤ 4096) :
    ∃ s' t' c', (deskShop kd kb).give s ⟨md, p, t, j, 0, 0⟩ ((j : Int) + 1) = (s', ⟨md, p, t', (j : Int) + 1, 0, 0⟩, 0) ∧ Chain ((deskLive kd kb).look s') t' c' ∧ flat c' = downs (j + 1) ∧ (deskLive kd kb).ok k s' := by
  obtain ⟨s', t', c', h1, h2, h3, h4⟩ := (deskLive kd kb).give (hd := ⟨md, p, t, j, 0, 0⟩) (n := (j : Int) + 1) ho hc (by rw [hf, downs_length]) (by omega) hj hp (by show (j : Int) < p - 1; omega) (by rw [hf, mem_downs]; omega) (by rw [hf]; exact downs_nodup j)
  exact ⟨s', t', c', h1, h2, by rw [h3, hf]; rfl, h4⟩
theorem take_down2 {kd kb k j : Nat} {p : Int} {s : Desk} {t : Int} {c : List (Int × List Int)} {md : Int} (ho : (deskLive kd kb).ok (k + 2) s) (hc : Chain ((deskLive kd kb).look s) t c) (hf : flat c = downs (j + 1)) (hj : (j : Int) + 1 < p) (hp : p ≤ 4096) :
    ∃ s' t' c', (deskShop kd kb).take s ⟨md, p, t, (j : Int) + 1, 0, 0⟩ = (s', (j : Int) + 1, ⟨md, p, t', j, 0, 0⟩, 0) ∧ Chain ((deskLive kd kb).look s') t' c' ∧ flat c' = downs j ∧ (deskLive kd kb).ok k s' := by
  obtain ⟨s', t', c', h1, h2, h3, h4⟩ := (deskLive kd kb).take (hd := ⟨md, p, t, (j : Int) + 1, 0, 0⟩) (x := (j : Int) + 1) (st := downs j) ho hc hf (by rw [hf, downs_length]; simp) (by
    rw [hf]; intro y hy; rw [mem_downs] at hy; show 1 ≤ y ∧ y < p; omega) (by rw [hf]; exact downs_nodup (j + 1))
  refine ⟨s', t', c', ?_, h2, h3, h4⟩
  rw [h1]
  simp

def Desk.at_ (s : Desk) (left : Int) : Desk := ⟨s.N, s.D, left⟩
theorem trunk0 (kd kb : Nat) (s : Desk) (t : Int) : (deskShop kd kb).trunk (s.at_ 0) t = (s.at_ 0, 0, [], 11) := by
  have h : (deskShop kd kb).get (s.at_ 0) t = (s.at_ 0, ⟨#[]⟩, 11) := by show Desk.get (s.at_ 0) t = _; unfold Desk.get; exact if_pos rfl
  unfold Shop.trunk
  rw [h]
  dsimp only
  rw [if_pos (by decide)]
theorem trunk1 (kd kb : Nat) (s : Desk) {t next : Int} {l : List Int} (he : encOk next l = true) (hl : getB s.N s.D t = bs (trunkPage next l)) : (deskShop kd kb).trunk (s.at_ 1) t = (s.at_ 0, next, l, 0) := by
  have h : (deskShop kd kb).get (s.at_ 1) t = (s.at_ 0, bs (trunkPage next l), 0) := by
    show Desk.get (s.at_ 1) t = _
    unfold Desk.get Desk.at_
    rw [if_neg (by show ¬ (1 : Int) = 0; decide)]
    show (_, getB s.N s.D t, _) = _
    rw [hl]
    have e : wrap64 ((1 : Int) - 1) = 0 := by unfold wrap64; omega
    dsimp only
    rw [e]
  obtain ⟨d1, d2, d3⟩ := dec_page he
  unfold Shop.trunk
  rw [h]
  dsimp only
  rw [bs_list, d1, d2, d3, if_neg (by decide), if_neg (by decide)]
theorem lay0 (kd kb : Nat) (s : Desk) {t next : Int} {l : List Int} (he : encOk next l = true) : (deskShop kd kb).lay (s.at_ 0) t next l = (s.at_ 0, 11) := by
  unfold Shop.lay
  rw [if_pos he]
  show Desk.put (s.at_ 0) t (bs (trunkPage next l)) = _
  unfold Desk.put
  exact if_pos rfl

/-- What Give answers where the desk is used up ahead of its second call. -/
theorem give_used {kd kb j : Nat} {p : Int} {s : Desk} {t : Int} {c : List (Int × List Int)} {md : Int} (hc : Chain ((deskLive kd kb).look s) t c) (hf : flat c = downs j) (h1 : 1 ≤ j) (hj : (j : Int) + 1 < p) (hp : p ≤ 4096) (left : Int) (hl : left = 0 ∨ left = 1) :
    (deskShop kd kb).give (s.at_ left) ⟨md, p, t, j, 0, 0⟩ ((j : Int) + 1) = (s.at_ 0, ⟨0, 0, 0, 0, 0, 0⟩, 11) := by
  have ht : t ≠ 0 := by
    rcases hc.top with h | h
    · rw [h.2] at hf; have := congrArg List.length hf; rw [downs_length] at this; simp [flat] at this; omega
    · omega
  unfold Shop.give
  dsimp only
  rw [if_neg (by omega), if_neg (by omega), if_neg ht]
  rcases hl with hl | hl
  · subst hl
    rw [trunk0]
    dsimp only
    rw [if_pos (by decide)]
    rfl
  · subst hl
    cases c with
    | nil => exact absurd hc ht
    | cons a r =>
      obtain ⟨q, l⟩ := a
      obtain ⟨g1, g2, g3, next, g4, g5, g6⟩ := hc
      subst g1
      rw [trunk1 kd kb s g4 g5]
      dsimp only
      rw [if_neg (by decide)]
      obtain ⟨q1, q2, q3⟩ := encOk_parts.1 g4
      split
      · rw [lay0 kd kb s (encOk_parts.2 ⟨q1, by simp; omega, fun z hz => by
          simp at hz
          rcases hz with hz | hz
          · exact q3 z hz
          · omega⟩)]
        unfold gaveOf
        dsimp only
        rw [if_pos (by decide)]
        rfl
      · rw [lay0 kd kb s (encOk_parts.2 ⟨Or.inr ⟨g2, g3⟩, by simp, by simp⟩)]
        unfold gaveOf
        dsimp only
        rw [if_pos (by decide)]
        rfl

/-- What Take answers at a desk without a call left. -/
theorem take_used0 {kd kb j : Nat} {p : Int} {s : Desk} {t : Int} {md : Int} (h1 : 1 ≤ j) : (deskShop kd kb).take (s.at_ 0) ⟨md, p, t, j, 0, 0⟩ = (s.at_ 0, 0, ⟨0, 0, 0, 0, 0, 0⟩, 11) := by
  unfold Shop.take
  dsimp only
  rw [if_neg (by omega), trunk0]
  dsimp only
  rw [if_pos (by decide)]
  rfl
/-- .. with one. -/
theorem take_used1 {kd kb j : Nat} {p : Int} {s : Desk} {t : Int} {c : List (Int × List Int)} {md : Int} (hc : Chain ((deskLive kd kb).look s) t c) (hf : flat c = downs (j + 1)) (hj : (j : Int) + 1 < p) :
    (deskShop kd kb).take (s.at_ 1) ⟨md, p, t, (j : Int) + 1, 0, 0⟩ = (s.at_ 0, 0, ⟨0, 0, 0, 0, 0, 0⟩, 11) ∨ ∃ t', (deskShop kd kb).take (s.at_ 1) ⟨md, p, t, (j : Int) + 1, 0, 0⟩ = (s.at_ 0, (j : Int) + 1, ⟨md, p, t', j, 0, 0⟩, 0) := by
  have hin : ∀ y ∈ flat c, 1 ≤ y ∧ y < p := by rw [hf]; intro y hy; rw [mem_downs] at hy; omega
  have hlen : (flat c).length = j + 1 := by rw [hf, downs_length]
  cases c with
  | nil => simp [flat, downs] at hf
  | cons a r =>
    obtain ⟨q, l⟩ := a
    obtain ⟨g1, g2, g3, next, g4, g5, g6⟩ := hc
    subst g1
    have hnx : next < p := by
      rcases g6.top with h7 | h7
      · have := hin t (by simp [flat]); omega
      · exact (hin next (by simp [flat, h7.2.2.1])).2
    have hl2 : (flat ((t, l) :: r)).length = l.length + 1 + (flat r).length := by simp [flat]; omega
    obtain ⟨q1, q2, q3⟩ := encOk_parts.1 g4
    unfold Shop.take
    dsimp only
    rw [if_neg (by omega), trunk1 kd kb s g4 g5]
    dsimp only
    rw [if_neg (by decide), if_neg (by omega)]
    rcases List.eq_nil_or_concat l with hl | ⟨l0, y, hl⟩
    · right
      subst hl
      rw [if_pos rfl]
      have e1 : ((next == 0) = ((j : Int) + 1 == 1)) := by
        rcases g6.top with h7 | h7
        · have : j = 0 := by
            have h10 : (flat r).length = 0 := by rw [h7.2]; rfl
            simp only [List.length_nil] at hl2
            omega
          simp [h7.1, this]
        · have h8 : (next == 0) = false := by simp; omega
          have h9 : ((j : Int) + 1 == 1) = false := by
            have : 0 < (flat r).length := List.length_pos_of_mem h7.2.2.1
            simp at hl2
            simp; omega
          rw [h8, h9]
      rw [if_pos e1]
      simp only [flat, List.reverse_nil, List.nil_append, downs, List.cons.injEq] at hf
      refine ⟨next, ?_⟩
      rw [hf.1]
      simp
    · left
      rw [List.concat_eq_append] at hl
      subst hl
      rw [if_neg (by simp)]
      have e2 : (l0 ++ [y]).getLastD 0 = y := by simp [List.getLastD_eq_getLast?]
      rw [e2, List.dropLast_concat]
      have hy := hin y (by simp [flat])
      rw [if_neg (by omega), if_neg (by simp at hl2; omega)]
      rw [lay0 kd kb s (encOk_parts.2 ⟨q1, by simp at q2; omega, fun z hz => q3 z (by simp [hz])⟩)]
      dsimp only
      rw [if_pos (by decide)]
      rfl
theorem at_ok2 {kd kb k : Nat} {s : Desk} (h : (deskLive kd kb).ok (k + 2) s) : (deskLive kd kb).ok 2 (s.at_ 2) :=
  ⟨h.1, by have := h.2.1; show s.N.length + 2 ≤ _; omega, Or.inr ⟨by show (0 : Int) ≤ 2; decide, by show ((2 : Nat) : Int) ≤ 2; decide, by show (2 : Int) < 1048577; decide⟩⟩
theorem at_fits {kd kb k : Nat} {s : Desk} (h : (deskLive kd kb).ok (k + 1) s) (left : Int) : (deskShop kd kb).fits (s.at_ left) := by
  show s.N.length < 1048576
  have := h.2.1
  omega
/-- d.left = left. -/
theorem Hold.left {kd kb B : Nat} {w0 w : World} {s : Desk} {F : Nat → Prop} (h : Hold (deskShop kd kb) B w0 w s F) (left : Int) : Hold (deskShop kd kb) B w0 (w.setCell ⟨kd, 1, none⟩ (.int .i64 left)) (s.at_ left) F := by
  obtain ⟨⟨h1, h2, h3⟩, h4, h5, h6⟩ := h
  exact ⟨⟨h1, blk_put h2 1 _ rfl, h3.setCell h2 (by decide) (by decide) (by decide) 1 _⟩, h4, h5.setCell (h4 kd h1) _, by simpa using h6⟩
theorem Hold.desk {kd kb B : Nat} {w0 w : World} {s : Desk} {F : Nat → Prop} (h : Hold (deskShop kd kb) B w0 w s F) : F kd ∧ w.heap[kd]? = some (.cells #[.pointer (some ⟨kb, 0, none⟩), .int .i64 s.left] 47 (0, 0)) := ⟨h.1.1, h.1.2.1⟩
end Go.Proofs.Ytonbipaajhokfaa
