/-
  Plain: over a store that answers, Take and Give are a stack of free pages.
-/
import Derived.Test.YtonbipaajhokfaaC0
import Derived.Test.YtonbipaajhokfaaB10
set_option linter.unusedVariables false
set_option linter.unusedSimpArgs false
namespace Go.Proofs.Ytonbipaajhokfaa
open Go.RowKit Go.Proofs.YtonbipaajhokfaaW.PrintWords Go.Proofs.YtonbipaajhokfaaW.PrintLast Go.Proofs.YtonbipaajhokfaaW.PrintMore
variable {St : Type}

/-- A store some of whose calls surely answer: k more calls in state s; what a page holds. -/
structure Live (S : Shop St) where
  ok : Nat → St → Prop
  look : St → Int → ByteArray
  mono : ∀ {k s}, ok (k + 1) s → ok k s
  fits : ∀ {k s}, ok (k + 1) s → S.fits s
  get : ∀ {k s} (n : Int), ok (k + 1) s → ∃ s', S.get s n = (s', look s n, 0) ∧ ok k s' ∧ look s' = look s
  put : ∀ {k s} (n : Int) (d : ByteArray), ok (k + 1) s → ∃ s', S.put s n d = (s', 0) ∧ ok k s' ∧ ∀ m, look s' m = if m = n then d else look s m

/-- A chain of trunks from t on. -/
def Chain (look : Int → ByteArray) : Int → List (Int × List Int) → Prop
  | t, [] => t = 0
  | t, (p, l) :: r => t = p ∧ 1 ≤ p ∧ p < 4096 ∧ ∃ next, encOk next l = true ∧ look p = bs (trunkPage next l) ∧ Chain look next r
/-- The free pages, top first. -/
def flat : List (Int × List Int) → List Int
  | [] => []
  | (p, l) :: r => l.reverse ++ p :: flat r

theorem Chain.keep {look look' : Int → ByteArray} {c : List (Int × List Int)} : ∀ {t : Int}, Chain look t c → (∀ x ∈ flat c, look' x = look x) → Chain look' t c := by
  induction c with
  | nil => intro t h _; exact h
  | cons a r ih =>
    obtain ⟨p, l⟩ := a
    rintro t ⟨h1, h2, h3, next, h4, h5, h6⟩ hx
    exact ⟨h1, h2, h3, next, h4, (hx p (by simp [flat])).trans h5, ih h6 (fun x hr => hx x (by simp [flat, hr]))⟩
theorem Chain.top {look : Int → ByteArray} {c : List (Int × List Int)} {t : Int} (h : Chain look t c) : t = 0 ∧ c = [] ∨ (1 ≤ t ∧ t < 4096 ∧ t ∈ flat c ∧ c ≠ []) := by
  cases c with
  | nil => exact Or.inl ⟨h, rfl⟩
  | cons a r =>
    obtain ⟨p, l⟩ := a
    obtain ⟨h1, h2, h3, -⟩ := h
    subst h1
    exact Or.inr ⟨h2, h3, by simp [flat], by simp⟩
theorem Chain.next {look : Int → ByteArray} {c : List (Int × List Int)} {t : Int} (h : Chain look t c) : t = 0 ∨ (1 ≤ t ∧ t < 4096) := by
  rcases h.top with h | h
  · exact Or.inl h.1
  · exact Or.inr ⟨h.1, h.2.1⟩

theorem Live.trunk {S : Shop St} (L : Live S) {k : Nat} {s : St} (h : L.ok (k + 1) s) {t next : Int} {l : List Int} (he : encOk next l = true) (hl : L.look s t = bs (trunkPage next l)) :
    ∃ s', S.trunk s t = (s', next, l, 0) ∧ L.ok k s' ∧ L.look s' = L.look s := by
  obtain ⟨s', h1, h2, h3⟩ := L.get t h
  obtain ⟨d1, d2, d3⟩ := dec_page he
  refine ⟨s', ?_, h2, h3⟩
  unfold Shop.trunk
  rw [h1, hl]
  dsimp only
  rw [bs_list, d1, d2, d3, if_neg (by decide), if_neg (by decide)]
theorem Live.lay {S : Shop St} (L : Live S) {k : Nat} {s : St} (h : L.ok (k + 1) s) {t next : Int} {l : List Int} (he : encOk next l = true) :
    ∃ s', S.lay s t next l = (s', 0) ∧ L.ok k s' ∧ ∀ m, L.look s' m = if m = t then bs (trunkPage next l) else L.look s m := by
  obtain ⟨s', h1, h2, h3⟩ := L.put t (bs (trunkPage next l)) h
  refine ⟨s', ?_, h2, h3⟩
  unfold Shop.lay
  rw [if_pos he, h1]

theorem take_none (S : Shop St) (s : St) (h : Hd) (h0 : h.spare = 0) (hp : h.pages < 4096) : S.take s h = (s, h.pages, { h with pages := h.pages + 1 }, 0) := by
  unfold Shop.take
  rw [if_pos h0, if_neg (by omega)]

/-- Take: the top of the stack. -/
theorem Live.take {S : Shop St} (L : Live S) {k : Nat} {s : St} (h : L.ok (k + 2) s) {hd : Hd} {c : List (Int × List Int)} {x : Int} {st : List Int} (hc : Chain (L.look s) hd.trunk c) (hf : flat c = x :: st)
    (hsp : hd.spare = (flat c).length) (hin : ∀ y ∈ flat c, 1 ≤ y ∧ y < hd.pages) (hnd : (flat c).Nodup) :
    ∃ s' t' c', S.take s hd = (s', x, { hd with trunk := t', spare := hd.spare - 1 }, 0) ∧ Chain (L.look s') t' c' ∧ flat c' = st ∧ L.ok k s' := by
  cases c with
  | nil => simp [flat] at hf
  | cons a r =>
    obtain ⟨p, l⟩ := a
    obtain ⟨h1, h2, h3, next, h4, h5, h6⟩ := hc
    obtain ⟨m, pg, t, sp, rt, ch⟩ := hd
    dsimp only at h1 hsp hin ⊢
    subst h1
    have hlen : (flat ((t, l) :: r)).length = l.length + 1 + (flat r).length := by simp [flat]; omega
    have hsp0 : sp ≠ 0 := by omega
    obtain ⟨s1, ht, hk1, hl1⟩ := L.trunk h h4 h5
    have hnx : next < pg := by
      rcases h6.top with h7 | h7
      · have := hin t (by simp [flat]); omega
      · exact (hin next (by simp [flat, h7.2.2.1])).2
    unfold Shop.take
    dsimp only
    rw [if_neg hsp0, ht]
    dsimp only
    rw [if_neg (by decide), if_neg (by omega)]
    rcases List.eq_nil_or_concat l with hl | ⟨l0, y, hl⟩
    · subst hl
      rw [if_pos rfl]
      have e1 : ((next == 0) = (sp == 1)) := by
        rcases h6.top with h7 | h7
        · have : sp = 1 := by rw [hsp, hlen, h7.2]; rfl
          simp [h7.1, this]
        · have h8 : (next == 0) = false := by simp; omega
          have h9 : (sp == 1) = false := by
            have : 0 < (flat r).length := List.length_pos_of_mem h7.2.2.1
            simp; rw [hsp, hlen]; simp; omega
          rw [h8, h9]
      rw [if_pos e1]
      simp only [flat, List.reverse_nil, List.nil_append, List.cons.injEq] at hf
      refine ⟨s1, next, r, ?_, ?_, hf.2, L.mono hk1⟩
      · rw [← hf.1]
      · rw [hl1]; exact h6
    · rw [List.concat_eq_append] at hl
      subst hl
      rw [if_neg (by simp)]
      have e2 : (l0 ++ [y]).getLastD 0 = y := by simp [List.getLastD_eq_getLast?]
      rw [e2, List.dropLast_concat]
      have hy := hin y (by simp [flat])
      have hf2 : flat ((t, l0) :: r) = st ∧ y = x := by
        simp only [flat, List.reverse_append, List.reverse_cons, List.reverse_nil, List.nil_append, List.singleton_append, List.cons_append, List.cons.injEq] at hf ⊢
        exact ⟨hf.2, hf.1⟩
      rw [if_neg (by omega), if_neg (by rw [hsp, hlen]; simp; omega)]
      obtain ⟨g1, g2, g3⟩ := encOk_parts.1 h4
      have he0 : encOk next l0 = true := encOk_parts.2 ⟨g1, by simp at g2; omega, fun z hz => g3 z (by simp [hz])⟩
      obtain ⟨s2, hy2, hk2, hl2⟩ := L.lay (t := t) hk1 he0
      rw [hy2]
      dsimp only
      rw [if_neg (by decide)]
      refine ⟨s2, t, (t, l0) :: r, ?_, ⟨rfl, h2, h3, next, he0, by rw [hl2, if_pos rfl], ?_⟩, hf2.1, hk2⟩
      · rw [hf2.2]
      · refine h6.keep (fun z hz => ?_)
        rw [hl2, hl1, if_neg]
        intro e
        subst e
        simp only [flat, List.nodup_append, List.nodup_cons] at hnd
        exact hnd.2.1.1 hz

/-- Give: onto the stack. -/
theorem Live.give {S : Shop St} (L : Live S) {k : Nat} {s : St} (h : L.ok (k + 2) s) {hd : Hd} {c : List (Int × List Int)} {n : Int} (hc : Chain (L.look s) hd.trunk c)
    (hsp : hd.spare = (flat c).length) (hn : 1 ≤ n) (hp : n < hd.pages) (hp1 : hd.pages ≤ 4096) (hs : hd.spare < hd.pages - 1) (hin : n ∉ flat c) (hnd : (flat c).Nodup) :
    ∃ s' t' c', S.give s hd n = (s', { hd with trunk := t', spare := hd.spare + 1 }, 0) ∧ Chain (L.look s') t' c' ∧ flat c' = n :: flat c ∧ L.ok k s' := by
  obtain ⟨m, pg, t, sp, rt, ch⟩ := hd
  dsimp only at hsp hp hp1 hs hc ⊢
  unfold Shop.give
  dsimp only
  rw [if_neg (by omega), if_neg (by omega)]
  rcases hc.top with h7 | h7
  · rw [if_pos h7.1]
    obtain ⟨s2, hy2, hk2, hl2⟩ := L.lay (t := n) (next := t) (l := []) h (encOk_parts.2 ⟨Or.inl h7.1, by simp, by simp⟩)
    rw [hy2]
    unfold gaveOf
    dsimp only
    rw [if_neg (by decide)]
    refine ⟨s2, n, [(n, [])], rfl, ⟨rfl, hn, by omega, t, encOk_parts.2 ⟨Or.inl h7.1, by simp, by simp⟩, by rw [hl2, if_pos rfl], h7.1⟩, ?_, L.mono hk2⟩
    rw [h7.2]; rfl
  · rw [if_neg (by omega)]
    cases c with
    | nil => exact absurd rfl h7.2.2.2
    | cons a r =>
      obtain ⟨p, l⟩ := a
      obtain ⟨h1, h2, h3, next, h4, h5, h6⟩ := hc
      subst h1
      obtain ⟨s1, ht, hk1, hl1⟩ := L.trunk h h4 h5
      obtain ⟨g1, g2, g3⟩ := encOk_parts.1 h4
      rw [ht]
      dsimp only
      rw [if_neg (by decide)]
      have hnt : n ≠ t := fun e => hin (by simp [flat, e])
      by_cases h50 : l.length < 50
      · rw [if_pos h50]
        have he0 : encOk next (l ++ [n]) = true := encOk_parts.2 ⟨g1, by simp; omega, fun z hz => by
          simp at hz
          rcases hz with hz | hz
          · exact g3 z hz
          · omega⟩
        obtain ⟨s2, hy2, hk2, hl2⟩ := L.lay (t := t) hk1 he0
        rw [hy2]
        unfold gaveOf
        dsimp only
        rw [if_neg (by decide)]
        refine ⟨s2, t, (t, l ++ [n]) :: r, rfl, ⟨rfl, h2, h3, next, he0, by rw [hl2, if_pos rfl], ?_⟩, by simp [flat], hk2⟩
        refine h6.keep (fun z hz => ?_)
        rw [hl2, hl1, if_neg]
        intro e
        subst e
        simp only [flat, List.nodup_append, List.nodup_cons] at hnd
        exact hnd.2.1.1 hz
      · rw [if_neg h50]
        have he0 : encOk t [] = true := encOk_parts.2 ⟨Or.inr ⟨h2, h3⟩, by simp, by simp⟩
        obtain ⟨s2, hy2, hk2, hl2⟩ := L.lay (t := n) hk1 he0
        rw [hy2]
        unfold gaveOf
        dsimp only
        rw [if_neg (by decide)]
        refine ⟨s2, n, (n, []) :: (t, l) :: r, rfl, ⟨rfl, hn, by omega, t, he0, by rw [hl2, if_pos rfl], ?_⟩, by simp [flat], hk2⟩
        have hc' : Chain (L.look s) t ((t, l) :: r) := ⟨rfl, h2, h3, next, h4, h5, h6⟩
        refine hc'.keep (fun z hz => ?_)
        rw [hl2, hl1, if_neg]
        intro e
        subst e
        exact hin hz
end Go.Proofs.Ytonbipaajhokfaa
