/-
  Plain: a trunk's page is read as it was laid.
-/
import Derived.Test.YtonbipaajhokfaaA5
import Derived.Test.YtonbipaajhokfaaKD
set_option linter.unusedVariables false
set_option linter.unusedSimpArgs false
namespace Go.Proofs.Ytonbipaajhokfaa
open Go.RowKit Go.Proofs.YtonbipaajhokfaaW.PrintWords Go.Proofs.YtonbipaajhokfaaW.PrintLast Go.Proofs.YtonbipaajhokfaaW.PrintMore

theorem by8_nat (n : Int) : ((by8 n).toNat : Int) = n % 256 := by
  unfold by8
  rw [UInt8.toNat_ofNat']
  omega
theorem beV_be4 (n : Int) (h0 : 0 ≤ n) (h1 : n < 4294967296) : beV (be4 n) = n := by
  unfold beV be4
  simp only [List.foldl_cons, List.foldl_nil, by8_nat]
  omega
theorem encOk_parts {next : Int} {l : List Int} : encOk next l = true ↔ (next = 0 ∨ (1 ≤ next ∧ next < 4096)) ∧ l.length ≤ 50 ∧ ∀ x ∈ l, 1 ≤ x ∧ x < 4096 := by
  unfold encOk oddB
  simp only [Bool.and_eq_true, Bool.or_eq_true, beq_iff_eq, Bool.not_eq_true', decide_eq_true_eq, Bool.or_eq_false_iff, decide_eq_false_iff_not, List.any_eq_false, not_or]
  constructor
  · rintro ⟨⟨h1, h2⟩, h3⟩
    exact ⟨by omega, h2, fun x hx => by have := h3 x hx; omega⟩
  · rintro ⟨h1, h2, h3⟩
    exact ⟨⟨by omega, h2⟩, fun x hx => by have := h3 x hx; omega⟩
theorem trunkPage_length (next : Int) (l : List Int) (h : l.length ≤ 50) : (trunkPage next l).length = 232 := by
  rw [trunk_tail next l h]
  simp only [List.length_append, be4s_length, trunkHead, List.length_cons, be4_length, List.length_replicate, List.length_nil]
  omega
theorem be4s_at (l : List Int) (z : List UInt8) (i : Nat) (h : i < l.length) : ((be4s l ++ z).drop (4 * i)).take 4 = be4 (l.getD i 0) := by
  induction l generalizing i with
  | nil => simp at h
  | cons x r ih =>
    have e : be4s (x :: r) ++ z = be4 x ++ (be4s r ++ z) := by simp [be4s, List.append_assoc]
    rw [e]
    cases i with
    | zero => rw [Nat.mul_zero, List.drop_zero, List.take_left' (be4_length x)]; rfl
    | succ i =>
      have e2 : 4 * (i + 1) = (be4 x).length + 4 * i := by rw [be4_length]; omega
      rw [e2, ← List.drop_drop, List.drop_left, ih i (by simpa using h)]
      rfl
theorem decN_page (next : Int) (l : List Int) (h0 : 0 ≤ next) (h1 : next < 4096) (h : l.length ≤ 50) : decN (trunkPage next l) = next := by
  unfold decN rd4
  rw [trunk_tail next l h]
  have : ((trunkHead next l.length ++ be4s l ++ List.replicate (226 - 4 * l.length) 0).drop 1).take 4 = be4 next := by
    unfold trunkHead
    simp only [List.cons_append, List.drop_succ_cons, List.drop_zero, List.append_assoc]
    exact List.take_left' (be4_length next)
  rw [this, beV_be4 next h0 (by omega)]
theorem decC_page (next : Int) (l : List Int) (h : l.length ≤ 50) : decC (trunkPage next l) = l.length := by
  unfold decC
  rw [trunk_tail next l h]
  have e : (trunkHead next l.length ++ be4s l ++ List.replicate (226 - 4 * l.length) 0).getD 5 0 = by8 (l.length : Int) := by
    unfold trunkHead be4
    simp [List.getD_eq_getElem?_getD]
  rw [e]
  have := by8_nat (l.length : Int)
  omega
theorem decL_page (next : Int) (l : List Int) (h : l.length ≤ 50) (hl : ∀ x ∈ l, 1 ≤ x ∧ x < 4096) : decL (trunkPage next l) = l := by
  unfold decL
  rw [decC_page next l h]
  apply List.ext_getElem
  · simp
  · intro i h1 h2
    simp only [List.getElem_map, List.getElem_range]
    unfold rd4
    rw [trunk_tail next l h, List.append_assoc]
    have e2 : 6 + 4 * i = (trunkHead next l.length).length + 4 * i := by simp [trunkHead, be4_length]
    rw [e2, ← List.drop_drop, List.drop_left, be4s_at l _ i h2]
    have hx : l.getD i 0 = l[i] := by simp [List.getD_eq_getElem?_getD, List.getElem?_eq_getElem h2]
    have := hl l[i] (List.getElem_mem h2)
    rw [hx, beV_be4 _ (by omega) (by omega)]
theorem decOk_page {next : Int} {l : List Int} (h : encOk next l = true) : decOk (trunkPage next l) = true := by
  obtain ⟨h1, h2, h3⟩ := encOk_parts.1 h
  unfold decOk
  rw [decN_page next l (by omega) (by omega) h2, decL_page next l h2 h3, h]
  simp
theorem dec_page {next : Int} {l : List Int} (h : encOk next l = true) : decN1 (trunkPage next l) = next ∧ decL1 (trunkPage next l) = l ∧ decE1 (trunkPage next l) = 0 := by
  obtain ⟨h1, h2, h3⟩ := encOk_parts.1 h
  unfold decN1 decL1 decE1
  rw [if_pos ⟨trunkPage_length next l h2, decOk_page h⟩, if_pos ⟨trunkPage_length next l h2, decOk_page h⟩, if_pos (trunkPage_length next l h2), if_pos (decOk_page h)]
  exact ⟨decN_page next l (by omega) (by omega) h2, decL_page next l h2 h3, rfl⟩
end Go.Proofs.Ytonbipaajhokfaa
/-
  Plain: over a store that answers, Take and Give are a stack of free pages.
-/
set_option linter.unusedVariables false
set_option linter.unusedSimpArgs false
namespace Go.Proofs.Ytonbipaajhokfaa
open Go.RowKit Go.Proofs.YtonbipaajhokfaaW.PrintWords Go.Proofs.YtonbipaajhokfaaW.PrintLast Go.Proofs.YtonbipaajhokfaaW.PrintMore
variable {St : Type}

/-- A store some of whose calls surely answer: k more calls in state s; what a page holds. -/
structure Live (S : Shop St) where
  ok : Nat → St → Prop
  look : St → Int → ByteArray
  mono : ∀ {k s}, ok (k + 1) s → ok k s
  fits : ∀ {k s}, ok (k + 1) s → S.fits s
  get : ∀ {k s} (n : Int), ok (k + 1) s → ∃ s', S.get s n = (s', look s n, 0) ∧ ok k s' ∧ look s' = look s
  put : ∀ {k s} (n : Int) (d : ByteArray), ok (k + 1) s → ∃ s', S.put s n d = (s', 0) ∧ ok k s' ∧ ∀ m, look s' m = if m = n then d else look s m

/-- A chain of trunks from t on. -/
def Chain (look : Int → ByteArray) : Int → List (Int × List Int) → Prop
  | t, [] => t = 0
  | t, (p, l) :: r => t = p ∧ 1 ≤ p ∧ p < 4096 ∧ ∃ next, encOk next l = true ∧ look p = bs (trunkPage next l) ∧ Chain look next r
/-- The free pages, top first. -/
def flat : List (Int × List Int) → List Int
  | [] => []
  | (p, l) :: r => l.reverse ++ p :: flat r

theorem Chain.keep {look look' : Int → ByteArray} {c : List (Int × List Int)} : ∀ {t : Int}, Chain look t c → (∀ x ∈ flat c, look' x = look x) → Chain look' t c := by
  induction c with
  | nil => intro t h _; exact h
  | cons a r ih =>
    obtain ⟨p, l⟩ := a
    rintro t ⟨h1, h2, h3, next, h4, h5, h6⟩ hx
    exact ⟨h1, h2, h3, next, h4, (hx p (by simp [flat])).trans h5, ih h6 (fun x hr => hx x (by simp [flat, hr]))⟩
theorem Chain.top {look : Int → ByteArray} {c : List (Int × List Int)} {t : Int} (h : Chain look t c) : t = 0 ∧ c = [] ∨ (1 ≤ t ∧ t < 4096 ∧ t ∈ flat c ∧ c ≠ []) := by
  cases c with
  | nil => exact Or.inl ⟨h, rfl⟩
  | cons a r =>
    obtain ⟨p, l⟩ := a
    obtain ⟨h1, h2, h3, -⟩ := h
    subst h1
    exact Or.inr ⟨h2, h3, by simp [flat], by simp⟩
theorem Chain.next {look : Int → ByteArray} {c : List (Int × List Int)} {t : Int} (h : Chain look t c) : t = 0 ∨ (1 ≤ t ∧ t < 4096) := by
  rcases h.top with h | h
  · exact Or.inl h.1
  · exact Or.inr ⟨h.1, h.2.1⟩

theorem Live.trunk {S : Shop St} (L : Live S) {k : Nat} {s : St} (h : L.ok (k + 1) s) {t next : Int} {l : List Int} (he : encOk next l = true) (hl : L.look s t = bs (trunkPage next l)) :
    ∃ s', S.trunk s t = (s', next, l, 0) ∧ L.ok k s' ∧ L.look s' = L.look s := by
  obtain ⟨s', h1, h2, h3⟩ := L.get t h
  obtain ⟨d1, d2, d3⟩ := dec_page he
  refine ⟨s', ?_, h2, h3⟩
  unfold Shop.trunk
  rw [h1, hl]
  dsimp only
  rw [bs_list, d1, d2, d3, if_neg (by decide), if_neg (by decide)]
theorem Live.lay {S : Shop St} (L : Live S) {k : Nat} {s : St} (h : L.ok (k + 1) s) {t next : Int} {l : List Int} (he : encOk next l = true) :
    ∃ s', S.lay s t next l = (s', 0) ∧ L.ok k s' ∧ ∀ m, L.look s' m = if m = t then bs (trunkPage next l) else L.look s m := by
  obtain ⟨s', h1, h2, h3⟩ := L.put t (bs (trunkPage next l)) h
  refine ⟨s', ?_, h2, h3⟩
  unfold Shop.lay
  rw [if_pos he, h1]

theorem take_none (S : Shop St) (s : St) (h : Hd) (h0 : h.spare = 0) (hp : h.pages < 4096) : S.take s h = (s, h.pages, { h with pages := h.pages + 1 }, 0) := by
  unfold Shop.take
  rw [if_pos h0, if_neg (by omega)]

/-- Take: the top of the stack. -/
theorem Live.take {S : Shop St} (L : Live S) {k : Nat} {s : St} (h : L.ok (k + 2) s) {hd : Hd} {c : List (Int × List Int)} {x : Int} {st : List Int} (hc : Chain (L.look s) hd.trunk c) (hf : flat c = x :: st)
    (hsp : hd.spare = (flat c).length) (hin : ∀ y ∈ flat c, 1 ≤ y ∧ y < hd.pages) (hnd : (flat c).Nodup) :
    ∃ s' t' c', S.take s hd = (s', x, { hd with trunk := t', spare := hd.spare - 1 }, 0) ∧ Chain (L.look s') t' c' ∧ flat c' = st ∧ L.ok k s' := by
  cases c with
  | nil => simp [flat] at hf
  | cons a r =>
    obtain ⟨p, l⟩ := a
    obtain ⟨h1, h2, h3, next, h4, h5, h6⟩ := hc
    obtain ⟨m, pg, t, sp, rt, ch⟩ := hd
    dsimp only at h1 hsp hin ⊢
    subst h1
    have hlen : (flat ((t, l) :: r)).length = l.length + 1 + (flat r).length := by simp [flat]; omega
    have hsp0 : sp ≠ 0 := by omega
    obtain ⟨s1, ht, hk1, hl1⟩ := L.trunk h h4 h5
    have hnx : next < pg := by
      rcases h6.top with h7 | h7
      · have := hin t (by simp [flat]); omega
      · exact (hin next (by simp [flat, h7.2.2.1])).2
    unfold Shop.take
    dsimp only
    rw [if_neg hsp0, ht]
    dsimp only
    rw [if_neg (by decide), if_neg (by omega)]
    rcases List.eq_nil_or_concat l with hl | ⟨l0, y, hl⟩
    · subst hl
      rw [if_pos rfl]
      have e1 : ((next == 0) = (sp == 1)) := by
        rcases h6.top with h7 | h7
        · have : sp = 1 := by rw [hsp, hlen, h7.2]; rfl
          simp [h7.1, this]
        · have h8 : (next == 0) = false := by simp; omega
          have h9 : (sp == 1) = false := by
            have : 0 < (flat r).length := List.length_pos_of_mem h7.2.2.1
            simp; rw [hsp, hlen]; simp; omega
          rw [h8, h9]
      rw [if_pos e1]
      simp only [flat, List.reverse_nil, List.nil_append, List.cons.injEq] at hf
      refine ⟨s1, next, r, ?_, ?_, hf.2, L.mono hk1⟩
      · rw [← hf.1]
      · rw [hl1]; exact h6
    · rw [List.concat_eq_append] at hl
      subst hl
      rw [if_neg (by simp)]
      have e2 : (l0 ++ [y]).getLastD 0 = y := by simp [List.getLastD_eq_getLast?]
      rw [e2, List.dropLast_concat]
      have hy := hin y (by simp [flat])
      have hf2 : flat ((t, l0) :: r) = st ∧ y = x := by
        simp only [flat, List.reverse_append, List.reverse_cons, List.reverse_nil, List.nil_append, List.singleton_append, List.cons_append, List.cons.injEq] at hf ⊢
        exact ⟨hf.2, hf.1⟩
      rw [if_neg (by omega), if_neg (by rw [hsp, hlen]; simp; omega)]
      obtain ⟨g1, g2, g3⟩ := encOk_parts.1 h4
      have he0 : encOk next l0 = true := encOk_parts.2 ⟨g1, by simp at g2; omega, fun z hz => g3 z (by simp [hz])⟩
      obtain ⟨s2, hy2, hk2, hl2⟩ := L.lay (t := t) hk1 he0
      rw [hy2]
      dsimp only
      rw [if_neg (by decide)]
      refine ⟨s2, t, (t, l0) :: r, ?_, ⟨rfl, h2, h3, next, he0, by rw [hl2, if_pos rfl], ?_⟩, hf2.1, hk2⟩
      · rw [hf2.2]
      · refine h6.keep (fun z hz => ?_)
        rw [hl2, hl1, if_neg]
        intro e
        subst e
        simp only [flat, List.nodup_append, List.nodup_cons] at hnd
        exact hnd.2.1.1 hz

/-- Give: onto the stack. -/
theorem Live.give {S : Shop St} (L : Live S) {k : Nat} {s : St} (h : L.ok (k + 2) s) {hd : Hd} {c : List (Int × List Int)} {n : Int} (hc : Chain (L.look s) hd.trunk c)
    (hsp : hd.spare = (flat c).length) (hn : 1 ≤ n) (hp : n < hd.pages) (hp1 : hd.pages ≤ 4096) (hs : hd.spare < hd.pages - 1) (hin : n ∉ flat c) (hnd : (flat c).Nodup) :
    ∃ s' t' c', S.give s hd n = (s', { hd with trunk := t', spare := hd.spare + 1 }, 0) ∧ Chain (L.look s') t' c' ∧ flat c' = n :: flat c ∧ L.ok k s' := by
  obtain ⟨m, pg, t, sp, rt, ch⟩ := hd
  dsimp only at hsp hp hp1 hs hc ⊢
  unfold Shop.give
  dsimp only
  rw [if_neg (by omega), if_neg (by omega)]
  rcases hc.top with h7 | h7
  · rw [if_pos h7.1]
    obtain ⟨s2, hy2, hk2, hl2⟩ := L.lay (t := n) (next := t) (l := []) h (encOk_parts.2 ⟨Or.inl h7.1, by simp, by simp⟩)
    rw [hy2]
    unfold gaveOf
    dsimp only
    rw [if_neg (by decide)]
    refine ⟨s2, n, [(n, [])], rfl, ⟨rfl, hn, by omega, t, encOk_parts.2 ⟨Or.inl h7.1, by simp, by simp⟩, by rw [hl2, if_pos rfl], h7.1⟩, ?_, L.mono hk2⟩
    rw [h7.2]; rfl
  · rw [if_neg (by omega)]
    cases c with
    | nil => exact absurd rfl h7.2.2.2
    | cons a r =>
      obtain ⟨p, l⟩ := a
      obtain ⟨h1, h2, h3, next, h4, h5, h6⟩ := hc
      subst h1
      obtain ⟨s1, ht, hk1, hl1⟩ := L.trunk h h4 h5
      obtain ⟨g1, g2, g3⟩ := encOk_parts.1 h4
      rw [ht]
      dsimp only
      rw [if_neg (by decide)]
      have hnt : n ≠ t := fun e => hin (by simp [flat, e])
      by_cases h50 : l.length < 50
      · rw [if_pos h50]
        have he0 : encOk next (l ++ [n]) = true := encOk_parts.2 ⟨g1, by simp; omega, fun z hz => by
          simp at hz
          rcases hz with hz | hz
          · exact g3 z hz
          · omega⟩
        obtain ⟨s2, hy2, hk2, hl2⟩ := L.lay (t := t) hk1 he0
        rw [hy2]
        unfold gaveOf
        dsimp only
        rw [if_neg (by decide)]
        refine ⟨s2, t, (t, l ++ [n]) :: r, rfl, ⟨rfl, h2, h3, next, he0, by rw [hl2, if_pos rfl], ?_⟩, by simp [flat], hk2⟩
        refine h6.keep (fun z hz => ?_)
        rw [hl2, hl1, if_neg]
        intro e
        subst e
        simp only [flat, List.nodup_append, List.nodup_cons] at hnd
        exact hnd.2.1.1 hz
      · rw [if_neg h50]
        have he0 : encOk t [] = true := encOk_parts.2 ⟨Or.inr ⟨h2, h3⟩, by simp, by simp⟩
        obtain ⟨s2, hy2, hk2, hl2⟩ := L.lay (t := n) hk1 he0
        rw [hy2]
        unfold gaveOf
        dsimp only
        rw [if_neg (by decide)]
        refine ⟨s2, n, (n, []) :: (t, l) :: r, rfl, ⟨rfl, hn, by omega, t, he0, by rw [hl2, if_pos rfl], ?_⟩, by simp [flat], hk2⟩
        have hc' : Chain (L.look s) t ((t, l) :: r) := ⟨rfl, h2, h3, next, h4, h5, h6⟩
        refine hc'.keep (fun z hz => ?_)
        rw [hl2, hl1, if_neg]
        intro e
        subst e
        exact hin hz
end Go.Proofs.Ytonbipaajhokfaa
/-
  A desk as a store; its laws; fresh.
-/
set_option linter.unusedVariables false
set_option linter.unusedSimpArgs false
namespace Go.Proofs.Ytonbipaajhokfaa
open Go.RowKit Go.Proofs.YtonbipaajhokfaaW.PrintWords Go.Proofs.YtonbipaajhokfaaW.PrintLast Go.Proofs.YtonbipaajhokfaaW.PrintMore

def deskShop (kd kb : Nat) : Shop Desk where
  T := 38
  x := .pointer (some ⟨kd, 0, none⟩)
  fg := 80
  fp := 81
  mg := fun w => by kernel_rfl
  mp := fun w => by kernel_rfl
  eg := fun args w => by kernel_rfl
  ep := fun args w => by kernel_rfl
  At := DeskAt kd kb
  keep := fun h hk hs => h.keep hk hs
  bound := fun h => h.bound
  fits := fun s => s.N.length < 1048576
  get := Desk.get
  put := Desk.put
  fits_get := fun n h => by unfold Desk.get; split <;> exact h
  cg := fun n h => deskGet_calls _ _ _ _ n _ h
  cp := fun n d h hf => deskPut_calls _ _ _ _ n d _ h hf

theorem firstAt_spec {p : Int → Bool} {l : List Int} (h : 0 ≤ firstAt p l) : p (l.getD (firstAt p l).toNat 0) = true ∧ ∀ j, j < (firstAt p l).toNat → p (l.getD j 0) = false := by
  induction l with
  | nil => simp [firstAt] at h
  | cons x r ih =>
    unfold firstAt at h ⊢
    by_cases hx : p x = true
    · rw [if_pos hx] at h ⊢
      exact ⟨by simpa using hx, fun j hj => by simp at hj⟩
    · rw [if_neg hx] at h ⊢
      have hr := (firstAt_range p r).1
      by_cases h1 : firstAt p r = -1
      · rw [if_pos h1] at h; omega
      · rw [if_neg h1] at h ⊢
        obtain ⟨h2, h3⟩ := ih (by omega)
        have e : (firstAt p r + 1).toNat = (firstAt p r).toNat + 1 := by omega
        rw [e]
        refine ⟨by simpa using h2, fun j hj => ?_⟩
        cases j with
        | zero => simpa using hx
        | succ j => simpa using h3 j (by omega)
theorem firstAt_neg {p : Int → Bool} {l : List Int} (h : firstAt p l < 0) : ∀ j, j < l.length → p (l.getD j 0) = false := by
  induction l with
  | nil => intro j hj; simp at hj
  | cons x r ih =>
    unfold firstAt at h
    by_cases hx : p x = true
    · rw [if_pos hx] at h; omega
    · rw [if_neg hx] at h
      have hr := (firstAt_range p r).1
      by_cases h1 : firstAt p r = -1
      · intro j hj
        cases j with
        | zero => simpa using hx
        | succ j => simpa using ih (by omega) j (by simpa using hj)
      · rw [if_neg h1] at h; omega
theorem placeOf_app_no {N : List Int} {n : Int} (h : placeOf N n < 0) : placeOf (N ++ [n]) n = N.length := by
  unfold placeOf at h ⊢
  have h1 := firstAt_neg h
  refine firstAt_at (k := N.length) (by simp) (fun j hj => ?_) (by simp [eqB, List.getD_eq_getElem?_getD])
  have := h1 j hj
  rwa [List.getD_eq_getElem?_getD, List.getElem?_append_left hj, ← List.getD_eq_getElem?_getD]
theorem placeOf_app_ne {N : List Int} {n m : Int} (hne : m ≠ n) : placeOf (N ++ [n]) m = placeOf N m := by
  unfold placeOf
  by_cases h : firstAt (eqB m) N < 0
  · have h1 := firstAt_neg h
    have h2 := (firstAt_range (eqB m) N).1
    rw [firstAt_no (l := N ++ [n]) (fun j hj => ?_)]
    · omega
    · by_cases hj2 : j < N.length
      · have := h1 j hj2
        rwa [List.getD_eq_getElem?_getD, List.getElem?_append_left hj2, ← List.getD_eq_getElem?_getD]
      · have : j = N.length := by simp at hj; omega
        subst this
        simp [eqB, List.getD_eq_getElem?_getD, Ne.symm hne]
  · have h1 := firstAt_spec (p := eqB m) (l := N) (by omega)
    have h2 := (firstAt_range (eqB m) N).2
    have h3 : ∀ j, j < (firstAt (eqB m) N).toNat → eqB m ((N ++ [n]).getD j 0) = false := fun j hj => by
      have := h1.2 j hj
      rwa [List.getD_eq_getElem?_getD, List.getElem?_append_left (by omega), ← List.getD_eq_getElem?_getD]
    have h4 : eqB m ((N ++ [n]).getD (firstAt (eqB m) N).toNat 0) = true := by
      have := h1.1
      rwa [List.getD_eq_getElem?_getD, List.getElem?_append_left (by omega), ← List.getD_eq_getElem?_getD]
    rw [firstAt_at (l := N ++ [n]) (k := (firstAt (eqB m) N).toNat) (by simp; omega) h3 h4]
    omega
theorem placeOf_inj {N : List Int} {n m : Int} (h : 0 ≤ placeOf N n) (e : placeOf N m = placeOf N n) : m = n := by
  have h1 := (firstAt_spec (p := eqB n) (l := N) h).1
  have h2 := (firstAt_spec (p := eqB m) (l := N) (by unfold placeOf at e h; omega)).1
  unfold placeOf at e
  rw [e] at h2
  simp only [eqB, decide_eq_true_eq] at h1 h2
  omega
theorem getB_put {N : List Int} {D : List ByteArray} (hl : N.length = D.length) (n : Int) (d : ByteArray) (m : Int) : getB (putN N n) (putD N D n d) m = if m = n then d else getB N D m := by
  unfold getB putN putD
  by_cases h : placeOf N n < 0
  · rw [if_pos h, if_pos h]
    by_cases e : m = n
    · subst e
      rw [if_pos rfl, placeOf_app_no h, if_neg (by omega)]
      simp [hl, List.getD_eq_getElem?_getD]
    · rw [if_neg e, placeOf_app_ne e]
      by_cases h2 : placeOf N m < 0
      · rw [if_pos h2, if_pos h2]
      · rw [if_neg h2, if_neg h2]
        have := (firstAt_range (eqB m) N).2
        unfold placeOf at h2 ⊢
        rw [List.getD_eq_getElem?_getD, List.getElem?_append_left (by omega), ← List.getD_eq_getElem?_getD]
  · rw [if_neg h, if_neg h]
    have hr := (firstAt_range (eqB n) N).2
    by_cases e : m = n
    · subst e
      rw [if_pos rfl, if_neg h]
      unfold placeOf at h ⊢
      have hlt : (firstAt (eqB m) N).toNat < D.length := by omega
      rw [List.getD_eq_getElem?_getD, List.getElem?_set]
      simp [hlt]
    · rw [if_neg e]
      by_cases h2 : placeOf N m < 0
      · rw [if_pos h2, if_pos h2]
      · rw [if_neg h2, if_neg h2]
        have hne : (placeOf N n).toNat ≠ (placeOf N m).toNat := fun e2 => e (placeOf_inj (N := N) (n := n) (by omega) (by omega))
        rw [List.getD_eq_getElem?_getD, List.getElem?_set_ne hne, ← List.getD_eq_getElem?_getD]
theorem put_length {N : List Int} {D : List ByteArray} (hl : N.length = D.length) (n : Int) (d : ByteArray) : (putN N n).length = (putD N D n d).length ∧ (putN N n).length ≤ N.length + 1 := by
  unfold putN putD
  split <;> simp [hl]

def deskLive (kd kb : Nat) : Live (deskShop kd kb) where
  ok := fun k s => s.N.length = s.D.length ∧ s.N.length + k ≤ 1048576 ∧ (s.left < 0 ∧ k < 1048577 ∧ -9000000000000000000 + (k : Int) ≤ s.left ∨ 0 ≤ s.left ∧ (k : Int) ≤ s.left ∧ s.left < 1048577)
  look := fun s n => getB s.N s.D n
  mono := fun {k s} h => ⟨h.1, by have := h.2.1; omega, by have := h.2.2; omega⟩
  fits := fun {k s} h => by show s.N.length < 1048576; have := h.2.1; omega
  get := fun {k s} n h => by
    refine ⟨{ s with left := s.left - 1 }, ?_, ⟨h.1, by have := h.2.1; show s.N.length + k ≤ _; omega, by have := h.2.2; show s.left - 1 < 0 ∧ _ ∨ _; simp only; omega⟩, rfl⟩
    show Desk.get s n = _
    unfold Desk.get
    have h2 := h.2.2
    rw [if_neg (by omega)]
    have e : wrap64 (s.left - 1) = s.left - 1 := by unfold wrap64; omega
    rw [e]
  put := fun {k s} n d h => by
    obtain ⟨h4, h5⟩ := put_length h.1 n d
    refine ⟨⟨putN s.N n, putD s.N s.D n d, s.left - 1⟩, ?_, ⟨h4, by have := h.2.1; show (putN s.N n).length + k ≤ _; omega, by have := h.2.2; simp only; omega⟩, fun m => getB_put h.1 n d m⟩
    show Desk.put s n d = _
    unfold Desk.put
    have h2 := h.2.2
    rw [if_neg (by omega)]
    have e : wrap64 (s.left - 1) = s.left - 1 := by unfold wrap64; omega
    rw [e]

end Go.Proofs.Ytonbipaajhokfaa
/-
  fresh and awake.
-/
set_option linter.unusedVariables false
set_option linter.unusedSimpArgs false
namespace Go.Proofs.Ytonbipaajhokfaa
open Go.RowKit Go.Proofs.YtonbipaajhokfaaW.PrintWords Go.Proofs.YtonbipaajhokfaaW.PrintLast Go.Proofs.YtonbipaajhokfaaW.PrintMore

def Desk.new : Desk := ⟨[], [], -1⟩

set_option maxRecDepth 100000 in
theorem fresh_calls (w : World) :
    Calls Try.prog 18 #[] w fun e w' => ∃ kd kb, e = .returned (.pointer (some ⟨kd, 0, none⟩)) ∧ ∃ F : Nat → Prop, DeskAt kd kb w' F Desk.new ∧ (∀ k, F k → w.heap.size ≤ k) ∧ Below w.heap.size w w' := by
  go_enter Try.func18, Try.ntmps18
  go_wp2
  go_ret
  refine ⟨w.heap.size + 1, w.heap.size, rfl, fun k => w.heap.size ≤ k ∧ k < w.heap.size + 2, ⟨⟨by omega, by omega⟩, ?_, ⟨⟨⟨by omega, by omega⟩, by omega⟩, fun k hk => by have := hk.1.2; simp; omega, rfl, .slice none 0 0, .slice none 0 0, ?_, Kd.R_nil _ _ _ _ _, Kd.R_nil _ _ _ _ _⟩⟩, fun k hk => hk.1, ?_⟩
  · have := blk_new (w.alloc (.cells #[.slice none 0 0, .slice none 0 0] 43)) (.cells #[.pointer (some ⟨w.heap.size, 0, none⟩), .int .i64 (-1)] 47)
    simpa [Desk.new] using this
  · exact blk_alloc (blk_new w _) _
  · exact below_alloc (below_alloc (Below.refl _ _) _) _

/-- A store in state s at blocks F, all from B on, in a world that has kept what lay below B. -/
def Hold {St : Type} (S : Shop St) (B : Nat) (w0 w : World) (s : St) (F : Nat → Prop) : Prop :=
  S.At w F s ∧ (∀ k, F k → B ≤ k) ∧ Below B w0 w ∧ B ≤ w.heap.size
/-- What stood outside of F stands still, outside of F'. -/
def Past (F F' : Nat → Prop) (w w' : World) : Prop :=
  w.heap.size ≤ w'.heap.size ∧ ∀ k, k < w.heap.size → ¬ F k → ¬ F' k ∧ w'.heap[k]? = w.heap[k]?
theorem Past.blk {F F' : Nat → Prop} {w w' : World} {g : Nat} {o : Obj} (h : Past F F' w w') (hb : w.heap[g]? = some o) (hn : ¬ F g) : w'.heap[g]? = some o :=
  (h.2 g (blk_lt hb) hn).2.trans hb
theorem Past.out {F F' : Nat → Prop} {w w' : World} {g : Nat} {o : Obj} (h : Past F F' w w') (hb : w.heap[g]? = some o) (hn : ¬ F g) : ¬ F' g :=
  (h.2 g (blk_lt hb) hn).1
theorem Hold.goes {St : Type} {S : Shop St} {B : Nat} {w0 w w' : World} {s s' : St} {F : Nat → Prop} (h : Hold S B w0 w s F) (g : Goes (fun F' => S.At w' F' s') F w w') :
    ∃ F', Hold S B w0 w' s' F' ∧ Past F F' w w' := by
  obtain ⟨h1, h2, h3, h4⟩ := h
  obtain ⟨F', g1, g2, g3⟩ := g
  refine ⟨F', ⟨g1, fun k hk => ?_, h3.trans (g3.below h2 h4), Nat.le_trans h4 g3.size⟩, g3.size, fun k hk hn => ⟨fun hf => ?_, g3.block k hk hn⟩⟩
  · rcases g2 k hk with h | h
    · exact h2 k h
    · omega
  · rcases g2 k hf with h | h
    · exact hn h
    · omega
theorem Hold.take {St : Type} {S : Shop St} {B : Nat} {w0 w : World} {s : St} {F : Nat → Prop} (h : Hold S B w0 w s F) (hd : Hd) (hfit : S.fits s) (hp0 : 0 ≤ hd.pages) (hs0 : 0 ≤ hd.spare) (hs1 : hd.spare ≤ 4096) :
    Calls Try.prog 20 #[hd.v, .iface S.T S.x] w fun e w' => e = .returned (.tuple #[.int .i64 (S.take s hd).2.1, (S.take s hd).2.2.1.v, .int .i64 (S.take s hd).2.2.2]) ∧ ∃ F', Hold S B w0 w' (S.take s hd).1 F' ∧ Past F F' w w' :=
  (take_calls S F s hd w h.1 hfit hp0 hs0 hs1).mono fun _ _ hh => ⟨hh.1, h.goes hh.2⟩
theorem Hold.give {St : Type} {S : Shop St} {B : Nat} {w0 w : World} {s : St} {F : Nat → Prop} (h : Hold S B w0 w s F) (hd : Hd) (n : Int) (hfit : S.fits s) (hp0 : 0 ≤ hd.pages) (hp1 : hd.pages ≤ 4096) (hs0 : 0 ≤ hd.spare) :
    Calls Try.prog 22 #[hd.v, .iface S.T S.x, .int .i64 n] w fun e w' => e = .returned (.tuple #[(S.give s hd n).2.1.v, .int .i64 (S.give s hd n).2.2]) ∧ ∃ F', Hold S B w0 w' (S.give s hd n).1 F' ∧ Past F F' w w' :=
  (give_calls S F s hd n w h.1 hfit hp0 hp1 hs0).mono fun _ _ hh => ⟨hh.1, h.goes hh.2⟩
theorem Hold.below {St : Type} {S : Shop St} {B : Nat} {w0 w w' : World} {s : St} {F : Nat → Prop} (h : Hold S B w0 w s F) (hb : Below w.heap.size w w') : Hold S B w0 w' s F :=
  ⟨Shop.below h.1 hb, h.2.1, h.2.2.1.trans (hb.mono h.2.2.2), Nat.le_trans h.2.2.2 hb.size⟩
theorem Hold.set {St : Type} {S : Shop St} {B : Nat} {w0 w : World} {s : St} {F : Nat → Prop} (h : Hold S B w0 w s F) {p : Addr} (hp : ¬ F p.block) (hB : B ≤ p.block) (u : Value) : Hold S B w0 (w.setCell p u) s F :=
  ⟨Shop.far h.1 hp u, h.2.1, h.2.2.1.setCell hB u, by simpa using h.2.2.2⟩
theorem Hold.fresh {St : Type} {S : Shop St} {B : Nat} {w0 w : World} {s : St} {F : Nat → Prop} (h : Hold S B w0 w s F) : ¬ F w.heap.size := fun hf => by have := S.bound h.1 _ hf; omega
theorem Hold.set6 {St : Type} {S : Shop St} {B : Nat} {w0 w : World} {s : St} {F : Nat → Prop} (h : Hold S B w0 w s F) {g : Nat} (hp : ¬ F g) (hB : B ≤ g) (a b c d e f : Value) :
    Hold S B w0 ((((((w.setCell ⟨g, 0, none⟩ a).setCell ⟨g, 1, none⟩ b).setCell ⟨g, 2, none⟩ c).setCell ⟨g, 3, none⟩ d).setCell ⟨g, 4, none⟩ e).setCell ⟨g, 5, none⟩ f) s F :=
  (((((h.set (p := ⟨g, 0, none⟩) hp hB a).set (p := ⟨g, 1, none⟩) hp hB b).set (p := ⟨g, 2, none⟩) hp hB c).set (p := ⟨g, 3, none⟩) hp hB d).set (p := ⟨g, 4, none⟩) hp hB e).set (p := ⟨g, 5, none⟩) hp hB f
end Go.Proofs.Ytonbipaajhokfaa
