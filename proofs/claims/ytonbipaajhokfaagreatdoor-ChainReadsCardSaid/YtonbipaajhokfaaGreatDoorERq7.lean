/-
  Of this claim's texts, laid together by wip/gen/squeeze.py: KE H0 H1 H2 H3.
-/
import Derived.Test.YtonbipaajhokfaaGreatDoorERq4
import Derived.Test.YtonbipaajhokfaaGreatDoorERq6
import Derived.Maps.Own
import Derived.StillTailTactics
import Derived.BigQuiet
section
set_option linter.unusedVariables false
set_option linter.unusedSimpArgs false
namespace Go.Proofs.YtonbipaajhokfaaGreatDoor
open Go.RowKit Go.Proofs.YtonbipaajhokfaaGreatDoorW.PrintWords Go.Proofs.YtonbipaajhokfaaGreatDoorW.PrintLast Go.Proofs.YtonbipaajhokfaaGreatDoorW.PrintMore
theorem by8_nat (n : Int) : ((by8 n).toNat : Int) = n % 256 := by
  unfold by8
  rw [UInt8.toNat_ofNat']
  omega
theorem beV_be4 (n : Int) (h0 : 0 ≤ n) (h1 : n < 4294967296) : beV (be4 n) = n := by
  unfold beV be4
  simp only [List.foldl_cons, List.foldl_nil, by8_nat]
  omega
theorem encOk_parts {next : Int} {l : List Int} : encOk next l = true ↔ (next = 0 ∨ (1 ≤ next ∧ next < 4096)) ∧ l.length ≤ 50 ∧ ∀ x ∈ l, 1 ≤ x ∧ x < 4096 := by
  unfold encOk oddB
  simp only [Bool.and_eq_true, Bool.or_eq_true, beq_iff_eq, Bool.not_eq_true', decide_eq_true_eq, Bool.or_eq_false_iff, decide_eq_false_iff_not, List.any_eq_false, not_or]
  constructor
  · rintro ⟨⟨h1, h2⟩, h3⟩
    exact ⟨by omega, h2, fun x hx => by have := h3 x hx; omega⟩
  · rintro ⟨h1, h2, h3⟩
    exact ⟨⟨by omega, h2⟩, fun x hx => by have := h3 x hx; omega⟩
theorem trunkPage_length (next : Int) (l : List Int) (h : l.length ≤ 50) : (trunkPage next l).length = 232 := by
  rw [trunk_tail next l h]
  simp only [List.length_append, be4s_length, trunkHead, List.length_cons, be4_length, List.length_replicate, List.length_nil]
  omega
theorem be4s_at (l : List Int) (z : List UInt8) (i : Nat) (h : i < l.length) : ((be4s l ++ z).drop (4 * i)).take 4 = be4 (l.getD i 0) := by
  induction l generalizing i with
  | nil => simp at h
  | cons x r ih =>
    have e : be4s (x :: r) ++ z = be4 x ++ (be4s r ++ z) := by simp [be4s, List.append_assoc]
    rw [e]
    cases i with
    | zero => rw [Nat.mul_zero, List.drop_zero, List.take_left' (be4_length x)]; rfl
    | succ i =>
      have e2 : 4 * (i + 1) = (be4 x).length + 4 * i := by rw [be4_length]; omega
      rw [e2, ← List.drop_drop, List.drop_left, ih i (by simpa using h)]
      rfl
theorem decN_page (next : Int) (l : List Int) (h0 : 0 ≤ next) (h1 : next < 4096) (h : l.length ≤ 50) : decN (trunkPage next l) = next := by
  unfold decN rd4
  rw [trunk_tail next l h]
  have : ((trunkHead next l.length ++ be4s l ++ List.replicate (226 - 4 * l.length) 0).drop 1).take 4 = be4 next := by
    unfold trunkHead
    simp only [List.cons_append, List.drop_succ_cons, List.drop_zero, List.append_assoc]
    exact List.take_left' (be4_length next)
  rw [this, beV_be4 next h0 (by omega)]
theorem decC_page (next : Int) (l : List Int) (h : l.length ≤ 50) : decC (trunkPage next l) = l.length := by
  unfold decC
  rw [trunk_tail next l h]
  have e : (trunkHead next l.length ++ be4s l ++ List.replicate (226 - 4 * l.length) 0).getD 5 0 = by8 (l.length : Int) := by
    unfold trunkHead be4
    simp [List.getD_eq_getElem?_getD]
  rw [e]
  have := by8_nat (l.length : Int)
  omega
theorem decL_page (next : Int) (l : List Int) (h : l.length ≤ 50) (hl : ∀ x ∈ l, 1 ≤ x ∧ x < 4096) : decL (trunkPage next l) = l := by
  unfold decL
  rw [decC_page next l h]
  apply List.ext_getElem
  · simp
  · intro i h1 h2
    simp only [List.getElem_map, List.getElem_range]
    unfold rd4
    rw [trunk_tail next l h, List.append_assoc]
    have e2 : 6 + 4 * i = (trunkHead next l.length).length + 4 * i := by simp [trunkHead, be4_length]
    rw [e2, ← List.drop_drop, List.drop_left, be4s_at l _ i h2]
    have hx : l.getD i 0 = l[i] := by simp [List.getD_eq_getElem?_getD, List.getElem?_eq_getElem h2]
    have := hl l[i] (List.getElem_mem h2)
    rw [hx, beV_be4 _ (by omega) (by omega)]
theorem decOk_page {next : Int} {l : List Int} (h : encOk next l = true) : decOk (trunkPage next l) = true := by
  obtain ⟨h1, h2, h3⟩ := encOk_parts.1 h
  unfold decOk
  rw [decN_page next l (by omega) (by omega) h2, decL_page next l h2 h3, h]
  simp
theorem dec_page {next : Int} {l : List Int} (h : encOk next l = true) : decN1 (trunkPage next l) = next ∧ decL1 (trunkPage next l) = l ∧ decE1 (trunkPage next l) = 0 := by
  obtain ⟨h1, h2, h3⟩ := encOk_parts.1 h
  unfold decN1 decL1 decE1
  rw [if_pos ⟨trunkPage_length next l h2, decOk_page h⟩, if_pos ⟨trunkPage_length next l h2, decOk_page h⟩, if_pos (trunkPage_length next l h2), if_pos (decOk_page h)]
  exact ⟨decN_page next l (by omega) (by omega) h2, decL_page next l h2 h3, rfl⟩
end Go.Proofs.YtonbipaajhokfaaGreatDoor
set_option linter.unusedVariables false
set_option linter.unusedSimpArgs false
namespace Go.Proofs.YtonbipaajhokfaaGreatDoor
open Go.RowKit Go.Proofs.YtonbipaajhokfaaGreatDoorW.PrintWords Go.Proofs.YtonbipaajhokfaaGreatDoorW.PrintLast Go.Proofs.YtonbipaajhokfaaGreatDoorW.PrintMore
variable {St : Type}
/-- A store some of whose calls surely answer: k more calls in state s; what a page holds. -/
structure Live (S : Shop St) where
  ok : Nat → St → Prop
  look : St → Int → ByteArray
  mono : ∀ {k s}, ok (k + 1) s → ok k s
  fits : ∀ {k s}, ok (k + 1) s → S.fits s
  get : ∀ {k s} (n : Int), ok (k + 1) s → ∃ s', S.get s n = (s', look s n, 0) ∧ ok k s' ∧ look s' = look s
  put : ∀ {k s} (n : Int) (d : ByteArray), ok (k + 1) s → ∃ s', S.put s n d = (s', 0) ∧ ok k s' ∧ ∀ m, look s' m = if m = n then d else look s m
/-- A chain of trunks from t on. -/
def Chain (look : Int → ByteArray) : Int → List (Int × List Int) → Prop
  | t, [] => t = 0
  | t, (p, l) :: r => t = p ∧ 1 ≤ p ∧ p < 4096 ∧ ∃ next, encOk next l = true ∧ look p = bs (trunkPage next l) ∧ Chain look next r
/-- The free pages, top first. -/
def flat : List (Int × List Int) → List Int
  | [] => []
  | (p, l) :: r => l.reverse ++ p :: flat r
theorem Chain.keep {look look' : Int → ByteArray} {c : List (Int × List Int)} : ∀ {t : Int}, Chain look t c → (∀ x ∈ flat c, look' x = look x) → Chain look' t c := by
  induction c with
  | nil => intro t h _; exact h
  | cons a r ih =>
    obtain ⟨p, l⟩ := a
    rintro t ⟨h1, h2, h3, next, h4, h5, h6⟩ hx
    exact ⟨h1, h2, h3, next, h4, (hx p (by simp [flat])).trans h5, ih h6 (fun x hr => hx x (by simp [flat, hr]))⟩
theorem Chain.top {look : Int → ByteArray} {c : List (Int × List Int)} {t : Int} (h : Chain look t c) : t = 0 ∧ c = [] ∨ (1 ≤ t ∧ t < 4096 ∧ t ∈ flat c ∧ c ≠ []) := by
  cases c with
  | nil => exact Or.inl ⟨h, rfl⟩
  | cons a r =>
    obtain ⟨p, l⟩ := a
    obtain ⟨h1, h2, h3, -⟩ := h
    subst h1
    exact Or.inr ⟨h2, h3, by simp [flat], by simp⟩
theorem Chain.next {look : Int → ByteArray} {c : List (Int × List Int)} {t : Int} (h : Chain look t c) : t = 0 ∨ (1 ≤ t ∧ t < 4096) := by
  rcases h.top with h | h
  · exact Or.inl h.1
  · exact Or.inr ⟨h.1, h.2.1⟩
theorem Live.trunk {S : Shop St} (L : Live S) {k : Nat} {s : St} (h : L.ok (k + 1) s) {t next : Int} {l : List Int} (he : encOk next l = true) (hl : L.look s t = bs (trunkPage next l)) :
    ∃ s', S.trunk s t = (s', next, l, 0) ∧ L.ok k s' ∧ L.look s' = L.look s := by
  obtain ⟨s', h1, h2, h3⟩ := L.get t h
  obtain ⟨d1, d2, d3⟩ := dec_page he
  refine ⟨s', ?_, h2, h3⟩
  unfold Shop.trunk
  rw [h1, hl]
  dsimp only
  rw [bs_list, d1, d2, d3, if_neg (by decide), if_neg (by decide)]
theorem Live.lay {S : Shop St} (L : Live S) {k : Nat} {s : St} (h : L.ok (k + 1) s) {t next : Int} {l : List Int} (he : encOk next l = true) :
    ∃ s', S.lay s t next l = (s', 0) ∧ L.ok k s' ∧ ∀ m, L.look s' m = if m = t then bs (trunkPage next l) else L.look s m := by
  obtain ⟨s', h1, h2, h3⟩ := L.put t (bs (trunkPage next l)) h
  refine ⟨s', ?_, h2, h3⟩
  unfold Shop.lay
  rw [if_pos he, h1]
theorem take_none (S : Shop St) (s : St) (h : Hd) (h0 : h.spare = 0) (hp : h.pages < 4096) : S.take s h = (s, h.pages, { h with pages := h.pages + 1 }, 0) := by
  unfold Shop.take
  rw [if_pos h0, if_neg (by omega)]
/-- Take: the top of the stack. -/
theorem Live.take {S : Shop St} (L : Live S) {k : Nat} {s : St} (h : L.ok (k + 2) s) {hd : Hd} {c : List (Int × List Int)} {x : Int} {st : List Int} (hc : Chain (L.look s) hd.trunk c) (hf : flat c = x :: st)
    (hsp : hd.spare = (flat c).length) (hin : ∀ y ∈ flat c, 1 ≤ y ∧ y < hd.pages) (hnd : (flat c).Nodup) :
    ∃ s' t' c', S.take s hd = (s', x, { hd with trunk := t', spare := hd.spare - 1 }, 0) ∧ Chain (L.look s') t' c' ∧ flat c' = st ∧ L.ok k s' := by
  cases c with
  | nil => simp [flat] at hf
  | cons a r =>
    obtain ⟨p, l⟩ := a
    obtain ⟨h1, h2, h3, next, h4, h5, h6⟩ := hc
    obtain ⟨m, pg, t, sp, rt, ch⟩ := hd
    dsimp only at h1 hsp hin ⊢
    subst h1
    have hlen : (flat ((t, l) :: r)).length = l.length + 1 + (flat r).length := by simp [flat]; omega
    have hsp0 : sp ≠ 0 := by omega
    obtain ⟨s1, ht, hk1, hl1⟩ := L.trunk h h4 h5
    have hnx : next < pg := by
      rcases h6.top with h7 | h7
      · have := hin t (by simp [flat]); omega
      · exact (hin next (by simp [flat, h7.2.2.1])).2
    unfold Shop.take
    dsimp only
    rw [if_neg hsp0, ht]
    dsimp only
    rw [if_neg (by decide), if_neg (by omega)]
    rcases List.eq_nil_or_concat l with hl | ⟨l0, y, hl⟩
    · subst hl
      rw [if_pos rfl]
      have e1 : ((next == 0) = (sp == 1)) := by
        rcases h6.top with h7 | h7
        · have : sp = 1 := by rw [hsp, hlen, h7.2]; rfl
          simp [h7.1, this]
        · have h8 : (next == 0) = false := by simp; omega
          have h9 : (sp == 1) = false := by
            have : 0 < (flat r).length := List.length_pos_of_mem h7.2.2.1
            simp; rw [hsp, hlen]; simp; omega
          rw [h8, h9]
      rw [if_pos e1]
      simp only [flat, List.reverse_nil, List.nil_append, List.cons.injEq] at hf
      refine ⟨s1, next, r, ?_, ?_, hf.2, L.mono hk1⟩
      · rw [← hf.1]
      · rw [hl1]; exact h6
    · rw [List.concat_eq_append] at hl
      subst hl
      rw [if_neg (by simp)]
      have e2 : (l0 ++ [y]).getLastD 0 = y := by simp [List.getLastD_eq_getLast?]
      rw [e2, List.dropLast_concat]
      have hy := hin y (by simp [flat])
      have hf2 : flat ((t, l0) :: r) = st ∧ y = x := by
        simp only [flat, List.reverse_append, List.reverse_cons, List.reverse_nil, List.nil_append, List.singleton_append, List.cons_append, List.cons.injEq] at hf ⊢
        exact ⟨hf.2, hf.1⟩
      rw [if_neg (by omega), if_neg (by rw [hsp, hlen]; simp; omega)]
      obtain ⟨g1, g2, g3⟩ := encOk_parts.1 h4
      have he0 : encOk next l0 = true := encOk_parts.2 ⟨g1, by simp at g2; omega, fun z hz => g3 z (by simp [hz])⟩
      obtain ⟨s2, hy2, hk2, hl2⟩ := L.lay (t := t) hk1 he0
      rw [hy2]
      dsimp only
      rw [if_neg (by decide)]
      refine ⟨s2, t, (t, l0) :: r, ?_, ⟨rfl, h2, h3, next, he0, by rw [hl2, if_pos rfl], ?_⟩, hf2.1, hk2⟩
      · rw [hf2.2]
      · refine h6.keep (fun z hz => ?_)
        rw [hl2, hl1, if_neg]
        intro e
        subst e
        simp only [flat, List.nodup_append, List.nodup_cons] at hnd
        exact hnd.2.1.1 hz
/-- Give: onto the stack. -/
theorem Live.give {S : Shop St} (L : Live S) {k : Nat} {s : St} (h : L.ok (k + 2) s) {hd : Hd} {c : List (Int × List Int)} {n : Int} (hc : Chain (L.look s) hd.trunk c)
    (hsp : hd.spare = (flat c).length) (hn : 1 ≤ n) (hp : n < hd.pages) (hp1 : hd.pages ≤ 4096) (hs : hd.spare < hd.pages - 1) (hin : n ∉ flat c) (hnd : (flat c).Nodup) :
    ∃ s' t' c', S.give s hd n = (s', { hd with trunk := t', spare := hd.spare + 1 }, 0) ∧ Chain (L.look s') t' c' ∧ flat c' = n :: flat c ∧ L.ok k s' := by
  obtain ⟨m, pg, t, sp, rt, ch⟩ := hd
  dsimp only at hsp hp hp1 hs hc ⊢
  unfold Shop.give
  dsimp only
  rw [if_neg (by omega), if_neg (by omega)]
  rcases hc.top with h7 | h7
  · rw [if_pos h7.1]
    obtain ⟨s2, hy2, hk2, hl2⟩ := L.lay (t := n) (next := t) (l := []) h (encOk_parts.2 ⟨Or.inl h7.1, by simp, by simp⟩)
    rw [hy2]
    unfold gaveOf
    dsimp only
    rw [if_neg (by decide)]
    refine ⟨s2, n, [(n, [])], rfl, ⟨rfl, hn, by omega, t, encOk_parts.2 ⟨Or.inl h7.1, by simp, by simp⟩, by rw [hl2, if_pos rfl], h7.1⟩, ?_, L.mono hk2⟩
    rw [h7.2]; rfl
  · rw [if_neg (by omega)]
    cases c with
    | nil => exact absurd rfl h7.2.2.2
    | cons a r =>
      obtain ⟨p, l⟩ := a
      obtain ⟨h1, h2, h3, next, h4, h5, h6⟩ := hc
      subst h1
      obtain ⟨s1, ht, hk1, hl1⟩ := L.trunk h h4 h5
      obtain ⟨g1, g2, g3⟩ := encOk_parts.1 h4
      rw [ht]
      dsimp only
      rw [if_neg (by decide)]
      have hnt : n ≠ t := fun e => hin (by simp [flat, e])
      by_cases h50 : l.length < 50
      · rw [if_pos h50]
        have he0 : encOk next (l ++ [n]) = true := encOk_parts.2 ⟨g1, by simp; omega, fun z hz => by
          simp at hz
          rcases hz with hz | hz
          · exact g3 z hz
          · omega⟩
        obtain ⟨s2, hy2, hk2, hl2⟩ := L.lay (t := t) hk1 he0
        rw [hy2]
        unfold gaveOf
        dsimp only
        rw [if_neg (by decide)]
        refine ⟨s2, t, (t, l ++ [n]) :: r, rfl, ⟨rfl, h2, h3, next, he0, by rw [hl2, if_pos rfl], ?_⟩, by simp [flat], hk2⟩
        refine h6.keep (fun z hz => ?_)
        rw [hl2, hl1, if_neg]
        intro e
        subst e
        simp only [flat, List.nodup_append, List.nodup_cons] at hnd
        exact hnd.2.1.1 hz
      · rw [if_neg h50]
        have he0 : encOk t [] = true := encOk_parts.2 ⟨Or.inr ⟨h2, h3⟩, by simp, by simp⟩
        obtain ⟨s2, hy2, hk2, hl2⟩ := L.lay (t := n) hk1 he0
        rw [hy2]
        unfold gaveOf
        dsimp only
        rw [if_neg (by decide)]
        refine ⟨s2, n, (n, []) :: (t, l) :: r, rfl, ⟨rfl, hn, by omega, t, he0, by rw [hl2, if_pos rfl], ?_⟩, by simp [flat], hk2⟩
        have hc' : Chain (L.look s) t ((t, l) :: r) := ⟨rfl, h2, h3, next, h4, h5, h6⟩
        refine hc'.keep (fun z hz => ?_)
        rw [hl2, hl1, if_neg]
        intro e
        subst e
        exact hin hz
end Go.Proofs.YtonbipaajhokfaaGreatDoor
end
section
set_option linter.unusedVariables false
set_option linter.unusedSimpArgs false
namespace Go.Proofs.YtonbipaajhokfaaGreatDoor
open Go.RowKit Go.Proofs.YtonbipaajhokfaaGreatDoorW.PrintWords Go.Proofs.YtonbipaajhokfaaGreatDoorW.PrintLast Go.Proofs.YtonbipaajhokfaaGreatDoorW.PrintMore
open Go.MapKept
/-- The entries of a map that holds f. -/
structure Ents (es : Array MapEntry) (f : Int → Option ByteArray) : Prop where
  form : ∀ (i : Nat) (e : MapEntry), es[i]? = some e → ∃ k d, e.key = .int .i64 k ∧ e.val = .string d ∧ f k = some d
  all : ∀ k d, f k = some d → ∃ (i : Nat) (e : MapEntry), es[i]? = some e ∧ e.key = .int .i64 k
  dist : ∀ (i j : Nat) (e e' : MapEntry), es[i]? = some e → es[j]? = some e' → e.key = e'.key → i = j
def MapAt (w : World) (mb : Nat) (f : Int → Option ByteArray) : Prop := ∃ es clock, w.heap[mb]? = some (.map es clock) ∧ Ents es f
def upd (f : Int → Option ByteArray) (n : Int) (d : ByteArray) : Int → Option ByteArray := fun m => if m = n then some d else f m
theorem u90 : Tryz.prog.underlying 70 = some (.map 3 9) := by kernel_rfl
theorem zero9 (w : World) : (zeroValue 9).run Tryz.prog w = .ok (.string ⟨#[]⟩) w := by kernel_rfl
theorem key_int (n : Int) : IsKey (.int .i64) (.int .i64 n) := rfl
theorem Ents.keys {es : Array MapEntry} {f : Int → Option ByteArray} (h : Ents es f) : ∀ x ∈ es.toList, IsKey (.int .i64) x.key := fun x hx => by
  obtain ⟨i, hi, e⟩ := List.getElem_of_mem hx
  obtain ⟨k, d, h1, -⟩ := h.form i x (by rw [← e]; simp at hi; simp [hi])
  rw [h1]; rfl
theorem map_look {w : World} {mb : Nat} {f : Int → Option ByteArray} (h : MapAt w mb f) (n : Int) :
    (Instr.lookup 70 (.map (some mb)) (.int .i64 n) true).run Tryz.prog w = .ok (.tuple #[.string ((f n).getD ⟨#[]⟩), .bool (f n).isSome]) w := by
  obtain ⟨es, clock, hb, hE⟩ := h
  rcases findNow_spec (key_int n) es.toList 0 hE.keys with ⟨h1, h2⟩ | ⟨j, e, h1, h2, h3⟩
  · have hn : f n = none := by
      cases hf : f n with
      | none => rfl
      | some d =>
        obtain ⟨i, e, h4, h5⟩ := hE.all n d hf
        exact absurd h5 (h2 e (List.mem_of_getElem? (by simpa using h4)))
    simp [Instr.lookup, run_underlying u90, Go.MapKept.run_getObj_map hb, Go.MapKept.run_checkKey Tryz.underlying3 (key_int n), Go.MapKept.run_findKey Tryz.underlying3 h1, zero9, Result.andThen, hn]
  · obtain ⟨k, d, h4, h5, h6⟩ := hE.form j e (by simpa using h2)
    rw [h3] at h4
    cases h4
    simp [Instr.lookup, run_underlying u90, Go.MapKept.run_getObj_map hb, Go.MapKept.run_checkKey Tryz.underlying3 (key_int n), Go.MapKept.run_findKey Tryz.underlying3 h1, Result.andThen, h5, h6]
/-- Another world but for one block. -/
structure Turned (mb : Nat) (w w' : World) : Prop where
  os : w'.os = w.os
  tape : w'.tape = w.tape
  output : w'.output = w.output
  size : w'.heap.size = w.heap.size
  block : ∀ k, k ≠ mb → w'.heap[k]? = w.heap[k]?
theorem Ents.put {es : Array MapEntry} {f : Int → Option ByteArray} (h : Ents es f) {n : Int} {d : ByteArray} {clock : Nat} (hn : ∀ x ∈ es.toList, x.key ≠ .int .i64 n) : Ents (es.push ⟨.int .i64 n, .string d, clock⟩) (upd f n d) where
  form := fun i e he => by
    rw [Array.getElem?_push] at he
    split at he
    · cases he; exact ⟨n, d, rfl, rfl, by simp [upd]⟩
    · obtain ⟨k, d', h1, h2, h3⟩ := h.form i e he
      refine ⟨k, d', h1, h2, ?_⟩
      have : k ≠ n := fun e1 => hn e (List.mem_of_getElem? (by simpa using he)) (by rw [h1, e1])
      simp [upd, this, h3]
  all := fun k d' hk => by
    by_cases e1 : k = n
    · exact ⟨es.size, ⟨.int .i64 n, .string d, clock⟩, by simp, by rw [e1]⟩
    · simp only [upd, if_neg e1] at hk
      obtain ⟨i, e, h1, h2⟩ := h.all k d' hk
      have hlt := (Array.getElem?_eq_some_iff.1 h1).1
      exact ⟨i, e, by rw [Array.getElem?_push, if_neg (by omega)]; exact h1, h2⟩
  dist := fun i j e e' hi hj hk => by
    rw [Array.getElem?_push] at hi hj
    split at hi <;> split at hj
    · omega
    · cases hi; exact absurd hk.symm (hn e' (List.mem_of_getElem? (by simpa using hj)))
    · cases hj; exact absurd hk (hn e (List.mem_of_getElem? (by simpa using hi)))
    · exact h.dist i j e e' hi hj hk
theorem Ents.set {es : Array MapEntry} {f : Int → Option ByteArray} (h : Ents es f) {n : Int} {d : ByteArray} {j : Nat} {e0 : MapEntry} (hj : es[j]? = some e0) (hk : e0.key = .int .i64 n) : Ents (es.modify j fun e => ⟨.int .i64 n, .string d, e.born⟩) (upd f n d) where
  form := fun i e he => by
    rw [Array.getElem?_modify] at he
    split at he
    · rename_i e1
      rw [← e1, hj] at he
      cases he; exact ⟨n, d, rfl, rfl, by simp [upd]⟩
    · rename_i e1
      obtain ⟨k, d', h1, h2, h3⟩ := h.form i e he
      refine ⟨k, d', h1, h2, ?_⟩
      have : k ≠ n := fun e2 => e1 (h.dist j i e0 e hj he (by rw [hk, h1, e2]))
      simp [upd, this, h3]
  all := fun k d' hkd => by
    by_cases e1 : k = n
    · exact ⟨j, _, by rw [Array.getElem?_modify, if_pos rfl, hj]; rfl, by rw [e1]⟩
    · simp only [upd, if_neg e1] at hkd
      obtain ⟨i, e, h1, h2⟩ := h.all k d' hkd
      refine ⟨i, e, ?_, h2⟩
      rw [Array.getElem?_modify, if_neg]
      · exact h1
      · intro e2
        subst e2
        rw [hj] at h1
        cases h1
        rw [hk] at h2
        cases h2
        exact e1 rfl
  dist := fun i i' e e' hi hi' hke => by
    have key : ∀ (i : Nat) (e : MapEntry), (es.modify j fun e => (⟨.int .i64 n, .string d, e.born⟩ : MapEntry))[i]? = some e → ∃ e1, es[i]? = some e1 ∧ e1.key = e.key := fun i e he => by
      rw [Array.getElem?_modify] at he
      split at he
      · rename_i e1
        subst e1
        rw [hj] at he
        cases he
        exact ⟨e0, hj, hk⟩
      · exact ⟨e, he, rfl⟩
    obtain ⟨a, a1, a2⟩ := key i e hi
    obtain ⟨b, b1, b2⟩ := key i' e' hi'
    exact h.dist i i' a b a1 b1 (by rw [a2, b2, hke])
theorem map_put {w : World} {mb : Nat} {f : Int → Option ByteArray} (h : MapAt w mb f) (n : Int) (d : ByteArray) :
    ∃ w', (Instr.mapUpdate 70 (.map (some mb)) (.int .i64 n) (.string d)).run Tryz.prog w = .ok () w' ∧ MapAt w' mb (upd f n d) ∧ Turned mb w w' := by
  obtain ⟨es, clock, hb, hE⟩ := h
  have turn : ∀ o : Obj, Turned mb w { w with heap := w.heap.setIfInBounds mb o } := fun o => ⟨rfl, rfl, rfl, by simp, fun k hk => (heap_set hb).2 k hk⟩
  rcases findNow_spec (key_int n) es.toList 0 hE.keys with ⟨h1, h2⟩ | ⟨j, e, h1, h2, h3⟩
  · refine ⟨_, by simp [Instr.mapUpdate, run_underlying u90, Go.MapKept.run_getObj_map hb, Go.MapKept.run_checkKey Tryz.underlying3 (key_int n), Go.MapKept.run_findKey Tryz.underlying3 h1, Go.MapKept.run_setObj_map _ hb, Result.andThen]; rfl, ⟨_, _, (heap_set hb).1, hE.put h2⟩, turn _⟩
  · have hj : es[j]? = some e := by simpa using h2
    refine ⟨_, by simp [Instr.mapUpdate, run_underlying u90, Go.MapKept.run_getObj_map hb, Go.MapKept.run_checkKey Tryz.underlying3 (key_int n), Go.MapKept.run_findKey Tryz.underlying3 h1, hj, h3, Go.MapKept.run_keyThatStays (key_int n), Go.MapKept.run_setObj_map _ hb, Result.andThen]; rfl, ⟨_, _, (heap_set hb).1, hE.set hj h3⟩, turn _⟩
end Go.Proofs.YtonbipaajhokfaaGreatDoor
end
section
set_option linter.unusedVariables false
set_option linter.unusedSimpArgs false
namespace Go.Proofs.YtonbipaajhokfaaGreatDoor
open Go.RowKit Go.Proofs.YtonbipaajhokfaaGreatDoorW.PrintWords Go.Proofs.YtonbipaajhokfaaGreatDoorW.PrintLast Go.Proofs.YtonbipaajhokfaaGreatDoorW.PrintMore
theorem Turned.fr {F : Nat → Prop} {mb : Nat} {w w' : World} (h : Turned mb w w') (hF : F mb) : Fr F w w' :=
  ⟨h.os, h.tape, h.output, by rw [h.size]; exact Nat.le_refl _, fun k _ hn => h.block k (fun e => hn (e ▸ hF))⟩
theorem MapAt.lt {w : World} {mb : Nat} {f : Int → Option ByteArray} (h : MapAt w mb f) : mb < w.heap.size := by
  obtain ⟨es, clock, hb, -⟩ := h
  exact (Array.getElem?_eq_some_iff.1 hb).1
theorem MapAt.keep {w w' : World} {mb : Nat} {f : Int → Option ByteArray} (h : MapAt w mb f) (hk : w'.heap[mb]? = w.heap[mb]?) : MapAt w' mb f := by
  obtain ⟨es, clock, hb, hE⟩ := h
  exact ⟨es, clock, hk.trans hb, hE⟩
theorem MapAt.new (w : World) : MapAt (w.alloc (.map #[] 0)) w.heap.size (fun _ => none) :=
  ⟨#[], 0, (Go.MapKept.heap_alloc w _).1, ⟨(fun i e he => by simp at he), (fun k d hk => by cases hk), (fun i j e e' he => by simp at he)⟩⟩
set_option maxRecDepth 100000 in
theorem blank_calls (w : World) : Calls Tryz.prog 41 #[] w fun e w' => e = .returned (.string (bs blankL)) ∧ Below w.heap.size w w' := by
  have hr := fun W => rep0_calls 232 W (Nat.le_refl _)
  go_enter Tryz.func41, Tryz.ntmps41
  go_wp2_with (go_at_call 51; refine (hr _).mono ?_; rintro e w' ⟨rfl, hb⟩)
  go_ret
  exact ⟨rfl, hb⟩
/-- What a page of the book reads. -/
def readB (f : Int → Option ByteArray) (n : Int) : ByteArray := (f n).getD (bs blankL)
set_option maxRecDepth 100000 in
theorem mapGet_calls (mb : Nat) (f : Int → Option ByteArray) (n : Int) (w : World) (h : MapAt w mb f) :
    Calls Tryz.prog 38 #[.map (some mb), .int .i64 n] w fun e w' => e = .returned (.tuple #[.string (readB f n), .int .i64 0]) ∧ Below w.heap.size w w' := by
  have hl := map_look h n
  cases hf : f n with
  | none =>
    have HR := Aside0.mk (show readB f n = bs blankL by unfold readB; rw [hf]; rfl)
    rw [hf] at hl
    clear hf h
    go_enter Tryz.func38, Tryz.ntmps38
    go_wp2_with (go_at_call 41; refine (blank_calls _).mono ?_; rintro e w' ⟨rfl, hb⟩)
    go_ret2
    exact ⟨by rw [HR.out]; rfl, hb⟩
  | some d =>
    have HR := Aside0.mk (show readB f n = d by unfold readB; rw [hf]; rfl)
    rw [hf] at hl
    clear hf h
    go_enter Tryz.func38, Tryz.ntmps38
    go_wp2
    go_ret2
    exact ⟨by rw [HR.out]; rfl, Below.refl _ _⟩
set_option maxRecDepth 100000 in
theorem mapPut_calls (mb : Nat) (f : Int → Option ByteArray) (n : Int) (d : ByteArray) (w : World) (h : MapAt w mb f) :
    Calls Tryz.prog 42 #[.map (some mb), .int .i64 n, .string d] w fun e w' => e = .returned (.int .i64 0) ∧ MapAt w' mb (upd f n d) ∧ Turned mb w w' := by
  obtain ⟨w', hr, h1, h2⟩ := map_put h n d
  have H1 := Aside0.mk h1
  have H2 := Aside0.mk h2
  clear h h1 h2
  go_enter Tryz.func42, Tryz.ntmps42
  go_wp2
  go_ret
  exact ⟨rfl, H1.out, H2.out⟩
def mapShop (mb : Nat) : Shop (Int → Option ByteArray) where
  T := 70
  x := .map (some mb)
  fg := 38
  fp := 42
  mg := fun w => by kernel_rfl
  mp := fun w => by kernel_rfl
  eg := fun args w => by kernel_rfl
  ep := fun args w => by kernel_rfl
  At := fun w F s => F mb ∧ (∀ k, F k → k < w.heap.size) ∧ MapAt w mb s
  keep := fun h hk hs => ⟨h.1, fun k hf => Nat.lt_of_lt_of_le (h.2.1 k hf) hs, h.2.2.keep (hk _ h.1)⟩
  bound := fun h => h.2.1
  fits := fun s => True
  get := fun s n => (s, readB s n, 0)
  put := fun s n d => (upd s n d, 0)
  fits_get := fun n h => trivial
  cg := fun {w F s} n h => (mapGet_calls mb s n w h.2.2).mono fun e w' hh => ⟨hh.1, F, ⟨h.1, fun k hf => Nat.lt_of_lt_of_le (h.2.1 k hf) hh.2.size, h.2.2.keep (hh.2.block _ h.2.2.lt)⟩, fun k hk => Or.inl hk, Fr.of_below hh.2⟩
  cp := fun {w F s} n d h hf => (mapPut_calls mb s n d w h.2.2).mono fun e w' hh => ⟨hh.1, F, ⟨h.1, fun k hf => by have := h.2.1 k hf; rw [hh.2.2.size]; exact this, hh.2.1⟩, fun k hk => Or.inl hk, hh.2.2.fr h.1⟩
def mapLive (mb : Nat) : Live (mapShop mb) where
  ok := fun _ _ => True
  look := readB
  mono := fun _ => trivial
  fits := fun _ => trivial
  get := fun {k s} n _ => ⟨s, rfl, trivial, rfl⟩
  put := fun {k s} n d _ => ⟨upd s n d, rfl, trivial, fun m => by unfold readB upd; by_cases e : m = n <;> simp [e]⟩
end Go.Proofs.YtonbipaajhokfaaGreatDoor
end
section
set_option linter.unusedVariables false
set_option linter.unusedSimpArgs false
namespace Go.Proofs.YtonbipaajhokfaaGreatDoor
open Go.RowKit Go.Proofs.YtonbipaajhokfaaGreatDoorW.PrintWords Go.Proofs.YtonbipaajhokfaaGreatDoorW.PrintLast Go.Proofs.YtonbipaajhokfaaGreatDoorW.PrintMore
/-- A shelf. -/
structure Sh where
  limit : Int
  hd : Hd
  f : Int → Option ByteArray
  left : Int
def ShAt (ks mb : Nat) (w : World) (s : Sh) : Prop :=
  w.heap[ks]? = some (.cells #[.int .i64 s.limit, .int .i64 s.hd.mode, .int .i64 s.hd.pages, .int .i64 s.hd.trunk, .int .i64 s.hd.spare, .int .i64 s.hd.root, .int .u64 s.hd.change, .map (some mb), .int .i64 s.left] 72 (0, 0)) ∧ MapAt w mb s.f
def ShF (ks mb : Nat) : Nat → Prop := fun k => k = ks ∨ k = mb
theorem ShAt.below {ks mb : Nat} {w w' : World} {s : Sh} (h : ShAt ks mb w s) (hb : Below w.heap.size w w') : ShAt ks mb w' s :=
  ⟨blk_below h.1 hb, h.2.keep (hb.block _ h.2.lt)⟩
theorem mtake_calls (mb : Nat) (f : Int → Option ByteArray) (h : Hd) (w : World) (hm : MapAt w mb f) (hp0 : 0 ≤ h.pages) (hs0 : 0 ≤ h.spare) (hs1 : h.spare ≤ 4096) :
    Calls Tryz.prog 40 #[h.v, .iface 70 (.map (some mb))] w fun e w' => e = .returned (.tuple #[.int .i64 ((mapShop mb).take f h).2.1, ((mapShop mb).take f h).2.2.1.v, .int .i64 ((mapShop mb).take f h).2.2.2]) ∧ MapAt w' mb ((mapShop mb).take f h).1 ∧ Fr (fun k => k = mb) w w' :=
  (take_calls (mapShop mb) (fun k => k = mb) f h w ⟨rfl, fun k hk => by rw [hk]; exact hm.lt, hm⟩ trivial hp0 hs0 hs1).mono fun e w' hh => ⟨hh.1, by obtain ⟨F', h1, h2, h3⟩ := hh.2; exact ⟨h1.2.2, h3⟩⟩
theorem mgive_calls (mb : Nat) (f : Int → Option ByteArray) (h : Hd) (n : Int) (w : World) (hm : MapAt w mb f) (hp0 : 0 ≤ h.pages) (hp1 : h.pages ≤ 4096) (hs0 : 0 ≤ h.spare) :
    Calls Tryz.prog 146 #[h.v, .iface 70 (.map (some mb)), .int .i64 n] w fun e w' => e = .returned (.tuple #[((mapShop mb).give f h n).2.1.v, .int .i64 ((mapShop mb).give f h n).2.2]) ∧ MapAt w' mb ((mapShop mb).give f h n).1 ∧ Fr (fun k => k = mb) w w' :=
  (give_calls (mapShop mb) (fun k => k = mb) f h n w ⟨rfl, fun k hk => by rw [hk]; exact hm.lt, hm⟩ trivial hp0 hp1 hs0).mono fun e w' hh => ⟨hh.1, by obtain ⟨F', h1, h2, h3⟩ := hh.2; exact ⟨h1.2.2, h3⟩⟩
/-- What comes ahead of a call: its answer; calls until all fail, behind it. -/
def Sh.beg (s : Sh) (n : Int) : Int := if s.left = 0 then 11 else if n < 1 ∨ s.hd.pages ≤ n then 21 else 0
def nl (l : Int) : Int := if 0 < l then l - 1 else l
def Sh.dec (s : Sh) : Sh := ⟨s.limit, s.hd, s.f, nl s.left⟩
theorem Sh.dec_le {s : Sh} (h : s.left ≤ 0) : s.dec = s := by unfold Sh.dec nl; rw [if_neg (by omega)]
theorem ShAt.ne' {ks mb : Nat} {w : World} {s : Sh} (h : ShAt ks mb w s) : ks ≠ mb := fun e => by
  obtain ⟨es, clock, h1, -⟩ := h.2
  have := h.1
  rw [e, h1] at this
  cases this
theorem ShAt.left8 {ks mb : Nat} {w : World} {s : Sh} (h : ShAt ks mb w s) (l : Int) : ShAt ks mb (w.setCell ⟨ks, 8, none⟩ (.int .i64 l)) ⟨s.limit, s.hd, s.f, l⟩ :=
  ⟨blk_put h.1 8 _ rfl, h.2.keep (Below.heap_setCell _ (⟨ks, 8, none⟩ : Addr) _ mb (Ne.symm h.ne'))⟩
set_option maxHeartbeats 2000000 in
set_option maxRecDepth 100000 in
theorem begin_calls (ks mb : Nat) (s : Sh) (n : Int) (w : World) (h : ShAt ks mb w s) (hl : s.left ≤ 4096) :
    Calls Tryz.prog 37 #[.pointer (some ⟨ks, 0, none⟩), .int .i64 n] w fun e w' => e = .returned (.int .i64 (s.beg n)) ∧ ShAt ks mb w' s.dec ∧ Fr (ShF ks mb) w w' := by
  have a2 := (blk_cell h.1 2).trans rfl
  have a8 := (blk_cell h.1 8).trans rfl
  have HB : Aside0 (s.beg n = if s.left = 0 then 11 else if n < 1 ∨ s.hd.pages ≤ n then 21 else 0) := ⟨rfl⟩
  have HD : Aside0 (s.left ≤ 0 → s.dec = s) := ⟨Sh.dec_le⟩
  have HD2 : Aside0 (0 < s.left → s.dec = ⟨s.limit, s.hd, s.f, s.left - 1⟩) := ⟨fun hh => by unfold Sh.dec nl; rw [if_pos hh]⟩
  have HS := Aside0.mk h
  have HS8 := Aside0.mk (h.left8 (s.left - 1))
  have af8 := blk_frozen h.1 8
  obtain ⟨lim, ⟨m, p, t, sp, r, ch⟩, f, lf⟩ := s
  dsimp only at a2 a8 hl HB HD HD2 HS8
  clear h
  by_cases h0 : lf = 0
  · have t0 : (lf == 0) = true := by simp [h0]
    rw [if_pos h0] at HB
    have HDD := Aside0.mk (HD.out (by omega))
    clear h0 hl HD HD2
    go_enter Tryz.func37, Tryz.ntmps37
    go_wp2
    go_ret
    exact ⟨by rw [HB.out]; rfl, by rw [HDD.out]; exact HS.out, Fr.refl _ _⟩
  · have t0 : (lf == 0) = false := by simp [h0]
    rw [if_neg h0] at HB
    by_cases hpos : 0 < lf
    · have t1 : decide (0 < lf) = true := decide_eq_true hpos
      have HDD := Aside0.mk (HD2.out hpos)
      have a2' : (w.setCell ⟨ks, 8, none⟩ (.int .i64 (lf - 1))).cell? ⟨ks, 2, none⟩ = some (.int .i64 p) := (blk_cell HS8.out.1 2).trans rfl
      clear h0 HD HD2 a2
      by_cases h1 : n < 1
      · have t2 : decide (n < 1) = true := decide_eq_true h1
        rw [if_pos (Or.inl h1)] at HB
        go_enter Tryz.func37, Tryz.ntmps37
        go_wp2
        go_ret
        exact ⟨by rw [HB.out]; rfl, by rw [HDD.out]; exact HS8.out, (Fr.refl _ _).setCell (p := ⟨ks, 8, none⟩) (Or.inl (Or.inl rfl)) _⟩
      · have t2 : decide (n < 1) = false := decide_eq_false h1
        by_cases h2 : p ≤ n
        · have t3 : decide (p ≤ n) = true := decide_eq_true h2
          rw [if_pos (Or.inr h2)] at HB
          go_enter Tryz.func37, Tryz.ntmps37
          go_wp2
          go_ret
          exact ⟨by rw [HB.out]; rfl, by rw [HDD.out]; exact HS8.out, (Fr.refl _ _).setCell (p := ⟨ks, 8, none⟩) (Or.inl (Or.inl rfl)) _⟩
        · have t3 : decide (p ≤ n) = false := decide_eq_false h2
          rw [if_neg (by omega)] at HB
          go_enter Tryz.func37, Tryz.ntmps37
          go_wp2
          go_ret
          exact ⟨by rw [HB.out]; rfl, by rw [HDD.out]; exact HS8.out, (Fr.refl _ _).setCell (p := ⟨ks, 8, none⟩) (Or.inl (Or.inl rfl)) _⟩
    · have t1 : decide (0 < lf) = false := decide_eq_false hpos
      have HDD := Aside0.mk (HD.out (by omega))
      clear h0 hl HD HD2 HS8 hpos
      by_cases h1 : n < 1
      · have t2 : decide (n < 1) = true := decide_eq_true h1
        rw [if_pos (Or.inl h1)] at HB
        go_enter Tryz.func37, Tryz.ntmps37
        go_wp2
        go_ret
        exact ⟨by rw [HB.out]; rfl, by rw [HDD.out]; exact HS.out, Fr.refl _ _⟩
      · have t2 : decide (n < 1) = false := decide_eq_false h1
        by_cases h2 : p ≤ n
        · have t3 : decide (p ≤ n) = true := decide_eq_true h2
          rw [if_pos (Or.inr h2)] at HB
          go_enter Tryz.func37, Tryz.ntmps37
          go_wp2
          go_ret
          exact ⟨by rw [HB.out]; rfl, by rw [HDD.out]; exact HS.out, Fr.refl _ _⟩
        · have t3 : decide (p ≤ n) = false := decide_eq_false h2
          rw [if_neg (by omega)] at HB
          go_enter Tryz.func37, Tryz.ntmps37
          go_wp2
          go_ret
          exact ⟨by rw [HB.out]; rfl, by rw [HDD.out]; exact HS.out, Fr.refl _ _⟩
theorem begin_at (ks mb : Nat) {lim : Int} {hd : Hd} {f : Int → Option ByteArray} {lg lf n b : Int} (hl : lg ≤ 4096) (hlf : nl lg = lf) (hb : (⟨lim, hd, f, lg⟩ : Sh).beg n = b) : ∀ W, ShAt ks mb W ⟨lim, hd, f, lg⟩ →
    Calls Tryz.prog 37 #[.pointer (some ⟨ks, 0, none⟩), .int .i64 n] W fun e w' => e = .returned (.int .i64 b) ∧ ShAt ks mb w' ⟨lim, hd, f, lf⟩ ∧ Fr (ShF ks mb) W w' := fun W hW => by
  subst hlf hb
  exact begin_calls ks mb ⟨lim, hd, f, lg⟩ n W hW hl
end Go.Proofs.YtonbipaajhokfaaGreatDoor
end
section
set_option linter.unusedVariables false
set_option linter.unusedSimpArgs false
namespace Go.Proofs.YtonbipaajhokfaaGreatDoor
open Go.RowKit Go.Proofs.YtonbipaajhokfaaGreatDoorW.PrintWords Go.Proofs.YtonbipaajhokfaaGreatDoorW.PrintLast Go.Proofs.YtonbipaajhokfaaGreatDoorW.PrintMore
theorem ShAt.ne {ks mb : Nat} {w : World} {s : Sh} (h : ShAt ks mb w s) : ks ≠ mb := fun e => by
  obtain ⟨es, clock, h1, -⟩ := h.2
  have := h.1
  rw [e, h1] at this
  cases this
theorem ShAt.lt {ks mb : Nat} {w : World} {s : Sh} (h : ShAt ks mb w s) : ks < w.heap.size := blk_lt h.1
def Sh.get (s : Sh) (n : Int) : ByteArray × Int := if s.beg n ≠ 0 then (⟨#[]⟩, s.beg n) else (readB s.f n, 0)
def Sh.put (s : Sh) (n : Int) (d : ByteArray) : Sh × Int := if s.beg n ≠ 0 then (s.dec, s.beg n) else if d.size ≠ 232 then (s.dec, 1) else (⟨s.limit, s.hd, upd s.f n d, nl s.left⟩, 0)
set_option maxHeartbeats 2000000 in
set_option maxRecDepth 100000 in
theorem shGet_calls (ks mb : Nat) (s : Sh) (n : Int) (w : World) (h : ShAt ks mb w s) (hl : s.left ≤ 4096) :
    Calls Tryz.prog 20 #[.pointer (some ⟨ks, 0, none⟩), .int .i64 n] w fun e w' => e = .returned (.tuple #[.string (s.get n).1, .int .i64 (s.get n).2]) ∧ ShAt ks mb w' s.dec ∧ Fr (ShF ks mb) w w' := by
  have H := Aside0.mk h
  have HBC := Aside0.mk (fun W hW => begin_calls ks mb s n W hW hl)
  by_cases hb : s.beg n = 0
  · have HG := Aside0.mk (show s.get n = (readB s.f n, 0) by unfold Sh.get; rw [if_neg (by simp [hb])])
    rw [hb] at HBC
    clear h hl hb
    go_enter Tryz.func20, Tryz.ntmps20
    go_wp2_with fail
    refine (HBC.out w H.out).mono ?_
    rintro e w1 ⟨rfl, hs1, hf1⟩
    replace H := Aside0.mk hs1
    have a7 : w1.cell? ⟨ks, 7, none⟩ = some (.map (some mb)) := (blk_cell H.out.1 7).trans rfl
    have HF1 := Aside0.mk hf1
    clear hs1 hf1 HBC
    go_wp2_with fail
    refine (mapGet_calls mb s.f n w1 H.out.2).mono ?_
    rintro e w2 ⟨rfl, hb2⟩
    clear a7
    go_wp2
    go_ret2
    exact ⟨by rw [HG.out]; rfl, H.out.below hb2, HF1.out.then_below hb2⟩
  · have HG := Aside0.mk (show s.get n = (⟨#[]⟩, s.beg n) by unfold Sh.get; rw [if_pos hb])
    obtain ⟨b, hbb⟩ : ∃ b, b = s.beg n := ⟨_, rfl⟩
    rw [← hbb] at HBC hb HG
    have t0 : (b != 0) = true := by simp [hb]
    clear h hl hb hbb
    go_enter Tryz.func20, Tryz.ntmps20
    go_wp2_with fail
    refine (HBC.out w H.out).mono ?_
    rintro e w1 ⟨rfl, hs1, hf1⟩
    clear HBC
    go_wp2
    go_ret2
    exact ⟨by rw [HG.out]; rfl, hs1, hf1⟩
set_option maxHeartbeats 2000000 in
set_option maxRecDepth 100000 in
theorem shPut_calls (ks mb : Nat) (s : Sh) (n : Int) (d : ByteArray) (w : World) (h : ShAt ks mb w s) (hl : s.left ≤ 4096) :
    Calls Tryz.prog 26 #[.pointer (some ⟨ks, 0, none⟩), .int .i64 n, .string d] w fun e w' => e = .returned (.int .i64 (s.put n d).2) ∧ ShAt ks mb w' (s.put n d).1 ∧ Fr (ShF ks mb) w w' := by
  have H := Aside0.mk h
  have HBC := Aside0.mk (fun W hW => begin_calls ks mb s n W hW hl)
  by_cases hb : s.beg n = 0
  · rw [hb] at HBC
    by_cases h232 : d.size = 232
    · have HG := Aside0.mk (show s.put n d = (⟨s.limit, s.hd, upd s.f n d, nl s.left⟩, 0) by unfold Sh.put; rw [if_neg (by simp [hb]), if_neg (by simp [h232])])
      have t1 : ((d.size : Int) != 232) = false := by simp [h232]
      clear h hl hb
      go_enter Tryz.func26, Tryz.ntmps26
      go_wp2_with fail
      refine (HBC.out w H.out).mono ?_
      rintro e w1 ⟨rfl, hs1, hf1⟩
      replace H := Aside0.mk hs1
      have a7 : w1.cell? ⟨ks, 7, none⟩ = some (.map (some mb)) := (blk_cell H.out.1 7).trans rfl
      have HF1 := Aside0.mk hf1
      clear hs1 hf1 HBC
      go_wp2_with fail
      refine (mapPut_calls mb s.f n d w1 H.out.2).mono ?_
      rintro e w2 ⟨rfl, hm2, ht2⟩
      have HM := Aside0.mk hm2
      have HT2 := Aside0.mk ht2
      clear a7 hm2 ht2
      go_wp2
      go_ret
      exact ⟨by rw [HG.out]; rfl, by rw [HG.out]; exact ⟨(HT2.out.block ks H.out.ne).trans H.out.1, HM.out⟩, HF1.out.trans (HT2.out.fr (F := ShF ks mb) (Or.inr rfl)) (fun _ _ h => h)⟩
    · have HG := Aside0.mk (show s.put n d = (s.dec, 1) by unfold Sh.put; rw [if_neg (by simp [hb]), if_pos h232])
      have t1 : ((d.size : Int) != 232) = true := by simp; omega
      clear h hl hb
      go_enter Tryz.func26, Tryz.ntmps26
      go_wp2_with fail
      refine (HBC.out w H.out).mono ?_
      rintro e w1 ⟨rfl, hs1, hf1⟩
      have HS1 := Aside0.mk hs1
      have HF1 := Aside0.mk hf1
      clear HBC hs1 hf1
      go_wp2
      go_ret
      exact ⟨by rw [HG.out]; rfl, by rw [HG.out]; exact HS1.out, HF1.out⟩
  · have HG := Aside0.mk (show s.put n d = (s.dec, s.beg n) by unfold Sh.put; rw [if_pos hb])
    obtain ⟨b, hbb⟩ : ∃ b, b = s.beg n := ⟨_, rfl⟩
    rw [← hbb] at HBC hb HG
    have t0 : (b != 0) = true := by simp [hb]
    clear h hl hb hbb
    go_enter Tryz.func26, Tryz.ntmps26
    go_wp2_with fail
    refine (HBC.out w H.out).mono ?_
    rintro e w1 ⟨rfl, hs1, hf1⟩
    have HS1 := Aside0.mk hs1
    have HF1 := Aside0.mk hf1
    clear HBC hs1 hf1
    go_wp2
    go_ret
    exact ⟨by rw [HG.out]; rfl, by rw [HG.out]; exact HS1.out, HF1.out⟩
def Sh.bd (s : Sh) : Prop := 0 ≤ s.hd.pages ∧ s.hd.pages ≤ 4096 ∧ 0 ≤ s.hd.spare ∧ s.hd.spare ≤ 4096
def Sh.free (mb : Nat) (s : Sh) (n : Int) : Sh × Int :=
  if s.beg n ≠ 0 then (s.dec, s.beg n) else if ((mapShop mb).give s.f s.hd n).2.2 = 0 then (⟨s.limit, ((mapShop mb).give s.f s.hd n).2.1, ((mapShop mb).give s.f s.hd n).1, nl s.left⟩, 0)
  else (⟨s.limit, s.hd, ((mapShop mb).give s.f s.hd n).1, nl s.left⟩, ((mapShop mb).give s.f s.hd n).2.2)
def Sh.new (mb : Nat) (s : Sh) : Sh × Int × Int :=
  if s.left = 0 then (s.dec, 0, 11) else if s.hd.spare = 0 ∧ s.limit ≤ s.hd.pages then (s.dec, 0, 22)
  else if ((mapShop mb).take s.f s.hd).2.2.2 ≠ 0 then (⟨s.limit, s.hd, ((mapShop mb).take s.f s.hd).1, nl s.left⟩, 0, ((mapShop mb).take s.f s.hd).2.2.2)
  else (⟨s.limit, ((mapShop mb).take s.f s.hd).2.2.1, upd ((mapShop mb).take s.f s.hd).1 ((mapShop mb).take s.f s.hd).2.1 (bs blankL), nl s.left⟩, ((mapShop mb).take s.f s.hd).2.1, 0)
theorem ShAt.fr {ks mb : Nat} {w w' : World} {s : Sh} {f' : Int → Option ByteArray} (h : ShAt ks mb w s) (hf : Fr (fun k => k = mb) w w') (hm : MapAt w' mb f') : ShAt ks mb w' ⟨s.limit, s.hd, f', s.left⟩ :=
  ⟨hf.blk h.1 h.ne, hm⟩
theorem shPut6 {ks mb : Nat} {w : World} {lim m p t sp r ch lf : Int} {f : Int → Option ByteArray} (h : ShAt ks mb w ⟨lim, ⟨m, p, t, sp, r, ch⟩, f, lf⟩) (y0 y1 y2 y3 y4 y5 : Int) : ShAt ks mb ((((((w.setCell ⟨ks, 1, none⟩ (.int .i64 y0)).setCell ⟨ks, 2, none⟩ (.int .i64 y1)).setCell ⟨ks, 3, none⟩ (.int .i64 y2)).setCell ⟨ks, 4, none⟩ (.int .i64 y3)).setCell ⟨ks, 5, none⟩ (.int .i64 y4)).setCell ⟨ks, 6, none⟩ (.int .u64 y5)) ⟨lim, ⟨y0, y1, y2, y3, y4, y5⟩, f, lf⟩ :=
  ⟨blk_put (blk_put (blk_put (blk_put (blk_put (blk_put h.1 1 _ rfl) 2 _ rfl) 3 _ rfl) 4 _ rfl) 5 _ rfl) 6 _ rfl,
    h.2.keep (by simp only [Below.heap_setCell _ (⟨ks, 1, none⟩ : Addr) _ mb (Ne.symm h.ne), Below.heap_setCell _ (⟨ks, 2, none⟩ : Addr) _ mb (Ne.symm h.ne), Below.heap_setCell _ (⟨ks, 3, none⟩ : Addr) _ mb (Ne.symm h.ne), Below.heap_setCell _ (⟨ks, 4, none⟩ : Addr) _ mb (Ne.symm h.ne), Below.heap_setCell _ (⟨ks, 5, none⟩ : Addr) _ mb (Ne.symm h.ne), Below.heap_setCell _ (⟨ks, 6, none⟩ : Addr) _ mb (Ne.symm h.ne)])⟩
theorem shFr6 {ks mb : Nat} {w0 w : World} (h : Fr (ShF ks mb) w0 w) (y0 y1 y2 y3 y4 y5 : Value) : Fr (ShF ks mb) w0 ((((((w.setCell ⟨ks, 1, none⟩ (y0)).setCell ⟨ks, 2, none⟩ (y1)).setCell ⟨ks, 3, none⟩ (y2)).setCell ⟨ks, 4, none⟩ (y3)).setCell ⟨ks, 5, none⟩ (y4)).setCell ⟨ks, 6, none⟩ (y5)) :=
  (((((h.setCell (p := ⟨ks, 1, none⟩) (Or.inl (Or.inl rfl)) y0).setCell (p := ⟨ks, 2, none⟩) (Or.inl (Or.inl rfl)) y1).setCell (p := ⟨ks, 3, none⟩) (Or.inl (Or.inl rfl)) y2).setCell (p := ⟨ks, 4, none⟩) (Or.inl (Or.inl rfl)) y3).setCell (p := ⟨ks, 5, none⟩) (Or.inl (Or.inl rfl)) y4).setCell (p := ⟨ks, 6, none⟩) (Or.inl (Or.inl rfl)) y5
theorem frMap {ks mb : Nat} {w w' : World} (h : Fr (fun k => k = mb) w w') : Fr (ShF ks mb) w w' := h.mono (fun k _ hk => Or.inr hk)
theorem ShAt.far {ks mb : Nat} {w : World} {s : Sh} (h : ShAt ks mb w s) {a : Addr} (h1 : ks ≠ a.block) (h2 : mb ≠ a.block) (u : Value) : ShAt ks mb (w.setCell a u) s :=
  ⟨(Below.heap_setCell w a u ks h1).trans h.1, h.2.keep (Below.heap_setCell w a u mb h2)⟩
theorem shFar6 {ks mb q : Nat} {w : World} {s : Sh} (h : ShAt ks mb w s) (h1 : ks ≠ q) (h2 : mb ≠ q) (y0 y1 y2 y3 y4 y5 : Value) : ShAt ks mb ((((((w.setCell ⟨q, 0, none⟩ (y0)).setCell ⟨q, 1, none⟩ (y1)).setCell ⟨q, 2, none⟩ (y2)).setCell ⟨q, 3, none⟩ (y3)).setCell ⟨q, 4, none⟩ (y4)).setCell ⟨q, 5, none⟩ (y5)) s :=
  (((((h.far (a := ⟨q, 0, none⟩) h1 h2 y0).far (a := ⟨q, 1, none⟩) h1 h2 y1).far (a := ⟨q, 2, none⟩) h1 h2 y2).far (a := ⟨q, 3, none⟩) h1 h2 y3).far (a := ⟨q, 4, none⟩) h1 h2 y4).far (a := ⟨q, 5, none⟩) h1 h2 y5
theorem shFrQ {ks mb q : Nat} {w0 w : World} (h : Fr (ShF ks mb) w0 w) (hq : w0.heap.size ≤ q) (y0 y1 y2 y3 y4 y5 : Value) : Fr (ShF ks mb) w0 ((((((w.setCell ⟨q, 0, none⟩ (y0)).setCell ⟨q, 1, none⟩ (y1)).setCell ⟨q, 2, none⟩ (y2)).setCell ⟨q, 3, none⟩ (y3)).setCell ⟨q, 4, none⟩ (y4)).setCell ⟨q, 5, none⟩ (y5)) :=
  (((((h.setCell (p := ⟨q, 0, none⟩) (Or.inr hq) y0).setCell (p := ⟨q, 1, none⟩) (Or.inr hq) y1).setCell (p := ⟨q, 2, none⟩) (Or.inr hq) y2).setCell (p := ⟨q, 3, none⟩) (Or.inr hq) y3).setCell (p := ⟨q, 4, none⟩) (Or.inr hq) y4).setCell (p := ⟨q, 5, none⟩) (Or.inr hq) y5
set_option maxHeartbeats 2000000 in
set_option maxRecDepth 100000 in
theorem shFree_calls (ks mb : Nat) (s : Sh) (n : Int) (w : World) (h : ShAt ks mb w s) (hl : s.left ≤ 4096) (hbd : s.bd) :
    Calls Tryz.prog 145 #[.pointer (some ⟨ks, 0, none⟩), .int .i64 n] w fun e w' => e = .returned (.int .i64 (s.free mb n).2) ∧ ShAt ks mb w' (s.free mb n).1 ∧ Fr (ShF ks mb) w w' := by
  obtain ⟨lim, ⟨m, p, t, sp, r, ch⟩, f, lg⟩ := s
  obtain ⟨lf, hlf⟩ : ∃ lf, nl lg = lf := ⟨_, rfl⟩
  have hbd2 : 0 ≤ p ∧ p ≤ 4096 ∧ 0 ≤ sp ∧ sp ≤ 4096 := hbd
  obtain ⟨hd1, hd2, hd3, hd4⟩ := hbd2
  have hl' : lg ≤ 4096 := hl
  have H := Aside0.mk h
  by_cases hb : (⟨lim, ⟨m, p, t, sp, r, ch⟩, f, lg⟩ : Sh).beg n = 0
  · have HBC := Aside0.mk (begin_at ks mb hl' hlf hb)
    obtain ⟨gv, hgv⟩ : ∃ gv, gv = (mapShop mb).give f ⟨m, p, t, sp, r, ch⟩ n := ⟨_, rfl⟩
    have hgc := fun W hW => mgive_calls mb f ⟨m, p, t, sp, r, ch⟩ n W hW hd1 hd2 hd3
    rw [← hgv] at hgc
    by_cases he : gv.2.2 = 0
    · have HG := Aside0.mk (show (⟨lim, ⟨m, p, t, sp, r, ch⟩, f, lg⟩ : Sh).free mb n = (⟨lim, gv.2.1, gv.1, lf⟩, 0) by unfold Sh.free; rw [if_neg (by simp [hb])]; show (if ((mapShop mb).give f ⟨m, p, t, sp, r, ch⟩ n).2.2 = 0 then _ else _) = _; rw [← hgv, if_pos he, hlf])
      clear hgv
      obtain ⟨f', ⟨y0, y1, y2, y3, y4, y5⟩, ee⟩ := gv
      dsimp only at he hgc HG
      have te : (ee == 0) = true := by simp [he]
      have HE0 := Aside0.mk he
      have HGC := Aside0.mk hgc
      clear h hl hb hbd hl' hlf hgc he
      go_enter Tryz.func145, Tryz.ntmps145
      go_wp2_with fail
      refine (HBC.out w H.out).mono ?_
      rintro e w1 ⟨rfl, hs1, hf1⟩
      replace H := Aside0.mk hs1
      have HRW := Aside0.mk hf1
      clear hs1 hf1 HBC
      have a0 : w1.cell? ⟨ks, 0, none⟩ = some (.int .i64 lim) := (blk_cell H.out.1 0).trans rfl
      have a1 : w1.cell? ⟨ks, 1, none⟩ = some (.int .i64 m) := (blk_cell H.out.1 1).trans rfl
      have a2 : w1.cell? ⟨ks, 2, none⟩ = some (.int .i64 p) := (blk_cell H.out.1 2).trans rfl
      have a3 : w1.cell? ⟨ks, 3, none⟩ = some (.int .i64 t) := (blk_cell H.out.1 3).trans rfl
      have a4 : w1.cell? ⟨ks, 4, none⟩ = some (.int .i64 sp) := (blk_cell H.out.1 4).trans rfl
      have a5 : w1.cell? ⟨ks, 5, none⟩ = some (.int .i64 r) := (blk_cell H.out.1 5).trans rfl
      have a6 : w1.cell? ⟨ks, 6, none⟩ = some (.int .u64 ch) := (blk_cell H.out.1 6).trans rfl
      have a7 : w1.cell? ⟨ks, 7, none⟩ = some (.map (some mb)) := (blk_cell H.out.1 7).trans rfl
      have a8 : w1.cell? ⟨ks, 8, none⟩ = some (.int .i64 lf) := (blk_cell H.out.1 8).trans rfl
      go_wp2_with fail
      clear a0 a1 a2 a3 a4 a5 a6 a7 a8
      refine start_ (n := 17) (S := fun w' => w'.cell? ⟨ks, 1, none⟩ = some (.int .i64 m) ∧ w'.cell? ⟨ks, 2, none⟩ = some (.int .i64 p) ∧ w'.cell? ⟨ks, 3, none⟩ = some (.int .i64 t) ∧ w'.cell? ⟨ks, 4, none⟩ = some (.int .i64 sp) ∧ w'.cell? ⟨ks, 5, none⟩ = some (.int .i64 r) ∧ w'.cell? ⟨ks, 6, none⟩ = some (.int .u64 ch) ∧ w'.cell? ⟨ks, 7, none⟩ = some (.map (some mb))) (ds := [15]) #[false, false, false, false, false, false, false, false, false, false, false, false, false, false, false, false, false] (by kernel_rfl) rfl rfl ⟨(blk_cell (H.out.below (Below.refl _ _).drew).1 1).trans rfl, (blk_cell (H.out.below (Below.refl _ _).drew).1 2).trans rfl, (blk_cell (H.out.below (Below.refl _ _).drew).1 3).trans rfl, (blk_cell (H.out.below (Below.refl _ _).drew).1 4).trans rfl, (blk_cell (H.out.below (Below.refl _ _).drew).1 5).trans rfl, (blk_cell (H.out.below (Below.refl _ _).drew).1 6).trans rfl, (blk_cell (H.out.below (Below.refl _ _).drew).1 7).trans rfl⟩ (fun hHeld => ?_)
      replace H := Aside0.mk (H.out.below (Below.refl _ _).drew)
      replace HRW := Aside0.mk (Fr.then_below HRW.out (Below.refl _ _).drew)
      generalize w1.drew = wd at H HRW hHeld ⊢
      refine pure_ (i := 0) (N := some 15) (v := ?_) (a' := ?_) #[true, false, false, false, false, false, false, false, false, false, false, false, false, false, false, false, false] rfl rfl (by kernel_rfl) (fun _ _ _ h => h) (Or.inl ⟨by rfl, ?_⟩) ?_ ?_
      rotate_left
      · intro w'
        go_simp
        with_reducible rfl
      rotate_left
      · simp only [putAll, Act.put, List.setIfInBounds_toArray, List.set_cons_zero, List.set_cons_succ]
        rfl
      refine pure_ (i := 1) (N := some 16) (v := ?_) (a' := ?_) #[true, true, false, false, false, false, false, false, false, false, false, false, false, false, false, false, false] rfl rfl (by kernel_rfl) (fun _ _ _ h => h) (Or.inl ⟨by rfl, ?_⟩) ?_ ?_
      rotate_left
      · intro w'
        go_simp
        with_reducible rfl
      rotate_left
      · simp only [putAll, Act.put, List.setIfInBounds_toArray, List.set_cons_zero, List.set_cons_succ]
        rfl
      refine pure_ (i := 2) (N := some 17) (v := ?_) (a' := ?_) #[true, true, true, false, false, false, false, false, false, false, false, false, false, false, false, false, false] rfl rfl (by kernel_rfl) (fun _ _ _ h => h) (Or.inl ⟨by rfl, ?_⟩) ?_ ?_
      rotate_left
      · intro w'
        go_simp
        with_reducible rfl
      rotate_left
      · simp only [putAll, Act.put, List.setIfInBounds_toArray, List.set_cons_zero, List.set_cons_succ]
        rfl
      refine pure_ (i := 4) (N := some 19) (v := ?_) (a' := ?_) #[true, true, true, false, true, false, false, false, false, false, false, false, false, false, false, false, false] rfl rfl (by kernel_rfl) (fun _ _ _ h => h) (Or.inl ⟨by rfl, ?_⟩) ?_ ?_
      rotate_left
      · intro w'
        go_simp
        with_reducible rfl
      rotate_left
      · simp only [putAll, Act.put, List.setIfInBounds_toArray, List.set_cons_zero, List.set_cons_succ]
        rfl
      refine pure_ (i := 5) (N := some 20) (v := ?_) (a' := ?_) #[true, true, true, false, true, true, false, false, false, false, false, false, false, false, false, false, false] rfl rfl (by kernel_rfl) (fun _ _ _ h => h) (Or.inl ⟨by rfl, ?_⟩) ?_ ?_
      rotate_left
      · intro w'
        go_simp
        with_reducible rfl
      rotate_left
      · simp only [putAll, Act.put, List.setIfInBounds_toArray, List.set_cons_zero, List.set_cons_succ]
        rfl
      refine pure_ (i := 6) (N := some 21) (v := ?_) (a' := ?_) #[true, true, true, false, true, true, true, false, false, false, false, false, false, false, false, false, false] rfl rfl (by kernel_rfl) (fun _ _ _ h => h) (Or.inl ⟨by rfl, ?_⟩) ?_ ?_
      rotate_left
      · intro w'
        go_simp
        with_reducible rfl
      rotate_left
      · simp only [putAll, Act.put, List.setIfInBounds_toArray, List.set_cons_zero, List.set_cons_succ]
        rfl
      refine pure_ (i := 9) (N := some 24) (v := ?_) (a' := ?_) #[true, true, true, false, true, true, true, false, false, true, false, false, false, false, false, false, false] rfl rfl (by kernel_rfl) (fun _ _ _ h => h) (Or.inl ⟨by rfl, ?_⟩) ?_ ?_
      rotate_left
      · intro w'
        go_simp
        with_reducible rfl
      rotate_left
      · simp only [putAll, Act.put, List.setIfInBounds_toArray, List.set_cons_zero, List.set_cons_succ]
        rfl
      refine take_ (i := 3) (N := some 18) (v := ?_) (a' := ?_) #[true, true, true, true, true, true, true, false, false, true, false, false, false, false, false, false, false] rfl rfl (by kernel_rfl) (fun _ _ _ h => h) (Or.inl ⟨by rfl, ?_⟩) hHeld ?_ ?_
      rotate_left
      · rintro w' ⟨s1, s2, s3, s4, s5, s6, s7⟩
        go_simp
        with_reducible rfl
      rotate_left
      · simp only [putAll, Act.put, List.setIfInBounds_toArray, List.set_cons_zero, List.set_cons_succ]
        rfl
      refine take_ (i := 7) (N := some 22) (v := ?_) (a' := ?_) #[true, true, true, true, true, true, true, true, false, true, false, false, false, false, false, false, false] rfl rfl (by kernel_rfl) (fun _ _ _ h => h) (Or.inl ⟨by rfl, ?_⟩) hHeld ?_ ?_
      rotate_left
      · rintro w' ⟨s1, s2, s3, s4, s5, s6, s7⟩
        go_simp
        with_reducible rfl
      rotate_left
      · simp only [putAll, Act.put, List.setIfInBounds_toArray, List.set_cons_zero, List.set_cons_succ]
        rfl
      refine pure_ (i := 8) (N := some 23) (v := ?_) (a' := ?_) #[true, true, true, true, true, true, true, true, true, true, false, false, false, false, false, false, false] rfl rfl (by kernel_rfl) (fun _ _ _ h => h) (Or.inl ⟨by rfl, ?_⟩) ?_ ?_
      rotate_left
      · intro w'
        go_simp
        with_reducible rfl
      rotate_left
      · simp only [putAll, Act.put, List.setIfInBounds_toArray, List.set_cons_zero, List.set_cons_succ]
        rfl
      refine join_ 2 #[true, true, true, true, true, true, true, true, true, true, true, true, true, true, true, false, false] (fun q : Nat => [(25, .tuple #[.agg #[.int .i64 y0, .int .i64 y1, .int .i64 y2, .int .i64 y3, .int .i64 y4, .int .u64 y5], .int .i64 ee]), (14, .tuple #[.agg #[.int .i64 y0, .int .i64 y1, .int .i64 y2, .int .i64 y3, .int .i64 y4, .int .u64 y5], .int .i64 ee]), (26, .agg #[.int .i64 y0, .int .i64 y1, .int .i64 y2, .int .i64 y3, .int .i64 y4, .int .u64 y5]), (27, .int .i64 ee), (6, .pointer (some ⟨q, 0, none⟩))]) (fun q w' => ShAt ks mb w' ⟨lim, ⟨m, p, t, sp, r, ch⟩, f', lf⟩ ∧ Fr (ShF ks mb) w w' ∧ w'.heap[q]? = some (.cells #[.int .i64 0, .int .i64 0, .int .i64 0, .int .i64 0, .int .i64 0, .int .u64 0] 48 (0, 0)) ∧ ks ≠ q ∧ mb ≠ q ∧ w.heap.size ≤ q) ?_ (fun hcont => ?_)
      · intro q w3 hf
        obtain ⟨hS3, hR3, hQ3, hksq, hmbq, hqB⟩ := hf
        clear hHeld H HRW
        have qf0 : w3.frozen? ⟨q, 0, none⟩ = false := blk_frozen hQ3 0
        have qf1 : w3.frozen? ⟨q, 1, none⟩ = false := blk_frozen hQ3 1
        have qf2 : w3.frozen? ⟨q, 2, none⟩ = false := blk_frozen hQ3 2
        have qf3 : w3.frozen? ⟨q, 3, none⟩ = false := blk_frozen hQ3 3
        have qf4 : w3.frozen? ⟨q, 4, none⟩ = false := blk_frozen hQ3 4
        have qf5 : w3.frozen? ⟨q, 5, none⟩ = false := blk_frozen hQ3 5
        have qc0 : w3.cell? ⟨q, 0, none⟩ = some (.int .i64 0) := (blk_cell hQ3 0).trans rfl
        have qc1 : w3.cell? ⟨q, 1, none⟩ = some (.int .i64 0) := (blk_cell hQ3 1).trans rfl
        have qc2 : w3.cell? ⟨q, 2, none⟩ = some (.int .i64 0) := (blk_cell hQ3 2).trans rfl
        have qc3 : w3.cell? ⟨q, 3, none⟩ = some (.int .i64 0) := (blk_cell hQ3 3).trans rfl
        have qc4 : w3.cell? ⟨q, 4, none⟩ = some (.int .i64 0) := (blk_cell hQ3 4).trans rfl
        have qc5 : w3.cell? ⟨q, 5, none⟩ = some (.int .u64 0) := (blk_cell hQ3 5).trans rfl
        refine norm_ (a' := ?_) ?_ ?_
        rotate_left
        · simp only [putAll, Act.put, List.setIfInBounds_toArray, List.set_cons_zero, List.set_cons_succ]
          rfl
        refine last_ (i := 15) (N := none) #[true, true, true, true, true, true, true, true, true, true, true, true, true, true, true, true, false] rfl rfl (by kernel_rfl) (by decide) (fun K hK => ?_)
        refine skip_ (w1 := ((((((w3.setCell ⟨q, 0, none⟩ (.int .i64 y0)).setCell ⟨q, 1, none⟩ (.int .i64 y1)).setCell ⟨q, 2, none⟩ (.int .i64 y2)).setCell ⟨q, 3, none⟩ (.int .i64 y3)).setCell ⟨q, 4, none⟩ (.int .i64 y4)).setCell ⟨q, 5, none⟩ (.int .u64 y5))) (by rfl) rfl (by go_simp) ?_
        refine hK.out _ _ ?_
        clear hK K
        clear qf0 qc0 qf1 qc1 qf2 qc2 qf3 qc3 qf4 qc4 qf5 qc5
        have HS4 := Aside0.mk (shFar6 hS3 hksq hmbq (.int .i64 y0) (.int .i64 y1) (.int .i64 y2) (.int .i64 y3) (.int .i64 y4) (.int .u64 y5))
        have HR4 := Aside0.mk (shFrQ hR3 hqB (.int .i64 y0) (.int .i64 y1) (.int .i64 y2) (.int .i64 y3) (.int .i64 y4) (.int .u64 y5))
        have HQ4 := Aside0.mk (put6 hQ3 (.int .i64 y0) (.int .i64 y1) (.int .i64 y2) (.int .i64 y3) (.int .i64 y4) (.int .u64 y5))
        generalize ((((((w3.setCell ⟨q, 0, none⟩ (.int .i64 y0)).setCell ⟨q, 1, none⟩ (.int .i64 y1)).setCell ⟨q, 2, none⟩ (.int .i64 y2)).setCell ⟨q, 3, none⟩ (.int .i64 y3)).setCell ⟨q, 4, none⟩ (.int .i64 y4)).setCell ⟨q, 5, none⟩ (.int .u64 y5)) = w4 at HS4 HR4 HQ4 ⊢
        have HKQ := Aside0.mk hksq
        clear hS3 hR3 hQ3 hqB hksq hmbq
        refine pure_ (i := 16) (N := some 7) (v := ?_) (a' := ?_) #[true, true, true, true, true, true, true, true, true, true, true, true, true, true, true, true, true] rfl rfl (by kernel_rfl) (fun _ _ _ h => h) (Or.inl ⟨by rfl, ?_⟩) ?_ ?_
        rotate_left
        · intro w'
          go_simp
          with_reducible rfl
        rotate_left
        · simp only [putAll, Act.put, List.setIfInBounds_toArray, List.set_cons_zero, List.set_cons_succ]
          rfl
        refine done_ (by kernel_rfl) ?_
        have a0 : w4.cell? ⟨ks, 0, none⟩ = some (.int .i64 lim) := (blk_cell HS4.out.1 0).trans rfl
        have af0 : w4.frozen? ⟨ks, 0, none⟩ = false := blk_frozen HS4.out.1 0
        have a1 : w4.cell? ⟨ks, 1, none⟩ = some (.int .i64 m) := (blk_cell HS4.out.1 1).trans rfl
        have af1 : w4.frozen? ⟨ks, 1, none⟩ = false := blk_frozen HS4.out.1 1
        have a2 : w4.cell? ⟨ks, 2, none⟩ = some (.int .i64 p) := (blk_cell HS4.out.1 2).trans rfl
        have af2 : w4.frozen? ⟨ks, 2, none⟩ = false := blk_frozen HS4.out.1 2
        have a3 : w4.cell? ⟨ks, 3, none⟩ = some (.int .i64 t) := (blk_cell HS4.out.1 3).trans rfl
        have af3 : w4.frozen? ⟨ks, 3, none⟩ = false := blk_frozen HS4.out.1 3
        have a4 : w4.cell? ⟨ks, 4, none⟩ = some (.int .i64 sp) := (blk_cell HS4.out.1 4).trans rfl
        have af4 : w4.frozen? ⟨ks, 4, none⟩ = false := blk_frozen HS4.out.1 4
        have a5 : w4.cell? ⟨ks, 5, none⟩ = some (.int .i64 r) := (blk_cell HS4.out.1 5).trans rfl
        have af5 : w4.frozen? ⟨ks, 5, none⟩ = false := blk_frozen HS4.out.1 5
        have a6 : w4.cell? ⟨ks, 6, none⟩ = some (.int .u64 ch) := (blk_cell HS4.out.1 6).trans rfl
        have af6 : w4.frozen? ⟨ks, 6, none⟩ = false := blk_frozen HS4.out.1 6
        have a7 : w4.cell? ⟨ks, 7, none⟩ = some (.map (some mb)) := (blk_cell HS4.out.1 7).trans rfl
        have af7 : w4.frozen? ⟨ks, 7, none⟩ = false := blk_frozen HS4.out.1 7
        have a8 : w4.cell? ⟨ks, 8, none⟩ = some (.int .i64 lf) := (blk_cell HS4.out.1 8).trans rfl
        have af8 : w4.frozen? ⟨ks, 8, none⟩ = false := blk_frozen HS4.out.1 8
        have b0 : w4.cell? ⟨q, 0, none⟩ = some (.int .i64 y0) := (blk_cell HQ4.out 0).trans rfl
        have b1 : w4.cell? ⟨q, 1, none⟩ = some (.int .i64 y1) := (blk_cell HQ4.out 1).trans rfl
        have b2 : w4.cell? ⟨q, 2, none⟩ = some (.int .i64 y2) := (blk_cell HQ4.out 2).trans rfl
        have b3 : w4.cell? ⟨q, 3, none⟩ = some (.int .i64 y3) := (blk_cell HQ4.out 3).trans rfl
        have b4 : w4.cell? ⟨q, 4, none⟩ = some (.int .i64 y4) := (blk_cell HQ4.out 4).trans rfl
        have b5 : w4.cell? ⟨q, 5, none⟩ = some (.int .u64 y5) := (blk_cell HQ4.out 5).trans rfl
        have hkq : ¬ ks = q := HKQ.out
        have hqk : ¬ q = ks := Ne.symm HKQ.out
        go_wp2
        go_ret
        exact ⟨by rw [HG.out, HE0.out]; rfl, by rw [HG.out]; exact shPut6 HS4.out y0 y1 y2 y3 y4 y5, shFr6 HR4.out _ _ _ _ _ _⟩
      refine two_ (i := 10) (j := 14) (Ni := some 25) (Nj := some 6) #[true, true, true, true, true, true, true, true, true, true, true, false, false, false, false, false, false] #[true, true, true, true, true, true, true, true, true, true, false, false, false, false, true, false, false] rfl rfl rfl rfl (by kernel_rfl) (by decide) (by decide) (fun K hK => ?_) (fun K hK => ?_)
      · refine call_ 146 #[.agg #[.int .i64 m, .int .i64 p, .int .i64 t, .int .i64 sp, .int .i64 r, .int .u64 ch], .iface 70 (.map (some mb)), .int .i64 n] (by rfl) rfl (by go_simp) ?_
        refine (HGC.out wd (H.out).2).mono ?_
        rintro e w2 ⟨rfl, hm2, hf2⟩
        refine ⟨.tuple #[.agg #[.int .i64 y0, .int .i64 y1, .int .i64 y2, .int .i64 y3, .int .i64 y4, .int .u64 y5], .int .i64 ee], rfl, ?_⟩
        have hS2 := ShAt.fr H.out hf2 hm2
        have hR2 := HRW.out.trans (frMap (ks := ks) hf2) (fun _ _ h => h)
        refine hK.out _ _ ⟨(blk_cell (hS2).1 1).trans rfl, (blk_cell (hS2).1 2).trans rfl, (blk_cell (hS2).1 3).trans rfl, (blk_cell (hS2).1 4).trans rfl, (blk_cell (hS2).1 5).trans rfl, (blk_cell (hS2).1 6).trans rfl, (blk_cell (hS2).1 7).trans rfl⟩ (fun hHeld => ?_)
        clear hK K
        refine norm_ (a' := ?_) ?_ ?_
        rotate_left
        · show Act.put _ (some 25) _ = _
          simp only [putAll, Act.put, List.setIfInBounds_toArray, List.set_cons_zero, List.set_cons_succ]
          rfl
        refine pure_ (i := 11) (N := some 14) (v := ?_) (a' := ?_) #[true, true, true, true, true, true, true, true, true, true, true, true, false, false, false, false, false] rfl rfl (by kernel_rfl) (fun _ _ _ h => h) (Or.inl ⟨by rfl, ?_⟩) ?_ ?_
        rotate_left
        · intro w'
          go_simp
          with_reducible rfl
        rotate_left
        · simp only [putAll, Act.put, List.setIfInBounds_toArray, List.set_cons_zero, List.set_cons_succ]
          rfl
        refine pure_ (i := 12) (N := some 26) (v := ?_) (a' := ?_) #[true, true, true, true, true, true, true, true, true, true, true, true, true, false, false, false, false] rfl rfl (by kernel_rfl) (fun _ _ _ h => h) (Or.inl ⟨by rfl, ?_⟩) ?_ ?_
        rotate_left
        · intro w'
          go_simp
          with_reducible rfl
        rotate_left
        · simp only [putAll, Act.put, List.setIfInBounds_toArray, List.set_cons_zero, List.set_cons_succ]
          rfl
        refine pure_ (i := 13) (N := some 27) (v := ?_) (a' := ?_) #[true, true, true, true, true, true, true, true, true, true, true, true, true, true, false, false, false] rfl rfl (by kernel_rfl) (fun _ _ _ h => h) (Or.inl ⟨by rfl, ?_⟩) ?_ ?_
        rotate_left
        · intro w'
          go_simp
          with_reducible rfl
        rotate_left
        · simp only [putAll, Act.put, List.setIfInBounds_toArray, List.set_cons_zero, List.set_cons_succ]
          rfl
        refine one_ (i := 14) (N := some 6) #[true, true, true, true, true, true, true, true, true, true, true, true, true, true, true, false, false] rfl rfl (by kernel_rfl) (by decide) (fun K hK => ?_)
        refine value_ (v := .pointer (some ⟨w2.heap.size, 0, none⟩)) (w1 := w2.alloc (.cells #[.int .i64 0, .int .i64 0, .int .i64 0, .int .i64 0, .int .i64 0, .int .u64 0] 48)) (by rfl) rfl (by go_simp) ?_
        have hSa := hS2.below (below_alloc (Below.refl _ _) (.cells #[.int .i64 0, .int .i64 0, .int .i64 0, .int .i64 0, .int .i64 0, .int .u64 0] 48))
        refine hK.out _ _ ⟨(blk_cell (hSa).1 1).trans rfl, (blk_cell (hSa).1 2).trans rfl, (blk_cell (hSa).1 3).trans rfl, (blk_cell (hSa).1 4).trans rfl, (blk_cell (hSa).1 5).trans rfl, (blk_cell (hSa).1 6).trans rfl, (blk_cell (hSa).1 7).trans rfl⟩ (fun hHeld => ?_)
        clear hK K
        refine norm_ ?_ (hcont w2.heap.size _ ⟨hSa, hR2.alloc _, blk_new w2 _, Nat.ne_of_lt hS2.lt, Nat.ne_of_lt hS2.2.lt, hR2.size⟩)
        simp only [putAll, Act.put, List.setIfInBounds_toArray, List.set_cons_zero, List.set_cons_succ]
      · refine value_ (v := .pointer (some ⟨wd.heap.size, 0, none⟩)) (w1 := wd.alloc (.cells #[.int .i64 0, .int .i64 0, .int .i64 0, .int .i64 0, .int .i64 0, .int .u64 0] 48)) (by rfl) rfl (by go_simp) ?_
        have hSa := H.out.below (below_alloc (Below.refl _ _) (.cells #[.int .i64 0, .int .i64 0, .int .i64 0, .int .i64 0, .int .i64 0, .int .u64 0] 48))
        refine hK.out _ _ ⟨(blk_cell (hSa).1 1).trans rfl, (blk_cell (hSa).1 2).trans rfl, (blk_cell (hSa).1 3).trans rfl, (blk_cell (hSa).1 4).trans rfl, (blk_cell (hSa).1 5).trans rfl, (blk_cell (hSa).1 6).trans rfl, (blk_cell (hSa).1 7).trans rfl⟩ (fun hHeld => ?_)
        clear hK K
        refine norm_ (a' := ?_) ?_ ?_
        rotate_left
        · show Act.put _ (some 6) _ = _
          simp only [putAll, Act.put, List.setIfInBounds_toArray, List.set_cons_zero, List.set_cons_succ]
          rfl
        refine one_ (i := 10) (N := some 25) #[true, true, true, true, true, true, true, true, true, true, true, false, false, false, true, false, false] rfl rfl (by kernel_rfl) (by decide) (fun K hK => ?_)
        refine call_ 146 #[.agg #[.int .i64 m, .int .i64 p, .int .i64 t, .int .i64 sp, .int .i64 r, .int .u64 ch], .iface 70 (.map (some mb)), .int .i64 n] (by rfl) rfl (by go_simp) ?_
        refine (HGC.out _ (hSa).2).mono ?_
        rintro e w2 ⟨rfl, hm2, hf2⟩
        refine ⟨.tuple #[.agg #[.int .i64 y0, .int .i64 y1, .int .i64 y2, .int .i64 y3, .int .i64 y4, .int .u64 y5], .int .i64 ee], rfl, ?_⟩
        have hS2 := ShAt.fr hSa hf2 hm2
        have hR2 := (HRW.out.alloc (.cells #[.int .i64 0, .int .i64 0, .int .i64 0, .int .i64 0, .int .i64 0, .int .u64 0] 48)).trans (frMap (ks := ks) hf2) (fun _ _ h => h)
        refine hK.out _ _ ⟨(blk_cell (hS2).1 1).trans rfl, (blk_cell (hS2).1 2).trans rfl, (blk_cell (hS2).1 3).trans rfl, (blk_cell (hS2).1 4).trans rfl, (blk_cell (hS2).1 5).trans rfl, (blk_cell (hS2).1 6).trans rfl, (blk_cell (hS2).1 7).trans rfl⟩ (fun hHeld => ?_)
        clear hK K
        refine norm_ (a' := ?_) ?_ ?_
        rotate_left
        · show Act.put _ (some 25) _ = _
          simp only [putAll, Act.put, List.setIfInBounds_toArray, List.set_cons_zero, List.set_cons_succ]
          rfl
        refine pure_ (i := 11) (N := some 14) (v := ?_) (a' := ?_) #[true, true, true, true, true, true, true, true, true, true, true, true, false, false, true, false, false] rfl rfl (by kernel_rfl) (fun _ _ _ h => h) (Or.inl ⟨by rfl, ?_⟩) ?_ ?_
        rotate_left
        · intro w'
          go_simp
          with_reducible rfl
        rotate_left
        · simp only [putAll, Act.put, List.setIfInBounds_toArray, List.set_cons_zero, List.set_cons_succ]
          rfl
        refine pure_ (i := 12) (N := some 26) (v := ?_) (a' := ?_) #[true, true, true, true, true, true, true, true, true, true, true, true, true, false, true, false, false] rfl rfl (by kernel_rfl) (fun _ _ _ h => h) (Or.inl ⟨by rfl, ?_⟩) ?_ ?_
        rotate_left
        · intro w'
          go_simp
          with_reducible rfl
        rotate_left
        · simp only [putAll, Act.put, List.setIfInBounds_toArray, List.set_cons_zero, List.set_cons_succ]
          rfl
        refine pure_ (i := 13) (N := some 27) (v := ?_) (a' := ?_) #[true, true, true, true, true, true, true, true, true, true, true, true, true, true, true, false, false] rfl rfl (by kernel_rfl) (fun _ _ _ h => h) (Or.inl ⟨by rfl, ?_⟩) ?_ ?_
        rotate_left
        · intro w'
          go_simp
          with_reducible rfl
        rotate_left
        · simp only [putAll, Act.put, List.setIfInBounds_toArray, List.set_cons_zero, List.set_cons_succ]
          rfl
        refine norm_ ?_ (hcont wd.heap.size _ ⟨hS2, hR2, hf2.blk (blk_new wd _) (Nat.ne_of_gt H.out.2.lt), Nat.ne_of_lt H.out.lt, Nat.ne_of_lt H.out.2.lt, HRW.out.size⟩)
        simp only [putAll, Act.put, List.setIfInBounds_toArray, List.set_cons_zero, List.set_cons_succ]
    · have HG := Aside0.mk (show (⟨lim, ⟨m, p, t, sp, r, ch⟩, f, lg⟩ : Sh).free mb n = (⟨lim, ⟨m, p, t, sp, r, ch⟩, gv.1, lf⟩, gv.2.2) by unfold Sh.free; rw [if_neg (by simp [hb])]; show (if ((mapShop mb).give f ⟨m, p, t, sp, r, ch⟩ n).2.2 = 0 then _ else _) = _; rw [← hgv, if_neg he, hlf])
      clear hgv
      obtain ⟨f', ⟨y0, y1, y2, y3, y4, y5⟩, ee⟩ := gv
      dsimp only at he hgc HG
      have te : (ee == 0) = false := by simp [he]
      have HGC := Aside0.mk hgc
      clear h hl hb hbd hl' hlf hgc he
      go_enter Tryz.func145, Tryz.ntmps145
      go_wp2_with fail
      refine (HBC.out w H.out).mono ?_
      rintro e w1 ⟨rfl, hs1, hf1⟩
      replace H := Aside0.mk hs1
      have HRW := Aside0.mk hf1
      clear hs1 hf1 HBC
      have a0 : w1.cell? ⟨ks, 0, none⟩ = some (.int .i64 lim) := (blk_cell H.out.1 0).trans rfl
      have a1 : w1.cell? ⟨ks, 1, none⟩ = some (.int .i64 m) := (blk_cell H.out.1 1).trans rfl
      have a2 : w1.cell? ⟨ks, 2, none⟩ = some (.int .i64 p) := (blk_cell H.out.1 2).trans rfl
      have a3 : w1.cell? ⟨ks, 3, none⟩ = some (.int .i64 t) := (blk_cell H.out.1 3).trans rfl
      have a4 : w1.cell? ⟨ks, 4, none⟩ = some (.int .i64 sp) := (blk_cell H.out.1 4).trans rfl
      have a5 : w1.cell? ⟨ks, 5, none⟩ = some (.int .i64 r) := (blk_cell H.out.1 5).trans rfl
      have a6 : w1.cell? ⟨ks, 6, none⟩ = some (.int .u64 ch) := (blk_cell H.out.1 6).trans rfl
      have a7 : w1.cell? ⟨ks, 7, none⟩ = some (.map (some mb)) := (blk_cell H.out.1 7).trans rfl
      have a8 : w1.cell? ⟨ks, 8, none⟩ = some (.int .i64 lf) := (blk_cell H.out.1 8).trans rfl
      go_wp2_with fail
      clear a0 a1 a2 a3 a4 a5 a6 a7 a8
      refine start_ (n := 17) (S := fun w' => w'.cell? ⟨ks, 1, none⟩ = some (.int .i64 m) ∧ w'.cell? ⟨ks, 2, none⟩ = some (.int .i64 p) ∧ w'.cell? ⟨ks, 3, none⟩ = some (.int .i64 t) ∧ w'.cell? ⟨ks, 4, none⟩ = some (.int .i64 sp) ∧ w'.cell? ⟨ks, 5, none⟩ = some (.int .i64 r) ∧ w'.cell? ⟨ks, 6, none⟩ = some (.int .u64 ch) ∧ w'.cell? ⟨ks, 7, none⟩ = some (.map (some mb))) (ds := [15]) #[false, false, false, false, false, false, false, false, false, false, false, false, false, false, false, false, false] (by kernel_rfl) rfl rfl ⟨(blk_cell (H.out.below (Below.refl _ _).drew).1 1).trans rfl, (blk_cell (H.out.below (Below.refl _ _).drew).1 2).trans rfl, (blk_cell (H.out.below (Below.refl _ _).drew).1 3).trans rfl, (blk_cell (H.out.below (Below.refl _ _).drew).1 4).trans rfl, (blk_cell (H.out.below (Below.refl _ _).drew).1 5).trans rfl, (blk_cell (H.out.below (Below.refl _ _).drew).1 6).trans rfl, (blk_cell (H.out.below (Below.refl _ _).drew).1 7).trans rfl⟩ (fun hHeld => ?_)
      replace H := Aside0.mk (H.out.below (Below.refl _ _).drew)
      replace HRW := Aside0.mk (Fr.then_below HRW.out (Below.refl _ _).drew)
      generalize w1.drew = wd at H HRW hHeld ⊢
      refine pure_ (i := 0) (N := some 15) (v := ?_) (a' := ?_) #[true, false, false, false, false, false, false, false, false, false, false, false, false, false, false, false, false] rfl rfl (by kernel_rfl) (fun _ _ _ h => h) (Or.inl ⟨by rfl, ?_⟩) ?_ ?_
      rotate_left
      · intro w'
        go_simp
        with_reducible rfl
      rotate_left
      · simp only [putAll, Act.put, List.setIfInBounds_toArray, List.set_cons_zero, List.set_cons_succ]
        rfl
      refine pure_ (i := 1) (N := some 16) (v := ?_) (a' := ?_) #[true, true, false, false, false, false, false, false, false, false, false, false, false, false, false, false, false] rfl rfl (by kernel_rfl) (fun _ _ _ h => h) (Or.inl ⟨by rfl, ?_⟩) ?_ ?_
      rotate_left
      · intro w'
        go_simp
        with_reducible rfl
      rotate_left
      · simp only [putAll, Act.put, List.setIfInBounds_toArray, List.set_cons_zero, List.set_cons_succ]
        rfl
      refine pure_ (i := 2) (N := some 17) (v := ?_) (a' := ?_) #[true, true, true, false, false, false, false, false, false, false, false, false, false, false, false, false, false] rfl rfl (by kernel_rfl) (fun _ _ _ h => h) (Or.inl ⟨by rfl, ?_⟩) ?_ ?_
      rotate_left
      · intro w'
        go_simp
        with_reducible rfl
      rotate_left
      · simp only [putAll, Act.put, List.setIfInBounds_toArray, List.set_cons_zero, List.set_cons_succ]
        rfl
      refine pure_ (i := 4) (N := some 19) (v := ?_) (a' := ?_) #[true, true, true, false, true, false, false, false, false, false, false, false, false, false, false, false, false] rfl rfl (by kernel_rfl) (fun _ _ _ h => h) (Or.inl ⟨by rfl, ?_⟩) ?_ ?_
      rotate_left
      · intro w'
        go_simp
        with_reducible rfl
      rotate_left
      · simp only [putAll, Act.put, List.setIfInBounds_toArray, List.set_cons_zero, List.set_cons_succ]
        rfl
      refine pure_ (i := 5) (N := some 20) (v := ?_) (a' := ?_) #[true, true, true, false, true, true, false, false, false, false, false, false, false, false, false, false, false] rfl rfl (by kernel_rfl) (fun _ _ _ h => h) (Or.inl ⟨by rfl, ?_⟩) ?_ ?_
      rotate_left
      · intro w'
        go_simp
        with_reducible rfl
      rotate_left
      · simp only [putAll, Act.put, List.setIfInBounds_toArray, List.set_cons_zero, List.set_cons_succ]
        rfl
      refine pure_ (i := 6) (N := some 21) (v := ?_) (a' := ?_) #[true, true, true, false, true, true, true, false, false, false, false, false, false, false, false, false, false] rfl rfl (by kernel_rfl) (fun _ _ _ h => h) (Or.inl ⟨by rfl, ?_⟩) ?_ ?_
      rotate_left
      · intro w'
        go_simp
        with_reducible rfl
      rotate_left
      · simp only [putAll, Act.put, List.setIfInBounds_toArray, List.set_cons_zero, List.set_cons_succ]
        rfl
      refine pure_ (i := 9) (N := some 24) (v := ?_) (a' := ?_) #[true, true, true, false, true, true, true, false, false, true, false, false, false, false, false, false, false] rfl rfl (by kernel_rfl) (fun _ _ _ h => h) (Or.inl ⟨by rfl, ?_⟩) ?_ ?_
      rotate_left
      · intro w'
        go_simp
        with_reducible rfl
      rotate_left
      · simp only [putAll, Act.put, List.setIfInBounds_toArray, List.set_cons_zero, List.set_cons_succ]
        rfl
      refine take_ (i := 3) (N := some 18) (v := ?_) (a' := ?_) #[true, true, true, true, true, true, true, false, false, true, false, false, false, false, false, false, false] rfl rfl (by kernel_rfl) (fun _ _ _ h => h) (Or.inl ⟨by rfl, ?_⟩) hHeld ?_ ?_
      rotate_left
      · rintro w' ⟨s1, s2, s3, s4, s5, s6, s7⟩
        go_simp
        with_reducible rfl
      rotate_left
      · simp only [putAll, Act.put, List.setIfInBounds_toArray, List.set_cons_zero, List.set_cons_succ]
        rfl
      refine take_ (i := 7) (N := some 22) (v := ?_) (a' := ?_) #[true, true, true, true, true, true, true, true, false, true, false, false, false, false, false, false, false] rfl rfl (by kernel_rfl) (fun _ _ _ h => h) (Or.inl ⟨by rfl, ?_⟩) hHeld ?_ ?_
      rotate_left
      · rintro w' ⟨s1, s2, s3, s4, s5, s6, s7⟩
        go_simp
        with_reducible rfl
      rotate_left
      · simp only [putAll, Act.put, List.setIfInBounds_toArray, List.set_cons_zero, List.set_cons_succ]
        rfl
      refine pure_ (i := 8) (N := some 23) (v := ?_) (a' := ?_) #[true, true, true, true, true, true, true, true, true, true, false, false, false, false, false, false, false] rfl rfl (by kernel_rfl) (fun _ _ _ h => h) (Or.inl ⟨by rfl, ?_⟩) ?_ ?_
      rotate_left
      · intro w'
        go_simp
        with_reducible rfl
      rotate_left
      · simp only [putAll, Act.put, List.setIfInBounds_toArray, List.set_cons_zero, List.set_cons_succ]
        rfl
      refine join_ 2 #[true, true, true, true, true, true, true, true, true, true, true, true, true, true, true, false, false] (fun q : Nat => [(25, .tuple #[.agg #[.int .i64 y0, .int .i64 y1, .int .i64 y2, .int .i64 y3, .int .i64 y4, .int .u64 y5], .int .i64 ee]), (14, .tuple #[.agg #[.int .i64 y0, .int .i64 y1, .int .i64 y2, .int .i64 y3, .int .i64 y4, .int .u64 y5], .int .i64 ee]), (26, .agg #[.int .i64 y0, .int .i64 y1, .int .i64 y2, .int .i64 y3, .int .i64 y4, .int .u64 y5]), (27, .int .i64 ee), (6, .pointer (some ⟨q, 0, none⟩))]) (fun q w' => ShAt ks mb w' ⟨lim, ⟨m, p, t, sp, r, ch⟩, f', lf⟩ ∧ Fr (ShF ks mb) w w' ∧ w'.heap[q]? = some (.cells #[.int .i64 0, .int .i64 0, .int .i64 0, .int .i64 0, .int .i64 0, .int .u64 0] 48 (0, 0)) ∧ ks ≠ q ∧ mb ≠ q ∧ w.heap.size ≤ q) ?_ (fun hcont => ?_)
      · intro q w3 hf
        obtain ⟨hS3, hR3, hQ3, hksq, hmbq, hqB⟩ := hf
        clear hHeld H HRW
        have qf0 : w3.frozen? ⟨q, 0, none⟩ = false := blk_frozen hQ3 0
        have qf1 : w3.frozen? ⟨q, 1, none⟩ = false := blk_frozen hQ3 1
        have qf2 : w3.frozen? ⟨q, 2, none⟩ = false := blk_frozen hQ3 2
        have qf3 : w3.frozen? ⟨q, 3, none⟩ = false := blk_frozen hQ3 3
        have qf4 : w3.frozen? ⟨q, 4, none⟩ = false := blk_frozen hQ3 4
        have qf5 : w3.frozen? ⟨q, 5, none⟩ = false := blk_frozen hQ3 5
        have qc0 : w3.cell? ⟨q, 0, none⟩ = some (.int .i64 0) := (blk_cell hQ3 0).trans rfl
        have qc1 : w3.cell? ⟨q, 1, none⟩ = some (.int .i64 0) := (blk_cell hQ3 1).trans rfl
        have qc2 : w3.cell? ⟨q, 2, none⟩ = some (.int .i64 0) := (blk_cell hQ3 2).trans rfl
        have qc3 : w3.cell? ⟨q, 3, none⟩ = some (.int .i64 0) := (blk_cell hQ3 3).trans rfl
        have qc4 : w3.cell? ⟨q, 4, none⟩ = some (.int .i64 0) := (blk_cell hQ3 4).trans rfl
        have qc5 : w3.cell? ⟨q, 5, none⟩ = some (.int .u64 0) := (blk_cell hQ3 5).trans rfl
        refine norm_ (a' := ?_) ?_ ?_
        rotate_left
        · simp only [putAll, Act.put, List.setIfInBounds_toArray, List.set_cons_zero, List.set_cons_succ]
          rfl
        refine last_ (i := 15) (N := none) #[true, true, true, true, true, true, true, true, true, true, true, true, true, true, true, true, false] rfl rfl (by kernel_rfl) (by decide) (fun K hK => ?_)
        refine skip_ (w1 := ((((((w3.setCell ⟨q, 0, none⟩ (.int .i64 y0)).setCell ⟨q, 1, none⟩ (.int .i64 y1)).setCell ⟨q, 2, none⟩ (.int .i64 y2)).setCell ⟨q, 3, none⟩ (.int .i64 y3)).setCell ⟨q, 4, none⟩ (.int .i64 y4)).setCell ⟨q, 5, none⟩ (.int .u64 y5))) (by rfl) rfl (by go_simp) ?_
        refine hK.out _ _ ?_
        clear hK K
        clear qf0 qc0 qf1 qc1 qf2 qc2 qf3 qc3 qf4 qc4 qf5 qc5
        have HS4 := Aside0.mk (shFar6 hS3 hksq hmbq (.int .i64 y0) (.int .i64 y1) (.int .i64 y2) (.int .i64 y3) (.int .i64 y4) (.int .u64 y5))
        have HR4 := Aside0.mk (shFrQ hR3 hqB (.int .i64 y0) (.int .i64 y1) (.int .i64 y2) (.int .i64 y3) (.int .i64 y4) (.int .u64 y5))
        have HQ4 := Aside0.mk (put6 hQ3 (.int .i64 y0) (.int .i64 y1) (.int .i64 y2) (.int .i64 y3) (.int .i64 y4) (.int .u64 y5))
        generalize ((((((w3.setCell ⟨q, 0, none⟩ (.int .i64 y0)).setCell ⟨q, 1, none⟩ (.int .i64 y1)).setCell ⟨q, 2, none⟩ (.int .i64 y2)).setCell ⟨q, 3, none⟩ (.int .i64 y3)).setCell ⟨q, 4, none⟩ (.int .i64 y4)).setCell ⟨q, 5, none⟩ (.int .u64 y5)) = w4 at HS4 HR4 HQ4 ⊢
        have HKQ := Aside0.mk hksq
        clear hS3 hR3 hQ3 hqB hksq hmbq
        refine pure_ (i := 16) (N := some 7) (v := ?_) (a' := ?_) #[true, true, true, true, true, true, true, true, true, true, true, true, true, true, true, true, true] rfl rfl (by kernel_rfl) (fun _ _ _ h => h) (Or.inl ⟨by rfl, ?_⟩) ?_ ?_
        rotate_left
        · intro w'
          go_simp
          with_reducible rfl
        rotate_left
        · simp only [putAll, Act.put, List.setIfInBounds_toArray, List.set_cons_zero, List.set_cons_succ]
          rfl
        refine done_ (by kernel_rfl) ?_
        go_wp2
        go_ret
        exact ⟨by rw [HG.out]; rfl, by rw [HG.out]; exact HS4.out, HR4.out⟩
      refine two_ (i := 10) (j := 14) (Ni := some 25) (Nj := some 6) #[true, true, true, true, true, true, true, true, true, true, true, false, false, false, false, false, false] #[true, true, true, true, true, true, true, true, true, true, false, false, false, false, true, false, false] rfl rfl rfl rfl (by kernel_rfl) (by decide) (by decide) (fun K hK => ?_) (fun K hK => ?_)
      · refine call_ 146 #[.agg #[.int .i64 m, .int .i64 p, .int .i64 t, .int .i64 sp, .int .i64 r, .int .u64 ch], .iface 70 (.map (some mb)), .int .i64 n] (by rfl) rfl (by go_simp) ?_
        refine (HGC.out wd (H.out).2).mono ?_
        rintro e w2 ⟨rfl, hm2, hf2⟩
        refine ⟨.tuple #[.agg #[.int .i64 y0, .int .i64 y1, .int .i64 y2, .int .i64 y3, .int .i64 y4, .int .u64 y5], .int .i64 ee], rfl, ?_⟩
        have hS2 := ShAt.fr H.out hf2 hm2
        have hR2 := HRW.out.trans (frMap (ks := ks) hf2) (fun _ _ h => h)
        refine hK.out _ _ ⟨(blk_cell (hS2).1 1).trans rfl, (blk_cell (hS2).1 2).trans rfl, (blk_cell (hS2).1 3).trans rfl, (blk_cell (hS2).1 4).trans rfl, (blk_cell (hS2).1 5).trans rfl, (blk_cell (hS2).1 6).trans rfl, (blk_cell (hS2).1 7).trans rfl⟩ (fun hHeld => ?_)
        clear hK K
        refine norm_ (a' := ?_) ?_ ?_
        rotate_left
        · show Act.put _ (some 25) _ = _
          simp only [putAll, Act.put, List.setIfInBounds_toArray, List.set_cons_zero, List.set_cons_succ]
          rfl
        refine pure_ (i := 11) (N := some 14) (v := ?_) (a' := ?_) #[true, true, true, true, true, true, true, true, true, true, true, true, false, false, false, false, false] rfl rfl (by kernel_rfl) (fun _ _ _ h => h) (Or.inl ⟨by rfl, ?_⟩) ?_ ?_
        rotate_left
        · intro w'
          go_simp
          with_reducible rfl
        rotate_left
        · simp only [putAll, Act.put, List.setIfInBounds_toArray, List.set_cons_zero, List.set_cons_succ]
          rfl
        refine pure_ (i := 12) (N := some 26) (v := ?_) (a' := ?_) #[true, true, true, true, true, true, true, true, true, true, true, true, true, false, false, false, false] rfl rfl (by kernel_rfl) (fun _ _ _ h => h) (Or.inl ⟨by rfl, ?_⟩) ?_ ?_
        rotate_left
        · intro w'
          go_simp
          with_reducible rfl
        rotate_left
        · simp only [putAll, Act.put, List.setIfInBounds_toArray, List.set_cons_zero, List.set_cons_succ]
          rfl
        refine pure_ (i := 13) (N := some 27) (v := ?_) (a' := ?_) #[true, true, true, true, true, true, true, true, true, true, true, true, true, true, false, false, false] rfl rfl (by kernel_rfl) (fun _ _ _ h => h) (Or.inl ⟨by rfl, ?_⟩) ?_ ?_
        rotate_left
        · intro w'
          go_simp
          with_reducible rfl
        rotate_left
        · simp only [putAll, Act.put, List.setIfInBounds_toArray, List.set_cons_zero, List.set_cons_succ]
          rfl
        refine one_ (i := 14) (N := some 6) #[true, true, true, true, true, true, true, true, true, true, true, true, true, true, true, false, false] rfl rfl (by kernel_rfl) (by decide) (fun K hK => ?_)
        refine value_ (v := .pointer (some ⟨w2.heap.size, 0, none⟩)) (w1 := w2.alloc (.cells #[.int .i64 0, .int .i64 0, .int .i64 0, .int .i64 0, .int .i64 0, .int .u64 0] 48)) (by rfl) rfl (by go_simp) ?_
        have hSa := hS2.below (below_alloc (Below.refl _ _) (.cells #[.int .i64 0, .int .i64 0, .int .i64 0, .int .i64 0, .int .i64 0, .int .u64 0] 48))
        refine hK.out _ _ ⟨(blk_cell (hSa).1 1).trans rfl, (blk_cell (hSa).1 2).trans rfl, (blk_cell (hSa).1 3).trans rfl, (blk_cell (hSa).1 4).trans rfl, (blk_cell (hSa).1 5).trans rfl, (blk_cell (hSa).1 6).trans rfl, (blk_cell (hSa).1 7).trans rfl⟩ (fun hHeld => ?_)
        clear hK K
        refine norm_ ?_ (hcont w2.heap.size _ ⟨hSa, hR2.alloc _, blk_new w2 _, Nat.ne_of_lt hS2.lt, Nat.ne_of_lt hS2.2.lt, hR2.size⟩)
        simp only [putAll, Act.put, List.setIfInBounds_toArray, List.set_cons_zero, List.set_cons_succ]
      · refine value_ (v := .pointer (some ⟨wd.heap.size, 0, none⟩)) (w1 := wd.alloc (.cells #[.int .i64 0, .int .i64 0, .int .i64 0, .int .i64 0, .int .i64 0, .int .u64 0] 48)) (by rfl) rfl (by go_simp) ?_
        have hSa := H.out.below (below_alloc (Below.refl _ _) (.cells #[.int .i64 0, .int .i64 0, .int .i64 0, .int .i64 0, .int .i64 0, .int .u64 0] 48))
        refine hK.out _ _ ⟨(blk_cell (hSa).1 1).trans rfl, (blk_cell (hSa).1 2).trans rfl, (blk_cell (hSa).1 3).trans rfl, (blk_cell (hSa).1 4).trans rfl, (blk_cell (hSa).1 5).trans rfl, (blk_cell (hSa).1 6).trans rfl, (blk_cell (hSa).1 7).trans rfl⟩ (fun hHeld => ?_)
        clear hK K
        refine norm_ (a' := ?_) ?_ ?_
        rotate_left
        · show Act.put _ (some 6) _ = _
          simp only [putAll, Act.put, List.setIfInBounds_toArray, List.set_cons_zero, List.set_cons_succ]
          rfl
        refine one_ (i := 10) (N := some 25) #[true, true, true, true, true, true, true, true, true, true, true, false, false, false, true, false, false] rfl rfl (by kernel_rfl) (by decide) (fun K hK => ?_)
        refine call_ 146 #[.agg #[.int .i64 m, .int .i64 p, .int .i64 t, .int .i64 sp, .int .i64 r, .int .u64 ch], .iface 70 (.map (some mb)), .int .i64 n] (by rfl) rfl (by go_simp) ?_
        refine (HGC.out _ (hSa).2).mono ?_
        rintro e w2 ⟨rfl, hm2, hf2⟩
        refine ⟨.tuple #[.agg #[.int .i64 y0, .int .i64 y1, .int .i64 y2, .int .i64 y3, .int .i64 y4, .int .u64 y5], .int .i64 ee], rfl, ?_⟩
        have hS2 := ShAt.fr hSa hf2 hm2
        have hR2 := (HRW.out.alloc (.cells #[.int .i64 0, .int .i64 0, .int .i64 0, .int .i64 0, .int .i64 0, .int .u64 0] 48)).trans (frMap (ks := ks) hf2) (fun _ _ h => h)
        refine hK.out _ _ ⟨(blk_cell (hS2).1 1).trans rfl, (blk_cell (hS2).1 2).trans rfl, (blk_cell (hS2).1 3).trans rfl, (blk_cell (hS2).1 4).trans rfl, (blk_cell (hS2).1 5).trans rfl, (blk_cell (hS2).1 6).trans rfl, (blk_cell (hS2).1 7).trans rfl⟩ (fun hHeld => ?_)
        clear hK K
        refine norm_ (a' := ?_) ?_ ?_
        rotate_left
        · show Act.put _ (some 25) _ = _
          simp only [putAll, Act.put, List.setIfInBounds_toArray, List.set_cons_zero, List.set_cons_succ]
          rfl
        refine pure_ (i := 11) (N := some 14) (v := ?_) (a' := ?_) #[true, true, true, true, true, true, true, true, true, true, true, true, false, false, true, false, false] rfl rfl (by kernel_rfl) (fun _ _ _ h => h) (Or.inl ⟨by rfl, ?_⟩) ?_ ?_
        rotate_left
        · intro w'
          go_simp
          with_reducible rfl
        rotate_left
        · simp only [putAll, Act.put, List.setIfInBounds_toArray, List.set_cons_zero, List.set_cons_succ]
          rfl
        refine pure_ (i := 12) (N := some 26) (v := ?_) (a' := ?_) #[true, true, true, true, true, true, true, true, true, true, true, true, true, false, true, false, false] rfl rfl (by kernel_rfl) (fun _ _ _ h => h) (Or.inl ⟨by rfl, ?_⟩) ?_ ?_
        rotate_left
        · intro w'
          go_simp
          with_reducible rfl
        rotate_left
        · simp only [putAll, Act.put, List.setIfInBounds_toArray, List.set_cons_zero, List.set_cons_succ]
          rfl
        refine pure_ (i := 13) (N := some 27) (v := ?_) (a' := ?_) #[true, true, true, true, true, true, true, true, true, true, true, true, true, true, true, false, false] rfl rfl (by kernel_rfl) (fun _ _ _ h => h) (Or.inl ⟨by rfl, ?_⟩) ?_ ?_
        rotate_left
        · intro w'
          go_simp
          with_reducible rfl
        rotate_left
        · simp only [putAll, Act.put, List.setIfInBounds_toArray, List.set_cons_zero, List.set_cons_succ]
          rfl
        refine norm_ ?_ (hcont wd.heap.size _ ⟨hS2, hR2, hf2.blk (blk_new wd _) (Nat.ne_of_gt H.out.2.lt), Nat.ne_of_lt H.out.lt, Nat.ne_of_lt H.out.2.lt, HRW.out.size⟩)
        simp only [putAll, Act.put, List.setIfInBounds_toArray, List.set_cons_zero, List.set_cons_succ]
  · have HG := Aside0.mk (show (⟨lim, ⟨m, p, t, sp, r, ch⟩, f, lg⟩ : Sh).free mb n = ((⟨lim, ⟨m, p, t, sp, r, ch⟩, f, lf⟩ : Sh), (⟨lim, ⟨m, p, t, sp, r, ch⟩, f, lg⟩ : Sh).beg n) by unfold Sh.free; rw [if_pos hb]; unfold Sh.dec; dsimp only; rw [hlf])
    obtain ⟨b, hbb⟩ : ∃ b, b = (⟨lim, ⟨m, p, t, sp, r, ch⟩, f, lg⟩ : Sh).beg n := ⟨_, rfl⟩
    have HBC := Aside0.mk (begin_at ks mb hl' hlf hbb.symm)
    rw [← hbb] at hb HG
    have t0 : (b != 0) = true := by simp [hb]
    clear h hl hb hbb hbd hl' hlf
    go_enter Tryz.func145, Tryz.ntmps145
    go_wp2_with fail
    refine (HBC.out w H.out).mono ?_
    rintro e w1 ⟨rfl, hs1, hf1⟩
    have HS1 := Aside0.mk hs1
    have HF1 := Aside0.mk hf1
    clear HBC hs1 hf1
    go_wp2
    go_ret
    exact ⟨by rw [HG.out]; rfl, by rw [HG.out]; exact HS1.out, HF1.out⟩
end Go.Proofs.YtonbipaajhokfaaGreatDoor
end
