/-
  PROVED: cahierlaw10.ShelfFails answers true at every two slices of acts and int, and its arguments read as they did; no condition.
-/
import Derived.Test.YtonbipaajhokfaaH11
import Derived.Test.YtonbipaajhokfaaRows
import Derived.WalkKit
import Derived.ProofKit
import Derived.OpenShut
import Derived.Deep.Slices
namespace Go.Proofs.Ytonbipaajhokfaa.shelfFails
open Go.ChangeShapes Go.WideShapes Go.ChangeAt Go.RowKit Go.Deep
open Go.Proofs.YtonbipaajhokfaaW.PrintWords
set_option linter.unusedVariables false

theorem own : ownKnob Try.prog.godebug = none := by kernel_rfl
theorem laidOut : laidOutB Try.prog = true := by kernel_rfl
theorem cells74 : Try.prog.cellsOf 74 = 4 := by kernel_rfl

/-- A row of acts, opened. -/
theorem acts_opened {W : World} {a : Addr} {len : Nat} (hm : len ≤ maxLen) (each : ∀ i, i < len → ∃ q : Act4, W.cell? (a.add (i * 4)) = some (.int .i64 q.1) ∧ W.cell? (a.add (i * 4 + 1)) = some (.int .i64 q.2.1) ∧ W.cell? (a.add (i * 4 + 2)) = some (.string q.2.2.1) ∧ W.cell? (a.add (i * 4 + 3)) = some (.bool q.2.2.2)) :
    ∃ pl : List Act4, pl.length = len ∧ Kd.act.C W (some a) pl.length pl := by
  obtain ⟨f, hf⟩ : ∃ f : Nat → Act4, ∀ i, i < len → W.cell? (a.add (i * 4)) = some (.int .i64 (f i).1) ∧ W.cell? (a.add (i * 4 + 1)) = some (.int .i64 (f i).2.1) ∧ W.cell? (a.add (i * 4 + 2)) = some (.string (f i).2.2.1) ∧ W.cell? (a.add (i * 4 + 3)) = some (.bool (f i).2.2.2) :=
    ⟨fun i => if h : i < len then Classical.choose (each i h) else act0, fun i h => by simp only [h, dite_true]; exact Classical.choose_spec (each i h)⟩
  have hl : ((List.range len).map f).length = len := by simp
  refine ⟨(List.range len).map f, hl, rfl, by rw [hl]; unfold maxLen at hm; omega, fun _ => ⟨a, rfl, fun j p hj => ?_⟩⟩
  obtain ⟨hj1, hj2⟩ := List.getElem?_eq_some_iff.1 hj
  rw [hl] at hj1
  have hp : p = f j := by rw [← hj2]; simp
  subst hp
  obtain ⟨h0, h1, h2, h3⟩ := hf j hj1
  refine ⟨[.int .i64 (f j).1, .int .i64 (f j).2.1, .string (f j).2.2.1, .bool (f j).2.2.2], rfl, ⟨[_], [_, _, _], rfl, rfl, [_], [_, _], rfl, rfl, [_], [_], rfl, rfl, rfl⟩, fun i u hu => ?_⟩
  rcases i with _ | _ | _ | _ | i
  · cases hu; exact h0
  · cases hu; exact h1
  · cases hu; exact h2
  · cases hu; exact h3
  · simp at hu

section
variable {H : Type} {enc : TypeId × Value → H} {W : World} {base : Nat} {sp : Nat → Bool} {held : Bool}
set_option maxRecDepth 100000 in
/-- An act's cells, opened. -/
theorem act_opened {fuel : Nat} {cs : List Value} {x : DataW H × List MemPlace} (h : DataW.trod enc Try.prog W base sp held fuel 74 cs = some x) (hlen : cs.length = 4) :
    ∃ q : Act4, cs = [.int .i64 q.1, .int .i64 q.2.1, .string q.2.2.1, .bool q.2.2.2] := by
  obtain ⟨xs, n, -, -, -, hx, hg⟩ := DataW.trod_struct Try.underlying74 h
  match cs, hlen with
  | [c0, c1, c2, c3], _ =>
    have some_ : ∀ j, j < 4 → xs[j]? = some (xs.getD j (.nil, [])) := fun j hj => by
      have : j < xs.length := by rw [hx]; exact hj
      rw [List.getD_eq_getElem?_getD, List.getElem?_eq_getElem this]; rfl
    have g0 : DataW.trod enc Try.prog W base sp held n 3 [c0] = xs[0]? := hg 0 _ rfl
    have g1 : DataW.trod enc Try.prog W base sp held n 3 [c1] = xs[1]? := hg 1 _ rfl
    have g2 : DataW.trod enc Try.prog W base sp held n 9 [c2] = xs[2]? := hg 2 _ rfl
    have g3 : DataW.trod enc Try.prog W base sp held n 4 [c3] = xs[3]? := hg 3 _ rfl
    rw [some_ 0 (by decide)] at g0
    rw [some_ 1 (by decide)] at g1
    rw [some_ 2 (by decide)] at g2
    rw [some_ 3 (by decide)] at g3
    obtain ⟨k, e0, -, -⟩ := DataW.trod_int Try.underlying3 g0
    obtain ⟨m, e1, -, -⟩ := DataW.trod_int Try.underlying3 g1
    obtain ⟨s, e2, -, -⟩ := DataW.trod_string Try.underlying9 g2
    obtain ⟨b, e3, -⟩ := DataW.trod_bool Try.underlying4 g3
    simp only [List.cons.injEq, and_true] at e0 e1 e2 e3
    exact ⟨(k, m, s, b), by rw [e0, e1, e2, e3]⟩
/-- A slice of acts, opened. -/
theorem act_row {A : Option Addr} {len cap fuel : Nat} {x : DataW H × List MemPlace} (h : DataW.trod enc Try.prog W base sp held fuel 72 [.slice A len cap] = some x) :
    ∃ pl : List Act4, pl.length = len ∧ Kd.act.C W A pl.length pl := by
  rcases open_slice Try.underlying72 h with ⟨hcs, hx⟩ | ⟨a, len', cap', mm, n, D, P, hcs, _, hl, hm, hmm, hx, hi⟩
  · simp only [List.cons.injEq, and_true, Value.slice.injEq] at hcs
    obtain ⟨rfl, rfl, rfl⟩ := hcs
    exact ⟨[], rfl, Kd.C_nil _ _⟩
  · simp only [List.cons.injEq, and_true, Value.slice.injEq] at hcs
    obtain ⟨rfl, rfl, rfl⟩ := hcs
    refine acts_opened (Nat.le_trans hl hm) (fun i him => ?_)
    have hlm : i < mm := by rw [hmm]; split <;> omega
    obtain ⟨cs', h1, h2⟩ := hi i hlm
    rw [cells74] at h1
    obtain ⟨-, hlen, hcell⟩ := World.cells?_some h1
    obtain ⟨q, rfl⟩ := act_opened h2 hlen
    have c0 := hcell 0 (by decide)
    have c1 := hcell 1 (by decide)
    have c2 := hcell 2 (by decide)
    have c3 := hcell 3 (by decide)
    rw [Go.Deep.add_add] at c0 c1 c2 c3
    exact ⟨q, c0, c1, c2, c3⟩
end

set_option maxRecDepth 100000 in
theorem lifted (os : Os) (started : os.Started) (H : Type) (enc : TypeId × Value → H) :
    ReturnsInHanded {} Try.checked os 9 .any (Rows.shelfFailsSpec.pre6 enc Try.prog Try.f9 Rows.shelfFailsRow.domain false) (Rows.shelfFailsSpec.post enc Try.prog Try.f9 false true false false) := by
  refine returnsInHanded_of_change (C := Try.checked) own started (by kernel_rfl) Try.func9
    (ChangeSpec.witness6 (enc := enc) (C := Try.checked) false ⟨#[], #[.slice none 0 0, .int .i64 0, .slice none 0 0], []⟩ 8 (by kernel_rfl) (by kernel_rfl) (by kernel_rfl) (by kernel_rfl)) ?_
  intro W base args ds gs before hval0 hW hcnd _
  have hval : ∀ (j : Nat) t v, Try.f9.params[j]? = some t → args[j]? = some v → Value.okWide Try.prog W .any base t v := hval0
  have hW' := hW
  obtain ⟨p, q, hA0, hV, rfl, hfz, hnd⟩ := hW
  have hA : DataW.TrodAll enc Try.prog W 0 (fun _ => true) true Try.f9.params.toList args.toList ds p := hA0
  rw [Try.params9] at hA hval
  obtain ⟨v0, v1, v2, d0, d1, d2, p0, p1, p2, rfl, rfl, rfl, h0, h1, h2⟩ := trodAll_three hA
  obtain ⟨rfl, rfl⟩ := trodVars_none hV
  have h0k := h0
  have h2k := h2
  clear hA0 hval0
  simp only [List.append_nil] at hW'
  have hlt : ∀ x, x ∈ p0 ∨ x ∈ p1 ∨ x ∈ p2 → x.block < W.heap.size := fun x hx => by have := hW'.lt x (by simpa using hx); simpa using this
  obtain ⟨a0, len0, cap0, rfl⟩ := okWide_slice Try.underlying72 (hval 0 72 v0 rfl rfl)
  obtain ⟨n, rfl, rfl, rfl, wn⟩ := open_int Try.underlying3 (hval 1 3 v1 rfl rfl) h1
  obtain ⟨a2, len2, cap2, rfl⟩ := okWide_slice Try.underlying72 (hval 2 72 v2 rfl rfl)
  obtain ⟨fuel0, hf0⟩ := h0
  obtain ⟨fuel2, hf2⟩ := h2
  obtain ⟨pl, rfl, hpl⟩ := act_row hf0
  obtain ⟨l, rfl, hl⟩ := act_row hf2
  refine (shelfFails_calls n a0 cap0 pl a2 cap2 l W hpl hl).mono fun e W' ⟨he, hg⟩ => ?_
  subst he
  have hargs0 : DataW.Trod enc Try.prog W' 0 (fun b => decide (b < W.heap.size)) true 72 (.slice a0 pl.length cap0) _ _ :=
    Below.trod laidOut (by kernel_rfl) (of_decide_eq_true (by kernel_rfl)) h0k hg (fun x hx => hlt x (Or.inl hx))
  have hargs2 : DataW.Trod enc Try.prog W' 0 (fun b => decide (b < W.heap.size)) true 72 (.slice a2 l.length cap2) _ _ :=
    Below.trod laidOut (by kernel_rfl) (of_decide_eq_true (by kernel_rfl)) h2k hg (fun x hx => hlt x (Or.inr (Or.inr hx)))
  exact ⟨_, rfl, ⟨_, _, _, [], _, [], hW', trodAll_mk1 (shut_bool Try.underlying4 _), trodAll_mk3 hargs0 (shut_int Try.underlying3 wn) hargs2, rfl, hg.frame _, fun h => by cases h⟩⟩

theorem over : Rows.shelfFailsRow.holds Try.pinned (OpenSpec.ofChange Rows.shelfFailsSpec) :=
  OpenClaim.holds_of_wide 9 Try.f9 rfl rfl rfl rfl rfl rfl rfl ⟨rfl, rfl, rfl, rfl, rfl⟩ rfl rfl rfl rfl rfl (by kernel_rfl) Try.func9 (by kernel_rfl)
    (of_decide_eq_true (by kernel_rfl)) (by unfold Func.isWrapper; first | (rw [if_pos (by decide +kernel)]; kernel_rfl) | (rw [if_neg (by decide +kernel)]; exact ⟨rfl, rfl⟩))
    (fun os started H enc _ => lifted os started H enc)

theorem proved : Rows.ShelfFailsSaid :=
  over
#print axioms proved
end Go.Proofs.Ytonbipaajhokfaa.shelfFails
