/-
  PROVED: cahierlaw10.ShelfOnce answers true at every int and slice of bools, and its arguments read as they did; no condition.
-/
import Derived.Test.YtonbipaajhokfaaH9
import Derived.Test.YtonbipaajhokfaaRows
import Derived.WalkKit
import Derived.ProofKit
import Derived.OpenShut
import Derived.Deep.Slices
namespace Go.Proofs.Ytonbipaajhokfaa.shelfOnce
open Go.ChangeShapes Go.WideShapes Go.ChangeAt Go.RowKit Go.Deep
open Go.Proofs.YtonbipaajhokfaaW.PrintWords
set_option linter.unusedVariables false

theorem own : ownKnob Try.prog.godebug = none := by kernel_rfl
theorem laidOut : laidOutB Try.prog = true := by kernel_rfl
theorem cells4 : Try.prog.cellsOf 4 = 1 := by kernel_rfl

/-- A row of bools, opened. -/
theorem bools_opened {W : World} {a : Addr} {len : Nat} (hm : len ≤ maxLen) (each : ∀ i, i < len → ∃ q : Bool, W.cell? (a.add i) = some (.bool q)) :
    ∃ pl : List Bool, pl.length = len ∧ Kd.bool.C W (some a) pl.length pl := by
  obtain ⟨f, hf⟩ : ∃ f : Nat → Bool, ∀ i, i < len → W.cell? (a.add i) = some (.bool (f i)) :=
    ⟨fun i => if h : i < len then Classical.choose (each i h) else false, fun i h => by simp only [h, dite_true]; exact Classical.choose_spec (each i h)⟩
  have hl : ((List.range len).map f).length = len := by simp
  refine ⟨(List.range len).map f, hl, rfl, by rw [hl]; unfold maxLen at hm; omega, fun _ => ⟨a, rfl, fun j p hj => ?_⟩⟩
  obtain ⟨hj1, hj2⟩ := List.getElem?_eq_some_iff.1 hj
  rw [hl] at hj1
  have hp : p = f j := by rw [← hj2]; simp
  subst hp
  refine ⟨[.bool (f j)], rfl, rfl, fun i u hu => ?_⟩
  rcases i with _ | i
  · cases hu
    have := hf j hj1
    show W.cell? (a.add (j * 1 + 0)) = _
    rw [Nat.mul_one, Nat.add_zero]
    exact this
  · simp at hu

set_option maxRecDepth 100000 in
theorem lifted (os : Os) (started : os.Started) (H : Type) (enc : TypeId × Value → H) :
    ReturnsInHanded {} Try.checked os 10 .any (Rows.shelfOnceSpec.pre6 enc Try.prog Try.f10 Rows.shelfOnceRow.domain false) (Rows.shelfOnceSpec.post enc Try.prog Try.f10 false true false false) := by
  refine returnsInHanded_of_change (C := Try.checked) own started (by kernel_rfl) Try.func10
    (ChangeSpec.witness6 (enc := enc) (C := Try.checked) false ⟨#[], #[.int .i64 0, .slice none 0 0], []⟩ 8 (by kernel_rfl) (by kernel_rfl) (by kernel_rfl) (by kernel_rfl)) ?_
  intro W base args ds gs before hval0 hW hcnd _
  have hval : ∀ (j : Nat) t v, Try.f10.params[j]? = some t → args[j]? = some v → Value.okWide Try.prog W .any base t v := hval0
  have hW' := hW
  obtain ⟨p, q, hA0, hV, rfl, hfz, hnd⟩ := hW
  have hA : DataW.TrodAll enc Try.prog W 0 (fun _ => true) true Try.f10.params.toList args.toList ds p := hA0
  rw [Try.params10] at hA hval
  obtain ⟨v0, v1, d0, d1, p0, p1, rfl, rfl, rfl, h0, h1⟩ := trodAll_two hA
  obtain ⟨rfl, rfl⟩ := trodVars_none hV
  have h1k := h1
  clear hA0 hval0
  simp only [List.append_nil] at hW'
  have hlt : ∀ x, x ∈ p0 ∨ x ∈ p1 → x.block < W.heap.size := fun x hx => by have := hW'.lt x (by simpa using hx); simpa using this
  obtain ⟨n, rfl, rfl, rfl, wn⟩ := open_int Try.underlying3 (hval 0 3 v0 rfl rfl) h0
  obtain ⟨a1, len1, cap1, rfl⟩ := okWide_slice Try.underlying59 (hval 1 59 v1 rfl rfl)
  obtain ⟨fuel1, hf1⟩ := h1
  have hC : ∃ l : List Bool, l.length = len1 ∧ Kd.bool.C W a1 l.length l := by
    rcases open_slice1 Try.underlying59 cells4 hf1 with ⟨hcs, hx⟩ | ⟨a, len', cap', mm, n, V0, D0, P0, hcs, _, hl, hm, hmm, hx, hi⟩
    · simp [Value.cells] at hcs
      obtain ⟨rfl, rfl, rfl⟩ := hcs
      exact ⟨[], rfl, Kd.C_nil _ _⟩
    · simp [Value.cells] at hcs
      obtain ⟨rfl, rfl, rfl⟩ := hcs
      refine bools_opened (Nat.le_trans hl hm) (fun i him => ?_)
      simp only [if_true] at hmm
      obtain ⟨g0, g1⟩ := hi i (by omega)
      obtain ⟨k, e0, -⟩ := DataW.trod_bool Try.underlying4 g1
      simp only [List.cons.injEq, and_true] at e0
      exact ⟨k, by rw [g0, e0]⟩
  obtain ⟨l, rfl, hl⟩ := hC
  refine (shelfOnce_calls n a1 cap1 l W hl).mono fun e W' ⟨he, hg⟩ => ?_
  subst he
  have hargs1 : DataW.Trod enc Try.prog W' 0 (fun b => decide (b < W.heap.size)) true 59 (.slice a1 l.length cap1) _ _ :=
    Below.trod laidOut (by kernel_rfl) (of_decide_eq_true (by kernel_rfl)) h1k hg (fun x hx => hlt x (Or.inr hx))
  exact ⟨_, rfl, ⟨_, _, _, [], _, [], hW', trodAll_mk1 (shut_bool Try.underlying4 _), trodAll_mk2 (shut_int Try.underlying3 wn) hargs1, rfl, hg.frame _, fun h => by cases h⟩⟩

theorem over : Rows.shelfOnceRow.holds Try.pinned (OpenSpec.ofChange Rows.shelfOnceSpec) :=
  OpenClaim.holds_of_wide 10 Try.f10 rfl rfl rfl rfl rfl rfl rfl ⟨rfl, rfl, rfl, rfl, rfl⟩ rfl rfl rfl rfl rfl (by kernel_rfl) Try.func10 (by kernel_rfl)
    (of_decide_eq_true (by kernel_rfl)) (by unfold Func.isWrapper; first | (rw [if_pos (by decide +kernel)]; kernel_rfl) | (rw [if_neg (by decide +kernel)]; exact ⟨rfl, rfl⟩))
    (fun os started H enc _ => lifted os started H enc)

theorem proved : Rows.ShelfOnceSaid :=
  over
#print axioms proved
end Go.Proofs.Ytonbipaajhokfaa.shelfOnce
