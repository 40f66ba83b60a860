/-
  PROVED: cahierlaw09.SparePages answers true at every trunk and string, and its arguments read as they did; no condition.
-/
import Derived.Test.YtonbipaajhokfaaF6
import Derived.Test.YtonbipaajhokfaaRows
import Derived.WalkKit
import Derived.ProofKit
import Derived.OpenShut
import Derived.Lib.SmallJoins
namespace Go.Proofs.Ytonbipaajhokfaa.sparePages
open Go.ChangeShapes Go.WideShapes Go.ChangeAt Go.RowKit Go.Joins
open Go.ChangeMaps (open_string)
open Go.Proofs.YtonbipaajhokfaaW.PrintWords
set_option linter.unusedVariables false

theorem own : ownKnob Try.prog.godebug = none := by kernel_rfl
theorem laidOut : laidOutB Try.prog = true := by kernel_rfl
theorem cells3 : Try.prog.cellsOf 3 = 1 := by kernel_rfl
theorem cells24 : Try.prog.cellsOf 24 = 2 := by kernel_rfl

theorem C_opened {W : World} {a : Addr} {len cap : Nat} {zs : List Int} (hl : len ≤ cap) (hm : cap ≤ maxLen) (hz : zs.length = cap) (hcell : ∀ i, i < zs.length → W.cell? (a.add i) = some (.int .i64 (zs.getD i 0))) :
    Kd.C (Kd.int .i64) W (some a) (zs.take len).length (zs.take len) := by
  have h1 : (zs.take len).length = len := by rw [List.length_take]; omega
  refine Kd.C_of_reads (d := 0) ⟨rfl, ?_, fun hp => ⟨a, rfl, fun j hj => ?_⟩⟩
  · rw [h1]; unfold maxLen at hm; omega
  · rw [hcell j (by omega)]
    rw [List.getD_eq_getElem?_getD, List.getD_eq_getElem?_getD, List.getElem?_take_of_lt (by omega)]

set_option maxRecDepth 100000 in
theorem lifted (os : Os) (started : os.Started) (H : Type) (enc : TypeId × Value → H) :
    ReturnsInHanded {} Try.checked os 3 .any (Rows.sparePagesSpec.pre6 enc Try.prog Try.f3 Rows.sparePagesRow.domain false) (Rows.sparePagesSpec.post enc Try.prog Try.f3 false true false false) := by
  refine returnsInHanded_of_change (C := Try.checked) own started (by kernel_rfl) Try.func3
    (ChangeSpec.witness6 (enc := enc) (C := Try.checked) false ⟨#[], #[.agg #[.int .i64 0, .slice none 0 0], .string ⟨#[]⟩], []⟩ 8 (by kernel_rfl) (by kernel_rfl) (by kernel_rfl) (by kernel_rfl)) ?_
  intro W base args ds gs before hval0 hW hcnd _
  have hval : ∀ (j : Nat) t v, Try.f3.params[j]? = some t → args[j]? = some v → Value.okWide Try.prog W .any base t v := hval0
  have hW' := hW
  obtain ⟨p, q, hA0, hV, rfl, hfz, hnd⟩ := hW
  have hA : DataW.TrodAll enc Try.prog W 0 (fun _ => true) true Try.f3.params.toList args.toList ds p := hA0
  rw [Try.params3] at hA hval
  obtain ⟨v0, v1, d0, d1, p0, p1, rfl, rfl, rfl, h0, h1⟩ := trodAll_two hA
  obtain ⟨rfl, rfl⟩ := trodVars_none hV
  have h0k := h0
  have h1k := h1
  clear hA0 hval0
  simp only [List.append_nil] at hW'
  have hlt : ∀ x ∈ p0 ++ p1, x.block < W.heap.size := fun x hx => by simpa using hW'.lt x hx
  obtain ⟨s, rfl, rfl, rfl, hs⟩ := open_string Try.underlying9 (hval 1 9 v1 rfl rfl) h1
  obtain ⟨c0, c1, y0, y1, m, rfl, rfl, rfl, hy0, hy1⟩ := open_agg2 Try.underlying24 (by kernel_rfl) cells24 (hval 0 24 v0 rfl rfl) h0
  obtain ⟨n, e0, rfl, wn⟩ := DataW.trod_int Try.underlying3 hy0
  simp only [List.cons.injEq, and_true] at e0
  subst e0
  have hC : ∃ a0 cap l, c1 = .slice a0 l.length cap ∧ Kd.C (Kd.int .i64) W a0 l.length l ∧ l.length ≤ cap := by
    rcases open_ints Try.underlying22 Try.underlying3 cells3 hy1 with ⟨hcs, hx⟩ | ⟨a, len', cap', zs, hcs, _, hl, hm, hz, hx, hcell, hwz⟩
    · simp only [List.cons.injEq, and_true] at hcs
      exact ⟨none, 0, [], hcs, Kd.C_nil _ _, Nat.le_refl _⟩
    · simp only [List.cons.injEq, and_true] at hcs
      simp only [if_true] at hz
      have h1 : (zs.take len').length = len' := by rw [List.length_take]; omega
      exact ⟨some a, cap', zs.take len', by rw [h1]; exact hcs, C_opened hl hm hz hcell, by omega⟩
  obtain ⟨a0, cap, l, rfl, hl, hlc⟩ := hC
  refine (sparePages_calls n a0 cap l s W hl hlc).mono fun e W' ⟨he, hg⟩ => ?_
  subst he
  have hargs0 : DataW.Trod enc Try.prog W' 0 (fun b => decide (b < W.heap.size)) true 24 (.agg #[.int .i64 n, .slice a0 l.length cap]) _ _ :=
    Below.trod laidOut (by kernel_rfl) (of_decide_eq_true (by kernel_rfl)) h0k hg (fun x hx => hlt x (by simp only [List.mem_append] at hx ⊢; exact Or.inl hx))
  have hargs1 : DataW.Trod enc Try.prog W' 0 (fun b => decide (b < W.heap.size)) true 9 (.string s) _ _ :=
    Below.trod laidOut (by kernel_rfl) (of_decide_eq_true (by kernel_rfl)) h1k hg (fun x hx => hlt x (by simp at hx))
  exact ⟨_, rfl, ⟨_, _, _, [], _, [], hW', trodAll_mk1 (shut_bool Try.underlying4 _), trodAll_mk2 hargs0 hargs1, rfl, hg.frame _, fun h => by cases h⟩⟩

theorem over : Rows.sparePagesRow.holds Try.pinned (OpenSpec.ofChange Rows.sparePagesSpec) :=
  OpenClaim.holds_of_wide 3 Try.f3 rfl rfl rfl rfl rfl rfl rfl ⟨rfl, rfl, rfl, rfl, rfl⟩ rfl rfl rfl rfl rfl (by kernel_rfl) Try.func3 (by kernel_rfl)
    (of_decide_eq_true (by kernel_rfl)) (by unfold Func.isWrapper; first | (rw [if_pos (by decide +kernel)]; kernel_rfl) | (rw [if_neg (by decide +kernel)]; exact ⟨rfl, rfl⟩))
    (fun os started H enc _ => lifted os started H enc)

theorem proved : Rows.SparePagesSaid :=
  over
#print axioms proved
end Go.Proofs.Ytonbipaajhokfaa.sparePages
