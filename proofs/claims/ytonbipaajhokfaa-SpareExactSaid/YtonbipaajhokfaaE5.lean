/-
  PROVED: cahierlaw09.SpareExact answers true at every head, slice of pages and slice of ints, and its arguments read as they did; no condition.
-/
import Derived.Test.YtonbipaajhokfaaG7
import Derived.Test.YtonbipaajhokfaaRows
import Derived.WalkKit
import Derived.ProofKit
import Derived.OpenShut
import Derived.Deep.SlicePairs
namespace Go.Proofs.Ytonbipaajhokfaa.spareExact
open Go.ChangeShapes Go.WideShapes Go.ChangeAt Go.RowKit Go.Deep
open Go.Proofs.YtonbipaajhokfaaW.PrintWords
set_option linter.unusedVariables false

theorem own : ownKnob Try.prog.godebug = none := by kernel_rfl
theorem laidOut : laidOutB Try.prog = true := by kernel_rfl
theorem cells3 : Try.prog.cellsOf 3 = 1 := by kernel_rfl
theorem cells9 : Try.prog.cellsOf 9 = 1 := by kernel_rfl
theorem cells33 : Try.prog.cellsOf 33 = 1 := by kernel_rfl
theorem cells35 : Try.prog.cellsOf 35 = 6 := by kernel_rfl
theorem cells45 : Try.prog.cellsOf 45 = 2 := by kernel_rfl

theorem C_opened {W : World} {a : Addr} {len cap : Nat} {zs : List Int} (hl : len ≤ cap) (hm : cap ≤ maxLen) (hz : zs.length = cap) (hcell : ∀ i, i < zs.length → W.cell? (a.add i) = some (.int .i64 (zs.getD i 0))) :
    Kd.C (Kd.int .i64) W (some a) (zs.take len).length (zs.take len) := by
  have h1 : (zs.take len).length = len := by rw [List.length_take]; omega
  refine Kd.C_of_reads (d := 0) ⟨rfl, ?_, fun hp => ⟨a, rfl, fun j hj => ?_⟩⟩
  · rw [h1]; unfold maxLen at hm; omega
  · rw [hcell j (by omega)]
    rw [List.getD_eq_getElem?_getD, List.getD_eq_getElem?_getD, List.getElem?_take_of_lt (by omega)]

/-- A row of pages, opened. -/
theorem pages_opened {W : World} {a : Addr} {len : Nat} (hm : len ≤ maxLen) (each : ∀ i, i < len → ∃ q : Int × ByteArray, W.cell? (a.add (i * 2)) = some (.int .i64 q.1) ∧ W.cell? (a.add (i * 2 + 1)) = some (.string q.2)) :
    ∃ pl : List (Int × ByteArray), pl.length = len ∧ (Kd.pair (Kd.int .i64) Kd.string).C W (some a) pl.length pl := by
  obtain ⟨f, hf⟩ : ∃ f : Nat → Int × ByteArray, ∀ i, i < len → W.cell? (a.add (i * 2)) = some (.int .i64 (f i).1) ∧ W.cell? (a.add (i * 2 + 1)) = some (.string (f i).2) :=
    ⟨fun i => if h : i < len then Classical.choose (each i h) else (0, ByteArray.empty), fun i h => by simp only [h, dite_true]; exact Classical.choose_spec (each i h)⟩
  have hl : ((List.range len).map f).length = len := by simp
  refine ⟨(List.range len).map f, hl, rfl, by rw [hl]; unfold maxLen at hm; omega, fun _ => ⟨a, rfl, fun j p hj => ?_⟩⟩
  obtain ⟨hj1, hj2⟩ := List.getElem?_eq_some_iff.1 hj
  rw [hl] at hj1
  have hp : p = f j := by rw [← hj2]; simp
  subst hp
  obtain ⟨h0, h1⟩ := hf j hj1
  refine ⟨[.int .i64 (f j).1, .string (f j).2], rfl, ⟨[_], [_], rfl, rfl, rfl⟩, fun i u hu => ?_⟩
  rcases i with _ | _ | i
  · cases hu; exact h0
  · cases hu; exact h1
  · simp at hu

section
variable {H : Type} {enc : TypeId × Value → H} {W : World} {base : Nat} {sp : Nat → Bool} {held : Bool}
set_option maxRecDepth 100000 in
/-- A head, opened. -/
theorem head_opened {r : Reach} {b0 : Nat} {v : Value} {d : DataW H} {p : List MemPlace} (hv : Value.okWide Try.prog W r b0 35 v) (h : DataW.Trod enc Try.prog W base sp held 35 v d p) :
    ∃ m q t s o c : Int, v = .agg #[.int .i64 m, .int .i64 q, .int .i64 t, .int .i64 s, .int .i64 o, .int .u64 c] := by
  obtain ⟨cs, rfl, hsz⟩ := okWide_struct Try.underlying35 hv
  obtain ⟨l⟩ := cs
  obtain ⟨fuel, hf⟩ := h
  obtain ⟨xs, n, -, -, -, hlen, hg⟩ := DataW.trod_struct Try.underlying35 hf
  match l, hsz.trans cells35 with
  | [c0, c1, c2, c3, c4, c5], _ =>
    have one : ∀ (j : Nat) (c : Value), xs[j]? = some (xs.getD j (.nil, [])) → DataW.trod enc Try.prog W base sp held n 3 [c] = xs[j]? → ∃ k : Int, c = .int .i64 k := fun j c h1 h2 => by
      rw [h1] at h2
      obtain ⟨k, e, -, -⟩ := DataW.trod_int Try.underlying3 h2
      simp only [List.cons.injEq, and_true] at e
      exact ⟨k, e⟩
    have some_ : ∀ j, j < 6 → xs[j]? = some (xs.getD j (.nil, [])) := fun j hj => by
      have : j < xs.length := by rw [hlen]; exact hj
      rw [List.getD_eq_getElem?_getD, List.getElem?_eq_getElem this]; rfl
    obtain ⟨m, rfl⟩ := one 0 c0 (some_ 0 (by decide)) (hg 0 _ rfl)
    obtain ⟨q, rfl⟩ := one 1 c1 (some_ 1 (by decide)) (hg 1 _ rfl)
    obtain ⟨t, rfl⟩ := one 2 c2 (some_ 2 (by decide)) (hg 2 _ rfl)
    obtain ⟨s, rfl⟩ := one 3 c3 (some_ 3 (by decide)) (hg 3 _ rfl)
    obtain ⟨o, rfl⟩ := one 4 c4 (some_ 4 (by decide)) (hg 4 _ rfl)
    have h5 := hg 5 _ rfl
    rw [some_ 5 (by decide)] at h5
    obtain ⟨c, e, -, -⟩ := DataW.trod_int Try.underlying33 h5
    have e5 : c5 = .int .u64 c := by simpa [Value.cells, cells33] using e
    subst e5
    exact ⟨m, q, t, s, o, c, rfl⟩
end

set_option maxRecDepth 100000 in
theorem lifted (os : Os) (started : os.Started) (H : Type) (enc : TypeId × Value → H) :
    ReturnsInHanded {} Try.checked os 4 .any (Rows.spareExactSpec.pre6 enc Try.prog Try.f4 Rows.spareExactRow.domain false) (Rows.spareExactSpec.post enc Try.prog Try.f4 false true false false) := by
  refine returnsInHanded_of_change (C := Try.checked) own started (by kernel_rfl) Try.func4
    (ChangeSpec.witness6 (enc := enc) (C := Try.checked) false ⟨#[], #[.agg #[.int .i64 0, .int .i64 0, .int .i64 0, .int .i64 0, .int .i64 0, .int .u64 0], .slice none 0 0, .slice none 0 0], []⟩ 8 (by kernel_rfl) (by kernel_rfl) (by kernel_rfl) (by kernel_rfl)) ?_
  intro W base args ds gs before hval0 hW hcnd _
  have hval : ∀ (j : Nat) t v, Try.f4.params[j]? = some t → args[j]? = some v → Value.okWide Try.prog W .any base t v := hval0
  have hW' := hW
  obtain ⟨p, q, hA0, hV, rfl, hfz, hnd⟩ := hW
  have hA : DataW.TrodAll enc Try.prog W 0 (fun _ => true) true Try.f4.params.toList args.toList ds p := hA0
  rw [Try.params4] at hA hval
  obtain ⟨v0, v1, v2, d0, d1, d2, p0, p1, p2, rfl, rfl, rfl, h0, h1, h2⟩ := trodAll_three hA
  obtain ⟨rfl, rfl⟩ := trodVars_none hV
  have h0k := h0
  have h1k := h1
  have h2k := h2
  clear hA0 hval0
  simp only [List.append_nil] at hW'
  have hlt : ∀ x, x ∈ p0 ∨ x ∈ p1 ∨ x ∈ p2 → x.block < W.heap.size := fun x hx => by have := hW'.lt x (by simpa using hx); simpa using this
  obtain ⟨m, pg, t, s, o, c, rfl⟩ := head_opened (hval 0 35 v0 rfl rfl) h0
  obtain ⟨a1, len1, cap1, rfl⟩ := okWide_slice Try.underlying36 (hval 1 36 v1 rfl rfl)
  obtain ⟨a2, len2, cap2, rfl⟩ := okWide_slice Try.underlying22 (hval 2 22 v2 rfl rfl)
  obtain ⟨fuel1, hf1⟩ := h1
  obtain ⟨fuel2, hf2⟩ := h2
  have hP : ∃ pl : List (Int × ByteArray), pl.length = len1 ∧ (Kd.pair (Kd.int .i64) Kd.string).C W a1 pl.length pl := by
    rcases open_slice_pairs Try.underlying36 Try.underlying45 cells45 rfl rfl cells3 cells9 hf1 with ⟨hcs, hx⟩ | ⟨a, len', cap', mm, n, V0, V1, D0, D1, P0, P1, hcs, _, hl, hm, hmm, hx, hi⟩
    · simp [Value.cells] at hcs
      obtain ⟨rfl, rfl, rfl⟩ := hcs
      exact ⟨[], rfl, Kd.C_nil _ _⟩
    · simp [Value.cells] at hcs
      obtain ⟨rfl, rfl, rfl⟩ := hcs
      refine pages_opened (Nat.le_trans hl hm) (fun i him => ?_)
      simp only [if_true] at hmm
      obtain ⟨g0, g1, g2, g3⟩ := hi i (by omega)
      obtain ⟨k, e0, -, -⟩ := DataW.trod_int Try.underlying3 g2
      obtain ⟨z, e1, -⟩ := DataW.trod_string Try.underlying9 g3
      simp only [List.cons.injEq, and_true] at e0 e1
      exact ⟨(k, z), by rw [g0, e0], by rw [g1, e1]⟩
  have hC : ∃ l, l.length = len2 ∧ Kd.C (Kd.int .i64) W a2 l.length l := by
    rcases open_ints Try.underlying22 Try.underlying3 cells3 hf2 with ⟨hcs, hx⟩ | ⟨a, len', cap', zs, hcs, _, hl, hm, hz, hx, hcell, hwz⟩
    · simp [Value.cells] at hcs
      obtain ⟨rfl, rfl, rfl⟩ := hcs
      exact ⟨[], rfl, Kd.C_nil _ _⟩
    · simp [Value.cells] at hcs
      obtain ⟨rfl, rfl, rfl⟩ := hcs
      simp only [if_true] at hz
      have h1 : (zs.take len2).length = len2 := by rw [List.length_take]; omega
      exact ⟨_, h1, C_opened hl hm hz hcell⟩
  obtain ⟨pl, rfl, hpl⟩ := hP
  obtain ⟨l, rfl, hl⟩ := hC
  refine (spareExact_calls m pg t s o c a1 cap1 pl a2 cap2 l W hpl hl).mono fun e W' ⟨he, hg⟩ => ?_
  subst he
  have hargs0 : DataW.Trod enc Try.prog W' 0 (fun b => decide (b < W.heap.size)) true 35 (.agg #[.int .i64 m, .int .i64 pg, .int .i64 t, .int .i64 s, .int .i64 o, .int .u64 c]) _ _ :=
    Below.trod laidOut (by kernel_rfl) (of_decide_eq_true (by kernel_rfl)) h0k hg (fun x hx => hlt x (Or.inl hx))
  have hargs1 : DataW.Trod enc Try.prog W' 0 (fun b => decide (b < W.heap.size)) true 36 (.slice a1 pl.length cap1) _ _ :=
    Below.trod laidOut (by kernel_rfl) (of_decide_eq_true (by kernel_rfl)) h1k hg (fun x hx => hlt x (Or.inr (Or.inl hx)))
  have hargs2 : DataW.Trod enc Try.prog W' 0 (fun b => decide (b < W.heap.size)) true 22 (.slice a2 l.length cap2) _ _ :=
    Below.trod laidOut (by kernel_rfl) (of_decide_eq_true (by kernel_rfl)) h2k hg (fun x hx => hlt x (Or.inr (Or.inr hx)))
  exact ⟨_, rfl, ⟨_, _, _, [], _, [], hW', trodAll_mk1 (shut_bool Try.underlying4 _), trodAll_mk3 hargs0 hargs1 hargs2, rfl, hg.frame _, fun h => by cases h⟩⟩

theorem over : Rows.spareExactRow.holds Try.pinned (OpenSpec.ofChange Rows.spareExactSpec) :=
  OpenClaim.holds_of_wide 4 Try.f4 rfl rfl rfl rfl rfl rfl rfl ⟨rfl, rfl, rfl, rfl, rfl⟩ rfl rfl rfl rfl rfl (by kernel_rfl) Try.func4 (by kernel_rfl)
    (of_decide_eq_true (by kernel_rfl)) (by unfold Func.isWrapper; first | (rw [if_pos (by decide +kernel)]; kernel_rfl) | (rw [if_neg (by decide +kernel)]; exact ⟨rfl, rfl⟩))
    (fun os started H enc _ => lifted os started H enc)

theorem proved : Rows.SpareExactSaid :=
  over
#print axioms proved
end Go.Proofs.Ytonbipaajhokfaa.spareExact
