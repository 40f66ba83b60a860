/-
  A shelf's book of pages: a map from ints to strings, its two operations, its methods; it is a store (Shop) whose calls answer (Live).
-/
import Derived.Test.YtonbipaajhokfaaKE
import Derived.Test.YtonbipaajhokfaaC4
import Derived.Maps.Own
set_option linter.unusedVariables false
set_option linter.unusedSimpArgs false
namespace Go.Proofs.Ytonbipaajhokfaa
open Go.RowKit Go.Proofs.YtonbipaajhokfaaW.PrintWords Go.Proofs.YtonbipaajhokfaaW.PrintLast Go.Proofs.YtonbipaajhokfaaW.PrintMore
open Go.MapKept

/-- The entries of a map that holds f. -/
structure Ents (es : Array MapEntry) (f : Int → Option ByteArray) : Prop where
  form : ∀ (i : Nat) (e : MapEntry), es[i]? = some e → ∃ k d, e.key = .int .i64 k ∧ e.val = .string d ∧ f k = some d
  all : ∀ k d, f k = some d → ∃ (i : Nat) (e : MapEntry), es[i]? = some e ∧ e.key = .int .i64 k
  dist : ∀ (i j : Nat) (e e' : MapEntry), es[i]? = some e → es[j]? = some e' → e.key = e'.key → i = j
def MapAt (w : World) (mb : Nat) (f : Int → Option ByteArray) : Prop := ∃ es clock, w.heap[mb]? = some (.map es clock) ∧ Ents es f
def upd (f : Int → Option ByteArray) (n : Int) (d : ByteArray) : Int → Option ByteArray := fun m => if m = n then some d else f m

theorem u90 : Try.prog.underlying 90 = some (.map 3 9) := by kernel_rfl
theorem zero9 (w : World) : (zeroValue 9).run Try.prog w = .ok (.string ⟨#[]⟩) w := by kernel_rfl
theorem key_int (n : Int) : IsKey (.int .i64) (.int .i64 n) := rfl
theorem Ents.keys {es : Array MapEntry} {f : Int → Option ByteArray} (h : Ents es f) : ∀ x ∈ es.toList, IsKey (.int .i64) x.key := fun x hx => by
  obtain ⟨i, hi, e⟩ := List.getElem_of_mem hx
  obtain ⟨k, d, h1, -⟩ := h.form i x (by rw [← e]; simp at hi; simp [hi])
  rw [h1]; rfl
theorem map_look {w : World} {mb : Nat} {f : Int → Option ByteArray} (h : MapAt w mb f) (n : Int) :
    (Instr.lookup 90 (.map (some mb)) (.int .i64 n) true).run Try.prog w = .ok (.tuple #[.string ((f n).getD ⟨#[]⟩), .bool (f n).isSome]) w := by
  obtain ⟨es, clock, hb, hE⟩ := h
  rcases findNow_spec (key_int n) es.toList 0 hE.keys with ⟨h1, h2⟩ | ⟨j, e, h1, h2, h3⟩
  · have hn : f n = none := by
      cases hf : f n with
      | none => rfl
      | some d =>
        obtain ⟨i, e, h4, h5⟩ := hE.all n d hf
        exact absurd h5 (h2 e (List.mem_of_getElem? (by simpa using h4)))
    simp [Instr.lookup, run_underlying u90, Go.MapKept.run_getObj_map hb, Go.MapKept.run_checkKey Try.underlying3 (key_int n), Go.MapKept.run_findKey Try.underlying3 h1, zero9, Result.andThen, hn]
  · obtain ⟨k, d, h4, h5, h6⟩ := hE.form j e (by simpa using h2)
    rw [h3] at h4
    cases h4
    simp [Instr.lookup, run_underlying u90, Go.MapKept.run_getObj_map hb, Go.MapKept.run_checkKey Try.underlying3 (key_int n), Go.MapKept.run_findKey Try.underlying3 h1, Result.andThen, h5, h6]
/-- Another world but for one block. -/
structure Turned (mb : Nat) (w w' : World) : Prop where
  os : w'.os = w.os
  tape : w'.tape = w.tape
  output : w'.output = w.output
  size : w'.heap.size = w.heap.size
  block : ∀ k, k ≠ mb → w'.heap[k]? = w.heap[k]?
theorem Ents.put {es : Array MapEntry} {f : Int → Option ByteArray} (h : Ents es f) {n : Int} {d : ByteArray} {clock : Nat} (hn : ∀ x ∈ es.toList, x.key ≠ .int .i64 n) : Ents (es.push ⟨.int .i64 n, .string d, clock⟩) (upd f n d) where
  form := fun i e he => by
    rw [Array.getElem?_push] at he
    split at he
    · cases he; exact ⟨n, d, rfl, rfl, by simp [upd]⟩
    · obtain ⟨k, d', h1, h2, h3⟩ := h.form i e he
      refine ⟨k, d', h1, h2, ?_⟩
      have : k ≠ n := fun e1 => hn e (List.mem_of_getElem? (by simpa using he)) (by rw [h1, e1])
      simp [upd, this, h3]
  all := fun k d' hk => by
    by_cases e1 : k = n
    · exact ⟨es.size, ⟨.int .i64 n, .string d, clock⟩, by simp, by rw [e1]⟩
    · simp only [upd, if_neg e1] at hk
      obtain ⟨i, e, h1, h2⟩ := h.all k d' hk
      have hlt := (Array.getElem?_eq_some_iff.1 h1).1
      exact ⟨i, e, by rw [Array.getElem?_push, if_neg (by omega)]; exact h1, h2⟩
  dist := fun i j e e' hi hj hk => by
    rw [Array.getElem?_push] at hi hj
    split at hi <;> split at hj
    · omega
    · cases hi; exact absurd hk.symm (hn e' (List.mem_of_getElem? (by simpa using hj)))
    · cases hj; exact absurd hk (hn e (List.mem_of_getElem? (by simpa using hi)))
    · exact h.dist i j e e' hi hj hk
theorem Ents.set {es : Array MapEntry} {f : Int → Option ByteArray} (h : Ents es f) {n : Int} {d : ByteArray} {j : Nat} {e0 : MapEntry} (hj : es[j]? = some e0) (hk : e0.key = .int .i64 n) : Ents (es.modify j fun e => ⟨.int .i64 n, .string d, e.born⟩) (upd f n d) where
  form := fun i e he => by
    rw [Array.getElem?_modify] at he
    split at he
    · rename_i e1
      rw [← e1, hj] at he
      cases he; exact ⟨n, d, rfl, rfl, by simp [upd]⟩
    · rename_i e1
      obtain ⟨k, d', h1, h2, h3⟩ := h.form i e he
      refine ⟨k, d', h1, h2, ?_⟩
      have : k ≠ n := fun e2 => e1 (h.dist j i e0 e hj he (by rw [hk, h1, e2]))
      simp [upd, this, h3]
  all := fun k d' hkd => by
    by_cases e1 : k = n
    · exact ⟨j, _, by rw [Array.getElem?_modify, if_pos rfl, hj]; rfl, by rw [e1]⟩
    · simp only [upd, if_neg e1] at hkd
      obtain ⟨i, e, h1, h2⟩ := h.all k d' hkd
      refine ⟨i, e, ?_, h2⟩
      rw [Array.getElem?_modify, if_neg]
      · exact h1
      · intro e2
        subst e2
        rw [hj] at h1
        cases h1
        rw [hk] at h2
        cases h2
        exact e1 rfl
  dist := fun i i' e e' hi hi' hke => by
    have key : ∀ (i : Nat) (e : MapEntry), (es.modify j fun e => (⟨.int .i64 n, .string d, e.born⟩ : MapEntry))[i]? = some e → ∃ e1, es[i]? = some e1 ∧ e1.key = e.key := fun i e he => by
      rw [Array.getElem?_modify] at he
      split at he
      · rename_i e1
        subst e1
        rw [hj] at he
        cases he
        exact ⟨e0, hj, hk⟩
      · exact ⟨e, he, rfl⟩
    obtain ⟨a, a1, a2⟩ := key i e hi
    obtain ⟨b, b1, b2⟩ := key i' e' hi'
    exact h.dist i i' a b a1 b1 (by rw [a2, b2, hke])
theorem map_put {w : World} {mb : Nat} {f : Int → Option ByteArray} (h : MapAt w mb f) (n : Int) (d : ByteArray) :
    ∃ w', (Instr.mapUpdate 90 (.map (some mb)) (.int .i64 n) (.string d)).run Try.prog w = .ok () w' ∧ MapAt w' mb (upd f n d) ∧ Turned mb w w' := by
  obtain ⟨es, clock, hb, hE⟩ := h
  have turn : ∀ o : Obj, Turned mb w { w with heap := w.heap.setIfInBounds mb o } := fun o => ⟨rfl, rfl, rfl, by simp, fun k hk => (heap_set hb).2 k hk⟩
  rcases findNow_spec (key_int n) es.toList 0 hE.keys with ⟨h1, h2⟩ | ⟨j, e, h1, h2, h3⟩
  · refine ⟨_, by simp [Instr.mapUpdate, run_underlying u90, Go.MapKept.run_getObj_map hb, Go.MapKept.run_checkKey Try.underlying3 (key_int n), Go.MapKept.run_findKey Try.underlying3 h1, Go.MapKept.run_setObj_map _ hb, Result.andThen]; rfl, ⟨_, _, (heap_set hb).1, hE.put h2⟩, turn _⟩
  · have hj : es[j]? = some e := by simpa using h2
    refine ⟨_, by simp [Instr.mapUpdate, run_underlying u90, Go.MapKept.run_getObj_map hb, Go.MapKept.run_checkKey Try.underlying3 (key_int n), Go.MapKept.run_findKey Try.underlying3 h1, hj, h3, Go.MapKept.run_keyThatStays (key_int n), Go.MapKept.run_setObj_map _ hb, Result.andThen]; rfl, ⟨_, _, (heap_set hb).1, hE.set hj h3⟩, turn _⟩
end Go.Proofs.Ytonbipaajhokfaa
