/-
  A shelf's book of pages behind its interface: its two methods, blank; a store (Shop) whose calls answer (Live).
-/
import Derived.Test.YtonbipaajhokfaaH0
set_option linter.unusedVariables false
set_option linter.unusedSimpArgs false
namespace Go.Proofs.Ytonbipaajhokfaa
open Go.RowKit Go.Proofs.YtonbipaajhokfaaW.PrintWords Go.Proofs.YtonbipaajhokfaaW.PrintLast Go.Proofs.YtonbipaajhokfaaW.PrintMore

theorem Turned.fr {F : Nat → Prop} {mb : Nat} {w w' : World} (h : Turned mb w w') (hF : F mb) : Fr F w w' :=
  ⟨h.os, h.tape, h.output, by rw [h.size]; exact Nat.le_refl _, fun k _ hn => h.block k (fun e => hn (e ▸ hF))⟩
theorem MapAt.lt {w : World} {mb : Nat} {f : Int → Option ByteArray} (h : MapAt w mb f) : mb < w.heap.size := by
  obtain ⟨es, clock, hb, -⟩ := h
  exact (Array.getElem?_eq_some_iff.1 hb).1
theorem MapAt.keep {w w' : World} {mb : Nat} {f : Int → Option ByteArray} (h : MapAt w mb f) (hk : w'.heap[mb]? = w.heap[mb]?) : MapAt w' mb f := by
  obtain ⟨es, clock, hb, hE⟩ := h
  exact ⟨es, clock, hk.trans hb, hE⟩
theorem MapAt.new (w : World) : MapAt (w.alloc (.map #[] 0)) w.heap.size (fun _ => none) :=
  ⟨#[], 0, (Go.MapKept.heap_alloc w _).1, ⟨(fun i e he => by simp at he), (fun k d hk => by cases hk), (fun i j e e' he => by simp at he)⟩⟩

set_option maxRecDepth 100000 in
theorem blank_calls (w : World) : Calls Try.prog 48 #[] w fun e w' => e = .returned (.string (bs blankL)) ∧ Below w.heap.size w w' := by
  have hr := fun W => rep0_calls 232 W (Nat.le_refl _)
  go_enter Try.func48, Try.ntmps48
  go_wp2_with (go_at_call 38; refine (hr _).mono ?_; rintro e w' ⟨rfl, hb⟩)
  go_ret
  exact ⟨rfl, hb⟩
/-- What a page of the book reads. -/
def readB (f : Int → Option ByteArray) (n : Int) : ByteArray := (f n).getD (bs blankL)
set_option maxRecDepth 100000 in
theorem mapGet_calls (mb : Nat) (f : Int → Option ByteArray) (n : Int) (w : World) (h : MapAt w mb f) :
    Calls Try.prog 50 #[.map (some mb), .int .i64 n] w fun e w' => e = .returned (.tuple #[.string (readB f n), .int .i64 0]) ∧ Below w.heap.size w w' := by
  have hl := map_look h n
  cases hf : f n with
  | none =>
    have HR := Aside0.mk (show readB f n = bs blankL by unfold readB; rw [hf]; rfl)
    rw [hf] at hl
    clear hf h
    go_enter Try.func50, Try.ntmps50
    go_wp2_with (go_at_call 48; refine (blank_calls _).mono ?_; rintro e w' ⟨rfl, hb⟩)
    go_ret2
    exact ⟨by rw [HR.out]; rfl, hb⟩
  | some d =>
    have HR := Aside0.mk (show readB f n = d by unfold readB; rw [hf]; rfl)
    rw [hf] at hl
    clear hf h
    go_enter Try.func50, Try.ntmps50
    go_wp2
    go_ret2
    exact ⟨by rw [HR.out]; rfl, Below.refl _ _⟩
set_option maxRecDepth 100000 in
theorem mapPut_calls (mb : Nat) (f : Int → Option ByteArray) (n : Int) (d : ByteArray) (w : World) (h : MapAt w mb f) :
    Calls Try.prog 49 #[.map (some mb), .int .i64 n, .string d] w fun e w' => e = .returned (.int .i64 0) ∧ MapAt w' mb (upd f n d) ∧ Turned mb w w' := by
  obtain ⟨w', hr, h1, h2⟩ := map_put h n d
  have H1 := Aside0.mk h1
  have H2 := Aside0.mk h2
  clear h h1 h2
  go_enter Try.func49, Try.ntmps49
  go_wp2
  go_ret
  exact ⟨rfl, H1.out, H2.out⟩
def mapShop (mb : Nat) : Shop (Int → Option ByteArray) where
  T := 90
  x := .map (some mb)
  fg := 50
  fp := 49
  mg := fun w => by kernel_rfl
  mp := fun w => by kernel_rfl
  eg := fun args w => by kernel_rfl
  ep := fun args w => by kernel_rfl
  At := fun w F s => F mb ∧ (∀ k, F k → k < w.heap.size) ∧ MapAt w mb s
  keep := fun h hk hs => ⟨h.1, fun k hf => Nat.lt_of_lt_of_le (h.2.1 k hf) hs, h.2.2.keep (hk _ h.1)⟩
  bound := fun h => h.2.1
  fits := fun s => True
  get := fun s n => (s, readB s n, 0)
  put := fun s n d => (upd s n d, 0)
  fits_get := fun n h => trivial
  cg := fun {w F s} n h => (mapGet_calls mb s n w h.2.2).mono fun e w' hh => ⟨hh.1, F, ⟨h.1, fun k hf => Nat.lt_of_lt_of_le (h.2.1 k hf) hh.2.size, h.2.2.keep (hh.2.block _ h.2.2.lt)⟩, fun k hk => Or.inl hk, Fr.of_below hh.2⟩
  cp := fun {w F s} n d h hf => (mapPut_calls mb s n d w h.2.2).mono fun e w' hh => ⟨hh.1, F, ⟨h.1, fun k hf => by have := h.2.1 k hf; rw [hh.2.2.size]; exact this, hh.2.1⟩, fun k hk => Or.inl hk, hh.2.2.fr h.1⟩
def mapLive (mb : Nat) : Live (mapShop mb) where
  ok := fun _ _ => True
  look := readB
  mono := fun _ => trivial
  fits := fun _ => trivial
  get := fun {k s} n _ => ⟨s, rfl, trivial, rfl⟩
  put := fun {k s} n d _ => ⟨upd s n d, rfl, trivial, fun m => by unfold readB upd; by_cases e : m = n <;> simp [e]⟩
end Go.Proofs.Ytonbipaajhokfaa
