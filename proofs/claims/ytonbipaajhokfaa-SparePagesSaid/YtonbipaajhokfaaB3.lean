/-
  Walks: a desk's Get and Put; what is asked of a store (Shop), and a desk as one.
-/
import Derived.Test.YtonbipaajhokfaaB2
set_option linter.unusedVariables false
set_option linter.unusedSimpArgs false
namespace Go.Proofs.Ytonbipaajhokfaa
open Go.RowKit Go.Proofs.YtonbipaajhokfaaW.PrintWords Go.Proofs.YtonbipaajhokfaaW.PrintLast Go.Proofs.YtonbipaajhokfaaW.PrintMore

/-- A call has gone from (w, F) to a world where the object stands in state s' (At), its blocks F's or new; of what was there F alone may have changed. -/
def Goes (At : (Nat → Prop) → Prop) (F : Nat → Prop) (w w' : World) : Prop := ∃ F' : Nat → Prop, At F' ∧ (∀ k, F' k → F k ∨ w.heap.size ≤ k) ∧ Fr F w w'

structure Desk where
  N : List Int
  D : List ByteArray
  left : Int

theorem BookAt.mono {w : World} {F F' : Nat → Prop} {kb : Nat} {N : List Int} {D : List ByteArray} (h : BookAt w F kb N D) (hF : ∀ k, F k → F' k) (hb : ∀ k, F' k → k < w.heap.size) : BookAt w F' kb N D := by
  obtain ⟨h1, h2, h3, vN, vD, h4, h5, h6⟩ := h
  exact ⟨hF _ h1, hb, h3, vN, vD, h4, Kd.R_mono h5 hF, Kd.R_mono h6 hF⟩

def DeskAt (kd kb : Nat) (w : World) (F : Nat → Prop) (s : Desk) : Prop :=
  F kd ∧ w.heap[kd]? = some (.cells #[.pointer (some ⟨kb, 0, none⟩), .int .i64 s.left] 47 (0, 0)) ∧ BookAt w (fun k => F k ∧ k ≠ kd) kb s.N s.D
theorem DeskAt.keep {kd kb : Nat} {w w' : World} {F : Nat → Prop} {s : Desk} (h : DeskAt kd kb w F s) (hk : ∀ k, F k → w'.heap[k]? = w.heap[k]?) (hs : w.heap.size ≤ w'.heap.size) : DeskAt kd kb w' F s :=
  ⟨h.1, (hk kd h.1).trans h.2.1, h.2.2.keep (fun k hf => hk k hf.1) hs⟩
theorem DeskAt.bound {kd kb : Nat} {w : World} {F : Nat → Prop} {s : Desk} (h : DeskAt kd kb w F s) : ∀ k, F k → k < w.heap.size := fun k hk => by
  by_cases e : k = kd
  · subst e; exact blk_lt h.2.1
  · exact h.2.2.2.1 k ⟨hk, e⟩

def Desk.get (s : Desk) (n : Int) : Desk × ByteArray × Int :=
  if s.left = 0 then (s, ⟨#[]⟩, 11) else ({ s with left := wrap64 (s.left - 1) }, getB s.N s.D n, 0)
def Desk.put (s : Desk) (n : Int) (d : ByteArray) : Desk × Int :=
  if s.left = 0 then (s, 11) else (⟨putN s.N n, putD s.N s.D n d, wrap64 (s.left - 1)⟩, 0)

/-- A book while another block's cells are written. -/
theorem BookAt.setCell {w : World} {F : Nat → Prop} {kb : Nat} {N : List Int} {D : List ByteArray} (h : BookAt w F kb N D) {g : Nat} {t : TypeId} {cs : Array Value} (hb : w.heap[g]? = some (.cells cs t (0, 0))) (h1 : t ≠ 43) (h2 : t ≠ 3) (h3 : t ≠ 9) (i : Nat) (u : Value) : BookAt (w.setCell ⟨g, i, none⟩ u) F kb N D := by
  obtain ⟨h4, h5, h6, vN, vD, h7, h8, h9⟩ := h
  exact ⟨h4, fun k hk => by simpa using h5 k hk, h6, vN, vD, blk_far h7 (blk_ne h7 hb (Ne.symm h1)) u, Kd.R_set h8 hb (fun q hq => by simp [Kd.int, Kd.scalar] at hq; subst hq; exact Ne.symm h2) i u, Kd.R_set h9 hb (fun q hq => by simp [Kd.string, Kd.scalar] at hq; subst hq; exact Ne.symm h3) i u⟩

set_option maxHeartbeats 2000000 in
set_option maxRecDepth 100000 in
theorem deskGet_calls (kd kb : Nat) (F : Nat → Prop) (s : Desk) (n : Int) (w : World) (h : DeskAt kd kb w F s) :
    Calls Try.prog 80 #[.pointer (some ⟨kd, 0, none⟩), .int .i64 n] w fun e w' => e = .returned (.tuple #[.string (s.get n).2.1, .int .i64 (s.get n).2.2]) ∧ Goes (fun F' => DeskAt kd kb w' F' (s.get n).1) F w w' := by
  have hb := h.bound
  obtain ⟨h1, h2, h3⟩ := h
  have hc0 := (blk_cell h2 0).trans rfl
  have hc1 := (blk_cell h2 1).trans rfl
  have hf1 := blk_frozen h2 1
  have H1 := Aside0.mk h1
  have H2 := Aside0.mk h2
  have H3 := Aside0.mk h3
  have HB := Aside0.mk hb
  by_cases h0 : s.left = 0
  · have e1 : s.get n = (s, ⟨#[]⟩, 11) := by unfold Desk.get; rw [if_pos h0]
    rw [e1]
    clear h1 h2 h3 e1 hb
    have ht : (s.left == 0) = true := by simp [h0]
    clear h0
    go_enter Try.func80, Try.ntmps80
    go_wp2
    go_ret2
    exact ⟨rfl, F, ⟨H1.out, H2.out, H3.out⟩, fun k hk => Or.inl hk, Fr.refl F w⟩
  · have e1 : s.get n = ({ s with left := wrap64 (s.left - 1) }, getB s.N s.D n, 0) := by unfold Desk.get; rw [if_neg h0]
    rw [e1]
    have ht : (s.left == 0) = false := by simp [h0]
    have HBK := Aside0.mk (h3.setCell h2 (by decide) (by decide) (by decide) 1 (.int .i64 (wrap64 (s.left - 1))))
    clear h1 h2 h3 e1 hb h0
    obtain ⟨l, hl⟩ : ∃ l, l = s.left := ⟨_, rfl⟩
    rw [← hl] at hc1 ht H2 HBK ⊢
    clear hl
    go_enter Try.func80, Try.ntmps80
    go_wp2_with (go_at_call 24; refine (bookGet_calls kb (fun k => F k ∧ k ≠ kd) s.N s.D n _ ?_).mono ?_; (exact HBK.out); rintro e w' ⟨rfl, hb⟩)
    go_ret2
    refine ⟨rfl, F, ⟨H1.out, blk_below (blk_put H2.out 1 _ rfl) hb, HBK.out.below hb⟩, fun k hk => Or.inl hk, ((Fr.refl F w).setCell (Or.inl H1.out) _).then_below hb⟩

set_option maxHeartbeats 2000000 in
set_option maxRecDepth 100000 in
theorem deskPut_calls (kd kb : Nat) (F : Nat → Prop) (s : Desk) (n : Int) (d : ByteArray) (w : World) (h : DeskAt kd kb w F s) (hN : s.N.length < 1048576) :
    Calls Try.prog 81 #[.pointer (some ⟨kd, 0, none⟩), .int .i64 n, .string d] w fun e w' => e = .returned (.int .i64 (s.put n d).2) ∧ Goes (fun F' => DeskAt kd kb w' F' (s.put n d).1) F w w' := by
  have hb := h.bound
  obtain ⟨h1, h2, h3⟩ := h
  have hc0 := (blk_cell h2 0).trans rfl
  have hc1 := (blk_cell h2 1).trans rfl
  have hf1 := blk_frozen h2 1
  have H1 := Aside0.mk h1
  have H2 := Aside0.mk h2
  have H3 := Aside0.mk h3
  have HB := Aside0.mk hb
  by_cases h0 : s.left = 0
  · have e1 : s.put n d = (s, 11) := by unfold Desk.put; rw [if_pos h0]
    rw [e1]
    clear h1 h2 h3 e1 hb
    have ht : (s.left == 0) = true := by simp [h0]
    clear h0
    go_enter Try.func81, Try.ntmps81
    go_wp2
    go_ret
    exact ⟨rfl, F, ⟨H1.out, H2.out, H3.out⟩, fun k hk => Or.inl hk, Fr.refl F w⟩
  · have e1 : s.put n d = (⟨putN s.N n, putD s.N s.D n d, wrap64 (s.left - 1)⟩, 0) := by unfold Desk.put; rw [if_neg h0]
    rw [e1]
    have ht : (s.left == 0) = false := by simp [h0]
    have HBK := Aside0.mk (h3.setCell h2 (by decide) (by decide) (by decide) 1 (.int .i64 (wrap64 (s.left - 1))))
    clear h1 h2 h3 e1 hb h0
    obtain ⟨l, hl⟩ : ∃ l, l = s.left := ⟨_, rfl⟩
    rw [← hl] at hc1 ht H2 HBK ⊢
    clear hl
    go_enter Try.func81, Try.ntmps81
    go_wp2_with (go_at_call 19; refine (bookPut_calls kb (fun k => F k ∧ k ≠ kd) s.N s.D n d _ ?_ hN).mono ?_; (exact HBK.out); rintro e w' ⟨rfl, hbk, hfr⟩)
    go_ret
    have hkd := blk_lt H2.out
    have hsz := hfr.size
    simp only [World.size_setCell] at hsz
    refine ⟨rfl, fun k => F k ∨ (w.heap.size ≤ k ∧ k < w'.heap.size), ⟨Or.inl H1.out, ?_, ?_⟩, ?_, ?_⟩
    · exact hfr.blk (blk_put H2.out 1 _ rfl) (fun h => h.2 rfl)
    · refine hbk.mono (fun k hk => ?_) (fun k hk => ?_)
      · rcases hk with hk | hk
        · exact ⟨Or.inl hk.1, hk.2⟩
        · simp only [World.size_setCell] at hk
          exact ⟨Or.inr hk, by omega⟩
      · rcases hk.1 with h | h
        · have := HB.out k h; omega
        · exact h.2
    · intro k hk
      rcases hk with hk | hk
      · exact Or.inl hk
      · exact Or.inr hk.1
    · exact ((Fr.refl F w).setCell (Or.inl H1.out) _).trans hfr (fun k _ hk => hk.1)
end Go.Proofs.Ytonbipaajhokfaa
