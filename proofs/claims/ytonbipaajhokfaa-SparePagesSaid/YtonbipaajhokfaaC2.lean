/-
  A desk as a store; its laws; fresh.
-/
import Derived.Test.YtonbipaajhokfaaC1
set_option linter.unusedVariables false
set_option linter.unusedSimpArgs false
namespace Go.Proofs.Ytonbipaajhokfaa
open Go.RowKit Go.Proofs.YtonbipaajhokfaaW.PrintWords Go.Proofs.YtonbipaajhokfaaW.PrintLast Go.Proofs.YtonbipaajhokfaaW.PrintMore

def deskShop (kd kb : Nat) : Shop Desk where
  T := 38
  x := .pointer (some ⟨kd, 0, none⟩)
  fg := 80
  fp := 81
  mg := fun w => by kernel_rfl
  mp := fun w => by kernel_rfl
  eg := fun args w => by kernel_rfl
  ep := fun args w => by kernel_rfl
  At := DeskAt kd kb
  keep := fun h hk hs => h.keep hk hs
  bound := fun h => h.bound
  fits := fun s => s.N.length < 1048576
  get := Desk.get
  put := Desk.put
  fits_get := fun n h => by unfold Desk.get; split <;> exact h
  cg := fun n h => deskGet_calls _ _ _ _ n _ h
  cp := fun n d h hf => deskPut_calls _ _ _ _ n d _ h hf

theorem firstAt_spec {p : Int → Bool} {l : List Int} (h : 0 ≤ firstAt p l) : p (l.getD (firstAt p l).toNat 0) = true ∧ ∀ j, j < (firstAt p l).toNat → p (l.getD j 0) = false := by
  induction l with
  | nil => simp [firstAt] at h
  | cons x r ih =>
    unfold firstAt at h ⊢
    by_cases hx : p x = true
    · rw [if_pos hx] at h ⊢
      exact ⟨by simpa using hx, fun j hj => by simp at hj⟩
    · rw [if_neg hx] at h ⊢
      have hr := (firstAt_range p r).1
      by_cases h1 : firstAt p r = -1
      · rw [if_pos h1] at h; omega
      · rw [if_neg h1] at h ⊢
        obtain ⟨h2, h3⟩ := ih (by omega)
        have e : (firstAt p r + 1).toNat = (firstAt p r).toNat + 1 := by omega
        rw [e]
        refine ⟨by simpa using h2, fun j hj => ?_⟩
        cases j with
        | zero => simpa using hx
        | succ j => simpa using h3 j (by omega)
theorem firstAt_neg {p : Int → Bool} {l : List Int} (h : firstAt p l < 0) : ∀ j, j < l.length → p (l.getD j 0) = false := by
  induction l with
  | nil => intro j hj; simp at hj
  | cons x r ih =>
    unfold firstAt at h
    by_cases hx : p x = true
    · rw [if_pos hx] at h; omega
    · rw [if_neg hx] at h
      have hr := (firstAt_range p r).1
      by_cases h1 : firstAt p r = -1
      · intro j hj
        cases j with
        | zero => simpa using hx
        | succ j => simpa using ih (by omega) j (by simpa using hj)
      · rw [if_neg h1] at h; omega
theorem placeOf_app_no {N : List Int} {n : Int} (h : placeOf N n < 0) : placeOf (N ++ [n]) n = N.length := by
  unfold placeOf at h ⊢
  have h1 := firstAt_neg h
  refine firstAt_at (k := N.length) (by simp) (fun j hj => ?_) (by simp [eqB, List.getD_eq_getElem?_getD])
  have := h1 j hj
  rwa [List.getD_eq_getElem?_getD, List.getElem?_append_left hj, ← List.getD_eq_getElem?_getD]
theorem placeOf_app_ne {N : List Int} {n m : Int} (hne : m ≠ n) : placeOf (N ++ [n]) m = placeOf N m := by
  unfold placeOf
  by_cases h : firstAt (eqB m) N < 0
  · have h1 := firstAt_neg h
    have h2 := (firstAt_range (eqB m) N).1
    rw [firstAt_no (l := N ++ [n]) (fun j hj => ?_)]
    · omega
    · by_cases hj2 : j < N.length
      · have := h1 j hj2
        rwa [List.getD_eq_getElem?_getD, List.getElem?_append_left hj2, ← List.getD_eq_getElem?_getD]
      · have : j = N.length := by simp at hj; omega
        subst this
        simp [eqB, List.getD_eq_getElem?_getD, Ne.symm hne]
  · have h1 := firstAt_spec (p := eqB m) (l := N) (by omega)
    have h2 := (firstAt_range (eqB m) N).2
    have h3 : ∀ j, j < (firstAt (eqB m) N).toNat → eqB m ((N ++ [n]).getD j 0) = false := fun j hj => by
      have := h1.2 j hj
      rwa [List.getD_eq_getElem?_getD, List.getElem?_append_left (by omega), ← List.getD_eq_getElem?_getD]
    have h4 : eqB m ((N ++ [n]).getD (firstAt (eqB m) N).toNat 0) = true := by
      have := h1.1
      rwa [List.getD_eq_getElem?_getD, List.getElem?_append_left (by omega), ← List.getD_eq_getElem?_getD]
    rw [firstAt_at (l := N ++ [n]) (k := (firstAt (eqB m) N).toNat) (by simp; omega) h3 h4]
    omega
theorem placeOf_inj {N : List Int} {n m : Int} (h : 0 ≤ placeOf N n) (e : placeOf N m = placeOf N n) : m = n := by
  have h1 := (firstAt_spec (p := eqB n) (l := N) h).1
  have h2 := (firstAt_spec (p := eqB m) (l := N) (by unfold placeOf at e h; omega)).1
  unfold placeOf at e
  rw [e] at h2
  simp only [eqB, decide_eq_true_eq] at h1 h2
  omega
theorem getB_put {N : List Int} {D : List ByteArray} (hl : N.length = D.length) (n : Int) (d : ByteArray) (m : Int) : getB (putN N n) (putD N D n d) m = if m = n then d else getB N D m := by
  unfold getB putN putD
  by_cases h : placeOf N n < 0
  · rw [if_pos h, if_pos h]
    by_cases e : m = n
    · subst e
      rw [if_pos rfl, placeOf_app_no h, if_neg (by omega)]
      simp [hl, List.getD_eq_getElem?_getD]
    · rw [if_neg e, placeOf_app_ne e]
      by_cases h2 : placeOf N m < 0
      · rw [if_pos h2, if_pos h2]
      · rw [if_neg h2, if_neg h2]
        have := (firstAt_range (eqB m) N).2
        unfold placeOf at h2 ⊢
        rw [List.getD_eq_getElem?_getD, List.getElem?_append_left (by omega), ← List.getD_eq_getElem?_getD]
  · rw [if_neg h, if_neg h]
    have hr := (firstAt_range (eqB n) N).2
    by_cases e : m = n
    · subst e
      rw [if_pos rfl, if_neg h]
      unfold placeOf at h ⊢
      have hlt : (firstAt (eqB m) N).toNat < D.length := by omega
      rw [List.getD_eq_getElem?_getD, List.getElem?_set]
      simp [hlt]
    · rw [if_neg e]
      by_cases h2 : placeOf N m < 0
      · rw [if_pos h2, if_pos h2]
      · rw [if_neg h2, if_neg h2]
        have hne : (placeOf N n).toNat ≠ (placeOf N m).toNat := fun e2 => e (placeOf_inj (N := N) (n := n) (by omega) (by omega))
        rw [List.getD_eq_getElem?_getD, List.getElem?_set_ne hne, ← List.getD_eq_getElem?_getD]
theorem put_length {N : List Int} {D : List ByteArray} (hl : N.length = D.length) (n : Int) (d : ByteArray) : (putN N n).length = (putD N D n d).length ∧ (putN N n).length ≤ N.length + 1 := by
  unfold putN putD
  split <;> simp [hl]

def deskLive (kd kb : Nat) : Live (deskShop kd kb) where
  ok := fun k s => s.N.length = s.D.length ∧ s.N.length + k ≤ 1048576 ∧ (s.left < 0 ∧ k < 1048577 ∧ -9000000000000000000 + (k : Int) ≤ s.left ∨ 0 ≤ s.left ∧ (k : Int) ≤ s.left ∧ s.left < 1048577)
  look := fun s n => getB s.N s.D n
  mono := fun {k s} h => ⟨h.1, by have := h.2.1; omega, by have := h.2.2; omega⟩
  fits := fun {k s} h => by show s.N.length < 1048576; have := h.2.1; omega
  get := fun {k s} n h => by
    refine ⟨{ s with left := s.left - 1 }, ?_, ⟨h.1, by have := h.2.1; show s.N.length + k ≤ _; omega, by have := h.2.2; show s.left - 1 < 0 ∧ _ ∨ _; simp only; omega⟩, rfl⟩
    show Desk.get s n = _
    unfold Desk.get
    have h2 := h.2.2
    rw [if_neg (by omega)]
    have e : wrap64 (s.left - 1) = s.left - 1 := by unfold wrap64; omega
    rw [e]
  put := fun {k s} n d h => by
    obtain ⟨h4, h5⟩ := put_length h.1 n d
    refine ⟨⟨putN s.N n, putD s.N s.D n d, s.left - 1⟩, ?_, ⟨h4, by have := h.2.1; show (putN s.N n).length + k ≤ _; omega, by have := h.2.2; simp only; omega⟩, fun m => getB_put h.1 n d m⟩
    show Desk.put s n d = _
    unfold Desk.put
    have h2 := h.2.2
    rw [if_neg (by omega)]
    have e : wrap64 (s.left - 1) = s.left - 1 := by unfold wrap64; omega
    rw [e]

end Go.Proofs.Ytonbipaajhokfaa
