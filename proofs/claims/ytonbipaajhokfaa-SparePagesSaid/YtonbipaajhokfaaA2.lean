/-
  Walks: Encode's closure, slices.IndexFunc and slices.ContainsFunc with it.
-/
import Derived.Test.YtonbipaajhokfaaA1
namespace Go.Proofs.Ytonbipaajhokfaa
open Go.RowKit Go.Proofs.YtonbipaajhokfaaW.PrintWords Go.Proofs.YtonbipaajhokfaaW.PrintLast Go.Proofs.YtonbipaajhokfaaW.PrintMore

/-- No page's number behind the first. -/
def oddB (n : Int) : Bool := decide (n < 1) || decide (4096 ≤ n)
theorem oddB_lo {n : Int} (h : n < 1) : oddB n = true := by simp [oddB, h]
theorem oddB_hi {n : Int} (h : 4096 ≤ n) : oddB n = true := by simp [oddB, h]
theorem oddB_no {n : Int} (h : 1 ≤ n) (h' : n < 4096) : oddB n = false := by
  simp only [oddB, Bool.or_eq_false_iff, decide_eq_false_iff_not]; omega

theorem odd_calls (n : Int) (w : World) : Calls Try.prog 35 #[.int .i64 n] w fun e w' => e = .returned (.bool (oddB n)) ∧ w = w' := by
  by_cases h : n < 1
  · have t1 : decide (n < 1) = true := decide_eq_true h
    clear h
    go_enter Try.func35, Try.ntmps35
    go_wp2
    go_ret
    exact ⟨by rw [oddB_lo (of_decide_eq_true t1)]; rfl, rfl⟩
  · have t1 : decide (n < 1) = false := decide_eq_false h
    clear h
    by_cases h : 4096 ≤ n
    · have t2 : decide (4096 ≤ n) = true := decide_eq_true h
      clear h
      go_enter Try.func35, Try.ntmps35
      go_wp2
      go_ret
      exact ⟨by rw [oddB_hi (of_decide_eq_true t2)]; rfl, rfl⟩
    · have t2 : decide (4096 ≤ n) = false := decide_eq_false h
      clear h
      go_enter Try.func35, Try.ntmps35
      go_wp2
      go_ret
      exact ⟨by have a := of_decide_eq_false t1; have b := of_decide_eq_false t2; rw [oddB_no (by omega) (by omega)]; rfl, rfl⟩

/-- Where the first odd number stands, -1: nowhere. -/
def oddAt : List Int → Int
  | [] => -1
  | x :: r => if oddB x then 0 else (if oddAt r = -1 then -1 else oddAt r + 1)

theorem oddAt_ge (l : List Int) : -1 ≤ oddAt l := by
  induction l with
  | nil => decide
  | cons x r ih => unfold oddAt; split <;> (try split) <;> omega
theorem oddAt_any (l : List Int) : decide (0 ≤ oddAt l) = l.any oddB := by
  induction l with
  | nil => decide
  | cons x r ih =>
    unfold oddAt
    have := oddAt_ge r
    cases h : oddB x
    · simp only [List.any_cons, h, Bool.false_or, ← ih]
      by_cases e : oddAt r = -1
      · simp [e]
      · have : 0 ≤ oddAt r := by omega
        simp [e, this]; omega
    · simp [List.any_cons, h]
/-- From a place on. -/
theorem oddAt_at {l : List Int} {k : Nat} (hk : k < l.length) (hb : ∀ j, j < k → oddB (l.getD j 0) = false) (h : oddB (l.getD k 0) = true) : oddAt l = k := by
  induction l generalizing k with
  | nil => simp at hk
  | cons x r ih =>
    cases k with
    | zero => simp at h; simp [oddAt, h]
    | succ k =>
      have h0 := hb 0 (by omega)
      simp at h0
      have := ih (k := k) (by simpa using hk) (fun j hj => by have := hb (j + 1) (by omega); simpa using this) (by simpa using h)
      simp only [oddAt, h0, this]
      rw [if_neg (by decide), if_neg (by omega)]
      omega
theorem oddAt_no {l : List Int} (hb : ∀ j, j < l.length → oddB (l.getD j 0) = false) : oddAt l = -1 := by
  induction l with
  | nil => rfl
  | cons x r ih =>
    have h0 := hb 0 (by simp)
    simp at h0
    have := ih (fun j hj => by have := hb (j + 1) (by simpa using hj); simpa using this)
    simp [oddAt, h0, this]

set_option maxHeartbeats 1000000 in
theorem indexOdd_calls (A : Option Addr) (c : Nat) (l : List Int) (w : World) (hl : Kd.C (Kd.int .i64) w A l.length l) :
    Calls Try.prog 51 #[.slice A l.length c, .func (.func 35) #[] #[]] w fun e w' => e = .returned (.int .i64 (oddAt l)) ∧ w = w' := by
  have hm := Kd.C_max hl
  have HL := Aside0.mk hl
  clear hl
  go_enter Try.func51, Try.ntmps51
  go_wp2
  go_loop [8] (fun i => ∃ k : Nat, k ≤ l.length ∧ i = .int .i64 k ∧ Aside0 (∀ j, j < k → oddB (l.getD j 0) = false)) (fun i => l.length - (intOf i).toNat)
  case atStart => exact ⟨0, Nat.zero_le _, rfl, ⟨fun j hj => absurd hj (Nat.not_lt_zero j)⟩⟩
  case round =>
    obtain ⟨k, hk, rfl, hno⟩ := hrel
    by_cases hlt : k < l.length
    · obtain ⟨ad, e1, hx⟩ := Kd.at_int HL.out (k : Int) (by omega) (by omega)
      cases e1
      rw [show rd l (k : Int) = l.getD k 0 from rfl, Int.toNat_natCast] at hx
      obtain ⟨x, hxd⟩ : ∃ x, x = l.getD k 0 := ⟨_, rfl⟩
      rw [← hxd] at hx
      have HX := Aside0.mk hxd
      clear hxd
      cases hb : oddB x with
      | true =>
        have HR := Aside0.mk (oddAt_at hlt hno.out (by rw [← HX.out]; exact hb))
        go_wp2_with (go_at_call 35; refine (odd_calls _ _).mono ?_; rintro e w' ⟨rfl, rfl⟩)
        go_ret
        exact ⟨by rw [HR.out]; rfl, rfl⟩
      | false =>
        go_wp2_with (go_at_call 35; refine (odd_calls _ _).mono ?_; rintro e w' ⟨rfl, rfl⟩)
        go_round
        case rel => exact ⟨k + 1, by omega, by go_num, ⟨fun j hj => by
          rcases Nat.lt_or_ge j k with h | h
          · exact hno.out j h
          · obtain rfl : j = k := by omega
            rw [← HX.out]; exact hb⟩⟩
        case measure => simp [intOf]; omega
    · have hke : k = l.length := by omega
      subst hke
      have HR := Aside0.mk (oddAt_no hno.out)
      go_wp2
      go_ret
      exact ⟨by rw [HR.out]; rfl, rfl⟩
theorem containsOdd_calls (A : Option Addr) (c : Nat) (l : List Int) (w : World) (hl : Kd.C (Kd.int .i64) w A l.length l) :
    Calls Try.prog 36 #[.slice A l.length c, .func (.func 35) #[] #[]] w fun e w' => e = .returned (.bool (l.any oddB)) ∧ w = w' := by
  have HL := Aside0.mk hl
  clear hl
  go_enter Try.func36, Try.ntmps36
  go_wp2_with (go_at_call 51; refine (indexOdd_calls _ _ _ _ HL.out).mono ?_; rintro e w' ⟨rfl, rfl⟩)
  go_ret
  exact ⟨by rw [← oddAt_any]; rfl, rfl⟩
end Go.Proofs.Ytonbipaajhokfaa
