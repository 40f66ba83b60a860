/-
  Walk: same, at two trunks that read alike.
-/
import Derived.Test.YtonbipaajhokfaaF2
set_option linter.unusedVariables false
set_option linter.unusedSimpArgs false
namespace Go.Proofs.Ytonbipaajhokfaa
open Go.RowKit Go.Proofs.YtonbipaajhokfaaW.PrintWords Go.Proofs.YtonbipaajhokfaaW.PrintLast Go.Proofs.YtonbipaajhokfaaW.PrintMore

set_option maxHeartbeats 4000000 in
set_option maxRecDepth 100000 in
theorem same_calls (n : Int) (A A' : Option Addr) (c c' : Nat) (l : List Int) (w : World) (hl : Kd.C (Kd.int .i64) w A l.length l) (hl' : Kd.C (Kd.int .i64) w A' l.length l) (hc : l.length ≤ c) (hc' : l.length ≤ c') :
    Calls Try.prog 16 #[.agg #[.int .i64 n, .slice A l.length c], .agg #[.int .i64 n, .slice A' l.length c']] w fun e w' => e = .returned (.bool true) ∧ Below w.heap.size w w' := by
  have hm := Kd.C_max hl
  have hu24 := Try.underlying24
  have HL := Aside0.mk hl
  have HL' := Aside0.mk hl'
  clear hl hl'
  go_enter Try.func16, Try.ntmps16
  go_wp2
  obtain ⟨w1, hw1⟩ : ∃ w1, w1 = (w.alloc (.cells #[.int .i64 n, .slice A l.length c] 24)).alloc (.cells #[.int .i64 n, .slice A' l.length c'] 24) := ⟨_, rfl⟩
  have HB := Aside0.mk (show Below w.heap.size w w1 by rw [hw1]; exact below_alloc (below_alloc (Below.refl _ _) _) _)
  have h0 := blk_alloc (blk_new w (.cells #[.int .i64 n, .slice A l.length c] 24)) (.cells #[.int .i64 n, .slice A' l.length c'] 24)
  have h1 := blk_new (w.alloc (.cells #[.int .i64 n, .slice A l.length c] 24)) (.cells #[.int .i64 n, .slice A' l.length c'] 24)
  rw [← hw1] at h0 h1 ⊢
  rw [World.size_alloc] at h1
  have HL1 := Aside0.mk (Kd.C_below HL.out HB.out)
  have HL2 := Aside0.mk (Kd.C_below HL'.out HB.out)
  obtain ⟨b, hb⟩ : ∃ b, b = w.heap.size := ⟨_, rfl⟩
  rw [← hb] at h0 h1 ⊢
  have H0 := Aside0.mk h0
  have H1 := Aside0.mk h1
  clear hw1 h0 h1 HL HL' hb
  go_loopw [5] (fun i wr => ∃ k : Nat, k ≤ l.length ∧ i = .int .i64 k ∧ Aside0 (Below w1.heap.size w1 wr)) (fun i _ => l.length - (intOf i).toNat)
  case atStart => exact ⟨0, Nat.zero_le _, rfl, ⟨Below.refl _ _⟩⟩
  case round =>
    obtain ⟨k, hk, rfl, hbw⟩ := hrel
    have hc1 := (blk_cell (blk_below H0.out hbw.out) 1).trans rfl
    have hc2 := (blk_cell (blk_below H1.out hbw.out) 1).trans rfl
    by_cases hlt : k < l.length
    · obtain ⟨ad, e1, hx⟩ := Kd.at_int (Kd.C_below HL1.out hbw.out) (k : Int) (by omega) (by omega)
      obtain ⟨ad', e1', hx'⟩ := Kd.at_int (Kd.C_below HL2.out hbw.out) (k : Int) (by omega) (by omega)
      cases e1
      cases e1'
      rw [Int.toNat_natCast] at hx hx'
      obtain ⟨x, hxd⟩ : ∃ x, x = rd l (k : Int) := ⟨_, rfl⟩
      rw [← hxd] at hx hx'
      clear hxd
      go_wp2_with fail
      go_quiet (fail)
      go_wp2
      go_roundw
      case rel => exact ⟨k + 1, by omega, by go_num, ⟨pw_below_drewN hbw.out _⟩⟩
      case measure => simp [intOf]; omega
    · obtain rfl : k = l.length := by omega
      go_wp2
      go_ret
      exact ⟨rfl, HB.out.trans (hbw.out.mono HB.out.size)⟩
end Go.Proofs.Ytonbipaajhokfaa
