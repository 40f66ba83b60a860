/-
  Walks: num.Unfixed.
-/
import Derived.Test.YtonbipaajhokfaaA0
import Derived.WalkSpells
import Derived.WalkLawsBesides
namespace Go.Proofs.Ytonbipaajhokfaa
open Go.RowKit Go.Proofs.YtonbipaajhokfaaW.PrintWords Go.Proofs.YtonbipaajhokfaaW.PrintLast Go.Proofs.YtonbipaajhokfaaW.PrintMore

set_option maxHeartbeats 1000000 in
theorem unfixed_ok (s : ByteArray) (w : World) (h1 : 1 ≤ s.size) (h8 : s.size ≤ 8) :
    Calls Try.prog 41 #[.string s] w fun e w' => e = .returned (.tuple #[.int .u64 (beV s.data.toList), .int .i64 0]) ∧ Below w.heap.size w w' := by
  have kb := fun W => print_bytes (P := Try.prog) 9 68 5 Try.underlying9 Try.underlying68 Try.underlying5 s W
  have t1 : decide ((s.size : Int) < 1) = false := decide_eq_false (by omega)
  have t2 : decide ((8 : Int) < (s.size : Int)) = false := decide_eq_false (by omega)
  have hll : s.data.toList.length = s.size := data_length s
  have HLL := Aside0.mk hll
  clear hll
  go_enter Try.func41, Try.ntmps41
  go_wp2
  clear t1 t2 kb
  go_loop [4, 18] (fun n i => ∃ k : Nat, k ≤ s.size ∧ i = .int .i64 k ∧ n = .int .u64 (beV (s.data.toList.take k))) (fun _ i => s.size - (intOf i).toNat)
  case atStart => exact ⟨0, Nat.zero_le _, rfl, rfl⟩
  case round =>
    obtain ⟨k, hk, rfl, rfl⟩ := hrel
    by_cases hlt : k < s.size
    · have hcell := Lib.bytesWorld_cell w 5 s k hlt
      have hb := beV_take_bd s.data.toList k (by have := HLL.out; omega) (by have := HLL.out; omega)
      have hsn := beV_take_succ s.data.toList k (by have := HLL.out; omega)
      have hbyte := (s.data.toList.getD k 0).toNat_lt
      obtain ⟨c, hc⟩ : ∃ c : Nat, c = (s.data.toList.getD k 0).toNat := ⟨_, rfl⟩
      rw [← hc] at hcell hsn hbyte
      clear hc
      obtain ⟨b0, hb0⟩ : ∃ b0 : Int, b0 = beV (s.data.toList.take k) := ⟨_, rfl⟩
      rw [← hb0] at hb hsn
      rw [← hb0]
      clear hb0
      have HSN := Aside0.mk hsn
      clear hsn
      go_wp2
      go_round
      case rel => exact ⟨k + 1, by omega, by go_num, by rw [HSN.out]⟩
      case measure => simp [intOf]; omega
    · have hke : k = s.size := by omega
      subst hke
      go_wp2
      go_ret2
      exact ⟨by rw [List.take_of_length_le (by have := HLL.out; omega)]; rfl, bytes_below (Below.refl _ _) (Nat.le_refl _) 5 s⟩
end Go.Proofs.Ytonbipaajhokfaa
