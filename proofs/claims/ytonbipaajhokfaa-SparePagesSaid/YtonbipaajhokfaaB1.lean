/-
  Walks: a book's Get and Put.
-/
import Derived.Test.YtonbipaajhokfaaB0
set_option linter.unusedVariables false
set_option linter.unusedSimpArgs false
namespace Go.Proofs.Ytonbipaajhokfaa
open Go.RowKit Go.Proofs.YtonbipaajhokfaaW.PrintWords Go.Proofs.YtonbipaajhokfaaW.PrintLast Go.Proofs.YtonbipaajhokfaaW.PrintMore

def fullL (l : List UInt8) : List UInt8 := l.take 232 ++ List.replicate (232 - l.length) 0
theorem fullL_length (l : List UInt8) : (fullL l).length = 232 := by simp [fullL]; omega
theorem full_f (s : ByteArray) : PShelfFails.cahierref04_Full.f s = some (bs (fullL s.data.toList)) := by
  unfold PShelfFails.cahierref04_Full.f
  by_cases h : s.size ≥ 232
  · rw [if_pos (by omega), if_pos (by omega), if_pos (by omega)]
    congr 1
    rw [← bs_of (s.extract 0 _)]
    congr 1
    rw [extract_list]
    unfold fullL
    rw [data_length, show 232 - s.size = 0 by omega]
    simp
  · have e : wrap64 (232 - (s.size : Int)) = ((232 - s.size : Nat) : Int) := by unfold wrap64; omega
    rw [if_neg (by omega), e, if_pos (by omega), Int.toNat_natCast, if_pos (by omega)]
    simp only [Option.bind_some]
    rw [strOfNums_bs, bs_size, List.length_map, List.length_replicate, if_pos (by omega)]
    congr 1
    rw [← bs_of s, bs_append, bs_list]
    congr 1
    unfold fullL
    rw [data_length, List.take_of_length_le (by rw [data_length]; omega), List.map_replicate]
    rfl
theorem full_calls (s : ByteArray) (w : World) : Calls Try.prog 28 #[.string s] w fun e w' => e = .returned (.string (bs (fullL s.data.toList))) ∧ Below w.heap.size w w' :=
  PShelfFails.cahierref04_Full.calls _ _ w (full_f s)
theorem full_empty : PShelfFails.cahierref04_Full.f ⟨#[]⟩ = some (bs blankL) := full_f ⟨#[]⟩
theorem full_empty_calls (w : World) : Calls Try.prog 28 #[.string ⟨#[]⟩] w fun e w' => e = .returned (.string (bs blankL)) ∧ Below w.heap.size w w' :=
  PShelfFails.cahierref04_Full.calls _ _ w full_empty

set_option maxHeartbeats 1000000 in
theorem bookGet_calls (kb : Nat) (F : Nat → Prop) (N : List Int) (D : List ByteArray) (n : Int) (w : World) (h : BookAt w F kb N D) :
    Calls Try.prog 24 #[.pointer (some ⟨kb, 0, none⟩), .int .i64 n] w fun e w' => e = .returned (.string (getB N D n)) ∧ Below w.heap.size w w' := by
  have H := Aside0.mk h
  obtain ⟨h1, h2, h3, vN, vD, h4, h5, h6⟩ := h
  obtain ⟨A, c, rfl⟩ := Kd.R_slice h6
  obtain ⟨_, hc, hC⟩ := Kd.R_reads' h6
  have HC := Aside0.mk hC
  have hc1 := (blk_cell h4 1).trans rfl
  have hr := firstAt_range (eqB n) N
  have hm := Kd.C_max hC
  rw [show firstAt (eqB n) N = placeOf N n from rfl] at hr
  have H3 := Aside0.mk h3
  clear h1 h2 h3 h4 h5 h6 hC
  obtain ⟨p, hp⟩ : ∃ p, p = placeOf N n := ⟨_, rfl⟩
  rw [← hp] at hr
  have HP := Aside0.mk hp
  clear hp
  by_cases hlt : p < 0
  · have HG : Aside0 (getB N D n = bs blankL) := ⟨by unfold getB; rw [← HP.out, if_pos hlt]⟩
    go_enter Try.func24, Try.ntmps24
    go_wp2_with (first | (go_at_call 43; refine (place_calls _ _ _ _ _ _ H.out).mono ?_; rintro e w' ⟨rfl, rfl⟩; rw [← HP.out]) | (go_at_call 28; refine (full_empty_calls _).mono ?_; rintro e w' ⟨rfl, hb⟩))
    go_ret
    exact ⟨by rw [HG.out]; rfl, hb⟩
  · obtain ⟨k, rfl⟩ := Int.eq_ofNat_of_zero_le (show 0 ≤ p by omega)
    have hk : k < D.length := by have := H3.out; omega
    obtain ⟨ad, e1, hx⟩ := Kd.at_string HC.out (k : Int) (by omega) (by omega)
    cases e1
    rw [Int.toNat_natCast] at hx
    have HG : Aside0 (getB N D n = rdOf ByteArray.empty D (k : Int)) := ⟨by unfold getB; rw [← HP.out, if_neg hlt]; rfl⟩
    obtain ⟨x, hxd⟩ : ∃ x, x = rdOf ByteArray.empty D (k : Int) := ⟨_, rfl⟩
    rw [← hxd] at hx HG
    clear hxd hlt
    go_enter Try.func24, Try.ntmps24
    go_wp2_with (first | (go_at_call 43; refine (place_calls _ _ _ _ _ _ H.out).mono ?_; rintro e w' ⟨rfl, rfl⟩; rw [← HP.out]) | (go_at_call 28; refine (full_empty_calls _).mono ?_; rintro e w' ⟨rfl, hb⟩))
    go_ret
    exact ⟨by rw [HG.out]; rfl, Below.refl _ _⟩
end Go.Proofs.Ytonbipaajhokfaa
