/-
  Of this claim's texts, laid together by wip/gen/squeeze.py: PChainReadsx9 KA Shelf A4.
-/
import Derived.Test.YtonbipaajhokfaaGreatDoorERq2
import Derived.WalkSpells
import Derived.WalkLawsBesides
import Derived.Deep.QuietTactic
import Derived.Shelf.Strings.Builder1
import Derived.Shelf.Strings.Builder2
import Derived.Shelf.Strings.Trim
import Derived.Shelf.Small.Utf8
import Derived.Shelf.Small.Strs
import Derived.Shelf.Strings.BuilderF
import Derived.Shelf.Strings.BuilderK
import Derived.Shelf.Strings.Builder2Cap
import Derived.Shelf.Strings.Search1
import Derived.Shelf.Strings.Prefix
import Derived.Shelf.Strings.Runes
import Derived.Shelf.Strings.AsciiSet
import Derived.Shelf.Bits.Mul64
import Derived.Shelf.Strings.Repeat
import Derived.Shelf.Unicode.DecodeSlow
import Derived.Shelf.Strings.BuilderCap
import Derived.Test.YtonbipaajhokfaaGreatDoorProg
section
namespace Go.Proofs.YtonbipaajhokfaaGreatDoor.PChainReads
open Go.RowKit Go.Proofs.YtonbipaajhokfaaGreatDoorW.PrintWords Go.Proofs.YtonbipaajhokfaaGreatDoorW.PrintLast Go.Proofs.YtonbipaajhokfaaGreatDoorW.PrintMore
attribute [local go_sem] max2_int min2_int max_two min_two max_three min_three max_four min_four   -- for this text's walks alone
set_option linter.unusedVariables false
set_option linter.unusedSimpArgs false
def cahierref04_Full.f (a0 : ByteArray) : Option (ByteArray) := if (a0.size : Int) ≥ 232 then (if 0 ≤ 232 then (if 232 ≤ (a0.size : Int) then (some (a0.extract 0 232)) else (none)) else (none)) else (if 0 ≤ (wrap64 (232 - (a0.size : Int))) then (if (wrap64 (232 - (a0.size : Int)) : Int).toNat ≤ 281474976710656 then ((some (List.replicate (wrap64 (232 - (a0.size : Int)) : Int).toNat 0 : List Int)).bind fun y263 => (if a0.size + (strOfNums y263).size ≤ 9223372036854775807 then (some (a0 ++ (strOfNums y263))) else (none))) else (none)) else (none))
set_option maxHeartbeats 8000000 in
set_option maxRecDepth 100000 in
theorem cahierref04_Full.calls (a0 : ByteArray) (r : ByteArray) (w : World) (h : cahierref04_Full.f a0 = some r) :
    Calls Tryz.prog 27 #[.string a0] w fun e w' => e = .returned (.string r) ∧ Below w.heap.size w w' := by
  have HB := Aside0.mk (Below.refl w.heap.size w)
  have H : (if (a0.size : Int) ≥ 232 then (if 0 ≤ 232 then (if 232 ≤ (a0.size : Int) then (some (a0.extract 0 232)) else (none)) else (none)) else (if 0 ≤ (wrap64 (232 - (a0.size : Int))) then (if (wrap64 (232 - (a0.size : Int)) : Int).toNat ≤ 281474976710656 then ((some (List.replicate (wrap64 (232 - (a0.size : Int)) : Int).toNat 0 : List Int)).bind fun y263 => (if a0.size + (strOfNums y263).size ≤ 9223372036854775807 then (some (a0 ++ (strOfNums y263))) else (none))) else (none)) else (none))) = some r := h
  clear h
  by_cases c2 : (a0.size : Int) ≥ 232
  · rw [if_pos c2] at H
    have c2b0 : decide (232 ≤ (a0.size : Int)) = true := decide_eq_true c2
    have c2b1 : decide (232 ≤ a0.size) = true := decide_eq_true (by omega)
    clear c2
    by_cases c3 : 0 ≤ 232
    · rw [if_pos c3] at H
      have c3b0 := eq_true c3
      have c3b1 : decide (0 ≤ 232) = true := decide_eq_true c3
      clear c3
      by_cases c4 : 232 ≤ (a0.size : Int)
      · rw [if_pos c4] at H
        have c4b0 := eq_true c4
        have c4b1 : decide (232 ≤ (a0.size : Int)) = true := decide_eq_true c4
        clear c4
        obtain rfl := Option.some.inj H
        go_enter Tryz.func27, Tryz.ntmps27
        go_wp2
        go_ret
        exact ⟨by first | rfl | (simp [errW_none, errW_some] <;> rfl) | (simp [*, errW_none, errW_some] <;> rfl), by repeat (first | (with_reducible first | exact HB.out | apply below_alloc | apply pw_below_drewN | apply below_drew1) | exact HB.out)⟩
      · rw [if_neg c4] at H
        exact absurd H (by simp)
    · rw [if_neg c3] at H
      exact absurd H (by simp)
  · rw [if_neg c2] at H
    have c2b0 : decide (232 ≤ (a0.size : Int)) = false := decide_eq_false c2
    have c2b1 : decide (232 ≤ a0.size) = false := decide_eq_false (by omega)
    clear c2
    obtain ⟨ji5, hji5⟩ : ∃ j_ : Int, (wrap64 (232 - (a0.size : Int))) = j_ := ⟨_, rfl⟩
    replace H : (if 0 ≤ (ji5) then (if (ji5 : Int).toNat ≤ 281474976710656 then ((some (List.replicate (ji5 : Int).toNat 0 : List Int)).bind fun y263 => (if a0.size + (strOfNums y263).size ≤ 9223372036854775807 then (some (a0 ++ (strOfNums y263))) else (none))) else (none)) else (none)) = some r := by first | (rw [hji5] at H; exact H) | (simp only [hji5] at H ⊢; exact H)
    have hji5w : (IntKind.i64.wrap (232 - (a0.size : Int))) = ji5 := (i64_w _).trans hji5
    by_cases c6 : 0 ≤ (ji5)
    · rw [if_pos c6] at H
      have c6b0 := eq_true c6
      have c6b1 : decide (0 ≤ (ji5)) = true := decide_eq_true c6
      clear c6
      by_cases c7 : (ji5 : Int).toNat ≤ 281474976710656
      · rw [if_pos c7] at H
        have c7b0 := eq_true c7
        have c7b1 : decide ((ji5 : Int).toNat ≤ 281474976710656) = true := decide_eq_true c7
        clear c7
        obtain ⟨y263, hy263⟩ : ∃ y_ : List Int, y_ = (List.replicate (ji5 : Int).toNat 0) := ⟨_, rfl⟩
        replace H : (if a0.size + (strOfNums y263).size ≤ 9223372036854775807 then (some (a0 ++ (strOfNums y263))) else (none)) = some r := by first | (rw [hy263]; with_reducible exact H) | (have H2_ := (Option.bind_some _ _).symm.trans H; rw [hy263]; with_reducible exact H2_) | (have H2_ := (Option.bind_some _ _).symm.trans H; with_reducible exact H2_) | with_reducible exact H | (rw [hy263]; exact H) | exact H
        have Ny263 := Aside0.mk hy263
        clear hy263
        by_cases c8 : a0.size + (strOfNums y263).size ≤ 9223372036854775807
        · rw [if_pos c8] at H
          have c8b0 := eq_true c8
          have c8b1 : decide (a0.size + (strOfNums y263).size ≤ 9223372036854775807) = true := decide_eq_true c8
          try have c8b2 : (9223372036854775807 < a0.size + (strOfNums y263).size) = False := eq_false (Nat.not_lt.2 c8)
          obtain rfl := Option.some.inj H
          go_enter Tryz.func27, Tryz.ntmps27
          go_wp2_with (first | ((with_reducible refine gate_dst (N := 12) rfl ?_); refine Kd.R_make (Kd.int .u8) _ 5 rfl (N := 12) rfl 84 _ _ rfl ji5 rfl rfl Tryz.underlying84 (.int .u8 0) 1 info5 rfl (by decide) (by omega) 0 (ok := fun _ => True) (okp := fun _ => True) rfl (fun _ hk => hk) trivial (of_decide_eq_true (by first | (with_reducible assumption) | assumption)) (Nat.le_trans (Nat.mul_le_mul_right _ (of_decide_eq_true (by first | (with_reducible assumption) | assumption) : ji5.toNat ≤ 281474976710656)) (by omega)) (Below.refl _ _) (Nat.le_refl _) ?_; intro v264 w9 ho10 hb hg_ hnew_; clear hg_ hnew_; (first | rw [← Ny263.out] at ho10 | (simp only [Int.reduceToNat] at ho10; rw [← Ny263.out] at ho10)); have n0_ := Aside0.mk (Kd.R_lower ho10 (below_size (by repeat (first | (with_reducible first | exact HB.out | apply below_alloc | apply pw_below_drewN | apply below_drew1) | exact HB.out)))); have n1_ := Aside0.mk (below_step (by repeat (first | (with_reducible first | exact HB.out | apply below_alloc | apply pw_below_drewN | apply below_drew1) | exact HB.out)) hb); clear HB; have HO265 := n0_; have HB := n1_; clear n0_ n1_; clear hb ho10; have hcv11 := own_string (P := Tryz.prog) Tryz.underlying84 Tryz.underlying5 Tryz.underlying9 (Kd.own_of_R HO265.out)))
          go_ret
          exact ⟨by first | rfl | (simp [errW_none, errW_some] <;> rfl) | (simp only [← hji5]; first | rfl | (simp [errW_none, errW_some] <;> rfl)) | (simp [*, errW_none, errW_some] <;> rfl), by repeat (first | (with_reducible first | exact HB.out | apply below_alloc | apply pw_below_drewN | apply below_drew1) | exact HB.out)⟩
        · rw [if_neg c8] at H
          exact absurd H (by simp)
      · rw [if_neg c7] at H
        exact absurd H (by simp)
    · rw [if_neg c6] at H
      exact absurd H (by simp)
mutual
def cahierref01_Unfixed.j0 : Nat → ByteArray → Bool → Option (Int × Int)
  | 0, _, _ => none
  | k + 1, x0, x13 => if x13 = true then (some (0, 1)) else (cahierref01_Unfixed.l0 k x0 0 0)
def cahierref01_Unfixed.l0 : Nat → ByteArray → Int → Int → Option (Int × Int)
  | 0, _, _, _ => none
  | k + 1, x0, x4, x5 => if x5 < (x0.size : Int) then (if 0 ≤ x5 then (cahierref01_Unfixed.l0 k x0 (Go.bits .or .u64 (IntKind.u64.wrap (x4 * 256)) (IntKind.u64.wrap (bt x0 x5))) (wrap64 (x5 + 1))) else (none)) else (some (x4, 0))
end
def cahierref01_Unfixed.f (k : Nat) (a0 : ByteArray) : Option (Int × Int) := if (a0.size : Int) < 1 then (cahierref01_Unfixed.j0 k a0 true) else (cahierref01_Unfixed.j0 k a0 (decide ((a0.size : Int) > 8)))
theorem cahierref01_Unfixed.mono_l : ∀ k, (∀ y0 y1, LeO (cahierref01_Unfixed.j0 k y0 y1) (cahierref01_Unfixed.j0 (k + 1) y0 y1)) ∧ (∀ y0 y1 y2, LeO (cahierref01_Unfixed.l0 k y0 y1 y2) (cahierref01_Unfixed.l0 (k + 1) y0 y1 y2))
  | 0 => ⟨fun _ _ r h => by simp [cahierref01_Unfixed.j0] at h, fun _ _ _ r h => by simp [cahierref01_Unfixed.l0] at h⟩
  | k + 1 => by
    obtain ⟨ih0, ih1⟩ := cahierref01_Unfixed.mono_l k
    refine ⟨?_, ?_⟩
    · intro y0 y1
      unfold cahierref01_Unfixed.j0
      repeat' first
      | (with_reducible exact ih0 _ _)
      | (with_reducible exact ih1 _ _ _)
      | (with_reducible exact LeO.refl _)
      | (with_reducible exact LeO.none _)
      | (with_reducible refine LeO.ite ?_ ?_)
      | (with_reducible refine LeO.bind ?_ (fun _ => ?_))
      | exact ih0 _ _
      | exact ih1 _ _ _
      | exact LeO.none _
      | refine LeO.ite ?_ ?_
      | refine LeO.bind ?_ (fun _ => ?_)
    · intro y0 y1 y2
      unfold cahierref01_Unfixed.l0
      repeat' first
      | (with_reducible exact ih0 _ _)
      | (with_reducible exact ih1 _ _ _)
      | (with_reducible exact LeO.refl _)
      | (with_reducible exact LeO.none _)
      | (with_reducible refine LeO.ite ?_ ?_)
      | (with_reducible refine LeO.bind ?_ (fun _ => ?_))
      | exact ih0 _ _
      | exact ih1 _ _ _
      | exact LeO.none _
      | refine LeO.ite ?_ ?_
      | refine LeO.bind ?_ (fun _ => ?_)
theorem cahierref01_Unfixed.mono : ∀ a0 k, LeO (cahierref01_Unfixed.f k a0) (cahierref01_Unfixed.f (k + 1) a0) := by
  intro a0 k
  obtain ⟨ih0, ih1⟩ := cahierref01_Unfixed.mono_l k
  unfold cahierref01_Unfixed.f
  repeat' first
      | (with_reducible exact ih0 _ _)
      | (with_reducible exact ih1 _ _ _)
      | (with_reducible exact LeO.refl _)
      | (with_reducible exact LeO.none _)
      | (with_reducible refine LeO.ite ?_ ?_)
      | (with_reducible refine LeO.bind ?_ (fun _ => ?_))
      | exact ih0 _ _
      | exact ih1 _ _ _
      | exact LeO.none _
      | refine LeO.ite ?_ ?_
      | refine LeO.bind ?_ (fun _ => ?_)
set_option maxHeartbeats 8000000 in
set_option maxRecDepth 100000 in
theorem cahierref01_Unfixed.calls (k : Nat) (a0 : ByteArray) (r1 : Int) (r2 : Int) (w : World) (h : cahierref01_Unfixed.f k a0 = some (r1, r2)) :
    Calls Tryz.prog 30 #[.string a0] w fun e w' => e = .returned (.tuple #[.int .u64 r1, .int .i64 r2]) ∧ Drawn0 w w' := by
  have H : (if (a0.size : Int) < 1 then (cahierref01_Unfixed.j0 k a0 true) else (cahierref01_Unfixed.j0 k a0 (decide ((a0.size : Int) > 8)))) = some (r1, r2) := h
  clear h
  have HC2 := Aside0.mk H
  clear H
  go_enter Tryz.func30, Tryz.ntmps30
  go_upto_region 1 with (fail)
  go_cut [13] (fun v13 wc => ∃ (kq : Nat) (x13_1 : Bool), v13 = .bool x13_1 ∧ Aside0 (cahierref01_Unfixed.j0 kq a0 x13_1 = some (r1, r2)) ∧ Aside0 (kq ≤ k) ∧ Drawn0 w wc)
  case first =>
    have H := HC2.out
    clear HC2
    by_cases c3 : (a0.size : Int) < 1
    · rw [if_pos c3] at H
      have c3b0 : decide ((a0.size : Int) < 1) = true := decide_eq_true c3
      have c3b1 : decide (a0.size < 1) = true := decide_eq_true (by omega)
      clear c3
      (first | rw [c3b0] | (simp only [i64_w, i32_w]; rw [c3b0]) | skip)
      have H' := Aside0.mk H
      clear H
      go_wp2
      go_meet
      case rel => exact ⟨_, (true), (by first | rfl | (simp; done) | (simp [*]; done)), H', ⟨by first | omega | exact Nat.le_refl _⟩, by repeat (first | exact Drawn0.refl _ | apply Drawn0.step)⟩
    · rw [if_neg c3] at H
      have c3b0 : decide ((a0.size : Int) < 1) = false := decide_eq_false c3
      have c3b1 : decide (a0.size < 1) = false := decide_eq_false (by omega)
      clear c3
      (first | rw [c3b0] | (simp only [i64_w, i32_w]; rw [c3b0]) | skip)
      have H' := Aside0.mk H
      clear H
      go_wp2
      go_meet
      case rel => exact ⟨_, (decide ((a0.size : Int) > 8)), (by first | rfl | (simp; done) | (simp [*]; done)), H', ⟨by first | omega | exact Nat.le_refl _⟩, by repeat (first | exact Drawn0.refl _ | apply Drawn0.step)⟩
  case rest =>
    clear HC2
    try clear p2
    try clear c3
    try clear c3b0
    try clear c3b1
    obtain ⟨kq, x13_1, rfl, HA, HJ1, ⟨mc1, rfl⟩⟩ := hcut
    cases kq with
    | zero => exact absurd HA.out (by simp [cahierref01_Unfixed.j0])
    | succ kj1 =>
      have H := HA.out
      clear HA
      simp only [cahierref01_Unfixed.j0] at H
      by_cases c4 : x13_1 = true
      · subst c4
        have H1 : (some (0, 1)) = some (r1, r2) := by rw [if_pos rfl] at H; exact H
        clear H
        have H := H1
        clear H1
        simp only [Option.some.injEq, Prod.mk.injEq] at H
        obtain ⟨rfl, rfl⟩ := H
        go_wp2
        go_ret2
        exact ⟨by first | rfl | (simp; done) | (simp [*]; done), by repeat (first | exact Drawn0.refl _ | apply Drawn0.step)⟩
      · replace c4 := Bool.eq_false_iff.mpr c4
        subst c4
        have H1 : (cahierref01_Unfixed.l0 kj1 a0 0 0) = some (r1, r2) := by rw [if_neg (show ¬ (false = true) by decide)] at H; exact H
        clear H
        have H := H1
        clear H1
        have H' := Aside0.mk H
        clear H
        go_wp2
        go_loopg [4, 5] kj1 (fun kq v4 v5 w' => ∃ (x4_2 : Int) (x5_2 : Int), v4 = .int .u64 x4_2 ∧ v5 = .int .i64 x5_2 ∧ Aside0 (cahierref01_Unfixed.l0 kq a0 x4_2 x5_2 = some (r1, r2)) ∧ Aside0 (kq ≤ kj1) ∧ Drawn0 w w')
        case atStart => exact ⟨(0), (0), (by first | rfl | (simp; done) | (simp [*]; done)), (by first | rfl | (simp; done) | (simp [*]; done)), H', ⟨Nat.le_refl _⟩, by repeat (first | exact Drawn0.refl _ | apply Drawn0.step)⟩
        case round =>
          clear H'
          try clear c1
          try clear p2
          try clear c3
          try clear c3b0
          try clear c3b1
          try clear c4
          try clear p2
          obtain ⟨x4_2, x5_2, rfl, rfl, HA, HK2, ⟨m2, rfl⟩⟩ := hrel
          cases gk with
          | zero => exact absurd HA.out (by simp [cahierref01_Unfixed.l0])
          | succ k2 =>
            have H := HA.out
            clear HA
            simp only [cahierref01_Unfixed.l0] at H
            by_cases c5 : x5_2 < (a0.size : Int)
            · rw [if_pos c5] at H
              have c5b0 : decide (x5_2 < (a0.size : Int)) = true := decide_eq_true c5
              clear c5
              by_cases c6 : 0 ≤ x5_2
              · rw [if_pos c6] at H
                have c6b0 : decide (0 ≤ x5_2) = true := decide_eq_true c6
                clear c6
                have H' := Aside0.mk H
                clear H
                have p7 : 0 ≤ (x5_2 : Int) := of_decide_eq_true (by first | (with_reducible assumption) | assumption)
                have q7 : x5_2 < (a0.size : Int) := of_decide_eq_true (by first | (with_reducible assumption) | assumption)
                have hx7 := bt_at a0 x5_2
                replace p7 := eq_true p7
                replace q7 := eq_true q7
                go_wp2
                go_roundg k2
                case measure => have := HJ1.out; have := HK2.out; omega
                case rel => exact ⟨(Go.bits .or .u64 (IntKind.u64.wrap (x4_2 * 256)) (IntKind.u64.wrap (bt a0 x5_2))), (wrap64 (x5_2 + 1)), (by first | rfl | (simp; done) | (simp [*]; done)), (by first | rfl | (simp; done) | (simp [*]; done)), H', ⟨by have := HJ1.out; have := HK2.out; omega⟩, by repeat (first | exact Drawn0.refl _ | apply Drawn0.step)⟩
              · rw [if_neg c6] at H
                exact absurd H (by simp)
            · rw [if_neg c5] at H
              have c5b0 : decide (x5_2 < (a0.size : Int)) = false := decide_eq_false c5
              clear c5
              simp only [Option.some.injEq, Prod.mk.injEq] at H
              obtain ⟨rfl, rfl⟩ := H
              go_wp2
              go_ret2
              exact ⟨by first | rfl | (simp; done) | (simp [*]; done), by repeat (first | exact Drawn0.refl _ | apply Drawn0.step)⟩
mutual
def cahierref01_Fixed.j0 : Nat → Int → Int → Option (ByteArray)
  | 0, _, _ => none
  | k + 1, x0, x1 => if x1 > 8 then (cahierref01_Fixed.j1 k x0 8) else (cahierref01_Fixed.j1 k x0 x1)
def cahierref01_Fixed.j1 : Nat → Int → Int → Option (ByteArray)
  | 0, _, _ => none
  | k + 1, x0, x1 => cahierref01_Fixed.l0 k x0 (([] : List Int)) (wrap64 (x1 - 1))
def cahierref01_Fixed.l0 : Nat → Int → List Int → Int → Option (ByteArray)
  | 0, _, _, _ => none
  | k + 1, x0, x5, x6 => if x6 ≥ 0 then (if 0 ≤ (wrap64 (8 * x6)) then (if x5.length < 140737488355328 then (cahierref01_Fixed.l0 k x0 (x5 ++ [(shr .u64 x0 (wrap64 (8 * x6))) % 256]) (wrap64 (x6 - 1))) else (none)) else (none)) else (some (strOfNums x5))
end
def cahierref01_Fixed.f (k : Nat) (a0 : Int) (a1 : Int) : Option (ByteArray) := if a1 < 1 then (cahierref01_Fixed.j0 k a0 1) else (cahierref01_Fixed.j0 k a0 a1)
theorem cahierref01_Fixed.mono_l : ∀ k, (∀ y0 y1, LeO (cahierref01_Fixed.j0 k y0 y1) (cahierref01_Fixed.j0 (k + 1) y0 y1)) ∧ (∀ y0 y1, LeO (cahierref01_Fixed.j1 k y0 y1) (cahierref01_Fixed.j1 (k + 1) y0 y1)) ∧ (∀ y0 y1 y2, LeO (cahierref01_Fixed.l0 k y0 y1 y2) (cahierref01_Fixed.l0 (k + 1) y0 y1 y2))
  | 0 => ⟨fun _ _ r h => by simp [cahierref01_Fixed.j0] at h, fun _ _ r h => by simp [cahierref01_Fixed.j1] at h, fun _ _ _ r h => by simp [cahierref01_Fixed.l0] at h⟩
  | k + 1 => by
    obtain ⟨ih0, ih1, ih2⟩ := cahierref01_Fixed.mono_l k
    refine ⟨?_, ?_, ?_⟩
    · intro y0 y1
      unfold cahierref01_Fixed.j0
      repeat' first
      | (with_reducible exact ih0 _ _)
      | (with_reducible exact ih1 _ _)
      | (with_reducible exact ih2 _ _ _)
      | (with_reducible exact LeO.refl _)
      | (with_reducible exact LeO.none _)
      | (with_reducible refine LeO.ite ?_ ?_)
      | (with_reducible refine LeO.bind ?_ (fun _ => ?_))
      | exact ih0 _ _
      | exact ih1 _ _
      | exact ih2 _ _ _
      | exact LeO.none _
      | refine LeO.ite ?_ ?_
      | refine LeO.bind ?_ (fun _ => ?_)
    · intro y0 y1
      unfold cahierref01_Fixed.j1
      repeat' first
      | (with_reducible exact ih0 _ _)
      | (with_reducible exact ih1 _ _)
      | (with_reducible exact ih2 _ _ _)
      | (with_reducible exact LeO.refl _)
      | (with_reducible exact LeO.none _)
      | (with_reducible refine LeO.ite ?_ ?_)
      | (with_reducible refine LeO.bind ?_ (fun _ => ?_))
      | exact ih0 _ _
      | exact ih1 _ _
      | exact ih2 _ _ _
      | exact LeO.none _
      | refine LeO.ite ?_ ?_
      | refine LeO.bind ?_ (fun _ => ?_)
    · intro y0 y1 y2
      unfold cahierref01_Fixed.l0
      repeat' first
      | (with_reducible exact ih0 _ _)
      | (with_reducible exact ih1 _ _)
      | (with_reducible exact ih2 _ _ _)
      | (with_reducible exact LeO.refl _)
      | (with_reducible exact LeO.none _)
      | (with_reducible refine LeO.ite ?_ ?_)
      | (with_reducible refine LeO.bind ?_ (fun _ => ?_))
      | exact ih0 _ _
      | exact ih1 _ _
      | exact ih2 _ _ _
      | exact LeO.none _
      | refine LeO.ite ?_ ?_
      | refine LeO.bind ?_ (fun _ => ?_)
theorem cahierref01_Fixed.mono : ∀ a0 a1 k, LeO (cahierref01_Fixed.f k a0 a1) (cahierref01_Fixed.f (k + 1) a0 a1) := by
  intro a0 a1 k
  obtain ⟨ih0, ih1, ih2⟩ := cahierref01_Fixed.mono_l k
  unfold cahierref01_Fixed.f
  repeat' first
      | (with_reducible exact ih0 _ _)
      | (with_reducible exact ih1 _ _)
      | (with_reducible exact ih2 _ _ _)
      | (with_reducible exact LeO.refl _)
      | (with_reducible exact LeO.none _)
      | (with_reducible refine LeO.ite ?_ ?_)
      | (with_reducible refine LeO.bind ?_ (fun _ => ?_))
      | exact ih0 _ _
      | exact ih1 _ _
      | exact ih2 _ _ _
      | exact LeO.none _
      | refine LeO.ite ?_ ?_
      | refine LeO.bind ?_ (fun _ => ?_)
set_option maxHeartbeats 8000000 in
set_option maxRecDepth 100000 in
theorem cahierref01_Fixed.calls (k : Nat) (a0 : Int) (a1 : Int) (r : ByteArray) (w : World) (h : cahierref01_Fixed.f k a0 a1 = some r) :
    Calls Tryz.prog 70 #[.int .u64 a0, .int .i64 a1] w fun e w' => e = .returned (.string r) ∧ Below w.heap.size w w' := by
  have HB := Aside0.mk (Below.refl w.heap.size w)
  have H : (if a1 < 1 then (cahierref01_Fixed.j0 k a0 1) else (cahierref01_Fixed.j0 k a0 a1)) = some r := h
  clear h
  have HC3 := Aside0.mk H
  clear H
  go_enter Tryz.func70, Tryz.ntmps70
  go_upto_if 8 with (fail)
  go_cut [1] (fun v1 wc => ∃ (kq : Nat) (x1_2 : Int), v1 = .int .i64 x1_2 ∧ Aside0 (cahierref01_Fixed.j0 kq a0 x1_2 = some r) ∧ Aside0 (kq ≤ k) ∧ Aside0 (Below w.heap.size w wc))
  case first =>
    have H := HC3.out
    clear HC3
    by_cases c4 : a1 < 1
    · rw [if_pos c4] at H
      have c4b0 : decide (a1 < 1) = true := decide_eq_true c4
      clear c4
      (first | rw [c4b0] | (simp only [i64_w, i32_w]; rw [c4b0]) | skip)
      have H' := Aside0.mk H
      clear H
      go_wp2
      go_meet
      case rel => exact ⟨_, (1), (by first | rfl | (simp; done) | (simp [*]; done)), H', ⟨by first | omega | exact Nat.le_refl _⟩, ⟨by repeat (first | (with_reducible first | exact HB.out | apply below_alloc | apply pw_below_drewN | apply below_drew1) | exact HB.out)⟩⟩
    · rw [if_neg c4] at H
      have c4b0 : decide (a1 < 1) = false := decide_eq_false c4
      clear c4
      (first | rw [c4b0] | (simp only [i64_w, i32_w]; rw [c4b0]) | skip)
      have H' := Aside0.mk H
      clear H
      go_wp2
      go_meet
      case rel => exact ⟨_, (a1), (by first | rfl | (simp; done) | (simp [*]; done)), H', ⟨by first | omega | exact Nat.le_refl _⟩, ⟨by repeat (first | (with_reducible first | exact HB.out | apply below_alloc | apply pw_below_drewN | apply below_drew1) | exact HB.out)⟩⟩
  case rest =>
    clear HC3
    try clear p2
    try clear c4
    try clear c4b0
    obtain ⟨kq, x1_2, rfl, HA, HJ2, HB⟩ := hcut
    cases kq with
    | zero => exact absurd HA.out (by simp [cahierref01_Fixed.j0])
    | succ kj2 =>
      have H := HA.out
      clear HA
      simp only [cahierref01_Fixed.j0] at H
      have HC5 := Aside0.mk H
      clear H
      go_upto_if 10 with (fail)
      go_cut [1] (fun v1 wc => ∃ (kq : Nat) (x1_4 : Int), v1 = .int .i64 x1_4 ∧ Aside0 (cahierref01_Fixed.j1 kq a0 x1_4 = some r) ∧ Aside0 (kq ≤ kj2) ∧ Aside0 (Below w.heap.size w wc))
      case first =>
        have H := HC5.out
        clear HC5
        by_cases c6 : x1_2 > 8
        · rw [if_pos c6] at H
          have c6b0 : decide (8 < x1_2) = true := decide_eq_true c6
          clear c6
          (first | rw [c6b0] | (simp only [i64_w, i32_w]; rw [c6b0]) | skip)
          have H' := Aside0.mk H
          clear H
          go_wp2
          go_meet
          case rel => exact ⟨_, (8), (by first | rfl | (simp; done) | (simp [*]; done)), H', ⟨by have := HJ2.out; first | omega | exact Nat.le_refl _⟩, ⟨by repeat (first | (with_reducible first | exact HB.out | apply below_alloc | apply pw_below_drewN | apply below_drew1) | exact HB.out)⟩⟩
        · rw [if_neg c6] at H
          have c6b0 : decide (8 < x1_2) = false := decide_eq_false c6
          clear c6
          (first | rw [c6b0] | (simp only [i64_w, i32_w]; rw [c6b0]) | skip)
          have H' := Aside0.mk H
          clear H
          go_wp2
          go_meet
          case rel => exact ⟨_, (x1_2), (by first | rfl | (simp; done) | (simp [*]; done)), H', ⟨by have := HJ2.out; first | omega | exact Nat.le_refl _⟩, ⟨by repeat (first | (with_reducible first | exact HB.out | apply below_alloc | apply pw_below_drewN | apply below_drew1) | exact HB.out)⟩⟩
      case rest =>
        clear HC5
        try clear p2
        try clear c4
        try clear c4b0
        try clear c6
        try clear c6b0
        try clear p2
        obtain ⟨kq, x1_4, rfl, HA, HJ4, HB⟩ := hcut
        cases kq with
        | zero => exact absurd HA.out (by simp [cahierref01_Fixed.j1])
        | succ kj4 =>
          have H := HA.out
          clear HA
          simp only [cahierref01_Fixed.j1] at H
          obtain ⟨y267, hy267⟩ : ∃ y_ : List Int, y_ = (([] : List Int)) := ⟨_, rfl⟩
          replace H : (cahierref01_Fixed.l0 kj4 a0 y267 (wrap64 (x1_4 - 1))) = some r := by first | (rw [hy267]; with_reducible exact H) | (have H2_ := (Option.bind_some _ _).symm.trans H; rw [hy267]; with_reducible exact H2_) | (have H2_ := (Option.bind_some _ _).symm.trans H; with_reducible exact H2_) | with_reducible exact H | (rw [hy267]; exact H) | exact H
          have Ny267 := Aside0.mk hy267
          clear hy267
          have H' := Aside0.mk H
          clear H
          go_wp2_with (first | ((with_reducible refine gate_dst (N := 11) rfl ?_); refine Kd.R_lit (Kd.int .u8) _ 5 ?hg (N := 11) ?hd (xs := ([] : List Int)) (inner := []) (ok := fun _ => True) (okp := fun _ => True) ?hr ?hp (fun _ hk => hk) trivial (Below.refl _ _) (Nat.le_refl _) (by simp) ?_; (case hd => rfl); (case hg => rfl); (case hr => first | (go_simp; done) | (go_simp; rfl)); (case hp => exact (Reps.none _ _)); intro v268 w7 ho8 hb hg_ hnew_; clear hg_ hnew_; (first | rw [← Ny267.out] at ho8 | (simp only [Int.reduceToNat] at ho8; rw [← Ny267.out] at ho8)); have n0_ := Aside0.mk (Kd.R_lower ho8 (below_size (by repeat (first | (with_reducible first | exact HB.out | apply below_alloc | apply pw_below_drewN | apply below_drew1) | exact HB.out)))); have n1_ := Aside0.mk (below_step (by repeat (first | (with_reducible first | exact HB.out | apply below_alloc | apply pw_below_drewN | apply below_drew1) | exact HB.out)) hb); clear HB; have HO269 := n0_; have HB := n1_; clear n0_ n1_; clear hb ho8))
          go_loopg [5, 6] kj4 (fun kq v5 v6 w' => ∃ (x5_3 : List Int) (x6_3 : Int), v6 = .int .i64 x6_3 ∧ Aside0 (cahierref01_Fixed.l0 kq a0 x5_3 x6_3 = some r) ∧ Aside0 (kq ≤ kj4) ∧ Aside0 (Kd.R (Kd.int .u8) 5 w' w.heap.size (fun _ => True) v5 x5_3) ∧ Aside0 (Below w.heap.size w w'))
          case atStart => exact ⟨(y267), (wrap64 (x1_4 - 1)), (by first | rfl | (simp; done) | (simp [*]; done)), H', ⟨Nat.le_refl _⟩, ⟨by (with_reducible repeat (first | apply Kd.R_alloc | apply Kd.R_drewN | apply Kd.R_drew)); exact HO269.out⟩, ⟨by repeat (first | (with_reducible first | exact HB.out | apply below_alloc | apply pw_below_drewN | apply below_drew1) | exact HB.out)⟩⟩
          case round =>
            clear H'
            try clear p2
            try clear c4
            try clear c4b0
            try clear c6
            try clear c6b0
            try clear p6
            try clear c7
            try clear p2
            obtain ⟨x5_3, x6_3, rfl, HA, HK3, HO_5, HB⟩ := hrel
            cases gk with
            | zero => exact absurd HA.out (by simp [cahierref01_Fixed.l0])
            | succ k3 =>
              have H := HA.out
              clear HA
              simp only [cahierref01_Fixed.l0] at H
              by_cases c9 : x6_3 ≥ 0
              · rw [if_pos c9] at H
                have c9b0 : decide (0 ≤ x6_3) = true := decide_eq_true c9
                clear c9
                obtain ⟨ji10, hji10⟩ : ∃ j_ : Int, (wrap64 (8 * x6_3)) = j_ := ⟨_, rfl⟩
                replace H : (if 0 ≤ (ji10) then (if x5_3.length < 140737488355328 then (cahierref01_Fixed.l0 k3 a0 (x5_3 ++ [(shr .u64 a0 (ji10)) % 256]) (wrap64 (x6_3 - 1))) else (none)) else (none)) = some r := by first | (rw [hji10] at H; exact H) | (simp only [hji10] at H ⊢; exact H)
                have hji10w : (IntKind.i64.wrap (8 * x6_3)) = ji10 := (i64_w _).trans hji10
                by_cases c11 : 0 ≤ (ji10)
                · rw [if_pos c11] at H
                  have c11b0 := eq_true c11
                  have c11b1 : decide (0 ≤ (ji10)) = true := decide_eq_true c11
                  clear c11
                  obtain ⟨ji12, hji12⟩ : ∃ j_ : Int, (shr .u64 a0 (ji10)) = j_ := ⟨_, rfl⟩
                  replace H : (if x5_3.length < 140737488355328 then (cahierref01_Fixed.l0 k3 a0 (x5_3 ++ [(ji12) % 256]) (wrap64 (x6_3 - 1))) else (none)) = some r := by first | (rw [hji12] at H; exact H) | (simp only [hji12] at H ⊢; exact H)
                  have hji12_ : (a0 / 2 ^ min (ji10).toNat 64) = ji12 := hji12
                  have hji12z : (ji10) ≤ 64 → (a0 / 2 ^ (ji10).toNat) = ji12 := shr_small hji12
                  by_cases c13 : x5_3.length < 140737488355328
                  · rw [if_pos c13] at H
                    have LMc13 := Aside0.mk c13
                    clear c13
                    obtain ⟨y270, hy270⟩ : ∃ y_ : List Int, y_ = (x5_3 ++ [(ji12) % 256]) := ⟨_, rfl⟩
                    replace H : (cahierref01_Fixed.l0 k3 a0 y270 (wrap64 (x6_3 - 1))) = some r := by first | (rw [hy270]; with_reducible exact H) | (have H2_ := (Option.bind_some _ _).symm.trans H; rw [hy270]; with_reducible exact H2_) | (have H2_ := (Option.bind_some _ _).symm.trans H; with_reducible exact H2_) | with_reducible exact H | (rw [hy270]; exact H) | exact H
                    have Ny270 := Aside0.mk hy270
                    clear hy270
                    have H' := Aside0.mk H
                    clear H
                    go_wp2_with (first | ((with_reducible refine gate_builtin (b := .append) (xs := #[.tmp 18, .tmp 24]) rfl ?_); at_builtin; refine Kd.R_append (Kd.int .u8) (w0 := w) w.heap.size rfl (.tmp 18) (.tmp 24) 84 5 (.int .u8 0) 1 rfl Tryz.underlying84 info5 rfl (by decide) (by omega) u5 x5_3 ((ji12) % 256) [.int .u8 ((ji12) % 256)] (fun _ => True) (fun _ => False) rfl rfl ?aP (fun _ hk => hk.elim) ?aF ?aO ?aB ?aS ?aL ?_; (case aP => exact rfl); (case aB => exact (by repeat (first | (with_reducible first | exact HB.out | apply below_alloc | apply pw_below_drewN | apply below_drew1) | exact HB.out))); (case aF => exact (fun _ _ => trivial)); (case aO => exact (by (with_reducible repeat (first | apply Kd.R_alloc | apply Kd.R_drewN | apply Kd.R_drew)); exact HO_5.out)); (case aS => exact (below_size (by repeat (first | (with_reducible first | exact HB.out | apply below_alloc | apply pw_below_drewN | apply below_drew1) | exact HB.out)))); (case aL => have := LMc13.out; omega); intro v271 w14 ho hb hg hat; rw [← Ny270.out] at ho; have n0_ := Aside0.mk (hb); have n1_ := Aside0.mk (ho); clear HB; clear HO_5; have HB := n0_; have HO272 := n1_; clear n0_ n1_; clear ho hb hg hat))
                    go_roundg k3
                    case measure => have := HJ2.out; have := HJ4.out; have := HK3.out; omega
                    case rel => exact ⟨(y270), (wrap64 (x6_3 - 1)), (by first | rfl | (simp; done) | (simp [*]; done)), H', ⟨by have := HJ2.out; have := HJ4.out; have := HK3.out; omega⟩, ⟨by (with_reducible repeat (first | apply Kd.R_alloc | apply Kd.R_drewN | apply Kd.R_drew)); exact HO272.out⟩, ⟨by repeat (first | (with_reducible first | exact HB.out | apply below_alloc | apply pw_below_drewN | apply below_drew1) | exact HB.out)⟩⟩
                  · rw [if_neg c13] at H
                    exact absurd H (by simp)
                · rw [if_neg c11] at H
                  exact absurd H (by simp)
              · rw [if_neg c9] at H
                have c9b0 : decide (0 ≤ x6_3) = false := decide_eq_false c9
                clear c9
                obtain rfl := Option.some.inj H
                have hcv15 := own_string (P := Tryz.prog) Tryz.underlying84 Tryz.underlying5 Tryz.underlying9 (Kd.own_of_R HO_5.out)
                go_wp2
                go_ret
                exact ⟨by first | rfl | (simp [errW_none, errW_some] <;> rfl) | (simp [*, errW_none, errW_some] <;> rfl), by repeat (first | (with_reducible first | exact HB.out | apply below_alloc | apply pw_below_drewN | apply below_drew1) | exact HB.out)⟩
end Go.Proofs.YtonbipaajhokfaaGreatDoor.PChainReads
end
section
namespace Go.Proofs.YtonbipaajhokfaaGreatDoor
/-- The number that bytes are, the highest first. -/
def beV (l : List UInt8) : Int := l.foldl (fun a b => a * 256 + (b.toNat : Int)) 0
theorem beV_snoc (l : List UInt8) (b : UInt8) : beV (l ++ [b]) = beV l * 256 + (b.toNat : Int) := by
  unfold beV; rw [List.foldl_append]; rfl
theorem beV_bd : ∀ (n : Nat) (l : List UInt8), l.length = n → 0 ≤ beV l ∧ beV l < 256 ^ n := by
  intro n
  induction n with
  | zero => intro l h; rw [List.eq_nil_of_length_eq_zero h]; exact ⟨by decide, by decide⟩
  | succ n ih =>
    intro l h
    obtain ⟨l', b, rfl⟩ : ∃ l' b, l = l' ++ [b] := by
      rcases List.eq_nil_or_concat l with h0 | ⟨l', b, h1⟩
      · subst h0; simp at h
      · exact ⟨l', b, by rw [h1, List.concat_eq_append]⟩
    have := ih l' (by simpa using h)
    rw [beV_snoc]
    have hb := b.toNat_lt
    rw [Int.pow_succ]
    omega
theorem take_snoc8 (l : List UInt8) (k : Nat) (h : k < l.length) : l.take (k + 1) = l.take k ++ [l.getD k 0] := by
  rw [List.take_succ_eq_append_getElem h]; simp [List.getD, h]
theorem beV_take_succ (l : List UInt8) (k : Nat) (h : k < l.length) : beV (l.take (k + 1)) = beV (l.take k) * 256 + ((l.getD k 0).toNat : Int) := by
  rw [take_snoc8 l k h, beV_snoc]
theorem beV_take_bd (l : List UInt8) (k : Nat) (h : k < l.length) (h8 : l.length ≤ 8) : 0 ≤ beV (l.take k) ∧ beV (l.take k) < 72057594037927936 := by
  have hb := beV_bd k (l.take k) (by rw [List.length_take]; omega)
  refine ⟨hb.1, Int.lt_of_lt_of_le hb.2 ?_⟩
  have : k ≤ 7 := by omega
  have h2 : (256 : Int) ^ k ≤ 256 ^ 7 := by
    rcases (by omega : k = 0 ∨ k = 1 ∨ k = 2 ∨ k = 3 ∨ k = 4 ∨ k = 5 ∨ k = 6 ∨ k = 7) with rfl | rfl | rfl | rfl | rfl | rfl | rfl | rfl <;> decide
  exact Int.le_trans h2 (by decide)
end Go.Proofs.YtonbipaajhokfaaGreatDoor
namespace Go.Proofs.YtonbipaajhokfaaGreatDoor
open Go.RowKit Go.Proofs.YtonbipaajhokfaaGreatDoorW.PrintWords Go.Proofs.YtonbipaajhokfaaGreatDoorW.PrintLast Go.Proofs.YtonbipaajhokfaaGreatDoorW.PrintMore
set_option maxHeartbeats 1000000 in
theorem unfixed_ok (s : ByteArray) (w : World) (h1 : 1 ≤ s.size) (h8 : s.size ≤ 8) :
    Calls Tryz.prog 44 #[.string s] w fun e w' => e = .returned (.tuple #[.int .u64 (beV s.data.toList), .int .i64 0]) ∧ Below w.heap.size w w' := by
  have kb := fun W => print_bytes (P := Tryz.prog) 9 84 5 Tryz.underlying9 Tryz.underlying84 Tryz.underlying5 s W
  have t1 : decide ((s.size : Int) < 1) = false := decide_eq_false (by omega)
  have t2 : decide ((8 : Int) < (s.size : Int)) = false := decide_eq_false (by omega)
  have hll : s.data.toList.length = s.size := data_length s
  have HLL := Aside0.mk hll
  clear hll
  go_enter Tryz.func44, Tryz.ntmps44
  go_wp2
  clear t1 t2 kb
  go_loop [4, 18] (fun n i => ∃ k : Nat, k ≤ s.size ∧ i = .int .i64 k ∧ n = .int .u64 (beV (s.data.toList.take k))) (fun _ i => s.size - (intOf i).toNat)
  case atStart => exact ⟨0, Nat.zero_le _, rfl, rfl⟩
  case round =>
    obtain ⟨k, hk, rfl, rfl⟩ := hrel
    by_cases hlt : k < s.size
    · have hcell := Lib.bytesWorld_cell w 5 s k hlt
      have hb := beV_take_bd s.data.toList k (by have := HLL.out; omega) (by have := HLL.out; omega)
      have hsn := beV_take_succ s.data.toList k (by have := HLL.out; omega)
      have hbyte := (s.data.toList.getD k 0).toNat_lt
      obtain ⟨c, hc⟩ : ∃ c : Nat, c = (s.data.toList.getD k 0).toNat := ⟨_, rfl⟩
      rw [← hc] at hcell hsn hbyte
      clear hc
      obtain ⟨b0, hb0⟩ : ∃ b0 : Int, b0 = beV (s.data.toList.take k) := ⟨_, rfl⟩
      rw [← hb0] at hb hsn
      rw [← hb0]
      clear hb0
      have HSN := Aside0.mk hsn
      clear hsn
      go_wp2
      go_round
      case rel => exact ⟨k + 1, by omega, by go_num, by rw [HSN.out]⟩
      case measure => simp [intOf]; omega
    · have hke : k = s.size := by omega
      subst hke
      go_wp2
      go_ret2
      exact ⟨by rw [List.take_of_length_le (by have := HLL.out; omega)]; rfl, bytes_below (Below.refl _ _) (Nat.le_refl _) 5 s⟩
end Go.Proofs.YtonbipaajhokfaaGreatDoor
namespace Go.Proofs.YtonbipaajhokfaaGreatDoor
open Go.RowKit Go.Proofs.YtonbipaajhokfaaGreatDoorW.PrintWords Go.Proofs.YtonbipaajhokfaaGreatDoorW.PrintLast Go.Proofs.YtonbipaajhokfaaGreatDoorW.PrintMore
/-- No page's number behind the first. -/
def oddB (n : Int) : Bool := decide (n < 1) || decide (4096 ≤ n)
theorem oddB_lo {n : Int} (h : n < 1) : oddB n = true := by simp [oddB, h]
theorem oddB_hi {n : Int} (h : 4096 ≤ n) : oddB n = true := by simp [oddB, h]
theorem oddB_no {n : Int} (h : 1 ≤ n) (h' : n < 4096) : oddB n = false := by
  simp only [oddB, Bool.or_eq_false_iff, decide_eq_false_iff_not]; omega
theorem odd_calls (n : Int) (w : World) : Calls Tryz.prog 87 #[.int .i64 n] w fun e w' => e = .returned (.bool (oddB n)) ∧ w = w' := by
  by_cases h : n < 1
  · have t1 : decide (n < 1) = true := decide_eq_true h
    clear h
    go_enter Tryz.func87, Tryz.ntmps87
    go_wp2
    go_ret
    exact ⟨by rw [oddB_lo (of_decide_eq_true t1)]; rfl, rfl⟩
  · have t1 : decide (n < 1) = false := decide_eq_false h
    clear h
    by_cases h : 4096 ≤ n
    · have t2 : decide (4096 ≤ n) = true := decide_eq_true h
      clear h
      go_enter Tryz.func87, Tryz.ntmps87
      go_wp2
      go_ret
      exact ⟨by rw [oddB_hi (of_decide_eq_true t2)]; rfl, rfl⟩
    · have t2 : decide (4096 ≤ n) = false := decide_eq_false h
      clear h
      go_enter Tryz.func87, Tryz.ntmps87
      go_wp2
      go_ret
      exact ⟨by have a := of_decide_eq_false t1; have b := of_decide_eq_false t2; rw [oddB_no (by omega) (by omega)]; rfl, rfl⟩
/-- Where the first odd number stands, -1: nowhere. -/
def oddAt : List Int → Int
  | [] => -1
  | x :: r => if oddB x then 0 else (if oddAt r = -1 then -1 else oddAt r + 1)
theorem oddAt_ge (l : List Int) : -1 ≤ oddAt l := by
  induction l with
  | nil => decide
  | cons x r ih => unfold oddAt; split <;> (try split) <;> omega
theorem oddAt_any (l : List Int) : decide (0 ≤ oddAt l) = l.any oddB := by
  induction l with
  | nil => decide
  | cons x r ih =>
    unfold oddAt
    have := oddAt_ge r
    cases h : oddB x
    · simp only [List.any_cons, h, Bool.false_or, ← ih]
      by_cases e : oddAt r = -1
      · simp [e]
      · have : 0 ≤ oddAt r := by omega
        simp [e, this]; omega
    · simp [List.any_cons, h]
/-- From a place on. -/
theorem oddAt_at {l : List Int} {k : Nat} (hk : k < l.length) (hb : ∀ j, j < k → oddB (l.getD j 0) = false) (h : oddB (l.getD k 0) = true) : oddAt l = k := by
  induction l generalizing k with
  | nil => simp at hk
  | cons x r ih =>
    cases k with
    | zero => simp at h; simp [oddAt, h]
    | succ k =>
      have h0 := hb 0 (by omega)
      simp at h0
      have := ih (k := k) (by simpa using hk) (fun j hj => by have := hb (j + 1) (by omega); simpa using this) (by simpa using h)
      simp only [oddAt, h0, this]
      rw [if_neg (by decide), if_neg (by omega)]
      omega
theorem oddAt_no {l : List Int} (hb : ∀ j, j < l.length → oddB (l.getD j 0) = false) : oddAt l = -1 := by
  induction l with
  | nil => rfl
  | cons x r ih =>
    have h0 := hb 0 (by simp)
    simp at h0
    have := ih (fun j hj => by have := hb (j + 1) (by simpa using hj); simpa using this)
    simp [oddAt, h0, this]
set_option maxHeartbeats 1000000 in
theorem indexOdd_calls (A : Option Addr) (c : Nat) (l : List Int) (w : World) (hl : Kd.C (Kd.int .i64) w A l.length l) :
    Calls Tryz.prog 99 #[.slice A l.length c, .func (.func 87) #[] #[]] w fun e w' => e = .returned (.int .i64 (oddAt l)) ∧ w = w' := by
  have hm := Kd.C_max hl
  have HL := Aside0.mk hl
  clear hl
  go_enter Tryz.func99, Tryz.ntmps99
  go_wp2
  go_loop [8] (fun i => ∃ k : Nat, k ≤ l.length ∧ i = .int .i64 k ∧ Aside0 (∀ j, j < k → oddB (l.getD j 0) = false)) (fun i => l.length - (intOf i).toNat)
  case atStart => exact ⟨0, Nat.zero_le _, rfl, ⟨fun j hj => absurd hj (Nat.not_lt_zero j)⟩⟩
  case round =>
    obtain ⟨k, hk, rfl, hno⟩ := hrel
    by_cases hlt : k < l.length
    · obtain ⟨ad, e1, hx⟩ := Kd.at_int HL.out (k : Int) (by omega) (by omega)
      cases e1
      rw [show rd l (k : Int) = l.getD k 0 from rfl, Int.toNat_natCast] at hx
      obtain ⟨x, hxd⟩ : ∃ x, x = l.getD k 0 := ⟨_, rfl⟩
      rw [← hxd] at hx
      have HX := Aside0.mk hxd
      clear hxd
      cases hb : oddB x with
      | true =>
        have HR := Aside0.mk (oddAt_at hlt hno.out (by rw [← HX.out]; exact hb))
        go_wp2_with (go_at_call 87; refine (odd_calls _ _).mono ?_; rintro e w' ⟨rfl, rfl⟩)
        go_ret
        exact ⟨by rw [HR.out]; rfl, rfl⟩
      | false =>
        go_wp2_with (go_at_call 87; refine (odd_calls _ _).mono ?_; rintro e w' ⟨rfl, rfl⟩)
        go_round
        case rel => exact ⟨k + 1, by omega, by go_num, ⟨fun j hj => by
          rcases Nat.lt_or_ge j k with h | h
          · exact hno.out j h
          · obtain rfl : j = k := by omega
            rw [← HX.out]; exact hb⟩⟩
        case measure => simp [intOf]; omega
    · have hke : k = l.length := by omega
      subst hke
      have HR := Aside0.mk (oddAt_no hno.out)
      go_wp2
      go_ret
      exact ⟨by rw [HR.out]; rfl, rfl⟩
theorem containsOdd_calls (A : Option Addr) (c : Nat) (l : List Int) (w : World) (hl : Kd.C (Kd.int .i64) w A l.length l) :
    Calls Tryz.prog 88 #[.slice A l.length c, .func (.func 87) #[] #[]] w fun e w' => e = .returned (.bool (l.any oddB)) ∧ w = w' := by
  have HL := Aside0.mk hl
  clear hl
  go_enter Tryz.func88, Tryz.ntmps88
  go_wp2_with (go_at_call 99; refine (indexOdd_calls _ _ _ _ HL.out).mono ?_; rintro e w' ⟨rfl, rfl⟩)
  go_ret
  exact ⟨by rw [← oddAt_any]; rfl, rfl⟩
end Go.Proofs.YtonbipaajhokfaaGreatDoor
set_option linter.unusedVariables false
set_option linter.unusedSimpArgs false
namespace Go.Proofs.YtonbipaajhokfaaGreatDoor
open Go.RowKit Go.Proofs.YtonbipaajhokfaaGreatDoorW.PrintWords Go.Proofs.YtonbipaajhokfaaGreatDoorW.PrintLast Go.Proofs.YtonbipaajhokfaaGreatDoorW.PrintMore
def bs (l : List UInt8) : ByteArray := ⟨l.toArray⟩
theorem bs_append (a b : List UInt8) : bs a ++ bs b = bs (a ++ b) := by
  apply ByteArray.ext
  rw [ByteArray.data_append]
  simp [bs]
theorem bs_size (l : List UInt8) : (bs l).size = l.length := by simp [bs, ByteArray.size]
theorem bs_list (l : List UInt8) : (bs l).data.toList = l := by simp [bs]
theorem bs_of (s : ByteArray) : bs s.data.toList = s := by
  apply ByteArray.ext; simp [bs]
theorem strOfNums_bs (xs : List Int) : strOfNums xs = bs (xs.map fun n => UInt8.ofNat n.toNat) := rfl
def by8 (n : Int) : UInt8 := UInt8.ofNat (n % 256).toNat
def be4 (n : Int) : List UInt8 := [by8 (n / 256 / 256 / 256), by8 (n / 256 / 256), by8 (n / 256), by8 n]
theorem be4_length (n : Int) : (be4 n).length = 4 := rfl
theorem fixed4 (n : Int) : PChainReads.num_Fixed.f 6 n 4 = some (bs (be4 n)) := by
  unfold PChainReads.num_Fixed.f
  have e1 : mn (mx 4 1) 8 = 4 := by decide
  rw [e1]
  simp only [PChainReads.num_Fixed.l0, wrap64, Int.reduceToNat, List.replicate, Option.bind_some, List.length_cons, List.length_nil, List.set, Int.reduceLE, if_true, ge_iff_le, Int.reduceSub, Int.reduceAdd, Int.reduceLT, Nat.reduceAdd, Nat.reduceLeDiff, Int.reduceMod, Int.reduceNeg, if_false, Int.cast_ofNat_Int]
  rfl
theorem fixed1 (n : Int) : PChainReads.num_Fixed.f 6 n 1 = some (bs [by8 n]) := by
  unfold PChainReads.num_Fixed.f
  have e1 : mn (mx 1 1) 8 = 1 := by decide
  rw [e1]
  simp only [PChainReads.num_Fixed.l0, wrap64, Int.reduceToNat, List.replicate, Option.bind_some, List.length_cons, List.length_nil, List.set, Int.reduceLE, if_true, ge_iff_le, Int.reduceSub, Int.reduceAdd, Int.reduceLT, Nat.reduceAdd, Nat.reduceLeDiff, Int.reduceMod, Int.reduceNeg, if_false, Int.cast_ofNat_Int]
  rfl
theorem fixed4_calls (n : Int) (w : World) : Calls Tryz.prog 50 #[.int .u64 n, .int .i64 4] w fun e w' => e = .returned (.string (bs (be4 n))) ∧ Below w.heap.size w w' :=
  PChainReads.num_Fixed.calls 6 n 4 _ w (fixed4 n)
theorem fixed1_calls (n : Int) (w : World) : Calls Tryz.prog 50 #[.int .u64 n, .int .i64 1] w fun e w' => e = .returned (.string (bs [by8 n])) ∧ Below w.heap.size w w' :=
  PChainReads.num_Fixed.calls 6 n 1 _ w (fixed1 n)
section
variable {P : Program} {C : World → Prop} {K : Act → Prop} {a : Act} {o : Oper}
theorem quiet_val (v : Value) (h : ∀ w', C w' → (execOp a.eval o).run P w' = .ok (.value v) w') (hk : K (a.put o.dst v)) : o.quiet P a C K :=
  ⟨v, fun w hw => by unfold Oper.quietAt; rw [h w hw]; exact ⟨rfl, rfl⟩, hk⟩
theorem quiet_call (f : FuncId) (args : Array Value) (v : Value) (h : ∀ w', C w' → (execOp a.eval o).run P w' = .ok (.enter f args) w')
    (hc : ∀ w', C w' → Calls P f args w' (fun e w'' => e = .returned v ∧ C w'')) (hk : K (a.put o.dst v)) : o.quiet P a C K :=
  ⟨v, fun w hw => by unfold Oper.quietAt; rw [h w hw]; exact ⟨rfl, hc w hw⟩, hk⟩
end
section
variable {P : Program} {ops : Array Oper} {C : World → Prop} {Q : Act → Prop} {a : Act} {o : Oper} {rest : List Oper}
theorem q_val (hg : o.guard = none) {v : Value} {a' : Act} (h : ∀ w', C w' → (execOp a.eval o).run P w' = .ok (.value v) w') (ha : a.put o.dst v = a') (hk : wpQuiet P ops C Q rest a') : wpQuiet P ops C Q (o :: rest) a :=
  wpQuiet_step fun K hK => by rw [if_pos (by simp [Region.wanted, hg])]; exact quiet_val v h (hK _ (by rw [ha]; exact hk))
theorem q_call (hg : o.guard = none) {f : FuncId} {args : Array Value} {v : Value} {a' : Act} (h : ∀ w', C w' → (execOp a.eval o).run P w' = .ok (.enter f args) w')
    (hc : ∀ w', C w' → Calls P f args w' (fun e w'' => e = .returned v ∧ C w'')) (ha : a.put o.dst v = a') (hk : wpQuiet P ops C Q rest a') : wpQuiet P ops C Q (o :: rest) a :=
  wpQuiet_step fun K hK => by rw [if_pos (by simp [Region.wanted, hg])]; exact quiet_call f args v h hc (hK _ (by rw [ha]; exact hk))
end
theorem region_below {P : Program} {id : Nat} {Q : Exit → Act → World → Prop} {a : Act} {w : World} {l : List Oper} (B : Nat) (hBw : B ≤ w.heap.size) (hm : P.follows .mixedOrders = true) (hB : Region.lexB .any l.toArray = true)
    (h : wpQuiet P l.toArray (fun w' => Below B w w') (fun a' => ∀ w', Below B w w' → Q .normal a' w') l a) : (Code.region id l.toArray true).wp P Q a w :=
  wp_region_quiet (C := fun w' => Below B w w') hm hB ⟨rfl, rfl, rfl, Nat.le_refl _, fun _ _ => rfl⟩ (by simpa using h)
end Go.Proofs.YtonbipaajhokfaaGreatDoor
end
section
namespace Go.Proofs
open Go.Shelf
def Tryz.lays231_ren : Go.Shelf.Ren := ⟨fun | 231 => 59 | n => n, fun | 9 => 9 | 5 => 5 | 3 => 3 | 4 => 4 | n => n, fun | n => n⟩
theorem Tryz.lays231 : Go.Proofs.Lays.n231 Tryz.prog Tryz.lays231_ren := {
  mixed := by kernel_rfl
  f231 := Tryz.func59.trans (congrArg some (by kernel_rfl))
  t3 := Tryz.underlying3
  a3 := Tryz.isAgg3
  z3 := Tryz.sizeOf3
  v3 := Tryz.zeroValue3
  t4 := Tryz.underlying4
  a4 := Tryz.isAgg4
  z4 := Tryz.sizeOf4
  v4 := Tryz.zeroValue4
  t5 := Tryz.underlying5
  a5 := Tryz.isAgg5
  z5 := Tryz.sizeOf5
  v5 := Tryz.zeroValue5
  t9 := Tryz.underlying9
  a9 := Tryz.isAgg9
  z9 := Tryz.sizeOf9
  v9 := Tryz.zeroValue9 }
open Go.RowKit in
/-- strings.trimLeftByte (no doc; what TrimLeft and Trim call at a cutset of one ASCII byte): the leading bytes that are c are cut off. The world is as it was. (LAID: no walk: one application.) -/
theorem Tryz.strings_trimLeftByte (s : ByteArray) (c : UInt8) (w : World) :
    Calls Tryz.prog 59 #[.string s, .int .u8 c.toNat] w fun e w' => e = .returned (.string ⟨(Lib.trimLeftB s.data.toList c).toArray⟩) ∧ w' = w := Any.strings_trimLeftByte Tryz.lays231 s c w
def Tryz.lays232_ren : Go.Shelf.Ren := ⟨fun | 232 => 60 | n => n, fun | 9 => 9 | 5 => 5 | 3 => 3 | 4 => 4 | n => n, fun | n => n⟩
theorem Tryz.lays232 : Go.Proofs.Lays.n232 Tryz.prog Tryz.lays232_ren := {
  mixed := by kernel_rfl
  f232 := Tryz.func60.trans (congrArg some (by kernel_rfl))
  t3 := Tryz.underlying3
  a3 := Tryz.isAgg3
  z3 := Tryz.sizeOf3
  v3 := Tryz.zeroValue3
  t4 := Tryz.underlying4
  a4 := Tryz.isAgg4
  z4 := Tryz.sizeOf4
  v4 := Tryz.zeroValue4
  t5 := Tryz.underlying5
  a5 := Tryz.isAgg5
  z5 := Tryz.sizeOf5
  v5 := Tryz.zeroValue5
  t9 := Tryz.underlying9
  a9 := Tryz.isAgg9
  z9 := Tryz.sizeOf9
  v9 := Tryz.zeroValue9 }
open Go.RowKit in
/-- strings.trimRightByte (no doc; what TrimRight and Trim call at a cutset of one ASCII byte): the trailing bytes that are c are cut off. The world is as it was. ('hs': a string's length is a number that an int holds.) (LAID: no walk: one application.) -/
theorem Tryz.strings_trimRightByte (s : ByteArray) (c : UInt8) (w : World) (hs : s.size ≤ 9223372036854775807) :
    Calls Tryz.prog 60 #[.string s, .int .u8 c.toNat] w fun e w' => e = .returned (.string ⟨(Lib.trimRightB s.data.toList c).toArray⟩) ∧ w' = w := Any.strings_trimRightByte Tryz.lays232 s c w hs
def Tryz.lays160_ren : Go.Shelf.Ren := ⟨fun | 160 => 46 | 232 => 60 | 231 => 59 | 227 => 61 | 234 => 63 | 233 => 62 | 236 => 65 | 235 => 64 | 228 => 78 | 271 => 81 | 151 => 80 | 197 => 79 | 120 => 97 | 152 => 96 | 260 => 95 | 137 => 103 | 119 => 104 | 224 => 105 | 225 => 106 | 217 => 110 | 266 => 122 | n => n, fun | 9 => 9 | 4 => 4 | 3 => 3 | 5 => 5 | 117 => 113 | 116 => 112 | 0 => 0 | 124 => 116 | 21 => 21 | 105 => 125 | 46 => 57 | 119 => 147 | 139 => 150 | 138 => 149 | n => n, fun | 3 => 0 | 4 => 1 | n => n⟩
theorem Tryz.lays160 : Go.Proofs.Lays.n160 Tryz.prog Tryz.lays160_ren := {
  mixed := by kernel_rfl
  f119 := Tryz.func104.trans (congrArg some (by kernel_rfl))
  f120 := Tryz.func97.trans (congrArg some (by kernel_rfl))
  f137 := Tryz.func103.trans (congrArg some (by kernel_rfl))
  f151 := Tryz.func80.trans (congrArg some (by kernel_rfl))
  f152 := Tryz.func96.trans (congrArg some (by kernel_rfl))
  f160 := Tryz.func46.trans (congrArg some (by kernel_rfl))
  f197 := Tryz.func79.trans (congrArg some (by kernel_rfl))
  f217 := Tryz.func110.trans (congrArg some (by kernel_rfl))
  f224 := Tryz.func105.trans (congrArg some (by kernel_rfl))
  f225 := Tryz.func106.trans (congrArg some (by kernel_rfl))
  f227 := Tryz.func61.trans (congrArg some (by kernel_rfl))
  f228 := Tryz.func78.trans (congrArg some (by kernel_rfl))
  f231 := Tryz.func59.trans (congrArg some (by kernel_rfl))
  f232 := Tryz.func60.trans (congrArg some (by kernel_rfl))
  f233 := Tryz.func62.trans (congrArg some (by kernel_rfl))
  f234 := Tryz.func63.trans (congrArg some (by kernel_rfl))
  f235 := Tryz.func64.trans (congrArg some (by kernel_rfl))
  f236 := Tryz.func65.trans (congrArg some (by kernel_rfl))
  f260 := Tryz.func95.trans (congrArg some (by kernel_rfl))
  f266 := Tryz.func122.trans (congrArg some (by kernel_rfl))
  f271 := Tryz.func81.trans (congrArg some (by kernel_rfl))
  t0 := Tryz.underlying0
  a0 := Tryz.isAgg0
  z0 := Tryz.sizeOf0
  v0 := Tryz.zeroValue0
  t3 := Tryz.underlying3
  a3 := Tryz.isAgg3
  z3 := Tryz.sizeOf3
  v3 := Tryz.zeroValue3
  t4 := Tryz.underlying4
  a4 := Tryz.isAgg4
  z4 := Tryz.sizeOf4
  v4 := Tryz.zeroValue4
  t5 := Tryz.underlying5
  a5 := Tryz.isAgg5
  z5 := Tryz.sizeOf5
  v5 := Tryz.zeroValue5
  t9 := Tryz.underlying9
  a9 := Tryz.isAgg9
  z9 := Tryz.sizeOf9
  v9 := Tryz.zeroValue9
  t21 := Tryz.underlying21
  a21 := Tryz.isAgg21
  z21 := Tryz.sizeOf21
  v21 := Tryz.zeroValue21
  t46 := Tryz.underlying57
  a46 := Tryz.isAgg57
  z46 := Tryz.sizeOf57
  v46 := Tryz.zeroValue57
  t105 := Tryz.underlying125
  a105 := Tryz.isAgg125
  z105 := Tryz.sizeOf125
  v105 := Tryz.zeroValue125
  t116 := Tryz.underlying112
  a116 := Tryz.isAgg112
  z116 := Tryz.sizeOf112
  t117 := Tryz.underlying113
  a117 := Tryz.isAgg113
  z117 := Tryz.sizeOf113
  v117 := Tryz.zeroValue113
  t119 := Tryz.underlying147
  a119 := Tryz.isAgg147
  z119 := Tryz.sizeOf147
  t124 := Tryz.underlying116
  a124 := Tryz.isAgg116
  z124 := Tryz.sizeOf116
  v124 := Tryz.zeroValue116
  t138 := Tryz.underlying149
  a138 := Tryz.isAgg149
  z138 := Tryz.sizeOf149
  v138 := Tryz.zeroValue149
  t139 := Tryz.underlying150
  a139 := Tryz.isAgg150
  z139 := Tryz.sizeOf150
  v139 := Tryz.zeroValue150
  g3 := by kernel_rfl
  g4 := by kernel_rfl }
open Go.RowKit in
/-- strings.Trim: "Trim returns a slice of the string s with all leading and trailing Unicode code points contained in cutset removed.": AT A cutset OF ONE ASCII BYTE. THE WORLD BEHIND IT: as it was, or (where s is not empty) with ONE DRAW MORE off the tape: the statement 'return trimLeftByte(trimRightByte(s, c), c)' draws its order of evaluation. (LAID: no walk: one application.) -/
theorem Tryz.strings_Trim_one (s : ByteArray) (c : UInt8) (hc : c.toNat < 128) (w : World) (hs : s.size ≤ 9223372036854775807) :
    Calls Tryz.prog 46 #[.string s, .string ⟨#[c]⟩] w fun e w' => e = .returned (.string ⟨(Lib.trimB s.data.toList c).toArray⟩) ∧ (w' = w ∨ w' = w.drew) := Any.strings_Trim_one Tryz.lays160 s c hc w hs
def Tryz.lays119_ren : Go.Shelf.Ren := ⟨fun | 119 => 104 | n => n, fun | 21 => 21 | 4 => 4 | n => n, fun | n => n⟩
theorem Tryz.lays119 : Go.Proofs.Lays.n119 Tryz.prog Tryz.lays119_ren := {
  mixed := by kernel_rfl
  f119 := Tryz.func104.trans (congrArg some (by kernel_rfl))
  t4 := Tryz.underlying4
  a4 := Tryz.isAgg4
  z4 := Tryz.sizeOf4
  v4 := Tryz.zeroValue4
  t21 := Tryz.underlying21
  a21 := Tryz.isAgg21
  z21 := Tryz.sizeOf21
  v21 := Tryz.zeroValue21 }
/-- utf8.ValidRune: "ValidRune reports whether r can be legally encoded as UTF-8. Code points that are out of range or a surrogate half are illegal.": IT RETURNS 'Lib.validRune r'; the world is as it was. (LAID: no walk: one application.) -/
theorem Tryz.utf8_ValidRune (r : Int) (w : World) :
    Calls Tryz.prog 104 #[.int .i32 r] w fun e w' => e = .returned (.bool (Lib.validRune r)) ∧ w' = w := Any.utf8_ValidRune Tryz.lays119 r w
def Tryz.lays120_ren : Go.Shelf.Ren := ⟨fun | 120 => 97 | n => n, fun | 5 => 5 | 4 => 4 | n => n, fun | n => n⟩
theorem Tryz.lays120 : Go.Proofs.Lays.n120 Tryz.prog Tryz.lays120_ren := {
  mixed := by kernel_rfl
  f120 := Tryz.func97.trans (congrArg some (by kernel_rfl))
  t4 := Tryz.underlying4
  a4 := Tryz.isAgg4
  z4 := Tryz.sizeOf4
  v4 := Tryz.zeroValue4
  t5 := Tryz.underlying5
  a5 := Tryz.isAgg5
  z5 := Tryz.sizeOf5
  v5 := Tryz.zeroValue5 }
/-- utf8.RuneStart: "RuneStart reports whether the byte could be the first byte of an encoded, possibly invalid rune. Second and subsequent bytes always have the top two bits set to 10.": IT RETURNS 'Lib.runeStart b'; the world is as it was. ('h0', 'h1': b is a byte: a caller has it of every byte that it was handed.) (LAID: no walk: one application.) -/
theorem Tryz.utf8_RuneStart (b : Int) (w : World) (h0 : 0 ≤ b) (h1 : b < 256) :
    Calls Tryz.prog 97 #[.int .u8 b] w fun e w' => e = .returned (.bool (Lib.runeStart b)) ∧ w' = w := Any.utf8_RuneStart Tryz.lays120 b w h0 h1
def Tryz.lays224_ren : Go.Shelf.Ren := ⟨fun | 224 => 105 | n => n, fun | 3 => 3 | n => n, fun | n => n⟩
theorem Tryz.lays224 : Go.Proofs.Lays.n224 Tryz.prog Tryz.lays224_ren := {
  mixed := by kernel_rfl
  f224 := Tryz.func105.trans (congrArg some (by kernel_rfl))
  t3 := Tryz.underlying3
  a3 := Tryz.isAgg3
  z3 := Tryz.sizeOf3
  v3 := Tryz.zeroValue3 }
open Go.RowKit Go.Lib in
/-- internal/bytealg.Cutover: "Cutover reports the number of failures of IndexByte we should tolerate before switching over to Index. n is the number of bytes processed so far.": on amd64: (n + 16) / 8. (LAID: no walk: one application.) -/
theorem Tryz.bytealg_Cutover (n : Int) (h0 : 0 ≤ n) (h1 : n < 4611686018427387904) (w : World) :
    Calls Tryz.prog 105 #[.int .i64 n] w fun e w' => e = .returned (.int .i64 ((n + 16) / 8)) ∧ w' = w := Any.bytealg_Cutover Tryz.lays224 n h0 h1 w
def Tryz.lays206_ren : Go.Shelf.Ren := ⟨fun | 206 => 58 | n => n, fun | 9 => 9 | 4 => 4 | 3 => 3 | n => n, fun | n => n⟩
theorem Tryz.lays206 : Go.Proofs.Lays.n206 Tryz.prog Tryz.lays206_ren := {
  mixed := by kernel_rfl
  f206 := Tryz.func58.trans (congrArg some (by kernel_rfl))
  t3 := Tryz.underlying3
  a3 := Tryz.isAgg3
  z3 := Tryz.sizeOf3
  v3 := Tryz.zeroValue3
  t4 := Tryz.underlying4
  a4 := Tryz.isAgg4
  z4 := Tryz.sizeOf4
  v4 := Tryz.zeroValue4
  t9 := Tryz.underlying9
  a9 := Tryz.isAgg9
  z9 := Tryz.sizeOf9
  v9 := Tryz.zeroValue9 }
open Go.RowKit Go.Lib in
/-- internal/stringslite.HasPrefix (what strings.HasPrefix calls). (LAID: no walk: one application.) -/
theorem Tryz.stringslite_HasPrefix (s p : ByteArray) (w : World) :
    Calls Tryz.prog 58 #[.string s, .string p] w fun e w' => e = .returned (.bool (Lib.hasPrefix s.data.toList p.data.toList)) ∧ w' = w := Any.stringslite_HasPrefix Tryz.lays206 s p w
def Tryz.lays99_ren : Go.Shelf.Ren := ⟨fun | 99 => 45 | 206 => 58 | n => n, fun | 9 => 9 | 4 => 4 | 3 => 3 | n => n, fun | n => n⟩
theorem Tryz.lays99 : Go.Proofs.Lays.n99 Tryz.prog Tryz.lays99_ren := {
  mixed := by kernel_rfl
  f99 := Tryz.func45.trans (congrArg some (by kernel_rfl))
  f206 := Tryz.func58.trans (congrArg some (by kernel_rfl))
  t3 := Tryz.underlying3
  a3 := Tryz.isAgg3
  z3 := Tryz.sizeOf3
  v3 := Tryz.zeroValue3
  t4 := Tryz.underlying4
  a4 := Tryz.isAgg4
  z4 := Tryz.sizeOf4
  v4 := Tryz.zeroValue4
  t9 := Tryz.underlying9
  a9 := Tryz.isAgg9
  z9 := Tryz.sizeOf9
  v9 := Tryz.zeroValue9 }
open Go.RowKit Go.Lib in
/-- strings.HasPrefix: "HasPrefix reports whether the string s begins with prefix.": IT RETURNS 'Lib.hasPrefix s prefix'; the world is as it was. (LAID: no walk: one application.) -/
theorem Tryz.strings_HasPrefix (s p : ByteArray) (w : World) :
    Calls Tryz.prog 45 #[.string s, .string p] w fun e w' => e = .returned (.bool (Lib.hasPrefix s.data.toList p.data.toList)) ∧ w' = w := Any.strings_HasPrefix Tryz.lays99 s p w
def Tryz.lays264_ren : Go.Shelf.Ren := ⟨fun | 264 => 84 | n => n, fun | 53 => 46 | 46 => 57 | n => n, fun | n => n⟩
theorem Tryz.lays264 : Go.Proofs.Lays.n264 Tryz.prog Tryz.lays264_ren := {
  mixed := by kernel_rfl
  f264 := Tryz.func84.trans (congrArg some (by kernel_rfl))
  t46 := Tryz.underlying57
  a46 := Tryz.isAgg57
  z46 := Tryz.sizeOf57
  v46 := Tryz.zeroValue57
  t53 := Tryz.underlying46
  a53 := Tryz.isAgg46
  z53 := Tryz.sizeOf46
  v53 := Tryz.zeroValue46 }
open Go.RowKit Go.Lib in
theorem Tryz.bits_Mul64 (x y : Nat) (hx : x < 18446744073709551616) (hy : y < 18446744073709551616) (w : World) :
    Calls Tryz.prog 84 #[.int .u64 x, .int .u64 y] w fun e w' => e = .returned (.tuple #[.int .u64 ((x * y / 18446744073709551616 : Nat) : Int), .int .u64 ((x * y % 18446744073709551616 : Nat) : Int)]) ∧ w' = w := Any.bits_Mul64 Tryz.lays264 x y hx hy w
def Tryz.lays212_ren : Go.Shelf.Ren := ⟨fun | 212 => 67 | 263 => 83 | 264 => 84 | n => n, fun | 46 => 57 | 51 => 130 | 146 => 131 | 53 => 46 | 148 => 133 | n => n, fun | n => n⟩
theorem Tryz.lays212 : Go.Proofs.Lays.n212 Tryz.prog Tryz.lays212_ren := {
  mixed := by kernel_rfl
  f212 := Tryz.func67.trans (congrArg some (by kernel_rfl))
  f263 := Tryz.func83.trans (congrArg some (by kernel_rfl))
  f264 := Tryz.func84.trans (congrArg some (by kernel_rfl))
  t46 := Tryz.underlying57
  a46 := Tryz.isAgg57
  z46 := Tryz.sizeOf57
  v46 := Tryz.zeroValue57
  t51 := Tryz.underlying130
  a51 := Tryz.isAgg130
  z51 := Tryz.sizeOf130
  v51 := Tryz.zeroValue130
  t53 := Tryz.underlying46
  a53 := Tryz.isAgg46
  z53 := Tryz.sizeOf46
  v53 := Tryz.zeroValue46
  t146 := Tryz.underlying131
  a146 := Tryz.isAgg131
  z146 := Tryz.sizeOf131
  v146 := Tryz.zeroValue131
  t148 := Tryz.underlying133
  a148 := Tryz.isAgg133
  z148 := Tryz.sizeOf133
  v148 := Tryz.zeroValue133 }
open Go.RowKit Go.Lib in
/-- math/bits.Mul: "Mul returns the full-width product of x and y": on a machine of 64 bits: Mul64's. (LAID: no walk: one application.) -/
theorem Tryz.bits_Mul (x y : Nat) (hx : x < 18446744073709551616) (hy : y < 18446744073709551616) (w : World) :
    Calls Tryz.prog 67 #[.int .u64 x, .int .u64 y] w fun e w' => e = .returned (.tuple #[.int .u64 ((x * y / 18446744073709551616 : Nat) : Int), .int .u64 ((x * y % 18446744073709551616 : Nat) : Int)]) ∧ w' = w := Any.bits_Mul Tryz.lays212 x y hx hy w
def Tryz.lays105_ren : Go.Shelf.Ren := ⟨fun | 105 => 51 | 212 => 67 | 99 => 45 | 165 => 68 | 166 => 47 | 170 => 69 | 169 => 48 | 263 => 83 | 264 => 84 | 206 => 58 | 240 => 66 | 241 => 85 | 276 => 82 | 277 => 98 | n => n, fun | 9 => 9 | 3 => 3 | 4 => 4 | 20 => 20 | 0 => 0 | 46 => 57 | 109 => 118 | 5 => 5 | 72 => 89 | 76 => 94 | 51 => 130 | 146 => 131 | 53 => 46 | 148 => 133 | 70 => 87 | 37 => 84 | 75 => 93 | 127 => 117 | 164 => 128 | 80 => 86 | n => n, fun | n => n⟩
theorem Tryz.lays105 : Go.Proofs.Lays.n105 Tryz.prog Tryz.lays105_ren := {
  mixed := by kernel_rfl
  f99 := Tryz.func45.trans (congrArg some (by kernel_rfl))
  f105 := Tryz.func51.trans (congrArg some (by kernel_rfl))
  f165 := Tryz.func68.trans (congrArg some (by kernel_rfl))
  f166 := Tryz.func47.trans (congrArg some (by kernel_rfl))
  f169 := Tryz.func48.trans (congrArg some (by kernel_rfl))
  f170 := Tryz.func69.trans (congrArg some (by kernel_rfl))
  f206 := Tryz.func58.trans (congrArg some (by kernel_rfl))
  f212 := Tryz.func67.trans (congrArg some (by kernel_rfl))
  f240 := Tryz.func66.trans (congrArg some (by kernel_rfl))
  f241 := Tryz.func85.trans (congrArg some (by kernel_rfl))
  f263 := Tryz.func83.trans (congrArg some (by kernel_rfl))
  f264 := Tryz.func84.trans (congrArg some (by kernel_rfl))
  f276 := Tryz.func82.trans (congrArg some (by kernel_rfl))
  f277 := Tryz.func98.trans (congrArg some (by kernel_rfl))
  t0 := Tryz.underlying0
  a0 := Tryz.isAgg0
  z0 := Tryz.sizeOf0
  v0 := Tryz.zeroValue0
  t3 := Tryz.underlying3
  a3 := Tryz.isAgg3
  z3 := Tryz.sizeOf3
  v3 := Tryz.zeroValue3
  t4 := Tryz.underlying4
  a4 := Tryz.isAgg4
  z4 := Tryz.sizeOf4
  v4 := Tryz.zeroValue4
  t5 := Tryz.underlying5
  a5 := Tryz.isAgg5
  z5 := Tryz.sizeOf5
  v5 := Tryz.zeroValue5
  t9 := Tryz.underlying9
  a9 := Tryz.isAgg9
  z9 := Tryz.sizeOf9
  v9 := Tryz.zeroValue9
  t20 := Tryz.underlying20
  a20 := Tryz.isAgg20
  z20 := Tryz.sizeOf20
  v20 := Tryz.zeroValue20
  t37 := Tryz.underlying84
  a37 := Tryz.isAgg84
  z37 := Tryz.sizeOf84
  v37 := Tryz.zeroValue84
  t46 := Tryz.underlying57
  a46 := Tryz.isAgg57
  z46 := Tryz.sizeOf57
  v46 := Tryz.zeroValue57
  t51 := Tryz.underlying130
  a51 := Tryz.isAgg130
  z51 := Tryz.sizeOf130
  v51 := Tryz.zeroValue130
  t53 := Tryz.underlying46
  a53 := Tryz.isAgg46
  z53 := Tryz.sizeOf46
  v53 := Tryz.zeroValue46
  t70 := Tryz.underlying87
  a70 := Tryz.isAgg87
  z70 := Tryz.sizeOf87
  v70 := Tryz.zeroValue87
  t72 := Tryz.underlying89
  a72 := Tryz.isAgg89
  z72 := Tryz.sizeOf89
  v72 := Tryz.zeroValue89
  t75 := Tryz.underlying93
  a75 := Tryz.isAgg93
  z75 := Tryz.sizeOf93
  v75 := Tryz.zeroValue93
  t76 := Tryz.underlying94
  a76 := Tryz.isAgg94
  z76 := Tryz.sizeOf94
  v76 := Tryz.zeroValue94
  t109 := Tryz.underlying118
  a109 := Tryz.isAgg118
  z109 := Tryz.sizeOf118
  v109 := Tryz.zeroValue118
  t127 := Tryz.underlying117
  a127 := Tryz.isAgg117
  z127 := Tryz.sizeOf117
  v127 := Tryz.zeroValue117
  t146 := Tryz.underlying131
  a146 := Tryz.isAgg131
  z146 := Tryz.sizeOf131
  v146 := Tryz.zeroValue131
  t148 := Tryz.underlying133
  a148 := Tryz.isAgg133
  z148 := Tryz.sizeOf133
  v148 := Tryz.zeroValue133
  t164 := Tryz.underlying128
  a164 := Tryz.isAgg128
  z164 := Tryz.sizeOf128
  v164 := Tryz.zeroValue128 }
theorem Tryz.Builder_Extra_105 : Builder.Extra Tryz.prog Tryz.lays105_ren := {
  sizeBuilder := by kernel_rfl
  liesBuilder := by kernel_rfl
  t5 := Tryz.underlying5
  a5 := Tryz.isAgg5
  z5 := Tryz.sizeOf5
  v5 := Tryz.zeroValue5
  infoByte := by kernel_rfl
  cellsByte := by kernel_rfl
  sizeByte := by kernel_rfl
  neB5 := by decide }
open Go.RowKit Go.Lib in
/-- **strings.Repeat: count ≥ 0, the result within one allocation: count copies of s.** (LAID: no walk: one application.) -/
theorem Tryz.strings_Repeat (s : ByteArray) (c : Nat) (w : World) (hc : c ≤ 9223372036854775807) (hlen : s.size * c ≤ 140737488355328) :
    Calls Tryz.prog 51 #[.string s, .int .i64 c] w fun e w' => e = .returned (.string ⟨(Lib.repeatL s.data.toList c).toArray⟩) ∧ Below w.heap.size w w' := Any.strings_Repeat Tryz.lays105 Tryz.Builder_Extra_105 s c w hc hlen
end Go.Proofs
end
section
set_option linter.unusedVariables false
set_option linter.unusedSimpArgs false
namespace Go.Proofs.YtonbipaajhokfaaGreatDoor
open Go.RowKit Go.Proofs.YtonbipaajhokfaaGreatDoorW.PrintWords Go.Proofs.YtonbipaajhokfaaGreatDoorW.PrintLast Go.Proofs.YtonbipaajhokfaaGreatDoorW.PrintMore
theorem u64_same {n : Int} (h : 0 ≤ n) (h' : n < 4096) : IntKind.u64.wrap n = n := by
  rw [IntKind.wrap_u64]; omega
def trunkHead (next : Int) (n : Nat) : List UInt8 := 4 :: (be4 next ++ [by8 n])
def be4s (l : List Int) : List UInt8 := l.flatMap be4
def pad (s : List UInt8) : List UInt8 := s ++ List.replicate (232 - s.length) 0
def trunkPage (next : Int) (l : List Int) : List UInt8 := pad (trunkHead next l.length ++ be4s l)
def encOk (next : Int) (l : List Int) : Bool := (next == 0 || !oddB next) && decide (l.length ≤ 50) && !l.any oddB
def encB (next : Int) (l : List Int) : List UInt8 := if encOk next l then trunkPage next l else []
def encE (next : Int) (l : List Int) : Int := if encOk next l then 0 else 1
theorem be4s_length (l : List Int) : (be4s l).length = 4 * l.length := by
  induction l with
  | nil => rfl
  | cons x r ih => simp only [be4s, List.flatMap_cons, List.length_append, be4_length, List.length_cons] at ih ⊢; omega
theorem repeatL_zero (n : Nat) : Lib.repeatL [0] n = List.replicate n 0 := by
  induction n with
  | zero => rfl
  | succ n ih => simp only [Lib.repeatL, ih, List.replicate_succ]; rfl
theorem rep0_calls (n : Nat) (w : World) (h : n ≤ 232) : Calls Tryz.prog 51 #[.string { data := #[0] }, .int .i64 n] w fun e w' => e = .returned (.string (bs (List.replicate n 0))) ∧ Below w.heap.size w w' :=
  (Tryz.strings_Repeat _ _ _ (by omega) (by rw [show ({ data := #[0] } : ByteArray).size = 1 from rfl]; omega)).mono fun _ _ hh => ⟨hh.1.trans (by rw [show ({ data := #[0] } : ByteArray).data.toList = [0] from rfl, repeatL_zero]; rfl), hh.2⟩
theorem trunk_tail (next : Int) (l : List Int) (h : l.length ≤ 50) : trunkPage next l = (trunkHead next l.length ++ be4s l) ++ List.replicate (226 - 4 * l.length) 0 := by
  unfold trunkPage pad
  congr 2
  rw [List.length_append, be4s_length]
  simp only [trunkHead, List.length_cons, List.length_append, be4_length, List.length_nil]
  omega
theorem be4s_take_succ (l : List Int) (k : Nat) (h : k < l.length) : be4s (l.take (k + 1)) = be4s (l.take k) ++ be4 (l.getD k 0) := by
  unfold be4s; rw [List.take_succ_eq_append_getElem h, List.flatMap_append]; simp [h]
theorem any_no {l : List Int} (h : l.any oddB = false) (k : Nat) (hk : k < l.length) : 1 ≤ l.getD k 0 ∧ l.getD k 0 < 4096 := by
  have h1 := List.any_eq_false.1 h (l.getD k 0) (by simp [List.getD, hk])
  simp only [oddB, Bool.or_eq_true, decide_eq_true_eq] at h1
  omega
set_option maxHeartbeats 1000000 in
set_option maxRecDepth 100000 in
theorem encode_ok (next : Int) (A : Option Addr) (c : Nat) (l : List Int) (w : World) (hl : Kd.C (Kd.int .i64) w A l.length l) (hlc : l.length ≤ c)
    (hn0 : 0 ≤ next) (hn1 : next < 4096) (t0 : (next != 0) = false) (h50 : l.length ≤ 50) (hany : l.any oddB = false) :
    Calls Tryz.prog 72 #[.agg #[.int .i64 next, .slice A l.length c]] w fun e w' => e = .returned (.tuple #[.string (bs (trunkPage next l)), .int .i64 0]) ∧ Below w.heap.size w w' := by
  have HL := Aside0.mk hl
  have HANY := Aside0.mk hany
  clear hl
  have hu24 := Tryz.underlying98
  have t50 : decide ((50 : Int) < (l.length : Int)) = false := decide_eq_false (by omega)
  go_enter Tryz.func72, Tryz.ntmps72
  go_wp2_with (first | (go_at_call 88; with_reducible refine (containsOdd_calls _ _ _ _ ?_).mono ?_; (exact Kd.C_alloc HL.out _); rintro e w' ⟨rfl, rfl⟩; rw [HANY.out]))
  obtain ⟨w1, hw1⟩ : ∃ w1, w1 = w.alloc (.cells #[.int .i64 next, .slice A l.length c] 98) := ⟨_, rfl⟩
  rw [← hw1]
  have hB1 : Below w.heap.size w w1 := by rw [hw1]; exact below_alloc (Below.refl _ _) _
  have hblk : w1.heap[w.heap.size]? = some (.cells #[.int .i64 next, .slice A l.length c] 98 (0, 0)) := by rw [hw1]; exact heap_alloc_new w _
  have hsz : w.heap.size < w1.heap.size := by rw [hw1]; simp
  clear hw1
  obtain ⟨b, hb⟩ : ∃ b, b = w.heap.size := ⟨_, rfl⟩
  rw [← hb] at hblk hsz hB1 ⊢
  have hbs : w.heap.size ≤ b := by omega
  clear hb
  refine region_below w1.heap.size (Nat.le_refl _) (by kernel_rfl) (by kernel_rfl) ?_
  have hc0 : ∀ w', Below w1.heap.size w1 w' → w'.cell? ⟨b, 0, none⟩ = some (.int .i64 next) := fun w' h => (h.cell hsz).trans ((blk_cell hblk 0).trans rfl)
  have hc1 : ∀ w', Below w1.heap.size w1 w' → w'.cell? ⟨b, 1, none⟩ = some (.slice A l.length c) := fun w' h => (h.cell hsz).trans ((blk_cell hblk 1).trans rfl)
  have hs1 : (bs (be4 (IntKind.u64.wrap next))).size = 4 := bs_size _
  have hs2 : (bs [by8 (IntKind.u64.wrap l.length)]).size = 1 := bs_size _
  refine q_val rfl (v := ?_) (a' := ?_) ?_ ?_ ?_
  rotate_left
  rotate_left
  · intro w' hw'
    go_simp
    with_reducible rfl
  · simp only [Act.put, List.setIfInBounds_toArray, List.set_cons_zero, List.set_cons_succ]
    rfl
  refine q_val rfl (v := ?_) (a' := ?_) ?_ ?_ ?_
  rotate_left
  rotate_left
  · intro w' hw'
    have := hc0 w' hw'
    go_simp
    with_reducible rfl
  · simp only [Act.put, List.setIfInBounds_toArray, List.set_cons_zero, List.set_cons_succ]
    rfl
  refine q_val rfl (v := ?_) (a' := ?_) ?_ ?_ ?_
  rotate_left
  rotate_left
  · intro w' hw'
    go_simp
    with_reducible rfl
  · simp only [Act.put, List.setIfInBounds_toArray, List.set_cons_zero, List.set_cons_succ]
    rfl
  refine q_call rfl (v := .string (bs (be4 (IntKind.u64.wrap next)))) (a' := ?_) (f := 50) (args := #[.int .u64 (IntKind.u64.wrap next), .int .i64 4]) ?_ ?_ ?_ ?_
  rotate_left
  · intro w' hw'
    go_simp
  · intro w' hw'
    exact (fixed4_calls _ _).mono fun _ _ hh => ⟨hh.1, below_then hw' hw'.size hh.2⟩
  · simp only [Act.put, List.setIfInBounds_toArray, List.set_cons_zero, List.set_cons_succ]
    rfl
  refine q_val rfl (v := ?_) (a' := ?_) ?_ ?_ ?_
  rotate_left
  rotate_left
  · intro w' hw'
    go_simp
    with_reducible rfl
  · simp only [Act.put, List.setIfInBounds_toArray, List.set_cons_zero, List.set_cons_succ]
    rfl
  refine q_val rfl (v := ?_) (a' := ?_) ?_ ?_ ?_
  rotate_left
  rotate_left
  · intro w' hw'
    go_simp
    with_reducible rfl
  · simp only [Act.put, List.setIfInBounds_toArray, List.set_cons_zero, List.set_cons_succ]
    rfl
  refine q_val rfl (v := ?_) (a' := ?_) ?_ ?_ ?_
  rotate_left
  rotate_left
  · intro w' hw'
    have := hc1 w' hw'
    go_simp
    with_reducible rfl
  · simp only [Act.put, List.setIfInBounds_toArray, List.set_cons_zero, List.set_cons_succ]
    rfl
  refine q_val rfl (v := ?_) (a' := ?_) ?_ ?_ ?_
  rotate_left
  rotate_left
  · intro w' hw'
    go_simp
    with_reducible rfl
  · simp only [Act.put, List.setIfInBounds_toArray, List.set_cons_zero, List.set_cons_succ]
    rfl
  refine q_val rfl (v := ?_) (a' := ?_) ?_ ?_ ?_
  rotate_left
  rotate_left
  · intro w' hw'
    go_simp
    with_reducible rfl
  · simp only [Act.put, List.setIfInBounds_toArray, List.set_cons_zero, List.set_cons_succ]
    rfl
  refine q_call rfl (v := .string (bs [by8 (IntKind.u64.wrap l.length)])) (a' := ?_) (f := 50) (args := #[.int .u64 (IntKind.u64.wrap l.length), .int .i64 1]) ?_ ?_ ?_ ?_
  rotate_left
  · intro w' hw'
    go_simp
  · intro w' hw'
    exact (fixed1_calls _ _).mono fun _ _ hh => ⟨hh.1, below_then hw' hw'.size hh.2⟩
  · simp only [Act.put, List.setIfInBounds_toArray, List.set_cons_zero, List.set_cons_succ]
    rfl
  refine q_val rfl (v := ?_) (a' := ?_) ?_ ?_ ?_
  rotate_left
  rotate_left
  · intro w' hw'
    go_simp
    with_reducible rfl
  · simp only [Act.put, List.setIfInBounds_toArray, List.set_cons_zero, List.set_cons_succ]
    rfl
  refine q_val rfl (v := ?_) (a' := ?_) ?_ ?_ ?_
  rotate_left
  rotate_left
  · intro w' hw'
    go_simp
    with_reducible rfl
  · simp only [Act.put, List.setIfInBounds_toArray, List.set_cons_zero, List.set_cons_succ]
    rfl
  refine wpQuiet_nil ?_
  intro w2 hb2
  have hw0 : IntKind.u64.wrap next = next := u64_same hn0 hn1
  have hwl : IntKind.u64.wrap l.length = l.length := u64_same (by omega) (by omega)
  have e5 : ({ data := #[4] } : ByteArray) ++ bs (be4 (IntKind.u64.wrap next)) ++ bs [by8 (IntKind.u64.wrap l.length)] = bs (trunkHead next l.length) := by
    rw [hw0, hwl, show ({ data := #[4] } : ByteArray) = bs [4] from rfl, bs_append, bs_append]; rfl
  rw [e5]
  clear e5 hs1 hs2 hw0 hwl
  go_wp2
  go_loopw [5, 43] (fun s i wr => ∃ k : Nat, k ≤ l.length ∧ i = .int .i64 k ∧ s = .string (bs (trunkHead next l.length ++ be4s (l.take k))) ∧ Aside0 (Below w1.heap.size w1 wr)) (fun _ i _ => l.length - (intOf i).toNat)
  case atStart => exact ⟨0, Nat.zero_le _, rfl, by simp [be4s], ⟨hb2⟩⟩
  case round =>
    clear hc0 hc1
    obtain ⟨k, hk, rfl, rfl, HB⟩ := hrel
    have hlen := be4s_length (l.take k)
    rw [List.length_take_of_le hk] at hlen
    have hszs : (bs (trunkHead next l.length ++ be4s (l.take k))).size = 6 + 4 * k := by rw [bs_size, List.length_append, hlen]; rfl
    by_cases hlt : k < l.length
    · obtain ⟨ad, e1, hx⟩ := Kd.at_int HL.out (k : Int) (by omega) (by omega)
      cases e1
      rw [show rd l (k : Int) = l.getD k 0 from rfl, Int.toNat_natCast] at hx
      have HS := Aside0.mk (be4s_take_succ l k hlt)
      obtain ⟨x, hxd⟩ : ∃ x, x = l.getD k 0 := ⟨_, rfl⟩
      have hxb := any_no hany k hlt
      rw [← hxd] at hx HS hxb
      clear hxd
      have hx2 := (HB.out.cell (Nat.lt_of_lt_of_le (World.block_lt_of_cell? w _ hx) (Nat.le_trans hB1.size (Nat.le_refl _)))).trans ((hB1.cell (Nat.lt_of_lt_of_le (World.block_lt_of_cell? w _ hx) hbs)).trans hx)
      clear hx
      have hsx : (bs (be4 x)).size = 4 := bs_size _
      have hwx : IntKind.u64.wrap x = x := u64_same (by omega) (by omega)
      go_wp2_with (go_at_call 50; refine (fixed4_calls _ _).mono ?_; rintro e w' ⟨rfl, hb⟩)
      go_roundw
      case rel => exact ⟨k + 1, by omega, by go_num, by rw [HS.out, bs_append, List.append_assoc], ⟨below_then HB.out HB.out.size hb⟩⟩
      case measure => simp [intOf]; omega
    · have hke : k = l.length := by omega
      subst hke
      rw [List.take_length] at hszs ⊢
      have hr0 : (232 : Int) - (6 + 4 * (l.length : Int)) = ((226 - 4 * l.length : Nat) : Int) := by omega
      have hsr : (bs (List.replicate (226 - 4 * l.length) 0)).size = 226 - 4 * l.length := by rw [bs_size, List.length_replicate]
      go_wp2_with (go_at_call 51; refine (rep0_calls _ _ (by omega)).mono ?_; rintro e w' ⟨rfl, hb⟩)
      go_ret2
      refine ⟨?_, ?_⟩
      · rw [trunk_tail next l h50, ← bs_append]; rfl
      · exact (hB1.trans ((HB.out.mono (Nat.le_of_lt hsz)).trans (hb.mono (Nat.le_trans (Nat.le_of_lt hsz) HB.out.size)))).mono hbs
set_option maxHeartbeats 1000000 in
set_option maxRecDepth 100000 in
theorem encode_ok2 (next : Int) (A : Option Addr) (c : Nat) (l : List Int) (w : World) (hl : Kd.C (Kd.int .i64) w A l.length l) (hlc : l.length ≤ c)
    (hn0 : 0 ≤ next) (hn1 : next < 4096) (t0 : (next != 0) = true) (hodd : oddB next = false) (h50 : l.length ≤ 50) (hany : l.any oddB = false) :
    Calls Tryz.prog 72 #[.agg #[.int .i64 next, .slice A l.length c]] w fun e w' => e = .returned (.tuple #[.string (bs (trunkPage next l)), .int .i64 0]) ∧ Below w.heap.size w w' := by
  have HL := Aside0.mk hl
  have HODD := Aside0.mk hodd
  have HANY := Aside0.mk hany
  clear hl
  have hu24 := Tryz.underlying98
  have t50 : decide ((50 : Int) < (l.length : Int)) = false := decide_eq_false (by omega)
  go_enter Tryz.func72, Tryz.ntmps72
  go_wp2_with (first | (go_at_call 88; with_reducible refine (containsOdd_calls _ _ _ _ ?_).mono ?_; (exact Kd.C_alloc HL.out _); rintro e w' ⟨rfl, rfl⟩; rw [HANY.out]) | (go_at_call 87; with_reducible refine (odd_calls _ _).mono ?_; rintro e w' ⟨rfl, rfl⟩; rw [HODD.out]))
  obtain ⟨w1, hw1⟩ : ∃ w1, w1 = w.alloc (.cells #[.int .i64 next, .slice A l.length c] 98) := ⟨_, rfl⟩
  rw [← hw1]
  have hB1 : Below w.heap.size w w1 := by rw [hw1]; exact below_alloc (Below.refl _ _) _
  have hblk : w1.heap[w.heap.size]? = some (.cells #[.int .i64 next, .slice A l.length c] 98 (0, 0)) := by rw [hw1]; exact heap_alloc_new w _
  have hsz : w.heap.size < w1.heap.size := by rw [hw1]; simp
  clear hw1
  obtain ⟨b, hb⟩ : ∃ b, b = w.heap.size := ⟨_, rfl⟩
  rw [← hb] at hblk hsz hB1 ⊢
  have hbs : w.heap.size ≤ b := by omega
  clear hb
  refine region_below w1.heap.size (Nat.le_refl _) (by kernel_rfl) (by kernel_rfl) ?_
  have hc0 : ∀ w', Below w1.heap.size w1 w' → w'.cell? ⟨b, 0, none⟩ = some (.int .i64 next) := fun w' h => (h.cell hsz).trans ((blk_cell hblk 0).trans rfl)
  have hc1 : ∀ w', Below w1.heap.size w1 w' → w'.cell? ⟨b, 1, none⟩ = some (.slice A l.length c) := fun w' h => (h.cell hsz).trans ((blk_cell hblk 1).trans rfl)
  have hs1 : (bs (be4 (IntKind.u64.wrap next))).size = 4 := bs_size _
  have hs2 : (bs [by8 (IntKind.u64.wrap l.length)]).size = 1 := bs_size _
  refine q_val rfl (v := ?_) (a' := ?_) ?_ ?_ ?_
  rotate_left
  rotate_left
  · intro w' hw'
    go_simp
    with_reducible rfl
  · simp only [Act.put, List.setIfInBounds_toArray, List.set_cons_zero, List.set_cons_succ]
    rfl
  refine q_val rfl (v := ?_) (a' := ?_) ?_ ?_ ?_
  rotate_left
  rotate_left
  · intro w' hw'
    have := hc0 w' hw'
    go_simp
    with_reducible rfl
  · simp only [Act.put, List.setIfInBounds_toArray, List.set_cons_zero, List.set_cons_succ]
    rfl
  refine q_val rfl (v := ?_) (a' := ?_) ?_ ?_ ?_
  rotate_left
  rotate_left
  · intro w' hw'
    go_simp
    with_reducible rfl
  · simp only [Act.put, List.setIfInBounds_toArray, List.set_cons_zero, List.set_cons_succ]
    rfl
  refine q_call rfl (v := .string (bs (be4 (IntKind.u64.wrap next)))) (a' := ?_) (f := 50) (args := #[.int .u64 (IntKind.u64.wrap next), .int .i64 4]) ?_ ?_ ?_ ?_
  rotate_left
  · intro w' hw'
    go_simp
  · intro w' hw'
    exact (fixed4_calls _ _).mono fun _ _ hh => ⟨hh.1, below_then hw' hw'.size hh.2⟩
  · simp only [Act.put, List.setIfInBounds_toArray, List.set_cons_zero, List.set_cons_succ]
    rfl
  refine q_val rfl (v := ?_) (a' := ?_) ?_ ?_ ?_
  rotate_left
  rotate_left
  · intro w' hw'
    go_simp
    with_reducible rfl
  · simp only [Act.put, List.setIfInBounds_toArray, List.set_cons_zero, List.set_cons_succ]
    rfl
  refine q_val rfl (v := ?_) (a' := ?_) ?_ ?_ ?_
  rotate_left
  rotate_left
  · intro w' hw'
    go_simp
    with_reducible rfl
  · simp only [Act.put, List.setIfInBounds_toArray, List.set_cons_zero, List.set_cons_succ]
    rfl
  refine q_val rfl (v := ?_) (a' := ?_) ?_ ?_ ?_
  rotate_left
  rotate_left
  · intro w' hw'
    have := hc1 w' hw'
    go_simp
    with_reducible rfl
  · simp only [Act.put, List.setIfInBounds_toArray, List.set_cons_zero, List.set_cons_succ]
    rfl
  refine q_val rfl (v := ?_) (a' := ?_) ?_ ?_ ?_
  rotate_left
  rotate_left
  · intro w' hw'
    go_simp
    with_reducible rfl
  · simp only [Act.put, List.setIfInBounds_toArray, List.set_cons_zero, List.set_cons_succ]
    rfl
  refine q_val rfl (v := ?_) (a' := ?_) ?_ ?_ ?_
  rotate_left
  rotate_left
  · intro w' hw'
    go_simp
    with_reducible rfl
  · simp only [Act.put, List.setIfInBounds_toArray, List.set_cons_zero, List.set_cons_succ]
    rfl
  refine q_call rfl (v := .string (bs [by8 (IntKind.u64.wrap l.length)])) (a' := ?_) (f := 50) (args := #[.int .u64 (IntKind.u64.wrap l.length), .int .i64 1]) ?_ ?_ ?_ ?_
  rotate_left
  · intro w' hw'
    go_simp
  · intro w' hw'
    exact (fixed1_calls _ _).mono fun _ _ hh => ⟨hh.1, below_then hw' hw'.size hh.2⟩
  · simp only [Act.put, List.setIfInBounds_toArray, List.set_cons_zero, List.set_cons_succ]
    rfl
  refine q_val rfl (v := ?_) (a' := ?_) ?_ ?_ ?_
  rotate_left
  rotate_left
  · intro w' hw'
    go_simp
    with_reducible rfl
  · simp only [Act.put, List.setIfInBounds_toArray, List.set_cons_zero, List.set_cons_succ]
    rfl
  refine q_val rfl (v := ?_) (a' := ?_) ?_ ?_ ?_
  rotate_left
  rotate_left
  · intro w' hw'
    go_simp
    with_reducible rfl
  · simp only [Act.put, List.setIfInBounds_toArray, List.set_cons_zero, List.set_cons_succ]
    rfl
  refine wpQuiet_nil ?_
  intro w2 hb2
  have hw0 : IntKind.u64.wrap next = next := u64_same hn0 hn1
  have hwl : IntKind.u64.wrap l.length = l.length := u64_same (by omega) (by omega)
  have e5 : ({ data := #[4] } : ByteArray) ++ bs (be4 (IntKind.u64.wrap next)) ++ bs [by8 (IntKind.u64.wrap l.length)] = bs (trunkHead next l.length) := by
    rw [hw0, hwl, show ({ data := #[4] } : ByteArray) = bs [4] from rfl, bs_append, bs_append]; rfl
  rw [e5]
  clear e5 hs1 hs2 hw0 hwl
  go_wp2
  go_loopw [5, 43] (fun s i wr => ∃ k : Nat, k ≤ l.length ∧ i = .int .i64 k ∧ s = .string (bs (trunkHead next l.length ++ be4s (l.take k))) ∧ Aside0 (Below w1.heap.size w1 wr)) (fun _ i _ => l.length - (intOf i).toNat)
  case atStart => exact ⟨0, Nat.zero_le _, rfl, by simp [be4s], ⟨hb2⟩⟩
  case round =>
    clear hc0 hc1
    obtain ⟨k, hk, rfl, rfl, HB⟩ := hrel
    have hlen := be4s_length (l.take k)
    rw [List.length_take_of_le hk] at hlen
    have hszs : (bs (trunkHead next l.length ++ be4s (l.take k))).size = 6 + 4 * k := by rw [bs_size, List.length_append, hlen]; rfl
    by_cases hlt : k < l.length
    · obtain ⟨ad, e1, hx⟩ := Kd.at_int HL.out (k : Int) (by omega) (by omega)
      cases e1
      rw [show rd l (k : Int) = l.getD k 0 from rfl, Int.toNat_natCast] at hx
      have HS := Aside0.mk (be4s_take_succ l k hlt)
      obtain ⟨x, hxd⟩ : ∃ x, x = l.getD k 0 := ⟨_, rfl⟩
      have hxb := any_no hany k hlt
      rw [← hxd] at hx HS hxb
      clear hxd
      have hx2 := (HB.out.cell (Nat.lt_of_lt_of_le (World.block_lt_of_cell? w _ hx) (Nat.le_trans hB1.size (Nat.le_refl _)))).trans ((hB1.cell (Nat.lt_of_lt_of_le (World.block_lt_of_cell? w _ hx) hbs)).trans hx)
      clear hx
      have hsx : (bs (be4 x)).size = 4 := bs_size _
      have hwx : IntKind.u64.wrap x = x := u64_same (by omega) (by omega)
      go_wp2_with (go_at_call 50; refine (fixed4_calls _ _).mono ?_; rintro e w' ⟨rfl, hb⟩)
      go_roundw
      case rel => exact ⟨k + 1, by omega, by go_num, by rw [HS.out, bs_append, List.append_assoc], ⟨below_then HB.out HB.out.size hb⟩⟩
      case measure => simp [intOf]; omega
    · have hke : k = l.length := by omega
      subst hke
      rw [List.take_length] at hszs ⊢
      have hr0 : (232 : Int) - (6 + 4 * (l.length : Int)) = ((226 - 4 * l.length : Nat) : Int) := by omega
      have hsr : (bs (List.replicate (226 - 4 * l.length) 0)).size = 226 - 4 * l.length := by rw [bs_size, List.length_replicate]
      go_wp2_with (go_at_call 51; refine (rep0_calls _ _ (by omega)).mono ?_; rintro e w' ⟨rfl, hb⟩)
      go_ret2
      refine ⟨?_, ?_⟩
      · rw [trunk_tail next l h50, ← bs_append]; rfl
      · exact (hB1.trans ((HB.out.mono (Nat.le_of_lt hsz)).trans (hb.mono (Nat.le_trans (Nat.le_of_lt hsz) HB.out.size)))).mono hbs
set_option maxHeartbeats 1000000 in
set_option maxRecDepth 100000 in
theorem encode_bad1 (next : Int) (A : Option Addr) (c : Nat) (l : List Int) (w : World) (t0 : (next != 0) = true) (hodd : oddB next = true) :
    Calls Tryz.prog 72 #[.agg #[.int .i64 next, .slice A l.length c]] w fun e w' => e = .returned (.tuple #[.string (bs []), .int .i64 1]) ∧ Below w.heap.size w w' := by
  have HODD := Aside0.mk hodd
  have hu24 := Tryz.underlying98
  go_enter Tryz.func72, Tryz.ntmps72
  go_wp2_with (first | (go_at_call 87; with_reducible refine (odd_calls _ _).mono ?_; rintro e w' ⟨rfl, rfl⟩; rw [HODD.out]))
  go_ret2
  exact ⟨rfl, below_alloc (Below.refl _ _) _⟩
set_option maxHeartbeats 1000000 in
set_option maxRecDepth 100000 in
theorem encode_bad2 (next : Int) (A : Option Addr) (c : Nat) (l : List Int) (w : World) (h : (next != 0) = false ∨ ((next != 0) = true ∧ oddB next = false)) (h50 : 50 < l.length) :
    Calls Tryz.prog 72 #[.agg #[.int .i64 next, .slice A l.length c]] w fun e w' => e = .returned (.tuple #[.string (bs []), .int .i64 1]) ∧ Below w.heap.size w w' := by
  have t50 : decide ((50 : Int) < (l.length : Int)) = true := decide_eq_true (by omega)
  have hu24 := Tryz.underlying98
  rcases h with t0 | ⟨t0, hodd⟩
  · go_enter Tryz.func72, Tryz.ntmps72
    go_wp2
    go_ret2
    exact ⟨rfl, below_alloc (Below.refl _ _) _⟩
  · have HODD := Aside0.mk hodd
    go_enter Tryz.func72, Tryz.ntmps72
    go_wp2_with (first | (go_at_call 87; with_reducible refine (odd_calls _ _).mono ?_; rintro e w' ⟨rfl, rfl⟩; rw [HODD.out]))
    go_ret2
    exact ⟨rfl, below_alloc (Below.refl _ _) _⟩
set_option maxHeartbeats 1000000 in
set_option maxRecDepth 100000 in
theorem encode_bad3 (next : Int) (A : Option Addr) (c : Nat) (l : List Int) (w : World) (hl : Kd.C (Kd.int .i64) w A l.length l) (h : (next != 0) = false ∨ ((next != 0) = true ∧ oddB next = false)) (h50 : l.length ≤ 50) (hany : l.any oddB = true) :
    Calls Tryz.prog 72 #[.agg #[.int .i64 next, .slice A l.length c]] w fun e w' => e = .returned (.tuple #[.string (bs []), .int .i64 1]) ∧ Below w.heap.size w w' := by
  have t50 : decide ((50 : Int) < (l.length : Int)) = false := decide_eq_false (by omega)
  have HL := Aside0.mk hl
  have HANY := Aside0.mk hany
  clear hl
  have hu24 := Tryz.underlying98
  rcases h with t0 | ⟨t0, hodd⟩
  · go_enter Tryz.func72, Tryz.ntmps72
    go_wp2_with (first | (go_at_call 88; with_reducible refine (containsOdd_calls _ _ _ _ ?_).mono ?_; (exact Kd.C_alloc HL.out _); rintro e w' ⟨rfl, rfl⟩; rw [HANY.out]))
    go_ret2
    exact ⟨rfl, below_alloc (Below.refl _ _) _⟩
  · have HODD := Aside0.mk hodd
    go_enter Tryz.func72, Tryz.ntmps72
    go_wp2_with (first | (go_at_call 88; with_reducible refine (containsOdd_calls _ _ _ _ ?_).mono ?_; (exact Kd.C_alloc HL.out _); rintro e w' ⟨rfl, rfl⟩; rw [HANY.out]) | (go_at_call 87; with_reducible refine (odd_calls _ _).mono ?_; rintro e w' ⟨rfl, rfl⟩; rw [HODD.out]))
    go_ret2
    exact ⟨rfl, below_alloc (Below.refl _ _) _⟩
theorem encode_calls (next : Int) (A : Option Addr) (c : Nat) (l : List Int) (w : World) (hl : Kd.C (Kd.int .i64) w A l.length l) (hlc : l.length ≤ c) :
    Calls Tryz.prog 72 #[.agg #[.int .i64 next, .slice A l.length c]] w fun e w' => e = .returned (.tuple #[.string (bs (encB next l)), .int .i64 (encE next l)]) ∧ Below w.heap.size w w' := by
  unfold encB encE
  by_cases h0 : next = 0 ∨ oddB next = false
  · have hd : (next != 0) = false ∨ ((next != 0) = true ∧ oddB next = false) := by
      by_cases e : next = 0
      · left; simp [e]
      · right; exact ⟨by simp [e], h0.resolve_left e⟩
    by_cases h50 : l.length ≤ 50
    · cases hany : l.any oddB with
      | true =>
        have : encOk next l = false := by simp [encOk, hany]
        rw [this]
        exact encode_bad3 next A c l w hl hd h50 hany
      | false =>
        have : encOk next l = true := by
          simp only [encOk, hany, h50]
          rcases h0 with h0 | h0 <;> simp [h0]
        rw [this]
        rcases hd with t0 | ⟨t0, hodd⟩
        · have e : next = 0 := by simpa using t0
          exact encode_ok next A c l w hl hlc (by omega) (by omega) t0 h50 hany
        · have hb : 1 ≤ next ∧ next < 4096 := by
            simp only [oddB, Bool.or_eq_false_iff, decide_eq_false_iff_not] at hodd
            omega
          exact encode_ok2 next A c l w hl hlc (by omega) (by omega) t0 hodd h50 hany
    · have : encOk next l = false := by simp [encOk, h50]
      rw [this]
      exact encode_bad2 next A c l w hd (by omega)
  · have h1 : next ≠ 0 := fun e => h0 (.inl e)
    have h2 : oddB next = true := by
      cases h : oddB next with
      | true => rfl
      | false => exact absurd (.inr h) h0
    have : encOk next l = false := by simp [encOk, h1, h2]
    rw [this]
    exact encode_bad1 next A c l w (by simp [h1]) h2
end Go.Proofs.YtonbipaajhokfaaGreatDoor
end
