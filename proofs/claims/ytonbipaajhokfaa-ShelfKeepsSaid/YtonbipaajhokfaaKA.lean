/-
  Plain definitions of layer 9's numbers, trunks and pages: what the walks say that the code computes.
-/
import Derived.Test.YtonbipaajhokfaaPShelfFailsx1
import Derived.WalkSpells
import Derived.WalkLawsBesides
import Derived.Deep.QuietTactic
namespace Go.Proofs.Ytonbipaajhokfaa

/-- The number that bytes are, the highest first. -/
def beV (l : List UInt8) : Int := l.foldl (fun a b => a * 256 + (b.toNat : Int)) 0
theorem beV_nil : beV [] = 0 := rfl
theorem beV_snoc (l : List UInt8) (b : UInt8) : beV (l ++ [b]) = beV l * 256 + (b.toNat : Int) := by
  unfold beV; rw [List.foldl_append]; rfl
theorem beV_bd : ∀ (n : Nat) (l : List UInt8), l.length = n → 0 ≤ beV l ∧ beV l < 256 ^ n := by
  intro n
  induction n with
  | zero => intro l h; rw [List.eq_nil_of_length_eq_zero h]; exact ⟨by decide, by decide⟩
  | succ n ih =>
    intro l h
    obtain ⟨l', b, rfl⟩ : ∃ l' b, l = l' ++ [b] := by
      rcases List.eq_nil_or_concat l with h0 | ⟨l', b, h1⟩
      · subst h0; simp at h
      · exact ⟨l', b, by rw [h1, List.concat_eq_append]⟩
    have := ih l' (by simpa using h)
    rw [beV_snoc]
    have hb := b.toNat_lt
    rw [Int.pow_succ]
    omega
theorem take_snoc8 (l : List UInt8) (k : Nat) (h : k < l.length) : l.take (k + 1) = l.take k ++ [l.getD k 0] := by
  rw [List.take_succ_eq_append_getElem h]; simp [List.getD, h]
theorem beV_take_succ (l : List UInt8) (k : Nat) (h : k < l.length) : beV (l.take (k + 1)) = beV (l.take k) * 256 + ((l.getD k 0).toNat : Int) := by
  rw [take_snoc8 l k h, beV_snoc]
theorem beV_take_bd (l : List UInt8) (k : Nat) (h : k < l.length) (h8 : l.length ≤ 8) : 0 ≤ beV (l.take k) ∧ beV (l.take k) < 72057594037927936 := by
  have hb := beV_bd k (l.take k) (by rw [List.length_take]; omega)
  refine ⟨hb.1, Int.lt_of_lt_of_le hb.2 ?_⟩
  have : k ≤ 7 := by omega
  have h2 : (256 : Int) ^ k ≤ 256 ^ 7 := by
    rcases (by omega : k = 0 ∨ k = 1 ∨ k = 2 ∨ k = 3 ∨ k = 4 ∨ k = 5 ∨ k = 6 ∨ k = 7) with rfl | rfl | rfl | rfl | rfl | rfl | rfl | rfl <;> decide
  exact Int.le_trans h2 (by decide)

end Go.Proofs.Ytonbipaajhokfaa
/-
  Walks: num.Unfixed.
-/
namespace Go.Proofs.Ytonbipaajhokfaa
open Go.RowKit Go.Proofs.YtonbipaajhokfaaW.PrintWords Go.Proofs.YtonbipaajhokfaaW.PrintLast Go.Proofs.YtonbipaajhokfaaW.PrintMore

set_option maxHeartbeats 1000000 in
theorem unfixed_ok (s : ByteArray) (w : World) (h1 : 1 ≤ s.size) (h8 : s.size ≤ 8) :
    Calls Try.prog 41 #[.string s] w fun e w' => e = .returned (.tuple #[.int .u64 (beV s.data.toList), .int .i64 0]) ∧ Below w.heap.size w w' := by
  have kb := fun W => print_bytes (P := Try.prog) 9 68 5 Try.underlying9 Try.underlying68 Try.underlying5 s W
  have t1 : decide ((s.size : Int) < 1) = false := decide_eq_false (by omega)
  have t2 : decide ((8 : Int) < (s.size : Int)) = false := decide_eq_false (by omega)
  have hll : s.data.toList.length = s.size := data_length s
  have HLL := Aside0.mk hll
  clear hll
  go_enter Try.func41, Try.ntmps41
  go_wp2
  clear t1 t2 kb
  go_loop [4, 18] (fun n i => ∃ k : Nat, k ≤ s.size ∧ i = .int .i64 k ∧ n = .int .u64 (beV (s.data.toList.take k))) (fun _ i => s.size - (intOf i).toNat)
  case atStart => exact ⟨0, Nat.zero_le _, rfl, rfl⟩
  case round =>
    obtain ⟨k, hk, rfl, rfl⟩ := hrel
    by_cases hlt : k < s.size
    · have hcell := Lib.bytesWorld_cell w 5 s k hlt
      have hb := beV_take_bd s.data.toList k (by have := HLL.out; omega) (by have := HLL.out; omega)
      have hsn := beV_take_succ s.data.toList k (by have := HLL.out; omega)
      have hbyte := (s.data.toList.getD k 0).toNat_lt
      obtain ⟨c, hc⟩ : ∃ c : Nat, c = (s.data.toList.getD k 0).toNat := ⟨_, rfl⟩
      rw [← hc] at hcell hsn hbyte
      clear hc
      obtain ⟨b0, hb0⟩ : ∃ b0 : Int, b0 = beV (s.data.toList.take k) := ⟨_, rfl⟩
      rw [← hb0] at hb hsn
      rw [← hb0]
      clear hb0
      have HSN := Aside0.mk hsn
      clear hsn
      go_wp2
      go_round
      case rel => exact ⟨k + 1, by omega, by go_num, by rw [HSN.out]⟩
      case measure => simp [intOf]; omega
    · have hke : k = s.size := by omega
      subst hke
      go_wp2
      go_ret2
      exact ⟨by rw [List.take_of_length_le (by have := HLL.out; omega)]; rfl, bytes_below (Below.refl _ _) (Nat.le_refl _) 5 s⟩
end Go.Proofs.Ytonbipaajhokfaa
/-
  Walks: Encode's closure, slices.IndexFunc and slices.ContainsFunc with it.
-/
namespace Go.Proofs.Ytonbipaajhokfaa
open Go.RowKit Go.Proofs.YtonbipaajhokfaaW.PrintWords Go.Proofs.YtonbipaajhokfaaW.PrintLast Go.Proofs.YtonbipaajhokfaaW.PrintMore

/-- No page's number behind the first. -/
def oddB (n : Int) : Bool := decide (n < 1) || decide (4096 ≤ n)
theorem oddB_lo {n : Int} (h : n < 1) : oddB n = true := by simp [oddB, h]
theorem oddB_hi {n : Int} (h : 4096 ≤ n) : oddB n = true := by simp [oddB, h]
theorem oddB_no {n : Int} (h : 1 ≤ n) (h' : n < 4096) : oddB n = false := by
  simp only [oddB, Bool.or_eq_false_iff, decide_eq_false_iff_not]; omega

theorem odd_calls (n : Int) (w : World) : Calls Try.prog 35 #[.int .i64 n] w fun e w' => e = .returned (.bool (oddB n)) ∧ w = w' := by
  by_cases h : n < 1
  · have t1 : decide (n < 1) = true := decide_eq_true h
    clear h
    go_enter Try.func35, Try.ntmps35
    go_wp2
    go_ret
    exact ⟨by rw [oddB_lo (of_decide_eq_true t1)]; rfl, rfl⟩
  · have t1 : decide (n < 1) = false := decide_eq_false h
    clear h
    by_cases h : 4096 ≤ n
    · have t2 : decide (4096 ≤ n) = true := decide_eq_true h
      clear h
      go_enter Try.func35, Try.ntmps35
      go_wp2
      go_ret
      exact ⟨by rw [oddB_hi (of_decide_eq_true t2)]; rfl, rfl⟩
    · have t2 : decide (4096 ≤ n) = false := decide_eq_false h
      clear h
      go_enter Try.func35, Try.ntmps35
      go_wp2
      go_ret
      exact ⟨by have a := of_decide_eq_false t1; have b := of_decide_eq_false t2; rw [oddB_no (by omega) (by omega)]; rfl, rfl⟩

/-- Where the first odd number stands, -1: nowhere. -/
def oddAt : List Int → Int
  | [] => -1
  | x :: r => if oddB x then 0 else (if oddAt r = -1 then -1 else oddAt r + 1)

theorem oddAt_ge (l : List Int) : -1 ≤ oddAt l := by
  induction l with
  | nil => decide
  | cons x r ih => unfold oddAt; split <;> (try split) <;> omega
theorem oddAt_any (l : List Int) : decide (0 ≤ oddAt l) = l.any oddB := by
  induction l with
  | nil => decide
  | cons x r ih =>
    unfold oddAt
    have := oddAt_ge r
    cases h : oddB x
    · simp only [List.any_cons, h, Bool.false_or, ← ih]
      by_cases e : oddAt r = -1
      · simp [e]
      · have : 0 ≤ oddAt r := by omega
        simp [e, this]; omega
    · simp [List.any_cons, h]
/-- From a place on. -/
theorem oddAt_at {l : List Int} {k : Nat} (hk : k < l.length) (hb : ∀ j, j < k → oddB (l.getD j 0) = false) (h : oddB (l.getD k 0) = true) : oddAt l = k := by
  induction l generalizing k with
  | nil => simp at hk
  | cons x r ih =>
    cases k with
    | zero => simp at h; simp [oddAt, h]
    | succ k =>
      have h0 := hb 0 (by omega)
      simp at h0
      have := ih (k := k) (by simpa using hk) (fun j hj => by have := hb (j + 1) (by omega); simpa using this) (by simpa using h)
      simp only [oddAt, h0, this]
      rw [if_neg (by decide), if_neg (by omega)]
      omega
theorem oddAt_no {l : List Int} (hb : ∀ j, j < l.length → oddB (l.getD j 0) = false) : oddAt l = -1 := by
  induction l with
  | nil => rfl
  | cons x r ih =>
    have h0 := hb 0 (by simp)
    simp at h0
    have := ih (fun j hj => by have := hb (j + 1) (by simpa using hj); simpa using this)
    simp [oddAt, h0, this]

set_option maxHeartbeats 1000000 in
theorem indexOdd_calls (A : Option Addr) (c : Nat) (l : List Int) (w : World) (hl : Kd.C (Kd.int .i64) w A l.length l) :
    Calls Try.prog 51 #[.slice A l.length c, .func (.func 35) #[] #[]] w fun e w' => e = .returned (.int .i64 (oddAt l)) ∧ w = w' := by
  have hm := Kd.C_max hl
  have HL := Aside0.mk hl
  clear hl
  go_enter Try.func51, Try.ntmps51
  go_wp2
  go_loop [8] (fun i => ∃ k : Nat, k ≤ l.length ∧ i = .int .i64 k ∧ Aside0 (∀ j, j < k → oddB (l.getD j 0) = false)) (fun i => l.length - (intOf i).toNat)
  case atStart => exact ⟨0, Nat.zero_le _, rfl, ⟨fun j hj => absurd hj (Nat.not_lt_zero j)⟩⟩
  case round =>
    obtain ⟨k, hk, rfl, hno⟩ := hrel
    by_cases hlt : k < l.length
    · obtain ⟨ad, e1, hx⟩ := Kd.at_int HL.out (k : Int) (by omega) (by omega)
      cases e1
      rw [show rd l (k : Int) = l.getD k 0 from rfl, Int.toNat_natCast] at hx
      obtain ⟨x, hxd⟩ : ∃ x, x = l.getD k 0 := ⟨_, rfl⟩
      rw [← hxd] at hx
      have HX := Aside0.mk hxd
      clear hxd
      cases hb : oddB x with
      | true =>
        have HR := Aside0.mk (oddAt_at hlt hno.out (by rw [← HX.out]; exact hb))
        go_wp2_with (go_at_call 35; refine (odd_calls _ _).mono ?_; rintro e w' ⟨rfl, rfl⟩)
        go_ret
        exact ⟨by rw [HR.out]; rfl, rfl⟩
      | false =>
        go_wp2_with (go_at_call 35; refine (odd_calls _ _).mono ?_; rintro e w' ⟨rfl, rfl⟩)
        go_round
        case rel => exact ⟨k + 1, by omega, by go_num, ⟨fun j hj => by
          rcases Nat.lt_or_ge j k with h | h
          · exact hno.out j h
          · obtain rfl : j = k := by omega
            rw [← HX.out]; exact hb⟩⟩
        case measure => simp [intOf]; omega
    · have hke : k = l.length := by omega
      subst hke
      have HR := Aside0.mk (oddAt_no hno.out)
      go_wp2
      go_ret
      exact ⟨by rw [HR.out]; rfl, rfl⟩
theorem containsOdd_calls (A : Option Addr) (c : Nat) (l : List Int) (w : World) (hl : Kd.C (Kd.int .i64) w A l.length l) :
    Calls Try.prog 36 #[.slice A l.length c, .func (.func 35) #[] #[]] w fun e w' => e = .returned (.bool (l.any oddB)) ∧ w = w' := by
  have HL := Aside0.mk hl
  clear hl
  go_enter Try.func36, Try.ntmps36
  go_wp2_with (go_at_call 51; refine (indexOdd_calls _ _ _ _ HL.out).mono ?_; rintro e w' ⟨rfl, rfl⟩)
  go_ret
  exact ⟨by rw [← oddAt_any]; rfl, rfl⟩
end Go.Proofs.Ytonbipaajhokfaa
/-
  Plain: bytes as lists; trunks' pages. And the rule for a region that draws its order, reads and calls what makes memory alone.
-/
set_option linter.unusedVariables false
set_option linter.unusedSimpArgs false
namespace Go.Proofs.Ytonbipaajhokfaa
open Go.RowKit Go.Proofs.YtonbipaajhokfaaW.PrintWords Go.Proofs.YtonbipaajhokfaaW.PrintLast Go.Proofs.YtonbipaajhokfaaW.PrintMore

/-! ### Bytes -/
def bs (l : List UInt8) : ByteArray := ⟨l.toArray⟩
theorem bs_append (a b : List UInt8) : bs a ++ bs b = bs (a ++ b) := by
  apply ByteArray.ext
  rw [ByteArray.data_append]
  simp [bs]
theorem bs_size (l : List UInt8) : (bs l).size = l.length := by simp [bs, ByteArray.size]
theorem bs_list (l : List UInt8) : (bs l).data.toList = l := by simp [bs]
theorem bs_of (s : ByteArray) : bs s.data.toList = s := by
  apply ByteArray.ext; simp [bs]
theorem bs_inj {a b : List UInt8} (h : bs a = bs b) : a = b := by
  have := congrArg (fun s => s.data.toList) h; simpa [bs] using this
theorem strOfNums_bs (xs : List Int) : strOfNums xs = bs (xs.map fun n => UInt8.ofNat n.toNat) := rfl

def by8 (n : Int) : UInt8 := UInt8.ofNat (n % 256).toNat
def be4 (n : Int) : List UInt8 := [by8 (n / 256 / 256 / 256), by8 (n / 256 / 256), by8 (n / 256), by8 n]
theorem be4_length (n : Int) : (be4 n).length = 4 := rfl

theorem fixed4 (n : Int) : PShelfFails.num_Fixed.f 6 n 4 = some (bs (be4 n)) := by
  unfold PShelfFails.num_Fixed.f
  have e1 : mn (mx 4 1) 8 = 4 := by decide
  rw [e1]
  simp only [PShelfFails.num_Fixed.l0, wrap64, Int.reduceToNat, List.replicate, Option.bind_some, List.length_cons, List.length_nil, List.set, Int.reduceLE, if_true, ge_iff_le, Int.reduceSub, Int.reduceAdd, Int.reduceLT, Nat.reduceAdd, Nat.reduceLeDiff, Int.reduceMod, Int.reduceNeg, if_false, Int.cast_ofNat_Int]
  rfl
theorem fixed1 (n : Int) : PShelfFails.num_Fixed.f 6 n 1 = some (bs [by8 n]) := by
  unfold PShelfFails.num_Fixed.f
  have e1 : mn (mx 1 1) 8 = 1 := by decide
  rw [e1]
  simp only [PShelfFails.num_Fixed.l0, wrap64, Int.reduceToNat, List.replicate, Option.bind_some, List.length_cons, List.length_nil, List.set, Int.reduceLE, if_true, ge_iff_le, Int.reduceSub, Int.reduceAdd, Int.reduceLT, Nat.reduceAdd, Nat.reduceLeDiff, Int.reduceMod, Int.reduceNeg, if_false, Int.cast_ofNat_Int]
  rfl
theorem fixed4_calls (n : Int) (w : World) : Calls Try.prog 37 #[.int .u64 n, .int .i64 4] w fun e w' => e = .returned (.string (bs (be4 n))) ∧ Below w.heap.size w w' :=
  PShelfFails.num_Fixed.calls 6 n 4 _ w (fixed4 n)
theorem fixed1_calls (n : Int) (w : World) : Calls Try.prog 37 #[.int .u64 n, .int .i64 1] w fun e w' => e = .returned (.string (bs [by8 n])) ∧ Below w.heap.size w w' :=
  PShelfFails.num_Fixed.calls 6 n 1 _ w (fixed1 n)

/-! ### A region that draws its order: its operations read, its calls make memory alone -/
section
variable {P : Program} {C : World → Prop} {K : Act → Prop} {a : Act} {o : Oper}
theorem quiet_val (v : Value) (h : ∀ w', C w' → (execOp a.eval o).run P w' = .ok (.value v) w') (hk : K (a.put o.dst v)) : o.quiet P a C K :=
  ⟨v, fun w hw => by unfold Oper.quietAt; rw [h w hw]; exact ⟨rfl, rfl⟩, hk⟩
theorem quiet_call (f : FuncId) (args : Array Value) (v : Value) (h : ∀ w', C w' → (execOp a.eval o).run P w' = .ok (.enter f args) w')
    (hc : ∀ w', C w' → Calls P f args w' (fun e w'' => e = .returned v ∧ C w'')) (hk : K (a.put o.dst v)) : o.quiet P a C K :=
  ⟨v, fun w hw => by unfold Oper.quietAt; rw [h w hw]; exact ⟨rfl, hc w hw⟩, hk⟩
end
section
variable {P : Program} {ops : Array Oper} {C : World → Prop} {Q : Act → Prop} {a : Act} {o : Oper} {rest : List Oper}
theorem q_val (hg : o.guard = none) {v : Value} {a' : Act} (h : ∀ w', C w' → (execOp a.eval o).run P w' = .ok (.value v) w') (ha : a.put o.dst v = a') (hk : wpQuiet P ops C Q rest a') : wpQuiet P ops C Q (o :: rest) a :=
  wpQuiet_step fun K hK => by rw [if_pos (by simp [Region.wanted, hg])]; exact quiet_val v h (hK _ (by rw [ha]; exact hk))
theorem q_call (hg : o.guard = none) {f : FuncId} {args : Array Value} {v : Value} {a' : Act} (h : ∀ w', C w' → (execOp a.eval o).run P w' = .ok (.enter f args) w')
    (hc : ∀ w', C w' → Calls P f args w' (fun e w'' => e = .returned v ∧ C w'')) (ha : a.put o.dst v = a') (hk : wpQuiet P ops C Q rest a') : wpQuiet P ops C Q (o :: rest) a :=
  wpQuiet_step fun K hK => by rw [if_pos (by simp [Region.wanted, hg])]; exact quiet_call f args v h hc (hK _ (by rw [ha]; exact hk))
end
theorem region_below {P : Program} {id : Nat} {Q : Exit → Act → World → Prop} {a : Act} {w : World} {l : List Oper} (B : Nat) (hBw : B ≤ w.heap.size) (hm : P.follows .mixedOrders = true) (hB : Region.lexB .any l.toArray = true)
    (h : wpQuiet P l.toArray (fun w' => Below B w w') (fun a' => ∀ w', Below B w w' → Q .normal a' w') l a) : (Code.region id l.toArray true).wp P Q a w :=
  wp_region_quiet (C := fun w' => Below B w w') hm hB ⟨rfl, rfl, rfl, Nat.le_refl _, fun _ _ => rfl⟩ (by simpa using h)

end Go.Proofs.Ytonbipaajhokfaa
