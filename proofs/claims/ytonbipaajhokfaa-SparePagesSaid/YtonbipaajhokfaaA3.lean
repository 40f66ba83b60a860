/-
  Plain: bytes as lists; trunks' pages. And the rule for a region that draws its order, reads and calls what makes memory alone.
-/
import Derived.Test.YtonbipaajhokfaaA2
import Derived.Deep.QuietTactic
set_option linter.unusedVariables false
set_option linter.unusedSimpArgs false
namespace Go.Proofs.Ytonbipaajhokfaa
open Go.RowKit Go.Proofs.YtonbipaajhokfaaW.PrintWords Go.Proofs.YtonbipaajhokfaaW.PrintLast Go.Proofs.YtonbipaajhokfaaW.PrintMore

/-! ### Bytes -/
def bs (l : List UInt8) : ByteArray := ⟨l.toArray⟩
theorem bs_append (a b : List UInt8) : bs a ++ bs b = bs (a ++ b) := by
  apply ByteArray.ext
  rw [ByteArray.data_append]
  simp [bs]
theorem bs_size (l : List UInt8) : (bs l).size = l.length := by simp [bs, ByteArray.size]
theorem bs_list (l : List UInt8) : (bs l).data.toList = l := by simp [bs]
theorem bs_of (s : ByteArray) : bs s.data.toList = s := by
  apply ByteArray.ext; simp [bs]
theorem bs_inj {a b : List UInt8} (h : bs a = bs b) : a = b := by
  have := congrArg (fun s => s.data.toList) h; simpa [bs] using this
theorem strOfNums_bs (xs : List Int) : strOfNums xs = bs (xs.map fun n => UInt8.ofNat n.toNat) := rfl

def by8 (n : Int) : UInt8 := UInt8.ofNat (n % 256).toNat
def be4 (n : Int) : List UInt8 := [by8 (n / 256 / 256 / 256), by8 (n / 256 / 256), by8 (n / 256), by8 n]
theorem be4_length (n : Int) : (be4 n).length = 4 := rfl

theorem fixed4 (n : Int) : PShelfFails.num_Fixed.f 6 n 4 = some (bs (be4 n)) := by
  unfold PShelfFails.num_Fixed.f
  have e1 : mn (mx 4 1) 8 = 4 := by decide
  rw [e1]
  simp only [PShelfFails.num_Fixed.l0, wrap64, Int.reduceToNat, List.replicate, Option.bind_some, List.length_cons, List.length_nil, List.set, Int.reduceLE, if_true, ge_iff_le, Int.reduceSub, Int.reduceAdd, Int.reduceLT, Nat.reduceAdd, Nat.reduceLeDiff, Int.reduceMod, Int.reduceNeg, if_false, Int.cast_ofNat_Int]
  rfl
theorem fixed1 (n : Int) : PShelfFails.num_Fixed.f 6 n 1 = some (bs [by8 n]) := by
  unfold PShelfFails.num_Fixed.f
  have e1 : mn (mx 1 1) 8 = 1 := by decide
  rw [e1]
  simp only [PShelfFails.num_Fixed.l0, wrap64, Int.reduceToNat, List.replicate, Option.bind_some, List.length_cons, List.length_nil, List.set, Int.reduceLE, if_true, ge_iff_le, Int.reduceSub, Int.reduceAdd, Int.reduceLT, Nat.reduceAdd, Nat.reduceLeDiff, Int.reduceMod, Int.reduceNeg, if_false, Int.cast_ofNat_Int]
  rfl
theorem fixed4_calls (n : Int) (w : World) : Calls Try.prog 37 #[.int .u64 n, .int .i64 4] w fun e w' => e = .returned (.string (bs (be4 n))) ∧ Below w.heap.size w w' :=
  PShelfFails.num_Fixed.calls 6 n 4 _ w (fixed4 n)
theorem fixed1_calls (n : Int) (w : World) : Calls Try.prog 37 #[.int .u64 n, .int .i64 1] w fun e w' => e = .returned (.string (bs [by8 n])) ∧ Below w.heap.size w w' :=
  PShelfFails.num_Fixed.calls 6 n 1 _ w (fixed1 n)

/-! ### A region that draws its order: its operations read, its calls make memory alone -/
section
variable {P : Program} {C : World → Prop} {K : Act → Prop} {a : Act} {o : Oper}
theorem quiet_val (v : Value) (h : ∀ w', C w' → (execOp a.eval o).run P w' = .ok (.value v) w') (hk : K (a.put o.dst v)) : o.quiet P a C K :=
  ⟨v, fun w hw => by unfold Oper.quietAt; rw [h w hw]; exact ⟨rfl, rfl⟩, hk⟩
theorem quiet_call (f : FuncId) (args : Array Value) (v : Value) (h : ∀ w', C w' → (execOp a.eval o).run P w' = .ok (.enter f args) w')
    (hc : ∀ w', C w' → Calls P f args w' (fun e w'' => e = .returned v ∧ C w'')) (hk : K (a.put o.dst v)) : o.quiet P a C K :=
  ⟨v, fun w hw => by unfold Oper.quietAt; rw [h w hw]; exact ⟨rfl, hc w hw⟩, hk⟩
end
section
variable {P : Program} {ops : Array Oper} {C : World → Prop} {Q : Act → Prop} {a : Act} {o : Oper} {rest : List Oper}
theorem q_val (hg : o.guard = none) {v : Value} {a' : Act} (h : ∀ w', C w' → (execOp a.eval o).run P w' = .ok (.value v) w') (ha : a.put o.dst v = a') (hk : wpQuiet P ops C Q rest a') : wpQuiet P ops C Q (o :: rest) a :=
  wpQuiet_step fun K hK => by rw [if_pos (by simp [Region.wanted, hg])]; exact quiet_val v h (hK _ (by rw [ha]; exact hk))
theorem q_call (hg : o.guard = none) {f : FuncId} {args : Array Value} {v : Value} {a' : Act} (h : ∀ w', C w' → (execOp a.eval o).run P w' = .ok (.enter f args) w')
    (hc : ∀ w', C w' → Calls P f args w' (fun e w'' => e = .returned v ∧ C w'')) (ha : a.put o.dst v = a') (hk : wpQuiet P ops C Q rest a') : wpQuiet P ops C Q (o :: rest) a :=
  wpQuiet_step fun K hK => by rw [if_pos (by simp [Region.wanted, hg])]; exact quiet_call f args v h hc (hK _ (by rw [ha]; exact hk))
end
theorem region_below {P : Program} {id : Nat} {Q : Exit → Act → World → Prop} {a : Act} {w : World} {l : List Oper} (B : Nat) (hBw : B ≤ w.heap.size) (hm : P.follows .mixedOrders = true) (hB : Region.lexB .any l.toArray = true)
    (h : wpQuiet P l.toArray (fun w' => Below B w w') (fun a' => ∀ w', Below B w w' → Q .normal a' w') l a) : (Code.region id l.toArray true).wp P Q a w :=
  wp_region_quiet (C := fun w' => Below B w w') hm hB ⟨rfl, rfl, rfl, Nat.le_refl _, fun _ _ => rfl⟩ (by simpa using h)

end Go.Proofs.Ytonbipaajhokfaa
