/-
  SparePages: joined.
-/
import Derived.Test.YtonbipaajhokfaaF3
import Derived.Test.YtonbipaajhokfaaF5
set_option linter.unusedVariables false
namespace Go.Proofs.Ytonbipaajhokfaa
open Go.RowKit Go.Proofs.YtonbipaajhokfaaW.PrintWords
theorem refDecode_calls (s : ByteArray) (w : World) : Calls Try.prog 15 #[.string s] w fun e w' => ∃ v, e = .returned (.tuple #[.agg #[.int .i64 (decN1 s.data.toList), v], .int .i64 (decE1 s.data.toList)]) ∧
      Kd.R (Kd.int .i64) 3 w' w.heap.size (fun _ => True) v (decL1 s.data.toList) ∧ Below w.heap.size w w' := by
  by_cases hs : s.size = 232
  · exact refDecode_full s w hs
  · have h : s.data.toList.length ≠ 232 := by rw [data_length]; exact hs
    have e1 : decN1 s.data.toList = 0 := by unfold decN1; rw [if_neg (fun hh => h hh.1)]
    have e2 : decL1 s.data.toList = [] := by unfold decL1; rw [if_neg (fun hh => h hh.1)]
    have e3 : decE1 s.data.toList = 1 := by unfold decE1; rw [if_neg h]
    rw [e1, e2, e3]
    exact refDecode_short s w hs
theorem sparePages_calls (n : Int) (A : Option Addr) (c : Nat) (l : List Int) (s : ByteArray) (w : World) (hl : Kd.C (Kd.int .i64) w A l.length l) (hc : l.length ≤ c) :
    Calls Try.prog 3 #[.agg #[.int .i64 n, .slice A l.length c], .string s] w fun e w' => e = .returned (.bool true) ∧ Below w.heap.size w w' :=
  sparePages_of refDecode_calls n A c l s w hl hc
end Go.Proofs.Ytonbipaajhokfaa
