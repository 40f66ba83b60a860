/-
  Act.data; a nil shelf's calls; which heads a shelf of sixty pages can have.
-/
import Derived.Test.YtonbipaajhokfaaH8
set_option linter.unusedVariables false
set_option linter.unusedSimpArgs false
namespace Go.Proofs.Ytonbipaajhokfaa
open Go.RowKit Go.Proofs.YtonbipaajhokfaaW.PrintWords Go.Proofs.YtonbipaajhokfaaW.PrintLast Go.Proofs.YtonbipaajhokfaaW.PrintMore

def actData (d : ByteArray) (b : Bool) : ByteArray := if b = true then bs (fullL d.data.toList) else d
set_option maxRecDepth 100000 in
theorem data_calls (k n : Int) (d : ByteArray) (b : Bool) (w : World) :
    Calls Try.prog 33 #[.agg #[.int .i64 k, .int .i64 n, .string d, .bool b]] w fun e w' => e = .returned (.string (actData d b)) ∧ Below w.heap.size w w' := by
  have hu74 := Try.underlying74
  cases b with
  | true =>
    have HA := Aside0.mk (show actData d true = bs (fullL d.data.toList) from rfl)
    go_enter Try.func33, Try.ntmps33
    go_wp2_with fail
    refine (full_calls d _).mono ?_
    rintro e w1 ⟨rfl, hb⟩
    go_wp2
    go_ret
    exact ⟨by rw [HA.out]; rfl, (below_alloc (Below.refl _ _) _).trans (hb.mono (by simp))⟩
  | false =>
    have HA := Aside0.mk (show actData d false = d from rfl)
    go_enter Try.func33, Try.ntmps33
    go_wp2
    go_ret
    exact ⟨by rw [HA.out]; rfl, below_alloc (Below.refl _ _) _⟩

set_option maxRecDepth 100000 in
theorem nilBegin_calls (n : Int) (w : World) : Calls Try.prog 47 #[.pointer none, .int .i64 n] w fun e w' => e = .returned (.int .i64 2) ∧ Below w.heap.size w w' := by
  go_enter Try.func47, Try.ntmps47
  go_wp2
  go_ret
  exact ⟨rfl, Below.refl _ _⟩
set_option maxRecDepth 100000 in
theorem nilNew_calls (w : World) : Calls Try.prog 27 #[.pointer none] w fun e w' => e = .returned (.tuple #[.int .i64 0, .int .i64 2]) ∧ Below w.heap.size w w' := by
  go_enter Try.func27, Try.ntmps27
  go_wp2_with fail
  refine (nilBegin_calls 1 w).mono ?_
  rintro e w1 ⟨rfl, hb⟩
  go_wp2
  go_ret2
  exact ⟨rfl, hb⟩
set_option maxRecDepth 100000 in
theorem nilPut_calls (n : Int) (d : ByteArray) (w : World) : Calls Try.prog 30 #[.pointer none, .int .i64 n, .string d] w fun e w' => e = .returned (.int .i64 2) ∧ Below w.heap.size w w' := by
  go_enter Try.func30, Try.ntmps30
  go_wp2_with fail
  refine (nilBegin_calls n w).mono ?_
  rintro e w1 ⟨rfl, hb⟩
  go_wp2
  go_ret
  exact ⟨rfl, hb⟩
set_option maxRecDepth 100000 in
theorem nilHead_calls (w : World) : Calls Try.prog 32 #[.pointer none] w fun e w' => e = .returned (.agg #[.int .i64 0, .int .i64 0, .int .i64 0, .int .i64 0, .int .i64 0, .int .u64 0]) ∧ Below w.heap.size w w' := by
  have hu35 := Try.underlying35
  go_enter Try.func32, Try.ntmps32
  go_wp2
  refine bodyPost_ret (results_c rfl _ _ w.heap.size 35 #[.int .i64 0, .int .i64 0, .int .i64 0, .int .i64 0, .int .i64 0, .int .u64 0] (0, 0) _ rfl ?_ Try.underlying35 rfl (by kernel_rfl)) rfl ?_
  · exact blk_new w _
  · exact ⟨rfl, below_alloc (Below.refl _ _) _⟩

/-- A shelf in use: its head within bounds. -/
def Used (s : Sh) : Prop := s.limit = 60 ∧ s.left = -1 ∧ 1 ≤ s.hd.pages ∧ s.hd.pages ≤ 60 ∧ 0 ≤ s.hd.spare ∧ s.hd.spare < s.hd.pages
theorem Used.bd {s : Sh} (h : Used s) : s.bd := by
  obtain ⟨h1, h2, h3, h4, h5, h6⟩ := h
  unfold Sh.bd
  omega
theorem Used.start : Used (Sh.start 60) := ⟨rfl, rfl, by decide, by decide, by decide, by decide⟩
theorem Used.put {s : Sh} (h : Used s) (n : Int) (d : ByteArray) : Used (s.put n d).1 := by
  unfold Sh.put
  split
  · exact h
  · split
    · exact h
    · exact h
theorem take_hd (mb : Nat) (f : Int → Option ByteArray) (h : Hd) (he : ((mapShop mb).take f h).2.2.2 = 0) : ((mapShop mb).take f h).2.2.1.pages = (if h.spare = 0 then h.pages + 1 else h.pages) ∧ ((mapShop mb).take f h).2.2.1.spare = (if h.spare = 0 then h.spare else h.spare - 1) := by
  unfold Shop.take at he ⊢
  by_cases h0 : h.spare = 0
  · rw [if_pos h0] at he ⊢
    by_cases h1 : 4096 ≤ h.pages
    · rw [if_pos h1] at he; cases he
    · rw [if_neg h1, if_pos h0, if_pos h0]
      exact ⟨rfl, rfl⟩
  · rw [if_neg h0] at he ⊢
    rw [if_neg h0, if_neg h0]
    repeat' split at he
    all_goals first
      | (exact absurd he (by decide))
      | (exact absurd he (by assumption))
      | skip
    all_goals simp_all
    all_goals (repeat' split)
    all_goals first
      | exact ⟨rfl, rfl⟩
      | omega
theorem give_hd (mb : Nat) (f : Int → Option ByteArray) (h : Hd) (n : Int) (he : ((mapShop mb).give f h n).2.2 = 0) : ((mapShop mb).give f h n).2.1.pages = h.pages ∧ ((mapShop mb).give f h n).2.1.spare = h.spare + 1 ∧ h.spare < h.pages - 1 := by
  unfold Shop.give at he ⊢
  by_cases h1 : n < 1 ∨ h.pages ≤ n
  · rw [if_pos h1] at he; cases he
  · rw [if_neg h1] at he ⊢
    by_cases h2 : h.pages - 1 ≤ h.spare
    · rw [if_pos h2] at he; cases he
    · rw [if_neg h2] at he ⊢
      have h3 : h.spare < h.pages - 1 := by omega
      have gv : ∀ (r : (Int → Option ByteArray) × Int) (x : Hd), (gaveOf r x).2.2 = 0 → (gaveOf r x).2.1 = x := fun r x hh => by
        unfold gaveOf at hh ⊢
        split
        · rename_i h4; rw [if_pos h4] at hh; exact absurd hh h4
        · rfl
      by_cases h4 : h.trunk = 0
      · rw [if_pos h4] at he ⊢
        rw [gv _ _ he]; exact ⟨rfl, rfl, h3⟩
      · rw [if_neg h4] at he ⊢
        by_cases h5 : ((mapShop mb).trunk f h.trunk).2.2.2 ≠ 0
        · rw [if_pos h5] at he; exact absurd he h5
        · rw [if_neg h5] at he ⊢
          by_cases h6 : ((mapShop mb).trunk f h.trunk).2.2.1.length < 50
          · rw [if_pos h6] at he ⊢
            rw [gv _ _ he]; exact ⟨rfl, rfl, h3⟩
          · rw [if_neg h6] at he ⊢
            rw [gv _ _ he]; exact ⟨rfl, rfl, h3⟩
theorem Used.new {s : Sh} (h : Used s) (mb : Nat) : Used (s.new mb).1 := by
  obtain ⟨h1, h2, h3, h4, h5, h6⟩ := h
  have hh : Used s := ⟨h1, h2, h3, h4, h5, h6⟩
  unfold Sh.new
  by_cases c0 : s.left = 0
  · rw [if_pos c0]; exact hh
  · rw [if_neg c0]
    by_cases c1 : s.hd.spare = 0 ∧ s.limit ≤ s.hd.pages
    · rw [if_pos c1]; exact hh
    · rw [if_neg c1]
      by_cases c2 : ((mapShop mb).take s.f s.hd).2.2.2 ≠ 0
      · rw [if_pos c2]; exact ⟨h1, h2, h3, h4, h5, h6⟩
      · rw [if_neg c2]
        obtain ⟨g1, g2⟩ := take_hd mb s.f s.hd (by omega)
        refine ⟨h1, h2, ?_, ?_, ?_, ?_⟩ <;> dsimp only <;> (try rw [g1]) <;> (try rw [g2]) <;> split <;> omega
theorem Used.free {s : Sh} (h : Used s) (mb : Nat) (n : Int) : Used (s.free mb n).1 := by
  obtain ⟨h1, h2, h3, h4, h5, h6⟩ := h
  have hh : Used s := ⟨h1, h2, h3, h4, h5, h6⟩
  unfold Sh.free
  by_cases c0 : s.beg n ≠ 0
  · rw [if_pos c0]; exact hh
  · rw [if_neg c0]
    by_cases c1 : ((mapShop mb).give s.f s.hd n).2.2 = 0
    · rw [if_pos c1]
      obtain ⟨g1, g2, g3⟩ := give_hd mb s.f s.hd n c1
      refine ⟨h1, h2, ?_, ?_, ?_, ?_⟩ <;> dsimp only <;> (try rw [g1]) <;> (try rw [g2]) <;> omega
    · rw [if_neg c1]; exact ⟨h1, h2, h3, h4, h5, h6⟩
end Go.Proofs.Ytonbipaajhokfaa
