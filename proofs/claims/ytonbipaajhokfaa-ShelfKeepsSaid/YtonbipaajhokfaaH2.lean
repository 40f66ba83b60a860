/-
  Walks: a shelf's methods.
-/
import Derived.Test.YtonbipaajhokfaaH1
import Derived.StillTailTactics
import Derived.BigQuiet
set_option linter.unusedVariables false
set_option linter.unusedSimpArgs false
namespace Go.Proofs.Ytonbipaajhokfaa
open Go.RowKit Go.Proofs.YtonbipaajhokfaaW.PrintWords Go.Proofs.YtonbipaajhokfaaW.PrintLast Go.Proofs.YtonbipaajhokfaaW.PrintMore

/-- A shelf. -/
structure Sh where
  limit : Int
  hd : Hd
  f : Int → Option ByteArray
  left : Int
def shCells (mb : Nat) (l m p t sp r ch lf : Int) : Array Value := #[.int .i64 l, .int .i64 m, .int .i64 p, .int .i64 t, .int .i64 sp, .int .i64 r, .int .u64 ch, .map (some mb), .int .i64 lf]
def ShAt (ks mb : Nat) (w : World) (s : Sh) : Prop :=
  w.heap[ks]? = some (.cells #[.int .i64 s.limit, .int .i64 s.hd.mode, .int .i64 s.hd.pages, .int .i64 s.hd.trunk, .int .i64 s.hd.spare, .int .i64 s.hd.root, .int .u64 s.hd.change, .map (some mb), .int .i64 s.left] 92 (0, 0)) ∧ MapAt w mb s.f
def ShF (ks mb : Nat) : Nat → Prop := fun k => k = ks ∨ k = mb

theorem ShAt.below {ks mb : Nat} {w w' : World} {s : Sh} (h : ShAt ks mb w s) (hb : Below w.heap.size w w') : ShAt ks mb w' s :=
  ⟨blk_below h.1 hb, h.2.keep (hb.block _ h.2.lt)⟩
theorem mtake_calls (mb : Nat) (f : Int → Option ByteArray) (h : Hd) (w : World) (hm : MapAt w mb f) (hp0 : 0 ≤ h.pages) (hs0 : 0 ≤ h.spare) (hs1 : h.spare ≤ 4096) :
    Calls Try.prog 20 #[h.v, .iface 90 (.map (some mb))] w fun e w' => e = .returned (.tuple #[.int .i64 ((mapShop mb).take f h).2.1, ((mapShop mb).take f h).2.2.1.v, .int .i64 ((mapShop mb).take f h).2.2.2]) ∧ MapAt w' mb ((mapShop mb).take f h).1 ∧ Fr (fun k => k = mb) w w' :=
  (take_calls (mapShop mb) (fun k => k = mb) f h w ⟨rfl, fun k hk => by rw [hk]; exact hm.lt, hm⟩ trivial hp0 hs0 hs1).mono fun e w' hh => ⟨hh.1, by obtain ⟨F', h1, h2, h3⟩ := hh.2; exact ⟨h1.2.2, h3⟩⟩
theorem mgive_calls (mb : Nat) (f : Int → Option ByteArray) (h : Hd) (n : Int) (w : World) (hm : MapAt w mb f) (hp0 : 0 ≤ h.pages) (hp1 : h.pages ≤ 4096) (hs0 : 0 ≤ h.spare) :
    Calls Try.prog 22 #[h.v, .iface 90 (.map (some mb)), .int .i64 n] w fun e w' => e = .returned (.tuple #[((mapShop mb).give f h n).2.1.v, .int .i64 ((mapShop mb).give f h n).2.2]) ∧ MapAt w' mb ((mapShop mb).give f h n).1 ∧ Fr (fun k => k = mb) w w' :=
  (give_calls (mapShop mb) (fun k => k = mb) f h n w ⟨rfl, fun k hk => by rw [hk]; exact hm.lt, hm⟩ trivial hp0 hp1 hs0).mono fun e w' hh => ⟨hh.1, by obtain ⟨F', h1, h2, h3⟩ := hh.2; exact ⟨h1.2.2, h3⟩⟩

/-- What comes ahead of a call. -/
def Sh.beg (s : Sh) (n : Int) : Int := if s.left = 0 then 11 else if n < 1 ∨ s.hd.pages ≤ n then 21 else 0
set_option maxHeartbeats 1000000 in
set_option maxRecDepth 100000 in
theorem begin_calls (ks mb : Nat) (s : Sh) (n : Int) (w : World) (h : ShAt ks mb w s) (hl : s.left ≤ 0) :
    Calls Try.prog 47 #[.pointer (some ⟨ks, 0, none⟩), .int .i64 n] w fun e w' => e = .returned (.int .i64 (s.beg n)) ∧ Below w.heap.size w w' := by
  have a2 := (blk_cell h.1 2).trans rfl
  have a8 := (blk_cell h.1 8).trans rfl
  have HB : Aside0 (s.beg n = if s.left = 0 then 11 else if n < 1 ∨ s.hd.pages ≤ n then 21 else 0) := ⟨rfl⟩
  obtain ⟨lim, ⟨m, p, t, sp, r, ch⟩, f, lf⟩ := s
  dsimp only at a2 a8 hl HB
  clear h
  by_cases h0 : lf = 0
  · have t0 : (lf == 0) = true := by simp [h0]
    rw [if_pos h0] at HB
    clear h0
    go_enter Try.func47, Try.ntmps47
    go_wp2
    go_ret
    exact ⟨by rw [HB.out]; rfl, Below.refl _ _⟩
  · have t0 : (lf == 0) = false := by simp [h0]
    have t1 : decide (0 < lf) = false := decide_eq_false (by omega)
    rw [if_neg h0] at HB
    clear h0 hl
    by_cases h1 : n < 1
    · have t2 : decide (n < 1) = true := decide_eq_true h1
      rw [if_pos (Or.inl h1)] at HB
      go_enter Try.func47, Try.ntmps47
      go_wp2
      go_ret
      exact ⟨by rw [HB.out]; rfl, Below.refl _ _⟩
    · have t2 : decide (n < 1) = false := decide_eq_false h1
      by_cases h2 : p ≤ n
      · have t3 : decide (p ≤ n) = true := decide_eq_true h2
        rw [if_pos (Or.inr h2)] at HB
        go_enter Try.func47, Try.ntmps47
        go_wp2
        go_ret
        exact ⟨by rw [HB.out]; rfl, Below.refl _ _⟩
      · have t3 : decide (p ≤ n) = false := decide_eq_false h2
        rw [if_neg (by omega)] at HB
        go_enter Try.func47, Try.ntmps47
        go_wp2
        go_ret
        exact ⟨by rw [HB.out]; rfl, Below.refl _ _⟩
end Go.Proofs.Ytonbipaajhokfaa
