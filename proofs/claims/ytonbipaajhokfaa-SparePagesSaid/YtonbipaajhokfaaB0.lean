/-
  The heap words for objects that calls change: Fr (what a call leaves alone), a book of pages; the first place of something in a list.
-/
import Derived.Test.YtonbipaajhokfaaA5
set_option linter.unusedVariables false
set_option linter.unusedSimpArgs false
namespace Go.Proofs.Ytonbipaajhokfaa
open Go.RowKit Go.Proofs.YtonbipaajhokfaaW.PrintWords Go.Proofs.YtonbipaajhokfaaW.PrintLast Go.Proofs.YtonbipaajhokfaaW.PrintMore

/-- Of what was there, blocks of F alone may have changed. -/
structure Fr (F : Nat → Prop) (w w' : World) : Prop where
  os : w'.os = w.os
  tape : w'.tape = w.tape
  output : w'.output = w.output
  size : w.heap.size ≤ w'.heap.size
  block : ∀ k, k < w.heap.size → ¬ F k → w'.heap[k]? = w.heap[k]?
theorem Fr.refl (F : Nat → Prop) (w : World) : Fr F w w := ⟨rfl, rfl, rfl, Nat.le_refl _, fun _ _ _ => rfl⟩
theorem Fr.of_below {F : Nat → Prop} {w w' : World} (h : Below w.heap.size w w') : Fr F w w' := ⟨h.os, h.tape, h.output, h.size, fun k hk _ => h.block k hk⟩
theorem Fr.trans {F F' : Nat → Prop} {a b c : World} (h : Fr F a b) (k : Fr F' b c) (hF : ∀ i, i < a.heap.size → F' i → F i) : Fr F a c :=
  ⟨k.os.trans h.os, k.tape.trans h.tape, k.output.trans h.output, Nat.le_trans h.size k.size, fun i hi hn =>
    (k.block i (Nat.lt_of_lt_of_le hi h.size) (fun hf => hn (hF i hi hf))).trans (h.block i hi hn)⟩
theorem Fr.mono {F F' : Nat → Prop} {a b : World} (h : Fr F a b) (hF : ∀ i, i < a.heap.size → F i → F' i) : Fr F' a b :=
  ⟨h.os, h.tape, h.output, h.size, fun i hi hn => h.block i hi (fun hf => hn (hF i hi hf))⟩
theorem Fr.alloc {F : Nat → Prop} {a b : World} (h : Fr F a b) (o : Obj) : Fr F a (b.alloc o) :=
  h.trans (Fr.of_below (F := F) (below_alloc (Below.refl _ _) o)) (fun _ _ h => h)
theorem Fr.then_below {F : Nat → Prop} {a b c : World} (h : Fr F a b) (k : Below b.heap.size b c) : Fr F a c := h.trans (Fr.of_below (F := F) k) (fun _ _ h => h)
theorem Fr.setCell {F : Nat → Prop} {a b : World} (h : Fr F a b) {p : Addr} (hp : F p.block ∨ a.heap.size ≤ p.block) (u : Value) : Fr F a (b.setCell p u) :=
  ⟨h.os, h.tape, h.output, by simpa using h.size, fun k hk hn => (Below.heap_setCell b p u k (fun e => by rcases hp with hp | hp; exact hn (e ▸ hp); omega)).trans (h.block k hk hn)⟩
theorem Fr.grown {F : Nat → Prop} {a b c : World} {row : Option Nat} (h : Fr F a b) (hg : b.grownBy c row) (hr : ∀ k, row = some k → F k ∨ a.heap.size ≤ k) : Fr F a c :=
  ⟨hg.os.trans h.os, hg.tape.trans h.tape, hg.output.trans h.output, Nat.le_trans h.size hg.size, fun k hk hn =>
    (hg.block k (Nat.lt_of_lt_of_le hk h.size) (fun e => by rcases hr k e.symm with h1 | h1; exact hn h1; omega)).trans (h.block k hk hn)⟩
/-- Where F lies from B on, a call that changes F alone leaves all below B. -/
theorem Fr.below {F : Nat → Prop} {B : Nat} {w w' : World} (h : Fr F w w') (hF : ∀ k, F k → B ≤ k) (hB : B ≤ w.heap.size) : Below B w w' :=
  ⟨h.os, h.tape, h.output, h.size, fun k hk => h.block k (by omega) (fun hf => by have := hF k hf; omega)⟩
theorem Fr.blk {F : Nat → Prop} {w w' : World} {g : Nat} {o : Obj} (h : Fr F w w') (hb : w.heap[g]? = some o) (hn : ¬ F g) : w'.heap[g]? = some o :=
  (h.block g (blk_lt hb) hn).trans hb

/-! ### The first place -/
def firstAt (p : Int → Bool) : List Int → Int
  | [] => -1
  | x :: r => if p x then 0 else (if firstAt p r = -1 then -1 else firstAt p r + 1)
theorem firstAt_range (p : Int → Bool) (l : List Int) : -1 ≤ firstAt p l ∧ firstAt p l < l.length := by
  induction l with
  | nil => simp [firstAt]
  | cons x r ih => unfold firstAt; simp only [List.length_cons]; split <;> (try split) <;> omega
theorem firstAt_at {p : Int → Bool} {l : List Int} {k : Nat} (hk : k < l.length) (hb : ∀ j, j < k → p (l.getD j 0) = false) (h : p (l.getD k 0) = true) : firstAt p l = k := by
  induction l generalizing k with
  | nil => simp at hk
  | cons x r ih =>
    cases k with
    | zero => simp at h; simp [firstAt, h]
    | succ k =>
      have h0 := hb 0 (by omega)
      simp at h0
      have := ih (k := k) (by simpa using hk) (fun j hj => by have := hb (j + 1) (by omega); simpa using this) (by simpa using h)
      simp only [firstAt, h0, this]
      rw [if_neg (by decide), if_neg (by omega)]
      omega
theorem firstAt_no {p : Int → Bool} {l : List Int} (hb : ∀ j, j < l.length → p (l.getD j 0) = false) : firstAt p l = -1 := by
  induction l with
  | nil => rfl
  | cons x r ih =>
    have h0 := hb 0 (by simp)
    simp at h0
    have := ih (fun j hj => by have := hb (j + 1) (by simpa using hj); simpa using this)
    simp [firstAt, h0, this]
def eqB (n x : Int) : Bool := decide (x = n)
/-- Where a page stands among numbers, -1: nowhere. -/
def placeOf (N : List Int) (n : Int) : Int := firstAt (eqB n) N

/-! ### A book of pages -/
def BookAt (w : World) (F : Nat → Prop) (kb : Nat) (N : List Int) (D : List ByteArray) : Prop :=
  F kb ∧ (∀ k, F k → k < w.heap.size) ∧ N.length = D.length ∧ ∃ vN vD, w.heap[kb]? = some (.cells #[vN, vD] 43 (0, 0)) ∧
    (Kd.int .i64).R 3 w 0 F vN N ∧ Kd.string.R 9 w 0 F vD D
theorem BookAt.keep {w w' : World} {F : Nat → Prop} {kb : Nat} {N : List Int} {D : List ByteArray} (h : BookAt w F kb N D) (hk : ∀ k, F k → w'.heap[k]? = w.heap[k]?) (hs : w.heap.size ≤ w'.heap.size) : BookAt w' F kb N D := by
  obtain ⟨h1, h2, h3, vN, vD, h4, h5, h6⟩ := h
  exact ⟨h1, fun k hf => Nat.lt_of_lt_of_le (h2 k hf) hs, h3, vN, vD, (hk kb h1).trans h4, Kd.R_move h5 hk, Kd.R_move h6 hk⟩
theorem BookAt.below {w w' : World} {F : Nat → Prop} {kb : Nat} {N : List Int} {D : List ByteArray} (h : BookAt w F kb N D) (hb : Below w.heap.size w w') : BookAt w' F kb N D :=
  h.keep (fun k hk => hb.block k (h.2.1 k hk)) hb.size

def blankL : List UInt8 := List.replicate 232 0
def getB (N : List Int) (D : List ByteArray) (n : Int) : ByteArray := if placeOf N n < 0 then bs blankL else D.getD (placeOf N n).toNat ByteArray.empty
def putN (N : List Int) (n : Int) : List Int := if placeOf N n < 0 then N ++ [n] else N
def putD (N : List Int) (D : List ByteArray) (n : Int) (d : ByteArray) : List ByteArray := if placeOf N n < 0 then D ++ [d] else D.set (placeOf N n).toNat d

set_option maxHeartbeats 1000000 in
theorem place_calls (kb : Nat) (F : Nat → Prop) (N : List Int) (D : List ByteArray) (n : Int) (w : World) (h : BookAt w F kb N D) :
    Calls Try.prog 43 #[.pointer (some ⟨kb, 0, none⟩), .int .i64 n] w fun e w' => e = .returned (.int .i64 (placeOf N n)) ∧ w = w' := by
  obtain ⟨h1, h2, h3, vN, vD, h4, h5, h6⟩ := h
  obtain ⟨A, c, rfl⟩ := Kd.R_slice h5
  obtain ⟨_, hc, hC⟩ := Kd.R_reads' h5
  have hm := Kd.C_max hC
  have HC := Aside0.mk hC
  have hc0 := (blk_cell h4 0).trans rfl
  clear h1 h2 h3 h4 h5 h6 hC
  go_enter Try.func43, Try.ntmps43
  go_wp2
  go_loop [5] (fun i => ∃ k : Nat, k ≤ N.length ∧ i = .int .i64 k ∧ Aside0 (∀ j, j < k → eqB n (N.getD j 0) = false)) (fun i => N.length - (intOf i).toNat)
  case atStart => exact ⟨0, Nat.zero_le _, rfl, ⟨fun j hj => absurd hj (Nat.not_lt_zero j)⟩⟩
  case round =>
    obtain ⟨k, hk, rfl, hno⟩ := hrel
    by_cases hlt : k < N.length
    · obtain ⟨ad, e1, hx⟩ := Kd.at_int HC.out (k : Int) (by omega) (by omega)
      cases e1
      rw [show rd N (k : Int) = N.getD k 0 from rfl, Int.toNat_natCast] at hx
      obtain ⟨x, hxd⟩ : ∃ x, x = N.getD k 0 := ⟨_, rfl⟩
      rw [← hxd] at hx
      have HX := Aside0.mk hxd
      clear hxd
      by_cases hb : x = n
      · have HR := Aside0.mk (firstAt_at (p := eqB n) hlt hno.out (by rw [← HX.out]; simp [eqB, hb]))
        have ht : (x == n) = true := by simp [hb]
        clear hb
        go_wp2
        go_ret
        exact ⟨by unfold placeOf; rw [HR.out]; rfl, rfl⟩
      · have ht : (x == n) = false := by simp [hb]
        have HN := Aside0.mk hb
        clear hb
        go_wp2
        go_round
        case rel => exact ⟨k + 1, by omega, by go_num, ⟨fun j hj => by
          rcases Nat.lt_or_ge j k with h | h
          · exact hno.out j h
          · obtain rfl : j = k := by omega
            rw [← HX.out]; simp [eqB, HN.out]⟩⟩
        case measure => simp [intOf]; omega
    · have hke : k = N.length := by omega
      subst hke
      have HR := Aside0.mk (firstAt_no (p := eqB n) hno.out)
      go_wp2
      go_ret
      exact ⟨by unfold placeOf; rw [HR.out]; rfl, rfl⟩
end Go.Proofs.Ytonbipaajhokfaa
